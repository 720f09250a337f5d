import Derived.Test.YtcdjeimjbbknjaaDb4
namespace Go.Proofs.Ytcdjeimjbbknjaa.PAll
open Go.RowKit Go.Proofs.YtcdjeimjbbknjaaW.PrintWords Go.Proofs.YtcdjeimjbbknjaaW.PrintLast Go.Proofs.YtcdjeimjbbknjaaW.PrintMore
attribute [local go_sem] max2_int min2_int max_two min_two max_three min_three max_four min_four   -- for this text's walks alone
set_option linter.unusedVariables false
set_option linter.unusedSimpArgs false

mutual
def wordbookref15_Build.l0 : Nat → List (List Int) → List (S106) → Int → List (List Int) → List (List Int) → List (List Int) → List Bool → Option ((List (List Int)) × (List (List Int)) × (List (List Int)) × List Bool × Int)
  | 0, _, _, _, _, _, _, _ => none
  | k + 1, x0, x6, x7, x104000, x104001, x104002, x104003 => if x7 < (x6.length : Int) then (if 0 ≤ x7 then (if ((rd_T106 x6 x7).f0) < ((rd_T106 x6 x7).f1) then (if 0 ≤ ((rd_T106 x6 x7).f0) then (if ((rd_T106 x6 x7).f0) < (x0.length : Int) then (wordbookref15_Build.j1 k x0 x6 x7 ((rd_T106 x6 x7).f0) (((rd_L2 x0 ((rd_T106 x6 x7).f0)).length : Int) == ((rd_T106 x6 x7).f2)) x104000 x104001 x104002 x104003 ((rd_T106 x6 x7).f0) ((rd_T106 x6 x7).f1) ((rd_T106 x6 x7).f2)) else (none)) else (none)) else (wordbookref15_Build.j1 k x0 x6 x7 ((rd_T106 x6 x7).f0) false x104000 x104001 x104002 x104003 ((rd_T106 x6 x7).f0) ((rd_T106 x6 x7).f1) ((rd_T106 x6 x7).f2))) else (none)) else (some (x104000, x104001, x104002, x104003, 0))
def wordbookref15_Build.j1 : Nat → List (List Int) → List (S106) → Int → Int → Bool → List (List Int) → List (List Int) → List (List Int) → List Bool → Int → Int → Int → Option ((List (List Int)) × (List (List Int)) × (List (List Int)) × List Bool × Int)
  | 0, _, _, _, _, _, _, _, _, _, _, _, _ => none
  | k + 1, x0, x6, x7, x9, x10, x104000, x104001, x104002, x104003, x109000, x109001, x109002 => if x10 = true then (wordbookref15_Build.j2 k x0 x6 x7 (wrap64 (x9 + 1)) x10 x104000 x104001 x104002 x104003 x109000 x109001 x109002) else (wordbookref15_Build.j2 k x0 x6 x7 x9 x10 x104000 x104001 x104002 x104003 x109000 x109001 x109002)
def wordbookref15_Build.j2 : Nat → List (List Int) → List (S106) → Int → Int → Bool → List (List Int) → List (List Int) → List (List Int) → List Bool → Int → Int → Int → Option ((List (List Int)) × (List (List Int)) × (List (List Int)) × List Bool × Int)
  | 0, _, _, _, _, _, _, _, _, _, _, _, _ => none
  | k + 1, x0, x6, x7, x9, x10, x104000, x104001, x104002, x104003, x109000, x109001, x109002 => wordbookref15_Build.l1 k x0 x6 x7 x9 x10 ([] : List Int) ([] : List Int) x104000 x104001 x104002 x104003 x109000 x109001 x109002
def wordbookref15_Build.l1 : Nat → List (List Int) → List (S106) → Int → Int → Bool → List Int → List Int → List (List Int) → List (List Int) → List (List Int) → List Bool → Int → Int → Int → Option ((List (List Int)) × (List (List Int)) × (List (List Int)) × List Bool × Int)
  | 0, _, _, _, _, _, _, _, _, _, _, _, _, _, _ => none
  | k + 1, x0, x6, x7, x9, x10, x11, x12, x104000, x104001, x104002, x104003, x109000, x109001, x109002 => if x9 < x109001 then (wordbookref15_Build.l2 k x0 x6 x7 x9 x10 x11 x12 x9 x104000 x104001 x104002 x104003 x109000 x109001 x109002) else (if x104001.length < 5864062014805 then (if x104002.length < 5864062014805 then (if x104003.length < 140737488355328 then (wordbookref15_Build.l0 k x0 x6 (wrap64 (x7 + 1)) x104000 (x104001 ++ [x11]) (x104002 ++ [x12]) (x104003 ++ [x10])) else (none)) else (none)) else (none))
def wordbookref15_Build.l2 : Nat → List (List Int) → List (S106) → Int → Int → Bool → List Int → List Int → Int → List (List Int) → List (List Int) → List (List Int) → List Bool → Int → Int → Int → Option ((List (List Int)) × (List (List Int)) × (List (List Int)) × List Bool × Int)
  | 0, _, _, _, _, _, _, _, _, _, _, _, _, _, _, _ => none
  | k + 1, x0, x6, x7, x9, x10, x11, x12, x13, x104000, x104001, x104002, x104003, x109000, x109001, x109002 => if x13 < x109001 then (if 0 ≤ x13 then (if x13 < (x0.length : Int) then (if 0 ≤ x109002 then (if x109002 < ((rd_L2 x0 x13).length : Int) then (if 0 ≤ x9 then (if x9 < (x0.length : Int) then (if x109002 < ((rd_L2 x0 x9).length : Int) then (wordbookref15_Build.j5 k x0 x6 x7 x9 x10 x11 x12 x13 ((rd (rd_L2 x0 x13) x109002) == (rd (rd_L2 x0 x9) x109002)) x104000 x104001 x104002 x104003 x109000 x109001 x109002) else (none)) else (none)) else (none)) else (none)) else (none)) else (none)) else (none)) else (wordbookref15_Build.j5 k x0 x6 x7 x9 x10 x11 x12 x13 false x104000 x104001 x104002 x104003 x109000 x109001 x109002)
def wordbookref15_Build.j5 : Nat → List (List Int) → List (S106) → Int → Int → Bool → List Int → List Int → Int → Bool → List (List Int) → List (List Int) → List (List Int) → List Bool → Int → Int → Int → Option ((List (List Int)) × (List (List Int)) × (List (List Int)) × List Bool × Int)
  | 0, _, _, _, _, _, _, _, _, _, _, _, _, _, _, _, _ => none
  | k + 1, x0, x6, x7, x9, x10, x11, x12, x13, x84, x104000, x104001, x104002, x104003, x109000, x109001, x109002 => if x84 = true then (wordbookref15_Build.l2 k x0 x6 x7 x9 x10 x11 x12 (wrap64 (x13 + 1)) x104000 x104001 x104002 x104003 x109000 x109001 x109002) else (wordbookref15_Build.l3 k x0 x6 x7 x9 x10 x11 x12 x13 0 x104000 x104001 x104002 x104003 x109000 x109001 x109002 x9 x13 (wrap64 (x109002 + 1)))
def wordbookref15_Build.l3 : Nat → List (List Int) → List (S106) → Int → Int → Bool → List Int → List Int → Int → Int → List (List Int) → List (List Int) → List (List Int) → List Bool → Int → Int → Int → Int → Int → Int → Option ((List (List Int)) × (List (List Int)) × (List (List Int)) × List Bool × Int)
  | 0, _, _, _, _, _, _, _, _, _, _, _, _, _, _, _, _, _, _, _ => none
  | k + 1, x0, x6, x7, x9, x10, x11, x12, x13, x15, x104000, x104001, x104002, x104003, x109000, x109001, x109002, x124000, x124001, x124002 => if x15 < (x6.length : Int) then (if 0 ≤ x15 then ((wordbookref15_same.f x0 ((rd_T106 x6 x15).f0) ((rd_T106 x6 x15).f1) ((rd_T106 x6 x15).f2) x124000 x124001 x124002).bind fun t125 => (wordbookref15_Build.j7 k x0 x6 x7 x9 x10 x11 x12 x13 x15 (!t125) x104000 x104001 x104002 x104003 x109000 x109001 x109002 x124000 x124001 x124002)) else (none)) else (wordbookref15_Build.j7 k x0 x6 x7 x9 x10 x11 x12 x13 x15 false x104000 x104001 x104002 x104003 x109000 x109001 x109002 x124000 x124001 x124002)
def wordbookref15_Build.j7 : Nat → List (List Int) → List (S106) → Int → Int → Bool → List Int → List Int → Int → Int → Bool → List (List Int) → List (List Int) → List (List Int) → List Bool → Int → Int → Int → Int → Int → Int → Option ((List (List Int)) × (List (List Int)) × (List (List Int)) × List Bool × Int)
  | 0, _, _, _, _, _, _, _, _, _, _, _, _, _, _, _, _, _, _, _, _ => none
  | k + 1, x0, x6, x7, x9, x10, x11, x12, x13, x15, x106, x104000, x104001, x104002, x104003, x109000, x109001, x109002, x124000, x124001, x124002 => if x106 = true then (wordbookref15_Build.l3 k x0 x6 x7 x9 x10 x11 x12 x13 (wrap64 (x15 + 1)) x104000 x104001 x104002 x104003 x109000 x109001 x109002 x124000 x124001 x124002) else (if x15 = (x6.length : Int) then (if x6.length < 5864062014805 then (if 0 ≤ x9 then (if x9 < (x0.length : Int) then (if 0 ≤ x109002 then (if x109002 < ((rd_L2 x0 x9).length : Int) then (if x11.length < 17592186044416 then (if x12.length < 17592186044416 then (wordbookref15_Build.l1 k x0 (x6 ++ [(⟨x124000, x124001, x124002⟩ : S106)]) x7 x13 x10 (x11 ++ [rd (rd_L2 x0 x9) x109002]) (x12 ++ [x15]) x104000 x104001 x104002 x104003 x109000 x109001 x109002) else (none)) else (none)) else (none)) else (none)) else (none)) else (none)) else (none)) else (if 0 ≤ x9 then (if x9 < (x0.length : Int) then (if 0 ≤ x109002 then (if x109002 < ((rd_L2 x0 x9).length : Int) then (if x11.length < 17592186044416 then (if x12.length < 17592186044416 then (wordbookref15_Build.l1 k x0 x6 x7 x13 x10 (x11 ++ [rd (rd_L2 x0 x9) x109002]) (x12 ++ [x15]) x104000 x104001 x104002 x104003 x109000 x109001 x109002) else (none)) else (none)) else (none)) else (none)) else (none)) else (none)))
end
def wordbookref15_Build.f (k : Nat) (l0 : List (List Int)) : Option ((List (List Int)) × (List (List Int)) × (List (List Int)) × List Bool × Int) := (wordbookref15_Errors.f k l0).bind fun t102 => (if t102 = 0 then (wordbookref15_Build.l0 k l0 (([(⟨0, (l0.length : Int), 0⟩ : S106)] : List (S106))) 0 l0 ([] : List (List Int)) ([] : List (List Int)) ([] : List Bool)) else (some (([] : List (List Int)), ([] : List (List Int)), ([] : List (List Int)), ([] : List Bool), t102)))
theorem wordbookref15_Build.mono_l : ∀ k, (∀ y0 y1 y2 y3 y4 y5 y6, LeO (wordbookref15_Build.l0 k y0 y1 y2 y3 y4 y5 y6) (wordbookref15_Build.l0 (k + 1) y0 y1 y2 y3 y4 y5 y6)) ∧ (∀ y0 y1 y2 y3 y4 y5 y6 y7 y8 y9 y10 y11, LeO (wordbookref15_Build.j1 k y0 y1 y2 y3 y4 y5 y6 y7 y8 y9 y10 y11) (wordbookref15_Build.j1 (k + 1) y0 y1 y2 y3 y4 y5 y6 y7 y8 y9 y10 y11)) ∧ (∀ y0 y1 y2 y3 y4 y5 y6 y7 y8 y9 y10 y11, LeO (wordbookref15_Build.j2 k y0 y1 y2 y3 y4 y5 y6 y7 y8 y9 y10 y11) (wordbookref15_Build.j2 (k + 1) y0 y1 y2 y3 y4 y5 y6 y7 y8 y9 y10 y11)) ∧ (∀ y0 y1 y2 y3 y4 y5 y6 y7 y8 y9 y10 y11 y12 y13, LeO (wordbookref15_Build.l1 k y0 y1 y2 y3 y4 y5 y6 y7 y8 y9 y10 y11 y12 y13) (wordbookref15_Build.l1 (k + 1) y0 y1 y2 y3 y4 y5 y6 y7 y8 y9 y10 y11 y12 y13)) ∧ (∀ y0 y1 y2 y3 y4 y5 y6 y7 y8 y9 y10 y11 y12 y13 y14, LeO (wordbookref15_Build.l2 k y0 y1 y2 y3 y4 y5 y6 y7 y8 y9 y10 y11 y12 y13 y14) (wordbookref15_Build.l2 (k + 1) y0 y1 y2 y3 y4 y5 y6 y7 y8 y9 y10 y11 y12 y13 y14)) ∧ (∀ y0 y1 y2 y3 y4 y5 y6 y7 y8 y9 y10 y11 y12 y13 y14 y15, LeO (wordbookref15_Build.j5 k y0 y1 y2 y3 y4 y5 y6 y7 y8 y9 y10 y11 y12 y13 y14 y15) (wordbookref15_Build.j5 (k + 1) y0 y1 y2 y3 y4 y5 y6 y7 y8 y9 y10 y11 y12 y13 y14 y15)) ∧ (∀ y0 y1 y2 y3 y4 y5 y6 y7 y8 y9 y10 y11 y12 y13 y14 y15 y16 y17 y18, LeO (wordbookref15_Build.l3 k y0 y1 y2 y3 y4 y5 y6 y7 y8 y9 y10 y11 y12 y13 y14 y15 y16 y17 y18) (wordbookref15_Build.l3 (k + 1) y0 y1 y2 y3 y4 y5 y6 y7 y8 y9 y10 y11 y12 y13 y14 y15 y16 y17 y18)) ∧ (∀ y0 y1 y2 y3 y4 y5 y6 y7 y8 y9 y10 y11 y12 y13 y14 y15 y16 y17 y18 y19, LeO (wordbookref15_Build.j7 k y0 y1 y2 y3 y4 y5 y6 y7 y8 y9 y10 y11 y12 y13 y14 y15 y16 y17 y18 y19) (wordbookref15_Build.j7 (k + 1) y0 y1 y2 y3 y4 y5 y6 y7 y8 y9 y10 y11 y12 y13 y14 y15 y16 y17 y18 y19))
  | 0 => ⟨fun _ _ _ _ _ _ _ r h => by simp [wordbookref15_Build.l0] at h, fun _ _ _ _ _ _ _ _ _ _ _ _ r h => by simp [wordbookref15_Build.j1] at h, fun _ _ _ _ _ _ _ _ _ _ _ _ r h => by simp [wordbookref15_Build.j2] at h, fun _ _ _ _ _ _ _ _ _ _ _ _ _ _ r h => by simp [wordbookref15_Build.l1] at h, fun _ _ _ _ _ _ _ _ _ _ _ _ _ _ _ r h => by simp [wordbookref15_Build.l2] at h, fun _ _ _ _ _ _ _ _ _ _ _ _ _ _ _ _ r h => by simp [wordbookref15_Build.j5] at h, fun _ _ _ _ _ _ _ _ _ _ _ _ _ _ _ _ _ _ _ r h => by simp [wordbookref15_Build.l3] at h, fun _ _ _ _ _ _ _ _ _ _ _ _ _ _ _ _ _ _ _ _ r h => by simp [wordbookref15_Build.j7] at h⟩
  | k + 1 => by
    obtain ⟨ih0, ih1, ih2, ih3, ih4, ih5, ih6, ih7⟩ := wordbookref15_Build.mono_l k
    refine ⟨?_, ?_, ?_, ?_, ?_, ?_, ?_, ?_⟩
    · intro y0 y1 y2 y3 y4 y5 y6
      unfold wordbookref15_Build.l0
      repeat' first
      | (with_reducible exact ih0 _ _ _ _ _ _ _)
      | (with_reducible exact ih1 _ _ _ _ _ _ _ _ _ _ _ _)
      | (with_reducible exact ih2 _ _ _ _ _ _ _ _ _ _ _ _)
      | (with_reducible exact ih3 _ _ _ _ _ _ _ _ _ _ _ _ _ _)
      | (with_reducible exact ih4 _ _ _ _ _ _ _ _ _ _ _ _ _ _ _)
      | (with_reducible exact ih5 _ _ _ _ _ _ _ _ _ _ _ _ _ _ _ _)
      | (with_reducible exact ih6 _ _ _ _ _ _ _ _ _ _ _ _ _ _ _ _ _ _ _)
      | (with_reducible exact ih7 _ _ _ _ _ _ _ _ _ _ _ _ _ _ _ _ _ _ _ _)
      | (with_reducible exact wordbookref15_Errors.mono _ _)
      | (with_reducible exact LeO.refl _)
      | (with_reducible exact LeO.none _)
      | (with_reducible refine LeO.ite ?_ ?_)
      | (with_reducible refine LeO.bind ?_ (fun _ => ?_))
      | exact ih0 _ _ _ _ _ _ _
      | exact ih1 _ _ _ _ _ _ _ _ _ _ _ _
      | exact ih2 _ _ _ _ _ _ _ _ _ _ _ _
      | exact ih3 _ _ _ _ _ _ _ _ _ _ _ _ _ _
      | exact ih4 _ _ _ _ _ _ _ _ _ _ _ _ _ _ _
      | exact ih5 _ _ _ _ _ _ _ _ _ _ _ _ _ _ _ _
      | exact ih6 _ _ _ _ _ _ _ _ _ _ _ _ _ _ _ _ _ _ _
      | exact ih7 _ _ _ _ _ _ _ _ _ _ _ _ _ _ _ _ _ _ _ _
      | exact wordbookref15_Errors.mono _ _
      | exact LeO.none _
      | refine LeO.ite ?_ ?_
      | refine LeO.bind ?_ (fun _ => ?_)
    · intro y0 y1 y2 y3 y4 y5 y6 y7 y8 y9 y10 y11
      unfold wordbookref15_Build.j1
      repeat' first
      | (with_reducible exact ih0 _ _ _ _ _ _ _)
      | (with_reducible exact ih1 _ _ _ _ _ _ _ _ _ _ _ _)
      | (with_reducible exact ih2 _ _ _ _ _ _ _ _ _ _ _ _)
      | (with_reducible exact ih3 _ _ _ _ _ _ _ _ _ _ _ _ _ _)
      | (with_reducible exact ih4 _ _ _ _ _ _ _ _ _ _ _ _ _ _ _)
      | (with_reducible exact ih5 _ _ _ _ _ _ _ _ _ _ _ _ _ _ _ _)
      | (with_reducible exact ih6 _ _ _ _ _ _ _ _ _ _ _ _ _ _ _ _ _ _ _)
      | (with_reducible exact ih7 _ _ _ _ _ _ _ _ _ _ _ _ _ _ _ _ _ _ _ _)
      | (with_reducible exact wordbookref15_Errors.mono _ _)
      | (with_reducible exact LeO.refl _)
      | (with_reducible exact LeO.none _)
      | (with_reducible refine LeO.ite ?_ ?_)
      | (with_reducible refine LeO.bind ?_ (fun _ => ?_))
      | exact ih0 _ _ _ _ _ _ _
      | exact ih1 _ _ _ _ _ _ _ _ _ _ _ _
      | exact ih2 _ _ _ _ _ _ _ _ _ _ _ _
      | exact ih3 _ _ _ _ _ _ _ _ _ _ _ _ _ _
      | exact ih4 _ _ _ _ _ _ _ _ _ _ _ _ _ _ _
      | exact ih5 _ _ _ _ _ _ _ _ _ _ _ _ _ _ _ _
      | exact ih6 _ _ _ _ _ _ _ _ _ _ _ _ _ _ _ _ _ _ _
      | exact ih7 _ _ _ _ _ _ _ _ _ _ _ _ _ _ _ _ _ _ _ _
      | exact wordbookref15_Errors.mono _ _
      | exact LeO.none _
      | refine LeO.ite ?_ ?_
      | refine LeO.bind ?_ (fun _ => ?_)
    · intro y0 y1 y2 y3 y4 y5 y6 y7 y8 y9 y10 y11
      unfold wordbookref15_Build.j2
      repeat' first
      | (with_reducible exact ih0 _ _ _ _ _ _ _)
      | (with_reducible exact ih1 _ _ _ _ _ _ _ _ _ _ _ _)
      | (with_reducible exact ih2 _ _ _ _ _ _ _ _ _ _ _ _)
      | (with_reducible exact ih3 _ _ _ _ _ _ _ _ _ _ _ _ _ _)
      | (with_reducible exact ih4 _ _ _ _ _ _ _ _ _ _ _ _ _ _ _)
      | (with_reducible exact ih5 _ _ _ _ _ _ _ _ _ _ _ _ _ _ _ _)
      | (with_reducible exact ih6 _ _ _ _ _ _ _ _ _ _ _ _ _ _ _ _ _ _ _)
      | (with_reducible exact ih7 _ _ _ _ _ _ _ _ _ _ _ _ _ _ _ _ _ _ _ _)
      | (with_reducible exact wordbookref15_Errors.mono _ _)
      | (with_reducible exact LeO.refl _)
      | (with_reducible exact LeO.none _)
      | (with_reducible refine LeO.ite ?_ ?_)
      | (with_reducible refine LeO.bind ?_ (fun _ => ?_))
      | exact ih0 _ _ _ _ _ _ _
      | exact ih1 _ _ _ _ _ _ _ _ _ _ _ _
      | exact ih2 _ _ _ _ _ _ _ _ _ _ _ _
      | exact ih3 _ _ _ _ _ _ _ _ _ _ _ _ _ _
      | exact ih4 _ _ _ _ _ _ _ _ _ _ _ _ _ _ _
      | exact ih5 _ _ _ _ _ _ _ _ _ _ _ _ _ _ _ _
      | exact ih6 _ _ _ _ _ _ _ _ _ _ _ _ _ _ _ _ _ _ _
      | exact ih7 _ _ _ _ _ _ _ _ _ _ _ _ _ _ _ _ _ _ _ _
      | exact wordbookref15_Errors.mono _ _
      | exact LeO.none _
      | refine LeO.ite ?_ ?_
      | refine LeO.bind ?_ (fun _ => ?_)
    · intro y0 y1 y2 y3 y4 y5 y6 y7 y8 y9 y10 y11 y12 y13
      unfold wordbookref15_Build.l1
      repeat' first
      | (with_reducible exact ih0 _ _ _ _ _ _ _)
      | (with_reducible exact ih1 _ _ _ _ _ _ _ _ _ _ _ _)
      | (with_reducible exact ih2 _ _ _ _ _ _ _ _ _ _ _ _)
      | (with_reducible exact ih3 _ _ _ _ _ _ _ _ _ _ _ _ _ _)
      | (with_reducible exact ih4 _ _ _ _ _ _ _ _ _ _ _ _ _ _ _)
      | (with_reducible exact ih5 _ _ _ _ _ _ _ _ _ _ _ _ _ _ _ _)
      | (with_reducible exact ih6 _ _ _ _ _ _ _ _ _ _ _ _ _ _ _ _ _ _ _)
      | (with_reducible exact ih7 _ _ _ _ _ _ _ _ _ _ _ _ _ _ _ _ _ _ _ _)
      | (with_reducible exact wordbookref15_Errors.mono _ _)
      | (with_reducible exact LeO.refl _)
      | (with_reducible exact LeO.none _)
      | (with_reducible refine LeO.ite ?_ ?_)
      | (with_reducible refine LeO.bind ?_ (fun _ => ?_))
      | exact ih0 _ _ _ _ _ _ _
      | exact ih1 _ _ _ _ _ _ _ _ _ _ _ _
      | exact ih2 _ _ _ _ _ _ _ _ _ _ _ _
      | exact ih3 _ _ _ _ _ _ _ _ _ _ _ _ _ _
      | exact ih4 _ _ _ _ _ _ _ _ _ _ _ _ _ _ _
      | exact ih5 _ _ _ _ _ _ _ _ _ _ _ _ _ _ _ _
      | exact ih6 _ _ _ _ _ _ _ _ _ _ _ _ _ _ _ _ _ _ _
      | exact ih7 _ _ _ _ _ _ _ _ _ _ _ _ _ _ _ _ _ _ _ _
      | exact wordbookref15_Errors.mono _ _
      | exact LeO.none _
      | refine LeO.ite ?_ ?_
      | refine LeO.bind ?_ (fun _ => ?_)
    · intro y0 y1 y2 y3 y4 y5 y6 y7 y8 y9 y10 y11 y12 y13 y14
      unfold wordbookref15_Build.l2
      repeat' first
      | (with_reducible exact ih0 _ _ _ _ _ _ _)
      | (with_reducible exact ih1 _ _ _ _ _ _ _ _ _ _ _ _)
      | (with_reducible exact ih2 _ _ _ _ _ _ _ _ _ _ _ _)
      | (with_reducible exact ih3 _ _ _ _ _ _ _ _ _ _ _ _ _ _)
      | (with_reducible exact ih4 _ _ _ _ _ _ _ _ _ _ _ _ _ _ _)
      | (with_reducible exact ih5 _ _ _ _ _ _ _ _ _ _ _ _ _ _ _ _)
      | (with_reducible exact ih6 _ _ _ _ _ _ _ _ _ _ _ _ _ _ _ _ _ _ _)
      | (with_reducible exact ih7 _ _ _ _ _ _ _ _ _ _ _ _ _ _ _ _ _ _ _ _)
      | (with_reducible exact wordbookref15_Errors.mono _ _)
      | (with_reducible exact LeO.refl _)
      | (with_reducible exact LeO.none _)
      | (with_reducible refine LeO.ite ?_ ?_)
      | (with_reducible refine LeO.bind ?_ (fun _ => ?_))
      | exact ih0 _ _ _ _ _ _ _
      | exact ih1 _ _ _ _ _ _ _ _ _ _ _ _
      | exact ih2 _ _ _ _ _ _ _ _ _ _ _ _
      | exact ih3 _ _ _ _ _ _ _ _ _ _ _ _ _ _
      | exact ih4 _ _ _ _ _ _ _ _ _ _ _ _ _ _ _
      | exact ih5 _ _ _ _ _ _ _ _ _ _ _ _ _ _ _ _
      | exact ih6 _ _ _ _ _ _ _ _ _ _ _ _ _ _ _ _ _ _ _
      | exact ih7 _ _ _ _ _ _ _ _ _ _ _ _ _ _ _ _ _ _ _ _
      | exact wordbookref15_Errors.mono _ _
      | exact LeO.none _
      | refine LeO.ite ?_ ?_
      | refine LeO.bind ?_ (fun _ => ?_)
    · intro y0 y1 y2 y3 y4 y5 y6 y7 y8 y9 y10 y11 y12 y13 y14 y15
      unfold wordbookref15_Build.j5
      repeat' first
      | (with_reducible exact ih0 _ _ _ _ _ _ _)
      | (with_reducible exact ih1 _ _ _ _ _ _ _ _ _ _ _ _)
      | (with_reducible exact ih2 _ _ _ _ _ _ _ _ _ _ _ _)
      | (with_reducible exact ih3 _ _ _ _ _ _ _ _ _ _ _ _ _ _)
      | (with_reducible exact ih4 _ _ _ _ _ _ _ _ _ _ _ _ _ _ _)
      | (with_reducible exact ih5 _ _ _ _ _ _ _ _ _ _ _ _ _ _ _ _)
      | (with_reducible exact ih6 _ _ _ _ _ _ _ _ _ _ _ _ _ _ _ _ _ _ _)
      | (with_reducible exact ih7 _ _ _ _ _ _ _ _ _ _ _ _ _ _ _ _ _ _ _ _)
      | (with_reducible exact wordbookref15_Errors.mono _ _)
      | (with_reducible exact LeO.refl _)
      | (with_reducible exact LeO.none _)
      | (with_reducible refine LeO.ite ?_ ?_)
      | (with_reducible refine LeO.bind ?_ (fun _ => ?_))
      | exact ih0 _ _ _ _ _ _ _
      | exact ih1 _ _ _ _ _ _ _ _ _ _ _ _
      | exact ih2 _ _ _ _ _ _ _ _ _ _ _ _
      | exact ih3 _ _ _ _ _ _ _ _ _ _ _ _ _ _
      | exact ih4 _ _ _ _ _ _ _ _ _ _ _ _ _ _ _
      | exact ih5 _ _ _ _ _ _ _ _ _ _ _ _ _ _ _ _
      | exact ih6 _ _ _ _ _ _ _ _ _ _ _ _ _ _ _ _ _ _ _
      | exact ih7 _ _ _ _ _ _ _ _ _ _ _ _ _ _ _ _ _ _ _ _
      | exact wordbookref15_Errors.mono _ _
      | exact LeO.none _
      | refine LeO.ite ?_ ?_
      | refine LeO.bind ?_ (fun _ => ?_)
    · intro y0 y1 y2 y3 y4 y5 y6 y7 y8 y9 y10 y11 y12 y13 y14 y15 y16 y17 y18
      unfold wordbookref15_Build.l3
      repeat' first
      | (with_reducible exact ih0 _ _ _ _ _ _ _)
      | (with_reducible exact ih1 _ _ _ _ _ _ _ _ _ _ _ _)
      | (with_reducible exact ih2 _ _ _ _ _ _ _ _ _ _ _ _)
      | (with_reducible exact ih3 _ _ _ _ _ _ _ _ _ _ _ _ _ _)
      | (with_reducible exact ih4 _ _ _ _ _ _ _ _ _ _ _ _ _ _ _)
      | (with_reducible exact ih5 _ _ _ _ _ _ _ _ _ _ _ _ _ _ _ _)
      | (with_reducible exact ih6 _ _ _ _ _ _ _ _ _ _ _ _ _ _ _ _ _ _ _)
      | (with_reducible exact ih7 _ _ _ _ _ _ _ _ _ _ _ _ _ _ _ _ _ _ _ _)
      | (with_reducible exact wordbookref15_Errors.mono _ _)
      | (with_reducible exact LeO.refl _)
      | (with_reducible exact LeO.none _)
      | (with_reducible refine LeO.ite ?_ ?_)
      | (with_reducible refine LeO.bind ?_ (fun _ => ?_))
      | exact ih0 _ _ _ _ _ _ _
      | exact ih1 _ _ _ _ _ _ _ _ _ _ _ _
      | exact ih2 _ _ _ _ _ _ _ _ _ _ _ _
      | exact ih3 _ _ _ _ _ _ _ _ _ _ _ _ _ _
      | exact ih4 _ _ _ _ _ _ _ _ _ _ _ _ _ _ _
      | exact ih5 _ _ _ _ _ _ _ _ _ _ _ _ _ _ _ _
      | exact ih6 _ _ _ _ _ _ _ _ _ _ _ _ _ _ _ _ _ _ _
      | exact ih7 _ _ _ _ _ _ _ _ _ _ _ _ _ _ _ _ _ _ _ _
      | exact wordbookref15_Errors.mono _ _
      | exact LeO.none _
      | refine LeO.ite ?_ ?_
      | refine LeO.bind ?_ (fun _ => ?_)
    · intro y0 y1 y2 y3 y4 y5 y6 y7 y8 y9 y10 y11 y12 y13 y14 y15 y16 y17 y18 y19
      unfold wordbookref15_Build.j7
      repeat' first
      | (with_reducible exact ih0 _ _ _ _ _ _ _)
      | (with_reducible exact ih1 _ _ _ _ _ _ _ _ _ _ _ _)
      | (with_reducible exact ih2 _ _ _ _ _ _ _ _ _ _ _ _)
      | (with_reducible exact ih3 _ _ _ _ _ _ _ _ _ _ _ _ _ _)
      | (with_reducible exact ih4 _ _ _ _ _ _ _ _ _ _ _ _ _ _ _)
      | (with_reducible exact ih5 _ _ _ _ _ _ _ _ _ _ _ _ _ _ _ _)
      | (with_reducible exact ih6 _ _ _ _ _ _ _ _ _ _ _ _ _ _ _ _ _ _ _)
      | (with_reducible exact ih7 _ _ _ _ _ _ _ _ _ _ _ _ _ _ _ _ _ _ _ _)
      | (with_reducible exact wordbookref15_Errors.mono _ _)
      | (with_reducible exact LeO.refl _)
      | (with_reducible exact LeO.none _)
      | (with_reducible refine LeO.ite ?_ ?_)
      | (with_reducible refine LeO.bind ?_ (fun _ => ?_))
      | exact ih0 _ _ _ _ _ _ _
      | exact ih1 _ _ _ _ _ _ _ _ _ _ _ _
      | exact ih2 _ _ _ _ _ _ _ _ _ _ _ _
      | exact ih3 _ _ _ _ _ _ _ _ _ _ _ _ _ _
      | exact ih4 _ _ _ _ _ _ _ _ _ _ _ _ _ _ _
      | exact ih5 _ _ _ _ _ _ _ _ _ _ _ _ _ _ _ _
      | exact ih6 _ _ _ _ _ _ _ _ _ _ _ _ _ _ _ _ _ _ _
      | exact ih7 _ _ _ _ _ _ _ _ _ _ _ _ _ _ _ _ _ _ _ _
      | exact wordbookref15_Errors.mono _ _
      | exact LeO.none _
      | refine LeO.ite ?_ ?_
      | refine LeO.bind ?_ (fun _ => ?_)
def wordbookref15_Build.T11 : Bool × List (List Nat × List Nat) := (true, [([], []), ([], []), ([1], [1]), ([0, 2], [0, 2]), ([3], [3]), ([4], [4]), ([4], [4]), ([5, 6, 4], [4, 5, 6]), ([7, 4], [4, 7]), ([8, 4], [4, 8]), ([4], [4]), ([10, 4], [4, 10]), ([9, 11, 4], [4, 9, 11]), ([4, 12], [4, 12]), ([13, 4, 0, 1, 2, 3, 4, 5, 6, 7, 8, 9, 10, 11, 12, 13], [13])])
def wordbookref15_Build.B11 : List Nat := [0, 0, 2, 7, 15, 31, 31, 127, 255, 511, 31, 1055, 4095, 8191, 16383]
theorem wordbookref15_Build.tab11 : rtab .any (opsOf Try.f20 11) = wordbookref15_Build.T11 := by kernel_rfl
theorem wordbookref15_Build.bits11 : waitsOk wordbookref15_Build.T11.2 wordbookref15_Build.B11 = true := by kernel_rfl
def wordbookref15_Build.T18 : Bool × List (List Nat × List Nat) := (true, [([], []), ([], []), ([1], [1]), ([0, 2], [0, 2]), ([3], [3]), ([4], [4]), ([4], [4]), ([5, 6, 4], [4, 5, 6]), ([7, 4], [4, 7]), ([4], [4]), ([9, 4], [4, 9]), ([8, 10, 4], [4, 8, 10]), ([11, 4], [4, 11]), ([4], [4]), ([4], [4]), ([13, 14, 4], [4, 13, 14]), ([15, 4], [4, 15]), ([4], [4]), ([17, 4], [4, 17]), ([16, 18, 4], [4, 16, 18]), ([19, 4], [4, 19]), ([12, 20, 4], [4, 12, 20]), ([4, 21], [4, 21])])
def wordbookref15_Build.B18 : List Nat := [0, 0, 2, 7, 15, 31, 31, 127, 255, 31, 543, 2047, 4095, 31, 31, 24607, 57375, 31, 131103, 516127, 1040415, 2097151, 4194303]
theorem wordbookref15_Build.tab18 : rtab .any (opsOf Try.f20 18) = wordbookref15_Build.T18 := by kernel_rfl
theorem wordbookref15_Build.bits18 : waitsOk wordbookref15_Build.T18.2 wordbookref15_Build.B18 = true := by kernel_rfl
def wordbookref15_Build.T22 : Bool × List (List Nat × List Nat) := (true, [([], []), ([], []), ([1], [1]), ([0, 2], [0, 2]), ([3], [3]), ([4], [4]), ([4], [4]), ([4], [4]), ([6, 7, 4], [4, 6, 7]), ([8, 4], [4, 8]), ([4], [4]), ([5, 9, 10, 4, 4], [4, 5, 9, 10]), ([11, 4], [4, 11]), ([4, 12], [4, 12])])
def wordbookref15_Build.B22 : List Nat := [0, 0, 2, 7, 15, 31, 31, 31, 223, 479, 31, 2047, 4095, 8191]
theorem wordbookref15_Build.tab22 : rtab .any (opsOf Try.f20 22) = wordbookref15_Build.T22 := by kernel_rfl
theorem wordbookref15_Build.bits22 : waitsOk wordbookref15_Build.T22.2 wordbookref15_Build.B22 = true := by kernel_rfl
def wordbookref15_Build.T26 : Bool × List (List Nat × List Nat) := (true, [([], []), ([], []), ([], []), ([1, 2], [1, 2]), ([3], [3]), ([], []), ([5], [5]), ([4, 6], [4, 6]), ([7], [7]), ([8], [8]), ([0, 9], [0, 9]), ([10, 10, 0, 1, 2, 3, 4, 5, 6, 7, 8, 9, 10], [0, 10])])
def wordbookref15_Build.B26 : List Nat := [0, 0, 0, 6, 14, 0, 32, 126, 254, 510, 1023, 2047]
theorem wordbookref15_Build.tab26 : rtab .any (opsOf Try.f20 26) = wordbookref15_Build.T26 := by kernel_rfl
theorem wordbookref15_Build.bits26 : waitsOk wordbookref15_Build.T26.2 wordbookref15_Build.B26 = true := by kernel_rfl
end Go.Proofs.Ytcdjeimjbbknjaa.PAll
namespace Go.Proofs.Ytcdjeimjbbknjaa.PAll
open Go.RowKit Go.Proofs.YtcdjeimjbbknjaaW.PrintWords Go.Proofs.YtcdjeimjbbknjaaW.PrintLast Go.Proofs.YtcdjeimjbbknjaaW.PrintMore Go.Proofs.Ytcdjeimjbbknjaa.Res
set_option linter.unusedVariables false
set_option linter.unusedSimpArgs false

def resV (ws : List (List Int)) (p : S106) : List (List Int) := resP ws p.f0 p.f1 p.f2
def PsOk (ws : List (List Int)) (ps : List S106) : Prop := ∀ p ∈ ps, partOk ws p.f0 p.f1 p.f2 ∧ Srt (resV ws p)
def WsOk (ws : List (List Int)) : Prop := ws.length ≤ 1000000000 ∧ ∀ v ∈ ws, v.length ≤ 1000000000
theorem rdS_get {ps : List S106} {i : Nat} (h : i < ps.length) : rd_T106 ps (i : Int) = ps[i] := by
 rw [rd_T106, List.getD_eq_getElem?_getD, Int.toNat_natCast, List.getElem?_eq_getElem h, Option.getD_some]
theorem rdL_R : rd_L2 = rdR := rfl
theorem wrap_one {i : Nat} (h : i ≤ 1000000000) : wrap64 ((i : Int) + 1) = ((i + 1 : Nat) : Int) := by unfold wrap64; omega
theorem same_is {ws : List (List Int)} (hw : WsOk ws) {p : S106} (hp : partOk ws p.f0 p.f1 p.f2) {f t k : Int} (hn : partOk ws f t k) : wordbookref15_same.f ws p.f0 p.f1 p.f2 f t k = some (decide (resV ws p = resP ws f t k)) := by
 unfold wordbookref15_same.f
 rw [if_pos ⟨hp, hn, hw.1, hw.2⟩]; rfl
theorem b_l3 {ws : List (List Int)} (hw : WsOk ws) (ps : List S106) (hps : PsOk ws ps) (hpl : ps.length ≤ 1000000) {f t k : Int} (hn : partOk ws f t k) (x7 x9 : Int) (x10 : Bool) (x11 x12 : List Int) (x13 : Int) (a b c : List (List Int)) (d : List Bool) (p0 p1 p2 : Int) {r}
    (h : ∃ q, wordbookref15_Build.j7 q ws ps x7 x9 x10 x11 x12 x13 (((ps.map (resV ws)).idxOf (resP ws f t k) : Nat) : Int) false a b c d p0 p1 p2 f t k = some r) :
    ∀ (m i : Nat), i + m = (ps.map (resV ws)).idxOf (resP ws f t k) → ∃ q, wordbookref15_Build.l3 q ws ps x7 x9 x10 x11 x12 x13 (i : Int) a b c d p0 p1 p2 f t k = some r := by
 have hle := idx_le (resP ws f t k) (ps.map (resV ws))
 rw [List.length_map] at hle
 intro m
 induction m with
 | zero =>
  intro i hi
  obtain ⟨q, hq⟩ := h
  refine ⟨q + 1, ?_⟩
  rw [wordbookref15_Build.l3]
  rw [Nat.add_zero] at hi
  rw [← hi] at hq
  by_cases hlt : i < ps.length
  ·
   rw [if_pos (by omega), if_pos (by omega), rdS_get hlt, same_is hw (hps _ (List.getElem_mem hlt)).1 hn, Option.bind_some]
   have h2 := (idx_at (resP ws f t k) (ps.map (resV ws)) (by rw [List.length_map]; omega)).1
   rw [← hi, List.getElem?_map, List.getElem?_eq_getElem hlt, Option.map_some] at h2
   rw [decide_eq_true (Option.some.inj h2)]
   exact hq
  ·
   rw [if_neg (by omega)]
   exact hq
 | succ m ih =>
  intro i hi
  obtain ⟨q, hq⟩ := ih (i + 1) (by omega)
  refine ⟨q + 2, ?_⟩
  have hlt : i < ps.length := by omega
  rw [wordbookref15_Build.l3, if_pos (by omega), if_pos (by omega), rdS_get hlt, same_is hw (hps _ (List.getElem_mem hlt)).1 hn, Option.bind_some]
  have h2 := idx_far (resP ws f t k) (ps.map (resV ws)) i (by omega)
  rw [List.getElem?_map, List.getElem?_eq_getElem hlt, Option.map_some] at h2
  rw [decide_eq_false (fun e => h2 (by rw [e])), wordbookref15_Build.j7, if_pos (show (!false) = true from rfl), wrap_one (by omega)]
  exact hq
theorem b_l2 {ws : List (List Int)} (hw : WsOk ws) (ps : List S106) (f t k : Nat) (h0 : f < t) (ht : t ≤ ws.length) (hk : ∀ e, f ≤ e → e < t → k < (rdR ws (e : Int)).length) (x7 : Int) (x10 : Bool) (x11 x12 : List Int) (a b c : List (List Int)) (d : List Bool) (p0 : Int) {r}
    (h : ∃ q, wordbookref15_Build.l3 q ws ps x7 (f : Int) x10 x11 x12 ((endOf ws f t k : Nat) : Int) 0 a b c d p0 (t : Int) (k : Int) (f : Int) ((endOf ws f t k : Nat) : Int) ((k + 1 : Nat) : Int) = some r) :
    ∀ (m e : Nat), e + m = endOf ws f t k → f ≤ e → ∃ q, wordbookref15_Build.l2 q ws ps x7 (f : Int) x10 x11 x12 (e : Int) a b c d p0 (t : Int) (k : Int) = some r := by
 have hE := endOf_le ws f t k h0 ht
 have hkf := hk f (Nat.le_refl _) h0
 have hkl : k ≤ 1000000000 := by have := hw.2 _ (rdR_in (show f < ws.length by omega)); omega
 have hwl := hw.1
 intro m
 induction m with
 | zero =>
  intro e he hfe
  obtain ⟨q, hq⟩ := h
  refine ⟨q + 2, ?_⟩
  rw [Nat.add_zero] at he
  rw [wordbookref15_Build.l2, rdL_R]
  by_cases hlt : e < t
  ·
   have h1 := hk e hfe hlt
   have h2 := endOf_out ws f t k h0 ht (by omega)
   rw [← he] at h2
   rw [if_pos (by omega), if_pos (by omega), if_pos (by omega), if_pos (by omega), if_pos (show (k : Int) < ((rdR ws (e : Int)).length : Int) by omega), if_pos (by omega), if_pos (by omega), if_pos (show (k : Int) < ((rdR ws (f : Int)).length : Int) by omega)]
   rw [show (rd (rdR ws (e : Int)) (k : Int) == rd (rdR ws (f : Int)) (k : Int)) = false from beq_eq_false_iff_ne.2 h2, wordbookref15_Build.j5, if_neg (by decide), wrap_one hkl, he]
   exact hq
  ·
   rw [if_neg (by omega), wordbookref15_Build.j5, if_neg (by decide), wrap_one hkl, he]
   exact hq
 | succ m ih =>
  intro e he hfe
  obtain ⟨q, hq⟩ := ih (e + 1) (by omega) (by omega)
  refine ⟨q + 2, ?_⟩
  have hlt : e < t := by omega
  have h1 := hk e hfe hlt
  have h2 := endOf_in ws f t k e h0 ht hfe (by omega)
  rw [wordbookref15_Build.l2, rdL_R, if_pos (by omega), if_pos (by omega), if_pos (by omega), if_pos (by omega), if_pos (show (k : Int) < ((rdR ws (e : Int)).length : Int) by omega), if_pos (by omega), if_pos (by omega), if_pos (show (k : Int) < ((rdR ws (f : Int)).length : Int) by omega)]
  rw [show (rd (rdR ws (e : Int)) (k : Int) == rd (rdR ws (f : Int)) (k : Int)) = true from beq_iff_eq.2 h2, wordbookref15_Build.j5, if_pos rfl, wrap_one (by omega)]
  exact hq
theorem resP_long {ws : List (List Int)} {f t k : Nat} (ht : t ≤ ws.length) (hne : ∀ v ∈ resP ws f t k, v ≠ []) : ∀ e, f ≤ e → e < t → k < (rdR ws (e : Int)).length := by
 intro e h0 h1
 have hx := resP_at ws f t k (e - f) ht (by omega)
 rw [show f + (e - f) = e from by omega] at hx
 have := hne _ (List.mem_iff_getElem?.2 ⟨_, hx⟩)
 exact Nat.lt_of_not_le fun h => this (List.drop_eq_nil_of_le h)
theorem partOk_mk {ws : List (List Int)} {f t k : Nat} (h : f ≤ t) (ht : t ≤ ws.length) (hk : ∀ e, f ≤ e → e < t → k ≤ (rdR ws (e : Int)).length) : partOk ws (f : Int) (t : Int) (k : Int) := by
 refine ⟨by omega, by omega, by omega, by omega, fun v hv => ?_⟩
 simp only [Int.toNat_natCast] at hv
 obtain ⟨j, hj⟩ := List.mem_iff_getElem?.1 hv
 rw [List.getElem?_drop] at hj
 have hl := (List.getElem?_eq_some_iff.1 hj).1
 rw [List.length_take] at hl
 rw [List.getElem?_take_of_lt (by omega), List.getElem?_eq_getElem (by omega)] at hj
 have := hk (f + j) (by omega) (by omega)
 rw [rdR_nat, List.getD_eq_getElem?_getD, List.getElem?_eq_getElem (by omega), Option.getD_some, Option.some.inj hj] at this
 omega
theorem b_kids {ws : List (List Int)} (hw : WsOk ws) (t k : Nat) (ht : t ≤ ws.length) (i : Nat) (hi : i ≤ 1000000) (fin : Bool) (a b c : List (List Int)) (d : List Bool) (hb : b.length ≤ 1000000) (hc : c.length ≤ 1000000) (hd : d.length ≤ 1000000) (p0 : Int) {r} :
    ∀ (m f : Nat) (ps : List S106) (sy to_ : List Int), t - f ≤ m → f ≤ t → PsOk ws ps → Srt (resP ws f t k) → (∀ v ∈ resP ws f t k, v ≠ []) → sy.length + (t - f) ≤ 1000000000 → to_.length + (t - f) ≤ 1000000000 →
    (toR ((grps (t - f) (resP ws f t k)).map (·.2)) (ps.map (resV ws)) to_).1.length ≤ 1000000 →
    (∀ ps', PsOk ws ps' → ps'.map (resV ws) = (toR ((grps (t - f) (resP ws f t k)).map (·.2)) (ps.map (resV ws)) to_).1 →
      ∃ q, wordbookref15_Build.l0 q ws ps' ((i + 1 : Nat) : Int) a (b ++ [sy ++ (grps (t - f) (resP ws f t k)).map (·.1)]) (c ++ [(toR ((grps (t - f) (resP ws f t k)).map (·.2)) (ps.map (resV ws)) to_).2]) (d ++ [fin]) = some r) →
    ∃ q, wordbookref15_Build.l1 q ws ps (i : Int) (f : Int) fin sy to_ a b c d p0 (t : Int) (k : Int) = some r := by
 intro m
 induction m with
 | zero =>
  intro f ps sy to_ hm hf hps hs hne hsy hto hlen h
  obtain rfl : f = t := by omega
  rw [Nat.sub_self, resP_nil] at h
  obtain ⟨q, hq⟩ := h ps hps rfl
  refine ⟨q + 1, ?_⟩
  rw [wordbookref15_Build.l1, if_neg (by omega), if_pos (by omega), if_pos (by omega), if_pos (by omega), wrap_one (by omega)]
  simpa [grps, toR] using hq
 | succ m ih =>
  intro f ps sy to_ hm hf hps hs hne hsy hto hlen h
  rcases Nat.eq_or_lt_of_le hf with rfl | hlt
  ·
   rw [Nat.sub_self, resP_nil] at h
   obtain ⟨q, hq⟩ := h ps hps rfl
   refine ⟨q + 1, ?_⟩
   rw [wordbookref15_Build.l1, if_neg (by omega), if_pos (by omega), if_pos (by omega), if_pos (by omega), wrap_one (by omega)]
   simpa [grps, toR] using hq
  ·
   have hE := endOf_le ws f t k hlt ht
   have hk := resP_long ht hne
   have hgo := grps_ok (t - f) (resP ws f t k) hs hne
   rw [grps_step ws f t k hlt ht] at h hlen hgo
   simp only [List.map_cons] at h hlen
   rw [toR_step] at h hlen
   have hnx := hgo _ List.mem_cons_self
   have hpn : partOk ws (f : Int) ((endOf ws f t k : Nat) : Int) ((k + 1 : Nat) : Int) := partOk_mk (by omega) (by omega) fun e h0 h1 => hk e h0 (by omega)
   have hdr : resP ws ((endOf ws f t k : Nat) : Int) t k = (resP ws f t k).drop (endOf ws f t k - f) := by
    rw [resP_drop, show f + (endOf ws f t k - f) = endOf ws f t k from by omega]
   have hs2 : Srt (resP ws ((endOf ws f t k : Nat) : Int) t k) := by rw [hdr]; exact hs.sublist (List.drop_sublist _ _)
   have hne2 : ∀ v ∈ resP ws ((endOf ws f t k : Nat) : Int) t k, v ≠ [] := by rw [hdr]; exact fun v hv => hne v (List.mem_of_mem_drop hv)
   have hgr := toR_grow ((grps (t - endOf ws f t k) (resP ws ((endOf ws f t k : Nat) : Int) t k)).map (·.2)) (if (ps.map (resV ws)).idxOf (resP ws f ((endOf ws f t k : Nat) : Int) ((k + 1 : Nat) : Int)) = (ps.map (resV ws)).length then ps.map (resV ws) ++ [resP ws f ((endOf ws f t k : Nat) : Int) ((k + 1 : Nat) : Int)] else ps.map (resV ws)) (to_ ++ [(((ps.map (resV ws)).idxOf (resP ws f ((endOf ws f t k : Nat) : Int) ((k + 1 : Nat) : Int)) : Nat) : Int)])
   have hpl : ps.length ≤ 1000000 := by
    have : (ps.map (resV ws)).length ≤ (if (ps.map (resV ws)).idxOf (resP ws f ((endOf ws f t k : Nat) : Int) ((k + 1 : Nat) : Int)) = (ps.map (resV ws)).length then ps.map (resV ws) ++ [resP ws f ((endOf ws f t k : Nat) : Int) ((k + 1 : Nat) : Int)] else ps.map (resV ws)).length := by split <;> simp
    have h5 : (ps.map (resV ws)).length = ps.length := List.length_map ..
    omega
   have hkf := hk f (Nat.le_refl _) hlt
   suffices hj : ∃ q, wordbookref15_Build.j7 q ws ps (i : Int) (f : Int) fin sy to_ ((endOf ws f t k : Nat) : Int) (((ps.map (resV ws)).idxOf (resP ws f ((endOf ws f t k : Nat) : Int) ((k + 1 : Nat) : Int)) : Nat) : Int) false a b c d p0 (t : Int) (k : Int) (f : Int) ((endOf ws f t k : Nat) : Int) ((k + 1 : Nat) : Int) = some r by
    obtain ⟨q3, h3⟩ := b_l3 hw ps hps hpl hpn _ _ _ _ _ _ _ _ _ _ _ _ _ hj _ 0 (Nat.zero_add _)
    obtain ⟨q2, h2⟩ := b_l2 hw ps f t k hlt ht hk _ _ _ _ _ _ _ _ _ ⟨q3, h3⟩ (endOf ws f t k - f) f (by omega) (Nat.le_refl _)
    refine ⟨q2 + 1, ?_⟩
    rw [wordbookref15_Build.l1, if_pos (by omega)]
    exact h2
   have hrdm : rd (rdR ws (f : Int)) (k : Int) = rd (rdR ws (f : Int)) k := rfl
   by_cases hx : (ps.map (resV ws)).idxOf (resP ws f ((endOf ws f t k : Nat) : Int) ((k + 1 : Nat) : Int)) = (ps.map (resV ws)).length
   ·
    rw [if_pos hx] at h hlen
    have hx2 := hx
    rw [List.length_map] at hx2
    obtain ⟨q, hq⟩ := ih (endOf ws f t k) (ps ++ [⟨(f : Int), ((endOf ws f t k : Nat) : Int), ((k + 1 : Nat) : Int)⟩]) (sy ++ [rd (rdR ws (f : Int)) k]) (to_ ++ [(((ps.map (resV ws)).idxOf (resP ws f ((endOf ws f t k : Nat) : Int) ((k + 1 : Nat) : Int)) : Nat) : Int)]) (by omega) hE.2
     (fun p hp => by
      rcases List.mem_append.1 hp with hp | hp
      ·
       exact hps p hp
      ·
       rw [List.mem_singleton.1 hp]; exact ⟨hpn, hnx.1⟩) hs2 hne2 (by simp; omega) (by simp; omega) (by rw [List.map_append]; exact hlen)
     (fun ps' h1 h2 => by
      rw [List.map_append] at h2 ⊢
      have := h ps' h1 h2
      rw [List.append_cons sy] at this
      exact this)
    refine ⟨q + 1, ?_⟩
    rw [wordbookref15_Build.j7, rdL_R, if_neg (by decide), if_pos (by omega), if_pos (by omega), if_pos (by omega), if_pos (by omega), if_pos (by omega), if_pos (by omega), if_pos (by omega), if_pos (by omega)]
    exact hq
   ·
    rw [if_neg hx] at h hlen
    have hx2 := hx
    rw [List.length_map] at hx2
    obtain ⟨q, hq⟩ := ih (endOf ws f t k) ps (sy ++ [rd (rdR ws (f : Int)) k]) (to_ ++ [(((ps.map (resV ws)).idxOf (resP ws f ((endOf ws f t k : Nat) : Int) ((k + 1 : Nat) : Int)) : Nat) : Int)]) (by omega) hE.2
     hps hs2 hne2 (by simp; omega) (by simp; omega) hlen
     (fun ps' h1 h2 => by
      have := h ps' h1 h2
      rw [List.append_cons sy] at this
      exact this)
    refine ⟨q + 1, ?_⟩
    rw [wordbookref15_Build.j7, rdL_R, if_neg (by decide), if_neg (by omega), if_pos (by omega), if_pos (by omega), if_pos (by omega), if_pos (by omega), if_pos (by omega), if_pos (by omega)]
    exact hq
end Go.Proofs.Ytcdjeimjbbknjaa.PAll
namespace Go.Proofs.Ytcdjeimjbbknjaa.PAll
open Go.RowKit Go.Proofs.YtcdjeimjbbknjaaW.PrintWords Go.Proofs.YtcdjeimjbbknjaaW.PrintLast Go.Proofs.YtcdjeimjbbknjaaW.PrintMore Go.Proofs.Ytcdjeimjbbknjaa.Res
set_option linter.unusedVariables false
set_option linter.unusedSimpArgs false

theorem finR_resP (ws : List (List Int)) (f t k : Nat) (h : f < t) (ht : t ≤ ws.length) (hk : k ≤ (rdR ws (f : Int)).length) : finR (resP ws f t k) = decide ((rdR ws (f : Int)).length = k) := by
 rw [resP_cons ws f t k h ht]
 show List.isEmpty ((rdR ws (f : Int)).drop k) = _
 rw [Bool.eq_iff_iff, decide_eq_true_iff, List.isEmpty_iff, List.drop_eq_nil_iff]
 omega
theorem b_l0 {ws : List (List Int)} (hw : WsOk ws) (Q : List (List (List Int))) (N : List Nd) (hQ : Q.length = N.length) (hN : N.length ≤ 100000) :
    ∀ (n : Nat) (ps : List S106) (i : Nat) (G : List Nd), resG n (ps.map (resV ws)) i G = (Q, N) → G.length = i → i ≤ ps.length → PsOk ws ps → ws.length ≤ 100000 →
    ∃ q, wordbookref15_Build.l0 q ws ps (i : Int) ws (G.map (·.f1)) (G.map (·.f2)) (G.map (·.f0)) = some (ws, N.map (·.f1), N.map (·.f2), N.map (·.f0), 0) := by
 intro n
 induction n with
 | zero =>
  intro ps i G hr hG hi hps hl
  rw [resG] at hr
  obtain ⟨h1, h2⟩ := Prod.mk.inj hr
  refine ⟨1, ?_⟩
  have h3 := congrArg List.length h1
  rw [List.length_map] at h3
  have h4 := congrArg List.length h2
  rw [wordbookref15_Build.l0, if_neg (by omega), h2]
 | succ n ih =>
  intro ps i G hr hG hi hps hl
  have hgr := resG_grow (n + 1) (ps.map (resV ws)) i G
  rw [hr, List.length_map] at hgr
  replace hgr : ps.length ≤ Q.length := hgr
  rw [resG, List.length_map] at hr
  by_cases hlt : i < ps.length
  ·
   rw [if_pos hlt] at hr
   have hp := hps _ (List.getElem_mem hlt)
   have hP : rdP (ps.map (resV ws)) (i : Int) = resV ws ps[i] := by
    rw [rdP, Int.toNat_natCast, List.getD_eq_getElem?_getD, List.getElem?_map, List.getElem?_eq_getElem hlt]; rfl
   rw [hP] at hr
   have hgi := rdS_get hlt
   obtain ⟨⟨h0, h1, h2, h3, h4⟩, hs⟩ := hp
   generalize hpi : ps[i] = p at *
   obtain ⟨F, T, K⟩ := p
   dsimp only at h0 h1 h2 h3 h4
   obtain ⟨f, rfl⟩ := Int.eq_ofNat_of_zero_le h0
   obtain ⟨t, rfl⟩ := Int.eq_ofNat_of_zero_le (Int.le_trans h0 h1)
   obtain ⟨k, rfl⟩ := Int.eq_ofNat_of_zero_le h3
   have ht : t ≤ ws.length := by omega
   have hres : resV ws ⟨(f : Int), (t : Int), (k : Int)⟩ = resP ws f t k := rfl
   rw [hres] at hr hs
   -- what stands behind the part's own word
   have hro := restR_ok hs
   obtain ⟨g, hg1, hg2, hg3⟩ : ∃ g : Nat, f ≤ g ∧ g ≤ t ∧ restR (resP ws f t k) = resP ws g t k ∧ ((f < t ∧ g = f + 1 ∧ finR (resP ws f t k) = true ∧ (rdR ws (f : Int)).length = k) ∨ (g = f ∧ finR (resP ws f t k) = false ∧ (f < t → (rdR ws (f : Int)).length ≠ k))) := by
    rcases Nat.lt_or_ge f t with hft | hft
    ·
     have hk : k ≤ (rdR ws (f : Int)).length := by
      have := partOk_at (i := 0) (show partOk ws (f : Int) (t : Int) (k : Int) from ⟨h0, h1, h2, h3, h4⟩) (by omega)
      simpa using this
     have hf := finR_resP ws f t k hft ht hk
     by_cases he : (rdR ws (f : Int)).length = k
     ·
      rw [decide_eq_true he] at hf
      refine ⟨f + 1, by omega, by omega, ?_, .inl ⟨hft, rfl, hf, he⟩⟩
      unfold restR
      rw [if_pos hf, resP_cons ws f t k hft ht, List.tail_cons]
     ·
      rw [decide_eq_false he] at hf
      refine ⟨f, by omega, by omega, ?_, .inr ⟨rfl, hf, fun _ => he⟩⟩
      unfold restR
      rw [if_neg (by rw [hf]; decide)]
    ·
     obtain rfl : f = t := by omega
     refine ⟨f, by omega, by omega, ?_, .inr ⟨rfl, by rw [resP_nil]; rfl, fun h => by omega⟩⟩
     rw [resP_nil]; rfl
   rw [hg3.1] at hro
   have hgroups : groups (resP ws f t k) = grps (t - g) (resP ws g t k) := by unfold groups; rw [hg3.1, resP_len _ _ _ _ ht]
   rw [hgroups] at hr
   have hgr2 : (toR ((grps (t - g) (resP ws g t k)).map (·.2)) (ps.map (resV ws)) []).1.length ≤ Q.length := by
    have := resG_grow n (toR ((grps (t - g) (resP ws g t k)).map (·.2)) (ps.map (resV ws)) []).1 (i + 1) (G ++ [nodeR (ps.map (resV ws)) (resP ws f t k)])
    rwa [hr] at this
   have hkk := b_kids hw t k ht i (by omega) (finR (resP ws f t k)) ws (G.map (·.f1)) (G.map (·.f2)) (G.map (·.f0)) (by rw [List.length_map]; omega) (by rw [List.length_map]; omega) (by rw [List.length_map]; omega) (f : Int) (r := (ws, N.map (·.f1), N.map (·.f2), N.map (·.f0), 0)) (t - g) g ps [] [] (Nat.le_refl _) hg2 hps hro.1 hro.2 (by simp; omega) (by simp; omega) (by omega)
    (fun ps' h1 h2 => by
     have hfin : (G ++ [nodeR (ps.map (resV ws)) (resP ws f t k)]).length = i + 1 := by simp [hG]
     have hlen := toR_grow ((grps (t - g) (resP ws g t k)).map (·.2)) (ps.map (resV ws)) []
     rw [← h2] at hr hlen
     rw [List.length_map, List.length_map] at hlen
     have := ih ps' (i + 1) _ hr hfin (by omega) h1 hl
     rw [List.map_append, List.map_append, List.map_append] at this
     simp only [nodeR, List.map_cons, List.map_nil, hgroups] at this
     exact this)
   obtain ⟨q, hq⟩ := hkk
   refine ⟨q + 3, ?_⟩
   rw [wordbookref15_Build.l0, if_pos (by omega), if_pos (by omega), hgi]
   dsimp only
   rcases hg3.2 with ⟨c1, c2, c3, c4⟩ | ⟨c1, c2, c3⟩
   ·
    rw [if_pos (by omega), if_pos (by omega), if_pos (by omega), show (((rd_L2 ws (f : Int)).length : Int) == (k : Int)) = true from beq_iff_eq.2 (by rw [rdL_R]; omega)]
    rw [wordbookref15_Build.j1, if_pos rfl, wordbookref15_Build.j2, wrap_one (by omega), ← c2, ← c3]
    exact hq
   ·
    subst c1
    rcases Nat.lt_or_ge g t with hft | hft
    ·
     rw [if_pos (by omega), if_pos (by omega), if_pos (by omega), show (((rd_L2 ws (g : Int)).length : Int) == (k : Int)) = false from beq_eq_false_iff_ne.2 (by rw [rdL_R]; have := c3 hft; omega)]
     rw [wordbookref15_Build.j1, if_neg (by decide), wordbookref15_Build.j2, ← c2]
     exact hq
    ·
     rw [if_neg (by omega), wordbookref15_Build.j1, if_neg (by decide), wordbookref15_Build.j2, ← c2]
     exact hq
  ·
   rw [if_neg hlt] at hr
   obtain ⟨h1, h2⟩ := Prod.mk.inj hr
   refine ⟨1, ?_⟩
   rw [wordbookref15_Build.l0, if_neg (by omega), h2]
end Go.Proofs.Ytcdjeimjbbknjaa.PAll
namespace Go.Proofs.Ytcdjeimjbbknjaa.PAll
open Go.RowKit Go.Proofs.YtcdjeimjbbknjaaW.PrintWords Go.Proofs.YtcdjeimjbbknjaaW.PrintLast Go.Proofs.YtcdjeimjbbknjaaW.PrintMore Go.Proofs.Ytcdjeimjbbknjaa.Res
set_option linter.unusedVariables false
set_option linter.unusedSimpArgs false

def Ev (p : Nat → Prop) : Prop := ∃ q0, ∀ q, q0 ≤ q → p q
theorem Ev.next {p p' : Nat → Prop} (h : Ev p) (n : Nat) (hs : ∀ q, n ≤ q → p q → p' (q + 1)) : Ev p' := by
 obtain ⟨q0, h⟩ := h
 refine ⟨max q0 n + 1, fun q hq => ?_⟩
 obtain ⟨q', rfl⟩ : ∃ q', q = q' + 1 := ⟨q - 1, by omega⟩
 exact hs q' (by omega) (h q' (by omega))
theorem Ev.now {p : Nat → Prop} (hs : ∀ q, p (q + 1)) : Ev p := ⟨1, fun q hq => by
  obtain ⟨q', rfl⟩ : ∃ q', q = q' + 1 := ⟨q - 1, by omega⟩
  exact hs q'⟩
theorem e_l1 {ws : List (List Int)} {i : Nat} (hi : i < ws.length) (hlen : (rdR ws (i : Int)).length ≤ 1000000000) (x3 : Int) (x4 : Bool) {r : Int}
    (hbad : (rdR ws (i : Int)).any badSym = true → r = 1) (hend : (rdR ws (i : Int)).any badSym = false → Ev fun q => wordbookref15_Errors.l1 q ws x3 x4 (i : Int) ((rdR ws (i : Int)).length : Int) = some r) :
    ∀ (m j : Nat), j + m = (rdR ws (i : Int)).length → (∀ s ∈ (rdR ws (i : Int)).take j, badSym s = false) → Ev fun q => wordbookref15_Errors.l1 q ws x3 x4 (i : Int) (j : Int) = some r := by
 intro m
 induction m with
 | zero =>
  intro j hj hs
  rw [Nat.add_zero] at hj
  subst hj
  refine hend ?_
  rw [List.take_length] at hs
  rw [Bool.eq_false_iff]
  intro h
  obtain ⟨s, h1, h2⟩ := List.any_eq_true.1 h
  rw [hs s h1] at h2
  exact absurd h2 (by decide)
 | succ m ih =>
  intro j hj hs
  have hlt : j < (rdR ws (i : Int)).length := by omega
  have hrd : rd (rdR ws (i : Int)) (j : Int) = (rdR ws (i : Int))[j] := by
   rw [rd_nat, List.getD_eq_getElem?_getD, List.getElem?_eq_getElem hlt, Option.getD_some]
  cases hb : badSym (rd (rdR ws (i : Int)) (j : Int)) with
  | true =>
   have hr := hbad (List.any_eq_true.2 ⟨_, List.getElem_mem hlt, by rw [← hrd]; exact hb⟩)
   refine Ev.now fun q => ?_
   rw [wordbookref15_Errors.l1, rdL_R, if_pos (by omega), if_pos (by omega), if_pos (by omega), if_pos (by omega), hr]
   simp only [badSym, Bool.or_eq_true, decide_eq_true_eq] at hb
   by_cases h0 : rd (rdR ws (i : Int)) (j : Int) < 0
   ·
    rw [if_pos h0]
   ·
    rw [if_neg h0, if_pos (by omega)]
  | false =>
   refine (ih (j + 1) (by omega) fun s hs' => ?_).next 0 fun q _ hq => ?_
   ·
    rw [List.take_add_one, List.getElem?_eq_getElem hlt] at hs'
    rcases List.mem_append.1 hs' with h | h
    ·
     exact hs s h
    ·
     have : s = (rdR ws (i : Int))[j] := by simpa using h
     rw [this, ← hrd]; exact hb
   ·
    have hb2 := hb
    simp only [badSym, Bool.or_eq_false_iff, decide_eq_false_iff_not] at hb2
    rw [wordbookref15_Errors.l1, rdL_R, if_pos (by omega), if_pos (by omega), if_pos (by omega), if_pos (by omega), if_neg hb2.1, if_neg (by omega), wrap_one (by omega)]
    exact hq
theorem e_l0 {ws : List (List Int)} (hw : WsOk ws) (hs : sumUpto ws ws.length ≤ 4611686018427387904) :
    ∀ (m i : Nat), i + m = ws.length → okUpto ws i = true → Ev fun q => wordbookref15_Errors.l0 q ws (sumUpto ws i : Nat) (longUpto ws i) (i : Int) = some (checkL ws) := by
 intro m
 induction m with
 | zero =>
  intro i hi hok
  rw [Nat.add_zero] at hi
  subst hi
  refine Ev.now fun q => ?_
  rw [wordbookref15_Errors.l0, if_neg (by omega)]
  unfold checkL
  rw [if_pos hok]
  cases hl : longUpto ws ws.length with
  | true => rw [if_pos rfl, if_pos (.inl rfl)]
  | false =>
   rw [if_neg (by decide)]
   by_cases h1 : (4096 : Int) < (ws.length : Int)
   ·
    rw [if_pos h1, if_pos (.inr (.inl h1))]
   ·
    rw [if_neg h1]
    by_cases h2 : (65536 : Int) < (sumUpto ws ws.length : Int)
    ·
     rw [if_pos h2, if_pos (.inr (.inr h2))]
    ·
     rw [if_neg h2, if_neg]
     rintro (h | h | h)
     ·
      exact absurd h (by decide)
     ·
      exact h1 h
     ·
      exact h2 h
 | succ m ih =>
  intro i hi hok
  have hlt : i < ws.length := by omega
  have hu := hw.2 _ (rdR_in hlt)
  have hsum := sumUpto_le ws ws.length (i + 1) (by omega)
  rw [sumUpto] at hsum
  refine Ev.next (e_l1 hlt hu (sumUpto ws i : Nat) (longUpto ws i) (r := checkL ws) (fun hb => ?_) (fun hb => ?_) _ 0 (Nat.zero_add _) (by simp)) 0 fun q _ hq => ?_
  ·
   refine checkL_bad ws (i + 1) (by omega) ?_
   rw [okUpto, hb]; simp
  ·
   have hl2 := hw.1
   -- behind the word's last symbol
   have key : (i = 0 ∨ cmpL (rdR ws ((i - 1 : Nat) : Int)) (rdR ws (i : Int)) < 0) → Ev fun q => (if longUpto ws i = true then wordbookref15_Errors.l0 q ws (wrap64 ((sumUpto ws i : Nat) + ((rdR ws (i : Int)).length : Int))) true (wrap64 ((i : Int) + 1)) else wordbookref15_Errors.l0 q ws (wrap64 ((sumUpto ws i : Nat) + ((rdR ws (i : Int)).length : Int))) (decide (((rdR ws (i : Int)).length : Int) > 64)) (wrap64 ((i : Int) + 1))) = some (checkL ws) := by
    intro hc
    have hok2 : okUpto ws (i + 1) = true := by
     rw [okUpto, hok, hb]
     rcases hc with rfl | hc
     ·
      rfl
     ·
      rw [decide_eq_true hc]; simp
    obtain ⟨q0, h⟩ := ih (i + 1) (by omega) hok2
    refine ⟨q0, fun q hq => ?_⟩
    have h := h q hq
    dsimp only at h ⊢
    rw [sumUpto, longUpto] at h
    rw [wrap_one (by omega), show wrap64 ((sumUpto ws i : Nat) + ((rdR ws (i : Int)).length : Int)) = ((sumUpto ws i + (rdR ws (i : Int)).length : Nat) : Int) from by unfold wrap64; omega]
    cases hlg : longUpto ws i with
    | true => rw [hlg, Bool.true_or] at h; rw [if_pos rfl]; exact h
    | false => rw [hlg, Bool.false_or] at h; rw [if_neg (by decide)]; exact h
   rcases Nat.eq_zero_or_pos i with h0 | h0
   ·
    refine (key (.inl h0)).next 0 fun q _ hq => ?_
    rw [wordbookref15_Errors.l1, rdL_R, if_pos (by omega), if_pos (by omega), if_neg (by omega), if_neg (by omega)]
    exact hq
   ·
    have hu1 := hw.2 _ (rdR_in (show i - 1 < ws.length by omega))
    have hwr : wrap64 ((i : Int) - 1) = ((i - 1 : Nat) : Int) := by unfold wrap64; omega
    by_cases hc : cmpL (rdR ws ((i - 1 : Nat) : Int)) (rdR ws (i : Int)) < 0
    ·
     refine (key (.inr hc)).next (2 * (rdR ws ((i - 1 : Nat) : Int)).length + 2) fun q hn hq => ?_
     rw [wordbookref15_Errors.l1, rdL_R, if_pos (by omega), if_pos (by omega), if_neg (by omega), if_pos (by omega), hwr, if_pos (by omega), if_pos (by omega), order_is _ _ (by omega) _ (by omega), Option.bind_some, if_neg (by omega)]
     exact hq
    ·
     have hr : checkL ws = 1 := by
      refine checkL_bad ws (i + 1) (by omega) ?_
      rw [okUpto, decide_eq_false hc, show (i == 0) = false from by simp; omega]; simp
     refine (show Ev fun _ => True from ⟨0, fun _ _ => trivial⟩).next (2 * (rdR ws ((i - 1 : Nat) : Int)).length + 2) fun q hn _ => ?_
     rw [wordbookref15_Errors.l1, rdL_R, if_pos (by omega), if_pos (by omega), if_neg (by omega), if_pos (by omega), hwr, if_pos (by omega), if_pos (by omega), order_is _ _ (by omega) _ (by omega), Option.bind_some, if_pos (by omega), hr]
  ·
   rw [wordbookref15_Errors.l0, if_pos (by omega)]
   exact hq
theorem errors_is {ws : List (List Int)} (hw : WsOk ws) (hs : sumUpto ws ws.length ≤ 4611686018427387904) : Ev fun q => wordbookref15_Errors.f q ws = some (checkL ws) := e_l0 hw hs _ 0 (Nat.zero_add _) rfl
theorem good_ws {ws : List (List Int)} (h : Good ws) : WsOk ws ∧ sumUpto ws ws.length ≤ 4611686018427387904 :=
  ⟨⟨by have := h.few; omega, fun v hv => by have := h.short v hv; omega⟩, by rw [sumUpto_is ws _ (Nat.le_refl _), List.take_length]; have := h.sum; omega⟩
theorem b_up {ws : List (List Int)} {q : Nat} {ps a i b c d e} (h : wordbookref15_Build.l0 q ws ps i a b c d = some e) : ∀ n, wordbookref15_Build.l0 (q + n) ws ps i a b c d = some e
  | 0 => h
  | n + 1 => (wordbookref15_Build.mono_l (q + n)).1 _ _ _ _ _ _ _ _ (b_up h n)
theorem build15_good {ws : List (List Int)} (h : Good ws) : ∃ q, wordbookref15_Build.f q ws = some (ws, (graphOf ws).map (·.f1), (graphOf ws).map (·.f2), (graphOf ws).map (·.f0), 0) := by
 obtain ⟨hw, hs⟩ := good_ws h
 obtain ⟨Q, hr, hi, _, _⟩ := graph_spec h
 have hsm := graphOf_small h
 have hres : resV ws ⟨(0 : Int), (ws.length : Int), (0 : Int)⟩ = ws := by
  show resP ws ((0 : Nat) : Int) (ws.length : Int) ((0 : Nat) : Int) = ws
  rw [resP_is, List.drop_zero, Nat.sub_zero, List.take_length, show (List.drop 0 : List Int → List Int) = id from funext fun l => List.drop_zero]
  exact List.map_id ws
 have hps : PsOk ws [⟨(0 : Int), (ws.length : Int), (0 : Int)⟩] := by
  intro p hp
  rw [List.mem_singleton.1 hp]
  refine ⟨⟨Int.le_refl _, Int.natCast_nonneg _, Int.le_refl _, Int.le_refl _, fun v hv => Int.natCast_nonneg _⟩, ?_⟩
  rw [hres]; exact h.sorted
 obtain ⟨q1, h1⟩ := b_l0 hw Q (graphOf ws) hi.len (by omega) _ [⟨(0 : Int), (ws.length : Int), (0 : Int)⟩] 0 [] (by rw [List.map_cons, hres]; exact hr) rfl (Nat.zero_le _) hps (by have := h.few; omega)
 obtain ⟨q2, h2⟩ := errors_is hw hs
 refine ⟨q1 + q2, ?_⟩
 unfold wordbookref15_Build.f
 rw [h2 (q1 + q2) (by omega), good_check h, Option.bind_some, if_pos rfl]
 exact b_up h1 q2
theorem build15_bad {ws : List (List Int)} (hw : WsOk ws) (hs : sumUpto ws ws.length ≤ 4611686018427387904) (hc : checkL ws ≠ 0) : ∃ q, wordbookref15_Build.f q ws = some ([], [], [], [], checkL ws) := by
 obtain ⟨q2, h2⟩ := errors_is hw hs
 refine ⟨q2, ?_⟩
 unfold wordbookref15_Build.f
 rw [h2 q2 (Nat.le_refl _), Option.bind_some, if_neg hc]
end Go.Proofs.Ytcdjeimjbbknjaa.PAll
namespace Go.Proofs.Ytcdjeimjbbknjaa.PAll
open Go.RowKit Go.Proofs.YtcdjeimjbbknjaaW.PrintWords Go.Proofs.YtcdjeimjbbknjaaW.PrintLast Go.Proofs.YtcdjeimjbbknjaaW.PrintMore
open List (setIfInBounds_toArray set_cons_zero set_cons_succ)
open Kd (R_alloc R_drewN R_drew V_alloc V_drewN V_drew S_alloc S_drewN S_drew)
attribute [local go_sem] max2_int min2_int max_two min_two max_three min_three max_four min_four   -- for this text's walks alone
set_option linter.unusedVariables false
set_option linter.unusedSimpArgs false

set_option maxHeartbeats 8000000 in
set_option maxRecDepth 100000 in
theorem wordbookref15_Build.calls (k : Nat) (P0_ : Nat → Prop) (A0 : Option Addr) (c0 : Nat) (l0 : List (List Int)) (r1 : List (List Int)) (r2 : List (List Int)) (r3 : List (List Int)) (r4 : List Bool) (r5 : Int) (w : World) (hs0 : Kd.V (Kd.slice 3 (Kd.int .i64)) 22 w w.heap.size (fun k_ => P0_ k_) (.slice A0 l0.length c0) l0) (h : wordbookref15_Build.f k l0 = some (r1, r2, r3, r4, r5)) :
    Calls Try.prog 20 #[.slice A0 l0.length c0] w fun e w' => ∃ v0_ v1_ v2_ v3_ : Value, e = .returned (.tuple #[.agg #[v0_, v1_, v2_, v3_], .int .i64 r5]) ∧ Kd.V (Kd.slice 3 (Kd.int .i64)) 22 w' w.heap.size (fun k_ => (P0_ k_ ∨ w.heap.size ≤ k_) ∧ some k_ ≠ (v1_ : Value).ownBlock ∧ some k_ ≠ (v2_ : Value).ownBlock ∧ some k_ ≠ (v3_ : Value).ownBlock) v0_ r1 ∧ Kd.S (Kd.slice 3 (Kd.int .i64)) 22 w' w.heap.size (fun k_ => (w.heap.size ≤ k_) ∧ some k_ ≠ (v2_ : Value).ownBlock) v1_ r2 ∧ Kd.S (Kd.slice 3 (Kd.int .i64)) 22 w' w.heap.size (fun k_ => (w.heap.size ≤ k_) ∧ some k_ ≠ (v1_ : Value).ownBlock) v2_ r3 ∧ Kd.R Kd.bool 4 w' w.heap.size (fun k_ => (w.heap.size ≤ k_)) v3_ r4 ∧ Below w.heap.size w w' := by
 have hu32 := Try.underlying32
 have hu106 := Try.underlying106
 have HO0 := Aside0.mk (show Kd.V (Kd.slice 3 (Kd.int .i64)) 22 w w.heap.size (fun k_ => (P0_ k_ ∨ w.heap.size ≤ k_)) (.slice A0 l0.length c0) l0 from Kd.V_mono hs0 (fun k_ hk => .inl hk))
 have HB := Aside0.mk (Below.refl w.heap.size w)
 have H : ((wordbookref15_Errors.f k l0).bind fun t102 => (if t102 = 0 then (wordbookref15_Build.l0 k l0 (([(⟨0, (l0.length : Int), 0⟩ : S106)] : List (S106))) 0 l0 ([] : List (List Int)) ([] : List (List Int)) ([] : List Bool)) else (some (([] : List (List Int)), ([] : List (List Int)), ([] : List (List Int)), ([] : List Bool), t102)))) = some (r1, r2, r3, r4, r5) := h
 clear h
 replace H := Option.bind_eq_some_iff.mp H
 obtain ⟨t102, A20, H⟩ := H
 replace H : (if t102 = 0 then (wordbookref15_Build.l0 k l0 (([(⟨0, (l0.length : Int), 0⟩ : S106)] : List (S106))) 0 l0 ([] : List (List Int)) ([] : List (List Int)) ([] : List Bool)) else (some (([] : List (List Int)), ([] : List (List Int)), ([] : List (List Int)), ([] : List Bool), t102))) = some (r1, r2, r3, r4, r5) := H
 have A2 := Aside0.mk A20
 clear A20
 by_cases c3 : t102 = 0
 ·
  rw [if_pos c3] at H
  have cC : (t102 == 0) = true := beq_iff_eq.mpr c3
  have cB : (t102 != 0) = false := bne_eq_false_iff_eq.mpr c3
  clear c3
  obtain ⟨dy, hy104⟩ : ∃ y_ : List (S106), y_ = (([(⟨0, (l0.length : Int), 0⟩ : S106)] : List (S106))) := ⟨_, rfl⟩
  replace H : (wordbookref15_Build.l0 k l0 dy 0 l0 ([] : List (List Int)) ([] : List (List Int)) ([] : List Bool)) = some (r1, r2, r3, r4, r5) := by (rw [hy104]; with_reducible exact H)
  have Ny104 := Aside0.mk hy104
  clear hy104
  have H' := Aside0.mk H
  clear H
  go_enter Try.func20, Try.ntmps20
  go_wp2_with (first | ((with_reducible refine gate_dst (N := 2) rfl ?_); (try (refine gate_guard (by rfl) ?_; dsimp only)); refine box_event ?hg (N := 2) ?hd (cs := #[.slice none 0 0, .slice none 0 0, .slice none 0 0, .slice none 0 0]) (t := 32) ?hr ?_; (case hd => rfl); (case hg => rfl); (case hr => first | (go_simp; done) | (go_simp; rfl)); intro ao hg w4 hbox hb; have aT := Aside0.mk (Kd.V_below (Kd.V_elderB HO0.out ao (Nat.le_of_eq hg.symm)) hb); have aR := Aside0.mk (below_step HB.out hb); have aQ := Aside0.mk (hbox); have aW := Aside0.mk ((by rw [hg]; exact (below_size HB.out) : w.heap.size ≤ ao)); have aV := Aside0.mk ((by rw [hg]; exact (below_size HB.out) : w.heap.size ≤ ao)); clear HO0; clear HB; have HO0 := aT; have HB := aR; have am := aQ; have eE := aW; have aD := aV; clear aT aR aQ aW aV; clear hb hbox hg) | ((with_reducible refine gate_callee (f := 70) rfl ?_); refine goesL_ (some 17) rfl rfl Try.func70 (by kernel_rfl) rfl #[.slice A0 l0.length c0] rfl (by (try simp only [List.map_toArray, List.map_cons, List.map_nil]); first | done | rfl | (simp only [List.length_drop, List.length_take]; rfl)) ?_; (with_reducible refine (wordbookref15_Errors.calls k _ _ l0 t102 _ ?side1 ?side2 A2.out).mono ?_); (case side1 => repeat (first | exact (Kd.V_reads' HO0.out).2.2 | (with_reducible refine Kd.C_alloc ?_ _) | (with_reducible refine Kd.C_drewN ?_ _) | (with_reducible refine Kd.C_drew ?_))); (case side2 => exact (Kd.V_reads' HO0.out).2.1); rintro e w' ⟨rfl, ⟨nd, rfl⟩⟩; refine ⟨_, rfl, ?_⟩; (try (rw [drewN_self w4]; generalize hq_ : World.drewN w4 _ = w4; have aT : Aside0 (Kd.V (Kd.slice 3 (Kd.int .i64)) 22 w4 w.heap.size (fun k_ => (P0_ k_ ∨ w.heap.size ≤ k_) ∧ k_ ≠ ao) (.slice A0 l0.length c0) l0) := ⟨by rw [← hq_]; exact (by (with_reducible repeat first | apply V_alloc | apply V_drewN | apply V_drew); exact HO0.out)⟩; have aR : Aside0 (w4.heap[ao]? = some (.cells #[.slice none 0 0, .slice none 0 0, .slice none 0 0, .slice none 0 0] 32 (0, 0))) := ⟨by rw [← hq_]; exact (by (with_reducible repeat first | apply blk_drewN | apply blk_drew | apply blk_alloc); exact am.out)⟩; have aQ : Aside0 (Below w.heap.size w w4) := ⟨by rw [← hq_]; exact (by repeat (first | (with_reducible first | exact HB.out | apply below_alloc | apply pw_below_drewN | apply below_drew1 | refine below_set ?_ aD.out) | exact HB.out))⟩; clear HO0 am HB hq_; have HO0 := aT; have am := aR; have HB := aQ; clear aT aR aQ))) | ((with_reducible refine gate_dst (N := 5) rfl ?_); (try (refine gate_guard (by rfl) ?_; dsimp only)); refine box_event ?hg (N := 5) ?hd (cs := #[.slice none 0 0, .slice none 0 0, .slice none 0 0, .slice none 0 0]) (t := 32) ?hr ?_; (case hd => rfl); (case hg => rfl); (case hr => first | (go_simp; done) | (go_simp; rfl)); intro an hg w5 hbox hb; have aT := Aside0.mk (Kd.V_below (Kd.V_elderB HO0.out an (Nat.le_of_eq hg.symm)) hb); have aR := Aside0.mk (blk_below (g := ao) (o := .cells #[.slice none 0 0, .slice none 0 0, .slice none 0 0, .slice none 0 0] 32 (0, 0)) am.out hb); have aQ := Aside0.mk (below_step HB.out hb); have aW := Aside0.mk (hbox); have aV := Aside0.mk ((by rw [hg]; exact (below_size HB.out) : w.heap.size ≤ an)); have bd := Aside0.mk ((by rw [hg]; exact (below_size HB.out) : w.heap.size ≤ an)); have bc := Aside0.mk ((by rw [hg]; exact Nat.ne_of_lt (blk_lt (g := ao) (o := .cells #[.slice none 0 0, .slice none 0 0, .slice none 0 0, .slice none 0 0] 32 (0, 0)) am.out) : ao ≠ an)); have bb := Aside0.mk ((by rw [hg]; exact Nat.ne_of_gt (blk_lt (g := ao) (o := .cells #[.slice none 0 0, .slice none 0 0, .slice none 0 0, .slice none 0 0] 32 (0, 0)) am.out) : an ≠ ao)); clear HO0; clear am; clear HB; have HO0 := aT; have am := aR; have HB := aQ; have ah := aW; have fu := aV; have aE := bd; have aZ := bc; have bT := bb; clear aT aR aQ aW aV bd bc bb; clear hb hbox hg; have hnb6 := bT.out; have hnc6 := aZ.out; have bL : w5.cell? ⟨an, 0, none⟩ = some (.slice none 0 0) := (blk_cell ah.out 0).trans rfl; have bK : w5.cell? ⟨an, 1, none⟩ = some (.slice none 0 0) := (blk_cell ah.out 1).trans rfl; have bJ : w5.cell? ⟨an, 2, none⟩ = some (.slice none 0 0) := (blk_cell ah.out 2).trans rfl; have bI : w5.cell? ⟨an, 3, none⟩ = some (.slice none 0 0) := (blk_cell ah.out 3).trans rfl; have bH := blk_frozen ah.out 0; have bG := blk_frozen ah.out 1; have bF := blk_frozen ah.out 2; have bE := blk_frozen ah.out 3) | ((with_reducible refine gate_dst (N := 27) rfl ?_); (try (refine gate_guard (by rfl) ?_; dsimp only)); refine Kd.R_lit k106 _ 106 ?hg (N := 27) ?hd (xs := ([(⟨0, (l0.length : Int), 0⟩ : S106)] : List (S106))) (inner := [.int .i64 0, .int .i64 (l0.length : Int), .int .i64 0]) (ok := fun _ => True) (okp := fun _ => True) ?hr ?hp (fun _ hk => hk) trivial (Below.refl _ _) (Nat.le_refl _) (by simp) ?_; (case hd => rfl); (case hg => rfl); (case hr => first | (go_simp; done) | (go_simp; rfl)); (case hp => exact (Reps.c3 (show Kd.M k106 _ _ _ (⟨0, (l0.length : Int), 0⟩ : S106) [.int .i64 0, .int .i64 (l0.length : Int), .int .i64 0] from (k106_mkM _ _ _ (⟨0, (l0.length : Int), 0⟩ : S106) )) (Reps.none _ _))); intro v105 w8 ho9 hb hg_ hnew_; clear hg_ hnew_; (first | rw [← Ny104.out] at ho9 | (simp only [Int.reduceToNat] at ho9; rw [← Ny104.out] at ho9)); have aT := Aside0.mk (Kd.V_elder' (by exact (Kd.V_mono (Kd.V_far (p := ⟨an, 3, none⟩) (Kd.V_far (p := ⟨an, 2, none⟩) (Kd.V_far (p := ⟨an, 1, none⟩) (Kd.V_far (p := ⟨an, 0, none⟩) (Kd.V_mono HO0.out (fun k_ hk => (⟨hk, hk.2⟩ : _ ∧ k_ ≠ an))) (fun _ hk => hk.2) (.slice A0 l0.length c0)) (fun _ hk => hk.2) (.slice none 0 0)) (fun _ hk => hk.2) (.slice none 0 0)) (fun _ hk => hk.2) (.slice none 0 0)) (fun _ h_ => h_.1))) (Kd.R_base ho9) hb); have aR := Aside0.mk (Kd.R_lower (Kd.R_newM (M := fun k_ => (w.heap.size ≤ k_)) ho9 (below_size (by repeat (first | (with_reducible first | exact HB.out | apply below_alloc | apply pw_below_drewN | apply below_drew1 | refine below_set ?_ aD.out | refine below_set ?_ aE.out) | exact HB.out))) (fun k_ h_ => h_)) (below_size (by repeat (first | (with_reducible first | exact HB.out | apply below_alloc | apply pw_below_drewN | apply below_drew1 | refine below_set ?_ aD.out | refine below_set ?_ aE.out) | exact HB.out)))); have aQ := Aside0.mk (blk_below (g := ao) (o := .cells #[.slice none 0 0, .slice none 0 0, .slice none 0 0, .slice none 0 0] 32 (0, 0)) (by refine blk_far ?_ aZ.out _; refine blk_far ?_ aZ.out _; refine blk_far ?_ aZ.out _; refine blk_far ?_ aZ.out _; exact am.out) hb); have aW := Aside0.mk (blk_below (g := an) (o := .cells #[.slice A0 l0.length c0, .slice none 0 0, .slice none 0 0, .slice none 0 0] 32 (0, 0)) (by refine blk_put (cs := #[.slice A0 l0.length c0, .slice none 0 0, .slice none 0 0, .slice none 0 0]) ?_ 3 _ rfl; refine blk_put (cs := #[.slice A0 l0.length c0, .slice none 0 0, .slice none 0 0, .slice none 0 0]) ?_ 2 _ rfl; refine blk_put (cs := #[.slice A0 l0.length c0, .slice none 0 0, .slice none 0 0, .slice none 0 0]) ?_ 1 _ rfl; refine blk_put (cs := #[.slice none 0 0, .slice none 0 0, .slice none 0 0, .slice none 0 0]) ?_ 0 _ rfl; exact ah.out) hb); have aV := Aside0.mk (below_step (by repeat (first | (with_reducible first | exact HB.out | apply below_alloc | apply pw_below_drewN | apply below_drew1 | refine below_set ?_ aD.out | refine below_set ?_ aE.out) | exact HB.out)) hb); clear HO0; clear am; clear ah; clear HB; have HO0 := aT; have HO106 := aR; have am := aQ; have ah := aW; have HB := aV; clear aT aR aQ aW aV; clear hb ho9))
  go_loopg [6, 7] k (fun kq v6 v7 w' => ∃ (ab : List (S106)) (aa : Int) (ar : List (List Int)) (aq : List (List Int)) (ap : List Bool) (ak : Value) (ai : Value) (al : Value), v7 = .int .i64 aa ∧ Aside0 (wordbookref15_Build.l0 kq l0 ab aa l0 ar aq ap = some (r1, r2, r3, r4, r5)) ∧ Aside0 (kq ≤ k) ∧ Aside0 (Kd.V (Kd.slice 3 (Kd.int .i64)) 22 w' w.heap.size (fun k_ => (P0_ k_ ∨ w.heap.size ≤ k_) ∧ some k_ ≠ (v6 : Value).ownBlock ∧ some k_ ≠ (ak : Value).ownBlock ∧ some k_ ≠ (ai : Value).ownBlock ∧ some k_ ≠ (al : Value).ownBlock ∧ k_ ≠ ao ∧ k_ ≠ an) (.slice A0 l0.length c0) l0) ∧ Aside0 (Kd.R k106 106 w' w.heap.size (fun k_ => (w.heap.size ≤ k_)) v6 ab) ∧ Aside0 (Kd.V (Kd.slice 3 (Kd.int .i64)) 22 w' w.heap.size (fun k_ => (P0_ k_ ∨ w.heap.size ≤ k_) ∧ some k_ ≠ (v6 : Value).ownBlock ∧ some k_ ≠ (ak : Value).ownBlock ∧ some k_ ≠ (ai : Value).ownBlock ∧ some k_ ≠ (al : Value).ownBlock ∧ k_ ≠ ao ∧ k_ ≠ an) (.slice A0 l0.length c0) l0) ∧ Aside0 (Kd.S (Kd.slice 3 (Kd.int .i64)) 22 w' w.heap.size (fun k_ => (w.heap.size ≤ k_) ∧ some k_ ≠ (ai : Value).ownBlock) ak ar) ∧ Aside0 (Kd.S (Kd.slice 3 (Kd.int .i64)) 22 w' w.heap.size (fun k_ => (w.heap.size ≤ k_) ∧ some k_ ≠ (ak : Value).ownBlock) ai aq) ∧ Aside0 (Kd.R Kd.bool 4 w' w.heap.size (fun k_ => (w.heap.size ≤ k_)) al ap) ∧ Aside0 (w'.heap[ao]? = some (.cells #[(.slice none 0 0), (.slice none 0 0), (.slice none 0 0), (.slice none 0 0)] 32 (0, 0))) ∧ Aside0 (w'.heap[an]? = some (.cells #[(.slice A0 l0.length c0), ak, ai, al] 32 (0, 0))) ∧ Aside0 (Below w.heap.size w w'))
  case atStart => exact ⟨(dy), (0), (([] : List (List Int))), (([] : List (List Int))), (([] : List Bool)), (.slice none 0 0), (.slice none 0 0), (.slice none 0 0), (by first | rfl | (simp; done) | (simp [*]; done)), H', ⟨Nat.le_refl _⟩, ⟨by exact Kd.V_mono HO0.out (fun _ hk => ⟨hk.1.1.1, ⟨hk.2, ⟨(by simp [Value.ownBlock]), ⟨(by simp [Value.ownBlock]), ⟨(by simp [Value.ownBlock]), ⟨hk.1.1.2, hk.1.2⟩⟩⟩⟩⟩⟩)⟩, ⟨by exact Kd.R_mono HO106.out (fun _ hk => hk.1)⟩, ⟨by exact Kd.V_mono HO0.out (fun _ hk => ⟨hk.1.1.1, ⟨hk.2, ⟨(by simp [Value.ownBlock]), ⟨(by simp [Value.ownBlock]), ⟨(by simp [Value.ownBlock]), ⟨hk.1.1.2, hk.1.2⟩⟩⟩⟩⟩⟩)⟩, ⟨by first | exact Kd.S_nil _ _ _ _ _ | exact Kd.N_nil _ _ _ _ _ | exact Kd.V_nil _ _ _ _ _ | exact Kd.Q_nil _ _ _ _ _ | exact Kd.R_nil _ _ _ _ _⟩, ⟨by first | exact Kd.S_nil _ _ _ _ _ | exact Kd.N_nil _ _ _ _ _ | exact Kd.V_nil _ _ _ _ _ | exact Kd.Q_nil _ _ _ _ _ | exact Kd.R_nil _ _ _ _ _⟩, ⟨by first | exact Kd.R_nil _ _ _ _ _ | exact Kd.N_nil _ _ _ _ _ | exact Kd.V_nil _ _ _ _ _ | exact Kd.Q_nil _ _ _ _ _ | exact Kd.S_nil _ _ _ _ _⟩, ⟨am.out⟩, ⟨ah.out⟩, ⟨HB.out⟩⟩
  clear H'
  clear cC cB bL bK bJ bI bH bG bF bE
  obtain ⟨ab, aa, ar, aq, ap, ak, ai, al, rfl, HA, cD, aw, aA, ae, af, ac, ad, am, ah, HB⟩ := hrel
  cases gk with
  | zero => exact absurd HA.out (by simp [wordbookref15_Build.l0])
  | succ k1 => ?_
  have H := HA.out
  clear HA
  simp only [wordbookref15_Build.l0] at H
  by_cases c10 : aa < (ab.length : Int)
  ·
   rw [if_pos c10] at H
   have bV : decide (aa < (ab.length : Int)) = true := decide_eq_true c10
   clear c10
   have c11 : 0 ≤ aa := Classical.byContradiction fun c_ => by rw [if_neg c_] at H; exact absurd H (by simp)
   rw [if_pos c11] at H
   have cj : decide (0 ≤ aa) = true := decide_eq_true c11
   clear c11
   have HC12 := Aside0.mk H
   clear H
   obtain ⟨fA, bW, eo13⟩ := Kd.R_slice aA.out
   subst eo13
   have p107 : 0 ≤ (aa : Int) := of_decide_eq_true (by first | (with_reducible assumption) | assumption)
   have q107 : aa < (ab.length : Int) := of_decide_eq_true (by first | (with_reducible assumption) | assumption)
   obtain ⟨ad107, e107, bt, bs, br⟩ := at_T106 (Kd.R_reads' aA.out).2.2 aa p107 q107
   cases e107
   replace p107 := eq_true p107
   replace q107 := eq_true q107
   go_upto_region 11 with (first | ((with_reducible refine gate_dst (N := 8) rfl ?_); (try (refine gate_guard (by rfl) ?_; dsimp only)); refine box_event ?hg (N := 8) ?hd (cs := #[.int .i64 0, .int .i64 0, .int .i64 0]) (t := 106) ?hr ?_; (case hd => rfl); (case hg => rfl); (case hr => first | (go_simp; done) | (go_simp; rfl)); intro ag hg w14 hbox hb; have aT := Aside0.mk (Kd.V_below (Kd.V_elderB aw.out ag (Nat.le_of_eq hg.symm)) hb); have aR := Aside0.mk (Kd.R_below (Kd.R_elderB aA.out ag (Nat.le_of_eq hg.symm)) hb); have aQ := Aside0.mk (Kd.V_below (Kd.V_elderB ae.out ag (Nat.le_of_eq hg.symm)) hb); have aW := Aside0.mk (Kd.S_below af.out hb); have aV := Aside0.mk (Kd.S_below ac.out hb); have bd := Aside0.mk (Kd.R_below ad.out hb); have bc := Aside0.mk (blk_below (g := ao) (o := .cells #[.slice none 0 0, .slice none 0 0, .slice none 0 0, .slice none 0 0] 32 (0, 0)) am.out hb); have bb := Aside0.mk (blk_below (g := an) (o := .cells #[.slice A0 l0.length c0, ak, ai, al] 32 (0, 0)) ah.out hb); have bh := Aside0.mk (below_step HB.out hb); have bg := Aside0.mk (hbox); have aN := Aside0.mk ((by rw [hg]; exact (below_size HB.out) : w.heap.size ≤ ag)); have aU := Aside0.mk ((by rw [hg]; exact (below_size HB.out) : w.heap.size ≤ ag)); have ba := Aside0.mk ((by rw [hg]; exact Nat.ne_of_lt (blk_lt (g := ao) (o := .cells #[.slice none 0 0, .slice none 0 0, .slice none 0 0, .slice none 0 0] 32 (0, 0)) am.out) : ao ≠ ag)); have bD := Aside0.mk ((by rw [hg]; exact Nat.ne_of_gt (blk_lt (g := ao) (o := .cells #[.slice none 0 0, .slice none 0 0, .slice none 0 0, .slice none 0 0] 32 (0, 0)) am.out) : ag ≠ ao)); have de := Aside0.mk ((by rw [hg]; exact Nat.ne_of_lt (blk_lt (g := an) (o := .cells #[.slice A0 l0.length c0, ak, ai, al] 32 (0, 0)) ah.out) : an ≠ ag)); have dd := Aside0.mk ((by rw [hg]; exact Nat.ne_of_gt (blk_lt (g := an) (o := .cells #[.slice A0 l0.length c0, ak, ai, al] 32 (0, 0)) ah.out) : ag ≠ an)); clear aw; clear aA; clear ae; clear af; clear ac; clear ad; clear am; clear ah; clear HB; have aw := aT; have aA := aR; have ae := aQ; have af := aW; have ac := aV; have ad := bd; have am := bc; have ah := bb; have HB := bh; have aj := bg; have ft := aN; have aG := aU; have aY := ba; have bO := bD; have aX := de; have bl := dd; clear aT aR aQ aW aV bd bc bb bh bg aN aU ba bD de dd; clear hb hbox hg; have hnb15 := bO.out; have hnc15 := aY.out; have hnb16 := bl.out; have hnc16 := aX.out; have bA : w14.cell? ⟨ag, 0, none⟩ = some (.int .i64 0) := (blk_cell aj.out 0).trans rfl; have bz : w14.cell? ⟨ag, 1, none⟩ = some (.int .i64 0) := (blk_cell aj.out 1).trans rfl; have bx : w14.cell? ⟨ag, 2, none⟩ = some (.int .i64 0) := (blk_cell aj.out 2).trans rfl; have bw := blk_frozen aj.out 0; have bv := blk_frozen aj.out 1; have bu := blk_frozen aj.out 2))
   (try simp only [Act.put, setIfInBounds_toArray, set_cons_zero, set_cons_succ])
   go_cut [10] (fun v10 wc => ∃ (kq : Nat) (aK : Bool), v10 = .bool aK ∧ Aside0 (wordbookref15_Build.j1 kq l0 ab aa ((rd_T106 ab aa).f0) aK l0 ar aq ap ((rd_T106 ab aa).f0) ((rd_T106 ab aa).f1) ((rd_T106 ab aa).f2) = some (r1, r2, r3, r4, r5)) ∧ Aside0 (kq ≤ k1) ∧ Aside0 (Kd.V (Kd.slice 3 (Kd.int .i64)) 22 wc w.heap.size (fun k_ => (P0_ k_ ∨ w.heap.size ≤ k_) ∧ some k_ ≠ ((.slice (some ad107) ab.length bW) : Value).ownBlock ∧ some k_ ≠ (ak : Value).ownBlock ∧ some k_ ≠ (ai : Value).ownBlock ∧ some k_ ≠ (al : Value).ownBlock ∧ k_ ≠ ao ∧ k_ ≠ an ∧ k_ ≠ ag) (.slice A0 l0.length c0) l0) ∧ Aside0 (Kd.R k106 106 wc w.heap.size (fun k_ => (w.heap.size ≤ k_) ∧ k_ ≠ ag) (.slice (some ad107) ab.length bW) ab) ∧ Aside0 (Kd.V (Kd.slice 3 (Kd.int .i64)) 22 wc w.heap.size (fun k_ => (P0_ k_ ∨ w.heap.size ≤ k_) ∧ some k_ ≠ ((.slice (some ad107) ab.length bW) : Value).ownBlock ∧ some k_ ≠ (ak : Value).ownBlock ∧ some k_ ≠ (ai : Value).ownBlock ∧ some k_ ≠ (al : Value).ownBlock ∧ k_ ≠ ao ∧ k_ ≠ an ∧ k_ ≠ ag) (.slice A0 l0.length c0) l0) ∧ Aside0 (Kd.S (Kd.slice 3 (Kd.int .i64)) 22 wc w.heap.size (fun k_ => (w.heap.size ≤ k_) ∧ some k_ ≠ (ai : Value).ownBlock) ak ar) ∧ Aside0 (Kd.S (Kd.slice 3 (Kd.int .i64)) 22 wc w.heap.size (fun k_ => (w.heap.size ≤ k_) ∧ some k_ ≠ (ak : Value).ownBlock) ai aq) ∧ Aside0 (Kd.R Kd.bool 4 wc w.heap.size (fun k_ => (w.heap.size ≤ k_)) al ap) ∧ Aside0 (wc.heap[ao]? = some (.cells #[(.slice none 0 0), (.slice none 0 0), (.slice none 0 0), (.slice none 0 0)] 32 (0, 0))) ∧ Aside0 (wc.heap[an]? = some (.cells #[(.slice A0 l0.length c0), ak, ai, al] 32 (0, 0))) ∧ Aside0 (wc.heap[ag]? = some (.cells #[.int .i64 ((rd_T106 ab aa).f0), .int .i64 ((rd_T106 ab aa).f1), .int .i64 ((rd_T106 ab aa).f2)] 106 (0, 0))) ∧ Aside0 (Below w.heap.size w wc))
   case first =>
    have H := HC12.out
    clear HC12
    by_cases c18 : ((rd_T106 ab aa).f0) < ((rd_T106 ab aa).f1)
    ·
     rw [if_pos c18] at H
     have bB : decide (((rd_T106 ab aa).f0) < ((rd_T106 ab aa).f1)) = true := decide_eq_true c18
     clear c18
     (first | rw [bB] | (simp only [i64_w, i32_w]; rw [bB]) | skip)
     have c19 : 0 ≤ ((rd_T106 ab aa).f0) := Classical.byContradiction fun c_ => by rw [if_neg c_] at H; exact absurd H (by simp)
     rw [if_pos c19] at H
     have ci : decide (0 ≤ ((rd_T106 ab aa).f0)) = true := decide_eq_true c19
     clear c19
     have c20 : ((rd_T106 ab aa).f0) < (l0.length : Int) := Classical.byContradiction fun c_ => by rw [if_neg c_] at H; exact absurd H (by simp)
     rw [if_pos c20] at H
     have ch : decide (((rd_T106 ab aa).f0) < (l0.length : Int)) = true := decide_eq_true c20
     clear c20
     have H' := Aside0.mk H
     clear H
     try go_wp2
     have aT : Aside0 (Kd.V (Kd.slice 3 (Kd.int .i64)) 22 (((w14.setCell ⟨ag, 0, none⟩ (.int .i64 ((rd_T106 ab aa).f0))).setCell ⟨ag, 1, none⟩ (.int .i64 ((rd_T106 ab aa).f1))).setCell ⟨ag, 2, none⟩ (.int .i64 ((rd_T106 ab aa).f2))) w.heap.size (fun k_ => (P0_ k_ ∨ w.heap.size ≤ k_) ∧ some k_ ≠ (.slice (some ad107) ab.length bW : Value).ownBlock ∧ some k_ ≠ (ak : Value).ownBlock ∧ some k_ ≠ (ai : Value).ownBlock ∧ some k_ ≠ (al : Value).ownBlock ∧ k_ ≠ ao ∧ k_ ≠ an ∧ k_ ≠ ag) (.slice A0 l0.length c0) l0) := ⟨by exact Kd.V_mono (Kd.V_far (p := ⟨ag, 2, none⟩) (Kd.V_far (p := ⟨ag, 1, none⟩) (Kd.V_far (p := ⟨ag, 0, none⟩) (Kd.V_mono aw.out (fun k_ hk => (⟨hk, hk.2⟩ : _ ∧ k_ ≠ ag))) (fun _ hk => hk.2) (.int .i64 ((rd_T106 ab aa).f0))) (fun _ hk => hk.2) (.int .i64 ((rd_T106 ab aa).f1))) (fun _ hk => hk.2) (.int .i64 ((rd_T106 ab aa).f2))) (fun _ hk => ⟨hk.1.1.1, ⟨hk.1.1.2.1, ⟨hk.1.1.2.2.1, ⟨hk.1.1.2.2.2.1, ⟨hk.1.1.2.2.2.2.1, ⟨hk.1.1.2.2.2.2.2.1, ⟨hk.1.1.2.2.2.2.2.2, hk.1.2⟩⟩⟩⟩⟩⟩⟩)⟩
     have aR : Aside0 (Kd.R k106 106 (((w14.setCell ⟨ag, 0, none⟩ (.int .i64 ((rd_T106 ab aa).f0))).setCell ⟨ag, 1, none⟩ (.int .i64 ((rd_T106 ab aa).f1))).setCell ⟨ag, 2, none⟩ (.int .i64 ((rd_T106 ab aa).f2))) w.heap.size (fun k_ => (w.heap.size ≤ k_) ∧ k_ ≠ ag) (.slice (some ad107) ab.length bW) ab) := ⟨by exact Kd.R_mono (Kd.R_far (p := ⟨ag, 2, none⟩) (Kd.R_far (p := ⟨ag, 1, none⟩) (Kd.R_far (p := ⟨ag, 0, none⟩) (Kd.R_mono aA.out (fun k_ hk => (⟨hk, hk.2⟩ : _ ∧ k_ ≠ ag))) (fun _ hk => hk.2) (.int .i64 ((rd_T106 ab aa).f0))) (fun _ hk => hk.2) (.int .i64 ((rd_T106 ab aa).f1))) (fun _ hk => hk.2) (.int .i64 ((rd_T106 ab aa).f2))) (fun _ hk => ⟨hk.1.1, hk.1.2⟩)⟩
     have aQ : Aside0 (Kd.V (Kd.slice 3 (Kd.int .i64)) 22 (((w14.setCell ⟨ag, 0, none⟩ (.int .i64 ((rd_T106 ab aa).f0))).setCell ⟨ag, 1, none⟩ (.int .i64 ((rd_T106 ab aa).f1))).setCell ⟨ag, 2, none⟩ (.int .i64 ((rd_T106 ab aa).f2))) w.heap.size (fun k_ => (P0_ k_ ∨ w.heap.size ≤ k_) ∧ some k_ ≠ (.slice (some ad107) ab.length bW : Value).ownBlock ∧ some k_ ≠ (ak : Value).ownBlock ∧ some k_ ≠ (ai : Value).ownBlock ∧ some k_ ≠ (al : Value).ownBlock ∧ k_ ≠ ao ∧ k_ ≠ an ∧ k_ ≠ ag) (.slice A0 l0.length c0) l0) := ⟨by exact Kd.V_mono (Kd.V_far (p := ⟨ag, 2, none⟩) (Kd.V_far (p := ⟨ag, 1, none⟩) (Kd.V_far (p := ⟨ag, 0, none⟩) (Kd.V_mono ae.out (fun k_ hk => (⟨hk, hk.2⟩ : _ ∧ k_ ≠ ag))) (fun _ hk => hk.2) (.int .i64 ((rd_T106 ab aa).f0))) (fun _ hk => hk.2) (.int .i64 ((rd_T106 ab aa).f1))) (fun _ hk => hk.2) (.int .i64 ((rd_T106 ab aa).f2))) (fun _ hk => ⟨hk.1.1.1, ⟨hk.1.1.2.1, ⟨hk.1.1.2.2.1, ⟨hk.1.1.2.2.2.1, ⟨hk.1.1.2.2.2.2.1, ⟨hk.1.1.2.2.2.2.2.1, ⟨hk.1.1.2.2.2.2.2.2, hk.1.2⟩⟩⟩⟩⟩⟩⟩)⟩
     have aW : Aside0 (Kd.S (Kd.slice 3 (Kd.int .i64)) 22 (((w14.setCell ⟨ag, 0, none⟩ (.int .i64 ((rd_T106 ab aa).f0))).setCell ⟨ag, 1, none⟩ (.int .i64 ((rd_T106 ab aa).f1))).setCell ⟨ag, 2, none⟩ (.int .i64 ((rd_T106 ab aa).f2))) w.heap.size (fun k_ => (w.heap.size ≤ k_) ∧ some k_ ≠ (ai : Value).ownBlock) ak ar) := ⟨by exact Kd.S_mono (Kd.S_far (p := ⟨ag, 2, none⟩) (Kd.S_far (p := ⟨ag, 1, none⟩) (Kd.S_far (p := ⟨ag, 0, none⟩) (Kd.S_types af.out aj.out (by decide)) (fun _ hk => hk.2) (.int .i64 ((rd_T106 ab aa).f0))) (fun _ hk => hk.2) (.int .i64 ((rd_T106 ab aa).f1))) (fun _ hk => hk.2) (.int .i64 ((rd_T106 ab aa).f2))) (fun _ hk => ⟨hk.1.1, hk.1.2⟩)⟩
     have aV : Aside0 (Kd.S (Kd.slice 3 (Kd.int .i64)) 22 (((w14.setCell ⟨ag, 0, none⟩ (.int .i64 ((rd_T106 ab aa).f0))).setCell ⟨ag, 1, none⟩ (.int .i64 ((rd_T106 ab aa).f1))).setCell ⟨ag, 2, none⟩ (.int .i64 ((rd_T106 ab aa).f2))) w.heap.size (fun k_ => (w.heap.size ≤ k_) ∧ some k_ ≠ (ak : Value).ownBlock) ai aq) := ⟨by exact Kd.S_mono (Kd.S_far (p := ⟨ag, 2, none⟩) (Kd.S_far (p := ⟨ag, 1, none⟩) (Kd.S_far (p := ⟨ag, 0, none⟩) (Kd.S_types ac.out aj.out (by decide)) (fun _ hk => hk.2) (.int .i64 ((rd_T106 ab aa).f0))) (fun _ hk => hk.2) (.int .i64 ((rd_T106 ab aa).f1))) (fun _ hk => hk.2) (.int .i64 ((rd_T106 ab aa).f2))) (fun _ hk => ⟨hk.1.1, hk.1.2⟩)⟩
     have bd : Aside0 (Kd.R Kd.bool 4 (((w14.setCell ⟨ag, 0, none⟩ (.int .i64 ((rd_T106 ab aa).f0))).setCell ⟨ag, 1, none⟩ (.int .i64 ((rd_T106 ab aa).f1))).setCell ⟨ag, 2, none⟩ (.int .i64 ((rd_T106 ab aa).f2))) w.heap.size (fun k_ => (w.heap.size ≤ k_)) al ap) := ⟨by exact Kd.R_mono (Kd.R_far (p := ⟨ag, 2, none⟩) (Kd.R_far (p := ⟨ag, 1, none⟩) (Kd.R_far (p := ⟨ag, 0, none⟩) (Kd.R_types ad.out aj.out (by decide)) (fun _ hk => hk.2) (.int .i64 ((rd_T106 ab aa).f0))) (fun _ hk => hk.2) (.int .i64 ((rd_T106 ab aa).f1))) (fun _ hk => hk.2) (.int .i64 ((rd_T106 ab aa).f2))) (fun _ hk => hk.1)⟩
     have bc : Aside0 ((((w14.setCell ⟨ag, 0, none⟩ (.int .i64 ((rd_T106 ab aa).f0))).setCell ⟨ag, 1, none⟩ (.int .i64 ((rd_T106 ab aa).f1))).setCell ⟨ag, 2, none⟩ (.int .i64 ((rd_T106 ab aa).f2))).heap[ao]? = some (.cells #[.slice none 0 0, .slice none 0 0, .slice none 0 0, .slice none 0 0] 32 (0, 0))) := ⟨by refine blk_far ?_ aY.out _; refine blk_far ?_ aY.out _; refine blk_far ?_ aY.out _; exact am.out⟩
     have bb : Aside0 ((((w14.setCell ⟨ag, 0, none⟩ (.int .i64 ((rd_T106 ab aa).f0))).setCell ⟨ag, 1, none⟩ (.int .i64 ((rd_T106 ab aa).f1))).setCell ⟨ag, 2, none⟩ (.int .i64 ((rd_T106 ab aa).f2))).heap[an]? = some (.cells #[.slice A0 l0.length c0, ak, ai, al] 32 (0, 0))) := ⟨by refine blk_far ?_ aX.out _; refine blk_far ?_ aX.out _; refine blk_far ?_ aX.out _; exact ah.out⟩
     have bh : Aside0 ((((w14.setCell ⟨ag, 0, none⟩ (.int .i64 ((rd_T106 ab aa).f0))).setCell ⟨ag, 1, none⟩ (.int .i64 ((rd_T106 ab aa).f1))).setCell ⟨ag, 2, none⟩ (.int .i64 ((rd_T106 ab aa).f2))).heap[ag]? = some (.cells #[.int .i64 ((rd_T106 ab aa).f0), .int .i64 ((rd_T106 ab aa).f1), .int .i64 ((rd_T106 ab aa).f2)] 106 (0, 0))) := ⟨by refine blk_put (cs := #[.int .i64 ((rd_T106 ab aa).f0), .int .i64 ((rd_T106 ab aa).f1), .int .i64 0]) ?_ 2 _ rfl; refine blk_put (cs := #[.int .i64 ((rd_T106 ab aa).f0), .int .i64 0, .int .i64 0]) ?_ 1 _ rfl; refine blk_put (cs := #[.int .i64 0, .int .i64 0, .int .i64 0]) ?_ 0 _ rfl; exact aj.out⟩
     have bg : Aside0 (Below w.heap.size w (((w14.setCell ⟨ag, 0, none⟩ (.int .i64 ((rd_T106 ab aa).f0))).setCell ⟨ag, 1, none⟩ (.int .i64 ((rd_T106 ab aa).f1))).setCell ⟨ag, 2, none⟩ (.int .i64 ((rd_T106 ab aa).f2)))) := ⟨by repeat (first | (with_reducible first | exact HB.out | apply below_alloc | apply pw_below_drewN | apply below_drew1 | refine below_set ?_ aD.out | refine below_set ?_ aE.out | refine below_set ?_ aG.out) | exact HB.out)⟩
     clear aw
     clear aA
     clear ae
     clear af
     clear ac
     clear ad
     clear am
     clear ah
     clear aj
     clear HB
     generalize (((w14.setCell ⟨ag, 0, none⟩ (.int .i64 ((rd_T106 ab aa).f0))).setCell ⟨ag, 1, none⟩ (.int .i64 ((rd_T106 ab aa).f1))).setCell ⟨ag, 2, none⟩ (.int .i64 ((rd_T106 ab aa).f2))) = w21 at aT aR aQ aW aV bd bc bb bh bg ⊢
     have aw := aT
     have aA := aR
     have ae := aQ
     have af := aW
     have ac := aV
     have ad := bd
     have am := bc
     have ah := bb
     have aj := bh
     have HB := bg
     clear aT aR aQ aW aV bd bc bb bh bg
     have aT := Aside0.mk (Kd.V_drew aw.out)
     have aR := Aside0.mk (Kd.R_drew aA.out)
     have aQ := Aside0.mk (Kd.V_drew ae.out)
     have aW := Aside0.mk (Kd.S_drew af.out)
     have aV := Aside0.mk (Kd.S_drew ac.out)
     have bd := Aside0.mk (Kd.R_drew ad.out)
     have bc := Aside0.mk (blk_drew am.out)
     have bb := Aside0.mk (blk_drew ah.out)
     have bh := Aside0.mk (blk_drew aj.out)
     have bg := Aside0.mk (below_drew1 HB.out)
     clear aw
     clear aA
     clear ae
     clear af
     clear ac
     clear ad
     clear am
     clear ah
     clear aj
     clear HB
     have aw := aT
     have aA := aR
     have ae := aQ
     have af := aW
     have ac := aV
     have ad := bd
     have am := bc
     have ah := bb
     have aj := bh
     have HB := bg
     clear aT aR aQ aW aV bd bc bb bh bg
     have p109 : 0 ≤ (((rd_T106 ab aa).f0) : Int) := of_decide_eq_true (by first | (with_reducible assumption) | assumption)
     have q109 : ((rd_T106 ab aa).f0) < (l0.length : Int) := of_decide_eq_true (by first | (with_reducible assumption) | assumption)
     obtain ⟨ad109, A109_0, c109_0, e109, bk, hl109_0, hi109_0⟩ := at_L2 (Kd.V_reads' aw.out).2.2 ((rd_T106 ab aa).f0) p109 q109
     cases e109
     obtain ⟨ce109, hce109, hMe109, hcc109⟩ := Kd.V_get aw.out [] ((rd_T106 ab aa).f0) p109 (by first | exact q109 | exact of_decide_eq_true (by first | (with_reducible assumption) | assumption) | (have e_ := (Kd.V_reads' aw.out).1; omega))
     obtain ⟨ua109_0, uc109_0, rfl, ul109_0, ge109_0⟩ := Kd.FK_slice_open hMe109
     have hv109_0 := hcc109 0 _ rfl
     rw [Nat.add_zero, show ((Kd.slice 3 (Kd.int .i64))).sz = 1 from rfl, Nat.mul_one] at hv109_0
     replace hv109_0 := Option.some.inj (hv109_0.symm.trans bk)
     injection hv109_0 with hva_ hvn_ hvc_
     rw [hva_] at ge109_0
     rw [hvc_] at ul109_0
     have HL109_0 := Aside0.mk (show Kd.V (Kd.int .i64) 3 _ w.heap.size _ _ (rd_L2 l0 ((rd_T106 ab aa).f0)) from Kd.V_mk ul109_0 ge109_0)
     clear hva_ hvn_ hvc_ ge109_0 ul109_0
     clear hcc109 hce109
     have HR109_0 := Aside0.mk hi109_0
     have HC109_0 := Aside0.mk hl109_0
     clear hi109_0 hl109_0
     replace p109 := eq_true p109
     replace q109 := eq_true q109
     refine start_ (n := 15) (S := fun w' => w'.cell? ⟨ag, 0, none⟩ = some (.int .i64 ((rd_T106 ab aa).f0)) ∧ w'.cell? ⟨ag, 1, none⟩ = some (.int .i64 ((rd_T106 ab aa).f1)) ∧ w'.cell? ⟨ag, 2, none⟩ = some (.int .i64 ((rd_T106 ab aa).f2)) ∧ w'.cell? (ad109.add (((rd_T106 ab aa).f0)).toNat) = some (.slice A109_0 (rd_L2 l0 ((rd_T106 ab aa).f0)).length c109_0)) (ds := []) #[false, false, false, false, false, false, false, false, false, false, false, false, false, false, false] (by kernel_rfl) rfl rfl ⟨(blk_cell aj.out 0).trans rfl, (blk_cell aj.out 1).trans rfl, (blk_cell aj.out 2).trans rfl, bk⟩ (fun hHeld => ?_); refine with_tabW wordbookref15_Build.tab11 wordbookref15_Build.bits11 (fun HT_ HW_ => ?_)
     generalize w21.drew = w22 at aw aA ae af ac ad am ah aj HB HL109_0 HR109_0 bk hHeld ⊢
     refine pure_ (i := 0) (N := some 40) (v := ?_) (a' := ?_) #[true, false, false, false, false, false, false, false, false, false, false, false, false, false, false] rfl rfl (any_of HT_.out (by kernel_rfl)) (fun _ _ _ h => h) (Or.inl ⟨by rfl, ?_⟩) ?_ ?_
     rotate_left
     ·
      intro w'
      go_simp
      with_reducible rfl
     rotate_left
     ·
      simp only [Act.put, setIfInBounds_toArray, set_cons_zero, set_cons_succ, i64_w, i32_w]
      rfl
     refine pure_ (i := 1) (N := some 41) (v := ?_) (a' := ?_) #[true, true, false, false, false, false, false, false, false, false, false, false, false, false, false] rfl rfl (any_of HT_.out (by kernel_rfl)) (fun _ _ _ h => h) (Or.inl ⟨by rfl, ?_⟩) ?_ ?_
     rotate_left
     ·
      intro w'
      go_simp
      with_reducible rfl
     rotate_left
     ·
      simp only [Act.put, setIfInBounds_toArray, set_cons_zero, set_cons_succ, i64_w, i32_w]
      rfl
     refine take_ (i := 2) (N := some 42) (v := ?_) (a' := ?_) #[true, true, true, false, false, false, false, false, false, false, false, false, false, false, false] rfl rfl (take_ofW HT_.out HW_.out (by kernel_rfl)) (fun _ _ _ h => h) (Or.inl ⟨by rfl, ?_⟩) hHeld ?_ ?_
     rotate_left
     ·
      rintro w' ⟨s0, s1, s2, s3⟩
      go_simp
      with_reducible rfl
     rotate_left
     ·
      simp only [Act.put, setIfInBounds_toArray, set_cons_zero, set_cons_succ, i64_w, i32_w]
      rfl
     refine pure_ (i := 3) (N := some 43) (v := ?_) (a' := ?_) #[true, true, true, true, false, false, false, false, false, false, false, false, false, false, false] rfl rfl (any_of HT_.out (by kernel_rfl)) (fun _ _ _ h => h) (Or.inl ⟨by rfl, ?_⟩) ?_ ?_
     rotate_left
     ·
      intro w'
      go_simp
      with_reducible rfl
     rotate_left
     ·
      simp only [Act.put, setIfInBounds_toArray, set_cons_zero, set_cons_succ, i64_w, i32_w]
      rfl
     refine pure_ (i := 4) (N := some 44) (v := ?_) (a' := ?_) #[true, true, true, true, true, false, false, false, false, false, false, false, false, false, false] rfl rfl (any_of HT_.out (by kernel_rfl)) (fun _ _ _ h => h) (Or.inl ⟨by rfl, ?_⟩) ?_ ?_
     rotate_left
     ·
      intro w'
      go_simp
      with_reducible rfl
     rotate_left
     ·
      simp only [Act.put, setIfInBounds_toArray, set_cons_zero, set_cons_succ, i64_w, i32_w]
      rfl
     refine pure_ (i := 5) (N := some 45) (v := ?_) (a' := ?_) #[true, true, true, true, true, true, false, false, false, false, false, false, false, false, false] rfl rfl (any_of HT_.out (by kernel_rfl)) (fun _ _ _ h => h) (Or.inl ⟨by rfl, ?_⟩) ?_ ?_
     rotate_left
     ·
      intro w'
      go_simp
      with_reducible rfl
     rotate_left
     ·
      simp only [Act.put, setIfInBounds_toArray, set_cons_zero, set_cons_succ, i64_w, i32_w]
      rfl
     refine pure_ (i := 6) (N := some 46) (v := ?_) (a' := ?_) #[true, true, true, true, true, true, true, false, false, false, false, false, false, false, false] rfl rfl (any_of HT_.out (by kernel_rfl)) (fun _ _ _ h => h) (Or.inl ⟨by rfl, ?_⟩) ?_ ?_
     rotate_left
     ·
      intro w'
      go_simp
      with_reducible rfl
     rotate_left
     ·
      simp only [Act.put, setIfInBounds_toArray, set_cons_zero, set_cons_succ, i64_w, i32_w]
      rfl
     refine pure_ (i := 7) (N := some 47) (v := ?_) (a' := ?_) #[true, true, true, true, true, true, true, true, false, false, false, false, false, false, false] rfl rfl (any_of HT_.out (by kernel_rfl)) (fun _ _ _ h => h) (Or.inl ⟨by rfl, ?_⟩) ?_ ?_
     rotate_left
     ·
      intro w'
      go_simp
      with_reducible rfl
     rotate_left
     ·
      simp only [Act.put, setIfInBounds_toArray, set_cons_zero, set_cons_succ, i64_w, i32_w]
      rfl
     refine pure_ (i := 10) (N := some 50) (v := ?_) (a' := ?_) #[true, true, true, true, true, true, true, true, false, false, true, false, false, false, false] rfl rfl (any_of HT_.out (by kernel_rfl)) (fun _ _ _ h => h) (Or.inl ⟨by rfl, ?_⟩) ?_ ?_
     rotate_left
     ·
      intro w'
      go_simp
      with_reducible rfl
     rotate_left
     ·
      simp only [Act.put, setIfInBounds_toArray, set_cons_zero, set_cons_succ, i64_w, i32_w]
      rfl
     refine take_ (i := 8) (N := some 48) (v := ?_) (a' := ?_) #[true, true, true, true, true, true, true, true, true, false, true, false, false, false, false] rfl rfl (take_ofW HT_.out HW_.out (by kernel_rfl)) (fun _ _ _ h => h) (Or.inl ⟨by rfl, ?_⟩) hHeld ?_ ?_
     rotate_left
     ·
      rintro w' ⟨s0, s1, s2, s3⟩
      go_simp
      with_reducible rfl
     rotate_left
     ·
      simp only [Act.put, setIfInBounds_toArray, set_cons_zero, set_cons_succ, i64_w, i32_w]
      rfl
     refine pure_ (i := 9) (N := some 49) (v := ?_) (a' := ?_) #[true, true, true, true, true, true, true, true, true, true, true, false, false, false, false] rfl rfl (any_of HT_.out (by kernel_rfl)) (fun _ _ _ h => h) (Or.inl ⟨by rfl, ?_⟩) ?_ ?_
     rotate_left
     ·
      intro w'
      go_simp
      with_reducible rfl
     rotate_left
     ·
      simp only [Act.put, setIfInBounds_toArray, set_cons_zero, set_cons_succ, i64_w, i32_w]
      rfl
     refine take_ (i := 11) (N := some 51) (v := ?_) (a' := ?_) #[true, true, true, true, true, true, true, true, true, true, true, true, false, false, false] rfl rfl (take_ofW HT_.out HW_.out (by kernel_rfl)) (fun _ _ _ h => h) (Or.inl ⟨by rfl, ?_⟩) hHeld ?_ ?_
     rotate_left
     ·
      rintro w' ⟨s0, s1, s2, s3⟩
      go_simp
      with_reducible rfl
     rotate_left
     ·
      simp only [Act.put, setIfInBounds_toArray, set_cons_zero, set_cons_succ, i64_w, i32_w]
      rfl
     refine pure_ (i := 12) (N := some 52) (v := ?_) (a' := ?_) #[true, true, true, true, true, true, true, true, true, true, true, true, true, false, false] rfl rfl (any_of HT_.out (by kernel_rfl)) (fun _ _ _ h => h) (Or.inl ⟨by rfl, ?_⟩) ?_ ?_
     rotate_left
     ·
      intro w'
      go_simp
      with_reducible rfl
     rotate_left
     ·
      simp only [Act.put, setIfInBounds_toArray, set_cons_zero, set_cons_succ, i64_w, i32_w]
      rfl
     refine pure_ (i := 13) (N := some 53) (v := ?_) (a' := ?_) #[true, true, true, true, true, true, true, true, true, true, true, true, true, true, false] rfl rfl (any_of HT_.out (by kernel_rfl)) (fun _ _ _ h => h) (Or.inl ⟨by rfl, ?_⟩) ?_ ?_
     rotate_left
     ·
      intro w'
      go_simp
      with_reducible rfl
     rotate_left
     ·
      simp only [Act.put, setIfInBounds_toArray, set_cons_zero, set_cons_succ, i64_w, i32_w]
      rfl
     refine pure_ (i := 14) (N := some 10) (v := ?_) (a' := ?_) #[true, true, true, true, true, true, true, true, true, true, true, true, true, true, true] rfl rfl (any_of HT_.out (by kernel_rfl)) (fun _ _ _ h => h) (Or.inl ⟨by rfl, ?_⟩) ?_ ?_
     rotate_left
     ·
      intro w'
      go_simp
      with_reducible rfl
     rotate_left
     ·
      simp only [Act.put, setIfInBounds_toArray, set_cons_zero, set_cons_succ, i64_w, i32_w]
      rfl
     refine done_ (done_of HT_.out (by kernel_rfl)) ?_
     try go_wp2
     go_meet
     case rel => exact ⟨_, ((((rd_L2 l0 ((rd_T106 ab aa).f0)).length : Int) == ((rd_T106 ab aa).f2))), (by first | rfl | (simp; done) | (simp [*]; done)), H', ⟨by have := cD.out; first | omega | exact Nat.le_refl _⟩, ⟨aw.out⟩, ⟨aA.out⟩, ⟨ae.out⟩, ⟨af.out⟩, ⟨ac.out⟩, ⟨ad.out⟩, ⟨am.out⟩, ⟨ah.out⟩, ⟨aj.out⟩, ⟨HB.out⟩⟩
    rw [if_neg c18] at H
    have bB : decide (((rd_T106 ab aa).f0) < ((rd_T106 ab aa).f1)) = false := decide_eq_false c18
    clear c18
    (first | rw [bB] | (simp only [i64_w, i32_w]; rw [bB]) | skip)
    have H' := Aside0.mk H
    clear H
    try go_wp2
    have aT : Aside0 (Kd.V (Kd.slice 3 (Kd.int .i64)) 22 (((w14.setCell ⟨ag, 0, none⟩ (.int .i64 ((rd_T106 ab aa).f0))).setCell ⟨ag, 1, none⟩ (.int .i64 ((rd_T106 ab aa).f1))).setCell ⟨ag, 2, none⟩ (.int .i64 ((rd_T106 ab aa).f2))) w.heap.size (fun k_ => (P0_ k_ ∨ w.heap.size ≤ k_) ∧ some k_ ≠ (.slice (some ad107) ab.length bW : Value).ownBlock ∧ some k_ ≠ (ak : Value).ownBlock ∧ some k_ ≠ (ai : Value).ownBlock ∧ some k_ ≠ (al : Value).ownBlock ∧ k_ ≠ ao ∧ k_ ≠ an ∧ k_ ≠ ag) (.slice A0 l0.length c0) l0) := ⟨by exact Kd.V_mono (Kd.V_far (p := ⟨ag, 2, none⟩) (Kd.V_far (p := ⟨ag, 1, none⟩) (Kd.V_far (p := ⟨ag, 0, none⟩) (Kd.V_mono aw.out (fun k_ hk => (⟨hk, hk.2⟩ : _ ∧ k_ ≠ ag))) (fun _ hk => hk.2) (.int .i64 ((rd_T106 ab aa).f0))) (fun _ hk => hk.2) (.int .i64 ((rd_T106 ab aa).f1))) (fun _ hk => hk.2) (.int .i64 ((rd_T106 ab aa).f2))) (fun _ hk => ⟨hk.1.1.1, ⟨hk.1.1.2.1, ⟨hk.1.1.2.2.1, ⟨hk.1.1.2.2.2.1, ⟨hk.1.1.2.2.2.2.1, ⟨hk.1.1.2.2.2.2.2.1, ⟨hk.1.1.2.2.2.2.2.2, hk.1.2⟩⟩⟩⟩⟩⟩⟩)⟩
    have aR : Aside0 (Kd.R k106 106 (((w14.setCell ⟨ag, 0, none⟩ (.int .i64 ((rd_T106 ab aa).f0))).setCell ⟨ag, 1, none⟩ (.int .i64 ((rd_T106 ab aa).f1))).setCell ⟨ag, 2, none⟩ (.int .i64 ((rd_T106 ab aa).f2))) w.heap.size (fun k_ => (w.heap.size ≤ k_) ∧ k_ ≠ ag) (.slice (some ad107) ab.length bW) ab) := ⟨by exact Kd.R_mono (Kd.R_far (p := ⟨ag, 2, none⟩) (Kd.R_far (p := ⟨ag, 1, none⟩) (Kd.R_far (p := ⟨ag, 0, none⟩) (Kd.R_mono aA.out (fun k_ hk => (⟨hk, hk.2⟩ : _ ∧ k_ ≠ ag))) (fun _ hk => hk.2) (.int .i64 ((rd_T106 ab aa).f0))) (fun _ hk => hk.2) (.int .i64 ((rd_T106 ab aa).f1))) (fun _ hk => hk.2) (.int .i64 ((rd_T106 ab aa).f2))) (fun _ hk => ⟨hk.1.1, hk.1.2⟩)⟩
    have aQ : Aside0 (Kd.V (Kd.slice 3 (Kd.int .i64)) 22 (((w14.setCell ⟨ag, 0, none⟩ (.int .i64 ((rd_T106 ab aa).f0))).setCell ⟨ag, 1, none⟩ (.int .i64 ((rd_T106 ab aa).f1))).setCell ⟨ag, 2, none⟩ (.int .i64 ((rd_T106 ab aa).f2))) w.heap.size (fun k_ => (P0_ k_ ∨ w.heap.size ≤ k_) ∧ some k_ ≠ (.slice (some ad107) ab.length bW : Value).ownBlock ∧ some k_ ≠ (ak : Value).ownBlock ∧ some k_ ≠ (ai : Value).ownBlock ∧ some k_ ≠ (al : Value).ownBlock ∧ k_ ≠ ao ∧ k_ ≠ an ∧ k_ ≠ ag) (.slice A0 l0.length c0) l0) := ⟨by exact Kd.V_mono (Kd.V_far (p := ⟨ag, 2, none⟩) (Kd.V_far (p := ⟨ag, 1, none⟩) (Kd.V_far (p := ⟨ag, 0, none⟩) (Kd.V_mono ae.out (fun k_ hk => (⟨hk, hk.2⟩ : _ ∧ k_ ≠ ag))) (fun _ hk => hk.2) (.int .i64 ((rd_T106 ab aa).f0))) (fun _ hk => hk.2) (.int .i64 ((rd_T106 ab aa).f1))) (fun _ hk => hk.2) (.int .i64 ((rd_T106 ab aa).f2))) (fun _ hk => ⟨hk.1.1.1, ⟨hk.1.1.2.1, ⟨hk.1.1.2.2.1, ⟨hk.1.1.2.2.2.1, ⟨hk.1.1.2.2.2.2.1, ⟨hk.1.1.2.2.2.2.2.1, ⟨hk.1.1.2.2.2.2.2.2, hk.1.2⟩⟩⟩⟩⟩⟩⟩)⟩
    have aW : Aside0 (Kd.S (Kd.slice 3 (Kd.int .i64)) 22 (((w14.setCell ⟨ag, 0, none⟩ (.int .i64 ((rd_T106 ab aa).f0))).setCell ⟨ag, 1, none⟩ (.int .i64 ((rd_T106 ab aa).f1))).setCell ⟨ag, 2, none⟩ (.int .i64 ((rd_T106 ab aa).f2))) w.heap.size (fun k_ => (w.heap.size ≤ k_) ∧ some k_ ≠ (ai : Value).ownBlock) ak ar) := ⟨by exact Kd.S_mono (Kd.S_far (p := ⟨ag, 2, none⟩) (Kd.S_far (p := ⟨ag, 1, none⟩) (Kd.S_far (p := ⟨ag, 0, none⟩) (Kd.S_types af.out aj.out (by decide)) (fun _ hk => hk.2) (.int .i64 ((rd_T106 ab aa).f0))) (fun _ hk => hk.2) (.int .i64 ((rd_T106 ab aa).f1))) (fun _ hk => hk.2) (.int .i64 ((rd_T106 ab aa).f2))) (fun _ hk => ⟨hk.1.1, hk.1.2⟩)⟩
    have aV : Aside0 (Kd.S (Kd.slice 3 (Kd.int .i64)) 22 (((w14.setCell ⟨ag, 0, none⟩ (.int .i64 ((rd_T106 ab aa).f0))).setCell ⟨ag, 1, none⟩ (.int .i64 ((rd_T106 ab aa).f1))).setCell ⟨ag, 2, none⟩ (.int .i64 ((rd_T106 ab aa).f2))) w.heap.size (fun k_ => (w.heap.size ≤ k_) ∧ some k_ ≠ (ak : Value).ownBlock) ai aq) := ⟨by exact Kd.S_mono (Kd.S_far (p := ⟨ag, 2, none⟩) (Kd.S_far (p := ⟨ag, 1, none⟩) (Kd.S_far (p := ⟨ag, 0, none⟩) (Kd.S_types ac.out aj.out (by decide)) (fun _ hk => hk.2) (.int .i64 ((rd_T106 ab aa).f0))) (fun _ hk => hk.2) (.int .i64 ((rd_T106 ab aa).f1))) (fun _ hk => hk.2) (.int .i64 ((rd_T106 ab aa).f2))) (fun _ hk => ⟨hk.1.1, hk.1.2⟩)⟩
    have bd : Aside0 (Kd.R Kd.bool 4 (((w14.setCell ⟨ag, 0, none⟩ (.int .i64 ((rd_T106 ab aa).f0))).setCell ⟨ag, 1, none⟩ (.int .i64 ((rd_T106 ab aa).f1))).setCell ⟨ag, 2, none⟩ (.int .i64 ((rd_T106 ab aa).f2))) w.heap.size (fun k_ => (w.heap.size ≤ k_)) al ap) := ⟨by exact Kd.R_mono (Kd.R_far (p := ⟨ag, 2, none⟩) (Kd.R_far (p := ⟨ag, 1, none⟩) (Kd.R_far (p := ⟨ag, 0, none⟩) (Kd.R_types ad.out aj.out (by decide)) (fun _ hk => hk.2) (.int .i64 ((rd_T106 ab aa).f0))) (fun _ hk => hk.2) (.int .i64 ((rd_T106 ab aa).f1))) (fun _ hk => hk.2) (.int .i64 ((rd_T106 ab aa).f2))) (fun _ hk => hk.1)⟩
    have bc : Aside0 ((((w14.setCell ⟨ag, 0, none⟩ (.int .i64 ((rd_T106 ab aa).f0))).setCell ⟨ag, 1, none⟩ (.int .i64 ((rd_T106 ab aa).f1))).setCell ⟨ag, 2, none⟩ (.int .i64 ((rd_T106 ab aa).f2))).heap[ao]? = some (.cells #[.slice none 0 0, .slice none 0 0, .slice none 0 0, .slice none 0 0] 32 (0, 0))) := ⟨by refine blk_far ?_ aY.out _; refine blk_far ?_ aY.out _; refine blk_far ?_ aY.out _; exact am.out⟩
    have bb : Aside0 ((((w14.setCell ⟨ag, 0, none⟩ (.int .i64 ((rd_T106 ab aa).f0))).setCell ⟨ag, 1, none⟩ (.int .i64 ((rd_T106 ab aa).f1))).setCell ⟨ag, 2, none⟩ (.int .i64 ((rd_T106 ab aa).f2))).heap[an]? = some (.cells #[.slice A0 l0.length c0, ak, ai, al] 32 (0, 0))) := ⟨by refine blk_far ?_ aX.out _; refine blk_far ?_ aX.out _; refine blk_far ?_ aX.out _; exact ah.out⟩
    have bh : Aside0 ((((w14.setCell ⟨ag, 0, none⟩ (.int .i64 ((rd_T106 ab aa).f0))).setCell ⟨ag, 1, none⟩ (.int .i64 ((rd_T106 ab aa).f1))).setCell ⟨ag, 2, none⟩ (.int .i64 ((rd_T106 ab aa).f2))).heap[ag]? = some (.cells #[.int .i64 ((rd_T106 ab aa).f0), .int .i64 ((rd_T106 ab aa).f1), .int .i64 ((rd_T106 ab aa).f2)] 106 (0, 0))) := ⟨by refine blk_put (cs := #[.int .i64 ((rd_T106 ab aa).f0), .int .i64 ((rd_T106 ab aa).f1), .int .i64 0]) ?_ 2 _ rfl; refine blk_put (cs := #[.int .i64 ((rd_T106 ab aa).f0), .int .i64 0, .int .i64 0]) ?_ 1 _ rfl; refine blk_put (cs := #[.int .i64 0, .int .i64 0, .int .i64 0]) ?_ 0 _ rfl; exact aj.out⟩
    have bg : Aside0 (Below w.heap.size w (((w14.setCell ⟨ag, 0, none⟩ (.int .i64 ((rd_T106 ab aa).f0))).setCell ⟨ag, 1, none⟩ (.int .i64 ((rd_T106 ab aa).f1))).setCell ⟨ag, 2, none⟩ (.int .i64 ((rd_T106 ab aa).f2)))) := ⟨by repeat (first | (with_reducible first | exact HB.out | apply below_alloc | apply pw_below_drewN | apply below_drew1 | refine below_set ?_ aD.out | refine below_set ?_ aE.out | refine below_set ?_ aG.out) | exact HB.out)⟩
    clear aw
    clear aA
    clear ae
    clear af
    clear ac
    clear ad
    clear am
    clear ah
    clear aj
    clear HB
    generalize (((w14.setCell ⟨ag, 0, none⟩ (.int .i64 ((rd_T106 ab aa).f0))).setCell ⟨ag, 1, none⟩ (.int .i64 ((rd_T106 ab aa).f1))).setCell ⟨ag, 2, none⟩ (.int .i64 ((rd_T106 ab aa).f2))) = w23 at aT aR aQ aW aV bd bc bb bh bg ⊢
    have aw := aT
    have aA := aR
    have ae := aQ
    have af := aW
    have ac := aV
    have ad := bd
    have am := bc
    have ah := bb
    have aj := bh
    have HB := bg
    clear aT aR aQ aW aV bd bc bb bh bg
    have aT := Aside0.mk (Kd.V_drew aw.out)
    have aR := Aside0.mk (Kd.R_drew aA.out)
    have aQ := Aside0.mk (Kd.V_drew ae.out)
    have aW := Aside0.mk (Kd.S_drew af.out)
    have aV := Aside0.mk (Kd.S_drew ac.out)
    have bd := Aside0.mk (Kd.R_drew ad.out)
    have bc := Aside0.mk (blk_drew am.out)
    have bb := Aside0.mk (blk_drew ah.out)
    have bh := Aside0.mk (blk_drew aj.out)
    have bg := Aside0.mk (below_drew1 HB.out)
    clear aw
    clear aA
    clear ae
    clear af
    clear ac
    clear ad
    clear am
    clear ah
    clear aj
    clear HB
    have aw := aT
    have aA := aR
    have ae := aQ
    have af := aW
    have ac := aV
    have ad := bd
    have am := bc
    have ah := bb
    have aj := bh
    have HB := bg
    clear aT aR aQ aW aV bd bc bb bh bg
    refine start_ (n := 15) (S := fun w' => w'.cell? ⟨ag, 0, none⟩ = some (.int .i64 ((rd_T106 ab aa).f0)) ∧ w'.cell? ⟨ag, 1, none⟩ = some (.int .i64 ((rd_T106 ab aa).f1)) ∧ w'.cell? ⟨ag, 2, none⟩ = some (.int .i64 ((rd_T106 ab aa).f2))) (ds := []) #[false, false, false, false, false, false, false, false, false, false, false, false, false, false, false] (by kernel_rfl) rfl rfl ⟨(blk_cell aj.out 0).trans rfl, (blk_cell aj.out 1).trans rfl, (blk_cell aj.out 2).trans rfl⟩ (fun hHeld => ?_); refine with_tabW wordbookref15_Build.tab11 wordbookref15_Build.bits11 (fun HT_ HW_ => ?_)
    generalize w23.drew = w24 at aw aA ae af ac ad am ah aj HB hHeld ⊢
    refine pure_ (i := 0) (N := some 40) (v := ?_) (a' := ?_) #[true, false, false, false, false, false, false, false, false, false, false, false, false, false, false] rfl rfl (any_of HT_.out (by kernel_rfl)) (fun _ _ _ h => h) (Or.inl ⟨by rfl, ?_⟩) ?_ ?_
    rotate_left
    ·
     intro w'
     go_simp
     with_reducible rfl
    rotate_left
    ·
     simp only [Act.put, setIfInBounds_toArray, set_cons_zero, set_cons_succ, i64_w, i32_w]
     rfl
    refine pure_ (i := 1) (N := some 41) (v := ?_) (a' := ?_) #[true, true, false, false, false, false, false, false, false, false, false, false, false, false, false] rfl rfl (any_of HT_.out (by kernel_rfl)) (fun _ _ _ h => h) (Or.inl ⟨by rfl, ?_⟩) ?_ ?_
    rotate_left
    ·
     intro w'
     go_simp
     with_reducible rfl
    rotate_left
    ·
     simp only [Act.put, setIfInBounds_toArray, set_cons_zero, set_cons_succ, i64_w, i32_w]
     rfl
    refine take_ (i := 2) (N := some 42) (v := ?_) (a' := ?_) #[true, true, true, false, false, false, false, false, false, false, false, false, false, false, false] rfl rfl (take_ofW HT_.out HW_.out (by kernel_rfl)) (fun _ _ _ h => h) (Or.inl ⟨by rfl, ?_⟩) hHeld ?_ ?_
    rotate_left
    ·
     rintro w' ⟨s0, s1, s2⟩
     go_simp
     with_reducible rfl
    rotate_left
    ·
     simp only [Act.put, setIfInBounds_toArray, set_cons_zero, set_cons_succ, i64_w, i32_w]
     rfl
    refine pure_ (i := 3) (N := some 43) (v := ?_) (a' := ?_) #[true, true, true, true, false, false, false, false, false, false, false, false, false, false, false] rfl rfl (any_of HT_.out (by kernel_rfl)) (fun _ _ _ h => h) (Or.inl ⟨by rfl, ?_⟩) ?_ ?_
    rotate_left
    ·
     intro w'
     go_simp
     with_reducible rfl
    rotate_left
    ·
     simp only [Act.put, setIfInBounds_toArray, set_cons_zero, set_cons_succ, i64_w, i32_w]
     rfl
    refine pure_ (i := 4) (N := some 44) (v := ?_) (a' := ?_) #[true, true, true, true, true, false, false, false, false, false, false, false, false, false, false] rfl rfl (any_of HT_.out (by kernel_rfl)) (fun _ _ _ h => h) (Or.inl ⟨by rfl, ?_⟩) ?_ ?_
    rotate_left
    ·
     intro w'
     go_simp
     with_reducible rfl
    rotate_left
    ·
     simp only [Act.put, setIfInBounds_toArray, set_cons_zero, set_cons_succ, i64_w, i32_w]
     rfl
    refine pure_ (i := 5) (N := some 45) (v := undef) (a' := ?_) #[true, true, true, true, true, true, false, false, false, false, false, false, false, false, false] rfl rfl (any_of HT_.out (by kernel_rfl)) (fun _ _ _ h => h) (Or.inr ⟨by rfl, rfl⟩) ?_ ?_
    rotate_left
    ·
     simp only [Act.put, setIfInBounds_toArray, set_cons_zero, set_cons_succ, i64_w, i32_w]
     rfl
    refine pure_ (i := 6) (N := some 46) (v := undef) (a' := ?_) #[true, true, true, true, true, true, true, false, false, false, false, false, false, false, false] rfl rfl (any_of HT_.out (by kernel_rfl)) (fun _ _ _ h => h) (Or.inr ⟨by rfl, rfl⟩) ?_ ?_
    rotate_left
    ·
     simp only [Act.put, setIfInBounds_toArray, set_cons_zero, set_cons_succ, i64_w, i32_w]
     rfl
    refine pure_ (i := 7) (N := some 47) (v := undef) (a' := ?_) #[true, true, true, true, true, true, true, true, false, false, false, false, false, false, false] rfl rfl (any_of HT_.out (by kernel_rfl)) (fun _ _ _ h => h) (Or.inr ⟨by rfl, rfl⟩) ?_ ?_
    rotate_left
    ·
     simp only [Act.put, setIfInBounds_toArray, set_cons_zero, set_cons_succ, i64_w, i32_w]
     rfl
    refine pure_ (i := 8) (N := some 48) (v := undef) (a' := ?_) #[true, true, true, true, true, true, true, true, true, false, false, false, false, false, false] rfl rfl (any_of HT_.out (by kernel_rfl)) (fun _ _ _ h => h) (Or.inr ⟨by rfl, rfl⟩) ?_ ?_
    rotate_left
    ·
     simp only [Act.put, setIfInBounds_toArray, set_cons_zero, set_cons_succ, i64_w, i32_w]
     rfl
    refine pure_ (i := 9) (N := some 49) (v := undef) (a' := ?_) #[true, true, true, true, true, true, true, true, true, true, false, false, false, false, false] rfl rfl (any_of HT_.out (by kernel_rfl)) (fun _ _ _ h => h) (Or.inr ⟨by rfl, rfl⟩) ?_ ?_
    rotate_left
    ·
     simp only [Act.put, setIfInBounds_toArray, set_cons_zero, set_cons_succ, i64_w, i32_w]
     rfl
    refine pure_ (i := 10) (N := some 50) (v := undef) (a' := ?_) #[true, true, true, true, true, true, true, true, true, true, true, false, false, false, false] rfl rfl (any_of HT_.out (by kernel_rfl)) (fun _ _ _ h => h) (Or.inr ⟨by rfl, rfl⟩) ?_ ?_
    rotate_left
    ·
     simp only [Act.put, setIfInBounds_toArray, set_cons_zero, set_cons_succ, i64_w, i32_w]
     rfl
    refine pure_ (i := 11) (N := some 51) (v := undef) (a' := ?_) #[true, true, true, true, true, true, true, true, true, true, true, true, false, false, false] rfl rfl (any_of HT_.out (by kernel_rfl)) (fun _ _ _ h => h) (Or.inr ⟨by rfl, rfl⟩) ?_ ?_
    rotate_left
    ·
     simp only [Act.put, setIfInBounds_toArray, set_cons_zero, set_cons_succ, i64_w, i32_w]
     rfl
    refine pure_ (i := 12) (N := some 52) (v := undef) (a' := ?_) #[true, true, true, true, true, true, true, true, true, true, true, true, true, false, false] rfl rfl (any_of HT_.out (by kernel_rfl)) (fun _ _ _ h => h) (Or.inr ⟨by rfl, rfl⟩) ?_ ?_
    rotate_left
    ·
     simp only [Act.put, setIfInBounds_toArray, set_cons_zero, set_cons_succ, i64_w, i32_w]
     rfl
    refine pure_ (i := 13) (N := some 53) (v := ?_) (a' := ?_) #[true, true, true, true, true, true, true, true, true, true, true, true, true, true, false] rfl rfl (any_of HT_.out (by kernel_rfl)) (fun _ _ _ h => h) (Or.inl ⟨by rfl, ?_⟩) ?_ ?_
    rotate_left
    ·
     intro w'
     go_simp
     with_reducible rfl
    rotate_left
    ·
     simp only [Act.put, setIfInBounds_toArray, set_cons_zero, set_cons_succ, i64_w, i32_w]
     rfl
    refine pure_ (i := 14) (N := some 10) (v := ?_) (a' := ?_) #[true, true, true, true, true, true, true, true, true, true, true, true, true, true, true] rfl rfl (any_of HT_.out (by kernel_rfl)) (fun _ _ _ h => h) (Or.inl ⟨by rfl, ?_⟩) ?_ ?_
    rotate_left
    ·
     intro w'
     go_simp
     with_reducible rfl
    rotate_left
    ·
     simp only [Act.put, setIfInBounds_toArray, set_cons_zero, set_cons_succ, i64_w, i32_w]
     rfl
    refine done_ (done_of HT_.out (by kernel_rfl)) ?_
    try go_wp2
    go_meet
    case rel => exact ⟨_, (false), (by first | rfl | (simp; done) | (simp [*]; done)), H', ⟨by have := cD.out; first | omega | exact Nat.le_refl _⟩, ⟨aw.out⟩, ⟨aA.out⟩, ⟨ae.out⟩, ⟨af.out⟩, ⟨ac.out⟩, ⟨ad.out⟩, ⟨am.out⟩, ⟨ah.out⟩, ⟨aj.out⟩, ⟨HB.out⟩⟩
   clear HC12
   clear bV cj bA bz bx bw bv bu bt bs br p107 q107
   obtain ⟨kq, aK, rfl, HA, bP, aw, aA, ae, af, ac, ad, am, ah, aj, HB⟩ := hcut
   cases kq with
   | zero => exact absurd HA.out (by simp [wordbookref15_Build.j1])
   | succ dv => ?_
   have H := HA.out
   clear HA
   simp only [wordbookref15_Build.j1] at H
   have HC25 := Aside0.mk H
   clear H
   go_upto_if 54 with (fail)
   go_cut [9] (fun v9 wc => ∃ (kq : Nat) (cJ : Int), v9 = .int .i64 cJ ∧ Aside0 (wordbookref15_Build.j2 kq l0 ab aa cJ aK l0 ar aq ap ((rd_T106 ab aa).f0) ((rd_T106 ab aa).f1) ((rd_T106 ab aa).f2) = some (r1, r2, r3, r4, r5)) ∧ Aside0 (kq ≤ dv) ∧ Aside0 (Kd.V (Kd.slice 3 (Kd.int .i64)) 22 wc w.heap.size (fun k_ => (P0_ k_ ∨ w.heap.size ≤ k_) ∧ some k_ ≠ ((.slice (some ad107) ab.length bW) : Value).ownBlock ∧ some k_ ≠ (ak : Value).ownBlock ∧ some k_ ≠ (ai : Value).ownBlock ∧ some k_ ≠ (al : Value).ownBlock ∧ k_ ≠ ao ∧ k_ ≠ an ∧ k_ ≠ ag) (.slice A0 l0.length c0) l0) ∧ Aside0 (Kd.R k106 106 wc w.heap.size (fun k_ => (w.heap.size ≤ k_) ∧ k_ ≠ ag) (.slice (some ad107) ab.length bW) ab) ∧ Aside0 (Kd.V (Kd.slice 3 (Kd.int .i64)) 22 wc w.heap.size (fun k_ => (P0_ k_ ∨ w.heap.size ≤ k_) ∧ some k_ ≠ ((.slice (some ad107) ab.length bW) : Value).ownBlock ∧ some k_ ≠ (ak : Value).ownBlock ∧ some k_ ≠ (ai : Value).ownBlock ∧ some k_ ≠ (al : Value).ownBlock ∧ k_ ≠ ao ∧ k_ ≠ an ∧ k_ ≠ ag) (.slice A0 l0.length c0) l0) ∧ Aside0 (Kd.S (Kd.slice 3 (Kd.int .i64)) 22 wc w.heap.size (fun k_ => (w.heap.size ≤ k_) ∧ some k_ ≠ (ai : Value).ownBlock) ak ar) ∧ Aside0 (Kd.S (Kd.slice 3 (Kd.int .i64)) 22 wc w.heap.size (fun k_ => (w.heap.size ≤ k_) ∧ some k_ ≠ (ak : Value).ownBlock) ai aq) ∧ Aside0 (Kd.R Kd.bool 4 wc w.heap.size (fun k_ => (w.heap.size ≤ k_)) al ap) ∧ Aside0 (wc.heap[ao]? = some (.cells #[(.slice none 0 0), (.slice none 0 0), (.slice none 0 0), (.slice none 0 0)] 32 (0, 0))) ∧ Aside0 (wc.heap[an]? = some (.cells #[(.slice A0 l0.length c0), ak, ai, al] 32 (0, 0))) ∧ Aside0 (wc.heap[ag]? = some (.cells #[.int .i64 ((rd_T106 ab aa).f0), .int .i64 ((rd_T106 ab aa).f1), .int .i64 ((rd_T106 ab aa).f2)] 106 (0, 0))) ∧ Aside0 (Below w.heap.size w wc))
   case first =>
    have H := HC25.out
    clear HC25
    by_cases c26 : aK = true
    ·
     subst c26
     have H1 : (wordbookref15_Build.j2 dv l0 ab aa (wrap64 (((rd_T106 ab aa).f0) + 1)) true l0 ar aq ap ((rd_T106 ab aa).f0) ((rd_T106 ab aa).f1) ((rd_T106 ab aa).f2)) = some (r1, r2, r3, r4, r5) := by rw [if_pos rfl] at H; exact H
     clear H
     have H := H1
     clear H1
     have H' := Aside0.mk H
     clear H
     go_wp2
     go_meet
     case rel => exact ⟨_, (wrap64 (((rd_T106 ab aa).f0) + 1)), (by first | rfl | (simp; done) | (simp [*]; done)), H', ⟨by have := cD.out; have := bP.out; first | omega | exact Nat.le_refl _⟩, ⟨aw.out⟩, ⟨aA.out⟩, ⟨ae.out⟩, ⟨af.out⟩, ⟨ac.out⟩, ⟨ad.out⟩, ⟨am.out⟩, ⟨ah.out⟩, ⟨aj.out⟩, ⟨HB.out⟩⟩
    replace c26 := Bool.eq_false_iff.mpr c26
    subst c26
    have H1 : (wordbookref15_Build.j2 dv l0 ab aa ((rd_T106 ab aa).f0) false l0 ar aq ap ((rd_T106 ab aa).f0) ((rd_T106 ab aa).f1) ((rd_T106 ab aa).f2)) = some (r1, r2, r3, r4, r5) := by rw [if_neg (show ¬ (false = true) by decide)] at H; exact H
    clear H
    have H := H1
    clear H1
    have H' := Aside0.mk H
    clear H
    go_wp2
    go_meet
    case rel => exact ⟨_, (((rd_T106 ab aa).f0)), (by first | rfl | (simp; done) | (simp [*]; done)), H', ⟨by have := cD.out; have := bP.out; first | omega | exact Nat.le_refl _⟩, ⟨aw.out⟩, ⟨aA.out⟩, ⟨ae.out⟩, ⟨af.out⟩, ⟨ac.out⟩, ⟨ad.out⟩, ⟨am.out⟩, ⟨ah.out⟩, ⟨aj.out⟩, ⟨HB.out⟩⟩
   clear HC25
   obtain ⟨kq, cJ, rfl, HA, bS, aw, aA, ae, af, ac, ad, am, ah, aj, HB⟩ := hcut
   cases kq with
   | zero => exact absurd HA.out (by simp [wordbookref15_Build.j2])
   | succ dE => ?_
   have H := HA.out
   clear HA
   simp only [wordbookref15_Build.j2] at H
   have H' := Aside0.mk H
   clear H
   go_wp2
   go_loopg [6, 9, 11, 12] dE (fun kq v6 v9 v11 v12 w' => ∃ (aJ : List (S106)) (ax : Int) (aM : List Int) (aI : List Int), v9 = .int .i64 ax ∧ Aside0 (wordbookref15_Build.l1 kq l0 aJ aa ax aK aM aI l0 ar aq ap ((rd_T106 ab aa).f0) ((rd_T106 ab aa).f1) ((rd_T106 ab aa).f2) = some (r1, r2, r3, r4, r5)) ∧ Aside0 (kq ≤ dE) ∧ Aside0 (Kd.V (Kd.slice 3 (Kd.int .i64)) 22 w' w.heap.size (fun k_ => (P0_ k_ ∨ w.heap.size ≤ k_) ∧ some k_ ≠ (v6 : Value).ownBlock ∧ some k_ ≠ (v11 : Value).ownBlock ∧ some k_ ≠ (v12 : Value).ownBlock ∧ some k_ ≠ (ak : Value).ownBlock ∧ some k_ ≠ (ai : Value).ownBlock ∧ some k_ ≠ (al : Value).ownBlock ∧ k_ ≠ ao ∧ k_ ≠ an ∧ k_ ≠ ag) (.slice A0 l0.length c0) l0) ∧ Aside0 (Kd.R k106 106 w' w.heap.size (fun k_ => (w.heap.size ≤ k_) ∧ k_ ≠ ag) v6 aJ) ∧ Aside0 (Kd.R (Kd.int .i64) 3 w' w.heap.size (fun k_ => (w.heap.size ≤ k_) ∧ some k_ ≠ (v12 : Value).ownBlock) v11 aM) ∧ Aside0 (Kd.R (Kd.int .i64) 3 w' w.heap.size (fun k_ => (w.heap.size ≤ k_) ∧ some k_ ≠ (v11 : Value).ownBlock) v12 aI) ∧ Aside0 (Kd.V (Kd.slice 3 (Kd.int .i64)) 22 w' w.heap.size (fun k_ => (P0_ k_ ∨ w.heap.size ≤ k_) ∧ some k_ ≠ (v6 : Value).ownBlock ∧ some k_ ≠ (v11 : Value).ownBlock ∧ some k_ ≠ (v12 : Value).ownBlock ∧ some k_ ≠ (ak : Value).ownBlock ∧ some k_ ≠ (ai : Value).ownBlock ∧ some k_ ≠ (al : Value).ownBlock ∧ k_ ≠ ao ∧ k_ ≠ an ∧ k_ ≠ ag) (.slice A0 l0.length c0) l0) ∧ Aside0 (Kd.S (Kd.slice 3 (Kd.int .i64)) 22 w' w.heap.size (fun k_ => (w.heap.size ≤ k_) ∧ some k_ ≠ (v11 : Value).ownBlock ∧ some k_ ≠ (v12 : Value).ownBlock ∧ some k_ ≠ (ai : Value).ownBlock) ak ar) ∧ Aside0 (Kd.S (Kd.slice 3 (Kd.int .i64)) 22 w' w.heap.size (fun k_ => (w.heap.size ≤ k_) ∧ some k_ ≠ (v11 : Value).ownBlock ∧ some k_ ≠ (v12 : Value).ownBlock ∧ some k_ ≠ (ak : Value).ownBlock) ai aq) ∧ Aside0 (Kd.R Kd.bool 4 w' w.heap.size (fun k_ => (w.heap.size ≤ k_)) al ap) ∧ Aside0 (w'.heap[ao]? = some (.cells #[(.slice none 0 0), (.slice none 0 0), (.slice none 0 0), (.slice none 0 0)] 32 (0, 0))) ∧ Aside0 (w'.heap[an]? = some (.cells #[(.slice A0 l0.length c0), ak, ai, al] 32 (0, 0))) ∧ Aside0 (w'.heap[ag]? = some (.cells #[.int .i64 ((rd_T106 ab aa).f0), .int .i64 ((rd_T106 ab aa).f1), .int .i64 ((rd_T106 ab aa).f2)] 106 (0, 0))) ∧ Aside0 (Below w.heap.size w w'))
   case atStart => exact ⟨(ab), (cJ), (([] : List Int)), (([] : List Int)), (by first | rfl | (simp; done) | (simp [*]; done)), H', ⟨Nat.le_refl _⟩, ⟨by exact Kd.V_mono aw.out (fun _ hk => ⟨hk.1, ⟨hk.2.1, ⟨(by simp [Value.ownBlock]), ⟨(by simp [Value.ownBlock]), ⟨hk.2.2.1, ⟨hk.2.2.2.1, ⟨hk.2.2.2.2.1, ⟨hk.2.2.2.2.2.1, ⟨hk.2.2.2.2.2.2.1, hk.2.2.2.2.2.2.2⟩⟩⟩⟩⟩⟩⟩⟩⟩)⟩, ⟨aA.out⟩, ⟨by first | exact Kd.R_nil _ _ _ _ _ | exact Kd.N_nil _ _ _ _ _ | exact Kd.V_nil _ _ _ _ _ | exact Kd.Q_nil _ _ _ _ _ | exact Kd.S_nil _ _ _ _ _⟩, ⟨by first | exact Kd.R_nil _ _ _ _ _ | exact Kd.N_nil _ _ _ _ _ | exact Kd.V_nil _ _ _ _ _ | exact Kd.Q_nil _ _ _ _ _ | exact Kd.S_nil _ _ _ _ _⟩, ⟨by exact Kd.V_mono ae.out (fun _ hk => ⟨hk.1, ⟨hk.2.1, ⟨(by simp [Value.ownBlock]), ⟨(by simp [Value.ownBlock]), ⟨hk.2.2.1, ⟨hk.2.2.2.1, ⟨hk.2.2.2.2.1, ⟨hk.2.2.2.2.2.1, ⟨hk.2.2.2.2.2.2.1, hk.2.2.2.2.2.2.2⟩⟩⟩⟩⟩⟩⟩⟩⟩)⟩, ⟨by exact Kd.S_mono af.out (fun _ hk => ⟨hk.1, ⟨(by simp [Value.ownBlock]), ⟨(by simp [Value.ownBlock]), hk.2⟩⟩⟩)⟩, ⟨by exact Kd.S_mono ac.out (fun _ hk => ⟨hk.1, ⟨(by simp [Value.ownBlock]), ⟨(by simp [Value.ownBlock]), hk.2⟩⟩⟩)⟩, ⟨ad.out⟩, ⟨am.out⟩, ⟨ah.out⟩, ⟨aj.out⟩, ⟨HB.out⟩⟩
   clear H'
   obtain ⟨aJ, ax, aM, aI, rfl, HA, cY, aw, aA, aC, au, ae, af, ac, ad, am, ah, aj, HB⟩ := hrel
   cases gk with
   | zero => exact absurd HA.out (by simp [wordbookref15_Build.l1])
   | succ k4 => ?_
   have H := HA.out
   clear HA
   simp only [wordbookref15_Build.l1] at H
   by_cases c27 : ax < ((rd_T106 ab aa).f1)
   ·
    rw [if_pos c27] at H
    have cG : decide (ax < ((rd_T106 ab aa).f1)) = true := decide_eq_true c27
    clear c27
    have H' := Aside0.mk H
    clear H
    have hnb28 := bO.out
    have hnc28 := aY.out
    have hnb29 := bl.out
    have hnc29 := aX.out
    have cd : wr.cell? ⟨ag, 0, none⟩ = some (.int .i64 ((rd_T106 ab aa).f0)) := (blk_cell aj.out 0).trans rfl
    have cc : wr.cell? ⟨ag, 1, none⟩ = some (.int .i64 ((rd_T106 ab aa).f1)) := (blk_cell aj.out 1).trans rfl
    have cb : wr.cell? ⟨ag, 2, none⟩ = some (.int .i64 ((rd_T106 ab aa).f2)) := (blk_cell aj.out 2).trans rfl
    have ca := blk_frozen aj.out 0
    have bZ := blk_frozen aj.out 1
    have bY := blk_frozen aj.out 2
    go_wp2
    go_loopg [13] k4 (fun kq v13 w' => ∃ (ay : Int), v13 = .int .i64 ay ∧ Aside0 (wordbookref15_Build.l2 kq l0 aJ aa ax aK aM aI ay l0 ar aq ap ((rd_T106 ab aa).f0) ((rd_T106 ab aa).f1) ((rd_T106 ab aa).f2) = some (r1, r2, r3, r4, r5)) ∧ Aside0 (kq ≤ k4) ∧ Aside0 (Kd.V (Kd.slice 3 (Kd.int .i64)) 22 w' w.heap.size (fun k_ => (P0_ k_ ∨ w.heap.size ≤ k_) ∧ some k_ ≠ (u6 : Value).ownBlock ∧ some k_ ≠ (u11 : Value).ownBlock ∧ some k_ ≠ (u12 : Value).ownBlock ∧ some k_ ≠ (ak : Value).ownBlock ∧ some k_ ≠ (ai : Value).ownBlock ∧ some k_ ≠ (al : Value).ownBlock ∧ k_ ≠ ao ∧ k_ ≠ an ∧ k_ ≠ ag) (.slice A0 l0.length c0) l0) ∧ Aside0 (Kd.R k106 106 w' w.heap.size (fun k_ => (w.heap.size ≤ k_) ∧ k_ ≠ ag) u6 aJ) ∧ Aside0 (Kd.R (Kd.int .i64) 3 w' w.heap.size (fun k_ => (w.heap.size ≤ k_) ∧ some k_ ≠ (u12 : Value).ownBlock) u11 aM) ∧ Aside0 (Kd.R (Kd.int .i64) 3 w' w.heap.size (fun k_ => (w.heap.size ≤ k_) ∧ some k_ ≠ (u11 : Value).ownBlock) u12 aI) ∧ Aside0 (Kd.V (Kd.slice 3 (Kd.int .i64)) 22 w' w.heap.size (fun k_ => (P0_ k_ ∨ w.heap.size ≤ k_) ∧ some k_ ≠ (u6 : Value).ownBlock ∧ some k_ ≠ (u11 : Value).ownBlock ∧ some k_ ≠ (u12 : Value).ownBlock ∧ some k_ ≠ (ak : Value).ownBlock ∧ some k_ ≠ (ai : Value).ownBlock ∧ some k_ ≠ (al : Value).ownBlock ∧ k_ ≠ ao ∧ k_ ≠ an ∧ k_ ≠ ag) (.slice A0 l0.length c0) l0) ∧ Aside0 (Kd.S (Kd.slice 3 (Kd.int .i64)) 22 w' w.heap.size (fun k_ => (w.heap.size ≤ k_) ∧ some k_ ≠ (u11 : Value).ownBlock ∧ some k_ ≠ (u12 : Value).ownBlock ∧ some k_ ≠ (ai : Value).ownBlock) ak ar) ∧ Aside0 (Kd.S (Kd.slice 3 (Kd.int .i64)) 22 w' w.heap.size (fun k_ => (w.heap.size ≤ k_) ∧ some k_ ≠ (u11 : Value).ownBlock ∧ some k_ ≠ (u12 : Value).ownBlock ∧ some k_ ≠ (ak : Value).ownBlock) ai aq) ∧ Aside0 (Kd.R Kd.bool 4 w' w.heap.size (fun k_ => (w.heap.size ≤ k_)) al ap) ∧ Aside0 (w'.heap[ao]? = some (.cells #[(.slice none 0 0), (.slice none 0 0), (.slice none 0 0), (.slice none 0 0)] 32 (0, 0))) ∧ Aside0 (w'.heap[an]? = some (.cells #[(.slice A0 l0.length c0), ak, ai, al] 32 (0, 0))) ∧ Aside0 (w'.heap[ag]? = some (.cells #[.int .i64 ((rd_T106 ab aa).f0), .int .i64 ((rd_T106 ab aa).f1), .int .i64 ((rd_T106 ab aa).f2)] 106 (0, 0))) ∧ Aside0 (Below w.heap.size w w'))
    case atStart => exact ⟨(ax), (by first | rfl | (simp; done) | (simp [*]; done)), H', ⟨Nat.le_refl _⟩, ⟨aw.out⟩, ⟨aA.out⟩, ⟨aC.out⟩, ⟨au.out⟩, ⟨ae.out⟩, ⟨af.out⟩, ⟨ac.out⟩, ⟨ad.out⟩, ⟨am.out⟩, ⟨ah.out⟩, ⟨aj.out⟩, ⟨HB.out⟩⟩
    clear H'
    clear cG cd cc cb ca bZ bY
    obtain ⟨ay, rfl, HA, dc, aw, aA, aC, au, ae, af, ac, ad, am, ah, aj, HB⟩ := hrel
    cases gk with
    | zero => exact absurd HA.out (by simp [wordbookref15_Build.l2])
    | succ k5 => ?_
    have H := HA.out
    clear HA
    simp only [wordbookref15_Build.l2] at H
    have HC31 := Aside0.mk H
    clear H
    go_upto_region 18 with (fail)
    go_cut [84] (fun v84 wc => ∃ (kq : Nat) (cv : Bool), v84 = .bool cv ∧ Aside0 (wordbookref15_Build.j5 kq l0 aJ aa ax aK aM aI ay cv l0 ar aq ap ((rd_T106 ab aa).f0) ((rd_T106 ab aa).f1) ((rd_T106 ab aa).f2) = some (r1, r2, r3, r4, r5)) ∧ Aside0 (kq ≤ k5) ∧ Aside0 (Kd.V (Kd.slice 3 (Kd.int .i64)) 22 wc w.heap.size (fun k_ => (P0_ k_ ∨ w.heap.size ≤ k_) ∧ some k_ ≠ (u6 : Value).ownBlock ∧ some k_ ≠ (u11 : Value).ownBlock ∧ some k_ ≠ (u12 : Value).ownBlock ∧ some k_ ≠ (ak : Value).ownBlock ∧ some k_ ≠ (ai : Value).ownBlock ∧ some k_ ≠ (al : Value).ownBlock ∧ k_ ≠ ao ∧ k_ ≠ an ∧ k_ ≠ ag) (.slice A0 l0.length c0) l0) ∧ Aside0 (Kd.R k106 106 wc w.heap.size (fun k_ => (w.heap.size ≤ k_) ∧ k_ ≠ ag) u6 aJ) ∧ Aside0 (Kd.R (Kd.int .i64) 3 wc w.heap.size (fun k_ => (w.heap.size ≤ k_) ∧ some k_ ≠ (u12 : Value).ownBlock) u11 aM) ∧ Aside0 (Kd.R (Kd.int .i64) 3 wc w.heap.size (fun k_ => (w.heap.size ≤ k_) ∧ some k_ ≠ (u11 : Value).ownBlock) u12 aI) ∧ Aside0 (Kd.V (Kd.slice 3 (Kd.int .i64)) 22 wc w.heap.size (fun k_ => (P0_ k_ ∨ w.heap.size ≤ k_) ∧ some k_ ≠ (u6 : Value).ownBlock ∧ some k_ ≠ (u11 : Value).ownBlock ∧ some k_ ≠ (u12 : Value).ownBlock ∧ some k_ ≠ (ak : Value).ownBlock ∧ some k_ ≠ (ai : Value).ownBlock ∧ some k_ ≠ (al : Value).ownBlock ∧ k_ ≠ ao ∧ k_ ≠ an ∧ k_ ≠ ag) (.slice A0 l0.length c0) l0) ∧ Aside0 (Kd.S (Kd.slice 3 (Kd.int .i64)) 22 wc w.heap.size (fun k_ => (w.heap.size ≤ k_) ∧ some k_ ≠ (u11 : Value).ownBlock ∧ some k_ ≠ (u12 : Value).ownBlock ∧ some k_ ≠ (ai : Value).ownBlock) ak ar) ∧ Aside0 (Kd.S (Kd.slice 3 (Kd.int .i64)) 22 wc w.heap.size (fun k_ => (w.heap.size ≤ k_) ∧ some k_ ≠ (u11 : Value).ownBlock ∧ some k_ ≠ (u12 : Value).ownBlock ∧ some k_ ≠ (ak : Value).ownBlock) ai aq) ∧ Aside0 (Kd.R Kd.bool 4 wc w.heap.size (fun k_ => (w.heap.size ≤ k_)) al ap) ∧ Aside0 (wc.heap[ao]? = some (.cells #[(.slice none 0 0), (.slice none 0 0), (.slice none 0 0), (.slice none 0 0)] 32 (0, 0))) ∧ Aside0 (wc.heap[an]? = some (.cells #[(.slice A0 l0.length c0), ak, ai, al] 32 (0, 0))) ∧ Aside0 (wc.heap[ag]? = some (.cells #[.int .i64 ((rd_T106 ab aa).f0), .int .i64 ((rd_T106 ab aa).f1), .int .i64 ((rd_T106 ab aa).f2)] 106 (0, 0))) ∧ Aside0 (Below w.heap.size w wc))
    case first =>
     have H := HC31.out
     clear HC31
     by_cases c32 : ay < ((rd_T106 ab aa).f1)
     ·
      rw [if_pos c32] at H
      have bU : decide (ay < ((rd_T106 ab aa).f1)) = true := decide_eq_true c32
      clear c32
      (first | rw [bU] | (simp only [i64_w, i32_w]; rw [bU]) | skip)
      have c33 : 0 ≤ ay := Classical.byContradiction fun c_ => by rw [if_neg c_] at H; exact absurd H (by simp)
      rw [if_pos c33] at H
      have dn : decide (0 ≤ ay) = true := decide_eq_true c33
      clear c33
      have c34 : ay < (l0.length : Int) := Classical.byContradiction fun c_ => by rw [if_neg c_] at H; exact absurd H (by simp)
      rw [if_pos c34] at H
      have dm : decide (ay < (l0.length : Int)) = true := decide_eq_true c34
      clear c34
      have c35 : 0 ≤ ((rd_T106 ab aa).f2) := Classical.byContradiction fun c_ => by rw [if_neg c_] at H; exact absurd H (by simp)
      rw [if_pos c35] at H
      have dl : decide (0 ≤ ((rd_T106 ab aa).f2)) = true := decide_eq_true c35
      clear c35
      have c36 : ((rd_T106 ab aa).f2) < ((rd_L2 l0 ay).length : Int) := Classical.byContradiction fun c_ => by rw [if_neg c_] at H; exact absurd H (by simp)
      rw [if_pos c36] at H
      have dk : decide (((rd_T106 ab aa).f2) < ((rd_L2 l0 ay).length : Int)) = true := decide_eq_true c36
      clear c36
      have c37 : 0 ≤ ax := Classical.byContradiction fun c_ => by rw [if_neg c_] at H; exact absurd H (by simp)
      rw [if_pos c37] at H
      have dj : decide (0 ≤ ax) = true := decide_eq_true c37
      clear c37
      have c38 : ax < (l0.length : Int) := Classical.byContradiction fun c_ => by rw [if_neg c_] at H; exact absurd H (by simp)
      rw [if_pos c38] at H
      have di : decide (ax < (l0.length : Int)) = true := decide_eq_true c38
      clear c38
      have c39 : ((rd_T106 ab aa).f2) < ((rd_L2 l0 ax).length : Int) := Classical.byContradiction fun c_ => by rw [if_neg c_] at H; exact absurd H (by simp)
      rw [if_pos c39] at H
      have dh : decide (((rd_T106 ab aa).f2) < ((rd_L2 l0 ax).length : Int)) = true := decide_eq_true c39
      clear c39
      have H' := Aside0.mk H
      clear H
      try go_wp2
      have aT := Aside0.mk (Kd.V_drew aw.out)
      have aR := Aside0.mk (Kd.R_drew aA.out)
      have aQ := Aside0.mk (Kd.R_drew aC.out)
      have aW := Aside0.mk (Kd.R_drew au.out)
      have aV := Aside0.mk (Kd.V_drew ae.out)
      have bd := Aside0.mk (Kd.S_drew af.out)
      have bc := Aside0.mk (Kd.S_drew ac.out)
      have bb := Aside0.mk (Kd.R_drew ad.out)
      have bh := Aside0.mk (blk_drew am.out)
      have bg := Aside0.mk (blk_drew ah.out)
      have aN := Aside0.mk (blk_drew aj.out)
      have aU := Aside0.mk (below_drew1 HB.out)
      clear aw
      clear aA
      clear aC
      clear au
      clear ae
      clear af
      clear ac
      clear ad
      clear am
      clear ah
      clear aj
      clear HB
      have aw := aT
      have aA := aR
      have aC := aQ
      have au := aW
      have ae := aV
      have af := bd
      have ac := bc
      have ad := bb
      have am := bh
      have ah := bg
      have aj := aN
      have HB := aU
      clear aT aR aQ aW aV bd bc bb bh bg aN aU
      have p119 : 0 ≤ (ay : Int) := of_decide_eq_true (by first | (with_reducible assumption) | assumption)
      have q119 : ay < (l0.length : Int) := of_decide_eq_true (by first | (with_reducible assumption) | assumption)
      obtain ⟨ad119, A119_0, c119_0, e119, bN, hl119_0, hi119_0⟩ := at_L2 (Kd.V_reads' aw.out).2.2 ay p119 q119
      cases e119
      obtain ⟨ce119, hce119, hMe119, hcc119⟩ := Kd.V_get aw.out [] ay p119 (by first | exact q119 | exact of_decide_eq_true (by first | (with_reducible assumption) | assumption) | (have e_ := (Kd.V_reads' aw.out).1; omega))
      obtain ⟨ua119_0, uc119_0, rfl, ul119_0, ge119_0⟩ := Kd.FK_slice_open hMe119
      have hv119_0 := hcc119 0 _ rfl
      rw [Nat.add_zero, show ((Kd.slice 3 (Kd.int .i64))).sz = 1 from rfl, Nat.mul_one] at hv119_0
      replace hv119_0 := Option.some.inj (hv119_0.symm.trans bN)
      injection hv119_0 with hva_ hvn_ hvc_
      rw [hva_] at ge119_0
      rw [hvc_] at ul119_0
      have HL119_0 := Aside0.mk (show Kd.V (Kd.int .i64) 3 _ w.heap.size _ _ (rd_L2 l0 ay) from Kd.V_mk ul119_0 ge119_0)
      clear hva_ hvn_ hvc_ ge119_0 ul119_0
      clear hcc119 hce119
      have HR119_0 := Aside0.mk hi119_0
      have HC119_0 := Aside0.mk hl119_0
      clear hi119_0 hl119_0
      replace p119 := eq_true p119
      replace q119 := eq_true q119
      have p120 : 0 ≤ (((rd_T106 ab aa).f2) : Int) := of_decide_eq_true (by first | (with_reducible assumption) | assumption)
      have q120 : ((rd_T106 ab aa).f2) < ((rd_L2 l0 ay).length : Int) := of_decide_eq_true (by first | (with_reducible assumption) | assumption)
      obtain ⟨ad120, e120, bR⟩ := Kd.at_int (by repeat (first | (with_reducible exact HR119_0.out) | (with_reducible refine Kd.C_alloc ?_ _) | (with_reducible refine Kd.C_drewN ?_ _) | (with_reducible refine Kd.C_drew ?_) | exact HR119_0.out)) ((rd_T106 ab aa).f2) p120 q120
      cases e120
      replace p120 := eq_true p120
      replace q120 := eq_true q120
      have p121 : 0 ≤ (ax : Int) := of_decide_eq_true (by first | (with_reducible assumption) | assumption)
      have q121 : ax < (l0.length : Int) := of_decide_eq_true (by first | (with_reducible assumption) | assumption)
      obtain ⟨ad121, A121_0, c121_0, e121, bM, hl121_0, hi121_0⟩ := at_L2 (Kd.V_reads' aw.out).2.2 ax p121 q121
      obtain rfl : ad119 = ad121 := (by injection e121)
      obtain ⟨ce121, hce121, hMe121, hcc121⟩ := Kd.V_get aw.out [] ax p121 (by first | exact q121 | exact of_decide_eq_true (by first | (with_reducible assumption) | assumption) | (have e_ := (Kd.V_reads' aw.out).1; omega))
      obtain ⟨ua121_0, uc121_0, rfl, ul121_0, ge121_0⟩ := Kd.FK_slice_open hMe121
      have hv121_0 := hcc121 0 _ rfl
      rw [Nat.add_zero, show ((Kd.slice 3 (Kd.int .i64))).sz = 1 from rfl, Nat.mul_one] at hv121_0
      replace hv121_0 := Option.some.inj (hv121_0.symm.trans bM)
      injection hv121_0 with hva_ hvn_ hvc_
      rw [hva_] at ge121_0
      rw [hvc_] at ul121_0
      have HL121_0 := Aside0.mk (show Kd.V (Kd.int .i64) 3 _ w.heap.size _ _ (rd_L2 l0 ax) from Kd.V_mk ul121_0 ge121_0)
      clear hva_ hvn_ hvc_ ge121_0 ul121_0
      clear hcc121 hce121
      have HR121_0 := Aside0.mk hi121_0
      have HC121_0 := Aside0.mk hl121_0
      clear hi121_0 hl121_0
      replace p121 := eq_true p121
      replace q121 := eq_true q121
      have p122 : 0 ≤ (((rd_T106 ab aa).f2) : Int) := of_decide_eq_true (by first | (with_reducible assumption) | assumption)
      have q122 : ((rd_T106 ab aa).f2) < ((rd_L2 l0 ax).length : Int) := of_decide_eq_true (by first | (with_reducible assumption) | assumption)
      obtain ⟨ad122, e122, bQ⟩ := Kd.at_int (by repeat (first | (with_reducible exact HR121_0.out) | (with_reducible refine Kd.C_alloc ?_ _) | (with_reducible refine Kd.C_drewN ?_ _) | (with_reducible refine Kd.C_drew ?_) | exact HR121_0.out)) ((rd_T106 ab aa).f2) p122 q122
      cases e122
      replace p122 := eq_true p122
      replace q122 := eq_true q122
      refine start_ (n := 23) (S := fun w' => w'.cell? ⟨ag, 0, none⟩ = some (.int .i64 ((rd_T106 ab aa).f0)) ∧ w'.cell? ⟨ag, 1, none⟩ = some (.int .i64 ((rd_T106 ab aa).f1)) ∧ w'.cell? ⟨ag, 2, none⟩ = some (.int .i64 ((rd_T106 ab aa).f2)) ∧ w'.cell? (ad119.add (ay).toNat) = some (.slice (some ad120) (rd_L2 l0 ay).length c119_0) ∧ w'.cell? (ad120.add (((rd_T106 ab aa).f2)).toNat) = some (.int .i64 (rd (rd_L2 l0 ay) ((rd_T106 ab aa).f2))) ∧ w'.cell? (ad119.add (ax).toNat) = some (.slice (some ad122) (rd_L2 l0 ax).length c121_0) ∧ w'.cell? (ad122.add (((rd_T106 ab aa).f2)).toNat) = some (.int .i64 (rd (rd_L2 l0 ax) ((rd_T106 ab aa).f2)))) (ds := []) #[false, false, false, false, false, false, false, false, false, false, false, false, false, false, false, false, false, false, false, false, false, false, false] (by kernel_rfl) rfl rfl ⟨(blk_cell aj.out 0).trans rfl, (blk_cell aj.out 1).trans rfl, (blk_cell aj.out 2).trans rfl, bN, bR, bM, bQ⟩ (fun hHeld => ?_); refine with_tabW wordbookref15_Build.tab18 wordbookref15_Build.bits18 (fun HT_ HW_ => ?_)
      generalize wr.drew = w40 at aw aA aC au ae af ac ad am ah aj HB HL119_0 HL121_0 HR119_0 HR121_0 bN bR bM bQ hHeld ⊢
      refine pure_ (i := 0) (N := some 62) (v := ?_) (a' := ?_) #[true, false, false, false, false, false, false, false, false, false, false, false, false, false, false, false, false, false, false, false, false, false, false] rfl rfl (any_of HT_.out (by kernel_rfl)) (fun _ _ _ h => h) (Or.inl ⟨by rfl, ?_⟩) ?_ ?_
      rotate_left
      ·
       intro w'
       go_simp
       with_reducible rfl
      rotate_left
      ·
       simp only [Act.put, setIfInBounds_toArray, set_cons_zero, set_cons_succ, i64_w, i32_w]
       rfl
      refine pure_ (i := 1) (N := some 63) (v := ?_) (a' := ?_) #[true, true, false, false, false, false, false, false, false, false, false, false, false, false, false, false, false, false, false, false, false, false, false] rfl rfl (any_of HT_.out (by kernel_rfl)) (fun _ _ _ h => h) (Or.inl ⟨by rfl, ?_⟩) ?_ ?_
      rotate_left
      ·
       intro w'
       go_simp
       with_reducible rfl
      rotate_left
      ·
       simp only [Act.put, setIfInBounds_toArray, set_cons_zero, set_cons_succ, i64_w, i32_w]
       rfl
      refine take_ (i := 2) (N := some 64) (v := ?_) (a' := ?_) #[true, true, true, false, false, false, false, false, false, false, false, false, false, false, false, false, false, false, false, false, false, false, false] rfl rfl (take_ofW HT_.out HW_.out (by kernel_rfl)) (fun _ _ _ h => h) (Or.inl ⟨by rfl, ?_⟩) hHeld ?_ ?_
      rotate_left
      ·
       rintro w' ⟨s0, s1, s2, s3, s4, s5, s6⟩
       go_simp
       with_reducible rfl
      rotate_left
      ·
       simp only [Act.put, setIfInBounds_toArray, set_cons_zero, set_cons_succ, i64_w, i32_w]
       rfl
      refine pure_ (i := 3) (N := some 65) (v := ?_) (a' := ?_) #[true, true, true, true, false, false, false, false, false, false, false, false, false, false, false, false, false, false, false, false, false, false, false] rfl rfl (any_of HT_.out (by kernel_rfl)) (fun _ _ _ h => h) (Or.inl ⟨by rfl, ?_⟩) ?_ ?_
      rotate_left
      ·
       intro w'
       go_simp
       with_reducible rfl
      rotate_left
      ·
       simp only [Act.put, setIfInBounds_toArray, set_cons_zero, set_cons_succ, i64_w, i32_w]
       rfl
      refine pure_ (i := 4) (N := some 66) (v := ?_) (a' := ?_) #[true, true, true, true, true, false, false, false, false, false, false, false, false, false, false, false, false, false, false, false, false, false, false] rfl rfl (any_of HT_.out (by kernel_rfl)) (fun _ _ _ h => h) (Or.inl ⟨by rfl, ?_⟩) ?_ ?_
      rotate_left
      ·
       intro w'
       go_simp
       with_reducible rfl
      rotate_left
      ·
       simp only [Act.put, setIfInBounds_toArray, set_cons_zero, set_cons_succ, i64_w, i32_w]
       rfl
      refine pure_ (i := 5) (N := some 67) (v := ?_) (a' := ?_) #[true, true, true, true, true, true, false, false, false, false, false, false, false, false, false, false, false, false, false, false, false, false, false] rfl rfl (any_of HT_.out (by kernel_rfl)) (fun _ _ _ h => h) (Or.inl ⟨by rfl, ?_⟩) ?_ ?_
      rotate_left
      ·
       intro w'
       go_simp
       with_reducible rfl
      rotate_left
      ·
       simp only [Act.put, setIfInBounds_toArray, set_cons_zero, set_cons_succ, i64_w, i32_w]
       rfl
      refine pure_ (i := 6) (N := some 68) (v := ?_) (a' := ?_) #[true, true, true, true, true, true, true, false, false, false, false, false, false, false, false, false, false, false, false, false, false, false, false] rfl rfl (any_of HT_.out (by kernel_rfl)) (fun _ _ _ h => h) (Or.inl ⟨by rfl, ?_⟩) ?_ ?_
      rotate_left
      ·
       intro w'
       go_simp
       with_reducible rfl
      rotate_left
      ·
       simp only [Act.put, setIfInBounds_toArray, set_cons_zero, set_cons_succ, i64_w, i32_w]
       rfl
      refine pure_ (i := 7) (N := some 69) (v := ?_) (a' := ?_) #[true, true, true, true, true, true, true, true, false, false, false, false, false, false, false, false, false, false, false, false, false, false, false] rfl rfl (any_of HT_.out (by kernel_rfl)) (fun _ _ _ h => h) (Or.inl ⟨by rfl, ?_⟩) ?_ ?_
      rotate_left
      ·
       intro w'
       go_simp
       with_reducible rfl
      rotate_left
      ·
       simp only [Act.put, setIfInBounds_toArray, set_cons_zero, set_cons_succ, i64_w, i32_w]
       rfl
      refine pure_ (i := 9) (N := some 71) (v := ?_) (a' := ?_) #[true, true, true, true, true, true, true, true, false, true, false, false, false, false, false, false, false, false, false, false, false, false, false] rfl rfl (any_of HT_.out (by kernel_rfl)) (fun _ _ _ h => h) (Or.inl ⟨by rfl, ?_⟩) ?_ ?_
      rotate_left
      ·
       intro w'
       go_simp
       with_reducible rfl
      rotate_left
      ·
       simp only [Act.put, setIfInBounds_toArray, set_cons_zero, set_cons_succ, i64_w, i32_w]
       rfl
      refine pure_ (i := 13) (N := some 75) (v := ?_) (a' := ?_) #[true, true, true, true, true, true, true, true, false, true, false, false, false, true, false, false, false, false, false, false, false, false, false] rfl rfl (any_of HT_.out (by kernel_rfl)) (fun _ _ _ h => h) (Or.inl ⟨by rfl, ?_⟩) ?_ ?_
      rotate_left
      ·
       intro w'
       go_simp
       with_reducible rfl
      rotate_left
      ·
       simp only [Act.put, setIfInBounds_toArray, set_cons_zero, set_cons_succ, i64_w, i32_w]
       rfl
      refine pure_ (i := 14) (N := some 76) (v := ?_) (a' := ?_) #[true, true, true, true, true, true, true, true, false, true, false, false, false, true, true, false, false, false, false, false, false, false, false] rfl rfl (any_of HT_.out (by kernel_rfl)) (fun _ _ _ h => h) (Or.inl ⟨by rfl, ?_⟩) ?_ ?_
      rotate_left
      ·
       intro w'
       go_simp
       with_reducible rfl
      rotate_left
      ·
       simp only [Act.put, setIfInBounds_toArray, set_cons_zero, set_cons_succ, i64_w, i32_w]
       rfl
      refine pure_ (i := 15) (N := some 77) (v := ?_) (a' := ?_) #[true, true, true, true, true, true, true, true, false, true, false, false, false, true, true, true, false, false, false, false, false, false, false] rfl rfl (any_of HT_.out (by kernel_rfl)) (fun _ _ _ h => h) (Or.inl ⟨by rfl, ?_⟩) ?_ ?_
      rotate_left
      ·
       intro w'
       go_simp
       with_reducible rfl
      rotate_left
      ·
       simp only [Act.put, setIfInBounds_toArray, set_cons_zero, set_cons_succ, i64_w, i32_w]
       rfl
      refine pure_ (i := 17) (N := some 79) (v := ?_) (a' := ?_) #[true, true, true, true, true, true, true, true, false, true, false, false, false, true, true, true, false, true, false, false, false, false, false] rfl rfl (any_of HT_.out (by kernel_rfl)) (fun _ _ _ h => h) (Or.inl ⟨by rfl, ?_⟩) ?_ ?_
      rotate_left
      ·
       intro w'
       go_simp
       with_reducible rfl
      rotate_left
      ·
       simp only [Act.put, setIfInBounds_toArray, set_cons_zero, set_cons_succ, i64_w, i32_w]
       rfl
      refine take_ (i := 8) (N := some 70) (v := ?_) (a' := ?_) #[true, true, true, true, true, true, true, true, true, true, false, false, false, true, true, true, false, true, false, false, false, false, false] rfl rfl (take_ofW HT_.out HW_.out (by kernel_rfl)) (fun _ _ _ h => h) (Or.inl ⟨by rfl, ?_⟩) hHeld ?_ ?_
      rotate_left
      ·
       rintro w' ⟨s0, s1, s2, s3, s4, s5, s6⟩
       go_simp
       with_reducible rfl
      rotate_left
      ·
       simp only [Act.put, setIfInBounds_toArray, set_cons_zero, set_cons_succ, i64_w, i32_w]
       rfl
      refine take_ (i := 10) (N := some 72) (v := ?_) (a' := ?_) #[true, true, true, true, true, true, true, true, true, true, true, false, false, true, true, true, false, true, false, false, false, false, false] rfl rfl (take_ofW HT_.out HW_.out (by kernel_rfl)) (fun _ _ _ h => h) (Or.inl ⟨by rfl, ?_⟩) hHeld ?_ ?_
      rotate_left
      ·
       rintro w' ⟨s0, s1, s2, s3, s4, s5, s6⟩
       go_simp
       with_reducible rfl
      rotate_left
      ·
       simp only [Act.put, setIfInBounds_toArray, set_cons_zero, set_cons_succ, i64_w, i32_w]
       rfl
      refine pure_ (i := 11) (N := some 73) (v := ?_) (a' := ?_) #[true, true, true, true, true, true, true, true, true, true, true, true, false, true, true, true, false, true, false, false, false, false, false] rfl rfl (any_of HT_.out (by kernel_rfl)) (fun _ _ _ h => h) (Or.inl ⟨by rfl, ?_⟩) ?_ ?_
      rotate_left
      ·
       intro w'
       go_simp
       with_reducible rfl
      rotate_left
      ·
       simp only [Act.put, setIfInBounds_toArray, set_cons_zero, set_cons_succ, i64_w, i32_w]
       rfl
      refine take_ (i := 12) (N := some 74) (v := ?_) (a' := ?_) #[true, true, true, true, true, true, true, true, true, true, true, true, true, true, true, true, false, true, false, false, false, false, false] rfl rfl (take_ofW HT_.out HW_.out (by kernel_rfl)) (fun _ _ _ h => h) (Or.inl ⟨by rfl, ?_⟩) hHeld ?_ ?_
      rotate_left
      ·
       rintro w' ⟨s0, s1, s2, s3, s4, s5, s6⟩
       go_simp
       with_reducible rfl
      rotate_left
      ·
       simp only [Act.put, setIfInBounds_toArray, set_cons_zero, set_cons_succ, i64_w, i32_w]
       rfl
      refine take_ (i := 16) (N := some 78) (v := ?_) (a' := ?_) #[true, true, true, true, true, true, true, true, true, true, true, true, true, true, true, true, true, true, false, false, false, false, false] rfl rfl (take_ofW HT_.out HW_.out (by kernel_rfl)) (fun _ _ _ h => h) (Or.inl ⟨by rfl, ?_⟩) hHeld ?_ ?_
      rotate_left
      ·
       rintro w' ⟨s0, s1, s2, s3, s4, s5, s6⟩
       go_simp
       with_reducible rfl
      rotate_left
      ·
       simp only [Act.put, setIfInBounds_toArray, set_cons_zero, set_cons_succ, i64_w, i32_w]
       rfl
      refine take_ (i := 18) (N := some 80) (v := ?_) (a' := ?_) #[true, true, true, true, true, true, true, true, true, true, true, true, true, true, true, true, true, true, true, false, false, false, false] rfl rfl (take_ofW HT_.out HW_.out (by kernel_rfl)) (fun _ _ _ h => h) (Or.inl ⟨by rfl, ?_⟩) hHeld ?_ ?_
      rotate_left
      ·
       rintro w' ⟨s0, s1, s2, s3, s4, s5, s6⟩
       go_simp
       with_reducible rfl
      rotate_left
      ·
       simp only [Act.put, setIfInBounds_toArray, set_cons_zero, set_cons_succ, i64_w, i32_w]
       rfl
      refine pure_ (i := 19) (N := some 81) (v := ?_) (a' := ?_) #[true, true, true, true, true, true, true, true, true, true, true, true, true, true, true, true, true, true, true, true, false, false, false] rfl rfl (any_of HT_.out (by kernel_rfl)) (fun _ _ _ h => h) (Or.inl ⟨by rfl, ?_⟩) ?_ ?_
      rotate_left
      ·
       intro w'
       go_simp
       with_reducible rfl
      rotate_left
      ·
       simp only [Act.put, setIfInBounds_toArray, set_cons_zero, set_cons_succ, i64_w, i32_w]
       rfl
      refine take_ (i := 20) (N := some 82) (v := ?_) (a' := ?_) #[true, true, true, true, true, true, true, true, true, true, true, true, true, true, true, true, true, true, true, true, true, false, false] rfl rfl (take_ofW HT_.out HW_.out (by kernel_rfl)) (fun _ _ _ h => h) (Or.inl ⟨by rfl, ?_⟩) hHeld ?_ ?_
      rotate_left
      ·
       rintro w' ⟨s0, s1, s2, s3, s4, s5, s6⟩
       go_simp
       with_reducible rfl
      rotate_left
      ·
       simp only [Act.put, setIfInBounds_toArray, set_cons_zero, set_cons_succ, i64_w, i32_w]
       rfl
      refine pure_ (i := 21) (N := some 83) (v := ?_) (a' := ?_) #[true, true, true, true, true, true, true, true, true, true, true, true, true, true, true, true, true, true, true, true, true, true, false] rfl rfl (any_of HT_.out (by kernel_rfl)) (fun _ _ _ h => h) (Or.inl ⟨by rfl, ?_⟩) ?_ ?_
      rotate_left
      ·
       intro w'
       go_simp
       with_reducible rfl
      rotate_left
      ·
       simp only [Act.put, setIfInBounds_toArray, set_cons_zero, set_cons_succ, i64_w, i32_w]
       rfl
      refine pure_ (i := 22) (N := some 84) (v := ?_) (a' := ?_) #[true, true, true, true, true, true, true, true, true, true, true, true, true, true, true, true, true, true, true, true, true, true, true] rfl rfl (any_of HT_.out (by kernel_rfl)) (fun _ _ _ h => h) (Or.inl ⟨by rfl, ?_⟩) ?_ ?_
      rotate_left
      ·
       intro w'
       go_simp
       with_reducible rfl
      rotate_left
      ·
       simp only [Act.put, setIfInBounds_toArray, set_cons_zero, set_cons_succ, i64_w, i32_w]
       rfl
      refine done_ (done_of HT_.out (by kernel_rfl)) ?_
      try go_wp2
      go_meet
      case rel => exact ⟨_, (((rd (rd_L2 l0 ay) ((rd_T106 ab aa).f2)) == (rd (rd_L2 l0 ax) ((rd_T106 ab aa).f2)))), (by first | rfl | (simp; done) | (simp [*]; done)), H', ⟨by have := cD.out; have := bP.out; have := bS.out; have := cY.out; have := dc.out; first | omega | exact Nat.le_refl _⟩, ⟨aw.out⟩, ⟨aA.out⟩, ⟨aC.out⟩, ⟨au.out⟩, ⟨ae.out⟩, ⟨af.out⟩, ⟨ac.out⟩, ⟨ad.out⟩, ⟨am.out⟩, ⟨ah.out⟩, ⟨aj.out⟩, ⟨HB.out⟩⟩
     rw [if_neg c32] at H
     have bU : decide (ay < ((rd_T106 ab aa).f1)) = false := decide_eq_false c32
     clear c32
     (first | rw [bU] | (simp only [i64_w, i32_w]; rw [bU]) | skip)
     have H' := Aside0.mk H
     clear H
     try go_wp2
     have aT := Aside0.mk (Kd.V_drew aw.out)
     have aR := Aside0.mk (Kd.R_drew aA.out)
     have aQ := Aside0.mk (Kd.R_drew aC.out)
     have aW := Aside0.mk (Kd.R_drew au.out)
     have aV := Aside0.mk (Kd.V_drew ae.out)
     have bd := Aside0.mk (Kd.S_drew af.out)
     have bc := Aside0.mk (Kd.S_drew ac.out)
     have bb := Aside0.mk (Kd.R_drew ad.out)
     have bh := Aside0.mk (blk_drew am.out)
     have bg := Aside0.mk (blk_drew ah.out)
     have aN := Aside0.mk (blk_drew aj.out)
     have aU := Aside0.mk (below_drew1 HB.out)
     clear aw
     clear aA
     clear aC
     clear au
     clear ae
     clear af
     clear ac
     clear ad
     clear am
     clear ah
     clear aj
     clear HB
     have aw := aT
     have aA := aR
     have aC := aQ
     have au := aW
     have ae := aV
     have af := bd
     have ac := bc
     have ad := bb
     have am := bh
     have ah := bg
     have aj := aN
     have HB := aU
     clear aT aR aQ aW aV bd bc bb bh bg aN aU
     refine start_ (n := 23) (S := fun w' => w'.cell? ⟨ag, 0, none⟩ = some (.int .i64 ((rd_T106 ab aa).f0)) ∧ w'.cell? ⟨ag, 1, none⟩ = some (.int .i64 ((rd_T106 ab aa).f1)) ∧ w'.cell? ⟨ag, 2, none⟩ = some (.int .i64 ((rd_T106 ab aa).f2))) (ds := []) #[false, false, false, false, false, false, false, false, false, false, false, false, false, false, false, false, false, false, false, false, false, false, false] (by kernel_rfl) rfl rfl ⟨(blk_cell aj.out 0).trans rfl, (blk_cell aj.out 1).trans rfl, (blk_cell aj.out 2).trans rfl⟩ (fun hHeld => ?_); refine with_tabW wordbookref15_Build.tab18 wordbookref15_Build.bits18 (fun HT_ HW_ => ?_)
     generalize wr.drew = w41 at aw aA aC au ae af ac ad am ah aj HB hHeld ⊢
     refine pure_ (i := 0) (N := some 62) (v := ?_) (a' := ?_) #[true, false, false, false, false, false, false, false, false, false, false, false, false, false, false, false, false, false, false, false, false, false, false] rfl rfl (any_of HT_.out (by kernel_rfl)) (fun _ _ _ h => h) (Or.inl ⟨by rfl, ?_⟩) ?_ ?_
     rotate_left
     ·
      intro w'
      go_simp
      with_reducible rfl
     rotate_left
     ·
      simp only [Act.put, setIfInBounds_toArray, set_cons_zero, set_cons_succ, i64_w, i32_w]
      rfl
     refine pure_ (i := 1) (N := some 63) (v := ?_) (a' := ?_) #[true, true, false, false, false, false, false, false, false, false, false, false, false, false, false, false, false, false, false, false, false, false, false] rfl rfl (any_of HT_.out (by kernel_rfl)) (fun _ _ _ h => h) (Or.inl ⟨by rfl, ?_⟩) ?_ ?_
     rotate_left
     ·
      intro w'
      go_simp
      with_reducible rfl
     rotate_left
     ·
      simp only [Act.put, setIfInBounds_toArray, set_cons_zero, set_cons_succ, i64_w, i32_w]
      rfl
     refine take_ (i := 2) (N := some 64) (v := ?_) (a' := ?_) #[true, true, true, false, false, false, false, false, false, false, false, false, false, false, false, false, false, false, false, false, false, false, false] rfl rfl (take_ofW HT_.out HW_.out (by kernel_rfl)) (fun _ _ _ h => h) (Or.inl ⟨by rfl, ?_⟩) hHeld ?_ ?_
     rotate_left
     ·
      rintro w' ⟨s0, s1, s2⟩
      go_simp
      with_reducible rfl
     rotate_left
     ·
      simp only [Act.put, setIfInBounds_toArray, set_cons_zero, set_cons_succ, i64_w, i32_w]
      rfl
     refine pure_ (i := 3) (N := some 65) (v := ?_) (a' := ?_) #[true, true, true, true, false, false, false, false, false, false, false, false, false, false, false, false, false, false, false, false, false, false, false] rfl rfl (any_of HT_.out (by kernel_rfl)) (fun _ _ _ h => h) (Or.inl ⟨by rfl, ?_⟩) ?_ ?_
     rotate_left
     ·
      intro w'
      go_simp
      with_reducible rfl
     rotate_left
     ·
      simp only [Act.put, setIfInBounds_toArray, set_cons_zero, set_cons_succ, i64_w, i32_w]
      rfl
     refine pure_ (i := 4) (N := some 66) (v := ?_) (a' := ?_) #[true, true, true, true, true, false, false, false, false, false, false, false, false, false, false, false, false, false, false, false, false, false, false] rfl rfl (any_of HT_.out (by kernel_rfl)) (fun _ _ _ h => h) (Or.inl ⟨by rfl, ?_⟩) ?_ ?_
     rotate_left
     ·
      intro w'
      go_simp
      with_reducible rfl
     rotate_left
     ·
      simp only [Act.put, setIfInBounds_toArray, set_cons_zero, set_cons_succ, i64_w, i32_w]
      rfl
     refine pure_ (i := 5) (N := some 67) (v := undef) (a' := ?_) #[true, true, true, true, true, true, false, false, false, false, false, false, false, false, false, false, false, false, false, false, false, false, false] rfl rfl (any_of HT_.out (by kernel_rfl)) (fun _ _ _ h => h) (Or.inr ⟨by rfl, rfl⟩) ?_ ?_
     rotate_left
     ·
      simp only [Act.put, setIfInBounds_toArray, set_cons_zero, set_cons_succ, i64_w, i32_w]
      rfl
     refine pure_ (i := 6) (N := some 68) (v := undef) (a' := ?_) #[true, true, true, true, true, true, true, false, false, false, false, false, false, false, false, false, false, false, false, false, false, false, false] rfl rfl (any_of HT_.out (by kernel_rfl)) (fun _ _ _ h => h) (Or.inr ⟨by rfl, rfl⟩) ?_ ?_
     rotate_left
     ·
      simp only [Act.put, setIfInBounds_toArray, set_cons_zero, set_cons_succ, i64_w, i32_w]
      rfl
     refine pure_ (i := 7) (N := some 69) (v := undef) (a' := ?_) #[true, true, true, true, true, true, true, true, false, false, false, false, false, false, false, false, false, false, false, false, false, false, false] rfl rfl (any_of HT_.out (by kernel_rfl)) (fun _ _ _ h => h) (Or.inr ⟨by rfl, rfl⟩) ?_ ?_
     rotate_left
     ·
      simp only [Act.put, setIfInBounds_toArray, set_cons_zero, set_cons_succ, i64_w, i32_w]
      rfl
     refine pure_ (i := 8) (N := some 70) (v := undef) (a' := ?_) #[true, true, true, true, true, true, true, true, true, false, false, false, false, false, false, false, false, false, false, false, false, false, false] rfl rfl (any_of HT_.out (by kernel_rfl)) (fun _ _ _ h => h) (Or.inr ⟨by rfl, rfl⟩) ?_ ?_
     rotate_left
     ·
      simp only [Act.put, setIfInBounds_toArray, set_cons_zero, set_cons_succ, i64_w, i32_w]
      rfl
     refine pure_ (i := 9) (N := some 71) (v := undef) (a' := ?_) #[true, true, true, true, true, true, true, true, true, true, false, false, false, false, false, false, false, false, false, false, false, false, false] rfl rfl (any_of HT_.out (by kernel_rfl)) (fun _ _ _ h => h) (Or.inr ⟨by rfl, rfl⟩) ?_ ?_
     rotate_left
     ·
      simp only [Act.put, setIfInBounds_toArray, set_cons_zero, set_cons_succ, i64_w, i32_w]
      rfl
     refine pure_ (i := 10) (N := some 72) (v := undef) (a' := ?_) #[true, true, true, true, true, true, true, true, true, true, true, false, false, false, false, false, false, false, false, false, false, false, false] rfl rfl (any_of HT_.out (by kernel_rfl)) (fun _ _ _ h => h) (Or.inr ⟨by rfl, rfl⟩) ?_ ?_
     rotate_left
     ·
      simp only [Act.put, setIfInBounds_toArray, set_cons_zero, set_cons_succ, i64_w, i32_w]
      rfl
     refine pure_ (i := 11) (N := some 73) (v := undef) (a' := ?_) #[true, true, true, true, true, true, true, true, true, true, true, true, false, false, false, false, false, false, false, false, false, false, false] rfl rfl (any_of HT_.out (by kernel_rfl)) (fun _ _ _ h => h) (Or.inr ⟨by rfl, rfl⟩) ?_ ?_
     rotate_left
     ·
      simp only [Act.put, setIfInBounds_toArray, set_cons_zero, set_cons_succ, i64_w, i32_w]
      rfl
     refine pure_ (i := 12) (N := some 74) (v := undef) (a' := ?_) #[true, true, true, true, true, true, true, true, true, true, true, true, true, false, false, false, false, false, false, false, false, false, false] rfl rfl (any_of HT_.out (by kernel_rfl)) (fun _ _ _ h => h) (Or.inr ⟨by rfl, rfl⟩) ?_ ?_
     rotate_left
     ·
      simp only [Act.put, setIfInBounds_toArray, set_cons_zero, set_cons_succ, i64_w, i32_w]
      rfl
     refine pure_ (i := 13) (N := some 75) (v := undef) (a' := ?_) #[true, true, true, true, true, true, true, true, true, true, true, true, true, true, false, false, false, false, false, false, false, false, false] rfl rfl (any_of HT_.out (by kernel_rfl)) (fun _ _ _ h => h) (Or.inr ⟨by rfl, rfl⟩) ?_ ?_
     rotate_left
     ·
      simp only [Act.put, setIfInBounds_toArray, set_cons_zero, set_cons_succ, i64_w, i32_w]
      rfl
     refine pure_ (i := 14) (N := some 76) (v := undef) (a' := ?_) #[true, true, true, true, true, true, true, true, true, true, true, true, true, true, true, false, false, false, false, false, false, false, false] rfl rfl (any_of HT_.out (by kernel_rfl)) (fun _ _ _ h => h) (Or.inr ⟨by rfl, rfl⟩) ?_ ?_
     rotate_left
     ·
      simp only [Act.put, setIfInBounds_toArray, set_cons_zero, set_cons_succ, i64_w, i32_w]
      rfl
     refine pure_ (i := 15) (N := some 77) (v := undef) (a' := ?_) #[true, true, true, true, true, true, true, true, true, true, true, true, true, true, true, true, false, false, false, false, false, false, false] rfl rfl (any_of HT_.out (by kernel_rfl)) (fun _ _ _ h => h) (Or.inr ⟨by rfl, rfl⟩) ?_ ?_
     rotate_left
     ·
      simp only [Act.put, setIfInBounds_toArray, set_cons_zero, set_cons_succ, i64_w, i32_w]
      rfl
     refine pure_ (i := 16) (N := some 78) (v := undef) (a' := ?_) #[true, true, true, true, true, true, true, true, true, true, true, true, true, true, true, true, true, false, false, false, false, false, false] rfl rfl (any_of HT_.out (by kernel_rfl)) (fun _ _ _ h => h) (Or.inr ⟨by rfl, rfl⟩) ?_ ?_
     rotate_left
     ·
      simp only [Act.put, setIfInBounds_toArray, set_cons_zero, set_cons_succ, i64_w, i32_w]
      rfl
     refine pure_ (i := 17) (N := some 79) (v := undef) (a' := ?_) #[true, true, true, true, true, true, true, true, true, true, true, true, true, true, true, true, true, true, false, false, false, false, false] rfl rfl (any_of HT_.out (by kernel_rfl)) (fun _ _ _ h => h) (Or.inr ⟨by rfl, rfl⟩) ?_ ?_
     rotate_left
     ·
      simp only [Act.put, setIfInBounds_toArray, set_cons_zero, set_cons_succ, i64_w, i32_w]
      rfl
     refine pure_ (i := 18) (N := some 80) (v := undef) (a' := ?_) #[true, true, true, true, true, true, true, true, true, true, true, true, true, true, true, true, true, true, true, false, false, false, false] rfl rfl (any_of HT_.out (by kernel_rfl)) (fun _ _ _ h => h) (Or.inr ⟨by rfl, rfl⟩) ?_ ?_
     rotate_left
     ·
      simp only [Act.put, setIfInBounds_toArray, set_cons_zero, set_cons_succ, i64_w, i32_w]
      rfl
     refine pure_ (i := 19) (N := some 81) (v := undef) (a' := ?_) #[true, true, true, true, true, true, true, true, true, true, true, true, true, true, true, true, true, true, true, true, false, false, false] rfl rfl (any_of HT_.out (by kernel_rfl)) (fun _ _ _ h => h) (Or.inr ⟨by rfl, rfl⟩) ?_ ?_
     rotate_left
     ·
      simp only [Act.put, setIfInBounds_toArray, set_cons_zero, set_cons_succ, i64_w, i32_w]
      rfl
     refine pure_ (i := 20) (N := some 82) (v := undef) (a' := ?_) #[true, true, true, true, true, true, true, true, true, true, true, true, true, true, true, true, true, true, true, true, true, false, false] rfl rfl (any_of HT_.out (by kernel_rfl)) (fun _ _ _ h => h) (Or.inr ⟨by rfl, rfl⟩) ?_ ?_
     rotate_left
     ·
      simp only [Act.put, setIfInBounds_toArray, set_cons_zero, set_cons_succ, i64_w, i32_w]
      rfl
     refine pure_ (i := 21) (N := some 83) (v := undef) (a' := ?_) #[true, true, true, true, true, true, true, true, true, true, true, true, true, true, true, true, true, true, true, true, true, true, false] rfl rfl (any_of HT_.out (by kernel_rfl)) (fun _ _ _ h => h) (Or.inr ⟨by rfl, rfl⟩) ?_ ?_
     rotate_left
     ·
      simp only [Act.put, setIfInBounds_toArray, set_cons_zero, set_cons_succ, i64_w, i32_w]
      rfl
     refine pure_ (i := 22) (N := some 84) (v := ?_) (a' := ?_) #[true, true, true, true, true, true, true, true, true, true, true, true, true, true, true, true, true, true, true, true, true, true, true] rfl rfl (any_of HT_.out (by kernel_rfl)) (fun _ _ _ h => h) (Or.inl ⟨by rfl, ?_⟩) ?_ ?_
     rotate_left
     ·
      intro w'
      go_simp
      with_reducible rfl
     rotate_left
     ·
      simp only [Act.put, setIfInBounds_toArray, set_cons_zero, set_cons_succ, i64_w, i32_w]
      rfl
     refine done_ (done_of HT_.out (by kernel_rfl)) ?_
     try go_wp2
     go_meet
     case rel => exact ⟨_, (false), (by first | rfl | (simp; done) | (simp [*]; done)), H', ⟨by have := cD.out; have := bP.out; have := bS.out; have := cY.out; have := dc.out; first | omega | exact Nat.le_refl _⟩, ⟨aw.out⟩, ⟨aA.out⟩, ⟨aC.out⟩, ⟨au.out⟩, ⟨ae.out⟩, ⟨af.out⟩, ⟨ac.out⟩, ⟨ad.out⟩, ⟨am.out⟩, ⟨ah.out⟩, ⟨aj.out⟩, ⟨HB.out⟩⟩
    clear HC31
    obtain ⟨kq, cv, rfl, HA, cm, aw, aA, aC, au, ae, af, ac, ad, am, ah, aj, HB⟩ := hcut
    cases kq with
    | zero => exact absurd HA.out (by simp [wordbookref15_Build.j5])
    | succ df => ?_
    have H := HA.out
    clear HA
    simp only [wordbookref15_Build.j5] at H
    by_cases c42 : cv = true
    ·
     subst c42
     have H1 : (wordbookref15_Build.l2 df l0 aJ aa ax aK aM aI (wrap64 (ay + 1)) l0 ar aq ap ((rd_T106 ab aa).f0) ((rd_T106 ab aa).f1) ((rd_T106 ab aa).f2)) = some (r1, r2, r3, r4, r5) := by rw [if_pos rfl] at H; exact H
     clear H
     have H := H1
     clear H1
     have H' := Aside0.mk H
     clear H
     go_wp2
     go_roundg df
     case measure => have := cD.out; have := bP.out; have := bS.out; have := cY.out; have := dc.out; have := cm.out; omega
     case rel => exact ⟨(wrap64 (ay + 1)), (by first | rfl | (simp; done) | (simp [*]; done)), H', ⟨by have := cD.out; have := bP.out; have := bS.out; have := cY.out; have := dc.out; have := cm.out; omega⟩, ⟨aw.out⟩, ⟨aA.out⟩, ⟨aC.out⟩, ⟨au.out⟩, ⟨ae.out⟩, ⟨af.out⟩, ⟨ac.out⟩, ⟨ad.out⟩, ⟨am.out⟩, ⟨ah.out⟩, ⟨aj.out⟩, ⟨HB.out⟩⟩
    replace c42 := Bool.eq_false_iff.mpr c42
    subst c42
    have H1 : (wordbookref15_Build.l3 df l0 aJ aa ax aK aM aI ay 0 l0 ar aq ap ((rd_T106 ab aa).f0) ((rd_T106 ab aa).f1) ((rd_T106 ab aa).f2) ax ay (wrap64 (((rd_T106 ab aa).f2) + 1))) = some (r1, r2, r3, r4, r5) := by rw [if_neg (show ¬ (false = true) by decide)] at H; exact H
    clear H
    have H := H1
    clear H1
    have H' := Aside0.mk H
    clear H
    have hnb43 := bO.out
    have hnc43 := aY.out
    have hnb44 := bl.out
    have hnc44 := aX.out
    have cX : wc.cell? ⟨ag, 0, none⟩ = some (.int .i64 ((rd_T106 ab aa).f0)) := (blk_cell aj.out 0).trans rfl
    have cW : wc.cell? ⟨ag, 1, none⟩ = some (.int .i64 ((rd_T106 ab aa).f1)) := (blk_cell aj.out 1).trans rfl
    have cV : wc.cell? ⟨ag, 2, none⟩ = some (.int .i64 ((rd_T106 ab aa).f2)) := (blk_cell aj.out 2).trans rfl
    have cR := blk_frozen aj.out 0
    have cQ := blk_frozen aj.out 1
    have cP := blk_frozen aj.out 2
    go_wp2_with (first | ((with_reducible refine gate_dst (N := 14) rfl ?_); (try (refine gate_guard (by rfl) ?_; dsimp only)); refine box_event ?hg (N := 14) ?hd (cs := #[.int .i64 0, .int .i64 0, .int .i64 0]) (t := 106) ?hr ?_; (case hd => rfl); (case hg => rfl); (case hr => first | (go_simp; done) | (go_simp; rfl)); intro av hg w46 hbox hb; have aT := Aside0.mk (Kd.V_below (Kd.V_elderB aw.out av (Nat.le_of_eq hg.symm)) hb); have aR := Aside0.mk (Kd.R_below (Kd.R_elderB aA.out av (Nat.le_of_eq hg.symm)) hb); have aQ := Aside0.mk (Kd.R_below aC.out hb); have aW := Aside0.mk (Kd.R_below au.out hb); have aV := Aside0.mk (Kd.V_below (Kd.V_elderB ae.out av (Nat.le_of_eq hg.symm)) hb); have bd := Aside0.mk (Kd.S_below af.out hb); have bc := Aside0.mk (Kd.S_below ac.out hb); have bb := Aside0.mk (Kd.R_below ad.out hb); have bh := Aside0.mk (blk_below (g := ao) (o := .cells #[.slice none 0 0, .slice none 0 0, .slice none 0 0, .slice none 0 0] 32 (0, 0)) am.out hb); have bg := Aside0.mk (blk_below (g := an) (o := .cells #[.slice A0 l0.length c0, ak, ai, al] 32 (0, 0)) ah.out hb); have aN := Aside0.mk (blk_below (g := ag) (o := .cells #[.int .i64 ((rd_T106 ab aa).f0), .int .i64 ((rd_T106 ab aa).f1), .int .i64 ((rd_T106 ab aa).f2)] 106 (0, 0)) aj.out hb); have aU := Aside0.mk (below_step HB.out hb); have ba := Aside0.mk (hbox); have bD := Aside0.mk ((by rw [hg]; exact (below_size HB.out) : w.heap.size ≤ av)); have de := Aside0.mk ((by rw [hg]; exact (below_size HB.out) : w.heap.size ≤ av)); have dd := Aside0.mk ((by rw [hg]; exact Nat.ne_of_lt (blk_lt (g := ao) (o := .cells #[.slice none 0 0, .slice none 0 0, .slice none 0 0, .slice none 0 0] 32 (0, 0)) am.out) : ao ≠ av)); have dD := Aside0.mk ((by rw [hg]; exact Nat.ne_of_gt (blk_lt (g := ao) (o := .cells #[.slice none 0 0, .slice none 0 0, .slice none 0 0, .slice none 0 0] 32 (0, 0)) am.out) : av ≠ ao)); have dC := Aside0.mk ((by rw [hg]; exact Nat.ne_of_lt (blk_lt (g := an) (o := .cells #[.slice A0 l0.length c0, ak, ai, al] 32 (0, 0)) ah.out) : an ≠ av)); have dB := Aside0.mk ((by rw [hg]; exact Nat.ne_of_gt (blk_lt (g := an) (o := .cells #[.slice A0 l0.length c0, ak, ai, al] 32 (0, 0)) ah.out) : av ≠ an)); have dA := Aside0.mk ((by rw [hg]; exact Nat.ne_of_lt (blk_lt (g := ag) (o := .cells #[.int .i64 ((rd_T106 ab aa).f0), .int .i64 ((rd_T106 ab aa).f1), .int .i64 ((rd_T106 ab aa).f2)] 106 (0, 0)) aj.out) : ag ≠ av)); have dz := Aside0.mk ((by rw [hg]; exact Nat.ne_of_gt (blk_lt (g := ag) (o := .cells #[.int .i64 ((rd_T106 ab aa).f0), .int .i64 ((rd_T106 ab aa).f1), .int .i64 ((rd_T106 ab aa).f2)] 106 (0, 0)) aj.out) : av ≠ ag)); clear aw; clear aA; clear aC; clear au; clear ae; clear af; clear ac; clear ad; clear am; clear ah; clear aj; clear HB; have aw := aT; have aA := aR; have aC := aQ; have au := aW; have ae := aV; have af := bd; have ac := bc; have ad := bb; have am := bh; have ah := bg; have aj := aN; have HB := aU; have az := ba; have fs := bD; have be := de; have bq := dd; have cr := dD; have bp := dC; have cq := dB; have bo := dA; have cp := dz; clear aT aR aQ aW aV bd bc bb bh bg aN aU ba bD de dd dD dC dB dA dz; clear hb hbox hg; have hnb47 := cr.out; have hnc47 := bq.out; have hnb48 := cq.out; have hnc48 := bp.out; have hnb49 := cp.out; have hnc49 := bo.out; have cU : w46.cell? ⟨av, 0, none⟩ = some (.int .i64 0) := (blk_cell az.out 0).trans rfl; have cT : w46.cell? ⟨av, 1, none⟩ = some (.int .i64 0) := (blk_cell az.out 1).trans rfl; have cS : w46.cell? ⟨av, 2, none⟩ = some (.int .i64 0) := (blk_cell az.out 2).trans rfl; have cO := blk_frozen az.out 0; have cN := blk_frozen az.out 1; have cM := blk_frozen az.out 2))
    go_loopg [15] df (fun kq v15 w' => ∃ (aH : Int), v15 = .int .i64 aH ∧ Aside0 (wordbookref15_Build.l3 kq l0 aJ aa ax aK aM aI ay aH l0 ar aq ap ((rd_T106 ab aa).f0) ((rd_T106 ab aa).f1) ((rd_T106 ab aa).f2) ax ay (wrap64 (((rd_T106 ab aa).f2) + 1)) = some (r1, r2, r3, r4, r5)) ∧ Aside0 (kq ≤ df) ∧ Aside0 (Kd.V (Kd.slice 3 (Kd.int .i64)) 22 w' w.heap.size (fun k_ => (P0_ k_ ∨ w.heap.size ≤ k_) ∧ some k_ ≠ (u6 : Value).ownBlock ∧ some k_ ≠ (u11 : Value).ownBlock ∧ some k_ ≠ (u12 : Value).ownBlock ∧ some k_ ≠ (ak : Value).ownBlock ∧ some k_ ≠ (ai : Value).ownBlock ∧ some k_ ≠ (al : Value).ownBlock ∧ k_ ≠ ao ∧ k_ ≠ an ∧ k_ ≠ ag ∧ k_ ≠ av) (.slice A0 l0.length c0) l0) ∧ Aside0 (Kd.R k106 106 w' w.heap.size (fun k_ => (w.heap.size ≤ k_) ∧ k_ ≠ ag ∧ k_ ≠ av) u6 aJ) ∧ Aside0 (Kd.R (Kd.int .i64) 3 w' w.heap.size (fun k_ => (w.heap.size ≤ k_) ∧ some k_ ≠ (u12 : Value).ownBlock) u11 aM) ∧ Aside0 (Kd.R (Kd.int .i64) 3 w' w.heap.size (fun k_ => (w.heap.size ≤ k_) ∧ some k_ ≠ (u11 : Value).ownBlock) u12 aI) ∧ Aside0 (Kd.V (Kd.slice 3 (Kd.int .i64)) 22 w' w.heap.size (fun k_ => (P0_ k_ ∨ w.heap.size ≤ k_) ∧ some k_ ≠ (u6 : Value).ownBlock ∧ some k_ ≠ (u11 : Value).ownBlock ∧ some k_ ≠ (u12 : Value).ownBlock ∧ some k_ ≠ (ak : Value).ownBlock ∧ some k_ ≠ (ai : Value).ownBlock ∧ some k_ ≠ (al : Value).ownBlock ∧ k_ ≠ ao ∧ k_ ≠ an ∧ k_ ≠ ag ∧ k_ ≠ av) (.slice A0 l0.length c0) l0) ∧ Aside0 (Kd.S (Kd.slice 3 (Kd.int .i64)) 22 w' w.heap.size (fun k_ => (w.heap.size ≤ k_) ∧ some k_ ≠ (u11 : Value).ownBlock ∧ some k_ ≠ (u12 : Value).ownBlock ∧ some k_ ≠ (ai : Value).ownBlock) ak ar) ∧ Aside0 (Kd.S (Kd.slice 3 (Kd.int .i64)) 22 w' w.heap.size (fun k_ => (w.heap.size ≤ k_) ∧ some k_ ≠ (u11 : Value).ownBlock ∧ some k_ ≠ (u12 : Value).ownBlock ∧ some k_ ≠ (ak : Value).ownBlock) ai aq) ∧ Aside0 (Kd.R Kd.bool 4 w' w.heap.size (fun k_ => (w.heap.size ≤ k_)) al ap) ∧ Aside0 (w'.heap[ao]? = some (.cells #[(.slice none 0 0), (.slice none 0 0), (.slice none 0 0), (.slice none 0 0)] 32 (0, 0))) ∧ Aside0 (w'.heap[an]? = some (.cells #[(.slice A0 l0.length c0), ak, ai, al] 32 (0, 0))) ∧ Aside0 (w'.heap[ag]? = some (.cells #[.int .i64 ((rd_T106 ab aa).f0), .int .i64 ((rd_T106 ab aa).f1), .int .i64 ((rd_T106 ab aa).f2)] 106 (0, 0))) ∧ Aside0 (w'.heap[av]? = some (.cells #[.int .i64 ax, .int .i64 ay, .int .i64 (wrap64 (((rd_T106 ab aa).f2) + 1))] 106 (0, 0))) ∧ Aside0 (Below w.heap.size w w'))
    case atStart => exact ⟨(0), (by first | rfl | (simp; done) | (simp [*]; done)), H', ⟨Nat.le_refl _⟩, ⟨by exact Kd.V_mono (Kd.V_far (p := ⟨av, 2, none⟩) (Kd.V_far (p := ⟨av, 1, none⟩) (Kd.V_far (p := ⟨av, 0, none⟩) (Kd.V_mono aw.out (fun k_ hk => (⟨hk, hk.2⟩ : _ ∧ k_ ≠ av))) (fun _ hk => hk.2) (.int .i64 ax)) (fun _ hk => hk.2) (.int .i64 ay)) (fun _ hk => hk.2) (.int .i64 (wrap64 (((rd_T106 ab aa).f2) + 1)))) (fun _ hk => ⟨hk.1.1.1, ⟨hk.1.1.2.1, ⟨hk.1.1.2.2.1, ⟨hk.1.1.2.2.2.1, ⟨hk.1.1.2.2.2.2.1, ⟨hk.1.1.2.2.2.2.2.1, ⟨hk.1.1.2.2.2.2.2.2.1, ⟨hk.1.1.2.2.2.2.2.2.2.1, ⟨hk.1.1.2.2.2.2.2.2.2.2.1, ⟨hk.1.1.2.2.2.2.2.2.2.2.2, hk.1.2⟩⟩⟩⟩⟩⟩⟩⟩⟩⟩)⟩, ⟨by exact Kd.R_mono (Kd.R_far (p := ⟨av, 2, none⟩) (Kd.R_far (p := ⟨av, 1, none⟩) (Kd.R_far (p := ⟨av, 0, none⟩) (Kd.R_mono aA.out (fun k_ hk => (⟨hk, hk.2⟩ : _ ∧ k_ ≠ av))) (fun _ hk => hk.2) (.int .i64 ax)) (fun _ hk => hk.2) (.int .i64 ay)) (fun _ hk => hk.2) (.int .i64 (wrap64 (((rd_T106 ab aa).f2) + 1)))) (fun _ hk => ⟨hk.1.1.1, ⟨hk.1.1.2, hk.1.2⟩⟩)⟩, ⟨by exact Kd.R_mono (Kd.R_far (p := ⟨av, 2, none⟩) (Kd.R_far (p := ⟨av, 1, none⟩) (Kd.R_far (p := ⟨av, 0, none⟩) (Kd.R_types aC.out az.out (by decide)) (fun _ hk => hk.2) (.int .i64 ax)) (fun _ hk => hk.2) (.int .i64 ay)) (fun _ hk => hk.2) (.int .i64 (wrap64 (((rd_T106 ab aa).f2) + 1)))) (fun _ hk => ⟨hk.1.1, hk.1.2⟩)⟩, ⟨by exact Kd.R_mono (Kd.R_far (p := ⟨av, 2, none⟩) (Kd.R_far (p := ⟨av, 1, none⟩) (Kd.R_far (p := ⟨av, 0, none⟩) (Kd.R_types au.out az.out (by decide)) (fun _ hk => hk.2) (.int .i64 ax)) (fun _ hk => hk.2) (.int .i64 ay)) (fun _ hk => hk.2) (.int .i64 (wrap64 (((rd_T106 ab aa).f2) + 1)))) (fun _ hk => ⟨hk.1.1, hk.1.2⟩)⟩, ⟨by exact Kd.V_mono (Kd.V_far (p := ⟨av, 2, none⟩) (Kd.V_far (p := ⟨av, 1, none⟩) (Kd.V_far (p := ⟨av, 0, none⟩) (Kd.V_mono ae.out (fun k_ hk => (⟨hk, hk.2⟩ : _ ∧ k_ ≠ av))) (fun _ hk => hk.2) (.int .i64 ax)) (fun _ hk => hk.2) (.int .i64 ay)) (fun _ hk => hk.2) (.int .i64 (wrap64 (((rd_T106 ab aa).f2) + 1)))) (fun _ hk => ⟨hk.1.1.1, ⟨hk.1.1.2.1, ⟨hk.1.1.2.2.1, ⟨hk.1.1.2.2.2.1, ⟨hk.1.1.2.2.2.2.1, ⟨hk.1.1.2.2.2.2.2.1, ⟨hk.1.1.2.2.2.2.2.2.1, ⟨hk.1.1.2.2.2.2.2.2.2.1, ⟨hk.1.1.2.2.2.2.2.2.2.2.1, ⟨hk.1.1.2.2.2.2.2.2.2.2.2, hk.1.2⟩⟩⟩⟩⟩⟩⟩⟩⟩⟩)⟩, ⟨by exact Kd.S_mono (Kd.S_far (p := ⟨av, 2, none⟩) (Kd.S_far (p := ⟨av, 1, none⟩) (Kd.S_far (p := ⟨av, 0, none⟩) (Kd.S_types af.out az.out (by decide)) (fun _ hk => hk.2) (.int .i64 ax)) (fun _ hk => hk.2) (.int .i64 ay)) (fun _ hk => hk.2) (.int .i64 (wrap64 (((rd_T106 ab aa).f2) + 1)))) (fun _ hk => ⟨hk.1.1, ⟨hk.1.2.1, ⟨hk.1.2.2.1, hk.1.2.2.2⟩⟩⟩)⟩, ⟨by exact Kd.S_mono (Kd.S_far (p := ⟨av, 2, none⟩) (Kd.S_far (p := ⟨av, 1, none⟩) (Kd.S_far (p := ⟨av, 0, none⟩) (Kd.S_types ac.out az.out (by decide)) (fun _ hk => hk.2) (.int .i64 ax)) (fun _ hk => hk.2) (.int .i64 ay)) (fun _ hk => hk.2) (.int .i64 (wrap64 (((rd_T106 ab aa).f2) + 1)))) (fun _ hk => ⟨hk.1.1, ⟨hk.1.2.1, ⟨hk.1.2.2.1, hk.1.2.2.2⟩⟩⟩)⟩, ⟨by exact Kd.R_mono (Kd.R_far (p := ⟨av, 2, none⟩) (Kd.R_far (p := ⟨av, 1, none⟩) (Kd.R_far (p := ⟨av, 0, none⟩) (Kd.R_types ad.out az.out (by decide)) (fun _ hk => hk.2) (.int .i64 ax)) (fun _ hk => hk.2) (.int .i64 ay)) (fun _ hk => hk.2) (.int .i64 (wrap64 (((rd_T106 ab aa).f2) + 1)))) (fun _ hk => hk.1)⟩, ⟨by refine blk_far ?_ bq.out _; refine blk_far ?_ bq.out _; refine blk_far ?_ bq.out _; exact am.out⟩, ⟨by refine blk_far ?_ bp.out _; refine blk_far ?_ bp.out _; refine blk_far ?_ bp.out _; exact ah.out⟩, ⟨by refine blk_far ?_ bo.out _; refine blk_far ?_ bo.out _; refine blk_far ?_ bo.out _; exact aj.out⟩, ⟨by refine blk_put (cs := #[.int .i64 ax, .int .i64 ay, .int .i64 0]) ?_ 2 _ rfl; refine blk_put (cs := #[.int .i64 ax, .int .i64 0, .int .i64 0]) ?_ 1 _ rfl; refine blk_put (cs := #[.int .i64 0, .int .i64 0, .int .i64 0]) ?_ 0 _ rfl; exact az.out⟩, ⟨by repeat (first | (with_reducible first | exact HB.out | apply below_alloc | apply pw_below_drewN | apply below_drew1 | refine below_set ?_ aD.out | refine below_set ?_ aE.out | refine below_set ?_ aG.out | refine below_set ?_ be.out) | exact HB.out)⟩⟩
    clear H'
    clear cX cW cV cU cT cS cR cQ cP cO cN cM
    obtain ⟨aH, rfl, HA, dr, aw, aA, aC, au, ae, af, ac, ad, am, ah, aj, az, HB⟩ := hrel
    cases gk with
    | zero => exact absurd HA.out (by simp [wordbookref15_Build.l3])
    | succ k7 => ?_
    have H := HA.out
    clear HA
    simp only [wordbookref15_Build.l3] at H
    have HC51 := Aside0.mk H
    clear H
    go_upto_region 22 with (fail)
    go_cut [106] (fun v106 wc => ∃ (kq : Nat) (bX : Bool), v106 = .bool bX ∧ Aside0 (wordbookref15_Build.j7 kq l0 aJ aa ax aK aM aI ay aH bX l0 ar aq ap ((rd_T106 ab aa).f0) ((rd_T106 ab aa).f1) ((rd_T106 ab aa).f2) ax ay (wrap64 (((rd_T106 ab aa).f2) + 1)) = some (r1, r2, r3, r4, r5)) ∧ Aside0 (kq ≤ k7) ∧ Aside0 (Kd.V (Kd.slice 3 (Kd.int .i64)) 22 wc w.heap.size (fun k_ => (P0_ k_ ∨ w.heap.size ≤ k_) ∧ some k_ ≠ (u6 : Value).ownBlock ∧ some k_ ≠ (u11 : Value).ownBlock ∧ some k_ ≠ (u12 : Value).ownBlock ∧ some k_ ≠ (ak : Value).ownBlock ∧ some k_ ≠ (ai : Value).ownBlock ∧ some k_ ≠ (al : Value).ownBlock ∧ k_ ≠ ao ∧ k_ ≠ an ∧ k_ ≠ ag ∧ k_ ≠ av) (.slice A0 l0.length c0) l0) ∧ Aside0 (Kd.R k106 106 wc w.heap.size (fun k_ => (w.heap.size ≤ k_) ∧ k_ ≠ ag ∧ k_ ≠ av) u6 aJ) ∧ Aside0 (Kd.R (Kd.int .i64) 3 wc w.heap.size (fun k_ => (w.heap.size ≤ k_) ∧ some k_ ≠ (u12 : Value).ownBlock) u11 aM) ∧ Aside0 (Kd.R (Kd.int .i64) 3 wc w.heap.size (fun k_ => (w.heap.size ≤ k_) ∧ some k_ ≠ (u11 : Value).ownBlock) u12 aI) ∧ Aside0 (Kd.V (Kd.slice 3 (Kd.int .i64)) 22 wc w.heap.size (fun k_ => (P0_ k_ ∨ w.heap.size ≤ k_) ∧ some k_ ≠ (u6 : Value).ownBlock ∧ some k_ ≠ (u11 : Value).ownBlock ∧ some k_ ≠ (u12 : Value).ownBlock ∧ some k_ ≠ (ak : Value).ownBlock ∧ some k_ ≠ (ai : Value).ownBlock ∧ some k_ ≠ (al : Value).ownBlock ∧ k_ ≠ ao ∧ k_ ≠ an ∧ k_ ≠ ag ∧ k_ ≠ av) (.slice A0 l0.length c0) l0) ∧ Aside0 (Kd.S (Kd.slice 3 (Kd.int .i64)) 22 wc w.heap.size (fun k_ => (w.heap.size ≤ k_) ∧ some k_ ≠ (u11 : Value).ownBlock ∧ some k_ ≠ (u12 : Value).ownBlock ∧ some k_ ≠ (ai : Value).ownBlock) ak ar) ∧ Aside0 (Kd.S (Kd.slice 3 (Kd.int .i64)) 22 wc w.heap.size (fun k_ => (w.heap.size ≤ k_) ∧ some k_ ≠ (u11 : Value).ownBlock ∧ some k_ ≠ (u12 : Value).ownBlock ∧ some k_ ≠ (ak : Value).ownBlock) ai aq) ∧ Aside0 (Kd.R Kd.bool 4 wc w.heap.size (fun k_ => (w.heap.size ≤ k_)) al ap) ∧ Aside0 (wc.heap[ao]? = some (.cells #[(.slice none 0 0), (.slice none 0 0), (.slice none 0 0), (.slice none 0 0)] 32 (0, 0))) ∧ Aside0 (wc.heap[an]? = some (.cells #[(.slice A0 l0.length c0), ak, ai, al] 32 (0, 0))) ∧ Aside0 (wc.heap[ag]? = some (.cells #[.int .i64 ((rd_T106 ab aa).f0), .int .i64 ((rd_T106 ab aa).f1), .int .i64 ((rd_T106 ab aa).f2)] 106 (0, 0))) ∧ Aside0 (wc.heap[av]? = some (.cells #[.int .i64 ax, .int .i64 ay, .int .i64 (wrap64 (((rd_T106 ab aa).f2) + 1))] 106 (0, 0))) ∧ Aside0 (Below w.heap.size w wc))
    case first =>
     have H := HC51.out
     clear HC51
     by_cases c52 : aH < (aJ.length : Int)
     ·
      rw [if_pos c52] at H
      have co : decide (aH < (aJ.length : Int)) = true := decide_eq_true c52
      clear c52
      (first | rw [co] | (simp only [i64_w, i32_w]; rw [co]) | skip)
      have c53 : 0 ≤ aH := Classical.byContradiction fun c_ => by rw [if_neg c_] at H; exact absurd H (by simp)
      rw [if_pos c53] at H
      have eD : decide (0 ≤ aH) = true := decide_eq_true c53
      clear c53
      replace H := Option.bind_eq_some_iff.mp H
      obtain ⟨t125, A540, H⟩ := H
      replace H : (wordbookref15_Build.j7 k7 l0 aJ aa ax aK aM aI ay aH (!t125) l0 ar aq ap ((rd_T106 ab aa).f0) ((rd_T106 ab aa).f1) ((rd_T106 ab aa).f2) ax ay (wrap64 (((rd_T106 ab aa).f2) + 1))) = some (r1, r2, r3, r4, r5) := H
      have A54 := Aside0.mk A540
      clear A540
      have H' := Aside0.mk H
      clear H
      try go_wp2
      have aT := Aside0.mk (Kd.V_drew aw.out)
      have aR := Aside0.mk (Kd.R_drew aA.out)
      have aQ := Aside0.mk (Kd.R_drew aC.out)
      have aW := Aside0.mk (Kd.R_drew au.out)
      have aV := Aside0.mk (Kd.V_drew ae.out)
      have bd := Aside0.mk (Kd.S_drew af.out)
      have bc := Aside0.mk (Kd.S_drew ac.out)
      have bb := Aside0.mk (Kd.R_drew ad.out)
      have bh := Aside0.mk (blk_drew am.out)
      have bg := Aside0.mk (blk_drew ah.out)
      have aN := Aside0.mk (blk_drew aj.out)
      have aU := Aside0.mk (blk_drew az.out)
      have ba := Aside0.mk (below_drew1 HB.out)
      clear aw
      clear aA
      clear aC
      clear au
      clear ae
      clear af
      clear ac
      clear ad
      clear am
      clear ah
      clear aj
      clear az
      clear HB
      have aw := aT
      have aA := aR
      have aC := aQ
      have au := aW
      have ae := aV
      have af := bd
      have ac := bc
      have ad := bb
      have am := bh
      have ah := bg
      have aj := aN
      have az := aU
      have HB := ba
      clear aT aR aQ aW aV bd bc bb bh bg aN aU ba
      obtain ⟨fz, fx, eo56⟩ := Kd.R_slice aA.out
      (first | subst eo56 | (injection eo56 with f1_ f2_ f3_; have f4_ := f1_.symm; have f5_ := f3_.symm; clear f1_ f2_ f3_; subst f4_; subst f5_))
      have p124 : 0 ≤ (aH : Int) := of_decide_eq_true (by first | (with_reducible assumption) | assumption)
      have q124 : aH < (aJ.length : Int) := of_decide_eq_true (by first | (with_reducible assumption) | assumption)
      obtain ⟨ad124, e124, cA, cz, cy⟩ := at_T106 (Kd.R_reads' aA.out).2.2 aH p124 q124
      cases e124
      replace p124 := eq_true p124
      replace q124 := eq_true q124
      refine start_ (n := 14) (S := fun w' => w'.cell? ⟨av, 0, none⟩ = some (.int .i64 ax) ∧ w'.cell? ⟨av, 1, none⟩ = some (.int .i64 ay) ∧ w'.cell? ⟨av, 2, none⟩ = some (.int .i64 (wrap64 (((rd_T106 ab aa).f2) + 1))) ∧ w'.cell? (ad124.add ((aH).toNat * 3)) = some (.int .i64 ((rd_T106 aJ aH).f0)) ∧ w'.cell? ⟨(ad124.add ((aH).toNat * 3)).block, (ad124.add ((aH).toNat * 3)).off + 1, none⟩ = some (.int .i64 ((rd_T106 aJ aH).f1)) ∧ w'.cell? ⟨(ad124.add ((aH).toNat * 3)).block, (ad124.add ((aH).toNat * 3)).off + 2, none⟩ = some (.int .i64 ((rd_T106 aJ aH).f2))) (ds := []) #[false, false, false, false, false, false, false, false, false, false, false, false, false, false] (by kernel_rfl) rfl rfl ⟨(blk_cell az.out 0).trans rfl, (blk_cell az.out 1).trans rfl, (blk_cell az.out 2).trans rfl, cA, cz, cy⟩ (fun hHeld => ?_); refine with_tabW wordbookref15_Build.tab22 wordbookref15_Build.bits22 (fun HT_ HW_ => ?_)
      generalize wr.drew = w55 at aw aA aC au ae af ac ad am ah aj az HB cA cz cy hHeld ⊢
      refine pure_ (i := 0) (N := some 93) (v := ?_) (a' := ?_) #[true, false, false, false, false, false, false, false, false, false, false, false, false, false] rfl rfl (any_of HT_.out (by kernel_rfl)) (fun _ _ _ h => h) (Or.inl ⟨by rfl, ?_⟩) ?_ ?_
      rotate_left
      ·
       intro w'
       go_simp
       with_reducible rfl
      rotate_left
      ·
       simp only [Act.put, setIfInBounds_toArray, set_cons_zero, set_cons_succ, i64_w, i32_w]
       rfl
      refine pure_ (i := 1) (N := some 94) (v := ?_) (a' := ?_) #[true, true, false, false, false, false, false, false, false, false, false, false, false, false] rfl rfl (any_of HT_.out (by kernel_rfl)) (fun _ _ _ h => h) (Or.inl ⟨by rfl, ?_⟩) ?_ ?_
      rotate_left
      ·
       intro w'
       go_simp
       with_reducible rfl
      rotate_left
      ·
       simp only [Act.put, setIfInBounds_toArray, set_cons_zero, set_cons_succ, i64_w, i32_w]
       rfl
      refine pure_ (i := 2) (N := some 95) (v := ?_) (a' := ?_) #[true, true, true, false, false, false, false, false, false, false, false, false, false, false] rfl rfl (any_of HT_.out (by kernel_rfl)) (fun _ _ _ h => h) (Or.inl ⟨by rfl, ?_⟩) ?_ ?_
      rotate_left
      ·
       intro w'
       go_simp
       with_reducible rfl
      rotate_left
      ·
       simp only [Act.put, setIfInBounds_toArray, set_cons_zero, set_cons_succ, i64_w, i32_w]
       rfl
      refine pure_ (i := 3) (N := some 96) (v := ?_) (a' := ?_) #[true, true, true, true, false, false, false, false, false, false, false, false, false, false] rfl rfl (any_of HT_.out (by kernel_rfl)) (fun _ _ _ h => h) (Or.inl ⟨by rfl, ?_⟩) ?_ ?_
      rotate_left
      ·
       intro w'
       go_simp
       with_reducible rfl
      rotate_left
      ·
       simp only [Act.put, setIfInBounds_toArray, set_cons_zero, set_cons_succ, i64_w, i32_w]
       rfl
      refine pure_ (i := 4) (N := some 97) (v := ?_) (a' := ?_) #[true, true, true, true, true, false, false, false, false, false, false, false, false, false] rfl rfl (any_of HT_.out (by kernel_rfl)) (fun _ _ _ h => h) (Or.inl ⟨by rfl, ?_⟩) ?_ ?_
      rotate_left
      ·
       intro w'
       go_simp
       with_reducible rfl
      rotate_left
      ·
       simp only [Act.put, setIfInBounds_toArray, set_cons_zero, set_cons_succ, i64_w, i32_w]
       rfl
      refine pure_ (i := 5) (N := some 98) (v := ?_) (a' := ?_) #[true, true, true, true, true, true, false, false, false, false, false, false, false, false] rfl rfl (any_of HT_.out (by kernel_rfl)) (fun _ _ _ h => h) (Or.inl ⟨by rfl, ?_⟩) ?_ ?_
      rotate_left
      ·
       intro w'
       go_simp
       with_reducible rfl
      rotate_left
      ·
       simp only [Act.put, setIfInBounds_toArray, set_cons_zero, set_cons_succ, i64_w, i32_w]
       rfl
      refine pure_ (i := 6) (N := some 99) (v := ?_) (a' := ?_) #[true, true, true, true, true, true, true, false, false, false, false, false, false, false] rfl rfl (any_of HT_.out (by kernel_rfl)) (fun _ _ _ h => h) (Or.inl ⟨by rfl, ?_⟩) ?_ ?_
      rotate_left
      ·
       intro w'
       go_simp
       with_reducible rfl
      rotate_left
      ·
       simp only [Act.put, setIfInBounds_toArray, set_cons_zero, set_cons_succ, i64_w, i32_w]
       rfl
      refine pure_ (i := 7) (N := some 100) (v := ?_) (a' := ?_) #[true, true, true, true, true, true, true, true, false, false, false, false, false, false] rfl rfl (any_of HT_.out (by kernel_rfl)) (fun _ _ _ h => h) (Or.inl ⟨by rfl, ?_⟩) ?_ ?_
      rotate_left
      ·
       intro w'
       go_simp
       with_reducible rfl
      rotate_left
      ·
       simp only [Act.put, setIfInBounds_toArray, set_cons_zero, set_cons_succ, i64_w, i32_w]
       rfl
      refine pure_ (i := 8) (N := some 101) (v := ?_) (a' := ?_) #[true, true, true, true, true, true, true, true, true, false, false, false, false, false] rfl rfl (any_of HT_.out (by kernel_rfl)) (fun _ _ _ h => h) (Or.inl ⟨by rfl, ?_⟩) ?_ ?_
      rotate_left
      ·
       intro w'
       go_simp
       with_reducible rfl
      rotate_left
      ·
       simp only [Act.put, setIfInBounds_toArray, set_cons_zero, set_cons_succ, i64_w, i32_w]
       rfl
      refine take_ (i := 9) (N := some 102) (v := ?_) (a' := ?_) #[true, true, true, true, true, true, true, true, true, true, false, false, false, false] rfl rfl (take_ofW HT_.out HW_.out (by kernel_rfl)) (fun _ _ _ h => h) (Or.inl ⟨by rfl, ?_⟩) hHeld ?_ ?_
      rotate_left
      ·
       rintro w' ⟨s0, s1, s2, s3, s4, s5⟩
       go_simp
       with_reducible rfl
      rotate_left
      ·
       simp only [Act.put, setIfInBounds_toArray, set_cons_zero, set_cons_succ, i64_w, i32_w]
       rfl
      refine take_ (i := 10) (N := some 103) (v := ?_) (a' := ?_) #[true, true, true, true, true, true, true, true, true, true, true, false, false, false] rfl rfl (take_ofW HT_.out HW_.out (by kernel_rfl)) (fun _ _ _ h => h) (Or.inl ⟨by rfl, ?_⟩) hHeld ?_ ?_
      rotate_left
      ·
       rintro w' ⟨s0, s1, s2, s3, s4, s5⟩
       go_simp
       with_reducible rfl
      rotate_left
      ·
       simp only [Act.put, setIfInBounds_toArray, set_cons_zero, set_cons_succ, i64_w, i32_w]
       rfl
      refine one_ (i := 11) (N := some 104) #[true, true, true, true, true, true, true, true, true, true, true, true, false, false] rfl rfl (one_of HT_.out (by kernel_rfl)) (by decide) (fun K hK => ?_)
      refine goes_ Try.func71 (by kernel_rfl) rfl #[.slice A0 l0.length c0, .agg #[.int .i64 ((rd_T106 aJ aH).f0), .int .i64 ((rd_T106 aJ aH).f1), .int .i64 ((rd_T106 aJ aH).f2)], .agg #[.int .i64 ax, .int .i64 ay, .int .i64 (wrap64 (((rd_T106 ab aa).f2) + 1))]] (by rfl) rfl rfl (by (try simp only [List.map_toArray, List.map_cons, List.map_nil]); first | done | rfl | (simp only [List.length_drop, List.length_take]; rfl)) ?_
      with_reducible refine (wordbookref15_same.calls _ _ l0 ((rd_T106 aJ aH).f0) ((rd_T106 aJ aH).f1) ((rd_T106 aJ aH).f2) ax ay (wrap64 (((rd_T106 ab aa).f2) + 1)) t125 _ ?side1 ?side2 A54.out).mono ?_
      (case side1 => repeat (first | exact (Kd.V_reads' aw.out).2.2 | (with_reducible refine Kd.C_alloc ?_ _) | (with_reducible refine Kd.C_drewN ?_ _) | (with_reducible refine Kd.C_drew ?_)))
      (case side2 => exact (Kd.V_reads' aw.out).2.1)
      rintro e w57 ⟨rfl, hb⟩
      have HS3_ := (hb.cell (World.block_lt_of_cell? _ _ (hHeld.2.2.2.1))).trans (hHeld.2.2.2.1)
      have HS4_ := (hb.cell (World.block_lt_of_cell? _ _ (hHeld.2.2.2.2.1))).trans (hHeld.2.2.2.2.1)
      have HS5_ := (hb.cell (World.block_lt_of_cell? _ _ (hHeld.2.2.2.2.2))).trans (hHeld.2.2.2.2.2)
      refine ⟨_, rfl, ?_⟩
      have aT := Aside0.mk (Kd.V_below aw.out hb)
      have aR := Aside0.mk (Kd.R_below aA.out hb)
      have aQ := Aside0.mk (Kd.R_below aC.out hb)
      have aW := Aside0.mk (Kd.R_below au.out hb)
      have aV := Aside0.mk (Kd.V_below ae.out hb)
      have bd := Aside0.mk (Kd.S_below af.out hb)
      have bc := Aside0.mk (Kd.S_below ac.out hb)
      have bb := Aside0.mk (Kd.R_below ad.out hb)
      have bh := Aside0.mk (blk_below (g := ao) (o := .cells #[.slice none 0 0, .slice none 0 0, .slice none 0 0, .slice none 0 0] 32 (0, 0)) am.out hb)
      have bg := Aside0.mk (blk_below (g := an) (o := .cells #[.slice A0 l0.length c0, ak, ai, al] 32 (0, 0)) ah.out hb)
      have aN := Aside0.mk (blk_below (g := ag) (o := .cells #[.int .i64 ((rd_T106 ab aa).f0), .int .i64 ((rd_T106 ab aa).f1), .int .i64 ((rd_T106 ab aa).f2)] 106 (0, 0)) aj.out hb)
      have aU := Aside0.mk (blk_below (g := av) (o := .cells #[.int .i64 ax, .int .i64 ay, .int .i64 (wrap64 (((rd_T106 ab aa).f2) + 1))] 106 (0, 0)) az.out hb)
      have ba := Aside0.mk (below_step HB.out hb)
      clear aw
      clear aA
      clear aC
      clear au
      clear ae
      clear af
      clear ac
      clear ad
      clear am
      clear ah
      clear aj
      clear az
      clear HB
      have aw := aT
      have aA := aR
      have aC := aQ
      have au := aW
      have ae := aV
      have af := bd
      have ac := bc
      have ad := bb
      have am := bh
      have ah := bg
      have aj := aN
      have az := aU
      have HB := ba
      clear aT aR aQ aW aV bd bc bb bh bg aN aU ba
      clear hb
      refine hK.out _ _ ⟨(blk_cell az.out 0).trans rfl, (blk_cell az.out 1).trans rfl, (blk_cell az.out 2).trans rfl, HS3_, HS4_, HS5_⟩ (fun hHeld => ?_)
      clear hK K
      refine norm_ (a' := ?_) ?_ ?_
      rotate_left
      ·
       show Act.put _ (some 104) _ = _
       simp only [Act.put, setIfInBounds_toArray, set_cons_zero, set_cons_succ, i64_w, i32_w]
       rfl
      refine pure_ (i := 12) (N := some 105) (v := ?_) (a' := ?_) #[true, true, true, true, true, true, true, true, true, true, true, true, true, false] rfl rfl (any_of HT_.out (by kernel_rfl)) (fun _ _ _ h => h) (Or.inl ⟨by rfl, ?_⟩) ?_ ?_
      rotate_left
      ·
       intro w'
       go_simp
       with_reducible rfl
      rotate_left
      ·
       simp only [Act.put, setIfInBounds_toArray, set_cons_zero, set_cons_succ, i64_w, i32_w]
       rfl
      refine pure_ (i := 13) (N := some 106) (v := ?_) (a' := ?_) #[true, true, true, true, true, true, true, true, true, true, true, true, true, true] rfl rfl (any_of HT_.out (by kernel_rfl)) (fun _ _ _ h => h) (Or.inl ⟨by rfl, ?_⟩) ?_ ?_
      rotate_left
      ·
       intro w'
       go_simp
       with_reducible rfl
      rotate_left
      ·
       simp only [Act.put, setIfInBounds_toArray, set_cons_zero, set_cons_succ, i64_w, i32_w]
       rfl
      refine done_ (done_of HT_.out (by kernel_rfl)) ?_
      try go_wp2
      go_meet
      case rel => exact ⟨_, (!t125), (by first | rfl | (simp; done) | (simp [*]; done)), H', ⟨by have := cD.out; have := bP.out; have := bS.out; have := cY.out; have := dc.out; have := cm.out; have := dr.out; first | omega | exact Nat.le_refl _⟩, ⟨aw.out⟩, ⟨aA.out⟩, ⟨aC.out⟩, ⟨au.out⟩, ⟨ae.out⟩, ⟨af.out⟩, ⟨ac.out⟩, ⟨ad.out⟩, ⟨am.out⟩, ⟨ah.out⟩, ⟨aj.out⟩, ⟨az.out⟩, ⟨HB.out⟩⟩
     rw [if_neg c52] at H
     have co : decide (aH < (aJ.length : Int)) = false := decide_eq_false c52
     clear c52
     (first | rw [co] | (simp only [i64_w, i32_w]; rw [co]) | skip)
     have H' := Aside0.mk H
     clear H
     try go_wp2
     have aT := Aside0.mk (Kd.V_drew aw.out)
     have aR := Aside0.mk (Kd.R_drew aA.out)
     have aQ := Aside0.mk (Kd.R_drew aC.out)
     have aW := Aside0.mk (Kd.R_drew au.out)
     have aV := Aside0.mk (Kd.V_drew ae.out)
     have bd := Aside0.mk (Kd.S_drew af.out)
     have bc := Aside0.mk (Kd.S_drew ac.out)
     have bb := Aside0.mk (Kd.R_drew ad.out)
     have bh := Aside0.mk (blk_drew am.out)
     have bg := Aside0.mk (blk_drew ah.out)
     have aN := Aside0.mk (blk_drew aj.out)
     have aU := Aside0.mk (blk_drew az.out)
     have ba := Aside0.mk (below_drew1 HB.out)
     clear aw
     clear aA
     clear aC
     clear au
     clear ae
     clear af
     clear ac
     clear ad
     clear am
     clear ah
     clear aj
     clear az
     clear HB
     have aw := aT
     have aA := aR
     have aC := aQ
     have au := aW
     have ae := aV
     have af := bd
     have ac := bc
     have ad := bb
     have am := bh
     have ah := bg
     have aj := aN
     have az := aU
     have HB := ba
     clear aT aR aQ aW aV bd bc bb bh bg aN aU ba
     obtain ⟨fy, fw, eo59⟩ := Kd.R_slice aA.out
     (first | subst eo59 | (injection eo59 with f1_ f2_ f3_; have f4_ := f1_.symm; have f5_ := f3_.symm; clear f1_ f2_ f3_; subst f4_; subst f5_))
     refine start_ (n := 14) (S := fun w' => True) (ds := []) #[false, false, false, false, false, false, false, false, false, false, false, false, false, false] (by kernel_rfl) rfl rfl trivial (fun hHeld => ?_); refine with_tabW wordbookref15_Build.tab22 wordbookref15_Build.bits22 (fun HT_ HW_ => ?_)
     generalize wr.drew = w58 at aw aA aC au ae af ac ad am ah aj az HB hHeld ⊢
     refine pure_ (i := 0) (N := some 93) (v := ?_) (a' := ?_) #[true, false, false, false, false, false, false, false, false, false, false, false, false, false] rfl rfl (any_of HT_.out (by kernel_rfl)) (fun _ _ _ h => h) (Or.inl ⟨by rfl, ?_⟩) ?_ ?_
     rotate_left
     ·
      intro w'
      go_simp
      with_reducible rfl
     rotate_left
     ·
      simp only [Act.put, setIfInBounds_toArray, set_cons_zero, set_cons_succ, i64_w, i32_w]
      rfl
     refine pure_ (i := 1) (N := some 94) (v := ?_) (a' := ?_) #[true, true, false, false, false, false, false, false, false, false, false, false, false, false] rfl rfl (any_of HT_.out (by kernel_rfl)) (fun _ _ _ h => h) (Or.inl ⟨by rfl, ?_⟩) ?_ ?_
     rotate_left
     ·
      intro w'
      go_simp
      with_reducible rfl
     rotate_left
     ·
      simp only [Act.put, setIfInBounds_toArray, set_cons_zero, set_cons_succ, i64_w, i32_w]
      rfl
     refine pure_ (i := 2) (N := some 95) (v := ?_) (a' := ?_) #[true, true, true, false, false, false, false, false, false, false, false, false, false, false] rfl rfl (any_of HT_.out (by kernel_rfl)) (fun _ _ _ h => h) (Or.inl ⟨by rfl, ?_⟩) ?_ ?_
     rotate_left
     ·
      intro w'
      go_simp
      with_reducible rfl
     rotate_left
     ·
      simp only [Act.put, setIfInBounds_toArray, set_cons_zero, set_cons_succ, i64_w, i32_w]
      rfl
     refine pure_ (i := 3) (N := some 96) (v := ?_) (a' := ?_) #[true, true, true, true, false, false, false, false, false, false, false, false, false, false] rfl rfl (any_of HT_.out (by kernel_rfl)) (fun _ _ _ h => h) (Or.inl ⟨by rfl, ?_⟩) ?_ ?_
     rotate_left
     ·
      intro w'
      go_simp
      with_reducible rfl
     rotate_left
     ·
      simp only [Act.put, setIfInBounds_toArray, set_cons_zero, set_cons_succ, i64_w, i32_w]
      rfl
     refine pure_ (i := 4) (N := some 97) (v := ?_) (a' := ?_) #[true, true, true, true, true, false, false, false, false, false, false, false, false, false] rfl rfl (any_of HT_.out (by kernel_rfl)) (fun _ _ _ h => h) (Or.inl ⟨by rfl, ?_⟩) ?_ ?_
     rotate_left
     ·
      intro w'
      go_simp
      with_reducible rfl
     rotate_left
     ·
      simp only [Act.put, setIfInBounds_toArray, set_cons_zero, set_cons_succ, i64_w, i32_w]
      rfl
     refine pure_ (i := 5) (N := some 98) (v := undef) (a' := ?_) #[true, true, true, true, true, true, false, false, false, false, false, false, false, false] rfl rfl (any_of HT_.out (by kernel_rfl)) (fun _ _ _ h => h) (Or.inr ⟨by rfl, rfl⟩) ?_ ?_
     rotate_left
     ·
      simp only [Act.put, setIfInBounds_toArray, set_cons_zero, set_cons_succ, i64_w, i32_w]
      rfl
     refine pure_ (i := 6) (N := some 99) (v := undef) (a' := ?_) #[true, true, true, true, true, true, true, false, false, false, false, false, false, false] rfl rfl (any_of HT_.out (by kernel_rfl)) (fun _ _ _ h => h) (Or.inr ⟨by rfl, rfl⟩) ?_ ?_
     rotate_left
     ·
      simp only [Act.put, setIfInBounds_toArray, set_cons_zero, set_cons_succ, i64_w, i32_w]
      rfl
     refine pure_ (i := 7) (N := some 100) (v := undef) (a' := ?_) #[true, true, true, true, true, true, true, true, false, false, false, false, false, false] rfl rfl (any_of HT_.out (by kernel_rfl)) (fun _ _ _ h => h) (Or.inr ⟨by rfl, rfl⟩) ?_ ?_
     rotate_left
     ·
      simp only [Act.put, setIfInBounds_toArray, set_cons_zero, set_cons_succ, i64_w, i32_w]
      rfl
     refine pure_ (i := 8) (N := some 101) (v := undef) (a' := ?_) #[true, true, true, true, true, true, true, true, true, false, false, false, false, false] rfl rfl (any_of HT_.out (by kernel_rfl)) (fun _ _ _ h => h) (Or.inr ⟨by rfl, rfl⟩) ?_ ?_
     rotate_left
     ·
      simp only [Act.put, setIfInBounds_toArray, set_cons_zero, set_cons_succ, i64_w, i32_w]
      rfl
     refine pure_ (i := 9) (N := some 102) (v := undef) (a' := ?_) #[true, true, true, true, true, true, true, true, true, true, false, false, false, false] rfl rfl (any_of HT_.out (by kernel_rfl)) (fun _ _ _ h => h) (Or.inr ⟨by rfl, rfl⟩) ?_ ?_
     rotate_left
     ·
      simp only [Act.put, setIfInBounds_toArray, set_cons_zero, set_cons_succ, i64_w, i32_w]
      rfl
     refine pure_ (i := 10) (N := some 103) (v := undef) (a' := ?_) #[true, true, true, true, true, true, true, true, true, true, true, false, false, false] rfl rfl (any_of HT_.out (by kernel_rfl)) (fun _ _ _ h => h) (Or.inr ⟨by rfl, rfl⟩) ?_ ?_
     rotate_left
     ·
      simp only [Act.put, setIfInBounds_toArray, set_cons_zero, set_cons_succ, i64_w, i32_w]
      rfl
     refine pure_ (i := 11) (N := some 104) (v := undef) (a' := ?_) #[true, true, true, true, true, true, true, true, true, true, true, true, false, false] rfl rfl (any_of HT_.out (by kernel_rfl)) (fun _ _ _ h => h) (Or.inr ⟨by rfl, rfl⟩) ?_ ?_
     rotate_left
     ·
      simp only [Act.put, setIfInBounds_toArray, set_cons_zero, set_cons_succ, i64_w, i32_w]
      rfl
     refine pure_ (i := 12) (N := some 105) (v := undef) (a' := ?_) #[true, true, true, true, true, true, true, true, true, true, true, true, true, false] rfl rfl (any_of HT_.out (by kernel_rfl)) (fun _ _ _ h => h) (Or.inr ⟨by rfl, rfl⟩) ?_ ?_
     rotate_left
     ·
      simp only [Act.put, setIfInBounds_toArray, set_cons_zero, set_cons_succ, i64_w, i32_w]
      rfl
     refine pure_ (i := 13) (N := some 106) (v := ?_) (a' := ?_) #[true, true, true, true, true, true, true, true, true, true, true, true, true, true] rfl rfl (any_of HT_.out (by kernel_rfl)) (fun _ _ _ h => h) (Or.inl ⟨by rfl, ?_⟩) ?_ ?_
     rotate_left
     ·
      intro w'
      go_simp
      with_reducible rfl
     rotate_left
     ·
      simp only [Act.put, setIfInBounds_toArray, set_cons_zero, set_cons_succ, i64_w, i32_w]
      rfl
     refine done_ (done_of HT_.out (by kernel_rfl)) ?_
     try go_wp2
     go_meet
     case rel => exact ⟨_, (false), (by first | rfl | (simp; done) | (simp [*]; done)), H', ⟨by have := cD.out; have := bP.out; have := bS.out; have := cY.out; have := dc.out; have := cm.out; have := dr.out; first | omega | exact Nat.le_refl _⟩, ⟨aw.out⟩, ⟨aA.out⟩, ⟨aC.out⟩, ⟨au.out⟩, ⟨ae.out⟩, ⟨af.out⟩, ⟨ac.out⟩, ⟨ad.out⟩, ⟨am.out⟩, ⟨ah.out⟩, ⟨aj.out⟩, ⟨az.out⟩, ⟨HB.out⟩⟩
    clear HC51
    obtain ⟨kq, bX, rfl, HA, da, aw, aA, aC, au, ae, af, ac, ad, am, ah, aj, az, HB⟩ := hcut
    cases kq with
    | zero => exact absurd HA.out (by simp [wordbookref15_Build.j7])
    | succ ce => ?_
    have H := HA.out
    clear HA
    simp only [wordbookref15_Build.j7] at H
    by_cases c60 : bX = true
    ·
     subst c60
     have H1 : (wordbookref15_Build.l3 ce l0 aJ aa ax aK aM aI ay (wrap64 (aH + 1)) l0 ar aq ap ((rd_T106 ab aa).f0) ((rd_T106 ab aa).f1) ((rd_T106 ab aa).f2) ax ay (wrap64 (((rd_T106 ab aa).f2) + 1))) = some (r1, r2, r3, r4, r5) := by rw [if_pos rfl] at H; exact H
     clear H
     have H := H1
     clear H1
     have H' := Aside0.mk H
     clear H
     go_wp2
     go_roundg ce
     case measure => have := cD.out; have := bP.out; have := bS.out; have := cY.out; have := dc.out; have := cm.out; have := dr.out; have := da.out; omega
     case rel => exact ⟨(wrap64 (aH + 1)), (by first | rfl | (simp; done) | (simp [*]; done)), H', ⟨by have := cD.out; have := bP.out; have := bS.out; have := cY.out; have := dc.out; have := cm.out; have := dr.out; have := da.out; omega⟩, ⟨aw.out⟩, ⟨aA.out⟩, ⟨aC.out⟩, ⟨au.out⟩, ⟨ae.out⟩, ⟨af.out⟩, ⟨ac.out⟩, ⟨ad.out⟩, ⟨am.out⟩, ⟨ah.out⟩, ⟨aj.out⟩, ⟨az.out⟩, ⟨HB.out⟩⟩
    replace c60 := Bool.eq_false_iff.mpr c60
    subst c60
    have H1 : (if aH = (aJ.length : Int) then (if aJ.length < 5864062014805 then (if 0 ≤ ax then (if ax < (l0.length : Int) then (if 0 ≤ ((rd_T106 ab aa).f2) then (if ((rd_T106 ab aa).f2) < ((rd_L2 l0 ax).length : Int) then (if aM.length < 17592186044416 then (if aI.length < 17592186044416 then (wordbookref15_Build.l1 ce l0 (aJ ++ [(⟨ax, ay, (wrap64 (((rd_T106 ab aa).f2) + 1))⟩ : S106)]) aa ay aK (aM ++ [rd (rd_L2 l0 ax) ((rd_T106 ab aa).f2)]) (aI ++ [aH]) l0 ar aq ap ((rd_T106 ab aa).f0) ((rd_T106 ab aa).f1) ((rd_T106 ab aa).f2)) else (none)) else (none)) else (none)) else (none)) else (none)) else (none)) else (none)) else (if 0 ≤ ax then (if ax < (l0.length : Int) then (if 0 ≤ ((rd_T106 ab aa).f2) then (if ((rd_T106 ab aa).f2) < ((rd_L2 l0 ax).length : Int) then (if aM.length < 17592186044416 then (if aI.length < 17592186044416 then (wordbookref15_Build.l1 ce l0 aJ aa ay aK (aM ++ [rd (rd_L2 l0 ax) ((rd_T106 ab aa).f2)]) (aI ++ [aH]) l0 ar aq ap ((rd_T106 ab aa).f0) ((rd_T106 ab aa).f1) ((rd_T106 ab aa).f2)) else (none)) else (none)) else (none)) else (none)) else (none)) else (none))) = some (r1, r2, r3, r4, r5) := by rw [if_neg (show ¬ (false = true) by decide)] at H; exact H
    clear H
    have H := H1
    clear H1
    by_cases c61 : aH = (aJ.length : Int)
    ·
     rw [if_pos c61] at H
     have eC : (aH == (aJ.length : Int)) = true := beq_iff_eq.mpr c61
     have eB : (aH != (aJ.length : Int)) = false := bne_eq_false_iff_eq.mpr c61
     clear c61
     have c62 : aJ.length < 5864062014805 := Classical.byContradiction fun c_ => by rw [if_neg c_] at H; exact absurd H (by simp)
     rw [if_pos c62] at H
     have LMc62 := Aside0.mk c62
     clear c62
     obtain ⟨dq, hy126⟩ : ∃ y_ : List (S106), y_ = (aJ ++ [(⟨ax, ay, (wrap64 (((rd_T106 ab aa).f2) + 1))⟩ : S106)]) := ⟨_, rfl⟩
     replace H : (if 0 ≤ ax then (if ax < (l0.length : Int) then (if 0 ≤ ((rd_T106 ab aa).f2) then (if ((rd_T106 ab aa).f2) < ((rd_L2 l0 ax).length : Int) then (if aM.length < 17592186044416 then (if aI.length < 17592186044416 then (wordbookref15_Build.l1 ce l0 dq aa ay aK (aM ++ [rd (rd_L2 l0 ax) ((rd_T106 ab aa).f2)]) (aI ++ [aH]) l0 ar aq ap ((rd_T106 ab aa).f0) ((rd_T106 ab aa).f1) ((rd_T106 ab aa).f2)) else (none)) else (none)) else (none)) else (none)) else (none)) else (none)) = some (r1, r2, r3, r4, r5) := by (rw [hy126]; with_reducible exact H)
     have Ny126 := Aside0.mk hy126
     clear hy126
     have c63 : 0 ≤ ax := Classical.byContradiction fun c_ => by rw [if_neg c_] at H; exact absurd H (by simp)
     rw [if_pos c63] at H
     have fr : decide (0 ≤ ax) = true := decide_eq_true c63
     clear c63
     have c64 : ax < (l0.length : Int) := Classical.byContradiction fun c_ => by rw [if_neg c_] at H; exact absurd H (by simp)
     rw [if_pos c64] at H
     have fq : decide (ax < (l0.length : Int)) = true := decide_eq_true c64
     clear c64
     have c65 : 0 ≤ ((rd_T106 ab aa).f2) := Classical.byContradiction fun c_ => by rw [if_neg c_] at H; exact absurd H (by simp)
     rw [if_pos c65] at H
     have fp : decide (0 ≤ ((rd_T106 ab aa).f2)) = true := decide_eq_true c65
     clear c65
     have c66 : ((rd_T106 ab aa).f2) < ((rd_L2 l0 ax).length : Int) := Classical.byContradiction fun c_ => by rw [if_neg c_] at H; exact absurd H (by simp)
     rw [if_pos c66] at H
     have fo : decide (((rd_T106 ab aa).f2) < ((rd_L2 l0 ax).length : Int)) = true := decide_eq_true c66
     clear c66
     have c67 : aM.length < 17592186044416 := Classical.byContradiction fun c_ => by rw [if_neg c_] at H; exact absurd H (by simp)
     rw [if_pos c67] at H
     have LMc67 := Aside0.mk c67
     clear c67
     obtain ⟨du, hy131⟩ : ∃ y_ : List Int, y_ = (aM ++ [rd (rd_L2 l0 ax) ((rd_T106 ab aa).f2)]) := ⟨_, rfl⟩
     replace H : (if aI.length < 17592186044416 then (wordbookref15_Build.l1 ce l0 dq aa ay aK du (aI ++ [aH]) l0 ar aq ap ((rd_T106 ab aa).f0) ((rd_T106 ab aa).f1) ((rd_T106 ab aa).f2)) else (none)) = some (r1, r2, r3, r4, r5) := by (rw [hy131]; with_reducible exact H)
     have Ny131 := Aside0.mk hy131
     clear hy131
     have c68 : aI.length < 17592186044416 := Classical.byContradiction fun c_ => by rw [if_neg c_] at H; exact absurd H (by simp)
     rw [if_pos c68] at H
     have LMc68 := Aside0.mk c68
     clear c68
     obtain ⟨dx, hy134⟩ : ∃ y_ : List Int, y_ = (aI ++ [aH]) := ⟨_, rfl⟩
     replace H : (wordbookref15_Build.l1 ce l0 dq aa ay aK du dx l0 ar aq ap ((rd_T106 ab aa).f0) ((rd_T106 ab aa).f1) ((rd_T106 ab aa).f2)) = some (r1, r2, r3, r4, r5) := by (rw [hy134]; with_reducible exact H)
     have Ny134 := Aside0.mk hy134
     clear hy134
     have H' := Aside0.mk H
     clear H
     obtain ⟨fi, fh, eo69⟩ := Kd.R_slice aA.out
     subst eo69
     have hnb70 := cr.out
     have hnc70 := bq.out
     have hnb71 := cq.out
     have hnc71 := bp.out
     have hnb72 := cp.out
     have hnc72 := bo.out
     have fg : wc.cell? ⟨av, 0, none⟩ = some (.int .i64 ax) := (blk_cell az.out 0).trans rfl
     have ff : wc.cell? ⟨av, 1, none⟩ = some (.int .i64 ay) := (blk_cell az.out 1).trans rfl
     have fe : wc.cell? ⟨av, 2, none⟩ = some (.int .i64 (wrap64 (((rd_T106 ab aa).f2) + 1))) := (blk_cell az.out 2).trans rfl
     have eS := blk_frozen az.out 0
     have eR := blk_frozen az.out 1
     have eQ := blk_frozen az.out 2
     try go_wp2_with (first | ((with_reducible refine gate_builtin (b := .append) (xs := #[.tmp 113, .tmp 115]) rfl ?_); (try (refine gate_guard (by rfl) ?_; dsimp only)); at_builtin; refine Kd.R_append k106 (w0 := w) w.heap.size rfl (.tmp 113) (.tmp 115) 107 106 (.agg #[(.int .i64 0), (.int .i64 0), (.int .i64 0)]) 24 rfl Try.underlying107 info106 rfl (by decide) (by omega) (.slice fi aJ.length fh) aJ (⟨ax, ay, (wrap64 (((rd_T106 ab aa).f2) + 1))⟩ : S106) [.int .i64 ax, .int .i64 ay, .int .i64 (wrap64 (((rd_T106 ab aa).f2) + 1))] (fun k_ => (w.heap.size ≤ k_) ∧ k_ ≠ ag ∧ k_ ≠ av) (fun _ => False) rfl rfl ?aP (fun _ hk => hk.elim) ?aF ?aO ?aB ?aS ?aL ?_; (case aP => exact k106_mkM _ _ _ (⟨ax, ay, (wrap64 (((rd_T106 ab aa).f2) + 1))⟩ : S106)); (case aB => exact HB.out); (case aF => exact (fun k_ hk => ⟨(Nat.le_trans (below_size HB.out) hk), Kd.freshB (g := ag) (o := .cells #[.int .i64 ((rd_T106 ab aa).f0), .int .i64 ((rd_T106 ab aa).f1), .int .i64 ((rd_T106 ab aa).f2)] 106 (0, 0)) aj.out k_ hk, Kd.freshB (g := av) (o := .cells #[.int .i64 ax, .int .i64 ay, .int .i64 (wrap64 (((rd_T106 ab aa).f2) + 1))] 106 (0, 0)) az.out k_ hk⟩)); (case aO => exact aA.out); (case aS => exact (below_size HB.out)); (case aL => have := LMc62.out; omega); intro v127 w74 ho hb hg hat; rw [← Ny126.out] at ho; have aT := Aside0.mk (Kd.V_afterv (ok := (fun k_ => (P0_ k_ ∨ w.heap.size ≤ k_) ∧ some k_ ≠ (u11 : Value).ownBlock ∧ some k_ ≠ (u12 : Value).ownBlock ∧ some k_ ≠ (ak : Value).ownBlock ∧ some k_ ≠ (ai : Value).ownBlock ∧ some k_ ≠ (al : Value).ownBlock ∧ k_ ≠ ao ∧ k_ ≠ an ∧ k_ ≠ ag ∧ k_ ≠ av)) (by exact Kd.V_mono aw.out (fun _ hk => ⟨⟨hk.1, ⟨hk.2.2.1, ⟨hk.2.2.2.1, ⟨hk.2.2.2.2.1, ⟨hk.2.2.2.2.2.1, ⟨hk.2.2.2.2.2.2.1, ⟨hk.2.2.2.2.2.2.2.1, ⟨hk.2.2.2.2.2.2.2.2.1, ⟨hk.2.2.2.2.2.2.2.2.2.1, hk.2.2.2.2.2.2.2.2.2.2⟩⟩⟩⟩⟩⟩⟩⟩⟩, hk.2.1⟩)) hg hat); have aR := Aside0.mk (Kd.R_over' aC.out (Kd.R_typed aA.out) (by decide) hg); have aQ := Aside0.mk (Kd.R_over' au.out (Kd.R_typed aA.out) (by decide) hg); have aW := Aside0.mk (Kd.V_afterv (ok := (fun k_ => (P0_ k_ ∨ w.heap.size ≤ k_) ∧ some k_ ≠ (u11 : Value).ownBlock ∧ some k_ ≠ (u12 : Value).ownBlock ∧ some k_ ≠ (ak : Value).ownBlock ∧ some k_ ≠ (ai : Value).ownBlock ∧ some k_ ≠ (al : Value).ownBlock ∧ k_ ≠ ao ∧ k_ ≠ an ∧ k_ ≠ ag ∧ k_ ≠ av)) (by exact Kd.V_mono ae.out (fun _ hk => ⟨⟨hk.1, ⟨hk.2.2.1, ⟨hk.2.2.2.1, ⟨hk.2.2.2.2.1, ⟨hk.2.2.2.2.2.1, ⟨hk.2.2.2.2.2.2.1, ⟨hk.2.2.2.2.2.2.2.1, ⟨hk.2.2.2.2.2.2.2.2.1, ⟨hk.2.2.2.2.2.2.2.2.2.1, hk.2.2.2.2.2.2.2.2.2.2⟩⟩⟩⟩⟩⟩⟩⟩⟩, hk.2.1⟩)) hg hat); have aV := Aside0.mk (Kd.S_over' af.out (Kd.R_typed aA.out) (by decide) hg); have bd := Aside0.mk (Kd.S_over' ac.out (Kd.R_typed aA.out) (by decide) hg); have bc := Aside0.mk (Kd.R_over' ad.out (Kd.R_typed aA.out) (by decide) hg); have bb := Aside0.mk (blk_grown (g := ao) (o := .cells #[.slice none 0 0, .slice none 0 0, .slice none 0 0, .slice none 0 0] 32 (0, 0)) am.out hg (Kd.R_ne aA.out am.out (by decide))); have bh := Aside0.mk (blk_grown (g := an) (o := .cells #[.slice A0 l0.length c0, ak, ai, al] 32 (0, 0)) ah.out hg (Kd.R_ne aA.out ah.out (by decide))); have bg := Aside0.mk (blk_grown (g := ag) (o := .cells #[.int .i64 ((rd_T106 ab aa).f0), .int .i64 ((rd_T106 ab aa).f1), .int .i64 ((rd_T106 ab aa).f2)] 106 (0, 0)) aj.out hg (Kd.R_away aA.out (fun _ hk => hk.2.1))); have aN := Aside0.mk (blk_grown (g := av) (o := .cells #[.int .i64 ax, .int .i64 ay, .int .i64 (wrap64 (((rd_T106 ab aa).f2) + 1))] 106 (0, 0)) az.out hg (Kd.R_away aA.out (fun _ hk => hk.2.2))); have aU := Aside0.mk (hb); have ba := Aside0.mk (ho); clear aw; clear aC; clear au; clear ae; clear af; clear ac; clear ad; clear am; clear ah; clear aj; clear az; clear HB; clear aA; have aw := aT; have aC := aR; have au := aQ; have ae := aW; have af := aV; have ac := bd; have ad := bc; have am := bb; have ah := bh; have aj := bg; have az := aN; have HB := aU; have HO128 := ba; clear aT aR aQ aW aV bd bc bb bh bg aN aU ba; clear ho hb hg hat))
     have aT := Aside0.mk (Kd.V_drew aw.out)
     have aR := Aside0.mk (Kd.R_drew aC.out)
     have aQ := Aside0.mk (Kd.R_drew au.out)
     have aW := Aside0.mk (Kd.V_drew ae.out)
     have aV := Aside0.mk (Kd.S_drew af.out)
     have bd := Aside0.mk (Kd.S_drew ac.out)
     have bc := Aside0.mk (Kd.R_drew ad.out)
     have bb := Aside0.mk (Kd.R_drew HO128.out)
     have bh := Aside0.mk (blk_drew am.out)
     have bg := Aside0.mk (blk_drew ah.out)
     have aN := Aside0.mk (blk_drew aj.out)
     have aU := Aside0.mk (blk_drew az.out)
     have ba := Aside0.mk (below_drew1 HB.out)
     clear aw
     clear aC
     clear au
     clear ae
     clear af
     clear ac
     clear ad
     clear HO128
     clear am
     clear ah
     clear aj
     clear az
     clear HB
     have aw := aT
     have aC := aR
     have au := aQ
     have ae := aW
     have af := aV
     have ac := bd
     have ad := bc
     have HO128 := bb
     have am := bh
     have ah := bg
     have aj := aN
     have az := aU
     have HB := ba
     clear aT aR aQ aW aV bd bc bb bh bg aN aU ba
     have p129 : 0 ≤ (ax : Int) := of_decide_eq_true (by first | (with_reducible assumption) | assumption)
     have q129 : ax < (l0.length : Int) := of_decide_eq_true (by first | (with_reducible assumption) | assumption)
     obtain ⟨ad129, A129_0, c129_0, e129, cx, hl129_0, hi129_0⟩ := at_L2 (Kd.V_reads' aw.out).2.2 ax p129 q129
     cases e129
     obtain ⟨ce129, hce129, hMe129, hcc129⟩ := Kd.V_get aw.out [] ax p129 (by first | exact q129 | exact of_decide_eq_true (by first | (with_reducible assumption) | assumption) | (have e_ := (Kd.V_reads' aw.out).1; omega))
     obtain ⟨ua129_0, uc129_0, rfl, ul129_0, ge129_0⟩ := Kd.FK_slice_open hMe129
     have hv129_0 := hcc129 0 _ rfl
     rw [Nat.add_zero, show ((Kd.slice 3 (Kd.int .i64))).sz = 1 from rfl, Nat.mul_one] at hv129_0
     replace hv129_0 := Option.some.inj (hv129_0.symm.trans cx)
     injection hv129_0 with hva_ hvn_ hvc_
     rw [hva_] at ge129_0
     rw [hvc_] at ul129_0
     have HL129_0 := Aside0.mk (show Kd.V (Kd.int .i64) 3 _ w.heap.size _ _ (rd_L2 l0 ax) from Kd.V_mk ul129_0 ge129_0)
     clear hva_ hvn_ hvc_ ge129_0 ul129_0
     clear hcc129 hce129
     have HR129_0 := Aside0.mk hi129_0
     have HC129_0 := Aside0.mk hl129_0
     clear hi129_0 hl129_0
     replace p129 := eq_true p129
     replace q129 := eq_true q129
     have p130 : 0 ≤ (((rd_T106 ab aa).f2) : Int) := of_decide_eq_true (by first | (with_reducible assumption) | assumption)
     have q130 : ((rd_T106 ab aa).f2) < ((rd_L2 l0 ax).length : Int) := of_decide_eq_true (by first | (with_reducible assumption) | assumption)
     obtain ⟨ad130, e130, cL⟩ := Kd.at_int (by repeat (first | (with_reducible exact HR129_0.out) | (with_reducible refine Kd.C_alloc ?_ _) | (with_reducible refine Kd.C_drewN ?_ _) | (with_reducible refine Kd.C_drew ?_) | exact HR129_0.out)) ((rd_T106 ab aa).f2) p130 q130
     cases e130
     replace p130 := eq_true p130
     replace q130 := eq_true q130
     refine start_ (n := 12) (S := fun w' => w'.cell? ⟨ag, 0, none⟩ = some (.int .i64 ((rd_T106 ab aa).f0)) ∧ w'.cell? ⟨ag, 1, none⟩ = some (.int .i64 ((rd_T106 ab aa).f1)) ∧ w'.cell? ⟨ag, 2, none⟩ = some (.int .i64 ((rd_T106 ab aa).f2)) ∧ w'.cell? (ad129.add (ax).toNat) = some (.slice (some ad130) (rd_L2 l0 ax).length c129_0) ∧ w'.cell? (ad130.add (((rd_T106 ab aa).f2)).toNat) = some (.int .i64 (rd (rd_L2 l0 ax) ((rd_T106 ab aa).f2)))) (ds := [9, 10]) #[false, false, false, false, false, false, false, false, false, false, false, false] (by kernel_rfl) rfl rfl ⟨(blk_cell aj.out 0).trans rfl, (blk_cell aj.out 1).trans rfl, (blk_cell aj.out 2).trans rfl, cx, cL⟩ (fun hHeld => ?_); refine with_tabW wordbookref15_Build.tab26 wordbookref15_Build.bits26 (fun HT_ HW_ => ?_)
     generalize w74.drew = w75 at aw aC au ae af ac ad HO128 am ah aj az HB HL129_0 HR129_0 cx cL hHeld ⊢
     refine pure_ (i := 0) (N := some 117) (v := ?_) (a' := ?_) #[true, false, false, false, false, false, false, false, false, false, false, false] rfl rfl (any_of HT_.out (by kernel_rfl)) (fun _ _ _ h => h) (Or.inl ⟨by rfl, ?_⟩) ?_ ?_
     rotate_left
     ·
      intro w'
      go_simp
      with_reducible rfl
     rotate_left
     ·
      simp only [Act.put, setIfInBounds_toArray, set_cons_zero, set_cons_succ, i64_w, i32_w]
      rfl
     refine pure_ (i := 1) (N := some 118) (v := ?_) (a' := ?_) #[true, true, false, false, false, false, false, false, false, false, false, false] rfl rfl (any_of HT_.out (by kernel_rfl)) (fun _ _ _ h => h) (Or.inl ⟨by rfl, ?_⟩) ?_ ?_
     rotate_left
     ·
      intro w'
      go_simp
      with_reducible rfl
     rotate_left
     ·
      simp only [Act.put, setIfInBounds_toArray, set_cons_zero, set_cons_succ, i64_w, i32_w]
      rfl
     refine pure_ (i := 2) (N := some 119) (v := ?_) (a' := ?_) #[true, true, true, false, false, false, false, false, false, false, false, false] rfl rfl (any_of HT_.out (by kernel_rfl)) (fun _ _ _ h => h) (Or.inl ⟨by rfl, ?_⟩) ?_ ?_
     rotate_left
     ·
      intro w'
      go_simp
      with_reducible rfl
     rotate_left
     ·
      simp only [Act.put, setIfInBounds_toArray, set_cons_zero, set_cons_succ, i64_w, i32_w]
      rfl
     refine pure_ (i := 3) (N := some 120) (v := ?_) (a' := ?_) #[true, true, true, true, false, false, false, false, false, false, false, false] rfl rfl (any_of HT_.out (by kernel_rfl)) (fun _ _ _ h => h) (Or.inl ⟨by rfl, ?_⟩) ?_ ?_
     rotate_left
     ·
      intro w'
      go_simp
      with_reducible rfl
     rotate_left
     ·
      simp only [Act.put, setIfInBounds_toArray, set_cons_zero, set_cons_succ, i64_w, i32_w]
      rfl
     refine pure_ (i := 5) (N := some 122) (v := ?_) (a' := ?_) #[true, true, true, true, false, true, false, false, false, false, false, false] rfl rfl (any_of HT_.out (by kernel_rfl)) (fun _ _ _ h => h) (Or.inl ⟨by rfl, ?_⟩) ?_ ?_
     rotate_left
     ·
      intro w'
      go_simp
      with_reducible rfl
     rotate_left
     ·
      simp only [Act.put, setIfInBounds_toArray, set_cons_zero, set_cons_succ, i64_w, i32_w]
      rfl
     refine take_ (i := 4) (N := some 121) (v := ?_) (a' := ?_) #[true, true, true, true, true, true, false, false, false, false, false, false] rfl rfl (take_ofW HT_.out HW_.out (by kernel_rfl)) (fun _ _ _ h => h) (Or.inl ⟨by rfl, ?_⟩) hHeld ?_ ?_
     rotate_left
     ·
      rintro w' ⟨s0, s1, s2, s3, s4⟩
      go_simp
      with_reducible rfl
     rotate_left
     ·
      simp only [Act.put, setIfInBounds_toArray, set_cons_zero, set_cons_succ, i64_w, i32_w]
      rfl
     refine take_ (i := 6) (N := some 123) (v := ?_) (a' := ?_) #[true, true, true, true, true, true, true, false, false, false, false, false] rfl rfl (take_ofW HT_.out HW_.out (by kernel_rfl)) (fun _ _ _ h => h) (Or.inl ⟨by rfl, ?_⟩) hHeld ?_ ?_
     rotate_left
     ·
      rintro w' ⟨s0, s1, s2, s3, s4⟩
      go_simp
      with_reducible rfl
     rotate_left
     ·
      simp only [Act.put, setIfInBounds_toArray, set_cons_zero, set_cons_succ, i64_w, i32_w]
      rfl
     refine pure_ (i := 7) (N := some 124) (v := ?_) (a' := ?_) #[true, true, true, true, true, true, true, true, false, false, false, false] rfl rfl (any_of HT_.out (by kernel_rfl)) (fun _ _ _ h => h) (Or.inl ⟨by rfl, ?_⟩) ?_ ?_
     rotate_left
     ·
      intro w'
      go_simp
      with_reducible rfl
     rotate_left
     ·
      simp only [Act.put, setIfInBounds_toArray, set_cons_zero, set_cons_succ, i64_w, i32_w]
      rfl
     refine take_ (i := 8) (N := some 125) (v := ?_) (a' := ?_) #[true, true, true, true, true, true, true, true, true, false, false, false] rfl rfl (take_ofW HT_.out HW_.out (by kernel_rfl)) (fun _ _ _ h => h) (Or.inl ⟨by rfl, ?_⟩) hHeld ?_ ?_
     rotate_left
     ·
      rintro w' ⟨s0, s1, s2, s3, s4⟩
      go_simp
      with_reducible rfl
     rotate_left
     ·
      simp only [Act.put, setIfInBounds_toArray, set_cons_zero, set_cons_succ, i64_w, i32_w]
      rfl
     refine last_ (i := 9) (N := some 126) #[true, true, true, true, true, true, true, true, true, true, false, false] rfl rfl (one_of HT_.out (by kernel_rfl)) (by decide) (fun K hK => ?_)
     refine value_ (w1 := ?_) (v := ?_) (by rfl) rfl ?_ ?_
     rotate_left 2
     ·
      go_simp
      constructor
      ·
       rfl
      rfl
     refine hK.out _ _ ?_
     clear hK K
     refine norm_ (a' := ?_) ?_ ?_
     rotate_left
     ·
      show Act.put _ (some 126) _ = _
      simp only [Act.put, setIfInBounds_toArray, set_cons_zero, set_cons_succ, i64_w, i32_w]
      rfl
     refine last_ (i := 10) (N := some 127) #[true, true, true, true, true, true, true, true, true, true, true, false] rfl rfl (one_of HT_.out (by kernel_rfl)) (by decide) (fun K hK => ?_)
     refine Kd.R_append_step (Kd.int .i64) (w0 := w) w.heap.size (by rfl) (.tmp 117) (.tmp 126) 22 3 (.int .i64 0) 8 rfl Try.underlying22 info3 rfl (by decide) (by omega) u11 aM (rd (rd_L2 l0 ax) ((rd_T106 ab aa).f2)) [.int .i64 (rd (rd_L2 l0 ax) ((rd_T106 ab aa).f2))] (fun k_ => (w.heap.size ≤ k_) ∧ some k_ ≠ (u12 : Value).ownBlock) (fun _ => False) rfl rfl ?aP (fun _ hk => hk.elim) ?aF ?aO ?aB ?aS ?aL ?_
     (case aP => exact rfl)
     (case aB => exact HB.out)
     (case aF => exact (fun k_ hk => ⟨(Nat.le_trans (below_size HB.out) hk), Kd.fresh' (Kd.R_lt au.out) k_ hk⟩))
     (case aO => exact aC.out)
     (case aS => exact (below_size HB.out))
     (case aL => have := LMc67.out; omega)
     intro v132 w76 ho hb hg hat
     rw [← Ny131.out] at ho
     have aT := Aside0.mk (Kd.V_afterv (ok := (fun k_ => (P0_ k_ ∨ w.heap.size ≤ k_) ∧ some k_ ≠ (u12 : Value).ownBlock ∧ some k_ ≠ (ak : Value).ownBlock ∧ some k_ ≠ (ai : Value).ownBlock ∧ some k_ ≠ (al : Value).ownBlock ∧ some k_ ≠ (v127 : Value).ownBlock ∧ k_ ≠ ao ∧ k_ ≠ an ∧ k_ ≠ ag ∧ k_ ≠ av)) (by exact Kd.V_mono aw.out (fun _ hk => ⟨⟨hk.1.1, ⟨hk.1.2.2.1, ⟨hk.1.2.2.2.1, ⟨hk.1.2.2.2.2.1, ⟨hk.1.2.2.2.2.2.1, ⟨hk.2, ⟨hk.1.2.2.2.2.2.2.1, ⟨hk.1.2.2.2.2.2.2.2.1, ⟨hk.1.2.2.2.2.2.2.2.2.1, hk.1.2.2.2.2.2.2.2.2.2⟩⟩⟩⟩⟩⟩⟩⟩⟩, hk.1.2.1⟩)) hg hat)
     have aR := Aside0.mk (Kd.R_after (ok := (fun k_ => (w.heap.size ≤ k_))) au.out hg hat)
     have aQ := Aside0.mk (Kd.V_afterv (ok := (fun k_ => (P0_ k_ ∨ w.heap.size ≤ k_) ∧ some k_ ≠ (u12 : Value).ownBlock ∧ some k_ ≠ (ak : Value).ownBlock ∧ some k_ ≠ (ai : Value).ownBlock ∧ some k_ ≠ (al : Value).ownBlock ∧ some k_ ≠ (v127 : Value).ownBlock ∧ k_ ≠ ao ∧ k_ ≠ an ∧ k_ ≠ ag ∧ k_ ≠ av)) (by exact Kd.V_mono ae.out (fun _ hk => ⟨⟨hk.1.1, ⟨hk.1.2.2.1, ⟨hk.1.2.2.2.1, ⟨hk.1.2.2.2.2.1, ⟨hk.1.2.2.2.2.2.1, ⟨hk.2, ⟨hk.1.2.2.2.2.2.2.1, ⟨hk.1.2.2.2.2.2.2.2.1, ⟨hk.1.2.2.2.2.2.2.2.2.1, hk.1.2.2.2.2.2.2.2.2.2⟩⟩⟩⟩⟩⟩⟩⟩⟩, hk.1.2.1⟩)) hg hat)
     have aW := Aside0.mk (Kd.S_after (ok := (fun k_ => (w.heap.size ≤ k_) ∧ some k_ ≠ (u12 : Value).ownBlock ∧ some k_ ≠ (ai : Value).ownBlock)) (by exact Kd.S_mono af.out (fun _ hk => ⟨⟨hk.1, ⟨hk.2.2.1, hk.2.2.2⟩⟩, hk.2.1⟩)) hg hat)
     have aV := Aside0.mk (Kd.S_after (ok := (fun k_ => (w.heap.size ≤ k_) ∧ some k_ ≠ (u12 : Value).ownBlock ∧ some k_ ≠ (ak : Value).ownBlock)) (by exact Kd.S_mono ac.out (fun _ hk => ⟨⟨hk.1, ⟨hk.2.2.1, hk.2.2.2⟩⟩, hk.2.1⟩)) hg hat)
     have bd := Aside0.mk (Kd.R_over' ad.out (Kd.R_typed aC.out) (by decide) hg)
     have bc := Aside0.mk (blk_grown (g := ao) (o := .cells #[.slice none 0 0, .slice none 0 0, .slice none 0 0, .slice none 0 0] 32 (0, 0)) am.out hg (Kd.R_ne aC.out am.out (by decide)))
     have bb := Aside0.mk (blk_grown (g := an) (o := .cells #[.slice (some ad129) l0.length c0, ak, ai, al] 32 (0, 0)) ah.out hg (Kd.R_ne aC.out ah.out (by decide)))
     have bh := Aside0.mk (blk_grown (g := ag) (o := .cells #[.int .i64 ((rd_T106 ab aa).f0), .int .i64 ((rd_T106 ab aa).f1), .int .i64 ((rd_T106 ab aa).f2)] 106 (0, 0)) aj.out hg (Kd.R_ne aC.out aj.out (by decide)))
     have bg := Aside0.mk (blk_grown (g := av) (o := .cells #[.int .i64 ax, .int .i64 ay, .int .i64 (wrap64 (((rd_T106 ab aa).f2) + 1))] 106 (0, 0)) az.out hg (Kd.R_ne aC.out az.out (by decide)))
     have aN := Aside0.mk (Kd.R_over' HO128.out (Kd.R_typed aC.out) (by decide) hg)
     have aU := Aside0.mk (Kd.V_afterv (ok := (fun k_ => (P0_ k_ ∨ w.heap.size ≤ k_) ∧ some k_ ≠ (u12 : Value).ownBlock ∧ some k_ ≠ (ak : Value).ownBlock ∧ some k_ ≠ (ai : Value).ownBlock ∧ some k_ ≠ (al : Value).ownBlock ∧ some k_ ≠ (v127 : Value).ownBlock ∧ k_ ≠ ao ∧ k_ ≠ an ∧ k_ ≠ ag ∧ k_ ≠ av)) (by exact Kd.V_mono HL129_0.out (fun _ hk => ⟨⟨hk.1.1, ⟨hk.1.2.2.1, ⟨hk.1.2.2.2.1, ⟨hk.1.2.2.2.2.1, ⟨hk.1.2.2.2.2.2.1, ⟨hk.2, ⟨hk.1.2.2.2.2.2.2.1, ⟨hk.1.2.2.2.2.2.2.2.1, ⟨hk.1.2.2.2.2.2.2.2.2.1, hk.1.2.2.2.2.2.2.2.2.2⟩⟩⟩⟩⟩⟩⟩⟩⟩, hk.1.2.1⟩)) hg hat)
     have ba := Aside0.mk (hb)
     have bD := Aside0.mk (ho)
     clear aw
     clear au
     clear ae
     clear af
     clear ac
     clear ad
     clear am
     clear ah
     clear aj
     clear az
     clear HO128
     clear HL129_0
     clear HB
     clear aC
     have aw := aT
     have au := aR
     have ae := aQ
     have af := aW
     have ac := aV
     have ad := bd
     have am := bc
     have ah := bb
     have aj := bh
     have az := bg
     have HO128 := aN
     have HL129_0 := aU
     have HB := ba
     have HO133 := bD
     clear aT aR aQ aW aV bd bc bb bh bg aN aU ba bD
     clear ho hb hg hat
     refine hK.out _ _ ?_
     clear hK K
     refine norm_ (a' := ?_) ?_ ?_
     rotate_left
     ·
      show Act.put _ (some 127) _ = _
      simp only [Act.put, setIfInBounds_toArray, set_cons_zero, set_cons_succ, i64_w, i32_w]
      rfl
     refine pure_ (i := 11) (N := some 11) (v := ?_) (a' := ?_) #[true, true, true, true, true, true, true, true, true, true, true, true] rfl rfl (any_of HT_.out (by kernel_rfl)) (fun _ _ _ h => h) (Or.inl ⟨by rfl, ?_⟩) ?_ ?_
     rotate_left
     ·
      intro w'
      go_simp
      with_reducible rfl
     rotate_left
     ·
      simp only [Act.put, setIfInBounds_toArray, set_cons_zero, set_cons_succ, i64_w, i32_w]
      rfl
     refine done_ (done_of HT_.out (by kernel_rfl)) ?_
     try go_wp2_with (first | ((with_reducible refine gate_builtin (b := .append) (xs := #[.tmp 128, .tmp 130]) rfl ?_); (try (refine gate_guard (by rfl) ?_; dsimp only)); at_builtin; refine Kd.R_append (Kd.int .i64) (w0 := w) w.heap.size rfl (.tmp 128) (.tmp 130) 22 3 (.int .i64 0) 8 rfl Try.underlying22 info3 rfl (by decide) (by omega) u12 aI aH [.int .i64 aH] (fun k_ => (w.heap.size ≤ k_) ∧ some k_ ≠ (v132 : Value).ownBlock) (fun _ => False) rfl rfl ?aP (fun _ hk => hk.elim) ?aF ?aO ?aB ?aS ?aL ?_; (case aP => exact rfl); (case aB => exact HB.out); (case aF => exact (fun k_ hk => ⟨(Nat.le_trans (below_size HB.out) hk), Kd.fresh' (Kd.R_lt HO133.out) k_ hk⟩)); (case aO => exact au.out); (case aS => exact (below_size HB.out)); (case aL => have := LMc68.out; omega); intro v135 w77 ho hb hg hat; rw [← Ny134.out] at ho; have aT := Aside0.mk (Kd.V_afterv (ok := (fun k_ => (P0_ k_ ∨ w.heap.size ≤ k_) ∧ some k_ ≠ (ak : Value).ownBlock ∧ some k_ ≠ (ai : Value).ownBlock ∧ some k_ ≠ (al : Value).ownBlock ∧ some k_ ≠ (v127 : Value).ownBlock ∧ some k_ ≠ (v132 : Value).ownBlock ∧ k_ ≠ ao ∧ k_ ≠ an ∧ k_ ≠ ag ∧ k_ ≠ av)) (by exact Kd.V_mono aw.out (fun _ hk => ⟨⟨hk.1.1, ⟨hk.1.2.2.1, ⟨hk.1.2.2.2.1, ⟨hk.1.2.2.2.2.1, ⟨hk.1.2.2.2.2.2.1, ⟨hk.2, ⟨hk.1.2.2.2.2.2.2.1, ⟨hk.1.2.2.2.2.2.2.2.1, ⟨hk.1.2.2.2.2.2.2.2.2.1, hk.1.2.2.2.2.2.2.2.2.2⟩⟩⟩⟩⟩⟩⟩⟩⟩, hk.1.2.1⟩)) hg hat); have aR := Aside0.mk (Kd.V_afterv (ok := (fun k_ => (P0_ k_ ∨ w.heap.size ≤ k_) ∧ some k_ ≠ (ak : Value).ownBlock ∧ some k_ ≠ (ai : Value).ownBlock ∧ some k_ ≠ (al : Value).ownBlock ∧ some k_ ≠ (v127 : Value).ownBlock ∧ some k_ ≠ (v132 : Value).ownBlock ∧ k_ ≠ ao ∧ k_ ≠ an ∧ k_ ≠ ag ∧ k_ ≠ av)) (by exact Kd.V_mono ae.out (fun _ hk => ⟨⟨hk.1.1, ⟨hk.1.2.2.1, ⟨hk.1.2.2.2.1, ⟨hk.1.2.2.2.2.1, ⟨hk.1.2.2.2.2.2.1, ⟨hk.2, ⟨hk.1.2.2.2.2.2.2.1, ⟨hk.1.2.2.2.2.2.2.2.1, ⟨hk.1.2.2.2.2.2.2.2.2.1, hk.1.2.2.2.2.2.2.2.2.2⟩⟩⟩⟩⟩⟩⟩⟩⟩, hk.1.2.1⟩)) hg hat); have aQ := Aside0.mk (Kd.S_after (ok := (fun k_ => (w.heap.size ≤ k_) ∧ some k_ ≠ (ai : Value).ownBlock ∧ some k_ ≠ (v132 : Value).ownBlock)) (by exact Kd.S_mono af.out (fun _ hk => ⟨⟨hk.1.1, ⟨hk.1.2.2, hk.2⟩⟩, hk.1.2.1⟩)) hg hat); have aW := Aside0.mk (Kd.S_after (ok := (fun k_ => (w.heap.size ≤ k_) ∧ some k_ ≠ (ak : Value).ownBlock ∧ some k_ ≠ (v132 : Value).ownBlock)) (by exact Kd.S_mono ac.out (fun _ hk => ⟨⟨hk.1.1, ⟨hk.1.2.2, hk.2⟩⟩, hk.1.2.1⟩)) hg hat); have aV := Aside0.mk (Kd.R_over' ad.out (Kd.R_typed au.out) (by decide) hg); have bd := Aside0.mk (blk_grown (g := ao) (o := .cells #[.slice none 0 0, .slice none 0 0, .slice none 0 0, .slice none 0 0] 32 (0, 0)) am.out hg (Kd.R_ne au.out am.out (by decide))); have bc := Aside0.mk (blk_grown (g := an) (o := .cells #[.slice (some ad129) l0.length c0, ak, ai, al] 32 (0, 0)) ah.out hg (Kd.R_ne au.out ah.out (by decide))); have bb := Aside0.mk (blk_grown (g := ag) (o := .cells #[.int .i64 ((rd_T106 ab aa).f0), .int .i64 ((rd_T106 ab aa).f1), .int .i64 ((rd_T106 ab aa).f2)] 106 (0, 0)) aj.out hg (Kd.R_ne au.out aj.out (by decide))); have bh := Aside0.mk (blk_grown (g := av) (o := .cells #[.int .i64 ax, .int .i64 ay, .int .i64 (wrap64 (((rd_T106 ab aa).f2) + 1))] 106 (0, 0)) az.out hg (Kd.R_ne au.out az.out (by decide))); have bg := Aside0.mk (Kd.R_over' HO128.out (Kd.R_typed au.out) (by decide) hg); have aN := Aside0.mk (Kd.V_afterv (ok := (fun k_ => (P0_ k_ ∨ w.heap.size ≤ k_) ∧ some k_ ≠ (ak : Value).ownBlock ∧ some k_ ≠ (ai : Value).ownBlock ∧ some k_ ≠ (al : Value).ownBlock ∧ some k_ ≠ (v127 : Value).ownBlock ∧ some k_ ≠ (v132 : Value).ownBlock ∧ k_ ≠ ao ∧ k_ ≠ an ∧ k_ ≠ ag ∧ k_ ≠ av)) (by exact Kd.V_mono HL129_0.out (fun _ hk => ⟨⟨hk.1.1, ⟨hk.1.2.2.1, ⟨hk.1.2.2.2.1, ⟨hk.1.2.2.2.2.1, ⟨hk.1.2.2.2.2.2.1, ⟨hk.2, ⟨hk.1.2.2.2.2.2.2.1, ⟨hk.1.2.2.2.2.2.2.2.1, ⟨hk.1.2.2.2.2.2.2.2.2.1, hk.1.2.2.2.2.2.2.2.2.2⟩⟩⟩⟩⟩⟩⟩⟩⟩, hk.1.2.1⟩)) hg hat); have aU := Aside0.mk (Kd.R_after (ok := (fun k_ => (w.heap.size ≤ k_))) HO133.out hg hat); have ba := Aside0.mk (hb); have bD := Aside0.mk (ho); clear aw; clear ae; clear af; clear ac; clear ad; clear am; clear ah; clear aj; clear az; clear HO128; clear HL129_0; clear HO133; clear HB; clear au; have aw := aT; have ae := aR; have af := aQ; have ac := aW; have ad := aV; have am := bd; have ah := bc; have aj := bb; have az := bh; have HO128 := bg; have HL129_0 := aN; have HO133 := aU; have HB := ba; have HO136 := bD; clear aT aR aQ aW aV bd bc bb bh bg aN aU ba bD; clear ho hb hg hat))
     go_roundg ce
     case measure => have := cD.out; have := bP.out; have := bS.out; have := cY.out; have := dc.out; have := cm.out; have := dr.out; have := da.out; omega
     case rel => exact ⟨(dq), (ay), (du), (dx), (by first | rfl | (simp; done) | (simp [*]; done)), H', ⟨by have := cD.out; have := bP.out; have := bS.out; have := cY.out; have := dc.out; have := cm.out; have := dr.out; have := da.out; omega⟩, ⟨by exact Kd.V_mono aw.out (fun _ hk => ⟨hk.1.1, ⟨hk.1.2.2.2.2.1, ⟨hk.1.2.2.2.2.2.1, ⟨hk.2, ⟨hk.1.2.1, ⟨hk.1.2.2.1, ⟨hk.1.2.2.2.1, ⟨hk.1.2.2.2.2.2.2.1, ⟨hk.1.2.2.2.2.2.2.2.1, hk.1.2.2.2.2.2.2.2.2.1⟩⟩⟩⟩⟩⟩⟩⟩⟩)⟩, ⟨by exact Kd.R_mono HO128.out (fun _ hk => ⟨hk.1, hk.2.1⟩)⟩, ⟨HO133.out⟩, ⟨HO136.out⟩, ⟨by exact Kd.V_mono ae.out (fun _ hk => ⟨hk.1.1, ⟨hk.1.2.2.2.2.1, ⟨hk.1.2.2.2.2.2.1, ⟨hk.2, ⟨hk.1.2.1, ⟨hk.1.2.2.1, ⟨hk.1.2.2.2.1, ⟨hk.1.2.2.2.2.2.2.1, ⟨hk.1.2.2.2.2.2.2.2.1, hk.1.2.2.2.2.2.2.2.2.1⟩⟩⟩⟩⟩⟩⟩⟩⟩)⟩, ⟨by exact Kd.S_mono af.out (fun _ hk => ⟨hk.1.1, ⟨hk.1.2.2, ⟨hk.2, hk.1.2.1⟩⟩⟩)⟩, ⟨by exact Kd.S_mono ac.out (fun _ hk => ⟨hk.1.1, ⟨hk.1.2.2, ⟨hk.2, hk.1.2.1⟩⟩⟩)⟩, ⟨ad.out⟩, ⟨am.out⟩, ⟨ah.out⟩, ⟨aj.out⟩, ⟨HB.out⟩⟩
    rw [if_neg c61] at H
    have eC : (aH == (aJ.length : Int)) = false := beq_eq_false_iff_ne.mpr c61
    have eB : (aH != (aJ.length : Int)) = true := bne_iff_ne.mpr c61
    have c78 : 0 ≤ ax := Classical.byContradiction fun c_ => by rw [if_neg c_] at H; exact absurd H (by simp)
    rw [if_pos c78] at H
    have fn : decide (0 ≤ ax) = true := decide_eq_true c78
    clear c78
    have c79 : ax < (l0.length : Int) := Classical.byContradiction fun c_ => by rw [if_neg c_] at H; exact absurd H (by simp)
    rw [if_pos c79] at H
    have fm : decide (ax < (l0.length : Int)) = true := decide_eq_true c79
    clear c79
    have c80 : 0 ≤ ((rd_T106 ab aa).f2) := Classical.byContradiction fun c_ => by rw [if_neg c_] at H; exact absurd H (by simp)
    rw [if_pos c80] at H
    have fl : decide (0 ≤ ((rd_T106 ab aa).f2)) = true := decide_eq_true c80
    clear c80
    have c81 : ((rd_T106 ab aa).f2) < ((rd_L2 l0 ax).length : Int) := Classical.byContradiction fun c_ => by rw [if_neg c_] at H; exact absurd H (by simp)
    rw [if_pos c81] at H
    have fk : decide (((rd_T106 ab aa).f2) < ((rd_L2 l0 ax).length : Int)) = true := decide_eq_true c81
    clear c81
    have c82 : aM.length < 17592186044416 := Classical.byContradiction fun c_ => by rw [if_neg c_] at H; exact absurd H (by simp)
    rw [if_pos c82] at H
    have LMc82 := Aside0.mk c82
    clear c82
    obtain ⟨dt, hy139⟩ : ∃ y_ : List Int, y_ = (aM ++ [rd (rd_L2 l0 ax) ((rd_T106 ab aa).f2)]) := ⟨_, rfl⟩
    replace H : (if aI.length < 17592186044416 then (wordbookref15_Build.l1 ce l0 aJ aa ay aK dt (aI ++ [aH]) l0 ar aq ap ((rd_T106 ab aa).f0) ((rd_T106 ab aa).f1) ((rd_T106 ab aa).f2)) else (none)) = some (r1, r2, r3, r4, r5) := by (rw [hy139]; with_reducible exact H)
    have Ny139 := Aside0.mk hy139
    clear hy139
    have c83 : aI.length < 17592186044416 := Classical.byContradiction fun c_ => by rw [if_neg c_] at H; exact absurd H (by simp)
    rw [if_pos c83] at H
    have LMc83 := Aside0.mk c83
    clear c83
    obtain ⟨dw, hy142⟩ : ∃ y_ : List Int, y_ = (aI ++ [aH]) := ⟨_, rfl⟩
    replace H : (wordbookref15_Build.l1 ce l0 aJ aa ay aK dt dw l0 ar aq ap ((rd_T106 ab aa).f0) ((rd_T106 ab aa).f1) ((rd_T106 ab aa).f2)) = some (r1, r2, r3, r4, r5) := by (rw [hy142]; with_reducible exact H)
    have Ny142 := Aside0.mk hy142
    clear hy142
    have H' := Aside0.mk H
    clear H
    obtain ⟨db, cZ, eo84⟩ := Kd.R_slice aA.out
    subst eo84
    try go_wp2
    have aT := Aside0.mk (Kd.V_drew aw.out)
    have aR := Aside0.mk (Kd.R_drew aA.out)
    have aQ := Aside0.mk (Kd.R_drew aC.out)
    have aW := Aside0.mk (Kd.R_drew au.out)
    have aV := Aside0.mk (Kd.V_drew ae.out)
    have bd := Aside0.mk (Kd.S_drew af.out)
    have bc := Aside0.mk (Kd.S_drew ac.out)
    have bb := Aside0.mk (Kd.R_drew ad.out)
    have bh := Aside0.mk (blk_drew am.out)
    have bg := Aside0.mk (blk_drew ah.out)
    have aN := Aside0.mk (blk_drew aj.out)
    have aU := Aside0.mk (blk_drew az.out)
    have ba := Aside0.mk (below_drew1 HB.out)
    clear aw
    clear aA
    clear aC
    clear au
    clear ae
    clear af
    clear ac
    clear ad
    clear am
    clear ah
    clear aj
    clear az
    clear HB
    have aw := aT
    have aA := aR
    have aC := aQ
    have au := aW
    have ae := aV
    have af := bd
    have ac := bc
    have ad := bb
    have am := bh
    have ah := bg
    have aj := aN
    have az := aU
    have HB := ba
    clear aT aR aQ aW aV bd bc bb bh bg aN aU ba
    have p137 : 0 ≤ (ax : Int) := of_decide_eq_true (by first | (with_reducible assumption) | assumption)
    have q137 : ax < (l0.length : Int) := of_decide_eq_true (by first | (with_reducible assumption) | assumption)
    obtain ⟨ad137, A137_0, c137_0, e137, cw, hl137_0, hi137_0⟩ := at_L2 (Kd.V_reads' aw.out).2.2 ax p137 q137
    cases e137
    obtain ⟨ce137, hce137, hMe137, hcc137⟩ := Kd.V_get aw.out [] ax p137 (by first | exact q137 | exact of_decide_eq_true (by first | (with_reducible assumption) | assumption) | (have e_ := (Kd.V_reads' aw.out).1; omega))
    obtain ⟨ua137_0, uc137_0, rfl, ul137_0, ge137_0⟩ := Kd.FK_slice_open hMe137
    have hv137_0 := hcc137 0 _ rfl
    rw [Nat.add_zero, show ((Kd.slice 3 (Kd.int .i64))).sz = 1 from rfl, Nat.mul_one] at hv137_0
    replace hv137_0 := Option.some.inj (hv137_0.symm.trans cw)
    injection hv137_0 with hva_ hvn_ hvc_
    rw [hva_] at ge137_0
    rw [hvc_] at ul137_0
    have HL137_0 := Aside0.mk (show Kd.V (Kd.int .i64) 3 _ w.heap.size _ _ (rd_L2 l0 ax) from Kd.V_mk ul137_0 ge137_0)
    clear hva_ hvn_ hvc_ ge137_0 ul137_0
    clear hcc137 hce137
    have HR137_0 := Aside0.mk hi137_0
    have HC137_0 := Aside0.mk hl137_0
    clear hi137_0 hl137_0
    replace p137 := eq_true p137
    replace q137 := eq_true q137
    have p138 : 0 ≤ (((rd_T106 ab aa).f2) : Int) := of_decide_eq_true (by first | (with_reducible assumption) | assumption)
    have q138 : ((rd_T106 ab aa).f2) < ((rd_L2 l0 ax).length : Int) := of_decide_eq_true (by first | (with_reducible assumption) | assumption)
    obtain ⟨ad138, e138, cK⟩ := Kd.at_int (by repeat (first | (with_reducible exact HR137_0.out) | (with_reducible refine Kd.C_alloc ?_ _) | (with_reducible refine Kd.C_drewN ?_ _) | (with_reducible refine Kd.C_drew ?_) | exact HR137_0.out)) ((rd_T106 ab aa).f2) p138 q138
    cases e138
    replace p138 := eq_true p138
    replace q138 := eq_true q138
    refine start_ (n := 12) (S := fun w' => w'.cell? ⟨ag, 0, none⟩ = some (.int .i64 ((rd_T106 ab aa).f0)) ∧ w'.cell? ⟨ag, 1, none⟩ = some (.int .i64 ((rd_T106 ab aa).f1)) ∧ w'.cell? ⟨ag, 2, none⟩ = some (.int .i64 ((rd_T106 ab aa).f2)) ∧ w'.cell? (ad137.add (ax).toNat) = some (.slice (some ad138) (rd_L2 l0 ax).length c137_0) ∧ w'.cell? (ad138.add (((rd_T106 ab aa).f2)).toNat) = some (.int .i64 (rd (rd_L2 l0 ax) ((rd_T106 ab aa).f2)))) (ds := [9, 10]) #[false, false, false, false, false, false, false, false, false, false, false, false] (by kernel_rfl) rfl rfl ⟨(blk_cell aj.out 0).trans rfl, (blk_cell aj.out 1).trans rfl, (blk_cell aj.out 2).trans rfl, cw, cK⟩ (fun hHeld => ?_); refine with_tabW wordbookref15_Build.tab26 wordbookref15_Build.bits26 (fun HT_ HW_ => ?_)
    generalize wc.drew = w85 at aw aA aC au ae af ac ad am ah aj az HB HL137_0 HR137_0 cw cK hHeld ⊢
    refine pure_ (i := 0) (N := some 117) (v := ?_) (a' := ?_) #[true, false, false, false, false, false, false, false, false, false, false, false] rfl rfl (any_of HT_.out (by kernel_rfl)) (fun _ _ _ h => h) (Or.inl ⟨by rfl, ?_⟩) ?_ ?_
    rotate_left
    ·
     intro w'
     go_simp
     with_reducible rfl
    rotate_left
    ·
     simp only [Act.put, setIfInBounds_toArray, set_cons_zero, set_cons_succ, i64_w, i32_w]
     rfl
    refine pure_ (i := 1) (N := some 118) (v := ?_) (a' := ?_) #[true, true, false, false, false, false, false, false, false, false, false, false] rfl rfl (any_of HT_.out (by kernel_rfl)) (fun _ _ _ h => h) (Or.inl ⟨by rfl, ?_⟩) ?_ ?_
    rotate_left
    ·
     intro w'
     go_simp
     with_reducible rfl
    rotate_left
    ·
     simp only [Act.put, setIfInBounds_toArray, set_cons_zero, set_cons_succ, i64_w, i32_w]
     rfl
    refine pure_ (i := 2) (N := some 119) (v := ?_) (a' := ?_) #[true, true, true, false, false, false, false, false, false, false, false, false] rfl rfl (any_of HT_.out (by kernel_rfl)) (fun _ _ _ h => h) (Or.inl ⟨by rfl, ?_⟩) ?_ ?_
    rotate_left
    ·
     intro w'
     go_simp
     with_reducible rfl
    rotate_left
    ·
     simp only [Act.put, setIfInBounds_toArray, set_cons_zero, set_cons_succ, i64_w, i32_w]
     rfl
    refine pure_ (i := 3) (N := some 120) (v := ?_) (a' := ?_) #[true, true, true, true, false, false, false, false, false, false, false, false] rfl rfl (any_of HT_.out (by kernel_rfl)) (fun _ _ _ h => h) (Or.inl ⟨by rfl, ?_⟩) ?_ ?_
    rotate_left
    ·
     intro w'
     go_simp
     with_reducible rfl
    rotate_left
    ·
     simp only [Act.put, setIfInBounds_toArray, set_cons_zero, set_cons_succ, i64_w, i32_w]
     rfl
    refine pure_ (i := 5) (N := some 122) (v := ?_) (a' := ?_) #[true, true, true, true, false, true, false, false, false, false, false, false] rfl rfl (any_of HT_.out (by kernel_rfl)) (fun _ _ _ h => h) (Or.inl ⟨by rfl, ?_⟩) ?_ ?_
    rotate_left
    ·
     intro w'
     go_simp
     with_reducible rfl
    rotate_left
    ·
     simp only [Act.put, setIfInBounds_toArray, set_cons_zero, set_cons_succ, i64_w, i32_w]
     rfl
    refine take_ (i := 4) (N := some 121) (v := ?_) (a' := ?_) #[true, true, true, true, true, true, false, false, false, false, false, false] rfl rfl (take_ofW HT_.out HW_.out (by kernel_rfl)) (fun _ _ _ h => h) (Or.inl ⟨by rfl, ?_⟩) hHeld ?_ ?_
    rotate_left
    ·
     rintro w' ⟨s0, s1, s2, s3, s4⟩
     go_simp
     with_reducible rfl
    rotate_left
    ·
     simp only [Act.put, setIfInBounds_toArray, set_cons_zero, set_cons_succ, i64_w, i32_w]
     rfl
    refine take_ (i := 6) (N := some 123) (v := ?_) (a' := ?_) #[true, true, true, true, true, true, true, false, false, false, false, false] rfl rfl (take_ofW HT_.out HW_.out (by kernel_rfl)) (fun _ _ _ h => h) (Or.inl ⟨by rfl, ?_⟩) hHeld ?_ ?_
    rotate_left
    ·
     rintro w' ⟨s0, s1, s2, s3, s4⟩
     go_simp
     with_reducible rfl
    rotate_left
    ·
     simp only [Act.put, setIfInBounds_toArray, set_cons_zero, set_cons_succ, i64_w, i32_w]
     rfl
    refine pure_ (i := 7) (N := some 124) (v := ?_) (a' := ?_) #[true, true, true, true, true, true, true, true, false, false, false, false] rfl rfl (any_of HT_.out (by kernel_rfl)) (fun _ _ _ h => h) (Or.inl ⟨by rfl, ?_⟩) ?_ ?_
    rotate_left
    ·
     intro w'
     go_simp
     with_reducible rfl
    rotate_left
    ·
     simp only [Act.put, setIfInBounds_toArray, set_cons_zero, set_cons_succ, i64_w, i32_w]
     rfl
    refine take_ (i := 8) (N := some 125) (v := ?_) (a' := ?_) #[true, true, true, true, true, true, true, true, true, false, false, false] rfl rfl (take_ofW HT_.out HW_.out (by kernel_rfl)) (fun _ _ _ h => h) (Or.inl ⟨by rfl, ?_⟩) hHeld ?_ ?_
    rotate_left
    ·
     rintro w' ⟨s0, s1, s2, s3, s4⟩
     go_simp
     with_reducible rfl
    rotate_left
    ·
     simp only [Act.put, setIfInBounds_toArray, set_cons_zero, set_cons_succ, i64_w, i32_w]
     rfl
    refine last_ (i := 9) (N := some 126) #[true, true, true, true, true, true, true, true, true, true, false, false] rfl rfl (one_of HT_.out (by kernel_rfl)) (by decide) (fun K hK => ?_)
    refine value_ (w1 := ?_) (v := ?_) (by rfl) rfl ?_ ?_
    rotate_left 2
    ·
     go_simp
     constructor
     ·
      rfl
     rfl
    refine hK.out _ _ ?_
    clear hK K
    refine norm_ (a' := ?_) ?_ ?_
    rotate_left
    ·
     show Act.put _ (some 126) _ = _
     simp only [Act.put, setIfInBounds_toArray, set_cons_zero, set_cons_succ, i64_w, i32_w]
     rfl
    refine last_ (i := 10) (N := some 127) #[true, true, true, true, true, true, true, true, true, true, true, false] rfl rfl (one_of HT_.out (by kernel_rfl)) (by decide) (fun K hK => ?_)
    refine Kd.R_append_step (Kd.int .i64) (w0 := w) w.heap.size (by rfl) (.tmp 117) (.tmp 126) 22 3 (.int .i64 0) 8 rfl Try.underlying22 info3 rfl (by decide) (by omega) u11 aM (rd (rd_L2 l0 ax) ((rd_T106 ab aa).f2)) [.int .i64 (rd (rd_L2 l0 ax) ((rd_T106 ab aa).f2))] (fun k_ => (w.heap.size ≤ k_) ∧ some k_ ≠ (u12 : Value).ownBlock) (fun _ => False) rfl rfl ?aP (fun _ hk => hk.elim) ?aF ?aO ?aB ?aS ?aL ?_
    (case aP => exact rfl)
    (case aB => exact HB.out)
    (case aF => exact (fun k_ hk => ⟨(Nat.le_trans (below_size HB.out) hk), Kd.fresh' (Kd.R_lt au.out) k_ hk⟩))
    (case aO => exact aC.out)
    (case aS => exact (below_size HB.out))
    (case aL => have := LMc82.out; omega)
    intro v140 w86 ho hb hg hat
    rw [← Ny139.out] at ho
    have aT := Aside0.mk (Kd.V_afterv (ok := (fun k_ => (P0_ k_ ∨ w.heap.size ≤ k_) ∧ some k_ ≠ (.slice db aJ.length cZ : Value).ownBlock ∧ some k_ ≠ (u12 : Value).ownBlock ∧ some k_ ≠ (ak : Value).ownBlock ∧ some k_ ≠ (ai : Value).ownBlock ∧ some k_ ≠ (al : Value).ownBlock ∧ k_ ≠ ao ∧ k_ ≠ an ∧ k_ ≠ ag ∧ k_ ≠ av)) (by exact Kd.V_mono aw.out (fun _ hk => ⟨⟨hk.1, ⟨hk.2.1, ⟨hk.2.2.2.1, ⟨hk.2.2.2.2.1, ⟨hk.2.2.2.2.2.1, ⟨hk.2.2.2.2.2.2.1, ⟨hk.2.2.2.2.2.2.2.1, ⟨hk.2.2.2.2.2.2.2.2.1, ⟨hk.2.2.2.2.2.2.2.2.2.1, hk.2.2.2.2.2.2.2.2.2.2⟩⟩⟩⟩⟩⟩⟩⟩⟩, hk.2.2.1⟩)) hg hat)
    have aR := Aside0.mk (Kd.R_over' aA.out (Kd.R_typed aC.out) (by decide) hg)
    have aQ := Aside0.mk (Kd.R_after (ok := (fun k_ => (w.heap.size ≤ k_))) au.out hg hat)
    have aW := Aside0.mk (Kd.V_afterv (ok := (fun k_ => (P0_ k_ ∨ w.heap.size ≤ k_) ∧ some k_ ≠ (.slice db aJ.length cZ : Value).ownBlock ∧ some k_ ≠ (u12 : Value).ownBlock ∧ some k_ ≠ (ak : Value).ownBlock ∧ some k_ ≠ (ai : Value).ownBlock ∧ some k_ ≠ (al : Value).ownBlock ∧ k_ ≠ ao ∧ k_ ≠ an ∧ k_ ≠ ag ∧ k_ ≠ av)) (by exact Kd.V_mono ae.out (fun _ hk => ⟨⟨hk.1, ⟨hk.2.1, ⟨hk.2.2.2.1, ⟨hk.2.2.2.2.1, ⟨hk.2.2.2.2.2.1, ⟨hk.2.2.2.2.2.2.1, ⟨hk.2.2.2.2.2.2.2.1, ⟨hk.2.2.2.2.2.2.2.2.1, ⟨hk.2.2.2.2.2.2.2.2.2.1, hk.2.2.2.2.2.2.2.2.2.2⟩⟩⟩⟩⟩⟩⟩⟩⟩, hk.2.2.1⟩)) hg hat)
    have aV := Aside0.mk (Kd.S_after (ok := (fun k_ => (w.heap.size ≤ k_) ∧ some k_ ≠ (u12 : Value).ownBlock ∧ some k_ ≠ (ai : Value).ownBlock)) (by exact Kd.S_mono af.out (fun _ hk => ⟨⟨hk.1, ⟨hk.2.2.1, hk.2.2.2⟩⟩, hk.2.1⟩)) hg hat)
    have bd := Aside0.mk (Kd.S_after (ok := (fun k_ => (w.heap.size ≤ k_) ∧ some k_ ≠ (u12 : Value).ownBlock ∧ some k_ ≠ (ak : Value).ownBlock)) (by exact Kd.S_mono ac.out (fun _ hk => ⟨⟨hk.1, ⟨hk.2.2.1, hk.2.2.2⟩⟩, hk.2.1⟩)) hg hat)
    have bc := Aside0.mk (Kd.R_over' ad.out (Kd.R_typed aC.out) (by decide) hg)
    have bb := Aside0.mk (blk_grown (g := ao) (o := .cells #[.slice none 0 0, .slice none 0 0, .slice none 0 0, .slice none 0 0] 32 (0, 0)) am.out hg (Kd.R_ne aC.out am.out (by decide)))
    have bh := Aside0.mk (blk_grown (g := an) (o := .cells #[.slice (some ad137) l0.length c0, ak, ai, al] 32 (0, 0)) ah.out hg (Kd.R_ne aC.out ah.out (by decide)))
    have bg := Aside0.mk (blk_grown (g := ag) (o := .cells #[.int .i64 ((rd_T106 ab aa).f0), .int .i64 ((rd_T106 ab aa).f1), .int .i64 ((rd_T106 ab aa).f2)] 106 (0, 0)) aj.out hg (Kd.R_ne aC.out aj.out (by decide)))
    have aN := Aside0.mk (blk_grown (g := av) (o := .cells #[.int .i64 ax, .int .i64 ay, .int .i64 (wrap64 (((rd_T106 ab aa).f2) + 1))] 106 (0, 0)) az.out hg (Kd.R_ne aC.out az.out (by decide)))
    have aU := Aside0.mk (Kd.V_afterv (ok := (fun k_ => (P0_ k_ ∨ w.heap.size ≤ k_) ∧ some k_ ≠ (.slice db aJ.length cZ : Value).ownBlock ∧ some k_ ≠ (u12 : Value).ownBlock ∧ some k_ ≠ (ak : Value).ownBlock ∧ some k_ ≠ (ai : Value).ownBlock ∧ some k_ ≠ (al : Value).ownBlock ∧ k_ ≠ ao ∧ k_ ≠ an ∧ k_ ≠ ag ∧ k_ ≠ av)) (by exact Kd.V_mono HL137_0.out (fun _ hk => ⟨⟨hk.1, ⟨hk.2.1, ⟨hk.2.2.2.1, ⟨hk.2.2.2.2.1, ⟨hk.2.2.2.2.2.1, ⟨hk.2.2.2.2.2.2.1, ⟨hk.2.2.2.2.2.2.2.1, ⟨hk.2.2.2.2.2.2.2.2.1, ⟨hk.2.2.2.2.2.2.2.2.2.1, hk.2.2.2.2.2.2.2.2.2.2⟩⟩⟩⟩⟩⟩⟩⟩⟩, hk.2.2.1⟩)) hg hat)
    have ba := Aside0.mk (hb)
    have bD := Aside0.mk (ho)
    clear aw
    clear aA
    clear au
    clear ae
    clear af
    clear ac
    clear ad
    clear am
    clear ah
    clear aj
    clear az
    clear HL137_0
    clear HB
    clear aC
    have aw := aT
    have aA := aR
    have au := aQ
    have ae := aW
    have af := aV
    have ac := bd
    have ad := bc
    have am := bb
    have ah := bh
    have aj := bg
    have az := aN
    have HL137_0 := aU
    have HB := ba
    have HO141 := bD
    clear aT aR aQ aW aV bd bc bb bh bg aN aU ba bD
    clear ho hb hg hat
    refine hK.out _ _ ?_
    clear hK K
    refine norm_ (a' := ?_) ?_ ?_
    rotate_left
    ·
     show Act.put _ (some 127) _ = _
     simp only [Act.put, setIfInBounds_toArray, set_cons_zero, set_cons_succ, i64_w, i32_w]
     rfl
    refine pure_ (i := 11) (N := some 11) (v := ?_) (a' := ?_) #[true, true, true, true, true, true, true, true, true, true, true, true] rfl rfl (any_of HT_.out (by kernel_rfl)) (fun _ _ _ h => h) (Or.inl ⟨by rfl, ?_⟩) ?_ ?_
    rotate_left
    ·
     intro w'
     go_simp
     with_reducible rfl
    rotate_left
    ·
     simp only [Act.put, setIfInBounds_toArray, set_cons_zero, set_cons_succ, i64_w, i32_w]
     rfl
    refine done_ (done_of HT_.out (by kernel_rfl)) ?_
    try go_wp2_with (first | ((with_reducible refine gate_builtin (b := .append) (xs := #[.tmp 128, .tmp 130]) rfl ?_); (try (refine gate_guard (by rfl) ?_; dsimp only)); at_builtin; refine Kd.R_append (Kd.int .i64) (w0 := w) w.heap.size rfl (.tmp 128) (.tmp 130) 22 3 (.int .i64 0) 8 rfl Try.underlying22 info3 rfl (by decide) (by omega) u12 aI aH [.int .i64 aH] (fun k_ => (w.heap.size ≤ k_) ∧ some k_ ≠ (v140 : Value).ownBlock) (fun _ => False) rfl rfl ?aP (fun _ hk => hk.elim) ?aF ?aO ?aB ?aS ?aL ?_; (case aP => exact rfl); (case aB => exact HB.out); (case aF => exact (fun k_ hk => ⟨(Nat.le_trans (below_size HB.out) hk), Kd.fresh' (Kd.R_lt HO141.out) k_ hk⟩)); (case aO => exact au.out); (case aS => exact (below_size HB.out)); (case aL => have := LMc83.out; omega); intro v143 w87 ho hb hg hat; rw [← Ny142.out] at ho; have aT := Aside0.mk (Kd.V_afterv (ok := (fun k_ => (P0_ k_ ∨ w.heap.size ≤ k_) ∧ some k_ ≠ (.slice db aJ.length cZ : Value).ownBlock ∧ some k_ ≠ (ak : Value).ownBlock ∧ some k_ ≠ (ai : Value).ownBlock ∧ some k_ ≠ (al : Value).ownBlock ∧ some k_ ≠ (v140 : Value).ownBlock ∧ k_ ≠ ao ∧ k_ ≠ an ∧ k_ ≠ ag ∧ k_ ≠ av)) (by exact Kd.V_mono aw.out (fun _ hk => ⟨⟨hk.1.1, ⟨hk.1.2.1, ⟨hk.1.2.2.2.1, ⟨hk.1.2.2.2.2.1, ⟨hk.1.2.2.2.2.2.1, ⟨hk.2, ⟨hk.1.2.2.2.2.2.2.1, ⟨hk.1.2.2.2.2.2.2.2.1, ⟨hk.1.2.2.2.2.2.2.2.2.1, hk.1.2.2.2.2.2.2.2.2.2⟩⟩⟩⟩⟩⟩⟩⟩⟩, hk.1.2.2.1⟩)) hg hat); have aR := Aside0.mk (Kd.R_over' aA.out (Kd.R_typed au.out) (by decide) hg); have aQ := Aside0.mk (Kd.V_afterv (ok := (fun k_ => (P0_ k_ ∨ w.heap.size ≤ k_) ∧ some k_ ≠ (.slice db aJ.length cZ : Value).ownBlock ∧ some k_ ≠ (ak : Value).ownBlock ∧ some k_ ≠ (ai : Value).ownBlock ∧ some k_ ≠ (al : Value).ownBlock ∧ some k_ ≠ (v140 : Value).ownBlock ∧ k_ ≠ ao ∧ k_ ≠ an ∧ k_ ≠ ag ∧ k_ ≠ av)) (by exact Kd.V_mono ae.out (fun _ hk => ⟨⟨hk.1.1, ⟨hk.1.2.1, ⟨hk.1.2.2.2.1, ⟨hk.1.2.2.2.2.1, ⟨hk.1.2.2.2.2.2.1, ⟨hk.2, ⟨hk.1.2.2.2.2.2.2.1, ⟨hk.1.2.2.2.2.2.2.2.1, ⟨hk.1.2.2.2.2.2.2.2.2.1, hk.1.2.2.2.2.2.2.2.2.2⟩⟩⟩⟩⟩⟩⟩⟩⟩, hk.1.2.2.1⟩)) hg hat); have aW := Aside0.mk (Kd.S_after (ok := (fun k_ => (w.heap.size ≤ k_) ∧ some k_ ≠ (ai : Value).ownBlock ∧ some k_ ≠ (v140 : Value).ownBlock)) (by exact Kd.S_mono af.out (fun _ hk => ⟨⟨hk.1.1, ⟨hk.1.2.2, hk.2⟩⟩, hk.1.2.1⟩)) hg hat); have aV := Aside0.mk (Kd.S_after (ok := (fun k_ => (w.heap.size ≤ k_) ∧ some k_ ≠ (ak : Value).ownBlock ∧ some k_ ≠ (v140 : Value).ownBlock)) (by exact Kd.S_mono ac.out (fun _ hk => ⟨⟨hk.1.1, ⟨hk.1.2.2, hk.2⟩⟩, hk.1.2.1⟩)) hg hat); have bd := Aside0.mk (Kd.R_over' ad.out (Kd.R_typed au.out) (by decide) hg); have bc := Aside0.mk (blk_grown (g := ao) (o := .cells #[.slice none 0 0, .slice none 0 0, .slice none 0 0, .slice none 0 0] 32 (0, 0)) am.out hg (Kd.R_ne au.out am.out (by decide))); have bb := Aside0.mk (blk_grown (g := an) (o := .cells #[.slice (some ad137) l0.length c0, ak, ai, al] 32 (0, 0)) ah.out hg (Kd.R_ne au.out ah.out (by decide))); have bh := Aside0.mk (blk_grown (g := ag) (o := .cells #[.int .i64 ((rd_T106 ab aa).f0), .int .i64 ((rd_T106 ab aa).f1), .int .i64 ((rd_T106 ab aa).f2)] 106 (0, 0)) aj.out hg (Kd.R_ne au.out aj.out (by decide))); have bg := Aside0.mk (blk_grown (g := av) (o := .cells #[.int .i64 ax, .int .i64 ay, .int .i64 (wrap64 (((rd_T106 ab aa).f2) + 1))] 106 (0, 0)) az.out hg (Kd.R_ne au.out az.out (by decide))); have aN := Aside0.mk (Kd.V_afterv (ok := (fun k_ => (P0_ k_ ∨ w.heap.size ≤ k_) ∧ some k_ ≠ (.slice db aJ.length cZ : Value).ownBlock ∧ some k_ ≠ (ak : Value).ownBlock ∧ some k_ ≠ (ai : Value).ownBlock ∧ some k_ ≠ (al : Value).ownBlock ∧ some k_ ≠ (v140 : Value).ownBlock ∧ k_ ≠ ao ∧ k_ ≠ an ∧ k_ ≠ ag ∧ k_ ≠ av)) (by exact Kd.V_mono HL137_0.out (fun _ hk => ⟨⟨hk.1.1, ⟨hk.1.2.1, ⟨hk.1.2.2.2.1, ⟨hk.1.2.2.2.2.1, ⟨hk.1.2.2.2.2.2.1, ⟨hk.2, ⟨hk.1.2.2.2.2.2.2.1, ⟨hk.1.2.2.2.2.2.2.2.1, ⟨hk.1.2.2.2.2.2.2.2.2.1, hk.1.2.2.2.2.2.2.2.2.2⟩⟩⟩⟩⟩⟩⟩⟩⟩, hk.1.2.2.1⟩)) hg hat); have aU := Aside0.mk (Kd.R_after (ok := (fun k_ => (w.heap.size ≤ k_))) HO141.out hg hat); have ba := Aside0.mk (hb); have bD := Aside0.mk (ho); clear aw; clear aA; clear ae; clear af; clear ac; clear ad; clear am; clear ah; clear aj; clear az; clear HL137_0; clear HO141; clear HB; clear au; have aw := aT; have aA := aR; have ae := aQ; have af := aW; have ac := aV; have ad := bd; have am := bc; have ah := bb; have aj := bh; have az := bg; have HL137_0 := aN; have HO141 := aU; have HB := ba; have HO144 := bD; clear aT aR aQ aW aV bd bc bb bh bg aN aU ba bD; clear ho hb hg hat))
    go_roundg ce
    case measure => have := cD.out; have := bP.out; have := bS.out; have := cY.out; have := dc.out; have := cm.out; have := dr.out; have := da.out; omega
    case rel => exact ⟨(aJ), (ay), (dt), (dw), (by first | rfl | (simp; done) | (simp [*]; done)), H', ⟨by have := cD.out; have := bP.out; have := bS.out; have := cY.out; have := dc.out; have := cm.out; have := dr.out; have := da.out; omega⟩, ⟨by exact Kd.V_mono aw.out (fun _ hk => ⟨hk.1.1, ⟨hk.1.2.1, ⟨hk.1.2.2.2.2.2.1, ⟨hk.2, ⟨hk.1.2.2.1, ⟨hk.1.2.2.2.1, ⟨hk.1.2.2.2.2.1, ⟨hk.1.2.2.2.2.2.2.1, ⟨hk.1.2.2.2.2.2.2.2.1, hk.1.2.2.2.2.2.2.2.2.1⟩⟩⟩⟩⟩⟩⟩⟩⟩)⟩, ⟨by exact Kd.R_mono aA.out (fun _ hk => ⟨hk.1, hk.2.1⟩)⟩, ⟨HO141.out⟩, ⟨HO144.out⟩, ⟨by exact Kd.V_mono ae.out (fun _ hk => ⟨hk.1.1, ⟨hk.1.2.1, ⟨hk.1.2.2.2.2.2.1, ⟨hk.2, ⟨hk.1.2.2.1, ⟨hk.1.2.2.2.1, ⟨hk.1.2.2.2.2.1, ⟨hk.1.2.2.2.2.2.2.1, ⟨hk.1.2.2.2.2.2.2.2.1, hk.1.2.2.2.2.2.2.2.2.1⟩⟩⟩⟩⟩⟩⟩⟩⟩)⟩, ⟨by exact Kd.S_mono af.out (fun _ hk => ⟨hk.1.1, ⟨hk.1.2.2, ⟨hk.2, hk.1.2.1⟩⟩⟩)⟩, ⟨by exact Kd.S_mono ac.out (fun _ hk => ⟨hk.1.1, ⟨hk.1.2.2, ⟨hk.2, hk.1.2.1⟩⟩⟩)⟩, ⟨ad.out⟩, ⟨am.out⟩, ⟨ah.out⟩, ⟨aj.out⟩, ⟨HB.out⟩⟩
   rw [if_neg c27] at H
   have cG : decide (ax < ((rd_T106 ab aa).f1)) = false := decide_eq_false c27
   clear c27
   have c88 : ar.length < 5864062014805 := Classical.byContradiction fun c_ => by rw [if_neg c_] at H; exact absurd H (by simp)
   rw [if_pos c88] at H
   have LMc88 := Aside0.mk c88
   clear c88
   obtain ⟨bf, hy110⟩ : ∃ y_ : List (List Int), y_ = (ar ++ [aM]) := ⟨_, rfl⟩
   replace H : (if aq.length < 5864062014805 then (if ap.length < 140737488355328 then (wordbookref15_Build.l0 k4 l0 aJ (wrap64 (aa + 1)) l0 bf (aq ++ [aI]) (ap ++ [aK])) else (none)) else (none)) = some (r1, r2, r3, r4, r5) := by (rw [hy110]; with_reducible exact H)
   have Ny110 := Aside0.mk hy110
   clear hy110
   have c89 : aq.length < 5864062014805 := Classical.byContradiction fun c_ => by rw [if_neg c_] at H; exact absurd H (by simp)
   rw [if_pos c89] at H
   have LMc89 := Aside0.mk c89
   clear c89
   obtain ⟨bC, hy113⟩ : ∃ y_ : List (List Int), y_ = (aq ++ [aI]) := ⟨_, rfl⟩
   replace H : (if ap.length < 140737488355328 then (wordbookref15_Build.l0 k4 l0 aJ (wrap64 (aa + 1)) l0 bf bC (ap ++ [aK])) else (none)) = some (r1, r2, r3, r4, r5) := by (rw [hy113]; with_reducible exact H)
   have Ny113 := Aside0.mk hy113
   clear hy113
   have c90 : ap.length < 140737488355328 := Classical.byContradiction fun c_ => by rw [if_neg c_] at H; exact absurd H (by simp)
   rw [if_pos c90] at H
   have LMc90 := Aside0.mk c90
   clear c90
   obtain ⟨cu, hy116⟩ : ∃ y_ : List Bool, y_ = (ap ++ [aK]) := ⟨_, rfl⟩
   replace H : (wordbookref15_Build.l0 k4 l0 aJ (wrap64 (aa + 1)) l0 bf bC cu) = some (r1, r2, r3, r4, r5) := by (rw [hy116]; with_reducible exact H)
   have Ny116 := Aside0.mk hy116
   clear hy116
   have H' := Aside0.mk H
   clear H
   have hnb91 := bO.out
   have hnc91 := aY.out
   have hnb92 := bl.out
   have hnc92 := aX.out
   have fd : wr.cell? ⟨ag, 0, none⟩ = some (.int .i64 ((rd_T106 ab aa).f0)) := (blk_cell aj.out 0).trans rfl
   have fc : wr.cell? ⟨ag, 1, none⟩ = some (.int .i64 ((rd_T106 ab aa).f1)) := (blk_cell aj.out 1).trans rfl
   have fb : wr.cell? ⟨ag, 2, none⟩ = some (.int .i64 ((rd_T106 ab aa).f2)) := (blk_cell aj.out 2).trans rfl
   have eP := blk_frozen aj.out 0
   have eO := blk_frozen aj.out 1
   have eN := blk_frozen aj.out 2
   have hnb94 := bT.out
   have hnc94 := aZ.out
   have fa : wr.cell? ⟨an, 0, none⟩ = some (.slice A0 l0.length c0) := (blk_cell ah.out 0).trans rfl
   have eZ : wr.cell? ⟨an, 1, none⟩ = some (ak) := (blk_cell ah.out 1).trans rfl
   have eY : wr.cell? ⟨an, 2, none⟩ = some (ai) := (blk_cell ah.out 2).trans rfl
   have eX : wr.cell? ⟨an, 3, none⟩ = some (al) := (blk_cell ah.out 3).trans rfl
   have eM := blk_frozen ah.out 0
   have eL := blk_frozen ah.out 1
   have eK := blk_frozen ah.out 2
   have eJ := blk_frozen ah.out 3
   obtain ⟨dp, dg, eo97⟩ := Kd.R_slice aC.out
   subst eo97
   go_wp2_with (first | ((with_reducible refine gate_builtin (b := .append) (xs := #[.tmp 134, .tmp 136]) rfl ?_); (try (refine gate_guard (by rfl) ?_; dsimp only)); at_builtin; refine Kd.S_append (Kd.slice 3 (Kd.int .i64)) (w0 := w) w.heap.size rfl (.tmp 134) (.tmp 136) 23 22 (.slice none 0 0) 24 rfl Try.underlying23 info22 rfl (by decide) (by omega) ak ar aM [.slice dp aM.length dg] (fun k_ => (w.heap.size ≤ k_) ∧ some k_ ≠ (u12 : Value).ownBlock ∧ some k_ ≠ (ai : Value).ownBlock) (fun k_ => some k_ = (.slice dp aM.length dg : Value).ownBlock) rfl rfl ?aP (fun k_ hk_ => ((Kd.R_mono (ok' := fun k_ => ((fun k_ => (w.heap.size ≤ k_) ∧ some k_ ≠ (u12 : Value).ownBlock ∧ some k_ ≠ (ai : Value).ownBlock)) k_ ∧ some k_ ≠ (ak : Value).ownBlock) (Kd.R_apart' (Kd.R_apart' (aC.out) (Kd.S_typed ac.out) (by decide)) (Kd.S_typed af.out) (by decide)) (fun k_ hk => ⟨⟨hk.1.1.1, ⟨hk.1.1.2, hk.1.2⟩⟩, hk.2⟩))).1 k_ hk_.symm) ?aF ?aO ?aB ?aS ?aL ?_; (case aP => exact Kd.M_row (Kd.R_mono (Kd.R_tight rfl (Kd.R_mono (ok' := fun k_ => ((fun k_ => (w.heap.size ≤ k_) ∧ some k_ ≠ (u12 : Value).ownBlock ∧ some k_ ≠ (ai : Value).ownBlock)) k_ ∧ some k_ ≠ (ak : Value).ownBlock) (Kd.R_apart' (Kd.R_apart' (aC.out) (Kd.S_typed ac.out) (by decide)) (Kd.S_typed af.out) (by decide)) (fun k_ hk => ⟨⟨hk.1.1.1, ⟨hk.1.1.2, hk.1.2⟩⟩, hk.2⟩))) (fun _ h_ => h_))); (case aB => exact HB.out); (case aF => exact (fun k_ hk => ⟨(Nat.le_trans (below_size HB.out) hk), Kd.fresh' (Kd.R_lt au.out) k_ hk, Kd.fresh' (Kd.S_lt ac.out) k_ hk⟩)); (case aO => exact (by exact Kd.S_mono af.out (fun k_ hk => ⟨⟨hk.1, ⟨hk.2.2.1, hk.2.2.2⟩⟩, fun e_ => hk.2.1 e_⟩))); (case aS => exact (below_size HB.out)); (case aL => have := LMc88.out; omega); intro v111 w96 ho hb hg hat; rw [← Ny110.out] at ho; have aT := Aside0.mk (Kd.V_afterv (ok := (fun k_ => (P0_ k_ ∨ w.heap.size ≤ k_) ∧ some k_ ≠ (u6 : Value).ownBlock ∧ some k_ ≠ (.slice dp aM.length dg : Value).ownBlock ∧ some k_ ≠ (u12 : Value).ownBlock ∧ some k_ ≠ (ai : Value).ownBlock ∧ some k_ ≠ (al : Value).ownBlock ∧ k_ ≠ ao ∧ k_ ≠ an ∧ k_ ≠ ag)) (by exact Kd.V_mono aw.out (fun _ hk => ⟨⟨hk.1, ⟨hk.2.1, ⟨hk.2.2.1, ⟨hk.2.2.2.1, ⟨hk.2.2.2.2.2.1, ⟨hk.2.2.2.2.2.2.1, ⟨hk.2.2.2.2.2.2.2.1, ⟨hk.2.2.2.2.2.2.2.2.1, hk.2.2.2.2.2.2.2.2.2⟩⟩⟩⟩⟩⟩⟩⟩, hk.2.2.2.2.1⟩)) hg hat); have aR := Aside0.mk (Kd.R_over' aA.out (Kd.S_typed af.out) (by decide) hg); have aQ := Aside0.mk (Kd.R_over' au.out (Kd.S_typed af.out) (by decide) hg); have aW := Aside0.mk (Kd.V_afterv (ok := (fun k_ => (P0_ k_ ∨ w.heap.size ≤ k_) ∧ some k_ ≠ (u6 : Value).ownBlock ∧ some k_ ≠ (.slice dp aM.length dg : Value).ownBlock ∧ some k_ ≠ (u12 : Value).ownBlock ∧ some k_ ≠ (ai : Value).ownBlock ∧ some k_ ≠ (al : Value).ownBlock ∧ k_ ≠ ao ∧ k_ ≠ an ∧ k_ ≠ ag)) (by exact Kd.V_mono ae.out (fun _ hk => ⟨⟨hk.1, ⟨hk.2.1, ⟨hk.2.2.1, ⟨hk.2.2.2.1, ⟨hk.2.2.2.2.2.1, ⟨hk.2.2.2.2.2.2.1, ⟨hk.2.2.2.2.2.2.2.1, ⟨hk.2.2.2.2.2.2.2.2.1, hk.2.2.2.2.2.2.2.2.2⟩⟩⟩⟩⟩⟩⟩⟩, hk.2.2.2.2.1⟩)) hg hat); have aV := Aside0.mk (Kd.S_after (ok := (fun k_ => (w.heap.size ≤ k_) ∧ some k_ ≠ (.slice dp aM.length dg : Value).ownBlock ∧ some k_ ≠ (u12 : Value).ownBlock)) (by exact Kd.S_mono ac.out (fun _ hk => ⟨⟨hk.1, ⟨hk.2.1, hk.2.2.1⟩⟩, hk.2.2.2⟩)) hg hat); have bd := Aside0.mk (Kd.R_over' ad.out (Kd.S_typed af.out) (by decide) hg); have bc := Aside0.mk (blk_grown (g := ao) (o := .cells #[.slice none 0 0, .slice none 0 0, .slice none 0 0, .slice none 0 0] 32 (0, 0)) am.out hg (Kd.S_ne af.out am.out (by decide))); have bb := Aside0.mk (blk_grown (g := an) (o := .cells #[.slice A0 l0.length c0, ak, ai, al] 32 (0, 0)) ah.out hg (Kd.S_ne af.out ah.out (by decide))); have bh := Aside0.mk (blk_grown (g := ag) (o := .cells #[.int .i64 ((rd_T106 ab aa).f0), .int .i64 ((rd_T106 ab aa).f1), .int .i64 ((rd_T106 ab aa).f2)] 106 (0, 0)) aj.out hg (Kd.S_ne af.out aj.out (by decide))); have bg := Aside0.mk (hb); have aN := Aside0.mk (ho); clear aw; clear aA; clear au; clear ae; clear ac; clear ad; clear am; clear ah; clear aj; clear HB; clear af; clear aC; have aw := aT; have aA := aR; have au := aQ; have ae := aW; have ac := aV; have ad := bd; have am := bc; have ah := bb; have aj := bh; have HB := bg; have HO112 := aN; clear aT aR aQ aW aV bd bc bb bh bg aN; clear ho hb hg hat; obtain ⟨bj, bi, eo98⟩ := Kd.S_slice HO112.out; subst eo98; have eW : w96.cell? ⟨an, 0, none⟩ = some (.slice A0 l0.length c0) := (blk_cell ah.out 0).trans rfl; have eV : w96.cell? ⟨an, 1, none⟩ = some (ak) := (blk_cell ah.out 1).trans rfl; have eU : w96.cell? ⟨an, 2, none⟩ = some (ai) := (blk_cell ah.out 2).trans rfl; have eT : w96.cell? ⟨an, 3, none⟩ = some (al) := (blk_cell ah.out 3).trans rfl; have eI := blk_frozen ah.out 0; have eH := blk_frozen ah.out 1; have eG := blk_frozen ah.out 2; have eF := blk_frozen ah.out 3) | ((with_reducible refine gate_store (t := 23) (p := 138) rfl ?_); refine store_event (t := 23) (p := 138) (v := ?vo_w100) (w1 := (w96.setCell ⟨an, 1, none⟩ (.slice bj bf.length bi))) ?hg ?ho ?hn ?hr ?_; (case ho => rfl); (case hg => rfl); (case hn => rfl); (case hr => first | (go_simp; done) | (go_simp; rfl)); intro w100 hw; have aT : Aside0 (Kd.V (Kd.slice 3 (Kd.int .i64)) 22 w100 w.heap.size (fun k_ => (P0_ k_ ∨ w.heap.size ≤ k_) ∧ some k_ ≠ (u6 : Value).ownBlock ∧ some k_ ≠ (u12 : Value).ownBlock ∧ some k_ ≠ (ai : Value).ownBlock ∧ some k_ ≠ (al : Value).ownBlock ∧ some k_ ≠ (.slice bj bf.length bi : Value).ownBlock ∧ k_ ≠ ao ∧ k_ ≠ an ∧ k_ ≠ ag) (.slice A0 l0.length c0) l0) := ⟨(by rw [hw]; exact (by exact Kd.V_mono (Kd.V_far (p := ⟨an, 1, none⟩) (Kd.V_mono aw.out (fun k_ hk => (⟨hk, hk.1.2.2.2.2.2.2.2.1⟩ : _ ∧ k_ ≠ an))) (fun _ hk => hk.2) (.slice bj bf.length bi)) (fun _ hk => ⟨hk.1.1.1, ⟨hk.1.1.2.1, ⟨hk.1.1.2.2.2.1, ⟨hk.1.1.2.2.2.2.1, ⟨hk.1.1.2.2.2.2.2.1, ⟨hk.1.2, ⟨hk.1.1.2.2.2.2.2.2.1, ⟨hk.1.1.2.2.2.2.2.2.2.1, hk.1.1.2.2.2.2.2.2.2.2⟩⟩⟩⟩⟩⟩⟩⟩)))⟩; have aR : Aside0 (Kd.R k106 106 w100 w.heap.size (fun k_ => (w.heap.size ≤ k_) ∧ k_ ≠ ag) u6 aJ) := ⟨(by rw [hw]; exact (by exact Kd.R_mono (Kd.R_far (p := ⟨an, 1, none⟩) (Kd.R_types aA.out ah.out (by decide)) (fun _ hk => hk.2) (.slice bj bf.length bi)) (fun _ hk => ⟨hk.1.1, hk.1.2⟩)))⟩; have aQ : Aside0 (Kd.R (Kd.int .i64) 3 w100 w.heap.size (fun k_ => (w.heap.size ≤ k_)) u12 aI) := ⟨(by rw [hw]; exact (by exact Kd.R_mono (Kd.R_far (p := ⟨an, 1, none⟩) (Kd.R_types au.out ah.out (by decide)) (fun _ hk => hk.2) (.slice bj bf.length bi)) (fun _ hk => hk.1.1)))⟩; have aW : Aside0 (Kd.V (Kd.slice 3 (Kd.int .i64)) 22 w100 w.heap.size (fun k_ => (P0_ k_ ∨ w.heap.size ≤ k_) ∧ some k_ ≠ (u6 : Value).ownBlock ∧ some k_ ≠ (u12 : Value).ownBlock ∧ some k_ ≠ (ai : Value).ownBlock ∧ some k_ ≠ (al : Value).ownBlock ∧ some k_ ≠ (.slice bj bf.length bi : Value).ownBlock ∧ k_ ≠ ao ∧ k_ ≠ an ∧ k_ ≠ ag) (.slice A0 l0.length c0) l0) := ⟨(by rw [hw]; exact (by exact Kd.V_mono (Kd.V_far (p := ⟨an, 1, none⟩) (Kd.V_mono ae.out (fun k_ hk => (⟨hk, hk.1.2.2.2.2.2.2.2.1⟩ : _ ∧ k_ ≠ an))) (fun _ hk => hk.2) (.slice bj bf.length bi)) (fun _ hk => ⟨hk.1.1.1, ⟨hk.1.1.2.1, ⟨hk.1.1.2.2.2.1, ⟨hk.1.1.2.2.2.2.1, ⟨hk.1.1.2.2.2.2.2.1, ⟨hk.1.2, ⟨hk.1.1.2.2.2.2.2.2.1, ⟨hk.1.1.2.2.2.2.2.2.2.1, hk.1.1.2.2.2.2.2.2.2.2⟩⟩⟩⟩⟩⟩⟩⟩)))⟩; have aV : Aside0 (Kd.S (Kd.slice 3 (Kd.int .i64)) 22 w100 w.heap.size (fun k_ => (w.heap.size ≤ k_) ∧ some k_ ≠ (u12 : Value).ownBlock ∧ some k_ ≠ (.slice bj bf.length bi : Value).ownBlock) ai aq) := ⟨(by rw [hw]; exact (by exact Kd.S_mono (Kd.S_far (p := ⟨an, 1, none⟩) (Kd.S_types ac.out ah.out (by decide)) (fun _ hk => hk.2) (.slice bj bf.length bi)) (fun _ hk => ⟨hk.1.1.1, ⟨hk.1.1.2.2, hk.1.2⟩⟩)))⟩; have bd : Aside0 (Kd.R Kd.bool 4 w100 w.heap.size (fun k_ => (w.heap.size ≤ k_)) al ap) := ⟨(by rw [hw]; exact (by exact Kd.R_mono (Kd.R_far (p := ⟨an, 1, none⟩) (Kd.R_types ad.out ah.out (by decide)) (fun _ hk => hk.2) (.slice bj bf.length bi)) (fun _ hk => hk.1)))⟩; have bc : Aside0 (Kd.S (Kd.slice 3 (Kd.int .i64)) 22 w100 w.heap.size (fun k_ => (w.heap.size ≤ k_) ∧ some k_ ≠ (u12 : Value).ownBlock ∧ some k_ ≠ (ai : Value).ownBlock) (.slice bj bf.length bi) bf) := ⟨(by rw [hw]; exact (by exact Kd.S_mono (Kd.S_far (p := ⟨an, 1, none⟩) (Kd.S_types HO112.out ah.out (by decide)) (fun _ hk => hk.2) (.slice bj bf.length bi)) (fun _ hk => ⟨hk.1.1, ⟨hk.1.2.1, hk.1.2.2⟩⟩)))⟩; have bb : Aside0 (w100.heap[ao]? = some (.cells #[.slice none 0 0, .slice none 0 0, .slice none 0 0, .slice none 0 0] 32 (0, 0))) := ⟨(by rw [hw]; exact (by refine blk_far ?_ aZ.out _; exact am.out))⟩; have bh : Aside0 (w100.heap[an]? = some (.cells #[.slice A0 l0.length c0, .slice bj bf.length bi, ai, al] 32 (0, 0))) := ⟨(by rw [hw]; exact (by refine blk_put (cs := #[.slice A0 l0.length c0, ak, ai, al]) ?_ 1 _ rfl; exact ah.out))⟩; have bg : Aside0 (w100.heap[ag]? = some (.cells #[.int .i64 ((rd_T106 ab aa).f0), .int .i64 ((rd_T106 ab aa).f1), .int .i64 ((rd_T106 ab aa).f2)] 106 (0, 0))) := ⟨(by rw [hw]; exact (by refine blk_far ?_ bl.out _; exact aj.out))⟩; have aN : Aside0 (Below w.heap.size w w100) := ⟨(by rw [hw]; exact (by repeat (first | (with_reducible first | exact HB.out | apply below_alloc | apply pw_below_drewN | apply below_drew1 | refine below_set ?_ aD.out | refine below_set ?_ aE.out | refine below_set ?_ aG.out) | exact HB.out)))⟩; clear hw; clear aw; clear aA; clear au; clear ae; clear ac; clear ad; clear HO112; clear am; clear ah; clear aj; clear HB; have aw := aT; have aA := aR; have au := aQ; have ae := aW; have ac := aV; have ad := bd; have HO112 := bc; have am := bb; have ah := bh; have aj := bg; have HB := aN; clear aT aR aQ aW aV bd bc bb bh bg aN; have eA : w100.cell? ⟨an, 0, none⟩ = some (.slice A0 l0.length c0) := (blk_cell ah.out 0).trans rfl; have ez : w100.cell? ⟨an, 1, none⟩ = some (.slice bj bf.length bi) := (blk_cell ah.out 1).trans rfl; have ey : w100.cell? ⟨an, 2, none⟩ = some (ai) := (blk_cell ah.out 2).trans rfl; have ex : w100.cell? ⟨an, 3, none⟩ = some (al) := (blk_cell ah.out 3).trans rfl; have ec := blk_frozen ah.out 0; have eb := blk_frozen ah.out 1; have ea := blk_frozen ah.out 2; have dZ := blk_frozen ah.out 3; obtain ⟨cI, cF, eo103⟩ := Kd.R_slice au.out; subst eo103) | ((with_reducible refine gate_builtin (b := .append) (xs := #[.tmp 140, .tmp 142]) rfl ?_); (try (refine gate_guard (by rfl) ?_; dsimp only)); at_builtin; refine Kd.S_append (Kd.slice 3 (Kd.int .i64)) (w0 := w) w.heap.size rfl (.tmp 140) (.tmp 142) 23 22 (.slice none 0 0) 24 rfl Try.underlying23 info22 rfl (by decide) (by omega) ai aq aI [.slice cI aI.length cF] (fun k_ => (w.heap.size ≤ k_) ∧ some k_ ≠ (.slice bj bf.length bi : Value).ownBlock) (fun k_ => some k_ = (.slice cI aI.length cF : Value).ownBlock) rfl rfl ?aP (fun k_ hk_ => ((Kd.R_mono (ok' := fun k_ => ((fun k_ => (w.heap.size ≤ k_) ∧ some k_ ≠ (.slice bj bf.length bi : Value).ownBlock)) k_ ∧ some k_ ≠ (ai : Value).ownBlock) (Kd.R_apart' (Kd.R_apart' (au.out) (Kd.S_typed HO112.out) (by decide)) (Kd.S_typed ac.out) (by decide)) (fun k_ hk => ⟨⟨hk.1.1, hk.1.2⟩, hk.2⟩))).1 k_ hk_.symm) ?aF ?aO ?aB ?aS ?aL ?_; (case aP => exact Kd.M_row (Kd.R_mono (Kd.R_tight rfl (Kd.R_mono (ok' := fun k_ => ((fun k_ => (w.heap.size ≤ k_) ∧ some k_ ≠ (.slice bj bf.length bi : Value).ownBlock)) k_ ∧ some k_ ≠ (ai : Value).ownBlock) (Kd.R_apart' (Kd.R_apart' (au.out) (Kd.S_typed HO112.out) (by decide)) (Kd.S_typed ac.out) (by decide)) (fun k_ hk => ⟨⟨hk.1.1, hk.1.2⟩, hk.2⟩))) (fun _ h_ => h_))); (case aB => exact HB.out); (case aF => exact (fun k_ hk => ⟨(Nat.le_trans (below_size HB.out) hk), Kd.fresh' (Kd.S_lt HO112.out) k_ hk⟩)); (case aO => exact (by exact Kd.S_mono ac.out (fun k_ hk => ⟨⟨hk.1, hk.2.2⟩, fun e_ => hk.2.1 e_⟩))); (case aS => exact (below_size HB.out)); (case aL => have := LMc89.out; omega); intro v114 w102 ho hb hg hat; rw [← Ny113.out] at ho; have aT := Aside0.mk (Kd.V_afterv (ok := (fun k_ => (P0_ k_ ∨ w.heap.size ≤ k_) ∧ some k_ ≠ (u6 : Value).ownBlock ∧ some k_ ≠ (.slice cI aI.length cF : Value).ownBlock ∧ some k_ ≠ (al : Value).ownBlock ∧ some k_ ≠ (.slice bj bf.length bi : Value).ownBlock ∧ k_ ≠ ao ∧ k_ ≠ an ∧ k_ ≠ ag)) (by exact Kd.V_mono aw.out (fun _ hk => ⟨⟨hk.1, ⟨hk.2.1, ⟨hk.2.2.1, ⟨hk.2.2.2.2.1, ⟨hk.2.2.2.2.2.1, ⟨hk.2.2.2.2.2.2.1, ⟨hk.2.2.2.2.2.2.2.1, hk.2.2.2.2.2.2.2.2⟩⟩⟩⟩⟩⟩⟩, hk.2.2.2.1⟩)) hg hat); have aR := Aside0.mk (Kd.R_over' aA.out (Kd.S_typed ac.out) (by decide) hg); have aQ := Aside0.mk (Kd.V_afterv (ok := (fun k_ => (P0_ k_ ∨ w.heap.size ≤ k_) ∧ some k_ ≠ (u6 : Value).ownBlock ∧ some k_ ≠ (.slice cI aI.length cF : Value).ownBlock ∧ some k_ ≠ (al : Value).ownBlock ∧ some k_ ≠ (.slice bj bf.length bi : Value).ownBlock ∧ k_ ≠ ao ∧ k_ ≠ an ∧ k_ ≠ ag)) (by exact Kd.V_mono ae.out (fun _ hk => ⟨⟨hk.1, ⟨hk.2.1, ⟨hk.2.2.1, ⟨hk.2.2.2.2.1, ⟨hk.2.2.2.2.2.1, ⟨hk.2.2.2.2.2.2.1, ⟨hk.2.2.2.2.2.2.2.1, hk.2.2.2.2.2.2.2.2⟩⟩⟩⟩⟩⟩⟩, hk.2.2.2.1⟩)) hg hat); have aW := Aside0.mk (Kd.R_over' ad.out (Kd.S_typed ac.out) (by decide) hg); have aV := Aside0.mk (blk_grown (g := ao) (o := .cells #[.slice none 0 0, .slice none 0 0, .slice none 0 0, .slice none 0 0] 32 (0, 0)) am.out hg (Kd.S_ne ac.out am.out (by decide))); have bd := Aside0.mk (blk_grown (g := an) (o := .cells #[.slice A0 l0.length c0, .slice bj bf.length bi, ai, al] 32 (0, 0)) ah.out hg (Kd.S_ne ac.out ah.out (by decide))); have bc := Aside0.mk (blk_grown (g := ag) (o := .cells #[.int .i64 ((rd_T106 ab aa).f0), .int .i64 ((rd_T106 ab aa).f1), .int .i64 ((rd_T106 ab aa).f2)] 106 (0, 0)) aj.out hg (Kd.S_ne ac.out aj.out (by decide))); have bb := Aside0.mk (Kd.S_after (ok := (fun k_ => (w.heap.size ≤ k_) ∧ some k_ ≠ (.slice cI aI.length cF : Value).ownBlock)) (by exact Kd.S_mono HO112.out (fun _ hk => ⟨⟨hk.1, hk.2.1⟩, hk.2.2⟩)) hg hat); have bh := Aside0.mk (hb); have bg := Aside0.mk (ho); clear aw; clear aA; clear ae; clear ad; clear am; clear ah; clear aj; clear HO112; clear HB; clear ac; clear au; have aw := aT; have aA := aR; have ae := aQ; have ad := aW; have am := aV; have ah := bd; have aj := bc; have HO112 := bb; have HB := bh; have HO115 := bg; clear aT aR aQ aW aV bd bc bb bh bg; clear ho hb hg hat; obtain ⟨bn, bm, eo104⟩ := Kd.S_slice HO115.out; subst eo104; have ew : w102.cell? ⟨an, 0, none⟩ = some (.slice A0 l0.length c0) := (blk_cell ah.out 0).trans rfl; have ev : w102.cell? ⟨an, 1, none⟩ = some (.slice bj bf.length bi) := (blk_cell ah.out 1).trans rfl; have eu : w102.cell? ⟨an, 2, none⟩ = some (ai) := (blk_cell ah.out 2).trans rfl; have et : w102.cell? ⟨an, 3, none⟩ = some (al) := (blk_cell ah.out 3).trans rfl; have dY := blk_frozen ah.out 0; have dX := blk_frozen ah.out 1; have dW := blk_frozen ah.out 2; have dV := blk_frozen ah.out 3) | ((with_reducible refine gate_builtin (b := .append) (xs := #[.tmp 146, .tmp 148]) rfl ?_); (try (refine gate_guard (by rfl) ?_; dsimp only)); at_builtin; refine Kd.R_append Kd.bool (w0 := w) w.heap.size rfl (.tmp 146) (.tmp 148) 30 4 (.bool false) 1 rfl Try.underlying30 info4 rfl (by decide) (by omega) al ap aK [.bool aK] (fun k_ => (w.heap.size ≤ k_)) (fun _ => False) rfl (by first | (go_simp; done) | (go_simp; rfl)) ?aP (fun _ hk => hk.elim) ?aF ?aO ?aB ?aS ?aL ?_; (case aP => exact rfl); (case aB => exact (by repeat (first | (with_reducible first | exact HB.out | apply below_alloc | apply pw_below_drewN | apply below_drew1 | refine below_set ?_ aD.out | refine below_set ?_ aE.out | refine below_set ?_ aG.out) | exact HB.out))); (case aF => exact (fun k_ hk => (Nat.le_trans (below_size (by repeat (first | (with_reducible first | exact HB.out | apply below_alloc | apply pw_below_drewN | apply below_drew1 | refine below_set ?_ aD.out | refine below_set ?_ aE.out | refine below_set ?_ aG.out) | exact HB.out))) hk))); (case aO => exact (by exact Kd.R_mono (Kd.R_far (p := ⟨an, 2, none⟩) (Kd.R_types ad.out ah.out (by decide)) (fun _ hk => hk.2) (.slice bn bC.length bm)) (fun _ hk => hk.1))); (case aS => exact (below_size (by repeat (first | (with_reducible first | exact HB.out | apply below_alloc | apply pw_below_drewN | apply below_drew1 | refine below_set ?_ aD.out | refine below_set ?_ aE.out | refine below_set ?_ aG.out) | exact HB.out)))); (case aL => have := LMc90.out; omega); intro v117 w106 ho hb hg hat; rw [← Ny116.out] at ho; have aT := Aside0.mk (Kd.V_afterv (ok := (fun k_ => (P0_ k_ ∨ w.heap.size ≤ k_) ∧ some k_ ≠ (u6 : Value).ownBlock ∧ some k_ ≠ (.slice bj bf.length bi : Value).ownBlock ∧ some k_ ≠ (.slice bn bC.length bm : Value).ownBlock ∧ k_ ≠ ao ∧ k_ ≠ an ∧ k_ ≠ ag)) (by exact Kd.V_mono (Kd.V_far (p := ⟨an, 2, none⟩) (Kd.V_mono aw.out (fun k_ hk => (⟨hk, hk.1.2.2.2.2.2.2.1⟩ : _ ∧ k_ ≠ an))) (fun _ hk => hk.2) (.slice bn bC.length bm)) (fun _ hk => ⟨⟨hk.1.1.1, ⟨hk.1.1.2.1, ⟨hk.1.1.2.2.2.2.1, ⟨hk.1.2, ⟨hk.1.1.2.2.2.2.2.1, ⟨hk.1.1.2.2.2.2.2.2.1, hk.1.1.2.2.2.2.2.2.2⟩⟩⟩⟩⟩⟩, hk.1.1.2.2.2.1⟩)) hg hat); have aR := Aside0.mk (Kd.R_over' (by exact (Kd.R_mono (Kd.R_far (p := ⟨an, 2, none⟩) (Kd.R_types aA.out ah.out (by decide)) (fun _ hk => hk.2) (.slice bn bC.length bm)) (fun _ h_ => h_.1))) (Kd.R_typed (by exact (Kd.R_mono (Kd.R_far (p := ⟨an, 2, none⟩) (Kd.R_types ad.out ah.out (by decide)) (fun _ hk => hk.2) (.slice bn bC.length bm)) (fun _ h_ => h_.1)))) (by decide) hg); have aQ := Aside0.mk (Kd.V_afterv (ok := (fun k_ => (P0_ k_ ∨ w.heap.size ≤ k_) ∧ some k_ ≠ (u6 : Value).ownBlock ∧ some k_ ≠ (.slice bj bf.length bi : Value).ownBlock ∧ some k_ ≠ (.slice bn bC.length bm : Value).ownBlock ∧ k_ ≠ ao ∧ k_ ≠ an ∧ k_ ≠ ag)) (by exact Kd.V_mono (Kd.V_far (p := ⟨an, 2, none⟩) (Kd.V_mono ae.out (fun k_ hk => (⟨hk, hk.1.2.2.2.2.2.2.1⟩ : _ ∧ k_ ≠ an))) (fun _ hk => hk.2) (.slice bn bC.length bm)) (fun _ hk => ⟨⟨hk.1.1.1, ⟨hk.1.1.2.1, ⟨hk.1.1.2.2.2.2.1, ⟨hk.1.2, ⟨hk.1.1.2.2.2.2.2.1, ⟨hk.1.1.2.2.2.2.2.2.1, hk.1.1.2.2.2.2.2.2.2⟩⟩⟩⟩⟩⟩, hk.1.1.2.2.2.1⟩)) hg hat); have aW := Aside0.mk (blk_grown (g := ao) (o := .cells #[.slice none 0 0, .slice none 0 0, .slice none 0 0, .slice none 0 0] 32 (0, 0)) (by refine blk_far ?_ aZ.out _; exact am.out) hg (Kd.R_ne ad.out am.out (by decide))); have aV := Aside0.mk (blk_grown (g := an) (o := .cells #[.slice A0 l0.length c0, .slice bj bf.length bi, .slice bn bC.length bm, al] 32 (0, 0)) (by refine blk_put (cs := #[.slice A0 l0.length c0, .slice bj bf.length bi, ai, al]) ?_ 2 _ rfl; exact ah.out) hg (Kd.R_ne ad.out ah.out (by decide))); have bd := Aside0.mk (blk_grown (g := ag) (o := .cells #[.int .i64 ((rd_T106 ab aa).f0), .int .i64 ((rd_T106 ab aa).f1), .int .i64 ((rd_T106 ab aa).f2)] 106 (0, 0)) (by refine blk_far ?_ bl.out _; exact aj.out) hg (Kd.R_ne ad.out aj.out (by decide))); have bc := Aside0.mk (Kd.S_over' (by exact (Kd.S_mono (Kd.S_far (p := ⟨an, 2, none⟩) (Kd.S_types HO112.out ah.out (by decide)) (fun _ hk => hk.2) (.slice bn bC.length bm)) (fun _ h_ => h_.1))) (Kd.R_typed (by exact (Kd.R_mono (Kd.R_far (p := ⟨an, 2, none⟩) (Kd.R_types ad.out ah.out (by decide)) (fun _ hk => hk.2) (.slice bn bC.length bm)) (fun _ h_ => h_.1)))) (by decide) hg); have bb := Aside0.mk (Kd.S_over' (by exact (Kd.S_mono (Kd.S_far (p := ⟨an, 2, none⟩) (Kd.S_types HO115.out ah.out (by decide)) (fun _ hk => hk.2) (.slice bn bC.length bm)) (fun _ h_ => h_.1))) (Kd.R_typed (by exact (Kd.R_mono (Kd.R_far (p := ⟨an, 2, none⟩) (Kd.R_types ad.out ah.out (by decide)) (fun _ hk => hk.2) (.slice bn bC.length bm)) (fun _ h_ => h_.1)))) (by decide) hg); have bh := Aside0.mk (hb); have bg := Aside0.mk (ho); clear aw; clear aA; clear ae; clear am; clear ah; clear aj; clear HO112; clear HO115; clear HB; clear ad; have aw := aT; have aA := aR; have ae := aQ; have am := aW; have ah := aV; have aj := bd; have HO112 := bc; have HO115 := bb; have HB := bh; have HO118 := bg; clear aT aR aQ aW aV bd bc bb bh bg; clear ho hb hg hat; obtain ⟨cl, cg, eo107⟩ := Kd.R_slice HO118.out; subst eo107; have es : w106.cell? ⟨an, 0, none⟩ = some (.slice A0 l0.length c0) := (blk_cell ah.out 0).trans rfl; have er : w106.cell? ⟨an, 1, none⟩ = some (.slice bj bf.length bi) := (blk_cell ah.out 1).trans rfl; have eq : w106.cell? ⟨an, 2, none⟩ = some (.slice bn bC.length bm) := (blk_cell ah.out 2).trans rfl; have ep : w106.cell? ⟨an, 3, none⟩ = some (al) := (blk_cell ah.out 3).trans rfl; have dU := blk_frozen ah.out 0; have dT := blk_frozen ah.out 1; have dS := blk_frozen ah.out 2; have dR := blk_frozen ah.out 3))
   go_roundg k4
   case measure => have := cD.out; have := bP.out; have := bS.out; have := cY.out; omega
   case rel => exact ⟨(aJ), (wrap64 (aa + 1)), (bf), (bC), (cu), (.slice bj bf.length bi), (.slice bn bC.length bm), (.slice cl cu.length cg), (by first | rfl | (simp; done) | (simp [*]; done)), H', ⟨by have := cD.out; have := bP.out; have := bS.out; have := cY.out; omega⟩, ⟨by exact Kd.V_mono (Kd.V_far (p := ⟨an, 3, none⟩) (Kd.V_mono aw.out (fun k_ hk => (⟨hk, hk.1.2.2.2.2.2.1⟩ : _ ∧ k_ ≠ an))) (fun _ hk => hk.2) (.slice cl cu.length cg)) (fun _ hk => ⟨hk.1.1.1, ⟨hk.1.1.2.1, ⟨hk.1.1.2.2.1, ⟨hk.1.1.2.2.2.1, ⟨hk.1.2, ⟨hk.1.1.2.2.2.2.1, hk.1.1.2.2.2.2.2.1⟩⟩⟩⟩⟩⟩)⟩, ⟨by exact Kd.R_mono (Kd.R_far (p := ⟨an, 3, none⟩) (Kd.R_types aA.out ah.out (by decide)) (fun _ hk => hk.2) (.slice cl cu.length cg)) (fun _ hk => hk.1.1)⟩, ⟨by exact Kd.V_mono (Kd.V_far (p := ⟨an, 3, none⟩) (Kd.V_mono ae.out (fun k_ hk => (⟨hk, hk.1.2.2.2.2.2.1⟩ : _ ∧ k_ ≠ an))) (fun _ hk => hk.2) (.slice cl cu.length cg)) (fun _ hk => ⟨hk.1.1.1, ⟨hk.1.1.2.1, ⟨hk.1.1.2.2.1, ⟨hk.1.1.2.2.2.1, ⟨hk.1.2, ⟨hk.1.1.2.2.2.2.1, hk.1.1.2.2.2.2.2.1⟩⟩⟩⟩⟩⟩)⟩, ⟨by exact Kd.S_mono (Kd.S_far (p := ⟨an, 3, none⟩) (Kd.S_types HO112.out ah.out (by decide)) (fun _ hk => hk.2) (.slice cl cu.length cg)) (fun _ hk => ⟨hk.1.1.1, hk.1.2⟩)⟩, ⟨by exact Kd.S_mono (Kd.S_far (p := ⟨an, 3, none⟩) (Kd.S_types HO115.out ah.out (by decide)) (fun _ hk => hk.2) (.slice cl cu.length cg)) (fun _ hk => ⟨hk.1.1, hk.1.2⟩)⟩, ⟨by exact Kd.R_mono (Kd.R_far (p := ⟨an, 3, none⟩) (Kd.R_types HO118.out ah.out (by decide)) (fun _ hk => hk.2) (.slice cl cu.length cg)) (fun _ hk => hk.1)⟩, ⟨by refine blk_far ?_ aZ.out _; exact am.out⟩, ⟨by refine blk_put (cs := #[.slice A0 l0.length c0, .slice bj bf.length bi, .slice bn bC.length bm, al]) ?_ 3 _ rfl; exact ah.out⟩, ⟨by repeat (first | (with_reducible first | exact HB.out | apply below_alloc | apply pw_below_drewN | apply below_drew1 | refine below_set ?_ aD.out | refine below_set ?_ aE.out | refine below_set ?_ aG.out) | exact HB.out)⟩⟩
  rw [if_neg c10] at H
  have bV : decide (aa < (ab.length : Int)) = false := decide_eq_false c10
  clear c10
  simp only [Option.some.injEq, Prod.mk.injEq] at H
  obtain ⟨rfl, rfl, rfl, rfl, rfl⟩ := H
  obtain ⟨fv, fj, eo109⟩ := Kd.R_slice aA.out
  subst eo109
  have hnb110 := bT.out
  have hnc110 := aZ.out
  have eo : wr.cell? ⟨an, 0, none⟩ = some (.slice A0 l0.length c0) := (blk_cell ah.out 0).trans rfl
  have en : wr.cell? ⟨an, 1, none⟩ = some (ak) := (blk_cell ah.out 1).trans rfl
  have em : wr.cell? ⟨an, 2, none⟩ = some (ai) := (blk_cell ah.out 2).trans rfl
  have el : wr.cell? ⟨an, 3, none⟩ = some (al) := (blk_cell ah.out 3).trans rfl
  have dQ := blk_frozen ah.out 0
  have dP := blk_frozen ah.out 1
  have dO := blk_frozen ah.out 2
  have dN := blk_frozen ah.out 3
  have ek : wr.cell? ⟨ao, 0, none⟩ = some (.slice none 0 0) := (blk_cell am.out 0).trans rfl
  have ej : wr.cell? ⟨ao, 1, none⟩ = some (.slice none 0 0) := (blk_cell am.out 1).trans rfl
  have ei : wr.cell? ⟨ao, 2, none⟩ = some (.slice none 0 0) := (blk_cell am.out 2).trans rfl
  have eh : wr.cell? ⟨ao, 3, none⟩ = some (.slice none 0 0) := (blk_cell am.out 3).trans rfl
  have dM := blk_frozen am.out 0
  have dL := blk_frozen am.out 1
  have dK := blk_frozen am.out 2
  have dJ := blk_frozen am.out 3
  obtain ⟨ck, cf, eo113⟩ := Kd.S_slice af.out
  subst eo113
  obtain ⟨ct, cn, eo114⟩ := Kd.S_slice ac.out
  subst eo114
  obtain ⟨cH, cE, eo115⟩ := Kd.R_slice ad.out
  subst eo115
  go_wp2
  refine bodyPost_ret (results_ct rfl _ _ ao 32 #[.slice A0 l0.length c0, .slice ck ar.length cf, .slice ct aq.length cn, .slice cH ap.length cE] (0, 0) _ rfl (by refine blk_put (cs := #[.slice A0 l0.length c0, .slice ck ar.length cf, .slice ct aq.length cn, .slice none 0 0]) ?_ 3 _ rfl; refine blk_put (cs := #[.slice A0 l0.length c0, .slice ck ar.length cf, .slice none 0 0, .slice none 0 0]) ?_ 2 _ rfl; refine blk_put (cs := #[.slice A0 l0.length c0, .slice none 0 0, .slice none 0 0, .slice none 0 0]) ?_ 1 _ rfl; refine blk_put (cs := #[.slice none 0 0, .slice none 0 0, .slice none 0 0, .slice none 0 0]) ?_ 0 _ rfl; exact am.out) Try.underlying32 rfl (by kernel_rfl)) rfl ?_
  exact ⟨_, _, _, _, by first | rfl | (simp [errW_none, errW_some] <;> rfl) | (simp [*, errW_none, errW_some] <;> rfl), by exact Kd.V_mono (Kd.V_far (p := ⟨ao, 3, none⟩) (Kd.V_far (p := ⟨ao, 2, none⟩) (Kd.V_far (p := ⟨ao, 1, none⟩) (Kd.V_far (p := ⟨ao, 0, none⟩) (Kd.V_mono ae.out (fun k_ hk => (⟨hk, hk.2.2.2.2.2.1⟩ : _ ∧ k_ ≠ ao))) (fun _ hk => hk.2) (.slice A0 l0.length c0)) (fun _ hk => hk.2) (.slice ck ar.length cf)) (fun _ hk => hk.2) (.slice ct aq.length cn)) (fun _ hk => hk.2) (.slice cH ap.length cE)) (fun _ hk => ⟨hk.1.1, ⟨hk.1.2.2.1, ⟨hk.1.2.2.2.1, hk.1.2.2.2.2.1⟩⟩⟩), by exact Kd.S_mono (Kd.S_far (p := ⟨ao, 3, none⟩) (Kd.S_far (p := ⟨ao, 2, none⟩) (Kd.S_far (p := ⟨ao, 1, none⟩) (Kd.S_far (p := ⟨ao, 0, none⟩) (Kd.S_types af.out am.out (by decide)) (fun _ hk => hk.2) (.slice A0 l0.length c0)) (fun _ hk => hk.2) (.slice ck ar.length cf)) (fun _ hk => hk.2) (.slice ct aq.length cn)) (fun _ hk => hk.2) (.slice cH ap.length cE)) (fun _ hk => ⟨hk.1.1, hk.1.2⟩), by exact Kd.S_mono (Kd.S_far (p := ⟨ao, 3, none⟩) (Kd.S_far (p := ⟨ao, 2, none⟩) (Kd.S_far (p := ⟨ao, 1, none⟩) (Kd.S_far (p := ⟨ao, 0, none⟩) (Kd.S_types ac.out am.out (by decide)) (fun _ hk => hk.2) (.slice A0 l0.length c0)) (fun _ hk => hk.2) (.slice ck ar.length cf)) (fun _ hk => hk.2) (.slice ct aq.length cn)) (fun _ hk => hk.2) (.slice cH ap.length cE)) (fun _ hk => ⟨hk.1.1, hk.1.2⟩), by exact Kd.R_mono (Kd.R_far (p := ⟨ao, 3, none⟩) (Kd.R_far (p := ⟨ao, 2, none⟩) (Kd.R_far (p := ⟨ao, 1, none⟩) (Kd.R_far (p := ⟨ao, 0, none⟩) (Kd.R_types ad.out am.out (by decide)) (fun _ hk => hk.2) (.slice A0 l0.length c0)) (fun _ hk => hk.2) (.slice ck ar.length cf)) (fun _ hk => hk.2) (.slice ct aq.length cn)) (fun _ hk => hk.2) (.slice cH ap.length cE)) (fun _ hk => hk.1), by repeat (first | (with_reducible first | exact HB.out | apply below_alloc | apply pw_below_drewN | apply below_drew1 | refine below_set ?_ aD.out | refine below_set ?_ aE.out) | exact HB.out)⟩
 rw [if_neg c3] at H
 have cC : (t102 == 0) = false := beq_eq_false_iff_ne.mpr c3
 have cB : (t102 != 0) = true := bne_iff_ne.mpr c3
 simp only [Option.some.injEq, Prod.mk.injEq] at H
 obtain ⟨rfl, rfl, rfl, rfl, rfl⟩ := H
 go_enter Try.func20, Try.ntmps20
 go_wp2_with (first | ((with_reducible refine gate_dst (N := 2) rfl ?_); (try (refine gate_guard (by rfl) ?_; dsimp only)); refine box_event ?hg (N := 2) ?hd (cs := #[.slice none 0 0, .slice none 0 0, .slice none 0 0, .slice none 0 0]) (t := 32) ?hr ?_; (case hd => rfl); (case hg => rfl); (case hr => first | (go_simp; done) | (go_simp; rfl)); intro ao hg w116 hbox hb; have aT := Aside0.mk (Kd.V_below (Kd.V_elderB HO0.out ao (Nat.le_of_eq hg.symm)) hb); have aR := Aside0.mk (below_step HB.out hb); have aQ := Aside0.mk (hbox); have aW := Aside0.mk ((by rw [hg]; exact (below_size HB.out) : w.heap.size ≤ ao)); have aV := Aside0.mk ((by rw [hg]; exact (below_size HB.out) : w.heap.size ≤ ao)); clear HO0; clear HB; have HO0 := aT; have HB := aR; have am := aQ; have eE := aW; have aD := aV; clear aT aR aQ aW aV; clear hb hbox hg) | ((with_reducible refine gate_callee (f := 70) rfl ?_); refine goesL_ (some 17) rfl rfl Try.func70 (by kernel_rfl) rfl #[.slice A0 l0.length c0] rfl (by (try simp only [List.map_toArray, List.map_cons, List.map_nil]); first | done | rfl | (simp only [List.length_drop, List.length_take]; rfl)) ?_; (with_reducible refine (wordbookref15_Errors.calls k _ _ l0 t102 _ ?side1 ?side2 A2.out).mono ?_); (case side1 => repeat (first | exact (Kd.V_reads' HO0.out).2.2 | (with_reducible refine Kd.C_alloc ?_ _) | (with_reducible refine Kd.C_drewN ?_ _) | (with_reducible refine Kd.C_drew ?_))); (case side2 => exact (Kd.V_reads' HO0.out).2.1); rintro e w' ⟨rfl, ⟨nd, rfl⟩⟩; refine ⟨_, rfl, ?_⟩; (try (rw [drewN_self w116]; generalize hq_ : World.drewN w116 _ = w116; have aT : Aside0 (Kd.V (Kd.slice 3 (Kd.int .i64)) 22 w116 w.heap.size (fun k_ => (P0_ k_ ∨ w.heap.size ≤ k_) ∧ k_ ≠ ao) (.slice A0 l0.length c0) l0) := ⟨by rw [← hq_]; exact (by (with_reducible repeat first | apply V_alloc | apply V_drewN | apply V_drew); exact HO0.out)⟩; have aR : Aside0 (w116.heap[ao]? = some (.cells #[.slice none 0 0, .slice none 0 0, .slice none 0 0, .slice none 0 0] 32 (0, 0))) := ⟨by rw [← hq_]; exact (by (with_reducible repeat first | apply blk_drewN | apply blk_drew | apply blk_alloc); exact am.out)⟩; have aQ : Aside0 (Below w.heap.size w w116) := ⟨by rw [← hq_]; exact (by repeat (first | (with_reducible first | exact HB.out | apply below_alloc | apply pw_below_drewN | apply below_drew1 | refine below_set ?_ aD.out) | exact HB.out))⟩; clear HO0 am HB hq_; have HO0 := aT; have am := aR; have HB := aQ; clear aT aR aQ)); have eg : w116.cell? ⟨ao, 0, none⟩ = some (.slice none 0 0) := (blk_cell am.out 0).trans rfl; have ef : w116.cell? ⟨ao, 1, none⟩ = some (.slice none 0 0) := (blk_cell am.out 1).trans rfl; have ee : w116.cell? ⟨ao, 2, none⟩ = some (.slice none 0 0) := (blk_cell am.out 2).trans rfl; have ed : w116.cell? ⟨ao, 3, none⟩ = some (.slice none 0 0) := (blk_cell am.out 3).trans rfl; have dI := blk_frozen am.out 0; have dH := blk_frozen am.out 1; have dG := blk_frozen am.out 2; have dF := blk_frozen am.out 3))
 refine bodyPost_ret (results_ct rfl _ _ ao 32 #[.slice none 0 0, .slice none 0 0, .slice none 0 0, .slice none 0 0] (0, 0) _ rfl (by refine blk_put (cs := #[.slice none 0 0, .slice none 0 0, .slice none 0 0, .slice none 0 0]) ?_ 3 _ rfl; refine blk_put (cs := #[.slice none 0 0, .slice none 0 0, .slice none 0 0, .slice none 0 0]) ?_ 2 _ rfl; refine blk_put (cs := #[.slice none 0 0, .slice none 0 0, .slice none 0 0, .slice none 0 0]) ?_ 1 _ rfl; refine blk_put (cs := #[.slice none 0 0, .slice none 0 0, .slice none 0 0, .slice none 0 0]) ?_ 0 _ rfl; exact am.out) Try.underlying32 rfl (by kernel_rfl)) rfl ?_
 exact ⟨_, _, _, _, by first | rfl | (simp [errW_none, errW_some] <;> rfl) | (simp [*, errW_none, errW_some] <;> rfl), Kd.V_nil _ _ _ _ _, by first | exact Kd.S_nil _ _ _ _ _ | exact Kd.N_nil _ _ _ _ _ | exact Kd.V_nil _ _ _ _ _ | exact Kd.Q_nil _ _ _ _ _ | exact Kd.R_nil _ _ _ _ _, by first | exact Kd.S_nil _ _ _ _ _ | exact Kd.N_nil _ _ _ _ _ | exact Kd.V_nil _ _ _ _ _ | exact Kd.Q_nil _ _ _ _ _ | exact Kd.R_nil _ _ _ _ _, by first | exact Kd.R_nil _ _ _ _ _ | exact Kd.N_nil _ _ _ _ _ | exact Kd.V_nil _ _ _ _ _ | exact Kd.Q_nil _ _ _ _ _ | exact Kd.S_nil _ _ _ _ _, by repeat (first | (with_reducible first | exact HB.out | apply below_alloc | apply pw_below_drewN | apply below_drew1 | refine below_set ?_ aD.out) | exact HB.out)⟩
end Go.Proofs.Ytcdjeimjbbknjaa.PAll
