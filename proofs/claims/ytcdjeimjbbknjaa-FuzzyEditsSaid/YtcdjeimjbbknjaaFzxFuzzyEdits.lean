/- The statement FuzzyEdits is proved, without conditions. -/
import Derived.Test.YtcdjeimjbbknjaaProg
import Derived.Below
import Derived.Deep.Draws
import Derived.Deep.AppendLies
import Derived.Maps.AppendAt
import Derived.OwnWalk
import Derived.Laws.BytesArg
import Derived.Laws.MakeOwn
import Derived.Laws.OwnMore
import Derived.Deep.OwnRows
import Derived.Tactics
import Derived.Lib.ConvBytes
import Derived.Laws.Slices
import Derived.WalkKit
import Derived.KernelRfl
import Derived.RowKit3
import Derived.Deep.LoopGhost
import Derived.Deep.QuietTactic
import Derived.BigQuiet
import Derived.WideLaws
import Derived.Deep.DeepCutAuto
import Derived.Deep.CutBlock
import Derived.Deep.RegionHeld3
import Derived.Laws.Rows
import Derived.Lib.AppendStr
import Derived.ArgAppend
import Derived.Laws.IdiomCopy
import Derived.OrdersHeld
import Derived.Laws.BitsLemmas
import Derived.RowKit
import Derived.Test.YtcdjeimjbbknjaaRows
import Derived.ProofKit
import Derived.OpenShut
import Derived.ShutString
import Derived.ChangeOld
import Derived.SizedLaws
import Derived.Test.YtcdjeimjbbknjaaFz3
namespace Go.Proofs.Ytcdjeimjbbknjaa.PAll
open Go.RowKit Go.Proofs.YtcdjeimjbbknjaaW.PrintWords Go.Proofs.YtcdjeimjbbknjaaW.PrintLast Go.Proofs.YtcdjeimjbbknjaaW.PrintMore
attribute [local go_sem] max2_int min2_int max_two min_two max_three min_three max_four min_four   -- for this text's walks alone
set_option linter.unusedVariables false
set_option linter.unusedSimpArgs false




end Go.Proofs.Ytcdjeimjbbknjaa.PAll
namespace Go.Proofs.Ytcdjeimjbbknjaa.PAll
open Go.RowKit Go.Proofs.YtcdjeimjbbknjaaW.PrintWords Go.Proofs.YtcdjeimjbbknjaaW.PrintLast Go.Proofs.YtcdjeimjbbknjaaW.PrintMore
attribute [local go_sem] max2_int min2_int max_two min_two max_three min_three max_four min_four   -- for this text's walks alone
set_option linter.unusedVariables false
set_option linter.unusedSimpArgs false



























/-! ### wordbooklaw16_FuzzyEdits: function 13 -/
mutual
def wordbooklaw16_FuzzyEdits.j0 : Nat → List Int → List Int → Int → Bool → Option (Bool)
  | 0, _, _, _, _ => none
  | k + 1, x11, x12, x13, x52 => if x52 = true then (some false) else (wordbooklaw16_FuzzyEdits.l0 k x11 x12 x13 (x13 == 0) 0)
def wordbooklaw16_FuzzyEdits.l0 : Nat → List Int → List Int → Int → Bool → Int → Option (Bool)
  | 0, _, _, _, _, _ => none
  | k + 1, x11, x12, x13, x16, x17 => if x17 < 3 then (wordbooklaw16_FuzzyEdits.l1 k x11 x12 x13 x16 x17 0) else (if x16 = true then ((wordbooklaw16_lives.f).bind fun t116 => (some t116)) else (some false))
def wordbooklaw16_FuzzyEdits.l1 : Nat → List Int → List Int → Int → Bool → Int → Int → Option (Bool)
  | 0, _, _, _, _, _, _ => none
  | k + 1, x11, x12, x13, x16, x17, x18 => if x18 ≤ (x11.length : Int) then (wordbooklaw16_FuzzyEdits.l2 k x11 x12 x13 x16 x17 x18 0) else (wordbooklaw16_FuzzyEdits.l0 k x11 x12 x13 x16 (wrap64 (x17 + 1)))
def wordbooklaw16_FuzzyEdits.l2 : Nat → List Int → List Int → Int → Bool → Int → Int → Int → Option (Bool)
  | 0, _, _, _, _, _, _, _ => none
  | k + 1, x11, x12, x13, x16, x17, x18, x19 => if x19 < 4 then (wordbooklaw16_FuzzyEdits.j4 k x11 x12 x13 x16 x17 x18 x19 (!x16)) else (wordbooklaw16_FuzzyEdits.j4 k x11 x12 x13 x16 x17 x18 x19 false)
def wordbooklaw16_FuzzyEdits.j4 : Nat → List Int → List Int → Int → Bool → Int → Int → Int → Bool → Option (Bool)
  | 0, _, _, _, _, _, _, _, _ => none
  | k + 1, x11, x12, x13, x16, x17, x18, x19, x70 => if x70 = true then ((wordbookref16_Edited.f x11 x17 x18 x19).bind fun t117 => ((fuzzy_Distance.f k t117 x12).bind fun t120 => (wordbooklaw16_FuzzyEdits.l2 k x11 x12 x13 (t120 == (wrap64 (x13 - 1))) x17 x18 (wrap64 (x19 + 1))))) else (wordbooklaw16_FuzzyEdits.l1 k x11 x12 x13 x16 x17 (wrap64 (x18 + 1)))
end
def wordbooklaw16_FuzzyEdits.f (k : Nat) (l0 : List Int) (l1 : List Int) (a2 : Int) (a3 : Int) (a4 : Int) : Option (Bool) := (wordbooklaw16_word.f k l0).bind fun t102 => ((wordbooklaw16_word.f k l1).bind fun t105 => ((fuzzy_Distance.f k t102 t105).bind fun t108 => ((wordbookref01_Around.f a2 3).bind fun t109 => ((wordbookref01_Around.f a4 4).bind fun t110 => ((wordbookref16_Edited.f t102 t109 a3 t110).bind fun t111 => ((fuzzy_Distance.f k t111 t105).bind fun t114 => (if t114 > (wrap64 (t108 + 1)) then (wordbooklaw16_FuzzyEdits.j0 k t102 t105 t108 true) else (if t114 < (wrap64 (t108 - 1)) then (wordbooklaw16_FuzzyEdits.j0 k t102 t105 t108 true) else ((fuzzy_Distance.f k t102 t111).bind fun t115 => (wordbooklaw16_FuzzyEdits.j0 k t102 t105 t108 (decide (t115 > 1))))))))))))
theorem wordbooklaw16_FuzzyEdits.mono_l : ∀ k, (∀ y0 y1 y2 y3, LeO (wordbooklaw16_FuzzyEdits.j0 k y0 y1 y2 y3) (wordbooklaw16_FuzzyEdits.j0 (k + 1) y0 y1 y2 y3)) ∧ (∀ y0 y1 y2 y3 y4, LeO (wordbooklaw16_FuzzyEdits.l0 k y0 y1 y2 y3 y4) (wordbooklaw16_FuzzyEdits.l0 (k + 1) y0 y1 y2 y3 y4)) ∧ (∀ y0 y1 y2 y3 y4 y5, LeO (wordbooklaw16_FuzzyEdits.l1 k y0 y1 y2 y3 y4 y5) (wordbooklaw16_FuzzyEdits.l1 (k + 1) y0 y1 y2 y3 y4 y5)) ∧ (∀ y0 y1 y2 y3 y4 y5 y6, LeO (wordbooklaw16_FuzzyEdits.l2 k y0 y1 y2 y3 y4 y5 y6) (wordbooklaw16_FuzzyEdits.l2 (k + 1) y0 y1 y2 y3 y4 y5 y6)) ∧ (∀ y0 y1 y2 y3 y4 y5 y6 y7, LeO (wordbooklaw16_FuzzyEdits.j4 k y0 y1 y2 y3 y4 y5 y6 y7) (wordbooklaw16_FuzzyEdits.j4 (k + 1) y0 y1 y2 y3 y4 y5 y6 y7))
  | 0 => ⟨fun _ _ _ _ r h => by simp [wordbooklaw16_FuzzyEdits.j0] at h, fun _ _ _ _ _ r h => by simp [wordbooklaw16_FuzzyEdits.l0] at h, fun _ _ _ _ _ _ r h => by simp [wordbooklaw16_FuzzyEdits.l1] at h, fun _ _ _ _ _ _ _ r h => by simp [wordbooklaw16_FuzzyEdits.l2] at h, fun _ _ _ _ _ _ _ _ r h => by simp [wordbooklaw16_FuzzyEdits.j4] at h⟩
  | k + 1 => by
    obtain ⟨ih0, ih1, ih2, ih3, ih4⟩ := wordbooklaw16_FuzzyEdits.mono_l k
    refine ⟨?_, ?_, ?_, ?_, ?_⟩
    · intro y0 y1 y2 y3
      unfold wordbooklaw16_FuzzyEdits.j0
      repeat' first
      | (with_reducible exact ih0 _ _ _ _)
      | (with_reducible exact ih1 _ _ _ _ _)
      | (with_reducible exact ih2 _ _ _ _ _ _)
      | (with_reducible exact ih3 _ _ _ _ _ _ _)
      | (with_reducible exact ih4 _ _ _ _ _ _ _ _)
      | (with_reducible exact fuzzy_Distance.mono _ _ _)
      | (with_reducible exact wordbooklaw16_word.mono _ _)
      | (with_reducible exact LeO.refl _)
      | (with_reducible exact LeO.none _)
      | (with_reducible refine LeO.ite ?_ ?_)
      | (with_reducible refine LeO.bind ?_ (fun _ => ?_))
      | exact ih0 _ _ _ _
      | exact ih1 _ _ _ _ _
      | exact ih2 _ _ _ _ _ _
      | exact ih3 _ _ _ _ _ _ _
      | exact ih4 _ _ _ _ _ _ _ _
      | exact fuzzy_Distance.mono _ _ _
      | exact wordbooklaw16_word.mono _ _
      | exact LeO.none _
      | refine LeO.ite ?_ ?_
      | refine LeO.bind ?_ (fun _ => ?_)
    · intro y0 y1 y2 y3 y4
      unfold wordbooklaw16_FuzzyEdits.l0
      repeat' first
      | (with_reducible exact ih0 _ _ _ _)
      | (with_reducible exact ih1 _ _ _ _ _)
      | (with_reducible exact ih2 _ _ _ _ _ _)
      | (with_reducible exact ih3 _ _ _ _ _ _ _)
      | (with_reducible exact ih4 _ _ _ _ _ _ _ _)
      | (with_reducible exact fuzzy_Distance.mono _ _ _)
      | (with_reducible exact wordbooklaw16_word.mono _ _)
      | (with_reducible exact LeO.refl _)
      | (with_reducible exact LeO.none _)
      | (with_reducible refine LeO.ite ?_ ?_)
      | (with_reducible refine LeO.bind ?_ (fun _ => ?_))
      | exact ih0 _ _ _ _
      | exact ih1 _ _ _ _ _
      | exact ih2 _ _ _ _ _ _
      | exact ih3 _ _ _ _ _ _ _
      | exact ih4 _ _ _ _ _ _ _ _
      | exact fuzzy_Distance.mono _ _ _
      | exact wordbooklaw16_word.mono _ _
      | exact LeO.none _
      | refine LeO.ite ?_ ?_
      | refine LeO.bind ?_ (fun _ => ?_)
    · intro y0 y1 y2 y3 y4 y5
      unfold wordbooklaw16_FuzzyEdits.l1
      repeat' first
      | (with_reducible exact ih0 _ _ _ _)
      | (with_reducible exact ih1 _ _ _ _ _)
      | (with_reducible exact ih2 _ _ _ _ _ _)
      | (with_reducible exact ih3 _ _ _ _ _ _ _)
      | (with_reducible exact ih4 _ _ _ _ _ _ _ _)
      | (with_reducible exact fuzzy_Distance.mono _ _ _)
      | (with_reducible exact wordbooklaw16_word.mono _ _)
      | (with_reducible exact LeO.refl _)
      | (with_reducible exact LeO.none _)
      | (with_reducible refine LeO.ite ?_ ?_)
      | (with_reducible refine LeO.bind ?_ (fun _ => ?_))
      | exact ih0 _ _ _ _
      | exact ih1 _ _ _ _ _
      | exact ih2 _ _ _ _ _ _
      | exact ih3 _ _ _ _ _ _ _
      | exact ih4 _ _ _ _ _ _ _ _
      | exact fuzzy_Distance.mono _ _ _
      | exact wordbooklaw16_word.mono _ _
      | exact LeO.none _
      | refine LeO.ite ?_ ?_
      | refine LeO.bind ?_ (fun _ => ?_)
    · intro y0 y1 y2 y3 y4 y5 y6
      unfold wordbooklaw16_FuzzyEdits.l2
      repeat' first
      | (with_reducible exact ih0 _ _ _ _)
      | (with_reducible exact ih1 _ _ _ _ _)
      | (with_reducible exact ih2 _ _ _ _ _ _)
      | (with_reducible exact ih3 _ _ _ _ _ _ _)
      | (with_reducible exact ih4 _ _ _ _ _ _ _ _)
      | (with_reducible exact fuzzy_Distance.mono _ _ _)
      | (with_reducible exact wordbooklaw16_word.mono _ _)
      | (with_reducible exact LeO.refl _)
      | (with_reducible exact LeO.none _)
      | (with_reducible refine LeO.ite ?_ ?_)
      | (with_reducible refine LeO.bind ?_ (fun _ => ?_))
      | exact ih0 _ _ _ _
      | exact ih1 _ _ _ _ _
      | exact ih2 _ _ _ _ _ _
      | exact ih3 _ _ _ _ _ _ _
      | exact ih4 _ _ _ _ _ _ _ _
      | exact fuzzy_Distance.mono _ _ _
      | exact wordbooklaw16_word.mono _ _
      | exact LeO.none _
      | refine LeO.ite ?_ ?_
      | refine LeO.bind ?_ (fun _ => ?_)
    · intro y0 y1 y2 y3 y4 y5 y6 y7
      unfold wordbooklaw16_FuzzyEdits.j4
      repeat' first
      | (with_reducible exact ih0 _ _ _ _)
      | (with_reducible exact ih1 _ _ _ _ _)
      | (with_reducible exact ih2 _ _ _ _ _ _)
      | (with_reducible exact ih3 _ _ _ _ _ _ _)
      | (with_reducible exact ih4 _ _ _ _ _ _ _ _)
      | (with_reducible exact fuzzy_Distance.mono _ _ _)
      | (with_reducible exact wordbooklaw16_word.mono _ _)
      | (with_reducible exact LeO.refl _)
      | (with_reducible exact LeO.none _)
      | (with_reducible refine LeO.ite ?_ ?_)
      | (with_reducible refine LeO.bind ?_ (fun _ => ?_))
      | exact ih0 _ _ _ _
      | exact ih1 _ _ _ _ _
      | exact ih2 _ _ _ _ _ _
      | exact ih3 _ _ _ _ _ _ _
      | exact ih4 _ _ _ _ _ _ _ _
      | exact fuzzy_Distance.mono _ _ _
      | exact wordbooklaw16_word.mono _ _
      | exact LeO.none _
      | refine LeO.ite ?_ ?_
      | refine LeO.bind ?_ (fun _ => ?_)
theorem wordbooklaw16_FuzzyEdits.mono : ∀ a0 a1 a2 a3 a4 k, LeO (wordbooklaw16_FuzzyEdits.f k a0 a1 a2 a3 a4) (wordbooklaw16_FuzzyEdits.f (k + 1) a0 a1 a2 a3 a4) := by
  intro a0 a1 a2 a3 a4 k
  obtain ⟨ih0, ih1, ih2, ih3, ih4⟩ := wordbooklaw16_FuzzyEdits.mono_l k
  unfold wordbooklaw16_FuzzyEdits.f
  repeat' first
      | (with_reducible exact ih0 _ _ _ _)
      | (with_reducible exact ih1 _ _ _ _ _)
      | (with_reducible exact ih2 _ _ _ _ _ _)
      | (with_reducible exact ih3 _ _ _ _ _ _ _)
      | (with_reducible exact ih4 _ _ _ _ _ _ _ _)
      | (with_reducible exact fuzzy_Distance.mono _ _ _)
      | (with_reducible exact wordbooklaw16_word.mono _ _)
      | (with_reducible exact LeO.refl _)
      | (with_reducible exact LeO.none _)
      | (with_reducible refine LeO.ite ?_ ?_)
      | (with_reducible refine LeO.bind ?_ (fun _ => ?_))
      | exact ih0 _ _ _ _
      | exact ih1 _ _ _ _ _
      | exact ih2 _ _ _ _ _ _
      | exact ih3 _ _ _ _ _ _ _
      | exact ih4 _ _ _ _ _ _ _ _
      | exact fuzzy_Distance.mono _ _ _
      | exact wordbooklaw16_word.mono _ _
      | exact LeO.none _
      | refine LeO.ite ?_ ?_
      | refine LeO.bind ?_ (fun _ => ?_)
set_option maxHeartbeats 8000000 in
set_option maxRecDepth 100000 in
theorem wordbooklaw16_FuzzyEdits.calls (k : Nat) (A0 : Option Addr) (c0 : Nat) (l0 : List Int) (A1 : Option Addr) (c1 : Nat) (l1 : List Int) (a2 : Int) (a3 : Int) (a4 : Int) (r : Bool) (w : World) (hr0 : Kd.C (Kd.int .i64) w A0 l0.length l0) (hc0 : l0.length ≤ c0) (hr1 : Kd.C (Kd.int .i64) w A1 l1.length l1) (hc1 : l1.length ≤ c1) (h : wordbooklaw16_FuzzyEdits.f k l0 l1 a2 a3 a4 = some r) :
    Calls Try.prog 13 #[.slice A0 l0.length c0, .slice A1 l1.length c1, .int .i64 a2, .int .i64 a3, .int .i64 a4] w fun e w' => e = .returned (.bool r) ∧ Below w.heap.size w w' := by
  have HR0 := Aside0.mk hr0
  have HC0 := Aside0.mk hc0
  clear hr0 hc0
  have HR1 := Aside0.mk hr1
  have HC1 := Aside0.mk hc1
  clear hr1 hc1
  have HB := Aside0.mk (Below.refl w.heap.size w)
  have H : ((wordbooklaw16_word.f k l0).bind fun t102 => ((wordbooklaw16_word.f k l1).bind fun t105 => ((fuzzy_Distance.f k t102 t105).bind fun t108 => ((wordbookref01_Around.f a2 3).bind fun t109 => ((wordbookref01_Around.f a4 4).bind fun t110 => ((wordbookref16_Edited.f t102 t109 a3 t110).bind fun t111 => ((fuzzy_Distance.f k t111 t105).bind fun t114 => (if t114 > (wrap64 (t108 + 1)) then (wordbooklaw16_FuzzyEdits.j0 k t102 t105 t108 true) else (if t114 < (wrap64 (t108 - 1)) then (wordbooklaw16_FuzzyEdits.j0 k t102 t105 t108 true) else ((fuzzy_Distance.f k t102 t111).bind fun t115 => (wordbooklaw16_FuzzyEdits.j0 k t102 t105 t108 (decide (t115 > 1))))))))))))) = some r := h
  clear h
  replace H := Option.bind_eq_some_iff.mp H
  obtain ⟨t102, A60, H⟩ := H
  replace H : ((wordbooklaw16_word.f k l1).bind fun t105 => ((fuzzy_Distance.f k t102 t105).bind fun t108 => ((wordbookref01_Around.f a2 3).bind fun t109 => ((wordbookref01_Around.f a4 4).bind fun t110 => ((wordbookref16_Edited.f t102 t109 a3 t110).bind fun t111 => ((fuzzy_Distance.f k t111 t105).bind fun t114 => (if t114 > (wrap64 (t108 + 1)) then (wordbooklaw16_FuzzyEdits.j0 k t102 t105 t108 true) else (if t114 < (wrap64 (t108 - 1)) then (wordbooklaw16_FuzzyEdits.j0 k t102 t105 t108 true) else ((fuzzy_Distance.f k t102 t111).bind fun t115 => (wordbooklaw16_FuzzyEdits.j0 k t102 t105 t108 (decide (t115 > 1)))))))))))) = some r := H
  have A6 := Aside0.mk A60
  clear A60
  replace H := Option.bind_eq_some_iff.mp H
  obtain ⟨t105, A70, H⟩ := H
  replace H : ((fuzzy_Distance.f k t102 t105).bind fun t108 => ((wordbookref01_Around.f a2 3).bind fun t109 => ((wordbookref01_Around.f a4 4).bind fun t110 => ((wordbookref16_Edited.f t102 t109 a3 t110).bind fun t111 => ((fuzzy_Distance.f k t111 t105).bind fun t114 => (if t114 > (wrap64 (t108 + 1)) then (wordbooklaw16_FuzzyEdits.j0 k t102 t105 t108 true) else (if t114 < (wrap64 (t108 - 1)) then (wordbooklaw16_FuzzyEdits.j0 k t102 t105 t108 true) else ((fuzzy_Distance.f k t102 t111).bind fun t115 => (wordbooklaw16_FuzzyEdits.j0 k t102 t105 t108 (decide (t115 > 1))))))))))) = some r := H
  have A7 := Aside0.mk A70
  clear A70
  replace H := Option.bind_eq_some_iff.mp H
  obtain ⟨t108, A80, H⟩ := H
  replace H : ((wordbookref01_Around.f a2 3).bind fun t109 => ((wordbookref01_Around.f a4 4).bind fun t110 => ((wordbookref16_Edited.f t102 t109 a3 t110).bind fun t111 => ((fuzzy_Distance.f k t111 t105).bind fun t114 => (if t114 > (wrap64 (t108 + 1)) then (wordbooklaw16_FuzzyEdits.j0 k t102 t105 t108 true) else (if t114 < (wrap64 (t108 - 1)) then (wordbooklaw16_FuzzyEdits.j0 k t102 t105 t108 true) else ((fuzzy_Distance.f k t102 t111).bind fun t115 => (wordbooklaw16_FuzzyEdits.j0 k t102 t105 t108 (decide (t115 > 1)))))))))) = some r := H
  have A8 := Aside0.mk A80
  clear A80
  replace H := Option.bind_eq_some_iff.mp H
  obtain ⟨t109, A90, H⟩ := H
  replace H : ((wordbookref01_Around.f a4 4).bind fun t110 => ((wordbookref16_Edited.f t102 t109 a3 t110).bind fun t111 => ((fuzzy_Distance.f k t111 t105).bind fun t114 => (if t114 > (wrap64 (t108 + 1)) then (wordbooklaw16_FuzzyEdits.j0 k t102 t105 t108 true) else (if t114 < (wrap64 (t108 - 1)) then (wordbooklaw16_FuzzyEdits.j0 k t102 t105 t108 true) else ((fuzzy_Distance.f k t102 t111).bind fun t115 => (wordbooklaw16_FuzzyEdits.j0 k t102 t105 t108 (decide (t115 > 1))))))))) = some r := H
  have A9 := Aside0.mk A90
  clear A90
  replace H := Option.bind_eq_some_iff.mp H
  obtain ⟨t110, A100, H⟩ := H
  replace H : ((wordbookref16_Edited.f t102 t109 a3 t110).bind fun t111 => ((fuzzy_Distance.f k t111 t105).bind fun t114 => (if t114 > (wrap64 (t108 + 1)) then (wordbooklaw16_FuzzyEdits.j0 k t102 t105 t108 true) else (if t114 < (wrap64 (t108 - 1)) then (wordbooklaw16_FuzzyEdits.j0 k t102 t105 t108 true) else ((fuzzy_Distance.f k t102 t111).bind fun t115 => (wordbooklaw16_FuzzyEdits.j0 k t102 t105 t108 (decide (t115 > 1)))))))) = some r := H
  have A10 := Aside0.mk A100
  clear A100
  replace H := Option.bind_eq_some_iff.mp H
  obtain ⟨t111, A110, H⟩ := H
  replace H : ((fuzzy_Distance.f k t111 t105).bind fun t114 => (if t114 > (wrap64 (t108 + 1)) then (wordbooklaw16_FuzzyEdits.j0 k t102 t105 t108 true) else (if t114 < (wrap64 (t108 - 1)) then (wordbooklaw16_FuzzyEdits.j0 k t102 t105 t108 true) else ((fuzzy_Distance.f k t102 t111).bind fun t115 => (wordbooklaw16_FuzzyEdits.j0 k t102 t105 t108 (decide (t115 > 1))))))) = some r := H
  have A11 := Aside0.mk A110
  clear A110
  replace H := Option.bind_eq_some_iff.mp H
  obtain ⟨t114, A120, H⟩ := H
  replace H : (if t114 > (wrap64 (t108 + 1)) then (wordbooklaw16_FuzzyEdits.j0 k t102 t105 t108 true) else (if t114 < (wrap64 (t108 - 1)) then (wordbooklaw16_FuzzyEdits.j0 k t102 t105 t108 true) else ((fuzzy_Distance.f k t102 t111).bind fun t115 => (wordbooklaw16_FuzzyEdits.j0 k t102 t105 t108 (decide (t115 > 1)))))) = some r := H
  have A12 := Aside0.mk A120
  clear A120
  have HC13 := Aside0.mk H
  clear H
  go_enter Try.func13, Try.ntmps13
  go_upto_region 6 with (first | ((with_reducible refine gate_callee (f := 48) rfl ?_); refine goesL_ (some 21) rfl rfl Try.func48 (by kernel_rfl) rfl #[.slice A0 l0.length c0] rfl (by (try simp only [List.map_toArray, List.map_cons, List.map_nil]); first | done | rfl | (simp only [List.length_drop, List.length_take]; rfl)) ?_; (with_reducible refine (wordbooklaw16_word.calls k _ _ l0 t102 _ ?side1 ?side2 A6.out).mono ?_); (case side1 => repeat (first | exact HR0.out | (with_reducible refine Kd.C_alloc ?_ _) | (with_reducible refine Kd.C_drewN ?_ _) | (with_reducible refine Kd.C_drew ?_))); (case side2 => exact HC0.out); rintro e w14 ⟨v103, rfl, ho0, hb⟩; refine ⟨_, rfl, ?_⟩; have n0_ := Aside0.mk (Kd.R_lower ho0 (below_size (by repeat (first | (with_reducible first | exact HB.out | apply below_alloc | apply pw_below_drewN | apply below_drew1) | exact HB.out)))); have n1_ := Aside0.mk (below_step (by repeat (first | (with_reducible first | exact HB.out | apply below_alloc | apply pw_below_drewN | apply below_drew1) | exact HB.out)) hb); clear HB; have HO104 := n0_; have HB := n1_; clear n0_ n1_; (try clear hb); (try clear hb2); (try clear hk); (try clear hi); (try clear ho0)) | ((with_reducible refine gate_callee (f := 48) rfl ?_); refine goesL_ (some 23) rfl rfl Try.func48 (by kernel_rfl) rfl #[.slice A1 l1.length c1] rfl (by (try simp only [List.map_toArray, List.map_cons, List.map_nil]); first | done | rfl | (simp only [List.length_drop, List.length_take]; rfl)) ?_; (with_reducible refine (wordbooklaw16_word.calls k _ _ l1 t105 _ ?side1 ?side2 A7.out).mono ?_); (case side1 => repeat (first | exact (Kd.C_below HR1.out HB.out) | (with_reducible refine Kd.C_alloc ?_ _) | (with_reducible refine Kd.C_drewN ?_ _) | (with_reducible refine Kd.C_drew ?_))); (case side2 => exact HC1.out); rintro e w15 ⟨v106, rfl, ho0, hb⟩; refine ⟨_, rfl, ?_⟩; have n0_ := Aside0.mk (Kd.R_elder' (by (with_reducible repeat (first | apply Kd.R_alloc | apply Kd.R_drewN | apply Kd.R_drew)); exact HO104.out) (Kd.R_base ho0) hb); have n1_ := Aside0.mk (Kd.R_lower (Kd.R_new' ho0 (Kd.R_lt (by (with_reducible repeat (first | apply Kd.R_alloc | apply Kd.R_drewN | apply Kd.R_drew)); exact HO104.out))) (below_size (by repeat (first | (with_reducible first | exact HB.out | apply below_alloc | apply pw_below_drewN | apply below_drew1) | exact HB.out)))); have n2_ := Aside0.mk (below_step (by repeat (first | (with_reducible first | exact HB.out | apply below_alloc | apply pw_below_drewN | apply below_drew1) | exact HB.out)) hb); clear HO104; clear HB; have HO104 := n0_; have HO107 := n1_; have HB := n2_; clear n0_ n1_ n2_; (try clear hb); (try clear hb2); (try clear hk); (try clear hi); (try clear ho0); obtain ⟨Ao16, co16, eo16⟩ := Kd.R_slice HO104.out; subst eo16; obtain ⟨Ao17, co17, eo17⟩ := Kd.R_slice HO107.out; subst eo17) | ((with_reducible refine gate_callee (f := 49) rfl ?_); refine goesL_ (some 26) rfl rfl Try.func49 (by kernel_rfl) rfl #[.slice Ao16 t102.length co16, .slice Ao17 t105.length co17] rfl (by (try simp only [List.map_toArray, List.map_cons, List.map_nil]); first | done | rfl | (simp only [List.length_drop, List.length_take]; rfl)) ?_; (with_reducible refine (fuzzy_Distance.calls k _ _ t102 _ _ t105 t108 _ ?side1 ?side2 ?side3 ?side4 A8.out).mono ?_); (case side1 => repeat (first | exact (Kd.R_reads' HO104.out).2.2 | (with_reducible refine Kd.C_alloc ?_ _) | (with_reducible refine Kd.C_drewN ?_ _) | (with_reducible refine Kd.C_drew ?_))); (case side2 => exact (Kd.R_reads' HO104.out).2.1); (case side3 => repeat (first | exact (Kd.R_reads' HO107.out).2.2 | (with_reducible refine Kd.C_alloc ?_ _) | (with_reducible refine Kd.C_drewN ?_ _) | (with_reducible refine Kd.C_drew ?_))); (case side4 => exact (Kd.R_reads' HO107.out).2.1); rintro e w18 ⟨rfl, hb⟩; refine ⟨_, rfl, ?_⟩; have n0_ := Aside0.mk (Kd.R_below (by (with_reducible repeat (first | apply Kd.R_alloc | apply Kd.R_drewN | apply Kd.R_drew)); exact HO104.out) hb); have n1_ := Aside0.mk (Kd.R_below (by (with_reducible repeat (first | apply Kd.R_alloc | apply Kd.R_drewN | apply Kd.R_drew)); exact HO107.out) hb); have n2_ := Aside0.mk (below_step (by repeat (first | (with_reducible first | exact HB.out | apply below_alloc | apply pw_below_drewN | apply below_drew1) | exact HB.out)) hb); clear HO104; clear HO107; clear HB; have HO104 := n0_; have HO107 := n1_; have HB := n2_; clear n0_ n1_ n2_; (try clear hb); (try clear hb2); (try clear hk); (try clear hi)) | ((with_reducible refine gate_callee (f := 18) rfl ?_); refine goesL_ (some 29) rfl rfl Try.func18 (by kernel_rfl) rfl #[.int .i64 a2, .int .i64 3] rfl (by (try simp only [List.map_toArray, List.map_cons, List.map_nil]); first | done | rfl | (simp only [List.length_drop, List.length_take]; rfl)) ?_; (with_reducible refine (wordbookref01_Around.calls a2 3 t109 _ A9.out).mono ?_); rintro e w' ⟨rfl, ⟨nd, rfl⟩⟩; refine ⟨_, rfl, ?_⟩) | ((with_reducible refine gate_callee (f := 18) rfl ?_); refine goesL_ (some 32) rfl rfl Try.func18 (by kernel_rfl) rfl #[.int .i64 a4, .int .i64 4] rfl (by (try simp only [List.map_toArray, List.map_cons, List.map_nil]); first | done | rfl | (simp only [List.length_drop, List.length_take]; rfl)) ?_; (with_reducible refine (wordbookref01_Around.calls a4 4 t110 _ A10.out).mono ?_); rintro e w' ⟨rfl, ⟨nd, rfl⟩⟩; refine ⟨_, rfl, ?_⟩) | ((with_reducible refine gate_callee (f := 59) rfl ?_); refine goesL_ (some 33) rfl rfl Try.func59 (by kernel_rfl) rfl #[.slice Ao16 t102.length co16, .int .i64 t109, .int .i64 a3, .int .i64 t110] rfl (by (try simp only [List.map_toArray, List.map_cons, List.map_nil]); first | done | rfl | (simp only [List.length_drop, List.length_take]; rfl)) ?_; (with_reducible refine (wordbookref16_Edited.calls _ _ t102 t109 a3 t110 t111 _ ?side1 ?side2 A11.out).mono ?_); (case side1 => repeat (first | exact (Kd.R_reads' HO104.out).2.2 | (with_reducible refine Kd.C_alloc ?_ _) | (with_reducible refine Kd.C_drewN ?_ _) | (with_reducible refine Kd.C_drew ?_))); (case side2 => exact (Kd.R_reads' HO104.out).2.1); rintro e w19 ⟨v112, rfl, ho0, hb⟩; refine ⟨_, rfl, ?_⟩; have n0_ := Aside0.mk (Kd.R_elder' (by (with_reducible repeat (first | apply Kd.R_alloc | apply Kd.R_drewN | apply Kd.R_drew)); exact HO104.out) (Kd.R_base ho0) hb); have n1_ := Aside0.mk (Kd.R_elder' (by (with_reducible repeat (first | apply Kd.R_alloc | apply Kd.R_drewN | apply Kd.R_drew)); exact HO107.out) (Kd.R_base ho0) hb); have n2_ := Aside0.mk (Kd.R_lower (Kd.R_new' (Kd.R_new' ho0 (Kd.R_lt (by (with_reducible repeat (first | apply Kd.R_alloc | apply Kd.R_drewN | apply Kd.R_drew)); exact HO104.out))) (Kd.R_lt (by (with_reducible repeat (first | apply Kd.R_alloc | apply Kd.R_drewN | apply Kd.R_drew)); exact HO107.out))) (below_size (by repeat (first | (with_reducible first | exact HB.out | apply below_alloc | apply pw_below_drewN | apply below_drew1) | exact HB.out)))); have n3_ := Aside0.mk (below_step (by repeat (first | (with_reducible first | exact HB.out | apply below_alloc | apply pw_below_drewN | apply below_drew1) | exact HB.out)) hb); clear HO104; clear HO107; clear HB; have HO104 := n0_; have HO107 := n1_; have HO113 := n2_; have HB := n3_; clear n0_ n1_ n2_ n3_; (try clear hb); (try clear hb2); (try clear hk); (try clear hi); (try clear ho0); obtain ⟨Ao20, co20, eo20⟩ := Kd.R_slice HO113.out; subst eo20) | ((with_reducible refine gate_callee (f := 49) rfl ?_); refine goesL_ (some 36) rfl rfl Try.func49 (by kernel_rfl) rfl #[.slice Ao20 t111.length co20, .slice Ao17 t105.length co17] rfl (by (try simp only [List.map_toArray, List.map_cons, List.map_nil]); first | done | rfl | (simp only [List.length_drop, List.length_take]; rfl)) ?_; (with_reducible refine (fuzzy_Distance.calls k _ _ t111 _ _ t105 t114 _ ?side1 ?side2 ?side3 ?side4 A12.out).mono ?_); (case side1 => repeat (first | exact (Kd.R_reads' HO113.out).2.2 | (with_reducible refine Kd.C_alloc ?_ _) | (with_reducible refine Kd.C_drewN ?_ _) | (with_reducible refine Kd.C_drew ?_))); (case side2 => exact (Kd.R_reads' HO113.out).2.1); (case side3 => repeat (first | exact (Kd.R_reads' HO107.out).2.2 | (with_reducible refine Kd.C_alloc ?_ _) | (with_reducible refine Kd.C_drewN ?_ _) | (with_reducible refine Kd.C_drew ?_))); (case side4 => exact (Kd.R_reads' HO107.out).2.1); rintro e w21 ⟨rfl, hb⟩; refine ⟨_, rfl, ?_⟩; have n0_ := Aside0.mk (Kd.R_below (by (with_reducible repeat (first | apply Kd.R_alloc | apply Kd.R_drewN | apply Kd.R_drew)); exact HO104.out) hb); have n1_ := Aside0.mk (Kd.R_below (by (with_reducible repeat (first | apply Kd.R_alloc | apply Kd.R_drewN | apply Kd.R_drew)); exact HO107.out) hb); have n2_ := Aside0.mk (Kd.R_below (by (with_reducible repeat (first | apply Kd.R_alloc | apply Kd.R_drewN | apply Kd.R_drew)); exact HO113.out) hb); have n3_ := Aside0.mk (below_step (by repeat (first | (with_reducible first | exact HB.out | apply below_alloc | apply pw_below_drewN | apply below_drew1) | exact HB.out)) hb); clear HO104; clear HO107; clear HO113; clear HB; have HO104 := n0_; have HO107 := n1_; have HO113 := n2_; have HB := n3_; clear n0_ n1_ n2_ n3_; (try clear hb); (try clear hb2); (try clear hk); (try clear hi)))
  (try simp only [Act.put, List.setIfInBounds_toArray, List.set_cons_zero, List.set_cons_succ])
  go_cut [52] (fun v52 wc => ∃ (kq : Nat) (x52_12 : Bool), v52 = .bool x52_12 ∧ Aside0 (wordbooklaw16_FuzzyEdits.j0 kq t102 t105 t108 x52_12 = some r) ∧ Aside0 (kq ≤ k) ∧ Aside0 (Kd.R (Kd.int .i64) 3 wc w.heap.size (fun k_ => some k_ ≠ ((.slice Ao17 t105.length co17) : Value).ownBlock) (.slice Ao16 t102.length co16) t102) ∧ Aside0 (Kd.R (Kd.int .i64) 3 wc w.heap.size (fun k_ => some k_ ≠ ((.slice Ao16 t102.length co16) : Value).ownBlock) (.slice Ao17 t105.length co17) t105) ∧ Aside0 (Below w.heap.size w wc))
  case first =>
    have H := HC13.out
    clear HC13
    by_cases c22 : t114 > (wrap64 (t108 + 1))
    · rw [if_pos c22] at H
      have c22b0 : decide ((wrap64 (t108 + 1)) < t114) = true := decide_eq_true c22
      clear c22
      (first | rw [c22b0] | (simp only [i64_w, i32_w]; rw [c22b0]) | skip)
      have H' := Aside0.mk H
      clear H
      go_wp2
      go_meet
      case rel => exact ⟨_, (true), (by first | rfl | (simp; done) | (simp [*]; done)), H', ⟨by first | omega | exact Nat.le_refl _⟩, ⟨by (with_reducible repeat (first | apply Kd.R_alloc | apply Kd.R_drewN | apply Kd.R_drew)); exact Kd.R_mono HO104.out (fun _ hk => hk.1.2)⟩, ⟨by (with_reducible repeat (first | apply Kd.R_alloc | apply Kd.R_drewN | apply Kd.R_drew)); exact Kd.R_mono HO107.out (fun _ hk => hk.1.2)⟩, ⟨by repeat (first | (with_reducible first | exact HB.out | apply below_alloc | apply pw_below_drewN | apply below_drew1) | exact HB.out)⟩⟩
    · rw [if_neg c22] at H
      have c22b0 : decide ((wrap64 (t108 + 1)) < t114) = false := decide_eq_false c22
      clear c22
      (first | rw [c22b0] | (simp only [i64_w, i32_w]; rw [c22b0]) | skip)
      by_cases c23 : t114 < (wrap64 (t108 - 1))
      · rw [if_pos c23] at H
        have c23b0 : decide (t114 < (wrap64 (t108 - 1))) = true := decide_eq_true c23
        clear c23
        have H' := Aside0.mk H
        clear H
        go_wp2
        go_meet
        case rel => exact ⟨_, (true), (by first | rfl | (simp; done) | (simp [*]; done)), H', ⟨by first | omega | exact Nat.le_refl _⟩, ⟨by (with_reducible repeat (first | apply Kd.R_alloc | apply Kd.R_drewN | apply Kd.R_drew)); exact Kd.R_mono HO104.out (fun _ hk => hk.1.2)⟩, ⟨by (with_reducible repeat (first | apply Kd.R_alloc | apply Kd.R_drewN | apply Kd.R_drew)); exact Kd.R_mono HO107.out (fun _ hk => hk.1.2)⟩, ⟨by repeat (first | (with_reducible first | exact HB.out | apply below_alloc | apply pw_below_drewN | apply below_drew1) | exact HB.out)⟩⟩
      · rw [if_neg c23] at H
        have c23b0 : decide (t114 < (wrap64 (t108 - 1))) = false := decide_eq_false c23
        clear c23
        replace H := Option.bind_eq_some_iff.mp H
        obtain ⟨t115, A240, H⟩ := H
        replace H : (wordbooklaw16_FuzzyEdits.j0 k t102 t105 t108 (decide (t115 > 1))) = some r := H
        have A24 := Aside0.mk A240
        clear A240
        have H' := Aside0.mk H
        clear H
        go_wp2_with (first | (go_at_call 49; (with_reducible refine (fuzzy_Distance.calls k _ _ t102 _ _ t111 t115 _ ?side1 ?side2 ?side3 ?side4 A24.out).mono ?_); (case side1 => repeat (first | exact (Kd.R_reads' HO104.out).2.2 | (with_reducible refine Kd.C_alloc ?_ _) | (with_reducible refine Kd.C_drewN ?_ _) | (with_reducible refine Kd.C_drew ?_))); (case side2 => exact (Kd.R_reads' HO104.out).2.1); (case side3 => repeat (first | exact (Kd.R_reads' HO113.out).2.2 | (with_reducible refine Kd.C_alloc ?_ _) | (with_reducible refine Kd.C_drewN ?_ _) | (with_reducible refine Kd.C_drew ?_))); (case side4 => exact (Kd.R_reads' HO113.out).2.1); rintro e w25 ⟨rfl, hb⟩; have n0_ := Aside0.mk (Kd.R_below (by (with_reducible repeat (first | apply Kd.R_alloc | apply Kd.R_drewN | apply Kd.R_drew)); exact HO104.out) hb); have n1_ := Aside0.mk (Kd.R_below (by (with_reducible repeat (first | apply Kd.R_alloc | apply Kd.R_drewN | apply Kd.R_drew)); exact HO107.out) hb); have n2_ := Aside0.mk (Kd.R_below (by (with_reducible repeat (first | apply Kd.R_alloc | apply Kd.R_drewN | apply Kd.R_drew)); exact HO113.out) hb); have n3_ := Aside0.mk (below_step (by repeat (first | (with_reducible first | exact HB.out | apply below_alloc | apply pw_below_drewN | apply below_drew1) | exact HB.out)) hb); clear HO104; clear HO107; clear HO113; clear HB; have HO104 := n0_; have HO107 := n1_; have HO113 := n2_; have HB := n3_; clear n0_ n1_ n2_ n3_; (try clear hb); (try clear hb2); (try clear hk); (try clear hi)))
        go_meet
        case rel => exact ⟨_, (decide (t115 > 1)), (by first | rfl | (simp; done) | (simp [*]; done)), H', ⟨by first | omega | exact Nat.le_refl _⟩, ⟨by (with_reducible repeat (first | apply Kd.R_alloc | apply Kd.R_drewN | apply Kd.R_drew)); exact Kd.R_mono HO104.out (fun _ hk => hk.1.2)⟩, ⟨by (with_reducible repeat (first | apply Kd.R_alloc | apply Kd.R_drewN | apply Kd.R_drew)); exact Kd.R_mono HO107.out (fun _ hk => hk.1.2)⟩, ⟨by repeat (first | (with_reducible first | exact HB.out | apply below_alloc | apply pw_below_drewN | apply below_drew1) | exact HB.out)⟩⟩
  case rest =>
    clear HC13
    try clear c1
    try clear c2
    try clear p2
    try clear c4
    try clear c5
    try clear p6
    try clear c13
    try clear c18
    try clear c22
    try clear c22b0
    try clear c23
    try clear c23b0
    obtain ⟨kq, x52_12, rfl, HA, HJ12, HO_11, HO_12, HB⟩ := hcut
    cases kq with
    | zero => exact absurd HA.out (by simp [wordbooklaw16_FuzzyEdits.j0])
    | succ kj12 =>
      have H := HA.out
      clear HA
      simp only [wordbooklaw16_FuzzyEdits.j0] at H
      by_cases c26 : x52_12 = true
      · subst c26
        have H1 : (some false) = some r := by rw [if_pos rfl] at H; exact H
        clear H
        have H := H1
        clear H1
        obtain rfl := Option.some.inj H
        go_wp2
        go_ret
        exact ⟨by first | rfl | (simp [errW_none, errW_some] <;> rfl) | (simp [*, errW_none, errW_some] <;> rfl), by repeat (first | (with_reducible first | exact HB.out | apply below_alloc | apply pw_below_drewN | apply below_drew1) | exact HB.out)⟩
      · replace c26 := Bool.eq_false_iff.mpr c26
        subst c26
        have H1 : (wordbooklaw16_FuzzyEdits.l0 kj12 t102 t105 t108 (t108 == 0) 0) = some r := by rw [if_neg (show ¬ (false = true) by decide)] at H; exact H
        clear H
        have H := H1
        clear H1
        have H' := Aside0.mk H
        clear H
        go_wp2
        go_loopg [16, 17] kj12 (fun kq v16 v17 w' => ∃ (x16_2 : Bool) (x17_2 : Int), v16 = .bool x16_2 ∧ v17 = .int .i64 x17_2 ∧ Aside0 (wordbooklaw16_FuzzyEdits.l0 kq t102 t105 t108 x16_2 x17_2 = some r) ∧ Aside0 (kq ≤ kj12) ∧ Aside0 (Kd.R (Kd.int .i64) 3 w' w.heap.size (fun k_ => some k_ ≠ ((.slice Ao17 t105.length co17) : Value).ownBlock) (.slice Ao16 t102.length co16) t102) ∧ Aside0 (Kd.R (Kd.int .i64) 3 w' w.heap.size (fun k_ => some k_ ≠ ((.slice Ao16 t102.length co16) : Value).ownBlock) (.slice Ao17 t105.length co17) t105) ∧ Aside0 (Below w.heap.size w w'))
        case atStart => exact ⟨((t108 == 0)), (0), (by first | rfl | (simp; done) | (simp [*]; done)), (by first | rfl | (simp; done) | (simp [*]; done)), H', ⟨Nat.le_refl _⟩, ⟨by (with_reducible repeat (first | apply Kd.R_alloc | apply Kd.R_drewN | apply Kd.R_drew)); exact HO_11.out⟩, ⟨by (with_reducible repeat (first | apply Kd.R_alloc | apply Kd.R_drewN | apply Kd.R_drew)); exact HO_12.out⟩, ⟨by repeat (first | (with_reducible first | exact HB.out | apply below_alloc | apply pw_below_drewN | apply below_drew1) | exact HB.out)⟩⟩
        case round =>
          clear H'
          try clear c1
          try clear c2
          try clear p2
          try clear c4
          try clear c5
          try clear p6
          try clear c13
          try clear c18
          try clear c22
          try clear c22b0
          try clear c23
          try clear c23b0
          try clear c26
          try clear p2
          try clear p6
          obtain ⟨x16_2, x17_2, rfl, rfl, HA, HK2, HO_11, HO_12, HB⟩ := hrel
          cases gk with
          | zero => exact absurd HA.out (by simp [wordbooklaw16_FuzzyEdits.l0])
          | succ k2 =>
            have H := HA.out
            clear HA
            simp only [wordbooklaw16_FuzzyEdits.l0] at H
            by_cases c27 : x17_2 < 3
            · rw [if_pos c27] at H
              have c27b0 : decide (x17_2 < 3) = true := decide_eq_true c27
              clear c27
              have H' := Aside0.mk H
              clear H
              go_wp2
              go_loopg [16, 18] k2 (fun kq v16 v18 w' => ∃ (x16_3 : Bool) (x18_3 : Int), v16 = .bool x16_3 ∧ v18 = .int .i64 x18_3 ∧ Aside0 (wordbooklaw16_FuzzyEdits.l1 kq t102 t105 t108 x16_3 x17_2 x18_3 = some r) ∧ Aside0 (kq ≤ k2) ∧ Aside0 (Kd.R (Kd.int .i64) 3 w' w.heap.size (fun k_ => some k_ ≠ ((.slice Ao17 t105.length co17) : Value).ownBlock) (.slice Ao16 t102.length co16) t102) ∧ Aside0 (Kd.R (Kd.int .i64) 3 w' w.heap.size (fun k_ => some k_ ≠ ((.slice Ao16 t102.length co16) : Value).ownBlock) (.slice Ao17 t105.length co17) t105) ∧ Aside0 (Below w.heap.size w w'))
              case atStart => exact ⟨(x16_2), (0), (by first | rfl | (simp; done) | (simp [*]; done)), (by first | rfl | (simp; done) | (simp [*]; done)), H', ⟨Nat.le_refl _⟩, ⟨by (with_reducible repeat (first | apply Kd.R_alloc | apply Kd.R_drewN | apply Kd.R_drew)); exact HO_11.out⟩, ⟨by (with_reducible repeat (first | apply Kd.R_alloc | apply Kd.R_drewN | apply Kd.R_drew)); exact HO_12.out⟩, ⟨by repeat (first | (with_reducible first | exact HB.out | apply below_alloc | apply pw_below_drewN | apply below_drew1) | exact HB.out)⟩⟩
              case round =>
                clear H'
                try clear c1
                try clear c2
                try clear p2
                try clear c4
                try clear c5
                try clear p6
                try clear c13
                try clear c18
                try clear c22
                try clear c22b0
                try clear c23
                try clear c23b0
                try clear c26
                try clear c27
                try clear c27b0
                try clear p2
                try clear p6
                obtain ⟨x16_3, x18_3, rfl, rfl, HA, HK3, HO_11, HO_12, HB⟩ := hrel
                cases gk with
                | zero => exact absurd HA.out (by simp [wordbooklaw16_FuzzyEdits.l1])
                | succ k3 =>
                  have H := HA.out
                  clear HA
                  simp only [wordbooklaw16_FuzzyEdits.l1] at H
                  by_cases c28 : x18_3 ≤ (t102.length : Int)
                  · rw [if_pos c28] at H
                    have c28b0 : decide (x18_3 ≤ (t102.length : Int)) = true := decide_eq_true c28
                    clear c28
                    have H' := Aside0.mk H
                    clear H
                    go_wp2
                    go_loopg [16, 19] k3 (fun kq v16 v19 w' => ∃ (x16_4 : Bool) (x19_4 : Int), v16 = .bool x16_4 ∧ v19 = .int .i64 x19_4 ∧ Aside0 (wordbooklaw16_FuzzyEdits.l2 kq t102 t105 t108 x16_4 x17_2 x18_3 x19_4 = some r) ∧ Aside0 (kq ≤ k3) ∧ Aside0 (Kd.R (Kd.int .i64) 3 w' w.heap.size (fun k_ => some k_ ≠ ((.slice Ao17 t105.length co17) : Value).ownBlock) (.slice Ao16 t102.length co16) t102) ∧ Aside0 (Kd.R (Kd.int .i64) 3 w' w.heap.size (fun k_ => some k_ ≠ ((.slice Ao16 t102.length co16) : Value).ownBlock) (.slice Ao17 t105.length co17) t105) ∧ Aside0 (Below w.heap.size w w'))
                    case atStart => exact ⟨(x16_3), (0), (by first | rfl | (simp; done) | (simp [*]; done)), (by first | rfl | (simp; done) | (simp [*]; done)), H', ⟨Nat.le_refl _⟩, ⟨by (with_reducible repeat (first | apply Kd.R_alloc | apply Kd.R_drewN | apply Kd.R_drew)); exact HO_11.out⟩, ⟨by (with_reducible repeat (first | apply Kd.R_alloc | apply Kd.R_drewN | apply Kd.R_drew)); exact HO_12.out⟩, ⟨by repeat (first | (with_reducible first | exact HB.out | apply below_alloc | apply pw_below_drewN | apply below_drew1) | exact HB.out)⟩⟩
                    case round =>
                      clear H'
                      try clear c1
                      try clear c2
                      try clear p2
                      try clear c4
                      try clear c5
                      try clear p6
                      try clear c13
                      try clear c18
                      try clear c22
                      try clear c22b0
                      try clear c23
                      try clear c23b0
                      try clear c26
                      try clear c27
                      try clear c27b0
                      try clear c28
                      try clear c28b0
                      try clear p2
                      try clear p6
                      obtain ⟨x16_4, x19_4, rfl, rfl, HA, HK4, HO_11, HO_12, HB⟩ := hrel
                      cases gk with
                      | zero => exact absurd HA.out (by simp [wordbooklaw16_FuzzyEdits.l2])
                      | succ k4 =>
                        have H := HA.out
                        clear HA
                        simp only [wordbooklaw16_FuzzyEdits.l2] at H
                        have HC29 := Aside0.mk H
                        clear H
                        go_upto_region 16 with (fail)
                        go_cut [70] (fun v70 wc => ∃ (kq : Nat) (x70_28 : Bool), v70 = .bool x70_28 ∧ Aside0 (wordbooklaw16_FuzzyEdits.j4 kq t102 t105 t108 x16_4 x17_2 x18_3 x19_4 x70_28 = some r) ∧ Aside0 (kq ≤ k4) ∧ Aside0 (Kd.R (Kd.int .i64) 3 wc w.heap.size (fun k_ => some k_ ≠ ((.slice Ao17 t105.length co17) : Value).ownBlock) (.slice Ao16 t102.length co16) t102) ∧ Aside0 (Kd.R (Kd.int .i64) 3 wc w.heap.size (fun k_ => some k_ ≠ ((.slice Ao16 t102.length co16) : Value).ownBlock) (.slice Ao17 t105.length co17) t105) ∧ Aside0 (Below w.heap.size w wc))
                        case first =>
                          have H := HC29.out
                          clear HC29
                          by_cases c30 : x19_4 < 4
                          · rw [if_pos c30] at H
                            have c30b0 : decide (x19_4 < 4) = true := decide_eq_true c30
                            clear c30
                            (first | rw [c30b0] | (simp only [i64_w, i32_w]; rw [c30b0]) | skip)
                            have H' := Aside0.mk H
                            clear H
                            go_wp2
                            go_meet
                            case rel => exact ⟨_, (!x16_4), (by first | rfl | (simp; done) | (simp [*]; done)), H', ⟨by have := HJ12.out; have := HK2.out; have := HK3.out; have := HK4.out; first | omega | exact Nat.le_refl _⟩, ⟨by (with_reducible repeat (first | apply Kd.R_alloc | apply Kd.R_drewN | apply Kd.R_drew)); exact HO_11.out⟩, ⟨by (with_reducible repeat (first | apply Kd.R_alloc | apply Kd.R_drewN | apply Kd.R_drew)); exact HO_12.out⟩, ⟨by repeat (first | (with_reducible first | exact HB.out | apply below_alloc | apply pw_below_drewN | apply below_drew1) | exact HB.out)⟩⟩
                          · rw [if_neg c30] at H
                            have c30b0 : decide (x19_4 < 4) = false := decide_eq_false c30
                            clear c30
                            (first | rw [c30b0] | (simp only [i64_w, i32_w]; rw [c30b0]) | skip)
                            have H' := Aside0.mk H
                            clear H
                            go_wp2
                            go_meet
                            case rel => exact ⟨_, (false), (by first | rfl | (simp; done) | (simp [*]; done)), H', ⟨by have := HJ12.out; have := HK2.out; have := HK3.out; have := HK4.out; first | omega | exact Nat.le_refl _⟩, ⟨by (with_reducible repeat (first | apply Kd.R_alloc | apply Kd.R_drewN | apply Kd.R_drew)); exact HO_11.out⟩, ⟨by (with_reducible repeat (first | apply Kd.R_alloc | apply Kd.R_drewN | apply Kd.R_drew)); exact HO_12.out⟩, ⟨by repeat (first | (with_reducible first | exact HB.out | apply below_alloc | apply pw_below_drewN | apply below_drew1) | exact HB.out)⟩⟩
                        case rest =>
                          clear HC29
                          try clear c1
                          try clear c2
                          try clear p2
                          try clear c3
                          try clear c4
                          try clear c5
                          try clear p6
                          try clear c13
                          try clear c18
                          try clear c22
                          try clear c22b0
                          try clear c23
                          try clear c23b0
                          try clear c26
                          try clear c27
                          try clear c27b0
                          try clear c28
                          try clear c28b0
                          try clear c30
                          try clear c30b0
                          try clear p2
                          try clear p6
                          obtain ⟨kq, x70_28, rfl, HA, HJ28, HO_11, HO_12, HB⟩ := hcut
                          cases kq with
                          | zero => exact absurd HA.out (by simp [wordbooklaw16_FuzzyEdits.j4])
                          | succ kj28 =>
                            have H := HA.out
                            clear HA
                            simp only [wordbooklaw16_FuzzyEdits.j4] at H
                            by_cases c31 : x70_28 = true
                            · subst c31
                              have H1 : ((wordbookref16_Edited.f t102 x17_2 x18_3 x19_4).bind fun t117 => ((fuzzy_Distance.f kj28 t117 t105).bind fun t120 => (wordbooklaw16_FuzzyEdits.l2 kj28 t102 t105 t108 (t120 == (wrap64 (t108 - 1))) x17_2 x18_3 (wrap64 (x19_4 + 1))))) = some r := by rw [if_pos rfl] at H; exact H
                              clear H
                              have H := H1
                              clear H1
                              replace H := Option.bind_eq_some_iff.mp H
                              obtain ⟨t117, A320, H⟩ := H
                              replace H : ((fuzzy_Distance.f kj28 t117 t105).bind fun t120 => (wordbooklaw16_FuzzyEdits.l2 kj28 t102 t105 t108 (t120 == (wrap64 (t108 - 1))) x17_2 x18_3 (wrap64 (x19_4 + 1)))) = some r := H
                              have A32 := Aside0.mk A320
                              clear A320
                              replace H := Option.bind_eq_some_iff.mp H
                              obtain ⟨t120, A330, H⟩ := H
                              replace H : (wordbooklaw16_FuzzyEdits.l2 kj28 t102 t105 t108 (t120 == (wrap64 (t108 - 1))) x17_2 x18_3 (wrap64 (x19_4 + 1))) = some r := H
                              have A33 := Aside0.mk A330
                              clear A330
                              have H' := Aside0.mk H
                              clear H
                              go_wp2_with (first | ((with_reducible refine gate_callee (f := 59) rfl ?_); refine goesL_ (some 77) rfl rfl Try.func59 (by kernel_rfl) rfl #[.slice Ao16 t102.length co16, .int .i64 x17_2, .int .i64 x18_3, .int .i64 x19_4] rfl (by (try simp only [List.map_toArray, List.map_cons, List.map_nil]); first | done | rfl | (simp only [List.length_drop, List.length_take]; rfl)) ?_; (with_reducible refine (wordbookref16_Edited.calls _ _ t102 x17_2 x18_3 x19_4 t117 _ ?side1 ?side2 A32.out).mono ?_); (case side1 => repeat (first | exact (Kd.R_reads' HO_11.out).2.2 | (with_reducible refine Kd.C_alloc ?_ _) | (with_reducible refine Kd.C_drewN ?_ _) | (with_reducible refine Kd.C_drew ?_))); (case side2 => exact (Kd.R_reads' HO_11.out).2.1); rintro e w34 ⟨v118, rfl, ho0, hb⟩; refine ⟨_, rfl, ?_⟩; have n0_ := Aside0.mk (Kd.R_elder' (by (with_reducible repeat (first | apply Kd.R_alloc | apply Kd.R_drewN | apply Kd.R_drew)); exact HO_11.out) (Kd.R_base ho0) hb); have n1_ := Aside0.mk (Kd.R_elder' (by (with_reducible repeat (first | apply Kd.R_alloc | apply Kd.R_drewN | apply Kd.R_drew)); exact HO_12.out) (Kd.R_base ho0) hb); have n2_ := Aside0.mk (Kd.R_lower (Kd.R_new' (Kd.R_new' ho0 (Kd.R_lt (by (with_reducible repeat (first | apply Kd.R_alloc | apply Kd.R_drewN | apply Kd.R_drew)); exact HO_11.out))) (Kd.R_lt (by (with_reducible repeat (first | apply Kd.R_alloc | apply Kd.R_drewN | apply Kd.R_drew)); exact HO_12.out))) (below_size (by repeat (first | (with_reducible first | exact HB.out | apply below_alloc | apply pw_below_drewN | apply below_drew1) | exact HB.out)))); have n3_ := Aside0.mk (below_step (by repeat (first | (with_reducible first | exact HB.out | apply below_alloc | apply pw_below_drewN | apply below_drew1) | exact HB.out)) hb); clear HO_11; clear HO_12; clear HB; have HO_11 := n0_; have HO_12 := n1_; have HO119 := n2_; have HB := n3_; clear n0_ n1_ n2_ n3_; (try clear hb); (try clear hb2); (try clear hk); (try clear hi); (try clear ho0); obtain ⟨Ao35, co35, eo35⟩ := Kd.R_slice HO119.out; subst eo35) | ((with_reducible refine gate_callee (f := 49) rfl ?_); refine goesL_ (some 79) rfl rfl Try.func49 (by kernel_rfl) rfl #[.slice Ao35 t117.length co35, .slice Ao17 t105.length co17] rfl (by (try simp only [List.map_toArray, List.map_cons, List.map_nil]); first | done | rfl | (simp only [List.length_drop, List.length_take]; rfl)) ?_; (with_reducible refine (fuzzy_Distance.calls kj28 _ _ t117 _ _ t105 t120 _ ?side1 ?side2 ?side3 ?side4 A33.out).mono ?_); (case side1 => repeat (first | exact (Kd.R_reads' HO119.out).2.2 | (with_reducible refine Kd.C_alloc ?_ _) | (with_reducible refine Kd.C_drewN ?_ _) | (with_reducible refine Kd.C_drew ?_))); (case side2 => exact (Kd.R_reads' HO119.out).2.1); (case side3 => repeat (first | exact (Kd.R_reads' HO_12.out).2.2 | (with_reducible refine Kd.C_alloc ?_ _) | (with_reducible refine Kd.C_drewN ?_ _) | (with_reducible refine Kd.C_drew ?_))); (case side4 => exact (Kd.R_reads' HO_12.out).2.1); rintro e w36 ⟨rfl, hb⟩; refine ⟨_, rfl, ?_⟩; have n0_ := Aside0.mk (Kd.R_below (by (with_reducible repeat (first | apply Kd.R_alloc | apply Kd.R_drewN | apply Kd.R_drew)); exact HO_11.out) hb); have n1_ := Aside0.mk (Kd.R_below (by (with_reducible repeat (first | apply Kd.R_alloc | apply Kd.R_drewN | apply Kd.R_drew)); exact HO_12.out) hb); have n2_ := Aside0.mk (Kd.R_below (by (with_reducible repeat (first | apply Kd.R_alloc | apply Kd.R_drewN | apply Kd.R_drew)); exact HO119.out) hb); have n3_ := Aside0.mk (below_step (by repeat (first | (with_reducible first | exact HB.out | apply below_alloc | apply pw_below_drewN | apply below_drew1) | exact HB.out)) hb); clear HO_11; clear HO_12; clear HO119; clear HB; have HO_11 := n0_; have HO_12 := n1_; have HO119 := n2_; have HB := n3_; clear n0_ n1_ n2_ n3_; (try clear hb); (try clear hb2); (try clear hk); (try clear hi)))
                              go_roundg kj28
                              case measure => have := HJ12.out; have := HK2.out; have := HK3.out; have := HK4.out; have := HJ28.out; omega
                              case rel => exact ⟨((t120 == (wrap64 (t108 - 1)))), (wrap64 (x19_4 + 1)), (by first | rfl | (simp; done) | (simp [*]; done)), (by first | rfl | (simp; done) | (simp [*]; done)), H', ⟨by have := HJ12.out; have := HK2.out; have := HK3.out; have := HK4.out; have := HJ28.out; omega⟩, ⟨by (with_reducible repeat (first | apply Kd.R_alloc | apply Kd.R_drewN | apply Kd.R_drew)); exact Kd.R_mono HO_11.out (fun _ hk => hk.1)⟩, ⟨by (with_reducible repeat (first | apply Kd.R_alloc | apply Kd.R_drewN | apply Kd.R_drew)); exact Kd.R_mono HO_12.out (fun _ hk => hk.1)⟩, ⟨by repeat (first | (with_reducible first | exact HB.out | apply below_alloc | apply pw_below_drewN | apply below_drew1) | exact HB.out)⟩⟩
                            · replace c31 := Bool.eq_false_iff.mpr c31
                              subst c31
                              have H1 : (wordbooklaw16_FuzzyEdits.l1 kj28 t102 t105 t108 x16_4 x17_2 (wrap64 (x18_3 + 1))) = some r := by rw [if_neg (show ¬ (false = true) by decide)] at H; exact H
                              clear H
                              have H := H1
                              clear H1
                              have H' := Aside0.mk H
                              clear H
                              go_wp2
                              go_roundg kj28
                              case measure => have := HJ12.out; have := HK2.out; have := HK3.out; have := HK4.out; have := HJ28.out; omega
                              case rel => exact ⟨(x16_4), (wrap64 (x18_3 + 1)), (by first | rfl | (simp; done) | (simp [*]; done)), (by first | rfl | (simp; done) | (simp [*]; done)), H', ⟨by have := HJ12.out; have := HK2.out; have := HK3.out; have := HK4.out; have := HJ28.out; omega⟩, ⟨by (with_reducible repeat (first | apply Kd.R_alloc | apply Kd.R_drewN | apply Kd.R_drew)); exact HO_11.out⟩, ⟨by (with_reducible repeat (first | apply Kd.R_alloc | apply Kd.R_drewN | apply Kd.R_drew)); exact HO_12.out⟩, ⟨by repeat (first | (with_reducible first | exact HB.out | apply below_alloc | apply pw_below_drewN | apply below_drew1) | exact HB.out)⟩⟩
                  · rw [if_neg c28] at H
                    have c28b0 : decide (x18_3 ≤ (t102.length : Int)) = false := decide_eq_false c28
                    clear c28
                    have H' := Aside0.mk H
                    clear H
                    go_wp2
                    go_roundg k3
                    case measure => have := HJ12.out; have := HK2.out; have := HK3.out; omega
                    case rel => exact ⟨(x16_3), (wrap64 (x17_2 + 1)), (by first | rfl | (simp; done) | (simp [*]; done)), (by first | rfl | (simp; done) | (simp [*]; done)), H', ⟨by have := HJ12.out; have := HK2.out; have := HK3.out; omega⟩, ⟨by (with_reducible repeat (first | apply Kd.R_alloc | apply Kd.R_drewN | apply Kd.R_drew)); exact HO_11.out⟩, ⟨by (with_reducible repeat (first | apply Kd.R_alloc | apply Kd.R_drewN | apply Kd.R_drew)); exact HO_12.out⟩, ⟨by repeat (first | (with_reducible first | exact HB.out | apply below_alloc | apply pw_below_drewN | apply below_drew1) | exact HB.out)⟩⟩
            · rw [if_neg c27] at H
              have c27b0 : decide (x17_2 < 3) = false := decide_eq_false c27
              clear c27
              by_cases c37 : x16_2 = true
              · subst c37
                have H1 : ((wordbooklaw16_lives.f).bind fun t116 => (some t116)) = some r := by rw [if_pos rfl] at H; exact H
                clear H
                have H := H1
                clear H1
                replace H := Option.bind_eq_some_iff.mp H
                obtain ⟨t116, A380, H⟩ := H
                replace H : (some t116) = some r := H
                have A38 := Aside0.mk A380
                clear A380
                obtain rfl := Option.some.inj H
                go_wp2_with (first | (go_at_call 51; (with_reducible refine (wordbooklaw16_lives.calls  t116 _ A38.out).mono ?_); rintro e w39 ⟨rfl, hb⟩; have n0_ := Aside0.mk (Kd.R_below (by (with_reducible repeat (first | apply Kd.R_alloc | apply Kd.R_drewN | apply Kd.R_drew)); exact HO_11.out) hb); have n1_ := Aside0.mk (Kd.R_below (by (with_reducible repeat (first | apply Kd.R_alloc | apply Kd.R_drewN | apply Kd.R_drew)); exact HO_12.out) hb); have n2_ := Aside0.mk (below_step (by repeat (first | (with_reducible first | exact HB.out | apply below_alloc | apply pw_below_drewN | apply below_drew1) | exact HB.out)) hb); clear HO_11; clear HO_12; clear HB; have HO_11 := n0_; have HO_12 := n1_; have HB := n2_; clear n0_ n1_ n2_; (try clear hb); (try clear hb2); (try clear hk); (try clear hi)))
                go_ret
                exact ⟨by first | rfl | (simp [errW_none, errW_some] <;> rfl) | (simp [*, errW_none, errW_some] <;> rfl), by repeat (first | (with_reducible first | exact HB.out | apply below_alloc | apply pw_below_drewN | apply below_drew1) | exact HB.out)⟩
              · replace c37 := Bool.eq_false_iff.mpr c37
                subst c37
                have H1 : (some false) = some r := by rw [if_neg (show ¬ (false = true) by decide)] at H; exact H
                clear H
                have H := H1
                clear H1
                obtain rfl := Option.some.inj H
                go_wp2
                go_ret
                exact ⟨by first | rfl | (simp [errW_none, errW_some] <;> rfl) | (simp [*, errW_none, errW_some] <;> rfl), by repeat (first | (with_reducible first | exact HB.out | apply below_alloc | apply pw_below_drewN | apply below_drew1) | exact HB.out)⟩

/-- THE ONE PURE STATEMENT of wordbooklaw16_FuzzyEdits: yours. -/
def wordbooklaw16_FuzzyEdits.Pure : Prop := ∀ (l0 : List Int) (l1 : List Int) (a2 : Int) (a3 : Int) (a4 : Int), l0.length ≤ maxLen → l0.length * 8 ≤ 140737488351232 → (∀ x ∈ l0, (Lit.int .i64 x).wf = true) → l1.length ≤ maxLen → l1.length * 8 ≤ 140737488351232 → (∀ x ∈ l1, (Lit.int .i64 x).wf = true) → (Lit.int .i64 a2).wf = true → (Lit.int .i64 a3).wf = true → (Lit.int .i64 a4).wf = true → ∃ k, wordbooklaw16_FuzzyEdits.f k l0 l1 a2 a3 a4 = some true
theorem wordbooklaw16_FuzzyEdits.walk (P : wordbooklaw16_FuzzyEdits.Pure) (a0 : Option Addr) (len0 cap0 : Nat) (z0 : List Int) (a1 : Option Addr) (len1 cap1 : Nat) (z1 : List Int) (a2 : Int) (a3 : Int) (a4 : Int) (w : World) (w0 : (a0 = none ∧ len0 = 0 ∧ cap0 = 0 ∧ z0 = []) ∨ ∃ x, a0 = some x ∧ len0 ≤ cap0 ∧ cap0 ≤ maxLen ∧ z0.length = cap0 ∧ (∀ i, i < z0.length → w.cell? (x.add i) = some (.int .i64 (z0.getD i 0))) ∧ ∀ n ∈ z0, (Lit.int .i64 n).wf = true) (y0 : len0 * 8 ≤ 140737488351232) (w1 : (a1 = none ∧ len1 = 0 ∧ cap1 = 0 ∧ z1 = []) ∨ ∃ x, a1 = some x ∧ len1 ≤ cap1 ∧ cap1 ≤ maxLen ∧ z1.length = cap1 ∧ (∀ i, i < z1.length → w.cell? (x.add i) = some (.int .i64 (z1.getD i 0))) ∧ ∀ n ∈ z1, (Lit.int .i64 n).wf = true) (y1 : len1 * 8 ≤ 140737488351232) (w2 : (Lit.int .i64 a2).wf = true) (w3 : (Lit.int .i64 a3).wf = true) (w4 : (Lit.int .i64 a4).wf = true) :
    Calls Try.prog 13 #[.slice a0 len0 cap0, .slice a1 len1 cap1, .int .i64 a2, .int .i64 a3, .int .i64 a4] w fun e w' => e = .returned (.bool true) ∧ Below w.heap.size w w' := by
  obtain ⟨l0, rfl, hr0, hm0, hw0, hc0⟩ := ReadsInt.ofRowC w0
  obtain ⟨l1, rfl, hr1, hm1, hw1, hc1⟩ := ReadsInt.ofRowC w1
  obtain ⟨k, h⟩ := P l0 l1 a2 a3 a4 hm0 y0 hw0 hm1 y1 hw1 w2 w3 w4
  refine (wordbooklaw16_FuzzyEdits.calls k _ _ l0 _ _ l1 a2 a3 a4 true w (Kd.C_of_reads (d := (0 : Int)) (h1 := fun _ => rfl) hr0) hc0 (Kd.C_of_reads (d := (0 : Int)) (h1 := fun _ => rfl) hr1) hc1 h).mono ?_
  rintro e w' ⟨rfl, hd⟩
  exact ⟨rfl, hd⟩

end Go.Proofs.Ytcdjeimjbbknjaa.PAll
namespace Go.Proofs.Ytcdjeimjbbknjaa.Pure
open Go.RowKit Go.Proofs.Ytcdjeimjbbknjaa.PAll Go.Proofs.YtcdjeimjbbknjaaW.PrintWords Go.Proofs.YtcdjeimjbbknjaaW.PrintLast Go.Proofs.Ytcdjeimjbbknjaa.Lev

theorem edited_length (a : List Int) (c i x : Int) : (edited a c i x).length ≤ a.length + 1 := by
  unfold edited put_ set_ cut_
  split
  · simp only [List.length_append, List.length_cons, List.length_take, List.length_drop]; omega
  · split
    · simp
    · split
      · have hr := around_range i a.length (by omega)
        simp only [List.length_append, List.length_cons, List.length_take, List.length_drop]; omega
      · simp only [List.length_append, List.length_take, List.length_drop]; omega
theorem edited_near (a : List Int) (c i x : Int) : lev a (edited a c i x) ≤ 1 := by
  unfold edited
  split
  · exact lev_put _ _ _
  · split
    · rename_i h
      obtain rfl : a = [] := List.eq_nil_of_length_eq_zero h
      rw [lev_self]; omega
    · split
      · have hr := around_range i a.length (by omega)
        exact lev_set _ _ _ (by omega)
      · exact lev_cut _ _
theorem around_small {i n : Int} (h0 : 0 ≤ i) (h1 : i < n) : around i n = i := by
  unfold around
  rw [if_neg (by omega), Int.tmod_eq_emod_of_nonneg h0, Int.emod_eq_of_lt h0 h1]
/-- A place where an edit makes the distance less. -/
def Hit (a w : List Int) (c i x : Nat) : Prop := lev (edited a c i x) w + 1 = lev a w
theorem hit_there (a w : List Int) (hw : ∀ x ∈ w, 0 ≤ x ∧ x < 4) (h : 0 < lev a w) : ∃ c i x : Nat, c ≤ 2 ∧ i ≤ a.length ∧ x < 4 ∧ Hit a w c i x := by
  rcases lev_better a w h with ⟨k, x, hk, hx, he⟩ | ⟨k, hk, he⟩ | ⟨k, x, hk, hx, he⟩
  · have hx' := hw x hx
    refine ⟨0, k, x.toNat, by omega, hk, by omega, ?_⟩
    unfold Hit edited
    rw [if_pos (by decide), around_small (by omega) (by omega), Int.toNat_natCast, show ((x.toNat : Nat) : Int) = x from by omega]
    exact he
  · refine ⟨1, k, 0, by omega, by omega, by omega, ?_⟩
    unfold Hit edited
    rw [if_neg (by decide), if_neg (by omega), if_neg (by decide), around_small (by omega) (by omega), Int.toNat_natCast]
    exact he
  · have hx' := hw x hx
    refine ⟨2, k, x.toNat, by omega, by omega, by omega, ?_⟩
    unfold Hit edited
    rw [if_neg (by decide), if_neg (by omega), if_pos (by decide), around_small (by omega) (by omega), Int.toNat_natCast, show ((x.toNat : Nat) : Int) = x from by omega]
    exact he
def From (c i x c' i' x' : Nat) : Prop := c < c' ∨ c = c' ∧ (i < i' ∨ i = i' ∧ x ≤ x')
def Left (a w : List Int) (c i x : Nat) : Prop := ∃ c' i' x' : Nat, c' ≤ 2 ∧ i' ≤ a.length ∧ x' < 4 ∧ From c i x c' i' x' ∧ Hit a w c' i' x'
theorem scan (a w : List Int) (ha : a.length ≤ 10) (hw : w.length ≤ 10) (hd : lev a w ≤ 10) (m : Nat) : ∀ (k c i x : Nat) (b : Bool), c ≤ 2 → i ≤ a.length → x ≤ 4 → (2 - c) * 60 + (a.length - i) * 5 + (4 - x) = m → (b = true ∨ Left a w c i x) → 4 * m + 50 < k →
    wordbooklaw16_FuzzyEdits.l2 k a w ((lev a w : Nat) : Int) b (c : Int) (i : Int) (x : Int) = some true := by
  induction m using Nat.strongRecOn with
  | _ m ih =>
    intro k c i x b hc hi hx hm hb hk
    -- behind the last symbol
    have next : ∀ (k' : Nat), (b = true ∨ Left a w c i 4) → (b = true ∨ x = 4) → 4 * m + 47 < k' → wordbooklaw16_FuzzyEdits.l1 k' a w ((lev a w : Nat) : Int) b (c : Int) (wrap64 ((i : Int) + 1)) = some true := by
      intro k' hb' hbx hk'
      obtain ⟨k', rfl⟩ : ∃ q, k' = q + 1 := ⟨k' - 1, by omega⟩
      have hw1 : wrap64 ((i : Int) + 1) = ((i + 1 : Nat) : Int) := by unfold wrap64; omega
      rw [hw1, wordbooklaw16_FuzzyEdits.l1]
      clear hw1
      by_cases hlt : i < a.length
      · rw [if_pos (by omega)]
        have hlast : 0 < 4 - x ∨ x = 4 := by omega
        have hh := ih ((2 - c) * 60 + (a.length - (i + 1)) * 5 + 4) (by omega) k' c (i + 1) 0 b hc (by omega) (by omega) (by omega)
        rw [show (((0 : Nat) : Int)) = 0 from rfl] at hh
        refine hh ?_ (by omega)
        rcases hb' with hb' | ⟨c', i', x', h1, h2, h3, h4, h5⟩
        · exact .inl hb'
        · refine .inr ⟨c', i', x', h1, h2, h3, ?_, h5⟩
          unfold From at h4 ⊢; omega
      · rw [if_neg (by omega)]
        obtain ⟨k', rfl⟩ : ∃ q, k' = q + 1 := ⟨k' - 1, by omega⟩
        have hw2 : wrap64 ((c : Int) + 1) = ((c + 1 : Nat) : Int) := by unfold wrap64; omega
        rw [hw2, wordbooklaw16_FuzzyEdits.l0]
        clear hw2
        by_cases hlt2 : c < 2
        · rw [if_pos (by omega)]
          obtain ⟨k', rfl⟩ : ∃ q, k' = q + 1 := ⟨k' - 1, by omega⟩
          rw [wordbooklaw16_FuzzyEdits.l1, if_pos (by omega)]
          have hh := ih ((2 - (c + 1)) * 60 + (a.length - 0) * 5 + 4) (by omega) k' (c + 1) 0 0 b (by omega) (by omega) (by omega) (by omega)
          rw [show (((0 : Nat) : Int)) = 0 from rfl] at hh
          refine hh ?_ (by omega)
          rcases hb' with hb' | ⟨c', i', x', h1, h2, h3, h4, h5⟩
          · exact .inl hb'
          · refine .inr ⟨c', i', x', h1, h2, h3, ?_, h5⟩
            unfold From at h4 ⊢; omega
        · rw [if_neg (by omega)]
          have hbt : b = true := by
            rcases hb' with hb' | ⟨c', i', x', h1, h2, h3, h4, h5⟩
            · exact hb'
            · unfold From at h4; omega
          rw [hbt, if_pos rfl]
          rfl
    obtain ⟨k, rfl⟩ : ∃ q, k = q + 1 := ⟨k - 1, by omega⟩
    rw [wordbooklaw16_FuzzyEdits.l2]
    obtain ⟨k, rfl⟩ : ∃ q, k = q + 1 := ⟨k - 1, by omega⟩
    by_cases hx4 : x < 4
    · rw [if_pos (by omega), wordbooklaw16_FuzzyEdits.j4]
      cases b with
      | true =>
        rw [if_neg (by decide)]
        exact next k (.inl rfl) (.inl rfl) (by omega)
      | false =>
        have hl := edited_length a c i x
        have hE : wordbookref16_Edited.f a (c : Int) (i : Int) (x : Int) = some (edited a c i x) := by unfold wordbookref16_Edited.f; rw [if_pos ⟨by omega, by omega, by omega⟩]
        have hdist := distance_is (edited a c i x) w (by omega) (by omega) k (by omega)
        have hw1 : wrap64 ((x : Int) + 1) = ((x + 1 : Nat) : Int) := by unfold wrap64; omega
        have hw2 : wrap64 (((lev a w : Nat) : Int) - 1) = ((lev a w : Nat) : Int) - 1 := by unfold wrap64; omega
        rw [if_pos (by decide), hE, Option.bind_some, hdist, Option.bind_some, hw1, hw2]
        clear hw1 hw2
        refine ih ((2 - c) * 60 + (a.length - i) * 5 + (4 - (x + 1))) (by omega) k c i (x + 1) _ hc hi (by omega) rfl ?_ (by omega)
        rcases hb with hb | ⟨c', i', x', h1, h2, h3, h4, h5⟩
        · cases hb
        · by_cases he : c = c' ∧ i = i' ∧ x = x'
          · obtain ⟨rfl, rfl, rfl⟩ := he
            refine .inl ?_
            unfold Hit at h5
            rw [beq_iff_eq]; omega
          · refine .inr ⟨c', i', x', h1, h2, h3, ?_, h5⟩
            unfold From at h4 ⊢; omega
    · obtain rfl : x = 4 := by omega
      rw [if_neg (by omega), wordbooklaw16_FuzzyEdits.j4, if_neg (by decide)]
      exact next k hb (.inr rfl) (by omega)
theorem wordL_small (l : List Int) : ∀ x ∈ wordL l, 0 ≤ x ∧ x < 4 := by
  intro x hx
  obtain ⟨y, _, rfl⟩ := List.mem_map.1 hx
  exact around_range y 4 (by decide)
theorem far1 {x y : Nat} (h : y ≤ x + 1) : ¬ ((y : Int) > (x : Int) + 1) := by omega
theorem far2 {x y : Nat} (h : x ≤ y + 1) : ¬ ((y : Int) < (x : Int) - 1) := by omega
theorem far3 {x : Nat} (h : x ≤ 1) : ¬ ((x : Int) > 1) := by omega
theorem far4 {x : Nat} (h : x ≤ 10) : wrap64 ((x : Int) + 1) = (x : Int) + 1 := by unfold wrap64; omega
theorem far5 (x : Nat) (h : x ≤ 10) : wrap64 ((x : Int) - 1) = (x : Int) - 1 := by unfold wrap64; omega
theorem near1 {p q r s : Nat} (h : q ≤ r + p) (h2 : r = s) (h3 : s ≤ 1) : q ≤ p + 1 := by omega
theorem near2 {p q s : Nat} (h : p ≤ s + q) (h3 : s ≤ 1) : p ≤ q + 1 := by omega
theorem near10 {x p q : Nat} (h : x ≤ max p q) (hp : p ≤ 10) (hq : q ≤ 10) : x ≤ 10 := by omega
theorem FuzzyEdits : wordbooklaw16_FuzzyEdits.Pure := by
  intro l0 l1 a2 a3 a4 m0 _ w0 m1 _ w1 w2 w3 w4
  obtain ⟨K, hK⟩ : ∃ K : Nat, 1500 < K := ⟨2000, by decide⟩
  refine ⟨K + 1 + 1 + 1, ?_⟩
  have hx0 := fun x hx => wf_int (w0 x hx)
  have hx1 := fun x hx => wf_int (w1 x hx)
  have g2 := wf_int w2
  have g3 := wf_int w3
  have g4 := wf_int w4
  have f0 := wordL_length l0
  have f1 := wordL_length l1
  have s1 := wordL_small l1
  unfold wordbooklaw16_FuzzyEdits.f
  rw [word_is l0 m0 hx0 (K + 1 + 1 + 1) (by omega), word_is l1 m1 hx1 (K + 1 + 1 + 1) (by omega), around_is a2 3 (by decide) g2, around_is a4 4 (by decide) g4]
  simp only [Option.bind_some]
  generalize wordL l0 = a at *
  generalize wordL l1 = b at *
  generalize around a2 3 = kind at *
  generalize around a4 4 = sym at *
  have hE : wordbookref16_Edited.f a kind a3 sym = some (edited a kind a3 sym) := by unfold wordbookref16_Edited.f; rw [if_pos ⟨by omega, by omega, by omega⟩]
  have hl := edited_length a kind a3 sym
  have hn := edited_near a kind a3 sym
  rw [distance_is a b (by omega) (by omega) (K + 1 + 1 + 1) (by omega), hE]
  clear hE
  generalize edited a kind a3 sym = one at *
  have hm := lev_max a b
  have t1 := lev_triangle a one b
  have t2 := lev_triangle one a b
  have t3 := lev_symm one a
  simp only [Option.bind_some]
  rw [distance_is one b (by omega) (by omega) (K + 1 + 1 + 1) (by omega), Option.bind_some]
  have q1 := near1 t2 t3 hn
  have q2 := near2 t1 hn
  have q3 := near10 hm f0 f1
  have q4 : one.length ≤ 11 := by omega
  clear t1 t2 t3 hm
  have n1 := far1 q1
  have n2 := far2 q2
  have n3 : decide (((lev a one : Nat) : Int) > 1) = false := decide_eq_false (far3 hn)
  have hd2 := distance_is a one (by omega) (by omega) (K + 1 + 1 + 1) (by omega)
  have k1 := far4 q3
  have k2 := far5 (lev a b) q3
  rw [k1, k2, if_neg n1, if_neg n2, hd2, Option.bind_some, n3]
  clear k1 k2 hd2 n1 n2 n3
  have hdec : ∀ k, wordbooklaw16_FuzzyEdits.j0 (k + 1 + 1 + 1) a b ((lev a b : Nat) : Int) false = wordbooklaw16_FuzzyEdits.l2 k a b ((lev a b : Nat) : Int) (((lev a b : Nat) : Int) == 0) ((0 : Nat) : Int) ((0 : Nat) : Int) ((0 : Nat) : Int) := by
    intro k
    rw [wordbooklaw16_FuzzyEdits.j0, if_neg (by decide), wordbooklaw16_FuzzyEdits.l0, if_pos (by decide), wordbooklaw16_FuzzyEdits.l1, if_pos (by omega), show (((0 : Nat) : Int)) = 0 from rfl]
  rw [hdec K]
  refine scan a b f0 f1 q3 _ K 0 0 0 _ (by omega) (by omega) (by omega) rfl ?_ (by omega)
  by_cases hz : lev a b = 0
  · exact .inl (by rw [hz]; rfl)
  · obtain ⟨c, i, x, h1, h2, h3, h4⟩ := hit_there a b s1 (by omega)
    exact .inr ⟨c, i, x, h1, h2, h3, by unfold From; omega, h4⟩
end Go.Proofs.Ytcdjeimjbbknjaa.Pure
namespace Go.Proofs.Ytcdjeimjbbknjaa.fuzzyEdits
open Go.ChangeShapes Go.WideShapes Go.ChangeAt Go.RowKit
open Go.ChangeMaps (open_string shut_string)
set_option linter.unusedVariables false
theorem own : ownKnob Try.prog.godebug = none := by kernel_rfl
theorem laidOut : laidOutB Try.prog = true := by kernel_rfl
def IsRow (k : IntKind) (w : World) (a : Option Addr) (len cap : Nat) (zs : List Int) : Prop :=
  (a = none ∧ len = 0 ∧ cap = 0 ∧ zs = []) ∨
  ∃ x, a = some x ∧ len ≤ cap ∧ cap ≤ maxLen ∧ zs.length = cap ∧ (∀ i, i < zs.length → w.cell? (x.add i) = some (.int k (zs.getD i 0))) ∧ ∀ n ∈ zs, (Lit.int k n).wf = true
set_option maxRecDepth 100000 in
theorem lifted (os : Os) (started : os.Started) (H : Type) (enc : TypeId × Value → H) :
    ReturnsInHanded {} Try.checked os 13 .any (Rows.fuzzyEditsSpec.pre6 enc Try.prog Try.f13 Rows.fuzzyEditsRow.domain false) (Rows.fuzzyEditsSpec.post enc Try.prog Try.f13 false true false false) := by
  refine returnsInHanded_of_change_sized (C := Try.checked) own started (by kernel_rfl) Try.func13
    (ChangeSpec.witness6 (enc := enc) (C := Try.checked) false ⟨#[], #[.slice none 0 0, .slice none 0 0, .int .i64 0, .int .i64 0, .int .i64 0], []⟩ 8 (by kernel_rfl) (by kernel_rfl) (by kernel_rfl) (by kernel_rfl)) ?_
  intro W base args ds gs before hval0 hW hcnd hsz0 _
  have hsz : (DataW.weightsEach Try.prog (Try.f13.params.toList ++ Rows.fuzzyEditsSpec.plain.varTypes Try.prog) (ds ++ gs)).all (· ≤ reachBytes) = true := hsz0
  have hval : ∀ (j : Nat) t v, Try.f13.params[j]? = some t → args[j]? = some v → Value.okWide Try.prog W .any base t v := hval0
  have hW' := hW
  obtain ⟨p, q, hA0, hV, rfl, hfz, hnd⟩ := hW
  have hA : DataW.TrodAll enc Try.prog W 0 (fun _ => true) true Try.f13.params.toList args.toList ds p := hA0
  rw [Try.params13] at hA hval hsz
  obtain ⟨v0, vs0, d0, ds0, p0, q0, hargs, rfl, rfl, h0, r0⟩ := trodAll_cons hA
  obtain ⟨v1, vs1, d1, ds1, p1, q1, rfl, rfl, rfl, h1, r1⟩ := trodAll_cons r0
  obtain ⟨v2, vs2, d2, ds2, p2, q2, rfl, rfl, rfl, h2, r2⟩ := trodAll_cons r1
  obtain ⟨v3, vs3, d3, ds3, p3, q3, rfl, rfl, rfl, h3, r3⟩ := trodAll_cons r2
  obtain ⟨v4, vs4, d4, ds4, p4, q4, rfl, rfl, rfl, h4, r4⟩ := trodAll_cons r3
  obtain ⟨rfl, rfl, rfl⟩ := trodAll_nil r4
  obtain rfl : args = #[v0, v1, v2, v3, v4] := by cases args; simp_all
  obtain ⟨rfl, rfl⟩ := trodVars_none hV
  obtain ⟨a0, len0, cap0, rfl⟩ := okWide_slice Try.underlying22 (hval 0 22 v0 rfl rfl)
  have k0 := h0
  have lt0 : ∀ x ∈ p0, x.block < W.heap.size := by obtain ⟨m, hm⟩ := k0; exact DataW.trod_lt m _ _ _ hm
  obtain ⟨z0, w0⟩ : ∃ zs, IsRow .i64 W a0 len0 cap0 zs := by
    obtain ⟨fuel, hf⟩ := h0
    rcases open_ints Try.underlying22 Try.underlying3 (by kernel_rfl) hf with ⟨hcs, _⟩ | ⟨x, l, c, zs, hcs, _, hl, hm, hz, _, hcell, hwz⟩
    · simp [Value.cells] at hcs
      obtain ⟨rfl, rfl, rfl⟩ := hcs
      exact ⟨[], .inl ⟨rfl, rfl, rfl, rfl⟩⟩
    · simp [Value.cells] at hcs
      obtain ⟨rfl, rfl, rfl⟩ := hcs
      exact ⟨zs, .inr ⟨_, rfl, hl, hm, by simpa using hz, hcell, hwz⟩⟩
  have y0 : len0 * 8 ≤ 140737488351232 := Go.Proofs.YtcdjeimjbbknjaaW.PrintWords.sized_ints hsz (j := 0) (t := 22) rfl rfl Try.underlying22 Try.underlying3 (by kernel_rfl) (by kernel_rfl) h0
  obtain ⟨a1, len1, cap1, rfl⟩ := okWide_slice Try.underlying22 (hval 1 22 v1 rfl rfl)
  have k1 := h1
  have lt1 : ∀ x ∈ p1, x.block < W.heap.size := by obtain ⟨m, hm⟩ := k1; exact DataW.trod_lt m _ _ _ hm
  obtain ⟨z1, w1⟩ : ∃ zs, IsRow .i64 W a1 len1 cap1 zs := by
    obtain ⟨fuel, hf⟩ := h1
    rcases open_ints Try.underlying22 Try.underlying3 (by kernel_rfl) hf with ⟨hcs, _⟩ | ⟨x, l, c, zs, hcs, _, hl, hm, hz, _, hcell, hwz⟩
    · simp [Value.cells] at hcs
      obtain ⟨rfl, rfl, rfl⟩ := hcs
      exact ⟨[], .inl ⟨rfl, rfl, rfl, rfl⟩⟩
    · simp [Value.cells] at hcs
      obtain ⟨rfl, rfl, rfl⟩ := hcs
      exact ⟨zs, .inr ⟨_, rfl, hl, hm, by simpa using hz, hcell, hwz⟩⟩
  have y1 : len1 * 8 ≤ 140737488351232 := Go.Proofs.YtcdjeimjbbknjaaW.PrintWords.sized_ints hsz (j := 1) (t := 22) rfl rfl Try.underlying22 Try.underlying3 (by kernel_rfl) (by kernel_rfl) h1
  obtain ⟨a2, rfl, rfl, rfl, w2⟩ := open_int Try.underlying3 (hval 2 3 v2 rfl rfl) h2
  obtain ⟨a3, rfl, rfl, rfl, w3⟩ := open_int Try.underlying3 (hval 3 3 v3 rfl rfl) h3
  obtain ⟨a4, rfl, rfl, rfl, w4⟩ := open_int Try.underlying3 (hval 4 3 v4 rfl rfl) h4
  clear hA0 hval0 hsz0 hsz
  refine (PAll.wordbooklaw16_FuzzyEdits.walk Pure.FuzzyEdits a0 len0 cap0 z0 a1 len1 cap1 z1 a2 a3 a4 W w0 y0 w1 y1 w2 w3 w4).mono fun e W' ⟨he, bel⟩ => ?_
  subst he
  exact ⟨_, rfl, _, _, _, [], _, [], hW', trodAll_mk1 (shut_bool Try.underlying4 _), (trodAll_cons_mk (Below.trod laidOut (by kernel_rfl) (of_decide_eq_true (by kernel_rfl)) k0 bel lt0) (trodAll_cons_mk (Below.trod laidOut (by kernel_rfl) (of_decide_eq_true (by kernel_rfl)) k1 bel lt1) (trodAll_cons_mk (shut_int Try.underlying3 w2) (trodAll_cons_mk (shut_int Try.underlying3 w3) (trodAll_cons_mk (shut_int Try.underlying3 w4) trodAll_mk0))))), rfl, bel.frame _, fun h => by cases h⟩
theorem over : Rows.fuzzyEditsRow.holds Try.pinned (OpenSpec.ofChange Rows.fuzzyEditsSpec) :=
  OpenClaim.holds_of_wide 13 Try.f13 rfl rfl rfl rfl rfl rfl rfl ⟨rfl, rfl, rfl, rfl, rfl⟩ rfl rfl rfl rfl rfl (by kernel_rfl) Try.func13 (by kernel_rfl)
    (of_decide_eq_true (by kernel_rfl)) (by unfold Func.isWrapper; first | (rw [if_pos (by decide +kernel)]; kernel_rfl) | (rw [if_neg (by decide +kernel)]; exact ⟨rfl, rfl⟩))
    (fun os started H enc _ => lifted os started H enc)
theorem proved : Rows.FuzzyEditsSaid := over
#print axioms proved
end Go.Proofs.Ytcdjeimjbbknjaa.fuzzyEdits
namespace Go.Proofs.Ytcdjeimjbbknjaa
/-- The row, under a short name, for the claim. -/
theorem fuzzyEdits_holds : Rows.FuzzyEditsSaid := fuzzyEdits.proved
end Go.Proofs.Ytcdjeimjbbknjaa
