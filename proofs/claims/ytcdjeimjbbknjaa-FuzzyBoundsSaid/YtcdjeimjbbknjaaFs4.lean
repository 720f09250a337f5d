import Derived.Test.YtcdjeimjbbknjaaProg
import Derived.Below
import Derived.Deep.Draws
import Derived.Deep.AppendLies
import Derived.Maps.AppendAt
import Derived.OwnWalk
import Derived.Laws.BytesArg
import Derived.Laws.MakeOwn
import Derived.Laws.OwnMore
import Derived.Deep.OwnRows
import Derived.Tactics
import Derived.Lib.ConvBytes
import Derived.Laws.Slices
import Derived.WalkKit
import Derived.KernelRfl
import Derived.RowKit3
import Derived.Deep.LoopGhost
import Derived.Deep.QuietTactic
import Derived.BigQuiet
import Derived.WideLaws
import Derived.Deep.DeepCutAuto
import Derived.Deep.CutBlock
import Derived.Deep.RegionHeld3
import Derived.Laws.Rows
import Derived.Lib.AppendStr
import Derived.ArgAppend
import Derived.Laws.IdiomCopy
import Derived.OrdersHeld
import Derived.Laws.BitsLemmas
import Derived.RowKit
import Derived.Test.YtcdjeimjbbknjaaFs3
namespace Go.Proofs.Ytcdjeimjbbknjaa.PAll
open Go.RowKit Go.Proofs.YtcdjeimjbbknjaaW.PrintWords Go.Proofs.YtcdjeimjbbknjaaW.PrintLast Go.Proofs.YtcdjeimjbbknjaaW.PrintMore
attribute [local go_sem] max2_int min2_int max_two min_two max_three min_three max_four min_four   -- for this text's walks alone
set_option linter.unusedVariables false
set_option linter.unusedSimpArgs false

attribute [local go_sem high] eqA86
/-! ### fuzzy_Distance: function 49 -/
def fuzzy_Distance.l0 : Nat → List Int → List Int → List Int → Int → Int → Option (Int)
  | 0, _, _, _, _, _ => none
  | k + 1, x1, x5, x10, x11, x12 => if x12 < x11 then (if 0 ≤ x12 then (if x12 < (x10.length : Int) then ((fuzzy_row.f x5 x1 (rd x10 x12)).bind fun t526 => (fuzzy_Distance.l0 k x1 t526 x10 x11 (wrap64 (x12 + 1)))) else (none)) else (none)) else (if 0 ≤ (x1.length : Int) then (if (x1.length : Int) < (x5.length : Int) then (some (rd x5 (x1.length : Int))) else (none)) else (none))
def fuzzy_Distance.f (k : Nat) (l0 : List Int) (l1 : List Int) : Option (Int) := (fuzzy_first.f l1).bind fun t522 => (fuzzy_Distance.l0 k l1 t522 l0 (l0.length : Int) 0)
theorem fuzzy_Distance.mono_l : ∀ k, (∀ y0 y1 y2 y3 y4, LeO (fuzzy_Distance.l0 k y0 y1 y2 y3 y4) (fuzzy_Distance.l0 (k + 1) y0 y1 y2 y3 y4))
  | 0 => fun _ _ _ _ _ r h => by simp [fuzzy_Distance.l0] at h
  | k + 1 => by
    have ih0 := fuzzy_Distance.mono_l k
    · intro y0 y1 y2 y3 y4
      unfold fuzzy_Distance.l0
      repeat' first
      | (with_reducible exact ih0 _ _ _ _ _)
      | (with_reducible exact LeO.refl _)
      | (with_reducible exact LeO.none _)
      | (with_reducible refine LeO.ite ?_ ?_)
      | (with_reducible refine LeO.bind ?_ (fun _ => ?_))
      | exact ih0 _ _ _ _ _
      | exact LeO.none _
      | refine LeO.ite ?_ ?_
      | refine LeO.bind ?_ (fun _ => ?_)
theorem fuzzy_Distance.mono : ∀ a0 a1 k, LeO (fuzzy_Distance.f k a0 a1) (fuzzy_Distance.f (k + 1) a0 a1) := by
  intro a0 a1 k
  have ih0 := fuzzy_Distance.mono_l k
  unfold fuzzy_Distance.f
  repeat' first
      | (with_reducible exact ih0 _ _ _ _ _)
      | (with_reducible exact LeO.refl _)
      | (with_reducible exact LeO.none _)
      | (with_reducible refine LeO.ite ?_ ?_)
      | (with_reducible refine LeO.bind ?_ (fun _ => ?_))
      | exact ih0 _ _ _ _ _
      | exact LeO.none _
      | refine LeO.ite ?_ ?_
      | refine LeO.bind ?_ (fun _ => ?_)
set_option maxHeartbeats 8000000 in
set_option maxRecDepth 100000 in
theorem fuzzy_Distance.calls (k : Nat) (A0 : Option Addr) (c0 : Nat) (l0 : List Int) (A1 : Option Addr) (c1 : Nat) (l1 : List Int) (r : Int) (w : World) (hr0 : Kd.C (Kd.int .i64) w A0 l0.length l0) (hc0 : l0.length ≤ c0) (hr1 : Kd.C (Kd.int .i64) w A1 l1.length l1) (hc1 : l1.length ≤ c1) (h : fuzzy_Distance.f k l0 l1 = some r) :
    Calls Try.prog 49 #[.slice A0 l0.length c0, .slice A1 l1.length c1] w fun e w' => e = .returned (.int .i64 r) ∧ Below w.heap.size w w' := by
  have HR0 := Aside0.mk hr0
  have HC0 := Aside0.mk hc0
  clear hr0 hc0
  have HR1 := Aside0.mk hr1
  have HC1 := Aside0.mk hc1
  clear hr1 hc1
  have HB := Aside0.mk (Below.refl w.heap.size w)
  have H : ((fuzzy_first.f l1).bind fun t522 => (fuzzy_Distance.l0 k l1 t522 l0 (l0.length : Int) 0)) = some r := h
  clear h
  replace H := Option.bind_eq_some_iff.mp H
  obtain ⟨t522, A30, H⟩ := H
  replace H : (fuzzy_Distance.l0 k l1 t522 l0 (l0.length : Int) 0) = some r := H
  have A3 := Aside0.mk A30
  clear A30
  have H' := Aside0.mk H
  clear H
  go_enter Try.func49, Try.ntmps49
  go_wp2_with (first | ((with_reducible refine gate_callee (f := 94) rfl ?_); refine goesL_ (some 9) rfl rfl Try.func94 (by kernel_rfl) rfl #[.slice A1 l1.length c1] rfl (by (try simp only [List.map_toArray, List.map_cons, List.map_nil]); first | done | rfl | (simp only [List.length_drop, List.length_take]; rfl)) ?_; (with_reducible refine (fuzzy_first.calls _ _ l1 t522 _ ?side1 ?side2 A3.out).mono ?_); (case side1 => repeat (first | exact HR1.out | (with_reducible refine Kd.C_alloc ?_ _) | (with_reducible refine Kd.C_drewN ?_ _) | (with_reducible refine Kd.C_drew ?_))); (case side2 => exact HC1.out); rintro e w4 ⟨v523, rfl, ho0, hb⟩; refine ⟨_, rfl, ?_⟩; have n0_ := Aside0.mk (Kd.R_lower ho0 (below_size (by repeat (first | (with_reducible first | exact HB.out | apply below_alloc | apply pw_below_drewN | apply below_drew1) | exact HB.out)))); have n1_ := Aside0.mk (below_step (by repeat (first | (with_reducible first | exact HB.out | apply below_alloc | apply pw_below_drewN | apply below_drew1) | exact HB.out)) hb); clear HB; have HO524 := n0_; have HB := n1_; clear n0_ n1_; (try clear hb); (try clear hb2); (try clear hk); (try clear hi); (try clear ho0)))
  go_loopg [5, 12] k (fun kq v5 v12 w' => ∃ (x5_1 : List Int) (x12_1 : Int), v12 = .int .i64 x12_1 ∧ Aside0 (fuzzy_Distance.l0 kq l1 x5_1 l0 (l0.length : Int) x12_1 = some r) ∧ Aside0 (kq ≤ k) ∧ Aside0 (Kd.R (Kd.int .i64) 3 w' w.heap.size (fun _ => True) v5 x5_1) ∧ Aside0 (Below w.heap.size w w'))
  case atStart => exact ⟨(t522), (0), (by first | rfl | (simp; done) | (simp [*]; done)), H', ⟨Nat.le_refl _⟩, ⟨by (with_reducible repeat (first | apply Kd.R_alloc | apply Kd.R_drewN | apply Kd.R_drew)); exact HO524.out⟩, ⟨by repeat (first | (with_reducible first | exact HB.out | apply below_alloc | apply pw_below_drewN | apply below_drew1) | exact HB.out)⟩⟩
  case round =>
    clear H'
    try clear c1
    try clear p2
    try clear c4
    obtain ⟨x5_1, x12_1, rfl, HA, HK1, HO_5, HB⟩ := hrel
    cases gk with
    | zero => exact absurd HA.out (by simp [fuzzy_Distance.l0])
    | succ k1 =>
      have H := HA.out
      clear HA
      simp only [fuzzy_Distance.l0] at H
      by_cases c5 : x12_1 < (l0.length : Int)
      · rw [if_pos c5] at H
        have c5b0 : decide (x12_1 < (l0.length : Int)) = true := decide_eq_true c5
        clear c5
        by_cases c6 : 0 ≤ x12_1
        · rw [if_pos c6] at H
          have c6b0 : decide (0 ≤ x12_1) = true := decide_eq_true c6
          clear c6
          by_cases c7 : x12_1 < (l0.length : Int)
          · rw [if_pos c7] at H
            have c7b0 : decide (x12_1 < (l0.length : Int)) = true := decide_eq_true c7
            clear c7
            replace H := Option.bind_eq_some_iff.mp H
            obtain ⟨t526, A80, H⟩ := H
            replace H : (fuzzy_Distance.l0 k1 l1 t526 l0 (l0.length : Int) (wrap64 (x12_1 + 1))) = some r := H
            have A8 := Aside0.mk A80
            clear A80
            have H' := Aside0.mk H
            clear H
            have p525 : 0 ≤ (x12_1 : Int) := of_decide_eq_true (by first | (with_reducible assumption) | assumption)
            have q525 : x12_1 < (l0.length : Int) := of_decide_eq_true (by first | (with_reducible assumption) | assumption)
            obtain ⟨ad525, e525, hx525_0⟩ := Kd.at_int HR0.out x12_1 p525 q525
            cases e525
            replace hx525_0 := (HB.out.cell (World.block_lt_of_cell? w _ hx525_0)).trans hx525_0
            replace p525 := eq_true p525
            replace q525 := eq_true q525
            obtain ⟨Ao9, co9, eo9⟩ := Kd.R_slice HO_5.out
            subst eo9
            go_wp2_with (first | ((with_reducible refine gate_callee (f := 95) rfl ?_); refine goesL_ (some 19) rfl rfl Try.func95 (by kernel_rfl) rfl #[.slice Ao9 x5_1.length co9, .slice A1 l1.length c1, .int .i64 (rd l0 x12_1)] rfl (by (try simp only [List.map_toArray, List.map_cons, List.map_nil]); first | done | rfl | (simp only [List.length_drop, List.length_take]; rfl)) ?_; (with_reducible refine (fuzzy_row.calls _ _ x5_1 _ _ l1 (rd l0 x12_1) t526 _ ?side1 ?side2 ?side3 ?side4 A8.out).mono ?_); (case side1 => repeat (first | exact (Kd.R_reads' HO_5.out).2.2 | (with_reducible refine Kd.C_alloc ?_ _) | (with_reducible refine Kd.C_drewN ?_ _) | (with_reducible refine Kd.C_drew ?_))); (case side2 => exact (Kd.R_reads' HO_5.out).2.1); (case side3 => repeat (first | exact (Kd.C_below HR1.out HB.out) | (with_reducible refine Kd.C_alloc ?_ _) | (with_reducible refine Kd.C_drewN ?_ _) | (with_reducible refine Kd.C_drew ?_))); (case side4 => exact HC1.out); rintro e w10 ⟨v527, rfl, ho0, hb⟩; refine ⟨_, rfl, ?_⟩; have n0_ := Aside0.mk (Kd.R_elder' (by (with_reducible repeat (first | apply Kd.R_alloc | apply Kd.R_drewN | apply Kd.R_drew)); exact HO_5.out) (Kd.R_base ho0) hb); have n1_ := Aside0.mk (Kd.R_lower (Kd.R_new' ho0 (Kd.R_lt (by (with_reducible repeat (first | apply Kd.R_alloc | apply Kd.R_drewN | apply Kd.R_drew)); exact HO_5.out))) (below_size (by repeat (first | (with_reducible first | exact HB.out | apply below_alloc | apply pw_below_drewN | apply below_drew1) | exact HB.out)))); have n2_ := Aside0.mk (below_step (by repeat (first | (with_reducible first | exact HB.out | apply below_alloc | apply pw_below_drewN | apply below_drew1) | exact HB.out)) hb); clear HO_5; clear HB; have HO_5 := n0_; have HO528 := n1_; have HB := n2_; clear n0_ n1_ n2_; (try clear hb); (try clear hb2); (try clear hk); (try clear hi); (try clear ho0)))
            go_roundg k1
            case measure => have := HK1.out; omega
            case rel => exact ⟨(t526), (wrap64 (x12_1 + 1)), (by first | rfl | (simp; done) | (simp [*]; done)), H', ⟨by have := HK1.out; omega⟩, ⟨by (with_reducible repeat (first | apply Kd.R_alloc | apply Kd.R_drewN | apply Kd.R_drew)); exact Kd.R_mono HO528.out (fun _ hk => trivial)⟩, ⟨by repeat (first | (with_reducible first | exact HB.out | apply below_alloc | apply pw_below_drewN | apply below_drew1) | exact HB.out)⟩⟩
          · rw [if_neg c7] at H
            exact absurd H (by simp)
        · rw [if_neg c6] at H
          exact absurd H (by simp)
      · rw [if_neg c5] at H
        have c5b0 : decide (x12_1 < (l0.length : Int)) = false := decide_eq_false c5
        clear c5
        by_cases c11 : 0 ≤ (l1.length : Int)
        · rw [if_pos c11] at H
          have c11b0 : decide (0 ≤ (l1.length : Int)) = true := decide_eq_true c11
          have c11b1 : decide (0 ≤ l1.length) = true := decide_eq_true (by omega)
          clear c11
          by_cases c12 : (l1.length : Int) < (x5_1.length : Int)
          · rw [if_pos c12] at H
            have c12b0 : decide ((l1.length : Int) < (x5_1.length : Int)) = true := decide_eq_true c12
            have c12b1 : decide (l1.length < x5_1.length) = true := decide_eq_true (Int.ofNat_lt.mp c12)
            clear c12
            obtain rfl := Option.some.inj H
            obtain ⟨Ao13, co13, eo13⟩ := Kd.R_slice HO_5.out
            subst eo13
            have p529 : 0 ≤ ((l1.length : Int) : Int) := of_decide_eq_true (by first | (with_reducible assumption) | assumption)
            have q529 : (l1.length : Int) < (x5_1.length : Int) := of_decide_eq_true (by first | (with_reducible assumption) | assumption)
            obtain ⟨ad529, e529, hx529_0⟩ := Kd.at_int (Kd.R_reads' HO_5.out).2.2 (l1.length : Int) p529 q529
            cases e529
            (try simp only [Go.IntWalk.toNatUp] at hx529_0)
            replace p529 := eq_true p529
            replace q529 := eq_true q529
            go_wp2
            go_ret
            exact ⟨by first | rfl | (simp [errW_none, errW_some] <;> rfl) | (simp [*, errW_none, errW_some] <;> rfl), by repeat (first | (with_reducible first | exact HB.out | apply below_alloc | apply pw_below_drewN | apply below_drew1) | exact HB.out)⟩
          · rw [if_neg c12] at H
            exact absurd H (by simp)
        · rw [if_neg c11] at H
          exact absurd H (by simp)

/-! ### fuzzy_Within: function 50 -/
def fuzzy_Within.f (k : Nat) (l0 : List Int) (l1 : List Int) (a2 : Int) : Option (Bool) := (fuzzy_Distance.f k l0 l1).bind fun t530 => (some (decide (t530 ≤ a2)))
theorem fuzzy_Within.mono : ∀ a0 a1 a2 k, LeO (fuzzy_Within.f k a0 a1 a2) (fuzzy_Within.f (k + 1) a0 a1 a2) := by
  intro a0 a1 a2 k
  unfold fuzzy_Within.f
  repeat' first
      | (with_reducible exact fuzzy_Distance.mono _ _ _)
      | (with_reducible exact LeO.refl _)
      | (with_reducible exact LeO.none _)
      | (with_reducible refine LeO.ite ?_ ?_)
      | (with_reducible refine LeO.bind ?_ (fun _ => ?_))
      | exact fuzzy_Distance.mono _ _ _
      | exact LeO.none _
      | refine LeO.ite ?_ ?_
      | refine LeO.bind ?_ (fun _ => ?_)
set_option maxHeartbeats 8000000 in
set_option maxRecDepth 100000 in
theorem fuzzy_Within.calls (k : Nat) (A0 : Option Addr) (c0 : Nat) (l0 : List Int) (A1 : Option Addr) (c1 : Nat) (l1 : List Int) (a2 : Int) (r : Bool) (w : World) (hr0 : Kd.C (Kd.int .i64) w A0 l0.length l0) (hc0 : l0.length ≤ c0) (hr1 : Kd.C (Kd.int .i64) w A1 l1.length l1) (hc1 : l1.length ≤ c1) (h : fuzzy_Within.f k l0 l1 a2 = some r) :
    Calls Try.prog 50 #[.slice A0 l0.length c0, .slice A1 l1.length c1, .int .i64 a2] w fun e w' => e = .returned (.bool r) ∧ Below w.heap.size w w' := by
  have HR0 := Aside0.mk hr0
  have HC0 := Aside0.mk hc0
  clear hr0 hc0
  have HR1 := Aside0.mk hr1
  have HC1 := Aside0.mk hc1
  clear hr1 hc1
  have HB := Aside0.mk (Below.refl w.heap.size w)
  have H : ((fuzzy_Distance.f k l0 l1).bind fun t530 => (some (decide (t530 ≤ a2)))) = some r := h
  clear h
  replace H := Option.bind_eq_some_iff.mp H
  obtain ⟨t530, A40, H⟩ := H
  replace H : (some (decide (t530 ≤ a2))) = some r := H
  have A4 := Aside0.mk A40
  clear A40
  obtain rfl := Option.some.inj H
  go_enter Try.func50, Try.ntmps50
  go_wp2_with (first | ((with_reducible refine gate_callee (f := 49) rfl ?_); refine goesL_ (some 9) rfl rfl Try.func49 (by kernel_rfl) rfl #[.slice A0 l0.length c0, .slice A1 l1.length c1] rfl (by (try simp only [List.map_toArray, List.map_cons, List.map_nil]); first | done | rfl | (simp only [List.length_drop, List.length_take]; rfl)) ?_; (with_reducible refine (fuzzy_Distance.calls k _ _ l0 _ _ l1 t530 _ ?side1 ?side2 ?side3 ?side4 A4.out).mono ?_); (case side1 => repeat (first | exact HR0.out | (with_reducible refine Kd.C_alloc ?_ _) | (with_reducible refine Kd.C_drewN ?_ _) | (with_reducible refine Kd.C_drew ?_))); (case side2 => exact HC0.out); (case side3 => repeat (first | exact HR1.out | (with_reducible refine Kd.C_alloc ?_ _) | (with_reducible refine Kd.C_drewN ?_ _) | (with_reducible refine Kd.C_drew ?_))); (case side4 => exact HC1.out); rintro e w5 ⟨rfl, hb⟩; refine ⟨_, rfl, ?_⟩; have n0_ := Aside0.mk (below_step (by repeat (first | (with_reducible first | exact HB.out | apply below_alloc | apply pw_below_drewN | apply below_drew1) | exact HB.out)) hb); clear HB; have HB := n0_; clear n0_; (try clear hb); (try clear hb2); (try clear hk); (try clear hi)))
  go_ret
  exact ⟨by first | rfl | (simp [errW_none, errW_some] <;> rfl) | (simp [*, errW_none, errW_some] <;> rfl), by repeat (first | (with_reducible first | exact HB.out | apply below_alloc | apply pw_below_drewN | apply below_drew1) | exact HB.out)⟩






















/-! ### wordbookref16_SameHits: function 57 -/
def wordbookref16_SameHits.l0 : Nat → List (S86) → List (S86) → Int → Option (Bool)
  | 0, _, _, _ => none
  | k + 1, x0, x1, x5 => if x5 < (x0.length : Int) then (if 0 ≤ x5 then (if x5 < (x1.length : Int) then (if (!(((rd_T86 x0 x5).f0) == ((rd_T86 x1 x5).f0)) || (!(((rd_T86 x0 x5).f1) == ((rd_T86 x1 x5).f1)))) = true then (some false) else (wordbookref16_SameHits.l0 k x0 x1 (wrap64 (x5 + 1)))) else (none)) else (none)) else (some true)
def wordbookref16_SameHits.f (k : Nat) (l0 : List (S86)) (l1 : List (S86)) : Option (Bool) := if (l0.length : Int) = (l1.length : Int) then (wordbookref16_SameHits.l0 k l0 l1 0) else (some false)
theorem wordbookref16_SameHits.mono_l : ∀ k, (∀ y0 y1 y2, LeO (wordbookref16_SameHits.l0 k y0 y1 y2) (wordbookref16_SameHits.l0 (k + 1) y0 y1 y2))
  | 0 => fun _ _ _ r h => by simp [wordbookref16_SameHits.l0] at h
  | k + 1 => by
    have ih0 := wordbookref16_SameHits.mono_l k
    · intro y0 y1 y2
      unfold wordbookref16_SameHits.l0
      repeat' first
      | (with_reducible exact ih0 _ _ _)
      | (with_reducible exact LeO.refl _)
      | (with_reducible exact LeO.none _)
      | (with_reducible refine LeO.ite ?_ ?_)
      | (with_reducible refine LeO.bind ?_ (fun _ => ?_))
      | exact ih0 _ _ _
      | exact LeO.none _
      | refine LeO.ite ?_ ?_
      | refine LeO.bind ?_ (fun _ => ?_)
theorem wordbookref16_SameHits.mono : ∀ a0 a1 k, LeO (wordbookref16_SameHits.f k a0 a1) (wordbookref16_SameHits.f (k + 1) a0 a1) := by
  intro a0 a1 k
  have ih0 := wordbookref16_SameHits.mono_l k
  unfold wordbookref16_SameHits.f
  repeat' first
      | (with_reducible exact ih0 _ _ _)
      | (with_reducible exact LeO.refl _)
      | (with_reducible exact LeO.none _)
      | (with_reducible refine LeO.ite ?_ ?_)
      | (with_reducible refine LeO.bind ?_ (fun _ => ?_))
      | exact ih0 _ _ _
      | exact LeO.none _
      | refine LeO.ite ?_ ?_
      | refine LeO.bind ?_ (fun _ => ?_)
set_option maxHeartbeats 8000000 in
set_option maxRecDepth 100000 in
theorem wordbookref16_SameHits.calls (k : Nat) (A0 : Option Addr) (c0 : Nat) (l0 : List (S86)) (A1 : Option Addr) (c1 : Nat) (l1 : List (S86)) (r : Bool) (w : World) (hr0 : Kd.C k86 w A0 l0.length l0) (hc0 : l0.length ≤ c0) (hr1 : Kd.C k86 w A1 l1.length l1) (hc1 : l1.length ≤ c1) (h : wordbookref16_SameHits.f k l0 l1 = some r) :
    Calls Try.prog 57 #[.slice A0 l0.length c0, .slice A1 l1.length c1] w fun e w' => e = .returned (.bool r) ∧ Drawn0 w w' := by
  have hu86 := Try.underlying86
  have HR0 := Aside0.mk hr0
  have HC0 := Aside0.mk hc0
  clear hr0 hc0
  have HR1 := Aside0.mk hr1
  have HC1 := Aside0.mk hc1
  clear hr1 hc1
  have H : (if (l0.length : Int) = (l1.length : Int) then (wordbookref16_SameHits.l0 k l0 l1 0) else (some false)) = some r := h
  clear h
  by_cases c3 : (l0.length : Int) = (l1.length : Int)
  · rw [if_pos c3] at H
    have c3b0 : ((l0.length : Int) == (l1.length : Int)) = true := beq_iff_eq.mpr c3
    have c3b1 : ((l0.length : Int) != (l1.length : Int)) = false := bne_eq_false_iff_eq.mpr c3
    have c3b2 : (l0.length == l1.length) = true := by first | simpa using c3 | (simp at c3 ⊢; omega)
    clear c3
    have H' := Aside0.mk H
    clear H
    go_enter Try.func57, Try.ntmps57
    go_wp2
    repeat (go_quiet (fail); try go_wp2)
    go_loopg [5] k (fun kq v5 w' => ∃ (x5_1 : Int), v5 = .int .i64 x5_1 ∧ Aside0 (wordbookref16_SameHits.l0 kq l0 l1 x5_1 = some r) ∧ Aside0 (kq ≤ k) ∧ Drawn0 w w')
    case atStart => exact ⟨(0), (by first | rfl | (simp; done) | (simp [*]; done)), H', ⟨Nat.le_refl _⟩, by repeat (first | exact Drawn0.refl _ | apply Drawn0.step)⟩
    case round =>
      clear H'
      try clear c1
      try clear p2
      try clear c3
      try clear c3b0
      try clear c3b1
      try clear c3b2
      obtain ⟨x5_1, rfl, HA, HK1, ⟨m1, rfl⟩⟩ := hrel
      cases gk with
      | zero => exact absurd HA.out (by simp [wordbookref16_SameHits.l0])
      | succ k1 =>
        have H := HA.out
        clear HA
        simp only [wordbookref16_SameHits.l0] at H
        by_cases c4 : x5_1 < (l0.length : Int)
        · rw [if_pos c4] at H
          have c4b0 : decide (x5_1 < (l0.length : Int)) = true := decide_eq_true c4
          clear c4
          by_cases c5 : 0 ≤ x5_1
          · rw [if_pos c5] at H
            have c5b0 : decide (0 ≤ x5_1) = true := decide_eq_true c5
            clear c5
            by_cases c6 : x5_1 < (l1.length : Int)
            · rw [if_pos c6] at H
              have c6b0 : decide (x5_1 < (l1.length : Int)) = true := decide_eq_true c6
              clear c6
              by_cases c7 : (!(((rd_T86 l0 x5_1).f0) == ((rd_T86 l1 x5_1).f0)) || (!(((rd_T86 l0 x5_1).f1) == ((rd_T86 l1 x5_1).f1)))) = true
              · rw [if_pos c7] at H
                have c7b0 : (!(((rd_T86 l0 x5_1).f0) == ((rd_T86 l1 x5_1).f0)) || (!(((rd_T86 l0 x5_1).f1) == ((rd_T86 l1 x5_1).f1)))) = true := c7
                clear c7
                obtain rfl := Option.some.inj H
                have p531 : 0 ≤ (x5_1 : Int) := of_decide_eq_true (by first | (with_reducible assumption) | assumption)
                have q531 : x5_1 < (l0.length : Int) := of_decide_eq_true (by first | (with_reducible assumption) | assumption)
                obtain ⟨ad531, e531, hx531_0, hx531_1⟩ := at_T86 HR0.out x5_1 p531 q531
                cases e531
                replace p531 := eq_true p531
                replace q531 := eq_true q531
                have p532 : 0 ≤ (x5_1 : Int) := of_decide_eq_true (by first | (with_reducible assumption) | assumption)
                have q532 : x5_1 < (l1.length : Int) := of_decide_eq_true (by first | (with_reducible assumption) | assumption)
                obtain ⟨ad532, e532, hx532_0, hx532_1⟩ := at_T86 HR1.out x5_1 p532 q532
                cases e532
                replace p532 := eq_true p532
                replace q532 := eq_true q532
                go_wp2
                repeat (go_quiet (fail); try go_wp2)
                go_ret
                exact ⟨by first | rfl | (simp; done) | (simp [*]; done), by repeat (first | exact Drawn0.refl _ | apply Drawn0.step)⟩
              · rw [if_neg c7] at H
                have c7b0 : (!(((rd_T86 l0 x5_1).f0) == ((rd_T86 l1 x5_1).f0)) || (!(((rd_T86 l0 x5_1).f1) == ((rd_T86 l1 x5_1).f1)))) = false := by simpa using c7
                clear c7
                have H' := Aside0.mk H
                clear H
                have p531 : 0 ≤ (x5_1 : Int) := of_decide_eq_true (by first | (with_reducible assumption) | assumption)
                have q531 : x5_1 < (l0.length : Int) := of_decide_eq_true (by first | (with_reducible assumption) | assumption)
                obtain ⟨ad531, e531, hx531_0, hx531_1⟩ := at_T86 HR0.out x5_1 p531 q531
                cases e531
                replace p531 := eq_true p531
                replace q531 := eq_true q531
                have p532 : 0 ≤ (x5_1 : Int) := of_decide_eq_true (by first | (with_reducible assumption) | assumption)
                have q532 : x5_1 < (l1.length : Int) := of_decide_eq_true (by first | (with_reducible assumption) | assumption)
                obtain ⟨ad532, e532, hx532_0, hx532_1⟩ := at_T86 HR1.out x5_1 p532 q532
                cases e532
                replace p532 := eq_true p532
                replace q532 := eq_true q532
                go_wp2
                repeat (go_quiet (fail); try go_wp2)
                go_roundg k1
                case measure => have := HK1.out; omega
                case rel => exact ⟨(wrap64 (x5_1 + 1)), (by first | rfl | (simp; done) | (simp [*]; done)), H', ⟨by have := HK1.out; omega⟩, by repeat (first | exact Drawn0.refl _ | apply Drawn0.step)⟩
            · rw [if_neg c6] at H
              exact absurd H (by simp)
          · rw [if_neg c5] at H
            exact absurd H (by simp)
        · rw [if_neg c4] at H
          have c4b0 : decide (x5_1 < (l0.length : Int)) = false := decide_eq_false c4
          clear c4
          obtain rfl := Option.some.inj H
          go_wp2
          repeat (go_quiet (fail); try go_wp2)
          go_ret
          exact ⟨by first | rfl | (simp; done) | (simp [*]; done), by repeat (first | exact Drawn0.refl _ | apply Drawn0.step)⟩
  · rw [if_neg c3] at H
    have c3b0 : ((l0.length : Int) == (l1.length : Int)) = false := beq_eq_false_iff_ne.mpr c3
    have c3b1 : ((l0.length : Int) != (l1.length : Int)) = true := bne_iff_ne.mpr c3
    have c3b2 : (l0.length == l1.length) = false := by first | simpa using c3 | (simp at c3 ⊢; omega)
    obtain rfl := Option.some.inj H
    go_enter Try.func57, Try.ntmps57
    go_wp2
    repeat (go_quiet (fail); try go_wp2)
    go_ret
    exact ⟨by first | rfl | (simp; done) | (simp [*]; done), by repeat (first | exact Drawn0.refl _ | apply Drawn0.step)⟩



/-! ### wordbookref01_At: function 61 -/
def wordbookref01_At.f (l0 : List Int) (a1 : Int) (a2 : Int) : Option (Int) := if a1 < 0 then (some 0) else (if a1 ≥ (l0.length : Int) then (some 0) else (if 0 ≤ a1 then (if a1 < (l0.length : Int) then ((wordbookref01_Around.f (rd l0 a1) a2).bind fun t574 => (some t574)) else (none)) else (none)))
set_option maxHeartbeats 8000000 in
set_option maxRecDepth 100000 in
theorem wordbookref01_At.calls (A0 : Option Addr) (c0 : Nat) (l0 : List Int) (a1 : Int) (a2 : Int) (r : Int) (w : World) (hr0 : Kd.C (Kd.int .i64) w A0 l0.length l0) (hc0 : l0.length ≤ c0) (h : wordbookref01_At.f l0 a1 a2 = some r) :
    Calls Try.prog 61 #[.slice A0 l0.length c0, .int .i64 a1, .int .i64 a2] w fun e w' => e = .returned (.int .i64 r) ∧ Drawn0 w w' := by
  have HR0 := Aside0.mk hr0
  have HC0 := Aside0.mk hc0
  clear hr0 hc0
  have H : (if a1 < 0 then (some 0) else (if a1 ≥ (l0.length : Int) then (some 0) else (if 0 ≤ a1 then (if a1 < (l0.length : Int) then ((wordbookref01_Around.f (rd l0 a1) a2).bind fun t574 => (some t574)) else (none)) else (none)))) = some r := h
  clear h
  by_cases c4 : a1 < 0
  · rw [if_pos c4] at H
    have c4b0 : decide (a1 < 0) = true := decide_eq_true c4
    clear c4
    obtain rfl := Option.some.inj H
    go_enter Try.func61, Try.ntmps61
    go_wp2
    go_ret
    exact ⟨by first | rfl | (simp; done) | (simp [*]; done), by repeat (first | exact Drawn0.refl _ | apply Drawn0.step)⟩
  · rw [if_neg c4] at H
    have c4b0 : decide (a1 < 0) = false := decide_eq_false c4
    clear c4
    by_cases c5 : a1 ≥ (l0.length : Int)
    · rw [if_pos c5] at H
      have c5b0 : decide ((l0.length : Int) ≤ a1) = true := decide_eq_true c5
      clear c5
      obtain rfl := Option.some.inj H
      go_enter Try.func61, Try.ntmps61
      go_wp2
      go_ret
      exact ⟨by first | rfl | (simp; done) | (simp [*]; done), by repeat (first | exact Drawn0.refl _ | apply Drawn0.step)⟩
    · rw [if_neg c5] at H
      have c5b0 : decide ((l0.length : Int) ≤ a1) = false := decide_eq_false c5
      clear c5
      by_cases c6 : 0 ≤ a1
      · rw [if_pos c6] at H
        have c6b0 : decide (0 ≤ a1) = true := decide_eq_true c6
        clear c6
        by_cases c7 : a1 < (l0.length : Int)
        · rw [if_pos c7] at H
          have c7b0 : decide (a1 < (l0.length : Int)) = true := decide_eq_true c7
          clear c7
          replace H := Option.bind_eq_some_iff.mp H
          obtain ⟨t574, A80, H⟩ := H
          replace H : (some t574) = some r := H
          have A8 := Aside0.mk A80
          clear A80
          obtain rfl := Option.some.inj H
          have p573 : 0 ≤ (a1 : Int) := of_decide_eq_true (by first | (with_reducible assumption) | assumption)
          have q573 : a1 < (l0.length : Int) := of_decide_eq_true (by first | (with_reducible assumption) | assumption)
          obtain ⟨ad573, e573, hx573_0⟩ := Kd.at_int HR0.out a1 p573 q573
          cases e573
          replace p573 := eq_true p573
          replace q573 := eq_true q573
          go_enter Try.func61, Try.ntmps61
          go_wp2_with (first | ((with_reducible refine gate_callee (f := 18) rfl ?_); refine goesL_ (some 20) rfl rfl Try.func18 (by kernel_rfl) rfl #[.int .i64 (rd l0 a1), .int .i64 a2] rfl (by (try simp only [List.map_toArray, List.map_cons, List.map_nil]); first | done | rfl | (simp only [List.length_drop, List.length_take]; rfl)) ?_; (with_reducible refine (wordbookref01_Around.calls (rd l0 a1) a2 t574 _ A8.out).mono ?_); rintro e w' ⟨rfl, ⟨nd, rfl⟩⟩; refine ⟨_, rfl, ?_⟩))
          go_ret
          exact ⟨by first | rfl | (simp; done) | (simp [*]; done), by repeat (first | exact Drawn0.refl _ | apply Drawn0.step)⟩
        · rw [if_neg c7] at H
          exact absurd H (by simp)
      · rw [if_neg c6] at H
        exact absurd H (by simp)

/-! ### wordbookref16_Compare: function 58 -/
mutual
def wordbookref16_Compare.l0 : Nat → List Int → List Int → Int → Option (Int)
  | 0, _, _, _ => none
  | k + 1, x0, x1, x5 => if x5 < (x0.length : Int) then (wordbookref16_Compare.j1 k x0 x1 x5 (decide (x5 < (x1.length : Int)))) else (wordbookref16_Compare.j1 k x0 x1 x5 false)
def wordbookref16_Compare.j1 : Nat → List Int → List Int → Int → Bool → Option (Int)
  | 0, _, _, _, _ => none
  | k + 1, x0, x1, x5, x15 => if x15 = true then (if 0 ≤ x5 then (if x5 < (x0.length : Int) then (if x5 < (x1.length : Int) then (if (rd x0 x5) < (rd x1 x5) then (some (-1)) else (if (rd x0 x5) > (rd x1 x5) then (some 1) else (wordbookref16_Compare.l0 k x0 x1 (wrap64 (x5 + 1))))) else (none)) else (none)) else (none)) else (if (x0.length : Int) < (x1.length : Int) then (some (-1)) else (if (x0.length : Int) > (x1.length : Int) then (some 1) else (some 0)))
end
def wordbookref16_Compare.f (k : Nat) (l0 : List Int) (l1 : List Int) : Option (Int) := wordbookref16_Compare.l0 k l0 l1 0
theorem wordbookref16_Compare.mono_l : ∀ k, (∀ y0 y1 y2, LeO (wordbookref16_Compare.l0 k y0 y1 y2) (wordbookref16_Compare.l0 (k + 1) y0 y1 y2)) ∧ (∀ y0 y1 y2 y3, LeO (wordbookref16_Compare.j1 k y0 y1 y2 y3) (wordbookref16_Compare.j1 (k + 1) y0 y1 y2 y3))
  | 0 => ⟨fun _ _ _ r h => by simp [wordbookref16_Compare.l0] at h, fun _ _ _ _ r h => by simp [wordbookref16_Compare.j1] at h⟩
  | k + 1 => by
    obtain ⟨ih0, ih1⟩ := wordbookref16_Compare.mono_l k
    refine ⟨?_, ?_⟩
    · intro y0 y1 y2
      unfold wordbookref16_Compare.l0
      repeat' first
      | (with_reducible exact ih0 _ _ _)
      | (with_reducible exact ih1 _ _ _ _)
      | (with_reducible exact LeO.refl _)
      | (with_reducible exact LeO.none _)
      | (with_reducible refine LeO.ite ?_ ?_)
      | (with_reducible refine LeO.bind ?_ (fun _ => ?_))
      | exact ih0 _ _ _
      | exact ih1 _ _ _ _
      | exact LeO.none _
      | refine LeO.ite ?_ ?_
      | refine LeO.bind ?_ (fun _ => ?_)
    · intro y0 y1 y2 y3
      unfold wordbookref16_Compare.j1
      repeat' first
      | (with_reducible exact ih0 _ _ _)
      | (with_reducible exact ih1 _ _ _ _)
      | (with_reducible exact LeO.refl _)
      | (with_reducible exact LeO.none _)
      | (with_reducible refine LeO.ite ?_ ?_)
      | (with_reducible refine LeO.bind ?_ (fun _ => ?_))
      | exact ih0 _ _ _
      | exact ih1 _ _ _ _
      | exact LeO.none _
      | refine LeO.ite ?_ ?_
      | refine LeO.bind ?_ (fun _ => ?_)
theorem wordbookref16_Compare.mono : ∀ a0 a1 k, LeO (wordbookref16_Compare.f k a0 a1) (wordbookref16_Compare.f (k + 1) a0 a1) := by
  intro a0 a1 k
  obtain ⟨ih0, ih1⟩ := wordbookref16_Compare.mono_l k
  unfold wordbookref16_Compare.f
  repeat' first
      | (with_reducible exact ih0 _ _ _)
      | (with_reducible exact ih1 _ _ _ _)
      | (with_reducible exact LeO.refl _)
      | (with_reducible exact LeO.none _)
      | (with_reducible refine LeO.ite ?_ ?_)
      | (with_reducible refine LeO.bind ?_ (fun _ => ?_))
      | exact ih0 _ _ _
      | exact ih1 _ _ _ _
      | exact LeO.none _
      | refine LeO.ite ?_ ?_
      | refine LeO.bind ?_ (fun _ => ?_)
set_option maxHeartbeats 8000000 in
set_option maxRecDepth 100000 in
theorem wordbookref16_Compare.calls (k : Nat) (A0 : Option Addr) (c0 : Nat) (l0 : List Int) (A1 : Option Addr) (c1 : Nat) (l1 : List Int) (r : Int) (w : World) (hr0 : Kd.C (Kd.int .i64) w A0 l0.length l0) (hc0 : l0.length ≤ c0) (hr1 : Kd.C (Kd.int .i64) w A1 l1.length l1) (hc1 : l1.length ≤ c1) (h : wordbookref16_Compare.f k l0 l1 = some r) :
    Calls Try.prog 58 #[.slice A0 l0.length c0, .slice A1 l1.length c1] w fun e w' => e = .returned (.int .i64 r) ∧ Drawn0 w w' := by
  have HR0 := Aside0.mk hr0
  have HC0 := Aside0.mk hc0
  clear hr0 hc0
  have HR1 := Aside0.mk hr1
  have HC1 := Aside0.mk hc1
  clear hr1 hc1
  have H : (wordbookref16_Compare.l0 k l0 l1 0) = some r := h
  clear h
  have H' := Aside0.mk H
  clear H
  go_enter Try.func58, Try.ntmps58
  go_wp2
  repeat (go_quiet (fail); try go_wp2)
  go_loopg [5] k (fun kq v5 w' => ∃ (x5_1 : Int), v5 = .int .i64 x5_1 ∧ Aside0 (wordbookref16_Compare.l0 kq l0 l1 x5_1 = some r) ∧ Aside0 (kq ≤ k) ∧ Drawn0 w w')
  case atStart => exact ⟨(0), (by first | rfl | (simp; done) | (simp [*]; done)), H', ⟨Nat.le_refl _⟩, by repeat (first | exact Drawn0.refl _ | apply Drawn0.step)⟩
  case round =>
    clear H'
    try clear c1
    try clear p2
    obtain ⟨x5_1, rfl, HA, HK1, ⟨m1, rfl⟩⟩ := hrel
    cases gk with
    | zero => exact absurd HA.out (by simp [wordbookref16_Compare.l0])
    | succ k1 =>
      have H := HA.out
      clear HA
      simp only [wordbookref16_Compare.l0] at H
      have HC3 := Aside0.mk H
      clear H
      go_upto_region 2 with (fail)
      repeat (go_quiet (fail); go_upto_region 2 with (fail))
      go_cut [15] (fun v15 wc => ∃ (kq : Nat) (x15_2 : Bool), v15 = .bool x15_2 ∧ Aside0 (wordbookref16_Compare.j1 kq l0 l1 x5_1 x15_2 = some r) ∧ Aside0 (kq ≤ k1) ∧ Drawn0 w wc)
      case first =>
        have H := HC3.out
        clear HC3
        by_cases c4 : x5_1 < (l0.length : Int)
        · rw [if_pos c4] at H
          have c4b0 : decide (x5_1 < (l0.length : Int)) = true := decide_eq_true c4
          clear c4
          (first | rw [c4b0] | (simp only [i64_w, i32_w]; rw [c4b0]) | skip)
          have H' := Aside0.mk H
          clear H
          go_wp2
          repeat (go_quiet (fail); try go_wp2)
          go_meet
          case rel => exact ⟨_, (decide (x5_1 < (l1.length : Int))), (by first | rfl | (simp; done) | (simp [*]; done)), H', ⟨by have := HK1.out; first | omega | exact Nat.le_refl _⟩, by repeat (first | exact Drawn0.refl _ | apply Drawn0.step)⟩
        · rw [if_neg c4] at H
          have c4b0 : decide (x5_1 < (l0.length : Int)) = false := decide_eq_false c4
          clear c4
          (first | rw [c4b0] | (simp only [i64_w, i32_w]; rw [c4b0]) | skip)
          have H' := Aside0.mk H
          clear H
          go_wp2
          repeat (go_quiet (fail); try go_wp2)
          go_meet
          case rel => exact ⟨_, (false), (by first | rfl | (simp; done) | (simp [*]; done)), H', ⟨by have := HK1.out; first | omega | exact Nat.le_refl _⟩, by repeat (first | exact Drawn0.refl _ | apply Drawn0.step)⟩
      case rest =>
        clear HC3
        try clear c1
        try clear p2
        try clear c4
        try clear c4b0
        try clear p2
        obtain ⟨kq, x15_2, rfl, HA, HJ2, ⟨mc2, rfl⟩⟩ := hcut
        cases kq with
        | zero => exact absurd HA.out (by simp [wordbookref16_Compare.j1])
        | succ kj2 =>
          have H := HA.out
          clear HA
          simp only [wordbookref16_Compare.j1] at H
          by_cases c5 : x15_2 = true
          · subst c5
            have H1 : (if 0 ≤ x5_1 then (if x5_1 < (l0.length : Int) then (if x5_1 < (l1.length : Int) then (if (rd l0 x5_1) < (rd l1 x5_1) then (some (-1)) else (if (rd l0 x5_1) > (rd l1 x5_1) then (some 1) else (wordbookref16_Compare.l0 kj2 l0 l1 (wrap64 (x5_1 + 1))))) else (none)) else (none)) else (none)) = some r := by rw [if_pos rfl] at H; exact H
            clear H
            have H := H1
            clear H1
            by_cases c6 : 0 ≤ x5_1
            · rw [if_pos c6] at H
              have c6b0 : decide (0 ≤ x5_1) = true := decide_eq_true c6
              clear c6
              by_cases c7 : x5_1 < (l0.length : Int)
              · rw [if_pos c7] at H
                have c7b0 : decide (x5_1 < (l0.length : Int)) = true := decide_eq_true c7
                clear c7
                by_cases c8 : x5_1 < (l1.length : Int)
                · rw [if_pos c8] at H
                  have c8b0 : decide (x5_1 < (l1.length : Int)) = true := decide_eq_true c8
                  clear c8
                  by_cases c9 : (rd l0 x5_1) < (rd l1 x5_1)
                  · rw [if_pos c9] at H
                    have c9b0 : decide ((rd l0 x5_1) < (rd l1 x5_1)) = true := decide_eq_true c9
                    clear c9
                    obtain rfl := Option.some.inj H
                    have p575 : 0 ≤ (x5_1 : Int) := of_decide_eq_true (by first | (with_reducible assumption) | assumption)
                    have q575 : x5_1 < (l0.length : Int) := of_decide_eq_true (by first | (with_reducible assumption) | assumption)
                    obtain ⟨ad575, e575, hx575_0⟩ := Kd.at_int HR0.out x5_1 p575 q575
                    cases e575
                    replace p575 := eq_true p575
                    replace q575 := eq_true q575
                    have p576 : 0 ≤ (x5_1 : Int) := of_decide_eq_true (by first | (with_reducible assumption) | assumption)
                    have q576 : x5_1 < (l1.length : Int) := of_decide_eq_true (by first | (with_reducible assumption) | assumption)
                    obtain ⟨ad576, e576, hx576_0⟩ := Kd.at_int HR1.out x5_1 p576 q576
                    cases e576
                    replace p576 := eq_true p576
                    replace q576 := eq_true q576
                    go_wp2
                    repeat (go_quiet (fail); try go_wp2)
                    go_ret
                    exact ⟨by first | rfl | (simp; done) | (simp [*]; done), by repeat (first | exact Drawn0.refl _ | apply Drawn0.step)⟩
                  · rw [if_neg c9] at H
                    have c9b0 : decide ((rd l0 x5_1) < (rd l1 x5_1)) = false := decide_eq_false c9
                    clear c9
                    by_cases c10 : (rd l0 x5_1) > (rd l1 x5_1)
                    · rw [if_pos c10] at H
                      have c10b0 : decide ((rd l1 x5_1) < (rd l0 x5_1)) = true := decide_eq_true c10
                      clear c10
                      obtain rfl := Option.some.inj H
                      have p575 : 0 ≤ (x5_1 : Int) := of_decide_eq_true (by first | (with_reducible assumption) | assumption)
                      have q575 : x5_1 < (l0.length : Int) := of_decide_eq_true (by first | (with_reducible assumption) | assumption)
                      obtain ⟨ad575, e575, hx575_0⟩ := Kd.at_int HR0.out x5_1 p575 q575
                      cases e575
                      replace p575 := eq_true p575
                      replace q575 := eq_true q575
                      have p576 : 0 ≤ (x5_1 : Int) := of_decide_eq_true (by first | (with_reducible assumption) | assumption)
                      have q576 : x5_1 < (l1.length : Int) := of_decide_eq_true (by first | (with_reducible assumption) | assumption)
                      obtain ⟨ad576, e576, hx576_0⟩ := Kd.at_int HR1.out x5_1 p576 q576
                      cases e576
                      replace p576 := eq_true p576
                      replace q576 := eq_true q576
                      have p577 : 0 ≤ (x5_1 : Int) := of_decide_eq_true (by first | (with_reducible assumption) | assumption)
                      have q577 : x5_1 < (l0.length : Int) := of_decide_eq_true (by first | (with_reducible assumption) | assumption)
                      obtain ⟨ad577, e577, hx577_0⟩ := Kd.at_int HR0.out x5_1 p577 q577
                      obtain rfl : ad575 = ad577 := (by injection e577)
                      replace p577 := eq_true p577
                      replace q577 := eq_true q577
                      have p578 : 0 ≤ (x5_1 : Int) := of_decide_eq_true (by first | (with_reducible assumption) | assumption)
                      have q578 : x5_1 < (l1.length : Int) := of_decide_eq_true (by first | (with_reducible assumption) | assumption)
                      obtain ⟨ad578, e578, hx578_0⟩ := Kd.at_int HR1.out x5_1 p578 q578
                      obtain rfl : ad576 = ad578 := (by injection e578)
                      replace p578 := eq_true p578
                      replace q578 := eq_true q578
                      go_wp2
                      repeat (go_quiet (fail); try go_wp2)
                      go_ret
                      exact ⟨by first | rfl | (simp; done) | (simp [*]; done), by repeat (first | exact Drawn0.refl _ | apply Drawn0.step)⟩
                    · rw [if_neg c10] at H
                      have c10b0 : decide ((rd l1 x5_1) < (rd l0 x5_1)) = false := decide_eq_false c10
                      clear c10
                      have H' := Aside0.mk H
                      clear H
                      have p575 : 0 ≤ (x5_1 : Int) := of_decide_eq_true (by first | (with_reducible assumption) | assumption)
                      have q575 : x5_1 < (l0.length : Int) := of_decide_eq_true (by first | (with_reducible assumption) | assumption)
                      obtain ⟨ad575, e575, hx575_0⟩ := Kd.at_int HR0.out x5_1 p575 q575
                      cases e575
                      replace p575 := eq_true p575
                      replace q575 := eq_true q575
                      have p576 : 0 ≤ (x5_1 : Int) := of_decide_eq_true (by first | (with_reducible assumption) | assumption)
                      have q576 : x5_1 < (l1.length : Int) := of_decide_eq_true (by first | (with_reducible assumption) | assumption)
                      obtain ⟨ad576, e576, hx576_0⟩ := Kd.at_int HR1.out x5_1 p576 q576
                      cases e576
                      replace p576 := eq_true p576
                      replace q576 := eq_true q576
                      have p577 : 0 ≤ (x5_1 : Int) := of_decide_eq_true (by first | (with_reducible assumption) | assumption)
                      have q577 : x5_1 < (l0.length : Int) := of_decide_eq_true (by first | (with_reducible assumption) | assumption)
                      obtain ⟨ad577, e577, hx577_0⟩ := Kd.at_int HR0.out x5_1 p577 q577
                      obtain rfl : ad575 = ad577 := (by injection e577)
                      replace p577 := eq_true p577
                      replace q577 := eq_true q577
                      have p578 : 0 ≤ (x5_1 : Int) := of_decide_eq_true (by first | (with_reducible assumption) | assumption)
                      have q578 : x5_1 < (l1.length : Int) := of_decide_eq_true (by first | (with_reducible assumption) | assumption)
                      obtain ⟨ad578, e578, hx578_0⟩ := Kd.at_int HR1.out x5_1 p578 q578
                      obtain rfl : ad576 = ad578 := (by injection e578)
                      replace p578 := eq_true p578
                      replace q578 := eq_true q578
                      go_wp2
                      repeat (go_quiet (fail); try go_wp2)
                      go_roundg kj2
                      case measure => have := HK1.out; have := HJ2.out; omega
                      case rel => exact ⟨(wrap64 (x5_1 + 1)), (by first | rfl | (simp; done) | (simp [*]; done)), H', ⟨by have := HK1.out; have := HJ2.out; omega⟩, by repeat (first | exact Drawn0.refl _ | apply Drawn0.step)⟩
                · rw [if_neg c8] at H
                  exact absurd H (by simp)
              · rw [if_neg c7] at H
                exact absurd H (by simp)
            · rw [if_neg c6] at H
              exact absurd H (by simp)
          · replace c5 := Bool.eq_false_iff.mpr c5
            subst c5
            have H1 : (if (l0.length : Int) < (l1.length : Int) then (some (-1)) else (if (l0.length : Int) > (l1.length : Int) then (some 1) else (some 0))) = some r := by rw [if_neg (show ¬ (false = true) by decide)] at H; exact H
            clear H
            have H := H1
            clear H1
            by_cases c11 : (l0.length : Int) < (l1.length : Int)
            · rw [if_pos c11] at H
              have c11b0 : decide ((l0.length : Int) < (l1.length : Int)) = true := decide_eq_true c11
              have c11b1 : decide (l0.length < l1.length) = true := decide_eq_true (Int.ofNat_lt.mp c11)
              clear c11
              obtain rfl := Option.some.inj H
              go_wp2
              repeat (go_quiet (fail); try go_wp2)
              go_ret
              exact ⟨by first | rfl | (simp; done) | (simp [*]; done), by repeat (first | exact Drawn0.refl _ | apply Drawn0.step)⟩
            · rw [if_neg c11] at H
              have c11b0 : decide ((l0.length : Int) < (l1.length : Int)) = false := decide_eq_false c11
              have c11b1 : decide (l0.length < l1.length) = false := decide_eq_false (fun h => c11 (Int.ofNat_lt.mpr h))
              clear c11
              by_cases c12 : (l0.length : Int) > (l1.length : Int)
              · rw [if_pos c12] at H
                have c12b0 : decide ((l1.length : Int) < (l0.length : Int)) = true := decide_eq_true c12
                have c12b1 : decide (l1.length < l0.length) = true := decide_eq_true (Int.ofNat_lt.mp c12)
                clear c12
                obtain rfl := Option.some.inj H
                go_wp2
                repeat (go_quiet (fail); try go_wp2)
                go_ret
                exact ⟨by first | rfl | (simp; done) | (simp [*]; done), by repeat (first | exact Drawn0.refl _ | apply Drawn0.step)⟩
              · rw [if_neg c12] at H
                have c12b0 : decide ((l1.length : Int) < (l0.length : Int)) = false := decide_eq_false c12
                have c12b1 : decide (l1.length < l0.length) = false := decide_eq_false (fun h => c12 (Int.ofNat_lt.mpr h))
                clear c12
                obtain rfl := Option.some.inj H
                go_wp2
                repeat (go_quiet (fail); try go_wp2)
                go_ret
                exact ⟨by first | rfl | (simp; done) | (simp [*]; done), by repeat (first | exact Drawn0.refl _ | apply Drawn0.step)⟩



end Go.Proofs.Ytcdjeimjbbknjaa.PAll
namespace Go.Proofs.Ytcdjeimjbbknjaa.PAll
open Go.RowKit Go.Proofs.YtcdjeimjbbknjaaW.PrintWords Go.Proofs.YtcdjeimjbbknjaaW.PrintLast Go.Proofs.YtcdjeimjbbknjaaW.PrintMore Go.Proofs.Ytcdjeimjbbknjaa.Res Go.Proofs.Ytcdjeimjbbknjaa.Lev
set_option linter.unusedVariables false
set_option linter.unusedSimpArgs false

theorem pairsOf_length (ws : List (List Int)) (wl : List Int) : (pairsOf ws wl).length = ws.length := by simp [pairsOf]
theorem pairsOf_drop (ws : List (List Int)) (wl : List Int) {i : Nat} (h : i < ws.length) : (pairsOf ws wl).drop i = ((i : Int), ((lev (rdR ws (i : Int)) wl : Nat) : Int)) :: (pairsOf ws wl).drop (i + 1) := by
  rw [List.drop_eq_getElem_cons (by rw [pairsOf_length]; exact h)]
  simp [pairsOf]
theorem search16_in (ws : List (List Int)) (wl : List Int) (a2 : Int) (hn : ws.length ≤ 1000000) (hs : ∀ v ∈ ws, v.length ≤ 1000) (hw : wl.length ≤ 1000) (d : Int) (m : Nat) : ∀ (k i : Nat) (acc : List (S86)), ws.length - i = m → i ≤ ws.length → acc.length + m ≤ 1000000000 →
    wordbookref16_Search.l1 (k + m + 1) ws wl a2 acc d (i : Int) = wordbookref16_Search.l0 k ws wl a2 (acc ++ (((pairsOf ws wl).drop i).filter fun h => h.2 == d).map toH) (wrap64 (d + 1)) := by
  induction m with
  | zero =>
    intro k i acc hm hi hb
    rw [wordbookref16_Search.l1, if_neg (by omega), List.drop_of_length_le (by rw [pairsOf_length]; omega)]
    simp
  | succ m ih =>
    intro k i acc hm hi hb
    have hlt : i < ws.length := by omega
    have hmem : rdR ws (i : Int) ∈ ws := by rw [rdR_get hlt]; exact List.getElem_mem hlt
    have hl := hs _ hmem
    have hD : wordbookref16_Distance.f (rd_L2 ws (i : Int)) wl = some ((lev (rdR ws (i : Int)) wl : Nat) : Int) := by
      show wordbookref16_Distance.f (rdR ws (i : Int)) wl = _
      unfold wordbookref16_Distance.f; rw [if_pos ⟨by omega, by omega⟩]
    rw [show k + (m + 1) + 1 = (k + m + 1) + 1 from by omega, wordbookref16_Search.l1, if_pos (by omega), if_pos (by omega), hD, Option.bind_some, pairsOf_drop ws wl hlt, wrap_succ (i := (i : Int)) (by omega) (by omega)]
    generalize ((lev (rdR ws (i : Int)) wl : Nat) : Int) = q at *
    clear hD
    by_cases hq : q = d
    · rw [if_pos hq, if_pos (by omega), List.filter_cons_of_pos (by simpa using hq)]
      have := ih k (i + 1) (acc ++ [⟨(i : Int), d⟩]) (by omega) (by omega) (by simp only [List.length_append, List.length_singleton]; omega)
      rw [show (((i + 1 : Nat) : Int)) = (i : Int) + 1 from by omega] at this
      rw [this, hq]
      simp [toH]
    · rw [if_neg hq, List.filter_cons_of_neg (by simpa using hq)]
      have := ih k (i + 1) acc (by omega) (by omega) (by omega)
      rwa [show (((i + 1 : Nat) : Int)) = (i : Int) + 1 from by omega] at this
theorem hitsUpto_length (ps : List (Int × Int)) : ∀ d, (hitsUpto ps d).length ≤ d * ps.length
  | 0 => by simp [hitsUpto]
  | d + 1 => by
    have h1 := hitsUpto_length ps d
    have h2 : (ps.filter fun h => h.2 == (d : Int)).length ≤ ps.length := List.length_filter_le _ _
    rw [hitsUpto, List.length_append, Nat.add_mul]; omega
theorem search16_out (ws : List (List Int)) (wl : List Int) (a2 : Nat) (hn : ws.length ≤ 1000000) (hs : ∀ v ∈ ws, v.length ≤ 1000) (hw : wl.length ≤ 1000) (ha : a2 ≤ 3) (m : Nat) : ∀ (k d : Nat), a2 + 1 - d = m → d ≤ a2 + 1 → m * (ws.length + 2) < k →
    wordbookref16_Search.l0 k ws wl (a2 : Int) ((hitsUpto (pairsOf ws wl) d).map toH) (d : Int) = some ((refL ws wl (a2 : Int)).map toH, 0) := by
  induction m with
  | zero =>
    intro k d hm hd hk
    obtain ⟨k, rfl⟩ : ∃ q, k = q + 1 := ⟨k - 1, by omega⟩
    obtain rfl : d = a2 + 1 := by omega
    rw [wordbookref16_Search.l0, if_neg (by omega), refL, show ((a2 : Int) + 1).toNat = a2 + 1 from by omega]
  | succ m ih =>
    intro k d hm hd hk
    rw [Nat.add_mul] at hk
    obtain ⟨k, rfl⟩ : ∃ q, k = (q + ws.length + 1) + 1 := ⟨k - (ws.length + 2), by omega⟩
    have hl := hitsUpto_length (pairsOf ws wl) d
    rw [pairsOf_length] at hl
    have hl2 : d * ws.length ≤ 4 * ws.length := Nat.mul_le_mul_right _ (by omega)
    rw [wordbookref16_Search.l0, if_pos (by omega)]
    have e := search16_in ws wl (a2 : Int) hn hs hw (d : Int) ws.length k 0 ((hitsUpto (pairsOf ws wl) d).map toH) (by omega) (by omega) (by rw [List.length_map]; omega)
    rw [show (((0 : Nat) : Int)) = 0 from rfl] at e
    rw [e, List.drop_zero, ← List.map_append]
    have := ih k (d + 1) (by omega) (by omega) (by omega)
    rw [show wrap64 ((d : Int) + 1) = ((d + 1 : Nat) : Int) from by unfold wrap64; omega]
    exact this
/-- What the reference's Search answers. -/
def refAns (ws : List (List Int)) (wl : List Int) (k : Int) : List (Int × Int) × Int := if k < 0 ∨ 3 < k then ([], 1) else if 64 < wl.length then ([], 4) else (refL ws wl k, 0)
theorem search16_is (ws : List (List Int)) (wl : List Int) (a2 : Int) (hn : ws.length ≤ 1000000) (hs : ∀ v ∈ ws, v.length ≤ 1000) (hw : wl.length ≤ 1000) (k : Nat) (hk : 4 * (ws.length + 2) + 2 < k) :
    wordbookref16_Search.f k ws wl a2 = some ((refAns ws wl a2).1.map toH, (refAns ws wl a2).2) := by
  obtain ⟨k, rfl⟩ : ∃ q, k = q + 1 := ⟨k - 1, by omega⟩
  unfold wordbookref16_Search.f refAns
  by_cases h1 : a2 < 0
  · rw [if_pos h1, if_pos (.inl h1), wordbookref16_Search.j0, if_pos rfl]; rfl
  · rw [if_neg h1]
    by_cases h2 : 3 < a2
    · rw [if_pos (.inr h2), wordbookref16_Search.j0, if_pos (by simpa using h2)]; rfl
    · rw [if_neg (by omega), wordbookref16_Search.j0, if_neg (by simpa using h2)]
      by_cases h3 : 64 < wl.length
      · rw [if_pos (by omega), if_pos h3]; rfl
      · rw [if_neg (by omega), if_neg h3]
        obtain ⟨a, rfl⟩ : ∃ a : Nat, a2 = (a : Int) := ⟨a2.toNat, by omega⟩
        have := search16_out ws wl a hn hs hw (by omega) (a + 1) k 0 (by omega) (by omega) (by
          have : (a + 1) * (ws.length + 2) ≤ 4 * (ws.length + 2) := Nat.mul_le_mul_right _ (by omega)
          omega)
        exact this
theorem same_refl (xs : List (S86)) (hl : xs.length ≤ 1000000000) (d : Nat) : ∀ (k i : Nat), xs.length - i = d → i ≤ xs.length → d < k → wordbookref16_SameHits.l0 k xs xs (i : Int) = some true := by
  induction d with
  | zero =>
    intro k i hd hi hk
    obtain ⟨k, rfl⟩ : ∃ q, k = q + 1 := ⟨k - 1, by omega⟩
    rw [wordbookref16_SameHits.l0, if_neg (by omega)]
  | succ d ih =>
    intro k i hd hi hk
    obtain ⟨k, rfl⟩ : ∃ q, k = q + 1 := ⟨k - 1, by omega⟩
    rw [wordbookref16_SameHits.l0, if_pos (by omega), if_pos (by omega), if_pos (by omega), if_neg (by simp), wrap_succ (i := (i : Int)) (by omega) (by omega)]
    have := ih k (i + 1) (by omega) (by omega) (by omega)
    rwa [show (((i + 1 : Nat) : Int)) = (i : Int) + 1 from by omega] at this
theorem same_is (xs : List (S86)) (hl : xs.length ≤ 1000000000) (k : Nat) (hk : xs.length < k) : wordbookref16_SameHits.f k xs xs = some true := by
  unfold wordbookref16_SameHits.f
  rw [if_pos rfl]
  exact same_refl xs hl xs.length k 0 (by omega) (by omega) hk
/-! ### Best -/
theorem rd_hit (xs : List (Int × Int)) {j : Nat} (h : j < xs.length) : rd_T86 (xs.map toH) (j : Int) = toH xs[j] := rd_toH xs j h
theorem best16_in (xs : List (Int × Int)) (e : Int) (hl : xs.length ≤ 1000000000) (p : Int) (hp : ∀ h : 0 < xs.length, (xs[0]).2 = p) (d : Nat) : ∀ (k i : Nat) (acc : List (S86)), xs.length - i = d → i ≤ xs.length → acc.length + d ≤ 1000000000 → d < k →
    wordbookref16_Best.l0 k (xs.map toH) e acc (i : Int) = some (acc ++ ((xs.drop i).filter fun h => h.2 == p).map toH, e) := by
  induction d with
  | zero =>
    intro k i acc hd hi hb hk
    obtain ⟨k, rfl⟩ : ∃ q, k = q + 1 := ⟨k - 1, by omega⟩
    rw [wordbookref16_Best.l0, if_neg (by rw [List.length_map]; omega), List.drop_of_length_le (by omega)]
    simp
  | succ d ih =>
    intro k i acc hd hi hb hk
    obtain ⟨k, rfl⟩ : ∃ q, k = q + 1 := ⟨k - 1, by omega⟩
    have hlt : i < xs.length := by omega
    have h0 := rd_hit xs (j := 0) (by omega)
    rw [show (((0 : Nat) : Int)) = 0 from rfl] at h0
    have hp' := hp (by omega)
    rw [wordbookref16_Best.l0, if_pos (by rw [List.length_map]; omega), if_pos (by omega), if_pos (by rw [List.length_map]; omega), rd_hit xs hlt, h0, List.drop_eq_getElem_cons hlt, wrap_succ (i := (i : Int)) (by omega) (by omega)]
    by_cases hq : xs[i].2 = p
    · rw [if_pos (show (toH xs[i]).f1 = (toH xs[0]).f1 from by show xs[i].2 = xs[0].2; rw [hq, hp']), if_pos (by omega), List.filter_cons_of_pos (by simpa using hq)]
      have := ih k (i + 1) (acc ++ [toH xs[i]]) (by omega) (by omega) (by simp only [List.length_append, List.length_singleton]; omega) (by omega)
      rw [show (((i + 1 : Nat) : Int)) = (i : Int) + 1 from by omega] at this
      refine Eq.trans this ?_
      simp
    · rw [if_neg (show ¬ (toH xs[i]).f1 = (toH xs[0]).f1 from by show ¬ xs[i].2 = xs[0].2; rw [hp']; exact hq), List.filter_cons_of_neg (by simpa using hq)]
      have := ih k (i + 1) acc (by omega) (by omega) (by omega) (by omega)
      rwa [show (((i + 1 : Nat) : Int)) = (i : Int) + 1 from by omega] at this
theorem filter_head {xs : List (Int × Int)} (hs : xs.Pairwise leH) : (xs.filter fun h => h.2 == (xs.headD (0, 0)).2) = bestN xs := by
  unfold bestN
  cases xs with
  | nil => rfl
  | cons a xs =>
    have h1 := List.pairwise_cons.1 hs
    show (a :: xs).filter (fun h => h.2 == a.2) = (a :: xs).takeWhile fun h => h.2 == a.2
    rw [List.filter_cons_of_pos (by simp), List.takeWhile_cons_of_pos (by simp)]
    congr 1
    have key : ∀ ys : List (Int × Int), ys.Pairwise leH → (∀ y ∈ ys, leH a y) → ys.filter (fun h => h.2 == a.2) = ys.takeWhile fun h => h.2 == a.2 := by
      intro ys
      induction ys with
      | nil => intro _ _; rfl
      | cons y ys ih =>
        intro hy ha
        have h2 := List.pairwise_cons.1 hy
        by_cases he : y.2 = a.2
        · rw [List.filter_cons_of_pos (by simpa using he), List.takeWhile_cons_of_pos (by simpa using he), ih h2.2 (fun z hz => ha z (List.mem_cons_of_mem _ hz))]
        · rw [List.filter_cons_of_neg (by simpa using he), List.takeWhile_cons_of_neg (by simpa using he), List.filter_eq_nil_iff]
          intro z hz
          have h3 := ha y List.mem_cons_self
          have h4 := h2.1 z hz
          unfold leH at h3 h4
          simp; omega
    exact key xs h1.2 h1.1
theorem refL_sorted (ws : List (List Int)) (wl : List Int) (k : Int) : (refL ws wl k).Pairwise leH := hitsUpto_sorted _ (pairsOf_inc ws wl) _
theorem best16_is (ws : List (List Int)) (wl : List Int) (a2 : Int) (hn : ws.length ≤ 1000000) (hs : ∀ v ∈ ws, v.length ≤ 1000) (hw : wl.length ≤ 1000) (k : Nat) (hk : 4 * (ws.length + 2) + 2 < k) :
    wordbookref16_Best.f k ws wl a2 = some ((bestN (refAns ws wl a2).1).map toH, (refAns ws wl a2).2) := by
  unfold wordbookref16_Best.f
  rw [search16_is ws wl a2 hn hs hw k hk, Option.bind_some]
  dsimp only
  have hl : (refAns ws wl a2).1.length ≤ ws.length := by
    unfold refAns
    split
    · simp
    · split
      · simp
      · exact refL_length wl a2
  have hsort : (refAns ws wl a2).1.Pairwise leH := by
    unfold refAns
    split
    · exact List.Pairwise.nil
    · split
      · exact List.Pairwise.nil
      · exact refL_sorted ws wl a2
  have := best16_in (refAns ws wl a2).1 (refAns ws wl a2).2 (by omega) ((refAns ws wl a2).1.headD (0, 0)).2 (fun h => by
    generalize (refAns ws wl a2).1 = xs at *
    cases xs with
    | nil => simp at h
    | cons a xs => rfl) (refAns ws wl a2).1.length k 0 [] (by omega) (by omega) (by simp only [List.length_nil]; omega) (by omega)
  rw [show (((0 : Nat) : Int)) = 0 from rfl, List.drop_zero, List.nil_append, filter_head hsort] at this
  exact this
end Go.Proofs.Ytcdjeimjbbknjaa.PAll
namespace Go.Proofs.Ytcdjeimjbbknjaa.PAll
open Go.RowKit Go.Proofs.YtcdjeimjbbknjaaW.PrintWords Go.Proofs.YtcdjeimjbbknjaaW.PrintLast Go.Proofs.YtcdjeimjbbknjaaW.PrintMore
attribute [local go_sem] max2_int min2_int max_two min_two max_three min_three max_four min_four   -- for this text's walks alone
set_option linter.unusedVariables false
set_option linter.unusedSimpArgs false






end Go.Proofs.Ytcdjeimjbbknjaa.PAll
namespace Go.Proofs.Ytcdjeimjbbknjaa.PAll
open Go.RowKit Go.Proofs.YtcdjeimjbbknjaaW.PrintWords Go.Proofs.YtcdjeimjbbknjaaW.PrintLast Go.Proofs.YtcdjeimjbbknjaaW.PrintMore
attribute [local go_sem] max2_int min2_int max_two min_two max_three min_three max_four min_four   -- for this text's walks alone
set_option linter.unusedVariables false
set_option linter.unusedSimpArgs false

/-! ### wordbooklaw16_word: function 48 -/
def wordbooklaw16_word.l0 : Nat → List Int → List Int → Int → Option (List Int)
  | 0, _, _, _ => none
  | k + 1, x0, x3, x4 => if x4 < (x0.length : Int) then (if x4 < 10 then (if 0 ≤ x4 then ((wordbookref01_Around.f (rd x0 x4) 4).bind fun t518 => (if x3.length < 17592186044416 then (wordbooklaw16_word.l0 k x0 (x3 ++ [t518]) (wrap64 (x4 + 1))) else (none))) else (none)) else (some x3)) else (some x3)
def wordbooklaw16_word.f (k : Nat) (l0 : List Int) : Option (List Int) := wordbooklaw16_word.l0 k l0 ([] : List Int) 0
theorem wordbooklaw16_word.mono_l : ∀ k, (∀ y0 y1 y2, LeO (wordbooklaw16_word.l0 k y0 y1 y2) (wordbooklaw16_word.l0 (k + 1) y0 y1 y2))
  | 0 => fun _ _ _ r h => by simp [wordbooklaw16_word.l0] at h
  | k + 1 => by
    have ih0 := wordbooklaw16_word.mono_l k
    · intro y0 y1 y2
      unfold wordbooklaw16_word.l0
      repeat' first
      | (with_reducible exact ih0 _ _ _)
      | (with_reducible exact LeO.refl _)
      | (with_reducible exact LeO.none _)
      | (with_reducible refine LeO.ite ?_ ?_)
      | (with_reducible refine LeO.bind ?_ (fun _ => ?_))
      | exact ih0 _ _ _
      | exact LeO.none _
      | refine LeO.ite ?_ ?_
      | refine LeO.bind ?_ (fun _ => ?_)
theorem wordbooklaw16_word.mono : ∀ a0 k, LeO (wordbooklaw16_word.f k a0) (wordbooklaw16_word.f (k + 1) a0) := by
  intro a0 k
  have ih0 := wordbooklaw16_word.mono_l k
  unfold wordbooklaw16_word.f
  repeat' first
      | (with_reducible exact ih0 _ _ _)
      | (with_reducible exact LeO.refl _)
      | (with_reducible exact LeO.none _)
      | (with_reducible refine LeO.ite ?_ ?_)
      | (with_reducible refine LeO.bind ?_ (fun _ => ?_))
      | exact ih0 _ _ _
      | exact LeO.none _
      | refine LeO.ite ?_ ?_
      | refine LeO.bind ?_ (fun _ => ?_)
set_option maxHeartbeats 8000000 in
set_option maxRecDepth 100000 in
theorem wordbooklaw16_word.calls (k : Nat) (A0 : Option Addr) (c0 : Nat) (l0 : List Int) (r : List Int) (w : World) (hr0 : Kd.C (Kd.int .i64) w A0 l0.length l0) (hc0 : l0.length ≤ c0) (h : wordbooklaw16_word.f k l0 = some r) :
    Calls Try.prog 48 #[.slice A0 l0.length c0] w fun e w' => ∃ v0_ : Value, e = .returned (v0_) ∧ Kd.R (Kd.int .i64) 3 w' w.heap.size (fun _ => True) v0_ r ∧ Below w.heap.size w w' := by
  have HR0 := Aside0.mk hr0
  have HC0 := Aside0.mk hc0
  clear hr0 hc0
  have HB := Aside0.mk (Below.refl w.heap.size w)
  have H : (wordbooklaw16_word.l0 k l0 ([] : List Int) 0) = some r := h
  clear h
  have H' := Aside0.mk H
  clear H
  go_enter Try.func48, Try.ntmps48
  go_wp2
  go_loopg [3, 4] k (fun kq v3 v4 w' => ∃ (x3_1 : List Int) (x4_1 : Int), v4 = .int .i64 x4_1 ∧ Aside0 (wordbooklaw16_word.l0 kq l0 x3_1 x4_1 = some r) ∧ Aside0 (kq ≤ k) ∧ Aside0 (Kd.R (Kd.int .i64) 3 w' w.heap.size (fun _ => True) v3 x3_1) ∧ Aside0 (Below w.heap.size w w'))
  case atStart => exact ⟨(([] : List Int)), (0), (by first | rfl | (simp; done) | (simp [*]; done)), H', ⟨Nat.le_refl _⟩, ⟨by first | exact Kd.R_nil _ _ _ _ _ | exact Kd.N_nil _ _ _ _ _ | exact Kd.V_nil _ _ _ _ _ | exact Kd.Q_nil _ _ _ _ _ | exact Kd.S_nil _ _ _ _ _⟩, ⟨by repeat (first | (with_reducible first | exact HB.out | apply below_alloc | apply pw_below_drewN | apply below_drew1) | exact HB.out)⟩⟩
  case round =>
    clear H'
    obtain ⟨x3_1, x4_1, rfl, HA, HK1, HO_3, HB⟩ := hrel
    cases gk with
    | zero => exact absurd HA.out (by simp [wordbooklaw16_word.l0])
    | succ k1 =>
      have H := HA.out
      clear HA
      simp only [wordbooklaw16_word.l0] at H
      by_cases c2 : x4_1 < (l0.length : Int)
      · rw [if_pos c2] at H
        have c2b0 : decide (x4_1 < (l0.length : Int)) = true := decide_eq_true c2
        clear c2
        by_cases c3 : x4_1 < 10
        · rw [if_pos c3] at H
          have c3b0 : decide (x4_1 < 10) = true := decide_eq_true c3
          clear c3
          by_cases c4 : 0 ≤ x4_1
          · rw [if_pos c4] at H
            have c4b0 : decide (0 ≤ x4_1) = true := decide_eq_true c4
            clear c4
            replace H := Option.bind_eq_some_iff.mp H
            obtain ⟨t518, A50, H⟩ := H
            replace H : (if x3_1.length < 17592186044416 then (wordbooklaw16_word.l0 k1 l0 (x3_1 ++ [t518]) (wrap64 (x4_1 + 1))) else (none)) = some r := H
            have A5 := Aside0.mk A50
            clear A50
            by_cases c6 : x3_1.length < 17592186044416
            · rw [if_pos c6] at H
              have LMc6 := Aside0.mk c6
              clear c6
              obtain ⟨y519, hy519⟩ : ∃ y_ : List Int, y_ = (x3_1 ++ [t518]) := ⟨_, rfl⟩
              replace H : (wordbooklaw16_word.l0 k1 l0 y519 (wrap64 (x4_1 + 1))) = some r := by first | (rw [hy519]; with_reducible exact H) | (have H2_ := (Option.bind_some _ _).symm.trans H; rw [hy519]; with_reducible exact H2_) | (have H2_ := (Option.bind_some _ _).symm.trans H; with_reducible exact H2_) | with_reducible exact H | (rw [hy519]; exact H) | exact H
              have Ny519 := Aside0.mk hy519
              clear hy519
              have H' := Aside0.mk H
              clear H
              have p517 : 0 ≤ (x4_1 : Int) := of_decide_eq_true (by first | (with_reducible assumption) | assumption)
              have q517 : x4_1 < (l0.length : Int) := of_decide_eq_true (by first | (with_reducible assumption) | assumption)
              obtain ⟨ad517, e517, hx517_0⟩ := Kd.at_int HR0.out x4_1 p517 q517
              cases e517
              replace hx517_0 := (HB.out.cell (World.block_lt_of_cell? w _ hx517_0)).trans hx517_0
              replace p517 := eq_true p517
              replace q517 := eq_true q517
              go_wp2_with (first | ((with_reducible refine gate_callee (f := 18) rfl ?_); refine goesL_ (some 20) rfl rfl Try.func18 (by kernel_rfl) rfl #[.int .i64 (rd l0 x4_1), .int .i64 4] rfl (by (try simp only [List.map_toArray, List.map_cons, List.map_nil]); first | done | rfl | (simp only [List.length_drop, List.length_take]; rfl)) ?_; (with_reducible refine (wordbookref01_Around.calls (rd l0 x4_1) 4 t518 _ A5.out).mono ?_); rintro e w' ⟨rfl, ⟨nd, rfl⟩⟩; refine ⟨_, rfl, ?_⟩) | ((with_reducible refine gate_builtin (b := .append) (xs := #[.tmp 15, .tmp 21]) rfl ?_); at_builtin; refine Kd.R_append (Kd.int .i64) (w0 := w) w.heap.size rfl (.tmp 15) (.tmp 21) 22 3 (.int .i64 0) 8 rfl Try.underlying22 info3 rfl (by decide) (by omega) u3 x3_1 t518 [.int .i64 t518] (fun _ => True) (fun _ => False) rfl rfl ?aP (fun _ hk => hk.elim) ?aF ?aO ?aB ?aS ?aL ?_; (case aP => exact rfl); (case aB => exact (by repeat (first | (with_reducible first | exact HB.out | apply below_alloc | apply pw_below_drewN | apply below_drew1) | exact HB.out))); (case aF => exact (fun _ _ => trivial)); (case aO => exact (by (with_reducible repeat (first | apply Kd.R_alloc | apply Kd.R_drewN | apply Kd.R_drew)); exact HO_3.out)); (case aS => exact (below_size (by repeat (first | (with_reducible first | exact HB.out | apply below_alloc | apply pw_below_drewN | apply below_drew1) | exact HB.out)))); (case aL => have := LMc6.out; omega); intro v520 w7 ho hb hg hat; rw [← Ny519.out] at ho; have n0_ := Aside0.mk (hb); have n1_ := Aside0.mk (ho); clear HB; clear HO_3; have HB := n0_; have HO521 := n1_; clear n0_ n1_; clear ho hb hg hat))
              go_roundg k1
              case measure => have := HK1.out; omega
              case rel => exact ⟨(y519), (wrap64 (x4_1 + 1)), (by first | rfl | (simp; done) | (simp [*]; done)), H', ⟨by have := HK1.out; omega⟩, ⟨by (with_reducible repeat (first | apply Kd.R_alloc | apply Kd.R_drewN | apply Kd.R_drew)); exact HO521.out⟩, ⟨by repeat (first | (with_reducible first | exact HB.out | apply below_alloc | apply pw_below_drewN | apply below_drew1) | exact HB.out)⟩⟩
            · rw [if_neg c6] at H
              exact absurd H (by simp)
          · rw [if_neg c4] at H
            exact absurd H (by simp)
        · rw [if_neg c3] at H
          have c3b0 : decide (x4_1 < 10) = false := decide_eq_false c3
          clear c3
          obtain rfl := Option.some.inj H
          go_wp2
          go_ret
          exact ⟨_, by first | rfl | (simp [errW_none, errW_some] <;> rfl) | (simp [*, errW_none, errW_some] <;> rfl), by (with_reducible repeat (first | apply Kd.R_alloc | apply Kd.R_drewN | apply Kd.R_drew)); exact HO_3.out, by repeat (first | (with_reducible first | exact HB.out | apply below_alloc | apply pw_below_drewN | apply below_drew1) | exact HB.out)⟩
      · rw [if_neg c2] at H
        have c2b0 : decide (x4_1 < (l0.length : Int)) = false := decide_eq_false c2
        clear c2
        obtain rfl := Option.some.inj H
        go_wp2
        go_ret
        exact ⟨_, by first | rfl | (simp [errW_none, errW_some] <;> rfl) | (simp [*, errW_none, errW_some] <;> rfl), by (with_reducible repeat (first | apply Kd.R_alloc | apply Kd.R_drewN | apply Kd.R_drew)); exact HO_3.out, by repeat (first | (with_reducible first | exact HB.out | apply below_alloc | apply pw_below_drewN | apply below_drew1) | exact HB.out)⟩

end Go.Proofs.Ytcdjeimjbbknjaa.PAll
namespace Go.Proofs.Ytcdjeimjbbknjaa.PAll
open Go.RowKit Go.Proofs.YtcdjeimjbbknjaaW.PrintWords Go.Proofs.YtcdjeimjbbknjaaW.PrintLast Go.Proofs.YtcdjeimjbbknjaaW.PrintMore Go.Proofs.Ytcdjeimjbbknjaa.Lev
set_option linter.unusedVariables false
set_option linter.unusedSimpArgs false

/-- 'xs[m:]' of a slice that is read. -/
theorem cut_drop {k : IntKind} {t e : TypeId} {b : Nat} (ht : Try.prog.underlying t = some (.slice e)) (hinfo : (Try.prog.info? e).map (fun i => (i.zero, i.size, i.bytes)) = some (some (Value.int k 0), 1, b)) (A : Option Addr) (c : Nat) (xs : List Int) (m : Nat) (hm : m ≤ xs.length) (hc : xs.length ≤ c) :
    ∃ A' : Option Addr, (∀ W : World, (Instr.slice t (.slice A xs.length c) (some (.int .i64 (m : Int))) none none).run Try.prog W = .ok (.slice A' (xs.length - m) (c - m)) W) ∧ (∀ w : World, Kd.C (Kd.int k) w A xs.length xs → Kd.C (Kd.int k) w A' (xs.length - m) (xs.drop m)) ∧ xs.length - m ≤ c - m := by
  obtain ⟨i0, hi, _, hsz, _⟩ := info_parts hinfo
  obtain ⟨A', hcut, hA, hC⟩ := print_drop_of (P := Try.prog) (Value.int k) 0 t e .i64 ht hi hsz A c xs (m : Int) (by omega) (by omega) hc
  have hl : (xs.drop (m : Int).toNat).length = xs.length - m := by rw [List.length_drop]; omega
  rw [hl] at hcut hA
  exact ⟨A', by simpa using hcut, fun w h => by have h2 : (Kd.int k).C w A' (xs.length - m) (xs.drop (m : Int).toNat) := Kd.C_of_reads (hA w (Kd.reads_of_C h)); rwa [Int.toNat_natCast] at h2, by omega⟩

def around (n most : Int) : Int := Int.tmod (if n < 0 then -(n + 1) else n) most
theorem around_is (n most : Int) (h0 : 0 < most) (hn : -9223372036854775808 ≤ n ∧ n ≤ 9223372036854775807) : wordbookref01_Around.f n most = some (around n most) := by
  unfold wordbookref01_Around.f around
  by_cases h : n < 0
  · rw [if_pos h, if_neg (by omega), if_pos h]
    have e1 : wrap64 (n + 1) = n + 1 := by unfold wrap64; omega
    have e2 : wrap64 (-(n + 1)) = -(n + 1) := by unfold wrap64; omega
    rw [e1, e2]
  · rw [if_neg h, if_neg (by omega), if_neg h]
theorem around_range (n most : Int) (h0 : 0 < most) : 0 ≤ around n most ∧ around n most < most := by
  unfold around
  have h : 0 ≤ (if n < 0 then -(n + 1) else n) := by split <;> omega
  generalize (if n < 0 then -(n + 1) else n) = q at *
  rw [Int.tmod_eq_emod_of_nonneg h]
  exact ⟨Int.emod_nonneg _ (by omega), Int.emod_lt_of_pos _ h0⟩
theorem around_calls (n most : Int) (w : World) (h0 : 0 < most) (hn : -9223372036854775808 ≤ n ∧ n ≤ 9223372036854775807) :
    Calls Try.prog 18 #[.int .i64 n, .int .i64 most] w fun e w' => e = .returned (.int .i64 (around n most)) ∧ Drawn0 w w' :=
  wordbookref01_Around.calls n most _ w (around_is n most h0 hn)

def edited (w : List Int) (kind at_ x : Int) : List Int :=
  if kind = 0 then put_ w (around at_ (w.length + 1)).toNat x
  else if w.length = 0 then [] else if kind = 2 then set_ w (around at_ w.length).toNat x else cut_ w (around at_ w.length).toNat
def editOk (l0 : List Int) (a2 : Int) : Prop := l0.length ≤ 1000000000000 ∧ -9223372036854775808 ≤ a2 ∧ a2 ≤ 9223372036854775807
instance (l0 : List Int) (a2 : Int) : Decidable (editOk l0 a2) := by unfold editOk; infer_instance
def wordbookref16_Edited.f (l0 : List Int) (a1 : Int) (a2 : Int) (a3 : Int) : Option (List Int) := if editOk l0 a2 then some (edited l0 a1 a2 a3) else none
set_option maxHeartbeats 4000000 in
set_option maxRecDepth 100000 in
theorem edited_put (A0 : Option Addr) (c0 : Nat) (l0 : List Int) (a2 a3 : Int) (w : World) (hr0 : Kd.C (Kd.int .i64) w A0 l0.length l0) (hc0 : l0.length ≤ c0) (hok : editOk l0 a2) :
    Calls Try.prog 59 #[.slice A0 l0.length c0, .int .i64 0, .int .i64 a2, .int .i64 a3] w fun e w' => ∃ v0_ : Value, e = .returned (v0_) ∧ Kd.R (Kd.int .i64) 3 w' w.heap.size (fun _ => True) v0_ (edited l0 0 a2 a3) ∧ Below w.heap.size w w' := by
  obtain ⟨hl, hb⟩ := hok
  obtain ⟨r0, r1⟩ := around_range a2 ((l0.length : Int) + 1) (by omega)
  have HA := Aside0.mk (fun W => around_calls a2 ((l0.length : Int) + 1) W (by omega) hb)
  have HF : Aside0 (edited l0 0 a2 a3 = put_ l0 (around a2 (l0.length + 1)).toNat a3) := ⟨by simp [edited]⟩
  clear hb
  generalize around a2 ((l0.length : Int) + 1) = q at *
  obtain ⟨m, rfl⟩ := Int.eq_ofNat_of_zero_le r0
  obtain ⟨hcut, hC⟩ := cut_take (k := .i64) Try.underlying22 info3 A0 c0 l0 m (by omega) hc0
  obtain ⟨A', hcut', hC', hc'⟩ := cut_drop (k := .i64) Try.underlying22 info3 A0 c0 l0 m (by omega) hc0
  have HR := Aside0.mk hr0
  have HC := Aside0.mk hC
  have HC' := Aside0.mk hC'
  have HL := Aside0.mk (show (l0.take m).length = m by rw [List.length_take]; omega)
  have HL' := Aside0.mk (show (l0.drop m).length = l0.length - m by rw [List.length_drop])
  clear hr0 hC hC'
  have hml : m ≤ l0.length := by omega
  clear r1 r0
  go_enter Try.func59, Try.ntmps59
  go_wp2_with (first | (go_at_call 18; refine (HA.out _).mono ?_; rintro e w' ⟨rfl, ⟨nd, rfl⟩⟩) | (at_builtin; refine Kd.R_append_rows (Kd.int .i64) (w0 := w) w.heap.size rfl (.tmp 19) (.tmp 22) 22 3 (.int .i64 0) 8 rfl Try.underlying22 info3 rfl (by decide) (by omega) (.slice none 0 0) ([] : List Int) (l0.take m) A0 m c0 (fun _ => True) (fun _ => False) rfl rfl (Kd.R_nil _ _ _ _ _) (HC.out _ (Kd.C_drewN HR.out nd)) (fun _ _ h => h) (fun _ h => h.elim) (fun _ _ => trivial) (pw_below_drewN (Below.refl _ _) nd) (Nat.le_refl _) (by simp only [List.length_nil]; omega) ?_; intro v1 w1 HO1 HB1 _ _; rw [List.nil_append] at HO1; have HO1 := Aside0.mk HO1; have HB1 := Aside0.mk HB1) | (at_builtin; refine Kd.R_append (Kd.int .i64) (w0 := w) w.heap.size rfl (.tmp 23) (.tmp 25) 22 3 (.int .i64 0) 8 rfl Try.underlying22 info3 rfl (by decide) (by omega) v1 (l0.take m) a3 [.int .i64 a3] (fun _ => True) (fun _ => False) rfl rfl rfl (fun _ h => h.elim) (fun _ _ => trivial) HO1.out HB1.out HB1.out.size (by have := HL.out; omega) ?_; intro v2 w2 HO2 HB2 _ _; have HO2 := Aside0.mk HO2; have HB2 := Aside0.mk HB2) | (at_builtin; refine Kd.R_append_rows (Kd.int .i64) (w0 := w) w.heap.size rfl (.tmp 27) (.tmp 30) 22 3 (.int .i64 0) 8 rfl Try.underlying22 info3 rfl (by decide) (by omega) v2 (l0.take m ++ [a3]) (l0.drop m) A' (l0.length - m) (c0 - m) (fun _ => True) (fun _ => False) rfl rfl HO2.out (HC'.out _ (Kd.C_below HR.out HB2.out)) (fun _ _ h => h) (fun _ h => h.elim) (fun _ _ => trivial) HB2.out HB2.out.size (by have := HL.out; simp only [List.length_append, List.length_singleton]; omega) ?_; intro v3 w3 HO3 HB3 _ _; have HO3 := Aside0.mk HO3; have HB3 := Aside0.mk HB3))
  go_ret
  exact ⟨_, rfl, by rw [HF.out, put_, Int.toNat_natCast]; simpa using HO3.out, HB3.out⟩
set_option maxHeartbeats 4000000 in
set_option maxRecDepth 100000 in
theorem edited_set (A0 : Option Addr) (c0 : Nat) (l0 : List Int) (a1 a2 a3 : Int) (w : World) (hr0 : Kd.C (Kd.int .i64) w A0 l0.length l0) (hc0 : l0.length ≤ c0) (hok : editOk l0 a2) (ha : ¬ a1 = 0) (hpos : 0 < l0.length) (hb2 : a1 = 2) :
    Calls Try.prog 59 #[.slice A0 l0.length c0, .int .i64 a1, .int .i64 a2, .int .i64 a3] w fun e w' => ∃ v0_ : Value, e = .returned (v0_) ∧ Kd.R (Kd.int .i64) 3 w' w.heap.size (fun _ => True) v0_ (edited l0 a1 a2 a3) ∧ Below w.heap.size w w' := by
  have h0 : (a1 == 0) = false := beq_eq_false_iff_ne.2 ha
  have h1 : ((l0.length : Int) == 0) = false := beq_eq_false_iff_ne.2 (by omega)
  have h2 : (a1 == 2) = true := beq_iff_eq.2 hb2
  obtain ⟨hl, hb⟩ := hok
  obtain ⟨r0, r1⟩ := around_range a2 (l0.length : Int) (by omega)
  have HA := Aside0.mk (fun W => around_calls a2 (l0.length : Int) W (by omega) hb)
  have HF : Aside0 (edited l0 a1 a2 a3 = set_ l0 (around a2 l0.length).toNat a3) := ⟨by unfold edited; rw [if_neg ha, if_neg (by omega)]; rw [if_pos hb2]⟩
  clear hb ha hb2
  generalize around a2 (l0.length : Int) = q at *
  obtain ⟨m, rfl⟩ := Int.eq_ofNat_of_zero_le r0
  obtain ⟨hcut, hC⟩ := cut_take (k := .i64) Try.underlying22 info3 A0 c0 l0 m (by omega) hc0
  obtain ⟨A', hcut', hC', hc'⟩ := cut_drop (k := .i64) Try.underlying22 info3 A0 c0 l0 (m + 1) (by omega) hc0
  rw [show (((m + 1 : Nat) : Int)) = (m : Int) + 1 from by omega] at hcut'
  have HR := Aside0.mk hr0
  have HC := Aside0.mk hC
  have HC' := Aside0.mk hC'
  have HL := Aside0.mk (show (l0.take m).length = m by rw [List.length_take]; omega)
  clear hr0 hC hC' hpos
  have hml : m < l0.length := by omega
  clear r1 r0
  go_enter Try.func59, Try.ntmps59
  go_wp2_with (first | (go_at_call 18; refine (HA.out _).mono ?_; rintro e w' ⟨rfl, ⟨nd, rfl⟩⟩) | (at_builtin; refine Kd.R_append_rows (Kd.int .i64) (w0 := w) w.heap.size rfl (.tmp 40) (.tmp 43) 22 3 (.int .i64 0) 8 rfl Try.underlying22 info3 rfl (by decide) (by omega) (.slice none 0 0) ([] : List Int) (l0.take m) A0 m c0 (fun _ => True) (fun _ => False) rfl rfl (Kd.R_nil _ _ _ _ _) (HC.out _ (Kd.C_drewN HR.out nd)) (fun _ _ h => h) (fun _ h => h.elim) (fun _ _ => trivial) (pw_below_drewN (Below.refl _ _) nd) (Nat.le_refl _) (by simp only [List.length_nil]; omega) ?_; intro v1 w1 HO1 HB1 _ _; rw [List.nil_append] at HO1; have HO1 := Aside0.mk HO1; have HB1 := Aside0.mk HB1) | (at_builtin; refine Kd.R_append (Kd.int .i64) (w0 := w) w.heap.size rfl (.tmp 47) (.tmp 49) 22 3 (.int .i64 0) 8 rfl Try.underlying22 info3 rfl (by decide) (by omega) v1 (l0.take m) a3 [.int .i64 a3] (fun _ => True) (fun _ => False) rfl rfl rfl (fun _ h => h.elim) (fun _ _ => trivial) HO1.out HB1.out HB1.out.size (by have := HL.out; omega) ?_; intro v2 w2 HO2 HB2 _ _; have HO2 := Aside0.mk HO2; have HB2 := Aside0.mk HB2) | (at_builtin; refine Kd.R_append_rows (Kd.int .i64) (w0 := w) w.heap.size rfl (.tmp 51) (.tmp 55) 22 3 (.int .i64 0) 8 rfl Try.underlying22 info3 rfl (by decide) (by omega) v2 (l0.take m ++ [a3]) (l0.drop (m + 1)) A' (l0.length - (m + 1)) (c0 - (m + 1)) (fun _ => True) (fun _ => False) rfl rfl HO2.out (HC'.out _ (Kd.C_below HR.out HB2.out)) (fun _ _ h => h) (fun _ h => h.elim) (fun _ _ => trivial) HB2.out HB2.out.size (by have := HL.out; simp only [List.length_append, List.length_singleton]; omega) ?_; intro v3 w3 HO3 HB3 _ _; have HO3 := Aside0.mk HO3; have HB3 := Aside0.mk HB3))
  go_ret
  exact ⟨_, rfl, by rw [HF.out, set_, Int.toNat_natCast]; simpa using HO3.out, HB3.out⟩
set_option maxHeartbeats 4000000 in
set_option maxRecDepth 100000 in
theorem edited_cut (A0 : Option Addr) (c0 : Nat) (l0 : List Int) (a1 a2 a3 : Int) (w : World) (hr0 : Kd.C (Kd.int .i64) w A0 l0.length l0) (hc0 : l0.length ≤ c0) (hok : editOk l0 a2) (ha : ¬ a1 = 0) (hpos : 0 < l0.length) (hb2 : ¬ a1 = 2) :
    Calls Try.prog 59 #[.slice A0 l0.length c0, .int .i64 a1, .int .i64 a2, .int .i64 a3] w fun e w' => ∃ v0_ : Value, e = .returned (v0_) ∧ Kd.R (Kd.int .i64) 3 w' w.heap.size (fun _ => True) v0_ (edited l0 a1 a2 a3) ∧ Below w.heap.size w w' := by
  have h0 : (a1 == 0) = false := beq_eq_false_iff_ne.2 ha
  have h1 : ((l0.length : Int) == 0) = false := beq_eq_false_iff_ne.2 (by omega)
  have h2 : (a1 == 2) = false := beq_eq_false_iff_ne.2 hb2
  obtain ⟨hl, hb⟩ := hok
  obtain ⟨r0, r1⟩ := around_range a2 (l0.length : Int) (by omega)
  have HA := Aside0.mk (fun W => around_calls a2 (l0.length : Int) W (by omega) hb)
  have HF : Aside0 (edited l0 a1 a2 a3 = cut_ l0 (around a2 l0.length).toNat) := ⟨by unfold edited; rw [if_neg ha, if_neg (by omega)]; rw [if_neg hb2]⟩
  clear hb ha hb2
  generalize around a2 (l0.length : Int) = q at *
  obtain ⟨m, rfl⟩ := Int.eq_ofNat_of_zero_le r0
  obtain ⟨hcut, hC⟩ := cut_take (k := .i64) Try.underlying22 info3 A0 c0 l0 m (by omega) hc0
  obtain ⟨A', hcut', hC', hc'⟩ := cut_drop (k := .i64) Try.underlying22 info3 A0 c0 l0 (m + 1) (by omega) hc0
  rw [show (((m + 1 : Nat) : Int)) = (m : Int) + 1 from by omega] at hcut'
  have HR := Aside0.mk hr0
  have HC := Aside0.mk hC
  have HC' := Aside0.mk hC'
  have HL := Aside0.mk (show (l0.take m).length = m by rw [List.length_take]; omega)
  clear hr0 hC hC' hpos
  have hml : m < l0.length := by omega
  clear r1 r0
  go_enter Try.func59, Try.ntmps59
  go_wp2_with (first | (go_at_call 18; refine (HA.out _).mono ?_; rintro e w' ⟨rfl, ⟨nd, rfl⟩⟩) | (at_builtin; refine Kd.R_append_rows (Kd.int .i64) (w0 := w) w.heap.size rfl (.tmp 40) (.tmp 43) 22 3 (.int .i64 0) 8 rfl Try.underlying22 info3 rfl (by decide) (by omega) (.slice none 0 0) ([] : List Int) (l0.take m) A0 m c0 (fun _ => True) (fun _ => False) rfl rfl (Kd.R_nil _ _ _ _ _) (HC.out _ (Kd.C_drewN HR.out nd)) (fun _ _ h => h) (fun _ h => h.elim) (fun _ _ => trivial) (pw_below_drewN (Below.refl _ _) nd) (Nat.le_refl _) (by simp only [List.length_nil]; omega) ?_; intro v1 w1 HO1 HB1 _ _; rw [List.nil_append] at HO1; have HO1 := Aside0.mk HO1; have HB1 := Aside0.mk HB1) | (at_builtin; refine Kd.R_append_rows (Kd.int .i64) (w0 := w) w.heap.size rfl (.tmp 51) (.tmp 55) 22 3 (.int .i64 0) 8 rfl Try.underlying22 info3 rfl (by decide) (by omega) v1 (l0.take m) (l0.drop (m + 1)) A' (l0.length - (m + 1)) (c0 - (m + 1)) (fun _ => True) (fun _ => False) rfl rfl HO1.out (HC'.out _ (Kd.C_below HR.out HB1.out)) (fun _ _ h => h) (fun _ h => h.elim) (fun _ _ => trivial) HB1.out HB1.out.size (by have := HL.out; omega) ?_; intro v3 w3 HO3 HB3 _ _; have HO3 := Aside0.mk HO3; have HB3 := Aside0.mk HB3))
  go_ret
  exact ⟨_, rfl, by rw [HF.out, cut_, Int.toNat_natCast]; simpa using HO3.out, HB3.out⟩
set_option maxHeartbeats 4000000 in
set_option maxRecDepth 100000 in
theorem edited_none (A0 : Option Addr) (c0 : Nat) (l0 : List Int) (a1 a2 a3 : Int) (w : World) (hr0 : Kd.C (Kd.int .i64) w A0 l0.length l0) (hc0 : l0.length ≤ c0) (hok : editOk l0 a2) (ha : ¬ a1 = 0) (hpos : l0.length = 0) :
    Calls Try.prog 59 #[.slice A0 l0.length c0, .int .i64 a1, .int .i64 a2, .int .i64 a3] w fun e w' => ∃ v0_ : Value, e = .returned (v0_) ∧ Kd.R (Kd.int .i64) 3 w' w.heap.size (fun _ => True) v0_ (edited l0 a1 a2 a3) ∧ Below w.heap.size w w' := by
  have h0 : (a1 == 0) = false := beq_eq_false_iff_ne.2 ha
  have HF : Aside0 (edited l0 a1 a2 a3 = []) := ⟨by unfold edited; rw [if_neg ha, if_pos hpos]⟩
  obtain rfl := List.eq_nil_of_length_eq_zero hpos
  clear ha hpos hok hr0
  go_enter Try.func59, Try.ntmps59
  go_wp2
  go_ret
  exact ⟨_, rfl, by rw [HF.out]; exact Kd.R_nil _ _ _ _ _, Below.refl _ _⟩
theorem wordbookref16_Edited.calls (A0 : Option Addr) (c0 : Nat) (l0 : List Int) (a1 : Int) (a2 : Int) (a3 : Int) (r : List Int) (w : World) (hr0 : Kd.C (Kd.int .i64) w A0 l0.length l0) (hc0 : l0.length ≤ c0) (h : wordbookref16_Edited.f l0 a1 a2 a3 = some r) :
    Calls Try.prog 59 #[.slice A0 l0.length c0, .int .i64 a1, .int .i64 a2, .int .i64 a3] w fun e w' => ∃ v0_ : Value, e = .returned (v0_) ∧ Kd.R (Kd.int .i64) 3 w' w.heap.size (fun _ => True) v0_ r ∧ Below w.heap.size w w' := by
  unfold wordbookref16_Edited.f at h
  split at h
  case isFalse => cases h
  case isTrue hok =>
  obtain rfl := Option.some.inj h
  by_cases h0 : a1 = 0
  · subst h0; exact edited_put A0 c0 l0 a2 a3 w hr0 hc0 hok
  · rcases Nat.eq_zero_or_pos l0.length with hz | hp
    · exact edited_none A0 c0 l0 a1 a2 a3 w hr0 hc0 hok h0 hz
    · by_cases h2 : a1 = 2
      · exact edited_set A0 c0 l0 a1 a2 a3 w hr0 hc0 hok h0 hp h2
      · exact edited_cut A0 c0 l0 a1 a2 a3 w hr0 hc0 hok h0 hp h2
end Go.Proofs.Ytcdjeimjbbknjaa.PAll
namespace Go.Proofs.Ytcdjeimjbbknjaa.PAll
open Go.RowKit Go.Proofs.YtcdjeimjbbknjaaW.PrintWords Go.Proofs.YtcdjeimjbbknjaaW.PrintLast Go.Proofs.YtcdjeimjbbknjaaW.PrintMore Go.Proofs.Ytcdjeimjbbknjaa.Lev
set_option linter.unusedVariables false
set_option linter.unusedSimpArgs false

/-- A word of law 16. -/
def wordL (l : List Int) : List Int := (l.take 10).map fun x => around x 4
theorem wordL_length (l : List Int) : (wordL l).length ≤ 10 := by simp [wordL]; omega
theorem word_tells (l : List Int) (hl : l.length ≤ 9223372036854775807) (hx : ∀ x ∈ l, -9223372036854775808 ≤ x ∧ x ≤ 9223372036854775807) (d : Nat) : ∀ (k i : Nat), 11 - i = d → i ≤ 10 → i ≤ l.length → d < k →
    wordbooklaw16_word.l0 k l ((l.take i).map fun x => around x 4) (i : Int) = some (wordL l) := by
  induction d with
  | zero => intro k i hd hi _ hk; omega
  | succ d ih =>
    intro k i hd hi hil hk
    obtain ⟨k, rfl⟩ : ∃ m, k = m + 1 := ⟨k - 1, by omega⟩
    simp only [wordbooklaw16_word.l0]
    by_cases h1 : i < l.length
    · rw [if_pos (by omega)]
      by_cases h2 : i < 10
      · rw [if_pos (by omega), if_pos (by omega)]
        have hm : rd l i ∈ l := by rw [rd_nat, List.getD_eq_getElem?_getD, List.getElem?_eq_getElem h1]; exact List.getElem_mem h1
        rw [around_is (rd l i) 4 (by decide) (hx _ hm), Option.bind_some, if_pos (by rw [List.length_map, List.length_take]; omega), wrap_succ (by omega) (by omega)]
        have := ih k (i + 1) (by omega) (by omega) (by omega) (by omega)
        rw [List.take_succ_eq_append_getElem h1, List.map_append] at this
        rw [rd_nat, List.getD_eq_getElem?_getD, List.getElem?_eq_getElem h1, Option.getD_some]
        rwa [show ((i + 1 : Nat) : Int) = (i : Int) + 1 from by omega] at this
      · obtain rfl : i = 10 := by omega
        rw [if_neg (by omega)]; rfl
    · obtain rfl : i = l.length := by omega
      rw [if_neg (by omega), wordL, List.take_length, List.take_of_length_le hi]
theorem word_is (l : List Int) (hl : l.length ≤ 9223372036854775807) (hx : ∀ x ∈ l, -9223372036854775808 ≤ x ∧ x ≤ 9223372036854775807) (k : Nat) (hk : 11 < k) : wordbooklaw16_word.f k l = some (wordL l) := by
  have := word_tells l hl hx 11 k 0 (by omega) (by omega) (by omega) hk
  simpa [wordbooklaw16_word.f] using this
theorem wf_int {x : Int} (h : (Lit.int .i64 x).wf = true) : -9223372036854775808 ≤ x ∧ x ≤ 9223372036854775807 := by
  simp only [Lit.wf, Bool.and_eq_true, decide_eq_true_eq] at h
  exact h
end Go.Proofs.Ytcdjeimjbbknjaa.PAll
namespace Go.Proofs.Ytcdjeimjbbknjaa.PAll
open Go.RowKit Go.Proofs.YtcdjeimjbbknjaaW.PrintWords Go.Proofs.YtcdjeimjbbknjaaW.PrintLast Go.Proofs.YtcdjeimjbbknjaaW.PrintMore Go.Proofs.Ytcdjeimjbbknjaa.Lev
set_option linter.unusedVariables false
set_option linter.unusedSimpArgs false

theorem compare16_tells (a b : List Int) (ha : a.length ≤ 1000000000) (d : Nat) : ∀ (k i : Nat), a.length - i = d → i ≤ a.length → i ≤ b.length → 2 * d + 1 < k →
    wordbookref16_Compare.l0 k a b (i : Int) = some (cmpL (a.drop i) (b.drop i)) := by
  induction d with
  | zero =>
    intro k i hd hi hib hk
    obtain ⟨k, rfl⟩ : ∃ m, k = m + 1 + 1 := ⟨k - 2, by omega⟩
    simp only [wordbookref16_Compare.l0, wordbookref16_Compare.j1]
    rw [if_neg (by omega), if_neg (by simp), List.drop_of_length_le (by omega : a.length ≤ i)]
    by_cases hb : i < b.length
    · rw [if_pos (by omega), rd_drop hb]; rfl
    · rw [if_neg (by omega), if_neg (by omega), List.drop_of_length_le (by omega : b.length ≤ i)]; rfl
  | succ d ih =>
    intro k i hd hi hib hk
    obtain ⟨k, rfl⟩ : ∃ m, k = m + 1 + 1 := ⟨k - 2, by omega⟩
    simp only [wordbookref16_Compare.l0, wordbookref16_Compare.j1]
    rw [if_pos (by omega), rd_drop (by omega : i < a.length)]
    by_cases hb : i < b.length
    · have hd1 : decide ((i : Int) < (b.length : Int)) = true := decide_eq_true (by omega)
      rw [hd1, if_pos rfl, if_pos (by omega), if_pos (by omega), if_pos (by omega), rd_drop hb]
      simp only [cmpL]
      by_cases h1 : rd a i < rd b i
      · rw [if_pos h1, if_pos h1]
      · rw [if_neg h1, if_neg h1]
        by_cases h2 : rd b i < rd a i
        · rw [if_pos h2, if_pos h2]
        · rw [if_neg h2, if_neg h2, wrap_succ (by omega) (by omega)]
          have := ih k (i + 1) (by omega) (by omega) (by omega) (by omega)
          rwa [show (((i + 1 : Nat) : Int)) = (i : Int) + 1 from by omega] at this
    · have hd1 : decide ((i : Int) < (b.length : Int)) = false := decide_eq_false (by omega)
      rw [hd1, if_neg (by decide), if_neg (by omega), if_pos (by omega), List.drop_of_length_le (by omega : b.length ≤ i)]; rfl
theorem compare16_is (a b : List Int) (ha : a.length ≤ 1000000000) (k : Nat) (hk : 2 * a.length + 1 < k) : wordbookref16_Compare.f k a b = some (cmpL a b) := by
  have := compare16_tells a b ha a.length k 0 (by omega) (by omega) (by omega) hk
  simpa [wordbookref16_Compare.f] using this
end Go.Proofs.Ytcdjeimjbbknjaa.PAll
namespace Go.Proofs.Ytcdjeimjbbknjaa.PAll
open Go.RowKit Go.Proofs.YtcdjeimjbbknjaaW.PrintWords Go.Proofs.YtcdjeimjbbknjaaW.PrintLast Go.Proofs.YtcdjeimjbbknjaaW.PrintMore
set_option linter.unusedVariables false
set_option linter.unusedSimpArgs false

/-- How many words at the beginning are less. -/
def ltN (l : List (List Int)) (w : List Int) : Nat := (l.takeWhile fun v => decide (cmpL v w < 0)).length
def putW (l : List (List Int)) (w : List Int) : List (List Int) := if ltN l w < l.length ∧ cmpL (rdR l (ltN l w : Nat)) w = 0 then l else l.take (ltN l w) ++ w :: l.drop (ltN l w)
def putWOk (l : List (List Int)) (w : List Int) : Prop := l.length ≤ 1000000000 ∧ w.length ≤ 1000000000 ∧ ∀ v ∈ l, v.length ≤ 1000000000
instance (l : List (List Int)) (w : List Int) : Decidable (putWOk l w) := by unfold putWOk; infer_instance
def wordbookref16_Put.f (l0 : List (List Int)) (l1 : List Int) : Option (List (List Int)) := if putWOk l0 l1 then some (putW l0 l1) else none
theorem ltN_le (l : List (List Int)) (w : List Int) : ltN l w ≤ l.length := (List.takeWhile_prefix _).length_le
theorem rdR_mem {l : List (List Int)} {j : Nat} (h : j < l.length) : rdR l j ∈ l := by
  rw [rdR_nat, List.getD_eq_getElem?_getD, List.getElem?_eq_getElem h]; exact List.getElem_mem h
theorem ltN_below (l : List (List Int)) (w : List Int) : ∀ j, j < ltN l w → cmpL (rdR l (j : Nat)) w < 0 := by
  unfold ltN
  induction l with
  | nil => intro j h; simp at h
  | cons v l ih =>
    intro j h
    by_cases hv : cmpL v w < 0
    · cases j with
      | zero => rw [rdR_nat]; exact hv
      | succ j =>
        rw [List.takeWhile_cons_of_pos (p := fun v => decide (cmpL v w < 0)) (by simpa using hv), List.length_cons] at h
        have := ih j (by omega)
        rw [rdR_nat] at this ⊢
        exact this
    · rw [List.takeWhile_cons_of_neg (p := fun v => decide (cmpL v w < 0)) (by simpa using hv)] at h; simp at h
theorem ltN_at (l : List (List Int)) (w : List Int) (h : ltN l w < l.length) : ¬ cmpL (rdR l (ltN l w : Nat)) w < 0 := by
  unfold ltN at h ⊢
  induction l with
  | nil => simp at h
  | cons v l ih =>
    by_cases hv : cmpL v w < 0
    · rw [List.takeWhile_cons_of_pos (p := fun v => decide (cmpL v w < 0)) (by simpa using hv), List.length_cons] at h ⊢
      have := ih (by simpa using h)
      rw [rdR_nat] at this ⊢
      exact this
    · rw [List.takeWhile_cons_of_neg (p := fun v => decide (cmpL v w < 0)) (by simpa using hv)]
      rw [rdR_nat]; exact hv
set_option maxHeartbeats 4000000 in
set_option maxRecDepth 100000 in
theorem wordbookref16_Put.calls (P0_ : Nat → Prop) (A0 : Option Addr) (c0 : Nat) (l0 : List (List Int)) (P1_ : Nat → Prop) (A1 : Option Addr) (c1 : Nat) (l1 : List Int) (r : List (List Int)) (w : World) (hs0 : Kd.V (Kd.slice 3 (Kd.int .i64)) 22 w w.heap.size (fun k_ => P0_ k_) (.slice A0 l0.length c0) l0) (hs1 : Kd.V (Kd.int .i64) 3 w w.heap.size (fun k_ => P1_ k_) (.slice A1 l1.length c1) l1) (h : wordbookref16_Put.f l0 l1 = some r) :
    Calls Try.prog 96 #[.slice A0 l0.length c0, .slice A1 l1.length c1] w fun e w' => ∃ v0_ : Value, e = .returned (v0_) ∧ Kd.V (Kd.slice 3 (Kd.int .i64)) 22 w' w.heap.size (fun k_ => ((P0_ k_ ∨ P1_ k_) ∨ w.heap.size ≤ k_)) v0_ r ∧ Below w.heap.size w w' := by
  unfold wordbookref16_Put.f at h
  by_cases hok : putWOk l0 l1
  case neg => rw [if_neg hok] at h; exact absurd h (by simp)
  rw [if_pos hok] at h
  have hr := Option.some.inj h
  clear h
  obtain ⟨b0, b1, b2⟩ := hok
  obtain ⟨_, hc0, hR0⟩ := Kd.V_reads' hs0
  obtain ⟨_, hc1, hR1⟩ := Kd.V_reads' hs1
  have HF0 := Aside0.mk (Kd.F_bound (Kd.V_F hs0))
  have HF1 := Aside0.mk (Kd.F_bound (Kd.V_F hs1))
  have HR0 := Aside0.mk hR0
  have HR1 := Aside0.mk hR1
  have HB2 := Aside0.mk b2
  have HRes := Aside0.mk hr.symm
  clear hs0 hs1 hr b2
  have hlt0 := ltN_le l0 l1
  have HAt := Aside0.mk (ltN_at l0 l1)
  have HBe := Aside0.mk (ltN_below l0 l1)
  have HC := Aside0.mk (fun (A : Option Addr) (c : Nat) (x : List Int) (W : World) (n : Nat) (hx : x.length ≤ 1000000000) (hW : W = w.drewN n) (hr : Kd.C (Kd.int .i64) w A x.length x) (hc : x.length ≤ c) => (wordbookref16_Compare.calls (2 * x.length + 2) A c x A1 c1 l1 (cmpL x l1) W (by rw [hW]; exact Kd.C_drewN hr n) hc (by rw [hW]; exact Kd.C_drewN hR1 n) hc1 (compare16_is x l1 hx _ (by omega))))
  -- behind the loop: the word is put in at place m
  have HPut : Aside0 (∀ m, m ≤ l0.length → (∀ W : World, (Instr.slice 23 (.slice A0 l0.length c0) none (some (.int .i64 (m : Int))) none).run Try.prog W = .ok (.slice A0 m c0) W) ∧ ∃ A' : Option Addr, (∀ W : World, (Instr.slice 23 (.slice A0 l0.length c0) (some (.int .i64 (m : Int))) none none).run Try.prog W = .ok (.slice A' (l0.length - m) (c0 - m)) W) ∧
      ((∀ W, Below w.heap.size w W → Kd.F (Kd.slice 3 (Kd.int .i64)) W (fun k_ => P0_ k_ ∧ k_ < w.heap.size) A0 m (l0.take m)) ∧ (∀ W, Below w.heap.size w W → Kd.F (Kd.slice 3 (Kd.int .i64)) W (fun k_ => P0_ k_ ∧ k_ < w.heap.size) A' (l0.length - m) (l0.drop m)))) := ⟨fun m hm => by
    obtain ⟨t1, t2⟩ := cutR_take A0 c0 l0 m hm hc0
    obtain ⟨A', d1, d2, d3⟩ := cutR_drop A0 c0 l0 m hm hc0
    exact ⟨t1, A', d1, fun W hb => Kd.F_below (Kd.F_imp HF0.out (fun W' h => t2 W' h)) hb, fun W hb => Kd.F_below (Kd.F_imp HF0.out (fun W' h => d2 W' h)) hb⟩⟩
  have HR0' := Aside0.mk hR0
  clear hR0 hR1
  go_enter Try.func96, Try.ntmps96
  go_wp2
  go_loopw [5] (fun s5 wr => ∃ j nd : Nat, s5 = .int .i64 (j : Int) ∧ Aside0 (j ≤ ltN l0 l1) ∧ wr = w.drewN nd) (fun s5 _ => l0.length - (intOf s5).toNat)
  case atStart => exact ⟨0, 0, rfl, ⟨Nat.zero_le _⟩, rfl⟩
  case round =>
    obtain ⟨j, nd, rfl, hj, rfl⟩ := hrel
    have hjle := hj.out
    by_cases hlt : j < l0.length
    · obtain ⟨ad, A2, c2, rfl, hx, hl2, hR2⟩ := at_rows HR0'.out (j : Int) (by omega) (by omega)
      rw [Int.toNat_natCast] at hx
      have d1 : decide ((j : Int) < (l0.length : Int)) = true := decide_eq_true (by omega)
      have HCj := Aside0.mk (fun (W : World) (n : Nat) (hW : W = w.drewN n) => HC.out A2 c2 (rdR l0 (j : Int)) W n (HB2.out _ (rdR_mem hlt)) hW hR2 hl2)
      by_cases hq : cmpL (rdR l0 (j : Int)) l1 < 0
      · have HJ : Aside0 (j + 1 ≤ ltN l0 l1) := ⟨by
          rcases Nat.lt_or_ge j (ltN l0 l1) with h | h
          · exact h
          · exfalso
            have hje : j = ltN l0 l1 := by omega
            subst hje
            have := HAt.out hlt; omega⟩
        generalize cmpL (rdR l0 (j : Int)) l1 = q at *
        clear hR2 hl2
        go_wp2_with (go_at_call 58; refine (HCj.out _ _ rfl).mono ?_; rintro e w' ⟨rfl, ⟨nd2, rfl⟩⟩)
        go_roundw
        case rel => exact ⟨j + 1, _, by go_num, HJ, rfl⟩
        case measure => simp [intOf]; omega
      · have hje : j = ltN l0 l1 := by
          rcases Nat.lt_or_ge j (ltN l0 l1) with h | h
          · exact absurd (HBe.out j h) hq
          · omega
        by_cases hz : cmpL (rdR l0 (j : Int)) l1 = 0
        · have HP : Aside0 (putW l0 l1 = l0) := ⟨by unfold putW; rw [if_pos ⟨by omega, by rw [← hje]; exact hz⟩]⟩
          have hzb : (cmpL (rdR l0 (j : Int)) l1 == 0) = true := beq_iff_eq.2 hz
          generalize cmpL (rdR l0 (j : Int)) l1 = q at *
          clear hR2 hl2 hz hje
          go_wp2_with (go_at_call 58; refine (HCj.out _ _ rfl).mono ?_; rintro e w' ⟨rfl, ⟨nd2, rfl⟩⟩)
          go_ret
          exact ⟨_, rfl, by rw [HRes.out, HP.out]; exact ⟨_, _, rfl, hc0, Kd.F_mono (Kd.F_below HF0.out (by repeat (first | exact Below.refl _ _ | apply pw_below_drewN))) (fun k hk => .inl (.inl hk.1))⟩, by repeat (first | exact Below.refl _ _ | apply pw_below_drewN)⟩
        · have HP : Aside0 (putW l0 l1 = l0.take j ++ l1 :: l0.drop j) := ⟨by unfold putW; rw [if_neg (by rw [← hje]; exact fun e => hz e.2), ← hje]⟩
          have hzb : (cmpL (rdR l0 (j : Int)) l1 == 0) = false := beq_eq_false_iff_ne.2 hz
          generalize cmpL (rdR l0 (j : Int)) l1 = q at *
          clear hR2 hl2 hz hje
          obtain ⟨hcut, A', hcut', hT, hD⟩ := HPut.out j (by omega)
          have HT := Aside0.mk hT
          have HD := Aside0.mk hD
          clear hT hD
          have HL := Aside0.mk (show (l0.take j).length = j by rw [List.length_take]; omega)
          go_wp2_with (first
            | (go_at_call 58; refine (HCj.out _ _ rfl).mono ?_; rintro e w' ⟨rfl, ⟨nd2, rfl⟩⟩)
            | (at_builtin; refine Kd.N_append_rows (Kd.slice 3 (Kd.int .i64)) (w0 := w) w.heap.size rfl (.tmp 36) (.tmp 39) 23 22 (.slice none 0 0) 24 rfl Try.underlying23 info22 rfl (by decide) (by omega) (.slice none 0 0) ([] : List (List Int)) (l0.take j) _ j c0 (fun k_ => ((P0_ k_ ∨ P1_ k_) ∨ w.heap.size ≤ k_)) (fun k_ => P0_ k_ ∧ k_ < w.heap.size) rfl rfl (Kd.N_nil _ _ _ _ _) (HT.out _ (by repeat (first | exact Below.refl _ _ | apply pw_below_drewN))) (fun k hk => ⟨.inl (.inl hk.1), by simp [Value.ownBlock]⟩) (fun k hk => .inr hk) (by repeat (first | exact Below.refl _ _ | apply pw_below_drewN)) (Nat.le_refl _) (by simp only [List.length_nil]; omega) ?_; intro v1 w1 HO1 HB1 _ _; rw [List.nil_append] at HO1; have HO1 := Aside0.mk HO1; have HB1 := Aside0.mk HB1)
            | (at_builtin; refine Kd.N_append (Kd.slice 3 (Kd.int .i64)) (w0 := w) w.heap.size rfl (.tmp 40) (.tmp 42) 23 22 (.slice none 0 0) 24 rfl Try.underlying23 info22 rfl (by decide) (by omega) v1 (l0.take j) l1 [.slice A1 l1.length c1] (fun k_ => ((P0_ k_ ∨ P1_ k_) ∨ w.heap.size ≤ k_)) (fun k_ => P1_ k_ ∧ k_ < w.heap.size) rfl rfl (Kd.FK_slice_mk hc1 (Kd.F_below HF1.out HB1.out)) (fun k hk => ⟨.inl (.inr hk.1), fun e => by have := Kd.N_base HO1.out k e.symm; omega⟩) (fun k hk => .inr (Nat.le_trans HB1.out.size hk)) HO1.out HB1.out HB1.out.size (by have := HL.out; omega) ?_; intro v2 w2 HO2 HB2 _ _; have HO2 := Aside0.mk HO2; have HB2 := Aside0.mk HB2)
            | (at_builtin; refine Kd.N_append_rows (Kd.slice 3 (Kd.int .i64)) (w0 := w) w.heap.size rfl (.tmp 44) (.tmp 47) 23 22 (.slice none 0 0) 24 rfl Try.underlying23 info22 rfl (by decide) (by omega) v2 (l0.take j ++ [l1]) (l0.drop j) A' (l0.length - j) (c0 - j) (fun k_ => ((P0_ k_ ∨ P1_ k_) ∨ w.heap.size ≤ k_)) (fun k_ => P0_ k_ ∧ k_ < w.heap.size) rfl rfl HO2.out (HD.out _ HB2.out) (fun k hk => ⟨.inl (.inl hk.1), fun e => by have := Kd.N_base HO2.out k e.symm; omega⟩) (fun k hk => .inr (Nat.le_trans HB2.out.size hk)) HB2.out HB2.out.size (by have := HL.out; simp only [List.length_append, List.length_singleton]; omega) ?_; intro v3 w3 HO3 HB3 _ _; have HO3 := Aside0.mk HO3; have HB3 := Aside0.mk HB3))
          go_ret
          exact ⟨_, rfl, by rw [HRes.out, HP.out]; simpa using Kd.N_V HO3.out, HB3.out⟩
    · have hje : j = l0.length := by omega
      have d1 : decide ((j : Int) < (l0.length : Int)) = false := decide_eq_false (by omega)
      have HP : Aside0 (putW l0 l1 = l0.take j ++ l1 :: l0.drop j) := ⟨by unfold putW; rw [if_neg (fun e => by omega), show ltN l0 l1 = j from by omega]⟩
      clear hje
      obtain ⟨hcut, A', hcut', hT, hD⟩ := HPut.out j (by omega)
      have HT := Aside0.mk hT
      have HD := Aside0.mk hD
      clear hT hD
      have HL := Aside0.mk (show (l0.take j).length = j by rw [List.length_take]; omega)
      go_wp2_with (first
        | (at_builtin; refine Kd.N_append_rows (Kd.slice 3 (Kd.int .i64)) (w0 := w) w.heap.size rfl (.tmp 36) (.tmp 39) 23 22 (.slice none 0 0) 24 rfl Try.underlying23 info22 rfl (by decide) (by omega) (.slice none 0 0) ([] : List (List Int)) (l0.take j) _ j c0 (fun k_ => ((P0_ k_ ∨ P1_ k_) ∨ w.heap.size ≤ k_)) (fun k_ => P0_ k_ ∧ k_ < w.heap.size) rfl rfl (Kd.N_nil _ _ _ _ _) (HT.out _ (by repeat (first | exact Below.refl _ _ | apply pw_below_drewN))) (fun k hk => ⟨.inl (.inl hk.1), by simp [Value.ownBlock]⟩) (fun k hk => .inr hk) (by repeat (first | exact Below.refl _ _ | apply pw_below_drewN)) (Nat.le_refl _) (by simp only [List.length_nil]; omega) ?_; intro v1 w1 HO1 HB1 _ _; rw [List.nil_append] at HO1; have HO1 := Aside0.mk HO1; have HB1 := Aside0.mk HB1)
        | (at_builtin; refine Kd.N_append (Kd.slice 3 (Kd.int .i64)) (w0 := w) w.heap.size rfl (.tmp 40) (.tmp 42) 23 22 (.slice none 0 0) 24 rfl Try.underlying23 info22 rfl (by decide) (by omega) v1 (l0.take j) l1 [.slice A1 l1.length c1] (fun k_ => ((P0_ k_ ∨ P1_ k_) ∨ w.heap.size ≤ k_)) (fun k_ => P1_ k_ ∧ k_ < w.heap.size) rfl rfl (Kd.FK_slice_mk hc1 (Kd.F_below HF1.out HB1.out)) (fun k hk => ⟨.inl (.inr hk.1), fun e => by have := Kd.N_base HO1.out k e.symm; omega⟩) (fun k hk => .inr (Nat.le_trans HB1.out.size hk)) HO1.out HB1.out HB1.out.size (by have := HL.out; omega) ?_; intro v2 w2 HO2 HB2 _ _; have HO2 := Aside0.mk HO2; have HB2 := Aside0.mk HB2)
        | (at_builtin; refine Kd.N_append_rows (Kd.slice 3 (Kd.int .i64)) (w0 := w) w.heap.size rfl (.tmp 44) (.tmp 47) 23 22 (.slice none 0 0) 24 rfl Try.underlying23 info22 rfl (by decide) (by omega) v2 (l0.take j ++ [l1]) (l0.drop j) A' (l0.length - j) (c0 - j) (fun k_ => ((P0_ k_ ∨ P1_ k_) ∨ w.heap.size ≤ k_)) (fun k_ => P0_ k_ ∧ k_ < w.heap.size) rfl rfl HO2.out (HD.out _ HB2.out) (fun k hk => ⟨.inl (.inl hk.1), fun e => by have := Kd.N_base HO2.out k e.symm; omega⟩) (fun k hk => .inr (Nat.le_trans HB2.out.size hk)) HB2.out HB2.out.size (by have := HL.out; simp only [List.length_append, List.length_singleton]; omega) ?_; intro v3 w3 HO3 HB3 _ _; have HO3 := Aside0.mk HO3; have HB3 := Aside0.mk HB3))
      go_ret
      exact ⟨_, rfl, by rw [HRes.out, HP.out]; simpa using Kd.N_V HO3.out, HB3.out⟩
end Go.Proofs.Ytcdjeimjbbknjaa.PAll
namespace Go.Proofs.Ytcdjeimjbbknjaa.PAll
open Go.RowKit Go.Proofs.YtcdjeimjbbknjaaW.PrintWords Go.Proofs.YtcdjeimjbbknjaaW.PrintLast Go.Proofs.YtcdjeimjbbknjaaW.PrintMore
attribute [local go_sem] max2_int min2_int max_two min_two max_three min_three max_four min_four   -- for this text's walks alone
set_option linter.unusedVariables false
set_option linter.unusedSimpArgs false



























/-! ### wordbookref16_Words: function 52 -/
mutual
def wordbookref16_Words.l0 : Nat → List Int → Int → List (List Int) → Int → Int → Option ((List (List Int)))
  | 0, _, _, _, _, _ => none
  | k + 1, x0, x1, x5, x6, x7 => if x7 < 12 then (wordbookref16_Words.j1 k x0 x1 x5 x6 x7 (decide (x6 < (x0.length : Int)))) else (wordbookref16_Words.j1 k x0 x1 x5 x6 x7 false)
def wordbookref16_Words.j1 : Nat → List Int → Int → List (List Int) → Int → Int → Bool → Option ((List (List Int)))
  | 0, _, _, _, _, _, _ => none
  | k + 1, x0, x1, x5, x6, x7, x20 => if x20 = true then ((wordbookref01_At.f x0 x6 6).bind fun t108 => (wordbookref16_Words.l1 k x0 x1 x5 x6 x7 (wrap64 (1 + t108)) ([] : List Int) 0)) else (some x5)
def wordbookref16_Words.l1 : Nat → List Int → Int → List (List Int) → Int → Int → Int → List Int → Int → Option ((List (List Int)))
  | 0, _, _, _, _, _, _, _, _ => none
  | k + 1, x0, x1, x5, x6, x7, x8, x9, x10 => if x10 < x8 then ((wordbookref01_At.f x0 (wrap64 ((wrap64 (x6 + 1)) + x10)) x1).bind fun t109 => (if x9.length < 17592186044416 then (wordbookref16_Words.l1 k x0 x1 x5 x6 x7 x8 (x9 ++ [t109]) (wrap64 (x10 + 1))) else (none))) else ((wordbookref16_Put.f x5 x9).bind fun t113 => (wordbookref16_Words.l0 k x0 x1 t113 (wrap64 (x6 + x8)) (wrap64 (x7 + 1))))
end
def wordbookref16_Words.f (k : Nat) (l0 : List Int) (a1 : Int) : Option ((List (List Int))) := wordbookref16_Words.l0 k l0 a1 (([(([0] : List Int))] : List (List Int))) 0 0
theorem wordbookref16_Words.mono_l : ∀ k, (∀ y0 y1 y2 y3 y4, LeO (wordbookref16_Words.l0 k y0 y1 y2 y3 y4) (wordbookref16_Words.l0 (k + 1) y0 y1 y2 y3 y4)) ∧ (∀ y0 y1 y2 y3 y4 y5, LeO (wordbookref16_Words.j1 k y0 y1 y2 y3 y4 y5) (wordbookref16_Words.j1 (k + 1) y0 y1 y2 y3 y4 y5)) ∧ (∀ y0 y1 y2 y3 y4 y5 y6 y7, LeO (wordbookref16_Words.l1 k y0 y1 y2 y3 y4 y5 y6 y7) (wordbookref16_Words.l1 (k + 1) y0 y1 y2 y3 y4 y5 y6 y7))
  | 0 => ⟨fun _ _ _ _ _ r h => by simp [wordbookref16_Words.l0] at h, fun _ _ _ _ _ _ r h => by simp [wordbookref16_Words.j1] at h, fun _ _ _ _ _ _ _ _ r h => by simp [wordbookref16_Words.l1] at h⟩
  | k + 1 => by
    obtain ⟨ih0, ih1, ih2⟩ := wordbookref16_Words.mono_l k
    refine ⟨?_, ?_, ?_⟩
    · intro y0 y1 y2 y3 y4
      unfold wordbookref16_Words.l0
      repeat' first
      | (with_reducible exact ih0 _ _ _ _ _)
      | (with_reducible exact ih1 _ _ _ _ _ _)
      | (with_reducible exact ih2 _ _ _ _ _ _ _ _)
      | (with_reducible exact LeO.refl _)
      | (with_reducible exact LeO.none _)
      | (with_reducible refine LeO.ite ?_ ?_)
      | (with_reducible refine LeO.bind ?_ (fun _ => ?_))
      | exact ih0 _ _ _ _ _
      | exact ih1 _ _ _ _ _ _
      | exact ih2 _ _ _ _ _ _ _ _
      | exact LeO.none _
      | refine LeO.ite ?_ ?_
      | refine LeO.bind ?_ (fun _ => ?_)
    · intro y0 y1 y2 y3 y4 y5
      unfold wordbookref16_Words.j1
      repeat' first
      | (with_reducible exact ih0 _ _ _ _ _)
      | (with_reducible exact ih1 _ _ _ _ _ _)
      | (with_reducible exact ih2 _ _ _ _ _ _ _ _)
      | (with_reducible exact LeO.refl _)
      | (with_reducible exact LeO.none _)
      | (with_reducible refine LeO.ite ?_ ?_)
      | (with_reducible refine LeO.bind ?_ (fun _ => ?_))
      | exact ih0 _ _ _ _ _
      | exact ih1 _ _ _ _ _ _
      | exact ih2 _ _ _ _ _ _ _ _
      | exact LeO.none _
      | refine LeO.ite ?_ ?_
      | refine LeO.bind ?_ (fun _ => ?_)
    · intro y0 y1 y2 y3 y4 y5 y6 y7
      unfold wordbookref16_Words.l1
      repeat' first
      | (with_reducible exact ih0 _ _ _ _ _)
      | (with_reducible exact ih1 _ _ _ _ _ _)
      | (with_reducible exact ih2 _ _ _ _ _ _ _ _)
      | (with_reducible exact LeO.refl _)
      | (with_reducible exact LeO.none _)
      | (with_reducible refine LeO.ite ?_ ?_)
      | (with_reducible refine LeO.bind ?_ (fun _ => ?_))
      | exact ih0 _ _ _ _ _
      | exact ih1 _ _ _ _ _ _
      | exact ih2 _ _ _ _ _ _ _ _
      | exact LeO.none _
      | refine LeO.ite ?_ ?_
      | refine LeO.bind ?_ (fun _ => ?_)
theorem wordbookref16_Words.mono : ∀ a0 a1 k, LeO (wordbookref16_Words.f k a0 a1) (wordbookref16_Words.f (k + 1) a0 a1) := by
  intro a0 a1 k
  obtain ⟨ih0, ih1, ih2⟩ := wordbookref16_Words.mono_l k
  unfold wordbookref16_Words.f
  repeat' first
      | (with_reducible exact ih0 _ _ _ _ _)
      | (with_reducible exact ih1 _ _ _ _ _ _)
      | (with_reducible exact ih2 _ _ _ _ _ _ _ _)
      | (with_reducible exact LeO.refl _)
      | (with_reducible exact LeO.none _)
      | (with_reducible refine LeO.ite ?_ ?_)
      | (with_reducible refine LeO.bind ?_ (fun _ => ?_))
      | exact ih0 _ _ _ _ _
      | exact ih1 _ _ _ _ _ _
      | exact ih2 _ _ _ _ _ _ _ _
      | exact LeO.none _
      | refine LeO.ite ?_ ?_
      | refine LeO.bind ?_ (fun _ => ?_)
set_option maxHeartbeats 8000000 in
set_option maxRecDepth 100000 in
theorem wordbookref16_Words.calls (k : Nat) (A0 : Option Addr) (c0 : Nat) (l0 : List Int) (a1 : Int) (r : List (List Int)) (w : World) (hr0 : Kd.C (Kd.int .i64) w A0 l0.length l0) (hc0 : l0.length ≤ c0) (h : wordbookref16_Words.f k l0 a1 = some r) :
    Calls Try.prog 52 #[.slice A0 l0.length c0, .int .i64 a1] w fun e w' => ∃ v0_ : Value, e = .returned (v0_) ∧ Kd.V (Kd.slice 3 (Kd.int .i64)) 22 w' w.heap.size (fun k_ => (w.heap.size ≤ k_)) v0_ r ∧ Below w.heap.size w w' := by
  have HR0 := Aside0.mk hr0
  have HC0 := Aside0.mk hc0
  clear hr0 hc0
  have HB := Aside0.mk (Below.refl w.heap.size w)
  have H : (wordbookref16_Words.l0 k l0 a1 (([(([0] : List Int))] : List (List Int))) 0 0) = some r := h
  clear h
  obtain ⟨y102, hy102⟩ : ∃ y_ : List Int, y_ = (([0] : List Int)) := ⟨_, rfl⟩
  replace H : (wordbookref16_Words.l0 k l0 a1 (([y102] : List (List Int))) 0 0) = some r := by first | (rw [hy102]; with_reducible exact H) | (have H2_ := (Option.bind_some _ _).symm.trans H; rw [hy102]; with_reducible exact H2_) | (have H2_ := (Option.bind_some _ _).symm.trans H; with_reducible exact H2_) | with_reducible exact H | (rw [hy102]; exact H) | exact H
  have Ny102 := Aside0.mk hy102
  clear hy102
  obtain ⟨y105, hy105⟩ : ∃ y_ : List (List Int), y_ = (([y102] : List (List Int))) := ⟨_, rfl⟩
  replace H : (wordbookref16_Words.l0 k l0 a1 y105 0 0) = some r := by first | (rw [hy105]; with_reducible exact H) | (have H2_ := (Option.bind_some _ _).symm.trans H; rw [hy105]; with_reducible exact H2_) | (have H2_ := (Option.bind_some _ _).symm.trans H; with_reducible exact H2_) | with_reducible exact H | (rw [hy105]; exact H) | exact H
  have Ny105 := Aside0.mk hy105
  clear hy105
  have H' := Aside0.mk H
  clear H
  go_enter Try.func52, Try.ntmps52
  go_wp2_with (first | ((with_reducible refine gate_dst (N := 11) rfl ?_); (try (refine gate_guard (by rfl) ?_; dsimp only)); refine Kd.R_lit (Kd.int .i64) _ 3 ?hg (N := 11) ?hd (xs := ([0] : List Int)) (inner := [.int .i64 0]) (ok := fun _ => True) (okp := fun _ => True) ?hr ?hp (fun _ hk => hk) trivial (Below.refl _ _) (Nat.le_refl _) (by simp) ?_; (case hd => rfl); (case hg => rfl); (case hr => first | (go_simp; done) | (go_simp; rfl)); (case hp => exact (Reps.one (show Kd.M (Kd.int .i64) _ _ _ 0 [.int .i64 0] from rfl) (Reps.none _ _))); intro v103 w3 ho4 hb hg_ hnew_; clear hg_ hnew_; (first | rw [← Ny102.out] at ho4 | (simp only [Int.reduceToNat] at ho4; rw [← Ny102.out] at ho4)); have n0_ := Aside0.mk (Kd.R_lower (Kd.R_newM (M := fun k_ => (w.heap.size ≤ k_)) ho4 (below_size (by repeat (first | (with_reducible first | exact HB.out | apply below_alloc | apply pw_below_drewN | apply below_drew1) | exact HB.out))) (fun k_ h_ => h_)) (below_size (by repeat (first | (with_reducible first | exact HB.out | apply below_alloc | apply pw_below_drewN | apply below_drew1) | exact HB.out)))); have n1_ := Aside0.mk (below_step (by repeat (first | (with_reducible first | exact HB.out | apply below_alloc | apply pw_below_drewN | apply below_drew1) | exact HB.out)) hb); clear HB; have HO104 := n0_; have HB := n1_; clear n0_ n1_; clear hb ho4; obtain ⟨Ao5, co5, eo5⟩ := Kd.R_slice HO104.out; subst eo5) | ((with_reducible refine gate_dst (N := 12) rfl ?_); (try (refine gate_guard (by rfl) ?_; dsimp only)); refine Kd.N_lit (Kd.slice 3 (Kd.int .i64)) _ 22 ?hg (N' := 12) ?hd (xs := ([y102] : List (List Int))) (inner := [.slice Ao5 y102.length co5]) (ok := (fun k_ => (w.heap.size ≤ k_))) (okp := (fun k_ => (w.heap.size ≤ k_))) ?hr ?hp (fun _ hk => hk) ((show ∀ k_, w3.heap.size ≤ k_ → (fun k_ => (w.heap.size ≤ k_)) k_ from fun k_ hk => (Nat.le_trans (below_size (by repeat (first | (with_reducible first | exact HB.out | apply below_alloc | apply pw_below_drewN | apply below_drew1) | exact HB.out))) hk)) _ (Nat.le_refl _)) (Below.refl _ _) (Nat.le_refl _) (by simp) ?_; (case hd => rfl); (case hg => rfl); (case hr => first | (go_simp; done) | (go_simp; rfl)); (case hp => exact (Reps.one (show Kd.FK (Kd.slice 3 (Kd.int .i64)) _ _ y102 [.slice Ao5 y102.length co5] from (Kd.FK_slice_mk (Kd.R_reads' (Kd.R_mono (ok' := (fun k_ => (w.heap.size ≤ k_))) (HO104.out) (fun k_ hk => hk.1))).2.1 (Kd.R_F (Kd.R_mono (ok' := (fun k_ => (w.heap.size ≤ k_))) (HO104.out) (fun k_ hk => hk.1))))) (Reps.none _ _))); intro v106 w6 ho7 hb hg_ hnew_; clear hg_ hnew_; (first | rw [← Ny105.out] at ho7 | (simp only [Int.reduceToNat] at ho7; rw [← Ny105.out] at ho7)); have n0_ := Aside0.mk (Kd.N_lower ho7 (below_size (by repeat (first | (with_reducible first | exact HB.out | apply below_alloc | apply pw_below_drewN | apply below_drew1) | exact HB.out)))); have n1_ := Aside0.mk (below_step (by repeat (first | (with_reducible first | exact HB.out | apply below_alloc | apply pw_below_drewN | apply below_drew1) | exact HB.out)) hb); clear HB; clear HO104; have HO107 := n0_; have HB := n1_; clear n0_ n1_; clear hb ho7))
  go_loopg [5, 6, 7] k (fun kq v5 v6 v7 w' => ∃ (x5_1 : List (List Int)) (x6_1 : Int) (x7_1 : Int), v6 = .int .i64 x6_1 ∧ v7 = .int .i64 x7_1 ∧ Aside0 (wordbookref16_Words.l0 kq l0 a1 x5_1 x6_1 x7_1 = some r) ∧ Aside0 (kq ≤ k) ∧ Aside0 (Kd.V (Kd.slice 3 (Kd.int .i64)) 22 w' w.heap.size (fun k_ => (w.heap.size ≤ k_)) v5 x5_1) ∧ Aside0 (Below w.heap.size w w'))
  case atStart => exact ⟨(y105), (0), (0), (by first | rfl | (simp; done) | (simp [*]; done)), (by first | rfl | (simp; done) | (simp [*]; done)), H', ⟨Nat.le_refl _⟩, ⟨Kd.N_V (by (with_reducible repeat (first | apply Kd.N_alloc | apply Kd.N_drewN | apply Kd.N_drew)); exact HO107.out)⟩, ⟨by repeat (first | (with_reducible first | exact HB.out | apply below_alloc | apply pw_below_drewN | apply below_drew1) | exact HB.out)⟩⟩
  case round =>
    clear H'
    try clear p2
    try clear c5
    obtain ⟨x5_1, x6_1, x7_1, rfl, rfl, HA, HK1, HO_5, HB⟩ := hrel
    cases gk with
    | zero => exact absurd HA.out (by simp [wordbookref16_Words.l0])
    | succ k1 =>
      have H := HA.out
      clear HA
      simp only [wordbookref16_Words.l0] at H
      have HC8 := Aside0.mk H
      clear H
      go_upto_region 4 with (fail)
      go_cut [20] (fun v20 wc => ∃ (kq : Nat) (x20_7 : Bool), v20 = .bool x20_7 ∧ Aside0 (wordbookref16_Words.j1 kq l0 a1 x5_1 x6_1 x7_1 x20_7 = some r) ∧ Aside0 (kq ≤ k1) ∧ Aside0 (Kd.V (Kd.slice 3 (Kd.int .i64)) 22 wc w.heap.size (fun k_ => (w.heap.size ≤ k_)) u5 x5_1) ∧ Aside0 (Below w.heap.size w wc))
      case first =>
        have H := HC8.out
        clear HC8
        by_cases c9 : x7_1 < 12
        · rw [if_pos c9] at H
          have c9b0 : decide (x7_1 < 12) = true := decide_eq_true c9
          clear c9
          (first | rw [c9b0] | (simp only [i64_w, i32_w]; rw [c9b0]) | skip)
          have H' := Aside0.mk H
          clear H
          go_wp2
          go_meet
          case rel => exact ⟨_, (decide (x6_1 < (l0.length : Int))), (by first | rfl | (simp; done) | (simp [*]; done)), H', ⟨by have := HK1.out; first | omega | exact Nat.le_refl _⟩, ⟨by (with_reducible repeat (first | apply Kd.V_alloc | apply Kd.V_drewN | apply Kd.V_drew)); exact HO_5.out⟩, ⟨by repeat (first | (with_reducible first | exact HB.out | apply below_alloc | apply pw_below_drewN | apply below_drew1) | exact HB.out)⟩⟩
        · rw [if_neg c9] at H
          have c9b0 : decide (x7_1 < 12) = false := decide_eq_false c9
          clear c9
          (first | rw [c9b0] | (simp only [i64_w, i32_w]; rw [c9b0]) | skip)
          have H' := Aside0.mk H
          clear H
          go_wp2
          go_meet
          case rel => exact ⟨_, (false), (by first | rfl | (simp; done) | (simp [*]; done)), H', ⟨by have := HK1.out; first | omega | exact Nat.le_refl _⟩, ⟨by (with_reducible repeat (first | apply Kd.V_alloc | apply Kd.V_drewN | apply Kd.V_drew)); exact HO_5.out⟩, ⟨by repeat (first | (with_reducible first | exact HB.out | apply below_alloc | apply pw_below_drewN | apply below_drew1) | exact HB.out)⟩⟩
      case rest =>
        clear HC8
        try clear p2
        try clear c5
        try clear c9
        try clear c9b0
        try clear p2
        obtain ⟨kq, x20_7, rfl, HA, HJ7, HO_5, HB⟩ := hcut
        cases kq with
        | zero => exact absurd HA.out (by simp [wordbookref16_Words.j1])
        | succ kj7 =>
          have H := HA.out
          clear HA
          simp only [wordbookref16_Words.j1] at H
          by_cases c10 : x20_7 = true
          · subst c10
            have H1 : ((wordbookref01_At.f l0 x6_1 6).bind fun t108 => (wordbookref16_Words.l1 kj7 l0 a1 x5_1 x6_1 x7_1 (wrap64 (1 + t108)) ([] : List Int) 0)) = some r := by rw [if_pos rfl] at H; exact H
            clear H
            have H := H1
            clear H1
            replace H := Option.bind_eq_some_iff.mp H
            obtain ⟨t108, A110, H⟩ := H
            replace H : (wordbookref16_Words.l1 kj7 l0 a1 x5_1 x6_1 x7_1 (wrap64 (1 + t108)) ([] : List Int) 0) = some r := H
            have A11 := Aside0.mk A110
            clear A110
            have H' := Aside0.mk H
            clear H
            go_wp2_with (first | ((with_reducible refine gate_callee (f := 61) rfl ?_); refine goesL_ (some 25) rfl rfl Try.func61 (by kernel_rfl) rfl #[.slice A0 l0.length c0, .int .i64 x6_1, .int .i64 6] rfl (by (try simp only [List.map_toArray, List.map_cons, List.map_nil]); first | done | rfl | (simp only [List.length_drop, List.length_take]; rfl)) ?_; (with_reducible refine (wordbookref01_At.calls _ _ l0 x6_1 6 t108 _ ?side1 ?side2 A11.out).mono ?_); (case side1 => repeat (first | exact (Kd.C_below HR0.out HB.out) | (with_reducible refine Kd.C_alloc ?_ _) | (with_reducible refine Kd.C_drewN ?_ _) | (with_reducible refine Kd.C_drew ?_))); (case side2 => exact HC0.out); rintro e w' ⟨rfl, ⟨nd, rfl⟩⟩; refine ⟨_, rfl, ?_⟩))
            go_loopg [9, 10] kj7 (fun kq v9 v10 w' => ∃ (x9_3 : List Int) (x10_3 : Int), v10 = .int .i64 x10_3 ∧ Aside0 (wordbookref16_Words.l1 kq l0 a1 x5_1 x6_1 x7_1 (wrap64 (1 + t108)) x9_3 x10_3 = some r) ∧ Aside0 (kq ≤ kj7) ∧ Aside0 (Kd.V (Kd.slice 3 (Kd.int .i64)) 22 w' w.heap.size (fun k_ => (w.heap.size ≤ k_) ∧ some k_ ≠ (v9 : Value).ownBlock) u5 x5_1) ∧ Aside0 (Kd.R (Kd.int .i64) 3 w' w.heap.size (fun k_ => (w.heap.size ≤ k_)) v9 x9_3) ∧ Aside0 (Below w.heap.size w w'))
            case atStart => exact ⟨(([] : List Int)), (0), (by first | rfl | (simp; done) | (simp [*]; done)), H', ⟨Nat.le_refl _⟩, ⟨by (with_reducible repeat (first | apply Kd.V_alloc | apply Kd.V_drewN | apply Kd.V_drew)); exact Kd.V_mono HO_5.out (fun _ hk => ⟨hk, (by simp [Value.ownBlock])⟩)⟩, ⟨by first | exact Kd.R_nil _ _ _ _ _ | exact Kd.N_nil _ _ _ _ _ | exact Kd.V_nil _ _ _ _ _ | exact Kd.Q_nil _ _ _ _ _ | exact Kd.S_nil _ _ _ _ _⟩, ⟨by repeat (first | (with_reducible first | exact HB.out | apply below_alloc | apply pw_below_drewN | apply below_drew1) | exact HB.out)⟩⟩
            case round =>
              clear H'
              try clear c1
              try clear p2
              try clear c5
              try clear c6
              try clear p6
              try clear c9
              try clear c9b0
              try clear c10
              try clear p2
              obtain ⟨x9_3, x10_3, rfl, HA, HK3, HO_5, HO_9, HB⟩ := hrel
              cases gk with
              | zero => exact absurd HA.out (by simp [wordbookref16_Words.l1])
              | succ k3 =>
                have H := HA.out
                clear HA
                simp only [wordbookref16_Words.l1] at H
                by_cases c12 : x10_3 < (wrap64 (1 + t108))
                · rw [if_pos c12] at H
                  have c12b0 : decide (x10_3 < (wrap64 (1 + t108))) = true := decide_eq_true c12
                  clear c12
                  replace H := Option.bind_eq_some_iff.mp H
                  obtain ⟨t109, A130, H⟩ := H
                  replace H : (if x9_3.length < 17592186044416 then (wordbookref16_Words.l1 k3 l0 a1 x5_1 x6_1 x7_1 (wrap64 (1 + t108)) (x9_3 ++ [t109]) (wrap64 (x10_3 + 1))) else (none)) = some r := H
                  have A13 := Aside0.mk A130
                  clear A130
                  by_cases c14 : x9_3.length < 17592186044416
                  · rw [if_pos c14] at H
                    have LMc14 := Aside0.mk c14
                    clear c14
                    obtain ⟨y110, hy110⟩ : ∃ y_ : List Int, y_ = (x9_3 ++ [t109]) := ⟨_, rfl⟩
                    replace H : (wordbookref16_Words.l1 k3 l0 a1 x5_1 x6_1 x7_1 (wrap64 (1 + t108)) y110 (wrap64 (x10_3 + 1))) = some r := by first | (rw [hy110]; with_reducible exact H) | (have H2_ := (Option.bind_some _ _).symm.trans H; rw [hy110]; with_reducible exact H2_) | (have H2_ := (Option.bind_some _ _).symm.trans H; with_reducible exact H2_) | with_reducible exact H | (rw [hy110]; exact H) | exact H
                    have Ny110 := Aside0.mk hy110
                    clear hy110
                    have H' := Aside0.mk H
                    clear H
                    go_wp2_with (first | ((with_reducible refine gate_callee (f := 61) rfl ?_); refine goesL_ (some 39) rfl rfl Try.func61 (by kernel_rfl) rfl #[.slice A0 l0.length c0, .int .i64 (wrap64 ((wrap64 (x6_1 + 1)) + x10_3)), .int .i64 a1] rfl (by (try simp only [List.map_toArray, List.map_cons, List.map_nil]); first | done | rfl | (simp only [List.length_drop, List.length_take]; rfl)) ?_; (with_reducible refine (wordbookref01_At.calls _ _ l0 (wrap64 ((wrap64 (x6_1 + 1)) + x10_3)) a1 t109 _ ?side1 ?side2 A13.out).mono ?_); (case side1 => repeat (first | exact (Kd.C_below HR0.out HB.out) | (with_reducible refine Kd.C_alloc ?_ _) | (with_reducible refine Kd.C_drewN ?_ _) | (with_reducible refine Kd.C_drew ?_))); (case side2 => exact HC0.out); rintro e w' ⟨rfl, ⟨nd, rfl⟩⟩; refine ⟨_, rfl, ?_⟩) | ((with_reducible refine gate_builtin (b := .append) (xs := #[.tmp 32, .tmp 40]) rfl ?_); (try (refine gate_guard (by rfl) ?_; dsimp only)); at_builtin; refine Kd.R_append (Kd.int .i64) (w0 := w) w.heap.size rfl (.tmp 32) (.tmp 40) 22 3 (.int .i64 0) 8 rfl Try.underlying22 info3 rfl (by decide) (by omega) u9 x9_3 t109 [.int .i64 t109] (fun k_ => (w.heap.size ≤ k_)) (fun _ => False) rfl rfl ?aP (fun _ hk => hk.elim) ?aF ?aO ?aB ?aS ?aL ?_; (case aP => exact rfl); (case aB => exact (by repeat (first | (with_reducible first | exact HB.out | apply below_alloc | apply pw_below_drewN | apply below_drew1) | exact HB.out))); (case aF => exact (fun k_ hk => (Nat.le_trans (below_size (by repeat (first | (with_reducible first | exact HB.out | apply below_alloc | apply pw_below_drewN | apply below_drew1) | exact HB.out))) hk))); (case aO => exact (by (with_reducible repeat (first | apply Kd.R_alloc | apply Kd.R_drewN | apply Kd.R_drew)); exact HO_9.out)); (case aS => exact (below_size (by repeat (first | (with_reducible first | exact HB.out | apply below_alloc | apply pw_below_drewN | apply below_drew1) | exact HB.out)))); (case aL => have := LMc14.out; omega); intro v111 w15 ho hb hg hat; rw [← Ny110.out] at ho; have n0_ := Aside0.mk (Kd.V_afterv (ok := (fun k_ => (w.heap.size ≤ k_))) (by (with_reducible repeat (first | apply Kd.V_alloc | apply Kd.V_drewN | apply Kd.V_drew)); exact HO_5.out) hg hat); have n1_ := Aside0.mk (hb); have n2_ := Aside0.mk (ho); clear HO_5; clear HB; clear HO_9; have HO_5 := n0_; have HB := n1_; have HO112 := n2_; clear n0_ n1_ n2_; clear ho hb hg hat))
                    go_roundg k3
                    case measure => have := HK1.out; have := HJ7.out; have := HK3.out; omega
                    case rel => exact ⟨(y110), (wrap64 (x10_3 + 1)), (by first | rfl | (simp; done) | (simp [*]; done)), H', ⟨by have := HK1.out; have := HJ7.out; have := HK3.out; omega⟩, ⟨by (with_reducible repeat (first | apply Kd.V_alloc | apply Kd.V_drewN | apply Kd.V_drew)); exact HO_5.out⟩, ⟨by (with_reducible repeat (first | apply Kd.R_alloc | apply Kd.R_drewN | apply Kd.R_drew)); exact HO112.out⟩, ⟨by repeat (first | (with_reducible first | exact HB.out | apply below_alloc | apply pw_below_drewN | apply below_drew1) | exact HB.out)⟩⟩
                  · rw [if_neg c14] at H
                    exact absurd H (by simp)
                · rw [if_neg c12] at H
                  have c12b0 : decide (x10_3 < (wrap64 (1 + t108))) = false := decide_eq_false c12
                  clear c12
                  replace H := Option.bind_eq_some_iff.mp H
                  obtain ⟨t113, A160, H⟩ := H
                  replace H : (wordbookref16_Words.l0 k3 l0 a1 t113 (wrap64 (x6_1 + (wrap64 (1 + t108)))) (wrap64 (x7_1 + 1))) = some r := H
                  have A16 := Aside0.mk A160
                  clear A160
                  have H' := Aside0.mk H
                  clear H
                  obtain ⟨Ao17, co17, eo17⟩ := Kd.V_slice HO_5.out
                  subst eo17
                  obtain ⟨Ao18, co18, eo18⟩ := Kd.R_slice HO_9.out
                  subst eo18
                  go_wp2_with (first | ((with_reducible refine gate_callee (f := 96) rfl ?_); refine goesL_ (some 44) rfl rfl Try.func96 (by kernel_rfl) rfl #[.slice Ao17 x5_1.length co17, .slice Ao18 x9_3.length co18] rfl (by (try simp only [List.map_toArray, List.map_cons, List.map_nil]); first | done | rfl | (simp only [List.length_drop, List.length_take]; rfl)) ?_; (with_reducible refine (wordbookref16_Put.calls (fun k_ => ((w.heap.size ≤ k_) ∧ some k_ ≠ (.slice Ao18 x9_3.length co18 : Value).ownBlock)) _ _ x5_1 (fun k_ => some k_ = (.slice Ao18 x9_3.length co18 : Value).ownBlock) _ _ x9_3 t113 _ ?side1 ?side2 A16.out).mono ?_); (case side1 => exact HO_5.out); (case side2 => exact Kd.R_V (Kd.R_tight rfl (HO_9.out))); rintro e w19 ⟨v114, rfl, ho0, hb⟩; refine ⟨_, rfl, ?_⟩; have n0_ := Aside0.mk (Kd.V_below (by (with_reducible repeat (first | apply Kd.V_alloc | apply Kd.V_drewN | apply Kd.V_drew)); exact HO_5.out) hb); have n1_ := Aside0.mk (Kd.R_below (by (with_reducible repeat (first | apply Kd.R_alloc | apply Kd.R_drewN | apply Kd.R_drew)); exact HO_9.out) hb); have n2_ := Aside0.mk (Kd.V_lower (Kd.V_mono (ok' := fun k_ => (w.heap.size ≤ k_)) ho0 (fun k_ hk_ => Or.elim hk_ (fun hs_ => Or.elim hs_ (fun hs_ => hs_.1) (fun hs_ => ((HO_9.out).1 k_ hs_.symm))) (fun hn_ => (Nat.le_trans (below_size (by repeat (first | (with_reducible first | exact HB.out | apply below_alloc | apply pw_below_drewN | apply below_drew1) | exact HB.out))) hn_)))) (below_size (by repeat (first | (with_reducible first | exact HB.out | apply below_alloc | apply pw_below_drewN | apply below_drew1) | exact HB.out)))); have n3_ := Aside0.mk (below_step (by repeat (first | (with_reducible first | exact HB.out | apply below_alloc | apply pw_below_drewN | apply below_drew1) | exact HB.out)) hb); clear HO_5; clear HO_9; clear HB; have HO_5 := n0_; have HO_9 := n1_; have HO115 := n2_; have HB := n3_; clear n0_ n1_ n2_ n3_; (try clear hb); (try clear hb2); (try clear hk); (try clear hi); (try clear ho0)))
                  go_roundg k3
                  case measure => have := HK1.out; have := HJ7.out; have := HK3.out; omega
                  case rel => exact ⟨(t113), (wrap64 (x6_1 + (wrap64 (1 + t108)))), (wrap64 (x7_1 + 1)), (by first | rfl | (simp; done) | (simp [*]; done)), (by first | rfl | (simp; done) | (simp [*]; done)), H', ⟨by have := HK1.out; have := HJ7.out; have := HK3.out; omega⟩, ⟨by (with_reducible repeat (first | apply Kd.V_alloc | apply Kd.V_drewN | apply Kd.V_drew)); exact HO115.out⟩, ⟨by repeat (first | (with_reducible first | exact HB.out | apply below_alloc | apply pw_below_drewN | apply below_drew1) | exact HB.out)⟩⟩
          · replace c10 := Bool.eq_false_iff.mpr c10
            subst c10
            have H1 : (some x5_1) = some r := by rw [if_neg (show ¬ (false = true) by decide)] at H; exact H
            clear H
            have H := H1
            clear H1
            obtain rfl := Option.some.inj H
            go_wp2
            go_ret
            exact ⟨_, by first | rfl | (simp [errW_none, errW_some] <;> rfl) | (simp [*, errW_none, errW_some] <;> rfl), by (with_reducible repeat (first | apply Kd.V_alloc | apply Kd.V_drewN | apply Kd.V_drew)); exact HO_5.out, by repeat (first | (with_reducible first | exact HB.out | apply below_alloc | apply pw_below_drewN | apply below_drew1) | exact HB.out)⟩


end Go.Proofs.Ytcdjeimjbbknjaa.PAll
namespace Go.Proofs.Ytcdjeimjbbknjaa.PAll
open Go.RowKit Go.Proofs.YtcdjeimjbbknjaaW.PrintWords Go.Proofs.YtcdjeimjbbknjaaW.PrintLast Go.Proofs.YtcdjeimjbbknjaaW.PrintMore Go.Proofs.Ytcdjeimjbbknjaa.Res
set_option linter.unusedVariables false
set_option linter.unusedSimpArgs false

def atL (l : List Int) (i most : Int) : Int := if i < 0 ∨ (l.length : Int) ≤ i then 0 else around (rd l i) most
theorem at_is (l : List Int) (i most : Int) (h0 : 0 < most) (hw : ∀ x ∈ l, -9223372036854775808 ≤ x ∧ x ≤ 9223372036854775807) : wordbookref01_At.f l i most = some (atL l i most) := by
  unfold wordbookref01_At.f atL
  by_cases h1 : i < 0
  · rw [if_pos h1, if_pos (.inl h1)]
  · rw [if_neg h1]
    by_cases h2 : (l.length : Int) ≤ i
    · rw [if_pos h2, if_pos (.inr h2)]
    · rw [if_neg h2, if_pos (by omega), if_pos (by omega), if_neg (by omega)]
      have hm : rd l i ∈ l := by
        have := rd_in' (l := l) (i := i.toNat) (by omega)
        rwa [show ((i.toNat : Nat) : Int) = i from by omega] at this
      rw [around_is _ _ h0 (hw _ hm)]; rfl
where
  rd_in' {l : List Int} {i : Nat} (h : i < l.length) : rd l i ∈ l := by
    rw [rd_nat, List.getD_eq_getElem?_getD, List.getElem?_eq_getElem h]; exact List.getElem_mem h
theorem atL_range (l : List Int) (i most : Int) (h0 : 0 < most) : 0 ≤ atL l i most ∧ atL l i most < most := by
  unfold atL
  split
  · omega
  · exact around_range _ _ h0
theorem cmpL_flip : ∀ a b : List Int, cmpL a b = 1 → cmpL b a = -1
  | [], [], h => by simp [cmpL] at h
  | [], _ :: _, h => by simp [cmpL] at h
  | _ :: _, [], _ => rfl
  | x :: a, y :: b, h => by
    simp only [cmpL] at h ⊢
    by_cases h1 : x < y
    · rw [if_pos h1] at h; simp at h
    · rw [if_neg h1] at h
      by_cases h2 : y < x
      · rw [if_pos h2]
      · rw [if_neg h2] at h ⊢
        rw [if_neg h1]
        exact cmpL_flip a b h
theorem ltN_split (l : List (List Int)) (w : List Int) : (∀ v ∈ l.take (ltN l w), cmpL v w = -1) := by
  intro v hv
  unfold ltN at hv
  rw [tw_len_take] at hv
  exact (cmpL_lt_iff _ _).1 (of_decide_eq_true (tw_all _ l v hv))
theorem putW_mem {l : List (List Int)} {w v : List Int} (h : v ∈ putW l w) : v ∈ l ∨ v = w := by
  unfold putW at h
  split at h
  · exact .inl h
  · rcases List.mem_append.1 h with h | h
    · exact .inl (List.mem_of_mem_take h)
    · rcases List.mem_cons.1 h with h | h
      · exact .inr h
      · exact .inl (List.mem_of_mem_drop h)
theorem putW_length (l : List (List Int)) (w : List Int) : l.length ≤ (putW l w).length ∧ (putW l w).length ≤ l.length + 1 := by
  have := ltN_le l w
  unfold putW
  split
  · omega
  · simp only [List.length_append, List.length_take, List.length_cons, List.length_drop]; omega
theorem putW_srt {l : List (List Int)} {w : List Int} (h : Srt l) : Srt (putW l w) := by
  unfold putW
  split
  · exact h
  · rename_i hn
    unfold Srt
    refine List.pairwise_append.2 ⟨List.Pairwise.sublist (List.take_sublist _ _) h, List.pairwise_cons.2 ⟨?_, List.Pairwise.sublist (List.drop_sublist _ _) h⟩, ?_⟩
    · intro v hv
      by_cases hlt : ltN l w < l.length
      · have h1 := ltN_at l w hlt
        have h2 : cmpL (rdR l (ltN l w : Nat)) w ≠ 0 := fun e => hn ⟨hlt, e⟩
        have h3 : cmpL w (rdR l (ltN l w : Nat)) = -1 := by
          rcases cmpL_values (rdR l (ltN l w : Nat)) w with e | e | e
          · rw [e] at h1; simp at h1
          · exact absurd e h2
          · exact cmpL_flip _ _ e
        have h4 : l.drop (ltN l w) = rdR l (ltN l w : Nat) :: l.drop (ltN l w + 1) := by
          rw [List.drop_eq_getElem_cons hlt, rdR_get hlt]
        have hs : (l.drop (ltN l w)).Pairwise fun u v => cmpL u v = -1 := List.Pairwise.sublist (List.drop_sublist _ _) h
        rw [h4] at hs hv
        rcases List.mem_cons.1 hv with rfl | hv
        · exact h3
        · exact cmpL_trans _ _ _ h3 ((List.pairwise_cons.1 hs).1 v hv)
      · rw [List.drop_of_length_le (by omega)] at hv; simp at hv
    · intro u hu v hv
      rcases List.mem_cons.1 hv with rfl | hv
      · exact ltN_split l _ u hu
      · have := List.take_append_drop (ltN l w) l
        unfold Srt at h
        rw [← this] at h
        exact (List.pairwise_append.1 h).2.2 u hu v hv
structure W16 (most : Int) (out : List (List Int)) (n : Nat) : Prop where
  srt : Srt out
  few : out.length ≤ n + 1
  pos : 0 < out.length
  size : ∀ v ∈ out, v.length ≤ 6
  sym : ∀ v ∈ out, ∀ s ∈ v, 0 ≤ s ∧ s < most
theorem W16.good {most : Int} {out : List (List Int)} {n : Nat} (h : W16 most out n) (hm : most ≤ 64) (hn : n ≤ 100) : Good out := by
  refine ⟨fun v hv s hs => by have := h.sym v hv s hs; omega, h.srt, fun v hv => by have := h.size v hv; omega, by have := h.few; omega, ?_⟩
  have key : ∀ l : List (List Int), (∀ v ∈ l, v.length ≤ 6) → (l.map List.length).sum ≤ 6 * l.length := by
    intro l
    induction l with
    | nil => intro _; simp
    | cons v l ih =>
      intro hv
      have h1 := hv v List.mem_cons_self
      have h2 := ih (fun x hx => hv x (List.mem_cons_of_mem _ hx))
      simp only [List.map_cons, List.sum_cons, List.length_cons]; omega
  have := key out h.size
  have := h.few
  omega
theorem W16.put {most : Int} {out : List (List Int)} {n : Nat} (h : W16 most out n) {w : List Int} (hl : w.length ≤ 6) (hs : ∀ s ∈ w, 0 ≤ s ∧ s < most) : W16 most (putW out w) (n + 1) := by
  have hp := putW_length out w
  refine ⟨putW_srt h.srt, by have := h.few; omega, by have := h.pos; omega, fun v hv => ?_, fun v hv => ?_⟩
  · rcases putW_mem hv with hv | rfl
    · exact h.size v hv
    · exact hl
  · rcases putW_mem hv with hv | rfl
    · exact h.sym v hv
    · exact hs
theorem words16_in (l : List Int) (most : Int) (hm : 0 < most) (hw : ∀ x ∈ l, -9223372036854775808 ≤ x ∧ x ≤ 9223372036854775807) (out : List (List Int)) (at_ n : Int) (ha : 0 ≤ at_ ∧ at_ ≤ 1000) (long : Nat) (hlong : long ≤ 6) (K0 : Nat) (T : List (List Int) → Prop)
    (hk : ∀ (w : List Int) (k : Nat), w.length ≤ 6 → (∀ s ∈ w, 0 ≤ s ∧ s < most) → K0 ≤ k → ∃ r, ((wordbookref16_Put.f out w).bind fun t => wordbookref16_Words.l0 k l most t (wrap64 (at_ + (long : Int))) (wrap64 (n + 1))) = some r ∧ T r) (d : Nat) :
    ∀ (k j : Nat) (w : List Int), long - j = d → j ≤ long → w.length = j → (∀ s ∈ w, 0 ≤ s ∧ s < most) → K0 + d < k → ∃ r, wordbookref16_Words.l1 k l most out at_ n (long : Int) w (j : Int) = some r ∧ T r := by
  induction d with
  | zero =>
    intro k j w hd hj hwl hws hkk
    obtain ⟨k, rfl⟩ : ∃ m, k = m + 1 := ⟨k - 1, by omega⟩
    rw [wordbookref16_Words.l1, if_neg (by omega)]
    exact hk w k (by omega) hws (by omega)
  | succ d ih =>
    intro k j w hd hj hwl hws hkk
    obtain ⟨k, rfl⟩ : ∃ m, k = m + 1 := ⟨k - 1, by omega⟩
    rw [wordbookref16_Words.l1, if_pos (by omega), at_is l _ most hm hw, Option.bind_some, if_pos (by omega), wrap_succ (i := (j : Int)) (by omega) (by omega)]
    have hr := atL_range l (wrap64 (wrap64 (at_ + 1) + (j : Int))) most hm
    generalize atL l (wrap64 (wrap64 (at_ + 1) + (j : Int))) most = q at *
    have := ih k (j + 1) (w ++ [q]) (by omega) (by omega) (by simp [hwl]) (fun s hs => by
      rcases List.mem_append.1 hs with hs | hs
      · exact hws s hs
      · obtain rfl := List.mem_singleton.1 hs; exact hr) (by omega)
    rwa [show (((j + 1 : Nat) : Int)) = (j : Int) + 1 from by omega] at this
theorem words16_tells (l : List Int) (most : Int) (hm : 0 < most) (hw : ∀ x ∈ l, -9223372036854775808 ≤ x ∧ x ≤ 9223372036854775807) (d : Nat) : ∀ (k n at_ : Nat) (out : List (List Int)), 12 - n = d → n ≤ 12 → at_ ≤ 6 * n → W16 most out n → 10 * d + 3 < k →
    ∃ r, wordbookref16_Words.l0 k l most out (at_ : Int) (n : Int) = some r ∧ W16 most r 12 := by
  induction d with
  | zero =>
    intro k n at_ out hd hn ha ho hk
    obtain rfl : n = 12 := by omega
    obtain ⟨k, rfl⟩ : ∃ m, k = m + 1 + 1 := ⟨k - 2, by omega⟩
    rw [wordbookref16_Words.l0, if_neg (by omega), wordbookref16_Words.j1, if_neg (by decide)]
    exact ⟨out, rfl, ho⟩
  | succ d ih =>
    intro k n at_ out hd hn ha ho hk
    obtain ⟨k, rfl⟩ : ∃ m, k = m + 1 + 1 := ⟨k - 2, by omega⟩
    rw [wordbookref16_Words.l0, if_pos (by omega), wordbookref16_Words.j1]
    by_cases hlt : (at_ : Int) < (l.length : Int)
    · rw [if_pos (decide_eq_true hlt), at_is l _ 6 (by decide) hw, Option.bind_some]
      have hr := atL_range l (at_ : Int) 6 (by decide)
      generalize atL l (at_ : Int) 6 = q at *
      obtain ⟨long, hlong⟩ : ∃ long : Nat, wrap64 (1 + q) = (long : Int) := ⟨(1 + q).toNat, by unfold wrap64; omega⟩
      have hl6 : long ≤ 6 := by unfold wrap64 at hlong; omega
      rw [hlong]
      clear hlong
      have := words16_in l most hm hw out (at_ : Int) (n : Int) ⟨by omega, by omega⟩ long hl6 (10 * d + 4) (fun r => W16 most r 12) (fun w k' hwl hws hk' => by
        have hP : wordbookref16_Put.f out w = some (putW out w) := by
          unfold wordbookref16_Put.f
          rw [if_pos ⟨by have := ho.few; omega, by omega, fun v hv => by have := ho.size v hv; omega⟩]
        have e1 : wrap64 ((at_ : Int) + (long : Int)) = ((at_ + long : Nat) : Int) := by unfold wrap64; omega
        have e2 : wrap64 ((n : Int) + 1) = ((n + 1 : Nat) : Int) := by unfold wrap64; omega
        rw [hP, Option.bind_some, e1, e2]
        clear e1 e2 hP
        exact ih k' (n + 1) (at_ + long) (putW out w) (by omega) (by omega) (by omega) (ho.put hwl hws) (by omega)) long k 0 [] (by omega) (by omega) rfl (by simp) (by omega)
      exact this
    · rw [if_neg (by simpa using hlt)]
      exact ⟨out, rfl, ⟨ho.srt, by have := ho.few; omega, ho.pos, ho.size, ho.sym⟩⟩
theorem words16_is (l : List Int) (most : Int) (hm : 0 < most) (hw : ∀ x ∈ l, -9223372036854775808 ≤ x ∧ x ≤ 9223372036854775807) (k : Nat) (hk : 130 < k) : ∃ r, wordbookref16_Words.f k l most = some r ∧ W16 most r 12 := by
  have := words16_tells l most hm hw 12 k 0 0 [[0]] (by omega) (by omega) (by omega) ⟨by unfold Srt; simp, by simp, by simp, by simp, by simpa using hm⟩ (by omega)
  simpa [wordbookref16_Words.f] using this
end Go.Proofs.Ytcdjeimjbbknjaa.PAll
namespace Go.Proofs.Ytcdjeimjbbknjaa.PAll
open Go.RowKit Go.Proofs.YtcdjeimjbbknjaaW.PrintWords Go.Proofs.YtcdjeimjbbknjaaW.PrintLast Go.Proofs.YtcdjeimjbbknjaaW.PrintMore Go.Proofs.Ytcdjeimjbbknjaa.Lev
set_option linter.unusedVariables false
set_option linter.unusedSimpArgs false

def liveW : List (List Int) := [[1], [1, 2, 3], [1, 3], [2]]
def liveG : List Nd := [⟨false, [1, 2], [1, 2], 4⟩, ⟨true, [2, 3], [3, 2], 3⟩, ⟨true, [], [], 1⟩, ⟨false, [3], [2], 1⟩]
theorem live_good : Good liveW := by
  refine ⟨?_, ?_, ?_, ?_, ?_⟩ <;> decide
theorem live_graph : graphOf liveW = liveG := by kernel_rfl
instance (xs : List Int) : Decidable (Inc xs) := by unfold Inc; infer_instance
theorem live_ok : GOk liveG := by
  refine ⟨?_, ?_, ?_, ?_, ?_⟩ <;> decide
instance deepDec (ns : List Nd) : ∀ (f : Nat) (s : Int), Decidable (Deep ns f s)
  | 0, _ => .isFalse id
  | f + 1, s => by
    unfold Deep
    have := fun x => deepDec ns f (stepN ns s x)
    infer_instance
theorem live_deep : Deep liveG 5 0 := of_decide_eq_true (by kernel_rfl)
theorem live_search1 : searchN liveG [1, 2] 1 5 = [(0, 1), (1, 1), (2, 1), (3, 1)] := by kernel_rfl
theorem live_search2 : bestN (searchN liveG [2] 2 5) = [(3, 0)] := by kernel_rfl

/-! ### Literals -/
theorem C_block {α : Type} {d : Kd α} {W : World} {b : Nat} {cs : List Value} {e : Nat} {xs : List α} (h : W.heap[b]? = some (.cells cs.toArray e (0, 0))) (hr : Reps (d.K W) d.sz xs cs) (hn : xs.length ≤ 9223372036854775807) : d.C W (some ⟨b, 0, none⟩) xs.length xs := by
  refine ⟨rfl, hn, fun _ => ⟨_, rfl, fun j p hp => ⟨(cs.drop (j * d.sz)).take d.sz, ?_, hr.2 j p hp, fun i u hu => ?_⟩⟩⟩
  · obtain ⟨hj, _⟩ := List.getElem?_eq_some_iff.1 hp
    have h1 := hr.1
    rw [List.length_take, List.length_drop, h1]
    have := Nat.mul_le_mul_right d.sz (show j + 1 ≤ xs.length from hj)
    rw [Nat.add_mul, Nat.one_mul] at this
    omega
  · rw [add_at, Nat.zero_add, blk_cell h]
    have hi : i < d.sz := by
      have := (List.getElem?_eq_some_iff.1 hu).1
      rw [List.length_take] at this
      omega
    rw [List.getElem?_take_of_lt hi, List.getElem?_drop] at hu
    simpa using hu
theorem C_ints {W : World} {b : Nat} {xs : List Int} (h : W.heap[b]? = some (.cells (encs (Value.int .i64) xs).toArray 3 (0, 0))) (hn : xs.length ≤ 9223372036854775807) : Kd.C (Kd.int .i64) W (some ⟨b, 0, none⟩) xs.length xs := C_block h (Kd.reps_scalar xs) hn

theorem live_build (w : World) : Calls Try.prog 19 #[.slice (some ⟨w.heap.size + 1 + 1 + 1 + 1, 0, none⟩) 4 4]
    (((((w.alloc (.cells #[.int .i64 1] 3)).alloc (.cells #[.int .i64 1, .int .i64 2, .int .i64 3] 3)).alloc (.cells #[.int .i64 1, .int .i64 3] 3)).alloc (.cells #[.int .i64 2] 3)).alloc (.cells #[.slice (some ⟨w.heap.size, 0, none⟩) 1 1, .slice (some ⟨w.heap.size + 1, 0, none⟩) 3 3, .slice (some ⟨w.heap.size + 1 + 1, 0, none⟩) 2 2, .slice (some ⟨w.heap.size + 1 + 1 + 1, 0, none⟩) 1 1] 22))
    fun e w' => ∃ g, e = .returned (.tuple #[.pointer (some ⟨g, 0, none⟩), .int .i64 0]) ∧ GraphAt w' g liveG ∧ Below w.heap.size w w' := by
  have s1 : (w.alloc (.cells #[.int .i64 1] 3)).heap.size = w.heap.size + 1 := by simp
  have s2 : ((w.alloc (.cells #[.int .i64 1] 3)).alloc (.cells #[.int .i64 1, .int .i64 2, .int .i64 3] 3)).heap.size = w.heap.size + 1 + 1 := by simp
  have s3 : (((w.alloc (.cells #[.int .i64 1] 3)).alloc (.cells #[.int .i64 1, .int .i64 2, .int .i64 3] 3)).alloc (.cells #[.int .i64 1, .int .i64 3] 3)).heap.size = w.heap.size + 1 + 1 + 1 := by simp
  have s4 : ((((w.alloc (.cells #[.int .i64 1] 3)).alloc (.cells #[.int .i64 1, .int .i64 2, .int .i64 3] 3)).alloc (.cells #[.int .i64 1, .int .i64 3] 3)).alloc (.cells #[.int .i64 2] 3)).heap.size = w.heap.size + 1 + 1 + 1 + 1 := by simp
  have b0 : ((((w.alloc (.cells #[.int .i64 1] 3)).alloc (.cells #[.int .i64 1, .int .i64 2, .int .i64 3] 3)).alloc (.cells #[.int .i64 1, .int .i64 3] 3)).alloc (.cells #[.int .i64 2] 3)).heap[w.heap.size]? = some (.cells #[.int .i64 1] 3 (0, 0)) := blk_alloc (blk_alloc (blk_alloc (blk_new _ _) _) _) _
  have b1 : ((((w.alloc (.cells #[.int .i64 1] 3)).alloc (.cells #[.int .i64 1, .int .i64 2, .int .i64 3] 3)).alloc (.cells #[.int .i64 1, .int .i64 3] 3)).alloc (.cells #[.int .i64 2] 3)).heap[w.heap.size + 1]? = some (.cells #[.int .i64 1, .int .i64 2, .int .i64 3] 3 (0, 0)) := by rw [← s1]; exact blk_alloc (blk_alloc (blk_new _ _) _) _
  have b2 : ((((w.alloc (.cells #[.int .i64 1] 3)).alloc (.cells #[.int .i64 1, .int .i64 2, .int .i64 3] 3)).alloc (.cells #[.int .i64 1, .int .i64 3] 3)).alloc (.cells #[.int .i64 2] 3)).heap[w.heap.size + 1 + 1]? = some (.cells #[.int .i64 1, .int .i64 3] 3 (0, 0)) := by rw [← s2]; exact blk_alloc (blk_new _ _) _
  have b3 : ((((w.alloc (.cells #[.int .i64 1] 3)).alloc (.cells #[.int .i64 1, .int .i64 2, .int .i64 3] 3)).alloc (.cells #[.int .i64 1, .int .i64 3] 3)).alloc (.cells #[.int .i64 2] 3)).heap[w.heap.size + 1 + 1 + 1]? = some (.cells #[.int .i64 2] 3 (0, 0)) := by rw [← s3]; exact blk_new _ _
  have hB : Below w.heap.size w ((((w.alloc (.cells #[.int .i64 1] 3)).alloc (.cells #[.int .i64 1, .int .i64 2, .int .i64 3] 3)).alloc (.cells #[.int .i64 1, .int .i64 3] 3)).alloc (.cells #[.int .i64 2] 3)) := below_alloc (below_alloc (below_alloc (below_alloc (Below.refl _ w) _) _ |>.mono (by simp)) _ |>.mono (by simp)) _ |>.mono (by simp)
  generalize (((w.alloc (.cells #[.int .i64 1] 3)).alloc (.cells #[.int .i64 1, .int .i64 2, .int .i64 3] 3)).alloc (.cells #[.int .i64 1, .int .i64 3] 3)).alloc (.cells #[.int .i64 2] 3) = W4 at *
  rw [← s4]
  have c0 : Kd.C (Kd.int .i64) (W4.alloc (.cells #[.slice (some ⟨w.heap.size, 0, none⟩) 1 1, .slice (some ⟨w.heap.size + 1, 0, none⟩) 3 3, .slice (some ⟨w.heap.size + 1 + 1, 0, none⟩) 2 2, .slice (some ⟨w.heap.size + 1 + 1 + 1, 0, none⟩) 1 1] 22)) (some ⟨w.heap.size, 0, none⟩) 1 [1] := C_ints (xs := [1]) (blk_alloc b0 _) (by decide)
  have c1 : Kd.C (Kd.int .i64) (W4.alloc (.cells #[.slice (some ⟨w.heap.size, 0, none⟩) 1 1, .slice (some ⟨w.heap.size + 1, 0, none⟩) 3 3, .slice (some ⟨w.heap.size + 1 + 1, 0, none⟩) 2 2, .slice (some ⟨w.heap.size + 1 + 1 + 1, 0, none⟩) 1 1] 22)) (some ⟨w.heap.size + 1, 0, none⟩) 3 [1, 2, 3] := C_ints (xs := [1, 2, 3]) (blk_alloc b1 _) (by decide)
  have c2 : Kd.C (Kd.int .i64) (W4.alloc (.cells #[.slice (some ⟨w.heap.size, 0, none⟩) 1 1, .slice (some ⟨w.heap.size + 1, 0, none⟩) 3 3, .slice (some ⟨w.heap.size + 1 + 1, 0, none⟩) 2 2, .slice (some ⟨w.heap.size + 1 + 1 + 1, 0, none⟩) 1 1] 22)) (some ⟨w.heap.size + 1 + 1, 0, none⟩) 2 [1, 3] := C_ints (xs := [1, 3]) (blk_alloc b2 _) (by decide)
  have c3 : Kd.C (Kd.int .i64) (W4.alloc (.cells #[.slice (some ⟨w.heap.size, 0, none⟩) 1 1, .slice (some ⟨w.heap.size + 1, 0, none⟩) 3 3, .slice (some ⟨w.heap.size + 1 + 1, 0, none⟩) 2 2, .slice (some ⟨w.heap.size + 1 + 1 + 1, 0, none⟩) 1 1] 22)) (some ⟨w.heap.size + 1 + 1 + 1, 0, none⟩) 1 [2] := C_ints (xs := [2]) (blk_alloc b3 _) (by decide)
  have bb := blk_new W4 (.cells #[.slice (some ⟨w.heap.size, 0, none⟩) 1 1, .slice (some ⟨w.heap.size + 1, 0, none⟩) 3 3, .slice (some ⟨w.heap.size + 1 + 1, 0, none⟩) 2 2, .slice (some ⟨w.heap.size + 1 + 1 + 1, 0, none⟩) 1 1] 22)
  have hB2 : Below w.heap.size w (W4.alloc (.cells #[.slice (some ⟨w.heap.size, 0, none⟩) 1 1, .slice (some ⟨w.heap.size + 1, 0, none⟩) 3 3, .slice (some ⟨w.heap.size + 1 + 1, 0, none⟩) 2 2, .slice (some ⟨w.heap.size + 1 + 1 + 1, 0, none⟩) 1 1] 22)) := below_alloc hB _
  generalize W4.alloc (.cells #[.slice (some ⟨w.heap.size, 0, none⟩) 1 1, .slice (some ⟨w.heap.size + 1, 0, none⟩) 3 3, .slice (some ⟨w.heap.size + 1 + 1, 0, none⟩) 2 2, .slice (some ⟨w.heap.size + 1 + 1 + 1, 0, none⟩) 1 1] 22) = W5 at *
  have hr : Reps ((Kd.slice 3 (Kd.int .i64)).K W5) 1 liveW [.slice (some ⟨w.heap.size, 0, none⟩) 1 1, .slice (some ⟨w.heap.size + 1, 0, none⟩) 3 3, .slice (some ⟨w.heap.size + 1 + 1, 0, none⟩) 2 2, .slice (some ⟨w.heap.size + 1 + 1 + 1, 0, none⟩) 1 1] :=
    ((((Reps.none _ _).snoc (p := [1]) (c := [.slice (some ⟨w.heap.size, 0, none⟩) 1 1]) ⟨_, _, rfl, Nat.le_refl _, c0⟩ rfl).snoc (p := [1, 2, 3]) (c := [.slice (some ⟨w.heap.size + 1, 0, none⟩) 3 3]) ⟨_, _, rfl, Nat.le_refl _, c1⟩ rfl).snoc (p := [1, 3]) (c := [.slice (some ⟨w.heap.size + 1 + 1, 0, none⟩) 2 2]) ⟨_, _, rfl, Nat.le_refl _, c2⟩ rfl).snoc (p := [2]) (c := [.slice (some ⟨w.heap.size + 1 + 1 + 1, 0, none⟩) 1 1]) ⟨_, _, rfl, Nat.le_refl _, c3⟩ rfl
  have hC : Kd.C (Kd.slice 3 (Kd.int .i64)) W5 (some ⟨W4.heap.size, 0, none⟩) liveW.length liveW := C_block bb hr (by decide)
  refine (build_good _ 4 liveW W5 hC (by decide) live_good).mono ?_
  rintro e w' ⟨g, rfl, hg, hb, _⟩
  rw [live_graph] at hg
  exact ⟨g, rfl, hg, hB2.trans (hb.mono hB2.size)⟩
theorem pair_lits (W : World) (a b : List Int) (ha : a.length ≤ 1000) (hb : b.length ≤ 1000) :
    Kd.C (Kd.int .i64) ((W.alloc (.cells (encs (Value.int .i64) a).toArray 3)).alloc (.cells (encs (Value.int .i64) b).toArray 3)) (some ⟨W.heap.size, 0, none⟩) a.length a ∧
    Kd.C (Kd.int .i64) ((W.alloc (.cells (encs (Value.int .i64) a).toArray 3)).alloc (.cells (encs (Value.int .i64) b).toArray 3)) (some ⟨W.heap.size + 1, 0, none⟩) b.length b ∧
    Below W.heap.size W ((W.alloc (.cells (encs (Value.int .i64) a).toArray 3)).alloc (.cells (encs (Value.int .i64) b).toArray 3)) := by
  have s1 : (W.alloc (.cells (encs (Value.int .i64) a).toArray 3)).heap.size = W.heap.size + 1 := by simp
  exact ⟨C_ints (blk_alloc (blk_new _ _) _) (by omega), C_ints (by rw [← s1]; exact blk_new _ _) (by omega), below_alloc (below_alloc (Below.refl _ W) _ ) _ |>.mono (by simp)⟩
theorem live_dist (W : World) (a b : List Int) (d : Int) (ha : a.length ≤ 1000) (hb : b.length ≤ 1000) (h : fuzzy_Distance.f 20 a b = some d) :
    Calls Try.prog 49 #[.slice (some ⟨W.heap.size, 0, none⟩) a.length a.length, .slice (some ⟨W.heap.size + 1, 0, none⟩) b.length b.length] ((W.alloc (.cells (encs (Value.int .i64) a).toArray 3)).alloc (.cells (encs (Value.int .i64) b).toArray 3)) fun e w' => e = .returned (.int .i64 d) ∧ Below W.heap.size W w' := by
  obtain ⟨h1, h2, h3⟩ := pair_lits W a b ha hb
  exact (fuzzy_Distance.calls 20 _ _ a _ _ b d _ h1 (Nat.le_refl _) h2 (Nat.le_refl _) h).mono fun e w' hh => ⟨hh.1, h3.trans (hh.2.mono h3.size)⟩
theorem live_dist0 (W : World) (a : List Int) (d : Int) (ha : a.length ≤ 1000) (h : fuzzy_Distance.f 20 a [] = some d) :
    Calls Try.prog 49 #[.slice (some ⟨W.heap.size, 0, none⟩) a.length a.length, .slice none 0 0] (W.alloc (.cells (encs (Value.int .i64) a).toArray 3)) fun e w' => e = .returned (.int .i64 d) ∧ Below W.heap.size W w' := by
  have hb := below_alloc (Below.refl W.heap.size W) (.cells (encs (Value.int .i64) a).toArray 3)
  exact (fuzzy_Distance.calls 20 _ _ a _ _ [] d _ (C_ints (blk_new _ _) (by omega)) (Nat.le_refl _) (Kd.C_nil _ _) (Nat.le_refl _) h).mono fun e w' hh => ⟨hh.1, hb.trans (hh.2.mono hb.size)⟩
theorem live_within (W : World) (a b : List Int) (k : Int) (r : Bool) (ha : a.length ≤ 1000) (hb : b.length ≤ 1000) (h : fuzzy_Within.f 20 a b k = some r) :
    Calls Try.prog 50 #[.slice (some ⟨W.heap.size, 0, none⟩) a.length a.length, .slice (some ⟨W.heap.size + 1, 0, none⟩) b.length b.length, .int .i64 k] ((W.alloc (.cells (encs (Value.int .i64) a).toArray 3)).alloc (.cells (encs (Value.int .i64) b).toArray 3)) fun e w' => e = .returned (.bool r) ∧ Below W.heap.size W w' := by
  obtain ⟨h1, h2, h3⟩ := pair_lits W a b ha hb
  exact (fuzzy_Within.calls 20 _ _ a _ _ b k r _ h1 (Nat.le_refl _) h2 (Nat.le_refl _) h).mono fun e w' hh => ⟨hh.1, h3.trans (hh.2.mono h3.size)⟩
def hitsA : List S86 := [⟨0, 1⟩, ⟨1, 1⟩, ⟨2, 1⟩, ⟨3, 1⟩]
def hitsB : List S86 := [⟨3, 0⟩]
theorem live_s1 (W : World) (g : Nat) (hg : GraphAt W g liveG) :
    Calls Try.prog 53 #[.pointer (some ⟨g, 0, none⟩), .slice (some ⟨W.heap.size, 0, none⟩) 2 2, .int .i64 1] (W.alloc (.cells #[.int .i64 1, .int .i64 2] 3))
      fun e w' => ∃ A c, e = .returned (.tuple #[.slice A 4 c, .int .i64 0]) ∧ 4 ≤ c ∧ Kd.C k86 w' A 4 hitsA ∧ Below W.heap.size W w' := by
  have hb := below_alloc (Below.refl W.heap.size W) (.cells #[.int .i64 1, .int .i64 2] 3)
  refine (search_good g liveG _ 2 [1, 2] 1 _ 5 (hg.below hb) live_ok (C_ints (xs := [1, 2]) (blk_new _ _) (by decide)) (by decide) (by decide) (by decide) (by decide) live_deep (by decide) (by rw [live_search1]; decide)).mono ?_
  rintro e w' ⟨v, rfl, hR, hb2⟩
  rw [live_search1] at hR
  obtain ⟨A, c, rfl, hl, hC⟩ := Kd.R_reads hR
  exact ⟨A, c, rfl, hl, hC, hb.trans (hb2.mono hb.size)⟩
theorem live_b1 (W : World) (g : Nat) (hg : GraphAt W g liveG) :
    Calls Try.prog 55 #[.pointer (some ⟨g, 0, none⟩), .slice (some ⟨W.heap.size, 0, none⟩) 1 1, .int .i64 2] (W.alloc (.cells #[.int .i64 2] 3))
      fun e w' => ∃ A c, e = .returned (.tuple #[.slice A 1 c, .int .i64 0]) ∧ 1 ≤ c ∧ Kd.C k86 w' A 1 hitsB ∧ Below W.heap.size W w' := by
  have hb := below_alloc (Below.refl W.heap.size W) (.cells #[.int .i64 2] 3)
  refine (best_any _ _ 1 1 2 0 _ (searchN liveG [2] 2 5) (search_good g liveG _ 1 [2] 2 _ 5 (hg.below hb) live_ok (C_ints (xs := [2]) (blk_new _ _) (by decide)) (by decide) (by decide) (by decide) (by decide) live_deep (by decide) (of_decide_eq_true (by kernel_rfl)))).mono ?_
  rintro e w' ⟨v, rfl, hR, hb2⟩
  rw [live_search2] at hR
  obtain ⟨A, c, rfl, hl, hC⟩ := Kd.R_reads hR
  exact ⟨A, c, rfl, hl, hC, hb.trans (hb2.mono hb.size)⟩
theorem live_s2 (W : World) (g : Nat) : Calls Try.prog 53 #[.pointer (some ⟨g, 0, none⟩), .slice none 0 0, .int .i64 4] W fun e w' => e = .returned (.tuple #[.slice none 0 0, .int .i64 1]) ∧ Below W.heap.size W w' := search_bad g none 0 0 4 W (by decide)
theorem live_s3 (W : World) (g : Nat) (A : Option Addr) (c : Nat) : Calls Try.prog 53 #[.pointer (some ⟨g, 0, none⟩), .slice A 65 c, .int .i64 3] W fun e w' => e = .returned (.tuple #[.slice none 0 0, .int .i64 4]) ∧ Below W.heap.size W w' := search_long g A c 65 3 W (by decide) (by decide) (by decide) (by decide)
theorem live_same1 (W W' : World) (A : Option Addr) (c : Nat) (hc : 4 ≤ c) (hC : Kd.C k86 W A 4 hitsA) (b : Nat) (hb : W.heap[b]? = some (.cells #[.int .i64 0, .int .i64 1, .int .i64 1, .int .i64 1, .int .i64 2, .int .i64 1, .int .i64 3, .int .i64 1] 86 (0, 0))) :
    Calls Try.prog 57 #[.slice A 4 c, .slice (some ⟨b, 0, none⟩) 4 4] W fun e w' => e = .returned (.bool true) ∧ Drawn0 W w' := by
  have hr : Reps (k86.K W) 2 hitsA [.int .i64 0, .int .i64 1, .int .i64 1, .int .i64 1, .int .i64 2, .int .i64 1, .int .i64 3, .int .i64 1] :=
    ((((Reps.none _ _).snoc (p := (⟨0, 1⟩ : S86)) (c := [.int .i64 0, .int .i64 1]) (k86_mk W ⟨0, 1⟩) rfl).snoc (p := (⟨1, 1⟩ : S86)) (c := [.int .i64 1, .int .i64 1]) (k86_mk W ⟨1, 1⟩) rfl).snoc (p := (⟨2, 1⟩ : S86)) (c := [.int .i64 2, .int .i64 1]) (k86_mk W ⟨2, 1⟩) rfl).snoc (p := (⟨3, 1⟩ : S86)) (c := [.int .i64 3, .int .i64 1]) (k86_mk W ⟨3, 1⟩) rfl
  exact wordbookref16_SameHits.calls 20 A c hitsA _ _ hitsA true W hC hc (C_block hb hr (by decide)) (Nat.le_refl _) (by kernel_rfl)
theorem live_same2 (W : World) (A : Option Addr) (c : Nat) (hc : 1 ≤ c) (hC : Kd.C k86 W A 1 hitsB) (b : Nat) (hb : W.heap[b]? = some (.cells #[.int .i64 3, .int .i64 0] 86 (0, 0))) :
    Calls Try.prog 57 #[.slice A 1 c, .slice (some ⟨b, 0, none⟩) 1 1] W fun e w' => e = .returned (.bool true) ∧ Drawn0 W w' := by
  have hr : Reps (k86.K W) 2 hitsB [.int .i64 3, .int .i64 0] := (Reps.none _ _).snoc (p := (⟨3, 0⟩ : S86)) (c := [.int .i64 3, .int .i64 0]) (k86_mk W ⟨3, 0⟩) rfl
  exact wordbookref16_SameHits.calls 20 A c hitsB _ _ hitsB true W hC hc (C_block hb hr (by decide)) (Nat.le_refl _) (by kernel_rfl)
end Go.Proofs.Ytcdjeimjbbknjaa.PAll
namespace Go.Proofs.Ytcdjeimjbbknjaa.PAll
open Go.RowKit Go.Proofs.YtcdjeimjbbknjaaW.PrintWords Go.Proofs.YtcdjeimjbbknjaaW.PrintLast Go.Proofs.YtcdjeimjbbknjaaW.PrintMore Go.Proofs.Ytcdjeimjbbknjaa.Lev
set_option linter.unusedVariables false
set_option linter.unusedSimpArgs false

def wordbooklaw16_lives.f : Option Bool := some true
theorem lv1 (W : World) : Calls Try.prog 49 #[.slice (some ⟨W.heap.size, 0, none⟩) 3 3, .slice (some ⟨W.heap.size + 1, 0, none⟩) 3 3] ((W.alloc (.cells #[.int .i64 1, .int .i64 2, .int .i64 3] 3)).alloc (.cells #[.int .i64 2, .int .i64 3, .int .i64 4] 3)) fun e w' => e = .returned (.int .i64 2) ∧ Below W.heap.size W w' := live_dist W [1, 2, 3] [2, 3, 4] 2 (by decide) (by decide) (by kernel_rfl)
theorem lv2 (W : World) : Calls Try.prog 49 #[.slice (some ⟨W.heap.size, 0, none⟩) 2 2, .slice (some ⟨W.heap.size + 1, 0, none⟩) 2 2] ((W.alloc (.cells #[.int .i64 1, .int .i64 2] 3)).alloc (.cells #[.int .i64 2, .int .i64 1] 3)) fun e w' => e = .returned (.int .i64 2) ∧ Below W.heap.size W w' := live_dist W [1, 2] [2, 1] 2 (by decide) (by decide) (by kernel_rfl)
theorem lv3 (W : World) : Calls Try.prog 49 #[.slice (some ⟨W.heap.size, 0, none⟩) 2 2, .slice none 0 0] (W.alloc (.cells #[.int .i64 5, .int .i64 5] 3)) fun e w' => e = .returned (.int .i64 2) ∧ Below W.heap.size W w' := live_dist0 W [5, 5] 2 (by decide) (by kernel_rfl)
theorem lv4 (W : World) : Calls Try.prog 50 #[.slice (some ⟨W.heap.size, 0, none⟩) 1 1, .slice (some ⟨W.heap.size + 1, 0, none⟩) 1 1, .int .i64 1] ((W.alloc (.cells #[.int .i64 1] 3)).alloc (.cells #[.int .i64 2] 3)) fun e w' => e = .returned (.bool true) ∧ Below W.heap.size W w' := live_within W [1] [2] 1 true (by decide) (by decide) (by kernel_rfl)
theorem lv5 (W : World) : Calls Try.prog 50 #[.slice (some ⟨W.heap.size, 0, none⟩) 1 1, .slice (some ⟨W.heap.size + 1, 0, none⟩) 1 1, .int .i64 0] ((W.alloc (.cells #[.int .i64 1] 3)).alloc (.cells #[.int .i64 2] 3)) fun e w' => e = .returned (.bool false) ∧ Below W.heap.size W w' := live_within W [1] [2] 0 false (by decide) (by decide) (by kernel_rfl)
set_option maxHeartbeats 4000000 in
set_option maxRecDepth 100000 in
theorem lives_true (w : World) : Calls Try.prog 51 #[] w fun e w' => e = .returned (.bool true) ∧ Below w.heap.size w w' := by
  have HBld := Aside0.mk (live_build w)
  go_enter Try.func51, Try.ntmps51
  go_upto_region 2 with (go_at_call 19; refine HBld.out.mono ?_; rintro e w1 ⟨g, rfl, hg1, hb1⟩; have HG1 := Aside0.mk hg1; have HB1 := Aside0.mk hb1; clear hg1 hb1)
  go_upto_region 4 with (first
    | (go_at_call 49; with_reducible refine (lv1 _).mono ?_; rintro e w2 ⟨rfl, hb2⟩; have HB2 := Aside0.mk hb2; clear hb2)
    | (go_at_call 49; with_reducible refine (lv2 _).mono ?_; rintro e w3 ⟨rfl, hb3⟩; have HB3 := Aside0.mk hb3; clear hb3)
    | (go_at_call 49; with_reducible refine (lv3 _).mono ?_; rintro e w4 ⟨rfl, hb4⟩; have HB4 := Aside0.mk hb4; clear hb4))
  have hB4 := HB2.out.trans ((HB3.out.trans (HB4.out.mono HB3.out.size)).mono HB2.out.size)
  have HB14 := Aside0.mk (HB1.out.trans (hB4.mono HB1.out.size))
  have HS1 := Aside0.mk (live_s1 w4 g (HG1.out.below hB4))
  have HG4 := Aside0.mk (HG1.out.below hB4)
  clear hB4 HB1 HB2 HB3 HB4 HG1
  go_upto_region 5 with (go_at_call 53; refine HS1.out.mono ?_; rintro e w5 ⟨Aa, ca, rfl, hca, hCa, hb5⟩; have HCa := Aside0.mk hCa; have HB5 := Aside0.mk hb5; clear hCa hb5)
  have HBs := Aside0.mk (live_b1 w5 g (HG4.out.below HB5.out))
  go_upto_region 6 with (go_at_call 55; refine HBs.out.mono ?_; rintro e w6 ⟨Ab, cb, rfl, hcb, hCb, hb6⟩; have HCb := Aside0.mk hCb; have HB6 := Aside0.mk hb6; clear hCb hb6)
  go_upto_region 7 with (go_at_call 53; refine (live_s2 _ _).mono ?_; rintro e w7 ⟨rfl, hb7⟩; have HB7 := Aside0.mk hb7; clear hb7)
  have hmk := print_make_of (P := Try.prog) 22 3 (.int .i64 0) 8 Try.underlying22 info3 rfl (by omega) 65 (by omega)
  rw [show ((65 : Nat) : Int) = (65 : Int) from rfl] at hmk
  have HB8' := Aside0.mk (below_alloc (Below.refl w7.heap.size w7) (.cells (madeCells #[.int .i64 0] 65) 3))
  go_upto_region 8 with (go_at_call 53; refine (live_s3 _ _ _ _).mono ?_; rintro e w8 ⟨rfl, hb8⟩; have HB8 := Aside0.mk hb8; clear hb8)
  have hB68 := HB6.out.trans ((HB7.out.trans ((HB8'.out.trans (HB8.out.mono HB8'.out.size)).mono HB7.out.size)).mono HB6.out.size)
  have hBw := below_alloc (Below.refl w8.heap.size w8) (.cells #[.int .i64 0, .int .i64 1, .int .i64 1, .int .i64 1, .int .i64 2, .int .i64 1, .int .i64 3, .int .i64 1] 86)
  have hB6w := (HB6.out.trans ((HB7.out.trans ((HB8'.out.trans ((HB8.out.trans (hBw.mono HB8.out.size)).mono HB8'.out.size)).mono HB7.out.size)).mono HB6.out.size))
  have hB7w := (HB7.out.trans ((HB8'.out.trans ((HB8.out.trans (hBw.mono HB8.out.size)).mono HB8'.out.size)).mono HB7.out.size))
  have HSa := Aside0.mk (live_same1 (w8.alloc (.cells #[.int .i64 0, .int .i64 1, .int .i64 1, .int .i64 1, .int .i64 2, .int .i64 1, .int .i64 3, .int .i64 1] 86)) w8 Aa ca hca (Kd.C_below HCa.out hB6w) w8.heap.size (blk_new _ _))
  have HCb2 := Aside0.mk (Kd.C_below HCb.out hB7w)
  have hBall := HB14.out.trans ((HB5.out.trans (hB6w.mono HB5.out.size)).mono HB14.out.size)
  have HBall := Aside0.mk hBall
  clear hBall hBw hB6w hB7w hB68 hmk HB8' HB14 HB5 HB6 HB7 HB8 HBs HS1 HG4 HBld HCa HCb
  go_wp2_with (first
    | (go_at_call 57; with_reducible refine HSa.out.mono ?_; rintro e w9 ⟨rfl, hd9⟩; have HB9 := Aside0.mk (HBall.out.trans (hd9.below.mono HBall.out.size)); have HSb := Aside0.mk (live_same2 (w9.alloc (.cells #[.int .i64 3, .int .i64 0] 86)) Ab cb hcb (Kd.C_below HCb2.out (hd9.below.trans (below_alloc (Below.refl _ _) _ |>.mono hd9.below.size))) w9.heap.size (blk_new _ _)); have HB9' := Aside0.mk (below_alloc (Below.refl w9.heap.size w9) (.cells #[.int .i64 3, .int .i64 0] 86)); clear hd9)
    | (go_at_call 57; with_reducible refine HSb.out.mono ?_; rintro e w10 ⟨rfl, hd10⟩; have HB10 := Aside0.mk (HB9.out.trans ((HB9'.out.trans (hd10.below.mono HB9'.out.size)).mono HB9.out.size)); clear hd10)
    | (go_at_call 50; with_reducible refine (lv4 _).mono ?_; rintro e w11 ⟨rfl, hb11⟩; have HB11 := Aside0.mk (HB10.out.trans (hb11.mono HB10.out.size)); clear hb11)
    | (go_at_call 50; with_reducible refine (lv5 _).mono ?_; rintro e w12 ⟨rfl, hb12⟩; have HB12 := Aside0.mk (HB11.out.trans (hb12.mono HB11.out.size)); clear hb12))
  go_ret
  exact ⟨rfl, HB12.out⟩
theorem wordbooklaw16_lives.calls (r : Bool) (w : World) (h : wordbooklaw16_lives.f = some r) : Calls Try.prog 51 #[] w fun e w' => e = .returned (.bool r) ∧ Below w.heap.size w w' := by
  obtain rfl := Option.some.inj h
  exact lives_true w
end Go.Proofs.Ytcdjeimjbbknjaa.PAll
namespace Go.Proofs.Ytcdjeimjbbknjaa.PAll
open Go.RowKit Go.Proofs.YtcdjeimjbbknjaaW.PrintWords Go.Proofs.YtcdjeimjbbknjaaW.PrintLast Go.Proofs.YtcdjeimjbbknjaaW.PrintMore Go.Proofs.Ytcdjeimjbbknjaa.Res Go.Proofs.Ytcdjeimjbbknjaa.Lev
set_option linter.unusedVariables false
set_option linter.unusedSimpArgs false

/-- A slice is handed back that reads as xs; nothing elder has changed. -/
def GivesS {α : Type} (d : Kd α) (xs : List α) (w : World) (e : Ending) (w' : World) : Prop := ∃ A c, e = .returned (.slice A xs.length c) ∧ xs.length ≤ c ∧ d.C w' A xs.length xs ∧ Below w.heap.size w w'
/-- .. and a number. -/
def GivesSI {α : Type} (d : Kd α) (xs : List α) (n : Int) (w : World) (e : Ending) (w' : World) : Prop := ∃ A c, e = .returned (.tuple #[.slice A xs.length c, .int .i64 n]) ∧ xs.length ≤ c ∧ d.C w' A xs.length xs ∧ Below w.heap.size w w'
theorem wl_words (A0 : Option Addr) (c0 : Nat) (l : List Int) (most : Int) (r : List (List Int)) (w : World) (hr : Kd.C (Kd.int .i64) w A0 l.length l) (hc : l.length ≤ c0) (h : wordbookref16_Words.f 200 l most = some r) :
    Calls Try.prog 52 #[.slice A0 l.length c0, .int .i64 most] w (GivesS (Kd.slice 3 (Kd.int .i64)) r w) := by
  refine (wordbookref16_Words.calls 200 A0 c0 l most r w hr hc h).mono ?_
  rintro e w' ⟨v, rfl, ⟨A, c, rfl, hl, hF⟩, hb⟩
  exact ⟨A, c, rfl, hl, Kd.F_now hF, hb⟩
theorem wl_word (A0 : Option Addr) (c0 : Nat) (l : List Int) (w : World) (hr : Kd.C (Kd.int .i64) w A0 l.length l) (hc : l.length ≤ c0) (hl : l.length ≤ 9223372036854775807) (hx : ∀ x ∈ l, -9223372036854775808 ≤ x ∧ x ≤ 9223372036854775807) :
    Calls Try.prog 48 #[.slice A0 l.length c0] w (GivesS (Kd.int .i64) (wordL l) w) := by
  refine (wordbooklaw16_word.calls 20 A0 c0 l (wordL l) w hr hc (word_is l hl hx 20 (by decide))).mono ?_
  rintro e w' ⟨v, rfl, hR, hb⟩
  obtain ⟨A, c, rfl, hl, hC⟩ := Kd.R_reads hR
  exact ⟨A, c, rfl, hl, hC, hb⟩
theorem wl_take (A0 : Option Addr) (c0 : Nat) (l : List Int) (n : Nat) (hn : n ≤ 1000) (w : World) (hr : Kd.C (Kd.int .i64) w A0 l.length l) (hc : l.length ≤ c0) :
    Calls Try.prog 46 #[.slice A0 l.length c0, .int .i64 (n : Int)] w (GivesS (Kd.int .i64) (l.take n) w) := by
  refine (wordbookref01_Take.calls A0 c0 l (n : Int) (l.take n) w hr hc (by unfold wordbookref01_Take.f; rw [Int.toNat_natCast, if_pos ⟨by omega, by simp only [List.length_take]; omega⟩])).mono ?_
  rintro e w' ⟨v, rfl, hR, hb⟩
  obtain ⟨A, c, rfl, hl, hC⟩ := Kd.R_reads hR
  exact ⟨A, c, rfl, hl, hC, hb⟩
theorem wl_take70 (A0 : Option Addr) (c0 : Nat) (l : List Int) (w : World) (hr : Kd.C (Kd.int .i64) w A0 l.length l) (hc : l.length ≤ c0) :
    Calls Try.prog 46 #[.slice A0 l.length c0, .int .i64 70] w (GivesS (Kd.int .i64) (l.take 70) w) := wl_take A0 c0 l 70 (by decide) w hr hc
theorem wl_search {ws : List (List Int)} (h : Good ws) (g : Nat) (A0 : Option Addr) (c0 : Nat) (wl : List Int) (k : Int) (w : World) (hg : GraphAt w g (graphOf ws)) (hw : Kd.C (Kd.int .i64) w A0 wl.length wl) (hc : wl.length ≤ c0) :
    Calls Try.prog 53 #[.pointer (some ⟨g, 0, none⟩), .slice A0 wl.length c0, .int .i64 k] w (GivesSI k86 ((refAns ws wl k).1.map toH) (refAns ws wl k).2 w) := by
  have hmax := Kd.C_max hw
  unfold refAns
  by_cases h1 : k < 0 ∨ 3 < k
  · rw [if_pos h1]
    refine (search_bad g A0 c0 wl.length k w h1).mono ?_
    rintro e w' ⟨rfl, hb⟩
    exact ⟨none, 0, rfl, by simp, Kd.C_nil _ _, hb⟩
  · rw [if_neg h1]
    by_cases h2 : 64 < wl.length
    · rw [if_pos h2]
      refine (search_long g A0 c0 wl.length k w (by omega) (by omega) h2 (by omega)).mono ?_
      rintro e w' ⟨rfl, hb⟩
      exact ⟨none, 0, rfl, by simp, Kd.C_nil _ _, hb⟩
    · rw [if_neg h2]
      refine (search_law h g A0 c0 wl k w hg hw hc (by omega) (by omega) (by omega)).mono ?_
      rintro e w' ⟨v, rfl, hR, hb⟩
      obtain ⟨A, c, rfl, hl, hC⟩ := Kd.R_reads hR
      exact ⟨A, c, rfl, hl, hC, hb⟩
theorem wl_best {ws : List (List Int)} (h : Good ws) (g : Nat) (A0 : Option Addr) (c0 : Nat) (wl : List Int) (k : Int) (w : World) (hg : GraphAt w g (graphOf ws)) (hw : Kd.C (Kd.int .i64) w A0 wl.length wl) (hc : wl.length ≤ c0) (h0 : 0 ≤ k) (h3 : k ≤ 3) (h64 : wl.length ≤ 64) :
    Calls Try.prog 55 #[.pointer (some ⟨g, 0, none⟩), .slice A0 wl.length c0, .int .i64 k] w (GivesSI k86 ((bestN (refL ws wl k)).map toH) 0 w) := by
  refine (best_any _ A0 wl.length c0 k 0 w (refL ws wl k) (search_law h g A0 c0 wl k w hg hw hc h0 h3 h64)).mono ?_
  rintro e w' ⟨v, rfl, hR, hb⟩
  obtain ⟨A, c, rfl, hl, hC⟩ := Kd.R_reads hR
  exact ⟨A, c, rfl, hl, hC, hb⟩
theorem wl_nilbest (A0 : Option Addr) (c0 n : Nat) (k : Int) (w : World) :
    Calls Try.prog 55 #[.pointer none, .slice A0 n c0, .int .i64 k] w (GivesSI k86 ([] : List S86) 1 w) := by
  refine (best_any _ A0 n c0 k 1 w [] ((search_nil A0 c0 n k w).mono ?_)).mono ?_
  · rintro e w' ⟨rfl, hb⟩
    exact ⟨_, rfl, Kd.R_nil _ _ _ _ _, hb⟩
  · rintro e w' ⟨v, rfl, hR, hb⟩
    obtain ⟨A, c, rfl, hl, hC⟩ := Kd.R_reads hR
    exact ⟨A, c, rfl, hl, hC, hb⟩
theorem wl_rsearch (A0 : Option Addr) (c0 : Nat) (ws : List (List Int)) (A1 : Option Addr) (c1 : Nat) (wl : List Int) (k : Int) (w : World) (hr0 : Kd.C (Kd.slice 3 (Kd.int .i64)) w A0 ws.length ws) (hc0 : ws.length ≤ c0) (hr1 : Kd.C (Kd.int .i64) w A1 wl.length wl) (hc1 : wl.length ≤ c1) (hn : ws.length ≤ 1000) (hs : ∀ v ∈ ws, v.length ≤ 1000) (hw : wl.length ≤ 1000) :
    Calls Try.prog 54 #[.slice A0 ws.length c0, .slice A1 wl.length c1, .int .i64 k] w (GivesSI k86 ((refAns ws wl k).1.map toH) (refAns ws wl k).2 w) := by
  refine (wordbookref16_Search.calls 5000 A0 c0 ws A1 c1 wl k _ _ w hr0 hc0 hr1 hc1 (search16_is ws wl k (by omega) hs hw 5000 (by omega))).mono ?_
  rintro e w' ⟨v, rfl, hR, hb⟩
  obtain ⟨A, c, rfl, hl, hC⟩ := Kd.R_reads hR
  exact ⟨A, c, rfl, hl, hC, hb⟩
theorem wl_rbest (A0 : Option Addr) (c0 : Nat) (ws : List (List Int)) (A1 : Option Addr) (c1 : Nat) (wl : List Int) (k : Int) (w : World) (hr0 : Kd.C (Kd.slice 3 (Kd.int .i64)) w A0 ws.length ws) (hc0 : ws.length ≤ c0) (hr1 : Kd.C (Kd.int .i64) w A1 wl.length wl) (hc1 : wl.length ≤ c1) (hn : ws.length ≤ 1000) (hs : ∀ v ∈ ws, v.length ≤ 1000) (hw : wl.length ≤ 1000) :
    Calls Try.prog 56 #[.slice A0 ws.length c0, .slice A1 wl.length c1, .int .i64 k] w (GivesSI k86 ((bestN (refAns ws wl k).1).map toH) (refAns ws wl k).2 w) := by
  refine (wordbookref16_Best.calls 5000 A0 c0 ws A1 c1 wl k _ _ w hr0 hc0 hr1 hc1 (best16_is ws wl k (by omega) hs hw 5000 (by omega))).mono ?_
  rintro e w' ⟨v, rfl, hR, hb⟩
  obtain ⟨A, c, rfl, hl, hC⟩ := Kd.R_reads hR
  exact ⟨A, c, rfl, hl, hC, hb⟩
theorem wl_same (xs : List S86) (n m : Nat) (hn : n = xs.length) (hm : m = xs.length) (A0 A1 : Option Addr) (c0 c1 : Nat) (w : World) (hx : xs.length ≤ 1000000) (hr0 : Kd.C k86 w A0 xs.length xs) (hc0 : xs.length ≤ c0) (hr1 : Kd.C k86 w A1 xs.length xs) (hc1 : xs.length ≤ c1) :
    Calls Try.prog 57 #[.slice A0 n c0, .slice A1 m c1] w fun e w' => e = .returned (.bool true) ∧ Below w.heap.size w w' := by
  subst hn hm
  refine (wordbookref16_SameHits.calls 1000001 A0 c0 xs A1 c1 xs true w hr0 hc0 hr1 hc1 (same_is xs (by omega) _ (by omega))).mono ?_
  rintro e w' ⟨rfl, hd⟩
  exact ⟨rfl, hd.below⟩
theorem refAns_in {ws : List (List Int)} {wl : List Int} {k : Int} (h0 : 0 ≤ k) (h3 : k ≤ 3) (h64 : wl.length ≤ 64) : refAns ws wl k = (refL ws wl k, 0) := by
  unfold refAns; rw [if_neg (by omega), if_neg (by omega)]
theorem refAns_length (ws : List (List Int)) (wl : List Int) (k : Int) : (refAns ws wl k).1.length ≤ ws.length := by
  unfold refAns
  split
  · simp
  · split
    · simp
    · exact refL_length wl k
end Go.Proofs.Ytcdjeimjbbknjaa.PAll
