import Derived.Laws.EntriesVeiled
import Derived.IntWalk
import Derived.StillTailTactics
import Derived.Outline
import Derived.BigQuiet
import Derived.Deep.AppendLies
import Derived.Deep.CutBlock
import Derived.Deep.RegionLaw
import Derived.Test.YtcdjeimjbbknjaaProg
import Derived.Below
import Derived.Deep.Draws
import Derived.Maps.AppendAt
import Derived.OwnWalk
import Derived.Laws.BytesArg
import Derived.Laws.MakeOwn
import Derived.Laws.OwnMore
import Derived.Deep.OwnRows
import Derived.Tactics
import Derived.Lib.ConvBytes
import Derived.Laws.Slices
import Derived.WalkKit
import Derived.KernelRfl
import Derived.RowKit3
import Derived.Deep.LoopGhost
import Derived.Deep.QuietTactic
import Derived.WideLaws
import Derived.Deep.DeepCutAuto
import Derived.Deep.RegionHeld3
import Derived.Laws.Rows
import Derived.Lib.AppendStr
import Derived.ArgAppend
import Derived.Laws.IdiomCopy
import Derived.OrdersHeld
import Derived.Laws.BitsLemmas
import Derived.RowKit
import Derived.WalkMore
import Derived.Test.YtcdjeimjbbknjaaDl3
namespace Go.Proofs.Ytcdjeimjbbknjaa.PAll
open Go.RowKit Go.Proofs.YtcdjeimjbbknjaaW.PrintWords Go.Proofs.YtcdjeimjbbknjaaW.PrintLast Go.Proofs.YtcdjeimjbbknjaaW.PrintMore
set_option linter.unusedVariables false
set_option linter.unusedSimpArgs false

theorem getI_i64 {b : List Int} (hbt : byt b) : i64 (getI b).1 ∧ 0 ≤ (getI b).2.1 ∧ (getI b).2.1 ≤ 9 ∧ 0 ≤ (getI b).2.2 ∧ (getI b).2.2 ≤ 3 := by
  have hk0 := headK hbt
  unfold getI i64
  by_cases h0 : b.length = 0
  · rw [if_pos h0]; dsimp only; omega
  have hk0 := hk0 h0
  rw [if_neg h0]
  dsimp only
  have hf : ∀ (cs : List Int), byt cs → ∀ m, 0 ≤ m → 0 ≤ foldB (decide (rd b 0 < 128)) m cs := by
    intro cs
    induction cs with
    | nil => intro _ m hm; exact hm
    | cons c cs ih => intro hc m hm; rw [foldB]; refine ih (fun x hx => hc x (List.mem_cons_of_mem _ hx)) _ ?_; have := flp_range (decide (rd b 0 < 128)) (hc c List.mem_cons_self); omega
  have hf0 := hf ((b.drop 1).take (flp (decide (rd b 0 < 128)) (rd b 0) - 128).toNat) (fun x hx => hbt x (List.mem_of_mem_drop (List.mem_of_mem_take hx))) 0 (Int.le_refl _)
  generalize foldB (decide (rd b 0 < 128)) 0 ((b.drop 1).take (flp (decide (rd b 0 < 128)) (rd b 0) - 128).toNat) = m at *
  generalize flp (decide (rd b 0 < 128)) (rd b 0) - 128 = k at *
  split
  · dsimp only; omega
  · split
    · dsimp only; omega
    · split
      · dsimp only; omega
      · split
        · dsimp only; omega
        · dsimp only
          split <;> omega
set_option maxHeartbeats 4000000 in
set_option maxRecDepth 100000 in
theorem count_any (A0 : Option Addr) (c0 : Nat) (b : List Int) (w : World) (hr : Kd.C (Kd.int .u8) w A0 b.length b) (hc : b.length ≤ c0) (hb : byt b) :
    Calls Try.prog 111 #[.slice A0 b.length c0, .int .i64 1] w (GiPost w (cntI b)) := by
  have hmx := Kd.C_max hr
  have HG := Aside0.mk (getInt_any A0 c0 b w hr hc hb)
  obtain ⟨h1, h2, h3, h4, h5⟩ := getI_i64 hb
  have HC : Aside0 (cntI b = if (getI b).2.2 ≠ 0 then getI b else if (getI b).1 < 0 then ((getI b).1, (getI b).2.1, 2) else if (b.length : Int) - (getI b).2.1 < (getI b).1 then ((getI b).1, (getI b).2.1, 3) else getI b) := ⟨rfl⟩
  generalize getI b = q at *
  obtain ⟨n, at_, e⟩ := q
  dsimp only at h1 h2 h3 h4 h5
  unfold i64 at h1
  clear hr hb
  by_cases he : e = 0
  · subst he
    have w1 : IntKind.i64.wrap ((b.length : Int) - at_) = (b.length : Int) - at_ := wrap_in (by omega) (by omega)
    have w2 : IntKind.i64.wrap (((b.length : Int) - at_).tdiv 1) = (b.length : Int) - at_ := by rw [Int.tdiv_one]; exact w1
    by_cases hn : n < 0
    · have HQ : Aside0 (cntI b = (n, at_, 2)) := ⟨by rw [HC.out, if_neg (by simp), if_pos hn]⟩
      go_enter Try.func111, Try.ntmps111
      go_wp2_with (go_at_call 126; refine HG.out.mono ?_; rintro e w' ⟨rfl, rfl⟩)
      go_ret3
      exact ⟨by rw [HQ.out]; rfl, rfl⟩
    · by_cases hm : (b.length : Int) - at_ < n
      · have HQ : Aside0 (cntI b = (n, at_, 3)) := ⟨by rw [HC.out, if_neg (by simp), if_neg hn, if_pos hm]⟩
        go_enter Try.func111, Try.ntmps111
        go_wp2_with (go_at_call 126; refine HG.out.mono ?_; rintro e w' ⟨rfl, rfl⟩)
        go_ret3
        exact ⟨by rw [HQ.out]; rfl, rfl⟩
      · have HQ : Aside0 (cntI b = (n, at_, 0)) := ⟨by rw [HC.out, if_neg (by simp), if_neg hn, if_neg hm]⟩
        go_enter Try.func111, Try.ntmps111
        go_wp2_with (go_at_call 126; refine HG.out.mono ?_; rintro e w' ⟨rfl, rfl⟩)
        go_ret3
        exact ⟨by rw [HQ.out]; rfl, rfl⟩
  · have HQ : Aside0 (cntI b = (n, at_, e)) := ⟨by rw [HC.out, if_pos he]⟩
    have he1 : (e == 0) = false := beq_eq_false_iff_ne.2 he
    have he2 : (e != 0) = true := bne_iff_ne.2 he
    clear he
    go_enter Try.func111, Try.ntmps111
    go_wp2_with (go_at_call 126; refine HG.out.mono ?_; rintro e w' ⟨rfl, rfl⟩)
    go_ret3
    exact ⟨by rw [HQ.out]; rfl, rfl⟩
end Go.Proofs.Ytcdjeimjbbknjaa.PAll
namespace Go.Proofs.Ytcdjeimjbbknjaa.PAll
open Go.RowKit Go.Proofs.YtcdjeimjbbknjaaW.PrintWords Go.Proofs.YtcdjeimjbbknjaaW.PrintLast Go.Proofs.YtcdjeimjbbknjaaW.PrintMore
attribute [local go_sem] max2_int min2_int max_two min_two max_three min_three max_four min_four   -- for this text's walks alone
set_option linter.unusedVariables false
set_option linter.unusedSimpArgs false

/-! ### slices_Equal_int_int: function 82 -/
def slices_Equal_int_int.l0 : Nat → List Int → List Int → Int → Int → Option (Bool)
  | 0, _, _, _, _ => none
  | k + 1, x0, x1, x12, x13 => if x13 < x12 then (if 0 ≤ x13 then (if x13 < (x0.length : Int) then (if x13 < (x1.length : Int) then (if (rd x0 x13) = (rd x1 x13) then (slices_Equal_int_int.l0 k x0 x1 x12 (wrap64 (x13 + 1))) else (some false)) else (none)) else (none)) else (none)) else (some true)
def slices_Equal_int_int.f (k : Nat) (l0 : List Int) (l1 : List Int) : Option (Bool) := if (l0.length : Int) = (l1.length : Int) then (slices_Equal_int_int.l0 k l0 l1 (l0.length : Int) 0) else (some false)
theorem slices_Equal_int_int.mono_l : ∀ k, (∀ y0 y1 y2 y3, LeO (slices_Equal_int_int.l0 k y0 y1 y2 y3) (slices_Equal_int_int.l0 (k + 1) y0 y1 y2 y3))
  | 0 => fun _ _ _ _ r h => by simp [slices_Equal_int_int.l0] at h
  | k + 1 => by
    have ih0 := slices_Equal_int_int.mono_l k
    · intro y0 y1 y2 y3
      unfold slices_Equal_int_int.l0
      repeat' first
      | (with_reducible exact ih0 _ _ _ _)
      | (with_reducible exact LeO.refl _)
      | (with_reducible exact LeO.none _)
      | (with_reducible refine LeO.ite ?_ ?_)
      | (with_reducible refine LeO.bind ?_ (fun _ => ?_))
      | exact ih0 _ _ _ _
      | exact LeO.none _
      | refine LeO.ite ?_ ?_
      | refine LeO.bind ?_ (fun _ => ?_)
theorem slices_Equal_int_int.mono : ∀ a0 a1 k, LeO (slices_Equal_int_int.f k a0 a1) (slices_Equal_int_int.f (k + 1) a0 a1) := by
  intro a0 a1 k
  have ih0 := slices_Equal_int_int.mono_l k
  unfold slices_Equal_int_int.f
  repeat' first
      | (with_reducible exact ih0 _ _ _ _)
      | (with_reducible exact LeO.refl _)
      | (with_reducible exact LeO.none _)
      | (with_reducible refine LeO.ite ?_ ?_)
      | (with_reducible refine LeO.bind ?_ (fun _ => ?_))
      | exact ih0 _ _ _ _
      | exact LeO.none _
      | refine LeO.ite ?_ ?_
      | refine LeO.bind ?_ (fun _ => ?_)
set_option maxHeartbeats 8000000 in
set_option maxRecDepth 100000 in
theorem slices_Equal_int_int.calls (k : Nat) (A0 : Option Addr) (c0 : Nat) (l0 : List Int) (A1 : Option Addr) (c1 : Nat) (l1 : List Int) (r : Bool) (w : World) (hr0 : Kd.C (Kd.int .i64) w A0 l0.length l0) (hc0 : l0.length ≤ c0) (hr1 : Kd.C (Kd.int .i64) w A1 l1.length l1) (hc1 : l1.length ≤ c1) (h : slices_Equal_int_int.f k l0 l1 = some r) :
    Calls Try.prog 82 #[.slice A0 l0.length c0, .slice A1 l1.length c1] w fun e w' => e = .returned (.bool r) ∧ Drawn0 w w' := by
  have HR0 := Aside0.mk hr0
  have HC0 := Aside0.mk hc0
  clear hr0 hc0
  have HR1 := Aside0.mk hr1
  have HC1 := Aside0.mk hc1
  clear hr1 hc1
  have H : (if (l0.length : Int) = (l1.length : Int) then (slices_Equal_int_int.l0 k l0 l1 (l0.length : Int) 0) else (some false)) = some r := h
  clear h
  by_cases c3 : (l0.length : Int) = (l1.length : Int)
  · rw [if_pos c3] at H
    have c3b0 : ((l0.length : Int) == (l1.length : Int)) = true := beq_iff_eq.mpr c3
    have c3b1 : ((l0.length : Int) != (l1.length : Int)) = false := bne_eq_false_iff_eq.mpr c3
    have c3b2 : (l0.length == l1.length) = true := by first | simpa using c3 | (simp at c3 ⊢; omega)
    clear c3
    have H' := Aside0.mk H
    clear H
    go_enter Try.func82, Try.ntmps82
    go_wp2
    repeat (go_quiet (fail); try go_wp2)
    go_loopg [13] k (fun kq v13 w' => ∃ (x13_1 : Int), v13 = .int .i64 x13_1 ∧ Aside0 (slices_Equal_int_int.l0 kq l0 l1 (l0.length : Int) x13_1 = some r) ∧ Aside0 (kq ≤ k) ∧ Drawn0 w w')
    case atStart => exact ⟨(0), (by first | rfl | (simp; done) | (simp [*]; done)), H', ⟨Nat.le_refl _⟩, by repeat (first | exact Drawn0.refl _ | apply Drawn0.step)⟩
    case round =>
      clear H'
      try clear c1
      try clear p2
      try clear c3
      try clear c3b0
      try clear c3b1
      try clear c3b2
      obtain ⟨x13_1, rfl, HA, HK1, ⟨m1, rfl⟩⟩ := hrel
      cases gk with
      | zero => exact absurd HA.out (by simp [slices_Equal_int_int.l0])
      | succ k1 =>
        have H := HA.out
        clear HA
        simp only [slices_Equal_int_int.l0] at H
        by_cases c4 : x13_1 < (l0.length : Int)
        · rw [if_pos c4] at H
          have c4b0 : decide (x13_1 < (l0.length : Int)) = true := decide_eq_true c4
          clear c4
          by_cases c5 : 0 ≤ x13_1
          · rw [if_pos c5] at H
            have c5b0 : decide (0 ≤ x13_1) = true := decide_eq_true c5
            clear c5
            by_cases c6 : x13_1 < (l0.length : Int)
            · rw [if_pos c6] at H
              have c6b0 : decide (x13_1 < (l0.length : Int)) = true := decide_eq_true c6
              clear c6
              by_cases c7 : x13_1 < (l1.length : Int)
              · rw [if_pos c7] at H
                have c7b0 : decide (x13_1 < (l1.length : Int)) = true := decide_eq_true c7
                clear c7
                by_cases c8 : (rd l0 x13_1) = (rd l1 x13_1)
                · rw [if_pos c8] at H
                  have c8b0 : ((rd l0 x13_1) == (rd l1 x13_1)) = true := beq_iff_eq.mpr c8
                  have c8b1 : ((rd l0 x13_1) != (rd l1 x13_1)) = false := bne_eq_false_iff_eq.mpr c8
                  clear c8
                  have H' := Aside0.mk H
                  clear H
                  have p274 : 0 ≤ (x13_1 : Int) := of_decide_eq_true (by first | (with_reducible assumption) | assumption)
                  have q274 : x13_1 < (l0.length : Int) := of_decide_eq_true (by first | (with_reducible assumption) | assumption)
                  obtain ⟨ad274, e274, hx274_0⟩ := Kd.at_int HR0.out x13_1 p274 q274
                  cases e274
                  replace p274 := eq_true p274
                  replace q274 := eq_true q274
                  have p275 : 0 ≤ (x13_1 : Int) := of_decide_eq_true (by first | (with_reducible assumption) | assumption)
                  have q275 : x13_1 < (l1.length : Int) := of_decide_eq_true (by first | (with_reducible assumption) | assumption)
                  obtain ⟨ad275, e275, hx275_0⟩ := Kd.at_int HR1.out x13_1 p275 q275
                  cases e275
                  replace p275 := eq_true p275
                  replace q275 := eq_true q275
                  go_wp2
                  repeat (go_quiet (fail); try go_wp2)
                  go_roundg k1
                  case measure => have := HK1.out; omega
                  case rel => exact ⟨(wrap64 (x13_1 + 1)), (by first | rfl | (simp; done) | (simp [*]; done)), H', ⟨by have := HK1.out; omega⟩, by repeat (first | exact Drawn0.refl _ | apply Drawn0.step)⟩
                · rw [if_neg c8] at H
                  have c8b0 : ((rd l0 x13_1) == (rd l1 x13_1)) = false := beq_eq_false_iff_ne.mpr c8
                  have c8b1 : ((rd l0 x13_1) != (rd l1 x13_1)) = true := bne_iff_ne.mpr c8
                  obtain rfl := Option.some.inj H
                  have p274 : 0 ≤ (x13_1 : Int) := of_decide_eq_true (by first | (with_reducible assumption) | assumption)
                  have q274 : x13_1 < (l0.length : Int) := of_decide_eq_true (by first | (with_reducible assumption) | assumption)
                  obtain ⟨ad274, e274, hx274_0⟩ := Kd.at_int HR0.out x13_1 p274 q274
                  cases e274
                  replace p274 := eq_true p274
                  replace q274 := eq_true q274
                  have p275 : 0 ≤ (x13_1 : Int) := of_decide_eq_true (by first | (with_reducible assumption) | assumption)
                  have q275 : x13_1 < (l1.length : Int) := of_decide_eq_true (by first | (with_reducible assumption) | assumption)
                  obtain ⟨ad275, e275, hx275_0⟩ := Kd.at_int HR1.out x13_1 p275 q275
                  cases e275
                  replace p275 := eq_true p275
                  replace q275 := eq_true q275
                  go_wp2
                  repeat (go_quiet (fail); try go_wp2)
                  go_ret
                  exact ⟨by first | rfl | (simp; done) | (simp [*]; done), by repeat (first | exact Drawn0.refl _ | apply Drawn0.step)⟩
              · rw [if_neg c7] at H
                exact absurd H (by simp)
            · rw [if_neg c6] at H
              exact absurd H (by simp)
          · rw [if_neg c5] at H
            exact absurd H (by simp)
        · rw [if_neg c4] at H
          have c4b0 : decide (x13_1 < (l0.length : Int)) = false := decide_eq_false c4
          clear c4
          obtain rfl := Option.some.inj H
          go_wp2
          repeat (go_quiet (fail); try go_wp2)
          go_ret
          exact ⟨by first | rfl | (simp; done) | (simp [*]; done), by repeat (first | exact Drawn0.refl _ | apply Drawn0.step)⟩
  · rw [if_neg c3] at H
    have c3b0 : ((l0.length : Int) == (l1.length : Int)) = false := beq_eq_false_iff_ne.mpr c3
    have c3b1 : ((l0.length : Int) != (l1.length : Int)) = true := bne_iff_ne.mpr c3
    have c3b2 : (l0.length == l1.length) = false := by first | simpa using c3 | (simp at c3 ⊢; omega)
    obtain rfl := Option.some.inj H
    go_enter Try.func82, Try.ntmps82
    go_wp2
    repeat (go_quiet (fail); try go_wp2)
    go_ret
    exact ⟨by first | rfl | (simp; done) | (simp [*]; done), by repeat (first | exact Drawn0.refl _ | apply Drawn0.step)⟩


/-! ### wordbookref01_Int: function 83 -/
mutual
def wordbookref01_Int.j0 : Nat → Int → Int → Option (List Int)
  | 0, _, _ => none
  | k + 1, x0, x3 => wordbookref01_Int.l0 k x0 x3 ([] : List Int)
def wordbookref01_Int.l0 : Nat → Int → Int → List Int → Option (List Int)
  | 0, _, _, _ => none
  | k + 1, x0, x3, x4 => if x3 > 0 then (if x4.length < 140737488355328 then (wordbookref01_Int.l0 k x0 (wrap64 (Int.tdiv x3 256)) (x4 ++ [(Int.tmod x3 256) % 256])) else (none)) else (if x0 ≥ 0 then (if ([] : List Int).length < 140737488355328 then (wordbookref01_Int.j2 k x0 x4 (x4.length : Int) (([] : List Int) ++ [(wrap64 (128 + (x4.length : Int))) % 256])) else (none)) else (if ([] : List Int).length < 140737488355328 then (wordbookref01_Int.j2 k x0 x4 (x4.length : Int) (([] : List Int) ++ [(wrap64 (127 - (x4.length : Int))) % 256])) else (none)))
def wordbookref01_Int.j2 : Nat → Int → List Int → Int → List Int → Option (List Int)
  | 0, _, _, _, _ => none
  | k + 1, x0, x4, x5, x6 => wordbookref01_Int.l1 k x0 x4 x6 (wrap64 (x5 - 1))
def wordbookref01_Int.l1 : Nat → Int → List Int → List Int → Int → Option (List Int)
  | 0, _, _, _, _ => none
  | k + 1, x0, x4, x6, x7 => if x7 ≥ 0 then (if 0 ≤ x7 then (if x7 < (x4.length : Int) then (if x0 < 0 then (if x6.length < 140737488355328 then (wordbookref01_Int.l1 k x0 x4 (x6 ++ [(255 - (rd x4 x7)) % 256]) (wrap64 (x7 - 1))) else (none)) else (if x6.length < 140737488355328 then (wordbookref01_Int.l1 k x0 x4 (x6 ++ [rd x4 x7]) (wrap64 (x7 - 1))) else (none))) else (none)) else (none)) else (some x6)
end
def wordbookref01_Int.f (k : Nat) (a0 : Int) : Option (List Int) := if a0 < 0 then (wordbookref01_Int.j0 k a0 (wrap64 ((-1) - a0))) else (wordbookref01_Int.j0 k a0 a0)
theorem wordbookref01_Int.mono_l : ∀ k, (∀ y0 y1, LeO (wordbookref01_Int.j0 k y0 y1) (wordbookref01_Int.j0 (k + 1) y0 y1)) ∧ (∀ y0 y1 y2, LeO (wordbookref01_Int.l0 k y0 y1 y2) (wordbookref01_Int.l0 (k + 1) y0 y1 y2)) ∧ (∀ y0 y1 y2 y3, LeO (wordbookref01_Int.j2 k y0 y1 y2 y3) (wordbookref01_Int.j2 (k + 1) y0 y1 y2 y3)) ∧ (∀ y0 y1 y2 y3, LeO (wordbookref01_Int.l1 k y0 y1 y2 y3) (wordbookref01_Int.l1 (k + 1) y0 y1 y2 y3))
  | 0 => ⟨fun _ _ r h => by simp [wordbookref01_Int.j0] at h, fun _ _ _ r h => by simp [wordbookref01_Int.l0] at h, fun _ _ _ _ r h => by simp [wordbookref01_Int.j2] at h, fun _ _ _ _ r h => by simp [wordbookref01_Int.l1] at h⟩
  | k + 1 => by
    obtain ⟨ih0, ih1, ih2, ih3⟩ := wordbookref01_Int.mono_l k
    refine ⟨?_, ?_, ?_, ?_⟩
    · intro y0 y1
      unfold wordbookref01_Int.j0
      repeat' first
      | (with_reducible exact ih0 _ _)
      | (with_reducible exact ih1 _ _ _)
      | (with_reducible exact ih2 _ _ _ _)
      | (with_reducible exact ih3 _ _ _ _)
      | (with_reducible exact LeO.refl _)
      | (with_reducible exact LeO.none _)
      | (with_reducible refine LeO.ite ?_ ?_)
      | (with_reducible refine LeO.bind ?_ (fun _ => ?_))
      | exact ih0 _ _
      | exact ih1 _ _ _
      | exact ih2 _ _ _ _
      | exact ih3 _ _ _ _
      | exact LeO.none _
      | refine LeO.ite ?_ ?_
      | refine LeO.bind ?_ (fun _ => ?_)
    · intro y0 y1 y2
      unfold wordbookref01_Int.l0
      repeat' first
      | (with_reducible exact ih0 _ _)
      | (with_reducible exact ih1 _ _ _)
      | (with_reducible exact ih2 _ _ _ _)
      | (with_reducible exact ih3 _ _ _ _)
      | (with_reducible exact LeO.refl _)
      | (with_reducible exact LeO.none _)
      | (with_reducible refine LeO.ite ?_ ?_)
      | (with_reducible refine LeO.bind ?_ (fun _ => ?_))
      | exact ih0 _ _
      | exact ih1 _ _ _
      | exact ih2 _ _ _ _
      | exact ih3 _ _ _ _
      | exact LeO.none _
      | refine LeO.ite ?_ ?_
      | refine LeO.bind ?_ (fun _ => ?_)
    · intro y0 y1 y2 y3
      unfold wordbookref01_Int.j2
      repeat' first
      | (with_reducible exact ih0 _ _)
      | (with_reducible exact ih1 _ _ _)
      | (with_reducible exact ih2 _ _ _ _)
      | (with_reducible exact ih3 _ _ _ _)
      | (with_reducible exact LeO.refl _)
      | (with_reducible exact LeO.none _)
      | (with_reducible refine LeO.ite ?_ ?_)
      | (with_reducible refine LeO.bind ?_ (fun _ => ?_))
      | exact ih0 _ _
      | exact ih1 _ _ _
      | exact ih2 _ _ _ _
      | exact ih3 _ _ _ _
      | exact LeO.none _
      | refine LeO.ite ?_ ?_
      | refine LeO.bind ?_ (fun _ => ?_)
    · intro y0 y1 y2 y3
      unfold wordbookref01_Int.l1
      repeat' first
      | (with_reducible exact ih0 _ _)
      | (with_reducible exact ih1 _ _ _)
      | (with_reducible exact ih2 _ _ _ _)
      | (with_reducible exact ih3 _ _ _ _)
      | (with_reducible exact LeO.refl _)
      | (with_reducible exact LeO.none _)
      | (with_reducible refine LeO.ite ?_ ?_)
      | (with_reducible refine LeO.bind ?_ (fun _ => ?_))
      | exact ih0 _ _
      | exact ih1 _ _ _
      | exact ih2 _ _ _ _
      | exact ih3 _ _ _ _
      | exact LeO.none _
      | refine LeO.ite ?_ ?_
      | refine LeO.bind ?_ (fun _ => ?_)
theorem wordbookref01_Int.mono : ∀ a0 k, LeO (wordbookref01_Int.f k a0) (wordbookref01_Int.f (k + 1) a0) := by
  intro a0 k
  obtain ⟨ih0, ih1, ih2, ih3⟩ := wordbookref01_Int.mono_l k
  unfold wordbookref01_Int.f
  repeat' first
      | (with_reducible exact ih0 _ _)
      | (with_reducible exact ih1 _ _ _)
      | (with_reducible exact ih2 _ _ _ _)
      | (with_reducible exact ih3 _ _ _ _)
      | (with_reducible exact LeO.refl _)
      | (with_reducible exact LeO.none _)
      | (with_reducible refine LeO.ite ?_ ?_)
      | (with_reducible refine LeO.bind ?_ (fun _ => ?_))
      | exact ih0 _ _
      | exact ih1 _ _ _
      | exact ih2 _ _ _ _
      | exact ih3 _ _ _ _
      | exact LeO.none _
      | refine LeO.ite ?_ ?_
      | refine LeO.bind ?_ (fun _ => ?_)
set_option maxHeartbeats 8000000 in
set_option maxRecDepth 100000 in
theorem wordbookref01_Int.calls (k : Nat) (a0 : Int) (r : List Int) (w : World) (h : wordbookref01_Int.f k a0 = some r) :
    Calls Try.prog 83 #[.int .i64 a0] w fun e w' => ∃ v0_ : Value, e = .returned (v0_) ∧ Kd.R (Kd.int .u8) 5 w' w.heap.size (fun _ => True) v0_ r ∧ Below w.heap.size w w' := by
  have HB := Aside0.mk (Below.refl w.heap.size w)
  have H : (if a0 < 0 then (wordbookref01_Int.j0 k a0 (wrap64 ((-1) - a0))) else (wordbookref01_Int.j0 k a0 a0)) = some r := h
  clear h
  have HC2 := Aside0.mk H
  clear H
  go_enter Try.func83, Try.ntmps83
  go_upto_if 11 with (fail)
  go_cut [3] (fun v3 wc => ∃ (kq : Nat) (x3_1 : Int), v3 = .int .i64 x3_1 ∧ Aside0 (wordbookref01_Int.j0 kq a0 x3_1 = some r) ∧ Aside0 (kq ≤ k) ∧ Aside0 (Below w.heap.size w wc))
  case first =>
    have H := HC2.out
    clear HC2
    by_cases c3 : a0 < 0
    · rw [if_pos c3] at H
      have c3b0 : decide (a0 < 0) = true := decide_eq_true c3
      clear c3
      (first | rw [c3b0] | (simp only [i64_w, i32_w]; rw [c3b0]) | skip)
      have H' := Aside0.mk H
      clear H
      go_wp2
      go_meet
      case rel => exact ⟨_, (wrap64 ((-1) - a0)), (by first | rfl | (simp; done) | (simp [*]; done)), H', ⟨by first | omega | exact Nat.le_refl _⟩, ⟨by repeat (first | (with_reducible first | exact HB.out | apply below_alloc | apply pw_below_drewN | apply below_drew1) | exact HB.out)⟩⟩
    · rw [if_neg c3] at H
      have c3b0 : decide (a0 < 0) = false := decide_eq_false c3
      clear c3
      (first | rw [c3b0] | (simp only [i64_w, i32_w]; rw [c3b0]) | skip)
      have H' := Aside0.mk H
      clear H
      go_wp2
      go_meet
      case rel => exact ⟨_, (a0), (by first | rfl | (simp; done) | (simp [*]; done)), H', ⟨by first | omega | exact Nat.le_refl _⟩, ⟨by repeat (first | (with_reducible first | exact HB.out | apply below_alloc | apply pw_below_drewN | apply below_drew1) | exact HB.out)⟩⟩
  case rest =>
    clear HC2
    try clear p2
    try clear c3
    try clear c3b0
    obtain ⟨kq, x3_1, rfl, HA, HJ1, HB⟩ := hcut
    cases kq with
    | zero => exact absurd HA.out (by simp [wordbookref01_Int.j0])
    | succ kj1 =>
      have H := HA.out
      clear HA
      simp only [wordbookref01_Int.j0] at H
      have H' := Aside0.mk H
      clear H
      go_wp2
      go_loopg [3, 4] kj1 (fun kq v3 v4 w' => ∃ (x3_2 : Int) (x4_2 : List Int), v3 = .int .i64 x3_2 ∧ Aside0 (wordbookref01_Int.l0 kq a0 x3_2 x4_2 = some r) ∧ Aside0 (kq ≤ kj1) ∧ Aside0 (Kd.R (Kd.int .u8) 5 w' w.heap.size (fun _ => True) v4 x4_2) ∧ Aside0 (Below w.heap.size w w'))
      case atStart => exact ⟨(x3_1), (([] : List Int)), (by first | rfl | (simp; done) | (simp [*]; done)), H', ⟨Nat.le_refl _⟩, ⟨by first | exact Kd.R_nil _ _ _ _ _ | exact Kd.N_nil _ _ _ _ _ | exact Kd.V_nil _ _ _ _ _ | exact Kd.Q_nil _ _ _ _ _ | exact Kd.S_nil _ _ _ _ _⟩, ⟨by repeat (first | (with_reducible first | exact HB.out | apply below_alloc | apply pw_below_drewN | apply below_drew1) | exact HB.out)⟩⟩
      case round =>
        clear H'
        try clear p2
        try clear c3
        try clear c3b0
        try clear p2
        obtain ⟨x3_2, x4_2, rfl, HA, HK2, HO_4, HB⟩ := hrel
        cases gk with
        | zero => exact absurd HA.out (by simp [wordbookref01_Int.l0])
        | succ k2 =>
          have H := HA.out
          clear HA
          simp only [wordbookref01_Int.l0] at H
          by_cases c4 : x3_2 > 0
          · rw [if_pos c4] at H
            have c4b0 : decide (0 < x3_2) = true := decide_eq_true c4
            clear c4
            by_cases c5 : x4_2.length < 140737488355328
            · rw [if_pos c5] at H
              have LMc5 := Aside0.mk c5
              clear c5
              obtain ⟨y276, hy276⟩ : ∃ y_ : List Int, y_ = (x4_2 ++ [(Int.tmod x3_2 256) % 256]) := ⟨_, rfl⟩
              replace H : (wordbookref01_Int.l0 k2 a0 (wrap64 (Int.tdiv x3_2 256)) y276) = some r := by first | (rw [hy276]; with_reducible exact H) | (have H2_ := (Option.bind_some _ _).symm.trans H; rw [hy276]; with_reducible exact H2_) | (have H2_ := (Option.bind_some _ _).symm.trans H; with_reducible exact H2_) | with_reducible exact H | (rw [hy276]; exact H) | exact H
              have Ny276 := Aside0.mk hy276
              clear hy276
              have H' := Aside0.mk H
              clear H
              go_wp2_with (first | ((with_reducible refine gate_builtin (b := .append) (xs := #[.tmp 16, .tmp 20]) rfl ?_); at_builtin; refine Kd.R_append (Kd.int .u8) (w0 := w) w.heap.size rfl (.tmp 16) (.tmp 20) 55 5 (.int .u8 0) 1 rfl Try.underlying55 info5 rfl (by decide) (by omega) u4 x4_2 ((Int.tmod x3_2 256) % 256) [.int .u8 ((Int.tmod x3_2 256) % 256)] (fun _ => True) (fun _ => False) rfl rfl ?aP (fun _ hk => hk.elim) ?aF ?aO ?aB ?aS ?aL ?_; (case aP => exact rfl); (case aB => exact (by repeat (first | (with_reducible first | exact HB.out | apply below_alloc | apply pw_below_drewN | apply below_drew1) | exact HB.out))); (case aF => exact (fun _ _ => trivial)); (case aO => exact (by (with_reducible repeat (first | apply Kd.R_alloc | apply Kd.R_drewN | apply Kd.R_drew)); exact HO_4.out)); (case aS => exact (below_size (by repeat (first | (with_reducible first | exact HB.out | apply below_alloc | apply pw_below_drewN | apply below_drew1) | exact HB.out)))); (case aL => have := LMc5.out; omega); intro v277 w6 ho hb hg hat; rw [← Ny276.out] at ho; have n0_ := Aside0.mk (hb); have n1_ := Aside0.mk (ho); clear HB; clear HO_4; have HB := n0_; have HO278 := n1_; clear n0_ n1_; clear ho hb hg hat))
              go_roundg k2
              case measure => have := HJ1.out; have := HK2.out; omega
              case rel => exact ⟨(wrap64 (Int.tdiv x3_2 256)), (y276), (by first | rfl | (simp; done) | (simp [*]; done)), H', ⟨by have := HJ1.out; have := HK2.out; omega⟩, ⟨by (with_reducible repeat (first | apply Kd.R_alloc | apply Kd.R_drewN | apply Kd.R_drew)); exact HO278.out⟩, ⟨by repeat (first | (with_reducible first | exact HB.out | apply below_alloc | apply pw_below_drewN | apply below_drew1) | exact HB.out)⟩⟩
            · rw [if_neg c5] at H
              exact absurd H (by simp)
          · rw [if_neg c4] at H
            have c4b0 : decide (0 < x3_2) = false := decide_eq_false c4
            clear c4
            have HC7 := Aside0.mk H
            clear H
            obtain ⟨Ao8, co8, eo8⟩ := Kd.R_slice HO_4.out
            subst eo8
            go_upto_if 27 with (fail)
            go_cut [6] (fun v6 wc => ∃ (kq : Nat) (x6_6 : List Int), Aside0 (wordbookref01_Int.j2 kq a0 x4_2 (x4_2.length : Int) x6_6 = some r) ∧ Aside0 (kq ≤ k2) ∧ Aside0 (Kd.R (Kd.int .u8) 5 wc w.heap.size (fun k_ => some k_ ≠ (v6 : Value).ownBlock) (.slice Ao8 x4_2.length co8) x4_2) ∧ Aside0 (Kd.R (Kd.int .u8) 5 wc w.heap.size (fun k_ => some k_ ≠ ((.slice Ao8 x4_2.length co8) : Value).ownBlock) v6 x6_6) ∧ Aside0 (Below w.heap.size w wc))
            case first =>
              have H := HC7.out
              clear HC7
              by_cases c9 : a0 ≥ 0
              · rw [if_pos c9] at H
                have c9b0 : decide (0 ≤ a0) = true := decide_eq_true c9
                clear c9
                (first | rw [c9b0] | (simp only [i64_w, i32_w]; rw [c9b0]) | skip)
                by_cases c10 : ([] : List Int).length < 140737488355328
                · rw [if_pos c10] at H
                  have LMc10 := Aside0.mk c10
                  clear c10
                  obtain ⟨y279, hy279⟩ : ∃ y_ : List Int, y_ = (([] : List Int) ++ [(wrap64 (128 + (x4_2.length : Int))) % 256]) := ⟨_, rfl⟩
                  replace H : (wordbookref01_Int.j2 k2 a0 x4_2 (x4_2.length : Int) y279) = some r := by first | (rw [hy279]; with_reducible exact H) | (have H2_ := (Option.bind_some _ _).symm.trans H; rw [hy279]; with_reducible exact H2_) | (have H2_ := (Option.bind_some _ _).symm.trans H; with_reducible exact H2_) | with_reducible exact H | (rw [hy279]; exact H) | exact H
                  have Ny279 := Aside0.mk hy279
                  clear hy279
                  have H' := Aside0.mk H
                  clear H
                  go_wp2_with (first | ((with_reducible refine gate_builtin (b := .append) (xs := #[.tmp 28, .tmp 32]) rfl ?_); at_builtin; refine Kd.R_append (Kd.int .u8) (w0 := w) w.heap.size rfl (.tmp 28) (.tmp 32) 55 5 (.int .u8 0) 1 rfl Try.underlying55 info5 rfl (by decide) (by omega) (.slice none 0 0) ([] : List Int) ((wrap64 (128 + (x4_2.length : Int))) % 256) [.int .u8 ((wrap64 (128 + (x4_2.length : Int))) % 256)] (fun k_ => some k_ ≠ (.slice Ao8 x4_2.length co8 : Value).ownBlock) (fun _ => False) rfl rfl ?aP (fun _ hk => hk.elim) ?aF ?aO ?aB ?aS ?aL ?_; (case aP => exact rfl); (case aB => exact (by repeat (first | (with_reducible first | exact HB.out | apply below_alloc | apply pw_below_drewN | apply below_drew1) | exact HB.out))); (case aF => exact (fun k_ hk => Kd.fresh' (Kd.R_lt (by (with_reducible repeat (first | apply Kd.R_alloc | apply Kd.R_drewN | apply Kd.R_drew)); exact HO_4.out)) k_ hk)); (case aO => exact ((Kd.R_nil _ _ _ _ (fun k_ => some k_ ≠ (.slice Ao8 x4_2.length co8 : Value).ownBlock)))); (case aS => exact (below_size (by repeat (first | (with_reducible first | exact HB.out | apply below_alloc | apply pw_below_drewN | apply below_drew1) | exact HB.out)))); (case aL => have := LMc10.out; omega); intro v280 w11 ho hb hg hat; rw [← Ny279.out] at ho; have n0_ := Aside0.mk (Kd.R_after (Kd.R_apart_nil (by (with_reducible repeat (first | apply Kd.R_alloc | apply Kd.R_drewN | apply Kd.R_drew)); exact HO_4.out)) hg hat); have n1_ := Aside0.mk (hb); have n2_ := Aside0.mk (ho); clear HO_4; clear HB; have HO_4 := n0_; have HB := n1_; have HO281 := n2_; clear n0_ n1_ n2_; clear ho hb hg hat))
                  go_meet
                  case rel => exact ⟨_, (y279), H', ⟨by have := HJ1.out; have := HK2.out; first | omega | exact Nat.le_refl _⟩, ⟨by (with_reducible repeat (first | apply Kd.R_alloc | apply Kd.R_drewN | apply Kd.R_drew)); exact Kd.R_mono HO_4.out (fun _ hk => hk.2)⟩, ⟨by (with_reducible repeat (first | apply Kd.R_alloc | apply Kd.R_drewN | apply Kd.R_drew)); exact HO281.out⟩, ⟨by repeat (first | (with_reducible first | exact HB.out | apply below_alloc | apply pw_below_drewN | apply below_drew1) | exact HB.out)⟩⟩
                · rw [if_neg c10] at H
                  exact absurd H (by simp)
              · rw [if_neg c9] at H
                have c9b0 : decide (0 ≤ a0) = false := decide_eq_false c9
                clear c9
                (first | rw [c9b0] | (simp only [i64_w, i32_w]; rw [c9b0]) | skip)
                by_cases c12 : ([] : List Int).length < 140737488355328
                · rw [if_pos c12] at H
                  have LMc12 := Aside0.mk c12
                  clear c12
                  obtain ⟨y282, hy282⟩ : ∃ y_ : List Int, y_ = (([] : List Int) ++ [(wrap64 (127 - (x4_2.length : Int))) % 256]) := ⟨_, rfl⟩
                  replace H : (wordbookref01_Int.j2 k2 a0 x4_2 (x4_2.length : Int) y282) = some r := by first | (rw [hy282]; with_reducible exact H) | (have H2_ := (Option.bind_some _ _).symm.trans H; rw [hy282]; with_reducible exact H2_) | (have H2_ := (Option.bind_some _ _).symm.trans H; with_reducible exact H2_) | with_reducible exact H | (rw [hy282]; exact H) | exact H
                  have Ny282 := Aside0.mk hy282
                  clear hy282
                  have H' := Aside0.mk H
                  clear H
                  go_wp2_with (first | ((with_reducible refine gate_builtin (b := .append) (xs := #[.tmp 34, .tmp 38]) rfl ?_); at_builtin; refine Kd.R_append (Kd.int .u8) (w0 := w) w.heap.size rfl (.tmp 34) (.tmp 38) 55 5 (.int .u8 0) 1 rfl Try.underlying55 info5 rfl (by decide) (by omega) (.slice none 0 0) ([] : List Int) ((wrap64 (127 - (x4_2.length : Int))) % 256) [.int .u8 ((wrap64 (127 - (x4_2.length : Int))) % 256)] (fun k_ => some k_ ≠ (.slice Ao8 x4_2.length co8 : Value).ownBlock) (fun _ => False) rfl rfl ?aP (fun _ hk => hk.elim) ?aF ?aO ?aB ?aS ?aL ?_; (case aP => exact rfl); (case aB => exact (by repeat (first | (with_reducible first | exact HB.out | apply below_alloc | apply pw_below_drewN | apply below_drew1) | exact HB.out))); (case aF => exact (fun k_ hk => Kd.fresh' (Kd.R_lt (by (with_reducible repeat (first | apply Kd.R_alloc | apply Kd.R_drewN | apply Kd.R_drew)); exact HO_4.out)) k_ hk)); (case aO => exact ((Kd.R_nil _ _ _ _ (fun k_ => some k_ ≠ (.slice Ao8 x4_2.length co8 : Value).ownBlock)))); (case aS => exact (below_size (by repeat (first | (with_reducible first | exact HB.out | apply below_alloc | apply pw_below_drewN | apply below_drew1) | exact HB.out)))); (case aL => have := LMc12.out; omega); intro v283 w13 ho hb hg hat; rw [← Ny282.out] at ho; have n0_ := Aside0.mk (Kd.R_after (Kd.R_apart_nil (by (with_reducible repeat (first | apply Kd.R_alloc | apply Kd.R_drewN | apply Kd.R_drew)); exact HO_4.out)) hg hat); have n1_ := Aside0.mk (hb); have n2_ := Aside0.mk (ho); clear HO_4; clear HB; have HO_4 := n0_; have HB := n1_; have HO284 := n2_; clear n0_ n1_ n2_; clear ho hb hg hat))
                  go_meet
                  case rel => exact ⟨_, (y282), H', ⟨by have := HJ1.out; have := HK2.out; first | omega | exact Nat.le_refl _⟩, ⟨by (with_reducible repeat (first | apply Kd.R_alloc | apply Kd.R_drewN | apply Kd.R_drew)); exact Kd.R_mono HO_4.out (fun _ hk => hk.2)⟩, ⟨by (with_reducible repeat (first | apply Kd.R_alloc | apply Kd.R_drewN | apply Kd.R_drew)); exact HO284.out⟩, ⟨by repeat (first | (with_reducible first | exact HB.out | apply below_alloc | apply pw_below_drewN | apply below_drew1) | exact HB.out)⟩⟩
                · rw [if_neg c12] at H
                  exact absurd H (by simp)
            case rest =>
              clear HC7
              try clear c1
              try clear p2
              try clear c3
              try clear c3b0
              try clear c4
              try clear c4b0
              try clear c5
              try clear p6
              try clear c8
              try clear c9
              try clear c9b0
              try clear c10
              try clear c12
              try clear p2
              obtain ⟨kq, x6_6, HA, HJ6, HO_4, HO_6, HB⟩ := hcut
              cases kq with
              | zero => exact absurd HA.out (by simp [wordbookref01_Int.j2])
              | succ kj6 =>
                have H := HA.out
                clear HA
                simp only [wordbookref01_Int.j2] at H
                have H' := Aside0.mk H
                clear H
                go_wp2
                go_loopg [6, 7] kj6 (fun kq v6 v7 w' => ∃ (x6_4 : List Int) (x7_4 : Int), v7 = .int .i64 x7_4 ∧ Aside0 (wordbookref01_Int.l1 kq a0 x4_2 x6_4 x7_4 = some r) ∧ Aside0 (kq ≤ kj6) ∧ Aside0 (Kd.R (Kd.int .u8) 5 w' w.heap.size (fun k_ => some k_ ≠ (v6 : Value).ownBlock) (.slice Ao8 x4_2.length co8) x4_2) ∧ Aside0 (Kd.R (Kd.int .u8) 5 w' w.heap.size (fun k_ => some k_ ≠ ((.slice Ao8 x4_2.length co8) : Value).ownBlock) v6 x6_4) ∧ Aside0 (Below w.heap.size w w'))
                case atStart => exact ⟨(x6_6), (wrap64 ((x4_2.length : Int) - 1)), (by first | rfl | (simp; done) | (simp [*]; done)), H', ⟨Nat.le_refl _⟩, ⟨by (with_reducible repeat (first | apply Kd.R_alloc | apply Kd.R_drewN | apply Kd.R_drew)); exact HO_4.out⟩, ⟨by (with_reducible repeat (first | apply Kd.R_alloc | apply Kd.R_drewN | apply Kd.R_drew)); exact HO_6.out⟩, ⟨by repeat (first | (with_reducible first | exact HB.out | apply below_alloc | apply pw_below_drewN | apply below_drew1) | exact HB.out)⟩⟩
                case round =>
                  clear H'
                  try clear c1
                  try clear p2
                  try clear c3
                  try clear c3b0
                  try clear c4
                  try clear c4b0
                  try clear c5
                  try clear p6
                  try clear c8
                  try clear c9
                  try clear c9b0
                  try clear c10
                  try clear c12
                  try clear p2
                  try clear p6
                  obtain ⟨x6_4, x7_4, rfl, HA, HK4, HO_4, HO_6, HB⟩ := hrel
                  cases gk with
                  | zero => exact absurd HA.out (by simp [wordbookref01_Int.l1])
                  | succ k4 =>
                    have H := HA.out
                    clear HA
                    simp only [wordbookref01_Int.l1] at H
                    by_cases c14 : x7_4 ≥ 0
                    · rw [if_pos c14] at H
                      have c14b0 : decide (0 ≤ x7_4) = true := decide_eq_true c14
                      clear c14
                      by_cases c15 : 0 ≤ x7_4
                      · rw [if_pos c15] at H
                        have c15b0 : decide (0 ≤ x7_4) = true := decide_eq_true c15
                        clear c15
                        by_cases c16 : x7_4 < (x4_2.length : Int)
                        · rw [if_pos c16] at H
                          have c16b0 : decide (x7_4 < (x4_2.length : Int)) = true := decide_eq_true c16
                          clear c16
                          by_cases c17 : a0 < 0
                          · rw [if_pos c17] at H
                            have c17b0 : decide (a0 < 0) = true := decide_eq_true c17
                            clear c17
                            by_cases c18 : x6_4.length < 140737488355328
                            · rw [if_pos c18] at H
                              have LMc18 := Aside0.mk c18
                              clear c18
                              obtain ⟨y286, hy286⟩ : ∃ y_ : List Int, y_ = (x6_4 ++ [(255 - (rd x4_2 x7_4)) % 256]) := ⟨_, rfl⟩
                              replace H : (wordbookref01_Int.l1 k4 a0 x4_2 y286 (wrap64 (x7_4 - 1))) = some r := by first | (rw [hy286]; with_reducible exact H) | (have H2_ := (Option.bind_some _ _).symm.trans H; rw [hy286]; with_reducible exact H2_) | (have H2_ := (Option.bind_some _ _).symm.trans H; with_reducible exact H2_) | with_reducible exact H | (rw [hy286]; exact H) | exact H
                              have Ny286 := Aside0.mk hy286
                              clear hy286
                              have H' := Aside0.mk H
                              clear H
                              have p285 : 0 ≤ (x7_4 : Int) := of_decide_eq_true (by first | (with_reducible assumption) | assumption)
                              have q285 : x7_4 < (x4_2.length : Int) := of_decide_eq_true (by first | (with_reducible assumption) | assumption)
                              obtain ⟨ad285, e285, hx285_0⟩ := Kd.at_int (Kd.R_reads' HO_4.out).2.2 x7_4 p285 q285
                              cases e285
                              replace p285 := eq_true p285
                              replace q285 := eq_true q285
                              go_wp2_with (first | ((with_reducible refine gate_builtin (b := .append) (xs := #[.tmp 54, .tmp 56]) rfl ?_); at_builtin; refine Kd.R_append (Kd.int .u8) (w0 := w) w.heap.size rfl (.tmp 54) (.tmp 56) 55 5 (.int .u8 0) 1 rfl Try.underlying55 info5 rfl (by decide) (by omega) u6 x6_4 ((255 - (rd x4_2 x7_4)) % 256) [.int .u8 ((255 - (rd x4_2 x7_4)) % 256)] (fun k_ => some k_ ≠ (.slice (some ad285) x4_2.length co8 : Value).ownBlock) (fun _ => False) rfl rfl ?aP (fun _ hk => hk.elim) ?aF ?aO ?aB ?aS ?aL ?_; (case aP => exact rfl); (case aB => exact (by repeat (first | (with_reducible first | exact HB.out | apply below_alloc | apply pw_below_drewN | apply below_drew1) | exact HB.out))); (case aF => exact (fun k_ hk => Kd.fresh' (Kd.R_lt (by (with_reducible repeat (first | apply Kd.R_alloc | apply Kd.R_drewN | apply Kd.R_drew)); exact HO_4.out)) k_ hk)); (case aO => exact (by (with_reducible repeat (first | apply Kd.R_alloc | apply Kd.R_drewN | apply Kd.R_drew)); exact HO_6.out)); (case aS => exact (below_size (by repeat (first | (with_reducible first | exact HB.out | apply below_alloc | apply pw_below_drewN | apply below_drew1) | exact HB.out)))); (case aL => have := LMc18.out; omega); intro v287 w19 ho hb hg hat; rw [← Ny286.out] at ho; have n0_ := Aside0.mk (Kd.R_after (ok := (fun _ => True)) (by (with_reducible repeat (first | apply Kd.R_alloc | apply Kd.R_drewN | apply Kd.R_drew)); exact Kd.R_mono HO_4.out (fun _ hk => ⟨trivial, hk⟩)) hg hat); have n1_ := Aside0.mk (hb); have n2_ := Aside0.mk (ho); clear HO_4; clear HB; clear HO_6; have HO_4 := n0_; have HB := n1_; have HO288 := n2_; clear n0_ n1_ n2_; clear ho hb hg hat))
                              go_roundg k4
                              case measure => have := HJ1.out; have := HK2.out; have := HJ6.out; have := HK4.out; omega
                              case rel => exact ⟨(y286), (wrap64 (x7_4 - 1)), (by first | rfl | (simp; done) | (simp [*]; done)), H', ⟨by have := HJ1.out; have := HK2.out; have := HJ6.out; have := HK4.out; omega⟩, ⟨by (with_reducible repeat (first | apply Kd.R_alloc | apply Kd.R_drewN | apply Kd.R_drew)); exact Kd.R_mono HO_4.out (fun _ hk => hk.2)⟩, ⟨by (with_reducible repeat (first | apply Kd.R_alloc | apply Kd.R_drewN | apply Kd.R_drew)); exact HO288.out⟩, ⟨by repeat (first | (with_reducible first | exact HB.out | apply below_alloc | apply pw_below_drewN | apply below_drew1) | exact HB.out)⟩⟩
                            · rw [if_neg c18] at H
                              exact absurd H (by simp)
                          · rw [if_neg c17] at H
                            have c17b0 : decide (a0 < 0) = false := decide_eq_false c17
                            clear c17
                            by_cases c20 : x6_4.length < 140737488355328
                            · rw [if_pos c20] at H
                              have LMc20 := Aside0.mk c20
                              clear c20
                              obtain ⟨y289, hy289⟩ : ∃ y_ : List Int, y_ = (x6_4 ++ [rd x4_2 x7_4]) := ⟨_, rfl⟩
                              replace H : (wordbookref01_Int.l1 k4 a0 x4_2 y289 (wrap64 (x7_4 - 1))) = some r := by first | (rw [hy289]; with_reducible exact H) | (have H2_ := (Option.bind_some _ _).symm.trans H; rw [hy289]; with_reducible exact H2_) | (have H2_ := (Option.bind_some _ _).symm.trans H; with_reducible exact H2_) | with_reducible exact H | (rw [hy289]; exact H) | exact H
                              have Ny289 := Aside0.mk hy289
                              clear hy289
                              have H' := Aside0.mk H
                              clear H
                              have p285 : 0 ≤ (x7_4 : Int) := of_decide_eq_true (by first | (with_reducible assumption) | assumption)
                              have q285 : x7_4 < (x4_2.length : Int) := of_decide_eq_true (by first | (with_reducible assumption) | assumption)
                              obtain ⟨ad285, e285, hx285_0⟩ := Kd.at_int (Kd.R_reads' HO_4.out).2.2 x7_4 p285 q285
                              cases e285
                              replace p285 := eq_true p285
                              replace q285 := eq_true q285
                              go_wp2_with (first | ((with_reducible refine gate_builtin (b := .append) (xs := #[.tmp 54, .tmp 56]) rfl ?_); at_builtin; refine Kd.R_append (Kd.int .u8) (w0 := w) w.heap.size rfl (.tmp 54) (.tmp 56) 55 5 (.int .u8 0) 1 rfl Try.underlying55 info5 rfl (by decide) (by omega) u6 x6_4 (rd x4_2 x7_4) [.int .u8 (rd x4_2 x7_4)] (fun k_ => some k_ ≠ (.slice (some ad285) x4_2.length co8 : Value).ownBlock) (fun _ => False) rfl rfl ?aP (fun _ hk => hk.elim) ?aF ?aO ?aB ?aS ?aL ?_; (case aP => exact rfl); (case aB => exact (by repeat (first | (with_reducible first | exact HB.out | apply below_alloc | apply pw_below_drewN | apply below_drew1) | exact HB.out))); (case aF => exact (fun k_ hk => Kd.fresh' (Kd.R_lt (by (with_reducible repeat (first | apply Kd.R_alloc | apply Kd.R_drewN | apply Kd.R_drew)); exact HO_4.out)) k_ hk)); (case aO => exact (by (with_reducible repeat (first | apply Kd.R_alloc | apply Kd.R_drewN | apply Kd.R_drew)); exact HO_6.out)); (case aS => exact (below_size (by repeat (first | (with_reducible first | exact HB.out | apply below_alloc | apply pw_below_drewN | apply below_drew1) | exact HB.out)))); (case aL => have := LMc20.out; omega); intro v290 w21 ho hb hg hat; rw [← Ny289.out] at ho; have n0_ := Aside0.mk (Kd.R_after (ok := (fun _ => True)) (by (with_reducible repeat (first | apply Kd.R_alloc | apply Kd.R_drewN | apply Kd.R_drew)); exact Kd.R_mono HO_4.out (fun _ hk => ⟨trivial, hk⟩)) hg hat); have n1_ := Aside0.mk (hb); have n2_ := Aside0.mk (ho); clear HO_4; clear HB; clear HO_6; have HO_4 := n0_; have HB := n1_; have HO291 := n2_; clear n0_ n1_ n2_; clear ho hb hg hat))
                              go_roundg k4
                              case measure => have := HJ1.out; have := HK2.out; have := HJ6.out; have := HK4.out; omega
                              case rel => exact ⟨(y289), (wrap64 (x7_4 - 1)), (by first | rfl | (simp; done) | (simp [*]; done)), H', ⟨by have := HJ1.out; have := HK2.out; have := HJ6.out; have := HK4.out; omega⟩, ⟨by (with_reducible repeat (first | apply Kd.R_alloc | apply Kd.R_drewN | apply Kd.R_drew)); exact Kd.R_mono HO_4.out (fun _ hk => hk.2)⟩, ⟨by (with_reducible repeat (first | apply Kd.R_alloc | apply Kd.R_drewN | apply Kd.R_drew)); exact HO291.out⟩, ⟨by repeat (first | (with_reducible first | exact HB.out | apply below_alloc | apply pw_below_drewN | apply below_drew1) | exact HB.out)⟩⟩
                            · rw [if_neg c20] at H
                              exact absurd H (by simp)
                        · rw [if_neg c16] at H
                          exact absurd H (by simp)
                      · rw [if_neg c15] at H
                        exact absurd H (by simp)
                    · rw [if_neg c14] at H
                      have c14b0 : decide (0 ≤ x7_4) = false := decide_eq_false c14
                      clear c14
                      obtain rfl := Option.some.inj H
                      go_wp2
                      go_ret
                      exact ⟨_, by first | rfl | (simp [errW_none, errW_some] <;> rfl) | (simp [*, errW_none, errW_some] <;> rfl), by (with_reducible repeat (first | apply Kd.R_alloc | apply Kd.R_drewN | apply Kd.R_drew)); exact Kd.R_mono HO_6.out (fun _ hk => trivial), by repeat (first | (with_reducible first | exact HB.out | apply below_alloc | apply pw_below_drewN | apply below_drew1) | exact HB.out)⟩

/-! ### wordbookref01_Ints: function 39 -/
def wordbookref01_Ints.l0 : Nat → List Int → List Int → Int → Option (List Int)
  | 0, _, _, _ => none
  | k + 1, x0, x3, x4 => if x4 < (x0.length : Int) then (if 0 ≤ x4 then ((wordbookref01_Int.f k (rd x0 x4)).bind fun t296 => (if x3.length + t296.length < 140737488355328 then (wordbookref01_Ints.l0 k x0 (x3 ++ t296) (wrap64 (x4 + 1))) else (none))) else (none)) else (some x3)
def wordbookref01_Ints.f (k : Nat) (l0 : List Int) : Option (List Int) := (wordbookref01_Int.f k (l0.length : Int)).bind fun t292 => (wordbookref01_Ints.l0 k l0 t292 0)
theorem wordbookref01_Ints.mono_l : ∀ k, (∀ y0 y1 y2, LeO (wordbookref01_Ints.l0 k y0 y1 y2) (wordbookref01_Ints.l0 (k + 1) y0 y1 y2))
  | 0 => fun _ _ _ r h => by simp [wordbookref01_Ints.l0] at h
  | k + 1 => by
    have ih0 := wordbookref01_Ints.mono_l k
    · intro y0 y1 y2
      unfold wordbookref01_Ints.l0
      repeat' first
      | (with_reducible exact ih0 _ _ _)
      | (with_reducible exact wordbookref01_Int.mono _ _)
      | (with_reducible exact LeO.refl _)
      | (with_reducible exact LeO.none _)
      | (with_reducible refine LeO.ite ?_ ?_)
      | (with_reducible refine LeO.bind ?_ (fun _ => ?_))
      | exact ih0 _ _ _
      | exact wordbookref01_Int.mono _ _
      | exact LeO.none _
      | refine LeO.ite ?_ ?_
      | refine LeO.bind ?_ (fun _ => ?_)
theorem wordbookref01_Ints.mono : ∀ a0 k, LeO (wordbookref01_Ints.f k a0) (wordbookref01_Ints.f (k + 1) a0) := by
  intro a0 k
  have ih0 := wordbookref01_Ints.mono_l k
  unfold wordbookref01_Ints.f
  repeat' first
      | (with_reducible exact ih0 _ _ _)
      | (with_reducible exact wordbookref01_Int.mono _ _)
      | (with_reducible exact LeO.refl _)
      | (with_reducible exact LeO.none _)
      | (with_reducible refine LeO.ite ?_ ?_)
      | (with_reducible refine LeO.bind ?_ (fun _ => ?_))
      | exact ih0 _ _ _
      | exact wordbookref01_Int.mono _ _
      | exact LeO.none _
      | refine LeO.ite ?_ ?_
      | refine LeO.bind ?_ (fun _ => ?_)
set_option maxHeartbeats 8000000 in
set_option maxRecDepth 100000 in
theorem wordbookref01_Ints.calls (k : Nat) (A0 : Option Addr) (c0 : Nat) (l0 : List Int) (r : List Int) (w : World) (hr0 : Kd.C (Kd.int .i64) w A0 l0.length l0) (hc0 : l0.length ≤ c0) (h : wordbookref01_Ints.f k l0 = some r) :
    Calls Try.prog 39 #[.slice A0 l0.length c0] w fun e w' => ∃ v0_ : Value, e = .returned (v0_) ∧ Kd.R (Kd.int .u8) 5 w' w.heap.size (fun _ => True) v0_ r ∧ Below w.heap.size w w' := by
  have HR0 := Aside0.mk hr0
  have HC0 := Aside0.mk hc0
  clear hr0 hc0
  have HB := Aside0.mk (Below.refl w.heap.size w)
  have H : ((wordbookref01_Int.f k (l0.length : Int)).bind fun t292 => (wordbookref01_Ints.l0 k l0 t292 0)) = some r := h
  clear h
  replace H := Option.bind_eq_some_iff.mp H
  obtain ⟨t292, A20, H⟩ := H
  replace H : (wordbookref01_Ints.l0 k l0 t292 0) = some r := H
  have A2 := Aside0.mk A20
  clear A20
  have H' := Aside0.mk H
  clear H
  go_enter Try.func39, Try.ntmps39
  go_wp2_with (first | ((with_reducible refine gate_callee (f := 83) rfl ?_); refine goesL_ (some 7) rfl rfl Try.func83 (by kernel_rfl) rfl #[.int .i64 (l0.length : Int)] rfl (by (try simp only [List.map_toArray, List.map_cons, List.map_nil]); first | done | rfl | (simp only [List.length_drop, List.length_take]; rfl)) ?_; (with_reducible refine (wordbookref01_Int.calls k (l0.length : Int) t292 _ A2.out).mono ?_); rintro e w3 ⟨v293, rfl, ho0, hb⟩; refine ⟨_, rfl, ?_⟩; have n0_ := Aside0.mk (Kd.R_lower ho0 (below_size (by repeat (first | (with_reducible first | exact HB.out | apply below_alloc | apply pw_below_drewN | apply below_drew1) | exact HB.out)))); have n1_ := Aside0.mk (below_step (by repeat (first | (with_reducible first | exact HB.out | apply below_alloc | apply pw_below_drewN | apply below_drew1) | exact HB.out)) hb); clear HB; have HO294 := n0_; have HB := n1_; clear n0_ n1_; (try clear hb); (try clear hb2); (try clear hk); (try clear hi); (try clear ho0)))
  go_loopg [3, 4] k (fun kq v3 v4 w' => ∃ (x3_1 : List Int) (x4_1 : Int), v4 = .int .i64 x4_1 ∧ Aside0 (wordbookref01_Ints.l0 kq l0 x3_1 x4_1 = some r) ∧ Aside0 (kq ≤ k) ∧ Aside0 (Kd.R (Kd.int .u8) 5 w' w.heap.size (fun _ => True) v3 x3_1) ∧ Aside0 (Below w.heap.size w w'))
  case atStart => exact ⟨(t292), (0), (by first | rfl | (simp; done) | (simp [*]; done)), H', ⟨Nat.le_refl _⟩, ⟨by (with_reducible repeat (first | apply Kd.R_alloc | apply Kd.R_drewN | apply Kd.R_drew)); exact HO294.out⟩, ⟨by repeat (first | (with_reducible first | exact HB.out | apply below_alloc | apply pw_below_drewN | apply below_drew1) | exact HB.out)⟩⟩
  case round =>
    clear H'
    try clear p2
    try clear c3
    obtain ⟨x3_1, x4_1, rfl, HA, HK1, HO_3, HB⟩ := hrel
    cases gk with
    | zero => exact absurd HA.out (by simp [wordbookref01_Ints.l0])
    | succ k1 =>
      have H := HA.out
      clear HA
      simp only [wordbookref01_Ints.l0] at H
      by_cases c4 : x4_1 < (l0.length : Int)
      · rw [if_pos c4] at H
        have c4b0 : decide (x4_1 < (l0.length : Int)) = true := decide_eq_true c4
        clear c4
        by_cases c5 : 0 ≤ x4_1
        · rw [if_pos c5] at H
          have c5b0 : decide (0 ≤ x4_1) = true := decide_eq_true c5
          clear c5
          replace H := Option.bind_eq_some_iff.mp H
          obtain ⟨t296, A60, H⟩ := H
          replace H : (if x3_1.length + t296.length < 140737488355328 then (wordbookref01_Ints.l0 k1 l0 (x3_1 ++ t296) (wrap64 (x4_1 + 1))) else (none)) = some r := H
          have A6 := Aside0.mk A60
          clear A60
          by_cases c7 : x3_1.length + t296.length < 140737488355328
          · rw [if_pos c7] at H
            have LMc7 := Aside0.mk c7
            clear c7
            obtain ⟨y299, hy299⟩ : ∃ y_ : List Int, y_ = (x3_1 ++ t296) := ⟨_, rfl⟩
            replace H : (wordbookref01_Ints.l0 k1 l0 y299 (wrap64 (x4_1 + 1))) = some r := by first | (rw [hy299]; with_reducible exact H) | (have H2_ := (Option.bind_some _ _).symm.trans H; rw [hy299]; with_reducible exact H2_) | (have H2_ := (Option.bind_some _ _).symm.trans H; with_reducible exact H2_) | with_reducible exact H | (rw [hy299]; exact H) | exact H
            have Ny299 := Aside0.mk hy299
            clear hy299
            have H' := Aside0.mk H
            clear H
            have p295 : 0 ≤ (x4_1 : Int) := of_decide_eq_true (by first | (with_reducible assumption) | assumption)
            have q295 : x4_1 < (l0.length : Int) := of_decide_eq_true (by first | (with_reducible assumption) | assumption)
            obtain ⟨ad295, e295, hx295_0⟩ := Kd.at_int HR0.out x4_1 p295 q295
            cases e295
            replace hx295_0 := (HB.out.cell (World.block_lt_of_cell? w _ hx295_0)).trans hx295_0
            replace p295 := eq_true p295
            replace q295 := eq_true q295
            go_wp2_with (first | ((with_reducible refine gate_callee (f := 83) rfl ?_); refine goesL_ (some 19) rfl rfl Try.func83 (by kernel_rfl) rfl #[.int .i64 (rd l0 x4_1)] rfl (by (try simp only [List.map_toArray, List.map_cons, List.map_nil]); first | done | rfl | (simp only [List.length_drop, List.length_take]; rfl)) ?_; (with_reducible refine (wordbookref01_Int.calls k1 (rd l0 x4_1) t296 _ A6.out).mono ?_); rintro e w8 ⟨v297, rfl, ho0, hb⟩; refine ⟨_, rfl, ?_⟩; have n0_ := Aside0.mk (Kd.R_elder' (by (with_reducible repeat (first | apply Kd.R_alloc | apply Kd.R_drewN | apply Kd.R_drew)); exact HO_3.out) (Kd.R_base ho0) hb); have n1_ := Aside0.mk (Kd.R_lower (Kd.R_new' ho0 (Kd.R_lt (by (with_reducible repeat (first | apply Kd.R_alloc | apply Kd.R_drewN | apply Kd.R_drew)); exact HO_3.out))) (below_size (by repeat (first | (with_reducible first | exact HB.out | apply below_alloc | apply pw_below_drewN | apply below_drew1) | exact HB.out)))); have n2_ := Aside0.mk (below_step (by repeat (first | (with_reducible first | exact HB.out | apply below_alloc | apply pw_below_drewN | apply below_drew1) | exact HB.out)) hb); clear HO_3; clear HB; have HO_3 := n0_; have HO298 := n1_; have HB := n2_; clear n0_ n1_ n2_; (try clear hb); (try clear hb2); (try clear hk); (try clear hi); (try clear ho0); obtain ⟨Ao10, co10, eo10⟩ := Kd.R_slice HO298.out; subst eo10) | ((with_reducible refine gate_builtin (b := .append) (xs := #[.tmp 14, .tmp 19]) rfl ?_); at_builtin; refine Kd.R_append_rows (Kd.int .u8) (w0 := w) w.heap.size rfl (.tmp 14) (.tmp 19) 55 5 (.int .u8 0) 1 rfl Try.underlying55 info5 rfl (by decide) (by omega) u3 x3_1 t296 _ _ _ (fun k_ => some k_ ≠ (.slice Ao10 t296.length co10 : Value).ownBlock) (fun _ => False) rfl rfl ?aO ?aR (fun _ _ h => h) (fun _ h => h.elim) ?aF ?aB ?aS ?aL ?_; (case aR => repeat (first | exact (Kd.R_reads' HO298.out).2.2 | (with_reducible refine Kd.C_alloc ?_ _) | (with_reducible refine Kd.C_drewN ?_ _) | (with_reducible refine Kd.C_drew ?_))); (case aB => exact (by repeat (first | (with_reducible first | exact HB.out | apply below_alloc | apply pw_below_drewN | apply below_drew1) | exact HB.out))); (case aF => exact (fun k_ hk => Kd.fresh' (Kd.R_lt (by (with_reducible repeat (first | apply Kd.R_alloc | apply Kd.R_drewN | apply Kd.R_drew)); exact HO298.out)) k_ hk)); (case aO => exact (by (with_reducible repeat (first | apply Kd.R_alloc | apply Kd.R_drewN | apply Kd.R_drew)); exact Kd.R_mono HO_3.out (fun _ hk => hk.2))); (case aS => exact (below_size (by repeat (first | (with_reducible first | exact HB.out | apply below_alloc | apply pw_below_drewN | apply below_drew1) | exact HB.out)))); (case aL => have := LMc7.out; omega); intro v300 w9 ho hb hg hat; rw [← Ny299.out] at ho; have n0_ := Aside0.mk (Kd.R_after (ok := (fun _ => True)) (by (with_reducible repeat (first | apply Kd.R_alloc | apply Kd.R_drewN | apply Kd.R_drew)); exact HO298.out) hg hat); have n1_ := Aside0.mk (hb); have n2_ := Aside0.mk (ho); clear HO298; clear HB; clear HO_3; have HO298 := n0_; have HB := n1_; have HO301 := n2_; clear n0_ n1_ n2_; clear ho hb hg hat))
            go_roundg k1
            case measure => have := HK1.out; omega
            case rel => exact ⟨(y299), (wrap64 (x4_1 + 1)), (by first | rfl | (simp; done) | (simp [*]; done)), H', ⟨by have := HK1.out; omega⟩, ⟨by (with_reducible repeat (first | apply Kd.R_alloc | apply Kd.R_drewN | apply Kd.R_drew)); exact Kd.R_mono HO301.out (fun _ hk => trivial)⟩, ⟨by repeat (first | (with_reducible first | exact HB.out | apply below_alloc | apply pw_below_drewN | apply below_drew1) | exact HB.out)⟩⟩
          · rw [if_neg c7] at H
            exact absurd H (by simp)
        · rw [if_neg c5] at H
          exact absurd H (by simp)
      · rw [if_neg c4] at H
        have c4b0 : decide (x4_1 < (l0.length : Int)) = false := decide_eq_false c4
        clear c4
        obtain rfl := Option.some.inj H
        go_wp2
        go_ret
        exact ⟨_, by first | rfl | (simp [errW_none, errW_some] <;> rfl) | (simp [*, errW_none, errW_some] <;> rfl), by (with_reducible repeat (first | apply Kd.R_alloc | apply Kd.R_drewN | apply Kd.R_drew)); exact HO_3.out, by repeat (first | (with_reducible first | exact HB.out | apply below_alloc | apply pw_below_drewN | apply below_drew1) | exact HB.out)⟩








end Go.Proofs.Ytcdjeimjbbknjaa.PAll
namespace Go.Proofs.Ytcdjeimjbbknjaa.PAll
open Go.RowKit Go.Proofs.YtcdjeimjbbknjaaW.PrintWords Go.Proofs.YtcdjeimjbbknjaaW.PrintLast Go.Proofs.YtcdjeimjbbknjaaW.PrintMore Go.Proofs.Ytcdjeimjbbknjaa.Res
set_option linter.unusedVariables false
set_option linter.unusedSimpArgs false

/-! ### What read returns -/
def OkN (n : Nat) (x : Nd) : Prop := x.f1.length = x.f2.length ∧ ∀ k ∈ x.f2, 0 ≤ k ∧ k < (n : Int)
theorem put12 {N : List Nd} {i : Nat} (hi : i < N.length) (s t : Int) : put2 (put1 N i s) i t = N.set i ⟨(rdN N (i : Int)).f0, (rdN N (i : Int)).f1 ++ [s], (rdN N (i : Int)).f2 ++ [t], (rdN N (i : Int)).f3⟩ := by
  have hi1 : i < (put1 N i s).length := by unfold put1; rw [List.length_set]; exact hi
  unfold put2
  rw [show rdN (put1 N i s) (i : Int) = ⟨(rdN N (i : Int)).f0, (rdN N (i : Int)).f1 ++ [s], (rdN N (i : Int)).f2, (rdN N (i : Int)).f3⟩ from by unfold put1; rw [rdN_set _ hi, if_pos rfl]]
  unfold put1
  rw [List.set_set]
theorem rdIn_okN (l : List Int) (n i : Nat) : ∀ (e k : Nat) (N N' : List Nd), i < N.length → (∀ x ∈ N, OkN n x) → rdIn l n i e k N = some N' → N'.length = N.length ∧ ∀ x ∈ N', OkN n x
  | 0, k, N, N', hi, hN, h => by rw [rdIn] at h; obtain rfl := Option.some.inj h; exact ⟨rfl, hN⟩
  | e + 1, k, N, N', hi, hN, h => by
    rw [rdIn] at h
    split at h
    · cases h
    · rename_i hc
      rw [put12 hi] at h
      have h2 := rdIn_okN l n i e (k + 2) _ N' (by rw [List.length_set]; exact hi) (fun x hx => by
        rcases List.mem_or_eq_of_mem_set hx with hx | rfl
        · exact hN x hx
        · have ho := hN _ (rdN_mem' (show (0 : Int) ≤ (i : Int) by omega) (show (i : Int) < (N.length : Int) by omega))
          refine ⟨by simp [ho.1], fun k hk => ?_⟩
          rcases List.mem_append.1 hk with hk | hk
          · exact ho.2 k hk
          · rw [List.mem_singleton.1 hk]; omega) h
      rwa [List.length_set] at h2
theorem rdOut_okN (l : List Int) (n : Nat) : ∀ (f i at_ : Nat) (N N' : List Nd), i + f ≤ N.length → (∀ x ∈ N, OkN n x) → rdOut l n f i at_ N = (N', true) → N'.length = N.length ∧ ∀ x ∈ N', OkN n x
  | 0, i, at_, N, N', hi, hN, h => by rw [rdOut] at h; injection h with h _; subst h; exact ⟨rfl, hN⟩
  | f + 1, i, at_, N, N', hi, hN, h => by
    rw [rdOut] at h
    split at h
    · injection h with _ h; cases h
    · cases hq : rdIn l n i (rd l (at_ : Int) / 2).toNat (at_ + 1) (putF N i (decide (rd l (at_ : Int) % 2 = 1))) with
      | none => rw [hq] at h; injection h with _ h; cases h
      | some N1 =>
        rw [hq] at h
        obtain ⟨h1, h2⟩ := rdIn_okN l n i _ _ _ N1 (by rw [putF_len]; omega) (fun x hx => by
          unfold putF at hx
          rcases List.mem_or_eq_of_mem_set hx with hx | rfl
          · exact hN x hx
          · exact show OkN n (rdN N (i : Int)) from hN _ (rdN_mem' (show (0 : Int) ≤ (i : Int) by omega) (show (i : Int) < (N.length : Int) by omega))) hq
        rw [putF_len] at h1
        obtain ⟨h3, h4⟩ := rdOut_okN l n f (i + 1) _ N1 N' (by omega) h2 h
        exact ⟨by omega, h4⟩
theorem readN_ok {l : List Int} {N : List Nd} (h : readN l = (N, true)) : 0 < N.length ∧ N.length ≤ l.length ∧ (∀ x ∈ N, x.f1.length = x.f2.length) ∧ ∀ x ∈ N, ∀ k ∈ x.f2, 0 ≤ k ∧ k < (N.length : Int) := by
  unfold readN at h
  split at h
  · injection h with _ h; cases h
  · obtain ⟨h1, h2⟩ := rdOut_okN l _ _ _ _ _ N (by simp) (fun x hx => by rw [List.eq_of_mem_replicate hx]; exact ⟨rfl, by intro k hk; cases hk⟩) h
    rw [List.length_replicate] at h1
    exact ⟨by omega, by omega, fun x hx => (h2 x hx).1, fun x hx k hk => by have := (h2 x hx).2 k hk; rwa [← h1] at this⟩
/-! ### What words returns -/
theorem lstK_short (rec_ : Int → List Int → List (List Int) → List (List Int)) (b : Nat) (w : List Int) (h : ∀ k s out, (∀ v ∈ out, v.length ≤ b) → ∀ v ∈ rec_ k (w ++ [s]) out, v.length ≤ b) : ∀ (ss ks : List Int) (out : List (List Int)), (∀ v ∈ out, v.length ≤ b) → ∀ v ∈ lstK rec_ w ss ks out, v.length ≤ b
  | [], _, out, ho => by rw [lstK]; exact ho; simp
  | _ :: _, [], out, ho => by rw [lstK]; exact ho; simp
  | s :: ss, k :: ks, out, ho => by rw [lstK]; exact lstK_short rec_ b w h ss ks _ (h k s out ho)
theorem lstN_short (ns : List Nd) : ∀ (f : Nat) (i : Int) (w : List Int) (out : List (List Int)) (b : Nat), w.length + f ≤ b → (∀ v ∈ out, v.length ≤ b) → ∀ v ∈ lstN ns f i w out, v.length ≤ b
  | 0, i, w, out, b, hb, ho => by rw [lstN]; exact ho
  | f + 1, i, w, out, b, hb, ho => by
    rw [lstN]
    refine lstK_short _ b w (fun k s out ho => lstN_short ns f k (w ++ [s]) out b (by simp; omega) ho) _ _ _ ?_
    unfold lstO
    split
    · intro v hv
      rcases List.mem_append.1 hv with hv | hv
      · exact ho v hv
      · rw [List.mem_singleton.1 hv]; omega
    · exact ho
theorem sum_le_mul {b : Nat} : ∀ {ws : List (List Int)}, (∀ w ∈ ws, w.length ≤ b) → (ws.map List.length).sum ≤ ws.length * b
  | [], _ => by simp
  | w :: ws, h => by
    have h1 := h w List.mem_cons_self
    have h2 := sum_le_mul (fun v hv => h v (List.mem_cons_of_mem w hv))
    simp only [List.map_cons, List.sum_cons, List.length_cons, Nat.add_mul, Nat.one_mul]
    omega
theorem wordsN_ok {N : List Nd} (hpos : 0 < N.length) (hlead : ∀ x ∈ N, ∀ k ∈ x.f2, 0 ≤ k ∧ k < (N.length : Int)) (heven : ∀ x ∈ N, x.f1.length = x.f2.length) : WordsPl N ∧ (wordsN N).1.length ≤ 4096 ∧ ∀ w ∈ (wordsN N).1, w.length ≤ N.length := by
  have hp := words_pl N hpos hlead heven
  refine ⟨fun h1 h2 => ⟨(hp h1 h2).1, by have := (hp h1 h2).2; omega⟩, ?_, ?_⟩
  · unfold wordsN
    split
    · rename_i h; have := (hp h.1 h.2).2; dsimp only; omega
    · simp
  · unfold wordsN
    split
    · exact lstN_short N _ _ _ _ _ (by simp) (by simp)
    · simp
/-! ### The list of a graph that Build has made -/
theorem numG_le (N : List Nd) : ∀ (f : Nat) (o : List Int) (i : Nat) (G : List Nd), (numG N f o i G).2.length ≤ G.length + f
  | 0, _, _, G => by rw [numG]; exact Nat.le_refl _
  | f + 1, o, i, G => by
    rw [numG]
    split
    · refine Nat.le_trans (numG_le N f _ _ _) ?_
      rw [List.length_append, List.length_singleton]; omega
    · dsimp only; omega
theorem graphOf_small {ws : List (List Int)} (h : Good ws) : (graphOf ws).length ≤ 65540 := by
  have h1 := numG_le (nodesOf ws).2 ((nodesOf ws).2.length + 1) [(nodesOf ws).1] 0 []
  have h2 := bld_length 65 ws 0 [] (good_pre h)
  have h3 := good_cost h
  change (graphOf ws).length ≤ _ at h1
  change (nodesOf ws).2.length ≤ _ at h2
  simp only [List.length_nil] at h1 h2
  omega
theorem inc_small {xs : List Int} (h : Inc xs) (hs : ∀ s ∈ xs, 0 ≤ s ∧ s < 64) : xs.length ≤ 64 := nodup_le 64 xs (h.imp fun h => by omega) hs
theorem bodyN_le : ∀ (ns : List Nd), (∀ x ∈ ns, x.f1.length = x.f2.length ∧ x.f1.length ≤ 64) → (bodyN ns).length ≤ 129 * ns.length
  | [], _ => by simp [bodyN]
  | x :: ns, h => by
    have h1 := h x List.mem_cons_self
    have h2 := bodyN_le ns fun y hy => h y (List.mem_cons_of_mem _ hy)
    rw [show bodyN (x :: ns) = recN x ++ bodyN ns from rfl, List.length_append, List.length_cons]
    unfold recN
    rw [List.length_cons, prsN_length _ _ h1.1]
    omega
theorem graph_list {ws : List (List Int)} (h : Good ws) : 0 < (graphOf ws).length ∧ (∀ x ∈ graphOf ws, x.f1.length = x.f2.length) ∧ (∀ x ∈ graphOf ws, ∀ k ∈ x.f2, 0 ≤ k ∧ k < ((graphOf ws).length : Int)) ∧ (listN (graphOf ws)).length ≤ 8600000 ∧ ∀ x ∈ listN (graphOf ws), i64 x := by
  obtain ⟨Q, _, hI, hq, _⟩ := graph_spec h
  have hl := hI.len
  obtain ⟨hlead, heven⟩ := inv_lead hI
  have hx : ∀ x ∈ graphOf ws, ∃ r, IsNd Q x r ∧ Srt r ∧ SymR r := fun x hx => by
    obtain ⟨i, hi, rfl⟩ := List.getElem_of_mem hx
    have hn := hI.nds i hi
    rw [rdN_at hi] at hn
    have hm : rdP Q (i : Int) ∈ Q := rdP_mem (by omega) (by omega)
    exact ⟨_, hn, hI.srt _ hm, hI.sym _ hm⟩
  have hs : ∀ x ∈ graphOf ws, ∀ s ∈ x.f1, 0 ≤ s ∧ s < 64 := fun x hx' => by
    obtain ⟨r, hn, h1, h2⟩ := hx x hx'
    rw [hn.syms]; exact syms_sym h1 h2
  have h64 : ∀ x ∈ graphOf ws, x.f1.length ≤ 64 := fun x hx' => by
    obtain ⟨r, hn, h1, h2⟩ := hx x hx'
    exact inc_small (hn.inc h1) (hs x hx')
  have hsm := graphOf_small h
  have hb := bodyN_le (graphOf ws) fun x hx' => ⟨heven x hx', h64 x hx'⟩
  refine ⟨by omega, heven, hlead, by simp only [listN, List.length_cons]; omega, fun y hy => ?_⟩
  unfold i64
  rcases List.mem_cons.1 hy with rfl | hy
  · omega
  · obtain ⟨x, hx', hy⟩ := List.mem_flatMap.1 hy
    rcases List.mem_cons.1 hy with rfl | hy
    · have := h64 x hx'; split <;> omega
    · have hp : ∀ (ss ts : List Int), (∀ s ∈ ss, 0 ≤ s ∧ s < 64) → (∀ t ∈ ts, 0 ≤ t ∧ t < ((graphOf ws).length : Int)) → ∀ y ∈ prsN ss ts, 0 ≤ y ∧ y ≤ 1000000 := by
        intro ss
        induction ss with
        | nil => intro ts _ _ y hy; simp [prsN] at hy
        | cons s ss ih =>
          intro ts h1 h2 y hy
          cases ts with
          | nil => simp [prsN] at hy
          | cons t ts =>
            rw [prsN] at hy
            rcases List.mem_cons.1 hy with rfl | hy
            · have := h1 _ List.mem_cons_self; omega
            · rcases List.mem_cons.1 hy with rfl | hy
              · have := h2 _ List.mem_cons_self; omega
              · exact ih ts (fun s hs => h1 s (List.mem_cons_of_mem _ hs)) (fun t ht => h2 t (List.mem_cons_of_mem _ ht)) y hy
      have := hp x.f1 x.f2 (hs x hx') (hlead x hx') y hy
      omega
/-! ### Decode -/
/-- The words of the graph that is decoded, and the error. -/
def decN (b : List Int) : List (List Int) × Int :=
  if (getsI b).2.2 ≠ 0 then ([], (getsI b).2.2)
  else if (readN (getsI b).1).2 = false ∨ (getsI b).2.1 ≠ (b.length : Int) then ([], 2)
  else if (wordsN (readN (getsI b).1).1).2 = false then ([], 2)
  else if checkL (wordsN (readN (getsI b).1).1).1 ≠ 0 then ([], 2)
  else if listN (graphOf (wordsN (readN (getsI b).1).1).1) ≠ (getsI b).1 then ([], 2)
  else ((wordsN (readN (getsI b).1).1).1, 0)
theorem getsN_i64 {b : List Int} (hb : byt b) : ∀ (f at_ : Nat) (out : List Int), (∀ x ∈ out, i64 x) → (∀ x ∈ (getsN b f at_ out).1, i64 x) ∧ 0 ≤ (getsN b f at_ out).2.2 ∧ (getsN b f at_ out).2.2 ≤ 3 ∧ (getsN b f at_ out).1.length ≤ out.length + f
  | 0, at_, out, h => by rw [getsN]; exact ⟨h, by simp, by simp, by simp⟩
  | f + 1, at_, out, h => by
    obtain ⟨g1, g2, g3, g4, g5⟩ := getI_i64 (byt_drop hb at_)
    rw [getsN]
    split
    · exact ⟨by simp, g4, g5, by simp⟩
    · have := getsN_i64 hb f (at_ + (getI (b.drop at_)).2.1.toNat) (out ++ [(getI (b.drop at_)).1]) (fun x hx => by
        rcases List.mem_append.1 hx with hx | hx
        · exact h x hx
        · rw [List.mem_singleton.1 hx]; exact g1)
      refine ⟨this.1, this.2.1, this.2.2.1, ?_⟩
      have h4 := this.2.2.2
      rw [List.length_append, List.length_singleton] at h4
      omega
theorem getsI_i64 {b : List Int} (hb : byt b) : (∀ x ∈ (getsI b).1, i64 x) ∧ 0 ≤ (getsI b).2.2 ∧ (getsI b).2.2 ≤ 3 ∧ (getsI b).1.length ≤ b.length := by
  have hc : 0 ≤ (cntI b).2.2 ∧ (cntI b).2.2 ≤ 3 := by
    obtain ⟨g1, g2, g3, g4, g5⟩ := getI_i64 hb
    unfold cntI
    split
    · exact ⟨g4, g5⟩
    · split
      · exact ⟨by simp, by simp⟩
      · split
        · exact ⟨by simp, by simp⟩
        · exact ⟨g4, g5⟩
  unfold getsI
  split
  · exact ⟨by simp, hc.1, hc.2, by simp⟩
  · rename_i h
    obtain ⟨c1, c2, c3, c4⟩ := cntI_ok (b := b) (by simpa using h)
    have hg : getI b = ((getI b).1, (getI b).2.1, 0) := by rw [← c2]
    obtain ⟨k1, k2, k3⟩ := getI_ok hb hg
    have := getsN_i64 hb (cntI b).1.toNat (cntI b).2.1.toNat [] (by simp)
    refine ⟨this.1, this.2.1, this.2.2.1, Nat.le_trans this.2.2.2 ?_⟩
    rw [c1]; simp; omega
/-- slices.Equal. -/
theorem equal_is (a b : List Int) (ha : a.length ≤ 1000000000) : ∀ k, a.length < k → slices_Equal_int_int.f k a b = some (decide (a = b)) := by
  have hl : ∀ (d i k : Nat), i + d = a.length → a.length = b.length → d < k → (∀ j, j < i → rd a (j : Int) = rd b (j : Int)) → slices_Equal_int_int.l0 k a b (a.length : Int) (i : Int) = some (decide (a = b)) := by
    intro d
    induction d with
    | zero =>
      intro i k hi hab hk hj
      obtain ⟨k, rfl⟩ : ∃ m, k = m + 1 := ⟨k - 1, by omega⟩
      have : a = b := by
        refine List.ext_getElem hab fun j h1 h2 => ?_
        have := hj j (by omega)
        rwa [rd_nat, rd_nat, List.getD_eq_getElem?_getD, List.getD_eq_getElem?_getD, List.getElem?_eq_getElem h1, List.getElem?_eq_getElem h2] at this
      rw [slices_Equal_int_int.l0, if_neg (by omega), decide_eq_true this]
    | succ d ih =>
      intro i k hi hab hk hj
      obtain ⟨k, rfl⟩ : ∃ m, k = m + 1 := ⟨k - 1, by omega⟩
      rw [slices_Equal_int_int.l0, if_pos (by omega), if_pos (by omega), if_pos (by omega), if_pos (by omega)]
      by_cases he : rd a (i : Int) = rd b (i : Int)
      · rw [if_pos he, show wrap64 ((i : Int) + 1) = ((i + 1 : Nat) : Int) from by unfold wrap64; omega]
        refine ih (i + 1) k (by omega) hab (by omega) fun j hj' => ?_
        rcases Nat.lt_succ_iff_lt_or_eq.1 hj' with h | rfl
        · exact hj j h
        · exact he
      · rw [if_neg he, decide_eq_false (fun e => he (by rw [e]))]
  intro k hk
  unfold slices_Equal_int_int.f
  by_cases hab : a.length = b.length
  · rw [if_pos (by omega)]
    exact hl a.length 0 k (by omega) hab hk (fun j hj => absurd hj (Nat.not_lt_zero _))
  · rw [if_neg (by omega), decide_eq_false (fun e => hab (by rw [e]))]
/-- Decode behind Encode. -/
theorem decN_listB {ws : List (List Int)} (h : Good ws) : decN (listB (listN (graphOf ws))) = (ws, 0) := by
  obtain ⟨Q, _, hI, hq, hw⟩ := graph_spec h
  obtain ⟨g1, g2, g3, g4, g5⟩ := graph_list h
  have hg := getsI_listB g5 (by omega) []
  rw [List.append_nil] at hg
  have hr := readN_listN _ g1 g2 g3
  obtain ⟨hwb, _⟩ := words_back hI g1 (by rw [hw]; exact h.short) (by rw [hw]; exact h.few)
  rw [hw] at hwb
  unfold decN
  rw [hg]
  dsimp only
  rw [hr]
  dsimp only
  rw [wordsN_strip, hwb]
  dsimp only
  rw [if_neg (by simp), if_neg (by simp), if_neg (by simp), good_check h, if_neg (by simp), if_neg (by simp)]
end Go.Proofs.Ytcdjeimjbbknjaa.PAll
namespace Go.Proofs.Ytcdjeimjbbknjaa.PAll
open Go.RowKit Go.Proofs.YtcdjeimjbbknjaaW.PrintWords Go.Proofs.YtcdjeimjbbknjaaW.PrintLast Go.Proofs.YtcdjeimjbbknjaaW.PrintMore
set_option linter.unusedVariables false
set_option linter.unusedSimpArgs false

/-! ### Literals -/
theorem cb_block {α : Type} {d : Kd α} {W : World} {b : Nat} {cs : List Value} {e : Nat} {xs : List α} (h : W.heap[b]? = some (.cells cs.toArray e (0, 0))) (hr : Reps (d.K W) d.sz xs cs) (hn : xs.length ≤ 9223372036854775807) : d.C W (some ⟨b, 0, none⟩) xs.length xs := by
  refine ⟨rfl, hn, fun _ => ⟨_, rfl, fun j p hp => ⟨(cs.drop (j * d.sz)).take d.sz, ?_, hr.2 j p hp, fun i u hu => ?_⟩⟩⟩
  · obtain ⟨hj, _⟩ := List.getElem?_eq_some_iff.1 hp
    have h1 := hr.1
    rw [List.length_take, List.length_drop, h1]
    have := Nat.mul_le_mul_right d.sz (show j + 1 ≤ xs.length from hj)
    rw [Nat.add_mul, Nat.one_mul] at this
    omega
  · rw [add_at, Nat.zero_add, blk_cell h]
    have hi : i < d.sz := by
      have := (List.getElem?_eq_some_iff.1 hu).1
      rw [List.length_take] at this
      omega
    rw [List.getElem?_take_of_lt hi, List.getElem?_drop] at hu
    simpa using hu
theorem cb_ints {W : World} {b : Nat} {xs : List Int} (h : W.heap[b]? = some (.cells (encs (Value.int .i64) xs).toArray 3 (0, 0))) (hn : xs.length ≤ 9223372036854775807) : Kd.C (Kd.int .i64) W (some ⟨b, 0, none⟩) xs.length xs := cb_block h (Kd.reps_scalar xs) hn
theorem cb_new (W : World) (xs : List Int) (hn : xs.length ≤ 9223372036854775807) : Kd.C (Kd.int .i64) (W.alloc (.cells (encs (Value.int .i64) xs).toArray 3)) (some ⟨W.heap.size, 0, none⟩) xs.length xs := cb_ints (blk_new _ _) hn
theorem drop_cons' {α : Type} {l : List α} {i : Nat} (h : i < l.length) : l.drop i = l[i] :: l.drop (i + 1) := List.drop_eq_getElem_cons h
theorem prs_step {f1 f2 : List Int} {j : Nat} (he : f1.length = f2.length) (h : j < f1.length) : prsN (f1.drop j) (f2.drop j) = rd f1 (j : Int) :: rd f2 (j : Int) :: prsN (f1.drop (j + 1)) (f2.drop (j + 1)) := by
  rw [rd_drop h, rd_drop (show j < f2.length by omega), prsN]
theorem body_step {ns : List Nd} {i : Nat} (h : i < ns.length) : bodyN (ns.drop i) = (2 * ((rdN ns (i : Int)).f1.length : Int) + (if (rdN ns (i : Int)).f0 = true then 1 else 0)) :: (prsN (rdN ns (i : Int)).f1 (rdN ns (i : Int)).f2 ++ bodyN (ns.drop (i + 1))) := by
  rw [drop_cons' h, rdN_at h]; rfl
set_option maxHeartbeats 4000000 in
set_option maxRecDepth 100000 in
theorem list_any (g : Nat) (ns : List Nd) (w : World) (hg : GraphAt w g ns) (he : ∀ x ∈ ns, x.f1.length = x.f2.length) (hlen : (listN ns).length ≤ 1000000000) :
    Calls Try.prog 78 #[.pointer (some ⟨g, 0, none⟩)] w fun e w' => ∃ v, e = .returned v ∧ Kd.R (Kd.int .i64) 3 w' w.heap.size (fun _ => True) v (listN ns) ∧ Below w.heap.size w w' := by
  obtain ⟨A, c, hcell, hcc, hC⟩ := hg.cell
  have HG := Aside0.mk hg
  have HE := Aside0.mk he
  have HC := Aside0.mk hC
  have hmax := Kd.C_max hC
  have HL : Aside0 ([(ns.length : Int)] ++ bodyN (ns.drop 0) = listN ns) := ⟨rfl⟩
  have HT : Aside0 ((listN ns).length ≤ 1000000000) := ⟨hlen⟩
  have hnl : ns.length ≤ 1000000000 := by
    have : ∀ m : List Nd, m.length ≤ (bodyN m).length := by
      intro m
      induction m with
      | nil => exact Nat.zero_le _
      | cons x m ih =>
        rw [show bodyN (x :: m) = recN x ++ bodyN m from rfl, List.length_append, List.length_cons]
        have : 1 ≤ (recN x).length := by unfold recN; simp
        omega
    have := this ns
    simp only [listN, List.length_cons] at hlen
    omega
  generalize listN ns = T at *
  clear hg he hC hlen
  go_enter Try.func78, Try.ntmps78
  go_wp2_with ((with_reducible refine gate_dst (N := 14) rfl ?_); refine Kd.R_lit (Kd.int .i64) w.heap.size 3 ?hg (N := 14) ?hd (xs := ([(ns.length : Int)] : List Int)) (inner := [.int .i64 (ns.length : Int)]) (ok := fun _ => True) (okp := fun _ => True) ?hr ?hp (fun _ hk => hk) trivial (Below.refl _ _) (Nat.le_refl _) (by simp) ?_; (case hd => rfl); (case hg => rfl); (case hr => first | (go_simp; done) | (go_simp; rfl)); (case hp => exact (Reps.one (show Kd.M (Kd.int .i64) _ _ _ (ns.length : Int) [.int .i64 (ns.length : Int)] from rfl) (Reps.none _ _))); intro v1 w1 HO1 HB1 HG1 hne1; have hcell1 := pw_cell_below HB1 hcell; have HO1 := Aside0.mk HO1; have HB1 := Aside0.mk HB1; clear HG1 hne1 hcell)
  go_loopw [3, 20] (fun s3 s20 wr => ∃ (i : Nat) (acc : List Int), s20 = .int .i64 (i : Int) ∧ Aside0 (i ≤ ns.length ∧ acc ++ bodyN (ns.drop i) = T ∧ Kd.R (Kd.int .i64) 3 wr w.heap.size (fun _ => True) s3 acc ∧ Below w.heap.size w wr)) (fun _ s20 _ => ns.length - (intOf s20).toNat)
  case atStart => exact ⟨0, [(ns.length : Int)], rfl, ⟨Nat.zero_le _, HL.out, HO1.out, HB1.out⟩⟩
  case round =>
    obtain ⟨i, acc, rfl, hJ⟩ := hrel
    obtain ⟨hi, hacc, hR, hB⟩ := hJ.out
    obtain ⟨Av, cv, rfl⟩ := Kd.R_slice hR
    have HR := Aside0.mk hR
    have HB := Aside0.mk hB
    clear hJ hR hB hcell1
    by_cases hin : i < ns.length
    · obtain ⟨ad, A1, c1, A2, c2, rfl, x0, x1, x2, x3, l1, g1, l2, g2⟩ := at_T102 HC.out (i : Int) (by omega) (by omega)
      have hev := HE.out _ (rdN_mem' (show (0 : Int) ≤ (i : Int) by omega) (show (i : Int) < (ns.length : Int) by omega))
      rw [body_step hin] at hacc
      rw [show rd_T102 ns (i : Int) = rdN ns (i : Int) from rfl] at x0 x1 x2 x3 l1 g1 l2 g2
      generalize rdN ns (i : Int) = nd at *
      obtain ⟨f0, f1, f2, f3⟩ := nd
      dsimp only at x0 x1 x2 x3 l1 g1 l2 g2 hev hacc
      have y0 := pw_cell_below HB.out x0
      have y1 := pw_cell_below HB.out x1
      have y2 := pw_cell_below HB.out x2
      have y3 := pw_cell_below HB.out x3
      rw [Int.toNat_natCast] at y0 y1 y2 y3
      have G1 := Aside0.mk g1
      have G2 := Aside0.mk g2
      have HEv := Aside0.mk hev
      have hT := HT.out
      have hTl := congrArg List.length hacc
      simp only [List.length_append, List.length_cons, prsN_length f1 f2 hev] at hTl
      have hf1 : f1.length ≤ 1000000000 := by omega
      have hal : acc.length + 2 * f1.length + 1 ≤ 1000000000 := by omega
      have p1 : IntKind.i64.wrap (2 * (f1.length : Int)) = 2 * (f1.length : Int) := wrap_in (by omega) (by omega)
      have p2 : IntKind.i64.wrap (2 * (f1.length : Int) + 1) = 2 * (f1.length : Int) + 1 := wrap_in (by omega) (by omega)
      obtain ⟨hd, hhd⟩ : ∃ hd, hd = 2 * (f1.length : Int) + (if f0 = true then 1 else 0) := ⟨_, rfl⟩
      rw [← hhd] at hacc
      have HA := Aside0.mk hacc
      have HHd := Aside0.mk hhd
      clear hacc hhd x0 x1 x2 x3 g1 g2 hev hT hTl
      go_upto_if 29 with fail
      go_cut [6] from 21 to 54 (fun s6 wx => s6 = .int .i64 hd ∧ wx = wr.alloc (.cells #[.bool f0, .slice A1 f1.length c1, .slice A2 f2.length c2, .int .i64 f3] 102))
      case first =>
        cases f0 with
        | true =>
          go_wp2
          go_meet
          exact ⟨by rw [HHd.out]; simp, rfl⟩
        | false =>
          go_wp2
          go_meet
          exact ⟨by rw [HHd.out]; simp, rfl⟩
      case rest =>
        obtain ⟨rfl, rfl⟩ := hcut
        have hrk : Kd.R (Kd.int .i64) 3 wr w.heap.size (fun k => k ≠ wr.heap.size) (.slice Av acc.length cv) acc := Kd.R_mono (Kd.R_bound HR.out) fun k hk => by omega
        have HRk := Aside0.mk (Kd.R_alloc hrk (.cells #[.bool f0, .slice A1 f1.length c1, .slice A2 f2.length c2, .int .i64 f3] 102))
        have hbx := blk_new wr (.cells #[.bool f0, .slice A1 f1.length c1, .slice A2 f2.length c2, .int .i64 f3] 102)
        have hba := below_alloc HB.out (.cells #[.bool f0, .slice A1 f1.length c1, .slice A2 f2.length c2, .int .i64 f3] 102)
        have HSz := HB.out.size
        obtain ⟨wb, hwb⟩ : ∃ wb, wb = wr.alloc (.cells #[.bool f0, .slice A1 f1.length c1, .slice A2 f2.length c2, .int .i64 f3] 102) := ⟨_, rfl⟩
        have hszb : wb.heap.size = wr.heap.size + 1 := by rw [hwb]; simp
        rw [← hwb] at HRk hbx hba ⊢
        have HBa := Aside0.mk hba
        have HBx := Aside0.mk hbx
        have HSzb := Aside0.mk hszb
        clear hwb hba hrk hbx y0 y1 y2 y3 p1 p2 hszb HSz
        generalize wr.heap.size = B at *
        go_wp2_with (at_builtin; refine Kd.R_append (Kd.int .i64) (w0 := w) (W := wb) w.heap.size rfl (.tmp 32) (.tmp 34) 22 3 (.int .i64 0) 8 rfl Try.underlying22 info3 rfl (by decide) (by omega) (.slice Av acc.length cv) acc hd [.int .i64 hd] (fun k => k ≠ B) (fun _ => False) rfl rfl rfl (fun _ h => h.elim) (fun k hk => show k ≠ B by have := HSzb.out; omega) HRk.out HBa.out HBa.out.size (by omega) ?_; intro v2 w2 HO2 HB2 HG2 _; have hbx2 := (HG2.block _ (by have := HSzb.out; omega) (fun e => (HRk.out).1 _ e.symm rfl)).trans HBx.out; have HO2 := Aside0.mk HO2; have HB2 := Aside0.mk HB2; have HBx2 := Aside0.mk hbx2; have z1 : w2.cell? ⟨B, 1, none⟩ = some (.slice A1 f1.length c1) := (blk_cell hbx2 1).trans rfl; clear HG2 hbx2)
        clear z1
        go_loopw [3, 39] (fun s3 s39 wx => ∃ (j : Nat) (acc2 : List Int), s39 = .int .i64 (j : Int) ∧ Aside0 (j ≤ f1.length ∧ acc2 ++ (prsN (f1.drop j) (f2.drop j) ++ bodyN (ns.drop (i + 1))) = T ∧ acc2.length ≤ acc.length + 1 + 2 * j ∧ Kd.R (Kd.int .i64) 3 wx w.heap.size (fun k => k ≠ B) s3 acc2 ∧ Below w.heap.size w wx ∧ B < wx.heap.size ∧ wx.heap[B]? = some (.cells #[.bool f0, .slice A1 f1.length c1, .slice A2 f2.length c2, .int .i64 f3] 102 (0, 0)))) (fun _ s39 _ => f1.length - (intOf s39).toNat)
        case atStart => exact ⟨0, acc ++ [hd], rfl, ⟨Nat.zero_le _, by rw [List.append_assoc, List.drop_zero, List.drop_zero]; exact HA.out, by simp, HO2.out, HB2.out, blk_lt HBx2.out, HBx2.out⟩⟩
        case round =>
          obtain ⟨j, acc2, rfl, hJ⟩ := hrel
          obtain ⟨hj, hacc2, hl2, hR2, hB2, hsz2, hbx2⟩ := hJ.out
          obtain ⟨Av2, cv2, rfl⟩ := Kd.R_slice hR2
          have HR2 := Aside0.mk hR2
          have HB2 := Aside0.mk hB2
          have HBx2 := Aside0.mk hbx2
          have HSz2 := Aside0.mk hsz2
          have HL2 := Aside0.mk hl2
          clear hJ hR2 hB2 hl2 hsz2
          by_cases hjl : j < f1.length
          · rw [prs_step HEv.out hjl] at hacc2
            have hj2 : j < f2.length := by have := HEv.out; omega
            obtain ⟨ad1, rfl, q1⟩ := Kd.at_int (Kd.C_below G1.out HB2.out) (j : Int) (by omega) (by omega)
            obtain ⟨ad2, rfl, q2⟩ := Kd.at_int (Kd.C_below G2.out HB2.out) (j : Int) (by omega) (by omega)
            rw [Int.toNat_natCast] at q1 q2
            generalize rd f1 (j : Int) = s at *
            generalize rd f2 (j : Int) = t at *
            have HA2 := Aside0.mk hacc2
            have z2 : wr.cell? ⟨B, 2, none⟩ = some (.slice (some ad2) f2.length c2) := (blk_cell hbx2 2).trans rfl
            have hj3 : (j : Int) < (f2.length : Int) := by omega
            clear hacc2 hbx2
            go_wp2_with (at_builtin; refine Kd.R_append_rows (Kd.int .i64) (w0 := w) (W := wr.alloc (.cells #[.int .i64 s, .int .i64 t] 3)) w.heap.size rfl (.tmp 44) (.tmp 51) 22 3 (.int .i64 0) 8 rfl Try.underlying22 info3 rfl (by decide) (by omega) (.slice Av2 acc2.length cv2) acc2 [s, t] (some ⟨wr.heap.size, 0, none⟩) 2 2 (fun k => k ≠ B) (fun _ => False) rfl rfl (Kd.R_alloc HR2.out _) (cb_new wr [s, t] (by simp)) (fun _ _ h => h) (fun _ h => h.elim) (fun k hk => show k ≠ B by have := HSz2.out; have hk' : (wr.alloc (.cells #[.int .i64 s, .int .i64 t] 3)).heap.size ≤ k := hk; simp at hk'; omega) (below_alloc HB2.out _) (by have := HB2.out.size; simp; omega) (by have := HL2.out; omega) ?_; intro v4 w4 HO4 HB4 HG4 _; have hbx4 := (HG4.block _ (by have := HSz2.out; simp; omega) (fun e => (HR2.out).1 _ e.symm rfl)).trans (blk_alloc HBx2.out _); have HO4 := Aside0.mk HO4; have HB4 := Aside0.mk HB4; have HBx4 := Aside0.mk hbx4; clear HG4 hbx4)
            go_roundw
            case rel => exact ⟨j + 1, acc2 ++ [s, t], by go_num, ⟨by omega, by rw [List.append_assoc]; exact HA2.out, by have := HL2.out; simp; omega, HO4.out, HB4.out, blk_lt HBx4.out, HBx4.out⟩⟩
            case measure => simp [intOf]; omega
          · obtain rfl : j = f1.length := by omega
            have HA2 : Aside0 (acc2 ++ bodyN (ns.drop (i + 1)) = T) := ⟨by rw [← hacc2, List.drop_length]; simp [prsN]⟩
            clear hacc2 hbx2
            go_wp2
            go_roundw
            case rel => exact ⟨i + 1, acc2, by go_num, ⟨by omega, HA2.out, Kd.R_mono HR2.out fun _ _ => trivial, HB2.out⟩⟩
            case measure => simp [intOf]; omega
    · obtain rfl : i = ns.length := by omega
      have HA : Aside0 (acc = T) := ⟨by rw [← hacc, List.drop_length]; simp [bodyN]⟩
      clear hacc
      go_wp2
      go_ret
      exact ⟨_, rfl, by rw [← HA.out]; exact HR.out, HB.out⟩
end Go.Proofs.Ytcdjeimjbbknjaa.PAll
namespace Go.Proofs.Ytcdjeimjbbknjaa.PAll
open Go.RowKit Go.Proofs.YtcdjeimjbbknjaaW.PrintWords Go.Proofs.YtcdjeimjbbknjaaW.PrintLast Go.Proofs.YtcdjeimjbbknjaaW.PrintMore
set_option linter.unusedVariables false
set_option linter.unusedSimpArgs false

theorem cutB_drop (A : Option Addr) (c : Nat) (xs : List Int) (m : Nat) (hm : m ≤ xs.length) (hc : xs.length ≤ c) :
    ∃ A' : Option Addr, (∀ W : World, (Instr.slice 55 (.slice A xs.length c) (some (.int .i64 (m : Int))) none none).run Try.prog W = .ok (.slice A' (xs.length - m) (c - m)) W) ∧ (∀ w : World, Kd.C (Kd.int .u8) w A xs.length xs → Kd.C (Kd.int .u8) w A' (xs.length - m) (xs.drop m)) ∧ xs.length - m ≤ c - m := by
  obtain ⟨i0, hi, _, hsz, _⟩ := info_parts info5
  have hrun := cut_from (P := Try.prog) 55 5 .i64 Try.underlying55 hi 1 hsz A xs.length c (m : Int) (by omega) (by omega)
  refine ⟨if c = m then A else A.map (·.add (m * 1)), fun W => by have := hrun W; simpa using this, fun w h => ?_, by omega⟩
  have h2 := Kd.C_drop h hm hc
  rwa [show (xs.drop m).length = xs.length - m from by rw [List.length_drop]] at h2
theorem reader_boxes (A : Option Addr) (n c : Nat) (at_ : Int) (w W : World) (h : W = (w.alloc (.cells #[.slice A n c] 55)).alloc (.cells #[.int .i64 at_] 3)) :
    W.heap[w.heap.size]? = some (.cells #[.slice A n c] 55 (0, 0)) ∧ W.heap[w.heap.size + 1]? = some (.cells #[.int .i64 at_] 3 (0, 0)) ∧ Below w.heap.size w W ∧ W.heap.size = w.heap.size + 2 := by
  subst h
  have s1 : (w.alloc (.cells #[.slice A n c] 55)).heap.size = w.heap.size + 1 := by simp
  refine ⟨blk_alloc (blk_new _ _) _, ?_, below_alloc (below_alloc (Below.refl _ w) _) _ |>.mono (by simp), by simp⟩
  rw [← s1]; exact blk_new _ _
theorem reader_any (A : Option Addr) (n c : Nat) (at_ : Int) (w : World) :
    Calls Try.prog 112 #[.slice A n c, .int .i64 at_] w fun e w' => e = .returned (.func (.func 127) #[] #[.pointer (some ⟨w.heap.size, 0, none⟩), .pointer (some ⟨w.heap.size + 1, 0, none⟩)]) ∧ w' = (w.alloc (.cells #[.slice A n c] 55)).alloc (.cells #[.int .i64 at_] 3) := by
  go_enter Try.func112, Try.ntmps112
  go_wp2
  go_ret
  exact ⟨rfl, rfl⟩
set_option maxHeartbeats 4000000 in
set_option maxRecDepth 100000 in
theorem next_any (A : Option Addr) (c : Nat) (b : List Int) (at_ : Nat) (w : World) (B1 B2 : Nat) (hat : at_ ≤ b.length) (hc : b.length ≤ c) (hb : byt b) (hlen : b.length ≤ 1000000000000) (hr : Kd.C (Kd.int .u8) w A b.length b) (h1 : w.heap[B1]? = some (.cells #[.slice A b.length c] 55 (0, 0))) (h2 : w.heap[B2]? = some (.cells #[.int .i64 (at_ : Int)] 3 (0, 0))) :
    Calls Try.prog 127 #[.pointer (some ⟨B1, 0, none⟩), .pointer (some ⟨B2, 0, none⟩)] w fun e w' => e = .returned (.tuple #[.int .i64 (getI (b.drop at_)).1, .int .i64 ((at_ : Int) + (getI (b.drop at_)).2.1), .int .i64 (getI (b.drop at_)).2.2]) ∧
      ∃ k, w' = (w.setCell ⟨B2, 0, none⟩ (.int .i64 ((at_ : Int) + (getI (b.drop at_)).2.1))).drewN k := by
  obtain ⟨A', hcut, hC, hl⟩ := cutB_drop A c b at_ hat hc
  have hmx := Kd.C_max hr
  have hd : (b.drop at_).length = b.length - at_ := List.length_drop
  have hg := getInt_any A' (c - at_) (b.drop at_) w (by rw [hd]; exact hC w hr) (by rw [hd]; exact hl) (byt_drop hb at_)
  rw [hd] at hg
  have HG := Aside0.mk hg
  obtain ⟨q1, q2, q3, q4, q5⟩ := getI_i64 (byt_drop hb at_)
  generalize getI (b.drop at_) = q at *
  obtain ⟨n, u, e⟩ := q
  dsimp only at q1 q2 q3 q4 q5 HG ⊢
  have c1 : w.cell? ⟨B1, 0, none⟩ = some (.slice A b.length c) := (blk_cell h1 0).trans rfl
  have c2 : w.cell? ⟨B2, 0, none⟩ = some (.int .i64 (at_ : Int)) := (blk_cell h2 0).trans rfl
  have c3 : w.frozen? ⟨B2, 0, none⟩ = false := by simp [World.frozen?, h2]
  have w1 : IntKind.i64.wrap ((at_ : Int) + u) = (at_ : Int) + u := wrap_in (by omega) (by omega)
  have c4 : (w.setCell ⟨B2, 0, none⟩ (.int .i64 ((at_ : Int) + u))).cell? ⟨B2, 0, none⟩ = some (.int .i64 ((at_ : Int) + u)) := World.cell?_setCell_same _ _ _ c2
  clear hr h1 h2 hC hg hd q1
  go_enter Try.func127, Try.ntmps127
  go_wp2_with (go_at_call 126; refine HG.out.mono ?_; rintro e w' ⟨rfl, rfl⟩)
  go_quiet (fail)
  go_wp2
  go_ret3
  exact ⟨rfl, _, rfl⟩
theorem next_state {w0 wr W : World} {B k : Nat} {x y : Int} {A : Option Addr} {n c : Nat} {v : Value} {out : List Int} (h : W = (wr.setCell ⟨B + 1, 0, none⟩ (.int .i64 y)).drewN k) (hR : Kd.R (Kd.int .i64) 3 wr w0.heap.size (fun k => k ≠ B ∧ k ≠ B + 1) v out) (hB : Below w0.heap.size w0 wr) (hb : w0.heap.size ≤ B) (hsz : B + 1 < wr.heap.size)
    (h1 : wr.heap[B]? = some (.cells #[.slice A n c] 55 (0, 0))) (h2 : wr.heap[B + 1]? = some (.cells #[.int .i64 x] 3 (0, 0))) :
    Kd.R (Kd.int .i64) 3 W w0.heap.size (fun k => k ≠ B ∧ k ≠ B + 1) v out ∧ Below w0.heap.size w0 W ∧ B + 1 < W.heap.size ∧ W.heap[B]? = some (.cells #[.slice A n c] 55 (0, 0)) ∧ W.heap[B + 1]? = some (.cells #[.int .i64 y] 3 (0, 0)) := by
  subst h
  refine ⟨Kd.R_drewN (Kd.R_far hR (fun k hk => hk.2) _) k, pw_below_drewN (hB.setCell (by simp; omega) _) _, by simpa using hsz, ?_, ?_⟩
  · have := heap_setCell_other wr ⟨B + 1, 0, none⟩ B (.int .i64 y) (show B ≠ B + 1 by omega)
    simpa using this.trans h1
  · have := heap_setCell_same wr (B + 1) 0 _ _ (.int .i64 y) h2
    simpa using this
def GsPost (w : World) (q : List Int × Int × Int) (e : Ending) (w' : World) : Prop := ∃ v, e = .returned (.tuple #[v, .int .i64 q.2.1, .int .i64 q.2.2]) ∧ Kd.R (Kd.int .i64) 3 w' w.heap.size (fun _ => True) v q.1 ∧ Below w.heap.size w w'
set_option maxHeartbeats 4000000 in
set_option maxRecDepth 100000 in
theorem getInts_any (A : Option Addr) (c : Nat) (b : List Int) (w : World) (hr : Kd.C (Kd.int .u8) w A b.length b) (hc : b.length ≤ c) (hb : byt b) (hlen : b.length ≤ 1000000000000) :
    Calls Try.prog 79 #[.slice A b.length c] w (GsPost w (getsI b)) := by
  have HCn := Aside0.mk (count_any A c b w hr hc hb)
  have HR := Aside0.mk hr
  have HQ : Aside0 (getsI b = if (cntI b).2.2 ≠ 0 then ([], 0, (cntI b).2.2) else getsN b (cntI b).1.toNat (cntI b).2.1.toNat []) := ⟨rfl⟩
  have hck : (cntI b).2.2 = 0 → 0 ≤ (cntI b).1 ∧ (cntI b).1 ≤ (b.length : Int) ∧ 1 ≤ (cntI b).2.1 ∧ (cntI b).2.1 ≤ (b.length : Int) := fun h => by
    obtain ⟨c1, c2, c3, c4⟩ := cntI_ok h
    obtain ⟨k1, k2, _⟩ := getI_ok (n := (getI b).1) (k := (getI b).2.1) hb (by rw [← c2])
    rw [c1]; omega
  generalize getsI b = Q at *
  generalize cntI b = q at *
  obtain ⟨n, at0, e⟩ := q
  dsimp only at hck HQ
  have HBt := Aside0.mk hb
  clear hr hb
  by_cases he : e = 0
  · subst he
    obtain ⟨n0, n1, a0, a1⟩ := hck rfl
    clear hck
    obtain ⟨N, rfl⟩ := Int.eq_ofNat_of_zero_le n0
    obtain ⟨at_, rfl⟩ := Int.eq_ofNat_of_zero_le (show 0 ≤ at0 by omega)
    have HQ1 : Aside0 (getsN b N at_ [] = Q) := ⟨by rw [HQ.out, if_neg (by simp)]; rfl⟩
    clear HQ
    go_enter Try.func79, Try.ntmps79
    go_wp2_with (first | (go_at_call 111; refine HCn.out.mono ?_; rintro e wq ⟨rfl, hq⟩; obtain rfl := hq.symm) | (go_at_call 112; refine (reader_any _ _ _ _ _).mono ?_; rintro e w1 ⟨rfl, hw1⟩; have HBox := Aside0.mk (reader_boxes _ _ _ _ _ _ hw1); clear hw1))
    obtain ⟨B1, hB1⟩ : ∃ B1, B1 = w.heap.size := ⟨_, rfl⟩
    have HB1 := Aside0.mk hB1
    go_loopw [6, 9, 26] (fun s6 s9 s26 wr => ∃ (i a : Nat) (out : List Int), s6 = .int .i64 (a : Int) ∧ s26 = .int .i64 (i : Int) ∧ Aside0 (i ≤ N ∧ a ≤ b.length ∧ out.length ≤ i ∧ getsN b (N - i) a out = Q ∧ Kd.R (Kd.int .i64) 3 wr w.heap.size (fun k => k ≠ w.heap.size ∧ k ≠ w.heap.size + 1) s9 out ∧ Below w.heap.size w wr ∧ w.heap.size + 1 < wr.heap.size ∧ wr.heap[w.heap.size]? = some (.cells #[.slice A b.length c] 55 (0, 0)) ∧ wr.heap[w.heap.size + 1]? = some (.cells #[.int .i64 (a : Int)] 3 (0, 0)))) (fun _ _ s26 _ => N - (intOf s26).toNat)
    case atStart => exact ⟨0, at_, [], rfl, rfl, ⟨Nat.zero_le _, by omega, by simp, HQ1.out, Kd.R_nil _ _ _ _ _, HBox.out.2.2.1, by have := HBox.out.2.2.2; omega, HBox.out.1, HBox.out.2.1⟩⟩
    case round =>
      obtain ⟨i, a, out, rfl, rfl, hJ⟩ := hrel
      obtain ⟨hi, ha, hol, hgs, hRo, hB, hsz, hx1, hx2⟩ := hJ.out
      obtain ⟨Av, cv, rfl⟩ := Kd.R_slice hRo
      have HRo := Aside0.mk hRo
      have HB := Aside0.mk hB
      have HSz := Aside0.mk hsz
      by_cases hin : i < N
      · rw [show N - i = (N - (i + 1)) + 1 from by omega, getsN] at hgs
        have HN := Aside0.mk (next_any A c b a wr w.heap.size (w.heap.size + 1) ha hc HBt.out hlen (Kd.C_below HR.out hB) hx1 hx2)
        have hgi := getI_i64 (byt_drop HBt.out a)
        have hgo : (getI (b.drop a)).2.2 = 0 → (a : Int) + (getI (b.drop a)).2.1 ≤ (b.length : Int) := fun h => by
          obtain ⟨k1, k2, _⟩ := getI_ok (n := (getI (b.drop a)).1) (k := (getI (b.drop a)).2.1) (byt_drop HBt.out a) (by rw [← h])
          rw [List.length_drop] at k2; omega
        have HX1 := Aside0.mk hx1
        have HX2 := Aside0.mk hx2
        generalize getI (b.drop a) = q at *
        obtain ⟨x, u, e⟩ := q
        dsimp only at hgs HN hgi hgo
        obtain ⟨hxi, hu0, hu9, he0, he3⟩ := hgi
        obtain ⟨U, rfl⟩ := Int.eq_ofNat_of_zero_le hu0
        have hol8 : (out.length + 1) * 8 ≤ 140737488355328 := by omega
        clear hJ hRo hB hsz hx1 hx2 hxi
        by_cases he : e = 0
        · subst he
          have hgo := hgo rfl
          rw [if_neg (by simp), Int.toNat_natCast] at hgs
          have HGs := Aside0.mk hgs
          clear hgs
          go_wp2_with (first | (go_at_call 127; refine HN.out.mono ?_; rintro e w2 ⟨rfl, ⟨kq, hw2⟩⟩; have HW2 := Aside0.mk (next_state hw2 HRo.out HB.out (Nat.le_refl _) HSz.out HX1.out HX2.out); clear hw2) | (at_builtin; refine Kd.R_append (Kd.int .i64) (w0 := w) (W := w2) w.heap.size rfl (.tmp 37) (.tmp 39) 22 3 (.int .i64 0) 8 rfl Try.underlying22 info3 rfl (by decide) (by omega) (.slice Av out.length cv) out x [.int .i64 x] (fun k => k ≠ w.heap.size ∧ k ≠ w.heap.size + 1) (fun _ => False) rfl rfl rfl (fun _ h => h.elim) (fun k hk => show k ≠ w.heap.size ∧ k ≠ w.heap.size + 1 by have := HW2.out.2.2.1; omega) HW2.out.1 HW2.out.2.1 HW2.out.2.1.size hol8 ?_; intro v3 w3 HO3 HB3 HG3 _; have hx13 := (HG3.block _ (by have := HW2.out.2.2.1; omega) (fun e => (HW2.out.1.1 _ e.symm).1 rfl)).trans HW2.out.2.2.2.1; have hx23 := (HG3.block _ (by have := HW2.out.2.2.1; omega) (fun e => (HW2.out.1.1 _ e.symm).2 rfl)).trans HW2.out.2.2.2.2; have HO3 := Aside0.mk HO3; have HB3 := Aside0.mk HB3; have HX13 := Aside0.mk hx13; have HX23 := Aside0.mk hx23; clear HG3 hx13 hx23))
          go_roundw
          case rel => exact ⟨i + 1, a + U, out ++ [x], by go_num, by go_num, ⟨by omega, by omega, by simp; omega, HGs.out, HO3.out, HB3.out, blk_lt HX23.out, HX13.out, by rw [HX23.out]; simp⟩⟩
          case measure => simp [intOf]; omega
        · rw [if_pos he] at hgs
          have HGs := Aside0.mk hgs
          have he1 : (e == 0) = false := beq_eq_false_iff_ne.2 he
          have he2 : (e != 0) = true := bne_iff_ne.2 he
          clear hgs he hgo
          go_wp2_with (go_at_call 127; refine HN.out.mono ?_; rintro e w2 ⟨rfl, ⟨kq, hw2⟩⟩; have HW2 := Aside0.mk hw2; clear hw2)
          go_ret3
          exact ⟨.slice none 0 0, by rw [← HGs.out]; rfl, by rw [← HGs.out]; exact Kd.R_nil _ _ _ _ _, by rw [HW2.out]; exact pw_below_drewN (HB.out.setCell (by simp) _) _⟩
      · obtain rfl : i = N := by omega
        rw [Nat.sub_self, getsN] at hgs
        have HGs := Aside0.mk hgs
        clear hgs hJ hRo hB hsz hx1 hx2
        go_wp2
        go_ret3
        exact ⟨_, by rw [← HGs.out]; rfl, by rw [← HGs.out]; exact Kd.R_mono HRo.out fun _ _ => trivial, HB.out⟩
  · have HQ1 : Aside0 (([], 0, e) = Q) := ⟨by rw [HQ.out, if_pos he]⟩
    have he1 : (e == 0) = false := beq_eq_false_iff_ne.2 he
    have he2 : (e != 0) = true := bne_iff_ne.2 he
    clear he hck HQ
    go_enter Try.func79, Try.ntmps79
    go_wp2_with (go_at_call 111; refine HCn.out.mono ?_; rintro e w' ⟨rfl, rfl⟩)
    go_ret3
    exact ⟨.slice none 0 0, by rw [← HQ1.out]; rfl, by rw [← HQ1.out]; exact Kd.R_nil _ _ _ _ _, Below.refl _ _⟩
end Go.Proofs.Ytcdjeimjbbknjaa.PAll
namespace Go.Proofs.Ytcdjeimjbbknjaa.PAll
open Go.RowKit Go.Proofs.YtcdjeimjbbknjaaW.PrintWords Go.Proofs.YtcdjeimjbbknjaaW.PrintLast Go.Proofs.YtcdjeimjbbknjaaW.PrintMore
set_option linter.unusedVariables false
set_option linter.unusedSimpArgs false

theorem rn_start (w : World) (n : Nat) (hn : n ≤ 1000000000) :
    Rn w (w.alloc (.cells (madeCells #[.bool false, .slice none 0 0, .slice none 0 0, .int .i64 0] (n * 4)) 102)) w.heap.size n (fun _ => .slice none 0 0) (List.replicate n nd0) := by
  have hc : ∀ o, o < n * 4 → (w.alloc (.cells (madeCells #[.bool false, .slice none 0 0, .slice none 0 0, .int .i64 0] (n * 4)) 102)).cell? ⟨w.heap.size, o, none⟩ = (#[Value.bool false, .slice none 0 0, .slice none 0 0, .int .i64 0])[o % 4]? := by
    intro o ho
    have h4 : o % 4 < 4 := Nat.mod_lt _ (by omega)
    rw [blk_cell (blk_new w _) o]
    simp only [madeCells, Array.getElem?_map, Array.getElem?_range, ho, if_true, Option.map_some]
    rw [getElem!_pos _ _ (by simpa using h4)]
    simp
  have hnd : ∀ j, j < n → rdN (List.replicate n nd0) (j : Int) = nd0 := by
    intro j hj
    unfold rdN rd_T102
    rw [Int.toNat_natCast, List.getD_eq_getElem?_getD, List.getElem?_replicate, if_pos hj]; rfl
  have hrow : ∀ m, m < 2 * n → rowN (List.replicate n nd0) m = [] := by
    intro m hm
    unfold rowN
    rw [hnd (m / 2) (by omega)]
    split <;> rfl
  refine ⟨by simp, ⟨_, blk_new _ _⟩, Nat.le_refl _, fun j hj => ?_, fun m hm => ?_, fun j hj => ?_, fun m hm => ?_, ?_, below_alloc (Below.refl _ _) _⟩
  · rw [hc _ (by omega), hnd j hj, show j * 4 % 4 = 0 from by omega]; rfl
  · rw [hc _ (by omega)]
    rcases Nat.mod_two_eq_zero_or_one m with h | h
    · rw [h, show (m / 2 * 4 + (1 + 0)) % 4 = 1 from by omega]; rfl
    · rw [h, show (m / 2 * 4 + (1 + 1)) % 4 = 2 from by omega]; rfl
  · rw [hc _ (by omega), hnd j hj, show (j * 4 + 3) % 4 = 3 from by omega]; rfl
  · rw [hrow m hm]; exact Kd.R_nil _ _ _ _ _
  · intro m m' k _ _ h; simp [Value.ownBlock] at h
theorem Rn.toC {w0 W : World} {B n : Nat} {vs : Nat → Value} {N : List Nd} (h : Rn w0 W B n vs N) (hn : n ≤ 1000000000) : Kd.C k102 W (some ⟨B, 0, none⟩) N.length N := by
  refine ⟨rfl, by rw [h.len]; omega, fun _ => ⟨_, rfl, fun j p hj => ?_⟩⟩
  obtain ⟨hl, hp⟩ := List.getElem?_eq_some_iff.1 hj
  have hjn : j < n := by rw [← h.len]; exact hl
  have hrd : rdN N (j : Int) = p := by unfold rdN rd_T102; rw [Int.toNat_natCast, List.getD_eq_getElem?_getD, hj]; rfl
  obtain ⟨A1, c1, e1, l1, g1⟩ := Kd.R_reads (h.row (2 * j) (by omega))
  obtain ⟨A2, c2, e2, l2, g2⟩ := Kd.R_reads (h.row (2 * j + 1) (by omega))
  have r1 : rowN N (2 * j) = p.f1 := by unfold rowN; rw [if_pos (by omega), show 2 * j / 2 = j from by omega, hrd]
  have r2 : rowN N (2 * j + 1) = p.f2 := by unfold rowN; rw [if_neg (by omega), show (2 * j + 1) / 2 = j from by omega, hrd]
  rw [r1] at e1 l1 g1
  rw [r2] at e2 l2 g2
  have x0 := h.c0 j hjn
  have x1 := h.cv (2 * j) (by omega)
  have x2 := h.cv (2 * j + 1) (by omega)
  have x3 := h.c3 j hjn
  rw [hrd] at x0 x3
  rw [e1, show 2 * j / 2 * 4 + (1 + 2 * j % 2) = j * 4 + 1 from by omega] at x1
  rw [e2, show (2 * j + 1) / 2 * 4 + (1 + (2 * j + 1) % 2) = j * 4 + 2 from by omega] at x2
  refine ⟨[.bool p.f0, .slice A1 p.f1.length c1, .slice A2 p.f2.length c2, .int .i64 p.f3], rfl, k102_mk W p l1 g1 l2 g2, fun i u hu => ?_⟩
  have had : ∀ o, (⟨B, 0, none⟩ : Addr).add o = ⟨B, o, none⟩ := fun o => by simp [Addr.add]; exact fun h => h.symm
  change W.cell? ((⟨B, 0, none⟩ : Addr).add (j * 4 + i)) = some u
  rw [had]
  match i, hu with
  | 0, hu => injection hu with hu; subst hu; exact x0
  | 1, hu => injection hu with hu; subst hu; exact x1
  | 2, hu => injection hu with hu; subst hu; exact x2
  | 3, hu => injection hu with hu; subst hu; exact x3
  | i + 4, hu => simp at hu
theorem make_nodes (n : Nat) (hn : n ≤ 1000000000) (W : World) : (Instr.makeSlice 99 (.int .i64 (n : Int)) (.int .i64 (n : Int))).run Try.prog W = .ok (.slice (some ⟨W.heap.size, 0, none⟩) n n) (W.alloc (.cells (madeCells #[.bool false, .slice none 0 0, .slice none 0 0, .int .i64 0] (n * 4)) 102)) := by
  obtain ⟨i, hi, hie⟩ := Option.map_eq_some_iff.1 info102
  simp only [Prod.mk.injEq] at hie
  obtain ⟨hz, hsz, hby⟩ := hie
  have h := run_make (P := Try.prog) W 99 102 i _ Try.underlying99 hi hz .i64 .i64 (n : Int) (n : Int) (by omega) (by omega) (by rw [hby]; omega) (by omega)
  rw [hsz, Int.toNat_natCast, show (Value.agg #[.bool false, .slice none 0 0, .slice none 0 0, .int .i64 0]).cells = #[.bool false, .slice none 0 0, .slice none 0 0, .int .i64 0] from rfl] at h
  simpa using h
end Go.Proofs.Ytcdjeimjbbknjaa.PAll
namespace Go.Proofs.Ytcdjeimjbbknjaa.PAll
open Go.RowKit Go.Proofs.YtcdjeimjbbknjaaW.PrintWords Go.Proofs.YtcdjeimjbbknjaaW.PrintLast Go.Proofs.YtcdjeimjbbknjaaW.PrintMore
set_option linter.unusedVariables false
set_option linter.unusedSimpArgs false

def RdPost (w : World) (q : List Nd × Bool) (e : Ending) (w' : World) : Prop :=
  ∃ A' c', e = .returned (.tuple #[.slice A' q.1.length c', .bool q.2]) ∧ q.1.length ≤ c' ∧ Kd.C k102 w' A' q.1.length q.1 ∧ Below w.heap.size w w'
theorem putR_1 (N : List Nd) (i : Nat) (x : Int) : putR N (2 * i) x = put1 N i x := by unfold putR; rw [if_pos (by omega), show 2 * i / 2 = i from by omega]
theorem putR_2 (N : List Nd) (i : Nat) (x : Int) : putR N (2 * i + 1) x = put2 N i x := by unfold putR; rw [if_neg (by omega), show (2 * i + 1) / 2 = i from by omega]
theorem rowN_1 (N : List Nd) (i : Nat) : rowN N (2 * i) = (rdN N (i : Int)).f1 := by unfold rowN; rw [if_pos (by omega), show 2 * i / 2 = i from by omega]
theorem rowN_2 (N : List Nd) (i : Nat) : rowN N (2 * i + 1) = (rdN N (i : Int)).f2 := by unfold rowN; rw [if_neg (by omega), show (2 * i + 1) / 2 = i from by omega]
def Short (N : List Nd) (n k : Nat) : Prop := ∀ m, m < 2 * n → (rowN N m).length ≤ k
theorem short0 (n : Nat) : Short (List.replicate n nd0) n 1 := by
  intro m hm
  have : rdN (List.replicate n nd0) ((m / 2 : Nat) : Int) = nd0 := by
    unfold rdN rd_T102
    rw [Int.toNat_natCast, List.getD_eq_getElem?_getD, List.getElem?_replicate, if_pos (by omega)]; rfl
  unfold rowN
  rw [this]
  split <;> simp [nd0]
theorem Short.put {N : List Nd} {n k m : Nat} (h : Short N n k) (hl : N.length = n) (hm : m < 2 * n) (x : Int) : Short (putR N m x) n (k + 1) := by
  intro j hj
  rw [putR_row N m x (by omega)]
  split
  · have := h m hm; simp; omega
  · have := h j hj; omega
theorem Short.mono {N : List Nd} {n k k' : Nat} (h : Short N n k) (hk : k ≤ k') : Short N n k' := fun m hm => Nat.le_trans (h m hm) hk
theorem Short.putF {N : List Nd} {n k i : Nat} {b : Bool} (h : Short N n k) (hi : i < N.length) : Short (putF N i b) n k := by
  intro m hm
  have : rowN (PAll.putF N i b) m = rowN N m := by
    unfold rowN PAll.putF
    rw [rdN_set _ hi]
    by_cases e : m / 2 = i
    · subst e; simp
    · simp [e]
  rw [this]; exact h m hm
theorem Rn.app1 {w0 W wA : World} {B n i : Nat} {vs : Nat → Value} {N : List Nd} {v1 : Value} (h : Rn w0 W B n vs N) (hi : i < n) {x : Int} (HO : Kd.R (Kd.int .i64) 3 wA w0.heap.size (fun _ => True) v1 ((rdN N (i : Int)).f1 ++ [x])) (HG : W.grownBy wA (vs (2 * i)).ownBlock) (hown : v1.ownBlock = (vs (2 * i)).ownBlock ∨ ∃ b, v1.ownBlock = some b ∧ W.heap.size ≤ b) :
    wA.frozen? ⟨B, i * 4 + 1, none⟩ = false ∧ wA.cell? ⟨B, i * 4 + 1, none⟩ = some (vs (2 * i)) ∧ Rn w0 (wA.setCell ⟨B, i * 4 + 1, none⟩ v1) B n (fun j => if j = 2 * i then v1 else vs j) (put1 N i x) := by
  rw [← rowN_1] at HO
  obtain ⟨⟨cs, a⟩, b, c⟩ := h.app (by omega) HO HG hown
  rw [show 2 * i / 2 * 4 + (1 + 2 * i % 2) = i * 4 + 1 from by omega] at b c
  rw [putR_1] at c
  exact ⟨by simp [World.frozen?, a], b, c⟩
theorem Rn.app2 {w0 W wA : World} {B n i : Nat} {vs : Nat → Value} {N : List Nd} {v1 : Value} (h : Rn w0 W B n vs N) (hi : i < n) {x : Int} (HO : Kd.R (Kd.int .i64) 3 wA w0.heap.size (fun _ => True) v1 ((rdN N (i : Int)).f2 ++ [x])) (HG : W.grownBy wA (vs (2 * i + 1)).ownBlock) (hown : v1.ownBlock = (vs (2 * i + 1)).ownBlock ∨ ∃ b, v1.ownBlock = some b ∧ W.heap.size ≤ b) :
    wA.frozen? ⟨B, i * 4 + 2, none⟩ = false ∧ wA.cell? ⟨B, i * 4 + 2, none⟩ = some (vs (2 * i + 1)) ∧ Rn w0 (wA.setCell ⟨B, i * 4 + 2, none⟩ v1) B n (fun j => if j = 2 * i + 1 then v1 else vs j) (put2 N i x) := by
  rw [← rowN_2] at HO
  obtain ⟨⟨cs, a⟩, b, c⟩ := h.app (by omega) HO HG hown
  rw [show (2 * i + 1) / 2 * 4 + (1 + (2 * i + 1) % 2) = i * 4 + 2 from by omega] at b c
  rw [putR_2] at c
  exact ⟨by simp [World.frozen?, a], b, c⟩
theorem Rn.cells {w0 W : World} {B n i : Nat} {vs : Nat → Value} {N : List Nd} (h : Rn w0 W B n vs N) (hi : i < n) :
    W.cell? ⟨B, i * 4 + 1, none⟩ = some (vs (2 * i)) ∧ W.cell? ⟨B, i * 4 + 2, none⟩ = some (vs (2 * i + 1)) ∧ Kd.R (Kd.int .i64) 3 W w0.heap.size (fun _ => True) (vs (2 * i)) (rdN N (i : Int)).f1 ∧ Kd.R (Kd.int .i64) 3 W w0.heap.size (fun _ => True) (vs (2 * i + 1)) (rdN N (i : Int)).f2 := by
  have a := h.cv (2 * i) (by omega)
  have b := h.cv (2 * i + 1) (by omega)
  have c := h.row (2 * i) (by omega)
  have d := h.row (2 * i + 1) (by omega)
  rw [show 2 * i / 2 * 4 + (1 + 2 * i % 2) = i * 4 + 1 from by omega] at a
  rw [show (2 * i + 1) / 2 * 4 + (1 + (2 * i + 1) % 2) = i * 4 + 2 from by omega] at b
  rw [rowN_1] at c
  rw [rowN_2] at d
  exact ⟨a, b, c, d⟩
set_option maxHeartbeats 4000000 in
set_option maxRecDepth 100000 in
theorem read_main (A0 : Option Addr) (c0 : Nat) (l : List Int) (w : World) (hr : Kd.C (Kd.int .i64) w A0 l.length l) (hc : l.length ≤ c0) (hlen : l.length ≤ 1000000000) (hi64 : ∀ x ∈ l, -9223372036854775808 ≤ x ∧ x ≤ 9223372036854775807) (n : Nat) (hn : rd l 0 = (n : Int)) (hn1 : 1 ≤ n) (hn2 : n < l.length) :
    Calls Try.prog 80 #[.slice A0 l.length c0] w (RdPost w (rdOut l n n 0 1 (List.replicate n nd0))) := by
  have hmk := make_nodes n (by omega)
  have HS := Aside0.mk (rn_start w n (by omega))
  obtain ⟨ad, rfl, hx0⟩ := Kd.at_int hr 0 (by omega) (by omega)
  rw [hn] at hx0
  have hx : w.cell? ad = some (.int .i64 (n : Int)) := by simpa [Addr.add] using hx0
  have HR := Aside0.mk hr
  have h1 : ¬ (n : Int) < 1 := by omega
  have h2 : ¬ (l.length : Int) ≤ (n : Int) := by omega
  have h3 : ¬ ((l.length : Int) = 0) := by omega
  have h4 : (0 : Int) < (l.length : Int) := by omega
  have hb3 : ((l.length : Int) == 0) = false := beq_eq_false_iff_ne.2 h3
  have HN : Aside0 (rd l 0 = (n : Int)) := ⟨hn⟩
  have HI := Aside0.mk hi64
  clear hr hn hx0 hi64
  obtain ⟨Q, hQ⟩ : ∃ Q, Q = rdOut l n n 0 1 (List.replicate n nd0) := ⟨_, rfl⟩
  rw [← hQ]
  have HQ := Aside0.mk hQ.symm
  clear hQ
  go_enter Try.func80, Try.ntmps80
  go_wp2
  have HL : Aside0 (∀ X, Below w.heap.size w X → ∀ k : Nat, k < l.length → X.cell? (ad.add k) = some (.int .i64 (rd l (k : Int)))) := ⟨fun X hb k hk => by
    obtain ⟨ad', e, h⟩ := Kd.at_int (Kd.C_below HR.out hb) (k : Int) (by omega) (by omega)
    injection e with e
    subst e
    rwa [Int.toNat_natCast] at h⟩
  clear hx hmk
  go_loopw [5, 32] (fun s5 s32 wr => ∃ (at_ i : Nat) (vs : Nat → Value) (N : List Nd), s5 = .int .i64 (at_ : Int) ∧ s32 = .int .i64 (i : Int) ∧ Aside0 (i ≤ n ∧ at_ ≤ 2000000000 ∧ Short N n at_ ∧ Rn w wr w.heap.size n vs N ∧ rdOut l n (n - i) i at_ N = Q)) (fun _ s32 _ => n - (intOf s32).toNat)
  case atStart => exact ⟨1, 0, _, _, rfl, rfl, ⟨Nat.zero_le _, by omega, short0 n, HS.out, HQ.out⟩⟩
  case round =>
    obtain ⟨at_, i, vs, N, rfl, rfl, hJ⟩ := hrel
    obtain ⟨hi, hat, hsh, hRn, hEq⟩ := hJ.out
    have HSh := Aside0.mk hsh
    clear hsh
    have HRn := Aside0.mk hRn
    clear hJ
    by_cases hin : i < n
    · rw [show n - i = (n - (i + 1)) + 1 from by omega, rdOut] at hEq
      by_cases hA : l.length ≤ at_
      · rw [if_pos (.inl hA)] at hEq
        have hA' : (l.length : Int) ≤ (at_ : Int) := by omega
        have HEq := Aside0.mk hEq
        clear hRn hEq
        go_wp2
        go_ret2
        exact ⟨none, 0, by rw [← HEq.out]; rfl, by rw [← HEq.out]; exact Nat.le_refl _, by rw [← HEq.out]; exact Kd.C_nil _ _, HRn.out.below⟩
      · have hA' : ¬ (l.length : Int) ≤ (at_ : Int) := by omega
        have x0 := HL.out wr hRn.below at_ (by omega)
        have hxr := HI.out _ (rd_mem' (by omega : at_ < l.length))
        have HLat := Aside0.mk x0
        generalize hxx : rd l (at_ : Int) = x at *
        have HXx := Aside0.mk hxx
        clear hxx
        have w1 : IntKind.i64.wrap ((l.length : Int) - (at_ : Int)) = (l.length : Int) - (at_ : Int) := wrap_in (by omega) (by omega)
        have w2 : IntKind.i64.wrap ((l.length : Int) - (at_ : Int) - 1) = (l.length : Int) - (at_ : Int) - 1 := wrap_in (by omega) (by omega)
        have hal : (at_ : Int) < (l.length : Int) := by omega
        by_cases hB : x < 0
        · rw [if_pos (.inr (.inl hB))] at hEq
          have HEq := Aside0.mk hEq
          clear hRn hEq
          go_wp2
          go_ret2
          exact ⟨none, 0, by rw [← HEq.out]; rfl, by rw [← HEq.out]; exact Nat.le_refl _, by rw [← HEq.out]; exact Kd.C_nil _ _, HRn.out.below⟩
        · obtain ⟨e, he⟩ : ∃ e : Nat, x / 2 = (e : Int) := ⟨(x / 2).toNat, by omega⟩
          obtain ⟨r, hr⟩ : ∃ r : Nat, ((l.length : Int) - (at_ : Int) - 1) / 2 = (r : Int) := ⟨(((l.length : Int) - (at_ : Int) - 1) / 2).toNat, by omega⟩
          have q1 : IntKind.i64.wrap (x.tdiv 2) = (e : Int) := (IntWalk.i64_quo x 2 ⟨by omega, by omega, by omega⟩).trans he
          have q2 : IntKind.i64.wrap (((l.length : Int) - (at_ : Int) - 1).tdiv 2) = (r : Int) := (IntWalk.i64_quo _ 2 ⟨by omega, by omega, by omega⟩).trans hr
          rw [he, hr] at hEq
          by_cases hC : (r : Int) < (e : Int)
          · rw [if_pos (.inr (.inr hC))] at hEq
            have HEq := Aside0.mk hEq
            clear hRn hEq he hr
            go_wp2
            go_ret2
            exact ⟨none, 0, by rw [← HEq.out]; rfl, by rw [← HEq.out]; exact Nat.le_refl _, by rw [← HEq.out]; exact Kd.C_nil _ _, HRn.out.below⟩
          · rw [if_neg (fun h => h.elim hA (fun h => h.elim hB hC)), Int.toNat_natCast] at hEq
            have hfit : at_ + 1 + 2 * e ≤ l.length := by omega
            rw [show decide (x % 2 = 1) = (x % 2 == 1) from rfl] at hEq
            have HEq := Aside0.mk hEq
            have y0 := hRn.c0 i hin
            have y1 := hRn.free (i * 4)
            have hii : (i : Int) < (n : Int) := by omega
            have hii2 : (i : Int).toNat = i := by omega
            have HSet := Aside0.mk (hRn.setF hin (x % 2 == 1))
            clear hRn hEq he hr w1 w2 q2 hxr
            have w4 : IntKind.i64.wrap ((at_ : Int) + 1) = (at_ : Int) + 1 := wrap_in (by omega) (by omega)
            have w5 : IntKind.i64.wrap ((e : Int) * 2) = (e : Int) * 2 := wrap_in (by omega) (by omega)
            have w6 : IntKind.i64.wrap ((at_ : Int) + 1 + (e : Int) * 2) = (at_ : Int) + 1 + (e : Int) * 2 := wrap_in (by omega) (by omega)
            go_upto_region 11 with fail
            obtain ⟨W1, hW1⟩ : ∃ W1, W1 = wr.setCell ⟨w.heap.size, i * 4, none⟩ (.bool (x % 2 == 1)) := ⟨_, rfl⟩
            rw [← hW1] at HSet ⊢
            clear hW1 y0 y1
            have x1 := HL.out W1 HSet.out.below at_ (by omega)
            rw [HXx.out] at x1
            clear x0
            have HSh1 : Aside0 (Short (putF N i (x % 2 == 1)) n (at_ + 1)) := ⟨(HSh.out.putF (by rw [HRn.out.len]; exact hin)).mono (by omega)⟩
            generalize putF N i (x % 2 == 1) = N1 at *
            go_wp2
            clear x1 q1 w4 w5 w6
            obtain ⟨Qi, hQi⟩ : ∃ Qi, Qi = rdIn l n i e (at_ + 1) N1 := ⟨_, rfl⟩
            rw [← hQi] at HEq
            have HQi := Aside0.mk hQi.symm
            clear hQi
            go_loopw [8] (fun s8 wx => ∃ (kk j : Nat) (vs2 : Nat → Value) (N2 : List Nd), s8 = .int .i64 (kk : Int) ∧ Aside0 (kk = at_ + 1 + 2 * j ∧ j ≤ e ∧ Short N2 n kk ∧ Rn w wx w.heap.size n vs2 N2 ∧ rdIn l n i (e - j) kk N2 = Qi)) (fun s8 _ => l.length - (intOf s8).toNat)
            case atStart => exact ⟨at_ + 1, 0, vs, N1, by simp, ⟨rfl, Nat.zero_le _, HSh1.out, HSet.out, HQi.out⟩⟩
            case round =>
              obtain ⟨kk, j, vs2, N2, rfl, hJ2⟩ := hrel
              obtain ⟨hkk, hj, hsh2, hRn2, hEq2⟩ := hJ2.out
              have HKk := Aside0.mk hkk
              have HSh2 := Aside0.mk hsh2
              clear hsh2
              have HR2 := Aside0.mk hRn2
              have HE2 := Aside0.mk hEq2
              clear hJ2
              by_cases hjl : j < e
              · have hkl : kk + 1 < l.length := by omega
                rw [show e - j = (e - (j + 1)) + 1 from by omega, rdIn] at hEq2
                have z0 := HL.out wr hRn2.below kk (by omega)
                have z1 := HL.out wr hRn2.below (kk + 1) hkl
                have z1' := cell_add z1
                generalize hyy : rd l ((kk + 1 : Nat) : Int) = y at *
                generalize hzz : rd l (kk : Int) = z at *
                have HYy := Aside0.mk hyy
                have HZz := Aside0.mk hzz
                clear hyy hzz
                have t2 : (kk : Int) < (at_ : Int) + 1 + (e : Int) * 2 := by omega
                have k1 : IntKind.i64.wrap ((kk : Int) + 1) = (kk : Int) + 1 := wrap_in (by omega) (by omega)
                have k2 : (kk : Int) + 1 < (l.length : Int) := by omega
                have k3 : (0 : Int) ≤ (kk : Int) + 1 := by omega
                have k4 : ((kk : Int) + 1).toNat = kk + 1 := by omega
                have k5 : (kk : Int) < (l.length : Int) := by omega
                clear hkk
                by_cases hY : y < 0
                · rw [if_pos (.inl hY)] at hEq2
                  have HE3 := Aside0.mk (show (([], false) : List Nd × Bool) = Q by rw [← HEq.out, ← hEq2])
                  clear hEq2 hRn2
                  go_wp2
                  go_ret2
                  exact ⟨none, 0, by rw [← HE3.out]; rfl, by rw [← HE3.out]; exact Nat.le_refl _, by rw [← HE3.out]; exact Kd.C_nil _ _, HR2.out.below⟩
                · by_cases hY2 : (n : Int) ≤ y
                  · rw [if_pos (.inr hY2)] at hEq2
                    have HE3 := Aside0.mk (show (([], false) : List Nd × Bool) = Q by rw [← HEq.out, ← hEq2])
                    clear hEq2 hRn2
                    go_wp2
                    go_ret2
                    exact ⟨none, 0, by rw [← HE3.out]; rfl, by rw [← HE3.out]; exact Nat.le_refl _, by rw [← HE3.out]; exact Kd.C_nil _ _, HR2.out.below⟩
                  · rw [if_neg (fun h => h.elim hY hY2)] at hEq2
                    obtain ⟨p1, _, rw1, _⟩ := hRn2.cells hin
                    have p1' : (wr.alloc (.cells #[.int .i64 z] 3)).cell? ⟨w.heap.size, i * 4 + 1, none⟩ = some (vs2 (2 * i)) := pw_cell_below (below_alloc (Below.refl _ wr) _) p1
                    have HRow := Aside0.mk rw1
                    have HE3 := Aside0.mk hEq2
                    have HRoom : Aside0 (((rdN N2 (i : Int)).f1.length + 1) * 8 ≤ 140737488355328) := ⟨by have := HSh2.out (2 * i) (by omega); rw [rowN_1] at this; omega⟩
                    have HSh3 := Aside0.mk (HSh2.out.put HR2.out.len (show 2 * i < 2 * n by omega) z)
                    rw [putR_1] at HSh3
                    have hii : (i : Int) < (n : Int) := by omega
                    have hii2 : (i : Int).toNat = i := by omega
                    clear hRn2 hEq2 rw1
                    go_upto_region 17 with fail
                    go_cut [81] from 82 to 132 (fun s81 wx => ∃ vs3, Rn w wx w.heap.size n vs3 (put1 N2 i z))
                    case first =>
                      go_region_law (refine Kd.R_append_step (Kd.int .i64) (w0 := w) (W := wr.drew) w.heap.size (by rfl) (.tmp 108) (.tmp 113) 22 3 (.int .i64 0) 8 rfl Try.underlying22 info3 rfl (by decide) (by omega) (vs2 (2 * i)) (rdN N2 (i : Int)).f1 z [.int .i64 z] (fun _ => True) (fun _ => False) rfl rfl rfl (fun _ h => h.elim) (fun _ _ => trivial) (Kd.R_drew HRow.out) HR2.out.below.drew HR2.out.below.drew.size HRoom.out ?_; intro v3 wA HO1 HB1 HG1 hown1; have happ := (HR2.out.step (Below.refl _ _).drew).app1 hin HO1 HG1 hown1; have t5 := happ.2.1; have t6 := happ.1; have HA := Aside0.mk happ.2.2; clear happ; obtain ⟨A3, c3, rfl⟩ := Kd.R_slice HO1)
                      all_goals go_wp2
                      all_goals go_meet
                      all_goals (rw [show ((rdN N2 (i : Int)).f1 ++ [z]).length = (rdN N2 (i : Int)).f1.length + 1 from by simp] at HA; exact ⟨_, HA.out⟩)
                    case rest =>
                      obtain ⟨vs3, hR3⟩ := hcut
                      have HR3 := Aside0.mk hR3
                      clear HRow HRoom p1 p1'
                      obtain ⟨_, p2, _, rw2⟩ := hR3.cells hin
                      have p2' : (wc.alloc (.cells #[.int .i64 y] 3)).cell? ⟨w.heap.size, i * 4 + 2, none⟩ = some (vs3 (2 * i + 1)) := pw_cell_below (below_alloc (Below.refl _ wc) _) p2
                      have z3 := HL.out wc hR3.below (kk + 1) hkl
                      rw [HYy.out] at z3
                      have z3' := cell_add z3
                      have HRow := Aside0.mk rw2
                      have HRoom : Aside0 (((rdN (put1 N2 i z) (i : Int)).f2.length + 1) * 8 ≤ 140737488355328) := ⟨by have := HSh3.out (2 * i + 1) (by omega); rw [rowN_2] at this; omega⟩
                      have HSh4 := Aside0.mk (HSh3.out.put HR3.out.len (show 2 * i + 1 < 2 * n by omega) y)
                      rw [putR_2] at HSh4
                      have k6 : IntKind.i64.wrap ((kk : Int) + 2) = (kk : Int) + 2 := wrap_in (by omega) (by omega)
                      clear hR3 rw2 z0 z1 z1'
                      go_upto_region 18 with fail
                      go_region_law (refine Kd.R_append_step (Kd.int .i64) (w0 := w) (W := wc.drew) w.heap.size (by rfl) (.tmp 123) (.tmp 129) 22 3 (.int .i64 0) 8 rfl Try.underlying22 info3 rfl (by decide) (by omega) (vs3 (2 * i + 1)) (rdN (put1 N2 i z) (i : Int)).f2 y [.int .i64 y] (fun _ => True) (fun _ => False) rfl rfl rfl (fun _ h => h.elim) (fun _ _ => trivial) (Kd.R_drew HRow.out) HR3.out.below.drew HR3.out.below.drew.size HRoom.out ?_; intro v3 wA HO1 HB1 HG1 hown1; have happ := (HR3.out.step (Below.refl _ _).drew).app2 hin HO1 HG1 hown1; have t5 := happ.2.1; have t6 := happ.1; have HA := Aside0.mk happ.2.2; clear happ; obtain ⟨A3, c3, rfl⟩ := Kd.R_slice HO1)
                      all_goals (
                        rw [show ((rdN (put1 N2 i z) (i : Int)).f2 ++ [y]).length = (rdN (put1 N2 i z) (i : Int)).f2.length + 1 from by simp] at HA
                        have HA2 := Aside0.mk HA.out
                        clear HA
                        go_wp2
                        go_roundw
                        case rel => exact ⟨kk + 2, j + 1, _, _, by go_num, ⟨by have := HKk.out; omega, by omega, HSh4.out.mono (by omega), HA2.out, HE3.out⟩⟩
                        case measure => simp [intOf]; omega)
              · obtain rfl : j = e := by omega
                rw [Nat.sub_self, rdIn] at hEq2
                have HE3 := Aside0.mk (show rdOut l n (n - (i + 1)) (i + 1) (at_ + 1 + j * 2) N2 = Q by rw [← HEq.out, ← hEq2])
                clear hEq2 hRn2
                have t2 : ¬ (kk : Int) < (at_ : Int) + 1 + (j : Int) * 2 := by omega
                clear hkk
                go_wp2
                go_roundw
                case rel => exact ⟨at_ + 1 + j * 2, i + 1, vs2, N2, by go_num, by go_num, ⟨by omega, by omega, HSh2.out.mono (by have := HKk.out; omega), HR2.out, HE3.out⟩⟩
                case measure => simp [intOf]; omega
    · obtain rfl : i = n := by omega
      rw [Nat.sub_self, rdOut] at hEq
      have HEq := Aside0.mk hEq
      have hd : ((at_ : Int) == (l.length : Int)) = decide (at_ = l.length) := by
        by_cases e : at_ = l.length
        · rw [decide_eq_true e, e]; simp
        · rw [decide_eq_false e]; exact beq_eq_false_iff_ne.2 (by omega)
      clear hRn hEq
      go_wp2
      go_ret2
      refine ⟨some ⟨w.heap.size, 0, none⟩, i, by rw [← HEq.out]; dsimp only; rw [HRn.out.len]; rfl, by rw [← HEq.out]; dsimp only; rw [HRn.out.len]; exact Nat.le_refl _, by rw [← HEq.out]; exact HRn.out.toC (by omega), HRn.out.below⟩
end Go.Proofs.Ytcdjeimjbbknjaa.PAll
namespace Go.Proofs.Ytcdjeimjbbknjaa.PAll
open Go.RowKit Go.Proofs.YtcdjeimjbbknjaaW.PrintWords Go.Proofs.YtcdjeimjbbknjaaW.PrintLast Go.Proofs.YtcdjeimjbbknjaaW.PrintMore
set_option linter.unusedVariables false
set_option linter.unusedSimpArgs false

theorem read_any (A0 : Option Addr) (c0 : Nat) (l : List Int) (w : World) (hr : Kd.C (Kd.int .i64) w A0 l.length l) (hc : l.length ≤ c0) (hlen : l.length ≤ 1000000000) (hi64 : ∀ x ∈ l, -9223372036854775808 ≤ x ∧ x ≤ 9223372036854775807) :
    Calls Try.prog 80 #[.slice A0 l.length c0] w (RdPost w (readN l)) := by
  by_cases h0 : l.length = 0
  · have HQ : Aside0 (readN l = ([], false)) := ⟨by unfold readN; rw [if_pos (.inl h0)]⟩
    have hb : ((l.length : Int) == 0) = true := beq_iff_eq.2 (by omega)
    clear hr hi64
    go_enter Try.func80, Try.ntmps80
    go_wp2
    go_ret2
    exact ⟨none, 0, by rw [HQ.out]; rfl, by rw [HQ.out]; exact Nat.le_refl _, by rw [HQ.out]; exact Kd.C_nil _ _, Below.refl _ _⟩
  · obtain ⟨ad, rfl, hx0⟩ := Kd.at_int hr 0 (by omega) (by omega)
    have hx : w.cell? ad = some (.int .i64 (rd l 0)) := by simpa [Addr.add] using hx0
    have hb : ((l.length : Int) == 0) = false := beq_eq_false_iff_ne.2 (by omega)
    have h4 : (0 : Int) < (l.length : Int) := by omega
    clear hx0
    by_cases h1 : rd l 0 < 1
    · have HQ : Aside0 (readN l = ([], false)) := ⟨by unfold readN; rw [if_pos (.inr (.inl h1))]⟩
      clear hr hi64
      generalize rd l 0 = x at *
      go_enter Try.func80, Try.ntmps80
      go_wp2
      go_ret2
      exact ⟨none, 0, by rw [HQ.out]; rfl, by rw [HQ.out]; exact Nat.le_refl _, by rw [HQ.out]; exact Kd.C_nil _ _, Below.refl _ _⟩
    · by_cases h2 : (l.length : Int) ≤ rd l 0
      · have HQ : Aside0 (readN l = ([], false)) := ⟨by unfold readN; rw [if_pos (.inr (.inr h2))]⟩
        clear hr hi64
        generalize rd l 0 = x at *
        go_enter Try.func80, Try.ntmps80
        go_wp2
        go_ret2
        exact ⟨none, 0, by rw [HQ.out]; rfl, by rw [HQ.out]; exact Nat.le_refl _, by rw [HQ.out]; exact Kd.C_nil _ _, Below.refl _ _⟩
      · have hq : readN l = rdOut l (rd l 0).toNat (rd l 0).toNat 0 1 (List.replicate (rd l 0).toNat nd0) := by unfold readN; rw [if_neg (fun h => h.elim h0 (fun h => h.elim h1 h2))]
        rw [hq]
        exact read_main (some ad) c0 l w hr hc hlen hi64 (rd l 0).toNat (by omega) (by omega) (by omega)
end Go.Proofs.Ytcdjeimjbbknjaa.PAll
namespace Go.Proofs.Ytcdjeimjbbknjaa.PAll
open Go.RowKit Go.Proofs.YtcdjeimjbbknjaaW.PrintWords Go.Proofs.YtcdjeimjbbknjaaW.PrintLast Go.Proofs.YtcdjeimjbbknjaaW.PrintMore
attribute [local go_sem] max2_int min2_int max_two min_two max_three min_three max_four min_four   -- for this text's walks alone
set_option linter.unusedVariables false
set_option linter.unusedSimpArgs false





-- the values' own types

end Go.Proofs.Ytcdjeimjbbknjaa.PAll
namespace Go.Proofs.Ytcdjeimjbbknjaa.PAll
open Go.RowKit Go.Proofs.YtcdjeimjbbknjaaW.PrintWords Go.Proofs.YtcdjeimjbbknjaaW.PrintLast Go.Proofs.YtcdjeimjbbknjaaW.PrintMore
attribute [local go_sem] max2_int min2_int max_two min_two max_three min_three max_four min_four   -- for this text's walks alone
set_option linter.unusedVariables false
set_option linter.unusedSimpArgs false

end Go.Proofs.Ytcdjeimjbbknjaa.PAll
namespace Go.Proofs.Ytcdjeimjbbknjaa.PAll
open Go.RowKit Go.Proofs.YtcdjeimjbbknjaaW.PrintWords Go.Proofs.YtcdjeimjbbknjaaW.PrintLast Go.Proofs.YtcdjeimjbbknjaaW.PrintMore
set_option linter.unusedVariables false
set_option linter.unusedSimpArgs false

def DcPost (w : World) (q : List (List Int) × Int) (e : Ending) (w' : World) : Prop :=
  Below w.heap.size w w' ∧ ((q.2 = 0 ∧ ∃ g, e = .returned (.tuple #[.pointer (some ⟨g, 0, none⟩), .int .i64 0]) ∧ GraphAt w' g (graphOf q.1)) ∨ (q.2 ≠ 0 ∧ e = .returned (.tuple #[.pointer none, .int .i64 q.2])))
/-! The calls, as Decode makes them. -/
theorem dc_read {w W : World} {v : Value} {l : List Int} (hR : Kd.R (Kd.int .i64) 3 W w.heap.size (fun _ => True) v l) (hl : l.length ≤ 1000000) (hi : ∀ x ∈ l, i64 x) :
    ∃ A c, v = .slice A l.length c ∧ l.length ≤ c ∧ Kd.C (Kd.int .i64) W A l.length l ∧ Calls Try.prog 80 #[.slice A l.length c] W (RdPost W (readN l)) := by
  obtain ⟨A, c, rfl, hc, hC⟩ := Kd.R_reads hR
  exact ⟨A, c, rfl, hc, hC, read_any A c l W hC hc (by omega) hi⟩
set_option maxHeartbeats 4000000 in
set_option maxRecDepth 100000 in
theorem decode_any (A : Option Addr) (c : Nat) (b : List Int) (w : World) (hr : Kd.C (Kd.int .u8) w A b.length b) (hc : b.length ≤ c) (hb : byt b) (hlen : b.length ≤ 1000000) :
    Calls Try.prog 36 #[.slice A b.length c] w (DcPost w (decN b)) := by
  have HGs := Aside0.mk (getInts_any A c b w hr hc hb (by omega))
  obtain ⟨hi1, he0, he3, hl1⟩ := getsI_i64 hb
  have HD : Aside0 (decN b = if (getsI b).2.2 ≠ 0 then ([], (getsI b).2.2)
  else if (readN (getsI b).1).2 = false ∨ (getsI b).2.1 ≠ (b.length : Int) then ([], 2)
  else if (wordsN (readN (getsI b).1).1).2 = false then ([], 2)
  else if checkL (wordsN (readN (getsI b).1).1).1 ≠ 0 then ([], 2)
  else if listN (graphOf (wordsN (readN (getsI b).1).1).1) ≠ (getsI b).1 then ([], 2)
  else ((wordsN (readN (getsI b).1).1).1, 0)) := ⟨rfl⟩
  generalize getsI b = q at *
  obtain ⟨l, u, e⟩ := q
  dsimp only at hi1 he0 he3 hl1
  unfold GsPost at HGs
  dsimp only at HGs HD
  generalize decN b = D at *
  have HI := Aside0.mk hi1
  clear hr hb hi1 he0 he3
  by_cases he : e = 0
  · subst he
    rw [if_neg (by simp)] at HD
    by_cases hrd : (readN l).2 = false ∨ u ≠ (b.length : Int)
    · have HQ : Aside0 (D = ([], 2)) := ⟨by rw [HD.out, if_pos hrd]⟩
      have hpk : ((readN l).2 = false) ∨ ((readN l).2 = true ∧ (u == (b.length : Int)) = false ∧ (u != (b.length : Int)) = true) := by
        rcases hrd with h | h
        · exact .inl h
        · cases hh : (readN l).2
          · exact .inl rfl
          · exact .inr ⟨rfl, beq_eq_false_iff_ne.2 h, bne_iff_ne.2 h⟩
      clear HD hrd
      generalize hrl : readN l = R at *
      have HRl := Aside0.mk hrl
      obtain ⟨N, ok⟩ := R
      dsimp only at hpk
      clear hrl
      rcases hpk with rfl | ⟨rfl, hu1, hu2⟩
      · go_enter Try.func36, Try.ntmps36
        go_wp2_with (first | (go_at_call 79; refine HGs.out.mono ?_; rintro e w1 ⟨v, rfl, hR1, hB1⟩; obtain ⟨A1, c1, rfl, hc1, hC1, hcall⟩ := dc_read hR1 (by omega) HI.out; rw [HRl.out] at hcall; have HCall := Aside0.mk hcall; have HB1 := Aside0.mk hB1; have HC1 := Aside0.mk hC1; clear hR1 hB1 hC1 hcall) | (go_at_call 80; refine HCall.out.mono ?_; rintro e w2 ⟨A2, c2, rfl, hc2, hC2, hB2⟩; have HC2 := Aside0.mk hC2; have HBx := Aside0.mk hB2; clear hC2 hB2))
        go_ret2
        rw [HQ.out]
        exact ⟨HB1.out.trans (HBx.out.mono HB1.out.size), .inr ⟨by decide, rfl⟩⟩
      · go_enter Try.func36, Try.ntmps36
        go_wp2_with (first | (go_at_call 79; refine HGs.out.mono ?_; rintro e w1 ⟨v, rfl, hR1, hB1⟩; obtain ⟨A1, c1, rfl, hc1, hC1, hcall⟩ := dc_read hR1 (by omega) HI.out; rw [HRl.out] at hcall; have HCall := Aside0.mk hcall; have HB1 := Aside0.mk hB1; have HC1 := Aside0.mk hC1; clear hR1 hB1 hC1 hcall) | (go_at_call 80; refine HCall.out.mono ?_; rintro e w2 ⟨A2, c2, rfl, hc2, hC2, hB2⟩; have HC2 := Aside0.mk hC2; have HBx := Aside0.mk hB2; clear hC2 hB2))
        go_ret2
        rw [HQ.out]
        exact ⟨HB1.out.trans (HBx.out.mono HB1.out.size), .inr ⟨by decide, rfl⟩⟩
    · have hok : (readN l).2 = true := by cases hh : (readN l).2; exact absurd (.inl hh) hrd; rfl
      have hu : u = (b.length : Int) := Classical.byContradiction fun h => hrd (.inr h)
      rw [if_neg hrd] at HD
      have hu1 : (u == (b.length : Int)) = true := beq_iff_eq.2 hu
      have hu2 : (u != (b.length : Int)) = false := bne_eq_false_iff_eq.2 hu
      clear hrd hu
      have hrok := readN_ok (l := l) (N := (readN l).1) (by rw [← hok])
      have HRl : Aside0 (readN l = ((readN l).1, true)) := ⟨by rw [← hok]⟩
      clear hok
      generalize (readN l).1 = N at *
      obtain ⟨hpos, hNl, heven, hlead⟩ := hrok
      obtain ⟨hpl, hfew, hshort⟩ := wordsN_ok hpos hlead heven
      have HWo0 := Aside0.mk (fun (A : Option Addr) (c : Nat) (W : World) (hc : N.length ≤ c) (hC : Kd.C k102 W A N.length N) => words_any A c N W hc hC hpos (by omega) hlead heven hpl)
      have HSum : Aside0 (sumUpto (wordsN N).1 (wordsN N).1.length ≤ 4611686018427387904) := ⟨by
        rw [sumUpto_is _ _ (Nat.le_refl _), List.take_length]
        have h1 := sum_le_mul hshort
        have h2 := Nat.mul_le_mul hfew (show N.length ≤ 1000000 by omega)
        omega⟩
      clear hpos heven hlead hpl hfew hshort
      generalize hwo : wordsN N = R at *
      obtain ⟨ws, ok2⟩ := R
      dsimp only at HD HSum HWo0
      have HWo := Aside0.mk HWo0.out
      clear hwo HWo0
      cases ok2 with
      | false =>
        have HQ : Aside0 (D = ([], 2)) := ⟨by rw [HD.out, if_pos rfl]⟩
        clear HD
        go_enter Try.func36, Try.ntmps36
        go_wp2_with (first | (go_at_call 79; refine HGs.out.mono ?_; rintro e w1 ⟨v, rfl, hR1, hB1⟩; obtain ⟨A1, c1, rfl, hc1, hC1, hcall⟩ := dc_read hR1 (by omega) HI.out; rw [HRl.out] at hcall; have HCall := Aside0.mk hcall; have HB1 := Aside0.mk hB1; have HC1 := Aside0.mk hC1; clear hR1 hB1 hC1 hcall) | (go_at_call 80; refine HCall.out.mono ?_; rintro e w2 ⟨A2, c2, rfl, hc2, hC2, hB2⟩; have HC2 := Aside0.mk hC2; have HBx := Aside0.mk hB2; clear hC2 hB2) | (go_at_call 81; refine (HWo.out _ _ _ hc2 HC2.out).mono ?_; rintro e w3 ⟨v3, rfl, hR3, hB3⟩; obtain ⟨A3, c3, rfl, hc3, hC3⟩ := Kd.R_reads hR3; have HC3 := Aside0.mk hC3; have HBx3 := Aside0.mk (HBx.out.trans (hB3.mono HBx.out.size)); clear hR3 hB3 hC3))
        go_ret2
        rw [HQ.out]
        exact ⟨HB1.out.trans (HBx3.out.mono HB1.out.size), .inr ⟨by decide, rfl⟩⟩
      | true =>
        rw [if_neg (by simp)] at HD
        by_cases hck : checkL ws ≠ 0
        · have HQ : Aside0 (D = ([], 2)) := ⟨by rw [HD.out, if_pos hck]⟩
          have HCk := Aside0.mk hck
          have hk1 : (checkL ws == 0) = false := beq_eq_false_iff_ne.2 hck
          have hk2 : (checkL ws != 0) = true := bne_iff_ne.2 hck
          clear HD hck
          go_enter Try.func36, Try.ntmps36
          go_wp2_with (first | (go_at_call 79; refine HGs.out.mono ?_; rintro e w1 ⟨v, rfl, hR1, hB1⟩; obtain ⟨A1, c1, rfl, hc1, hC1, hcall⟩ := dc_read hR1 (by omega) HI.out; rw [HRl.out] at hcall; have HCall := Aside0.mk hcall; have HB1 := Aside0.mk hB1; have HC1 := Aside0.mk hC1; clear hR1 hB1 hC1 hcall) | (go_at_call 80; refine HCall.out.mono ?_; rintro e w2 ⟨A2, c2, rfl, hc2, hC2, hB2⟩; have HC2 := Aside0.mk hC2; have HBx := Aside0.mk hB2; clear hC2 hB2) | (go_at_call 81; refine (HWo.out _ _ _ hc2 HC2.out).mono ?_; rintro e w3 ⟨v3, rfl, hR3, hB3⟩; obtain ⟨A3, c3, rfl, hc3, hC3⟩ := Kd.R_reads hR3; have HC3 := Aside0.mk hC3; have HBx3 := Aside0.mk (HBx.out.trans (hB3.mono HBx.out.size)); clear hR3 hB3 hC3) | (go_at_call 19; refine (build_bad A3 c3 ws w3 HC3.out hc3 HSum.out HCk.out).mono ?_; rintro e w4 ⟨rfl, hd4⟩; have HBx4 := Aside0.mk (HBx3.out.trans (hd4.below.mono HBx3.out.size)); clear hd4))
          go_ret2
          rw [HQ.out]
          exact ⟨HB1.out.trans (HBx4.out.mono HB1.out.size), .inr ⟨by decide, rfl⟩⟩
        · have hck0 : checkL ws = 0 := by simpa using hck
          rw [if_neg hck] at HD
          have HGd := Aside0.mk (checkL_good hck0)
          have HGl := Aside0.mk (graph_list HGd.out)
          clear hck hck0
          by_cases heq : listN (graphOf ws) = l
          · have HQ : Aside0 (D = (ws, 0)) := ⟨by rw [HD.out, if_neg (fun h => h heq)]⟩
            have hde : decide (listN (graphOf ws) = l) = true := decide_eq_true heq
            clear HD heq
            go_enter Try.func36, Try.ntmps36
            go_wp2_with (first | (go_at_call 79; refine HGs.out.mono ?_; rintro e w1 ⟨v, rfl, hR1, hB1⟩; obtain ⟨A1, c1, rfl, hc1, hC1, hcall⟩ := dc_read hR1 (by omega) HI.out; rw [HRl.out] at hcall; have HCall := Aside0.mk hcall; have HB1 := Aside0.mk hB1; have HC1 := Aside0.mk hC1; clear hR1 hB1 hC1 hcall) | (go_at_call 80; refine HCall.out.mono ?_; rintro e w2 ⟨A2, c2, rfl, hc2, hC2, hB2⟩; have HC2 := Aside0.mk hC2; have HBx := Aside0.mk hB2; clear hC2 hB2) | (go_at_call 81; refine (HWo.out _ _ _ hc2 HC2.out).mono ?_; rintro e w3 ⟨v3, rfl, hR3, hB3⟩; obtain ⟨A3, c3, rfl, hc3, hC3⟩ := Kd.R_reads hR3; have HC3 := Aside0.mk hC3; have HBx3 := Aside0.mk (HBx.out.trans (hB3.mono HBx.out.size)); clear hR3 hB3 hC3) | (go_at_call 19; refine (build_good A3 c3 ws w3 HC3.out hc3 HGd.out).mono ?_; rintro e w4 ⟨g, rfl, hG4, hB4, _⟩; have HBx4 := Aside0.mk (HBx3.out.trans (hB4.mono HBx3.out.size)); have HG4 := Aside0.mk hG4; clear hG4 hB4) | (go_at_call 78; refine (list_any g (graphOf ws) w4 HG4.out HGl.out.2.1 (by have := HGl.out.2.2.2.1; omega)).mono ?_; rintro e w5 ⟨v5, rfl, hR5, hB5⟩; obtain ⟨A5, c5, rfl, hc5, hC5⟩ := Kd.R_reads hR5; have HC5 := Aside0.mk hC5; have HG5 := Aside0.mk (HG4.out.below hB5); have HBx5 := Aside0.mk (HBx4.out.trans (hB5.mono HBx4.out.size)); clear hR5 hB5 hC5) | (go_at_call 82; refine (slices_Equal_int_int.calls 1000000001 A5 c5 (listN (graphOf ws)) A1 c1 l _ w5 HC5.out hc5 (Kd.C_below HC1.out HBx5.out) hc1 (equal_is _ _ (by have := HGl.out.2.2.2.1; omega) _ (by have := HGl.out.2.2.2.1; omega))).mono ?_; rintro e w6 ⟨rfl, hd6⟩; have HG6 := Aside0.mk (HG5.out.drawn hd6); have HBx6 := Aside0.mk (HBx5.out.trans (hd6.below.mono HBx5.out.size)); clear hd6))
            go_ret2
            rw [HQ.out]
            exact ⟨HB1.out.trans (HBx6.out.mono HB1.out.size), .inl ⟨rfl, g, rfl, HG6.out⟩⟩
          · have HQ : Aside0 (D = ([], 2)) := ⟨by rw [HD.out, if_pos heq]⟩
            have hde : decide (listN (graphOf ws) = l) = false := decide_eq_false heq
            clear HD heq
            go_enter Try.func36, Try.ntmps36
            go_wp2_with (first | (go_at_call 79; refine HGs.out.mono ?_; rintro e w1 ⟨v, rfl, hR1, hB1⟩; obtain ⟨A1, c1, rfl, hc1, hC1, hcall⟩ := dc_read hR1 (by omega) HI.out; rw [HRl.out] at hcall; have HCall := Aside0.mk hcall; have HB1 := Aside0.mk hB1; have HC1 := Aside0.mk hC1; clear hR1 hB1 hC1 hcall) | (go_at_call 80; refine HCall.out.mono ?_; rintro e w2 ⟨A2, c2, rfl, hc2, hC2, hB2⟩; have HC2 := Aside0.mk hC2; have HBx := Aside0.mk hB2; clear hC2 hB2) | (go_at_call 81; refine (HWo.out _ _ _ hc2 HC2.out).mono ?_; rintro e w3 ⟨v3, rfl, hR3, hB3⟩; obtain ⟨A3, c3, rfl, hc3, hC3⟩ := Kd.R_reads hR3; have HC3 := Aside0.mk hC3; have HBx3 := Aside0.mk (HBx.out.trans (hB3.mono HBx.out.size)); clear hR3 hB3 hC3) | (go_at_call 19; refine (build_good A3 c3 ws w3 HC3.out hc3 HGd.out).mono ?_; rintro e w4 ⟨g, rfl, hG4, hB4, _⟩; have HBx4 := Aside0.mk (HBx3.out.trans (hB4.mono HBx3.out.size)); have HG4 := Aside0.mk hG4; clear hG4 hB4) | (go_at_call 78; refine (list_any g (graphOf ws) w4 HG4.out HGl.out.2.1 (by have := HGl.out.2.2.2.1; omega)).mono ?_; rintro e w5 ⟨v5, rfl, hR5, hB5⟩; obtain ⟨A5, c5, rfl, hc5, hC5⟩ := Kd.R_reads hR5; have HC5 := Aside0.mk hC5; have HG5 := Aside0.mk (HG4.out.below hB5); have HBx5 := Aside0.mk (HBx4.out.trans (hB5.mono HBx4.out.size)); clear hR5 hB5 hC5) | (go_at_call 82; refine (slices_Equal_int_int.calls 1000000001 A5 c5 (listN (graphOf ws)) A1 c1 l _ w5 HC5.out hc5 (Kd.C_below HC1.out HBx5.out) hc1 (equal_is _ _ (by have := HGl.out.2.2.2.1; omega) _ (by have := HGl.out.2.2.2.1; omega))).mono ?_; rintro e w6 ⟨rfl, hd6⟩; have HG6 := Aside0.mk (HG5.out.drawn hd6); have HBx6 := Aside0.mk (HBx5.out.trans (hd6.below.mono HBx5.out.size)); clear hd6))
            go_ret2
            rw [HQ.out]
            exact ⟨HB1.out.trans (HBx6.out.mono HB1.out.size), .inr ⟨by decide, rfl⟩⟩
  · have HQ : Aside0 (D = ([], e)) := ⟨by rw [HD.out, if_pos he]⟩
    have he1 : (e == 0) = false := beq_eq_false_iff_ne.2 he
    have he2 : (e != 0) = true := bne_iff_ne.2 he
    have HE : Aside0 (e ≠ 0) := ⟨he⟩
    clear he HD
    go_enter Try.func36, Try.ntmps36
    go_wp2_with (go_at_call 79; refine HGs.out.mono ?_; rintro e w1 ⟨v, rfl, hR1, hB1⟩; obtain ⟨A1, c1, rfl⟩ := Kd.R_slice hR1; have HB1 := Aside0.mk hB1; clear hR1 hB1)
    go_ret2
    rw [HQ.out]
    exact ⟨HB1.out, .inr ⟨HE.out, rfl⟩⟩
/-! ### Encode -/
theorem encode_nil (w : World) : Calls Try.prog 35 #[.pointer none] w fun e w' => e = .returned (.slice none 0 0) ∧ w = w' := by
  go_enter Try.func35, Try.ntmps35
  go_wp2
  go_ret
  exact ⟨rfl, rfl⟩
end Go.Proofs.Ytcdjeimjbbknjaa.PAll
namespace Go.Proofs.Ytcdjeimjbbknjaa.PAll
open Go.RowKit Go.Proofs.YtcdjeimjbbknjaaW.PrintWords Go.Proofs.YtcdjeimjbbknjaaW.PrintLast Go.Proofs.YtcdjeimjbbknjaaW.PrintMore Go.Proofs.Ytcdjeimjbbknjaa.Res
set_option linter.unusedVariables false
set_option linter.unusedSimpArgs false

/-! ### Words by numbers -/
theorem num_zero {r : List (List Int)} (hf : finR r = true) : r.getD 0 [] = [] := by
  cases r with
  | nil => rfl
  | cons w l =>
    cases w with
    | nil => rfl
    | cons a w => simp [finR] at hf
theorem num_step {r : List (List Int)} (hs : Srt r) {i : Nat} (hi : i < r.length) (h : ¬ (finR r = true ∧ i = 0)) : (if finR r then 1 else 0) ≤ i ∧ i - (if finR r then 1 else 0) < (flat (groups r)).length ∧ r.getD i [] = (flat (groups r)).getD (i - if finR r then 1 else 0) [] := by
  have hb := rest_back hs
  have hl := congrArg List.length hb
  rw [groups_back hs]
  by_cases hf : finR r = true
  · rw [if_pos hf] at hb hl ⊢
    have hi0 : i ≠ 0 := fun e => h ⟨hf, e⟩
    obtain ⟨k, rfl⟩ : ∃ k, i = k + 1 := ⟨i - 1, by omega⟩
    simp only [List.length_append, List.length_singleton] at hl
    refine ⟨by omega, by omega, ?_⟩
    conv => lhs; rw [hb]
    rfl
  · rw [if_neg hf] at hb hl ⊢
    simp only [List.nil_append] at hb hl
    exact ⟨by omega, by omega, by rw [← hb]; rfl⟩
theorem num_group (g : Int × List (List Int)) (gs : List (Int × List (List Int))) (i : Nat) : (i < g.2.length → (flat (g :: gs)).getD i [] = g.1 :: g.2.getD i []) ∧ (g.2.length ≤ i → (flat (g :: gs)).getD i [] = (flat gs).getD (i - g.2.length) []) ∧ (flat (g :: gs)).length = g.2.length + (flat gs).length := by
  have e : flat (g :: gs) = g.2.map (g.1 :: ·) ++ flat gs := by simp [flat]
  rw [e]
  refine ⟨fun h => ?_, fun h => ?_, by simp⟩
  · rw [List.getD_eq_getElem?_getD, List.getElem?_append_left (by simpa using h), List.getElem?_map, List.getD_eq_getElem?_getD, List.getElem?_eq_getElem h]; rfl
  · rw [List.getD_eq_getElem?_getD, List.getElem?_append_right (by simpa using h), List.length_map, List.getD_eq_getElem?_getD]
/-- The parts that are left, at number i of what they hold. -/
theorem num_drop {gs : List (Int × List (List Int))} {j i : Nat} (h : i < (flat (gs.drop j)).length) : ∃ g, gs[j]? = some g ∧ (i < g.2.length → (flat (gs.drop j)).getD i [] = g.1 :: g.2.getD i []) ∧ (g.2.length ≤ i → (flat (gs.drop j)).getD i [] = (flat (gs.drop (j + 1))).getD (i - g.2.length) [] ∧ i - g.2.length < (flat (gs.drop (j + 1))).length) := by
  have hj : j < gs.length := by
    rcases Nat.lt_or_ge j gs.length with h1 | h1
    · exact h1
    · rw [List.drop_of_length_le h1] at h; simp [flat] at h
  refine ⟨gs[j], List.getElem?_eq_getElem hj, ?_⟩
  rw [List.drop_eq_getElem_cons hj] at h ⊢
  obtain ⟨h1, h2, h3⟩ := num_group gs[j] (gs.drop (j + 1)) i
  exact ⟨h1, fun hle => ⟨h2 hle, by omega⟩⟩
theorem flat_ne {r : List (List Int)} (hs : Srt r) {i : Nat} (h : i < (flat (groups r)).length) : (flat (groups r)).getD i [] ≠ [] := by
  rw [groups_back hs] at h ⊢
  rw [List.getD_eq_getElem?_getD, List.getElem?_eq_getElem h, Option.getD_some]
  exact (restR_ok hs).2 _ (List.getElem_mem h)
end Go.Proofs.Ytcdjeimjbbknjaa.PAll
namespace Go.Proofs.Ytcdjeimjbbknjaa.PAll
open Go.RowKit Go.Proofs.YtcdjeimjbbknjaaW.PrintWords Go.Proofs.YtcdjeimjbbknjaaW.PrintLast Go.Proofs.YtcdjeimjbbknjaaW.PrintMore Go.Proofs.Ytcdjeimjbbknjaa.Res
set_option linter.unusedVariables false
set_option linter.unusedSimpArgs false

theorem word_nil (i : Int) (w : World) : Calls Try.prog 26 #[.pointer none, .int .i64 i] w fun e w' => e = .returned (.tuple #[.slice none 0 0, .bool false]) ∧ w = w' := by
  by_cases h0 : i < 0
  · go_enter Try.func26, Try.ntmps26
    go_wp2
    go_step3
    go_wp2
    rw [Exit.noGoto_ret]
    go_ret2
    exact ⟨rfl, rfl⟩
  · have h1 : 0 ≤ i := by omega
    go_enter Try.func26, Try.ntmps26
    go_wp2
    go_step3
    go_wp2_with (go_at_call 30; refine (len_nil _).mono ?_; rintro e w' ⟨rfl, rfl⟩)
    rw [Exit.noGoto_ret]
    go_ret2
    exact ⟨rfl, rfl⟩
set_option maxHeartbeats 4000000 in
set_option maxRecDepth 100000 in
theorem word_any {ns : List Nd} {Q : List (List (List Int))} (hi : Inv ns Q) (hq : 0 < ns.length) (hb : ∀ r ∈ Q, r.length ≤ 1000000000) (g i0 : Nat) (h : i0 < (rdP Q 0).length) (T : List Int) (hT : (rdP Q 0).getD i0 [] = T) (hTl : T.length ≤ 100000) (w : World) (hg : GraphAt w g ns) :
    Calls Try.prog 26 #[.pointer (some ⟨g, 0, none⟩), .int .i64 (i0 : Int)] w fun e w' => ∃ v, e = .returned (.tuple #[v, .bool true]) ∧ Kd.R (Kd.int .i64) 3 w' w.heap.size (fun _ => True) v T ∧ Below w.heap.size w w' := by
  have hb0 := hb _ (rdP_mem (Int.le_refl 0) (by rw [hi.len]; omega))
  have hc0 : (rdN ns 0).f3 = ((rdP Q 0).length : Int) := (hi.nds 0 hq).count
  have HL := Aside0.mk (len_any g ns w hg hq)
  rw [show (rd_T102 ns 0).f3 = ((rdP Q 0).length : Int) from hc0] at HL
  have HG := Aside0.mk hg
  have HI := Aside0.mk hi
  have HBd := Aside0.mk hb
  have HT0 := Aside0.mk hT
  have HTl := Aside0.mk hTl
  have hh0 : (0 : Int) ≤ (i0 : Int) := by omega
  have hh1 : (i0 : Int) < ((rdP Q 0).length : Int) := by omega
  have HH := Aside0.mk h
  generalize hn0 : (rdP Q 0).length = n0 at *
  have HN0 := Aside0.mk hn0
  clear hn0
  have hd0 : decide (n0 ≤ i0) = false := decide_eq_false (by omega)
  have hd1 : decide ((i0 : Int) < 0) = false := decide_eq_false (by omega)
  clear hg hi hb hT hTl hc0 h
  go_enter Try.func26, Try.ntmps26
  go_wp2
  go_step3
  go_wp2_with (go_at_call 30; refine HL.out.mono ?_; rintro e w' ⟨rfl, rfl⟩)
  go_step3
  go_wp2
  go_loopg [1, 6, 7] T.length (fun kq s1 s6 s7 wr => ∃ (i : Nat) (at_ : Int) (acc : List Int) (Aw : Option Addr) (cw : Nat), s1 = .int .i64 (i : Int) ∧ s6 = .slice Aw acc.length cw ∧ s7 = .int .i64 at_ ∧ Aside0 (0 ≤ at_ ∧ at_ < (ns.length : Int) ∧ i < (rdP Q at_).length ∧ acc ++ (rdP Q at_).getD i [] = T ∧ Kd.R (Kd.int .i64) 3 wr w.heap.size (fun _ => True) (.slice Aw acc.length cw) acc ∧ Below w.heap.size w wr ∧ T.length = acc.length + kq))
  case atStart => exact ⟨i0, 0, [], none, 0, rfl, rfl, rfl, ⟨Int.le_refl _, by omega, by rw [HN0.out]; exact HH.out, HT0.out, Kd.R_nil _ _ _ _ _, Below.refl _ _, by simp⟩⟩
  case round =>
    obtain ⟨i, at_, acc, Aw, cw, rfl, rfl, rfl, hH⟩ := hrel
    obtain ⟨h0, h1, hir, hacc, hR, hB, hgk⟩ := hH.out
    clear hH
    have hnd := HI.out.nds at_.toNat (by omega)
    rw [show ((at_.toNat : Nat) : Int) = at_ from by omega] at hnd
    have hmQ := rdP_mem h0 (by rw [HI.out.len]; exact h1)
    have hs := HI.out.srt _ hmQ
    have hbr := HBd.out _ hmQ
    obtain ⟨ad, A1, c1, A2, c2, c, hcell, hcc, x0, x1, x2, x3, l1, g1, l2, g2⟩ := (HG.out.below hB).node at_ h0 h1
    change Kd.C (Kd.int .i64) wr A1 (rdN ns at_).f1.length (rdN ns at_).f1 at g1
    change Kd.C (Kd.int .i64) wr A2 (rdN ns at_).f2.length (rdN ns at_).f2 at g2
    change (rdN ns at_).f1.length ≤ c1 at l1
    change (rdN ns at_).f2.length ≤ c2 at l2
    rw [show rd_T102 ns at_ = rdN ns at_ from rfl] at x0 x1 x2 x3
    generalize rdN ns at_ = nd at *
    generalize rdP Q at_ = r at *
    obtain ⟨f0, f1, f2, f3⟩ := nd
    dsimp only at *
    have hlt : at_.toNat < ns.length := by omega
    by_cases hend : finR r = true ∧ i = 0
    · obtain ⟨he1, rfl⟩ := hend
      rw [num_zero he1, List.append_nil] at hacc
      subst hacc
      have hf0 : f0 = true := by have := hnd.fin; dsimp only at this; rw [this, he1]
      subst hf0
      have HR := Aside0.mk hR
      have HB := Aside0.mk hB
      clear hnd hmQ hs hbr g1 g2 hR hB he1 hir
      go_wp2
      try rw [Exit.noGoto_ret]
      go_ret2
      exact ⟨_, rfl, HR.out, HB.out⟩
    · obtain ⟨n1, n2, n3⟩ := num_step hs hir hend
      rw [n3] at hacc
      have hf0 : f0 = finR r := hnd.fin
      rw [← hf0] at n1 n2 hacc hend
      have HN := Aside0.mk hnd
      have HS := Aside0.mk hs
      have HR := Aside0.mk hR
      have HB := Aside0.mk hB
      have HG1 := Aside0.mk g1
      have HG2 := Aside0.mk g2
      have hev := Aside0.mk (show f1.length = f2.length from hnd.even)
      clear hnd hmQ hs hR hB g1 g2 hf0 n3
      obtain ⟨ko, rfl⟩ : ∃ m, gk = m + 1 := ⟨gk - 1, by
        have : T.length ≠ acc.length := by
          intro e
          have h2 := congrArg List.length hacc
          rw [List.length_append, e] at h2
          exact flat_ne HS.out n2 (List.eq_nil_of_length_eq_zero (by omega))
        omega⟩
      have HA := Aside0.mk hacc
      have HGK := Aside0.mk hgk
      clear hacc hgk
      cases f0 with
      | true =>
        have hi0 : 0 < i := by rcases Nat.eq_zero_or_pos i with h | h; exact absurd ⟨rfl, h⟩ hend; exact h
        simp only [if_true] at n1 n2 HA
        clear hend
        go_wp2
        have HBx := Aside0.mk (below_alloc (Below.refl wr.heap.size wr) (.cells #[.bool true, .slice A1 f1.length c1, .slice A2 f2.length c2, .int .i64 f3] 102))
        have hbx : (wr.alloc (.cells #[.bool true, .slice A1 f1.length c1, .slice A2 f2.length c2, .int .i64 f3] 102)).heap[wr.heap.size]? = some (.cells #[.bool true, .slice A1 f1.length c1, .slice A2 f2.length c2, .int .i64 f3] 102 (0, 0)) := blk_new _ _
        generalize wr.alloc (.cells #[.bool true, .slice A1 f1.length c1, .slice A2 f2.length c2, .int .i64 f3] 102) = W1 at *
        have b1 : W1.cell? ⟨wr.heap.size, 1, none⟩ = some (.slice A1 f1.length c1) := (blk_cell hbx 1).trans rfl
        have b2 : W1.cell? ⟨wr.heap.size, 2, none⟩ = some (.slice A2 f2.length c2) := (blk_cell hbx 2).trans rfl
        clear hbx
        go_loopg [1, 6, 46] f2.length (fun kq s1 s6 s46 wx => ∃ (j i2 : Nat), s46 = .int .i64 (j : Int) ∧ s1 = .int .i64 (i2 : Int) ∧ s6 = .slice Aw acc.length cw ∧ Aside0 (i2 < (flat ((groups r).drop j)).length ∧ acc ++ (flat ((groups r).drop j)).getD i2 [] = T ∧ f2.length = j + kq ∧ i2 ≤ 1000000000) ∧ wx = W1)
        case atStart => exact ⟨0, i - 1, rfl, by (refine congrArg (Value.int .i64) ?_); omega, rfl, ⟨by rw [List.drop_zero]; exact n2, by rw [List.drop_zero]; exact HA.out, by omega, by omega⟩, rfl⟩
        case round =>
          obtain ⟨j, i2, rfl, rfl, rfl, hJ, rfl⟩ := hrel
          obtain ⟨m1, m2, m3, m4⟩ := hJ.out
          have M3 := Aside0.mk m3
          clear m3
          obtain ⟨gp, e1, e2, e3⟩ := num_drop m1
          have hgl : f2.length = (groups r).length := by have := congrArg List.length HN.out.goes; simpa using this
          have hj : j < f2.length := by rw [hgl]; exact (List.getElem?_eq_some_iff.1 e1).1
          obtain ⟨gp', e1', q1, q2, q3, q4⟩ := HN.out.kid (i := j) hj
          dsimp only at q1 q2 q3 q4
          rw [e1] at e1'
          obtain rfl := Option.some.inj e1'
          have q5 : rd f2 (j : Int) < (ns.length : Int) := by have := HI.out.len; omega
          have hnk := HI.out.nds (rd f2 (j : Int)).toNat (by omega)
          rw [show (((rd f2 (j : Int)).toNat : Nat) : Int) = rd f2 (j : Int) from by omega] at hnk
          have hcnt := hnk.count
          rw [q2] at hcnt
          have hgQ := HBd.out _ (rdP_mem q3 q4)
          rw [q2] at hgQ
          obtain ⟨adj, hAj, hy⟩ := Kd.at_int (Kd.C_below HG2.out HBx.out) (j : Int) (by omega) (by omega)
          obtain ⟨ads, hAs, hz⟩ := Kd.at_int (Kd.C_below HG1.out HBx.out) (j : Int) (by omega) (by have := hev.out; omega)
          subst hAj hAs
          rw [Int.toNat_natCast] at hy hz
          obtain ⟨adq, _, _, _, _, cq, hcq, hlq, _, _, _, hyq, _⟩ := (HG.out.below (HB.out.trans (HBx.out.mono HB.out.size))).node (rd f2 (j : Int)) q3 q5
          rw [show (rd_T102 ns (rd f2 (j : Int))).f3 = (gp.2.length : Int) from hcnt] at hyq
          have hj1 : j < f1.length := by have := hev.out; omega
          have hmx := Kd.C_max HG2.out
          have HQ := Aside0.mk q2
          rw [q1] at hz
          generalize rd f2 (j : Int) = tt at *
          clear hcnt hnk q1 q2 q4 e1 e1' hgl
          have hq5 : tt.toNat < ns.length := by omega
          by_cases hlt2 : i2 < gp.2.length
          · have HA2 := Aside0.mk ((e2 hlt2) ▸ m2)
            have HRw := Aside0.mk (Kd.R_below HR.out HBx.out)
            have HBw := Aside0.mk (HB.out.trans (HBx.out.mono HB.out.size))
            have hal : (acc.length + 1) * 8 ≤ 140737488355328 := by have := HTl.out; have := HGK.out; omega
            clear e2 e3 m1 m2
            go_wp2_with (at_builtin; refine Kd.R_append (Kd.int .i64) (w0 := w) w.heap.size rfl (.tmp 61) (.tmp 67) 22 3 (.int .i64 0) 8 rfl Try.underlying22 info3 rfl (by decide) (by omega) (.slice Aw acc.length cw) acc gp.1 [.int .i64 gp.1] (fun _ => True) (fun _ => False) rfl rfl rfl (fun _ h => h.elim) (fun _ _ => trivial) HRw.out HBw.out HBw.out.size hal ?_; intro v2 w2 HO2 HB2 _ _; obtain ⟨A9, c9, hv9⟩ := Kd.R_slice HO2; subst hv9; have HO2 := Aside0.mk HO2; have HB2 := Aside0.mk HB2)
            go_roundg ko
            case measure => omega
            case rel => exact ⟨i2, tt, acc ++ [gp.1], _, _, rfl, by simp, rfl, ⟨q3, q5, by rw [HQ.out]; exact hlt2, by rw [HQ.out]; simpa using HA2.out, HO2.out, HB2.out, by have := HGK.out; simp only [List.length_append, List.length_singleton]; omega⟩⟩
          · obtain ⟨e4, e5⟩ := e3 (by omega)
            have hge : gp.2.length ≤ i2 := by omega
            have hgI : (gp.2.length : Int) ≤ (i2 : Int) := by omega
            have HE := Aside0.mk (e4 ▸ m2)
            clear e2 e3 e4 m1 m2
            cases gk with
            | zero => have := M3.out; omega
            | succ ki =>
              go_wp2
              go_roundg ki
              case measure => omega
              case rel =>
                refine ⟨j + 1, i2 - gp.2.length, ?_, ?_, rfl, ⟨e5, HE.out, by have := M3.out; omega, by omega⟩, rfl⟩
                · exact congrArg (Value.int .i64) (by omega)
                · exact congrArg (Value.int .i64) (by omega)
      | false =>
        simp only [Bool.false_eq_true, if_false, Nat.sub_zero] at n1 n2 HA
        clear hend
        go_wp2
        have HBx := Aside0.mk (below_alloc (Below.refl wr.heap.size wr) (.cells #[.bool false, .slice A1 f1.length c1, .slice A2 f2.length c2, .int .i64 f3] 102))
        have hbx : (wr.alloc (.cells #[.bool false, .slice A1 f1.length c1, .slice A2 f2.length c2, .int .i64 f3] 102)).heap[wr.heap.size]? = some (.cells #[.bool false, .slice A1 f1.length c1, .slice A2 f2.length c2, .int .i64 f3] 102 (0, 0)) := blk_new _ _
        generalize wr.alloc (.cells #[.bool false, .slice A1 f1.length c1, .slice A2 f2.length c2, .int .i64 f3] 102) = W1 at *
        have b1 : W1.cell? ⟨wr.heap.size, 1, none⟩ = some (.slice A1 f1.length c1) := (blk_cell hbx 1).trans rfl
        have b2 : W1.cell? ⟨wr.heap.size, 2, none⟩ = some (.slice A2 f2.length c2) := (blk_cell hbx 2).trans rfl
        clear hbx
        go_loopg [1, 6, 46] f2.length (fun kq s1 s6 s46 wx => ∃ (j i2 : Nat), s46 = .int .i64 (j : Int) ∧ s1 = .int .i64 (i2 : Int) ∧ s6 = .slice Aw acc.length cw ∧ Aside0 (i2 < (flat ((groups r).drop j)).length ∧ acc ++ (flat ((groups r).drop j)).getD i2 [] = T ∧ f2.length = j + kq ∧ i2 ≤ 1000000000) ∧ wx = W1)
        case atStart => exact ⟨0, i, rfl, rfl, rfl, ⟨by rw [List.drop_zero]; exact n2, by rw [List.drop_zero]; exact HA.out, by omega, by omega⟩, rfl⟩
        case round =>
          obtain ⟨j, i2, rfl, rfl, rfl, hJ, rfl⟩ := hrel
          obtain ⟨m1, m2, m3, m4⟩ := hJ.out
          have M3 := Aside0.mk m3
          clear m3
          obtain ⟨gp, e1, e2, e3⟩ := num_drop m1
          have hgl : f2.length = (groups r).length := by have := congrArg List.length HN.out.goes; simpa using this
          have hj : j < f2.length := by rw [hgl]; exact (List.getElem?_eq_some_iff.1 e1).1
          obtain ⟨gp', e1', q1, q2, q3, q4⟩ := HN.out.kid (i := j) hj
          dsimp only at q1 q2 q3 q4
          rw [e1] at e1'
          obtain rfl := Option.some.inj e1'
          have q5 : rd f2 (j : Int) < (ns.length : Int) := by have := HI.out.len; omega
          have hnk := HI.out.nds (rd f2 (j : Int)).toNat (by omega)
          rw [show (((rd f2 (j : Int)).toNat : Nat) : Int) = rd f2 (j : Int) from by omega] at hnk
          have hcnt := hnk.count
          rw [q2] at hcnt
          have hgQ := HBd.out _ (rdP_mem q3 q4)
          rw [q2] at hgQ
          obtain ⟨adj, hAj, hy⟩ := Kd.at_int (Kd.C_below HG2.out HBx.out) (j : Int) (by omega) (by omega)
          obtain ⟨ads, hAs, hz⟩ := Kd.at_int (Kd.C_below HG1.out HBx.out) (j : Int) (by omega) (by have := hev.out; omega)
          subst hAj hAs
          rw [Int.toNat_natCast] at hy hz
          obtain ⟨adq, _, _, _, _, cq, hcq, hlq, _, _, _, hyq, _⟩ := (HG.out.below (HB.out.trans (HBx.out.mono HB.out.size))).node (rd f2 (j : Int)) q3 q5
          rw [show (rd_T102 ns (rd f2 (j : Int))).f3 = (gp.2.length : Int) from hcnt] at hyq
          have hj1 : j < f1.length := by have := hev.out; omega
          have hmx := Kd.C_max HG2.out
          have HQ := Aside0.mk q2
          rw [q1] at hz
          generalize rd f2 (j : Int) = tt at *
          clear hcnt hnk q1 q2 q4 e1 e1' hgl
          have hq5 : tt.toNat < ns.length := by omega
          by_cases hlt2 : i2 < gp.2.length
          · have HA2 := Aside0.mk ((e2 hlt2) ▸ m2)
            have HRw := Aside0.mk (Kd.R_below HR.out HBx.out)
            have HBw := Aside0.mk (HB.out.trans (HBx.out.mono HB.out.size))
            have hal : (acc.length + 1) * 8 ≤ 140737488355328 := by have := HTl.out; have := HGK.out; omega
            clear e2 e3 m1 m2
            go_wp2_with (at_builtin; refine Kd.R_append (Kd.int .i64) (w0 := w) w.heap.size rfl (.tmp 61) (.tmp 67) 22 3 (.int .i64 0) 8 rfl Try.underlying22 info3 rfl (by decide) (by omega) (.slice Aw acc.length cw) acc gp.1 [.int .i64 gp.1] (fun _ => True) (fun _ => False) rfl rfl rfl (fun _ h => h.elim) (fun _ _ => trivial) HRw.out HBw.out HBw.out.size hal ?_; intro v2 w2 HO2 HB2 _ _; obtain ⟨A9, c9, hv9⟩ := Kd.R_slice HO2; subst hv9; have HO2 := Aside0.mk HO2; have HB2 := Aside0.mk HB2)
            go_roundg ko
            case measure => omega
            case rel => exact ⟨i2, tt, acc ++ [gp.1], _, _, rfl, by simp, rfl, ⟨q3, q5, by rw [HQ.out]; exact hlt2, by rw [HQ.out]; simpa using HA2.out, HO2.out, HB2.out, by have := HGK.out; simp only [List.length_append, List.length_singleton]; omega⟩⟩
          · obtain ⟨e4, e5⟩ := e3 (by omega)
            have hge : gp.2.length ≤ i2 := by omega
            have hgI : (gp.2.length : Int) ≤ (i2 : Int) := by omega
            have HE := Aside0.mk (e4 ▸ m2)
            clear e2 e3 e4 m1 m2
            cases gk with
            | zero => have := M3.out; omega
            | succ ki =>
              go_wp2
              go_roundg ki
              case measure => omega
              case rel =>
                refine ⟨j + 1, i2 - gp.2.length, ?_, ?_, rfl, ⟨e5, HE.out, by have := M3.out; omega, by omega⟩, rfl⟩
                · exact congrArg (Value.int .i64) (by omega)
                · exact congrArg (Value.int .i64) (by omega)
end Go.Proofs.Ytcdjeimjbbknjaa.PAll
namespace Go.Proofs.Ytcdjeimjbbknjaa.PAll
open Go.RowKit Go.Proofs.YtcdjeimjbbknjaaW.PrintWords Go.Proofs.YtcdjeimjbbknjaaW.PrintLast Go.Proofs.YtcdjeimjbbknjaaW.PrintMore Go.Proofs.Ytcdjeimjbbknjaa.Res
set_option linter.unusedVariables false
set_option linter.unusedSimpArgs false

theorem dgok {ns : List Nd} {Q : List (List (List Int))} (h : Inv ns Q) (hq : 0 < Q.length) : GOk ns := by
  have key : ∀ x ∈ ns, ∃ r ∈ Q, IsNd Q x r := by
    intro x hx
    obtain ⟨i, hi, rfl⟩ := List.getElem_of_mem hx
    refine ⟨rdP Q i, rdP_mem (by omega) (by rw [h.len]; omega), ?_⟩
    have := h.nds i hi
    rwa [rdN_get hi] at this
  refine ⟨fun x hx => ?_, fun x hx => ?_, fun x hx k hk => ?_, fun x hx => ?_, by rw [← h.len]; exact hq⟩
  · obtain ⟨r, hr, hn⟩ := key x hx; exact hn.inc (h.srt r hr)
  · obtain ⟨r, hr, hn⟩ := key x hx; exact hn.even
  · obtain ⟨r, hr, hn⟩ := key x hx; rw [← h.len]; exact hn.lead k hk
  · obtain ⟨r, hr, hn⟩ := key x hx
    have hi := hn.inc (h.srt r hr)
    have hs := syms_sym (h.srt r hr) (h.sym r hr)
    rw [← hn.syms] at hs
    have := inc_small hi hs
    omega
theorem dgraph {ws : List (List Int)} (h : Good ws) : ∃ Q, Inv (graphOf ws) Q ∧ 0 < (graphOf ws).length ∧ rdP Q 0 = ws ∧ GOk (graphOf ws) := by
  obtain ⟨Q, _, hi, hq, h0⟩ := graph_spec h
  exact ⟨Q, hi, by rw [← hi.len]; exact hq, h0, dgok hi hq⟩
theorem dcount {ws : List (List Int)} (h : Good ws) : (rdN (graphOf ws) 0).f3 = (ws.length : Int) := by
  obtain ⟨Q, hi, hl, h0, _⟩ := dgraph h
  have := (hi.nds 0 hl).count
  rw [show ((0 : Nat) : Int) = 0 from rfl, h0] at this
  exact this
/-- Every state's words are no more than all. -/
theorem toR_all (p : List (List Int) → Prop) : ∀ (rs P : List (List (List Int))) (ts : List Int), (∀ r ∈ rs, p r) → (∀ r ∈ P, p r) → ∀ r ∈ (toR rs P ts).1, p r
  | [], P, ts, _, hP => hP
  | r :: rs, P, ts, hr, hP => by
    rw [toR]
    refine toR_all p rs _ _ (fun x hx => hr x (List.mem_cons_of_mem _ hx)) fun x hx => ?_
    unfold addP at hx
    split at hx
    · exact hP x hx
    · rcases List.mem_append.1 hx with hx | hx
      · exact hP x hx
      · rw [List.mem_singleton.1 hx]; exact hr r List.mem_cons_self
theorem resG_all (p : List (List Int) → Prop) (hp : ∀ r, p r → ∀ g ∈ groups r, p g.2) : ∀ (f : Nat) (P : List (List (List Int))) (i : Nat) (G : List Nd), (∀ r ∈ P, p r) → ∀ r ∈ (resG f P i G).1, p r
  | 0, P, i, G, h => h
  | f + 1, P, i, G, h => by
    rw [resG]
    split
    · rename_i hi
      have hm : p (rdP P i) := h _ (rdP_mem (by omega) (by omega))
      refine resG_all p hp f _ _ _ (toR_all p _ _ _ (fun x hx => ?_) h)
      obtain ⟨g, hg, rfl⟩ := List.mem_map.1 hx
      exact hp _ hm g hg
    · exact h
theorem mem_sum {α : Type} (f : α → Nat) : ∀ {l : List α} {x : α}, x ∈ l → f x ≤ (l.map f).sum
  | y :: l, x, h => by
    rw [List.map_cons, List.sum_cons]
    rcases List.mem_cons.1 h with rfl | h
    · omega
    · have := mem_sum f h; omega
theorem dresid {ws : List (List Int)} (h : Good ws) : ∃ Q, Inv (graphOf ws) Q ∧ 0 < (graphOf ws).length ∧ rdP Q 0 = ws ∧ ∀ r ∈ Q, Srt r ∧ r.length ≤ ws.length := by
  obtain ⟨Q, e, hi, hq, h0⟩ := graph_spec h
  refine ⟨Q, hi, by rw [← hi.len]; exact hq, h0, ?_⟩
  have := resG_all (fun r => Srt r ∧ r.length ≤ ws.length) (fun r hr g hg => ⟨(groups_ok hr.1 g hg).1, by
    have h1 := res_length hr.1
    have h2 := mem_sum (fun g : Int × List (List Int) => g.2.length) hg
    have := hr.2
    omega⟩) ((nodesOf ws).2.length + 1) [ws] 0 [] (by intro r hr; rw [List.mem_singleton.1 hr]; exact ⟨h.sorted, Nat.le_refl _⟩)
  rwa [e] at this
theorem dl_len {ws : List (List Int)} (h : Good ws) (g : Nat) (w : World) (hg : GraphAt w g (graphOf ws)) : Calls Try.prog 30 #[.pointer (some ⟨g, 0, none⟩)] w fun e w' => e = .returned (.int .i64 (ws.length : Int)) ∧ w = w' := by
  obtain ⟨Q, hi, hl, h0, _⟩ := dgraph h
  have := len_any g _ w hg hl
  rwa [show (rd_T102 (graphOf ws) 0).f3 = (ws.length : Int) from dcount h] at this
theorem dl_lenB {ws : List (List Int)} (h : Good ws) (g : Nat) (w : World) (hg : GraphAt w g (graphOf ws)) : Calls Try.prog 30 #[.pointer (some ⟨g, 0, none⟩)] w fun e w' => e = .returned (.int .i64 (ws.length : Int)) ∧ Below w.heap.size w w' := (dl_len h g w hg).mono fun e w' hh => ⟨hh.1, hh.2 ▸ Below.refl _ _⟩
theorem dl_statesB {ws : List (List Int)} (g : Nat) (w : World) (hg : GraphAt w g (graphOf ws)) : Calls Try.prog 42 #[.pointer (some ⟨g, 0, none⟩)] w fun e w' => e = .returned (.int .i64 ((graphOf ws).length : Int)) ∧ Below w.heap.size w w' := (states_any g _ w hg).mono fun e w' hh => ⟨hh.1, hh.2 ▸ Below.refl _ _⟩
theorem dl_index {ws : List (List Int)} (h : Good ws) (g : Nat) (A0 : Option Addr) (c0 : Nat) (wl : List Int) (w : World) (hg : GraphAt w g (graphOf ws)) (hw : Kd.C (Kd.int .i64) w A0 wl.length wl) (hc : wl.length ≤ c0) :
    Calls Try.prog 22 #[.pointer (some ⟨g, 0, none⟩), .slice A0 wl.length c0] w fun e w' => e = .returned (.tuple #[.int .i64 (if wl ∈ ws then (lessL ws wl : Int) else 0), .bool (decide (wl ∈ ws))]) ∧ Below w.heap.size w w' := by
  obtain ⟨Q, hi, hl, h0, hk⟩ := dgraph h
  have := index_any g _ A0 c0 wl w hg hk hw hc
  rw [index_tells hi hl (by rw [h0]; have := h.few; omega), h0] at this
  by_cases hm : wl ∈ ws
  · rw [if_pos hm] at this
    rw [if_pos hm, decide_eq_true hm]
    exact this
  · rw [if_neg hm] at this
    rw [if_neg hm, decide_eq_false hm]
    exact this
theorem dl_begins {ws : List (List Int)} (h : Good ws) (g : Nat) (A0 : Option Addr) (c0 : Nat) (wl : List Int) (w : World) (hg : GraphAt w g (graphOf ws)) (hw : Kd.C (Kd.int .i64) w A0 wl.length wl) (hc : wl.length ≤ c0) :
    Calls Try.prog 24 #[.pointer (some ⟨g, 0, none⟩), .slice A0 wl.length c0] w fun e w' => e = .returned (.tuple #[.int .i64 (lessL ws wl : Int), .int .i64 ((lessL ws wl : Int) + ((resW ws wl).length : Int))]) ∧ Below w.heap.size w w' := by
  obtain ⟨Q, hi, hl, h0, hk⟩ := dgraph h
  have := begins_any g _ A0 c0 wl w hg hk hw hc
  rwa [begins_tells hi hl (by rw [h0]; have := h.few; omega), h0] at this
theorem dl_states {ws : List (List Int)} (g : Nat) (w : World) (hg : GraphAt w g (graphOf ws)) : Calls Try.prog 42 #[.pointer (some ⟨g, 0, none⟩)] w fun e w' => e = .returned (.int .i64 ((graphOf ws).length : Int)) ∧ w = w' := states_any g _ w hg
theorem dl_word {ws : List (List Int)} (h : Good ws) (g : Nat) (i : Nat) (hi : i < ws.length) (w : World) (hg : GraphAt w g (graphOf ws)) :
    Calls Try.prog 26 #[.pointer (some ⟨g, 0, none⟩), .int .i64 (i : Int)] w fun e w' => ∃ A c, e = .returned (.tuple #[.slice A (rdR ws (i : Int)).length c, .bool true]) ∧ (rdR ws (i : Int)).length ≤ c ∧ Kd.C (Kd.int .i64) w' A (rdR ws (i : Int)).length (rdR ws (i : Int)) ∧ Below w.heap.size w w' := by
  obtain ⟨Q, hI, hl, h0, hs⟩ := dresid h
  have hr : (rdP Q 0).getD i [] = rdR ws (i : Int) := by rw [h0, rdR_nat]
  refine (word_any hI hl (fun r hr => by have := (hs r hr).2; have := h.few; omega) g i (by rw [h0]; exact hi) _ hr (by rw [rdR_get hi]; have := h.short _ (List.getElem_mem hi); omega) w hg).mono ?_
  rintro e w' ⟨v, rfl, hR, hb⟩
  obtain ⟨A, c, rfl, hl, hC⟩ := Kd.R_reads hR
  exact ⟨A, c, rfl, hl, hC, hb⟩
end Go.Proofs.Ytcdjeimjbbknjaa.PAll
namespace Go.Proofs.Ytcdjeimjbbknjaa.PAll
open Go.RowKit Go.Proofs.YtcdjeimjbbknjaaW.PrintWords Go.Proofs.YtcdjeimjbbknjaaW.PrintLast Go.Proofs.YtcdjeimjbbknjaaW.PrintMore Go.Proofs.Ytcdjeimjbbknjaa.Res
set_option linter.unusedVariables false
set_option linter.unusedSimpArgs false

def l15W : List (List Int) := [[0], [0, 1], [2, 1]]
def l15L : List Int := [4, 4, 0, 1, 2, 2, 3, 1, 3, 2, 1, 3, 1]
theorem l15_good : Good l15W := by
  refine ⟨?_, ?_, ?_, ?_, ?_⟩ <;> decide
theorem l15_list : listN (graphOf l15W) = l15L := by kernel_rfl
theorem l15_states : (graphOf l15W).length = 4 := by kernel_rfl
theorem l15_bytes : wordbookref01_Ints.f 20 l15L = some (listB l15L) := by kernel_rfl
theorem l15_byt : byt (listB l15L) ∧ (listB l15L).length ≤ 1000 := by
  refine ⟨listB_byt ?_ (by decide), of_decide_eq_true (by kernel_rfl)⟩
  rw [← l15_list]; exact (graph_list l15_good).2.2.2.2
theorem l15_dec : decN (listB l15L) = (l15W, 0) := by rw [← l15_list]; exact decN_listB l15_good
theorem l15_build (w : World) : Calls Try.prog 19 #[.slice (some ⟨w.heap.size + 1 + 1 + 1, 0, none⟩) 3 3]
    ((((w.alloc (.cells #[.int .i64 0] 3)).alloc (.cells #[.int .i64 0, .int .i64 1] 3)).alloc (.cells #[.int .i64 2, .int .i64 1] 3)).alloc (.cells #[.slice (some ⟨w.heap.size, 0, none⟩) 1 1, .slice (some ⟨w.heap.size + 1, 0, none⟩) 2 2, .slice (some ⟨w.heap.size + 1 + 1, 0, none⟩) 2 2] 22))
    fun e w' => ∃ g, e = .returned (.tuple #[.pointer (some ⟨g, 0, none⟩), .int .i64 0]) ∧ GraphAt w' g (graphOf l15W) ∧ Below w.heap.size w w' := by
  have s1 : (w.alloc (.cells #[.int .i64 0] 3)).heap.size = w.heap.size + 1 := by simp
  have s2 : ((w.alloc (.cells #[.int .i64 0] 3)).alloc (.cells #[.int .i64 0, .int .i64 1] 3)).heap.size = w.heap.size + 1 + 1 := by simp
  have s3 : (((w.alloc (.cells #[.int .i64 0] 3)).alloc (.cells #[.int .i64 0, .int .i64 1] 3)).alloc (.cells #[.int .i64 2, .int .i64 1] 3)).heap.size = w.heap.size + 1 + 1 + 1 := by simp
  have b0 : (((w.alloc (.cells #[.int .i64 0] 3)).alloc (.cells #[.int .i64 0, .int .i64 1] 3)).alloc (.cells #[.int .i64 2, .int .i64 1] 3)).heap[w.heap.size]? = some (.cells #[.int .i64 0] 3 (0, 0)) := blk_alloc (blk_alloc (blk_new _ _) _) _
  have b1 : (((w.alloc (.cells #[.int .i64 0] 3)).alloc (.cells #[.int .i64 0, .int .i64 1] 3)).alloc (.cells #[.int .i64 2, .int .i64 1] 3)).heap[w.heap.size + 1]? = some (.cells #[.int .i64 0, .int .i64 1] 3 (0, 0)) := by rw [← s1]; exact blk_alloc (blk_new _ _) _
  have b2 : (((w.alloc (.cells #[.int .i64 0] 3)).alloc (.cells #[.int .i64 0, .int .i64 1] 3)).alloc (.cells #[.int .i64 2, .int .i64 1] 3)).heap[w.heap.size + 1 + 1]? = some (.cells #[.int .i64 2, .int .i64 1] 3 (0, 0)) := by rw [← s2]; exact blk_new _ _
  have hB : Below w.heap.size w (((w.alloc (.cells #[.int .i64 0] 3)).alloc (.cells #[.int .i64 0, .int .i64 1] 3)).alloc (.cells #[.int .i64 2, .int .i64 1] 3)) := below_alloc (below_alloc (below_alloc (Below.refl _ w) _) _ |>.mono (by simp)) _ |>.mono (by simp)
  generalize ((w.alloc (.cells #[.int .i64 0] 3)).alloc (.cells #[.int .i64 0, .int .i64 1] 3)).alloc (.cells #[.int .i64 2, .int .i64 1] 3) = W4 at *
  rw [← s3]
  have c0 : Kd.C (Kd.int .i64) (W4.alloc (.cells #[.slice (some ⟨w.heap.size, 0, none⟩) 1 1, .slice (some ⟨w.heap.size + 1, 0, none⟩) 2 2, .slice (some ⟨w.heap.size + 1 + 1, 0, none⟩) 2 2] 22)) (some ⟨w.heap.size, 0, none⟩) 1 [0] := cb_ints (xs := [0]) (blk_alloc b0 _) (by decide)
  have c1 : Kd.C (Kd.int .i64) (W4.alloc (.cells #[.slice (some ⟨w.heap.size, 0, none⟩) 1 1, .slice (some ⟨w.heap.size + 1, 0, none⟩) 2 2, .slice (some ⟨w.heap.size + 1 + 1, 0, none⟩) 2 2] 22)) (some ⟨w.heap.size + 1, 0, none⟩) 2 [0, 1] := cb_ints (xs := [0, 1]) (blk_alloc b1 _) (by decide)
  have c2 : Kd.C (Kd.int .i64) (W4.alloc (.cells #[.slice (some ⟨w.heap.size, 0, none⟩) 1 1, .slice (some ⟨w.heap.size + 1, 0, none⟩) 2 2, .slice (some ⟨w.heap.size + 1 + 1, 0, none⟩) 2 2] 22)) (some ⟨w.heap.size + 1 + 1, 0, none⟩) 2 [2, 1] := cb_ints (xs := [2, 1]) (blk_alloc b2 _) (by decide)
  have bb := blk_new W4 (.cells #[.slice (some ⟨w.heap.size, 0, none⟩) 1 1, .slice (some ⟨w.heap.size + 1, 0, none⟩) 2 2, .slice (some ⟨w.heap.size + 1 + 1, 0, none⟩) 2 2] 22)
  have hB2 : Below w.heap.size w (W4.alloc (.cells #[.slice (some ⟨w.heap.size, 0, none⟩) 1 1, .slice (some ⟨w.heap.size + 1, 0, none⟩) 2 2, .slice (some ⟨w.heap.size + 1 + 1, 0, none⟩) 2 2] 22)) := below_alloc hB _
  generalize W4.alloc (.cells #[.slice (some ⟨w.heap.size, 0, none⟩) 1 1, .slice (some ⟨w.heap.size + 1, 0, none⟩) 2 2, .slice (some ⟨w.heap.size + 1 + 1, 0, none⟩) 2 2] 22) = W5 at *
  have hr : Reps ((Kd.slice 3 (Kd.int .i64)).K W5) 1 l15W [.slice (some ⟨w.heap.size, 0, none⟩) 1 1, .slice (some ⟨w.heap.size + 1, 0, none⟩) 2 2, .slice (some ⟨w.heap.size + 1 + 1, 0, none⟩) 2 2] :=
    (((Reps.none _ _).snoc (p := [0]) (c := [.slice (some ⟨w.heap.size, 0, none⟩) 1 1]) ⟨_, _, rfl, Nat.le_refl _, c0⟩ rfl).snoc (p := [0, 1]) (c := [.slice (some ⟨w.heap.size + 1, 0, none⟩) 2 2]) ⟨_, _, rfl, Nat.le_refl _, c1⟩ rfl).snoc (p := [2, 1]) (c := [.slice (some ⟨w.heap.size + 1 + 1, 0, none⟩) 2 2]) ⟨_, _, rfl, Nat.le_refl _, c2⟩ rfl
  have hC : Kd.C (Kd.slice 3 (Kd.int .i64)) W5 (some ⟨W4.heap.size, 0, none⟩) l15W.length l15W := cb_block bb hr (by decide)
  refine (build_good _ 3 l15W W5 hC (by decide) l15_good).mono ?_
  rintro e w' ⟨g, rfl, hg, hb, _⟩
  exact ⟨g, rfl, hg, hB2.trans (hb.mono hB2.size)⟩
theorem l15_ints (W : World) : Calls Try.prog 39 #[.slice (some ⟨W.heap.size, 0, none⟩) 13 13] (W.alloc (.cells #[.int .i64 4, .int .i64 4, .int .i64 0, .int .i64 1, .int .i64 2, .int .i64 2, .int .i64 3, .int .i64 1, .int .i64 3, .int .i64 2, .int .i64 1, .int .i64 3, .int .i64 1] 3))
    fun e w' => ∃ A c, e = .returned (.slice A (listB l15L).length c) ∧ (listB l15L).length ≤ c ∧ Kd.C (Kd.int .u8) w' A (listB l15L).length (listB l15L) ∧ Below W.heap.size W w' := by
  have hb := below_alloc (Below.refl W.heap.size W) (.cells (encs (Value.int .i64) l15L).toArray 3)
  refine (wordbookref01_Ints.calls 20 _ 13 l15L (listB l15L) _ (cb_new W l15L (by decide)) (by decide) l15_bytes).mono ?_
  rintro e w' ⟨v, rfl, hR, hb2⟩
  obtain ⟨A, c, rfl, hl, hC⟩ := Kd.R_reads hR
  exact ⟨A, c, rfl, hl, hC, hb.trans (hb2.mono hb.size)⟩
theorem l15_decode (A : Option Addr) (c : Nat) (W : World) (hC : Kd.C (Kd.int .u8) W A (listB l15L).length (listB l15L)) (hc : (listB l15L).length ≤ c) :
    Calls Try.prog 36 #[.slice A (listB l15L).length c] W fun e w' => ∃ g, e = .returned (.tuple #[.pointer (some ⟨g, 0, none⟩), .int .i64 0]) ∧ GraphAt w' g (graphOf l15W) ∧ Below W.heap.size W w' := by
  refine (decode_any A c _ W hC hc l15_byt.1 (by have := l15_byt.2; omega)).mono ?_
  rintro e w' ⟨hb, h⟩
  rw [l15_dec] at h
  rcases h with ⟨_, g, rfl, hg⟩ | ⟨h, _⟩
  · exact ⟨g, rfl, hg, hb⟩
  · exact absurd rfl h
theorem l15_index (W : World) (g : Nat) (hg : GraphAt W g (graphOf l15W)) (xs : List Int) (hx : xs.length ≤ 1000) (i : Int) (b : Bool) (hi : (if xs ∈ l15W then (lessL l15W xs : Int) else 0) = i) (hb : decide (xs ∈ l15W) = b) :
    Calls Try.prog 22 #[.pointer (some ⟨g, 0, none⟩), .slice (some ⟨W.heap.size, 0, none⟩) xs.length xs.length] (W.alloc (.cells (encs (Value.int .i64) xs).toArray 3)) fun e w' => e = .returned (.tuple #[.int .i64 i, .bool b]) ∧ Below W.heap.size W w' := by
  have h0 := below_alloc (Below.refl W.heap.size W) (.cells (encs (Value.int .i64) xs).toArray 3)
  refine (dl_index l15_good g _ _ xs _ (hg.below h0) (cb_new W xs (by omega)) (Nat.le_refl _)).mono ?_
  rintro e w' ⟨rfl, h1⟩
  exact ⟨by rw [hi, hb], h0.trans (h1.mono h0.size)⟩
theorem l15_begins (W : World) (g : Nat) (hg : GraphAt W g (graphOf l15W)) (xs : List Int) (hx : xs.length ≤ 1000) (i j : Int) (hi : (lessL l15W xs : Int) = i) (hj : (lessL l15W xs : Int) + ((resW l15W xs).length : Int) = j) :
    Calls Try.prog 24 #[.pointer (some ⟨g, 0, none⟩), .slice (some ⟨W.heap.size, 0, none⟩) xs.length xs.length] (W.alloc (.cells (encs (Value.int .i64) xs).toArray 3)) fun e w' => e = .returned (.tuple #[.int .i64 i, .int .i64 j]) ∧ Below W.heap.size W w' := by
  have h0 := below_alloc (Below.refl W.heap.size W) (.cells (encs (Value.int .i64) xs).toArray 3)
  refine (dl_begins l15_good g _ _ xs _ (hg.below h0) (cb_new W xs (by omega)) (Nat.le_refl _)).mono ?_
  rintro e w' ⟨rfl, h1⟩
  exact ⟨by rw [hj, hi], h0.trans (h1.mono h0.size)⟩
theorem l15_i1 (W : World) (g : Nat) (hg : GraphAt W g (graphOf l15W)) : Calls Try.prog 22 #[.pointer (some ⟨g, 0, none⟩), .slice (some ⟨W.heap.size, 0, none⟩) 2 2] (W.alloc (.cells #[.int .i64 2, .int .i64 1] 3)) fun e w' => e = .returned (.tuple #[.int .i64 2, .bool true]) ∧ Below W.heap.size W w' := l15_index W g hg [2, 1] (by decide) 2 true (by kernel_rfl) (by kernel_rfl)
theorem l15_i2 (W : World) (g : Nat) (hg : GraphAt W g (graphOf l15W)) : Calls Try.prog 22 #[.pointer (some ⟨g, 0, none⟩), .slice (some ⟨W.heap.size, 0, none⟩) 1 1] (W.alloc (.cells #[.int .i64 2] 3)) fun e w' => e = .returned (.tuple #[.int .i64 0, .bool false]) ∧ Below W.heap.size W w' := l15_index W g hg [2] (by decide) 0 false (by kernel_rfl) (by kernel_rfl)
theorem l15_b1 (W : World) (g : Nat) (hg : GraphAt W g (graphOf l15W)) : Calls Try.prog 24 #[.pointer (some ⟨g, 0, none⟩), .slice (some ⟨W.heap.size, 0, none⟩) 1 1] (W.alloc (.cells #[.int .i64 0] 3)) fun e w' => e = .returned (.tuple #[.int .i64 0, .int .i64 2]) ∧ Below W.heap.size W w' := l15_begins W g hg [0] (by decide) 0 2 (by kernel_rfl) (by kernel_rfl)
theorem l15_b2 (W : World) (g : Nat) (hg : GraphAt W g (graphOf l15W)) : Calls Try.prog 24 #[.pointer (some ⟨g, 0, none⟩), .slice (some ⟨W.heap.size, 0, none⟩) 1 1] (W.alloc (.cells #[.int .i64 2] 3)) fun e w' => e = .returned (.tuple #[.int .i64 2, .int .i64 3]) ∧ Below W.heap.size W w' := l15_begins W g hg [2] (by decide) 2 3 (by kernel_rfl) (by kernel_rfl)
theorem l15_b3 (W : World) (g : Nat) (hg : GraphAt W g (graphOf l15W)) : Calls Try.prog 24 #[.pointer (some ⟨g, 0, none⟩), .slice (some ⟨W.heap.size, 0, none⟩) 1 1] (W.alloc (.cells #[.int .i64 1] 3)) fun e w' => e = .returned (.tuple #[.int .i64 2, .int .i64 2]) ∧ Below W.heap.size W w' := l15_begins W g hg [1] (by decide) 2 2 (by kernel_rfl) (by kernel_rfl)
theorem l15_b4 (W : World) (g : Nat) (hg : GraphAt W g (graphOf l15W)) : Calls Try.prog 24 #[.pointer (some ⟨g, 0, none⟩), .slice none 0 0] W fun e w' => e = .returned (.tuple #[.int .i64 0, .int .i64 3]) ∧ Below W.heap.size W w' := by
  have := dl_begins l15_good g none 0 [] W hg (Kd.C_nil _ _) (Nat.le_refl _)
  exact this
theorem l15_w1 (W : World) (g : Nat) (hg : GraphAt W g (graphOf l15W)) : Calls Try.prog 26 #[.pointer (some ⟨g, 0, none⟩), .int .i64 1] W fun e w' => ∃ A c, e = .returned (.tuple #[.slice A 2 c, .bool true]) ∧ 2 ≤ c ∧ Kd.C (Kd.int .i64) w' A 2 [0, 1] ∧ Below W.heap.size W w' := dl_word l15_good g 1 (by decide) W hg
theorem l15_same (W W' : World) (A : Option Addr) (c : Nat) (hc : 2 ≤ c) (hC : Kd.C (Kd.int .i64) W A 2 [0, 1]) : Calls Try.prog 27 #[.slice A 2 c, .slice (some ⟨W.heap.size, 0, none⟩) 2 2] (W.alloc (.cells #[.int .i64 0, .int .i64 1] 3)) fun e w' => e = .returned (.bool true) ∧ Below W.heap.size W w' := by
  have h0 := below_alloc (Below.refl W.heap.size W) (.cells #[.int .i64 0, .int .i64 1] 3)
  refine (wordbookref01_SameInts.calls 10 A c [0, 1] _ 2 [0, 1] true _ (Kd.C_below hC h0) hc (cb_new W [0, 1] (by decide)) (by decide) (by rw [sameInts_is _ _ (by decide) _ (by decide)]; rfl)).mono ?_
  rintro e w' ⟨rfl, hd⟩
  exact ⟨rfl, h0.trans (hd.below.mono h0.size)⟩
end Go.Proofs.Ytcdjeimjbbknjaa.PAll
namespace Go.Proofs.Ytcdjeimjbbknjaa.PAll
open Go.RowKit Go.Proofs.YtcdjeimjbbknjaaW.PrintWords Go.Proofs.YtcdjeimjbbknjaaW.PrintLast Go.Proofs.YtcdjeimjbbknjaaW.PrintMore Go.Proofs.Ytcdjeimjbbknjaa.Res
set_option linter.unusedVariables false
set_option linter.unusedSimpArgs false

theorem l15_len (W : World) (g : Nat) (hg : GraphAt W g (graphOf l15W)) : Calls Try.prog 30 #[.pointer (some ⟨g, 0, none⟩)] W fun e w' => e = .returned (.int .i64 3) ∧ Below W.heap.size W w' := dl_lenB l15_good g W hg
theorem l15_st (W : World) (g : Nat) (hg : GraphAt W g (graphOf l15W)) : Calls Try.prog 42 #[.pointer (some ⟨g, 0, none⟩)] W fun e w' => e = .returned (.int .i64 4) ∧ Below W.heap.size W w' := by
  have := dl_statesB (ws := l15W) g W hg
  rwa [l15_states] at this
set_option maxHeartbeats 8000000 in
set_option maxRecDepth 100000 in
theorem lives15 (w : World) : Calls Try.prog 28 #[] w fun e w' => e = .returned (.bool true) ∧ Below w.heap.size w w' := by
  go_enter Try.func28, Try.ntmps28
  go_wp2_with (first
    | (go_at_call 19; ((with_reducible refine (l15_build w).mono ?_); rintro e w1 ⟨g, rfl, hG1, hb1⟩; have HG1 := Aside0.mk (hG1); have HB1 := Aside0.mk (hb1); clear hb1 hG1))
    | (go_at_call 39; ((with_reducible refine (l15_ints _).mono ?_); rintro e w2 ⟨Ab, cb, rfl, hlb, hC2, hb2⟩; have HG2 := Aside0.mk (GraphAt.below HG1.out hb2); clear HG1; have HB2 := Aside0.mk (HB1.out.trans (hb2.mono HB1.out.size)); clear HB1; have Hb2 := Aside0.mk (hC2); clear hb2 hC2))
    | (go_at_call 36; ((with_reducible refine (l15_decode Ab cb _ Hb2.out hlb).mono ?_); rintro e w3 ⟨h, rfl, hG3, hb3⟩; have HG3 := Aside0.mk (GraphAt.below HG2.out hb3); clear HG2; have HB3 := Aside0.mk (HB2.out.trans (hb3.mono HB2.out.size)); clear HB2; clear Hb2; have HH3 := Aside0.mk (hG3); clear hb3 hG3))
    | (go_at_call 22; ((with_reducible refine (l15_i1 _ g HG3.out).mono ?_); rintro e w4 ⟨rfl, hb4⟩; have HG4 := Aside0.mk (GraphAt.below HG3.out hb4); clear HG3; have HB4 := Aside0.mk (HB3.out.trans (hb4.mono HB3.out.size)); clear HB3; have HH4 := Aside0.mk (GraphAt.below HH3.out hb4); clear HH3; clear hb4))
    | (go_at_call 22; ((with_reducible refine (l15_i2 _ g HG4.out).mono ?_); rintro e w5 ⟨rfl, hb5⟩; have HG5 := Aside0.mk (GraphAt.below HG4.out hb5); clear HG4; have HB5 := Aside0.mk (HB4.out.trans (hb5.mono HB4.out.size)); clear HB4; have HH5 := Aside0.mk (GraphAt.below HH4.out hb5); clear HH4; clear hb5))
    | (go_at_call 26; ((with_reducible refine (l15_w1 _ h HH5.out).mono ?_); rintro e w6 ⟨Aw, cw, rfl, hlw, hC6, hb6⟩; have HG6 := Aside0.mk (GraphAt.below HG5.out hb6); clear HG5; have HB6 := Aside0.mk (HB5.out.trans (hb6.mono HB5.out.size)); clear HB5; have HH6 := Aside0.mk (GraphAt.below HH5.out hb6); clear HH5; have HW6 := Aside0.mk (hC6); clear hb6 hC6))
    | (go_at_call 24; ((with_reducible refine (l15_b1 _ g HG6.out).mono ?_); rintro e w7 ⟨rfl, hb7⟩; have HG7 := Aside0.mk (GraphAt.below HG6.out hb7); clear HG6; have HB7 := Aside0.mk (HB6.out.trans (hb7.mono HB6.out.size)); clear HB6; have HH7 := Aside0.mk (GraphAt.below HH6.out hb7); clear HH6; have HW7 := Aside0.mk (Kd.C_below HW6.out hb7); clear HW6; clear hb7))
    | (go_at_call 24; ((with_reducible refine (l15_b2 _ g HG7.out).mono ?_); rintro e w8 ⟨rfl, hb8⟩; have HG8 := Aside0.mk (GraphAt.below HG7.out hb8); clear HG7; have HB8 := Aside0.mk (HB7.out.trans (hb8.mono HB7.out.size)); clear HB7; have HH8 := Aside0.mk (GraphAt.below HH7.out hb8); clear HH7; have HW8 := Aside0.mk (Kd.C_below HW7.out hb8); clear HW7; clear hb8))
    | (go_at_call 24; ((with_reducible refine (l15_b3 _ g HG8.out).mono ?_); rintro e w9 ⟨rfl, hb9⟩; have HG9 := Aside0.mk (GraphAt.below HG8.out hb9); clear HG8; have HB9 := Aside0.mk (HB8.out.trans (hb9.mono HB8.out.size)); clear HB8; have HH9 := Aside0.mk (GraphAt.below HH8.out hb9); clear HH8; have HW9 := Aside0.mk (Kd.C_below HW8.out hb9); clear HW8; clear hb9))
    | (go_at_call 24; ((with_reducible refine (l15_b4 _ g HG9.out).mono ?_); rintro e w10 ⟨rfl, hb10⟩; have HG10 := Aside0.mk (GraphAt.below HG9.out hb10); clear HG9; have HB10 := Aside0.mk (HB9.out.trans (hb10.mono HB9.out.size)); clear HB9; have HH10 := Aside0.mk (GraphAt.below HH9.out hb10); clear HH9; have HW10 := Aside0.mk (Kd.C_below HW9.out hb10); clear HW9; clear hb10))
    | (go_at_call 30; ((with_reducible refine (l15_len _ g HG10.out).mono ?_); rintro e w11 ⟨rfl, hb11⟩; have HG11 := Aside0.mk (GraphAt.below HG10.out hb11); clear HG10; have HB11 := Aside0.mk (HB10.out.trans (hb11.mono HB10.out.size)); clear HB10; have HH11 := Aside0.mk (GraphAt.below HH10.out hb11); clear HH10; have HW11 := Aside0.mk (Kd.C_below HW10.out hb11); clear HW10; clear hb11))
    | (go_at_call 42; ((with_reducible refine (l15_st _ g HG11.out).mono ?_); rintro e w12 ⟨rfl, hb12⟩; have HG12 := Aside0.mk (GraphAt.below HG11.out hb12); clear HG11; have HB12 := Aside0.mk (HB11.out.trans (hb12.mono HB11.out.size)); clear HB11; have HH12 := Aside0.mk (GraphAt.below HH11.out hb12); clear HH11; have HW12 := Aside0.mk (Kd.C_below HW11.out hb12); clear HW11; clear hb12))
    | (go_at_call 42; ((with_reducible refine (l15_st _ h HH12.out).mono ?_); rintro e w13 ⟨rfl, hb13⟩; have HG13 := Aside0.mk (GraphAt.below HG12.out hb13); clear HG12; have HB13 := Aside0.mk (HB12.out.trans (hb13.mono HB12.out.size)); clear HB12; have HH13 := Aside0.mk (GraphAt.below HH12.out hb13); clear HH12; have HW13 := Aside0.mk (Kd.C_below HW12.out hb13); clear HW12; clear hb13))
    | (go_at_call 27; ((with_reducible refine (l15_same _ w Aw cw hlw HW13.out).mono ?_); rintro e w14 ⟨rfl, hb14⟩; have HG14 := Aside0.mk (GraphAt.below HG13.out hb14); clear HG13; have HB14 := Aside0.mk (HB13.out.trans (hb14.mono HB13.out.size)); clear HB13; have HH14 := Aside0.mk (GraphAt.below HH13.out hb14); clear HH13; clear HW13; clear hb14))
    | fail)
  go_ret
  exact ⟨rfl, HB14.out⟩
end Go.Proofs.Ytcdjeimjbbknjaa.PAll
namespace Go.Proofs.Ytcdjeimjbbknjaa.PAll
open Go.RowKit Go.Proofs.YtcdjeimjbbknjaaW.PrintWords Go.Proofs.YtcdjeimjbbknjaaW.PrintLast Go.Proofs.YtcdjeimjbbknjaaW.PrintMore Go.Proofs.Ytcdjeimjbbknjaa.Lev
set_option linter.unusedVariables false
set_option linter.unusedSimpArgs false

/-- 'xs[m:]' of a slice that is read. -/
theorem cut_drop {k : IntKind} {t e : TypeId} {b : Nat} (ht : Try.prog.underlying t = some (.slice e)) (hinfo : (Try.prog.info? e).map (fun i => (i.zero, i.size, i.bytes)) = some (some (Value.int k 0), 1, b)) (A : Option Addr) (c : Nat) (xs : List Int) (m : Nat) (hm : m ≤ xs.length) (hc : xs.length ≤ c) :
    ∃ A' : Option Addr, (∀ W : World, (Instr.slice t (.slice A xs.length c) (some (.int .i64 (m : Int))) none none).run Try.prog W = .ok (.slice A' (xs.length - m) (c - m)) W) ∧ (∀ w : World, Kd.C (Kd.int k) w A xs.length xs → Kd.C (Kd.int k) w A' (xs.length - m) (xs.drop m)) ∧ xs.length - m ≤ c - m := by
  obtain ⟨i0, hi, _, hsz, _⟩ := info_parts hinfo
  obtain ⟨A', hcut, hA, hC⟩ := print_drop_of (P := Try.prog) (Value.int k) 0 t e .i64 ht hi hsz A c xs (m : Int) (by omega) (by omega) hc
  have hl : (xs.drop (m : Int).toNat).length = xs.length - m := by rw [List.length_drop]; omega
  rw [hl] at hcut hA
  exact ⟨A', by simpa using hcut, fun w h => by have h2 : (Kd.int k).C w A' (xs.length - m) (xs.drop (m : Int).toNat) := Kd.C_of_reads (hA w (Kd.reads_of_C h)); rwa [Int.toNat_natCast] at h2, by omega⟩

def around (n most : Int) : Int := Int.tmod (if n < 0 then -(n + 1) else n) most
theorem around_is (n most : Int) (h0 : 0 < most) (hn : -9223372036854775808 ≤ n ∧ n ≤ 9223372036854775807) : wordbookref01_Around.f n most = some (around n most) := by
  unfold wordbookref01_Around.f around
  by_cases h : n < 0
  · rw [if_pos h, if_neg (by omega), if_pos h]
    have e1 : wrap64 (n + 1) = n + 1 := by unfold wrap64; omega
    have e2 : wrap64 (-(n + 1)) = -(n + 1) := by unfold wrap64; omega
    rw [e1, e2]
  · rw [if_neg h, if_neg (by omega), if_neg h]
theorem around_range (n most : Int) (h0 : 0 < most) : 0 ≤ around n most ∧ around n most < most := by
  unfold around
  have h : 0 ≤ (if n < 0 then -(n + 1) else n) := by split <;> omega
  generalize (if n < 0 then -(n + 1) else n) = q at *
  rw [Int.tmod_eq_emod_of_nonneg h]
  exact ⟨Int.emod_nonneg _ (by omega), Int.emod_lt_of_pos _ h0⟩
theorem around_calls (n most : Int) (w : World) (h0 : 0 < most) (hn : -9223372036854775808 ≤ n ∧ n ≤ 9223372036854775807) :
    Calls Try.prog 18 #[.int .i64 n, .int .i64 most] w fun e w' => e = .returned (.int .i64 (around n most)) ∧ Drawn0 w w' :=
  wordbookref01_Around.calls n most _ w (around_is n most h0 hn)

def edited (w : List Int) (kind at_ x : Int) : List Int :=
  if kind = 0 then put_ w (around at_ (w.length + 1)).toNat x
  else if w.length = 0 then [] else if kind = 2 then set_ w (around at_ w.length).toNat x else cut_ w (around at_ w.length).toNat
def editOk (l0 : List Int) (a2 : Int) : Prop := l0.length ≤ 1000000000000 ∧ -9223372036854775808 ≤ a2 ∧ a2 ≤ 9223372036854775807
instance (l0 : List Int) (a2 : Int) : Decidable (editOk l0 a2) := by unfold editOk; infer_instance
def wordbookref16_Edited.f (l0 : List Int) (a1 : Int) (a2 : Int) (a3 : Int) : Option (List Int) := if editOk l0 a2 then some (edited l0 a1 a2 a3) else none
set_option maxHeartbeats 4000000 in
set_option maxRecDepth 100000 in
theorem edited_put (A0 : Option Addr) (c0 : Nat) (l0 : List Int) (a2 a3 : Int) (w : World) (hr0 : Kd.C (Kd.int .i64) w A0 l0.length l0) (hc0 : l0.length ≤ c0) (hok : editOk l0 a2) :
    Calls Try.prog 59 #[.slice A0 l0.length c0, .int .i64 0, .int .i64 a2, .int .i64 a3] w fun e w' => ∃ v0_ : Value, e = .returned (v0_) ∧ Kd.R (Kd.int .i64) 3 w' w.heap.size (fun _ => True) v0_ (edited l0 0 a2 a3) ∧ Below w.heap.size w w' := by
  obtain ⟨hl, hb⟩ := hok
  obtain ⟨r0, r1⟩ := around_range a2 ((l0.length : Int) + 1) (by omega)
  have HA := Aside0.mk (fun W => around_calls a2 ((l0.length : Int) + 1) W (by omega) hb)
  have HF : Aside0 (edited l0 0 a2 a3 = put_ l0 (around a2 (l0.length + 1)).toNat a3) := ⟨by simp [edited]⟩
  clear hb
  generalize around a2 ((l0.length : Int) + 1) = q at *
  obtain ⟨m, rfl⟩ := Int.eq_ofNat_of_zero_le r0
  obtain ⟨hcut, hC⟩ := cut_take (k := .i64) Try.underlying22 info3 A0 c0 l0 m (by omega) hc0
  obtain ⟨A', hcut', hC', hc'⟩ := cut_drop (k := .i64) Try.underlying22 info3 A0 c0 l0 m (by omega) hc0
  have HR := Aside0.mk hr0
  have HC := Aside0.mk hC
  have HC' := Aside0.mk hC'
  have HL := Aside0.mk (show (l0.take m).length = m by rw [List.length_take]; omega)
  have HL' := Aside0.mk (show (l0.drop m).length = l0.length - m by rw [List.length_drop])
  clear hr0 hC hC'
  have hml : m ≤ l0.length := by omega
  clear r1 r0
  go_enter Try.func59, Try.ntmps59
  go_wp2_with (first | (go_at_call 18; refine (HA.out _).mono ?_; rintro e w' ⟨rfl, ⟨nd, rfl⟩⟩) | (at_builtin; refine Kd.R_append_rows (Kd.int .i64) (w0 := w) w.heap.size rfl (.tmp 19) (.tmp 22) 22 3 (.int .i64 0) 8 rfl Try.underlying22 info3 rfl (by decide) (by omega) (.slice none 0 0) ([] : List Int) (l0.take m) A0 m c0 (fun _ => True) (fun _ => False) rfl rfl (Kd.R_nil _ _ _ _ _) (HC.out _ (Kd.C_drewN HR.out nd)) (fun _ _ h => h) (fun _ h => h.elim) (fun _ _ => trivial) (pw_below_drewN (Below.refl _ _) nd) (Nat.le_refl _) (by simp only [List.length_nil]; omega) ?_; intro v1 w1 HO1 HB1 _ _; rw [List.nil_append] at HO1; have HO1 := Aside0.mk HO1; have HB1 := Aside0.mk HB1) | (at_builtin; refine Kd.R_append (Kd.int .i64) (w0 := w) w.heap.size rfl (.tmp 23) (.tmp 25) 22 3 (.int .i64 0) 8 rfl Try.underlying22 info3 rfl (by decide) (by omega) v1 (l0.take m) a3 [.int .i64 a3] (fun _ => True) (fun _ => False) rfl rfl rfl (fun _ h => h.elim) (fun _ _ => trivial) HO1.out HB1.out HB1.out.size (by have := HL.out; omega) ?_; intro v2 w2 HO2 HB2 _ _; have HO2 := Aside0.mk HO2; have HB2 := Aside0.mk HB2) | (at_builtin; refine Kd.R_append_rows (Kd.int .i64) (w0 := w) w.heap.size rfl (.tmp 27) (.tmp 30) 22 3 (.int .i64 0) 8 rfl Try.underlying22 info3 rfl (by decide) (by omega) v2 (l0.take m ++ [a3]) (l0.drop m) A' (l0.length - m) (c0 - m) (fun _ => True) (fun _ => False) rfl rfl HO2.out (HC'.out _ (Kd.C_below HR.out HB2.out)) (fun _ _ h => h) (fun _ h => h.elim) (fun _ _ => trivial) HB2.out HB2.out.size (by have := HL.out; simp only [List.length_append, List.length_singleton]; omega) ?_; intro v3 w3 HO3 HB3 _ _; have HO3 := Aside0.mk HO3; have HB3 := Aside0.mk HB3))
  go_ret
  exact ⟨_, rfl, by rw [HF.out, put_, Int.toNat_natCast]; simpa using HO3.out, HB3.out⟩
set_option maxHeartbeats 4000000 in
set_option maxRecDepth 100000 in
theorem edited_set (A0 : Option Addr) (c0 : Nat) (l0 : List Int) (a1 a2 a3 : Int) (w : World) (hr0 : Kd.C (Kd.int .i64) w A0 l0.length l0) (hc0 : l0.length ≤ c0) (hok : editOk l0 a2) (ha : ¬ a1 = 0) (hpos : 0 < l0.length) (hb2 : a1 = 2) :
    Calls Try.prog 59 #[.slice A0 l0.length c0, .int .i64 a1, .int .i64 a2, .int .i64 a3] w fun e w' => ∃ v0_ : Value, e = .returned (v0_) ∧ Kd.R (Kd.int .i64) 3 w' w.heap.size (fun _ => True) v0_ (edited l0 a1 a2 a3) ∧ Below w.heap.size w w' := by
  have h0 : (a1 == 0) = false := beq_eq_false_iff_ne.2 ha
  have h1 : ((l0.length : Int) == 0) = false := beq_eq_false_iff_ne.2 (by omega)
  have h2 : (a1 == 2) = true := beq_iff_eq.2 hb2
  obtain ⟨hl, hb⟩ := hok
  obtain ⟨r0, r1⟩ := around_range a2 (l0.length : Int) (by omega)
  have HA := Aside0.mk (fun W => around_calls a2 (l0.length : Int) W (by omega) hb)
  have HF : Aside0 (edited l0 a1 a2 a3 = set_ l0 (around a2 l0.length).toNat a3) := ⟨by unfold edited; rw [if_neg ha, if_neg (by omega)]; rw [if_pos hb2]⟩
  clear hb ha hb2
  generalize around a2 (l0.length : Int) = q at *
  obtain ⟨m, rfl⟩ := Int.eq_ofNat_of_zero_le r0
  obtain ⟨hcut, hC⟩ := cut_take (k := .i64) Try.underlying22 info3 A0 c0 l0 m (by omega) hc0
  obtain ⟨A', hcut', hC', hc'⟩ := cut_drop (k := .i64) Try.underlying22 info3 A0 c0 l0 (m + 1) (by omega) hc0
  rw [show (((m + 1 : Nat) : Int)) = (m : Int) + 1 from by omega] at hcut'
  have HR := Aside0.mk hr0
  have HC := Aside0.mk hC
  have HC' := Aside0.mk hC'
  have HL := Aside0.mk (show (l0.take m).length = m by rw [List.length_take]; omega)
  clear hr0 hC hC' hpos
  have hml : m < l0.length := by omega
  clear r1 r0
  go_enter Try.func59, Try.ntmps59
  go_wp2_with (first | (go_at_call 18; refine (HA.out _).mono ?_; rintro e w' ⟨rfl, ⟨nd, rfl⟩⟩) | (at_builtin; refine Kd.R_append_rows (Kd.int .i64) (w0 := w) w.heap.size rfl (.tmp 40) (.tmp 43) 22 3 (.int .i64 0) 8 rfl Try.underlying22 info3 rfl (by decide) (by omega) (.slice none 0 0) ([] : List Int) (l0.take m) A0 m c0 (fun _ => True) (fun _ => False) rfl rfl (Kd.R_nil _ _ _ _ _) (HC.out _ (Kd.C_drewN HR.out nd)) (fun _ _ h => h) (fun _ h => h.elim) (fun _ _ => trivial) (pw_below_drewN (Below.refl _ _) nd) (Nat.le_refl _) (by simp only [List.length_nil]; omega) ?_; intro v1 w1 HO1 HB1 _ _; rw [List.nil_append] at HO1; have HO1 := Aside0.mk HO1; have HB1 := Aside0.mk HB1) | (at_builtin; refine Kd.R_append (Kd.int .i64) (w0 := w) w.heap.size rfl (.tmp 47) (.tmp 49) 22 3 (.int .i64 0) 8 rfl Try.underlying22 info3 rfl (by decide) (by omega) v1 (l0.take m) a3 [.int .i64 a3] (fun _ => True) (fun _ => False) rfl rfl rfl (fun _ h => h.elim) (fun _ _ => trivial) HO1.out HB1.out HB1.out.size (by have := HL.out; omega) ?_; intro v2 w2 HO2 HB2 _ _; have HO2 := Aside0.mk HO2; have HB2 := Aside0.mk HB2) | (at_builtin; refine Kd.R_append_rows (Kd.int .i64) (w0 := w) w.heap.size rfl (.tmp 51) (.tmp 55) 22 3 (.int .i64 0) 8 rfl Try.underlying22 info3 rfl (by decide) (by omega) v2 (l0.take m ++ [a3]) (l0.drop (m + 1)) A' (l0.length - (m + 1)) (c0 - (m + 1)) (fun _ => True) (fun _ => False) rfl rfl HO2.out (HC'.out _ (Kd.C_below HR.out HB2.out)) (fun _ _ h => h) (fun _ h => h.elim) (fun _ _ => trivial) HB2.out HB2.out.size (by have := HL.out; simp only [List.length_append, List.length_singleton]; omega) ?_; intro v3 w3 HO3 HB3 _ _; have HO3 := Aside0.mk HO3; have HB3 := Aside0.mk HB3))
  go_ret
  exact ⟨_, rfl, by rw [HF.out, set_, Int.toNat_natCast]; simpa using HO3.out, HB3.out⟩
set_option maxHeartbeats 4000000 in
set_option maxRecDepth 100000 in
theorem edited_cut (A0 : Option Addr) (c0 : Nat) (l0 : List Int) (a1 a2 a3 : Int) (w : World) (hr0 : Kd.C (Kd.int .i64) w A0 l0.length l0) (hc0 : l0.length ≤ c0) (hok : editOk l0 a2) (ha : ¬ a1 = 0) (hpos : 0 < l0.length) (hb2 : ¬ a1 = 2) :
    Calls Try.prog 59 #[.slice A0 l0.length c0, .int .i64 a1, .int .i64 a2, .int .i64 a3] w fun e w' => ∃ v0_ : Value, e = .returned (v0_) ∧ Kd.R (Kd.int .i64) 3 w' w.heap.size (fun _ => True) v0_ (edited l0 a1 a2 a3) ∧ Below w.heap.size w w' := by
  have h0 : (a1 == 0) = false := beq_eq_false_iff_ne.2 ha
  have h1 : ((l0.length : Int) == 0) = false := beq_eq_false_iff_ne.2 (by omega)
  have h2 : (a1 == 2) = false := beq_eq_false_iff_ne.2 hb2
  obtain ⟨hl, hb⟩ := hok
  obtain ⟨r0, r1⟩ := around_range a2 (l0.length : Int) (by omega)
  have HA := Aside0.mk (fun W => around_calls a2 (l0.length : Int) W (by omega) hb)
  have HF : Aside0 (edited l0 a1 a2 a3 = cut_ l0 (around a2 l0.length).toNat) := ⟨by unfold edited; rw [if_neg ha, if_neg (by omega)]; rw [if_neg hb2]⟩
  clear hb ha hb2
  generalize around a2 (l0.length : Int) = q at *
  obtain ⟨m, rfl⟩ := Int.eq_ofNat_of_zero_le r0
  obtain ⟨hcut, hC⟩ := cut_take (k := .i64) Try.underlying22 info3 A0 c0 l0 m (by omega) hc0
  obtain ⟨A', hcut', hC', hc'⟩ := cut_drop (k := .i64) Try.underlying22 info3 A0 c0 l0 (m + 1) (by omega) hc0
  rw [show (((m + 1 : Nat) : Int)) = (m : Int) + 1 from by omega] at hcut'
  have HR := Aside0.mk hr0
  have HC := Aside0.mk hC
  have HC' := Aside0.mk hC'
  have HL := Aside0.mk (show (l0.take m).length = m by rw [List.length_take]; omega)
  clear hr0 hC hC' hpos
  have hml : m < l0.length := by omega
  clear r1 r0
  go_enter Try.func59, Try.ntmps59
  go_wp2_with (first | (go_at_call 18; refine (HA.out _).mono ?_; rintro e w' ⟨rfl, ⟨nd, rfl⟩⟩) | (at_builtin; refine Kd.R_append_rows (Kd.int .i64) (w0 := w) w.heap.size rfl (.tmp 40) (.tmp 43) 22 3 (.int .i64 0) 8 rfl Try.underlying22 info3 rfl (by decide) (by omega) (.slice none 0 0) ([] : List Int) (l0.take m) A0 m c0 (fun _ => True) (fun _ => False) rfl rfl (Kd.R_nil _ _ _ _ _) (HC.out _ (Kd.C_drewN HR.out nd)) (fun _ _ h => h) (fun _ h => h.elim) (fun _ _ => trivial) (pw_below_drewN (Below.refl _ _) nd) (Nat.le_refl _) (by simp only [List.length_nil]; omega) ?_; intro v1 w1 HO1 HB1 _ _; rw [List.nil_append] at HO1; have HO1 := Aside0.mk HO1; have HB1 := Aside0.mk HB1) | (at_builtin; refine Kd.R_append_rows (Kd.int .i64) (w0 := w) w.heap.size rfl (.tmp 51) (.tmp 55) 22 3 (.int .i64 0) 8 rfl Try.underlying22 info3 rfl (by decide) (by omega) v1 (l0.take m) (l0.drop (m + 1)) A' (l0.length - (m + 1)) (c0 - (m + 1)) (fun _ => True) (fun _ => False) rfl rfl HO1.out (HC'.out _ (Kd.C_below HR.out HB1.out)) (fun _ _ h => h) (fun _ h => h.elim) (fun _ _ => trivial) HB1.out HB1.out.size (by have := HL.out; omega) ?_; intro v3 w3 HO3 HB3 _ _; have HO3 := Aside0.mk HO3; have HB3 := Aside0.mk HB3))
  go_ret
  exact ⟨_, rfl, by rw [HF.out, cut_, Int.toNat_natCast]; simpa using HO3.out, HB3.out⟩
set_option maxHeartbeats 4000000 in
set_option maxRecDepth 100000 in
theorem edited_none (A0 : Option Addr) (c0 : Nat) (l0 : List Int) (a1 a2 a3 : Int) (w : World) (hr0 : Kd.C (Kd.int .i64) w A0 l0.length l0) (hc0 : l0.length ≤ c0) (hok : editOk l0 a2) (ha : ¬ a1 = 0) (hpos : l0.length = 0) :
    Calls Try.prog 59 #[.slice A0 l0.length c0, .int .i64 a1, .int .i64 a2, .int .i64 a3] w fun e w' => ∃ v0_ : Value, e = .returned (v0_) ∧ Kd.R (Kd.int .i64) 3 w' w.heap.size (fun _ => True) v0_ (edited l0 a1 a2 a3) ∧ Below w.heap.size w w' := by
  have h0 : (a1 == 0) = false := beq_eq_false_iff_ne.2 ha
  have HF : Aside0 (edited l0 a1 a2 a3 = []) := ⟨by unfold edited; rw [if_neg ha, if_pos hpos]⟩
  obtain rfl := List.eq_nil_of_length_eq_zero hpos
  clear ha hpos hok hr0
  go_enter Try.func59, Try.ntmps59
  go_wp2
  go_ret
  exact ⟨_, rfl, by rw [HF.out]; exact Kd.R_nil _ _ _ _ _, Below.refl _ _⟩
theorem wordbookref16_Edited.calls (A0 : Option Addr) (c0 : Nat) (l0 : List Int) (a1 : Int) (a2 : Int) (a3 : Int) (r : List Int) (w : World) (hr0 : Kd.C (Kd.int .i64) w A0 l0.length l0) (hc0 : l0.length ≤ c0) (h : wordbookref16_Edited.f l0 a1 a2 a3 = some r) :
    Calls Try.prog 59 #[.slice A0 l0.length c0, .int .i64 a1, .int .i64 a2, .int .i64 a3] w fun e w' => ∃ v0_ : Value, e = .returned (v0_) ∧ Kd.R (Kd.int .i64) 3 w' w.heap.size (fun _ => True) v0_ r ∧ Below w.heap.size w w' := by
  unfold wordbookref16_Edited.f at h
  split at h
  case isFalse => cases h
  case isTrue hok =>
  obtain rfl := Option.some.inj h
  by_cases h0 : a1 = 0
  · subst h0; exact edited_put A0 c0 l0 a2 a3 w hr0 hc0 hok
  · rcases Nat.eq_zero_or_pos l0.length with hz | hp
    · exact edited_none A0 c0 l0 a1 a2 a3 w hr0 hc0 hok h0 hz
    · by_cases h2 : a1 = 2
      · exact edited_set A0 c0 l0 a1 a2 a3 w hr0 hc0 hok h0 hp h2
      · exact edited_cut A0 c0 l0 a1 a2 a3 w hr0 hc0 hok h0 hp h2
end Go.Proofs.Ytcdjeimjbbknjaa.PAll
namespace Go.Proofs.Ytcdjeimjbbknjaa.PAll
open Go.RowKit Go.Proofs.YtcdjeimjbbknjaaW.PrintWords Go.Proofs.YtcdjeimjbbknjaaW.PrintLast Go.Proofs.YtcdjeimjbbknjaaW.PrintMore Go.Proofs.Ytcdjeimjbbknjaa.Res
set_option linter.unusedVariables false
set_option linter.unusedSimpArgs false

theorem cmp_flip : ∀ a b : List Int, cmpL a b = 1 → cmpL b a = -1
  | [], [], h => by simp [cmpL] at h
  | [], _ :: _, h => by simp [cmpL] at h
  | _ :: _, [], _ => rfl
  | x :: a, y :: b, h => by
    simp only [cmpL] at h ⊢
    by_cases h1 : x < y
    · rw [if_pos h1] at h; simp at h
    · rw [if_neg h1] at h
      by_cases h2 : y < x
      · rw [if_pos h2]
      · rw [if_neg h2] at h ⊢
        rw [if_neg h1]
        exact cmp_flip a b h
theorem cmp_eq : ∀ a b : List Int, cmpL a b = 0 ↔ a = b
  | [], [] => by simp [cmpL]
  | [], _ :: _ => by simp [cmpL]
  | _ :: _, [] => by simp [cmpL]
  | x :: a, y :: b => by
    simp only [cmpL]
    by_cases h1 : x < y
    · rw [if_pos h1]; simp; omega
    · rw [if_neg h1]
      by_cases h2 : y < x
      · rw [if_pos h2]; simp; omega
      · rw [if_neg h2, cmp_eq a b]
        have : x = y := by omega
        simp [this]
/-! ### Put -/
def insD (w : List Int) (l : List (List Int)) : List (List Int) := l.filter fun u => cmpL u w != 0
def ins15 (w : List Int) : List (List Int) → List (List Int)
  | [] => [w]
  | u :: l => if cmpL u w < 0 then u :: ins15 w l else if cmpL u w = 0 then w :: insD w l else w :: u :: insD w l
theorem ins15_mem {w v : List Int} : ∀ {l : List (List Int)}, v ∈ ins15 w l → v ∈ l ∨ v = w
  | [], h => .inr (by simpa [ins15] using h)
  | u :: l, h => by
    rw [ins15] at h
    split at h
    · rcases List.mem_cons.1 h with rfl | h
      · exact .inl List.mem_cons_self
      · rcases ins15_mem h with h | h
        · exact .inl (List.mem_cons_of_mem _ h)
        · exact .inr h
    · split at h
      · rcases List.mem_cons.1 h with rfl | h
        · exact .inr rfl
        · exact .inl (List.mem_cons_of_mem _ ((List.mem_filter.1 h).1))
      · rcases List.mem_cons.1 h with rfl | h
        · exact .inr rfl
        · rcases List.mem_cons.1 h with rfl | h
          · exact .inl List.mem_cons_self
          · exact .inl (List.mem_cons_of_mem _ ((List.mem_filter.1 h).1))
theorem insD_le (w : List Int) (l : List (List Int)) : (insD w l).length ≤ l.length := List.length_filter_le _ _
theorem ins15_len (w : List Int) : ∀ l : List (List Int), 1 ≤ (ins15 w l).length ∧ (ins15 w l).length ≤ l.length + 1
  | [] => by simp [ins15]
  | u :: l => by
    have h1 := ins15_len w l
    have h2 := insD_le w l
    rw [ins15]
    split
    · simp only [List.length_cons]; omega
    · split <;> simp only [List.length_cons] <;> omega
theorem ins15_srt (w : List Int) : ∀ {l : List (List Int)}, Srt l → Srt (ins15 w l)
  | [], _ => by simp [ins15, Srt]
  | u :: l, h => by
    have h1 := List.pairwise_cons.1 h
    have hf : Srt (insD w l) := List.Pairwise.sublist List.filter_sublist h1.2
    rw [ins15]
    by_cases hc : cmpL u w < 0
    · rw [if_pos hc]
      refine List.pairwise_cons.2 ⟨fun v hv => ?_, ins15_srt w h1.2⟩
      rcases ins15_mem hv with hv | rfl
      · exact h1.1 v hv
      · exact (cmpL_lt_iff _ _).1 hc
    · rw [if_neg hc]
      by_cases hz : cmpL u w = 0
      · rw [if_pos hz]
        obtain rfl := (cmp_eq u w).1 hz
        exact List.pairwise_cons.2 ⟨fun v hv => h1.1 v ((List.mem_filter.1 hv).1), hf⟩
      · rw [if_neg hz]
        have hw : cmpL w u = -1 := cmp_flip u w (by rcases cmpL_values u w with e | e | e <;> omega)
        refine List.pairwise_cons.2 ⟨fun v hv => ?_, List.pairwise_cons.2 ⟨fun v hv => h1.1 v ((List.mem_filter.1 hv).1), hf⟩⟩
        rcases List.mem_cons.1 hv with rfl | hv
        · exact hw
        · exact cmpL_trans _ _ _ hw (h1.1 v ((List.mem_filter.1 hv).1))
structure W15 (out : List (List Int)) (n : Nat) : Prop where
  srt : Srt out
  few : out.length ≤ n
  pos : 0 < n → 0 < out.length
  size : ∀ v ∈ out, v.length ≤ 8
  sym : ∀ v ∈ out, ∀ s ∈ v, 0 ≤ s ∧ s < 64
theorem W15.put {out : List (List Int)} {n : Nat} (h : W15 out n) {w : List Int} (hl : w.length ≤ 8) (hs : ∀ s ∈ w, 0 ≤ s ∧ s < 64) : W15 (ins15 w out) (n + 1) := by
  have hp := ins15_len w out
  refine ⟨ins15_srt w h.srt, by have := h.few; omega, fun _ => by omega, fun v hv => ?_, fun v hv => ?_⟩
  · rcases ins15_mem hv with hv | rfl
    · exact h.size v hv
    · exact hl
  · rcases ins15_mem hv with hv | rfl
    · exact h.sym v hv
    · exact hs
def Sy (w : List Int) : Prop := ∀ s ∈ w, 0 ≤ s ∧ s < 64
theorem Sy.snoc {w : List Int} (h : Sy w) {x : Int} (h0 : 0 ≤ x) (h1 : x < 64) : Sy (w ++ [x]) := fun s hs => by
  rcases List.mem_append.1 hs with hs | hs
  · exact h s hs
  · rw [List.mem_singleton.1 hs]; exact ⟨h0, h1⟩
end Go.Proofs.Ytcdjeimjbbknjaa.PAll
namespace Go.Proofs.Ytcdjeimjbbknjaa.PAll
open Go.RowKit Go.Proofs.YtcdjeimjbbknjaaW.PrintWords Go.Proofs.YtcdjeimjbbknjaaW.PrintLast Go.Proofs.YtcdjeimjbbknjaaW.PrintMore Go.Proofs.Ytcdjeimjbbknjaa.Res
set_option linter.unusedVariables false
set_option linter.unusedSimpArgs false

theorem resW_app : ∀ (p s : List Int) (r : List (List Int)), resW r (p ++ s) = resW (resW r p) s
  | [], _, _ => rfl
  | a :: p, s, r => resW_app p s (resS r a)
theorem lessL_app : ∀ (p s : List Int) {r : List (List Int)}, Srt r → lessL r (p ++ s) = lessL r p + lessL (resW r p) s
  | [], s, r, _ => by rw [lessL_nil, Nat.zero_add]; rfl
  | a :: p, s, r, h => by
    rw [List.cons_append, lessL_cons h, lessL_cons h a p, lessL_app p s (srt_resS h a)]
    rw [show resW r (a :: p) = resW (resS r a) p from rfl]; omega
theorem lessL_mem {r : List (List Int)} {u : List Int} (hu : u ∈ r) : lessL r u < r.length := by
  unfold lessL
  have h1 := List.length_filter_le (ltB u) r
  rcases Nat.lt_or_ge (r.filter (ltB u)).length r.length with h | h
  · exact h
  · exfalso
    have h2 : r.filter (ltB u) = r := List.filter_sublist.eq_of_length (by omega)
    have h3 : u ∈ r.filter (ltB u) := h2.symm ▸ hu
    have h4 := (List.mem_filter.1 h3).2
    simp only [ltB, decide_eq_true_eq] at h4
    rw [(cmp_eq u u).2 rfl] at h4
    omega
/-- The number of a word of a sorted list. -/
theorem lessL_at' : ∀ (ws : List (List Int)), Srt ws → ∀ i (h : i < ws.length), lessL ws ws[i] = i
  | [], _, i, h => absurd h (Nat.not_lt_zero _)
  | u :: ws, hs, 0, h => by
    have h1 := List.pairwise_cons.1 hs
    unfold lessL
    rw [List.length_eq_zero_iff, List.filter_eq_nil_iff]
    intro v hv hb
    simp only [ltB, decide_eq_true_eq, List.getElem_cons_zero] at hb
    rcases List.mem_cons.1 hv with rfl | hv
    · rw [(cmp_eq v v).2 rfl] at hb; omega
    · have := cmpL_trans _ _ _ (h1.1 v hv) hb
      rw [(cmp_eq u u).2 rfl] at this; omega
  | u :: ws, hs, i + 1, h => by
    have h1 := List.pairwise_cons.1 hs
    have ih := lessL_at' ws h1.2 i (by simpa using h)
    unfold lessL at ih ⊢
    rw [List.getElem_cons_succ, List.filter_cons_of_pos]
    · rw [List.length_cons, ih]
    · simp only [ltB, decide_eq_true_eq]
      exact h1.1 _ (List.getElem_mem _)
theorem st_nd {ns : List Nd} {Q : List (List (List Int))} (hI : Inv ns Q) {st : Int} (h0 : 0 ≤ st) (h1 : st < (ns.length : Int)) : IsNd Q (rdN ns st) (rdP Q st) ∧ Srt (rdP Q st) := by
  have hn := hI.nds st.toNat (by omega)
  rw [Int.toNat_of_nonneg h0] at hn
  exact ⟨hn, hI.srt _ (rdP_mem h0 (by rw [hI.len]; exact h1))⟩
theorem final_st {ns : List Nd} {Q : List (List (List Int))} (hI : Inv ns Q) {st : Int} (h0 : 0 ≤ st) (h1 : st < (ns.length : Int)) : finalB ns st = finR (rdP Q st) := by
  have := (st_nd hI h0 h1).1.fin
  unfold finalB
  rw [show hasB ns.length st = true from by simp [hasB, h0, h1], Bool.true_and]
  exact this
theorem step_st {ns : List Nd} {Q : List (List (List Int))} (hI : Inv ns Q) {st : Int} (h0 : 0 ≤ st) (h1 : st < (ns.length : Int)) {s : Int} (hs : resS (rdP Q st) s ≠ []) : rdP Q (stepN ns st s) = resS (rdP Q st) s ∧ 0 ≤ stepN ns st s ∧ stepN ns st s < (ns.length : Int) := by
  obtain ⟨hn, hsr⟩ := st_nd hI h0 h1
  obtain ⟨a, b⟩ := hn.step hsr s
  have hm : s ∈ (rdN ns st).f1 := Classical.byContradiction fun h => hs (b h)
  obtain ⟨e1, _, e2, e3⟩ := a hm
  unfold stepN
  rw [if_pos ⟨by simp [hasB, h0, h1], hm⟩]
  exact ⟨e1, e2, by rw [← hI.len]; exact e3⟩
/-! ### Along a word -/
structure At (ws : List (List Int)) (Q : List (List (List Int))) (u : List Int) (n : Nat) (st : Int) : Prop where
  le : n ≤ u.length
  s0 : 0 ≤ st
  s1 : st < ((graphOf ws).length : Int)
  res : rdP Q st = resW ws (u.take n)
theorem At.mem {ws : List (List Int)} {Q : List (List (List Int))} {u : List Int} {n : Nat} {st : Int} (hs : Srt ws) (hu : u ∈ ws) (h : At ws Q u n st) : u.drop n ∈ rdP Q st := by
  rw [h.res, mem_resW _ hs, List.take_append_drop]; exact hu
theorem At.start {ws : List (List Int)} {Q : List (List (List Int))} (u : List Int) (hq : 0 < (graphOf ws).length) (h0 : rdP Q 0 = ws) : At ws Q u 0 0 := ⟨Nat.zero_le _, Int.le_refl _, by omega, h0⟩
theorem At.step {ws : List (List Int)} {Q : List (List (List Int))} {u : List Int} {n : Nat} {st : Int} (hI : Inv (graphOf ws) Q) (hs : Srt ws) (hu : u ∈ ws) (h : At ws Q u n st) (hn : n < u.length) : At ws Q u (n + 1) (stepN (graphOf ws) st (rd u (n : Int))) := by
  have hm := h.mem hs hu
  rw [rd_drop hn] at hm
  have hsr := (st_nd hI h.s0 h.s1).2
  have hne : resS (rdP Q st) (rd u (n : Int)) ≠ [] := fun e => by
    have := (mem_resS hsr (rd u (n : Int)) (u.drop (n + 1))).2 hm
    rw [e] at this; cases this
  obtain ⟨e1, e2, e3⟩ := step_st hI h.s0 h.s1 hne
  refine ⟨hn, e2, e3, ?_⟩
  rw [e1, h.res, show u.take (n + 1) = u.take n ++ [rd u (n : Int)] from by rw [List.take_succ_eq_append_getElem hn, rd_nat, List.getD_eq_getElem?_getD, List.getElem?_eq_getElem hn]; rfl, resW_app]
  rfl
theorem At.range {ws : List (List Int)} {Q : List (List (List Int))} {i n : Nat} {st : Int} (hs : Srt ws) (hi : i < ws.length) (h : At ws Q (ws[i]) n st) : lessL ws (ws[i].take n) ≤ i ∧ i < lessL ws (ws[i].take n) + (resW ws (ws[i].take n)).length := by
  have h1 := lessL_at' ws hs i hi
  have h2 := lessL_app (ws[i].take n) (ws[i].drop n) hs
  rw [List.take_append_drop, h1] at h2
  have h3 := h.mem hs (List.getElem_mem hi)
  rw [h.res] at h3
  have := lessL_mem h3
  omega
theorem At.last {ws : List (List Int)} {Q : List (List (List Int))} {u : List Int} {st : Int} (hI : Inv (graphOf ws) Q) (hs : Srt ws) (hu : u ∈ ws) (h : At ws Q u u.length st) : finalB (graphOf ws) st = true := by
  rw [final_st hI h.s0 h.s1, fin_mem (st_nd hI h.s0 h.s1).2]
  have := h.mem hs hu
  rwa [List.drop_length] at this
end Go.Proofs.Ytcdjeimjbbknjaa.PAll
namespace Go.Proofs.Ytcdjeimjbbknjaa.PAll
open Go.RowKit Go.Proofs.YtcdjeimjbbknjaaW.PrintWords Go.Proofs.YtcdjeimjbbknjaaW.PrintLast Go.Proofs.YtcdjeimjbbknjaaW.PrintMore Go.Proofs.Ytcdjeimjbbknjaa.Res
set_option linter.unusedVariables false
set_option linter.unusedSimpArgs false

theorem dl_build {ws : List (List Int)} (h : Good ws) (A : Option Addr) (c : Nat) (w : World) (hr : Kd.C (Kd.slice 3 (Kd.int .i64)) w A ws.length ws) (hc : ws.length ≤ c) :
    Calls Try.prog 19 #[.slice A ws.length c] w fun e w' => ∃ g, e = .returned (.tuple #[.pointer (some ⟨g, 0, none⟩), .int .i64 0]) ∧ GraphAt w' g (graphOf ws) ∧ Below w.heap.size w w' := by
  refine (build_good A c ws w hr hc h).mono ?_
  rintro e w' ⟨g, rfl, hg, hb, _⟩
  exact ⟨g, rfl, hg, hb⟩
theorem dl_around (n most : Int) (w : World) (h0 : 0 < most) (hn : -9223372036854775808 ≤ n ∧ n ≤ 9223372036854775807) :
    Calls Try.prog 18 #[.int .i64 n, .int .i64 most] w fun e w' => e = .returned (.int .i64 (around n most)) ∧ Below w.heap.size w w' := (around_calls n most w h0 hn).mono fun e w' hh => ⟨hh.1, hh.2.below⟩
theorem wf_i64 {x : Int} (h : (Lit.int .i64 x).wf = true) : -9223372036854775808 ≤ x ∧ x ≤ 9223372036854775807 := by
  simp only [Lit.wf, Bool.and_eq_true, decide_eq_true_eq] at h
  exact h
end Go.Proofs.Ytcdjeimjbbknjaa.PAll
namespace Go.Proofs.Ytcdjeimjbbknjaa.PAll
open Go.RowKit Go.Proofs.YtcdjeimjbbknjaaW.PrintWords Go.Proofs.YtcdjeimjbbknjaaW.PrintLast Go.Proofs.YtcdjeimjbbknjaaW.PrintMore Go.Proofs.Ytcdjeimjbbknjaa.Res
set_option linter.unusedVariables false
set_option linter.unusedSimpArgs false

end Go.Proofs.Ytcdjeimjbbknjaa.PAll
namespace Go.Proofs.Ytcdjeimjbbknjaa.PAll
open Go.RowKit Go.Proofs.YtcdjeimjbbknjaaW.PrintWords Go.Proofs.YtcdjeimjbbknjaaW.PrintLast Go.Proofs.YtcdjeimjbbknjaaW.PrintMore Go.Proofs.Ytcdjeimjbbknjaa.Res
set_option linter.unusedVariables false
set_option linter.unusedSimpArgs false

end Go.Proofs.Ytcdjeimjbbknjaa.PAll
namespace Go.Proofs.Ytcdjeimjbbknjaa.PAll
open Go.RowKit Go.Proofs.YtcdjeimjbbknjaaW.PrintWords Go.Proofs.YtcdjeimjbbknjaaW.PrintLast Go.Proofs.YtcdjeimjbbknjaaW.PrintMore Go.Proofs.Ytcdjeimjbbknjaa.Res
set_option linter.unusedVariables false
set_option linter.unusedSimpArgs false

/-- A list that fails by its size alone. -/
theorem check_limit {ws : List (List Int)} (hs : ∀ w ∈ ws, ∀ s ∈ w, 0 ≤ s ∧ s < 64) (hp : Srt ws) (h : 4096 < ws.length ∨ (∃ w ∈ ws, 64 < w.length) ∨ 65536 < (ws.map List.length).sum) : checkL ws = 4 := by
  unfold checkL
  rw [if_pos, if_pos]
  · rcases h with h | ⟨w, hw, h⟩ | h
    · exact .inr (.inl (by omega))
    · refine .inl (Classical.byContradiction fun e => ?_)
      have e2 : longUpto ws ws.length = false := by simpa using e
      obtain ⟨k, hk, rfl⟩ := List.getElem_of_mem hw
      have := (longUpto_iff ws _).1 e2 k hk
      rw [rdR_get hk] at this
      omega
    · refine .inr (.inr ?_)
      rw [sumUpto_is ws _ (Nat.le_refl _), List.take_length]
      omega
  · refine (okUpto_iff ws _).2 fun k hk => ⟨?_, ?_⟩
    · rw [rdR_get hk, any_bad]; exact hs _ (List.getElem_mem hk)
    · rcases Nat.eq_zero_or_pos k with h0 | h0
      · exact .inl h0
      · refine .inr ?_
        rw [rdR_get hk, rdR_get (by omega : k - 1 < ws.length), cmpL_lt_iff]
        exact (List.pairwise_iff_getElem.1 hp) (k - 1) k (by omega) hk (by omega)
/-! ### Many words -/
def rowL (i : Nat) : List Int := if i < 4096 then [((i / 64 : Nat) : Int), ((i % 64 : Nat) : Int)] else [63, 63, (i : Int) - 4096]
def manyL (n : Nat) : List (List Int) := (List.range n).map rowL
theorem manyL_length (n : Nat) : (manyL n).length = n := by simp [manyL]
theorem manyL_succ (n : Nat) : manyL (n + 1) = manyL n ++ [rowL n] := by unfold manyL; rw [List.range_succ, List.map_append]; rfl
theorem two_lt {a b c d : Int} (u v : List Int) (h : a < c ∨ a = c ∧ b < d) : cmpL (a :: b :: u) (c :: d :: v) = -1 := by
  rw [cmpL_cons, cmpL_cons]; omega
theorem rowL_lt {i j : Nat} (h : i < j) (hj : j < 4098) : cmpL (rowL i) (rowL j) = -1 := by
  unfold rowL
  by_cases h1 : i < 4096
  · rw [if_pos h1]
    by_cases h2 : j < 4096
    · rw [if_pos h2]; exact two_lt _ _ (by omega)
    · rw [if_neg h2]
      by_cases h3 : i = 4095
      · subst h3; rw [cmpL_cons, cmpL_cons]; exact .inr ⟨by decide, .inr ⟨by decide, rfl⟩⟩
      · exact two_lt _ _ (by omega)
  · rw [if_neg h1, if_neg (by omega), cmpL_cons, cmpL_cons, cmpL_cons]; omega
theorem manyL_srt {n : Nat} (hn : n ≤ 4098) : Srt (manyL n) := by
  unfold Srt manyL
  rw [List.pairwise_map]
  exact List.pairwise_iff_getElem.2 fun i j hi hj hij => by
    simp only [List.length_range] at hi hj
    rw [List.getElem_range, List.getElem_range]; exact rowL_lt hij (by omega)
theorem manyL_sym {n : Nat} (hn : n ≤ 4098) : ∀ w ∈ manyL n, ∀ s ∈ w, 0 ≤ s ∧ s < 64 := by
  intro w hw s hs
  obtain ⟨i, hi, rfl⟩ := List.mem_map.1 hw
  have hi := List.mem_range.1 hi
  unfold rowL at hs
  split at hs
  · rcases List.mem_cons.1 hs with rfl | hs
    · omega
    · rw [List.mem_singleton.1 hs]; omega
  · rcases List.mem_cons.1 hs with rfl | hs
    · omega
    · rcases List.mem_cons.1 hs with rfl | hs
      · omega
      · rw [List.mem_singleton.1 hs]; omega
theorem manyL_len {n : Nat} : ∀ w ∈ manyL n, w.length ≤ 3 := by
  intro w hw
  obtain ⟨i, hi, rfl⟩ := List.mem_map.1 hw
  unfold rowL; split <;> simp
theorem manyL_good {n : Nat} (hn : n ≤ 4096) : Good (manyL n) :=
  ⟨manyL_sym (by omega), manyL_srt (by omega), fun w hw => by have := manyL_len w hw; omega, by rw [manyL_length]; exact hn, by have := sum_le_mul (manyL_len (n := n)); rw [manyL_length] at this; omega⟩
theorem manyL_bad {n : Nat} (h1 : 4096 < n) (hn : n ≤ 4098) : checkL (manyL n) = 4 := check_limit (manyL_sym hn) (manyL_srt hn) (.inl (by rw [manyL_length]; exact h1))
/-! ### A long word -/
theorem long_good {n : Nat} (hn : n ≤ 64) : Good [List.replicate n (0 : Int)] := by
  refine ⟨fun w hw s hs => ?_, List.pairwise_singleton _ _, fun w hw => ?_, by simp, by simp; omega⟩
  · rw [List.mem_singleton.1 hw] at hs; rw [List.eq_of_mem_replicate hs]; omega
  · rw [List.mem_singleton.1 hw]; simpa using hn
theorem long_bad {n : Nat} (hn : 64 < n) : checkL [List.replicate n (0 : Int)] = 4 := by
  refine check_limit (fun w hw s hs => ?_) (List.pairwise_singleton _ _) (.inr (.inl ⟨_, List.mem_singleton.2 rfl, by simpa using hn⟩))
  rw [List.mem_singleton.1 hw] at hs; rw [List.eq_of_mem_replicate hs]; omega
theorem long_62 : (graphOf [List.replicate 62 (0 : Int)]).length = 63 := by kernel_rfl
theorem long_63 : (graphOf [List.replicate 63 (0 : Int)]).length = 64 := by kernel_rfl
theorem long_64 : (graphOf [List.replicate 64 (0 : Int)]).length = 65 := by kernel_rfl
/-! ### Many long words -/
def rowX (i : Nat) : List Int := [((i / 64 : Nat) : Int), ((i % 64 : Nat) : Int)] ++ List.replicate 62 0
def wideL (n : Nat) : List (List Int) := (List.range n).map rowX
theorem wideL_length (n : Nat) : (wideL n).length = n := by simp [wideL]
theorem wideL_succ (n : Nat) : wideL (n + 1) = wideL n ++ [rowX n] := by unfold wideL; rw [List.range_succ, List.map_append]; rfl
theorem rowX_length (i : Nat) : (rowX i).length = 64 := by simp [rowX]
theorem wideL_len {n : Nat} : ∀ w ∈ wideL n, w.length = 64 := by
  intro w hw
  obtain ⟨i, hi, rfl⟩ := List.mem_map.1 hw
  exact rowX_length i
theorem wideL_srt (n : Nat) : Srt (wideL n) := by
  unfold Srt wideL
  rw [List.pairwise_map]
  exact List.pairwise_iff_getElem.2 fun i j hi hj hij => by
    simp only [List.length_range] at hi hj
    rw [List.getElem_range, List.getElem_range]; exact two_lt _ _ (by omega)
theorem wideL_sym {n : Nat} (hn : n ≤ 4096) : ∀ w ∈ wideL n, ∀ s ∈ w, 0 ≤ s ∧ s < 64 := by
  intro w hw s hs
  obtain ⟨i, hi, rfl⟩ := List.mem_map.1 hw
  have hi := List.mem_range.1 hi
  unfold rowX at hs
  rcases List.mem_append.1 hs with hs | hs
  · rcases List.mem_cons.1 hs with rfl | hs
    · omega
    · rw [List.mem_singleton.1 hs]; omega
  · rw [List.eq_of_mem_replicate hs]; omega
theorem wide_sum (n : Nat) : ((wideL n).map List.length).sum = 64 * n := by
  induction n with
  | zero => rfl
  | succ n ih => rw [wideL_succ, List.map_append, List.sum_append, ih]; simp [rowX_length]; omega
theorem wideL_good {n : Nat} (hn : n ≤ 1024) : Good (wideL n) :=
  ⟨wideL_sym (by omega), wideL_srt n, fun w hw => by rw [wideL_len w hw]; omega, by rw [wideL_length]; omega, by rw [wide_sum]; omega⟩
theorem wideL_bad {n : Nat} (h1 : 1024 < n) (hn : n ≤ 4096) : checkL (wideL n) = 4 := check_limit (wideL_sym hn) (wideL_srt n) (.inr (.inr (by rw [wide_sum]; omega)))
/-! ### The calls -/
theorem lm_build (ws : List (List Int)) (hs : sumUpto ws ws.length ≤ 4611686018427387904) (hb : checkL ws ≠ 0) (A : Option Addr) (c : Nat) (w : World) (hr : Kd.C (Kd.slice 3 (Kd.int .i64)) w A ws.length ws) (hc : ws.length ≤ c) :
    Calls Try.prog 19 #[.slice A ws.length c] w fun e w' => e = .returned (.tuple #[.pointer none, .int .i64 (checkL ws)]) ∧ Below w.heap.size w w' := (build_bad A c ws w hr hc hs hb).mono fun e w' hh => ⟨hh.1, hh.2.below⟩
theorem sum_small {ws : List (List Int)} {b : Nat} (hb : b ≤ 1000) (h : ∀ w ∈ ws, w.length ≤ b) (hn : ws.length ≤ 1000000) : sumUpto ws ws.length ≤ 4611686018427387904 := by
  rw [sumUpto_is ws _ (Nat.le_refl _), List.take_length]
  have h1 := sum_le_mul h
  have h2 := Nat.mul_le_mul hn hb
  omega
end Go.Proofs.Ytcdjeimjbbknjaa.PAll
namespace Go.Proofs.Ytcdjeimjbbknjaa.PAll
open Go.RowKit Go.Proofs.YtcdjeimjbbknjaaW.PrintWords Go.Proofs.YtcdjeimjbbknjaaW.PrintLast Go.Proofs.YtcdjeimjbbknjaaW.PrintMore Go.Proofs.Ytcdjeimjbbknjaa.Res
set_option linter.unusedVariables false
set_option linter.unusedSimpArgs false

theorem lit_R (W : World) (base : Nat) (hb : base ≤ W.heap.size) (xs : List Int) (hl : xs.length ≤ 1000000) : Kd.R (Kd.int .i64) 3 (W.alloc (.cells (encs (Value.int .i64) xs).toArray 3)) base (fun _ => True) (.slice (some ⟨W.heap.size, 0, none⟩) xs.length xs.length) xs := by
  refine ⟨fun _ _ => trivial, encs (Value.int .i64) xs, ?_, Kd.reps_scalar xs⟩
  have h2 := World.ownsRow_lit (base := base) (e := 3) (size := 1) W (encs (Value.int .i64) xs).toArray xs.length hb (by simp only [maxLen]; omega) (by simp [encs])
  exact h2
/-- What Build has made of a list: a graph, or ErrLimit. -/
def Made (w : World) (ws : List (List Int)) (p : Value) (q : Int) : Prop :=
  (Good ws ∧ q = 0 ∧ ∃ g, p = .pointer (some ⟨g, 0, none⟩) ∧ GraphAt w g (graphOf ws)) ∨ (checkL ws = 4 ∧ q = 4 ∧ p = .pointer none)
theorem Made.below {w w1 : World} {ws : List (List Int)} {p : Value} {q : Int} (h : Made w ws p q) (hb : Below w.heap.size w w1) : Made w1 ws p q := by
  rcases h with ⟨a, b, g, c, d⟩ | h
  · exact .inl ⟨a, b, g, c, d.below hb⟩
  · exact .inr h
theorem lm_made (ws : List (List Int)) (hs : sumUpto ws ws.length ≤ 4611686018427387904) (hg : Good ws ∨ checkL ws = 4) (A : Option Addr) (c : Nat) (w : World) (hr : Kd.C (Kd.slice 3 (Kd.int .i64)) w A ws.length ws) (hc : ws.length ≤ c) :
    Calls Try.prog 19 #[.slice A ws.length c] w fun e w' => ∃ p q, e = .returned (.tuple #[p, .int .i64 q]) ∧ Made w' ws p q ∧ Below w.heap.size w w' := by
  rcases hg with hg | hg
  · refine (dl_build hg A c w hr hc).mono ?_
    rintro e w' ⟨g, rfl, hG, hb⟩
    exact ⟨_, _, rfl, .inl ⟨hg, rfl, g, rfl, hG⟩, hb⟩
  · refine (lm_build ws hs (by rw [hg]; decide) A c w hr hc).mono ?_
    rintro e w' ⟨rfl, hb⟩
    exact ⟨_, _, rfl, .inr ⟨hg, hg, rfl⟩, hb⟩
theorem lm_long (n : Nat) (hn : n ≤ 100) (W : World) : Calls Try.prog 19 #[.slice (some ⟨W.heap.size + 1, 0, none⟩) 1 1] ((W.alloc (.cells (madeCells #[.int .i64 0] n) 3)).alloc (.cells #[.slice (some ⟨W.heap.size, 0, none⟩) n n] 22))
    fun e w' => ∃ p q, e = .returned (.tuple #[p, .int .i64 q]) ∧ Made w' [List.replicate n 0] p q ∧ Below W.heap.size W w' := by
  have s1 : (W.alloc (.cells (madeCells #[.int .i64 0] n) 3)).heap.size = W.heap.size + 1 := by simp
  have hR : Kd.R (Kd.int .i64) 3 (W.alloc (.cells (madeCells #[.int .i64 0] n) 3)) W.heap.size (fun _ => True) (.slice (some ⟨W.heap.size, 0, none⟩) n n) (List.replicate n 0) := by
    have h := own_made_of (enc := Value.int .i64) (d := 0) W W.heap.size 3 n (Nat.le_refl _) (by omega)
    exact Kd.R_of_own (h1 := fun _ => rfl) (by simpa using h) (fun k hk => trivial)
  obtain ⟨_, _, hC⟩ := Kd.R_reads' hR
  have hB : Below W.heap.size W (W.alloc (.cells (madeCells #[.int .i64 0] n) 3)) := below_alloc (Below.refl _ W) _
  generalize W.alloc (.cells (madeCells #[.int .i64 0] n) 3) = W1 at *
  rw [← s1]
  have bb := blk_new W1 (.cells #[.slice (some ⟨W.heap.size, 0, none⟩) n n] 22)
  have hB2 : Below W.heap.size W (W1.alloc (.cells #[.slice (some ⟨W.heap.size, 0, none⟩) n n] 22)) := below_alloc hB _
  have hC2 : Kd.C (Kd.int .i64) (W1.alloc (.cells #[.slice (some ⟨W.heap.size, 0, none⟩) n n] 22)) (some ⟨W.heap.size, 0, none⟩) (List.replicate n (0 : Int)).length (List.replicate n 0) := Kd.C_alloc hC _
  generalize W1.alloc (.cells #[.slice (some ⟨W.heap.size, 0, none⟩) n n] 22) = W2 at *
  have hr : Reps ((Kd.slice 3 (Kd.int .i64)).K W2) 1 [List.replicate n 0] [.slice (some ⟨W.heap.size, 0, none⟩) n n] :=
    (Reps.none _ _).snoc (p := List.replicate n 0) (c := [.slice (some ⟨W.heap.size, 0, none⟩) n n]) ⟨_, n, by simp, by simp, hC2⟩ rfl
  have hCC : Kd.C (Kd.slice 3 (Kd.int .i64)) W2 (some ⟨W1.heap.size, 0, none⟩) 1 [List.replicate n 0] := cb_block bb hr (by simp)
  have hok : Good [List.replicate n (0 : Int)] ∨ checkL [List.replicate n (0 : Int)] = 4 := by
    rcases Nat.lt_or_ge 64 n with h | h
    · exact .inr (long_bad h)
    · exact .inl (long_good h)
  refine (lm_made [List.replicate n 0] (sum_small (b := 1000) (by omega) (fun w hw => by rw [List.mem_singleton.1 hw]; simp; omega) (by simp)) hok _ 1 W2 hCC (by simp)).mono ?_
  rintro e w' ⟨p, q, rfl, hM, hb⟩
  exact ⟨p, q, rfl, hM, hB2.trans (hb.mono hB2.size)⟩
theorem step_nil (i s : Int) (w : World) : Calls Try.prog 33 #[.pointer none, .int .i64 i, .int .i64 s] w fun e w' => e = .returned (.int .i64 (-1)) ∧ w = w' := by
  go_enter Try.func33, Try.ntmps33
  go_wp2_with (go_at_call 74; refine (has_nil i _).mono ?_; rintro e w' ⟨rfl, rfl⟩)
  go_ret
  exact ⟨rfl, rfl⟩
theorem symbols_nil (i : Int) (w : World) : Calls Try.prog 32 #[.pointer none, .int .i64 i] w fun e w' => e = .returned (.slice none 0 0) ∧ w = w' := by
  go_enter Try.func32, Try.ntmps32
  go_wp2_with (go_at_call 74; refine (has_nil i _).mono ?_; rintro e w' ⟨rfl, rfl⟩)
  go_ret
  exact ⟨rfl, rfl⟩
end Go.Proofs.Ytcdjeimjbbknjaa.PAll
namespace Go.Proofs.Ytcdjeimjbbknjaa.PAll
open Go.RowKit Go.Proofs.YtcdjeimjbbknjaaW.PrintWords Go.Proofs.YtcdjeimjbbknjaaW.PrintLast Go.Proofs.YtcdjeimjbbknjaaW.PrintMore Go.Proofs.Ytcdjeimjbbknjaa.Res
set_option linter.unusedVariables false
set_option linter.unusedSimpArgs false

theorem Made.pick {w : World} {ws : List (List Int)} {p : Value} {q : Int} (P : Prop) [Decidable P] (h1 : P → Good ws) (h2 : ¬ P → checkL ws = 4) (h : Made w ws p q) :
    (P ∧ q = 0 ∧ Good ws ∧ ∃ g, p = .pointer (some ⟨g, 0, none⟩) ∧ GraphAt w g (graphOf ws)) ∨ (¬ P ∧ q = 4 ∧ p = .pointer none) := by
  rcases h with ⟨hg, rfl, g, rfl, hG⟩ | ⟨hc, rfl, rfl⟩
  · refine .inl ⟨Classical.byContradiction fun hn => ?_, rfl, hg, g, rfl, hG⟩
    have := good_check hg
    rw [h2 hn] at this
    exact absurd this (by decide)
  · refine .inr ⟨fun hp => ?_, rfl, rfl⟩
    rw [good_check (h1 hp)] at hc
    exact absurd hc (by decide)
theorem lm_around (a : Int) (h : -9223372036854775808 ≤ a ∧ a ≤ 9223372036854775807) : ∃ n : Nat, n ≤ 4 ∧ ∀ w : World, Calls Try.prog 18 #[.int .i64 a, .int .i64 5] w fun e w' => e = .returned (.int .i64 (n : Int)) ∧ Below w.heap.size w w' := by
  have hr := around_range a 5 (by decide)
  refine ⟨(around a 5).toNat, by omega, fun w => ?_⟩
  have h2 := dl_around a 5 w (by decide) h
  rwa [show around a 5 = ((around a 5).toNat : Int) by omega] at h2
theorem lm_states {S : Nat} (h1 : 62 ≤ S) (h2 : S ≤ 64) : (graphOf [List.replicate S (0 : Int)]).length = S + 1 := by
  obtain rfl | rfl | rfl : S = 62 ∨ S = 63 ∨ S = 64 := by omega
  · exact long_62
  · exact long_63
  · exact long_64
theorem lm_mod (i : Nat) : Int.tmod (i : Int) 64 = ((i % 64 : Nat) : Int) := by
  rw [Int.tmod_eq_emod_of_nonneg (by omega)]; omega
theorem lm_two {W : World} {base g : Nat} (h : W.ownsRow base 3 1 (.slice (some ⟨g, 0, none⟩) 64 64) 64 (encs (Value.int .i64) (List.replicate 64 (0 : Int)))) (qa qb : Int) :
    (W.cell? ⟨g, 0, none⟩ = some (.int .i64 0) ∧ W.frozen? ⟨g, 0, none⟩ = false) ∧ ((W.setCell ⟨g, 0, none⟩ (.int .i64 qa)).cell? ⟨g, 1, none⟩ = some (.int .i64 0) ∧ (W.setCell ⟨g, 0, none⟩ (.int .i64 qa)).frozen? ⟨g, 1, none⟩ = false) ∧
    ((W.setCell ⟨g, 0, none⟩ (.int .i64 qa)).setCell ⟨g, 1, none⟩ (.int .i64 qb)).ownsRow base 3 1 (.slice (some ⟨g, 0, none⟩) 64 64) 64 (encs (Value.int .i64) ([qa, qb] ++ List.replicate 62 0)) := by
  have h1 := own_at_of (d := (0 : Int)) h 0 (by omega) (by omega)
  have h2 := (own_store_of h 0 qa).1
  have h3 := own_at_of (d := (0 : Int)) h2 1 (by omega) (by omega)
  have h4 := (own_store_of h2 1 qb).1
  exact ⟨h1, h3, h4⟩

set_option maxHeartbeats 8000000 in
set_option maxRecDepth 100000 in
theorem limits_true (a0 a1 a2 : Int) (w : World) (hx0 : -9223372036854775808 ≤ a0 ∧ a0 ≤ 9223372036854775807) (hx1 : -9223372036854775808 ≤ a1 ∧ a1 ≤ 9223372036854775807) (hx2 : -9223372036854775808 ≤ a2 ∧ a2 ≤ 9223372036854775807) :
    Calls Try.prog 8 #[.int .i64 a0, .int .i64 a1, .int .i64 a2] w fun e w' => e = .returned (.bool true) ∧ Below w.heap.size w w' := by
  obtain ⟨n0, hn0, hA0⟩ := lm_around a0 hx0
  obtain ⟨n1, hn1, hA1⟩ := lm_around a1 hx1
  obtain ⟨n2, hn2, hA2⟩ := lm_around a2 hx2
  obtain ⟨N, hN⟩ : ∃ N : Nat, N = 4094 + n0 := ⟨_, rfl⟩
  obtain ⟨S, hS⟩ : ∃ S : Nat, S = 62 + n1 := ⟨_, rfl⟩
  obtain ⟨M, hM⟩ : ∃ M : Nat, M = 1022 + n2 := ⟨_, rfl⟩
  have p0 : IntKind.i64.wrap (4094 + (n0 : Int)) = (N : Int) := (wrap_in (by omega) (by omega)).trans (by omega)
  have p1 : IntKind.i64.wrap (62 + (n1 : Int)) = (S : Int) := (wrap_in (by omega) (by omega)).trans (by omega)
  have p2 : IntKind.i64.wrap (1022 + (n2 : Int)) = (M : Int) := (wrap_in (by omega) (by omega)).trans (by omega)
  have p3 : IntKind.i64.wrap ((S : Int) + 1) = (S : Int) + 1 := wrap_in (by omega) (by omega)
  have HA0 := Aside0.mk hA0
  have HA1 := Aside0.mk hA1
  have HA2 := Aside0.mk hA2
  have HN : Aside0 (4094 ≤ N ∧ N ≤ 4098) := ⟨by omega⟩
  have HS : Aside0 (62 ≤ S ∧ S ≤ 66) := ⟨by omega⟩
  have HM : Aside0 (1022 ≤ M ∧ M ≤ 1026) := ⟨by omega⟩
  have hmk1 : ∀ W : World, (Instr.makeSlice 22 (.int .i64 (S : Int)) (.int .i64 (S : Int))).run Try.prog W = .ok (.slice (some ⟨W.heap.size, 0, none⟩) S S) (W.alloc (.cells (madeCells #[.int .i64 0] S) 3)) := print_make_of 22 3 (.int .i64 0) 8 Try.underlying22 info3 rfl (by decide) S (by omega)
  have hmk2 : ∀ W : World, (Instr.makeSlice 22 (.int .i64 64) (.int .i64 64)).run Try.prog W = .ok (.slice (some ⟨W.heap.size, 0, none⟩) 64 64) (W.alloc (.cells (madeCells #[.int .i64 0] 64) 3)) := print_make_of 22 3 (.int .i64 0) 8 Try.underlying22 info3 rfl (by decide) 64 (by omega)
  clear hA0 hA1 hA2 hN hS hM hn0 hn1 hn2 hx0 hx1 hx2
  go_enter Try.func8, Try.ntmps8
  go_wp2_with (first
    | (go_at_call 18; ((with_reducible refine (HA0.out _).mono ?_); rintro e w1 ⟨rfl, hb1⟩; have HB1 := Aside0.mk hb1; clear hb1))
    | fail)
  go_loopw [7, 9] (fun s7 s9 wr => ∃ i : Nat, s9 = .int .i64 (i : Int) ∧ Aside0 (i ≤ N) ∧ Aside0 (Kd.R (Kd.slice 3 (Kd.int .i64)) 22 wr w.heap.size (fun _ => True) s7 (manyL i)) ∧ Aside0 (Below w.heap.size w wr)) (fun _ s9 _ => N - (intOf s9).toNat)
  case atStart => exact ⟨0, rfl, ⟨Nat.zero_le _⟩, ⟨Kd.R_nil _ _ _ _ _⟩, HB1⟩
  case round =>
    obtain ⟨i, rfl, hi, RT, RB⟩ := hrel
    clear HB1
    obtain ⟨AT, cT, rfl, hcT, hCT⟩ := Kd.R_reads RT.out
    rw [manyL_length] at hcT
    have hi := hi.out
    have hNr := HN.out
    by_cases hin : i < N
    · have w2 : IntKind.i64.wrap ((i : Int) + 1) = (i : Int) + 1 := wrap_in (by omega) (by omega)
      have hI : Aside0 (i < N) := ⟨hin⟩
      have hII : (i : Int) < (N : Int) := by omega
      rw [manyL_length]
      by_cases h4 : i < 4096
      · have h4b : (i : Int) < 4096 := by omega
        have f2 := lm_mod i
        have hrow : rowL i = [(i : Int) / 64, ((i % 64 : Nat) : Int)] := by unfold rowL; rw [if_pos h4]; rfl
        generalize ((i % 64 : Nat) : Int) = qb at *
        have hR : Kd.R (Kd.int .i64) 3 (wr.alloc (.cells #[.int .i64 ((i : Int) / 64), .int .i64 qb] 3)) wr.heap.size (fun _ => True) (.slice (some ⟨wr.heap.size, 0, none⟩) 2 2) [(i : Int) / 64, qb] := lit_R wr wr.heap.size (Nat.le_refl _) [(i : Int) / 64, qb] (by simp)
        have hT := Kd.R_alloc RT.out (.cells #[.int .i64 ((i : Int) / 64), .int .i64 qb] 3)
        rw [manyL_length] at hT
        have HB2 := Aside0.mk (below_alloc RB.out (.cells #[.int .i64 ((i : Int) / 64), .int .i64 qb] 3))
        have HSz : Aside0 ((wr.alloc (.cells #[.int .i64 ((i : Int) / 64), .int .i64 qb] 3)).heap.size = wr.heap.size + 1) := ⟨by simp⟩
        have HMr := Aside0.mk (Kd.R_apart' (Kd.R_lower hR RB.out.size) (Kd.R_typed hT) (by decide))
        have HT := Aside0.mk hT
        have HRow := Aside0.mk hrow
        clear hR hT hrow hCT hNr h4 hin hi
        go_wp2_with (at_builtin; refine Kd.R_append (Kd.slice 3 (Kd.int .i64)) (w0 := w) w.heap.size rfl (.tmp 40) (.tmp 46) 23 22 (.slice none 0 0) 24 rfl Try.underlying23 info22 rfl (by decide) (by omega) (.slice AT i cT) (manyL i) [(i : Int) / 64, qb] [.slice (some ⟨wr.heap.size, 0, none⟩) 2 2] (fun _ => True) _ rfl (by rw [HSz.out]; rfl) (Kd.M_row HMr.out) (fun _ h => h) (fun _ _ => trivial) HT.out HB2.out HB2.out.size (by have := hI.out; have := HN.out; rw [manyL_length]; omega) ?_; intro v1 w1 HO1 HB3 _ _; rw [← HRow.out, ← manyL_succ] at HO1; have HO1 := Aside0.mk HO1; have HB3 := Aside0.mk HB3)
        go_roundw
        case rel => exact ⟨i + 1, by go_num, ⟨hI.out⟩, HO1, HB3⟩
        case measure => have := hI.out; simp [intOf]; omega
      · have h4b : ¬ (i : Int) < 4096 := by omega
        obtain ⟨qc, hqc⟩ : ∃ qc, qc = (i : Int) - 4096 := ⟨_, rfl⟩
        have f1 : IntKind.i64.wrap ((i : Int) - 4096) = qc := (wrap_in (by omega) (by omega)).trans hqc.symm
        have hrow : rowL i = [63, 63, qc] := by unfold rowL; rw [if_neg h4, hqc]
        have hR : Kd.R (Kd.int .i64) 3 (wr.alloc (.cells #[.int .i64 63, .int .i64 63, .int .i64 qc] 3)) wr.heap.size (fun _ => True) (.slice (some ⟨wr.heap.size, 0, none⟩) 3 3) [63, 63, qc] := lit_R wr wr.heap.size (Nat.le_refl _) [63, 63, qc] (by simp)
        have hT := Kd.R_alloc RT.out (.cells #[.int .i64 63, .int .i64 63, .int .i64 qc] 3)
        rw [manyL_length] at hT
        have HB2 := Aside0.mk (below_alloc RB.out (.cells #[.int .i64 63, .int .i64 63, .int .i64 qc] 3))
        have HSz : Aside0 ((wr.alloc (.cells #[.int .i64 63, .int .i64 63, .int .i64 qc] 3)).heap.size = wr.heap.size + 1) := ⟨by simp⟩
        have HMr := Aside0.mk (Kd.R_apart' (Kd.R_lower hR RB.out.size) (Kd.R_typed hT) (by decide))
        have HT := Aside0.mk hT
        have HRow := Aside0.mk hrow
        clear hR hT hrow hCT hNr h4 hin hi hqc
        go_wp2_with (at_builtin; refine Kd.R_append (Kd.slice 3 (Kd.int .i64)) (w0 := w) w.heap.size rfl (.tmp 48) (.tmp 52) 23 22 (.slice none 0 0) 24 rfl Try.underlying23 info22 rfl (by decide) (by omega) (.slice AT i cT) (manyL i) [63, 63, qc] [.slice (some ⟨wr.heap.size, 0, none⟩) 3 3] (fun _ => True) _ rfl (by rw [HSz.out]; rfl) (Kd.M_row HMr.out) (fun _ h => h) (fun _ _ => trivial) HT.out HB2.out HB2.out.size (by have := hI.out; have := HN.out; rw [manyL_length]; omega) ?_; intro v1 w1 HO1 HB3 _ _; rw [← HRow.out, ← manyL_succ] at HO1; have HO1 := Aside0.mk HO1; have HB3 := Aside0.mk HB3)
        go_roundw
        case rel => exact ⟨i + 1, by go_num, ⟨hI.out⟩, HO1, HB3⟩
        case measure => have := hI.out; simp [intOf]; omega
    · obtain rfl : i = N := by omega
      have hII : ¬ (i : Int) < (i : Int) := by omega
      have HCT := Aside0.mk hCT
      have HcT : Aside0 ((manyL i).length ≤ cT) := ⟨by rw [manyL_length]; exact hcT⟩
      have HSu : Aside0 (sumUpto (manyL i) (manyL i).length ≤ 4611686018427387904) := ⟨sum_small (b := 3) (by omega) manyL_len (by rw [manyL_length]; omega)⟩
      have HG1 : Aside0 (i ≤ 4096 → Good (manyL i)) := ⟨manyL_good⟩
      have HG2 : Aside0 (¬ i ≤ 4096 → checkL (manyL i) = 4) := ⟨fun h => manyL_bad (by omega) hNr.2⟩
      have HG : Aside0 (Good (manyL i) ∨ checkL (manyL i) = 4) := ⟨by by_cases h : i ≤ 4096; exact .inl (HG1.out h); exact .inr (HG2.out h)⟩
      have HL : Aside0 (((manyL i).length : Int) = (i : Int)) := ⟨by rw [manyL_length]⟩
      generalize manyL i = many at *
      clear hCT hcT hin hi hNr RT
      go_upto_region 12 with (first
        | (go_at_call 18; ((with_reducible refine (HA1.out _).mono ?_); rintro e w3 ⟨rfl, hb3⟩; have ZB3 := Aside0.mk (ZB2.out.trans (hb3.mono ZB2.out.size)); clear ZB2; have PA3 := Aside0.mk (PA2.out.below hb3); clear PA2 hb3))
        | (go_at_call 19; ((with_reducible refine (lm_made many HSu.out HG.out AT cT _ HCT.out HcT.out).mono ?_); rintro e w2 ⟨pa, qa, rfl, hm2, hb2⟩; have ZB2 := Aside0.mk (RB.out.trans (hb2.mono RB.out.size)); clear RB; have PA2 := Aside0.mk hm2; clear hm2 hb2))
        | (go_at_call 19; ((with_reducible refine (lm_long S (by have := HS.out; omega) w3).mono ?_); rintro e w4 ⟨pb, qb, rfl, hm4, hb4⟩; have ZB4 := Aside0.mk (ZB3.out.trans (hb4.mono ZB3.out.size)); clear ZB3; have PA4 := Aside0.mk (PA3.out.below hb4); clear PA3; have PB4 := Aside0.mk hm4; clear hm4 hb4))
        | fail)
      go_wp2_with (first
        | (go_at_call 18; ((with_reducible refine (HA2.out _).mono ?_); rintro e w5 ⟨rfl, hb5⟩; have ZB5 := Aside0.mk (ZB4.out.trans (hb5.mono ZB4.out.size)); clear ZB4; have PA5 := Aside0.mk (PA4.out.below hb5); clear PA4; have PB5 := Aside0.mk (PB4.out.below hb5); clear PB4; clear hb5))
        | fail)
      clear HCT
      go_loopw [15, 17, 18] (fun s15 s17 s18 wr => ∃ i : Nat, s17 = .int .i64 (i : Int) ∧ Aside0 (i ≤ M) ∧ Aside0 (Kd.R (Kd.slice 3 (Kd.int .i64)) 22 wr w5.heap.size (fun _ => True) s15 (wideL i)) ∧ Aside0 (Below w5.heap.size w5 wr)) (fun _ s17 _ _ => M - (intOf s17).toNat)
      case atStart => exact ⟨0, rfl, ⟨Nat.zero_le _⟩, ⟨Kd.R_nil _ _ _ _ _⟩, ⟨Below.refl _ _⟩⟩
      case round =>
        obtain ⟨j, rfl, hj, RT, RB⟩ := hrel
        obtain ⟨AU, cU, rfl, hcU, hCU⟩ := Kd.R_reads RT.out
        rw [wideL_length] at hcU
        have hj := hj.out
        have hMr := HM.out
        by_cases hjn : j < M
        · have w2 : IntKind.i64.wrap ((j : Int) + 1) = (j : Int) + 1 := wrap_in (by omega) (by omega)
          have hJ : Aside0 (j < M) := ⟨hjn⟩
          have hJJ : (j : Int) < (M : Int) := by omega
          have w3 : wrap64 ((j : Int) / 64) = (j : Int) / 64 := by unfold wrap64; omega
          rw [wideL_length]
          have f2 := lm_mod j
          have hrow : rowX j = [(j : Int) / 64, ((j % 64 : Nat) : Int)] ++ List.replicate 62 0 := rfl
          generalize ((j % 64 : Nat) : Int) = qy at *
          have hown := own_made_of (enc := Value.int .i64) (d := 0) wr wr.heap.size 3 64 (Nat.le_refl _) (by omega)
          have hBm := below_alloc (Below.refl wr.heap.size wr) (.cells (madeCells #[.int .i64 0] 64) 3)
          have HT0 := Aside0.mk (show Kd.R (Kd.slice 3 (Kd.int .i64)) 22 wr w5.heap.size (fun _ => True) (.slice AU j cU) (wideL j) from by have := RT.out; rwa [wideL_length] at this)
          clear hCU hMr hjn hj RT
          go_upto_region 18 with fail
          generalize wr.alloc (.cells (madeCells #[.int .i64 0] 64) 3) = W1 at *
          obtain ⟨⟨c1, c2⟩, ⟨c3, c4⟩, hown2⟩ := lm_two hown ((j : Int) / 64) qy
          have hB2 : Below wr.heap.size wr ((W1.setCell ⟨wr.heap.size, 0, none⟩ (.int .i64 ((j : Int) / 64))).setCell ⟨wr.heap.size, 1, none⟩ (.int .i64 qy)) := (hBm.setCell (Nat.le_refl _) _).setCell (Nat.le_refl _) _
          obtain ⟨W2, hW2⟩ : ∃ W2, W2 = (W1.setCell ⟨wr.heap.size, 0, none⟩ (.int .i64 ((j : Int) / 64))).setCell ⟨wr.heap.size, 1, none⟩ (.int .i64 qy) := ⟨_, rfl⟩
          rw [← hW2] at hown2 hB2
          have hR : Kd.R (Kd.int .i64) 3 W2 wr.heap.size (fun _ => True) (.slice (some ⟨wr.heap.size, 0, none⟩) 64 64) ([(j : Int) / 64, qy] ++ List.replicate 62 0) := Kd.R_of_own (h1 := fun _ => rfl) (by simpa using hown2) (fun _ _ => trivial)
          have hT := Kd.R_below HT0.out hB2
          have HB2 := Aside0.mk (RB.out.trans (hB2.mono RB.out.size))
          have HMr := Aside0.mk (Kd.R_apart' (Kd.R_lower hR RB.out.size) (Kd.R_typed hT) (by decide))
          have HT := Aside0.mk hT
          have HRow := Aside0.mk hrow
          have HW2 := Aside0.mk hW2
          clear hR hT hrow hown hown2 hBm hB2 hW2 HT0
          go_upto_region 20 with fail
          rw [← HW2.out]
          go_wp2_with (at_builtin; refine Kd.R_append (Kd.slice 3 (Kd.int .i64)) (w0 := w5) w5.heap.size rfl (.tmp 86) (.tmp 88) 23 22 (.slice none 0 0) 24 rfl Try.underlying23 info22 rfl (by decide) (by omega) (.slice AU j cU) (wideL j) ([(j : Int) / 64, qy] ++ List.replicate 62 0) [.slice (some ⟨wr.heap.size, 0, none⟩) 64 64] (fun _ => True) _ rfl rfl (Kd.M_row HMr.out) (fun _ h => h) (fun _ _ => trivial) HT.out HB2.out HB2.out.size (by have := hJ.out; have := HM.out; rw [wideL_length]; omega) ?_; intro v1 w1 HO1 HB3 _ _; rw [← HRow.out, ← wideL_succ] at HO1; have HO1 := Aside0.mk HO1; have HB3 := Aside0.mk HB3)
          go_roundw
          case rel => exact ⟨j + 1, by go_num, ⟨hJ.out⟩, HO1, HB3⟩
          case measure => have := hJ.out; simp [intOf]; omega
        · obtain rfl : j = M := by omega
          have hJJ : ¬ (j : Int) < (j : Int) := by omega
          have HCU := Aside0.mk hCU
          have HcU : Aside0 ((wideL j).length ≤ cU) := ⟨by rw [wideL_length]; exact hcU⟩
          have HSv : Aside0 (sumUpto (wideL j) (wideL j).length ≤ 4611686018427387904) := ⟨sum_small (b := 64) (by omega) (fun w hw => by rw [wideL_len w hw]; omega) (by rw [wideL_length]; omega)⟩
          have HK1 : Aside0 (j ≤ 1024 → Good (wideL j)) := ⟨wideL_good⟩
          have HK2 : Aside0 (¬ j ≤ 1024 → checkL (wideL j) = 4) := ⟨fun h => wideL_bad (by omega) (by omega)⟩
          have HK : Aside0 (Good (wideL j) ∨ checkL (wideL j) = 4) := ⟨by by_cases h : j ≤ 1024; exact .inl (HK1.out h); exact .inr (HK2.out h)⟩
          have HKL : Aside0 (((wideL j).length : Int) = (j : Int)) := ⟨by rw [wideL_length]⟩
          have PA6 := Aside0.mk (PA5.out.below RB.out)
          have PB6 := Aside0.mk (PB5.out.below RB.out)
          have ZB6 := Aside0.mk (ZB5.out.trans (RB.out.mono ZB5.out.size))
          generalize wideL j = wide at *
          clear hCU hcU hjn hj hMr RT RB PA5 PB5 ZB5
          go_upto_region 26 with (first
            | (go_at_call 19; ((with_reducible refine (lm_made wide HSv.out HK.out AU cU _ HCU.out HcU.out).mono ?_); rintro e w7 ⟨pc, qc, rfl, hm7, hb7⟩; have ZB7 := Aside0.mk (ZB6.out.trans (hb7.mono ZB6.out.size)); clear ZB6; have PA7 := Aside0.mk (PA6.out.below hb7); clear PA6; have PB7 := Aside0.mk (PB6.out.below hb7); clear PB6; have PC7 := Aside0.mk hm7; clear hm7 hb7))
            | (go_at_call 22; ((with_reducible refine (index_nil none 0 0 _).mono ?_); rintro e w' ⟨rfl, rfl⟩))
            | (go_at_call 26; ((with_reducible refine (word_nil 0 _).mono ?_); rintro e w' ⟨rfl, rfl⟩))
            | (go_at_call 30; ((with_reducible refine (len_nil _).mono ?_); rintro e w' ⟨rfl, rfl⟩))
            | (go_at_call 42; ((with_reducible refine (states_nil _).mono ?_); rintro e w' ⟨rfl, rfl⟩))
            | (go_at_call 33; ((with_reducible refine (step_nil 0 0 _).mono ?_); rintro e w' ⟨rfl, rfl⟩))
            | (go_at_call 31; ((with_reducible refine (final_nil 0 _).mono ?_); rintro e w' ⟨rfl, rfl⟩))
            | (go_at_call 32; ((with_reducible refine (symbols_nil 0 _).mono ?_); rintro e w' ⟨rfl, rfl⟩))
            | (go_at_call 35; ((with_reducible refine (encode_nil _).mono ?_); rintro e w' ⟨rfl, rfl⟩))
            | fail)
          clear HCU
          have HS1 : Aside0 (S ≤ 64 → Good [List.replicate S (0 : Int)]) := ⟨long_good⟩
          have HS2 : Aside0 (¬ S ≤ 64 → checkL [List.replicate S (0 : Int)] = 4) := ⟨fun h => long_bad (by omega)⟩
          rcases Made.pick (i ≤ 4096) HG1.out HG2.out PA7.out with ⟨hp0, rfl, hg0, g0, rfl, hG0⟩ | ⟨hp0, rfl, rfl⟩
          · have a0 : (i : Int) ≤ 4096 := by omega
            have HQ0 := Aside0.mk hG0
            have HH0 : Aside0 (∀ W, GraphAt W g0 (graphOf many) → Calls Try.prog 30 #[.pointer (some ⟨g0, 0, none⟩)] W fun e w' => e = .returned (.int .i64 (i : Int)) ∧ W = w') := ⟨fun W h => by have := dl_len hg0 g0 W h; rwa [HL.out] at this⟩
            clear hp0 hg0 hG0
            go_upto_region 27 with (first
              | (go_at_call 30; ((with_reducible refine (HH0.out _ HQ0.out).mono ?_); rintro e w' ⟨rfl, rfl⟩))
              | fail)
            rcases Made.pick (S ≤ 64) HS1.out HS2.out PB7.out with ⟨hp1, rfl, hg1, g1, rfl, hG1⟩ | ⟨hp1, rfl, rfl⟩
            · have a1 : (S : Int) ≤ 64 := by omega
              have HQ1 := Aside0.mk hG1
              have HH1 : Aside0 (∀ W, GraphAt W g1 (graphOf [List.replicate S (0 : Int)]) → Calls Try.prog 42 #[.pointer (some ⟨g1, 0, none⟩)] W fun e w' => e = .returned (.int .i64 ((S : Int) + 1)) ∧ W = w') := ⟨fun W h => by have := dl_states g1 W h; rw [lm_states HS.out.1 (by omega)] at this; exact this⟩
              clear hp1 hg1 hG1
              go_upto_region 28 with (first
                | (go_at_call 42; ((with_reducible refine (HH1.out _ HQ1.out).mono ?_); rintro e w' ⟨rfl, rfl⟩))
                | fail)
              rcases Made.pick (j ≤ 1024) HK1.out HK2.out PC7.out with ⟨hp2, rfl, hg2, g2, rfl, hG2⟩ | ⟨hp2, rfl, rfl⟩
              · have a2 : (j : Int) ≤ 1024 := by omega
                have HQ2 := Aside0.mk hG2
                have HH2 : Aside0 (∀ W, GraphAt W g2 (graphOf wide) → Calls Try.prog 30 #[.pointer (some ⟨g2, 0, none⟩)] W fun e w' => e = .returned (.int .i64 (j : Int)) ∧ W = w') := ⟨fun W h => by have := dl_len hg2 g2 W h; rwa [HKL.out] at this⟩
                clear hp2 hg2 hG2
                go_wp2_with (first
                  | (go_at_call 30; ((with_reducible refine (HH2.out _ HQ2.out).mono ?_); rintro e w' ⟨rfl, rfl⟩))
                  | (go_at_call 28; ((with_reducible refine (lives15 _).mono ?_); rintro e w8 ⟨rfl, hb8⟩; have ZB8 := Aside0.mk (ZB7.out.trans (hb8.mono ZB7.out.size)); clear ZB7; clear hb8))
                  | fail)
                go_ret
                exact ⟨rfl, ZB8.out⟩
              · have a2 : ¬ (j : Int) ≤ 1024 := by omega
                have b2 : 1024 < (j : Int) := by omega
                clear hp2
                go_wp2_with (first
                  | (go_at_call 28; ((with_reducible refine (lives15 _).mono ?_); rintro e w8 ⟨rfl, hb8⟩; have ZB8 := Aside0.mk (ZB7.out.trans (hb8.mono ZB7.out.size)); clear ZB7; clear hb8))
                  | fail)
                go_ret
                exact ⟨rfl, ZB8.out⟩
            · have a1 : ¬ (S : Int) ≤ 64 := by omega
              have b1 : 64 < (S : Int) := by omega
              clear hp1
              go_upto_region 28 with fail
              rcases Made.pick (j ≤ 1024) HK1.out HK2.out PC7.out with ⟨hp2, rfl, hg2, g2, rfl, hG2⟩ | ⟨hp2, rfl, rfl⟩
              · have a2 : (j : Int) ≤ 1024 := by omega
                have HQ2 := Aside0.mk hG2
                have HH2 : Aside0 (∀ W, GraphAt W g2 (graphOf wide) → Calls Try.prog 30 #[.pointer (some ⟨g2, 0, none⟩)] W fun e w' => e = .returned (.int .i64 (j : Int)) ∧ W = w') := ⟨fun W h => by have := dl_len hg2 g2 W h; rwa [HKL.out] at this⟩
                clear hp2 hg2 hG2
                go_wp2_with (first
                  | (go_at_call 30; ((with_reducible refine (HH2.out _ HQ2.out).mono ?_); rintro e w' ⟨rfl, rfl⟩))
                  | (go_at_call 28; ((with_reducible refine (lives15 _).mono ?_); rintro e w8 ⟨rfl, hb8⟩; have ZB8 := Aside0.mk (ZB7.out.trans (hb8.mono ZB7.out.size)); clear ZB7; clear hb8))
                  | fail)
                go_ret
                exact ⟨rfl, ZB8.out⟩
              · have a2 : ¬ (j : Int) ≤ 1024 := by omega
                have b2 : 1024 < (j : Int) := by omega
                clear hp2
                go_wp2_with (first
                  | (go_at_call 28; ((with_reducible refine (lives15 _).mono ?_); rintro e w8 ⟨rfl, hb8⟩; have ZB8 := Aside0.mk (ZB7.out.trans (hb8.mono ZB7.out.size)); clear ZB7; clear hb8))
                  | fail)
                go_ret
                exact ⟨rfl, ZB8.out⟩
          · have a0 : ¬ (i : Int) ≤ 4096 := by omega
            have b0 : 4096 < (i : Int) := by omega
            clear hp0
            go_upto_region 27 with fail
            rcases Made.pick (S ≤ 64) HS1.out HS2.out PB7.out with ⟨hp1, rfl, hg1, g1, rfl, hG1⟩ | ⟨hp1, rfl, rfl⟩
            · have a1 : (S : Int) ≤ 64 := by omega
              have HQ1 := Aside0.mk hG1
              have HH1 : Aside0 (∀ W, GraphAt W g1 (graphOf [List.replicate S (0 : Int)]) → Calls Try.prog 42 #[.pointer (some ⟨g1, 0, none⟩)] W fun e w' => e = .returned (.int .i64 ((S : Int) + 1)) ∧ W = w') := ⟨fun W h => by have := dl_states g1 W h; rw [lm_states HS.out.1 (by omega)] at this; exact this⟩
              clear hp1 hg1 hG1
              go_upto_region 28 with (first
                | (go_at_call 42; ((with_reducible refine (HH1.out _ HQ1.out).mono ?_); rintro e w' ⟨rfl, rfl⟩))
                | fail)
              rcases Made.pick (j ≤ 1024) HK1.out HK2.out PC7.out with ⟨hp2, rfl, hg2, g2, rfl, hG2⟩ | ⟨hp2, rfl, rfl⟩
              · have a2 : (j : Int) ≤ 1024 := by omega
                have HQ2 := Aside0.mk hG2
                have HH2 : Aside0 (∀ W, GraphAt W g2 (graphOf wide) → Calls Try.prog 30 #[.pointer (some ⟨g2, 0, none⟩)] W fun e w' => e = .returned (.int .i64 (j : Int)) ∧ W = w') := ⟨fun W h => by have := dl_len hg2 g2 W h; rwa [HKL.out] at this⟩
                clear hp2 hg2 hG2
                go_wp2_with (first
                  | (go_at_call 30; ((with_reducible refine (HH2.out _ HQ2.out).mono ?_); rintro e w' ⟨rfl, rfl⟩))
                  | (go_at_call 28; ((with_reducible refine (lives15 _).mono ?_); rintro e w8 ⟨rfl, hb8⟩; have ZB8 := Aside0.mk (ZB7.out.trans (hb8.mono ZB7.out.size)); clear ZB7; clear hb8))
                  | fail)
                go_ret
                exact ⟨rfl, ZB8.out⟩
              · have a2 : ¬ (j : Int) ≤ 1024 := by omega
                have b2 : 1024 < (j : Int) := by omega
                clear hp2
                go_wp2_with (first
                  | (go_at_call 28; ((with_reducible refine (lives15 _).mono ?_); rintro e w8 ⟨rfl, hb8⟩; have ZB8 := Aside0.mk (ZB7.out.trans (hb8.mono ZB7.out.size)); clear ZB7; clear hb8))
                  | fail)
                go_ret
                exact ⟨rfl, ZB8.out⟩
            · have a1 : ¬ (S : Int) ≤ 64 := by omega
              have b1 : 64 < (S : Int) := by omega
              clear hp1
              go_upto_region 28 with fail
              rcases Made.pick (j ≤ 1024) HK1.out HK2.out PC7.out with ⟨hp2, rfl, hg2, g2, rfl, hG2⟩ | ⟨hp2, rfl, rfl⟩
              · have a2 : (j : Int) ≤ 1024 := by omega
                have HQ2 := Aside0.mk hG2
                have HH2 : Aside0 (∀ W, GraphAt W g2 (graphOf wide) → Calls Try.prog 30 #[.pointer (some ⟨g2, 0, none⟩)] W fun e w' => e = .returned (.int .i64 (j : Int)) ∧ W = w') := ⟨fun W h => by have := dl_len hg2 g2 W h; rwa [HKL.out] at this⟩
                clear hp2 hg2 hG2
                go_wp2_with (first
                  | (go_at_call 30; ((with_reducible refine (HH2.out _ HQ2.out).mono ?_); rintro e w' ⟨rfl, rfl⟩))
                  | (go_at_call 28; ((with_reducible refine (lives15 _).mono ?_); rintro e w8 ⟨rfl, hb8⟩; have ZB8 := Aside0.mk (ZB7.out.trans (hb8.mono ZB7.out.size)); clear ZB7; clear hb8))
                  | fail)
                go_ret
                exact ⟨rfl, ZB8.out⟩
              · have a2 : ¬ (j : Int) ≤ 1024 := by omega
                have b2 : 1024 < (j : Int) := by omega
                clear hp2
                go_wp2_with (first
                  | (go_at_call 28; ((with_reducible refine (lives15 _).mono ?_); rintro e w8 ⟨rfl, hb8⟩; have ZB8 := Aside0.mk (ZB7.out.trans (hb8.mono ZB7.out.size)); clear ZB7; clear hb8))
                  | fail)
                go_ret
                exact ⟨rfl, ZB8.out⟩
def wordbooklaw15_DawgLimits.Pure : Prop := True
theorem wordbooklaw15_DawgLimits.walk (P : wordbooklaw15_DawgLimits.Pure) (a0 : Int) (a1 : Int) (a2 : Int) (w : World) (w0 : (Lit.int .i64 a0).wf = true) (w1 : (Lit.int .i64 a1).wf = true) (w2 : (Lit.int .i64 a2).wf = true) :
    Calls Try.prog 8 #[.int .i64 a0, .int .i64 a1, .int .i64 a2] w fun e w' => e = .returned (.bool true) ∧ Below w.heap.size w w' := limits_true a0 a1 a2 w (wf_i64 w0) (wf_i64 w1) (wf_i64 w2)
end Go.Proofs.Ytcdjeimjbbknjaa.PAll
