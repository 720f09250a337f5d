import Derived.BigQuiet
import Derived.Deep.RegionHeld3
import Derived.Deep.CutBlock
import Derived.Outline
import Derived.Test.YtcdjeimjbbknjaaDb5
namespace Go.Proofs.Ytcdjeimjbbknjaa.PAll
open Go.RowKit Go.Proofs.YtcdjeimjbbknjaaW.PrintWords Go.Proofs.YtcdjeimjbbknjaaW.PrintLast Go.Proofs.YtcdjeimjbbknjaaW.PrintMore Go.Proofs.Ytcdjeimjbbknjaa.Res
set_option linter.unusedVariables false
set_option linter.unusedSimpArgs false

theorem ref_build {ws : List (List Int)} (h : Good ws) (A0 : Option Addr) (c0 : Nat) (w : World) (hr0 : Kd.C (Kd.slice 3 (Kd.int .i64)) w A0 ws.length ws) (hc0 : ws.length ≤ c0) :
    Calls Try.prog 20 #[.slice A0 ws.length c0] w fun e w' => ∃ (B0 B1 B2 B3 : Option Addr) (d0 d1 d2 d3 : Nat), e = .returned (.tuple #[.agg #[.slice B0 ws.length d0, .slice B1 ((graphOf ws).map (·.f1)).length d1, .slice B2 ((graphOf ws).map (·.f2)).length d2, .slice B3 ((graphOf ws).map (·.f0)).length d3], .int .i64 0]) ∧
      (ws.length ≤ d0 ∧ Kd.C (Kd.slice 3 (Kd.int .i64)) w' B0 ws.length ws) ∧ (((graphOf ws).map (·.f1)).length ≤ d1 ∧ Kd.C (Kd.slice 3 (Kd.int .i64)) w' B1 ((graphOf ws).map (·.f1)).length ((graphOf ws).map (·.f1))) ∧ (((graphOf ws).map (·.f2)).length ≤ d2 ∧ Kd.C (Kd.slice 3 (Kd.int .i64)) w' B2 ((graphOf ws).map (·.f2)).length ((graphOf ws).map (·.f2))) ∧ (((graphOf ws).map (·.f0)).length ≤ d3 ∧ Kd.C Kd.bool w' B3 ((graphOf ws).map (·.f0)).length ((graphOf ws).map (·.f0))) ∧ Below w.heap.size w w' := by
 obtain ⟨q, hq⟩ := build15_good h
 refine (wordbookref15_Build.calls q (fun k => k < w.heap.size) A0 c0 ws _ _ _ _ _ w (Kd.V_mk hc0 (Kd.C_F (Kd.heap_slice 3 (Kd.heap_int .i64)) hr0)) hq).mono ?_
 rintro e w' ⟨v0, v1, v2, v3, rfl, h0, h1, h2, h3, hb⟩
 obtain ⟨B0, d0, rfl⟩ := Kd.V_slice h0
 obtain ⟨B1, d1, rfl, e1, f1⟩ := Kd.S_reads h1
 obtain ⟨B2, d2, rfl, e2, f2⟩ := Kd.S_reads h2
 obtain ⟨B3, d3, rfl, e3, f3⟩ := Kd.R_reads h3
 exact ⟨B0, B1, B2, B3, d0, d1, d2, d3, rfl, (Kd.V_reads' h0).2, ⟨e1, f1⟩, ⟨e2, f2⟩, ⟨e3, f3⟩, hb⟩
theorem ref_bad {ws : List (List Int)} (hw : WsOk ws) (hs : sumUpto ws ws.length ≤ 4611686018427387904) (hc : checkL ws ≠ 0) (A0 : Option Addr) (c0 : Nat) (w : World) (hr0 : Kd.C (Kd.slice 3 (Kd.int .i64)) w A0 ws.length ws) (hc0 : ws.length ≤ c0) :
    Calls Try.prog 20 #[.slice A0 ws.length c0] w fun e w' => ∃ (B0 B1 B2 B3 : Option Addr) (d0 d1 d2 d3 : Nat), e = .returned (.tuple #[.agg #[.slice B0 0 d0, .slice B1 0 d1, .slice B2 0 d2, .slice B3 0 d3], .int .i64 (checkL ws)]) ∧ Below w.heap.size w w' := by
 obtain ⟨q, hq⟩ := build15_bad hw hs hc
 refine (wordbookref15_Build.calls q (fun k => k < w.heap.size) A0 c0 ws _ _ _ _ _ w (Kd.V_mk hc0 (Kd.C_F (Kd.heap_slice 3 (Kd.heap_int .i64)) hr0)) hq).mono ?_
 rintro e w' ⟨v0, v1, v2, v3, rfl, h0, h1, h2, h3, hb⟩
 obtain ⟨B0, d0, rfl⟩ := Kd.V_slice h0
 obtain ⟨B1, d1, rfl⟩ := Kd.S_slice h1
 obtain ⟨B2, d2, rfl⟩ := Kd.S_slice h2
 obtain ⟨B3, d3, rfl⟩ := Kd.R_slice h3
 exact ⟨B0, B1, B2, B3, d0, d1, d2, d3, rfl, hb⟩
end Go.Proofs.Ytcdjeimjbbknjaa.PAll
namespace Go.Proofs.Ytcdjeimjbbknjaa.PAll
open Go.RowKit Go.Proofs.YtcdjeimjbbknjaaW.PrintWords Go.Proofs.YtcdjeimjbbknjaaW.PrintLast Go.Proofs.YtcdjeimjbbknjaaW.PrintMore Go.Proofs.Ytcdjeimjbbknjaa.Res
set_option linter.unusedVariables false
set_option linter.unusedSimpArgs false

theorem rows_C {W : World} {a : Addr} {l : Nat} {A : Nat → Option Addr} {L C : Nat → Nat} {Z : Nat → List Int} (hl : l ≤ maxLen)
    (h : ∀ r, r < l → W.cell? (a.add r) = some (.slice (A r) (L r) (C r)) ∧ L r ≤ C r ∧ C r ≤ maxLen ∧ (Z r).length = C r ∧ (A r = none → C r = 0) ∧ ∀ a', A r = some a' → ∀ c, c < C r → W.cell? (a'.add c) = some (.int .i64 ((Z r).getD c 0))) :
    Kd.C (Kd.slice 3 (Kd.int .i64)) W (some a) l ((List.range l).map fun r => (Z r).take (L r)) := by
 refine ⟨by simp, by simpa [maxLen] using hl, fun _ => ⟨_, rfl, fun j p hp => ?_⟩⟩
 obtain ⟨hj, hp⟩ := List.getElem?_eq_some_iff.1 hp
 have hjl : j < l := by simpa using hj
 rw [List.getElem_map, List.getElem_range] at hp
 subst hp
 obtain ⟨h1, h2, h3, h4, h5, h6⟩ := h j hjl
 have hpl : ((Z j).take (L j)).length = L j := by rw [List.length_take]; omega
 refine ⟨[.slice (A j) (L j) (C j)], rfl, ⟨A j, C j, by rw [hpl], by rw [hpl]; exact h2, ?_⟩, fun i u hu => ?_⟩
 ·
  rw [hpl]
  refine ⟨hpl, by simp only [maxLen] at h3; omega, fun h0 => ?_⟩
  cases hA : A j with
  | none => have := h5 hA; omega
  | some a' =>
   refine ⟨_, rfl, fun i q hq => ⟨[.int .i64 q], rfl, rfl, fun i2 u hu => ?_⟩⟩
   obtain ⟨hi, hq⟩ := List.getElem?_eq_some_iff.1 hq
   rw [hpl] at hi
   rw [List.getElem_take] at hq
   have h7 := h6 a' hA i (by omega)
   rw [List.getD_eq_getElem?_getD, List.getElem?_eq_getElem (by omega), Option.getD_some, hq] at h7
   cases i2 with
   | zero => simp only [List.getElem?_cons_zero, Option.some.injEq] at hu; subst hu; show W.cell? (a'.add (i * 1)) = _; rw [Nat.mul_one]; exact h7
   | succ i2 => simp at hu
 ·
  cases i with
  | zero => simp only [List.getElem?_cons_zero, Option.some.injEq] at hu; subst hu; show W.cell? (a.add (j * 1)) = _; rw [Nat.mul_one]; exact h1
  | succ i => simp at hu
theorem rows_trod {H : Type} {enc : TypeId × Value → H} {W : World} {held : Bool} {fuel : Nat} {a2 : Option Addr} {len2 cap2 : Nat} {x : DataW H × List MemPlace} (hf : DataW.trod enc Try.prog W 0 (fun _ => true) held fuel 23 (Value.slice a2 len2 cap2).cells.toList = some x) :
    ∃ zs : List (List Int), zs.length = len2 ∧ len2 ≤ cap2 ∧ Kd.C (Kd.slice 3 (Kd.int .i64)) W a2 zs.length zs := by
 rcases Go.Deep.open_int_rows Try.underlying23 Try.underlying22 Try.underlying3 (by kernel_rfl) (by kernel_rfl) hf with ⟨hcs, _⟩ | ⟨a, l, c, A, L, C, Z, hcs, _, hl, hm, _, hall⟩
 ·
  simp [Value.cells] at hcs
  obtain ⟨rfl, rfl, rfl⟩ := hcs
  exact ⟨[], rfl, Nat.le_refl _, rfl, Nat.zero_le _, fun h => absurd h (by simp)⟩
 ·
  simp [Value.cells] at hcs
  obtain ⟨rfl, rfl, rfl⟩ := hcs
  have hC := rows_C (l := len2) (Z := Z) (Nat.le_trans hl hm) (fun r hr => by
   obtain ⟨h1, h2, h3, h4, _, h5, h6⟩ := hall r (by omega)
   exact ⟨h1, h2, h3, h4, h5, fun a' ha => (h6 a' ha).2⟩)
  have hlen : ((List.range len2).map fun r => (Z r).take (L r)).length = len2 := by simp
  exact ⟨_, hlen, hl, by rw [hlen]; exact hC⟩
end Go.Proofs.Ytcdjeimjbbknjaa.PAll
namespace Go.Proofs.Ytcdjeimjbbknjaa.PAll
open Go.RowKit Go.Proofs.YtcdjeimjbbknjaaW.PrintWords Go.Proofs.YtcdjeimjbbknjaaW.PrintLast Go.Proofs.YtcdjeimjbbknjaaW.PrintMore
attribute [local go_sem] max2_int min2_int max_two min_two max_three min_three max_four min_four   -- for this text's walks alone
set_option linter.unusedVariables false
set_option linter.unusedSimpArgs false

mutual
def wordbookref15_Step.j0 : Nat → Int → Int → Bool → List (List Int) → List (List Int) → List (List Int) → List Bool → Option (Int)
  | 0, _, _, _, _, _, _, _ => none
  | k + 1, x1, x2, x16, x319000, x319001, x319002, x319003 => if x16 = true then (some (-1)) else (wordbookref15_Step.l0 k x1 x2 0 x319000 x319001 x319002 x319003)
def wordbookref15_Step.l0 : Nat → Int → Int → Int → List (List Int) → List (List Int) → List (List Int) → List Bool → Option (Int)
  | 0, _, _, _, _, _, _, _ => none
  | k + 1, x1, x2, x7, x319000, x319001, x319002, x319003 => if 0 ≤ x1 then (if x1 < (x319001.length : Int) then (if x7 < ((rd_L2 x319001 x1).length : Int) then (if 0 ≤ x7 then (if (rd (rd_L2 x319001 x1) x7) = x2 then (if x1 < (x319002.length : Int) then (if x7 < ((rd_L2 x319002 x1).length : Int) then (some (rd (rd_L2 x319002 x1) x7)) else (none)) else (none)) else (wordbookref15_Step.l0 k x1 x2 (wrap64 (x7 + 1)) x319000 x319001 x319002 x319003)) else (none)) else (some (-1))) else (none)) else (none)
end
def wordbookref15_Step.f (k : Nat) (l0_0 : List (List Int)) (l0_1 : List (List Int)) (l0_2 : List (List Int)) (l0_3 : List Bool) (a1 : Int) (a2 : Int) : Option (Int) := if a1 < 0 then (wordbookref15_Step.j0 k a1 a2 true l0_0 l0_1 l0_2 l0_3) else (wordbookref15_Step.j0 k a1 a2 (decide (a1 ≥ (l0_3.length : Int))) l0_0 l0_1 l0_2 l0_3)
set_option maxHeartbeats 8000000 in
set_option maxRecDepth 100000 in
theorem wordbookref15_Step.calls (k : Nat) (A0_0 : Option Addr) (c0_0 : Nat) (l0_0 : List (List Int)) (A0_1 : Option Addr) (c0_1 : Nat) (l0_1 : List (List Int)) (A0_2 : Option Addr) (c0_2 : Nat) (l0_2 : List (List Int)) (A0_3 : Option Addr) (c0_3 : Nat) (l0_3 : List Bool) (a1 : Int) (a2 : Int) (r : Int) (w : World) (hr0_0 : Kd.C (Kd.slice 3 (Kd.int .i64)) w A0_0 l0_0.length l0_0) (hc0_0 : l0_0.length ≤ c0_0) (hr0_1 : Kd.C (Kd.slice 3 (Kd.int .i64)) w A0_1 l0_1.length l0_1) (hc0_1 : l0_1.length ≤ c0_1) (hr0_2 : Kd.C (Kd.slice 3 (Kd.int .i64)) w A0_2 l0_2.length l0_2) (hc0_2 : l0_2.length ≤ c0_2) (hr0_3 : Kd.C Kd.bool w A0_3 l0_3.length l0_3) (hc0_3 : l0_3.length ≤ c0_3) (h : wordbookref15_Step.f k l0_0 l0_1 l0_2 l0_3 a1 a2 = some r) :
    Calls Try.prog 73 #[.agg #[.slice A0_0 l0_0.length c0_0, .slice A0_1 l0_1.length c0_1, .slice A0_2 l0_2.length c0_2, .slice A0_3 l0_3.length c0_3], .int .i64 a1, .int .i64 a2] w fun e w' => e = .returned (.int .i64 r) ∧ Below w.heap.size w w' := by
 have hu32 := Try.underlying32
 have HR0_0 := Aside0.mk hr0_0
 have HC0_0 := Aside0.mk hc0_0
 clear hr0_0 hc0_0
 have HR0_1 := Aside0.mk hr0_1
 have HC0_1 := Aside0.mk hc0_1
 clear hr0_1 hc0_1
 have HR0_2 := Aside0.mk hr0_2
 have HC0_2 := Aside0.mk hc0_2
 clear hr0_2 hc0_2
 have HR0_3 := Aside0.mk hr0_3
 have HC0_3 := Aside0.mk hc0_3
 clear hr0_3 hc0_3
 have HB := Aside0.mk (Below.refl w.heap.size w)
 have H : (if a1 < 0 then (wordbookref15_Step.j0 k a1 a2 true l0_0 l0_1 l0_2 l0_3) else (wordbookref15_Step.j0 k a1 a2 (decide (a1 ≥ (l0_3.length : Int))) l0_0 l0_1 l0_2 l0_3)) = some r := h
 clear h
 have HC4 := Aside0.mk H
 clear H
 go_enter Try.func73, Try.ntmps73
 go_upto_region 1 with (first | ((with_reducible refine gate_dst (N := 3) rfl ?_); (try (refine gate_guard (by rfl) ?_; dsimp only)); refine box_event ?hg (N := 3) ?hd (cs := #[.slice A0_0 l0_0.length c0_0, .slice A0_1 l0_1.length c0_1, .slice A0_2 l0_2.length c0_2, .slice A0_3 l0_3.length c0_3]) (t := 32) ?hr ?_; (case hd => rfl); (case hg => rfl); (case hr => first | (go_simp; done) | (go_simp; rfl)); intro ac hg w5 hbox hb; have ba := Aside0.mk (below_step (by repeat (first | (with_reducible first | exact HB.out | apply below_alloc | apply pw_below_drewN | apply below_drew1) | exact HB.out)) hb); have aZ := Aside0.mk (hbox); have aY := Aside0.mk ((by rw [hg]; exact (below_size (by repeat (first | (with_reducible first | exact HB.out | apply below_alloc | apply pw_below_drewN | apply below_drew1) | exact HB.out))) : w.heap.size ≤ ac)); have aX := Aside0.mk ((by rw [hg]; exact (below_size (by repeat (first | (with_reducible first | exact HB.out | apply below_alloc | apply pw_below_drewN | apply below_drew1) | exact HB.out))) : w.heap.size ≤ ac)); clear HB; have HB := ba; have aa := aZ; have bh := aY; have ag := aX; clear ba aZ aY aX; clear hb hbox hg))
 (try simp only [Act.put, List.setIfInBounds_toArray, List.set_cons_zero, List.set_cons_succ])
 go_cut [16] (fun v16 wc => ∃ (kq : Nat) (ak : Bool), v16 = .bool ak ∧ Aside0 (wordbookref15_Step.j0 kq a1 a2 ak l0_0 l0_1 l0_2 l0_3 = some r) ∧ Aside0 (kq ≤ k) ∧ Aside0 (wc.heap[ac]? = some (.cells #[(.slice A0_0 l0_0.length c0_0), (.slice A0_1 l0_1.length c0_1), (.slice A0_2 l0_2.length c0_2), (.slice A0_3 l0_3.length c0_3)] 32 (0, 0))) ∧ Aside0 (Below w.heap.size w wc))
 case first =>
  have H := HC4.out
  clear HC4
  by_cases c6 : a1 < 0
  ·
   rw [if_pos c6] at H
   have aj : decide (a1 < 0) = true := decide_eq_true c6
   clear c6
   (first | rw [aj] | (simp only [i64_w, i32_w]; rw [aj]) | skip)
   have H' := Aside0.mk H
   clear H
   go_wp2
   go_meet
   case rel => exact ⟨_, (true), (by first | rfl | (simp; done) | (simp [*]; done)), H', ⟨by first | omega | exact Nat.le_refl _⟩, ⟨by (with_reducible repeat first | apply blk_drewN | apply blk_drew | apply blk_alloc); exact aa.out⟩, ⟨by repeat (first | (with_reducible first | exact HB.out | apply below_alloc | apply pw_below_drewN | apply below_drew1 | refine below_set ?_ ag.out) | exact HB.out)⟩⟩
  rw [if_neg c6] at H
  have aj : decide (a1 < 0) = false := decide_eq_false c6
  clear c6
  (first | rw [aj] | (simp only [i64_w, i32_w]; rw [aj]) | skip)
  have H' := Aside0.mk H
  clear H
  have au : w5.cell? ⟨ac, 0, none⟩ = some (.slice A0_0 l0_0.length c0_0) := (blk_cell aa.out 0).trans rfl
  have ar : w5.cell? ⟨ac, 1, none⟩ = some (.slice A0_1 l0_1.length c0_1) := (blk_cell aa.out 1).trans rfl
  have aq : w5.cell? ⟨ac, 2, none⟩ = some (.slice A0_2 l0_2.length c0_2) := (blk_cell aa.out 2).trans rfl
  have ap : w5.cell? ⟨ac, 3, none⟩ = some (.slice A0_3 l0_3.length c0_3) := (blk_cell aa.out 3).trans rfl
  have ao := blk_frozen aa.out 0
  have an := blk_frozen aa.out 1
  have am := blk_frozen aa.out 2
  have al := blk_frozen aa.out 3
  go_wp2
  go_meet
  case rel => exact ⟨_, (decide (a1 ≥ (l0_3.length : Int))), (by first | rfl | (simp; done) | (simp [*]; done)), H', ⟨by first | omega | exact Nat.le_refl _⟩, ⟨by (with_reducible repeat first | apply blk_drewN | apply blk_drew | apply blk_alloc); exact aa.out⟩, ⟨by repeat (first | (with_reducible first | exact HB.out | apply below_alloc | apply pw_below_drewN | apply below_drew1 | refine below_set ?_ ag.out) | exact HB.out)⟩⟩
 clear HC4
 (try clear p2); (try clear c6); (try clear aj); (try clear c7); (try clear au); (try clear ar); (try clear aq); (try clear ap); (try clear ao); (try clear an); (try clear am); (try clear al)
 obtain ⟨kq, ak, rfl, HA, bg, aa, HB⟩ := hcut
 cases kq with
 | zero => exact absurd HA.out (by simp [wordbookref15_Step.j0])
 | succ aW => ?_
 have H := HA.out
 clear HA
 simp only [wordbookref15_Step.j0] at H
 by_cases c8 : ak = true
 ·
  subst c8
  have H1 : (some (-1)) = some r := by rw [if_pos rfl] at H; exact H
  clear H
  have H := H1
  clear H1
  obtain rfl := Option.some.inj H
  go_wp2
  go_ret
  exact ⟨by first | rfl | (simp [errW_none, errW_some] <;> rfl) | (simp [*, errW_none, errW_some] <;> rfl), by repeat (first | (with_reducible first | exact HB.out | apply below_alloc | apply pw_below_drewN | apply below_drew1 | refine below_set ?_ ag.out) | exact HB.out)⟩
 replace c8 := Bool.eq_false_iff.mpr c8
 subst c8
 have H1 : (wordbookref15_Step.l0 aW a1 a2 0 l0_0 l0_1 l0_2 l0_3) = some r := by rw [if_neg (show ¬ (false = true) by decide)] at H; exact H
 clear H
 have H := H1
 clear H1
 have H' := Aside0.mk H
 clear H
 go_wp2
 go_loopg [7] aW (fun kq v7 w' => ∃ (ad : Int), v7 = .int .i64 ad ∧ Aside0 (wordbookref15_Step.l0 kq a1 a2 ad l0_0 l0_1 l0_2 l0_3 = some r) ∧ Aside0 (kq ≤ aW) ∧ Aside0 (w'.heap[ac]? = some (.cells #[(.slice A0_0 l0_0.length c0_0), (.slice A0_1 l0_1.length c0_1), (.slice A0_2 l0_2.length c0_2), (.slice A0_3 l0_3.length c0_3)] 32 (0, 0))) ∧ Aside0 (Below w.heap.size w w'))
 case atStart => exact ⟨(0), (by first | rfl | (simp; done) | (simp [*]; done)), H', ⟨Nat.le_refl _⟩, ⟨by (with_reducible repeat first | apply blk_drewN | apply blk_drew | apply blk_alloc); exact aa.out⟩, ⟨by repeat (first | (with_reducible first | exact HB.out | apply below_alloc | apply pw_below_drewN | apply below_drew1 | refine below_set ?_ ag.out) | exact HB.out)⟩⟩
 clear H'
 (try clear p2); (try clear c6); (try clear aj); (try clear c7); (try clear c8); (try clear au); (try clear ar); (try clear aq); (try clear ap); (try clear ao); (try clear an); (try clear am); (try clear al); (try clear p2)
 obtain ⟨ad, rfl, HA, bf, aa, HB⟩ := hrel
 cases gk with
 | zero => exact absurd HA.out (by simp [wordbookref15_Step.l0])
 | succ k2 => ?_
 have H := HA.out
 clear HA
 simp only [wordbookref15_Step.l0] at H
 have c9 : 0 ≤ a1 := Classical.byContradiction fun c_ => by rw [if_neg c_] at H; exact absurd H (by simp)
 rw [if_pos c9] at H
 have bi : decide (0 ≤ a1) = true := decide_eq_true c9
 clear c9
 have c10 : a1 < (l0_1.length : Int) := Classical.byContradiction fun c_ => by rw [if_neg c_] at H; exact absurd H (by simp)
 rw [if_pos c10] at H
 have be : decide (a1 < (l0_1.length : Int)) = true := decide_eq_true c10
 clear c10
 by_cases c11 : ad < ((rd_L2 l0_1 a1).length : Int)
 ·
  rw [if_pos c11] at H
  have ax : decide (ad < ((rd_L2 l0_1 a1).length : Int)) = true := decide_eq_true c11
  clear c11
  have c12 : 0 ≤ ad := Classical.byContradiction fun c_ => by rw [if_neg c_] at H; exact absurd H (by simp)
  rw [if_pos c12] at H
  have bd : decide (0 ≤ ad) = true := decide_eq_true c12
  clear c12
  by_cases c13 : (rd (rd_L2 l0_1 a1) ad) = a2
  ·
   rw [if_pos c13] at H
   have aw : ((rd (rd_L2 l0_1 a1) ad) == a2) = true := beq_iff_eq.mpr c13
   have av : ((rd (rd_L2 l0_1 a1) ad) != a2) = false := bne_eq_false_iff_eq.mpr c13
   clear c13
   have c14 : a1 < (l0_2.length : Int) := Classical.byContradiction fun c_ => by rw [if_neg c_] at H; exact absurd H (by simp)
   rw [if_pos c14] at H
   have bc : decide (a1 < (l0_2.length : Int)) = true := decide_eq_true c14
   clear c14
   have c15 : ad < ((rd_L2 l0_2 a1).length : Int) := Classical.byContradiction fun c_ => by rw [if_neg c_] at H; exact absurd H (by simp)
   rw [if_pos c15] at H
   have bb : decide (ad < ((rd_L2 l0_2 a1).length : Int)) = true := decide_eq_true c15
   clear c15
   obtain rfl := Option.some.inj H
   have aV : wr.cell? ⟨ac, 0, none⟩ = some (.slice A0_0 l0_0.length c0_0) := (blk_cell aa.out 0).trans rfl
   have aU : wr.cell? ⟨ac, 1, none⟩ = some (.slice A0_1 l0_1.length c0_1) := (blk_cell aa.out 1).trans rfl
   have aT : wr.cell? ⟨ac, 2, none⟩ = some (.slice A0_2 l0_2.length c0_2) := (blk_cell aa.out 2).trans rfl
   have aS : wr.cell? ⟨ac, 3, none⟩ = some (.slice A0_3 l0_3.length c0_3) := (blk_cell aa.out 3).trans rfl
   have aJ := blk_frozen aa.out 0
   have aI := blk_frozen aa.out 1
   have aH := blk_frozen aa.out 2
   have aG := blk_frozen aa.out 3
   have p319 : 0 ≤ (a1 : Int) := of_decide_eq_true (by first | (with_reducible assumption) | assumption)
   have q319 : a1 < (l0_1.length : Int) := of_decide_eq_true (by first | (with_reducible assumption) | assumption)
   obtain ⟨ad319, A319_0, c319_0, e319, ab, hl319_0, hi319_0⟩ := at_L2 HR0_1.out a1 p319 q319
   cases e319
   replace ab := (HB.out.cell (World.block_lt_of_cell? w _ ab)).trans ab
   have HR319_0 := Aside0.mk hi319_0
   have HC319_0 := Aside0.mk hl319_0
   clear hi319_0 hl319_0
   replace p319 := eq_true p319
   replace q319 := eq_true q319
   have p320 : 0 ≤ (a1 : Int) := of_decide_eq_true (by first | (with_reducible assumption) | assumption)
   have q320 : a1 < (l0_1.length : Int) := of_decide_eq_true (by first | (with_reducible assumption) | assumption)
   obtain ⟨ad320, A320_0, c320_0, e320, ae, hl320_0, hi320_0⟩ := at_L2 HR0_1.out a1 p320 q320
   obtain rfl : ad319 = ad320 := (by injection e320)
   replace ae := (HB.out.cell (World.block_lt_of_cell? w _ ae)).trans ae
   have HR320_0 := Aside0.mk hi320_0
   have HC320_0 := Aside0.mk hl320_0
   clear hi320_0 hl320_0
   replace p320 := eq_true p320
   replace q320 := eq_true q320
   have ea_ := Option.some.inj (ab.symm.trans ae)
   injection ea_ with ea_ en_ ec_
   subst ea_
   subst ec_
   clear en_
   have p321 : 0 ≤ (ad : Int) := of_decide_eq_true (by first | (with_reducible assumption) | assumption)
   have q321 : ad < ((rd_L2 l0_1 a1).length : Int) := of_decide_eq_true (by first | (with_reducible assumption) | assumption)
   obtain ⟨ad321, e321, af⟩ := Kd.at_int HR320_0.out ad p321 q321
   cases e321
   replace af := (HB.out.cell (World.block_lt_of_cell? w _ af)).trans af
   replace p321 := eq_true p321
   replace q321 := eq_true q321
   have p322 : 0 ≤ (a1 : Int) := of_decide_eq_true (by first | (with_reducible assumption) | assumption)
   have q322 : a1 < (l0_2.length : Int) := of_decide_eq_true (by first | (with_reducible assumption) | assumption)
   obtain ⟨ad322, A322_0, c322_0, e322, ai, hl322_0, hi322_0⟩ := at_L2 HR0_2.out a1 p322 q322
   cases e322
   replace ai := (HB.out.cell (World.block_lt_of_cell? w _ ai)).trans ai
   have HR322_0 := Aside0.mk hi322_0
   have HC322_0 := Aside0.mk hl322_0
   clear hi322_0 hl322_0
   replace p322 := eq_true p322
   replace q322 := eq_true q322
   have p323 : 0 ≤ (ad : Int) := of_decide_eq_true (by first | (with_reducible assumption) | assumption)
   have q323 : ad < ((rd_L2 l0_2 a1).length : Int) := of_decide_eq_true (by first | (with_reducible assumption) | assumption)
   obtain ⟨ad323, e323, ah⟩ := Kd.at_int HR322_0.out ad p323 q323
   cases e323
   replace ah := (HB.out.cell (World.block_lt_of_cell? w _ ah)).trans ah
   replace p323 := eq_true p323
   replace q323 := eq_true q323
   go_wp2
   go_ret
   exact ⟨by first | rfl | (simp [errW_none, errW_some] <;> rfl) | (simp [*, errW_none, errW_some] <;> rfl), by repeat (first | (with_reducible first | exact HB.out | apply below_alloc | apply pw_below_drewN | apply below_drew1 | refine below_set ?_ ag.out) | exact HB.out)⟩
  rw [if_neg c13] at H
  have aw : ((rd (rd_L2 l0_1 a1) ad) == a2) = false := beq_eq_false_iff_ne.mpr c13
  have av : ((rd (rd_L2 l0_1 a1) ad) != a2) = true := bne_iff_ne.mpr c13
  have H' := Aside0.mk H
  clear H
  have aR : wr.cell? ⟨ac, 0, none⟩ = some (.slice A0_0 l0_0.length c0_0) := (blk_cell aa.out 0).trans rfl
  have aQ : wr.cell? ⟨ac, 1, none⟩ = some (.slice A0_1 l0_1.length c0_1) := (blk_cell aa.out 1).trans rfl
  have aP : wr.cell? ⟨ac, 2, none⟩ = some (.slice A0_2 l0_2.length c0_2) := (blk_cell aa.out 2).trans rfl
  have aO : wr.cell? ⟨ac, 3, none⟩ = some (.slice A0_3 l0_3.length c0_3) := (blk_cell aa.out 3).trans rfl
  have aF := blk_frozen aa.out 0
  have aE := blk_frozen aa.out 1
  have aD := blk_frozen aa.out 2
  have aC := blk_frozen aa.out 3
  have p319 : 0 ≤ (a1 : Int) := of_decide_eq_true (by first | (with_reducible assumption) | assumption)
  have q319 : a1 < (l0_1.length : Int) := of_decide_eq_true (by first | (with_reducible assumption) | assumption)
  obtain ⟨ad319, A319_0, c319_0, e319, ab, hl319_0, hi319_0⟩ := at_L2 HR0_1.out a1 p319 q319
  cases e319
  replace ab := (HB.out.cell (World.block_lt_of_cell? w _ ab)).trans ab
  have HR319_0 := Aside0.mk hi319_0
  have HC319_0 := Aside0.mk hl319_0
  clear hi319_0 hl319_0
  replace p319 := eq_true p319
  replace q319 := eq_true q319
  have p320 : 0 ≤ (a1 : Int) := of_decide_eq_true (by first | (with_reducible assumption) | assumption)
  have q320 : a1 < (l0_1.length : Int) := of_decide_eq_true (by first | (with_reducible assumption) | assumption)
  obtain ⟨ad320, A320_0, c320_0, e320, ae, hl320_0, hi320_0⟩ := at_L2 HR0_1.out a1 p320 q320
  obtain rfl : ad319 = ad320 := (by injection e320)
  replace ae := (HB.out.cell (World.block_lt_of_cell? w _ ae)).trans ae
  have HR320_0 := Aside0.mk hi320_0
  have HC320_0 := Aside0.mk hl320_0
  clear hi320_0 hl320_0
  replace p320 := eq_true p320
  replace q320 := eq_true q320
  have ea_ := Option.some.inj (ab.symm.trans ae)
  injection ea_ with ea_ en_ ec_
  subst ea_
  subst ec_
  clear en_
  have p321 : 0 ≤ (ad : Int) := of_decide_eq_true (by first | (with_reducible assumption) | assumption)
  have q321 : ad < ((rd_L2 l0_1 a1).length : Int) := of_decide_eq_true (by first | (with_reducible assumption) | assumption)
  obtain ⟨ad321, e321, af⟩ := Kd.at_int HR320_0.out ad p321 q321
  cases e321
  replace af := (HB.out.cell (World.block_lt_of_cell? w _ af)).trans af
  replace p321 := eq_true p321
  replace q321 := eq_true q321
  go_wp2
  go_roundg k2
  case measure => have := bg.out; have := bf.out; omega
  case rel => exact ⟨(wrap64 (ad + 1)), (by first | rfl | (simp; done) | (simp [*]; done)), H', ⟨by have := bg.out; have := bf.out; omega⟩, ⟨by (with_reducible repeat first | apply blk_drewN | apply blk_drew | apply blk_alloc); exact aa.out⟩, ⟨by repeat (first | (with_reducible first | exact HB.out | apply below_alloc | apply pw_below_drewN | apply below_drew1 | refine below_set ?_ ag.out) | exact HB.out)⟩⟩
 rw [if_neg c11] at H
 have ax : decide (ad < ((rd_L2 l0_1 a1).length : Int)) = false := decide_eq_false c11
 clear c11
 obtain rfl := Option.some.inj H
 have aN : wr.cell? ⟨ac, 0, none⟩ = some (.slice A0_0 l0_0.length c0_0) := (blk_cell aa.out 0).trans rfl
 have aM : wr.cell? ⟨ac, 1, none⟩ = some (.slice A0_1 l0_1.length c0_1) := (blk_cell aa.out 1).trans rfl
 have aL : wr.cell? ⟨ac, 2, none⟩ = some (.slice A0_2 l0_2.length c0_2) := (blk_cell aa.out 2).trans rfl
 have aK : wr.cell? ⟨ac, 3, none⟩ = some (.slice A0_3 l0_3.length c0_3) := (blk_cell aa.out 3).trans rfl
 have aB := blk_frozen aa.out 0
 have aA := blk_frozen aa.out 1
 have az := blk_frozen aa.out 2
 have ay := blk_frozen aa.out 3
 have p319 : 0 ≤ (a1 : Int) := of_decide_eq_true (by first | (with_reducible assumption) | assumption)
 have q319 : a1 < (l0_1.length : Int) := of_decide_eq_true (by first | (with_reducible assumption) | assumption)
 obtain ⟨ad319, A319_0, c319_0, e319, ab, hl319_0, hi319_0⟩ := at_L2 HR0_1.out a1 p319 q319
 cases e319
 replace ab := (HB.out.cell (World.block_lt_of_cell? w _ ab)).trans ab
 have HR319_0 := Aside0.mk hi319_0
 have HC319_0 := Aside0.mk hl319_0
 clear hi319_0 hl319_0
 replace p319 := eq_true p319
 replace q319 := eq_true q319
 go_wp2
 go_ret
 exact ⟨by first | rfl | (simp [errW_none, errW_some] <;> rfl) | (simp [*, errW_none, errW_some] <;> rfl), by repeat (first | (with_reducible first | exact HB.out | apply below_alloc | apply pw_below_drewN | apply below_drew1 | refine below_set ?_ ag.out) | exact HB.out)⟩
end Go.Proofs.Ytcdjeimjbbknjaa.PAll
namespace Go.Proofs.Ytcdjeimjbbknjaa.PAll
open Go.RowKit Go.Proofs.YtcdjeimjbbknjaaW.PrintWords Go.Proofs.YtcdjeimjbbknjaaW.PrintLast Go.Proofs.YtcdjeimjbbknjaaW.PrintMore Go.Proofs.Ytcdjeimjbbknjaa.Res
set_option linter.unusedVariables false
set_option linter.unusedSimpArgs false

theorem map_f1 {ns : List Nd} {i : Nat} (h : i < ns.length) : rdR (ns.map (·.f1)) (i : Int) = (rdN ns (i : Int)).f1 := by
 rw [rdR_nat, List.getD_eq_getElem?_getD, List.getElem?_map, List.getElem?_eq_getElem h, rdN_get h]; rfl
theorem map_f2 {ns : List Nd} {i : Nat} (h : i < ns.length) : rdR (ns.map (·.f2)) (i : Int) = (rdN ns (i : Int)).f2 := by
 rw [rdR_nat, List.getD_eq_getElem?_getD, List.getElem?_map, List.getElem?_eq_getElem h, rdN_get h]; rfl
theorem step15_l0 {ns : List Nd} (hk : GOk ns) (ws : List (List Int)) (d : List Bool) (i : Nat) (hi : i < ns.length) (s : Int) : ∀ (m j : Nat), j + m = (rdN ns (i : Int)).f1.length → (∀ j', j' < j → rd (rdN ns (i : Int)).f1 j' ≠ s) →
    ∀ q, m < q → wordbookref15_Step.l0 q (i : Int) s (j : Int) ws (ns.map (·.f1)) (ns.map (·.f2)) d = some (if s ∈ (rdN ns (i : Int)).f1 then rd (rdN ns (i : Int)).f2 (posL (rdN ns (i : Int)).f1 s) else -1) := by
 have hmem : rdN ns (i : Int) ∈ ns := rdN_mem' (by omega) (by omega)
 have hinc := hk.inc _ hmem
 have heven := hk.even _ hmem
 have hshort := hk.short _ hmem
 intro m
 induction m with
 | zero =>
  intro j hj hn q hq
  obtain ⟨q, rfl⟩ : ∃ q', q = q' + 1 := ⟨q - 1, by omega⟩
  have hs : s ∉ (rdN ns (i : Int)).f1 := fun h => by
   obtain ⟨h1, h2⟩ := (posL_mem hinc).1 h
   exact hn _ (by omega) h2
  rw [wordbookref15_Step.l0, rdL_R, map_f1 hi, if_pos (by omega), if_pos (by rw [List.length_map]; omega), if_neg (by omega), if_neg hs]
 | succ m ih =>
  intro j hj hn q hq
  obtain ⟨q, rfl⟩ : ∃ q', q = q' + 1 := ⟨q - 1, by omega⟩
  rw [wordbookref15_Step.l0, rdL_R, map_f1 hi, map_f2 hi, if_pos (by omega), if_pos (by rw [List.length_map]; omega), if_pos (by omega), if_pos (by omega)]
  by_cases he : rd (rdN ns (i : Int)).f1 (j : Int) = s
  ·
   have hs : s ∈ (rdN ns (i : Int)).f1 := by rw [← he]; exact rd_mem' (by omega)
   obtain ⟨h1, h2⟩ := (posL_mem hinc).1 hs
   have h3 := posL_lt (s := s) hinc j (by omega)
   have hp : posL (rdN ns (i : Int)).f1 s = j := by
    rcases Nat.lt_trichotomy (posL (rdN ns (i : Int)).f1 s) j with h | h | h
    ·
     exact absurd h2 (hn _ h)
    ·
     exact h
    ·
     have := h3.2 h; omega
   rw [if_pos he, if_pos (by rw [List.length_map]; omega), if_pos (by omega), if_pos hs, hp]
  ·
   rw [if_neg he, show wrap64 ((j : Int) + 1) = ((j + 1 : Nat) : Int) from by unfold wrap64; omega]
   refine ih (j + 1) (by omega) (fun j' hj' => ?_) q (by omega)
   rcases Nat.lt_or_ge j' j with h | h
   ·
    exact hn j' h
   ·
    obtain rfl : j' = j := by omega
    exact he
theorem step15_is {ns : List Nd} (hk : GOk ns) (ws : List (List Int)) (i s : Int) : wordbookref15_Step.f 1000000010 ws (ns.map (·.f1)) (ns.map (·.f2)) (ns.map (·.f0)) i s = some (stepN ns i s) := by
 unfold wordbookref15_Step.f stepN hasB
 by_cases h0 : i < 0
 ·
  rw [if_pos h0, wordbookref15_Step.j0, if_pos rfl, if_neg]
  rintro ⟨h, _⟩
  simp at h; omega
 ·
  rw [if_neg h0]
  obtain ⟨j, rfl⟩ := Int.eq_ofNat_of_zero_le (show 0 ≤ i by omega)
  by_cases h1 : j < ns.length
  ·
   rw [wordbookref15_Step.j0, if_neg (by rw [List.length_map]; simp; omega)]
   have hmem : rdN ns (j : Int) ∈ ns := rdN_mem' (by omega) (by omega)
   have hshort := hk.short _ hmem
   rw [show (0 : Int) = ((0 : Nat) : Int) from rfl, step15_l0 hk ws _ j h1 s (rdN ns (j : Int)).f1.length 0 (Nat.zero_add _) (fun j' h => by omega) _ (by omega)]
   by_cases hs : s ∈ (rdN ns (j : Int)).f1
   ·
    rw [if_pos hs, if_pos ⟨by simp; omega, hs⟩]
   ·
    rw [if_neg hs, if_neg (fun h => hs h.2)]
  ·
   rw [wordbookref15_Step.j0, if_pos (by rw [List.length_map]; simp; omega), if_neg]
   rintro ⟨h, _⟩
   simp at h; omega
theorem step15 {ws : List (List Int)} (h : Good ws) (A0 A1 A2 A3 : Option Addr) (n1 n2 n3 c0 c1 c2 c3 : Nat) (i s : Int) (w : World) (hn1 : n1 = (graphOf ws).length) (hn2 : n2 = (graphOf ws).length) (hn3 : n3 = (graphOf ws).length) (hr0 : Kd.C (Kd.slice 3 (Kd.int .i64)) w A0 ws.length ws) (hc0 : ws.length ≤ c0) (hr1 : Kd.C (Kd.slice 3 (Kd.int .i64)) w A1 ((graphOf ws).map (·.f1)).length ((graphOf ws).map (·.f1))) (hc1 : ((graphOf ws).map (·.f1)).length ≤ c1) (hr2 : Kd.C (Kd.slice 3 (Kd.int .i64)) w A2 ((graphOf ws).map (·.f2)).length ((graphOf ws).map (·.f2))) (hc2 : ((graphOf ws).map (·.f2)).length ≤ c2) (hr3 : Kd.C Kd.bool w A3 ((graphOf ws).map (·.f0)).length ((graphOf ws).map (·.f0))) (hc3 : ((graphOf ws).map (·.f0)).length ≤ c3) :
    Calls Try.prog 73 #[.agg #[.slice A0 ws.length c0, .slice A1 n1 c1, .slice A2 n2 c2, .slice A3 n3 c3], .int .i64 i, .int .i64 s] w fun e w' => e = .returned (.int .i64 (stepN (graphOf ws) i s)) ∧ Below w.heap.size w w' := by
 subst hn1 hn2 hn3
 obtain ⟨Q, hi, hl, h0, hk⟩ := dgraph h
 have := wordbookref15_Step.calls 1000000010 A0 c0 ws A1 c1 _ A2 c2 _ A3 c3 _ i s _ w hr0 hc0 hr1 hc1 hr2 hc2 hr3 hc3 (step15_is hk ws i s)
 simpa using this
end Go.Proofs.Ytcdjeimjbbknjaa.PAll
namespace Go.Proofs.Ytcdjeimjbbknjaa.PAll
open Go.RowKit Go.Proofs.YtcdjeimjbbknjaaW.PrintWords Go.Proofs.YtcdjeimjbbknjaaW.PrintLast Go.Proofs.YtcdjeimjbbknjaaW.PrintMore Go.Proofs.Ytcdjeimjbbknjaa.Res
set_option linter.unusedVariables false
set_option linter.unusedSimpArgs false

theorem eq_same (a : List Int) (A0 A1 : Option Addr) (c0 c1 : Nat) (w : World) (hr0 : Kd.C (Kd.int .i64) w A0 a.length a) (hc0 : a.length ≤ c0) (hr1 : Kd.C (Kd.int .i64) w A1 a.length a) (hc1 : a.length ≤ c1) (ha : a.length ≤ 1000000000) :
    Calls Try.prog 27 #[.slice A0 a.length c0, .slice A1 a.length c1] w fun e w' => e = .returned (.bool true) ∧ Below w.heap.size w w' := by
 refine (wordbookref01_SameInts.calls (a.length + 1) A0 c0 a A1 c1 a _ w hr0 hc0 hr1 hc1 (sameInts_is a a (by omega) _ (by omega))).mono ?_
 rintro e w' ⟨rfl, hd⟩
 exact ⟨by simp, hd.below⟩
set_option maxHeartbeats 8000000 in
set_option maxRecDepth 100000 in
theorem equal15 {ws : List (List Int)} (h : Good ws) (g : Nat) (B0 B1 B2 B3 : Option Addr) (n1 n2 n3 d0 d1 d2 d3 : Nat) (w : World) (hg : GraphAt w g (graphOf ws)) (hn1 : n1 = (graphOf ws).length) (hn2 : n2 = (graphOf ws).length) (hn3 : n3 = (graphOf ws).length) (hr0 : Kd.C (Kd.slice 3 (Kd.int .i64)) w B0 ws.length ws) (hc0 : ws.length ≤ d0) (hr1 : Kd.C (Kd.slice 3 (Kd.int .i64)) w B1 ((graphOf ws).map (·.f1)).length ((graphOf ws).map (·.f1))) (hc1 : ((graphOf ws).map (·.f1)).length ≤ d1) (hr2 : Kd.C (Kd.slice 3 (Kd.int .i64)) w B2 ((graphOf ws).map (·.f2)).length ((graphOf ws).map (·.f2))) (hc2 : ((graphOf ws).map (·.f2)).length ≤ d2) (hr3 : Kd.C Kd.bool w B3 ((graphOf ws).map (·.f0)).length ((graphOf ws).map (·.f0))) (hc3 : ((graphOf ws).map (·.f0)).length ≤ d3) :
    Calls Try.prog 29 #[.pointer (some ⟨g, 0, none⟩), .agg #[.slice B0 ws.length d0, .slice B1 n1 d1, .slice B2 n2 d2, .slice B3 n3 d3]] w fun e w' => e = .returned (.bool true) ∧ Below w.heap.size w w' := by
 have hsm := graphOf_small h
 have hfw := h.few
 obtain ⟨W1, hW1⟩ : ∃ W1, W1 = w.alloc (.cells #[.slice B0 ws.length d0, .slice B1 n1 d1, .slice B2 n2 d2, .slice B3 n3 d3] 32) := ⟨_, rfl⟩
 have hb1 : Below w.heap.size w W1 := by rw [hW1]; exact below_alloc (Below.refl _ _) _
 have hbk : W1.heap[w.heap.size]? = some (.cells #[.slice B0 ws.length d0, .slice B1 n1 d1, .slice B2 n2 d2, .slice B3 n3 d3] 32 (0, 0)) := by rw [hW1]; exact blk_new _ _
 have HB := Aside0.mk hb1
 have HG := Aside0.mk (hg.below hb1)
 have H0 := Aside0.mk (Kd.C_below hr0 hb1)
 have H1 := Aside0.mk (Kd.C_below hr1 hb1)
 have H2 := Aside0.mk (Kd.C_below hr2 hb1)
 have H3 := Aside0.mk (Kd.C_below hr3 hb1)
 have HD : Aside0 ((ws.length ≤ d0 ∧ ((graphOf ws).map (·.f1)).length ≤ d1) ∧ ((graphOf ws).map (·.f2)).length ≤ d2 ∧ ((graphOf ws).map (·.f0)).length ≤ d3) := ⟨⟨hc0, hc1⟩, hc2, hc3⟩
 have HN : Aside0 ((n1 = (graphOf ws).length ∧ n2 = (graphOf ws).length) ∧ n3 = (graphOf ws).length) := ⟨⟨hn1, hn2⟩, hn3⟩
 have HGood := Aside0.mk h
 have HCell : Aside0 (∀ X, Below W1.heap.size W1 X → X.cell? ⟨w.heap.size, 0, none⟩ = some (.slice B0 ws.length d0) ∧ X.cell? ⟨w.heap.size, 1, none⟩ = some (.slice B1 n1 d1) ∧ X.cell? ⟨w.heap.size, 2, none⟩ = some (.slice B2 n2 d2) ∧ X.cell? ⟨w.heap.size, 3, none⟩ = some (.slice B3 n3 d3)) :=
  ⟨fun X hb => ⟨(blk_cell (blk_below hbk hb) 0).trans rfl, (blk_cell (blk_below hbk hb) 1).trans rfl, (blk_cell (blk_below hbk hb) 2).trans rfl, (blk_cell (blk_below hbk hb) 3).trans rfl⟩⟩
 have HLen : Aside0 (∀ k, Calls Try.prog 30 #[.pointer (some ⟨g, 0, none⟩)] (W1.drewN k) fun e w' => e = .returned (.int .i64 (ws.length : Int)) ∧ ∃ q, w' = W1.drewN q) := ⟨fun k => (dl_len h g _ (HG.out.below (pw_below_drewN (Below.refl _ _) k))).mono fun e w' hh => ⟨hh.1, k, hh.2.symm⟩⟩
 have HSt : Aside0 (∀ k, Calls Try.prog 42 #[.pointer (some ⟨g, 0, none⟩)] (W1.drewN k) fun e w' => e = .returned (.int .i64 (n3 : Int)) ∧ ∃ q, w' = W1.drewN q) := ⟨fun k => by rw [hn3]; exact (dl_states g _ (HG.out.below (pw_below_drewN (Below.refl _ _) k))).mono fun e w' hh => ⟨hh.1, k, hh.2.symm⟩⟩
 have HW1 := Aside0.mk hW1
 have hn3s : n3 ≤ 70000 := by omega
 clear h hg hr0 hr1 hr2 hr3 hc0 hc1 hc2 hc3 hn1 hn2 hn3 hb1 hbk hW1 hsm
 obtain ⟨x0, x1, x2, x3⟩ := HCell.out W1 (Below.refl _ _)
 have e1 : ((ws.length : Int) != (ws.length : Int)) = false := by simp
 have e2 : ((n3 : Int) != (n3 : Int)) = false := by simp
 go_enter Try.func29, Try.ntmps29
 go_upto_region 1 with fail
 rw [← HW1.out]
 clear HW1
 go_quiet (first | (go_at_call 30; with_reducible exact HLen.out _) | (go_at_call 42; with_reducible exact HSt.out _))
 go_wp2
 have hbq : Below W1.heap.size W1 (W1.drewN nq) := pw_below_drewN (Below.refl _ _) nq
 have HBq := Aside0.mk hbq
 clear hbq x0 x1 x2 x3
 go_loopw [5, 6, 7, 8] (fun s5 s6 s7 s8 wr => ∃ i : Int, s5 = .int .i64 i ∧ Aside0 (-1 ≤ i ∧ i ≤ (n3 : Int) + 1) ∧ Aside0 (Below W1.heap.size W1 wr)) (fun s5 _ _ _ _ => ((n3 : Int) + 1 - intOf s5).toNat)
 case atStart => exact ⟨-1, rfl, ⟨by omega, by omega⟩, HBq⟩
 case round =>
  obtain ⟨i, rfl, hi, RB⟩ := hrel
  have hi0 := hi.out
  have hn := HN.out
  obtain ⟨x0, x1, x2, x3⟩ := HCell.out _ RB.out
  by_cases hin : i ≤ (n3 : Int)
  ·
   have wi1 : IntKind.i64.wrap (i + 1) = i + 1 := wrap_in (by omega) (by omega)
   have HI : Aside0 (-1 ≤ i ∧ i ≤ (n3 : Int)) := ⟨by omega, hin⟩
   by_cases hii : 0 ≤ i ∧ i < (n3 : Int)
   ·
    obtain ⟨j, rfl⟩ := Int.eq_ofNat_of_zero_le hii.1
    have hg0 : (j : Int) ≥ 0 := hii.1
    have hg1 : (j : Int) < (n3 : Int) := hii.2
    have hjn : j < (graphOf ws).length := by omega
    have hg2 : (j : Int) < (n1 : Int) := by omega
    obtain ⟨ad3, rfl, hf⟩ := Kd.at_bool H3.out (j : Int) (by omega) (by rw [List.length_map]; omega)
    obtain ⟨ad1, A4, c4, rfl, hy, hl4, hR4⟩ := at_rows H1.out (j : Int) (by omega) (by rw [List.length_map]; omega)
    rw [map_f1 hjn] at hy hl4 hR4
    rw [Int.toNat_natCast] at hf hy
    have hfb : rdOf false ((graphOf ws).map (·.f0)) (j : Int) = (rdN (graphOf ws) (j : Int)).f0 := by
     rw [rdOf, Int.toNat_natCast, List.getD_eq_getElem?_getD, List.getElem?_map, List.getElem?_eq_getElem hjn, rdN_get hjn]; rfl
    rw [hfb] at hf
    have hhas : hasB (graphOf ws).length (j : Int) = true := by unfold hasB; simp; omega
    have HSy : Aside0 (symsN (graphOf ws) (j : Int) = (rdN (graphOf ws) (j : Int)).f1) := ⟨by unfold symsN; rw [if_pos hhas]⟩
    have HFi : Aside0 (finalB (graphOf ws) (j : Int) = (rdN (graphOf ws) (j : Int)).f0) := ⟨by unfold finalB; rw [hhas]; rfl⟩
    have hshort : (rdN (graphOf ws) (j : Int)).f1.length ≤ 1000000000 := by
     obtain ⟨Q, _, _, _, hk⟩ := dgraph HGood.out
     exact hk.short _ (rdN_mem' (by omega) (by omega))
    have HSyC : Aside0 (∀ X, Below W1.heap.size W1 X → Calls Try.prog 32 #[.pointer (some ⟨g, 0, none⟩), .int .i64 (j : Int)] X fun e w' => ∃ A c, e = .returned (.slice A (rdN (graphOf ws) (j : Int)).f1.length c) ∧ (rdN (graphOf ws) (j : Int)).f1.length ≤ c ∧ Kd.C (Kd.int .i64) w' A (rdN (graphOf ws) (j : Int)).f1.length (rdN (graphOf ws) (j : Int)).f1 ∧ Below X.heap.size X w') := ⟨fun X hb => by
     have := dl_symbols HGood.out g (j : Int) X (HG.out.below hb); rwa [HSy.out] at this⟩
    have HFiC : Aside0 (∀ X, Below W1.heap.size W1 X → Calls Try.prog 31 #[.pointer (some ⟨g, 0, none⟩), .int .i64 (j : Int)] X fun e w' => e = .returned (.bool (rdN (graphOf ws) (j : Int)).f0) ∧ X = w') := ⟨fun X hb => by have := dl_final (ws := ws) g (j : Int) X (HG.out.below hb); rwa [HFi.out] at this⟩
    clear HSy HFi hhas hfb
    generalize (rdN (graphOf ws) (j : Int)).f1 = u at *
    generalize (rdN (graphOf ws) (j : Int)).f0 = fb at *
    have HCX : Aside0 (∀ X, Below W1.heap.size W1 X → X.cell? (ad3.add j) = some (.bool fb) ∧ X.cell? (ad1.add j) = some (.slice A4 u.length c4) ∧ Kd.C (Kd.int .i64) X A4 u.length u) := ⟨fun X hb => ⟨pw_cell_below hb hf, pw_cell_below hb hy, Kd.C_below hR4 hb⟩⟩
    have hbb : (fb != fb) = false := by simp
    clear hf hy hR4 hii hi hi0 hn
    go_wp2_with (first
     | (go_at_call 32; ((with_reducible refine (HSyC.out _ RB.out).mono ?_); rintro e w2 ⟨As, cs, rfl, hls, hCs, hb2⟩; have RB2 := Aside0.mk (RB.out.trans (hb2.mono RB.out.size)); have HCs := Aside0.mk hCs; clear hb2 hCs x0 x1 x2 x3; obtain ⟨x0, x1, x2, x3⟩ := HCell.out _ RB2.out; obtain ⟨x4, x5, x6⟩ := HCX.out _ RB2.out; have HC4 := Aside0.mk x6; clear x6))
     | (go_at_call 31; ((with_reducible refine (HFiC.out _ RB2.out).mono ?_); rintro e w' ⟨rfl, rfl⟩))
     | (go_at_call 27; ((with_reducible refine (eq_same u As A4 cs c4 _ HCs.out hls HC4.out hl4 hshort).mono ?_); rintro e w3 ⟨rfl, hb3⟩; have RB3 := Aside0.mk (RB2.out.trans (hb3.mono RB2.out.size)); clear hb3))
     | fail)
    go_loopw [8] (fun s8 wr => ∃ s : Int, s8 = .int .i64 s ∧ Aside0 (-1 ≤ s ∧ s ≤ 65) ∧ Aside0 (Below W1.heap.size W1 wr)) (fun s8 _ => (65 - intOf s8).toNat)
    case atStart => exact ⟨-1, rfl, ⟨by omega, by omega⟩, RB3⟩
    case round =>
     obtain ⟨s, rfl, hs, QB⟩ := hrel
     have hs0 := hs.out
     by_cases hsl : s ≤ 64
     ·
      have ws1 : IntKind.i64.wrap (s + 1) = s + 1 := wrap_in (by omega) (by omega)
      obtain ⟨q, hq⟩ : ∃ q, stepN (graphOf ws) (j : Int) s = q := ⟨_, rfl⟩
      have HS1 : Aside0 (∀ X, Below W1.heap.size W1 X → Calls Try.prog 33 #[.pointer (some ⟨g, 0, none⟩), .int .i64 (j : Int), .int .i64 s] X fun e w' => e = .returned (.int .i64 q) ∧ Below X.heap.size X w') := ⟨fun X hb => by rw [← hq]; exact dl_step HGood.out g (j : Int) s X (HG.out.below hb)⟩
      have HS2 : Aside0 (∀ X, Below W1.heap.size W1 X → Calls Try.prog 73 #[.agg #[.slice B0 ws.length d0, .slice (some ad1) n1 d1, .slice B2 n2 d2, .slice (some ad3) n3 d3], .int .i64 (j : Int), .int .i64 s] X fun e w' => e = .returned (.int .i64 q) ∧ Below X.heap.size X w') := ⟨fun X hb => by rw [← hq]; exact step15 HGood.out B0 (some ad1) B2 (some ad3) n1 n2 n3 d0 d1 d2 d3 (j : Int) s X HN.out.1.1 HN.out.1.2 HN.out.2 (Kd.C_below H0.out hb) HD.out.1.1 (Kd.C_below H1.out hb) HD.out.1.2 (Kd.C_below H2.out hb) HD.out.2.1 (Kd.C_below H3.out hb) HD.out.2.2⟩
      have hqq : (q != q) = false := by simp
      have HSl : Aside0 (-1 ≤ s ∧ s ≤ 64) := ⟨by omega, hsl⟩
      clear hq hs hs0
      obtain ⟨x0, x1, x2, x3⟩ := HCell.out _ QB.out
      have HSB : Aside0 (∀ X, Below wr.heap.size wr X → X.cell? ⟨w.heap.size, 0, none⟩ = some (.slice B0 ws.length d0) ∧ X.cell? ⟨w.heap.size, 1, none⟩ = some (.slice (some ad1) n1 d1) ∧ X.cell? ⟨w.heap.size, 2, none⟩ = some (.slice B2 n2 d2) ∧ X.cell? ⟨w.heap.size, 3, none⟩ = some (.slice (some ad3) n3 d3)) := ⟨fun X hb => HCell.out X (QB.out.trans (hb.mono QB.out.size))⟩
      go_upto_region 13 with fail
      go_region_held3 (fun X => X.cell? ⟨w.heap.size, 0, none⟩ = some (.slice B0 ws.length d0) ∧ X.cell? ⟨w.heap.size, 1, none⟩ = some (.slice (some ad1) n1 d1) ∧ X.cell? ⟨w.heap.size, 2, none⟩ = some (.slice B2 n2 d2) ∧ X.cell? ⟨w.heap.size, 3, none⟩ = some (.slice (some ad3) n3 d3)) (first | exact HSB.out _ (by repeat (first | assumption | exact Below.refl _ _ | apply below_alloc | apply below_drew1))) (first | (go_at_call 33; (with_reducible refine (HS1.out _ QB.out.drew).mono ?_); rintro e w6 ⟨rfl, hbq⟩; have hb6 : Below wr.heap.size wr w6 := (Below.refl _ _).drew.trans (hbq.mono (by simp)); clear hbq) | (go_at_call 73; (with_reducible refine (HS2.out _ QB.out.drew).mono ?_); rintro e w7 ⟨rfl, hbq⟩; have hb7 : Below wr.heap.size wr w7 := (Below.refl _ _).drew.trans (hbq.mono (by simp)); clear hbq) | (go_at_call 73; (with_reducible refine (HS2.out _ (QB.out.trans (hb6.mono QB.out.size))).mono ?_); rintro e w8 ⟨rfl, hbq⟩; have hb8 : Below wr.heap.size wr w8 := hb6.trans (hbq.mono hb6.size); clear hbq) | (go_at_call 33; (with_reducible refine (HS1.out _ (QB.out.trans (hb7.mono QB.out.size))).mono ?_); rintro e w8 ⟨rfl, hbq⟩; have hb8 : Below wr.heap.size wr w8 := hb7.trans (hbq.mono hb7.size); clear hbq) | fail)
      all_goals (
       have QB2 := Aside0.mk (QB.out.trans (hb8.mono QB.out.size))
       clear hb8
       go_wp2
       go_roundw
       case rel => first | exact ⟨s + 1, by go_num, ⟨by have := HSl.out; omega, by have := HSl.out; omega⟩, QB2⟩ | ((repeat apply Exists.intro); refine ⟨?_, rfl⟩; exact ⟨s + 1, by go_num, ⟨by have := HSl.out; omega, by have := HSl.out; omega⟩, QB2⟩)
       case measure => have := HSl.out; simp [intOf]; omega)
     ·
      go_wp2
      go_roundw
      case rel => first | exact ⟨(j : Int) + 1, by go_num, ⟨by have := HI.out; omega, by have := HI.out; omega⟩, QB⟩ | ((repeat apply Exists.intro); refine ⟨?_, rfl⟩; exact ⟨(j : Int) + 1, by go_num, ⟨by have := HI.out; omega, by have := HI.out; omega⟩, QB⟩)
      case measure => have := HI.out; simp [intOf]; omega
   ·
    have HSy : Aside0 (symsN (graphOf ws) i = []) := ⟨by unfold symsN; rw [if_neg]; unfold hasB; simp; omega⟩
    have HFi : Aside0 (finalB (graphOf ws) i = false) := ⟨by
     have : hasB (graphOf ws).length i = false := by unfold hasB; simp; omega
     unfold finalB; rw [this]; rfl⟩
    have HSyC : Aside0 (∀ X, Below W1.heap.size W1 X → Calls Try.prog 32 #[.pointer (some ⟨g, 0, none⟩), .int .i64 i] X fun e w' => ∃ A c, e = .returned (.slice A 0 c) ∧ Below X.heap.size X w') := ⟨fun X hb => (dl_symbols HGood.out g i X (HG.out.below hb)).mono fun e w' hh => by
     obtain ⟨A, c, rfl, _, _, hb2⟩ := hh
     exact ⟨A, c, by rw [HSy.out]; rfl, hb2⟩⟩
    have HFiC : Aside0 (∀ X, Below W1.heap.size W1 X → Calls Try.prog 31 #[.pointer (some ⟨g, 0, none⟩), .int .i64 i] X fun e w' => e = .returned (.bool false) ∧ X = w') := ⟨fun X hb => by have := dl_final (ws := ws) g i X (HG.out.below hb); rwa [HFi.out] at this⟩
    have hcs : ¬ i ≥ 0 ∨ i ≥ 0 ∧ ¬ i < (n3 : Int) := by omega
    clear hii hi hi0 hn
    rcases hcs with hg0 | ⟨hg0, hg1⟩
    all_goals (
     go_wp2_with (first
      | (go_at_call 32; ((with_reducible refine (HSyC.out _ RB.out).mono ?_); rintro e w2 ⟨As, cs, rfl, hb2⟩; have RB2 := Aside0.mk (RB.out.trans (hb2.mono RB.out.size)); clear hb2 x0 x1 x2 x3; obtain ⟨x0, x1, x2, x3⟩ := HCell.out _ RB2.out))
      | (go_at_call 31; ((with_reducible refine (HFiC.out _ RB2.out).mono ?_); rintro e w' ⟨rfl, rfl⟩))
      | fail)
     go_loopw [8] (fun s8 wr => ∃ s : Int, s8 = .int .i64 s ∧ Aside0 (-1 ≤ s ∧ s ≤ 65) ∧ Aside0 (Below W1.heap.size W1 wr)) (fun s8 _ => (65 - intOf s8).toNat)
     case atStart => exact ⟨-1, rfl, ⟨by omega, by omega⟩, RB2⟩
     case round =>
      obtain ⟨s, rfl, hs, QB⟩ := hrel
      have hs0 := hs.out
      by_cases hsl : s ≤ 64
      ·
       have ws1 : IntKind.i64.wrap (s + 1) = s + 1 := wrap_in (by omega) (by omega)
       obtain ⟨q, hq⟩ : ∃ q, stepN (graphOf ws) i s = q := ⟨_, rfl⟩
       have HS1 : Aside0 (∀ X, Below W1.heap.size W1 X → Calls Try.prog 33 #[.pointer (some ⟨g, 0, none⟩), .int .i64 i, .int .i64 s] X fun e w' => e = .returned (.int .i64 q) ∧ Below X.heap.size X w') := ⟨fun X hb => by rw [← hq]; exact dl_step HGood.out g i s X (HG.out.below hb)⟩
       have HS2 : Aside0 (∀ X, Below W1.heap.size W1 X → Calls Try.prog 73 #[.agg #[.slice B0 ws.length d0, .slice B1 n1 d1, .slice B2 n2 d2, .slice B3 n3 d3], .int .i64 i, .int .i64 s] X fun e w' => e = .returned (.int .i64 q) ∧ Below X.heap.size X w') := ⟨fun X hb => by rw [← hq]; exact step15 HGood.out B0 B1 B2 B3 n1 n2 n3 d0 d1 d2 d3 i s X HN.out.1.1 HN.out.1.2 HN.out.2 (Kd.C_below H0.out hb) HD.out.1.1 (Kd.C_below H1.out hb) HD.out.1.2 (Kd.C_below H2.out hb) HD.out.2.1 (Kd.C_below H3.out hb) HD.out.2.2⟩
       have hqq : (q != q) = false := by simp
       have HSl : Aside0 (-1 ≤ s ∧ s ≤ 64) := ⟨by omega, hsl⟩
       clear hq hs hs0
       obtain ⟨x0, x1, x2, x3⟩ := HCell.out _ QB.out
       have HSB : Aside0 (∀ X, Below wr.heap.size wr X → X.cell? ⟨w.heap.size, 0, none⟩ = some (.slice B0 ws.length d0) ∧ X.cell? ⟨w.heap.size, 1, none⟩ = some (.slice B1 n1 d1) ∧ X.cell? ⟨w.heap.size, 2, none⟩ = some (.slice B2 n2 d2) ∧ X.cell? ⟨w.heap.size, 3, none⟩ = some (.slice B3 n3 d3)) := ⟨fun X hb => HCell.out X (QB.out.trans (hb.mono QB.out.size))⟩
       go_upto_region 13 with fail
       go_region_held3 (fun X => X.cell? ⟨w.heap.size, 0, none⟩ = some (.slice B0 ws.length d0) ∧ X.cell? ⟨w.heap.size, 1, none⟩ = some (.slice B1 n1 d1) ∧ X.cell? ⟨w.heap.size, 2, none⟩ = some (.slice B2 n2 d2) ∧ X.cell? ⟨w.heap.size, 3, none⟩ = some (.slice B3 n3 d3)) (first | exact HSB.out _ (by repeat (first | assumption | exact Below.refl _ _ | apply below_alloc | apply below_drew1))) (first | (go_at_call 33; (with_reducible refine (HS1.out _ QB.out.drew).mono ?_); rintro e w6 ⟨rfl, hbq⟩; have hb6 : Below wr.heap.size wr w6 := (Below.refl _ _).drew.trans (hbq.mono (by simp)); clear hbq) | (go_at_call 73; (with_reducible refine (HS2.out _ QB.out.drew).mono ?_); rintro e w7 ⟨rfl, hbq⟩; have hb7 : Below wr.heap.size wr w7 := (Below.refl _ _).drew.trans (hbq.mono (by simp)); clear hbq) | (go_at_call 73; (with_reducible refine (HS2.out _ (QB.out.trans (hb6.mono QB.out.size))).mono ?_); rintro e w8 ⟨rfl, hbq⟩; have hb8 : Below wr.heap.size wr w8 := hb6.trans (hbq.mono hb6.size); clear hbq) | (go_at_call 33; (with_reducible refine (HS1.out _ (QB.out.trans (hb7.mono QB.out.size))).mono ?_); rintro e w8 ⟨rfl, hbq⟩; have hb8 : Below wr.heap.size wr w8 := hb7.trans (hbq.mono hb7.size); clear hbq) | fail)
       all_goals (
        have QB2 := Aside0.mk (QB.out.trans (hb8.mono QB.out.size))
        clear hb8
        go_wp2
        go_roundw
        case rel => first | exact ⟨s + 1, by go_num, ⟨by have := HSl.out; omega, by have := HSl.out; omega⟩, QB2⟩ | ((repeat apply Exists.intro); refine ⟨?_, rfl⟩; exact ⟨s + 1, by go_num, ⟨by have := HSl.out; omega, by have := HSl.out; omega⟩, QB2⟩)
        case measure => have := HSl.out; simp [intOf]; omega)
      ·
       go_wp2
       go_roundw
       case rel => first | exact ⟨i + 1, by go_num, ⟨by have := HI.out; omega, by have := HI.out; omega⟩, QB⟩ | ((repeat apply Exists.intro); refine ⟨?_, rfl⟩; exact ⟨i + 1, by go_num, ⟨by have := HI.out; omega, by have := HI.out; omega⟩, QB⟩)
       case measure => have := HI.out; simp [intOf]; omega)
  ·
   have hin2 : ¬ i ≤ (n3 : Int) := hin
   go_wp2
   go_ret
   exact ⟨rfl, HB.out.trans (RB.out.mono HB.out.size)⟩
end Go.Proofs.Ytcdjeimjbbknjaa.PAll
namespace Go.Proofs.Ytcdjeimjbbknjaa.PAll
open Go.RowKit Go.Proofs.YtcdjeimjbbknjaaW.PrintWords Go.Proofs.YtcdjeimjbbknjaaW.PrintLast Go.Proofs.YtcdjeimjbbknjaaW.PrintMore Go.Proofs.Ytcdjeimjbbknjaa.Res
set_option linter.unusedVariables false
set_option linter.unusedSimpArgs false

end Go.Proofs.Ytcdjeimjbbknjaa.PAll
namespace Go.Proofs.Ytcdjeimjbbknjaa.PAll
open Go.RowKit Go.Proofs.YtcdjeimjbbknjaaW.PrintWords Go.Proofs.YtcdjeimjbbknjaaW.PrintLast Go.Proofs.YtcdjeimjbbknjaaW.PrintMore Go.Proofs.Ytcdjeimjbbknjaa.Res
set_option linter.unusedVariables false
set_option linter.unusedSimpArgs false

theorem lm_build (ws : List (List Int)) (hs : sumUpto ws ws.length ≤ 4611686018427387904) (hb : checkL ws ≠ 0) (A : Option Addr) (c : Nat) (w : World) (hr : Kd.C (Kd.slice 3 (Kd.int .i64)) w A ws.length ws) (hc : ws.length ≤ c) :
    Calls Try.prog 19 #[.slice A ws.length c] w fun e w' => e = .returned (.tuple #[.pointer none, .int .i64 (checkL ws)]) ∧ Below w.heap.size w w' := (build_bad A c ws w hr hc hs hb).mono fun e w' hh => ⟨hh.1, hh.2.below⟩
theorem sum_small {ws : List (List Int)} {b : Nat} (hb : b ≤ 1000) (h : ∀ w ∈ ws, w.length ≤ b) (hn : ws.length ≤ 1000000) : sumUpto ws ws.length ≤ 4611686018427387904 := by
 rw [sumUpto_is ws _ (Nat.le_refl _), List.take_length]
 have h1 := sum_le_mul h
 have h2 := Nat.mul_le_mul hn hb
 omega
end Go.Proofs.Ytcdjeimjbbknjaa.PAll
namespace Go.Proofs.Ytcdjeimjbbknjaa.PAll
open Go.RowKit Go.Proofs.YtcdjeimjbbknjaaW.PrintWords Go.Proofs.YtcdjeimjbbknjaaW.PrintLast Go.Proofs.YtcdjeimjbbknjaaW.PrintMore Go.Proofs.Ytcdjeimjbbknjaa.Res
set_option linter.unusedVariables false
set_option linter.unusedSimpArgs false

end Go.Proofs.Ytcdjeimjbbknjaa.PAll
namespace Go.Proofs.Ytcdjeimjbbknjaa.PAll
open Go.RowKit Go.Proofs.YtcdjeimjbbknjaaW.PrintWords Go.Proofs.YtcdjeimjbbknjaaW.PrintLast Go.Proofs.YtcdjeimjbbknjaaW.PrintMore Go.Proofs.Ytcdjeimjbbknjaa.Res
set_option linter.unusedVariables false
set_option linter.unusedSimpArgs false

theorem nil_FK (W : World) (ok : Nat → Prop) : Kd.FK (Kd.slice 3 (Kd.int .i64)) W ok [] [.slice none 0 0] := fun W' _ => ⟨none, 0, rfl, Nat.le_refl _, rfl, Nat.zero_le _, fun h => absurd h (by simp)⟩
theorem set_row {ops : Array Oper} {rest : List Oper} {o : Oper} {a : Act} {Q : Exit → Act → World → Prop} {w0 W : World} (base : Nat) (hN : o.dst = none) (hgd : o.guard = none) (p x : Operand) (ho : o.op = .store 22 p x) {g n cap : Nat} (i : Nat) (xs : List (List Int)) (s : List Int) (A : Option Addr) (cs : Nat) (okp : Nat → Prop)
    (haddr : a.eval p = .pointer (some ⟨g, i, none⟩)) (hx : a.eval x = .slice A s.length cs) (HO : Kd.N (Kd.slice 3 (Kd.int .i64)) 22 W base (fun _ => True) (.slice (some ⟨g, 0, none⟩) n cap) xs) (hi : i < n) (hcs : s.length ≤ cs) (hF : Kd.F (Kd.int .i64) W okp A s.length s) (hokp : ∀ k, okp k → k ≠ g) (HB : Below base w0 W)
    (h : ∀ w1, Kd.N (Kd.slice 3 (Kd.int .i64)) 22 w1 base (fun _ => True) (.slice (some ⟨g, 0, none⟩) n cap) (xs.set i s) → Below base w0 w1 → wpList Try.prog ops Q rest a w1) : wpList Try.prog ops Q (o :: rest) a W := by
 obtain ⟨hn, hc, hC⟩ := Kd.N_reads' HO
 obtain ⟨ad, B, d, hA, hcell, _, _⟩ := at_rows hC (i : Int) (by omega) (by omega)
 injection hA with hA
 subst hA
 rw [Int.toNat_natCast, add_plain] at hcell
 refine Kd.N_store (P := Try.prog) (Kd.slice 3 (Kd.int .i64)) (w0 := w0) base hN hgd 22 p x ho 22 (i : Int) 0 xs s (.slice A s.length cs) [.slice A s.length cs] [.slice B (rdR xs (i : Int)).length d] (fun _ => True) okp haddr (by rw [Int.toNat_natCast]; show i = i * 1 + 0; omega) hx rfl (by kernel_rfl) (by intro q hq; rw [List.mem_singleton.1 hq]; rfl) HO (by omega) (by omega) rfl (fun j u hu => ?_) (by show 0 + 1 ≤ 1; omega) (Kd.FK_slice_mk hcs hF) (fun k hk => ⟨trivial, hokp k hk⟩) HB (fun w1 h1 h2 _ => h w1 (by rwa [Int.toNat_natCast] at h1) h2)
 cases j with
 | zero => simp only [List.getElem?_cons_zero, Option.some.injEq] at hu; subst hu; show W.cell? ⟨g, (i : Int).toNat * 1 + 0, none⟩ = _; rw [Int.toNat_natCast, Nat.mul_one, Nat.add_zero]; exact hcell
 | succ j => simp at hu
set_option maxHeartbeats 8000000 in
set_option maxRecDepth 100000 in
theorem builds_true (A0 A3 : Option Addr) (c0 c3 : Nat) (l0 : List Int) (l3 : List (List Int)) (a1 a2 : Int) (w : World) (hr0 : Kd.C (Kd.int .i64) w A0 l0.length l0) (hc0 : l0.length ≤ c0) (hr3 : Kd.C (Kd.slice 3 (Kd.int .i64)) w A3 l3.length l3) (hc3 : l3.length ≤ c3)
    (hx0 : ∀ x ∈ l0, -9223372036854775808 ≤ x ∧ x ≤ 9223372036854775807) (hx1 : -9223372036854775808 ≤ a1 ∧ a1 ≤ 9223372036854775807) (hx2 : -9223372036854775808 ≤ a2 ∧ a2 ≤ 9223372036854775807) :
    Calls Try.prog 4 #[.slice A0 l0.length c0, .int .i64 a1, .int .i64 a2, .slice A3 l3.length c3] w fun e w' => e = .returned (.bool true) ∧ Below w.heap.size w w' := by
 have har := around_range a1 25 (by decide)
 obtain ⟨v, hv, h15⟩ := words15_is l0 hx0 (around a1 25) har.1 (by omega)
 have HGv := Aside0.mk (h15.good (by omega))
 have HVf : Aside0 (v.length ≤ 1000) := ⟨by have := h15.few; omega⟩
 have HVs : Aside0 (∀ u ∈ v, u.length ≤ 1000) := ⟨fun u hu => by have := h15.size u hu; omega⟩
 have HWv := Aside0.mk hv
 have HR0 := Aside0.mk hr0
 have HR3 := Aside0.mk hr3
 have HX1 := Aside0.mk hx1
 have HX2 := Aside0.mk hx2
 clear hv h15 hr0 hr3 hx0 hx1 hx2 har
 go_enter Try.func4, Try.ntmps4
 go_upto_region 2 with (first
  | (go_at_call 18; ((with_reducible refine (dl_around a1 25 _ (by decide) HX1.out).mono ?_); rintro e w1 ⟨rfl, hb1⟩; have HL1 := Aside0.mk (Kd.C_below HR0.out hb1); clear HR0; have HR1 := Aside0.mk (Kd.C_below HR3.out hb1); clear HR3; have HB1 := Aside0.mk (hb1); clear hb1))
  | (go_at_call 17; ((with_reducible refine (dl_words A0 c0 l0 (around a1 25) v _ HL1.out hc0 HWv.out).mono ?_); rintro e w2 ⟨Av, cv, rfl, hlv, hC2, hb2⟩; clear HL1; have HR2 := Aside0.mk (Kd.C_below HR1.out hb2); clear HR1; have HB2 := Aside0.mk (HB1.out.trans (hb2.mono HB1.out.size)); clear HB1; have HV2 := Aside0.mk (hC2); clear hb2 hC2))
  | fail)
 have HFv := Aside0.mk (Kd.C_F (Kd.heap_slice 3 (Kd.heap_int .i64)) HV2.out)
 go_upto_if 26 with (first
  | ((with_reducible refine gate_dst (N := 21) rfl ?_); refine Kd.N_lit (Kd.slice 3 (Kd.int .i64)) (w0 := w2) w2.heap.size 22 ?hg (N' := 21) ?hd (xs := ([] : List (List Int))) (inner := []) (ok := fun _ => True) (okp := fun _ => True) ?hr ?hp (fun _ hk => hk) trivial (Below.refl _ _) (Nat.le_refl _) (by simp) ?_; (case hd => rfl); (case hg => rfl); (case hr => first | (go_simp; done) | (go_simp; rfl)); (case hp => exact Reps.none _ _); intro v1 w3 HO1 HB1 HG1 hne1; have HO1 := Aside0.mk HO1; have HB1 := Aside0.mk HB1; clear HG1 hne1)
  | (at_builtin; refine Kd.N_append_rows (Kd.slice 3 (Kd.int .i64)) (w0 := w2) w2.heap.size rfl (.tmp 21) (.tmp 22) 23 22 (.slice none 0 0) 24 rfl Try.underlying23 info22 rfl (by decide) (by omega) v1 [] v Av v.length cv (fun _ => True) (fun k => k < w2.heap.size) rfl rfl HO1.out (Kd.F_below HFv.out HB1.out) (fun k hk => ⟨trivial, fun e => by have := Kd.N_base HO1.out k e.symm; omega⟩) (fun _ _ => trivial) HB1.out HB1.out.size (by have := HVf.out; simp; omega) ?_; intro v2 w4 HO2 HB2 _ _; rw [List.nil_append] at HO2; have HO2 := Aside0.mk HO2; have HB2' := Aside0.mk HB2; clear HB2)
  | fail)
 clear HO1 HB1
 go_cut [10] from 26 (fun s10 wx => ∃ ch : List (List Int), Aside0 (ch.length ≤ 1000 ∧ ∀ u ∈ ch, u.length ≤ 1000) ∧ Aside0 (Kd.N (Kd.slice 3 (Kd.int .i64)) 22 wx w2.heap.size (fun _ => True) s10 ch) ∧ Aside0 (Below w2.heap.size w2 wx))
 case first =>
  by_cases hv0 : 0 < v.length
  ·
   have hv1 : (v.length : Int) > 0 := by omega
   obtain ⟨gr, cr, rfl, hg0, hg1, _⟩ := Kd.N_form HO2.out hv0
   have hri := around_range a2 (v.length : Int) (by omega)
   obtain ⟨i, hi⟩ : ∃ i : Nat, around a2 (v.length : Int) = (i : Int) := ⟨(around a2 (v.length : Int)).toNat, by omega⟩
   rw [hi] at hri
   have hii : (i : Int) < (v.length : Int) := hri.2
   have hry := around_range a2 67 (by decide)
   obtain ⟨y, hy⟩ : ∃ y, around a2 67 = y := ⟨_, rfl⟩
   rw [hy] at hry
   have wy : IntKind.i64.wrap (y - 2) = y - 2 := wrap_in (by omega) (by omega)
   have HCa : Aside0 (∀ X, Calls Try.prog 18 #[.int .i64 a2, .int .i64 (v.length : Int)] X fun e w' => e = .returned (.int .i64 (i : Int)) ∧ Below X.heap.size X w') := ⟨fun X => by have := dl_around a2 (v.length : Int) X (by omega) HX2.out; rwa [hi] at this⟩
   have HCb : Aside0 (∀ X, Calls Try.prog 18 #[.int .i64 a2, .int .i64 67] X fun e w' => e = .returned (.int .i64 y) ∧ Below X.heap.size X w') := ⟨fun X => by have := dl_around a2 67 X (by decide) HX2.out; rwa [hy] at this⟩
   have hin : i < v.length := by omega
   clear hi hy
   go_wp2_with (first
    | (go_at_call 18; ((with_reducible refine (HCa.out _).mono ?_); rintro e w5 ⟨rfl, hb5⟩; have HB5 := Aside0.mk (HB2'.out.trans (hb5.mono HB2'.out.size)); have HO5 := Aside0.mk (Kd.N_below HO2.out hb5); clear hb5))
    | (go_at_call 18; ((with_reducible refine (HCb.out _).mono ?_); rintro e w6 ⟨rfl, hb6⟩; have HB6 := Aside0.mk (HB5.out.trans (hb6.mono HB5.out.size)); have HO6 := Aside0.mk (Kd.N_below HO5.out hb6); clear hb6))
    | ((with_reducible refine gate_store (t := 22) (p := 36) (v := .tmp 35) rfl ?_); refine set_row (w0 := w2) w2.heap.size rfl rfl (.tmp 36) (.tmp 35) rfl i v [y - 2] (some ⟨w6.heap.size, 0, none⟩) 1 (fun k => k = w6.heap.size) (by rfl) (by rfl) (Kd.N_alloc HO6.out _) hin (by simp) (fun W' hW => cb_ints ((hW _ rfl (blk_lt (blk_new w6 _))).trans (blk_new w6 _)) (by simp)) (fun k hk e => by have := Kd.N_lt HO6.out gr rfl; omega) (below_alloc HB6.out _) ?_; intro w7 HO7 HB7; have HO7 := Aside0.mk HO7; have HB7 := Aside0.mk HB7)
    | fail)
   go_meet
   exact ⟨v.set i [y - 2], ⟨by rw [List.length_set]; exact HVf.out, fun u hu => by
    rcases List.mem_or_eq_of_mem_set hu with hu | rfl
    ·
     exact HVs.out u hu
    ·
     simp⟩, HO7, HB7⟩
  ·
   have hv1 : ¬ (v.length : Int) > 0 := by omega
   go_wp2
   go_meet
   exact ⟨v, ⟨HVf.out, HVs.out⟩, HO2, HB2'⟩
 case rest =>
  obtain ⟨ch, hch, RN, RB⟩ := hcut
  clear HO2 HB2'
  obtain ⟨AT, cT, rfl⟩ := Kd.N_slice RN.out
  have HR3x := Aside0.mk (Kd.C_below HR2.out RB.out)
  go_wp2_with (first
   | (go_at_call 21; ((with_reducible refine (raw15 l3 (Kd.C_max HR3x.out) A3 c3 _ HR3x.out hc3).mono ?_); rintro e w8 ⟨Ar, cr, rfl, hlr, hF3, hb8⟩; have HB8 := Aside0.mk (RB.out.trans (hb8.mono RB.out.size)); have HN8 := Aside0.mk (Kd.N_below RN.out hb8); have HF8 := Aside0.mk hF3; clear hF3 hb8))
   | ((with_reducible refine gate_dst (N := 41) rfl ?_); refine Kd.N_lit (Kd.slice 3 (Kd.int .i64)) (w0 := w8) w8.heap.size 22 ?hg (N' := 41) ?hd (xs := ([] : List (List Int))) (inner := []) (ok := fun _ => True) (okp := fun _ => True) ?hr ?hp (fun _ hk => hk) trivial (Below.refl _ _) (Nat.le_refl _) (by simp) ?_; (case hd => rfl); (case hg => rfl); (case hr => first | (go_simp; done) | (go_simp; rfl)); (case hp => exact Reps.none _ _); intro v3 w9 HO9 HB9 HG1 hne1; have HO9 := Aside0.mk HO9; have HB9 := Aside0.mk HB9; clear HG1 hne1)
   | (at_builtin; refine Kd.N_append_rows (Kd.slice 3 (Kd.int .i64)) (w0 := w8) w8.heap.size rfl (.tmp 41) (.tmp 42) 23 22 (.slice none 0 0) 24 rfl Try.underlying23 info22 rfl (by decide) (by omega) v3 [] v Av v.length cv (fun _ => True) (fun k => k < w2.heap.size) rfl rfl HO9.out (Kd.F_below HFv.out (HB8.out.trans (HB9.out.mono HB8.out.size))) (fun k hk => ⟨trivial, fun e => by have := Kd.N_base HO9.out k e.symm; have := HB8.out.size; omega⟩) (fun _ _ => trivial) HB9.out HB9.out.size (by have := HVf.out; simp; omega) ?_; intro v4 w10 HO10 HB10 _ _; rw [List.nil_append] at HO10; have HOa := Aside0.mk HO10; have HBa := Aside0.mk HB10; clear HO10 HB10)
   | (at_builtin; refine Kd.N_append (Kd.slice 3 (Kd.int .i64)) (w0 := w8) w8.heap.size rfl (.tmp 43) (.tmp 44) 23 22 (.slice none 0 0) 24 rfl Try.underlying23 info22 rfl (by decide) (by omega) v4 v [] [.slice none 0 0] (fun _ => True) (fun _ => False) rfl rfl (nil_FK _ _) (fun _ hk => hk.elim) (fun _ _ => trivial) HOa.out HBa.out HBa.out.size (by have := HVf.out; omega) ?_; intro v5 w11 HO11 HB11 _ _; obtain ⟨A5, c5, rfl⟩ := Kd.N_slice HO11; have HOb := Aside0.mk HO11; have HBb := Aside0.mk HB11; clear HO11 HB11)
   | fail)
  obtain ⟨W12, hW12⟩ : ∃ W12, W12 = w11.alloc (.cells #[.slice Av v.length cv, .slice AT ch.length cT, .slice Ar (rawL l3).length cr, .slice A5 (v.length + 1) c5] 23) := ⟨_, rfl⟩
  have hb12 : Below w11.heap.size w11 W12 := by rw [hW12]; exact below_alloc (Below.refl _ _) _
  have hbk : W12.heap[w11.heap.size]? = some (.cells #[.slice Av v.length cv, .slice AT ch.length cT, .slice Ar (rawL l3).length cr, .slice A5 (v.length + 1) c5] 23 (0, 0)) := by rw [hW12]; exact blk_new _ _
  have hb8 : Below w8.heap.size w8 W12 := HBb.out.trans (hb12.mono HBb.out.size)
  have hb2 : Below w2.heap.size w2 W12 := HB8.out.trans (hb8.mono HB8.out.size)
  have hN8 := Kd.N_reads' HN8.out
  have hNb := Kd.N_reads' HOb.out
  have hL : ∀ i : Nat, i < 4 → ∃ (xs : List (List Int)) (A : Option Addr) (c : Nat), W12.cell? ⟨w11.heap.size, i, none⟩ = some (.slice A xs.length c) ∧ Kd.C (Kd.slice 3 (Kd.int .i64)) W12 A xs.length xs ∧ xs.length ≤ c ∧ xs.length ≤ 100000 ∧ ∀ u ∈ xs, u.length ≤ 1000 := by
   intro i hi
   obtain rfl | rfl | rfl | rfl : i = 0 ∨ i = 1 ∨ i = 2 ∨ i = 3 := by omega
   ·
    exact ⟨v, Av, cv, (blk_cell hbk 0).trans rfl, Kd.C_below HV2.out hb2, hlv, by have := HVf.out; omega, HVs.out⟩
   ·
    exact ⟨ch, AT, cT, (blk_cell hbk 1).trans rfl, Kd.C_below hN8.2.2 hb8, hN8.2.1, by have := hch.out.1; omega, hch.out.2⟩
   ·
    exact ⟨rawL l3, Ar, cr, (blk_cell hbk 2).trans rfl, Kd.C_below (Kd.F_now HF8.out) hb8, hlr, by have := rawL_len l3; omega, fun u hu => by have := rawL_short l3 u hu; omega⟩
   ·
    refine ⟨v ++ [[]], A5, c5, ?_, Kd.C_below hNb.2.2 hb12, by simpa using hNb.2.1, by have := HVf.out; simp; omega, fun u hu => ?_⟩
    ·
     rw [List.length_append]; exact (blk_cell hbk 3).trans rfl
    ·
     rcases List.mem_append.1 hu with h | h
     ·
      exact HVs.out u h
     ·
      rw [List.mem_singleton.1 h]; simp
  have HL := Aside0.mk hL
  have HB12 := Aside0.mk (HB2.out.trans (hb2.mono HB2.out.size))
  rw [← hW12]
  clear hL hb2 hb8 hb12 hbk hN8 hNb HB2 HR2 HV2 HFv RN RB hch HR3x HB8 HN8 HF8 HO9 HB9 HOa HBa HOb HBb hlr hlv hW12
  generalize w11.heap.size = gl at *
  go_loopw [12, 13, 14, 15, 16] (fun s12 s13 s14 s15 s16 wr => ∃ i : Nat, s12 = .int .i64 (i : Int) ∧ Aside0 (i ≤ 4) ∧ Aside0 (Below W12.heap.size W12 wr)) (fun s12 _ _ _ _ _ => 4 - (intOf s12).toNat)
  case atStart => exact ⟨0, rfl, ⟨Nat.zero_le _⟩, ⟨Below.refl _ _⟩⟩
  case round =>
   obtain ⟨i, rfl, hi, RB⟩ := hrel
   have hi0 := hi.out
   by_cases hil : i < 4
   ·
    obtain ⟨xs, A, c, hcell, hC, hc, hx1, hx2⟩ := HL.out i hil
    have hii : (i : Int) < 4 := by omega
    have w1 : IntKind.i64.wrap ((i : Int) + 1) = (i : Int) + 1 := wrap_in (by omega) (by omega)
    have HI : Aside0 (i < 4) := ⟨hil⟩
    have HX : Aside0 (xs.length ≤ 100000 ∧ ∀ u ∈ xs, u.length ≤ 1000) := ⟨hx1, hx2⟩
    have HSu : Aside0 (sumUpto xs xs.length ≤ 4611686018427387904) := ⟨sum_small (b := 1000) (by omega) hx2 (by omega)⟩
    have HWs : Aside0 (WsOk xs) := ⟨by omega, fun u hu => by have := hx2 u hu; omega⟩
    have HC := Aside0.mk (Kd.C_below hC RB.out)
    have hxc := pw_cell_below RB.out hcell
    clear hC hcell hx2 hi hi0 hil
    by_cases hz : checkL xs = 0
    ·
     have HG := Aside0.mk (checkL_good hz)
     clear hz
     go_upto_region 11 with (first
      | (go_at_call 19; ((with_reducible refine (dl_build HG.out A c _ HC.out hc).mono ?_); rintro e w20 ⟨g, rfl, hG20, hb20⟩; have HC20 := Aside0.mk (Kd.C_below HC.out hb20); have HG20 := Aside0.mk hG20; have RB20 := Aside0.mk (RB.out.trans (hb20.mono RB.out.size)); have hxc20 := pw_cell_below hb20 hxc; clear hxc hG20 hb20))
      | (go_at_call 20; ((with_reducible refine (ref_build HG.out A c _ HC20.out hc).mono ?_); rintro e w21 ⟨B0, B1, B2, B3, d0, d1, d2, d3, rfl, ⟨hd0, hP0⟩, ⟨hd1, hP1⟩, ⟨hd2, hP2⟩, ⟨hd3, hP3⟩, hb21⟩; have HG21 := Aside0.mk (HG20.out.below hb21); have RB21 := Aside0.mk (RB20.out.trans (hb21.mono RB20.out.size)); have H0 := Aside0.mk hP0; have H1 := Aside0.mk hP1; have H2 := Aside0.mk hP2; have H3 := Aside0.mk hP3; clear hb21 hP0 hP1 hP2 hP3))
      | fail)
     obtain ⟨W5, hW5⟩ : ∃ W5, W5 = w21.alloc (.cells #[.slice B0 xs.length d0, .slice B1 (graphOf xs).length d1, .slice B2 (graphOf xs).length d2, .slice B3 (graphOf xs).length d3] 32) := ⟨_, rfl⟩
     have hb5 : Below w21.heap.size w21 W5 := by rw [hW5]; exact below_alloc (Below.refl _ _) _
     have hbk : W5.heap[w21.heap.size]? = some (.cells #[.slice B0 xs.length d0, .slice B1 (graphOf xs).length d1, .slice B2 (graphOf xs).length d2, .slice B3 (graphOf xs).length d3] 32 (0, 0)) := by rw [hW5]; exact blk_new _ _
     rw [← hW5]
     have x0 : W5.cell? ⟨w21.heap.size, 0, none⟩ = some (.slice B0 xs.length d0) := (blk_cell hbk 0).trans rfl
     have x1 : W5.cell? ⟨w21.heap.size, 1, none⟩ = some (.slice B1 (graphOf xs).length d1) := (blk_cell hbk 1).trans rfl
     have x2 : W5.cell? ⟨w21.heap.size, 2, none⟩ = some (.slice B2 (graphOf xs).length d2) := (blk_cell hbk 2).trans rfl
     have x3 : W5.cell? ⟨w21.heap.size, 3, none⟩ = some (.slice B3 (graphOf xs).length d3) := (blk_cell hbk 3).trans rfl
     have HEq := Aside0.mk (equal15 HG.out g B0 B1 B2 B3 (graphOf xs).length (graphOf xs).length (graphOf xs).length d0 d1 d2 d3 W5 (HG21.out.below hb5) rfl rfl rfl (Kd.C_below H0.out hb5) hd0 (Kd.C_below H1.out hb5) hd1 (Kd.C_below H2.out hb5) hd2 (Kd.C_below H3.out hb5) hd3)
     have RB5 := Aside0.mk (RB21.out.trans (hb5.mono RB21.out.size))
     clear hb5 hbk hW5 hd0 hd1 hd2 hd3 H0 H1 H2 H3 HG21 RB21 RB20 HC20 HG20 hxc20 RB
     generalize w21.heap.size = gb at *
     go_wp2_with (first
      | (go_at_call 29; ((with_reducible refine HEq.out.mono ?_); rintro e w22 ⟨rfl, hb22⟩; have RB22 := Aside0.mk (RB5.out.trans (hb22.mono RB5.out.size)); clear hb22))
      | fail)
     go_roundw
     case rel => first | exact ⟨i + 1, by go_num, ⟨HI.out⟩, RB22⟩ | ((repeat apply Exists.intro); refine ⟨?_, rfl⟩; exact ⟨i + 1, by go_num, ⟨HI.out⟩, RB22⟩)
     case measure => have := HI.out; simp [intOf]; omega
    ·
     have HZ := Aside0.mk hz
     obtain ⟨q, hq⟩ : ∃ q, checkL xs = q := ⟨_, rfl⟩
     rw [hq] at hz
     have HQ := Aside0.mk hq
     have e1 : (q != q) = false := by simp
     have e2 : (q != 0) = true := bne_iff_ne.2 hz
     have e3 : (q == 0) = false := beq_eq_false_iff_ne.2 hz
     clear hz hq
     go_wp2_with (first
      | (go_at_call 19; ((with_reducible refine (lm_build xs HSu.out HZ.out A c _ HC.out hc).mono ?_); rintro e w20 ⟨rfl, hb20⟩; rw [HQ.out]; have HC20 := Aside0.mk (Kd.C_below HC.out hb20); have RB20 := Aside0.mk (RB.out.trans (hb20.mono RB.out.size)); have hxc20 := pw_cell_below hb20 hxc; clear hxc hb20))
      | (go_at_call 20; ((with_reducible refine (ref_bad HWs.out HSu.out HZ.out A c _ HC20.out hc).mono ?_); rintro e w21 ⟨B0, B1, B2, B3, d0, d1, d2, d3, rfl, hb21⟩; rw [HQ.out]; have RB21 := Aside0.mk (RB20.out.trans (hb21.mono RB20.out.size)); clear hb21))
      | fail)
     go_roundw
     case rel => first | exact ⟨i + 1, by go_num, ⟨HI.out⟩, ⟨below_alloc RB21.out _⟩⟩ | ((repeat apply Exists.intro); refine ⟨?_, rfl⟩; exact ⟨i + 1, by go_num, ⟨HI.out⟩, ⟨below_alloc RB21.out _⟩⟩)
     case measure => have := HI.out; simp [intOf]; omega
   ·
    have hii : ¬ (i : Int) < 4 := by omega
    go_wp2_with (first
     | (go_at_call 28; ((with_reducible refine (lives15 _).mono ?_); rintro e w20 ⟨rfl, hb20⟩; have HBe := Aside0.mk ((HB12.out.trans (RB.out.mono HB12.out.size)).trans (hb20.mono (HB12.out.trans (RB.out.mono HB12.out.size)).size)); clear hb20))
     | fail)
    go_ret
    exact ⟨rfl, HBe.out⟩
def wordbooklaw15_DawgBuilds.Pure : Prop := True
theorem wordbooklaw15_DawgBuilds.walk (P : wordbooklaw15_DawgBuilds.Pure) (a0 : Option Addr) (len0 cap0 : Nat) (z0 : List Int) (a1 : Int) (a2 : Int) (a3 : Option Addr) (len3 cap3 : Nat) (z3 : List (List Int)) (w : World) (w0 : (a0 = none ∧ len0 = 0 ∧ cap0 = 0 ∧ z0 = []) ∨ ∃ x, a0 = some x ∧ len0 ≤ cap0 ∧ cap0 ≤ maxLen ∧ z0.length = cap0 ∧ (∀ i, i < z0.length → w.cell? (x.add i) = some (.int .i64 (z0.getD i 0))) ∧ ∀ n ∈ z0, (Lit.int .i64 n).wf = true) (y0 : len0 * 8 ≤ 140737488351232) (w1 : (Lit.int .i64 a1).wf = true) (w2 : (Lit.int .i64 a2).wf = true)
    (w3 : z3.length = len3 ∧ len3 ≤ cap3 ∧ Kd.C (Kd.slice 3 (Kd.int .i64)) w a3 z3.length z3) :
    Calls Try.prog 4 #[.slice a0 len0 cap0, .int .i64 a1, .int .i64 a2, .slice a3 len3 cap3] w fun e w' => e = .returned (.bool true) ∧ Below w.heap.size w w' := by
 obtain ⟨l0, rfl, hr0, hm0, hw0, hc0⟩ := ReadsInt.ofRowC w0
 obtain ⟨rfl, hc3, hr3⟩ := w3
 exact builds_true _ _ _ _ l0 z3 a1 a2 w (Kd.C_of_reads (d := (0 : Int)) (h1 := fun _ => rfl) hr0) hc0 hr3 hc3 (fun x hx => wf_i64 (hw0 x hx)) (wf_i64 w1) (wf_i64 w2)
end Go.Proofs.Ytcdjeimjbbknjaa.PAll
