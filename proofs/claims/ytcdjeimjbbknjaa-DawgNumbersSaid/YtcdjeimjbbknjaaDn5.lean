import Derived.BigQuiet
import Derived.Deep.Matrix
import Derived.Deep.RegionHeld3
import Derived.Deep.CutBlock
import Derived.Deep.AppendLies
import Derived.Outline
import Derived.Test.YtcdjeimjbbknjaaProg
import Derived.Below
import Derived.Deep.Draws
import Derived.Maps.AppendAt
import Derived.OwnWalk
import Derived.Laws.BytesArg
import Derived.Laws.MakeOwn
import Derived.Laws.OwnMore
import Derived.Deep.OwnRows
import Derived.Tactics
import Derived.Lib.ConvBytes
import Derived.Laws.Slices
import Derived.WalkKit
import Derived.KernelRfl
import Derived.RowKit3
import Derived.Deep.LoopGhost
import Derived.Deep.QuietTactic
import Derived.WideLaws
import Derived.Deep.DeepCutAuto
import Derived.Laws.Rows
import Derived.Lib.AppendStr
import Derived.ArgAppend
import Derived.Laws.IdiomCopy
import Derived.OrdersHeld
import Derived.Laws.BitsLemmas
import Derived.RowKit
import Derived.Test.YtcdjeimjbbknjaaDn4
namespace Go.Proofs.Ytcdjeimjbbknjaa.PAll
open Go.RowKit Go.Proofs.YtcdjeimjbbknjaaW.PrintWords Go.Proofs.YtcdjeimjbbknjaaW.PrintLast Go.Proofs.YtcdjeimjbbknjaaW.PrintMore Go.Proofs.Ytcdjeimjbbknjaa.Res
set_option linter.unusedVariables false
set_option linter.unusedSimpArgs false

theorem resW_app : ∀ (p s : List Int) (r : List (List Int)), resW r (p ++ s) = resW (resW r p) s
  | [], _, _ => rfl
  | a :: p, s, r => resW_app p s (resS r a)
theorem lessL_app : ∀ (p s : List Int) {r : List (List Int)}, Srt r → lessL r (p ++ s) = lessL r p + lessL (resW r p) s
  | [], s, r, _ => by rw [lessL_nil, Nat.zero_add]; rfl
  | a :: p, s, r, h => by
    rw [List.cons_append, lessL_cons h, lessL_cons h a p, lessL_app p s (srt_resS h a)]
    rw [show resW r (a :: p) = resW (resS r a) p from rfl]; omega
theorem lessL_mem {r : List (List Int)} {u : List Int} (hu : u ∈ r) : lessL r u < r.length := by
 unfold lessL
 have h1 := List.length_filter_le (ltB u) r
 rcases Nat.lt_or_ge (r.filter (ltB u)).length r.length with h | h
 ·
  exact h
 ·
  exfalso
  have h2 : r.filter (ltB u) = r := List.filter_sublist.eq_of_length (by omega)
  have h3 : u ∈ r.filter (ltB u) := h2.symm ▸ hu
  have h4 := (List.mem_filter.1 h3).2
  simp only [ltB, decide_eq_true_eq] at h4
  rw [(cmp_eq u u).2 rfl] at h4
  omega
theorem lessL_at' : ∀ (ws : List (List Int)), Srt ws → ∀ i (h : i < ws.length), lessL ws ws[i] = i
  | [], _, i, h => absurd h (Nat.not_lt_zero _)
  | u :: ws, hs, 0, h => by
    have h1 := List.pairwise_cons.1 hs
    unfold lessL
    rw [List.length_eq_zero_iff, List.filter_eq_nil_iff]
    intro v hv hb
    simp only [ltB, decide_eq_true_eq, List.getElem_cons_zero] at hb
    rcases List.mem_cons.1 hv with rfl | hv
    · rw [(cmp_eq v v).2 rfl] at hb; omega
    · have := cmpL_trans _ _ _ (h1.1 v hv) hb
      rw [(cmp_eq u u).2 rfl] at this; omega
  | u :: ws, hs, i + 1, h => by
    have h1 := List.pairwise_cons.1 hs
    have ih := lessL_at' ws h1.2 i (by simpa using h)
    unfold lessL at ih ⊢
    rw [List.getElem_cons_succ, List.filter_cons_of_pos]
    · rw [List.length_cons, ih]
    · simp only [ltB, decide_eq_true_eq]
      exact h1.1 _ (List.getElem_mem _)
theorem st_nd {ns : List Nd} {Q : List (List (List Int))} (hI : Inv ns Q) {st : Int} (h0 : 0 ≤ st) (h1 : st < (ns.length : Int)) : IsNd Q (rdN ns st) (rdP Q st) ∧ Srt (rdP Q st) := by
 have hn := hI.nds st.toNat (by omega)
 rw [Int.toNat_of_nonneg h0] at hn
 exact ⟨hn, hI.srt _ (rdP_mem h0 (by rw [hI.len]; exact h1))⟩
theorem final_st {ns : List Nd} {Q : List (List (List Int))} (hI : Inv ns Q) {st : Int} (h0 : 0 ≤ st) (h1 : st < (ns.length : Int)) : finalB ns st = finR (rdP Q st) := by
 have := (st_nd hI h0 h1).1.fin
 unfold finalB
 rw [show hasB ns.length st = true from by simp [hasB, h0, h1], Bool.true_and]
 exact this
theorem step_st {ns : List Nd} {Q : List (List (List Int))} (hI : Inv ns Q) {st : Int} (h0 : 0 ≤ st) (h1 : st < (ns.length : Int)) {s : Int} (hs : resS (rdP Q st) s ≠ []) : rdP Q (stepN ns st s) = resS (rdP Q st) s ∧ 0 ≤ stepN ns st s ∧ stepN ns st s < (ns.length : Int) := by
 obtain ⟨hn, hsr⟩ := st_nd hI h0 h1
 obtain ⟨a, b⟩ := hn.step hsr s
 have hm : s ∈ (rdN ns st).f1 := Classical.byContradiction fun h => hs (b h)
 obtain ⟨e1, _, e2, e3⟩ := a hm
 unfold stepN
 rw [if_pos ⟨by simp [hasB, h0, h1], hm⟩]
 exact ⟨e1, e2, by rw [← hI.len]; exact e3⟩
structure At (ws : List (List Int)) (Q : List (List (List Int))) (u : List Int) (n : Nat) (st : Int) : Prop where
  le : n ≤ u.length
  s0 : 0 ≤ st
  s1 : st < ((graphOf ws).length : Int)
  res : rdP Q st = resW ws (u.take n)
theorem At.mem {ws : List (List Int)} {Q : List (List (List Int))} {u : List Int} {n : Nat} {st : Int} (hs : Srt ws) (hu : u ∈ ws) (h : At ws Q u n st) : u.drop n ∈ rdP Q st := by
 rw [h.res, mem_resW _ hs, List.take_append_drop]; exact hu
theorem At.start {ws : List (List Int)} {Q : List (List (List Int))} (u : List Int) (hq : 0 < (graphOf ws).length) (h0 : rdP Q 0 = ws) : At ws Q u 0 0 := ⟨Nat.zero_le _, Int.le_refl _, by omega, h0⟩
theorem At.step {ws : List (List Int)} {Q : List (List (List Int))} {u : List Int} {n : Nat} {st : Int} (hI : Inv (graphOf ws) Q) (hs : Srt ws) (hu : u ∈ ws) (h : At ws Q u n st) (hn : n < u.length) : At ws Q u (n + 1) (stepN (graphOf ws) st (rd u (n : Int))) := by
 have hm := h.mem hs hu
 rw [rd_drop hn] at hm
 have hsr := (st_nd hI h.s0 h.s1).2
 have hne : resS (rdP Q st) (rd u (n : Int)) ≠ [] := fun e => by
  have := (mem_resS hsr (rd u (n : Int)) (u.drop (n + 1))).2 hm
  rw [e] at this; cases this
 obtain ⟨e1, e2, e3⟩ := step_st hI h.s0 h.s1 hne
 refine ⟨hn, e2, e3, ?_⟩
 rw [e1, h.res, show u.take (n + 1) = u.take n ++ [rd u (n : Int)] from by rw [List.take_succ_eq_append_getElem hn, rd_nat, List.getD_eq_getElem?_getD, List.getElem?_eq_getElem hn]; rfl, resW_app]
 rfl
theorem At.range {ws : List (List Int)} {Q : List (List (List Int))} {i n : Nat} {st : Int} (hs : Srt ws) (hi : i < ws.length) (h : At ws Q (ws[i]) n st) : lessL ws (ws[i].take n) ≤ i ∧ i < lessL ws (ws[i].take n) + (resW ws (ws[i].take n)).length := by
 have h1 := lessL_at' ws hs i hi
 have h2 := lessL_app (ws[i].take n) (ws[i].drop n) hs
 rw [List.take_append_drop, h1] at h2
 have h3 := h.mem hs (List.getElem_mem hi)
 rw [h.res] at h3
 have := lessL_mem h3
 omega
theorem At.last {ws : List (List Int)} {Q : List (List (List Int))} {u : List Int} {st : Int} (hI : Inv (graphOf ws) Q) (hs : Srt ws) (hu : u ∈ ws) (h : At ws Q u u.length st) : finalB (graphOf ws) st = true := by
 rw [final_st hI h.s0 h.s1, fin_mem (st_nd hI h.s0 h.s1).2]
 have := h.mem hs hu
 rwa [List.drop_length] at this
end Go.Proofs.Ytcdjeimjbbknjaa.PAll
namespace Go.Proofs.Ytcdjeimjbbknjaa.PAll
open Go.RowKit Go.Proofs.YtcdjeimjbbknjaaW.PrintWords Go.Proofs.YtcdjeimjbbknjaaW.PrintLast Go.Proofs.YtcdjeimjbbknjaaW.PrintMore Go.Proofs.Ytcdjeimjbbknjaa.Res
set_option linter.unusedVariables false
set_option linter.unusedSimpArgs false

def preB (w v : List Int) : Bool := decide (v.take w.length = w)
theorem nd_le {α : Type} [BEq α] [LawfulBEq α] : ∀ (a b : List α), a.Nodup → (∀ x ∈ a, x ∈ b) → a.length ≤ b.length
  | [], b, _, _ => Nat.zero_le _
  | x :: a, b, h, hs => by
    obtain ⟨h1, h2⟩ := List.nodup_cons.1 h
    have hx := hs x List.mem_cons_self
    have := nd_le a (b.erase x) h2 fun y hy => (List.mem_erase_of_ne (fun e => by subst e; exact h1 hy)).2 (hs y (List.mem_cons_of_mem _ hy))
    have hl := List.length_pos_of_mem hx
    rw [List.length_erase_of_mem hx] at this
    rw [List.length_cons]; omega
theorem srt_nodup {r : List (List Int)} (h : Srt r) : r.Nodup := List.Pairwise.imp (fun {a b} hab e => by subst e; rw [(cmp_eq a a).2 rfl] at hab; exact absurd hab (by decide)) h
theorem resW_count {ws : List (List Int)} (h : Srt ws) (w : List Int) : (ws.filter (preB w)).length = (resW ws w).length := by
 have hm := mem_resW w h
 have n1 : (ws.filter (preB w)).Nodup := List.Pairwise.sublist List.filter_sublist (srt_nodup h)
 have n2 : ((resW ws w).map (w ++ ·)).Nodup := by
  rw [List.nodup_iff_pairwise_ne, List.pairwise_map]
  exact (List.nodup_iff_pairwise_ne.1 (srt_nodup (srt_resW w h))).imp fun {a b} hab e => hab (List.append_cancel_left e)
 have s1 : ∀ x ∈ ws.filter (preB w), x ∈ (resW ws w).map (w ++ ·) := by
  intro x hx
  obtain ⟨hx1, hx2⟩ := List.mem_filter.1 hx
  have hx2 : x.take w.length = w := by simpa [preB] using hx2
  refine List.mem_map.2 ⟨x.drop w.length, (hm _).2 ?_, ?_⟩
  ·
   have h := List.take_append_drop w.length x
   rw [hx2] at h
   rw [h]; exact hx1
  ·
   show w ++ x.drop w.length = x
   have h := List.take_append_drop w.length x
   rwa [hx2] at h
 have s2 : ∀ x ∈ (resW ws w).map (w ++ ·), x ∈ ws.filter (preB w) := by
  intro x hx
  obtain ⟨u, hu, rfl⟩ := List.mem_map.1 hx
  refine List.mem_filter.2 ⟨(hm u).1 hu, ?_⟩
  simp [preB]
 have l1 := nd_le _ _ n1 s1
 have l2 := nd_le _ _ n2 s2
 rw [List.length_map] at l1 l2
 omega
theorem filt_step {ws : List (List Int)} {i : Nat} (h : i < ws.length) (p : List Int → Bool) : ((ws.take (i + 1)).filter p).length = ((ws.take i).filter p).length + (if p (rdR ws (i : Int)) = true then 1 else 0) := by
 rw [List.take_add_one, List.getElem?_eq_getElem h, List.filter_append, List.length_append, rdR_nat, List.getD_eq_getElem?_getD, List.getElem?_eq_getElem h, Option.getD_some]
 cases hp : p ws[i] <;> simp [hp]
theorem filt_le (ws : List (List Int)) (i : Nat) (p : List Int → Bool) : ((ws.take i).filter p).length ≤ ws.length := Nat.le_trans (List.length_filter_le _ _) (by rw [List.length_take]; omega)
theorem order_ints {B : World} (a b : List Int) (n m ca cb : Nat) (Aa Ab : Option Addr) (hn : n = a.length) (hm : m = b.length) (ha : Kd.C (Kd.int .i64) B Aa n a) (hb : Kd.C (Kd.int .i64) B Ab m b) (hca : n ≤ ca) (hcb : m ≤ cb) (hl : a.length ≤ 1000000000) (v : Int) (hv : cmpL a b = v) (k : Nat) :
    Calls Try.prog 37 #[.slice Aa n ca, .slice Ab m cb] (B.drewN k) fun e w' => e = .returned (.int .i64 v) ∧ ∃ q, w' = B.drewN (k + q) := by
 subst hn hm hv
 refine (wordbookref06_Order.calls (2 * a.length + 2) Aa ca a Ab cb b _ _ (Kd.C_drewN ha _) hca (Kd.C_drewN hb _) hcb (order_is a b (by omega) _ (by omega))).mono ?_
 rintro e w' ⟨rfl, ⟨m, rfl⟩⟩
 exact ⟨rfl, m, by simp⟩
set_option maxHeartbeats 4000000 in
set_option maxRecDepth 100000 in
theorem begins15 {ws : List (List Int)} (hlw : ws.length ≤ 1000000000) (hsw : ∀ v ∈ ws, v.length ≤ 1000000000) (A0 A1 A2 A3 A : Option Addr) (n1 n2 n3 c0 c1 c2 c3 c : Nat) (wl : List Int) (w : World) (hr0 : Kd.C (Kd.slice 3 (Kd.int .i64)) w A0 ws.length ws) (hc0 : ws.length ≤ c0) (hr : Kd.C (Kd.int .i64) w A wl.length wl) (hc : wl.length ≤ c) :
    Calls Try.prog 25 #[.agg #[.slice A0 ws.length c0, .slice A1 n1 c1, .slice A2 n2 c2, .slice A3 n3 c3], .slice A wl.length c] w fun e w' => e = .returned (.tuple #[.int .i64 (lessL ws wl : Int), .int .i64 ((lessL ws wl : Int) + ((ws.filter (preB wl)).length : Int))]) ∧ Below w.heap.size w w' := by
 obtain ⟨W1, hW1⟩ : ∃ W1, W1 = w.alloc (.cells #[.slice A0 ws.length c0, .slice A1 n1 c1, .slice A2 n2 c2, .slice A3 n3 c3] 32) := ⟨_, rfl⟩
 have b1 : W1.heap[w.heap.size]? = some (.cells #[.slice A0 ws.length c0, .slice A1 n1 c1, .slice A2 n2 c2, .slice A3 n3 c3] 32 (0, 0)) := by rw [hW1]; exact blk_new _ _
 have hB1 : Below w.heap.size w W1 := by rw [hW1]; exact below_alloc (Below.refl _ _) _
 have HB := Aside0.mk hB1
 have HR0 := Aside0.mk (Kd.C_below hr0 hB1)
 have HR := Aside0.mk (Kd.C_below hr hB1)
 have HS := Aside0.mk hsw
 have x0 : W1.cell? ⟨w.heap.size, 0, none⟩ = some (.slice A0 ws.length c0) := (blk_cell b1 0).trans rfl
 have HW1 := Aside0.mk hW1
 have hmw := Kd.C_max hr
 clear hr0 hr b1 hB1 hW1 hsw
 go_enter Try.func25, Try.ntmps25
 go_upto_region 1 with fail
 rw [← HW1.out]
 clear HW1
 go_wp2
 go_loopw [6, 7, 8, 9] (fun s6 s7 s8 s9 wr => ∃ i nd : Nat, s8 = .int .i64 (i : Int) ∧ s6 = .int .i64 (((ws.take i).filter (ltB wl)).length : Int) ∧ s7 = .int .i64 (((ws.take i).filter (preB wl)).length : Int) ∧ Aside0 (i ≤ ws.length) ∧ wr = W1.drewN nd) (fun _ _ s8 _ _ => ws.length - (intOf s8).toNat)
 case atStart => exact ⟨0, 0, rfl, rfl, rfl, ⟨Nat.zero_le _⟩, rfl⟩
 case round =>
  obtain ⟨i, nd, rfl, rfl, rfl, hi, rfl⟩ := hrel
  have hj := hi.out
  have hq1 := filt_le ws i (ltB wl)
  have hq2 := filt_le ws i (preB wl)
  by_cases hin : i < ws.length
  ·
   obtain ⟨ad, A4, c4, rfl, hx, hl4, hR4⟩ := at_rows HR0.out (i : Int) (by omega) (by omega)
   rw [Int.toNat_natCast] at hx
   have hs1 := HS.out _ (rdR_in hin)
   have f1 := filt_step hin (ltB wl)
   have f2 := filt_step hin (preB wl)
   generalize rdR ws (i : Int) = u at *
   have hu := Kd.C_max hR4
   have HO := Aside0.mk (fun v hv k => order_ints u wl u.length wl.length c4 c A4 A rfl rfl hR4 HR.out hl4 hc hs1 v hv k)
   have hii : (i : Int) < (ws.length : Int) := by omega
   have w1 : IntKind.i64.wrap ((i : Int) + 1) = (i : Int) + 1 := wrap_in (by omega) (by omega)
   have HI : Aside0 (i < ws.length) := ⟨hin⟩
   generalize hL : ((ws.take i).filter (ltB wl)).length = L at *
   generalize hP : ((ws.take i).filter (preB wl)).length = P at *
   have w2 : IntKind.i64.wrap ((L : Int) + 1) = (L : Int) + 1 := wrap_in (by omega) (by omega)
   have w3 : IntKind.i64.wrap ((P : Int) + 1) = (P : Int) + 1 := wrap_in (by omega) (by omega)
   have hlt := cmpL_lt_iff u wl
   clear hi hj hin hL hP
   by_cases hl : cmpL u wl < 0
   ·
    have G1 : Aside0 (((ws.take (i + 1)).filter (ltB wl)).length = L + 1) := ⟨by rw [f1, if_pos (by unfold ltB; rw [hlt.1 hl]; rfl)]⟩
    generalize cmpL u wl = q at *
    clear f1 hlt
    by_cases hs : wl.length ≤ u.length
    ·
     have hge : (u.length : Int) ≥ (wl.length : Int) := by omega
     obtain ⟨cut1, D1⟩ := cut_take Try.underlying22 info3 A4 c4 u wl.length hs hl4
     have hT := fun v hv nd k => same_ints (u.take wl.length) wl wl.length wl.length c4 c A4 A (by rw [List.length_take]; omega) rfl (D1 W1 hR4) HR.out (by omega) hc (by rw [List.length_take]; omega) v hv nd k
     by_cases he : u.take wl.length = wl
     ·
      have HT := Aside0.mk (hT true (by simpa using he))
      have G2 : Aside0 (((ws.take (i + 1)).filter (preB wl)).length = P + 1) := ⟨by rw [f2, if_pos (by simpa [preB] using he)]⟩
      clear hT he f2 hR4 hl4 D1
      go_wp2_with (first
       | (go_at_call 37; refine (HO.out _ rfl _).mono ?_; rintro e w' ⟨rfl, ⟨k1, rfl⟩⟩)
       | (go_at_call 27; refine (HT.out _ _).mono ?_; rintro e w' ⟨rfl, ⟨k2, rfl⟩⟩)
       | fail)
      go_roundw
      case rel => first | exact ⟨i + 1, _, by go_num, by rw [G1.out] <;> rfl, by rw [G2.out] <;> rfl, ⟨HI.out⟩, rfl⟩ | ((repeat apply Exists.intro); refine ⟨?_, rfl⟩; exact ⟨i + 1, _, by go_num, by rw [G1.out] <;> rfl, by rw [G2.out] <;> rfl, ⟨HI.out⟩, rfl⟩)
      case measure => have := HI.out; simp [intOf]; omega
     ·
      have HT := Aside0.mk (hT false (by simpa using he))
      have G2 : Aside0 (((ws.take (i + 1)).filter (preB wl)).length = P) := ⟨by rw [f2, if_neg (by simpa [preB] using he), Nat.add_zero]⟩
      clear hT he f2 hR4 hl4 D1
      go_wp2_with (first
       | (go_at_call 37; refine (HO.out _ rfl _).mono ?_; rintro e w' ⟨rfl, ⟨k1, rfl⟩⟩)
       | (go_at_call 27; refine (HT.out _ _).mono ?_; rintro e w' ⟨rfl, ⟨k2, rfl⟩⟩)
       | fail)
      go_roundw
      case rel => first | exact ⟨i + 1, _, by go_num, by rw [G1.out] <;> rfl, by rw [G2.out] <;> rfl, ⟨HI.out⟩, rfl⟩ | ((repeat apply Exists.intro); refine ⟨?_, rfl⟩; exact ⟨i + 1, _, by go_num, by rw [G1.out] <;> rfl, by rw [G2.out] <;> rfl, ⟨HI.out⟩, rfl⟩)
      case measure => have := HI.out; simp [intOf]; omega
    ·
     have hge : ¬ (u.length : Int) ≥ (wl.length : Int) := by omega
     have G2 : Aside0 (((ws.take (i + 1)).filter (preB wl)).length = P) := ⟨by rw [f2, if_neg (by simp only [preB, decide_eq_true_eq]; intro e; have := congrArg List.length e; rw [List.length_take] at this; omega), Nat.add_zero]⟩
     clear f2 hR4 hl4
     go_wp2_with (first
      | (go_at_call 37; refine (HO.out _ rfl _).mono ?_; rintro e w' ⟨rfl, ⟨k1, rfl⟩⟩)
      | fail)
     go_roundw
     case rel => first | exact ⟨i + 1, _, by go_num, by rw [G1.out] <;> rfl, by rw [G2.out] <;> rfl, ⟨HI.out⟩, rfl⟩ | ((repeat apply Exists.intro); refine ⟨?_, rfl⟩; exact ⟨i + 1, _, by go_num, by rw [G1.out] <;> rfl, by rw [G2.out] <;> rfl, ⟨HI.out⟩, rfl⟩)
     case measure => have := HI.out; simp [intOf]; omega
   ·
    have G1 : Aside0 (((ws.take (i + 1)).filter (ltB wl)).length = L) := ⟨by rw [f1, if_neg (by unfold ltB; intro e; exact hl (hlt.2 (by simpa using e))), Nat.add_zero]⟩
    generalize cmpL u wl = q at *
    clear f1 hlt
    by_cases hs : wl.length ≤ u.length
    ·
     have hge : (u.length : Int) ≥ (wl.length : Int) := by omega
     obtain ⟨cut1, D1⟩ := cut_take Try.underlying22 info3 A4 c4 u wl.length hs hl4
     have hT := fun v hv nd k => same_ints (u.take wl.length) wl wl.length wl.length c4 c A4 A (by rw [List.length_take]; omega) rfl (D1 W1 hR4) HR.out (by omega) hc (by rw [List.length_take]; omega) v hv nd k
     by_cases he : u.take wl.length = wl
     ·
      have HT := Aside0.mk (hT true (by simpa using he))
      have G2 : Aside0 (((ws.take (i + 1)).filter (preB wl)).length = P + 1) := ⟨by rw [f2, if_pos (by simpa [preB] using he)]⟩
      clear hT he f2 hR4 hl4 D1
      go_wp2_with (first
       | (go_at_call 37; refine (HO.out _ rfl _).mono ?_; rintro e w' ⟨rfl, ⟨k1, rfl⟩⟩)
       | (go_at_call 27; refine (HT.out _ _).mono ?_; rintro e w' ⟨rfl, ⟨k2, rfl⟩⟩)
       | fail)
      go_roundw
      case rel => first | exact ⟨i + 1, _, by go_num, by rw [G1.out] <;> rfl, by rw [G2.out] <;> rfl, ⟨HI.out⟩, rfl⟩ | ((repeat apply Exists.intro); refine ⟨?_, rfl⟩; exact ⟨i + 1, _, by go_num, by rw [G1.out] <;> rfl, by rw [G2.out] <;> rfl, ⟨HI.out⟩, rfl⟩)
      case measure => have := HI.out; simp [intOf]; omega
     ·
      have HT := Aside0.mk (hT false (by simpa using he))
      have G2 : Aside0 (((ws.take (i + 1)).filter (preB wl)).length = P) := ⟨by rw [f2, if_neg (by simpa [preB] using he), Nat.add_zero]⟩
      clear hT he f2 hR4 hl4 D1
      go_wp2_with (first
       | (go_at_call 37; refine (HO.out _ rfl _).mono ?_; rintro e w' ⟨rfl, ⟨k1, rfl⟩⟩)
       | (go_at_call 27; refine (HT.out _ _).mono ?_; rintro e w' ⟨rfl, ⟨k2, rfl⟩⟩)
       | fail)
      go_roundw
      case rel => first | exact ⟨i + 1, _, by go_num, by rw [G1.out] <;> rfl, by rw [G2.out] <;> rfl, ⟨HI.out⟩, rfl⟩ | ((repeat apply Exists.intro); refine ⟨?_, rfl⟩; exact ⟨i + 1, _, by go_num, by rw [G1.out] <;> rfl, by rw [G2.out] <;> rfl, ⟨HI.out⟩, rfl⟩)
      case measure => have := HI.out; simp [intOf]; omega
    ·
     have hge : ¬ (u.length : Int) ≥ (wl.length : Int) := by omega
     have G2 : Aside0 (((ws.take (i + 1)).filter (preB wl)).length = P) := ⟨by rw [f2, if_neg (by simp only [preB, decide_eq_true_eq]; intro e; have := congrArg List.length e; rw [List.length_take] at this; omega), Nat.add_zero]⟩
     clear f2 hR4 hl4
     go_wp2_with (first
      | (go_at_call 37; refine (HO.out _ rfl _).mono ?_; rintro e w' ⟨rfl, ⟨k1, rfl⟩⟩)
      | fail)
     go_roundw
     case rel => first | exact ⟨i + 1, _, by go_num, by rw [G1.out] <;> rfl, by rw [G2.out] <;> rfl, ⟨HI.out⟩, rfl⟩ | ((repeat apply Exists.intro); refine ⟨?_, rfl⟩; exact ⟨i + 1, _, by go_num, by rw [G1.out] <;> rfl, by rw [G2.out] <;> rfl, ⟨HI.out⟩, rfl⟩)
     case measure => have := HI.out; simp [intOf]; omega
  ·
   have hii : ¬ (i : Int) < (ws.length : Int) := by omega
   obtain rfl : i = ws.length := by omega
   rw [List.take_length] at hq1 hq2
   rw [List.take_length]
   obtain ⟨L, hL⟩ : ∃ L, L = (ws.filter (ltB wl)).length := ⟨_, rfl⟩
   obtain ⟨P, hP⟩ : ∃ P, P = (ws.filter (preB wl)).length := ⟨_, rfl⟩
   rw [← hL] at hq1 ⊢
   rw [← hP] at hq2 ⊢
   have HL := Aside0.mk hL
   have HP := Aside0.mk hP
   have w2 : IntKind.i64.wrap ((L : Int) + (P : Int)) = (L : Int) + (P : Int) := wrap_in (by omega) (by omega)
   clear hL hP
   go_wp2
   go_ret2
   exact ⟨by rw [show lessL ws wl = L from HL.out.symm, show (ws.filter (preB wl)).length = P from HP.out.symm]; rfl, pw_below_drewN HB.out _⟩
end Go.Proofs.Ytcdjeimjbbknjaa.PAll
namespace Go.Proofs.Ytcdjeimjbbknjaa.PAll
open Go.RowKit Go.Proofs.YtcdjeimjbbknjaaW.PrintWords Go.Proofs.YtcdjeimjbbknjaaW.PrintLast Go.Proofs.YtcdjeimjbbknjaaW.PrintMore Go.Proofs.Ytcdjeimjbbknjaa.Res
set_option linter.unusedVariables false
set_option linter.unusedSimpArgs false

theorem idx_cons {α : Type} [BEq α] [LawfulBEq α] (y x : α) (l : List α) : (y :: l).idxOf x = if (y == x) = true then 0 else l.idxOf x + 1 := by
 rw [List.idxOf_cons]
 cases h : (y == x) <;> simp
theorem idx_le {α : Type} [BEq α] [LawfulBEq α] (x : α) : ∀ l : List α, l.idxOf x ≤ l.length
  | [] => Nat.le_refl _
  | y :: l => by
    rw [idx_cons, List.length_cons]
    have := idx_le x l
    split <;> omega
theorem idx_far {α : Type} [BEq α] [LawfulBEq α] (x : α) : ∀ (l : List α) (j : Nat), j < l.idxOf x → l[j]? ≠ some x
  | [], j, h => by simp
  | y :: l, j, h => by
    rw [idx_cons] at h
    split at h
    · omega
    · rename_i hy
      cases j with
      | zero => intro e; exact hy (by have : y = x := by simpa using e
                                      rw [this]; exact BEq.rfl)
      | succ j => rw [List.getElem?_cons_succ]; exact idx_far x l j (by omega)
theorem idx_at {α : Type} [BEq α] [LawfulBEq α] (x : α) : ∀ (l : List α), l.idxOf x < l.length → l[l.idxOf x]? = some x ∧ x ∈ l
  | [], h => by simp at h
  | y :: l, h => by
    rw [idx_cons] at h ⊢
    split
    · rename_i hy; rw [eq_of_beq hy]; exact ⟨rfl, List.mem_cons_self⟩
    · rename_i hy
      rw [if_neg hy, List.length_cons] at h
      have := idx_at x l (by omega)
      rw [List.getElem?_cons_succ]
      exact ⟨this.1, List.mem_cons_of_mem _ this.2⟩
theorem idx_out {α : Type} [BEq α] [LawfulBEq α] (x : α) : ∀ (l : List α), l.idxOf x = l.length → x ∉ l
  | [], h => by simp
  | y :: l, h => by
    rw [idx_cons, List.length_cons] at h
    split at h
    · omega
    · rename_i hy
      intro hm
      rcases List.mem_cons.1 hm with e | hm
      · exact hy (by rw [e]; exact BEq.rfl)
      · exact idx_out x l (by omega) hm
theorem idx_app {α : Type} [BEq α] [LawfulBEq α] (x : α) : ∀ (l : List α), x ∉ l → (l ++ [x]).idxOf x = l.length
  | [], _ => by simp
  | y :: l, h => by
    rw [List.cons_append, idx_cons, if_neg (fun e => h (by rw [eq_of_beq e]; exact List.mem_cons_self)), idx_app x l (fun e => h (List.mem_cons_of_mem _ e)), List.length_cons]
theorem toR_step (r : List (List Int)) (rs P : List (List (List Int))) (ts : List Int) : toR (r :: rs) P ts = toR rs (if P.idxOf r = P.length then P ++ [r] else P) (ts ++ [((P.idxOf r : Nat) : Int)]) := by
 rw [toR]
 unfold addP
 rcases Nat.lt_or_ge (P.idxOf r) P.length with h | h
 ·
  rw [if_pos (idx_at r P h).2, if_neg (by omega)]
 ·
  have he : P.idxOf r = P.length := Nat.le_antisymm (idx_le _ _) h
  rw [if_neg (idx_out r P he), if_pos he, idx_app r P (idx_out r P he), he]
theorem toR_grow : ∀ (rs P : List (List (List Int))) (ts : List Int), P.length ≤ (toR rs P ts).1.length
  | [], P, ts => Nat.le_refl _
  | r :: rs, P, ts => by
    rw [toR_step]
    refine Nat.le_trans ?_ (toR_grow rs _ _)
    split <;> simp
theorem resG_grow : ∀ (f : Nat) (P : List (List (List Int))) (i : Nat) (G : List Nd), P.length ≤ (resG f P i G).1.length
  | 0, P, i, G => Nat.le_refl _
  | f + 1, P, i, G => by
    rw [resG]
    split
    · exact Nat.le_trans (toR_grow _ _ _) (resG_grow f _ _ _)
    · exact Nat.le_refl _
theorem resP_is (ws : List (List Int)) (f t k : Nat) : resP ws f t k = ((ws.drop f).take (t - f)).map (List.drop k) := by
 simp only [resP, Int.toNat_natCast, List.drop_take]
theorem resP_cons (ws : List (List Int)) (f t k : Nat) (h : f < t) (ht : t ≤ ws.length) : resP ws f t k = (rdR ws (f : Int)).drop k :: resP ws ((f + 1 : Nat) : Int) t k := by
 rw [resP_is, resP_is, List.drop_eq_getElem_cons (show f < ws.length by omega), show t - f = (t - (f + 1)) + 1 from by omega, List.take_succ_cons, List.map_cons]
 rw [rdR_nat, List.getD_eq_getElem?_getD, List.getElem?_eq_getElem (show f < ws.length by omega), Option.getD_some]
theorem resP_nil (ws : List (List Int)) (t k : Nat) : resP ws (t : Int) (t : Int) k = [] := by
 rw [resP_is, Nat.sub_self, List.take_zero, List.map_nil]
theorem resP_len (ws : List (List Int)) (f t k : Nat) (ht : t ≤ ws.length) : (resP ws f t k).length = t - f := resP_length ws f t k ht
theorem resP_drop (ws : List (List Int)) (f t k n : Nat) : (resP ws f t k).drop n = resP ws ((f + n : Nat) : Int) t k := by
 rw [resP_is, resP_is, ← List.map_drop, List.drop_take, List.drop_drop, show t - (f + n) = t - f - n from by omega]
theorem resP_take (ws : List (List Int)) (f t k n : Nat) (h : f + n ≤ t) : (resP ws f t k).take n = resP ws f ((f + n : Nat) : Int) k := by
 rw [resP_is, resP_is, ← List.map_take, List.take_take, show f + n - f = n from by omega, Nat.min_eq_left (by omega)]
theorem resP_tails (ws : List (List Int)) (f t k : Nat) : (resP ws f t k).map List.tail = resP ws f t ((k + 1 : Nat) : Int) := by
 rw [resP_is, resP_is]; exact tails_drop k _
theorem tw_at {α : Type} (p : α → Bool) : ∀ (l : List α) (j : Nat), j < (l.takeWhile p).length → ∃ x, l[j]? = some x ∧ p x = true
  | [], j, h => by simp at h
  | y :: l, j, h => by
    rw [List.takeWhile_cons] at h
    split at h
    · rename_i hy
      cases j with
      | zero => exact ⟨y, rfl, hy⟩
      | succ j => rw [List.getElem?_cons_succ]; exact tw_at p l j (by simpa using h)
    · simp at h
theorem tw_end {α : Type} (p : α → Bool) : ∀ (l : List α) (x : α), l[(l.takeWhile p).length]? = some x → p x = false
  | [], x, h => by simp at h
  | y :: l, x, h => by
    rw [List.takeWhile_cons] at h
    split at h
    · rename_i hy
      rw [List.length_cons, List.getElem?_cons_succ] at h
      exact tw_end p l x h
    · rename_i hy
      have : y = x := by simpa using h
      subst this
      simpa using hy
theorem tw_len {α : Type} (p : α → Bool) (l : List α) : (l.takeWhile p).length ≤ l.length := (List.takeWhile_prefix _).length_le
theorem resP_at (ws : List (List Int)) (f t k j : Nat) (ht : t ≤ ws.length) (h : f + j < t) : (resP ws f t k)[j]? = some ((rdR ws ((f + j : Nat) : Int)).drop k) := resP_get ws f t k j ht (by omega)
def endOf (ws : List (List Int)) (f t k : Nat) : Nat := f + 1 + gsz ((rdR ws (f : Int)).drop k) (resP ws ((f + 1 : Nat) : Int) t k)
theorem endOf_le (ws : List (List Int)) (f t k : Nat) (h : f < t) (ht : t ≤ ws.length) : f + 1 ≤ endOf ws f t k ∧ endOf ws f t k ≤ t := by
 unfold endOf gsz
 have := tw_len (fun v => hd v == hd ((rdR ws (f : Int)).drop k)) (resP ws ((f + 1 : Nat) : Int) t k)
 rw [resP_len _ _ _ _ ht] at this
 omega
theorem endOf_in (ws : List (List Int)) (f t k e : Nat) (h : f < t) (ht : t ≤ ws.length) (h0 : f ≤ e) (h1 : e < endOf ws f t k) : rd (rdR ws (e : Int)) k = rd (rdR ws (f : Int)) k := by
 rcases Nat.eq_or_lt_of_le h0 with rfl | h0
 ·
  rfl
 ·
  have hE := endOf_le ws f t k h ht
  have hg : (List.takeWhile (fun v => hd v == hd ((rdR ws (f : Int)).drop k)) (resP ws ((f + 1 : Nat) : Int) t k)).length = endOf ws f t k - (f + 1) := by unfold endOf gsz; omega
  obtain ⟨x, hx, hp⟩ := tw_at _ _ (e - (f + 1)) (show e - (f + 1) < (List.takeWhile (fun v => hd v == hd ((rdR ws (f : Int)).drop k)) (resP ws ((f + 1 : Nat) : Int) t k)).length by rw [hg]; omega)
  rw [resP_at ws (f + 1) t k (e - (f + 1)) ht (by omega), show f + 1 + (e - (f + 1)) = e from by omega] at hx
  obtain rfl := Option.some.inj hx
  rw [hd_drop, hd_drop] at hp
  simpa using hp
theorem endOf_out (ws : List (List Int)) (f t k : Nat) (h : f < t) (ht : t ≤ ws.length) (h1 : endOf ws f t k < t) : rd (rdR ws ((endOf ws f t k : Nat) : Int)) k ≠ rd (rdR ws (f : Int)) k := by
 have hx := resP_at ws (f + 1) t k (endOf ws f t k - (f + 1)) ht (by have := endOf_le ws f t k h ht; omega)
 rw [show f + 1 + (endOf ws f t k - (f + 1)) = endOf ws f t k from by have := endOf_le ws f t k h ht; omega] at hx
 have hg : endOf ws f t k - (f + 1) = gsz ((rdR ws (f : Int)).drop k) (resP ws ((f + 1 : Nat) : Int) t k) := by unfold endOf; omega
 rw [hg] at hx
 unfold gsz at hx
 have := tw_end _ _ _ hx
 rw [hd_drop, hd_drop] at this
 simpa using this
theorem grps_more : ∀ (n m : Nat) (l : List (List Int)), l.length ≤ n → n ≤ m → grps m l = grps n l
  | 0, m, l, hl, _ => by
    have : l = [] := List.eq_nil_of_length_eq_zero (by omega)
    subst this
    cases m <;> rfl
  | n + 1, m, [], _, _ => by cases m <;> rfl
  | n + 1, 0, w :: l, _, h => by omega
  | n + 1, m + 1, w :: l, hl, h => by
    rw [grps, grps, grps_more n m _ (by rw [List.length_drop]; simp at hl; omega) (by omega)]
theorem grps_step (ws : List (List Int)) (f t k : Nat) (h : f < t) (ht : t ≤ ws.length) :
    grps (t - f) (resP ws f t k) = (rd (rdR ws (f : Int)) k, resP ws f ((endOf ws f t k : Nat) : Int) ((k + 1 : Nat) : Int)) :: grps (t - endOf ws f t k) (resP ws ((endOf ws f t k : Nat) : Int) t k) := by
 have hE := endOf_le ws f t k h ht
 have hg : gsz ((rdR ws (f : Int)).drop k) (resP ws ((f + 1 : Nat) : Int) t k) = endOf ws f t k - (f + 1) := by unfold endOf; omega
 rw [show t - f = (t - f - 1) + 1 from by omega, resP_cons ws f t k h ht, grps, hd_drop, hg]
 congr 1
 ·
  congr 1
  rw [← resP_tails, resP_take _ _ _ _ _ (by omega), show f + 1 + (endOf ws f t k - (f + 1)) = endOf ws f t k from by omega, resP_cons ws f _ k (by omega) (by omega)]
 ·
  rw [resP_drop, show f + 1 + (endOf ws f t k - (f + 1)) = endOf ws f t k from by omega]
  exact grps_more _ _ _ (by rw [resP_len _ _ _ _ ht]; exact Nat.le_refl _) (by omega)
end Go.Proofs.Ytcdjeimjbbknjaa.PAll
namespace Go.Proofs.Ytcdjeimjbbknjaa.PAll
open Go.RowKit Go.Proofs.YtcdjeimjbbknjaaW.PrintWords Go.Proofs.YtcdjeimjbbknjaaW.PrintLast Go.Proofs.YtcdjeimjbbknjaaW.PrintMore Go.Proofs.Ytcdjeimjbbknjaa.Res
set_option linter.unusedVariables false
set_option linter.unusedSimpArgs false

theorem dl_words (A0 : Option Addr) (c0 : Nat) (l : List Int) (most : Int) (r : List (List Int)) (w : World) (hr : Kd.C (Kd.int .i64) w A0 l.length l) (hc : l.length ≤ c0) (h : wordbookref15_Words.f 4000000 l most = some r) :
    Calls Try.prog 17 #[.slice A0 l.length c0, .int .i64 most] w fun e w' => ∃ A c, e = .returned (.slice A r.length c) ∧ r.length ≤ c ∧ Kd.C (Kd.slice 3 (Kd.int .i64)) w' A r.length r ∧ Below w.heap.size w w' := by
 refine (wordbookref15_Words.calls 4000000 A0 c0 l most r w hr hc h).mono ?_
 rintro e w' ⟨v, rfl, hN, hb⟩
 obtain ⟨A, c, rfl, hl, hC⟩ := Kd.N_reads hN
 exact ⟨A, c, rfl, hl, hC, hb⟩
theorem dl_build {ws : List (List Int)} (h : Good ws) (A : Option Addr) (c : Nat) (w : World) (hr : Kd.C (Kd.slice 3 (Kd.int .i64)) w A ws.length ws) (hc : ws.length ≤ c) :
    Calls Try.prog 19 #[.slice A ws.length c] w fun e w' => ∃ g, e = .returned (.tuple #[.pointer (some ⟨g, 0, none⟩), .int .i64 0]) ∧ GraphAt w' g (graphOf ws) ∧ Below w.heap.size w w' := by
 refine (build_good A c ws w hr hc h).mono ?_
 rintro e w' ⟨g, rfl, hg, hb, _⟩
 exact ⟨g, rfl, hg, hb⟩
theorem dl_around (n most : Int) (w : World) (h0 : 0 < most) (hn : -9223372036854775808 ≤ n ∧ n ≤ 9223372036854775807) :
    Calls Try.prog 18 #[.int .i64 n, .int .i64 most] w fun e w' => e = .returned (.int .i64 (around n most)) ∧ Below w.heap.size w w' := (around_calls n most w h0 hn).mono fun e w' hh => ⟨hh.1, hh.2.below⟩
theorem dl_same (a b : List Int) (n m : Nat) (hn : n = a.length) (hm : m = b.length) (A0 A1 : Option Addr) (c0 c1 : Nat) (w : World) (hr0 : Kd.C (Kd.int .i64) w A0 a.length a) (hc0 : a.length ≤ c0) (hr1 : Kd.C (Kd.int .i64) w A1 b.length b) (hc1 : b.length ≤ c1) (ha : a.length ≤ 1000000) :
    Calls Try.prog 27 #[.slice A0 n c0, .slice A1 m c1] w fun e w' => e = .returned (.bool (decide (a = b))) ∧ Below w.heap.size w w' := by
 subst hn hm
 refine (wordbookref01_SameInts.calls 1000001 A0 c0 a A1 c1 b _ w hr0 hc0 hr1 hc1 (sameInts_is a b (by omega) 1000001 (by omega))).mono ?_
 rintro e w' ⟨rfl, hd⟩
 exact ⟨rfl, hd.below⟩
theorem tw_same (a : List Int) (A0 A1 : Option Addr) (c0 c1 : Nat) (w : World) (hr0 : Kd.C (Kd.int .i64) w A0 a.length a) (hc0 : a.length ≤ c0) (hr1 : Kd.C (Kd.int .i64) w A1 a.length a) (hc1 : a.length ≤ c1) (ha : a.length ≤ 1000000) :
    Calls Try.prog 27 #[.slice A0 a.length c0, .slice A1 a.length c1] w fun e w' => e = .returned (.bool true) ∧ Below w.heap.size w w' := by
 have := dl_same a a a.length a.length rfl rfl A0 A1 c0 c1 w hr0 hc0 hr1 hc1 ha
 rwa [decide_eq_true rfl] at this
theorem wf_i64 {x : Int} (h : (Lit.int .i64 x).wf = true) : -9223372036854775808 ≤ x ∧ x ≤ 9223372036854775807 := by
 simp only [Lit.wf, Bool.and_eq_true, decide_eq_true_eq] at h
 exact h
end Go.Proofs.Ytcdjeimjbbknjaa.PAll
namespace Go.Proofs.Ytcdjeimjbbknjaa.PAll
open Go.RowKit Go.Proofs.YtcdjeimjbbknjaaW.PrintWords Go.Proofs.YtcdjeimjbbknjaaW.PrintLast Go.Proofs.YtcdjeimjbbknjaaW.PrintMore Go.Proofs.Ytcdjeimjbbknjaa.Res
set_option linter.unusedVariables false
set_option linter.unusedSimpArgs false

def rawL (l : List (List Int)) : List (List Int) := (l.take 20).map (List.take 10)
theorem raw_l0 (l : List (List Int)) (hl : l.length ≤ 9223372036854775807) : ∀ (m i : Nat) (acc : List (List Int)), i + m = min l.length 20 → acc.length = i → ∀ q, m < q →
    wordbooklaw15_raw.l0 q l acc (i : Int) = some (acc ++ ((l.take 20).drop i).map (List.take 10)) := by
 intro m
 induction m with
 | zero =>
  intro i acc hi ha q hq
  obtain ⟨q, rfl⟩ : ∃ q', q = q' + 1 := ⟨q - 1, by omega⟩
  rw [wordbooklaw15_raw.l0, List.drop_of_length_le (by rw [List.length_take]; omega), List.map_nil, List.append_nil]
  by_cases h : i < l.length
  ·
   rw [if_pos (by omega), if_neg (by omega)]
  ·
   rw [if_neg (by omega)]
 | succ m ih =>
  intro i acc hi ha q hq
  obtain ⟨q, rfl⟩ : ∃ q', q = q' + 1 := ⟨q - 1, by omega⟩
  have h1 : i < l.length := by omega
  have hx : (l.take 20).drop i = rdR l (i : Int) :: (l.take 20).drop (i + 1) := by
   rw [List.drop_eq_getElem_cons (show i < (l.take 20).length by rw [List.length_take]; omega), rdR_nat, List.getD_eq_getElem?_getD, List.getElem?_eq_getElem h1, Option.getD_some, List.getElem_take]
  rw [wordbooklaw15_raw.l0, if_pos (by omega), if_pos (by omega), if_pos (by omega), hx, List.map_cons]
  rw [show wordbookref01_Take.f (rd_L2 l (i : Int)) 10 = some ((rdR l (i : Int)).take 10) from by
   unfold wordbookref01_Take.f
   rw [if_pos ⟨by omega, by have := List.length_take_le 10 (rd_L2 l (i : Int)); show ((rd_L2 l (i : Int)).take 10).length < _; omega⟩]; rfl]
  rw [Option.bind_some, if_pos (by omega), show wrap64 ((i : Int) + 1) = ((i + 1 : Nat) : Int) from by unfold wrap64; omega]
  rw [ih (i + 1) (acc ++ [(rdR l (i : Int)).take 10]) (by omega) (by simp [ha]) q (by omega), List.append_assoc]; rfl
theorem raw_is (l : List (List Int)) (hl : l.length ≤ 9223372036854775807) : wordbooklaw15_raw.f 30 l = some (rawL l) := by
 unfold wordbooklaw15_raw.f
 have := raw_l0 l hl (min l.length 20) 0 [] (Nat.zero_add _) rfl 30 (by omega)
 simpa [rawL] using this
theorem raw15 (l : List (List Int)) (hl : l.length ≤ 9223372036854775807) (A : Option Addr) (c : Nat) (w : World) (hr : Kd.C (Kd.slice 3 (Kd.int .i64)) w A l.length l) (hc : l.length ≤ c) :
    Calls Try.prog 21 #[.slice A l.length c] w fun e w' => ∃ Av cv, e = .returned (.slice Av (rawL l).length cv) ∧ (rawL l).length ≤ cv ∧ Kd.F (Kd.slice 3 (Kd.int .i64)) w' (fun k => w.heap.size ≤ k) Av (rawL l).length (rawL l) ∧ Below w.heap.size w w' := by
 refine (wordbooklaw15_raw.calls 30 A c l (rawL l) w hr hc (raw_is l hl)).mono ?_
 rintro e w' ⟨v, rfl, hS, hb⟩
 have hR := Kd.S_R hS
 obtain ⟨Av, cv, rfl⟩ := Kd.R_slice hR
 exact ⟨Av, cv, rfl, (Kd.R_reads' hR).2.1, Kd.F_mono (Kd.R_F (Kd.R_bound hR)) (fun k hk => hk.2.1), hb⟩
theorem rawL_len (l : List (List Int)) : (rawL l).length ≤ 20 := by unfold rawL; rw [List.length_map, List.length_take]; omega
theorem rawL_short (l : List (List Int)) : ∀ v ∈ rawL l, v.length ≤ 10 := by
 intro v hv
 obtain ⟨u, _, rfl⟩ := List.mem_map.1 hv
 rw [List.length_take]; omega
theorem index15_l0 {ws : List (List Int)} (hw : ws.length ≤ 1000000000) (hs : ∀ v ∈ ws, v.length ≤ 1000000000) (b c : List (List Int)) (d : List Bool) (wl : List Int) : ∀ (m i : Nat), i + m = ws.length → (∀ j, j < i → ws[j]? ≠ some wl) →
    ∀ q, 1000000001 + m < q → wordbookref15_Index.l0 q wl (i : Int) ws b c d = some (if wl ∈ ws then ((ws.idxOf wl : Nat) : Int) else 0, decide (wl ∈ ws)) := by
 intro m
 induction m with
 | zero =>
  intro i hi hn q hq
  obtain ⟨q, rfl⟩ : ∃ q', q = q' + 1 := ⟨q - 1, by omega⟩
  have hm : wl ∉ ws := fun h => by
   obtain ⟨j, hj⟩ := List.mem_iff_getElem?.1 h
   exact hn j (by have := (List.getElem?_eq_some_iff.1 hj).1; omega) hj
  rw [wordbookref15_Index.l0, if_neg (by omega), if_neg hm, decide_eq_false hm]
 | succ m ih =>
  intro i hi hn q hq
  obtain ⟨q, rfl⟩ : ∃ q', q = q' + 1 := ⟨q - 1, by omega⟩
  have h1 : i < ws.length := by omega
  have hu := hs _ (rdR_in h1)
  have hg : ws[i]? = some (rdR ws (i : Int)) := by rw [rdR_nat, List.getD_eq_getElem?_getD, List.getElem?_eq_getElem h1, Option.getD_some]
  rw [wordbookref15_Index.l0, if_pos (by omega), if_pos (by omega)]
  rw [show wordbookref01_SameInts.f q (rd_L2 ws (i : Int)) wl = some (decide (rdR ws (i : Int) = wl)) from sameInts_is (rdR ws (i : Int)) wl (by omega) q (by omega), Option.bind_some]
  by_cases he : rdR ws (i : Int) = wl
  ·
   rw [decide_eq_true he, if_pos rfl]
   rw [he] at hg
   have hm : wl ∈ ws := List.mem_iff_getElem?.2 ⟨i, hg⟩
   have hix : ws.idxOf wl = i := by
    rcases Nat.lt_trichotomy (ws.idxOf wl) i with h | h | h
    ·
     exact absurd (idx_at wl ws (by omega)).1 (hn _ h)
    ·
     exact h
    ·
     exact absurd hg (idx_far wl ws i h)
   rw [if_pos hm, hix, decide_eq_true hm]
  ·
   rw [decide_eq_false he, if_neg (by decide), show wrap64 ((i : Int) + 1) = ((i + 1 : Nat) : Int) from by unfold wrap64; omega]
   refine ih (i + 1) (by omega) (fun j hj => ?_) q (by omega)
   rcases Nat.lt_or_ge j i with h | h
   ·
    exact hn j h
   ·
    obtain rfl : j = i := by omega
    rw [hg]; exact fun e => he (Option.some.inj e)
theorem idx_less {ws : List (List Int)} (h : Srt ws) {wl : List Int} (hm : wl ∈ ws) : ws.idxOf wl = lessL ws wl := by
 obtain ⟨j, hj⟩ := List.mem_iff_getElem?.1 hm
 obtain ⟨hjl, he⟩ := List.getElem?_eq_some_iff.1 hj
 have h1 := lessL_at' ws h j hjl
 rw [he] at h1
 rcases Nat.lt_trichotomy (ws.idxOf wl) j with h2 | h2 | h2
 ·
  have h3 := (idx_at wl ws (by omega)).1
  obtain ⟨h4, h5⟩ := List.getElem?_eq_some_iff.1 h3
  have h6 := lessL_at' ws h _ h4
  rw [h5] at h6
  omega
 ·
  omega
 ·
  exact absurd hj (idx_far wl ws j h2)
theorem index15 {ws : List (List Int)} (h : Good ws) (A0 A1 A2 A3 A : Option Addr) (b1 b2 : List (List Int)) (b3 : List Bool) (c0 c1 c2 c3 c : Nat) (wl : List Int) (w : World) (hr0 : Kd.C (Kd.slice 3 (Kd.int .i64)) w A0 ws.length ws) (hc0 : ws.length ≤ c0) (hr1 : Kd.C (Kd.slice 3 (Kd.int .i64)) w A1 b1.length b1) (hc1 : b1.length ≤ c1) (hr2 : Kd.C (Kd.slice 3 (Kd.int .i64)) w A2 b2.length b2) (hc2 : b2.length ≤ c2) (hr3 : Kd.C Kd.bool w A3 b3.length b3) (hc3 : b3.length ≤ c3) (hr : Kd.C (Kd.int .i64) w A wl.length wl) (hc : wl.length ≤ c) :
    Calls Try.prog 23 #[.agg #[.slice A0 ws.length c0, .slice A1 b1.length c1, .slice A2 b2.length c2, .slice A3 b3.length c3], .slice A wl.length c] w fun e w' => e = .returned (.tuple #[.int .i64 (if wl ∈ ws then (lessL ws wl : Int) else 0), .bool (decide (wl ∈ ws))]) ∧ Below w.heap.size w w' := by
 have h1 := index15_l0 (ws := ws) (by have := h.few; omega) (fun v hv => by have := h.short v hv; omega) b1 b2 b3 wl ws.length 0 (Nat.zero_add _) (fun j hj => by omega) 1000010000 (by have := h.few; omega)
 have h2 : (if wl ∈ ws then ((ws.idxOf wl : Nat) : Int) else 0) = (if wl ∈ ws then (lessL ws wl : Int) else 0) := by
  by_cases hm : wl ∈ ws
  ·
   rw [if_pos hm, if_pos hm, idx_less h.sorted hm]
  ·
   rw [if_neg hm, if_neg hm]
 rw [h2] at h1
 exact wordbookref15_Index.calls 1000010000 A0 c0 ws A1 c1 b1 A2 c2 b2 A3 c3 b3 A c wl _ _ w hr0 hc0 hr1 hc1 hr2 hc2 hr3 hc3 hr hc h1
end Go.Proofs.Ytcdjeimjbbknjaa.PAll
namespace Go.Proofs.Ytcdjeimjbbknjaa.PAll
open Go.RowKit Go.Proofs.YtcdjeimjbbknjaaW.PrintWords Go.Proofs.YtcdjeimjbbknjaaW.PrintLast Go.Proofs.YtcdjeimjbbknjaaW.PrintMore Go.Proofs.Ytcdjeimjbbknjaa.Res
set_option linter.unusedVariables false
set_option linter.unusedSimpArgs false

theorem nil_R (W : World) (base : Nat) (hb : base ≤ W.heap.size) : Kd.R (Kd.int .i64) 3 (W.alloc (.cells #[] 3)) base (fun _ => True) (.slice (some ⟨W.heap.size, 0, none⟩) 0 0) [] := by
 refine ⟨fun _ _ => trivial, [], ?_, Reps.none _ _⟩
 have h2 := World.ownsRow_lit (base := base) (e := 3) (size := 1) W #[] 0 hb (by simp [maxLen]) (by simp)
 exact h2
theorem rows_lies {ops : Array Oper} {o : Oper} {a : Act} {Q : Exit → Act → World → Prop} {Kc : Act → World → Prop} {E : Prop} {w0 W : World} (base : Nat) (hgd : o.guard = none) (s x : Operand)
    (ho : o.op = .call { callee := .builtin .append, args := #[s, x], argTypes := #[22, 22] })
    (v : Value) (xs ys : List Int) (A : Option Addr) (m c : Nat) (hs : a.eval s = v) (hx : a.eval x = .slice A m c) (HO : Kd.R (Kd.int .i64) 3 W base (fun _ => True) v xs) (HR : Kd.C (Kd.int .i64) W A m ys)
    (HB : Below base w0 W) (hbase : base ≤ W.heap.size) (hl : xs.length + m ≤ 1000000000)
    (h : ∀ v1 w1, Kd.R (Kd.int .i64) 3 w1 base (fun _ => True) v1 (xs ++ ys) → Below base w0 w1 → W.grownBy w1 v.ownBlock → Kc (a.put o.dst v1) w1) :
    if Region.wanted o (yielded ops a.tmps) = true then Oper.wp Try.prog o a W Kc Q else E := by
 have hw : Region.wanted o (yielded ops a.tmps) = true := by simp [Region.wanted, hgd]
 have := Kd.R_append_rows_step (P := Try.prog) (Q := Q) (Kc := Kc) (Kd.int .i64) (w0 := w0) base hw s x 22 3 (.int .i64 0) 8 ho Try.underlying22 info3 rfl (by decide) (by omega) v xs ys A m c (fun _ => True) (fun _ => False) hs hx HO HR (fun _ _ h => h) (fun _ h => h.elim) (fun _ _ => trivial) HB hbase (by omega) (fun v1 w1 h1 h2 h3 _ => h v1 w1 h1 h2 h3)
 rw [if_pos hw] at this ⊢
 exact this
end Go.Proofs.Ytcdjeimjbbknjaa.PAll
namespace Go.Proofs.Ytcdjeimjbbknjaa.PAll
open Go.RowKit Go.Proofs.YtcdjeimjbbknjaaW.PrintWords Go.Proofs.YtcdjeimjbbknjaaW.PrintLast Go.Proofs.YtcdjeimjbbknjaaW.PrintMore Go.Proofs.Ytcdjeimjbbknjaa.Res
set_option linter.unusedVariables false
set_option linter.unusedSimpArgs false

theorem nil_reps (W : World) (ok : Nat → Prop) : Reps (Kd.FK (Kd.slice 3 (Kd.int .i64)) W ok) 1 [([] : List Int)] [.slice none 0 0] :=
  Reps.one (show Kd.FK (Kd.slice 3 (Kd.int .i64)) W ok [] [.slice none 0 0] from fun W' _ => ⟨none, 0, rfl, Nat.le_refl _, rfl, Nat.zero_le _, fun h => absurd h (by simp)⟩) (Reps.none _ _)
theorem lit2_F {B6 Br : Nat} {W : World} {b n1 n2 c1 c2 : Nat} {A1 A2 : Option Addr} {x1 x2 : List Int} (hblk : W.heap[b]? = some (.cells #[.slice A1 n1 c1, .slice A2 n2 c2] 22 (0, 0))) (hb : Br ≤ b) (h1 : Kd.F (Kd.int .i64) W (fun k => k < B6) A1 n1 x1) (hn1 : n1 = x1.length) (hc1 : n1 ≤ c1) (h2 : Kd.F (Kd.int .i64) W (fun k => Br ≤ k) A2 n2 x2) (hn2 : n2 = x2.length) (hc2 : n2 ≤ c2) :
    Kd.F (Kd.slice 3 (Kd.int .i64)) W (fun k => k < B6 ∨ Br ≤ k) (some ⟨b, 0, none⟩) 2 [x1, x2] := by
 subst hn1 hn2
 intro W' hW
 have hb' : W'.heap[b]? = some (.cells #[.slice A1 x1.length c1, .slice A2 x2.length c2] 22 (0, 0)) := (hW b (.inr hb) (blk_lt hblk)).trans hblk
 have e1 := h1 W' (fun k hk => hW k (.inl hk))
 have e2 := h2 W' (fun k hk => hW k (.inr hk))
 have hr := ((Reps.none ((Kd.slice 3 (Kd.int .i64)).K W') 1).snoc (p := x1) (c := [.slice A1 x1.length c1]) ⟨_, c1, rfl, hc1, e1⟩ rfl).snoc (p := x2) (c := [.slice A2 x2.length c2]) ⟨_, c2, rfl, hc2, e2⟩ rfl
 exact cb_block (d := Kd.slice 3 (Kd.int .i64)) (cs := [.slice A1 x1.length c1, .slice A2 x2.length c2]) hb' hr (by simp)
theorem ask_lies {ops : Array Oper} {o : Oper} {a : Act} {Q : Exit → Act → World → Prop} {Kc : Act → World → Prop} {E : Prop} {w0 W : World} (base : Nat) (hgd : o.guard = none) (s x : Operand)
    (ho : o.op = .call { callee := .builtin .append, args := #[s, x], argTypes := #[23, 23] })
    (v : Value) (xs ys : List (List Int)) (A : Option Addr) (m c : Nat) (okp : Nat → Prop) (hs : a.eval s = v) (hx : a.eval x = .slice A m c) (HO : Kd.N (Kd.slice 3 (Kd.int .i64)) 22 W base (fun _ => True) v xs) (HR : Kd.F (Kd.slice 3 (Kd.int .i64)) W okp A m ys) (hokp : ∀ k, okp k → some k ≠ v.ownBlock)
    (HB : Below base w0 W) (hbase : base ≤ W.heap.size) (hl : xs.length + m ≤ 1000000000)
    (h : ∀ v1 w1, Kd.N (Kd.slice 3 (Kd.int .i64)) 22 w1 base (fun _ => True) v1 (xs ++ ys) → Below base w0 w1 → Kc (a.put o.dst v1) w1) :
    if Region.wanted o (yielded ops a.tmps) = true then Oper.wp Try.prog o a W Kc Q else E := by
 have hw : Region.wanted o (yielded ops a.tmps) = true := by simp [Region.wanted, hgd]
 have := Kd.N_append_rows_step (P := Try.prog) (Q := Q) (Kc := Kc) (Kd.slice 3 (Kd.int .i64)) (w0 := w0) base hw s x 23 22 (.slice none 0 0) 24 ho Try.underlying23 info22 rfl (by decide) (by omega) v xs ys A m c (fun _ => True) okp hs hx HO HR (fun k hk => ⟨trivial, hokp k hk⟩) (fun _ _ => trivial) HB hbase (by omega) (fun v1 w1 h1 h2 _ _ => h v1 w1 h1 h2)
 rw [if_pos hw] at this ⊢
 exact this
theorem nm_short {aq : List (List Int)} {u : List Int} {m : Nat} {sy : Int} (h : ∀ x ∈ aq, x.length ≤ 2000) (hu : u.length ≤ 1500) : ∀ x ∈ aq ++ [u.take m, u ++ [sy]], x.length ≤ 2000 := by
  intro x hx
  rcases List.mem_append.1 hx with hx | hx
  · exact h x hx
  · rcases List.mem_cons.1 hx with rfl | hx
    · rw [List.length_take]; omega
    · rw [List.mem_singleton.1 hx, List.length_append]; simp; omega
def RefBuild : Prop := ∀ (ws : List (List Int)) (h : Good ws) (A0 : Option Addr) (c0 : Nat) (w : World) (hr0 : Kd.C (Kd.slice 3 (Kd.int .i64)) w A0 ws.length ws) (hc0 : ws.length ≤ c0),
    Calls Try.prog 20 #[.slice A0 ws.length c0] w fun e w' => ∃ (B0 B1 B2 B3 : Option Addr) (d0 d1 d2 d3 : Nat), e = .returned (.tuple #[.agg #[.slice B0 ws.length d0, .slice B1 ((graphOf ws).map (·.f1)).length d1, .slice B2 ((graphOf ws).map (·.f2)).length d2, .slice B3 ((graphOf ws).map (·.f0)).length d3], .int .i64 0]) ∧
      (ws.length ≤ d0 ∧ Kd.C (Kd.slice 3 (Kd.int .i64)) w' B0 ws.length ws) ∧ (((graphOf ws).map (·.f1)).length ≤ d1 ∧ Kd.C (Kd.slice 3 (Kd.int .i64)) w' B1 ((graphOf ws).map (·.f1)).length ((graphOf ws).map (·.f1))) ∧ (((graphOf ws).map (·.f2)).length ≤ d2 ∧ Kd.C (Kd.slice 3 (Kd.int .i64)) w' B2 ((graphOf ws).map (·.f2)).length ((graphOf ws).map (·.f2))) ∧ (((graphOf ws).map (·.f0)).length ≤ d3 ∧ Kd.C Kd.bool w' B3 ((graphOf ws).map (·.f0)).length ((graphOf ws).map (·.f0))) ∧ Below w.heap.size w w'
set_option maxHeartbeats 8000000 in
set_option maxRecDepth 100000 in
theorem numbers_true (H15 : RefBuild) (A0 A2 : Option Addr) (c0 c2 : Nat) (l0 : List Int) (l2 : List (List Int)) (a1 a3 : Int) (w : World) (hr0 : Kd.C (Kd.int .i64) w A0 l0.length l0) (hc0 : l0.length ≤ c0) (hr2 : Kd.C (Kd.slice 3 (Kd.int .i64)) w A2 l2.length l2) (hc2 : l2.length ≤ c2) (hl2 : l2.length ≤ 9223372036854775807)
    (hx0 : ∀ x ∈ l0, -9223372036854775808 ≤ x ∧ x ≤ 9223372036854775807) (hx1 : -9223372036854775808 ≤ a1 ∧ a1 ≤ 9223372036854775807) (hx3 : -9223372036854775808 ≤ a3 ∧ a3 ≤ 9223372036854775807) :
    Calls Try.prog 3 #[.slice A0 l0.length c0, .int .i64 a1, .slice A2 l2.length c2, .int .i64 a3] w fun e w' => e = .returned (.bool true) ∧ Below w.heap.size w w' := by
 have har := around_range a1 25 (by decide)
 obtain ⟨v, hv, h15⟩ := words15_is l0 hx0 (around a1 25) har.1 (by omega)
 have HGv := Aside0.mk (h15.good (by omega))
 have HVf : Aside0 (v.length ≤ 1000) := ⟨by have := h15.few; omega⟩
 have HVs : Aside0 (∀ u ∈ v, u.length ≤ 1000) := ⟨fun u hu => by have := h15.size u hu; omega⟩
 have HWv := Aside0.mk hv
 have HR0 := Aside0.mk hr0
 have HR2 := Aside0.mk hr2
 have HX1 := Aside0.mk hx1
 have HX3 := Aside0.mk hx3
 have HL2 := Aside0.mk hl2
 have HBd := Aside0.mk (fun (A : Option Addr) (c : Nat) (W : World) h1 h2 => H15 v HGv.out A c W h1 h2)
 clear H15
 clear hv h15 hr0 hr2 hx0 hx1 hx3 har hl2
 go_enter Try.func3, Try.ntmps3
 go_upto_region 4 with (first
  | (go_at_call 18; ((with_reducible refine (dl_around a1 25 _ (by decide) HX1.out).mono ?_); rintro e w1 ⟨rfl, hb1⟩; have HL1 := Aside0.mk (Kd.C_below HR0.out hb1); clear HR0; have HR1 := Aside0.mk (Kd.C_below HR2.out hb1); clear HR2; have HB1 := Aside0.mk (hb1); clear hb1))
  | (go_at_call 17; ((with_reducible refine (dl_words A0 c0 l0 (around a1 25) v _ HL1.out hc0 HWv.out).mono ?_); rintro e w2 ⟨Av, cv, rfl, hlv, hC2, hb2⟩; clear HL1; have HR2 := Aside0.mk (Kd.C_below HR1.out hb2); clear HR1; have HB2 := Aside0.mk (HB1.out.trans (hb2.mono HB1.out.size)); clear HB1; have HV2 := Aside0.mk (hC2); clear hb2 hC2))
  | (go_at_call 19; ((with_reducible refine (dl_build HGv.out Av cv _ HV2.out hlv).mono ?_); rintro e w3 ⟨g, rfl, hG3, hb3⟩; have HR3 := Aside0.mk (Kd.C_below HR2.out hb3); clear HR2; have HB3 := Aside0.mk (HB2.out.trans (hb3.mono HB2.out.size)); clear HB2; have HV3 := Aside0.mk (Kd.C_below HV2.out hb3); clear HV2; have HG3 := Aside0.mk (hG3); clear hb3 hG3))
  | (go_at_call 20; ((with_reducible refine (HBd.out Av cv _ HV3.out hlv).mono ?_); rintro e w4 ⟨B0, B1, B2, B3, d0, d1, d2, d3, rfl, ⟨hd0, hP0⟩, ⟨hd1, hP1⟩, ⟨hd2, hP2⟩, ⟨hd3, hP3⟩, hb4⟩; have HR4 := Aside0.mk (Kd.C_below HR3.out hb4); clear HR3; have HB4 := Aside0.mk (HB3.out.trans (hb4.mono HB3.out.size)); clear HB3; have HV4 := Aside0.mk (Kd.C_below HV3.out hb4); clear HV3; have HG4 := Aside0.mk (GraphAt.below HG3.out hb4); clear HG3; have H04 := Aside0.mk (hP0); have H14 := Aside0.mk (hP1); have H24 := Aside0.mk (hP2); have H34 := Aside0.mk (hP3); clear hb4 hP0 hP1 hP2 hP3))
  | fail)
 obtain ⟨W6, hW6⟩ : ∃ W6, W6 = w4.alloc (.cells #[.slice B0 v.length d0, .slice B1 (graphOf v).length d1, .slice B2 (graphOf v).length d2, .slice B3 (graphOf v).length d3] 32) := ⟨_, rfl⟩
 have hb6 : Below w4.heap.size w4 W6 := by rw [hW6]; exact below_alloc (Below.refl _ _) _
 have hbk : W6.heap[w4.heap.size]? = some (.cells #[.slice B0 v.length d0, .slice B1 (graphOf v).length d1, .slice B2 (graphOf v).length d2, .slice B3 (graphOf v).length d3] 32 (0, 0)) := by rw [hW6]; exact blk_new _ _
 rw [← hW6]
 have HBK := Aside0.mk hbk
 have HB6 := Aside0.mk (HB4.out.trans (hb6.mono HB4.out.size))
 have HR6 := Aside0.mk (Kd.C_below HR4.out hb6)
 have HV6 := Aside0.mk (Kd.C_below HV4.out hb6)
 have HG6 := Aside0.mk (HG4.out.below hb6)
 have H06 := Aside0.mk (Kd.C_below H04.out hb6)
 have H16 := Aside0.mk (Kd.C_below H14.out hb6)
 have H26 := Aside0.mk (Kd.C_below H24.out hb6)
 have H36 := Aside0.mk (Kd.C_below H34.out hb6)
 have HFv := Aside0.mk (Kd.C_F (Kd.heap_slice 3 (Kd.heap_int .i64)) HV6.out)
 have HD : Aside0 ((v.length ≤ d0 ∧ ((graphOf v).map (·.f1)).length ≤ d1) ∧ ((graphOf v).map (·.f2)).length ≤ d2 ∧ ((graphOf v).map (·.f0)).length ≤ d3) := ⟨⟨hd0, hd1⟩, hd2, hd3⟩
 clear HB4 HR4 HV4 HG4 H04 H14 H24 H34 hb6 hW6 hbk hd0 hd1 hd2 hd3 HBd HWv
 generalize w4.heap.size = gb at *
 go_wp2_with (first
  | ((with_reducible refine gate_dst (N := 50) rfl ?_); refine Kd.N_lit (Kd.slice 3 (Kd.int .i64)) (w0 := W6) W6.heap.size 22 ?hg (N' := 50) ?hd (xs := ([[]] : List (List Int))) (inner := [.slice none 0 0]) (ok := fun _ => True) (okp := fun _ => True) ?hr ?hp (fun _ hk => hk) trivial (Below.refl _ _) (Nat.le_refl _) (by simp) ?_; (case hd => rfl); (case hg => rfl); (case hr => first | (go_simp; done) | (go_simp; rfl)); (case hp => exact nil_reps _ _); intro v1 w7 HO1 HB1 HG1 hne1; have HO1 := Aside0.mk HO1; have HB1 := Aside0.mk HB1; clear HG1 hne1)
  | (at_builtin; refine Kd.N_append_rows (Kd.slice 3 (Kd.int .i64)) (w0 := W6) W6.heap.size rfl (.tmp 50) (.tmp 51) 23 22 (.slice none 0 0) 24 rfl Try.underlying23 info22 rfl (by decide) (by omega) v1 [[]] v Av v.length cv (fun _ => True) (fun k => k < W6.heap.size) rfl rfl HO1.out (Kd.F_below HFv.out HB1.out) (fun k hk => ⟨trivial, fun e => by have := Kd.N_base HO1.out k e.symm; omega⟩) (fun _ _ => trivial) HB1.out HB1.out.size (by have := HVf.out; simp; omega) ?_; intro v2 w8 HO2 HB2 _ _; have HO2 := Aside0.mk HO2; have HB2 := Aside0.mk HB2)
  | (go_at_call 21; ((with_reducible refine (raw15 l2 HL2.out A2 c2 _ (Kd.C_below HR6.out HB2.out) hc2).mono ?_); rintro e w9 ⟨Ar, cr, rfl, hlr, hF3, hb3⟩; have HO3 := Aside0.mk (Kd.N_below HO2.out hb3); have HLt : Aside0 (∀ k, v2.ownBlock = some k → k < w8.heap.size) := ⟨Kd.N_lt HO2.out⟩; have HF3 := Aside0.mk hF3; have HB3 := Aside0.mk (HB2.out.trans (hb3.mono HB2.out.size)); clear hF3 hb3))
  | (at_builtin; refine Kd.N_append_rows (Kd.slice 3 (Kd.int .i64)) (w0 := W6) W6.heap.size rfl (.tmp 52) (.tmp 54) 23 22 (.slice none 0 0) 24 rfl Try.underlying23 info22 rfl (by decide) (by omega) v2 ([[]] ++ v) (rawL l2) Ar (rawL l2).length cr (fun _ => True) (fun k => w8.heap.size ≤ k) rfl rfl HO3.out HF3.out (fun k hk => ⟨trivial, fun e => by have := HLt.out k e.symm; omega⟩) (fun _ _ => trivial) HB3.out HB3.out.size (by have := HVf.out; have := rawL_len l2; simp; omega) ?_; intro v4 w10 HO4 HB4 _ _; have HO4 := Aside0.mk HO4; have HB4 := Aside0.mk HB4)
  | fail)
 have HQ0 : Aside0 (([[]] ++ v ++ rawL l2).length ≤ 1100 ∧ ∀ u ∈ [[]] ++ v ++ rawL l2, u.length ≤ 2000) := ⟨by have := HVf.out; have := rawL_len l2; simp; omega, fun u hu => by
  rcases List.mem_append.1 hu with hu | hu
  ·
   rcases List.mem_append.1 hu with hu | hu
   ·
    rw [List.mem_singleton.1 hu]; simp
   ·
    have := HVs.out u hu; omega
  ·
   have := rawL_short l2 u hu; omega⟩
 generalize [[]] ++ v ++ rawL l2 = as0 at *
 clear HO1 HB1 HO2 HB2 HO3 HB3 HLt HF3 hlr
 go_loopw [14, 15] (fun s14 s15 wr => ∃ (k : Nat) (aq : List (List Int)), s15 = .int .i64 (k : Int) ∧ Aside0 (k ≤ v.length ∧ aq.length ≤ 1100 + 2 * k ∧ ∀ u ∈ aq, u.length ≤ 2000) ∧ Aside0 (Kd.N (Kd.slice 3 (Kd.int .i64)) 22 wr W6.heap.size (fun _ => True) s14 aq) ∧ Aside0 (Below W6.heap.size W6 wr)) (fun _ s15 _ => v.length - (intOf s15).toNat)
 case atStart => exact ⟨0, as0, rfl, ⟨Nat.zero_le _, HQ0.out.1, HQ0.out.2⟩, HO4, HB4⟩
 case round =>
  obtain ⟨k, aq, rfl, hk, RN, RB⟩ := hrel
  clear HO4 HB4 HQ0
  obtain ⟨hk0, hk1, hk2⟩ := hk.out
  have HVr := Aside0.mk (Kd.C_below HV6.out RB.out)
  by_cases hkv : k < v.length
  ·
   obtain ⟨ad, Ai, ci, hA, hx, hli, hRi⟩ := at_rows HV6.out (k : Int) (by omega) (by omega)
   subst hA
   rw [Int.toNat_natCast] at hx
   have hul := HVs.out _ (rdR_in hkv)
   generalize rdR v (k : Int) = u at *
   have hkk : (k : Int) < (v.length : Int) := by omega
   have hvf := HVf.out
   have w1 : IntKind.i64.wrap ((k : Int) + 1) = (k : Int) + 1 := wrap_in (by omega) (by omega)
   have HS : Aside0 (∀ X, Below wr.heap.size wr X → X.cell? (ad.add k) = some (.slice Ai u.length ci)) := ⟨fun X hb => pw_cell_below (RB.out.trans (hb.mono RB.out.size)) hx⟩
   have HS6 : Aside0 (∀ X, Below W6.heap.size W6 X → X.cell? (ad.add k) = some (.slice Ai u.length ci)) := ⟨fun X hb => pw_cell_below hb hx⟩
   have hx' := pw_cell_below RB.out hx
   have HKv : Aside0 (k < v.length) := ⟨hkv⟩
   have HA1 : Aside0 (aq.length ≤ 1100 + 2 * k ∧ ∀ u ∈ aq, u.length ≤ 2000) := ⟨hk1, hk2⟩
   obtain ⟨AT, cT, rfl⟩ := Kd.N_slice RN.out
   have HLo : Aside0 (∀ q, (Value.slice AT aq.length cT).ownBlock = some q → W6.heap.size ≤ q ∧ q < wr.heap.size) := ⟨fun q hq => ⟨Kd.N_base RN.out q hq, Kd.N_lt RN.out q hq⟩⟩
   clear hk hk0 hk1 hk2 hkv
   by_cases hu0 : 0 < u.length
   ·
    have hu1 : (u.length : Int) > 0 := by omega
    obtain ⟨M1, hM1⟩ : ∃ M1, u.length = M1 + 1 := ⟨u.length - 1, by omega⟩
    have m1 : IntKind.i64.wrap ((u.length : Int) - 1) = (M1 : Int) := (wrap_in (by omega) (by omega)).trans (by omega)
    obtain ⟨hcut, hTk⟩ := cut_take Try.underlying22 info3 Ai ci u M1 (by omega) hli
    obtain ⟨sy, hsy⟩ : ∃ sy : Int, sy = ((k % 5 : Nat) : Int) - 1 := ⟨_, rfl⟩
    have s1 : IntKind.i64.wrap (Int.tmod (k : Int) 5 - 1) = sy := by
     rw [Int.tmod_eq_emod_of_nonneg (by omega), wrap_in (by omega) (by omega), hsy]; omega
    have HTF := Aside0.mk (Kd.C_F (Kd.heap_int .i64) (hTk W6 hRi))
    have HRi := Aside0.mk hRi
    have HM : Aside0 (u.length = M1 + 1 ∧ M1 ≤ 1000 ∧ M1 ≤ ci) := ⟨by omega, by omega, by omega⟩
    have HTl : Aside0 (M1 = (u.take M1).length) := ⟨by rw [List.length_take]; omega⟩
    clear hM1 hTk hsy hRi hul
    have hb1 : Below wr.heap.size wr (wr.alloc (.cells #[] 3)).drew := (below_alloc (Below.refl _ wr) _).drew
    have hb2 : Below wr.heap.size wr ((wr.alloc (.cells #[] 3)).alloc (.cells #[.int .i64 sy] 3)).drew := (below_alloc (below_alloc (Below.refl _ wr) _) _).drew
    have hb3 : Below wr.heap.size wr ((wr.alloc (.cells #[.int .i64 sy] 3)).alloc (.cells #[] 3)).drew := (below_alloc (below_alloc (Below.refl _ wr) _) _).drew
    have HE1 : Aside0 (Kd.R (Kd.int .i64) 3 (wr.alloc (.cells #[] 3)).drew wr.heap.size (fun _ => True) (.slice (some ⟨wr.heap.size, 0, none⟩) 0 0) []) := ⟨Kd.R_drew (nil_R wr _ (Nat.le_refl _))⟩
    have HE2 : Aside0 (Kd.R (Kd.int .i64) 3 ((wr.alloc (.cells #[] 3)).alloc (.cells #[.int .i64 sy] 3)).drew wr.heap.size (fun _ => True) (.slice (some ⟨wr.heap.size, 0, none⟩) 0 0) []) := ⟨Kd.R_drew (Kd.R_alloc (nil_R wr _ (Nat.le_refl _)) _)⟩
    have HE3 : Aside0 (Kd.R (Kd.int .i64) 3 ((wr.alloc (.cells #[.int .i64 sy] 3)).alloc (.cells #[] 3)).drew wr.heap.size (fun _ => True) (.slice (some ⟨wr.heap.size + 1, 0, none⟩) 0 0) []) := ⟨Kd.R_drew (by have := nil_R (wr.alloc (.cells #[.int .i64 sy] 3)) wr.heap.size (by simp); simpa using this)⟩
    have HB1 := Aside0.mk hb1
    have HB2 := Aside0.mk hb2
    have HB3 := Aside0.mk hb3
    have HK2 : Aside0 (((wr.alloc (.cells #[] 3)).alloc (.cells #[.int .i64 sy] 3)).drew.heap[wr.heap.size + 1]? = some (.cells #[.int .i64 sy] 3 (0, 0))) := ⟨by have := blk_new (wr.alloc (.cells #[] 3)) (.cells #[.int .i64 sy] 3); rw [show (wr.alloc (.cells #[] 3)).heap.size = wr.heap.size + 1 from by simp] at this; exact this⟩
    have HK3 : Aside0 (((wr.alloc (.cells #[.int .i64 sy] 3)).alloc (.cells #[] 3)).drew.heap[wr.heap.size]? = some (.cells #[.int .i64 sy] 3 (0, 0))) := ⟨blk_alloc (blk_new wr (.cells #[.int .i64 sy] 3)) (.cells #[] 3)⟩
    have HUr : Aside0 (∀ X, Below wr.heap.size wr X → Kd.C (Kd.int .i64) X Ai u.length u) := ⟨fun X hb => Kd.C_below HRi.out (RB.out.trans (hb.mono RB.out.size))⟩
    clear hb1 hb2 hb3
    go_upto_region 11 with fail
    go_region_held3 (fun X => X.cell? (ad.add k) = some (.slice Ai u.length ci)) (first | exact HS6.out _ (by assumption) | exact HS.out _ (by repeat (first | assumption | exact Below.refl _ _ | apply below_alloc | apply below_drew1))) (first | (refine rows_lies (w0 := wr) wr.heap.size (by rfl) (.tmp 80) (.tmp 84) (by rfl) (.slice (some ⟨wr.heap.size, 0, none⟩) 0 0) [] u Ai u.length ci (by rfl) (by rfl) HE1.out (HUr.out _ HB1.out) HB1.out HB1.out.size (by have := HM.out; simp; omega) ?_; intro v6 w6 hR6 hb6 hG6; rw [List.nil_append] at hR6; obtain ⟨A6, c6, rfl⟩ := Kd.R_slice hR6) | (refine rows_lies (w0 := wr) wr.heap.size (by rfl) (.tmp 80) (.tmp 84) (by rfl) (.slice (some ⟨wr.heap.size, 0, none⟩) 0 0) [] u Ai u.length ci (by rfl) (by rfl) HE2.out (HUr.out _ HB2.out) HB2.out HB2.out.size (by have := HM.out; simp; omega) ?_; intro v6 w6 hR6 hb6 hG6; have hcB2 : w6.cell? ⟨wr.heap.size + 1, 0, none⟩ = some (.int .i64 sy) := (blk_cell ((hG6.block _ (by simp <;> omega) (by simp [Value.ownBlock])).trans HK2.out) 0).trans rfl; rw [List.nil_append] at hR6; obtain ⟨A6, c6, rfl⟩ := Kd.R_slice hR6) | (refine rows_lies (w0 := wr) wr.heap.size (by rfl) (.tmp 80) (.tmp 84) (by rfl) (.slice (some ⟨wr.heap.size + 1, 0, none⟩) 0 0) [] u Ai u.length ci (by rfl) (by rfl) HE3.out (HUr.out _ HB3.out) HB3.out HB3.out.size (by have := HM.out; simp; omega) ?_; intro v6 w6 hR6 hb6 hG6; have hcB3 : w6.cell? ⟨wr.heap.size, 0, none⟩ = some (.int .i64 sy) := (blk_cell ((hG6.block _ (by simp <;> omega) (by simp [Value.ownBlock])).trans HK3.out) 0).trans rfl; rw [List.nil_append] at hR6; obtain ⟨A6, c6, rfl⟩ := Kd.R_slice hR6) | (have hguard := hcB2; refine int_append_lies wr.heap.size (by rfl) (.tmp 85) (.tmp 89) (by rfl) Try.underlying22 info3 (.slice A6 u.length c6) u sy (fun _ => True) (by rfl) hR6 hb6 hb6.size ⟨wr.heap.size + 1, 0, none⟩ (by rfl) hcB2 (by have := HM.out; omega) ?_; intro v8 w8 hR8 hB8 hG8; obtain ⟨A8, c8, rfl, hc8, hC8⟩ := Kd.R_reads hR8) | (have hguard := hcB3; refine int_append_lies wr.heap.size (by rfl) (.tmp 85) (.tmp 89) (by rfl) Try.underlying22 info3 (.slice A6 u.length c6) u sy (fun _ => True) (by rfl) hR6 hb6 hb6.size ⟨wr.heap.size, 0, none⟩ (by rfl) hcB3 (by have := HM.out; omega) ?_; intro v8 w8 hR8 hB8 hG8; obtain ⟨A8, c8, rfl, hc8, hC8⟩ := Kd.R_reads hR8) | (refine int_append_lies wr.heap.size (by rfl) (.tmp 85) (.tmp 89) (by rfl) Try.underlying22 info3 (.slice A6 u.length c6) u sy (fun _ => True) (by rfl) (Kd.R_below hR6 (below_alloc (Below.refl _ _) (.cells #[.int .i64 sy] 3))) (below_alloc hb6 _) (Nat.le_trans hb6.size (by simp)) ⟨w6.heap.size, 0, none⟩ (by rfl) (by simp) (by have := HM.out; omega) ?_; intro v8 w8 hR8 hB8 hG8; obtain ⟨A8, c8, rfl, hc8, hC8⟩ := Kd.R_reads hR8) | go_loud (refine ask_lies (w0 := W6) W6.heap.size (by rfl) (.tmp 68) (.tmp 91) (by rfl) (.slice AT aq.length cT) aq [u.take M1, u ++ [sy]] (some ⟨w8.heap.size, 0, none⟩) 2 2 (fun q => q < W6.heap.size ∨ wr.heap.size ≤ q) (by rfl) (by rfl) (Kd.N_below RN.out (below_alloc hB8 _)) (lit2_F (blk_new w8 _) hB8.size (Kd.F_below HTF.out (RB.out.trans ((below_alloc hB8 _).mono RB.out.size))) HTl.out HM.out.2.2 (Kd.F_mono (Kd.R_F (Kd.R_bound (Kd.R_alloc (show Kd.R (Kd.int .i64) 3 w8 wr.heap.size (fun _ => True) (.slice A8 (u.length + 1) c8) (u ++ [sy]) from by simpa using hR8) _))) (fun q hq => hq.2.1)) (by simp) (by simpa using hc8)) (fun q hq e => by have := HLo.out q e.symm; omega) (RB.out.trans ((below_alloc hB8 _).mono RB.out.size)) (RB.out.trans ((below_alloc hB8 _).mono RB.out.size)).size (by have := HA1.out; have := HKv.out; omega) ?_; intro v9 w9 hN9 hb9) | fail)
    all_goals (
     have HNn := Aside0.mk hN9
     have HBn := Aside0.mk hb9
     clear hN9 hb9
     go_wp2
     go_roundw
     case rel => first | exact ⟨k + 1, aq ++ [u.take M1, u ++ [sy]], by go_num, ⟨HKv.out, by have := HA1.out.1; simp; omega, nm_short HA1.out.2 (by have := HM.out; omega)⟩, HNn, HBn⟩ | ((repeat apply Exists.intro); refine ⟨?_, rfl⟩; exact ⟨k + 1, aq ++ [u.take M1, u ++ [sy]], by go_num, ⟨HKv.out, by have := HA1.out.1; simp; omega, nm_short HA1.out.2 (by have := HM.out; omega)⟩, HNn, HBn⟩)
     case measure => have := HKv.out; simp [intOf]; omega)
   ·
    have hu1 : ¬ (u.length : Int) > 0 := by omega
    go_wp2
    go_roundw
    case rel => exact ⟨k + 1, aq, by go_num, ⟨HKv.out, by have := HA1.out.1; omega, HA1.out.2⟩, RN, RB⟩
    case measure => have := HKv.out; simp [intOf]; omega
  ·
   have hkk : ¬ (k : Int) < (v.length : Int) := by omega
   obtain ⟨AT, cT, rfl⟩ := Kd.N_slice RN.out
   have hRd := Kd.N_reads' RN.out
   have HCa := Aside0.mk hRd.2.2
   have hcT : aq.length ≤ cT := hRd.2.1
   have HQ : Aside0 (aq.length ≤ 5000 ∧ ∀ u ∈ aq, u.length ≤ 2000) := ⟨by have := HVf.out; omega, hk2⟩
   have HBw := Aside0.mk (HB6.out.trans (RB.out.mono HB6.out.size))
   have HG7 := Aside0.mk (HG6.out.below RB.out)
   have HV7 := Aside0.mk (Kd.C_below HV6.out RB.out)
   have H07 := Aside0.mk (Kd.C_below H06.out RB.out)
   have H17 := Aside0.mk (Kd.C_below H16.out RB.out)
   have H27 := Aside0.mk (Kd.C_below H26.out RB.out)
   have H37 := Aside0.mk (Kd.C_below H36.out RB.out)
   have HBK7 := Aside0.mk (blk_below HBK.out RB.out)
   clear hk hk0 hk1 hk2 hkv hRd RN RB HB6 HG6 H06 H16 H26 H36 HBK HR6 HV6 HFv
   generalize wr = W7 at *
   have hql : aq.length ≤ 5000 := HQ.out.1
   go_wp2
   go_loopw [16, 17, 18, 19, 20, 21, 22, 23, 24] (fun s16 s17 s18 s19 s20 s21 s22 s23 s24 wr => ∃ (m : Nat), s16 = .int .i64 (m : Int) ∧ Aside0 (m ≤ aq.length) ∧ Aside0 (Below W7.heap.size W7 wr)) (fun s16 _ _ _ _ _ _ _ _ _ => aq.length - (intOf s16).toNat)
   case atStart => exact ⟨0, rfl, ⟨Nat.zero_le _⟩, ⟨Below.refl _ _⟩⟩
   case round =>
    obtain ⟨m, rfl, hm, RB⟩ := hrel
    have hm0 := hm.out
    have HGr := Aside0.mk (HG7.out.below RB.out)
    by_cases hml : m < aq.length
    ·
     obtain ⟨ae, Ai, ci, hA, hx, hli, hRi⟩ := at_rows HCa.out (m : Int) (by omega) (by omega)
     subst hA
     rw [Int.toNat_natCast] at hx
     have hul := HQ.out.2 _ (rdR_in hml)
     generalize rdR aq (m : Int) = u at *
     have hmm : (m : Int) < (aq.length : Int) := by omega
     have w1 : IntKind.i64.wrap ((m : Int) + 1) = (m : Int) + 1 := wrap_in (by omega) (by omega)
     have HMl : Aside0 (m < aq.length) := ⟨hml⟩
     have HSW : Aside0 (∀ X, Below W7.heap.size W7 X → X.cell? (ae.add m) = some (.slice Ai u.length ci) ∧ X.cell? ⟨gb, 0, none⟩ = some (.slice B0 v.length d0) ∧ X.cell? ⟨gb, 1, none⟩ = some (.slice B1 (graphOf v).length d1) ∧ X.cell? ⟨gb, 2, none⟩ = some (.slice B2 (graphOf v).length d2) ∧ X.cell? ⟨gb, 3, none⟩ = some (.slice B3 (graphOf v).length d3)) :=
      ⟨fun X hb => ⟨pw_cell_below hb hx, (blk_cell (blk_below HBK7.out hb) 0).trans rfl, (blk_cell (blk_below HBK7.out hb) 1).trans rfl, (blk_cell (blk_below HBK7.out hb) 2).trans rfl, (blk_cell (blk_below HBK7.out hb) 3).trans rfl⟩⟩
     obtain ⟨q1, hq1⟩ : ∃ q1, (if u ∈ v then (lessL v u : Int) else 0) = q1 := ⟨_, rfl⟩
     obtain ⟨b1, hb1⟩ : ∃ b1, decide (u ∈ v) = b1 := ⟨_, rfl⟩
     obtain ⟨y1, hy1⟩ : ∃ y1, (lessL v u : Int) = y1 := ⟨_, rfl⟩
     obtain ⟨y2, hy2⟩ : ∃ y2, y1 + ((resW v u).length : Int) = y2 := ⟨_, rfl⟩
     have HIx : Aside0 (∀ X, Below W7.heap.size W7 X → Calls Try.prog 22 #[.pointer (some ⟨g, 0, none⟩), .slice Ai u.length ci] X fun e w' => e = .returned (.tuple #[.int .i64 q1, .bool b1]) ∧ Below X.heap.size X w') := ⟨fun X hb => by
      have := dl_index HGv.out g Ai ci u X (HG7.out.below hb) (Kd.C_below hRi hb) hli; rwa [hq1, hb1] at this⟩
     have HBe : Aside0 (∀ X, Below W7.heap.size W7 X → Calls Try.prog 24 #[.pointer (some ⟨g, 0, none⟩), .slice Ai u.length ci] X fun e w' => e = .returned (.tuple #[.int .i64 y1, .int .i64 y2]) ∧ Below X.heap.size X w') := ⟨fun X hb => by
      have := dl_begins HGv.out g Ai ci u X (HG7.out.below hb) (Kd.C_below hRi hb) hli; rwa [hy1, hy2] at this⟩
     have HJx : Aside0 (∀ X, Below W7.heap.size W7 X → Calls Try.prog 23 #[.agg #[.slice B0 v.length d0, .slice B1 (graphOf v).length d1, .slice B2 (graphOf v).length d2, .slice B3 (graphOf v).length d3], .slice Ai u.length ci] X fun e w' => e = .returned (.tuple #[.int .i64 q1, .bool b1]) ∧ Below X.heap.size X w') := ⟨fun X hb => by
      have := index15 HGv.out B0 B1 B2 B3 Ai _ _ _ d0 d1 d2 d3 ci u X (Kd.C_below H07.out hb) HD.out.1.1 (Kd.C_below H17.out hb) HD.out.1.2 (Kd.C_below H27.out hb) HD.out.2.1 (Kd.C_below H37.out hb) HD.out.2.2 (Kd.C_below hRi hb) hli
      rw [hq1, hb1] at this; simpa using this⟩
     have HJe : Aside0 (∀ X, Below W7.heap.size W7 X → Calls Try.prog 25 #[.agg #[.slice B0 v.length d0, .slice B1 (graphOf v).length d1, .slice B2 (graphOf v).length d2, .slice B3 (graphOf v).length d3], .slice Ai u.length ci] X fun e w' => e = .returned (.tuple #[.int .i64 y1, .int .i64 y2]) ∧ Below X.heap.size X w') := ⟨fun X hb => by
      have := begins15 (ws := v) (by have := HVf.out; omega) (fun x hx => by have := HVs.out x hx; omega) B0 B1 B2 B3 Ai (graphOf v).length (graphOf v).length (graphOf v).length d0 d1 d2 d3 ci u X (Kd.C_below H07.out hb) HD.out.1.1 (Kd.C_below hRi hb) hli
      rw [resW_count HGv.out.sorted, hy1, hy2] at this; exact this⟩
     clear hq1 hb1 hy1 hy2 hx hRi hm hm0 hml hul
     obtain ⟨x0, x1, x2, x3, x4⟩ := HSW.out _ RB.out
     go_wp2_with (first
      | (go_at_call 22; ((with_reducible refine (HIx.out _ RB.out).mono ?_); rintro e w1 ⟨rfl, hb1⟩; have RB1 := Aside0.mk (RB.out.trans (hb1.mono RB.out.size)); clear hb1))
      | fail)
     clear x0 x1 x2 x3 x4
     obtain ⟨x0, x1, x2, x3, x4⟩ := HSW.out _ RB1.out
     have HSB : Aside0 (∀ X, Below w1.heap.size w1 X → X.cell? (ae.add m) = some (.slice Ai u.length ci) ∧ X.cell? ⟨gb, 0, none⟩ = some (.slice B0 v.length d0) ∧ X.cell? ⟨gb, 1, none⟩ = some (.slice B1 (graphOf v).length d1) ∧ X.cell? ⟨gb, 2, none⟩ = some (.slice B2 (graphOf v).length d2) ∧ X.cell? ⟨gb, 3, none⟩ = some (.slice B3 (graphOf v).length d3)) := ⟨fun X hb => HSW.out X (RB1.out.trans (hb.mono RB1.out.size))⟩
     go_region_held3 (fun X => X.cell? (ae.add m) = some (.slice Ai u.length ci) ∧ X.cell? ⟨gb, 0, none⟩ = some (.slice B0 v.length d0) ∧ X.cell? ⟨gb, 1, none⟩ = some (.slice B1 (graphOf v).length d1) ∧ X.cell? ⟨gb, 2, none⟩ = some (.slice B2 (graphOf v).length d2) ∧ X.cell? ⟨gb, 3, none⟩ = some (.slice B3 (graphOf v).length d3)) (first | exact HSB.out _ (by repeat (first | assumption | exact Below.refl _ _ | apply below_alloc | apply below_drew1))) (first | (go_at_call 23; (with_reducible refine (HJx.out _ RB1.out.drew).mono ?_); rintro e w2 ⟨rfl, hbq⟩; have hb2 : Below w1.heap.size w1 w2 := (Below.refl _ _).drew.trans (hbq.mono (by simp)); clear hbq) | fail)
     have RB2 := Aside0.mk (RB1.out.trans (hb2.mono RB1.out.size))
     clear x0 x1 x2 x3 x4 HSB hb2
     obtain ⟨x0, x1, x2, x3, x4⟩ := HSW.out _ RB2.out
     go_wp2_with (first
      | (go_at_call 24; ((with_reducible refine (HBe.out _ RB2.out).mono ?_); rintro e w3 ⟨rfl, hb3⟩; have RB3 := Aside0.mk (RB2.out.trans (hb3.mono RB2.out.size)); clear hb3))
      | fail)
     clear x0 x1 x2 x3 x4
     obtain ⟨x0, x1, x2, x3, x4⟩ := HSW.out _ RB3.out
     have HSB : Aside0 (∀ X, Below w3.heap.size w3 X → X.cell? (ae.add m) = some (.slice Ai u.length ci) ∧ X.cell? ⟨gb, 0, none⟩ = some (.slice B0 v.length d0) ∧ X.cell? ⟨gb, 1, none⟩ = some (.slice B1 (graphOf v).length d1) ∧ X.cell? ⟨gb, 2, none⟩ = some (.slice B2 (graphOf v).length d2) ∧ X.cell? ⟨gb, 3, none⟩ = some (.slice B3 (graphOf v).length d3)) := ⟨fun X hb => HSW.out X (RB3.out.trans (hb.mono RB3.out.size))⟩
     go_region_held3 (fun X => X.cell? (ae.add m) = some (.slice Ai u.length ci) ∧ X.cell? ⟨gb, 0, none⟩ = some (.slice B0 v.length d0) ∧ X.cell? ⟨gb, 1, none⟩ = some (.slice B1 (graphOf v).length d1) ∧ X.cell? ⟨gb, 2, none⟩ = some (.slice B2 (graphOf v).length d2) ∧ X.cell? ⟨gb, 3, none⟩ = some (.slice B3 (graphOf v).length d3)) (first | exact HSB.out _ (by repeat (first | assumption | exact Below.refl _ _ | apply below_alloc | apply below_drew1))) (first | (go_at_call 25; (with_reducible refine (HJe.out _ RB3.out.drew).mono ?_); rintro e w4 ⟨rfl, hbq⟩; have hb4 : Below w3.heap.size w3 w4 := (Below.refl _ _).drew.trans (hbq.mono (by simp)); clear hbq) | fail)
     have RB4 := Aside0.mk (RB3.out.trans (hb4.mono RB3.out.size))
     clear x0 x1 x2 x3 x4 HSB hb4
     have e1 : (q1 != q1) = false := by simp
     have e2 : (b1 != b1) = false := by simp
     have e3 : (y1 != y1) = false := by simp
     have e4 : (y2 != y2) = false := by simp
     go_wp2
     go_roundw
     case rel => first | exact ⟨m + 1, by go_num, ⟨HMl.out⟩, RB4⟩ | ((repeat apply Exists.intro); refine ⟨?_, rfl⟩; exact ⟨m + 1, by go_num, ⟨HMl.out⟩, RB4⟩)
     case measure => have := HMl.out; simp [intOf]; omega
    ·
     have hmm : ¬ (m : Int) < (aq.length : Int) := by omega
     have hvl := HVf.out
     have wn1 : IntKind.i64.wrap ((v.length : Int) - 1) = (v.length : Int) - 1 := wrap_in (by omega) (by omega)
     have wn2 : IntKind.i64.wrap ((v.length : Int) + 1) = (v.length : Int) + 1 := wrap_in (by omega) (by omega)
     obtain ⟨W8, hW8⟩ : ∃ W8, W8 = wr.alloc (.cells #[.int .i64 (-1), .int .i64 0, .int .i64 ((v.length : Int) - 1), .int .i64 (v.length : Int), .int .i64 ((v.length : Int) + 1), .int .i64 a3] 3) := ⟨_, rfl⟩
     have hCn : Kd.C (Kd.int .i64) W8 (some ⟨wr.heap.size, 0, none⟩) 6 [-1, 0, (v.length : Int) - 1, (v.length : Int), (v.length : Int) + 1, a3] := by
      rw [hW8]; exact cb_new wr [-1, 0, (v.length : Int) - 1, (v.length : Int), (v.length : Int) + 1, a3] (by simp)
     have hb8 : Below W7.heap.size W7 W8 := by rw [hW8]; exact below_alloc RB.out _
     have HCn := Aside0.mk hCn
     have HB8 := Aside0.mk (HBw.out.trans (hb8.mono HBw.out.size))
     have HV8 := Aside0.mk (Kd.C_below HV7.out hb8)
     have HG8 := Aside0.mk (HG7.out.below hb8)
     have HW8 := Aside0.mk hW8
     clear hm0 hm hml HBw HV7 HG7 H07 H17 H27 H37 HBK7 HCa HQ hCn hb8 hW8 HGr
     generalize hnl : ([-1, 0, (v.length : Int) - 1, (v.length : Int), (v.length : Int) + 1, a3] : List Int) = nl at *
     have HNl : Aside0 (nl.length = 6) := ⟨by rw [← hnl]; rfl⟩
     clear hnl
     go_wp2
     rw [← HW8.out]
     clear HW8 RB
     generalize wr.heap.size = gn at *
     go_loopw [26, 27, 28, 29] (fun s26 s27 s28 s29 wr => ∃ (m : Nat), s26 = .int .i64 (m : Int) ∧ Aside0 (m ≤ 6) ∧ Aside0 (Below W8.heap.size W8 wr)) (fun s26 _ _ _ _ => 6 - (intOf s26).toNat)
     case atStart => exact ⟨0, rfl, ⟨Nat.zero_le _⟩, ⟨Below.refl _ _⟩⟩
     case round =>
      obtain ⟨m, rfl, hm, RB⟩ := hrel
      have hm0 := hm.out
      have HGr := Aside0.mk (HG8.out.below RB.out)
      by_cases hml : m < 6
      ·
       obtain ⟨an, hA, hx⟩ := Kd.at_int (Kd.C_below HCn.out RB.out) (m : Int) (by omega) (by omega)
       injection hA with hA
       subst hA
       rw [Int.toNat_natCast] at hx
       generalize rd nl (m : Int) = x at *
       have hx : wr.cell? ⟨gn, m, none⟩ = some (.int .i64 x) := by rw [add_plain] at hx; exact hx
       have hmm : (m : Int) < 6 := by omega
       have w1 : IntKind.i64.wrap ((m : Int) + 1) = (m : Int) + 1 := wrap_in (by omega) (by omega)
       have HMl : Aside0 (m < 6) := ⟨hml⟩
       clear hm0 hm hml
       by_cases h0 : 0 ≤ x
       ·
        obtain ⟨j, rfl⟩ := Int.eq_ofNat_of_zero_le h0
        have hg0 : (j : Int) ≥ 0 := h0
        by_cases h1 : j < v.length
        ·
         have h1i : (j : Int) < (v.length : Int) := by omega
         obtain ⟨ad, Ai, ci, hA, hy, hli, hRi⟩ := at_rows (Kd.C_below HV8.out RB.out) (j : Int) (by omega) (by omega)
         subst hA
         rw [Int.toNat_natCast] at hy
         have hul := HVs.out _ (rdR_in h1)
         have HWd : Aside0 (∀ X, GraphAt X g (graphOf v) → Calls Try.prog 26 #[.pointer (some ⟨g, 0, none⟩), .int .i64 (j : Int)] X fun e w' => ∃ A c, e = .returned (.tuple #[.slice A (rdR v (j : Int)).length c, .bool true]) ∧ (rdR v (j : Int)).length ≤ c ∧ Kd.C (Kd.int .i64) w' A (rdR v (j : Int)).length (rdR v (j : Int)) ∧ Below X.heap.size X w') := ⟨fun X hG => dl_word HGv.out g j h1 X hG⟩
         generalize rdR v (j : Int) = u at *
         have HRi := Aside0.mk hRi
         clear hRi h0 h1
         go_wp2_with (first
          | (go_at_call 26; ((with_reducible refine (HWd.out _ HGr.out).mono ?_); rintro e w1 ⟨A1, c1, rfl, hl1, hC1, hb1⟩; have RB1 := Aside0.mk (RB.out.trans (hb1.mono RB.out.size)); have HR1 := Aside0.mk (Kd.C_below HRi.out hb1); have HC1 := Aside0.mk hC1; have hx1 := pw_cell_below hb1 hx; have hy1 := pw_cell_below hb1 hy; clear hx hy hb1 hC1))
          | (go_at_call 27; ((with_reducible refine (tw_same u A1 Ai c1 ci _ HC1.out hl1 HR1.out hli (by omega)).mono ?_); rintro e w2 ⟨rfl, hb2⟩; have RB2 := Aside0.mk (RB1.out.trans (hb2.mono RB1.out.size)); clear hb2))
          | fail)
         go_roundw
         case rel => first | exact ⟨m + 1, by go_num, ⟨HMl.out⟩, RB2⟩ | ((repeat apply Exists.intro); refine ⟨?_, rfl⟩; exact ⟨m + 1, by go_num, ⟨HMl.out⟩, RB2⟩)
         case measure => have := HMl.out; simp [intOf]; omega
        ·
         have h1i : ¬ (j : Int) < (v.length : Int) := by omega
         have HOut : Aside0 ((j : Int) < 0 ∨ (v.length : Int) ≤ (j : Int)) := ⟨by omega⟩
         go_wp2_with (first
          | (go_at_call 26; ((with_reducible refine (dl_noword HGv.out g (j : Int) HOut.out _ HGr.out).mono ?_); rintro e w' ⟨rfl, rfl⟩))
          | fail)
         go_roundw
         case rel => first | exact ⟨m + 1, by go_num, ⟨HMl.out⟩, RB⟩ | ((repeat apply Exists.intro); refine ⟨?_, rfl⟩; exact ⟨m + 1, by go_num, ⟨HMl.out⟩, RB⟩)
         case measure => have := HMl.out; simp [intOf]; omega
       ·
        have hg0 : ¬ x ≥ 0 := h0
        have HOut : Aside0 (x < 0 ∨ (v.length : Int) ≤ x) := ⟨by omega⟩
        go_wp2_with (first
         | (go_at_call 26; ((with_reducible refine (dl_noword HGv.out g x HOut.out _ HGr.out).mono ?_); rintro e w' ⟨rfl, rfl⟩))
         | fail)
        go_roundw
        case rel => first | exact ⟨m + 1, by go_num, ⟨HMl.out⟩, RB⟩ | ((repeat apply Exists.intro); refine ⟨?_, rfl⟩; exact ⟨m + 1, by go_num, ⟨HMl.out⟩, RB⟩)
        case measure => have := HMl.out; simp [intOf]; omega
      ·
       have hmm : ¬ (m : Int) < 6 := by omega
       have HBe := Aside0.mk (HB8.out.trans (RB.out.mono HB8.out.size))
       go_wp2_with (first
        | (go_at_call 28; ((with_reducible refine (lives15 _).mono ?_); rintro e w1 ⟨rfl, hb1⟩; have HBf := Aside0.mk (HBe.out.trans (hb1.mono HBe.out.size)); clear hb1))
        | fail)
       go_ret
       exact ⟨rfl, HBf.out⟩
end Go.Proofs.Ytcdjeimjbbknjaa.PAll
namespace Go.Proofs.Ytcdjeimjbbknjaa.PAll
open Go.RowKit Go.Proofs.YtcdjeimjbbknjaaW.PrintWords Go.Proofs.YtcdjeimjbbknjaaW.PrintLast Go.Proofs.YtcdjeimjbbknjaaW.PrintMore
attribute [local go_sem] max2_int min2_int max_two min_two max_three min_three max_four min_four   -- for this text's walks alone
set_option linter.unusedVariables false
set_option linter.unusedSimpArgs false







theorem info106 : (Try.prog.info? 106).map (fun i => (i.zero, i.size, i.bytes)) = some (some (.agg #[(.int .i64 0), (.int .i64 0), (.int .i64 0)]), 3, 24) := by kernel_rfl
end Go.Proofs.Ytcdjeimjbbknjaa.PAll
namespace Go.Proofs.Ytcdjeimjbbknjaa.PAll
open Go.RowKit Go.Proofs.YtcdjeimjbbknjaaW.PrintWords Go.Proofs.YtcdjeimjbbknjaaW.PrintLast Go.Proofs.YtcdjeimjbbknjaaW.PrintMore
attribute [local go_sem] max2_int min2_int max_two min_two max_three min_three max_four min_four   -- for this text's walks alone
set_option linter.unusedVariables false
set_option linter.unusedSimpArgs false

mutual
def wordbookref15_Build.l0 : Nat → List (List Int) → List (S106) → Int → List (List Int) → List (List Int) → List (List Int) → List Bool → Option ((List (List Int)) × (List (List Int)) × (List (List Int)) × List Bool × Int)
  | 0, _, _, _, _, _, _, _ => none
  | k + 1, x0, x6, x7, x104000, x104001, x104002, x104003 => if x7 < (x6.length : Int) then (if 0 ≤ x7 then (if ((rd_T106 x6 x7).f0) < ((rd_T106 x6 x7).f1) then (if 0 ≤ ((rd_T106 x6 x7).f0) then (if ((rd_T106 x6 x7).f0) < (x0.length : Int) then (wordbookref15_Build.j1 k x0 x6 x7 ((rd_T106 x6 x7).f0) (((rd_L2 x0 ((rd_T106 x6 x7).f0)).length : Int) == ((rd_T106 x6 x7).f2)) x104000 x104001 x104002 x104003 ((rd_T106 x6 x7).f0) ((rd_T106 x6 x7).f1) ((rd_T106 x6 x7).f2)) else (none)) else (none)) else (wordbookref15_Build.j1 k x0 x6 x7 ((rd_T106 x6 x7).f0) false x104000 x104001 x104002 x104003 ((rd_T106 x6 x7).f0) ((rd_T106 x6 x7).f1) ((rd_T106 x6 x7).f2))) else (none)) else (some (x104000, x104001, x104002, x104003, 0))
def wordbookref15_Build.j1 : Nat → List (List Int) → List (S106) → Int → Int → Bool → List (List Int) → List (List Int) → List (List Int) → List Bool → Int → Int → Int → Option ((List (List Int)) × (List (List Int)) × (List (List Int)) × List Bool × Int)
  | 0, _, _, _, _, _, _, _, _, _, _, _, _ => none
  | k + 1, x0, x6, x7, x9, x10, x104000, x104001, x104002, x104003, x109000, x109001, x109002 => if x10 = true then (wordbookref15_Build.j2 k x0 x6 x7 (wrap64 (x9 + 1)) x10 x104000 x104001 x104002 x104003 x109000 x109001 x109002) else (wordbookref15_Build.j2 k x0 x6 x7 x9 x10 x104000 x104001 x104002 x104003 x109000 x109001 x109002)
def wordbookref15_Build.j2 : Nat → List (List Int) → List (S106) → Int → Int → Bool → List (List Int) → List (List Int) → List (List Int) → List Bool → Int → Int → Int → Option ((List (List Int)) × (List (List Int)) × (List (List Int)) × List Bool × Int)
  | 0, _, _, _, _, _, _, _, _, _, _, _, _ => none
  | k + 1, x0, x6, x7, x9, x10, x104000, x104001, x104002, x104003, x109000, x109001, x109002 => wordbookref15_Build.l1 k x0 x6 x7 x9 x10 ([] : List Int) ([] : List Int) x104000 x104001 x104002 x104003 x109000 x109001 x109002
def wordbookref15_Build.l1 : Nat → List (List Int) → List (S106) → Int → Int → Bool → List Int → List Int → List (List Int) → List (List Int) → List (List Int) → List Bool → Int → Int → Int → Option ((List (List Int)) × (List (List Int)) × (List (List Int)) × List Bool × Int)
  | 0, _, _, _, _, _, _, _, _, _, _, _, _, _, _ => none
  | k + 1, x0, x6, x7, x9, x10, x11, x12, x104000, x104001, x104002, x104003, x109000, x109001, x109002 => if x9 < x109001 then (wordbookref15_Build.l2 k x0 x6 x7 x9 x10 x11 x12 x9 x104000 x104001 x104002 x104003 x109000 x109001 x109002) else (if x104001.length < 5864062014805 then (if x104002.length < 5864062014805 then (if x104003.length < 140737488355328 then (wordbookref15_Build.l0 k x0 x6 (wrap64 (x7 + 1)) x104000 (x104001 ++ [x11]) (x104002 ++ [x12]) (x104003 ++ [x10])) else (none)) else (none)) else (none))
def wordbookref15_Build.l2 : Nat → List (List Int) → List (S106) → Int → Int → Bool → List Int → List Int → Int → List (List Int) → List (List Int) → List (List Int) → List Bool → Int → Int → Int → Option ((List (List Int)) × (List (List Int)) × (List (List Int)) × List Bool × Int)
  | 0, _, _, _, _, _, _, _, _, _, _, _, _, _, _, _ => none
  | k + 1, x0, x6, x7, x9, x10, x11, x12, x13, x104000, x104001, x104002, x104003, x109000, x109001, x109002 => if x13 < x109001 then (if 0 ≤ x13 then (if x13 < (x0.length : Int) then (if 0 ≤ x109002 then (if x109002 < ((rd_L2 x0 x13).length : Int) then (if 0 ≤ x9 then (if x9 < (x0.length : Int) then (if x109002 < ((rd_L2 x0 x9).length : Int) then (wordbookref15_Build.j5 k x0 x6 x7 x9 x10 x11 x12 x13 ((rd (rd_L2 x0 x13) x109002) == (rd (rd_L2 x0 x9) x109002)) x104000 x104001 x104002 x104003 x109000 x109001 x109002) else (none)) else (none)) else (none)) else (none)) else (none)) else (none)) else (none)) else (wordbookref15_Build.j5 k x0 x6 x7 x9 x10 x11 x12 x13 false x104000 x104001 x104002 x104003 x109000 x109001 x109002)
def wordbookref15_Build.j5 : Nat → List (List Int) → List (S106) → Int → Int → Bool → List Int → List Int → Int → Bool → List (List Int) → List (List Int) → List (List Int) → List Bool → Int → Int → Int → Option ((List (List Int)) × (List (List Int)) × (List (List Int)) × List Bool × Int)
  | 0, _, _, _, _, _, _, _, _, _, _, _, _, _, _, _, _ => none
  | k + 1, x0, x6, x7, x9, x10, x11, x12, x13, x84, x104000, x104001, x104002, x104003, x109000, x109001, x109002 => if x84 = true then (wordbookref15_Build.l2 k x0 x6 x7 x9 x10 x11 x12 (wrap64 (x13 + 1)) x104000 x104001 x104002 x104003 x109000 x109001 x109002) else (wordbookref15_Build.l3 k x0 x6 x7 x9 x10 x11 x12 x13 0 x104000 x104001 x104002 x104003 x109000 x109001 x109002 x9 x13 (wrap64 (x109002 + 1)))
def wordbookref15_Build.l3 : Nat → List (List Int) → List (S106) → Int → Int → Bool → List Int → List Int → Int → Int → List (List Int) → List (List Int) → List (List Int) → List Bool → Int → Int → Int → Int → Int → Int → Option ((List (List Int)) × (List (List Int)) × (List (List Int)) × List Bool × Int)
  | 0, _, _, _, _, _, _, _, _, _, _, _, _, _, _, _, _, _, _, _ => none
  | k + 1, x0, x6, x7, x9, x10, x11, x12, x13, x15, x104000, x104001, x104002, x104003, x109000, x109001, x109002, x124000, x124001, x124002 => if x15 < (x6.length : Int) then (if 0 ≤ x15 then ((wordbookref15_same.f x0 ((rd_T106 x6 x15).f0) ((rd_T106 x6 x15).f1) ((rd_T106 x6 x15).f2) x124000 x124001 x124002).bind fun t125 => (wordbookref15_Build.j7 k x0 x6 x7 x9 x10 x11 x12 x13 x15 (!t125) x104000 x104001 x104002 x104003 x109000 x109001 x109002 x124000 x124001 x124002)) else (none)) else (wordbookref15_Build.j7 k x0 x6 x7 x9 x10 x11 x12 x13 x15 false x104000 x104001 x104002 x104003 x109000 x109001 x109002 x124000 x124001 x124002)
def wordbookref15_Build.j7 : Nat → List (List Int) → List (S106) → Int → Int → Bool → List Int → List Int → Int → Int → Bool → List (List Int) → List (List Int) → List (List Int) → List Bool → Int → Int → Int → Int → Int → Int → Option ((List (List Int)) × (List (List Int)) × (List (List Int)) × List Bool × Int)
  | 0, _, _, _, _, _, _, _, _, _, _, _, _, _, _, _, _, _, _, _, _ => none
  | k + 1, x0, x6, x7, x9, x10, x11, x12, x13, x15, x106, x104000, x104001, x104002, x104003, x109000, x109001, x109002, x124000, x124001, x124002 => if x106 = true then (wordbookref15_Build.l3 k x0 x6 x7 x9 x10 x11 x12 x13 (wrap64 (x15 + 1)) x104000 x104001 x104002 x104003 x109000 x109001 x109002 x124000 x124001 x124002) else (if x15 = (x6.length : Int) then (if x6.length < 5864062014805 then (if 0 ≤ x9 then (if x9 < (x0.length : Int) then (if 0 ≤ x109002 then (if x109002 < ((rd_L2 x0 x9).length : Int) then (if x11.length < 17592186044416 then (if x12.length < 17592186044416 then (wordbookref15_Build.l1 k x0 (x6 ++ [(⟨x124000, x124001, x124002⟩ : S106)]) x7 x13 x10 (x11 ++ [rd (rd_L2 x0 x9) x109002]) (x12 ++ [x15]) x104000 x104001 x104002 x104003 x109000 x109001 x109002) else (none)) else (none)) else (none)) else (none)) else (none)) else (none)) else (none)) else (if 0 ≤ x9 then (if x9 < (x0.length : Int) then (if 0 ≤ x109002 then (if x109002 < ((rd_L2 x0 x9).length : Int) then (if x11.length < 17592186044416 then (if x12.length < 17592186044416 then (wordbookref15_Build.l1 k x0 x6 x7 x13 x10 (x11 ++ [rd (rd_L2 x0 x9) x109002]) (x12 ++ [x15]) x104000 x104001 x104002 x104003 x109000 x109001 x109002) else (none)) else (none)) else (none)) else (none)) else (none)) else (none)))
end
def wordbookref15_Build.f (k : Nat) (l0 : List (List Int)) : Option ((List (List Int)) × (List (List Int)) × (List (List Int)) × List Bool × Int) := (wordbookref15_Errors.f k l0).bind fun t102 => (if t102 = 0 then (wordbookref15_Build.l0 k l0 (([(⟨0, (l0.length : Int), 0⟩ : S106)] : List (S106))) 0 l0 ([] : List (List Int)) ([] : List (List Int)) ([] : List Bool)) else (some (([] : List (List Int)), ([] : List (List Int)), ([] : List (List Int)), ([] : List Bool), t102)))
theorem wordbookref15_Build.mono_l : ∀ k, (∀ y0 y1 y2 y3 y4 y5 y6, LeO (wordbookref15_Build.l0 k y0 y1 y2 y3 y4 y5 y6) (wordbookref15_Build.l0 (k + 1) y0 y1 y2 y3 y4 y5 y6)) ∧ (∀ y0 y1 y2 y3 y4 y5 y6 y7 y8 y9 y10 y11, LeO (wordbookref15_Build.j1 k y0 y1 y2 y3 y4 y5 y6 y7 y8 y9 y10 y11) (wordbookref15_Build.j1 (k + 1) y0 y1 y2 y3 y4 y5 y6 y7 y8 y9 y10 y11)) ∧ (∀ y0 y1 y2 y3 y4 y5 y6 y7 y8 y9 y10 y11, LeO (wordbookref15_Build.j2 k y0 y1 y2 y3 y4 y5 y6 y7 y8 y9 y10 y11) (wordbookref15_Build.j2 (k + 1) y0 y1 y2 y3 y4 y5 y6 y7 y8 y9 y10 y11)) ∧ (∀ y0 y1 y2 y3 y4 y5 y6 y7 y8 y9 y10 y11 y12 y13, LeO (wordbookref15_Build.l1 k y0 y1 y2 y3 y4 y5 y6 y7 y8 y9 y10 y11 y12 y13) (wordbookref15_Build.l1 (k + 1) y0 y1 y2 y3 y4 y5 y6 y7 y8 y9 y10 y11 y12 y13)) ∧ (∀ y0 y1 y2 y3 y4 y5 y6 y7 y8 y9 y10 y11 y12 y13 y14, LeO (wordbookref15_Build.l2 k y0 y1 y2 y3 y4 y5 y6 y7 y8 y9 y10 y11 y12 y13 y14) (wordbookref15_Build.l2 (k + 1) y0 y1 y2 y3 y4 y5 y6 y7 y8 y9 y10 y11 y12 y13 y14)) ∧ (∀ y0 y1 y2 y3 y4 y5 y6 y7 y8 y9 y10 y11 y12 y13 y14 y15, LeO (wordbookref15_Build.j5 k y0 y1 y2 y3 y4 y5 y6 y7 y8 y9 y10 y11 y12 y13 y14 y15) (wordbookref15_Build.j5 (k + 1) y0 y1 y2 y3 y4 y5 y6 y7 y8 y9 y10 y11 y12 y13 y14 y15)) ∧ (∀ y0 y1 y2 y3 y4 y5 y6 y7 y8 y9 y10 y11 y12 y13 y14 y15 y16 y17 y18, LeO (wordbookref15_Build.l3 k y0 y1 y2 y3 y4 y5 y6 y7 y8 y9 y10 y11 y12 y13 y14 y15 y16 y17 y18) (wordbookref15_Build.l3 (k + 1) y0 y1 y2 y3 y4 y5 y6 y7 y8 y9 y10 y11 y12 y13 y14 y15 y16 y17 y18)) ∧ (∀ y0 y1 y2 y3 y4 y5 y6 y7 y8 y9 y10 y11 y12 y13 y14 y15 y16 y17 y18 y19, LeO (wordbookref15_Build.j7 k y0 y1 y2 y3 y4 y5 y6 y7 y8 y9 y10 y11 y12 y13 y14 y15 y16 y17 y18 y19) (wordbookref15_Build.j7 (k + 1) y0 y1 y2 y3 y4 y5 y6 y7 y8 y9 y10 y11 y12 y13 y14 y15 y16 y17 y18 y19))
  | 0 => ⟨fun _ _ _ _ _ _ _ r h => by simp [wordbookref15_Build.l0] at h, fun _ _ _ _ _ _ _ _ _ _ _ _ r h => by simp [wordbookref15_Build.j1] at h, fun _ _ _ _ _ _ _ _ _ _ _ _ r h => by simp [wordbookref15_Build.j2] at h, fun _ _ _ _ _ _ _ _ _ _ _ _ _ _ r h => by simp [wordbookref15_Build.l1] at h, fun _ _ _ _ _ _ _ _ _ _ _ _ _ _ _ r h => by simp [wordbookref15_Build.l2] at h, fun _ _ _ _ _ _ _ _ _ _ _ _ _ _ _ _ r h => by simp [wordbookref15_Build.j5] at h, fun _ _ _ _ _ _ _ _ _ _ _ _ _ _ _ _ _ _ _ r h => by simp [wordbookref15_Build.l3] at h, fun _ _ _ _ _ _ _ _ _ _ _ _ _ _ _ _ _ _ _ _ r h => by simp [wordbookref15_Build.j7] at h⟩
  | k + 1 => by
    obtain ⟨ih0, ih1, ih2, ih3, ih4, ih5, ih6, ih7⟩ := wordbookref15_Build.mono_l k
    refine ⟨?_, ?_, ?_, ?_, ?_, ?_, ?_, ?_⟩
    · intro y0 y1 y2 y3 y4 y5 y6
      unfold wordbookref15_Build.l0
      repeat' first
      | (with_reducible exact ih0 _ _ _ _ _ _ _)
      | (with_reducible exact ih1 _ _ _ _ _ _ _ _ _ _ _ _)
      | (with_reducible exact ih2 _ _ _ _ _ _ _ _ _ _ _ _)
      | (with_reducible exact ih3 _ _ _ _ _ _ _ _ _ _ _ _ _ _)
      | (with_reducible exact ih4 _ _ _ _ _ _ _ _ _ _ _ _ _ _ _)
      | (with_reducible exact ih5 _ _ _ _ _ _ _ _ _ _ _ _ _ _ _ _)
      | (with_reducible exact ih6 _ _ _ _ _ _ _ _ _ _ _ _ _ _ _ _ _ _ _)
      | (with_reducible exact ih7 _ _ _ _ _ _ _ _ _ _ _ _ _ _ _ _ _ _ _ _)
      | (with_reducible exact wordbookref15_Errors.mono _ _)
      | (with_reducible exact LeO.refl _)
      | (with_reducible exact LeO.none _)
      | (with_reducible refine LeO.ite ?_ ?_)
      | (with_reducible refine LeO.bind ?_ (fun _ => ?_))
      | exact ih0 _ _ _ _ _ _ _
      | exact ih1 _ _ _ _ _ _ _ _ _ _ _ _
      | exact ih2 _ _ _ _ _ _ _ _ _ _ _ _
      | exact ih3 _ _ _ _ _ _ _ _ _ _ _ _ _ _
      | exact ih4 _ _ _ _ _ _ _ _ _ _ _ _ _ _ _
      | exact ih5 _ _ _ _ _ _ _ _ _ _ _ _ _ _ _ _
      | exact ih6 _ _ _ _ _ _ _ _ _ _ _ _ _ _ _ _ _ _ _
      | exact ih7 _ _ _ _ _ _ _ _ _ _ _ _ _ _ _ _ _ _ _ _
      | exact wordbookref15_Errors.mono _ _
      | exact LeO.none _
      | refine LeO.ite ?_ ?_
      | refine LeO.bind ?_ (fun _ => ?_)
    · intro y0 y1 y2 y3 y4 y5 y6 y7 y8 y9 y10 y11
      unfold wordbookref15_Build.j1
      repeat' first
      | (with_reducible exact ih0 _ _ _ _ _ _ _)
      | (with_reducible exact ih1 _ _ _ _ _ _ _ _ _ _ _ _)
      | (with_reducible exact ih2 _ _ _ _ _ _ _ _ _ _ _ _)
      | (with_reducible exact ih3 _ _ _ _ _ _ _ _ _ _ _ _ _ _)
      | (with_reducible exact ih4 _ _ _ _ _ _ _ _ _ _ _ _ _ _ _)
      | (with_reducible exact ih5 _ _ _ _ _ _ _ _ _ _ _ _ _ _ _ _)
      | (with_reducible exact ih6 _ _ _ _ _ _ _ _ _ _ _ _ _ _ _ _ _ _ _)
      | (with_reducible exact ih7 _ _ _ _ _ _ _ _ _ _ _ _ _ _ _ _ _ _ _ _)
      | (with_reducible exact wordbookref15_Errors.mono _ _)
      | (with_reducible exact LeO.refl _)
      | (with_reducible exact LeO.none _)
      | (with_reducible refine LeO.ite ?_ ?_)
      | (with_reducible refine LeO.bind ?_ (fun _ => ?_))
      | exact ih0 _ _ _ _ _ _ _
      | exact ih1 _ _ _ _ _ _ _ _ _ _ _ _
      | exact ih2 _ _ _ _ _ _ _ _ _ _ _ _
      | exact ih3 _ _ _ _ _ _ _ _ _ _ _ _ _ _
      | exact ih4 _ _ _ _ _ _ _ _ _ _ _ _ _ _ _
      | exact ih5 _ _ _ _ _ _ _ _ _ _ _ _ _ _ _ _
      | exact ih6 _ _ _ _ _ _ _ _ _ _ _ _ _ _ _ _ _ _ _
      | exact ih7 _ _ _ _ _ _ _ _ _ _ _ _ _ _ _ _ _ _ _ _
      | exact wordbookref15_Errors.mono _ _
      | exact LeO.none _
      | refine LeO.ite ?_ ?_
      | refine LeO.bind ?_ (fun _ => ?_)
    · intro y0 y1 y2 y3 y4 y5 y6 y7 y8 y9 y10 y11
      unfold wordbookref15_Build.j2
      repeat' first
      | (with_reducible exact ih0 _ _ _ _ _ _ _)
      | (with_reducible exact ih1 _ _ _ _ _ _ _ _ _ _ _ _)
      | (with_reducible exact ih2 _ _ _ _ _ _ _ _ _ _ _ _)
      | (with_reducible exact ih3 _ _ _ _ _ _ _ _ _ _ _ _ _ _)
      | (with_reducible exact ih4 _ _ _ _ _ _ _ _ _ _ _ _ _ _ _)
      | (with_reducible exact ih5 _ _ _ _ _ _ _ _ _ _ _ _ _ _ _ _)
      | (with_reducible exact ih6 _ _ _ _ _ _ _ _ _ _ _ _ _ _ _ _ _ _ _)
      | (with_reducible exact ih7 _ _ _ _ _ _ _ _ _ _ _ _ _ _ _ _ _ _ _ _)
      | (with_reducible exact wordbookref15_Errors.mono _ _)
      | (with_reducible exact LeO.refl _)
      | (with_reducible exact LeO.none _)
      | (with_reducible refine LeO.ite ?_ ?_)
      | (with_reducible refine LeO.bind ?_ (fun _ => ?_))
      | exact ih0 _ _ _ _ _ _ _
      | exact ih1 _ _ _ _ _ _ _ _ _ _ _ _
      | exact ih2 _ _ _ _ _ _ _ _ _ _ _ _
      | exact ih3 _ _ _ _ _ _ _ _ _ _ _ _ _ _
      | exact ih4 _ _ _ _ _ _ _ _ _ _ _ _ _ _ _
      | exact ih5 _ _ _ _ _ _ _ _ _ _ _ _ _ _ _ _
      | exact ih6 _ _ _ _ _ _ _ _ _ _ _ _ _ _ _ _ _ _ _
      | exact ih7 _ _ _ _ _ _ _ _ _ _ _ _ _ _ _ _ _ _ _ _
      | exact wordbookref15_Errors.mono _ _
      | exact LeO.none _
      | refine LeO.ite ?_ ?_
      | refine LeO.bind ?_ (fun _ => ?_)
    · intro y0 y1 y2 y3 y4 y5 y6 y7 y8 y9 y10 y11 y12 y13
      unfold wordbookref15_Build.l1
      repeat' first
      | (with_reducible exact ih0 _ _ _ _ _ _ _)
      | (with_reducible exact ih1 _ _ _ _ _ _ _ _ _ _ _ _)
      | (with_reducible exact ih2 _ _ _ _ _ _ _ _ _ _ _ _)
      | (with_reducible exact ih3 _ _ _ _ _ _ _ _ _ _ _ _ _ _)
      | (with_reducible exact ih4 _ _ _ _ _ _ _ _ _ _ _ _ _ _ _)
      | (with_reducible exact ih5 _ _ _ _ _ _ _ _ _ _ _ _ _ _ _ _)
      | (with_reducible exact ih6 _ _ _ _ _ _ _ _ _ _ _ _ _ _ _ _ _ _ _)
      | (with_reducible exact ih7 _ _ _ _ _ _ _ _ _ _ _ _ _ _ _ _ _ _ _ _)
      | (with_reducible exact wordbookref15_Errors.mono _ _)
      | (with_reducible exact LeO.refl _)
      | (with_reducible exact LeO.none _)
      | (with_reducible refine LeO.ite ?_ ?_)
      | (with_reducible refine LeO.bind ?_ (fun _ => ?_))
      | exact ih0 _ _ _ _ _ _ _
      | exact ih1 _ _ _ _ _ _ _ _ _ _ _ _
      | exact ih2 _ _ _ _ _ _ _ _ _ _ _ _
      | exact ih3 _ _ _ _ _ _ _ _ _ _ _ _ _ _
      | exact ih4 _ _ _ _ _ _ _ _ _ _ _ _ _ _ _
      | exact ih5 _ _ _ _ _ _ _ _ _ _ _ _ _ _ _ _
      | exact ih6 _ _ _ _ _ _ _ _ _ _ _ _ _ _ _ _ _ _ _
      | exact ih7 _ _ _ _ _ _ _ _ _ _ _ _ _ _ _ _ _ _ _ _
      | exact wordbookref15_Errors.mono _ _
      | exact LeO.none _
      | refine LeO.ite ?_ ?_
      | refine LeO.bind ?_ (fun _ => ?_)
    · intro y0 y1 y2 y3 y4 y5 y6 y7 y8 y9 y10 y11 y12 y13 y14
      unfold wordbookref15_Build.l2
      repeat' first
      | (with_reducible exact ih0 _ _ _ _ _ _ _)
      | (with_reducible exact ih1 _ _ _ _ _ _ _ _ _ _ _ _)
      | (with_reducible exact ih2 _ _ _ _ _ _ _ _ _ _ _ _)
      | (with_reducible exact ih3 _ _ _ _ _ _ _ _ _ _ _ _ _ _)
      | (with_reducible exact ih4 _ _ _ _ _ _ _ _ _ _ _ _ _ _ _)
      | (with_reducible exact ih5 _ _ _ _ _ _ _ _ _ _ _ _ _ _ _ _)
      | (with_reducible exact ih6 _ _ _ _ _ _ _ _ _ _ _ _ _ _ _ _ _ _ _)
      | (with_reducible exact ih7 _ _ _ _ _ _ _ _ _ _ _ _ _ _ _ _ _ _ _ _)
      | (with_reducible exact wordbookref15_Errors.mono _ _)
      | (with_reducible exact LeO.refl _)
      | (with_reducible exact LeO.none _)
      | (with_reducible refine LeO.ite ?_ ?_)
      | (with_reducible refine LeO.bind ?_ (fun _ => ?_))
      | exact ih0 _ _ _ _ _ _ _
      | exact ih1 _ _ _ _ _ _ _ _ _ _ _ _
      | exact ih2 _ _ _ _ _ _ _ _ _ _ _ _
      | exact ih3 _ _ _ _ _ _ _ _ _ _ _ _ _ _
      | exact ih4 _ _ _ _ _ _ _ _ _ _ _ _ _ _ _
      | exact ih5 _ _ _ _ _ _ _ _ _ _ _ _ _ _ _ _
      | exact ih6 _ _ _ _ _ _ _ _ _ _ _ _ _ _ _ _ _ _ _
      | exact ih7 _ _ _ _ _ _ _ _ _ _ _ _ _ _ _ _ _ _ _ _
      | exact wordbookref15_Errors.mono _ _
      | exact LeO.none _
      | refine LeO.ite ?_ ?_
      | refine LeO.bind ?_ (fun _ => ?_)
    · intro y0 y1 y2 y3 y4 y5 y6 y7 y8 y9 y10 y11 y12 y13 y14 y15
      unfold wordbookref15_Build.j5
      repeat' first
      | (with_reducible exact ih0 _ _ _ _ _ _ _)
      | (with_reducible exact ih1 _ _ _ _ _ _ _ _ _ _ _ _)
      | (with_reducible exact ih2 _ _ _ _ _ _ _ _ _ _ _ _)
      | (with_reducible exact ih3 _ _ _ _ _ _ _ _ _ _ _ _ _ _)
      | (with_reducible exact ih4 _ _ _ _ _ _ _ _ _ _ _ _ _ _ _)
      | (with_reducible exact ih5 _ _ _ _ _ _ _ _ _ _ _ _ _ _ _ _)
      | (with_reducible exact ih6 _ _ _ _ _ _ _ _ _ _ _ _ _ _ _ _ _ _ _)
      | (with_reducible exact ih7 _ _ _ _ _ _ _ _ _ _ _ _ _ _ _ _ _ _ _ _)
      | (with_reducible exact wordbookref15_Errors.mono _ _)
      | (with_reducible exact LeO.refl _)
      | (with_reducible exact LeO.none _)
      | (with_reducible refine LeO.ite ?_ ?_)
      | (with_reducible refine LeO.bind ?_ (fun _ => ?_))
      | exact ih0 _ _ _ _ _ _ _
      | exact ih1 _ _ _ _ _ _ _ _ _ _ _ _
      | exact ih2 _ _ _ _ _ _ _ _ _ _ _ _
      | exact ih3 _ _ _ _ _ _ _ _ _ _ _ _ _ _
      | exact ih4 _ _ _ _ _ _ _ _ _ _ _ _ _ _ _
      | exact ih5 _ _ _ _ _ _ _ _ _ _ _ _ _ _ _ _
      | exact ih6 _ _ _ _ _ _ _ _ _ _ _ _ _ _ _ _ _ _ _
      | exact ih7 _ _ _ _ _ _ _ _ _ _ _ _ _ _ _ _ _ _ _ _
      | exact wordbookref15_Errors.mono _ _
      | exact LeO.none _
      | refine LeO.ite ?_ ?_
      | refine LeO.bind ?_ (fun _ => ?_)
    · intro y0 y1 y2 y3 y4 y5 y6 y7 y8 y9 y10 y11 y12 y13 y14 y15 y16 y17 y18
      unfold wordbookref15_Build.l3
      repeat' first
      | (with_reducible exact ih0 _ _ _ _ _ _ _)
      | (with_reducible exact ih1 _ _ _ _ _ _ _ _ _ _ _ _)
      | (with_reducible exact ih2 _ _ _ _ _ _ _ _ _ _ _ _)
      | (with_reducible exact ih3 _ _ _ _ _ _ _ _ _ _ _ _ _ _)
      | (with_reducible exact ih4 _ _ _ _ _ _ _ _ _ _ _ _ _ _ _)
      | (with_reducible exact ih5 _ _ _ _ _ _ _ _ _ _ _ _ _ _ _ _)
      | (with_reducible exact ih6 _ _ _ _ _ _ _ _ _ _ _ _ _ _ _ _ _ _ _)
      | (with_reducible exact ih7 _ _ _ _ _ _ _ _ _ _ _ _ _ _ _ _ _ _ _ _)
      | (with_reducible exact wordbookref15_Errors.mono _ _)
      | (with_reducible exact LeO.refl _)
      | (with_reducible exact LeO.none _)
      | (with_reducible refine LeO.ite ?_ ?_)
      | (with_reducible refine LeO.bind ?_ (fun _ => ?_))
      | exact ih0 _ _ _ _ _ _ _
      | exact ih1 _ _ _ _ _ _ _ _ _ _ _ _
      | exact ih2 _ _ _ _ _ _ _ _ _ _ _ _
      | exact ih3 _ _ _ _ _ _ _ _ _ _ _ _ _ _
      | exact ih4 _ _ _ _ _ _ _ _ _ _ _ _ _ _ _
      | exact ih5 _ _ _ _ _ _ _ _ _ _ _ _ _ _ _ _
      | exact ih6 _ _ _ _ _ _ _ _ _ _ _ _ _ _ _ _ _ _ _
      | exact ih7 _ _ _ _ _ _ _ _ _ _ _ _ _ _ _ _ _ _ _ _
      | exact wordbookref15_Errors.mono _ _
      | exact LeO.none _
      | refine LeO.ite ?_ ?_
      | refine LeO.bind ?_ (fun _ => ?_)
    · intro y0 y1 y2 y3 y4 y5 y6 y7 y8 y9 y10 y11 y12 y13 y14 y15 y16 y17 y18 y19
      unfold wordbookref15_Build.j7
      repeat' first
      | (with_reducible exact ih0 _ _ _ _ _ _ _)
      | (with_reducible exact ih1 _ _ _ _ _ _ _ _ _ _ _ _)
      | (with_reducible exact ih2 _ _ _ _ _ _ _ _ _ _ _ _)
      | (with_reducible exact ih3 _ _ _ _ _ _ _ _ _ _ _ _ _ _)
      | (with_reducible exact ih4 _ _ _ _ _ _ _ _ _ _ _ _ _ _ _)
      | (with_reducible exact ih5 _ _ _ _ _ _ _ _ _ _ _ _ _ _ _ _)
      | (with_reducible exact ih6 _ _ _ _ _ _ _ _ _ _ _ _ _ _ _ _ _ _ _)
      | (with_reducible exact ih7 _ _ _ _ _ _ _ _ _ _ _ _ _ _ _ _ _ _ _ _)
      | (with_reducible exact wordbookref15_Errors.mono _ _)
      | (with_reducible exact LeO.refl _)
      | (with_reducible exact LeO.none _)
      | (with_reducible refine LeO.ite ?_ ?_)
      | (with_reducible refine LeO.bind ?_ (fun _ => ?_))
      | exact ih0 _ _ _ _ _ _ _
      | exact ih1 _ _ _ _ _ _ _ _ _ _ _ _
      | exact ih2 _ _ _ _ _ _ _ _ _ _ _ _
      | exact ih3 _ _ _ _ _ _ _ _ _ _ _ _ _ _
      | exact ih4 _ _ _ _ _ _ _ _ _ _ _ _ _ _ _
      | exact ih5 _ _ _ _ _ _ _ _ _ _ _ _ _ _ _ _
      | exact ih6 _ _ _ _ _ _ _ _ _ _ _ _ _ _ _ _ _ _ _
      | exact ih7 _ _ _ _ _ _ _ _ _ _ _ _ _ _ _ _ _ _ _ _
      | exact wordbookref15_Errors.mono _ _
      | exact LeO.none _
      | refine LeO.ite ?_ ?_
      | refine LeO.bind ?_ (fun _ => ?_)
def wordbookref15_Build.T11 : Bool × List (List Nat × List Nat) := (true, [([], []), ([], []), ([1], [1]), ([0, 2], [0, 2]), ([3], [3]), ([4], [4]), ([4], [4]), ([5, 6, 4], [4, 5, 6]), ([7, 4], [4, 7]), ([8, 4], [4, 8]), ([4], [4]), ([10, 4], [4, 10]), ([9, 11, 4], [4, 9, 11]), ([4, 12], [4, 12]), ([13, 4, 0, 1, 2, 3, 4, 5, 6, 7, 8, 9, 10, 11, 12, 13], [13])])
def wordbookref15_Build.B11 : List Nat := [0, 0, 2, 7, 15, 31, 31, 127, 255, 511, 31, 1055, 4095, 8191, 16383]
theorem wordbookref15_Build.tab11 : rtab .any (opsOf Try.f20 11) = wordbookref15_Build.T11 := by kernel_rfl
theorem wordbookref15_Build.bits11 : waitsOk wordbookref15_Build.T11.2 wordbookref15_Build.B11 = true := by kernel_rfl
def wordbookref15_Build.T18 : Bool × List (List Nat × List Nat) := (true, [([], []), ([], []), ([1], [1]), ([0, 2], [0, 2]), ([3], [3]), ([4], [4]), ([4], [4]), ([5, 6, 4], [4, 5, 6]), ([7, 4], [4, 7]), ([4], [4]), ([9, 4], [4, 9]), ([8, 10, 4], [4, 8, 10]), ([11, 4], [4, 11]), ([4], [4]), ([4], [4]), ([13, 14, 4], [4, 13, 14]), ([15, 4], [4, 15]), ([4], [4]), ([17, 4], [4, 17]), ([16, 18, 4], [4, 16, 18]), ([19, 4], [4, 19]), ([12, 20, 4], [4, 12, 20]), ([4, 21], [4, 21])])
def wordbookref15_Build.B18 : List Nat := [0, 0, 2, 7, 15, 31, 31, 127, 255, 31, 543, 2047, 4095, 31, 31, 24607, 57375, 31, 131103, 516127, 1040415, 2097151, 4194303]
theorem wordbookref15_Build.tab18 : rtab .any (opsOf Try.f20 18) = wordbookref15_Build.T18 := by kernel_rfl
theorem wordbookref15_Build.bits18 : waitsOk wordbookref15_Build.T18.2 wordbookref15_Build.B18 = true := by kernel_rfl
def wordbookref15_Build.T22 : Bool × List (List Nat × List Nat) := (true, [([], []), ([], []), ([1], [1]), ([0, 2], [0, 2]), ([3], [3]), ([4], [4]), ([4], [4]), ([4], [4]), ([6, 7, 4], [4, 6, 7]), ([8, 4], [4, 8]), ([4], [4]), ([5, 9, 10, 4, 4], [4, 5, 9, 10]), ([11, 4], [4, 11]), ([4, 12], [4, 12])])
def wordbookref15_Build.B22 : List Nat := [0, 0, 2, 7, 15, 31, 31, 31, 223, 479, 31, 2047, 4095, 8191]
theorem wordbookref15_Build.tab22 : rtab .any (opsOf Try.f20 22) = wordbookref15_Build.T22 := by kernel_rfl
theorem wordbookref15_Build.bits22 : waitsOk wordbookref15_Build.T22.2 wordbookref15_Build.B22 = true := by kernel_rfl
def wordbookref15_Build.T26 : Bool × List (List Nat × List Nat) := (true, [([], []), ([], []), ([], []), ([1, 2], [1, 2]), ([3], [3]), ([], []), ([5], [5]), ([4, 6], [4, 6]), ([7], [7]), ([8], [8]), ([0, 9], [0, 9]), ([10, 10, 0, 1, 2, 3, 4, 5, 6, 7, 8, 9, 10], [0, 10])])
def wordbookref15_Build.B26 : List Nat := [0, 0, 0, 6, 14, 0, 32, 126, 254, 510, 1023, 2047]
theorem wordbookref15_Build.tab26 : rtab .any (opsOf Try.f20 26) = wordbookref15_Build.T26 := by kernel_rfl
theorem wordbookref15_Build.bits26 : waitsOk wordbookref15_Build.T26.2 wordbookref15_Build.B26 = true := by kernel_rfl
end Go.Proofs.Ytcdjeimjbbknjaa.PAll
namespace Go.Proofs.Ytcdjeimjbbknjaa.PAll
open Go.RowKit Go.Proofs.YtcdjeimjbbknjaaW.PrintWords Go.Proofs.YtcdjeimjbbknjaaW.PrintLast Go.Proofs.YtcdjeimjbbknjaaW.PrintMore Go.Proofs.Ytcdjeimjbbknjaa.Res
set_option linter.unusedVariables false
set_option linter.unusedSimpArgs false

def resV (ws : List (List Int)) (p : S106) : List (List Int) := resP ws p.f0 p.f1 p.f2
def PsOk (ws : List (List Int)) (ps : List S106) : Prop := ∀ p ∈ ps, partOk ws p.f0 p.f1 p.f2 ∧ Srt (resV ws p)
def WsOk (ws : List (List Int)) : Prop := ws.length ≤ 1000000000 ∧ ∀ v ∈ ws, v.length ≤ 1000000000
theorem rdS_get {ps : List S106} {i : Nat} (h : i < ps.length) : rd_T106 ps (i : Int) = ps[i] := by
 rw [rd_T106, List.getD_eq_getElem?_getD, Int.toNat_natCast, List.getElem?_eq_getElem h, Option.getD_some]
theorem rdL_R : rd_L2 = rdR := rfl
theorem wrap_one {i : Nat} (h : i ≤ 1000000000) : wrap64 ((i : Int) + 1) = ((i + 1 : Nat) : Int) := by unfold wrap64; omega
theorem same_is {ws : List (List Int)} (hw : WsOk ws) {p : S106} (hp : partOk ws p.f0 p.f1 p.f2) {f t k : Int} (hn : partOk ws f t k) : wordbookref15_same.f ws p.f0 p.f1 p.f2 f t k = some (decide (resV ws p = resP ws f t k)) := by
 unfold wordbookref15_same.f
 rw [if_pos ⟨hp, hn, hw.1, hw.2⟩]; rfl
theorem b_l3 {ws : List (List Int)} (hw : WsOk ws) (ps : List S106) (hps : PsOk ws ps) (hpl : ps.length ≤ 1000000) {f t k : Int} (hn : partOk ws f t k) (x7 x9 : Int) (x10 : Bool) (x11 x12 : List Int) (x13 : Int) (a b c : List (List Int)) (d : List Bool) (p0 p1 p2 : Int) {r}
    (h : ∃ q, wordbookref15_Build.j7 q ws ps x7 x9 x10 x11 x12 x13 (((ps.map (resV ws)).idxOf (resP ws f t k) : Nat) : Int) false a b c d p0 p1 p2 f t k = some r) :
    ∀ (m i : Nat), i + m = (ps.map (resV ws)).idxOf (resP ws f t k) → ∃ q, wordbookref15_Build.l3 q ws ps x7 x9 x10 x11 x12 x13 (i : Int) a b c d p0 p1 p2 f t k = some r := by
 have hle := idx_le (resP ws f t k) (ps.map (resV ws))
 rw [List.length_map] at hle
 intro m
 induction m with
 | zero =>
  intro i hi
  obtain ⟨q, hq⟩ := h
  refine ⟨q + 1, ?_⟩
  rw [wordbookref15_Build.l3]
  rw [Nat.add_zero] at hi
  rw [← hi] at hq
  by_cases hlt : i < ps.length
  ·
   rw [if_pos (by omega), if_pos (by omega), rdS_get hlt, same_is hw (hps _ (List.getElem_mem hlt)).1 hn, Option.bind_some]
   have h2 := (idx_at (resP ws f t k) (ps.map (resV ws)) (by rw [List.length_map]; omega)).1
   rw [← hi, List.getElem?_map, List.getElem?_eq_getElem hlt, Option.map_some] at h2
   rw [decide_eq_true (Option.some.inj h2)]
   exact hq
  ·
   rw [if_neg (by omega)]
   exact hq
 | succ m ih =>
  intro i hi
  obtain ⟨q, hq⟩ := ih (i + 1) (by omega)
  refine ⟨q + 2, ?_⟩
  have hlt : i < ps.length := by omega
  rw [wordbookref15_Build.l3, if_pos (by omega), if_pos (by omega), rdS_get hlt, same_is hw (hps _ (List.getElem_mem hlt)).1 hn, Option.bind_some]
  have h2 := idx_far (resP ws f t k) (ps.map (resV ws)) i (by omega)
  rw [List.getElem?_map, List.getElem?_eq_getElem hlt, Option.map_some] at h2
  rw [decide_eq_false (fun e => h2 (by rw [e])), wordbookref15_Build.j7, if_pos (show (!false) = true from rfl), wrap_one (by omega)]
  exact hq
theorem b_l2 {ws : List (List Int)} (hw : WsOk ws) (ps : List S106) (f t k : Nat) (h0 : f < t) (ht : t ≤ ws.length) (hk : ∀ e, f ≤ e → e < t → k < (rdR ws (e : Int)).length) (x7 : Int) (x10 : Bool) (x11 x12 : List Int) (a b c : List (List Int)) (d : List Bool) (p0 : Int) {r}
    (h : ∃ q, wordbookref15_Build.l3 q ws ps x7 (f : Int) x10 x11 x12 ((endOf ws f t k : Nat) : Int) 0 a b c d p0 (t : Int) (k : Int) (f : Int) ((endOf ws f t k : Nat) : Int) ((k + 1 : Nat) : Int) = some r) :
    ∀ (m e : Nat), e + m = endOf ws f t k → f ≤ e → ∃ q, wordbookref15_Build.l2 q ws ps x7 (f : Int) x10 x11 x12 (e : Int) a b c d p0 (t : Int) (k : Int) = some r := by
 have hE := endOf_le ws f t k h0 ht
 have hkf := hk f (Nat.le_refl _) h0
 have hkl : k ≤ 1000000000 := by have := hw.2 _ (rdR_in (show f < ws.length by omega)); omega
 have hwl := hw.1
 intro m
 induction m with
 | zero =>
  intro e he hfe
  obtain ⟨q, hq⟩ := h
  refine ⟨q + 2, ?_⟩
  rw [Nat.add_zero] at he
  rw [wordbookref15_Build.l2, rdL_R]
  by_cases hlt : e < t
  ·
   have h1 := hk e hfe hlt
   have h2 := endOf_out ws f t k h0 ht (by omega)
   rw [← he] at h2
   rw [if_pos (by omega), if_pos (by omega), if_pos (by omega), if_pos (by omega), if_pos (show (k : Int) < ((rdR ws (e : Int)).length : Int) by omega), if_pos (by omega), if_pos (by omega), if_pos (show (k : Int) < ((rdR ws (f : Int)).length : Int) by omega)]
   rw [show (rd (rdR ws (e : Int)) (k : Int) == rd (rdR ws (f : Int)) (k : Int)) = false from beq_eq_false_iff_ne.2 h2, wordbookref15_Build.j5, if_neg (by decide), wrap_one hkl, he]
   exact hq
  ·
   rw [if_neg (by omega), wordbookref15_Build.j5, if_neg (by decide), wrap_one hkl, he]
   exact hq
 | succ m ih =>
  intro e he hfe
  obtain ⟨q, hq⟩ := ih (e + 1) (by omega) (by omega)
  refine ⟨q + 2, ?_⟩
  have hlt : e < t := by omega
  have h1 := hk e hfe hlt
  have h2 := endOf_in ws f t k e h0 ht hfe (by omega)
  rw [wordbookref15_Build.l2, rdL_R, if_pos (by omega), if_pos (by omega), if_pos (by omega), if_pos (by omega), if_pos (show (k : Int) < ((rdR ws (e : Int)).length : Int) by omega), if_pos (by omega), if_pos (by omega), if_pos (show (k : Int) < ((rdR ws (f : Int)).length : Int) by omega)]
  rw [show (rd (rdR ws (e : Int)) (k : Int) == rd (rdR ws (f : Int)) (k : Int)) = true from beq_iff_eq.2 h2, wordbookref15_Build.j5, if_pos rfl, wrap_one (by omega)]
  exact hq
theorem resP_long {ws : List (List Int)} {f t k : Nat} (ht : t ≤ ws.length) (hne : ∀ v ∈ resP ws f t k, v ≠ []) : ∀ e, f ≤ e → e < t → k < (rdR ws (e : Int)).length := by
 intro e h0 h1
 have hx := resP_at ws f t k (e - f) ht (by omega)
 rw [show f + (e - f) = e from by omega] at hx
 have := hne _ (List.mem_iff_getElem?.2 ⟨_, hx⟩)
 exact Nat.lt_of_not_le fun h => this (List.drop_eq_nil_of_le h)
theorem partOk_mk {ws : List (List Int)} {f t k : Nat} (h : f ≤ t) (ht : t ≤ ws.length) (hk : ∀ e, f ≤ e → e < t → k ≤ (rdR ws (e : Int)).length) : partOk ws (f : Int) (t : Int) (k : Int) := by
 refine ⟨by omega, by omega, by omega, by omega, fun v hv => ?_⟩
 simp only [Int.toNat_natCast] at hv
 obtain ⟨j, hj⟩ := List.mem_iff_getElem?.1 hv
 rw [List.getElem?_drop] at hj
 have hl := (List.getElem?_eq_some_iff.1 hj).1
 rw [List.length_take] at hl
 rw [List.getElem?_take_of_lt (by omega), List.getElem?_eq_getElem (by omega)] at hj
 have := hk (f + j) (by omega) (by omega)
 rw [rdR_nat, List.getD_eq_getElem?_getD, List.getElem?_eq_getElem (by omega), Option.getD_some, Option.some.inj hj] at this
 omega
theorem b_kids {ws : List (List Int)} (hw : WsOk ws) (t k : Nat) (ht : t ≤ ws.length) (i : Nat) (hi : i ≤ 1000000) (fin : Bool) (a b c : List (List Int)) (d : List Bool) (hb : b.length ≤ 1000000) (hc : c.length ≤ 1000000) (hd : d.length ≤ 1000000) (p0 : Int) {r} :
    ∀ (m f : Nat) (ps : List S106) (sy to_ : List Int), t - f ≤ m → f ≤ t → PsOk ws ps → Srt (resP ws f t k) → (∀ v ∈ resP ws f t k, v ≠ []) → sy.length + (t - f) ≤ 1000000000 → to_.length + (t - f) ≤ 1000000000 →
    (toR ((grps (t - f) (resP ws f t k)).map (·.2)) (ps.map (resV ws)) to_).1.length ≤ 1000000 →
    (∀ ps', PsOk ws ps' → ps'.map (resV ws) = (toR ((grps (t - f) (resP ws f t k)).map (·.2)) (ps.map (resV ws)) to_).1 →
      ∃ q, wordbookref15_Build.l0 q ws ps' ((i + 1 : Nat) : Int) a (b ++ [sy ++ (grps (t - f) (resP ws f t k)).map (·.1)]) (c ++ [(toR ((grps (t - f) (resP ws f t k)).map (·.2)) (ps.map (resV ws)) to_).2]) (d ++ [fin]) = some r) →
    ∃ q, wordbookref15_Build.l1 q ws ps (i : Int) (f : Int) fin sy to_ a b c d p0 (t : Int) (k : Int) = some r := by
 intro m
 induction m with
 | zero =>
  intro f ps sy to_ hm hf hps hs hne hsy hto hlen h
  obtain rfl : f = t := by omega
  rw [Nat.sub_self, resP_nil] at h
  obtain ⟨q, hq⟩ := h ps hps rfl
  refine ⟨q + 1, ?_⟩
  rw [wordbookref15_Build.l1, if_neg (by omega), if_pos (by omega), if_pos (by omega), if_pos (by omega), wrap_one (by omega)]
  simpa [grps, toR] using hq
 | succ m ih =>
  intro f ps sy to_ hm hf hps hs hne hsy hto hlen h
  rcases Nat.eq_or_lt_of_le hf with rfl | hlt
  ·
   rw [Nat.sub_self, resP_nil] at h
   obtain ⟨q, hq⟩ := h ps hps rfl
   refine ⟨q + 1, ?_⟩
   rw [wordbookref15_Build.l1, if_neg (by omega), if_pos (by omega), if_pos (by omega), if_pos (by omega), wrap_one (by omega)]
   simpa [grps, toR] using hq
  ·
   have hE := endOf_le ws f t k hlt ht
   have hk := resP_long ht hne
   have hgo := grps_ok (t - f) (resP ws f t k) hs hne
   rw [grps_step ws f t k hlt ht] at h hlen hgo
   simp only [List.map_cons] at h hlen
   rw [toR_step] at h hlen
   have hnx := hgo _ List.mem_cons_self
   have hpn : partOk ws (f : Int) ((endOf ws f t k : Nat) : Int) ((k + 1 : Nat) : Int) := partOk_mk (by omega) (by omega) fun e h0 h1 => hk e h0 (by omega)
   have hdr : resP ws ((endOf ws f t k : Nat) : Int) t k = (resP ws f t k).drop (endOf ws f t k - f) := by
    rw [resP_drop, show f + (endOf ws f t k - f) = endOf ws f t k from by omega]
   have hs2 : Srt (resP ws ((endOf ws f t k : Nat) : Int) t k) := by rw [hdr]; exact hs.sublist (List.drop_sublist _ _)
   have hne2 : ∀ v ∈ resP ws ((endOf ws f t k : Nat) : Int) t k, v ≠ [] := by rw [hdr]; exact fun v hv => hne v (List.mem_of_mem_drop hv)
   have hgr := toR_grow ((grps (t - endOf ws f t k) (resP ws ((endOf ws f t k : Nat) : Int) t k)).map (·.2)) (if (ps.map (resV ws)).idxOf (resP ws f ((endOf ws f t k : Nat) : Int) ((k + 1 : Nat) : Int)) = (ps.map (resV ws)).length then ps.map (resV ws) ++ [resP ws f ((endOf ws f t k : Nat) : Int) ((k + 1 : Nat) : Int)] else ps.map (resV ws)) (to_ ++ [(((ps.map (resV ws)).idxOf (resP ws f ((endOf ws f t k : Nat) : Int) ((k + 1 : Nat) : Int)) : Nat) : Int)])
   have hpl : ps.length ≤ 1000000 := by
    have : (ps.map (resV ws)).length ≤ (if (ps.map (resV ws)).idxOf (resP ws f ((endOf ws f t k : Nat) : Int) ((k + 1 : Nat) : Int)) = (ps.map (resV ws)).length then ps.map (resV ws) ++ [resP ws f ((endOf ws f t k : Nat) : Int) ((k + 1 : Nat) : Int)] else ps.map (resV ws)).length := by split <;> simp
    have h5 : (ps.map (resV ws)).length = ps.length := List.length_map ..
    omega
   have hkf := hk f (Nat.le_refl _) hlt
   suffices hj : ∃ q, wordbookref15_Build.j7 q ws ps (i : Int) (f : Int) fin sy to_ ((endOf ws f t k : Nat) : Int) (((ps.map (resV ws)).idxOf (resP ws f ((endOf ws f t k : Nat) : Int) ((k + 1 : Nat) : Int)) : Nat) : Int) false a b c d p0 (t : Int) (k : Int) (f : Int) ((endOf ws f t k : Nat) : Int) ((k + 1 : Nat) : Int) = some r by
    obtain ⟨q3, h3⟩ := b_l3 hw ps hps hpl hpn _ _ _ _ _ _ _ _ _ _ _ _ _ hj _ 0 (Nat.zero_add _)
    obtain ⟨q2, h2⟩ := b_l2 hw ps f t k hlt ht hk _ _ _ _ _ _ _ _ _ ⟨q3, h3⟩ (endOf ws f t k - f) f (by omega) (Nat.le_refl _)
    refine ⟨q2 + 1, ?_⟩
    rw [wordbookref15_Build.l1, if_pos (by omega)]
    exact h2
   have hrdm : rd (rdR ws (f : Int)) (k : Int) = rd (rdR ws (f : Int)) k := rfl
   by_cases hx : (ps.map (resV ws)).idxOf (resP ws f ((endOf ws f t k : Nat) : Int) ((k + 1 : Nat) : Int)) = (ps.map (resV ws)).length
   ·
    rw [if_pos hx] at h hlen
    have hx2 := hx
    rw [List.length_map] at hx2
    obtain ⟨q, hq⟩ := ih (endOf ws f t k) (ps ++ [⟨(f : Int), ((endOf ws f t k : Nat) : Int), ((k + 1 : Nat) : Int)⟩]) (sy ++ [rd (rdR ws (f : Int)) k]) (to_ ++ [(((ps.map (resV ws)).idxOf (resP ws f ((endOf ws f t k : Nat) : Int) ((k + 1 : Nat) : Int)) : Nat) : Int)]) (by omega) hE.2
     (fun p hp => by
      rcases List.mem_append.1 hp with hp | hp
      ·
       exact hps p hp
      ·
       rw [List.mem_singleton.1 hp]; exact ⟨hpn, hnx.1⟩) hs2 hne2 (by simp; omega) (by simp; omega) (by rw [List.map_append]; exact hlen)
     (fun ps' h1 h2 => by
      rw [List.map_append] at h2 ⊢
      have := h ps' h1 h2
      rw [List.append_cons sy] at this
      exact this)
    refine ⟨q + 1, ?_⟩
    rw [wordbookref15_Build.j7, rdL_R, if_neg (by decide), if_pos (by omega), if_pos (by omega), if_pos (by omega), if_pos (by omega), if_pos (by omega), if_pos (by omega), if_pos (by omega), if_pos (by omega)]
    exact hq
   ·
    rw [if_neg hx] at h hlen
    have hx2 := hx
    rw [List.length_map] at hx2
    obtain ⟨q, hq⟩ := ih (endOf ws f t k) ps (sy ++ [rd (rdR ws (f : Int)) k]) (to_ ++ [(((ps.map (resV ws)).idxOf (resP ws f ((endOf ws f t k : Nat) : Int) ((k + 1 : Nat) : Int)) : Nat) : Int)]) (by omega) hE.2
     hps hs2 hne2 (by simp; omega) (by simp; omega) hlen
     (fun ps' h1 h2 => by
      have := h ps' h1 h2
      rw [List.append_cons sy] at this
      exact this)
    refine ⟨q + 1, ?_⟩
    rw [wordbookref15_Build.j7, rdL_R, if_neg (by decide), if_neg (by omega), if_pos (by omega), if_pos (by omega), if_pos (by omega), if_pos (by omega), if_pos (by omega), if_pos (by omega)]
    exact hq
end Go.Proofs.Ytcdjeimjbbknjaa.PAll
namespace Go.Proofs.Ytcdjeimjbbknjaa.PAll
open Go.RowKit Go.Proofs.YtcdjeimjbbknjaaW.PrintWords Go.Proofs.YtcdjeimjbbknjaaW.PrintLast Go.Proofs.YtcdjeimjbbknjaaW.PrintMore Go.Proofs.Ytcdjeimjbbknjaa.Res
set_option linter.unusedVariables false
set_option linter.unusedSimpArgs false

theorem finR_resP (ws : List (List Int)) (f t k : Nat) (h : f < t) (ht : t ≤ ws.length) (hk : k ≤ (rdR ws (f : Int)).length) : finR (resP ws f t k) = decide ((rdR ws (f : Int)).length = k) := by
 rw [resP_cons ws f t k h ht]
 show List.isEmpty ((rdR ws (f : Int)).drop k) = _
 rw [Bool.eq_iff_iff, decide_eq_true_iff, List.isEmpty_iff, List.drop_eq_nil_iff]
 omega
theorem b_l0 {ws : List (List Int)} (hw : WsOk ws) (Q : List (List (List Int))) (N : List Nd) (hQ : Q.length = N.length) (hN : N.length ≤ 100000) :
    ∀ (n : Nat) (ps : List S106) (i : Nat) (G : List Nd), resG n (ps.map (resV ws)) i G = (Q, N) → G.length = i → i ≤ ps.length → PsOk ws ps → ws.length ≤ 100000 →
    ∃ q, wordbookref15_Build.l0 q ws ps (i : Int) ws (G.map (·.f1)) (G.map (·.f2)) (G.map (·.f0)) = some (ws, N.map (·.f1), N.map (·.f2), N.map (·.f0), 0) := by
 intro n
 induction n with
 | zero =>
  intro ps i G hr hG hi hps hl
  rw [resG] at hr
  obtain ⟨h1, h2⟩ := Prod.mk.inj hr
  refine ⟨1, ?_⟩
  have h3 := congrArg List.length h1
  rw [List.length_map] at h3
  have h4 := congrArg List.length h2
  rw [wordbookref15_Build.l0, if_neg (by omega), h2]
 | succ n ih =>
  intro ps i G hr hG hi hps hl
  have hgr := resG_grow (n + 1) (ps.map (resV ws)) i G
  rw [hr, List.length_map] at hgr
  replace hgr : ps.length ≤ Q.length := hgr
  rw [resG, List.length_map] at hr
  by_cases hlt : i < ps.length
  ·
   rw [if_pos hlt] at hr
   have hp := hps _ (List.getElem_mem hlt)
   have hP : rdP (ps.map (resV ws)) (i : Int) = resV ws ps[i] := by
    rw [rdP, Int.toNat_natCast, List.getD_eq_getElem?_getD, List.getElem?_map, List.getElem?_eq_getElem hlt]; rfl
   rw [hP] at hr
   have hgi := rdS_get hlt
   obtain ⟨⟨h0, h1, h2, h3, h4⟩, hs⟩ := hp
   generalize hpi : ps[i] = p at *
   obtain ⟨F, T, K⟩ := p
   dsimp only at h0 h1 h2 h3 h4
   obtain ⟨f, rfl⟩ := Int.eq_ofNat_of_zero_le h0
   obtain ⟨t, rfl⟩ := Int.eq_ofNat_of_zero_le (Int.le_trans h0 h1)
   obtain ⟨k, rfl⟩ := Int.eq_ofNat_of_zero_le h3
   have ht : t ≤ ws.length := by omega
   have hres : resV ws ⟨(f : Int), (t : Int), (k : Int)⟩ = resP ws f t k := rfl
   rw [hres] at hr hs
   -- what stands behind the part's own word
   have hro := restR_ok hs
   obtain ⟨g, hg1, hg2, hg3⟩ : ∃ g : Nat, f ≤ g ∧ g ≤ t ∧ restR (resP ws f t k) = resP ws g t k ∧ ((f < t ∧ g = f + 1 ∧ finR (resP ws f t k) = true ∧ (rdR ws (f : Int)).length = k) ∨ (g = f ∧ finR (resP ws f t k) = false ∧ (f < t → (rdR ws (f : Int)).length ≠ k))) := by
    rcases Nat.lt_or_ge f t with hft | hft
    ·
     have hk : k ≤ (rdR ws (f : Int)).length := by
      have := partOk_at (i := 0) (show partOk ws (f : Int) (t : Int) (k : Int) from ⟨h0, h1, h2, h3, h4⟩) (by omega)
      simpa using this
     have hf := finR_resP ws f t k hft ht hk
     by_cases he : (rdR ws (f : Int)).length = k
     ·
      rw [decide_eq_true he] at hf
      refine ⟨f + 1, by omega, by omega, ?_, .inl ⟨hft, rfl, hf, he⟩⟩
      unfold restR
      rw [if_pos hf, resP_cons ws f t k hft ht, List.tail_cons]
     ·
      rw [decide_eq_false he] at hf
      refine ⟨f, by omega, by omega, ?_, .inr ⟨rfl, hf, fun _ => he⟩⟩
      unfold restR
      rw [if_neg (by rw [hf]; decide)]
    ·
     obtain rfl : f = t := by omega
     refine ⟨f, by omega, by omega, ?_, .inr ⟨rfl, by rw [resP_nil]; rfl, fun h => by omega⟩⟩
     rw [resP_nil]; rfl
   rw [hg3.1] at hro
   have hgroups : groups (resP ws f t k) = grps (t - g) (resP ws g t k) := by unfold groups; rw [hg3.1, resP_len _ _ _ _ ht]
   rw [hgroups] at hr
   have hgr2 : (toR ((grps (t - g) (resP ws g t k)).map (·.2)) (ps.map (resV ws)) []).1.length ≤ Q.length := by
    have := resG_grow n (toR ((grps (t - g) (resP ws g t k)).map (·.2)) (ps.map (resV ws)) []).1 (i + 1) (G ++ [nodeR (ps.map (resV ws)) (resP ws f t k)])
    rwa [hr] at this
   have hkk := b_kids hw t k ht i (by omega) (finR (resP ws f t k)) ws (G.map (·.f1)) (G.map (·.f2)) (G.map (·.f0)) (by rw [List.length_map]; omega) (by rw [List.length_map]; omega) (by rw [List.length_map]; omega) (f : Int) (r := (ws, N.map (·.f1), N.map (·.f2), N.map (·.f0), 0)) (t - g) g ps [] [] (Nat.le_refl _) hg2 hps hro.1 hro.2 (by simp; omega) (by simp; omega) (by omega)
    (fun ps' h1 h2 => by
     have hfin : (G ++ [nodeR (ps.map (resV ws)) (resP ws f t k)]).length = i + 1 := by simp [hG]
     have hlen := toR_grow ((grps (t - g) (resP ws g t k)).map (·.2)) (ps.map (resV ws)) []
     rw [← h2] at hr hlen
     rw [List.length_map, List.length_map] at hlen
     have := ih ps' (i + 1) _ hr hfin (by omega) h1 hl
     rw [List.map_append, List.map_append, List.map_append] at this
     simp only [nodeR, List.map_cons, List.map_nil, hgroups] at this
     exact this)
   obtain ⟨q, hq⟩ := hkk
   refine ⟨q + 3, ?_⟩
   rw [wordbookref15_Build.l0, if_pos (by omega), if_pos (by omega), hgi]
   dsimp only
   rcases hg3.2 with ⟨c1, c2, c3, c4⟩ | ⟨c1, c2, c3⟩
   ·
    rw [if_pos (by omega), if_pos (by omega), if_pos (by omega), show (((rd_L2 ws (f : Int)).length : Int) == (k : Int)) = true from beq_iff_eq.2 (by rw [rdL_R]; omega)]
    rw [wordbookref15_Build.j1, if_pos rfl, wordbookref15_Build.j2, wrap_one (by omega), ← c2, ← c3]
    exact hq
   ·
    subst c1
    rcases Nat.lt_or_ge g t with hft | hft
    ·
     rw [if_pos (by omega), if_pos (by omega), if_pos (by omega), show (((rd_L2 ws (g : Int)).length : Int) == (k : Int)) = false from beq_eq_false_iff_ne.2 (by rw [rdL_R]; have := c3 hft; omega)]
     rw [wordbookref15_Build.j1, if_neg (by decide), wordbookref15_Build.j2, ← c2]
     exact hq
    ·
     rw [if_neg (by omega), wordbookref15_Build.j1, if_neg (by decide), wordbookref15_Build.j2, ← c2]
     exact hq
  ·
   rw [if_neg hlt] at hr
   obtain ⟨h1, h2⟩ := Prod.mk.inj hr
   refine ⟨1, ?_⟩
   rw [wordbookref15_Build.l0, if_neg (by omega), h2]
end Go.Proofs.Ytcdjeimjbbknjaa.PAll
namespace Go.Proofs.Ytcdjeimjbbknjaa.PAll
open Go.RowKit Go.Proofs.YtcdjeimjbbknjaaW.PrintWords Go.Proofs.YtcdjeimjbbknjaaW.PrintLast Go.Proofs.YtcdjeimjbbknjaaW.PrintMore Go.Proofs.Ytcdjeimjbbknjaa.Res
set_option linter.unusedVariables false
set_option linter.unusedSimpArgs false

def Ev (p : Nat → Prop) : Prop := ∃ q0, ∀ q, q0 ≤ q → p q
theorem Ev.next {p p' : Nat → Prop} (h : Ev p) (n : Nat) (hs : ∀ q, n ≤ q → p q → p' (q + 1)) : Ev p' := by
 obtain ⟨q0, h⟩ := h
 refine ⟨max q0 n + 1, fun q hq => ?_⟩
 obtain ⟨q', rfl⟩ : ∃ q', q = q' + 1 := ⟨q - 1, by omega⟩
 exact hs q' (by omega) (h q' (by omega))
theorem Ev.now {p : Nat → Prop} (hs : ∀ q, p (q + 1)) : Ev p := ⟨1, fun q hq => by
  obtain ⟨q', rfl⟩ : ∃ q', q = q' + 1 := ⟨q - 1, by omega⟩
  exact hs q'⟩
theorem e_l1 {ws : List (List Int)} {i : Nat} (hi : i < ws.length) (hlen : (rdR ws (i : Int)).length ≤ 1000000000) (x3 : Int) (x4 : Bool) {r : Int}
    (hbad : (rdR ws (i : Int)).any badSym = true → r = 1) (hend : (rdR ws (i : Int)).any badSym = false → Ev fun q => wordbookref15_Errors.l1 q ws x3 x4 (i : Int) ((rdR ws (i : Int)).length : Int) = some r) :
    ∀ (m j : Nat), j + m = (rdR ws (i : Int)).length → (∀ s ∈ (rdR ws (i : Int)).take j, badSym s = false) → Ev fun q => wordbookref15_Errors.l1 q ws x3 x4 (i : Int) (j : Int) = some r := by
 intro m
 induction m with
 | zero =>
  intro j hj hs
  rw [Nat.add_zero] at hj
  subst hj
  refine hend ?_
  rw [List.take_length] at hs
  rw [Bool.eq_false_iff]
  intro h
  obtain ⟨s, h1, h2⟩ := List.any_eq_true.1 h
  rw [hs s h1] at h2
  exact absurd h2 (by decide)
 | succ m ih =>
  intro j hj hs
  have hlt : j < (rdR ws (i : Int)).length := by omega
  have hrd : rd (rdR ws (i : Int)) (j : Int) = (rdR ws (i : Int))[j] := by
   rw [rd_nat, List.getD_eq_getElem?_getD, List.getElem?_eq_getElem hlt, Option.getD_some]
  cases hb : badSym (rd (rdR ws (i : Int)) (j : Int)) with
  | true =>
   have hr := hbad (List.any_eq_true.2 ⟨_, List.getElem_mem hlt, by rw [← hrd]; exact hb⟩)
   refine Ev.now fun q => ?_
   rw [wordbookref15_Errors.l1, rdL_R, if_pos (by omega), if_pos (by omega), if_pos (by omega), if_pos (by omega), hr]
   simp only [badSym, Bool.or_eq_true, decide_eq_true_eq] at hb
   by_cases h0 : rd (rdR ws (i : Int)) (j : Int) < 0
   ·
    rw [if_pos h0]
   ·
    rw [if_neg h0, if_pos (by omega)]
  | false =>
   refine (ih (j + 1) (by omega) fun s hs' => ?_).next 0 fun q _ hq => ?_
   ·
    rw [List.take_add_one, List.getElem?_eq_getElem hlt] at hs'
    rcases List.mem_append.1 hs' with h | h
    ·
     exact hs s h
    ·
     have : s = (rdR ws (i : Int))[j] := by simpa using h
     rw [this, ← hrd]; exact hb
   ·
    have hb2 := hb
    simp only [badSym, Bool.or_eq_false_iff, decide_eq_false_iff_not] at hb2
    rw [wordbookref15_Errors.l1, rdL_R, if_pos (by omega), if_pos (by omega), if_pos (by omega), if_pos (by omega), if_neg hb2.1, if_neg (by omega), wrap_one (by omega)]
    exact hq
theorem e_l0 {ws : List (List Int)} (hw : WsOk ws) (hs : sumUpto ws ws.length ≤ 4611686018427387904) :
    ∀ (m i : Nat), i + m = ws.length → okUpto ws i = true → Ev fun q => wordbookref15_Errors.l0 q ws (sumUpto ws i : Nat) (longUpto ws i) (i : Int) = some (checkL ws) := by
 intro m
 induction m with
 | zero =>
  intro i hi hok
  rw [Nat.add_zero] at hi
  subst hi
  refine Ev.now fun q => ?_
  rw [wordbookref15_Errors.l0, if_neg (by omega)]
  unfold checkL
  rw [if_pos hok]
  cases hl : longUpto ws ws.length with
  | true => rw [if_pos rfl, if_pos (.inl rfl)]
  | false =>
   rw [if_neg (by decide)]
   by_cases h1 : (4096 : Int) < (ws.length : Int)
   ·
    rw [if_pos h1, if_pos (.inr (.inl h1))]
   ·
    rw [if_neg h1]
    by_cases h2 : (65536 : Int) < (sumUpto ws ws.length : Int)
    ·
     rw [if_pos h2, if_pos (.inr (.inr h2))]
    ·
     rw [if_neg h2, if_neg]
     rintro (h | h | h)
     ·
      exact absurd h (by decide)
     ·
      exact h1 h
     ·
      exact h2 h
 | succ m ih =>
  intro i hi hok
  have hlt : i < ws.length := by omega
  have hu := hw.2 _ (rdR_in hlt)
  have hsum := sumUpto_le ws ws.length (i + 1) (by omega)
  rw [sumUpto] at hsum
  refine Ev.next (e_l1 hlt hu (sumUpto ws i : Nat) (longUpto ws i) (r := checkL ws) (fun hb => ?_) (fun hb => ?_) _ 0 (Nat.zero_add _) (by simp)) 0 fun q _ hq => ?_
  ·
   refine checkL_bad ws (i + 1) (by omega) ?_
   rw [okUpto, hb]; simp
  ·
   have hl2 := hw.1
   -- behind the word's last symbol
   have key : (i = 0 ∨ cmpL (rdR ws ((i - 1 : Nat) : Int)) (rdR ws (i : Int)) < 0) → Ev fun q => (if longUpto ws i = true then wordbookref15_Errors.l0 q ws (wrap64 ((sumUpto ws i : Nat) + ((rdR ws (i : Int)).length : Int))) true (wrap64 ((i : Int) + 1)) else wordbookref15_Errors.l0 q ws (wrap64 ((sumUpto ws i : Nat) + ((rdR ws (i : Int)).length : Int))) (decide (((rdR ws (i : Int)).length : Int) > 64)) (wrap64 ((i : Int) + 1))) = some (checkL ws) := by
    intro hc
    have hok2 : okUpto ws (i + 1) = true := by
     rw [okUpto, hok, hb]
     rcases hc with rfl | hc
     ·
      rfl
     ·
      rw [decide_eq_true hc]; simp
    obtain ⟨q0, h⟩ := ih (i + 1) (by omega) hok2
    refine ⟨q0, fun q hq => ?_⟩
    have h := h q hq
    dsimp only at h ⊢
    rw [sumUpto, longUpto] at h
    rw [wrap_one (by omega), show wrap64 ((sumUpto ws i : Nat) + ((rdR ws (i : Int)).length : Int)) = ((sumUpto ws i + (rdR ws (i : Int)).length : Nat) : Int) from by unfold wrap64; omega]
    cases hlg : longUpto ws i with
    | true => rw [hlg, Bool.true_or] at h; rw [if_pos rfl]; exact h
    | false => rw [hlg, Bool.false_or] at h; rw [if_neg (by decide)]; exact h
   rcases Nat.eq_zero_or_pos i with h0 | h0
   ·
    refine (key (.inl h0)).next 0 fun q _ hq => ?_
    rw [wordbookref15_Errors.l1, rdL_R, if_pos (by omega), if_pos (by omega), if_neg (by omega), if_neg (by omega)]
    exact hq
   ·
    have hu1 := hw.2 _ (rdR_in (show i - 1 < ws.length by omega))
    have hwr : wrap64 ((i : Int) - 1) = ((i - 1 : Nat) : Int) := by unfold wrap64; omega
    by_cases hc : cmpL (rdR ws ((i - 1 : Nat) : Int)) (rdR ws (i : Int)) < 0
    ·
     refine (key (.inr hc)).next (2 * (rdR ws ((i - 1 : Nat) : Int)).length + 2) fun q hn hq => ?_
     rw [wordbookref15_Errors.l1, rdL_R, if_pos (by omega), if_pos (by omega), if_neg (by omega), if_pos (by omega), hwr, if_pos (by omega), if_pos (by omega), order_is _ _ (by omega) _ (by omega), Option.bind_some, if_neg (by omega)]
     exact hq
    ·
     have hr : checkL ws = 1 := by
      refine checkL_bad ws (i + 1) (by omega) ?_
      rw [okUpto, decide_eq_false hc, show (i == 0) = false from by simp; omega]; simp
     refine (show Ev fun _ => True from ⟨0, fun _ _ => trivial⟩).next (2 * (rdR ws ((i - 1 : Nat) : Int)).length + 2) fun q hn _ => ?_
     rw [wordbookref15_Errors.l1, rdL_R, if_pos (by omega), if_pos (by omega), if_neg (by omega), if_pos (by omega), hwr, if_pos (by omega), if_pos (by omega), order_is _ _ (by omega) _ (by omega), Option.bind_some, if_pos (by omega), hr]
  ·
   rw [wordbookref15_Errors.l0, if_pos (by omega)]
   exact hq
theorem errors_is {ws : List (List Int)} (hw : WsOk ws) (hs : sumUpto ws ws.length ≤ 4611686018427387904) : Ev fun q => wordbookref15_Errors.f q ws = some (checkL ws) := e_l0 hw hs _ 0 (Nat.zero_add _) rfl
theorem good_ws {ws : List (List Int)} (h : Good ws) : WsOk ws ∧ sumUpto ws ws.length ≤ 4611686018427387904 :=
  ⟨⟨by have := h.few; omega, fun v hv => by have := h.short v hv; omega⟩, by rw [sumUpto_is ws _ (Nat.le_refl _), List.take_length]; have := h.sum; omega⟩
theorem b_up {ws : List (List Int)} {q : Nat} {ps a i b c d e} (h : wordbookref15_Build.l0 q ws ps i a b c d = some e) : ∀ n, wordbookref15_Build.l0 (q + n) ws ps i a b c d = some e
  | 0 => h
  | n + 1 => (wordbookref15_Build.mono_l (q + n)).1 _ _ _ _ _ _ _ _ (b_up h n)
theorem build15_good {ws : List (List Int)} (h : Good ws) : ∃ q, wordbookref15_Build.f q ws = some (ws, (graphOf ws).map (·.f1), (graphOf ws).map (·.f2), (graphOf ws).map (·.f0), 0) := by
 obtain ⟨hw, hs⟩ := good_ws h
 obtain ⟨Q, hr, hi, _, _⟩ := graph_spec h
 have hsm := graphOf_small h
 have hres : resV ws ⟨(0 : Int), (ws.length : Int), (0 : Int)⟩ = ws := by
  show resP ws ((0 : Nat) : Int) (ws.length : Int) ((0 : Nat) : Int) = ws
  rw [resP_is, List.drop_zero, Nat.sub_zero, List.take_length, show (List.drop 0 : List Int → List Int) = id from funext fun l => List.drop_zero]
  exact List.map_id ws
 have hps : PsOk ws [⟨(0 : Int), (ws.length : Int), (0 : Int)⟩] := by
  intro p hp
  rw [List.mem_singleton.1 hp]
  refine ⟨⟨Int.le_refl _, Int.natCast_nonneg _, Int.le_refl _, Int.le_refl _, fun v hv => Int.natCast_nonneg _⟩, ?_⟩
  rw [hres]; exact h.sorted
 obtain ⟨q1, h1⟩ := b_l0 hw Q (graphOf ws) hi.len (by omega) _ [⟨(0 : Int), (ws.length : Int), (0 : Int)⟩] 0 [] (by rw [List.map_cons, hres]; exact hr) rfl (Nat.zero_le _) hps (by have := h.few; omega)
 obtain ⟨q2, h2⟩ := errors_is hw hs
 refine ⟨q1 + q2, ?_⟩
 unfold wordbookref15_Build.f
 rw [h2 (q1 + q2) (by omega), good_check h, Option.bind_some, if_pos rfl]
 exact b_up h1 q2
end Go.Proofs.Ytcdjeimjbbknjaa.PAll
