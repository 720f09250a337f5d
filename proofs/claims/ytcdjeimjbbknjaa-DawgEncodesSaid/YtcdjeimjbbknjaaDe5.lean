import Derived.Deep.CutBlock
import Derived.BigQuiet
import Derived.Deep.RegionHeld3
import Derived.Deep.AppendLies
import Derived.IntWalk
import Derived.Outline
import Derived.Test.YtcdjeimjbbknjaaDe4
namespace Go.Proofs.Ytcdjeimjbbknjaa.PAll
open Go.RowKit Go.Proofs.YtcdjeimjbbknjaaW.PrintWords Go.Proofs.YtcdjeimjbbknjaaW.PrintLast Go.Proofs.YtcdjeimjbbknjaaW.PrintMore Go.Proofs.Ytcdjeimjbbknjaa.Res
set_option linter.unusedVariables false
set_option linter.unusedSimpArgs false

theorem dgok {ns : List Nd} {Q : List (List (List Int))} (h : Inv ns Q) (hq : 0 < Q.length) : GOk ns := by
  have key : ∀ x ∈ ns, ∃ r ∈ Q, IsNd Q x r := by
    intro x hx
    obtain ⟨i, hi, rfl⟩ := List.getElem_of_mem hx
    refine ⟨rdP Q i, rdP_mem (by omega) (by rw [h.len]; omega), ?_⟩
    have := h.nds i hi
    rwa [rdN_get hi] at this
  refine ⟨fun x hx => ?_, fun x hx => ?_, fun x hx k hk => ?_, fun x hx => ?_, by rw [← h.len]; exact hq⟩
  · obtain ⟨r, hr, hn⟩ := key x hx; exact hn.inc (h.srt r hr)
  · obtain ⟨r, hr, hn⟩ := key x hx; exact hn.even
  · obtain ⟨r, hr, hn⟩ := key x hx; rw [← h.len]; exact hn.lead k hk
  · obtain ⟨r, hr, hn⟩ := key x hx
    have hi := hn.inc (h.srt r hr)
    have hs := syms_sym (h.srt r hr) (h.sym r hr)
    rw [← hn.syms] at hs
    have := inc_small hi hs
    omega
theorem dgraph {ws : List (List Int)} (h : Good ws) : ∃ Q, Inv (graphOf ws) Q ∧ 0 < (graphOf ws).length ∧ rdP Q 0 = ws ∧ GOk (graphOf ws) := by
  obtain ⟨Q, _, hi, hq, h0⟩ := graph_spec h
  exact ⟨Q, hi, by rw [← hi.len]; exact hq, h0, dgok hi hq⟩
theorem dcount {ws : List (List Int)} (h : Good ws) : (rdN (graphOf ws) 0).f3 = (ws.length : Int) := by
  obtain ⟨Q, hi, hl, h0, _⟩ := dgraph h
  have := (hi.nds 0 hl).count
  rw [show ((0 : Nat) : Int) = 0 from rfl, h0] at this
  exact this
/-- Every state's words are no more than all. -/
theorem toR_all (p : List (List Int) → Prop) : ∀ (rs P : List (List (List Int))) (ts : List Int), (∀ r ∈ rs, p r) → (∀ r ∈ P, p r) → ∀ r ∈ (toR rs P ts).1, p r
  | [], P, ts, _, hP => hP
  | r :: rs, P, ts, hr, hP => by
    rw [toR]
    refine toR_all p rs _ _ (fun x hx => hr x (List.mem_cons_of_mem _ hx)) fun x hx => ?_
    unfold addP at hx
    split at hx
    · exact hP x hx
    · rcases List.mem_append.1 hx with hx | hx
      · exact hP x hx
      · rw [List.mem_singleton.1 hx]; exact hr r List.mem_cons_self
theorem resG_all (p : List (List Int) → Prop) (hp : ∀ r, p r → ∀ g ∈ groups r, p g.2) : ∀ (f : Nat) (P : List (List (List Int))) (i : Nat) (G : List Nd), (∀ r ∈ P, p r) → ∀ r ∈ (resG f P i G).1, p r
  | 0, P, i, G, h => h
  | f + 1, P, i, G, h => by
    rw [resG]
    split
    · rename_i hi
      have hm : p (rdP P i) := h _ (rdP_mem (by omega) (by omega))
      refine resG_all p hp f _ _ _ (toR_all p _ _ _ (fun x hx => ?_) h)
      obtain ⟨g, hg, rfl⟩ := List.mem_map.1 hx
      exact hp _ hm g hg
    · exact h
theorem mem_sum {α : Type} (f : α → Nat) : ∀ {l : List α} {x : α}, x ∈ l → f x ≤ (l.map f).sum
  | y :: l, x, h => by
    rw [List.map_cons, List.sum_cons]
    rcases List.mem_cons.1 h with rfl | h
    · omega
    · have := mem_sum f h; omega
theorem dresid {ws : List (List Int)} (h : Good ws) : ∃ Q, Inv (graphOf ws) Q ∧ 0 < (graphOf ws).length ∧ rdP Q 0 = ws ∧ ∀ r ∈ Q, Srt r ∧ r.length ≤ ws.length := by
  obtain ⟨Q, e, hi, hq, h0⟩ := graph_spec h
  refine ⟨Q, hi, by rw [← hi.len]; exact hq, h0, ?_⟩
  have := resG_all (fun r => Srt r ∧ r.length ≤ ws.length) (fun r hr g hg => ⟨(groups_ok hr.1 g hg).1, by
    have h1 := res_length hr.1
    have h2 := mem_sum (fun g : Int × List (List Int) => g.2.length) hg
    have := hr.2
    omega⟩) ((nodesOf ws).2.length + 1) [ws] 0 [] (by intro r hr; rw [List.mem_singleton.1 hr]; exact ⟨h.sorted, Nat.le_refl _⟩)
  rwa [e] at this
theorem ints_l0 (l : List Int) (hi : ∀ x ∈ l, i64 x) (hl : l.length ≤ 1000000000) : ∀ (d i k : Nat) (out : List Int), i + d = l.length → d < k → out.length ≤ 9 * (i + 1) → wire_Ints.l0 k out l (l.length : Int) (i : Int) = some (out ++ intsB (l.drop i)) := by
  intro d
  induction d with
  | zero =>
    intro i k out hid hk ho
    obtain ⟨k, rfl⟩ : ∃ m, k = m + 1 := ⟨k - 1, by omega⟩
    rw [wire_Ints.l0, if_neg (by omega), List.drop_of_length_le (by omega)]; simp [intsB]
  | succ d ih =>
    intro i k out hid hk ho
    obtain ⟨k, rfl⟩ : ∃ m, k = m + 1 := ⟨k - 1, by omega⟩
    have hx := hi _ (rd_mem' (show i < l.length by omega))
    have hb : (intB (rd l (i : Int))).length ≤ 9 := by rw [intB_length]; have := lenD_le 8 (magI (rd l (i : Int))); omega
    have hf : wire_Int.f (rd l (i : Int)) = some (intB (rd l (i : Int))) := by unfold wire_Int.f; unfold i64 at hx; rw [if_pos hx]
    rw [wire_Ints.l0, if_pos (by omega), if_pos (by omega), if_pos (by omega), hf, Option.bind_some, if_pos (by omega), show wrap64 ((i : Int) + 1) = ((i + 1 : Nat) : Int) from by unfold wrap64; omega,
      ih (i + 1) k _ (by omega) (by omega) (by rw [List.length_append]; omega), rd_drop (show i < l.length by omega), intsB_cons, List.append_assoc]
theorem ints_is (l : List Int) (hi : ∀ x ∈ l, i64 x) (hl : l.length ≤ 1000000000) : wire_Ints.f (l.length + 2) l = some (listB l) := by
  unfold wire_Ints.f
  have hf : wire_Int.f (l.length : Int) = some (intB (l.length : Int)) := by unfold wire_Int.f; rw [if_pos (by omega)]
  have hb : (intB (l.length : Int)).length ≤ 9 := by rw [intB_length]; have := lenD_le 8 (magI (l.length : Int)); omega
  rw [hf, Option.bind_some, show (0 : Int) = ((0 : Nat) : Int) from rfl, ints_l0 l hi hl l.length 0 _ _ (by omega) (by omega) (by omega)]
  rfl
theorem dl_len {ws : List (List Int)} (h : Good ws) (g : Nat) (w : World) (hg : GraphAt w g (graphOf ws)) : Calls Try.prog 30 #[.pointer (some ⟨g, 0, none⟩)] w fun e w' => e = .returned (.int .i64 (ws.length : Int)) ∧ w = w' := by
  obtain ⟨Q, hi, hl, h0, _⟩ := dgraph h
  have := len_any g _ w hg hl
  rwa [show (rd_T102 (graphOf ws) 0).f3 = (ws.length : Int) from dcount h] at this
theorem dl_lenB {ws : List (List Int)} (h : Good ws) (g : Nat) (w : World) (hg : GraphAt w g (graphOf ws)) : Calls Try.prog 30 #[.pointer (some ⟨g, 0, none⟩)] w fun e w' => e = .returned (.int .i64 (ws.length : Int)) ∧ Below w.heap.size w w' := (dl_len h g w hg).mono fun e w' hh => ⟨hh.1, hh.2 ▸ Below.refl _ _⟩
theorem dl_statesB {ws : List (List Int)} (g : Nat) (w : World) (hg : GraphAt w g (graphOf ws)) : Calls Try.prog 42 #[.pointer (some ⟨g, 0, none⟩)] w fun e w' => e = .returned (.int .i64 ((graphOf ws).length : Int)) ∧ Below w.heap.size w w' := (states_any g _ w hg).mono fun e w' hh => ⟨hh.1, hh.2 ▸ Below.refl _ _⟩
theorem dl_index {ws : List (List Int)} (h : Good ws) (g : Nat) (A0 : Option Addr) (c0 : Nat) (wl : List Int) (w : World) (hg : GraphAt w g (graphOf ws)) (hw : Kd.C (Kd.int .i64) w A0 wl.length wl) (hc : wl.length ≤ c0) :
    Calls Try.prog 22 #[.pointer (some ⟨g, 0, none⟩), .slice A0 wl.length c0] w fun e w' => e = .returned (.tuple #[.int .i64 (if wl ∈ ws then (lessL ws wl : Int) else 0), .bool (decide (wl ∈ ws))]) ∧ Below w.heap.size w w' := by
  obtain ⟨Q, hi, hl, h0, hk⟩ := dgraph h
  have := index_any g _ A0 c0 wl w hg hk hw hc
  rw [index_tells hi hl (by rw [h0]; have := h.few; omega), h0] at this
  by_cases hm : wl ∈ ws
  · rw [if_pos hm] at this
    rw [if_pos hm, decide_eq_true hm]
    exact this
  · rw [if_neg hm] at this
    rw [if_neg hm, decide_eq_false hm]
    exact this
theorem dl_begins {ws : List (List Int)} (h : Good ws) (g : Nat) (A0 : Option Addr) (c0 : Nat) (wl : List Int) (w : World) (hg : GraphAt w g (graphOf ws)) (hw : Kd.C (Kd.int .i64) w A0 wl.length wl) (hc : wl.length ≤ c0) :
    Calls Try.prog 24 #[.pointer (some ⟨g, 0, none⟩), .slice A0 wl.length c0] w fun e w' => e = .returned (.tuple #[.int .i64 (lessL ws wl : Int), .int .i64 ((lessL ws wl : Int) + ((resW ws wl).length : Int))]) ∧ Below w.heap.size w w' := by
  obtain ⟨Q, hi, hl, h0, hk⟩ := dgraph h
  have := begins_any g _ A0 c0 wl w hg hk hw hc
  rwa [begins_tells hi hl (by rw [h0]; have := h.few; omega), h0] at this
theorem dl_word {ws : List (List Int)} (h : Good ws) (g : Nat) (i : Nat) (hi : i < ws.length) (w : World) (hg : GraphAt w g (graphOf ws)) :
    Calls Try.prog 26 #[.pointer (some ⟨g, 0, none⟩), .int .i64 (i : Int)] w fun e w' => ∃ A c, e = .returned (.tuple #[.slice A (rdR ws (i : Int)).length c, .bool true]) ∧ (rdR ws (i : Int)).length ≤ c ∧ Kd.C (Kd.int .i64) w' A (rdR ws (i : Int)).length (rdR ws (i : Int)) ∧ Below w.heap.size w w' := by
  obtain ⟨Q, hI, hl, h0, hs⟩ := dresid h
  have hr : (rdP Q 0).getD i [] = rdR ws (i : Int) := by rw [h0, rdR_nat]
  refine (word_any hI hl (fun r hr => by have := (hs r hr).2; have := h.few; omega) g i (by rw [h0]; exact hi) _ hr (by rw [rdR_get hi]; have := h.short _ (List.getElem_mem hi); omega) w hg).mono ?_
  rintro e w' ⟨v, rfl, hR, hb⟩
  obtain ⟨A, c, rfl, hl, hC⟩ := Kd.R_reads hR
  exact ⟨A, c, rfl, hl, hC, hb⟩
theorem dl_encode {ws : List (List Int)} (h : Good ws) (g : Nat) (w : World) (hg : GraphAt w g (graphOf ws)) :
    Calls Try.prog 35 #[.pointer (some ⟨g, 0, none⟩)] w fun e w' => ∃ A c, e = .returned (.slice A (listB (listN (graphOf ws))).length c) ∧ (listB (listN (graphOf ws))).length ≤ c ∧ Kd.C (Kd.int .u8) w' A (listB (listN (graphOf ws))).length (listB (listN (graphOf ws))) ∧ Below w.heap.size w w' := by
  obtain ⟨g1, g2, g3, g4, g5⟩ := graph_list h
  have HL := Aside0.mk (list_any g _ w hg g2 (by omega))
  have HI := Aside0.mk (ints_is _ g5 (by omega))
  generalize listN (graphOf ws) = l at *
  have hl : l.length ≤ 8600000 := g4
  clear g1 g2 g3 g4 g5 hg
  go_enter Try.func35, Try.ntmps35
  go_wp2_with (first | (go_at_call 78; refine HL.out.mono ?_; rintro e w1 ⟨v, rfl, hR1, hb1⟩; obtain ⟨A1, c1, rfl, hc1, hC1⟩ := Kd.R_reads hR1; have HC1 := Aside0.mk hC1; have HB1 := Aside0.mk hb1; clear hR1 hC1 hb1) | (go_at_call 77; refine (wire_Ints.calls (l.length + 2) A1 c1 l (listB l) w1 HC1.out hc1 HI.out).mono ?_; rintro e w2 ⟨v2, rfl, hR2, hb2⟩; obtain ⟨A2, c2, rfl, hc2, hC2⟩ := Kd.R_reads hR2; have HC2 := Aside0.mk hC2; have HB2 := Aside0.mk (HB1.out.trans (hb2.mono HB1.out.size)); clear hR2 hC2 hb2))
  go_ret
  exact ⟨_, _, rfl, hc2, HC2.out, HB2.out⟩
end Go.Proofs.Ytcdjeimjbbknjaa.PAll
namespace Go.Proofs.Ytcdjeimjbbknjaa.PAll
open Go.RowKit Go.Proofs.YtcdjeimjbbknjaaW.PrintWords Go.Proofs.YtcdjeimjbbknjaaW.PrintLast Go.Proofs.YtcdjeimjbbknjaaW.PrintMore Go.Proofs.Ytcdjeimjbbknjaa.Res
set_option linter.unusedVariables false
set_option linter.unusedSimpArgs false

def l15W : List (List Int) := [[0], [0, 1], [2, 1]]
def l15L : List Int := [4, 4, 0, 1, 2, 2, 3, 1, 3, 2, 1, 3, 1]
theorem l15_good : Good l15W := by
  refine ⟨?_, ?_, ?_, ?_, ?_⟩ <;> decide
theorem l15_list : listN (graphOf l15W) = l15L := by kernel_rfl
theorem l15_states : (graphOf l15W).length = 4 := by kernel_rfl
theorem l15_bytes : wordbookref01_Ints.f 20 l15L = some (listB l15L) := by kernel_rfl
theorem l15_byt : byt (listB l15L) ∧ (listB l15L).length ≤ 1000 := by
  refine ⟨listB_byt ?_ (by decide), of_decide_eq_true (by kernel_rfl)⟩
  rw [← l15_list]; exact (graph_list l15_good).2.2.2.2
theorem l15_dec : decN (listB l15L) = (l15W, 0) := by rw [← l15_list]; exact decN_listB l15_good
theorem l15_build (w : World) : Calls Try.prog 19 #[.slice (some ⟨w.heap.size + 1 + 1 + 1, 0, none⟩) 3 3]
    ((((w.alloc (.cells #[.int .i64 0] 3)).alloc (.cells #[.int .i64 0, .int .i64 1] 3)).alloc (.cells #[.int .i64 2, .int .i64 1] 3)).alloc (.cells #[.slice (some ⟨w.heap.size, 0, none⟩) 1 1, .slice (some ⟨w.heap.size + 1, 0, none⟩) 2 2, .slice (some ⟨w.heap.size + 1 + 1, 0, none⟩) 2 2] 22))
    fun e w' => ∃ g, e = .returned (.tuple #[.pointer (some ⟨g, 0, none⟩), .int .i64 0]) ∧ GraphAt w' g (graphOf l15W) ∧ Below w.heap.size w w' := by
  have s1 : (w.alloc (.cells #[.int .i64 0] 3)).heap.size = w.heap.size + 1 := by simp
  have s2 : ((w.alloc (.cells #[.int .i64 0] 3)).alloc (.cells #[.int .i64 0, .int .i64 1] 3)).heap.size = w.heap.size + 1 + 1 := by simp
  have s3 : (((w.alloc (.cells #[.int .i64 0] 3)).alloc (.cells #[.int .i64 0, .int .i64 1] 3)).alloc (.cells #[.int .i64 2, .int .i64 1] 3)).heap.size = w.heap.size + 1 + 1 + 1 := by simp
  have b0 : (((w.alloc (.cells #[.int .i64 0] 3)).alloc (.cells #[.int .i64 0, .int .i64 1] 3)).alloc (.cells #[.int .i64 2, .int .i64 1] 3)).heap[w.heap.size]? = some (.cells #[.int .i64 0] 3 (0, 0)) := blk_alloc (blk_alloc (blk_new _ _) _) _
  have b1 : (((w.alloc (.cells #[.int .i64 0] 3)).alloc (.cells #[.int .i64 0, .int .i64 1] 3)).alloc (.cells #[.int .i64 2, .int .i64 1] 3)).heap[w.heap.size + 1]? = some (.cells #[.int .i64 0, .int .i64 1] 3 (0, 0)) := by rw [← s1]; exact blk_alloc (blk_new _ _) _
  have b2 : (((w.alloc (.cells #[.int .i64 0] 3)).alloc (.cells #[.int .i64 0, .int .i64 1] 3)).alloc (.cells #[.int .i64 2, .int .i64 1] 3)).heap[w.heap.size + 1 + 1]? = some (.cells #[.int .i64 2, .int .i64 1] 3 (0, 0)) := by rw [← s2]; exact blk_new _ _
  have hB : Below w.heap.size w (((w.alloc (.cells #[.int .i64 0] 3)).alloc (.cells #[.int .i64 0, .int .i64 1] 3)).alloc (.cells #[.int .i64 2, .int .i64 1] 3)) := below_alloc (below_alloc (below_alloc (Below.refl _ w) _) _ |>.mono (by simp)) _ |>.mono (by simp)
  generalize ((w.alloc (.cells #[.int .i64 0] 3)).alloc (.cells #[.int .i64 0, .int .i64 1] 3)).alloc (.cells #[.int .i64 2, .int .i64 1] 3) = W4 at *
  rw [← s3]
  have c0 : Kd.C (Kd.int .i64) (W4.alloc (.cells #[.slice (some ⟨w.heap.size, 0, none⟩) 1 1, .slice (some ⟨w.heap.size + 1, 0, none⟩) 2 2, .slice (some ⟨w.heap.size + 1 + 1, 0, none⟩) 2 2] 22)) (some ⟨w.heap.size, 0, none⟩) 1 [0] := cb_ints (xs := [0]) (blk_alloc b0 _) (by decide)
  have c1 : Kd.C (Kd.int .i64) (W4.alloc (.cells #[.slice (some ⟨w.heap.size, 0, none⟩) 1 1, .slice (some ⟨w.heap.size + 1, 0, none⟩) 2 2, .slice (some ⟨w.heap.size + 1 + 1, 0, none⟩) 2 2] 22)) (some ⟨w.heap.size + 1, 0, none⟩) 2 [0, 1] := cb_ints (xs := [0, 1]) (blk_alloc b1 _) (by decide)
  have c2 : Kd.C (Kd.int .i64) (W4.alloc (.cells #[.slice (some ⟨w.heap.size, 0, none⟩) 1 1, .slice (some ⟨w.heap.size + 1, 0, none⟩) 2 2, .slice (some ⟨w.heap.size + 1 + 1, 0, none⟩) 2 2] 22)) (some ⟨w.heap.size + 1 + 1, 0, none⟩) 2 [2, 1] := cb_ints (xs := [2, 1]) (blk_alloc b2 _) (by decide)
  have bb := blk_new W4 (.cells #[.slice (some ⟨w.heap.size, 0, none⟩) 1 1, .slice (some ⟨w.heap.size + 1, 0, none⟩) 2 2, .slice (some ⟨w.heap.size + 1 + 1, 0, none⟩) 2 2] 22)
  have hB2 : Below w.heap.size w (W4.alloc (.cells #[.slice (some ⟨w.heap.size, 0, none⟩) 1 1, .slice (some ⟨w.heap.size + 1, 0, none⟩) 2 2, .slice (some ⟨w.heap.size + 1 + 1, 0, none⟩) 2 2] 22)) := below_alloc hB _
  generalize W4.alloc (.cells #[.slice (some ⟨w.heap.size, 0, none⟩) 1 1, .slice (some ⟨w.heap.size + 1, 0, none⟩) 2 2, .slice (some ⟨w.heap.size + 1 + 1, 0, none⟩) 2 2] 22) = W5 at *
  have hr : Reps ((Kd.slice 3 (Kd.int .i64)).K W5) 1 l15W [.slice (some ⟨w.heap.size, 0, none⟩) 1 1, .slice (some ⟨w.heap.size + 1, 0, none⟩) 2 2, .slice (some ⟨w.heap.size + 1 + 1, 0, none⟩) 2 2] :=
    (((Reps.none _ _).snoc (p := [0]) (c := [.slice (some ⟨w.heap.size, 0, none⟩) 1 1]) ⟨_, _, rfl, Nat.le_refl _, c0⟩ rfl).snoc (p := [0, 1]) (c := [.slice (some ⟨w.heap.size + 1, 0, none⟩) 2 2]) ⟨_, _, rfl, Nat.le_refl _, c1⟩ rfl).snoc (p := [2, 1]) (c := [.slice (some ⟨w.heap.size + 1 + 1, 0, none⟩) 2 2]) ⟨_, _, rfl, Nat.le_refl _, c2⟩ rfl
  have hC : Kd.C (Kd.slice 3 (Kd.int .i64)) W5 (some ⟨W4.heap.size, 0, none⟩) l15W.length l15W := cb_block bb hr (by decide)
  refine (build_good _ 3 l15W W5 hC (by decide) l15_good).mono ?_
  rintro e w' ⟨g, rfl, hg, hb, _⟩
  exact ⟨g, rfl, hg, hB2.trans (hb.mono hB2.size)⟩
theorem l15_ints (W : World) : Calls Try.prog 39 #[.slice (some ⟨W.heap.size, 0, none⟩) 13 13] (W.alloc (.cells #[.int .i64 4, .int .i64 4, .int .i64 0, .int .i64 1, .int .i64 2, .int .i64 2, .int .i64 3, .int .i64 1, .int .i64 3, .int .i64 2, .int .i64 1, .int .i64 3, .int .i64 1] 3))
    fun e w' => ∃ A c, e = .returned (.slice A (listB l15L).length c) ∧ (listB l15L).length ≤ c ∧ Kd.C (Kd.int .u8) w' A (listB l15L).length (listB l15L) ∧ Below W.heap.size W w' := by
  have hb := below_alloc (Below.refl W.heap.size W) (.cells (encs (Value.int .i64) l15L).toArray 3)
  refine (wordbookref01_Ints.calls 20 _ 13 l15L (listB l15L) _ (cb_new W l15L (by decide)) (by decide) l15_bytes).mono ?_
  rintro e w' ⟨v, rfl, hR, hb2⟩
  obtain ⟨A, c, rfl, hl, hC⟩ := Kd.R_reads hR
  exact ⟨A, c, rfl, hl, hC, hb.trans (hb2.mono hb.size)⟩
theorem l15_decode (A : Option Addr) (c : Nat) (W : World) (hC : Kd.C (Kd.int .u8) W A (listB l15L).length (listB l15L)) (hc : (listB l15L).length ≤ c) :
    Calls Try.prog 36 #[.slice A (listB l15L).length c] W fun e w' => ∃ g, e = .returned (.tuple #[.pointer (some ⟨g, 0, none⟩), .int .i64 0]) ∧ GraphAt w' g (graphOf l15W) ∧ Below W.heap.size W w' := by
  refine (decode_any A c _ W hC hc l15_byt.1 (by have := l15_byt.2; omega)).mono ?_
  rintro e w' ⟨hb, h⟩
  rw [l15_dec] at h
  rcases h with ⟨_, g, rfl, hg⟩ | ⟨h, _⟩
  · exact ⟨g, rfl, hg, hb⟩
  · exact absurd rfl h
theorem l15_index (W : World) (g : Nat) (hg : GraphAt W g (graphOf l15W)) (xs : List Int) (hx : xs.length ≤ 1000) (i : Int) (b : Bool) (hi : (if xs ∈ l15W then (lessL l15W xs : Int) else 0) = i) (hb : decide (xs ∈ l15W) = b) :
    Calls Try.prog 22 #[.pointer (some ⟨g, 0, none⟩), .slice (some ⟨W.heap.size, 0, none⟩) xs.length xs.length] (W.alloc (.cells (encs (Value.int .i64) xs).toArray 3)) fun e w' => e = .returned (.tuple #[.int .i64 i, .bool b]) ∧ Below W.heap.size W w' := by
  have h0 := below_alloc (Below.refl W.heap.size W) (.cells (encs (Value.int .i64) xs).toArray 3)
  refine (dl_index l15_good g _ _ xs _ (hg.below h0) (cb_new W xs (by omega)) (Nat.le_refl _)).mono ?_
  rintro e w' ⟨rfl, h1⟩
  exact ⟨by rw [hi, hb], h0.trans (h1.mono h0.size)⟩
theorem l15_begins (W : World) (g : Nat) (hg : GraphAt W g (graphOf l15W)) (xs : List Int) (hx : xs.length ≤ 1000) (i j : Int) (hi : (lessL l15W xs : Int) = i) (hj : (lessL l15W xs : Int) + ((resW l15W xs).length : Int) = j) :
    Calls Try.prog 24 #[.pointer (some ⟨g, 0, none⟩), .slice (some ⟨W.heap.size, 0, none⟩) xs.length xs.length] (W.alloc (.cells (encs (Value.int .i64) xs).toArray 3)) fun e w' => e = .returned (.tuple #[.int .i64 i, .int .i64 j]) ∧ Below W.heap.size W w' := by
  have h0 := below_alloc (Below.refl W.heap.size W) (.cells (encs (Value.int .i64) xs).toArray 3)
  refine (dl_begins l15_good g _ _ xs _ (hg.below h0) (cb_new W xs (by omega)) (Nat.le_refl _)).mono ?_
  rintro e w' ⟨rfl, h1⟩
  exact ⟨by rw [hj, hi], h0.trans (h1.mono h0.size)⟩
theorem l15_i1 (W : World) (g : Nat) (hg : GraphAt W g (graphOf l15W)) : Calls Try.prog 22 #[.pointer (some ⟨g, 0, none⟩), .slice (some ⟨W.heap.size, 0, none⟩) 2 2] (W.alloc (.cells #[.int .i64 2, .int .i64 1] 3)) fun e w' => e = .returned (.tuple #[.int .i64 2, .bool true]) ∧ Below W.heap.size W w' := l15_index W g hg [2, 1] (by decide) 2 true (by kernel_rfl) (by kernel_rfl)
theorem l15_i2 (W : World) (g : Nat) (hg : GraphAt W g (graphOf l15W)) : Calls Try.prog 22 #[.pointer (some ⟨g, 0, none⟩), .slice (some ⟨W.heap.size, 0, none⟩) 1 1] (W.alloc (.cells #[.int .i64 2] 3)) fun e w' => e = .returned (.tuple #[.int .i64 0, .bool false]) ∧ Below W.heap.size W w' := l15_index W g hg [2] (by decide) 0 false (by kernel_rfl) (by kernel_rfl)
theorem l15_b1 (W : World) (g : Nat) (hg : GraphAt W g (graphOf l15W)) : Calls Try.prog 24 #[.pointer (some ⟨g, 0, none⟩), .slice (some ⟨W.heap.size, 0, none⟩) 1 1] (W.alloc (.cells #[.int .i64 0] 3)) fun e w' => e = .returned (.tuple #[.int .i64 0, .int .i64 2]) ∧ Below W.heap.size W w' := l15_begins W g hg [0] (by decide) 0 2 (by kernel_rfl) (by kernel_rfl)
theorem l15_b2 (W : World) (g : Nat) (hg : GraphAt W g (graphOf l15W)) : Calls Try.prog 24 #[.pointer (some ⟨g, 0, none⟩), .slice (some ⟨W.heap.size, 0, none⟩) 1 1] (W.alloc (.cells #[.int .i64 2] 3)) fun e w' => e = .returned (.tuple #[.int .i64 2, .int .i64 3]) ∧ Below W.heap.size W w' := l15_begins W g hg [2] (by decide) 2 3 (by kernel_rfl) (by kernel_rfl)
theorem l15_b3 (W : World) (g : Nat) (hg : GraphAt W g (graphOf l15W)) : Calls Try.prog 24 #[.pointer (some ⟨g, 0, none⟩), .slice (some ⟨W.heap.size, 0, none⟩) 1 1] (W.alloc (.cells #[.int .i64 1] 3)) fun e w' => e = .returned (.tuple #[.int .i64 2, .int .i64 2]) ∧ Below W.heap.size W w' := l15_begins W g hg [1] (by decide) 2 2 (by kernel_rfl) (by kernel_rfl)
theorem l15_b4 (W : World) (g : Nat) (hg : GraphAt W g (graphOf l15W)) : Calls Try.prog 24 #[.pointer (some ⟨g, 0, none⟩), .slice none 0 0] W fun e w' => e = .returned (.tuple #[.int .i64 0, .int .i64 3]) ∧ Below W.heap.size W w' := by
  have := dl_begins l15_good g none 0 [] W hg (Kd.C_nil _ _) (Nat.le_refl _)
  exact this
theorem l15_w1 (W : World) (g : Nat) (hg : GraphAt W g (graphOf l15W)) : Calls Try.prog 26 #[.pointer (some ⟨g, 0, none⟩), .int .i64 1] W fun e w' => ∃ A c, e = .returned (.tuple #[.slice A 2 c, .bool true]) ∧ 2 ≤ c ∧ Kd.C (Kd.int .i64) w' A 2 [0, 1] ∧ Below W.heap.size W w' := dl_word l15_good g 1 (by decide) W hg
theorem l15_same (W W' : World) (A : Option Addr) (c : Nat) (hc : 2 ≤ c) (hC : Kd.C (Kd.int .i64) W A 2 [0, 1]) : Calls Try.prog 27 #[.slice A 2 c, .slice (some ⟨W.heap.size, 0, none⟩) 2 2] (W.alloc (.cells #[.int .i64 0, .int .i64 1] 3)) fun e w' => e = .returned (.bool true) ∧ Below W.heap.size W w' := by
  have h0 := below_alloc (Below.refl W.heap.size W) (.cells #[.int .i64 0, .int .i64 1] 3)
  refine (wordbookref01_SameInts.calls 10 A c [0, 1] _ 2 [0, 1] true _ (Kd.C_below hC h0) hc (cb_new W [0, 1] (by decide)) (by decide) (by rw [sameInts_is _ _ (by decide) _ (by decide)]; rfl)).mono ?_
  rintro e w' ⟨rfl, hd⟩
  exact ⟨rfl, h0.trans (hd.below.mono h0.size)⟩
end Go.Proofs.Ytcdjeimjbbknjaa.PAll
namespace Go.Proofs.Ytcdjeimjbbknjaa.PAll
open Go.RowKit Go.Proofs.YtcdjeimjbbknjaaW.PrintWords Go.Proofs.YtcdjeimjbbknjaaW.PrintLast Go.Proofs.YtcdjeimjbbknjaaW.PrintMore Go.Proofs.Ytcdjeimjbbknjaa.Res
set_option linter.unusedVariables false
set_option linter.unusedSimpArgs false

theorem l15_len (W : World) (g : Nat) (hg : GraphAt W g (graphOf l15W)) : Calls Try.prog 30 #[.pointer (some ⟨g, 0, none⟩)] W fun e w' => e = .returned (.int .i64 3) ∧ Below W.heap.size W w' := dl_lenB l15_good g W hg
theorem l15_st (W : World) (g : Nat) (hg : GraphAt W g (graphOf l15W)) : Calls Try.prog 42 #[.pointer (some ⟨g, 0, none⟩)] W fun e w' => e = .returned (.int .i64 4) ∧ Below W.heap.size W w' := by
  have := dl_statesB (ws := l15W) g W hg
  rwa [l15_states] at this
set_option maxHeartbeats 8000000 in
set_option maxRecDepth 100000 in
theorem lives15 (w : World) : Calls Try.prog 28 #[] w fun e w' => e = .returned (.bool true) ∧ Below w.heap.size w w' := by
  go_enter Try.func28, Try.ntmps28
  go_wp2_with (first
    | (go_at_call 19; ((with_reducible refine (l15_build w).mono ?_); rintro e w1 ⟨g, rfl, hG1, hb1⟩; have HG1 := Aside0.mk (hG1); have HB1 := Aside0.mk (hb1); clear hb1 hG1))
    | (go_at_call 39; ((with_reducible refine (l15_ints _).mono ?_); rintro e w2 ⟨Ab, cb, rfl, hlb, hC2, hb2⟩; have HG2 := Aside0.mk (GraphAt.below HG1.out hb2); clear HG1; have HB2 := Aside0.mk (HB1.out.trans (hb2.mono HB1.out.size)); clear HB1; have Hb2 := Aside0.mk (hC2); clear hb2 hC2))
    | (go_at_call 36; ((with_reducible refine (l15_decode Ab cb _ Hb2.out hlb).mono ?_); rintro e w3 ⟨h, rfl, hG3, hb3⟩; have HG3 := Aside0.mk (GraphAt.below HG2.out hb3); clear HG2; have HB3 := Aside0.mk (HB2.out.trans (hb3.mono HB2.out.size)); clear HB2; clear Hb2; have HH3 := Aside0.mk (hG3); clear hb3 hG3))
    | (go_at_call 22; ((with_reducible refine (l15_i1 _ g HG3.out).mono ?_); rintro e w4 ⟨rfl, hb4⟩; have HG4 := Aside0.mk (GraphAt.below HG3.out hb4); clear HG3; have HB4 := Aside0.mk (HB3.out.trans (hb4.mono HB3.out.size)); clear HB3; have HH4 := Aside0.mk (GraphAt.below HH3.out hb4); clear HH3; clear hb4))
    | (go_at_call 22; ((with_reducible refine (l15_i2 _ g HG4.out).mono ?_); rintro e w5 ⟨rfl, hb5⟩; have HG5 := Aside0.mk (GraphAt.below HG4.out hb5); clear HG4; have HB5 := Aside0.mk (HB4.out.trans (hb5.mono HB4.out.size)); clear HB4; have HH5 := Aside0.mk (GraphAt.below HH4.out hb5); clear HH4; clear hb5))
    | (go_at_call 26; ((with_reducible refine (l15_w1 _ h HH5.out).mono ?_); rintro e w6 ⟨Aw, cw, rfl, hlw, hC6, hb6⟩; have HG6 := Aside0.mk (GraphAt.below HG5.out hb6); clear HG5; have HB6 := Aside0.mk (HB5.out.trans (hb6.mono HB5.out.size)); clear HB5; have HH6 := Aside0.mk (GraphAt.below HH5.out hb6); clear HH5; have HW6 := Aside0.mk (hC6); clear hb6 hC6))
    | (go_at_call 24; ((with_reducible refine (l15_b1 _ g HG6.out).mono ?_); rintro e w7 ⟨rfl, hb7⟩; have HG7 := Aside0.mk (GraphAt.below HG6.out hb7); clear HG6; have HB7 := Aside0.mk (HB6.out.trans (hb7.mono HB6.out.size)); clear HB6; have HH7 := Aside0.mk (GraphAt.below HH6.out hb7); clear HH6; have HW7 := Aside0.mk (Kd.C_below HW6.out hb7); clear HW6; clear hb7))
    | (go_at_call 24; ((with_reducible refine (l15_b2 _ g HG7.out).mono ?_); rintro e w8 ⟨rfl, hb8⟩; have HG8 := Aside0.mk (GraphAt.below HG7.out hb8); clear HG7; have HB8 := Aside0.mk (HB7.out.trans (hb8.mono HB7.out.size)); clear HB7; have HH8 := Aside0.mk (GraphAt.below HH7.out hb8); clear HH7; have HW8 := Aside0.mk (Kd.C_below HW7.out hb8); clear HW7; clear hb8))
    | (go_at_call 24; ((with_reducible refine (l15_b3 _ g HG8.out).mono ?_); rintro e w9 ⟨rfl, hb9⟩; have HG9 := Aside0.mk (GraphAt.below HG8.out hb9); clear HG8; have HB9 := Aside0.mk (HB8.out.trans (hb9.mono HB8.out.size)); clear HB8; have HH9 := Aside0.mk (GraphAt.below HH8.out hb9); clear HH8; have HW9 := Aside0.mk (Kd.C_below HW8.out hb9); clear HW8; clear hb9))
    | (go_at_call 24; ((with_reducible refine (l15_b4 _ g HG9.out).mono ?_); rintro e w10 ⟨rfl, hb10⟩; have HG10 := Aside0.mk (GraphAt.below HG9.out hb10); clear HG9; have HB10 := Aside0.mk (HB9.out.trans (hb10.mono HB9.out.size)); clear HB9; have HH10 := Aside0.mk (GraphAt.below HH9.out hb10); clear HH9; have HW10 := Aside0.mk (Kd.C_below HW9.out hb10); clear HW9; clear hb10))
    | (go_at_call 30; ((with_reducible refine (l15_len _ g HG10.out).mono ?_); rintro e w11 ⟨rfl, hb11⟩; have HG11 := Aside0.mk (GraphAt.below HG10.out hb11); clear HG10; have HB11 := Aside0.mk (HB10.out.trans (hb11.mono HB10.out.size)); clear HB10; have HH11 := Aside0.mk (GraphAt.below HH10.out hb11); clear HH10; have HW11 := Aside0.mk (Kd.C_below HW10.out hb11); clear HW10; clear hb11))
    | (go_at_call 42; ((with_reducible refine (l15_st _ g HG11.out).mono ?_); rintro e w12 ⟨rfl, hb12⟩; have HG12 := Aside0.mk (GraphAt.below HG11.out hb12); clear HG11; have HB12 := Aside0.mk (HB11.out.trans (hb12.mono HB11.out.size)); clear HB11; have HH12 := Aside0.mk (GraphAt.below HH11.out hb12); clear HH11; have HW12 := Aside0.mk (Kd.C_below HW11.out hb12); clear HW11; clear hb12))
    | (go_at_call 42; ((with_reducible refine (l15_st _ h HH12.out).mono ?_); rintro e w13 ⟨rfl, hb13⟩; have HG13 := Aside0.mk (GraphAt.below HG12.out hb13); clear HG12; have HB13 := Aside0.mk (HB12.out.trans (hb13.mono HB12.out.size)); clear HB12; have HH13 := Aside0.mk (GraphAt.below HH12.out hb13); clear HH12; have HW13 := Aside0.mk (Kd.C_below HW12.out hb13); clear HW12; clear hb13))
    | (go_at_call 27; ((with_reducible refine (l15_same _ w Aw cw hlw HW13.out).mono ?_); rintro e w14 ⟨rfl, hb14⟩; have HG14 := Aside0.mk (GraphAt.below HG13.out hb14); clear HG13; have HB14 := Aside0.mk (HB13.out.trans (hb14.mono HB13.out.size)); clear HB13; have HH14 := Aside0.mk (GraphAt.below HH13.out hb14); clear HH13; clear HW13; clear hb14))
    | fail)
  go_ret
  exact ⟨rfl, HB14.out⟩
end Go.Proofs.Ytcdjeimjbbknjaa.PAll
namespace Go.Proofs.Ytcdjeimjbbknjaa.PAll
open Go.RowKit Go.Proofs.YtcdjeimjbbknjaaW.PrintWords Go.Proofs.YtcdjeimjbbknjaaW.PrintLast Go.Proofs.YtcdjeimjbbknjaaW.PrintMore Go.Proofs.Ytcdjeimjbbknjaa.Lev
set_option linter.unusedVariables false
set_option linter.unusedSimpArgs false

/-- 'xs[m:]' of a slice that is read. -/
theorem cut_drop {k : IntKind} {t e : TypeId} {b : Nat} (ht : Try.prog.underlying t = some (.slice e)) (hinfo : (Try.prog.info? e).map (fun i => (i.zero, i.size, i.bytes)) = some (some (Value.int k 0), 1, b)) (A : Option Addr) (c : Nat) (xs : List Int) (m : Nat) (hm : m ≤ xs.length) (hc : xs.length ≤ c) :
    ∃ A' : Option Addr, (∀ W : World, (Instr.slice t (.slice A xs.length c) (some (.int .i64 (m : Int))) none none).run Try.prog W = .ok (.slice A' (xs.length - m) (c - m)) W) ∧ (∀ w : World, Kd.C (Kd.int k) w A xs.length xs → Kd.C (Kd.int k) w A' (xs.length - m) (xs.drop m)) ∧ xs.length - m ≤ c - m := by
  obtain ⟨i0, hi, _, hsz, _⟩ := info_parts hinfo
  obtain ⟨A', hcut, hA, hC⟩ := print_drop_of (P := Try.prog) (Value.int k) 0 t e .i64 ht hi hsz A c xs (m : Int) (by omega) (by omega) hc
  have hl : (xs.drop (m : Int).toNat).length = xs.length - m := by rw [List.length_drop]; omega
  rw [hl] at hcut hA
  exact ⟨A', by simpa using hcut, fun w h => by have h2 : (Kd.int k).C w A' (xs.length - m) (xs.drop (m : Int).toNat) := Kd.C_of_reads (hA w (Kd.reads_of_C h)); rwa [Int.toNat_natCast] at h2, by omega⟩

def around (n most : Int) : Int := Int.tmod (if n < 0 then -(n + 1) else n) most
theorem around_is (n most : Int) (h0 : 0 < most) (hn : -9223372036854775808 ≤ n ∧ n ≤ 9223372036854775807) : wordbookref01_Around.f n most = some (around n most) := by
  unfold wordbookref01_Around.f around
  by_cases h : n < 0
  · rw [if_pos h, if_neg (by omega), if_pos h]
    have e1 : wrap64 (n + 1) = n + 1 := by unfold wrap64; omega
    have e2 : wrap64 (-(n + 1)) = -(n + 1) := by unfold wrap64; omega
    rw [e1, e2]
  · rw [if_neg h, if_neg (by omega), if_neg h]
theorem around_range (n most : Int) (h0 : 0 < most) : 0 ≤ around n most ∧ around n most < most := by
  unfold around
  have h : 0 ≤ (if n < 0 then -(n + 1) else n) := by split <;> omega
  generalize (if n < 0 then -(n + 1) else n) = q at *
  rw [Int.tmod_eq_emod_of_nonneg h]
  exact ⟨Int.emod_nonneg _ (by omega), Int.emod_lt_of_pos _ h0⟩
theorem around_calls (n most : Int) (w : World) (h0 : 0 < most) (hn : -9223372036854775808 ≤ n ∧ n ≤ 9223372036854775807) :
    Calls Try.prog 18 #[.int .i64 n, .int .i64 most] w fun e w' => e = .returned (.int .i64 (around n most)) ∧ Drawn0 w w' :=
  wordbookref01_Around.calls n most _ w (around_is n most h0 hn)

def edited (w : List Int) (kind at_ x : Int) : List Int :=
  if kind = 0 then put_ w (around at_ (w.length + 1)).toNat x
  else if w.length = 0 then [] else if kind = 2 then set_ w (around at_ w.length).toNat x else cut_ w (around at_ w.length).toNat
def editOk (l0 : List Int) (a2 : Int) : Prop := l0.length ≤ 1000000000000 ∧ -9223372036854775808 ≤ a2 ∧ a2 ≤ 9223372036854775807
instance (l0 : List Int) (a2 : Int) : Decidable (editOk l0 a2) := by unfold editOk; infer_instance
def wordbookref16_Edited.f (l0 : List Int) (a1 : Int) (a2 : Int) (a3 : Int) : Option (List Int) := if editOk l0 a2 then some (edited l0 a1 a2 a3) else none
set_option maxHeartbeats 4000000 in
set_option maxRecDepth 100000 in
theorem edited_put (A0 : Option Addr) (c0 : Nat) (l0 : List Int) (a2 a3 : Int) (w : World) (hr0 : Kd.C (Kd.int .i64) w A0 l0.length l0) (hc0 : l0.length ≤ c0) (hok : editOk l0 a2) :
    Calls Try.prog 59 #[.slice A0 l0.length c0, .int .i64 0, .int .i64 a2, .int .i64 a3] w fun e w' => ∃ v0_ : Value, e = .returned (v0_) ∧ Kd.R (Kd.int .i64) 3 w' w.heap.size (fun _ => True) v0_ (edited l0 0 a2 a3) ∧ Below w.heap.size w w' := by
  obtain ⟨hl, hb⟩ := hok
  obtain ⟨r0, r1⟩ := around_range a2 ((l0.length : Int) + 1) (by omega)
  have HA := Aside0.mk (fun W => around_calls a2 ((l0.length : Int) + 1) W (by omega) hb)
  have HF : Aside0 (edited l0 0 a2 a3 = put_ l0 (around a2 (l0.length + 1)).toNat a3) := ⟨by simp [edited]⟩
  clear hb
  generalize around a2 ((l0.length : Int) + 1) = q at *
  obtain ⟨m, rfl⟩ := Int.eq_ofNat_of_zero_le r0
  obtain ⟨hcut, hC⟩ := cut_take (k := .i64) Try.underlying22 info3 A0 c0 l0 m (by omega) hc0
  obtain ⟨A', hcut', hC', hc'⟩ := cut_drop (k := .i64) Try.underlying22 info3 A0 c0 l0 m (by omega) hc0
  have HR := Aside0.mk hr0
  have HC := Aside0.mk hC
  have HC' := Aside0.mk hC'
  have HL := Aside0.mk (show (l0.take m).length = m by rw [List.length_take]; omega)
  have HL' := Aside0.mk (show (l0.drop m).length = l0.length - m by rw [List.length_drop])
  clear hr0 hC hC'
  have hml : m ≤ l0.length := by omega
  clear r1 r0
  go_enter Try.func59, Try.ntmps59
  go_wp2_with (first | (go_at_call 18; refine (HA.out _).mono ?_; rintro e w' ⟨rfl, ⟨nd, rfl⟩⟩) | (at_builtin; refine Kd.R_append_rows (Kd.int .i64) (w0 := w) w.heap.size rfl (.tmp 19) (.tmp 22) 22 3 (.int .i64 0) 8 rfl Try.underlying22 info3 rfl (by decide) (by omega) (.slice none 0 0) ([] : List Int) (l0.take m) A0 m c0 (fun _ => True) (fun _ => False) rfl rfl (Kd.R_nil _ _ _ _ _) (HC.out _ (Kd.C_drewN HR.out nd)) (fun _ _ h => h) (fun _ h => h.elim) (fun _ _ => trivial) (pw_below_drewN (Below.refl _ _) nd) (Nat.le_refl _) (by simp only [List.length_nil]; omega) ?_; intro v1 w1 HO1 HB1 _ _; rw [List.nil_append] at HO1; have HO1 := Aside0.mk HO1; have HB1 := Aside0.mk HB1) | (at_builtin; refine Kd.R_append (Kd.int .i64) (w0 := w) w.heap.size rfl (.tmp 23) (.tmp 25) 22 3 (.int .i64 0) 8 rfl Try.underlying22 info3 rfl (by decide) (by omega) v1 (l0.take m) a3 [.int .i64 a3] (fun _ => True) (fun _ => False) rfl rfl rfl (fun _ h => h.elim) (fun _ _ => trivial) HO1.out HB1.out HB1.out.size (by have := HL.out; omega) ?_; intro v2 w2 HO2 HB2 _ _; have HO2 := Aside0.mk HO2; have HB2 := Aside0.mk HB2) | (at_builtin; refine Kd.R_append_rows (Kd.int .i64) (w0 := w) w.heap.size rfl (.tmp 27) (.tmp 30) 22 3 (.int .i64 0) 8 rfl Try.underlying22 info3 rfl (by decide) (by omega) v2 (l0.take m ++ [a3]) (l0.drop m) A' (l0.length - m) (c0 - m) (fun _ => True) (fun _ => False) rfl rfl HO2.out (HC'.out _ (Kd.C_below HR.out HB2.out)) (fun _ _ h => h) (fun _ h => h.elim) (fun _ _ => trivial) HB2.out HB2.out.size (by have := HL.out; simp only [List.length_append, List.length_singleton]; omega) ?_; intro v3 w3 HO3 HB3 _ _; have HO3 := Aside0.mk HO3; have HB3 := Aside0.mk HB3))
  go_ret
  exact ⟨_, rfl, by rw [HF.out, put_, Int.toNat_natCast]; simpa using HO3.out, HB3.out⟩
set_option maxHeartbeats 4000000 in
set_option maxRecDepth 100000 in
theorem edited_set (A0 : Option Addr) (c0 : Nat) (l0 : List Int) (a1 a2 a3 : Int) (w : World) (hr0 : Kd.C (Kd.int .i64) w A0 l0.length l0) (hc0 : l0.length ≤ c0) (hok : editOk l0 a2) (ha : ¬ a1 = 0) (hpos : 0 < l0.length) (hb2 : a1 = 2) :
    Calls Try.prog 59 #[.slice A0 l0.length c0, .int .i64 a1, .int .i64 a2, .int .i64 a3] w fun e w' => ∃ v0_ : Value, e = .returned (v0_) ∧ Kd.R (Kd.int .i64) 3 w' w.heap.size (fun _ => True) v0_ (edited l0 a1 a2 a3) ∧ Below w.heap.size w w' := by
  have h0 : (a1 == 0) = false := beq_eq_false_iff_ne.2 ha
  have h1 : ((l0.length : Int) == 0) = false := beq_eq_false_iff_ne.2 (by omega)
  have h2 : (a1 == 2) = true := beq_iff_eq.2 hb2
  obtain ⟨hl, hb⟩ := hok
  obtain ⟨r0, r1⟩ := around_range a2 (l0.length : Int) (by omega)
  have HA := Aside0.mk (fun W => around_calls a2 (l0.length : Int) W (by omega) hb)
  have HF : Aside0 (edited l0 a1 a2 a3 = set_ l0 (around a2 l0.length).toNat a3) := ⟨by unfold edited; rw [if_neg ha, if_neg (by omega)]; rw [if_pos hb2]⟩
  clear hb ha hb2
  generalize around a2 (l0.length : Int) = q at *
  obtain ⟨m, rfl⟩ := Int.eq_ofNat_of_zero_le r0
  obtain ⟨hcut, hC⟩ := cut_take (k := .i64) Try.underlying22 info3 A0 c0 l0 m (by omega) hc0
  obtain ⟨A', hcut', hC', hc'⟩ := cut_drop (k := .i64) Try.underlying22 info3 A0 c0 l0 (m + 1) (by omega) hc0
  rw [show (((m + 1 : Nat) : Int)) = (m : Int) + 1 from by omega] at hcut'
  have HR := Aside0.mk hr0
  have HC := Aside0.mk hC
  have HC' := Aside0.mk hC'
  have HL := Aside0.mk (show (l0.take m).length = m by rw [List.length_take]; omega)
  clear hr0 hC hC' hpos
  have hml : m < l0.length := by omega
  clear r1 r0
  go_enter Try.func59, Try.ntmps59
  go_wp2_with (first | (go_at_call 18; refine (HA.out _).mono ?_; rintro e w' ⟨rfl, ⟨nd, rfl⟩⟩) | (at_builtin; refine Kd.R_append_rows (Kd.int .i64) (w0 := w) w.heap.size rfl (.tmp 40) (.tmp 43) 22 3 (.int .i64 0) 8 rfl Try.underlying22 info3 rfl (by decide) (by omega) (.slice none 0 0) ([] : List Int) (l0.take m) A0 m c0 (fun _ => True) (fun _ => False) rfl rfl (Kd.R_nil _ _ _ _ _) (HC.out _ (Kd.C_drewN HR.out nd)) (fun _ _ h => h) (fun _ h => h.elim) (fun _ _ => trivial) (pw_below_drewN (Below.refl _ _) nd) (Nat.le_refl _) (by simp only [List.length_nil]; omega) ?_; intro v1 w1 HO1 HB1 _ _; rw [List.nil_append] at HO1; have HO1 := Aside0.mk HO1; have HB1 := Aside0.mk HB1) | (at_builtin; refine Kd.R_append (Kd.int .i64) (w0 := w) w.heap.size rfl (.tmp 47) (.tmp 49) 22 3 (.int .i64 0) 8 rfl Try.underlying22 info3 rfl (by decide) (by omega) v1 (l0.take m) a3 [.int .i64 a3] (fun _ => True) (fun _ => False) rfl rfl rfl (fun _ h => h.elim) (fun _ _ => trivial) HO1.out HB1.out HB1.out.size (by have := HL.out; omega) ?_; intro v2 w2 HO2 HB2 _ _; have HO2 := Aside0.mk HO2; have HB2 := Aside0.mk HB2) | (at_builtin; refine Kd.R_append_rows (Kd.int .i64) (w0 := w) w.heap.size rfl (.tmp 51) (.tmp 55) 22 3 (.int .i64 0) 8 rfl Try.underlying22 info3 rfl (by decide) (by omega) v2 (l0.take m ++ [a3]) (l0.drop (m + 1)) A' (l0.length - (m + 1)) (c0 - (m + 1)) (fun _ => True) (fun _ => False) rfl rfl HO2.out (HC'.out _ (Kd.C_below HR.out HB2.out)) (fun _ _ h => h) (fun _ h => h.elim) (fun _ _ => trivial) HB2.out HB2.out.size (by have := HL.out; simp only [List.length_append, List.length_singleton]; omega) ?_; intro v3 w3 HO3 HB3 _ _; have HO3 := Aside0.mk HO3; have HB3 := Aside0.mk HB3))
  go_ret
  exact ⟨_, rfl, by rw [HF.out, set_, Int.toNat_natCast]; simpa using HO3.out, HB3.out⟩
set_option maxHeartbeats 4000000 in
set_option maxRecDepth 100000 in
theorem edited_cut (A0 : Option Addr) (c0 : Nat) (l0 : List Int) (a1 a2 a3 : Int) (w : World) (hr0 : Kd.C (Kd.int .i64) w A0 l0.length l0) (hc0 : l0.length ≤ c0) (hok : editOk l0 a2) (ha : ¬ a1 = 0) (hpos : 0 < l0.length) (hb2 : ¬ a1 = 2) :
    Calls Try.prog 59 #[.slice A0 l0.length c0, .int .i64 a1, .int .i64 a2, .int .i64 a3] w fun e w' => ∃ v0_ : Value, e = .returned (v0_) ∧ Kd.R (Kd.int .i64) 3 w' w.heap.size (fun _ => True) v0_ (edited l0 a1 a2 a3) ∧ Below w.heap.size w w' := by
  have h0 : (a1 == 0) = false := beq_eq_false_iff_ne.2 ha
  have h1 : ((l0.length : Int) == 0) = false := beq_eq_false_iff_ne.2 (by omega)
  have h2 : (a1 == 2) = false := beq_eq_false_iff_ne.2 hb2
  obtain ⟨hl, hb⟩ := hok
  obtain ⟨r0, r1⟩ := around_range a2 (l0.length : Int) (by omega)
  have HA := Aside0.mk (fun W => around_calls a2 (l0.length : Int) W (by omega) hb)
  have HF : Aside0 (edited l0 a1 a2 a3 = cut_ l0 (around a2 l0.length).toNat) := ⟨by unfold edited; rw [if_neg ha, if_neg (by omega)]; rw [if_neg hb2]⟩
  clear hb ha hb2
  generalize around a2 (l0.length : Int) = q at *
  obtain ⟨m, rfl⟩ := Int.eq_ofNat_of_zero_le r0
  obtain ⟨hcut, hC⟩ := cut_take (k := .i64) Try.underlying22 info3 A0 c0 l0 m (by omega) hc0
  obtain ⟨A', hcut', hC', hc'⟩ := cut_drop (k := .i64) Try.underlying22 info3 A0 c0 l0 (m + 1) (by omega) hc0
  rw [show (((m + 1 : Nat) : Int)) = (m : Int) + 1 from by omega] at hcut'
  have HR := Aside0.mk hr0
  have HC := Aside0.mk hC
  have HC' := Aside0.mk hC'
  have HL := Aside0.mk (show (l0.take m).length = m by rw [List.length_take]; omega)
  clear hr0 hC hC' hpos
  have hml : m < l0.length := by omega
  clear r1 r0
  go_enter Try.func59, Try.ntmps59
  go_wp2_with (first | (go_at_call 18; refine (HA.out _).mono ?_; rintro e w' ⟨rfl, ⟨nd, rfl⟩⟩) | (at_builtin; refine Kd.R_append_rows (Kd.int .i64) (w0 := w) w.heap.size rfl (.tmp 40) (.tmp 43) 22 3 (.int .i64 0) 8 rfl Try.underlying22 info3 rfl (by decide) (by omega) (.slice none 0 0) ([] : List Int) (l0.take m) A0 m c0 (fun _ => True) (fun _ => False) rfl rfl (Kd.R_nil _ _ _ _ _) (HC.out _ (Kd.C_drewN HR.out nd)) (fun _ _ h => h) (fun _ h => h.elim) (fun _ _ => trivial) (pw_below_drewN (Below.refl _ _) nd) (Nat.le_refl _) (by simp only [List.length_nil]; omega) ?_; intro v1 w1 HO1 HB1 _ _; rw [List.nil_append] at HO1; have HO1 := Aside0.mk HO1; have HB1 := Aside0.mk HB1) | (at_builtin; refine Kd.R_append_rows (Kd.int .i64) (w0 := w) w.heap.size rfl (.tmp 51) (.tmp 55) 22 3 (.int .i64 0) 8 rfl Try.underlying22 info3 rfl (by decide) (by omega) v1 (l0.take m) (l0.drop (m + 1)) A' (l0.length - (m + 1)) (c0 - (m + 1)) (fun _ => True) (fun _ => False) rfl rfl HO1.out (HC'.out _ (Kd.C_below HR.out HB1.out)) (fun _ _ h => h) (fun _ h => h.elim) (fun _ _ => trivial) HB1.out HB1.out.size (by have := HL.out; omega) ?_; intro v3 w3 HO3 HB3 _ _; have HO3 := Aside0.mk HO3; have HB3 := Aside0.mk HB3))
  go_ret
  exact ⟨_, rfl, by rw [HF.out, cut_, Int.toNat_natCast]; simpa using HO3.out, HB3.out⟩
set_option maxHeartbeats 4000000 in
set_option maxRecDepth 100000 in
theorem edited_none (A0 : Option Addr) (c0 : Nat) (l0 : List Int) (a1 a2 a3 : Int) (w : World) (hr0 : Kd.C (Kd.int .i64) w A0 l0.length l0) (hc0 : l0.length ≤ c0) (hok : editOk l0 a2) (ha : ¬ a1 = 0) (hpos : l0.length = 0) :
    Calls Try.prog 59 #[.slice A0 l0.length c0, .int .i64 a1, .int .i64 a2, .int .i64 a3] w fun e w' => ∃ v0_ : Value, e = .returned (v0_) ∧ Kd.R (Kd.int .i64) 3 w' w.heap.size (fun _ => True) v0_ (edited l0 a1 a2 a3) ∧ Below w.heap.size w w' := by
  have h0 : (a1 == 0) = false := beq_eq_false_iff_ne.2 ha
  have HF : Aside0 (edited l0 a1 a2 a3 = []) := ⟨by unfold edited; rw [if_neg ha, if_pos hpos]⟩
  obtain rfl := List.eq_nil_of_length_eq_zero hpos
  clear ha hpos hok hr0
  go_enter Try.func59, Try.ntmps59
  go_wp2
  go_ret
  exact ⟨_, rfl, by rw [HF.out]; exact Kd.R_nil _ _ _ _ _, Below.refl _ _⟩
theorem wordbookref16_Edited.calls (A0 : Option Addr) (c0 : Nat) (l0 : List Int) (a1 : Int) (a2 : Int) (a3 : Int) (r : List Int) (w : World) (hr0 : Kd.C (Kd.int .i64) w A0 l0.length l0) (hc0 : l0.length ≤ c0) (h : wordbookref16_Edited.f l0 a1 a2 a3 = some r) :
    Calls Try.prog 59 #[.slice A0 l0.length c0, .int .i64 a1, .int .i64 a2, .int .i64 a3] w fun e w' => ∃ v0_ : Value, e = .returned (v0_) ∧ Kd.R (Kd.int .i64) 3 w' w.heap.size (fun _ => True) v0_ r ∧ Below w.heap.size w w' := by
  unfold wordbookref16_Edited.f at h
  split at h
  case isFalse => cases h
  case isTrue hok =>
  obtain rfl := Option.some.inj h
  by_cases h0 : a1 = 0
  · subst h0; exact edited_put A0 c0 l0 a2 a3 w hr0 hc0 hok
  · rcases Nat.eq_zero_or_pos l0.length with hz | hp
    · exact edited_none A0 c0 l0 a1 a2 a3 w hr0 hc0 hok h0 hz
    · by_cases h2 : a1 = 2
      · exact edited_set A0 c0 l0 a1 a2 a3 w hr0 hc0 hok h0 hp h2
      · exact edited_cut A0 c0 l0 a1 a2 a3 w hr0 hc0 hok h0 hp h2
end Go.Proofs.Ytcdjeimjbbknjaa.PAll
namespace Go.Proofs.Ytcdjeimjbbknjaa.PAll
open Go.RowKit Go.Proofs.YtcdjeimjbbknjaaW.PrintWords Go.Proofs.YtcdjeimjbbknjaaW.PrintLast Go.Proofs.YtcdjeimjbbknjaaW.PrintMore Go.Proofs.Ytcdjeimjbbknjaa.Res
set_option linter.unusedVariables false
set_option linter.unusedSimpArgs false

theorem cmp_flip : ∀ a b : List Int, cmpL a b = 1 → cmpL b a = -1
  | [], [], h => by simp [cmpL] at h
  | [], _ :: _, h => by simp [cmpL] at h
  | _ :: _, [], _ => rfl
  | x :: a, y :: b, h => by
    simp only [cmpL] at h ⊢
    by_cases h1 : x < y
    · rw [if_pos h1] at h; simp at h
    · rw [if_neg h1] at h
      by_cases h2 : y < x
      · rw [if_pos h2]
      · rw [if_neg h2] at h ⊢
        rw [if_neg h1]
        exact cmp_flip a b h
theorem cmp_eq : ∀ a b : List Int, cmpL a b = 0 ↔ a = b
  | [], [] => by simp [cmpL]
  | [], _ :: _ => by simp [cmpL]
  | _ :: _, [] => by simp [cmpL]
  | x :: a, y :: b => by
    simp only [cmpL]
    by_cases h1 : x < y
    · rw [if_pos h1]; simp; omega
    · rw [if_neg h1]
      by_cases h2 : y < x
      · rw [if_pos h2]; simp; omega
      · rw [if_neg h2, cmp_eq a b]
        have : x = y := by omega
        simp [this]
/-! ### Put -/
def insD (w : List Int) (l : List (List Int)) : List (List Int) := l.filter fun u => cmpL u w != 0
def ins15 (w : List Int) : List (List Int) → List (List Int)
  | [] => [w]
  | u :: l => if cmpL u w < 0 then u :: ins15 w l else if cmpL u w = 0 then w :: insD w l else w :: u :: insD w l
theorem put15_l0 (l : List (List Int)) (w : List Int) (hl : l.length ≤ 1000000) (hs : ∀ v ∈ l, v.length ≤ 1000000) : ∀ (d i k : Nat) (acc : List (List Int)) (b : Bool), i + d = l.length → acc.length ≤ i + (if b = true then 1 else 0) → 2 * d + 2000005 < k →
    wordbookref15_Put.l0 k l w acc b (i : Int) = some (acc ++ if b = true then insD w (l.drop i) else ins15 w (l.drop i)) := by
  intro d
  induction d with
  | zero =>
    intro i k acc b hid ha hk
    obtain ⟨k, rfl⟩ : ∃ m, k = m + 1 := ⟨k - 1, by omega⟩
    rw [wordbookref15_Put.l0, if_neg (by omega), List.drop_of_length_le (by omega)]
    cases b with
    | true => rw [if_pos rfl, if_pos rfl]; simp [insD]
    | false =>
      rw [if_neg (by decide)] at ha
      rw [if_neg (by decide), if_pos (by omega), if_neg (by decide)]; rfl
  | succ d ih =>
    intro i k acc b hid ha hk
    obtain ⟨k, rfl⟩ : ∃ m, k = m + 1 + 1 := ⟨k - 2, by omega⟩
    have hi : i < l.length := by omega
    have hdr : l.drop i = rdR l (i : Int) :: l.drop (i + 1) := by rw [List.drop_eq_getElem_cons hi, rdR_get hi]
    have hw1 : wrap64 ((i : Int) + 1) = ((i + 1 : Nat) : Int) := by unfold wrap64; omega
    have hm : (rdR l (i : Int)).length ≤ 1000000 := by rw [rdR_get hi]; exact hs _ (List.getElem_mem hi)
    have hrr : rd_L2 l (i : Int) = rdR l (i : Int) := rfl
    have h3 : (if true = true then 1 else 0 : Nat) = 1 := rfl
    have h4 : (if false = true then 1 else 0 : Nat) = 0 := rfl
    rw [wordbookref15_Put.l0, if_pos (by omega), if_pos (by omega), hrr, order_is _ _ (by omega) _ (by omega), Option.bind_some, hdr]
    have hcv := cmpL_values (rdR l (i : Int)) w
    cases b with
    | true =>
      rw [h3] at ha
      rw [if_pos rfl, wordbookref15_Put.j1, if_neg (by decide)]
      by_cases hz : cmpL (rdR l (i : Int)) w = 0
      · rw [if_pos hz, hw1, ih (i + 1) k acc true (by omega) (by rw [h3]; omega) (by omega), if_pos rfl, if_pos rfl]
        simp [insD, hz]
      · rw [if_neg hz, if_pos (by omega), if_pos (by omega), if_pos (by omega), hw1, hrr, ih (i + 1) k _ true (by omega) (by rw [h3]; simp; omega) (by omega), if_pos rfl, if_pos rfl]
        simp [insD, hz]
    | false =>
      rw [h4] at ha
      rw [if_neg (by decide), wordbookref15_Put.j1]
      by_cases hc : cmpL (rdR l (i : Int)) w < 0
      · rw [if_neg (by simp; omega), if_neg (by omega), if_pos (by omega), if_pos (by omega), if_pos (by omega), hw1, hrr, ih (i + 1) k _ false (by omega) (by rw [h4]; simp; omega) (by omega), if_neg (by decide), if_neg (by decide), ins15, if_pos hc]
        simp
      · rw [if_pos (decide_eq_true (by omega)), if_pos (by omega), Option.bind_some]
        by_cases hz : cmpL (rdR l (i : Int)) w = 0
        · rw [if_pos hz, hw1, ih (i + 1) k _ true (by omega) (by rw [h3]; simp; omega) (by omega), if_pos rfl, if_neg (by decide), ins15, if_neg hc, if_pos hz]
          simp
        · rw [if_neg hz, if_pos (by omega), if_pos (by omega), if_pos (by simp; omega), hw1, hrr, ih (i + 1) k _ true (by omega) (by rw [h3]; simp; omega) (by omega), if_pos rfl, if_neg (by decide), ins15, if_neg hc, if_neg hz]
          simp
theorem put15_is (l : List (List Int)) (w : List Int) (hl : l.length ≤ 100000) (hs : ∀ v ∈ l, v.length ≤ 1000000) (k : Nat) (hk : 3000000 ≤ k) : wordbookref15_Put.f k l w = some (ins15 w l) := by
  unfold wordbookref15_Put.f
  rw [show (0 : Int) = ((0 : Nat) : Int) from rfl, put15_l0 l w (by omega) hs l.length 0 k [] false (by omega) (by simp) (by omega), List.drop_zero]
  simp
theorem ins15_mem {w v : List Int} : ∀ {l : List (List Int)}, v ∈ ins15 w l → v ∈ l ∨ v = w
  | [], h => .inr (by simpa [ins15] using h)
  | u :: l, h => by
    rw [ins15] at h
    split at h
    · rcases List.mem_cons.1 h with rfl | h
      · exact .inl List.mem_cons_self
      · rcases ins15_mem h with h | h
        · exact .inl (List.mem_cons_of_mem _ h)
        · exact .inr h
    · split at h
      · rcases List.mem_cons.1 h with rfl | h
        · exact .inr rfl
        · exact .inl (List.mem_cons_of_mem _ ((List.mem_filter.1 h).1))
      · rcases List.mem_cons.1 h with rfl | h
        · exact .inr rfl
        · rcases List.mem_cons.1 h with rfl | h
          · exact .inl List.mem_cons_self
          · exact .inl (List.mem_cons_of_mem _ ((List.mem_filter.1 h).1))
theorem insD_le (w : List Int) (l : List (List Int)) : (insD w l).length ≤ l.length := List.length_filter_le _ _
theorem ins15_len (w : List Int) : ∀ l : List (List Int), 1 ≤ (ins15 w l).length ∧ (ins15 w l).length ≤ l.length + 1
  | [] => by simp [ins15]
  | u :: l => by
    have h1 := ins15_len w l
    have h2 := insD_le w l
    rw [ins15]
    split
    · simp only [List.length_cons]; omega
    · split <;> simp only [List.length_cons] <;> omega
theorem ins15_srt (w : List Int) : ∀ {l : List (List Int)}, Srt l → Srt (ins15 w l)
  | [], _ => by simp [ins15, Srt]
  | u :: l, h => by
    have h1 := List.pairwise_cons.1 h
    have hf : Srt (insD w l) := List.Pairwise.sublist List.filter_sublist h1.2
    rw [ins15]
    by_cases hc : cmpL u w < 0
    · rw [if_pos hc]
      refine List.pairwise_cons.2 ⟨fun v hv => ?_, ins15_srt w h1.2⟩
      rcases ins15_mem hv with hv | rfl
      · exact h1.1 v hv
      · exact (cmpL_lt_iff _ _).1 hc
    · rw [if_neg hc]
      by_cases hz : cmpL u w = 0
      · rw [if_pos hz]
        obtain rfl := (cmp_eq u w).1 hz
        exact List.pairwise_cons.2 ⟨fun v hv => h1.1 v ((List.mem_filter.1 hv).1), hf⟩
      · rw [if_neg hz]
        have hw : cmpL w u = -1 := cmp_flip u w (by rcases cmpL_values u w with e | e | e <;> omega)
        refine List.pairwise_cons.2 ⟨fun v hv => ?_, List.pairwise_cons.2 ⟨fun v hv => h1.1 v ((List.mem_filter.1 hv).1), hf⟩⟩
        rcases List.mem_cons.1 hv with rfl | hv
        · exact hw
        · exact cmpL_trans _ _ _ hw (h1.1 v ((List.mem_filter.1 hv).1))
/-! ### Words -/
theorem w64 {x : Int} (h0 : -9223372036854775808 ≤ x) (h1 : x ≤ 9223372036854775807) : wrap64 x = x := by unfold wrap64; omega
theorem succ64 (j : Nat) (h : j ≤ 1000000000) : wrap64 ((j : Int) + 1) = ((j + 1 : Nat) : Int) := by rw [w64 (by omega) (by omega)]; omega
theorem num15_is (l : List Int) (hw : ∀ x ∈ l, -9223372036854775808 ≤ x ∧ x ≤ 9223372036854775807) (i : Int) (h0 : 0 ≤ i) (h1 : i ≤ 100000) : ∃ x, wordbookref15_num.f l i = some x ∧ 0 ≤ x ∧ x ≤ 2800000 := by
  unfold wordbookref15_num.f
  by_cases hz : (l.length : Int) = 0
  · rw [if_pos hz]; exact ⟨0, rfl, by omega, by omega⟩
  · rw [if_neg hz]
    have hm0 : 0 ≤ Int.tmod i (l.length : Int) := Int.tmod_nonneg _ h0
    have hm1 : Int.tmod i (l.length : Int) < (l.length : Int) := by
      rw [Int.tmod_eq_emod_of_nonneg h0]; exact Int.emod_lt_of_pos _ (by omega)
    rw [if_pos hm0, if_pos hm1]
    have hd0 : 0 ≤ Int.tdiv i (l.length : Int) := Int.tdiv_nonneg h0 (by omega)
    have hd1 : Int.tdiv i (l.length : Int) ≤ i := by
      rw [Int.tdiv_eq_ediv_of_nonneg h0]; exact Int.ediv_le_self _ h0
    generalize Int.tdiv i (l.length : Int) = q at *
    generalize rd l (Int.tmod i (l.length : Int)) = y at *
    have hy0 : -1048576 < Int.tmod y 1048576 := by
      by_cases hy : 0 ≤ y
      · have := Int.tmod_nonneg 1048576 hy; omega
      · have h2 := Int.tmod_nonneg 1048576 (show 0 ≤ -y by omega)
        have h3 : Int.tmod (-y) 1048576 < 1048576 := by rw [Int.tmod_eq_emod_of_nonneg (by omega)]; exact Int.emod_lt_of_pos _ (by omega)
        rw [Int.neg_tmod] at h3; omega
    have hy1 : Int.tmod y 1048576 < 1048576 := by
      by_cases hy : 0 ≤ y
      · rw [Int.tmod_eq_emod_of_nonneg hy]; exact Int.emod_lt_of_pos _ (by omega)
      · have h2 := Int.tmod_nonneg 1048576 (show 0 ≤ -y by omega)
        rw [Int.neg_tmod] at h2; omega
    generalize Int.tmod y 1048576 = z at *
    rw [w64 (x := q) (by omega) (by omega), w64 (x := 17 * q) (by omega) (by omega), w64 (x := -z) (by omega) (by omega), w64 (x := -z + 17 * q) (by omega) (by omega), w64 (x := z + 17 * q) (by omega) (by omega)]
    split
    · exact ⟨_, rfl, by omega, by omega⟩
    · exact ⟨_, rfl, by omega, by omega⟩
structure W15 (out : List (List Int)) (n : Nat) : Prop where
  srt : Srt out
  few : out.length ≤ n
  pos : 0 < n → 0 < out.length
  size : ∀ v ∈ out, v.length ≤ 8
  sym : ∀ v ∈ out, ∀ s ∈ v, 0 ≤ s ∧ s < 64
theorem sum_le8 : ∀ {l : List (List Int)}, (∀ v ∈ l, v.length ≤ 8) → (l.map List.length).sum ≤ 8 * l.length
  | [], _ => by simp
  | v :: l, h => by
    have h1 := h v List.mem_cons_self
    have h2 := sum_le8 fun x hx => h x (List.mem_cons_of_mem v hx)
    simp only [List.map_cons, List.sum_cons, List.length_cons]; omega
theorem W15.good {out : List (List Int)} {n : Nat} (h : W15 out n) (hn : n ≤ 4000) : Good out :=
  ⟨h.sym, h.srt, fun v hv => by have := h.size v hv; omega, by have := h.few; omega, by have := sum_le8 h.size; have := h.few; omega⟩
theorem W15.put {out : List (List Int)} {n : Nat} (h : W15 out n) {w : List Int} (hl : w.length ≤ 8) (hs : ∀ s ∈ w, 0 ≤ s ∧ s < 64) : W15 (ins15 w out) (n + 1) := by
  have hp := ins15_len w out
  refine ⟨ins15_srt w h.srt, by have := h.few; omega, fun _ => by omega, fun v hv => ?_, fun v hv => ?_⟩
  · rcases ins15_mem hv with hv | rfl
    · exact h.size v hv
    · exact hl
  · rcases ins15_mem hv with hv | rfl
    · exact h.sym v hv
    · exact hs
def Sy (w : List Int) : Prop := ∀ s ∈ w, 0 ≤ s ∧ s < 64
theorem Sy.snoc {w : List Int} (h : Sy w) {x : Int} (h0 : 0 ≤ x) (h1 : x < 64) : Sy (w ++ [x]) := fun s hs => by
  rcases List.mem_append.1 hs with hs | hs
  · exact h s hs
  · rw [List.mem_singleton.1 hs]; exact ⟨h0, h1⟩
theorem tmod_in {x : Int} (h : 0 ≤ x) (m : Int) (hm : 0 < m) : 0 ≤ Int.tmod x m ∧ Int.tmod x m < m := by
  rw [Int.tmod_eq_emod_of_nonneg h]; exact ⟨Int.emod_nonneg _ (by omega), Int.emod_lt_of_pos _ hm⟩
theorem w15_l3 (l : List Int) (most : Int) (out : List (List Int)) (n : Nat) (hn : n ≤ 100) (ho : W15 out n) (K : Nat) (hK : 3000000 ≤ K) (T : List (List Int) → Prop)
  (next : ∀ (r : List (List Int)) (k : Nat), W15 r (n + 1) → K ≤ k → ∃ q, wordbookref15_Words.l0 k l most r ((n + 1 : Nat) : Int) = some q ∧ T q) (z : Int) (hz : 0 ≤ z ∧ z ≤ 2800000) : ∀ (d k j : Nat) (w : List Int), (j : Int) + d = Int.tmod z 3 → Sy w → w.length + d ≤ 8 → K + d < k → ∃ q, wordbookref15_Words.l3 k l most out (n : Int) w z (j : Int) = some q ∧ T q := by
  have hz3 := tmod_in hz.1 3 (by omega)
  intro d
  induction d with
  | zero =>
    intro k j w hj hs hl hk
    obtain ⟨k, rfl⟩ : ∃ m, k = m + 1 := ⟨k - 1, by omega⟩
    rw [wordbookref15_Words.l3, if_neg (by omega), put15_is out w (by have := ho.few; omega) (fun v hv => by have := ho.size v hv; omega) k (by omega), Option.bind_some, succ64 n (by omega)]
    exact next _ k (ho.put (by omega) hs) (by omega)
  | succ d ih =>
    intro k j w hj hs hl hk
    obtain ⟨k, rfl⟩ : ∃ m, k = m + 1 := ⟨k - 1, by omega⟩
    have hq := tmod_in (x := Int.tdiv z 3) (Int.tdiv_nonneg hz.1 (by omega)) 2 (by omega)
    have hq1 : Int.tdiv z 3 ≤ z := by rw [Int.tdiv_eq_ediv_of_nonneg hz.1]; omega
    have hq0 := Int.tdiv_nonneg hz.1 (show (0 : Int) ≤ 3 by omega)
    rw [wordbookref15_Words.l3, if_pos (by omega), if_pos (by omega), succ64 j (by omega), w64 (x := Int.tdiv z 3) (by omega) (by omega)]
    generalize Int.tmod (Int.tdiv z 3) 2 = q at *
    rw [w64 (x := 4 + (j : Int)) (by omega) (by omega), w64 (x := 4 + (j : Int) + q) (by omega) (by omega)]
    exact ih k (j + 1) _ (by omega) (hs.snoc (by omega) (by omega)) (by simp; omega) (by omega)
theorem w15_l2 (l : List Int) (hw : ∀ x ∈ l, -9223372036854775808 ≤ x ∧ x ≤ 9223372036854775807) (most : Int) (out : List (List Int)) (n : Nat) (hn : n ≤ 100) (ho : W15 out n) (K : Nat) (hK : 3000000 ≤ K) (T : List (List Int) → Prop)
  (next : ∀ (r : List (List Int)) (k : Nat), W15 r (n + 1) → K ≤ k → ∃ q, wordbookref15_Words.l0 k l most r ((n + 1 : Nat) : Int) = some q ∧ T q) (y : Int) (hy : 0 ≤ y ∧ y ≤ 2800000) : ∀ (d k j : Nat) (w : List Int), (j : Int) + d = Int.tmod y 3 → Sy w → w.length + d + 2 ≤ 8 → K + d + 10 < k → ∃ q, wordbookref15_Words.l2 k l most out (n : Int) w y (j : Int) = some q ∧ T q := by
  have hy3 := tmod_in hy.1 3 (by omega)
  have hy2 := tmod_in hy.1 2 (by omega)
  intro d
  induction d with
  | zero =>
    intro k j w hj hs hl hk
    obtain ⟨k, rfl⟩ : ∃ m, k = m + 1 := ⟨k - 1, by omega⟩
    obtain ⟨z, e, z0, z1⟩ := num15_is l hw (3 * (n : Int) + 2) (by omega) (by omega)
    rw [wordbookref15_Words.l2, if_neg (by omega), w64 (x := 3 * (n : Int)) (by omega) (by omega), w64 (x := 3 * (n : Int) + 2) (by omega) (by omega), e, Option.bind_some]
    have hz3 := tmod_in z0 3 (by omega)
    exact w15_l3 l most out n hn ho K hK T next z ⟨z0, z1⟩ (Int.tmod z 3).toNat k 0 w (by omega) hs (by omega) (by omega)
  | succ d ih =>
    intro k j w hj hs hl hk
    obtain ⟨k, rfl⟩ : ∃ m, k = m + 1 := ⟨k - 1, by omega⟩
    obtain ⟨x, e, x0, x1⟩ := num15_is l hw (5 * (n : Int) + (j : Int)) (by omega) (by omega)
    have hx4 := tmod_in x0 4 (by omega)
    rw [wordbookref15_Words.l2, if_pos (by omega), w64 (x := 5 * (n : Int)) (by omega) (by omega), w64 (x := 5 * (n : Int) + (j : Int)) (by omega) (by omega), e, Option.bind_some, succ64 j (by omega), w64 (x := 63 - Int.tmod y 2) (by omega) (by omega)]
    by_cases h3 : Int.tmod x 4 = 3
    · rw [if_pos h3, if_pos (by omega)]
      exact ih k (j + 1) _ (by omega) (hs.snoc (by omega) (by omega)) (by simp; omega) (by omega)
    · rw [if_neg h3, if_pos (by omega)]
      exact ih k (j + 1) _ (by omega) (hs.snoc (by omega) (by omega)) (by simp; omega) (by omega)
theorem w15_l1 (l : List Int) (hw : ∀ x ∈ l, -9223372036854775808 ≤ x ∧ x ≤ 9223372036854775807) (most : Int) (out : List (List Int)) (n : Nat) (hn : n ≤ 100) (ho : W15 out n) (K : Nat) (hK : 3000000 ≤ K) (T : List (List Int) → Prop)
  (next : ∀ (r : List (List Int)) (k : Nat), W15 r (n + 1) → K ≤ k → ∃ q, wordbookref15_Words.l0 k l most r ((n + 1 : Nat) : Int) = some q ∧ T q) (x : Int) (hx : 0 ≤ x ∧ x ≤ 2800000) : ∀ (d k j : Nat) (w : List Int), (j : Int) + d = Int.tmod x 4 → Sy w → w.length + d + 4 ≤ 8 → K + d + 20 < k → ∃ q, wordbookref15_Words.l1 k l most out (n : Int) w x (j : Int) = some q ∧ T q := by
  have hx4 := tmod_in hx.1 4 (by omega)
  have hx7 := tmod_in hx.1 7 (by omega)
  intro d
  induction d with
  | zero =>
    intro k j w hj hs hl hk
    obtain ⟨k, rfl⟩ : ∃ m, k = m + 1 := ⟨k - 1, by omega⟩
    obtain ⟨y, e, y0, y1⟩ := num15_is l hw (3 * (n : Int) + 1) (by omega) (by omega)
    rw [wordbookref15_Words.l1, if_neg (by omega), w64 (x := 3 * (n : Int)) (by omega) (by omega), w64 (x := 3 * (n : Int) + 1) (by omega) (by omega), e, Option.bind_some]
    have hy3 := tmod_in y0 3 (by omega)
    exact w15_l2 l hw most out n hn ho K hK T next y ⟨y0, y1⟩ (Int.tmod y 3).toNat k 0 w (by omega) hs (by omega) (by omega)
  | succ d ih =>
    intro k j w hj hs hl hk
    obtain ⟨k, rfl⟩ : ∃ m, k = m + 1 := ⟨k - 1, by omega⟩
    obtain ⟨t, e, t0, t1⟩ := num15_is l hw (Int.tmod x 7 + (j : Int)) (by omega) (by omega)
    have ht3 := tmod_in t0 3 (by omega)
    rw [wordbookref15_Words.l1, if_pos (by omega), w64 (x := Int.tmod x 7 + (j : Int)) (by omega) (by omega), e, Option.bind_some, if_pos (by omega), succ64 j (by omega)]
    exact ih k (j + 1) _ (by omega) (hs.snoc (by omega) (by omega)) (by simp; omega) (by omega)
theorem w15_l0 (l : List Int) (hw : ∀ x ∈ l, -9223372036854775808 ≤ x ∧ x ≤ 9223372036854775807) (m : Nat) (hm : m ≤ 100) : ∀ (d n k : Nat) (out : List (List Int)), n + d = m → W15 out n → 3000000 + 100 * d < k → ∃ q, wordbookref15_Words.l0 k l (m : Int) out (n : Int) = some q ∧ W15 q m := by
  intro d
  induction d with
  | zero =>
    intro n k out hd ho hk
    obtain ⟨k, rfl⟩ : ∃ j, k = j + 1 := ⟨k - 1, by omega⟩
    obtain rfl : n = m := by omega
    rw [wordbookref15_Words.l0, if_neg (by omega)]
    exact ⟨out, rfl, ho⟩
  | succ d ih =>
    intro n k out hd ho hk
    obtain ⟨k, rfl⟩ : ∃ j, k = j + 1 := ⟨k - 1, by omega⟩
    obtain ⟨x, e, x0, x1⟩ := num15_is l hw (3 * (n : Int)) (by omega) (by omega)
    have hx4 := tmod_in x0 4 (by omega)
    rw [wordbookref15_Words.l0, if_pos (by omega), w64 (x := 3 * (n : Int)) (by omega) (by omega), e, Option.bind_some]
    exact w15_l1 l hw (m : Int) out n (by omega) ho (3000000 + 100 * d + 1) (by omega) (fun q => W15 q m) (fun r k hr hk => ih (n + 1) k r (by omega) hr (by omega)) x ⟨x0, x1⟩ (Int.tmod x 4).toNat k 0 [] (by omega) (fun s hs => by cases hs) (by simp; omega) (by omega)
theorem words15_is (l : List Int) (hw : ∀ x ∈ l, -9223372036854775808 ≤ x ∧ x ≤ 9223372036854775807) (m : Int) (h0 : 0 ≤ m) (h1 : m ≤ 100) : ∃ q, wordbookref15_Words.f 4000000 l m = some q ∧ W15 q m.toNat := by
  obtain ⟨n, rfl⟩ := Int.eq_ofNat_of_zero_le h0
  exact w15_l0 l hw n (by omega) n 0 4000000 [] (by omega) ⟨by simp [Srt], by simp, fun h => absurd h (by decide), by simp, by simp⟩ (by omega)
end Go.Proofs.Ytcdjeimjbbknjaa.PAll
namespace Go.Proofs.Ytcdjeimjbbknjaa.PAll
open Go.RowKit Go.Proofs.YtcdjeimjbbknjaaW.PrintWords Go.Proofs.YtcdjeimjbbknjaaW.PrintLast Go.Proofs.YtcdjeimjbbknjaaW.PrintMore Go.Proofs.Ytcdjeimjbbknjaa.Res
set_option linter.unusedVariables false
set_option linter.unusedSimpArgs false

theorem resW_app : ∀ (p s : List Int) (r : List (List Int)), resW r (p ++ s) = resW (resW r p) s
  | [], _, _ => rfl
  | a :: p, s, r => resW_app p s (resS r a)
theorem lessL_app : ∀ (p s : List Int) {r : List (List Int)}, Srt r → lessL r (p ++ s) = lessL r p + lessL (resW r p) s
  | [], s, r, _ => by rw [lessL_nil, Nat.zero_add]; rfl
  | a :: p, s, r, h => by
    rw [List.cons_append, lessL_cons h, lessL_cons h a p, lessL_app p s (srt_resS h a)]
    rw [show resW r (a :: p) = resW (resS r a) p from rfl]; omega
theorem lessL_mem {r : List (List Int)} {u : List Int} (hu : u ∈ r) : lessL r u < r.length := by
  unfold lessL
  have h1 := List.length_filter_le (ltB u) r
  rcases Nat.lt_or_ge (r.filter (ltB u)).length r.length with h | h
  · exact h
  · exfalso
    have h2 : r.filter (ltB u) = r := List.filter_sublist.eq_of_length (by omega)
    have h3 : u ∈ r.filter (ltB u) := h2.symm ▸ hu
    have h4 := (List.mem_filter.1 h3).2
    simp only [ltB, decide_eq_true_eq] at h4
    rw [(cmp_eq u u).2 rfl] at h4
    omega
/-- The number of a word of a sorted list. -/
theorem lessL_at' : ∀ (ws : List (List Int)), Srt ws → ∀ i (h : i < ws.length), lessL ws ws[i] = i
  | [], _, i, h => absurd h (Nat.not_lt_zero _)
  | u :: ws, hs, 0, h => by
    have h1 := List.pairwise_cons.1 hs
    unfold lessL
    rw [List.length_eq_zero_iff, List.filter_eq_nil_iff]
    intro v hv hb
    simp only [ltB, decide_eq_true_eq, List.getElem_cons_zero] at hb
    rcases List.mem_cons.1 hv with rfl | hv
    · rw [(cmp_eq v v).2 rfl] at hb; omega
    · have := cmpL_trans _ _ _ (h1.1 v hv) hb
      rw [(cmp_eq u u).2 rfl] at this; omega
  | u :: ws, hs, i + 1, h => by
    have h1 := List.pairwise_cons.1 hs
    have ih := lessL_at' ws h1.2 i (by simpa using h)
    unfold lessL at ih ⊢
    rw [List.getElem_cons_succ, List.filter_cons_of_pos]
    · rw [List.length_cons, ih]
    · simp only [ltB, decide_eq_true_eq]
      exact h1.1 _ (List.getElem_mem _)
theorem st_nd {ns : List Nd} {Q : List (List (List Int))} (hI : Inv ns Q) {st : Int} (h0 : 0 ≤ st) (h1 : st < (ns.length : Int)) : IsNd Q (rdN ns st) (rdP Q st) ∧ Srt (rdP Q st) := by
  have hn := hI.nds st.toNat (by omega)
  rw [Int.toNat_of_nonneg h0] at hn
  exact ⟨hn, hI.srt _ (rdP_mem h0 (by rw [hI.len]; exact h1))⟩
theorem final_st {ns : List Nd} {Q : List (List (List Int))} (hI : Inv ns Q) {st : Int} (h0 : 0 ≤ st) (h1 : st < (ns.length : Int)) : finalB ns st = finR (rdP Q st) := by
  have := (st_nd hI h0 h1).1.fin
  unfold finalB
  rw [show hasB ns.length st = true from by simp [hasB, h0, h1], Bool.true_and]
  exact this
theorem step_st {ns : List Nd} {Q : List (List (List Int))} (hI : Inv ns Q) {st : Int} (h0 : 0 ≤ st) (h1 : st < (ns.length : Int)) {s : Int} (hs : resS (rdP Q st) s ≠ []) : rdP Q (stepN ns st s) = resS (rdP Q st) s ∧ 0 ≤ stepN ns st s ∧ stepN ns st s < (ns.length : Int) := by
  obtain ⟨hn, hsr⟩ := st_nd hI h0 h1
  obtain ⟨a, b⟩ := hn.step hsr s
  have hm : s ∈ (rdN ns st).f1 := Classical.byContradiction fun h => hs (b h)
  obtain ⟨e1, _, e2, e3⟩ := a hm
  unfold stepN
  rw [if_pos ⟨by simp [hasB, h0, h1], hm⟩]
  exact ⟨e1, e2, by rw [← hI.len]; exact e3⟩
/-! ### Along a word -/
structure At (ws : List (List Int)) (Q : List (List (List Int))) (u : List Int) (n : Nat) (st : Int) : Prop where
  le : n ≤ u.length
  s0 : 0 ≤ st
  s1 : st < ((graphOf ws).length : Int)
  res : rdP Q st = resW ws (u.take n)
theorem At.mem {ws : List (List Int)} {Q : List (List (List Int))} {u : List Int} {n : Nat} {st : Int} (hs : Srt ws) (hu : u ∈ ws) (h : At ws Q u n st) : u.drop n ∈ rdP Q st := by
  rw [h.res, mem_resW _ hs, List.take_append_drop]; exact hu
theorem At.start {ws : List (List Int)} {Q : List (List (List Int))} (u : List Int) (hq : 0 < (graphOf ws).length) (h0 : rdP Q 0 = ws) : At ws Q u 0 0 := ⟨Nat.zero_le _, Int.le_refl _, by omega, h0⟩
theorem At.step {ws : List (List Int)} {Q : List (List (List Int))} {u : List Int} {n : Nat} {st : Int} (hI : Inv (graphOf ws) Q) (hs : Srt ws) (hu : u ∈ ws) (h : At ws Q u n st) (hn : n < u.length) : At ws Q u (n + 1) (stepN (graphOf ws) st (rd u (n : Int))) := by
  have hm := h.mem hs hu
  rw [rd_drop hn] at hm
  have hsr := (st_nd hI h.s0 h.s1).2
  have hne : resS (rdP Q st) (rd u (n : Int)) ≠ [] := fun e => by
    have := (mem_resS hsr (rd u (n : Int)) (u.drop (n + 1))).2 hm
    rw [e] at this; cases this
  obtain ⟨e1, e2, e3⟩ := step_st hI h.s0 h.s1 hne
  refine ⟨hn, e2, e3, ?_⟩
  rw [e1, h.res, show u.take (n + 1) = u.take n ++ [rd u (n : Int)] from by rw [List.take_succ_eq_append_getElem hn, rd_nat, List.getD_eq_getElem?_getD, List.getElem?_eq_getElem hn]; rfl, resW_app]
  rfl
theorem At.range {ws : List (List Int)} {Q : List (List (List Int))} {i n : Nat} {st : Int} (hs : Srt ws) (hi : i < ws.length) (h : At ws Q (ws[i]) n st) : lessL ws (ws[i].take n) ≤ i ∧ i < lessL ws (ws[i].take n) + (resW ws (ws[i].take n)).length := by
  have h1 := lessL_at' ws hs i hi
  have h2 := lessL_app (ws[i].take n) (ws[i].drop n) hs
  rw [List.take_append_drop, h1] at h2
  have h3 := h.mem hs (List.getElem_mem hi)
  rw [h.res] at h3
  have := lessL_mem h3
  omega
theorem At.last {ws : List (List Int)} {Q : List (List (List Int))} {u : List Int} {st : Int} (hI : Inv (graphOf ws) Q) (hs : Srt ws) (hu : u ∈ ws) (h : At ws Q u u.length st) : finalB (graphOf ws) st = true := by
  rw [final_st hI h.s0 h.s1, fin_mem (st_nd hI h.s0 h.s1).2]
  have := h.mem hs hu
  rwa [List.drop_length] at this
end Go.Proofs.Ytcdjeimjbbknjaa.PAll
namespace Go.Proofs.Ytcdjeimjbbknjaa.PAll
open Go.RowKit Go.Proofs.YtcdjeimjbbknjaaW.PrintWords Go.Proofs.YtcdjeimjbbknjaaW.PrintLast Go.Proofs.YtcdjeimjbbknjaaW.PrintMore Go.Proofs.Ytcdjeimjbbknjaa.Res
set_option linter.unusedVariables false
set_option linter.unusedSimpArgs false

theorem dl_words (A0 : Option Addr) (c0 : Nat) (l : List Int) (most : Int) (r : List (List Int)) (w : World) (hr : Kd.C (Kd.int .i64) w A0 l.length l) (hc : l.length ≤ c0) (h : wordbookref15_Words.f 4000000 l most = some r) :
    Calls Try.prog 17 #[.slice A0 l.length c0, .int .i64 most] w fun e w' => ∃ A c, e = .returned (.slice A r.length c) ∧ r.length ≤ c ∧ Kd.C (Kd.slice 3 (Kd.int .i64)) w' A r.length r ∧ Below w.heap.size w w' := by
  refine (wordbookref15_Words.calls 4000000 A0 c0 l most r w hr hc h).mono ?_
  rintro e w' ⟨v, rfl, hN, hb⟩
  obtain ⟨A, c, rfl, hl, hC⟩ := Kd.N_reads hN
  exact ⟨A, c, rfl, hl, hC, hb⟩
theorem dl_build {ws : List (List Int)} (h : Good ws) (A : Option Addr) (c : Nat) (w : World) (hr : Kd.C (Kd.slice 3 (Kd.int .i64)) w A ws.length ws) (hc : ws.length ≤ c) :
    Calls Try.prog 19 #[.slice A ws.length c] w fun e w' => ∃ g, e = .returned (.tuple #[.pointer (some ⟨g, 0, none⟩), .int .i64 0]) ∧ GraphAt w' g (graphOf ws) ∧ Below w.heap.size w w' := by
  refine (build_good A c ws w hr hc h).mono ?_
  rintro e w' ⟨g, rfl, hg, hb, _⟩
  exact ⟨g, rfl, hg, hb⟩
theorem dl_around (n most : Int) (w : World) (h0 : 0 < most) (hn : -9223372036854775808 ≤ n ∧ n ≤ 9223372036854775807) :
    Calls Try.prog 18 #[.int .i64 n, .int .i64 most] w fun e w' => e = .returned (.int .i64 (around n most)) ∧ Below w.heap.size w w' := (around_calls n most w h0 hn).mono fun e w' hh => ⟨hh.1, hh.2.below⟩
theorem dl_same (a b : List Int) (n m : Nat) (hn : n = a.length) (hm : m = b.length) (A0 A1 : Option Addr) (c0 c1 : Nat) (w : World) (hr0 : Kd.C (Kd.int .i64) w A0 a.length a) (hc0 : a.length ≤ c0) (hr1 : Kd.C (Kd.int .i64) w A1 b.length b) (hc1 : b.length ≤ c1) (ha : a.length ≤ 1000000) :
    Calls Try.prog 27 #[.slice A0 n c0, .slice A1 m c1] w fun e w' => e = .returned (.bool (decide (a = b))) ∧ Below w.heap.size w w' := by
  subst hn hm
  refine (wordbookref01_SameInts.calls 1000001 A0 c0 a A1 c1 b _ w hr0 hc0 hr1 hc1 (sameInts_is a b (by omega) 1000001 (by omega))).mono ?_
  rintro e w' ⟨rfl, hd⟩
  exact ⟨rfl, hd.below⟩
theorem tw_same (a : List Int) (A0 A1 : Option Addr) (c0 c1 : Nat) (w : World) (hr0 : Kd.C (Kd.int .i64) w A0 a.length a) (hc0 : a.length ≤ c0) (hr1 : Kd.C (Kd.int .i64) w A1 a.length a) (hc1 : a.length ≤ c1) (ha : a.length ≤ 1000000) :
    Calls Try.prog 27 #[.slice A0 a.length c0, .slice A1 a.length c1] w fun e w' => e = .returned (.bool true) ∧ Below w.heap.size w w' := by
  have := dl_same a a a.length a.length rfl rfl A0 A1 c0 c1 w hr0 hc0 hr1 hc1 ha
  rwa [decide_eq_true rfl] at this
theorem wf_i64 {x : Int} (h : (Lit.int .i64 x).wf = true) : -9223372036854775808 ≤ x ∧ x ≤ 9223372036854775807 := by
  simp only [Lit.wf, Bool.and_eq_true, decide_eq_true_eq] at h
  exact h
end Go.Proofs.Ytcdjeimjbbknjaa.PAll
namespace Go.Proofs.Ytcdjeimjbbknjaa.PAll
open Go.RowKit Go.Proofs.YtcdjeimjbbknjaaW.PrintWords Go.Proofs.YtcdjeimjbbknjaaW.PrintLast Go.Proofs.YtcdjeimjbbknjaaW.PrintMore Go.Proofs.Ytcdjeimjbbknjaa.Res
set_option linter.unusedVariables false
set_option linter.unusedSimpArgs false

end Go.Proofs.Ytcdjeimjbbknjaa.PAll
namespace Go.Proofs.Ytcdjeimjbbknjaa.PAll
open Go.RowKit Go.Proofs.YtcdjeimjbbknjaaW.PrintWords Go.Proofs.YtcdjeimjbbknjaaW.PrintLast Go.Proofs.YtcdjeimjbbknjaaW.PrintMore Go.Proofs.Ytcdjeimjbbknjaa.Res
set_option linter.unusedVariables false
set_option linter.unusedSimpArgs false

/-! ### A small graph has a small list -/
theorem graph_small {ws : List (List Int)} {n : Nat} (h : W15 ws n) (hn : n ≤ 100) : (listN (graphOf ws)).length ≤ 105000 ∧ (listB (listN (graphOf ws))).length ≤ 950000 := by
  have hg := h.good (by omega)
  have h1 := numG_le (nodesOf ws).2 ((nodesOf ws).2.length + 1) [(nodesOf ws).1] 0 []
  have h2 := bld_length 65 ws 0 [] (good_pre hg)
  have h3 : cost ws 0 = (ws.map List.length).sum := by simp [cost]
  have h4 := sum_le8 h.size
  have h5 := h.few
  change (graphOf ws).length ≤ _ at h1
  change (nodesOf ws).2.length ≤ _ at h2
  simp only [List.length_nil] at h1 h2
  obtain ⟨Q, hI, hl, h0, hk⟩ := dgraph hg
  obtain ⟨hlead, heven⟩ := inv_lead hI
  have h64 : ∀ x ∈ graphOf ws, x.f1.length ≤ 64 := fun x hx => by
    obtain ⟨i, hi, rfl⟩ := List.getElem_of_mem hx
    have hn := hI.nds i hi
    rw [rdN_at hi] at hn
    have hm : rdP Q (i : Int) ∈ Q := rdP_mem (by omega) (by rw [hI.len]; omega)
    have hs := syms_sym (hI.srt _ hm) (hI.sym _ hm)
    rw [← hn.syms] at hs
    exact inc_small (hn.inc (hI.srt _ hm)) hs
  have hb := bodyN_le (graphOf ws) fun x hx => ⟨heven x hx, h64 x hx⟩
  have hlen : (listN (graphOf ws)).length ≤ 105000 := by simp only [listN, List.length_cons]; omega
  refine ⟨hlen, ?_⟩
  have key : ∀ l : List Int, (intsB l).length ≤ 9 * l.length := by
    intro l
    induction l with
    | nil => simp [intsB]
    | cons x l ih =>
      rw [intsB_cons, List.length_append, List.length_cons, intB_length]
      have := lenD_le 8 (magI x); omega
  have := key (listN (graphOf ws))
  have h9 := intB_length ((listN (graphOf ws)).length : Int)
  have := lenD_le 8 (magI ((listN (graphOf ws)).length : Int))
  unfold listB
  rw [List.length_append]; omega
/-- The graph tells the words. -/
theorem list_inj {v w : List (List Int)} (hv : Good v) (hw : Good w) (e : listN (graphOf v) = listN (graphOf w)) : v = w := by
  have a := decN_listB hv
  have b := decN_listB hw
  rw [e] at a
  exact congrArg Prod.fst (a.symm.trans b)
theorem code_inj {v w : List (List Int)} (hv : Good v) (hw : Good w) : listB (listN (graphOf v)) = listB (listN (graphOf w)) ↔ v = w := by
  constructor
  · intro e
    have a := graph_list hv
    have b := graph_list hw
    exact list_inj hv hw (listB_inj a.2.2.2.2 (by have := a.2.2.2.1; omega) b.2.2.2.2 (by have := b.2.2.2.1; omega) e)
  · rintro rfl; rfl
theorem code_str {v w : List (List Int)} (hv : Good v) (hw : Good w) : ((strOfNums (listB (listN (graphOf v)))).toList == (strOfNums (listB (listN (graphOf w)))).toList) = decide (v = w) := by
  have a := graph_list hv
  have b := graph_list hw
  have ba := listB_byt a.2.2.2.2 (by have := a.2.2.2.1; omega)
  have bb := listB_byt b.2.2.2.2 (by have := b.2.2.2.1; omega)
  by_cases h : v = w
  · rw [decide_eq_true h, h]; exact beq_self_eq_true _
  · rw [decide_eq_false h]
    refine beq_eq_false_iff_ne.2 fun e => h ((code_inj hv hw).1 ?_)
    rw [ByteArray.toList_eq, ByteArray.toList_eq, strOfNums_data, strOfNums_data] at e
    exact bytes_inj _ _ ba bb e
theorem code_byt {v : List (List Int)} (hv : Good v) : byt (listB (listN (graphOf v))) ∧ 0 < (listB (listN (graphOf v))).length := by
  have a := graph_list hv
  refine ⟨listB_byt a.2.2.2.2 (by have := a.2.2.2.1; omega), ?_⟩
  unfold listB
  rw [List.length_append]
  have := intB_ne ((listN (graphOf v)).length : Int)
  omega
theorem decN_pre {v : List (List Int)} (hv : Good v) {n : Nat} (hn : n < (listB (listN (graphOf v))).length) : (decN ((listB (listN (graphOf v))).take n)).2 ≠ 0 := by
  have a := graph_list hv
  have h := getsI_pre a.2.2.2.2 (by have := a.2.2.2.1; omega) hn
  unfold decN
  rw [if_pos h]
  exact h
/-! ### The calls -/
theorem en_decode {v : List (List Int)} (hv : Good v) (hlen : (listB (listN (graphOf v))).length ≤ 1000000) (A : Option Addr) (c : Nat) (W : World) (hC : Kd.C (Kd.int .u8) W A (listB (listN (graphOf v))).length (listB (listN (graphOf v)))) (hc : (listB (listN (graphOf v))).length ≤ c) :
    Calls Try.prog 36 #[.slice A (listB (listN (graphOf v))).length c] W fun e w' => ∃ g, e = .returned (.tuple #[.pointer (some ⟨g, 0, none⟩), .int .i64 0]) ∧ GraphAt w' g (graphOf v) ∧ Below W.heap.size W w' := by
  refine (decode_any A c _ W hC hc (code_byt hv).1 hlen).mono ?_
  rintro e w' ⟨hb, h⟩
  rw [decN_listB hv] at h
  rcases h with ⟨_, g, rfl, hg⟩ | ⟨h, _⟩
  · exact ⟨g, rfl, hg, hb⟩
  · exact absurd rfl h
theorem en_pre {v : List (List Int)} (hv : Good v) (hlen : (listB (listN (graphOf v))).length ≤ 1000000) (n : Nat) (hn : n < (listB (listN (graphOf v))).length) (A : Option Addr) (c : Nat) (W : World) (hC : Kd.C (Kd.int .u8) W A n ((listB (listN (graphOf v))).take n)) (hc : n ≤ c) :
    Calls Try.prog 36 #[.slice A n c] W fun e w' => ∃ q : Int, q ≠ 0 ∧ e = .returned (.tuple #[.pointer none, .int .i64 q]) ∧ Below W.heap.size W w' := by
  have hl : ((listB (listN (graphOf v))).take n).length = n := by rw [List.length_take]; omega
  have := decode_any A c ((listB (listN (graphOf v))).take n) W (by rw [hl]; exact hC) (by omega) (fun x hx => (code_byt hv).1 x (List.mem_of_mem_take hx)) (by omega)
  rw [hl] at this
  refine this.mono ?_
  rintro e w' ⟨hb, h⟩
  have hne := decN_pre hv hn
  rcases h with ⟨h, _⟩ | ⟨_, h⟩
  · exact absurd h hne
  · exact ⟨_, hne, h, hb⟩
theorem en_put {out : List (List Int)} (hl : out.length ≤ 1000) (hs : ∀ v ∈ out, v.length ≤ 1000) (a : Int) (A : Option Addr) (c : Nat) (W : World) (hC : Kd.C (Kd.slice 3 (Kd.int .i64)) W A out.length out) (hc : out.length ≤ c) :
    Calls Try.prog 34 #[.slice A out.length c, .slice (some ⟨W.heap.size, 0, none⟩) 2 2] (W.alloc (.cells #[.int .i64 a, .int .i64 3] 3)) fun e w' => ∃ A' c', e = .returned (.slice A' (ins15 [a, 3] out).length c') ∧ (ins15 [a, 3] out).length ≤ c' ∧ Kd.C (Kd.slice 3 (Kd.int .i64)) w' A' (ins15 [a, 3] out).length (ins15 [a, 3] out) ∧ Below W.heap.size W w' := by
  have h0 := below_alloc (Below.refl W.heap.size W) (.cells #[.int .i64 a, .int .i64 3] 3)
  have hv1 : Kd.V (Kd.slice 3 (Kd.int .i64)) 22 (W.alloc (.cells #[.int .i64 a, .int .i64 3] 3)) (W.alloc (.cells #[.int .i64 a, .int .i64 3] 3)).heap.size (fun k => k < (W.alloc (.cells #[.int .i64 a, .int .i64 3] 3)).heap.size) (.slice A out.length c) out := ⟨A, c, rfl, hc, Kd.C_F (Kd.heap_slice 3 (Kd.heap_int .i64)) (Kd.C_below hC h0)⟩
  have hv2 : Kd.V (Kd.int .i64) 3 (W.alloc (.cells #[.int .i64 a, .int .i64 3] 3)) (W.alloc (.cells #[.int .i64 a, .int .i64 3] 3)).heap.size (fun k => k < (W.alloc (.cells #[.int .i64 a, .int .i64 3] 3)).heap.size) (.slice (some ⟨W.heap.size, 0, none⟩) 2 2) [a, 3] := ⟨_, 2, rfl, Nat.le_refl _, Kd.C_F (Kd.heap_int .i64) (cb_new W [a, 3] (by simp))⟩
  refine (wordbookref15_Put.calls 3000000 _ A c out _ _ 2 [a, 3] _ _ hv1 hv2 (put15_is out [a, 3] (by omega) (fun v hv => by have := hs v hv; omega) 3000000 (Nat.le_refl _))).mono ?_
  rintro e w' ⟨v, rfl, hN, hb⟩
  obtain ⟨A', c', rfl, hl', hC'⟩ := Kd.N_reads hN
  exact ⟨A', c', rfl, hl', hC', h0.trans (hb.mono h0.size)⟩
theorem en_order (a b : List Int) (A0 A1 : Option Addr) (c0 c1 : Nat) (w : World) (k : Nat) (hr0 : Kd.C (Kd.int .i64) w A0 a.length a) (hc0 : a.length ≤ c0) (hr1 : Kd.C (Kd.int .i64) w A1 b.length b) (hc1 : b.length ≤ c1) (ha : a.length ≤ 1000000) :
    Calls Try.prog 37 #[.slice A0 a.length c0, .slice A1 b.length c1] (w.drewN k) fun e w'' => e = .returned (.int .i64 (cmpL a b)) ∧ ∃ q, w'' = w.drewN q := by
  refine Calls.quiet_of ((wordbookref06_Order.calls 3000000 A0 c0 a A1 c1 b _ (w.drewN k) (Kd.C_drewN hr0 k) hc0 (Kd.C_drewN hr1 k) hc1 (order_is a b (by omega) 3000000 (by omega))).mono ?_)
  rintro e w' ⟨rfl, ⟨m, rfl⟩⟩
  exact ⟨rfl, m, rfl⟩
theorem en_conv (A : Option Addr) (n c : Nat) (xs : List Int) (W : World) (h : Kd.C (Kd.int .u8) W A n xs) : (convert 55 9 (.slice A n c)).run Try.prog W = .ok (.string (strOfNums xs)) W := Kd.C_string Try.underlying55 Try.underlying5 Try.underlying9 h
end Go.Proofs.Ytcdjeimjbbknjaa.PAll
namespace Go.Proofs.Ytcdjeimjbbknjaa.PAll
open Go.RowKit Go.Proofs.YtcdjeimjbbknjaaW.PrintWords Go.Proofs.YtcdjeimjbbknjaaW.PrintLast Go.Proofs.YtcdjeimjbbknjaaW.PrintMore Go.Proofs.Ytcdjeimjbbknjaa.Res
set_option linter.unusedVariables false
set_option linter.unusedSimpArgs false

set_option maxHeartbeats 8000000 in
set_option maxRecDepth 100000 in
theorem encodes_true (A0 : Option Addr) (c0 : Nat) (l0 : List Int) (A1 : Option Addr) (c1 : Nat) (l1 : List Int) (a2 a3 : Int) (w : World) (hr0 : Kd.C (Kd.int .i64) w A0 l0.length l0) (hc0 : l0.length ≤ c0) (hr1 : Kd.C (Kd.int .i64) w A1 l1.length l1) (hc1 : l1.length ≤ c1)
    (hx0 : ∀ x ∈ l0, -9223372036854775808 ≤ x ∧ x ≤ 9223372036854775807) (hx1 : ∀ x ∈ l1, -9223372036854775808 ≤ x ∧ x ≤ 9223372036854775807) (hx2 : -9223372036854775808 ≤ a2 ∧ a2 ≤ 9223372036854775807) (hx3 : -9223372036854775808 ≤ a3 ∧ a3 ≤ 9223372036854775807) :
    Calls Try.prog 6 #[.slice A0 l0.length c0, .slice A1 l1.length c1, .int .i64 a2, .int .i64 a3] w fun e w' => e = .returned (.bool true) ∧ Below w.heap.size w w' := by
  obtain ⟨q2, hq2⟩ : ∃ q2, IntKind.i64.wrap (Int.tdiv a2 25) = q2 := ⟨_, rfl⟩
  have hq2r : -9223372036854775808 ≤ q2 ∧ q2 ≤ 9223372036854775807 := by rw [← hq2, IntKind.wrap_i64]; omega
  have har := around_range a2 25 (by decide)
  have har2 := around_range q2 25 (by decide)
  obtain ⟨v, hv, h15⟩ := words15_is l0 hx0 (around a2 25) har.1 (by omega)
  obtain ⟨w1_, hw1, h15w⟩ := words15_is l1 hx1 (around q2 25) har2.1 (by omega)
  have HV15 := Aside0.mk h15
  have HGv := Aside0.mk (h15.good (by omega))
  have hW15 := h15w.good (by omega)
  have HWf := Aside0.mk hW15
  have HVf : Aside0 (v.length ≤ 1000) := ⟨by have := h15.few; omega⟩
  have HVs : Aside0 (∀ u ∈ v, u.length ≤ 1000) := ⟨fun u hu => by have := h15.size u hu; omega⟩
  have HPg : Aside0 (Good (ins15 [around a3 9, 3] v)) := ⟨(h15.put (w := [around a3 9, 3]) (by simp) (fun s hs => by
    have := around_range a3 9 (by decide)
    rcases List.mem_cons.1 hs with rfl | hs
    · omega
    · rw [List.mem_singleton.1 hs]; omega)).good (by omega)⟩
  have HBv : Aside0 ((listB (listN (graphOf v))).length ≤ 1000000) := ⟨by have := (graph_small h15 (by omega)).2; omega⟩
  have HWv := Aside0.mk hv
  have HWw := Aside0.mk hw1
  have HR0 := Aside0.mk hr0
  have HR1 := Aside0.mk hr1
  have HX2 := Aside0.mk hx2
  have HX3 := Aside0.mk hx3
  have HXq := Aside0.mk hq2r
  clear hv hw1 h15 h15w hW15 hr0 hr1 hx0 hx1 hx2 hx3 hq2r har har2
  go_enter Try.func6, Try.ntmps6
  go_upto_if 36 with (first
    | (go_at_call 18; ((with_reducible refine (dl_around a2 25 _ (by decide) HX2.out).mono ?_); rintro e w1 ⟨rfl, hb1⟩; have HL1 := Aside0.mk (Kd.C_below HR0.out hb1); clear HR0; have HM1 := Aside0.mk (Kd.C_below HR1.out hb1); clear HR1; have HB1 := Aside0.mk (hb1); clear hb1))
    | (go_at_call 17; ((with_reducible refine (dl_words A0 c0 l0 (around a2 25) v _ HL1.out hc0 HWv.out).mono ?_); rintro e w2 ⟨Av, cv, rfl, hlv, hC2, hb2⟩; clear HL1; have HM2 := Aside0.mk (Kd.C_below HM1.out hb2); clear HM1; have HB2 := Aside0.mk (HB1.out.trans (hb2.mono HB1.out.size)); clear HB1; have HV2 := Aside0.mk (hC2); clear hb2 hC2))
    | (go_at_call 18; ((with_reducible refine (dl_around q2 25 _ (by decide) HXq.out).mono ?_); rintro e w3 ⟨rfl, hb3⟩; have HM3 := Aside0.mk (Kd.C_below HM2.out hb3); clear HM2; have HB3 := Aside0.mk (HB2.out.trans (hb3.mono HB2.out.size)); clear HB2; have HV3 := Aside0.mk (Kd.C_below HV2.out hb3); clear HV2; clear hb3))
    | (go_at_call 17; ((with_reducible refine (dl_words A1 c1 l1 (around q2 25) w1_ _ HM3.out hc1 HWw.out).mono ?_); rintro e w4 ⟨Aw, cw, rfl, hlw, hC4, hb4⟩; clear HM3; have HB4 := Aside0.mk (HB3.out.trans (hb4.mono HB3.out.size)); clear HB3; have HV4 := Aside0.mk (Kd.C_below HV3.out hb4); clear HV3; have HW4 := Aside0.mk (hC4); clear hb4 hC4))
    | fail)
  go_cut [10] from 36 (fun s10 wx => ∃ (Aw : Option Addr) (cw : Nat) (zs : List (List Int)), s10 = .slice Aw zs.length cw ∧ Aside0 (zs.length ≤ cw ∧ Good zs) ∧ Aside0 (Kd.C (Kd.slice 3 (Kd.int .i64)) wx Aw zs.length zs) ∧ Aside0 (Kd.C (Kd.slice 3 (Kd.int .i64)) wx Av v.length v) ∧ Aside0 (Below w.heap.size w wx))
  case first =>
    by_cases h3 : Int.tmod a3 3 = 0
    · have h3b : (Int.tmod a3 3 == 0) = true := beq_iff_eq.2 h3
      clear h3
      go_wp2_with (first
        | (go_at_call 18; ((with_reducible refine (dl_around a3 9 _ (by decide) HX3.out).mono ?_); rintro e w5 ⟨rfl, hb5⟩; have HB5 := Aside0.mk (HB4.out.trans (hb5.mono HB4.out.size)); clear HB4; have HV5 := Aside0.mk (Kd.C_below HV4.out hb5); clear HV4; have HW5 := Aside0.mk (Kd.C_below HW4.out hb5); clear HW4; clear hb5))
        | (go_at_call 34; ((with_reducible refine (en_put HVf.out HVs.out (around a3 9) Av cv _ HV5.out hlv).mono ?_); rintro e w6 ⟨Ap, cp, rfl, hlp, hC6, hb6⟩; have HB6 := Aside0.mk (HB5.out.trans (hb6.mono HB5.out.size)); clear HB5; have HV6 := Aside0.mk (Kd.C_below HV5.out hb6); clear HV5; have HW6 := Aside0.mk (Kd.C_below HW5.out hb6); clear HW5; have HP6 := Aside0.mk (hC6); clear hb6 hC6))
        | fail)
      go_meet
      exact ⟨Ap, cp, _, rfl, ⟨hlp, HPg.out⟩, HP6, HV6, HB6⟩
    · have h3b : (Int.tmod a3 3 == 0) = false := beq_eq_false_iff_ne.2 h3
      clear h3
      go_wp2
      go_meet
      exact ⟨Aw, cw, _, rfl, ⟨hlw, HWf.out⟩, HW4, HV4, HB4⟩
  case rest =>
    obtain ⟨Aw, cw, zs, rfl, hw2, RW, RV, RB⟩ := hcut
    have hlw := hw2.out.1
    have HGw := Aside0.mk hw2.out.2
    have HCs := Aside0.mk (code_str HGv.out HGw.out)
    have HPre := Aside0.mk (fun n hn A c W hC hc => en_pre HGv.out HBv.out n hn A c W hC hc)
    have HDec := Aside0.mk (fun A c W hC hc => en_decode HGv.out HBv.out A c W hC hc)
    have HEnv := Aside0.mk (fun g W hg => dl_encode HGv.out g W hg)
    have HEnw := Aside0.mk (fun g W hg => dl_encode HGw.out g W hg)
    have HBy := Aside0.mk (code_byt HGv.out)
    clear hw2
    generalize listB (listN (graphOf v)) = bv at *
    generalize listB (listN (graphOf zs)) = bw at *
    go_upto_region 11 with (first
      | (go_at_call 19; ((with_reducible refine (dl_build HGv.out Av cv _ RV.out hlv).mono ?_); rintro e w1 ⟨g, rfl, hG1, hb1⟩; have PV1 := Aside0.mk (Kd.C_below RV.out hb1); clear RV; have PW1 := Aside0.mk (Kd.C_below RW.out hb1); clear RW; have PB1 := Aside0.mk (RB.out.trans (hb1.mono RB.out.size)); clear RB; have PG1 := Aside0.mk (hG1); clear hb1 hG1))
      | (go_at_call 19; ((with_reducible refine (dl_build HGw.out Aw cw _ PW1.out hlw).mono ?_); rintro e w2 ⟨h, rfl, hG2, hb2⟩; have PV2 := Aside0.mk (Kd.C_below PV1.out hb2); clear PV1; have PW2 := Aside0.mk (Kd.C_below PW1.out hb2); clear PW1; have PB2 := Aside0.mk (PB1.out.trans (hb2.mono PB1.out.size)); clear PB1; have PG2 := Aside0.mk (GraphAt.below PG1.out hb2); clear PG1; have PH2 := Aside0.mk (hG2); clear hb2 hG2))
      | (go_at_call 35; ((with_reducible refine (HEnv.out g _ PG2.out).mono ?_); rintro e w3 ⟨Ab, cb, rfl, hlb, hC3, hb3⟩; have PV3 := Aside0.mk (Kd.C_below PV2.out hb3); clear PV2; have PW3 := Aside0.mk (Kd.C_below PW2.out hb3); clear PW2; have PB3 := Aside0.mk (PB2.out.trans (hb3.mono PB2.out.size)); clear PB2; have PG3 := Aside0.mk (GraphAt.below PG2.out hb3); clear PG2; have PH3 := Aside0.mk (GraphAt.below PH2.out hb3); clear PH2; have Pb3 := Aside0.mk (hC3); clear hb3 hC3))
      | (go_at_call 36; ((with_reducible refine (HDec.out Ab cb _ Pb3.out hlb).mono ?_); rintro e w4 ⟨x, rfl, hG4, hb4⟩; have PV4 := Aside0.mk (Kd.C_below PV3.out hb4); clear PV3; have PW4 := Aside0.mk (Kd.C_below PW3.out hb4); clear PW3; have PB4 := Aside0.mk (PB3.out.trans (hb4.mono PB3.out.size)); clear PB3; have PG4 := Aside0.mk (GraphAt.below PG3.out hb4); clear PG3; have PH4 := Aside0.mk (GraphAt.below PH3.out hb4); clear PH3; have Pb4 := Aside0.mk (Kd.C_below Pb3.out hb4); clear Pb3; have PX4 := Aside0.mk (hG4); clear hb4 hG4))
      | fail)
    obtain ⟨W5, hW5⟩ : ∃ W5, W5 = w4 := ⟨_, rfl⟩
    have hlb0 : ((bv.length : Int) == 0) = false := beq_eq_false_iff_ne.2 (by have := HBy.out.2; omega)
    have HSc : Aside0 (∀ X, Below w4.heap.size w4 X → (convert 55 9 (.slice Ab bv.length cb)).run Try.prog X = .ok (.string (strOfNums bv)) X) := ⟨fun X hb => en_conv Ab _ cb bv X (Kd.C_below Pb4.out hb)⟩
    have hbr := Below.refl w4.heap.size w4
    have hbd : Below w4.heap.size w4 w4.drew := hbr.drew
    clear hW5
    refine start_ (n := 26) (S := fun w' => (convert 55 9 (.slice Ab bv.length cb)).run Try.prog w' = .ok (.string (strOfNums bv)) w') (ds := []) #[false, false, false, false, false, false, false, false, false, false, false, false, false, false, false, false, false, false, false, false, false, false, false, false, false, false] (by kernel_rfl) rfl rfl (HSc.out _ hbd) (fun hHeld => ?_)
    refine pure_ (i := 0) (N := some 73) (v := ?_) (a' := ?_) #[true, false, false, false, false, false, false, false, false, false, false, false, false, false, false, false, false, false, false, false, false, false, false, false, false, false] rfl rfl (by kernel_rfl) (fun _ _ _ h => h) (Or.inl ⟨by rfl, ?_⟩) ?_ ?_
    rotate_left
    · intro w'
      go_simp
      with_reducible rfl
    rotate_left
    · simp only [Act.put, List.setIfInBounds_toArray, List.set_cons_zero, List.set_cons_succ, i64_w, i32_w]
      rfl
    refine pure_ (i := 1) (N := some 74) (v := ?_) (a' := ?_) #[true, true, false, false, false, false, false, false, false, false, false, false, false, false, false, false, false, false, false, false, false, false, false, false, false, false] rfl rfl (by kernel_rfl) (fun _ _ _ h => h) (Or.inl ⟨by rfl, ?_⟩) ?_ ?_
    rotate_left
    · intro w'
      go_simp
      with_reducible rfl
    rotate_left
    · simp only [Act.put, List.setIfInBounds_toArray, List.set_cons_zero, List.set_cons_succ, i64_w, i32_w]
      rfl
    refine pure_ (i := 2) (N := some 75) (v := ?_) (a' := ?_) #[true, true, true, false, false, false, false, false, false, false, false, false, false, false, false, false, false, false, false, false, false, false, false, false, false, false] rfl rfl (by kernel_rfl) (fun _ _ _ h => h) (Or.inl ⟨by rfl, ?_⟩) ?_ ?_
    rotate_left
    · intro w'
      go_simp
      with_reducible rfl
    rotate_left
    · simp only [Act.put, List.setIfInBounds_toArray, List.set_cons_zero, List.set_cons_succ, i64_w, i32_w]
      rfl
    refine pure_ (i := 3) (N := some 76) (v := ?_) (a' := ?_) #[true, true, true, true, false, false, false, false, false, false, false, false, false, false, false, false, false, false, false, false, false, false, false, false, false, false] rfl rfl (by kernel_rfl) (fun _ _ _ h => h) (Or.inl ⟨by rfl, ?_⟩) ?_ ?_
    rotate_left
    · intro w'
      go_simp
      with_reducible rfl
    rotate_left
    · simp only [Act.put, List.setIfInBounds_toArray, List.set_cons_zero, List.set_cons_succ, i64_w, i32_w]
      rfl
    refine pure_ (i := 4) (N := some 77) (v := ?_) (a' := ?_) #[true, true, true, true, true, false, false, false, false, false, false, false, false, false, false, false, false, false, false, false, false, false, false, false, false, false] rfl rfl (by kernel_rfl) (fun _ _ _ h => h) (Or.inl ⟨by rfl, ?_⟩) ?_ ?_
    rotate_left
    · intro w'
      go_simp
      with_reducible rfl
    rotate_left
    · simp only [Act.put, List.setIfInBounds_toArray, List.set_cons_zero, List.set_cons_succ, i64_w, i32_w]
      rfl
    refine pure_ (i := 5) (N := some 78) (v := ?_) (a' := ?_) #[true, true, true, true, true, true, false, false, false, false, false, false, false, false, false, false, false, false, false, false, false, false, false, false, false, false] rfl rfl (by kernel_rfl) (fun _ _ _ h => h) (Or.inl ⟨by rfl, ?_⟩) ?_ ?_
    rotate_left
    · intro w'
      go_simp
      with_reducible rfl
    rotate_left
    · simp only [Act.put, List.setIfInBounds_toArray, List.set_cons_zero, List.set_cons_succ, i64_w, i32_w]
      rfl
    refine pure_ (i := 6) (N := some 79) (v := ?_) (a' := ?_) #[true, true, true, true, true, true, true, false, false, false, false, false, false, false, false, false, false, false, false, false, false, false, false, false, false, false] rfl rfl (by kernel_rfl) (fun _ _ _ h => h) (Or.inl ⟨by rfl, ?_⟩) ?_ ?_
    rotate_left
    · intro w'
      go_simp
      with_reducible rfl
    rotate_left
    · simp only [Act.put, List.setIfInBounds_toArray, List.set_cons_zero, List.set_cons_succ, i64_w, i32_w]
      rfl
    refine pure_ (i := 7) (N := some 80) (v := ?_) (a' := ?_) #[true, true, true, true, true, true, true, true, false, false, false, false, false, false, false, false, false, false, false, false, false, false, false, false, false, false] rfl rfl (by kernel_rfl) (fun _ _ _ h => h) (Or.inl ⟨by rfl, ?_⟩) ?_ ?_
    rotate_left
    · intro w'
      go_simp
      with_reducible rfl
    rotate_left
    · simp only [Act.put, List.setIfInBounds_toArray, List.set_cons_zero, List.set_cons_succ, i64_w, i32_w]
      rfl
    refine pure_ (i := 8) (N := some 81) (v := ?_) (a' := ?_) #[true, true, true, true, true, true, true, true, true, false, false, false, false, false, false, false, false, false, false, false, false, false, false, false, false, false] rfl rfl (by kernel_rfl) (fun _ _ _ h => h) (Or.inl ⟨by rfl, ?_⟩) ?_ ?_
    rotate_left
    · intro w'
      go_simp
      with_reducible rfl
    rotate_left
    · simp only [Act.put, List.setIfInBounds_toArray, List.set_cons_zero, List.set_cons_succ, i64_w, i32_w]
      rfl
    refine pure_ (i := 9) (N := some 82) (v := ?_) (a' := ?_) #[true, true, true, true, true, true, true, true, true, true, false, false, false, false, false, false, false, false, false, false, false, false, false, false, false, false] rfl rfl (by kernel_rfl) (fun _ _ _ h => h) (Or.inl ⟨by rfl, ?_⟩) ?_ ?_
    rotate_left
    · intro w'
      go_simp
      with_reducible rfl
    rotate_left
    · simp only [Act.put, List.setIfInBounds_toArray, List.set_cons_zero, List.set_cons_succ, i64_w, i32_w]
      rfl
    refine pure_ (i := 10) (N := some 83) (v := ?_) (a' := ?_) #[true, true, true, true, true, true, true, true, true, true, true, false, false, false, false, false, false, false, false, false, false, false, false, false, false, false] rfl rfl (by kernel_rfl) (fun _ _ _ h => h) (Or.inl ⟨by rfl, ?_⟩) ?_ ?_
    rotate_left
    · intro w'
      go_simp
      with_reducible rfl
    rotate_left
    · simp only [Act.put, List.setIfInBounds_toArray, List.set_cons_zero, List.set_cons_succ, i64_w, i32_w]
      rfl
    refine pure_ (i := 11) (N := some 84) (v := ?_) (a' := ?_) #[true, true, true, true, true, true, true, true, true, true, true, true, false, false, false, false, false, false, false, false, false, false, false, false, false, false] rfl rfl (by kernel_rfl) (fun _ _ _ h => h) (Or.inl ⟨by rfl, ?_⟩) ?_ ?_
    rotate_left
    · intro w'
      go_simp
      with_reducible rfl
    rotate_left
    · simp only [Act.put, List.setIfInBounds_toArray, List.set_cons_zero, List.set_cons_succ, i64_w, i32_w]
      rfl
    refine pure_ (i := 12) (N := some 85) (v := ?_) (a' := ?_) #[true, true, true, true, true, true, true, true, true, true, true, true, true, false, false, false, false, false, false, false, false, false, false, false, false, false] rfl rfl (by kernel_rfl) (fun _ _ _ h => h) (Or.inl ⟨by rfl, ?_⟩) ?_ ?_
    rotate_left
    · intro w'
      go_simp
      with_reducible rfl
    rotate_left
    · simp only [Act.put, List.setIfInBounds_toArray, List.set_cons_zero, List.set_cons_succ, i64_w, i32_w]
      rfl
    refine pure_ (i := 14) (N := some 87) (v := ?_) (a' := ?_) #[true, true, true, true, true, true, true, true, true, true, true, true, true, false, true, false, false, false, false, false, false, false, false, false, false, false] rfl rfl (by kernel_rfl) (fun _ _ _ h => h) (Or.inl ⟨by rfl, ?_⟩) ?_ ?_
    rotate_left
    · intro w'
      go_simp
      with_reducible rfl
    rotate_left
    · simp only [Act.put, List.setIfInBounds_toArray, List.set_cons_zero, List.set_cons_succ, i64_w, i32_w]
      rfl
    refine pure_ (i := 15) (N := some 88) (v := ?_) (a' := ?_) #[true, true, true, true, true, true, true, true, true, true, true, true, true, false, true, true, false, false, false, false, false, false, false, false, false, false] rfl rfl (by kernel_rfl) (fun _ _ _ h => h) (Or.inl ⟨by rfl, ?_⟩) ?_ ?_
    rotate_left
    · intro w'
      go_simp
      with_reducible rfl
    rotate_left
    · simp only [Act.put, List.setIfInBounds_toArray, List.set_cons_zero, List.set_cons_succ, i64_w, i32_w]
      rfl
    refine one_ (i := 13) (N := some 86) #[true, true, true, true, true, true, true, true, true, true, true, true, true, true, true, true, false, false, false, false, false, false, false, false, false, false] rfl rfl (by kernel_rfl) (by decide) (fun K hK => ?_)
    refine goes_ Try.func30 (by kernel_rfl) rfl #[.pointer (some ⟨x, 0, none⟩)] (by rfl) rfl rfl (by simp only [List.map_toArray, List.map_cons, List.map_nil] <;> rfl) ?_
    with_reducible refine (dl_lenB HGv.out x _ (PX4.out.below hbd)).mono ?_
    rintro e w6 ⟨rfl, hb6q⟩
    refine ⟨_, rfl, ?_⟩
    have hb6 : Below w4.heap.size w4 w6 := hbd.trans (hb6q.mono hbd.size)
    refine hK.out _ _ (HSc.out _ hb6) (fun hHeld => ?_)
    clear hK K
    refine norm_ (a' := ?_) ?_ ?_
    rotate_left
    · show Act.put _ (some 86) _ = _
      simp only [Act.put, List.setIfInBounds_toArray, List.set_cons_zero, List.set_cons_succ, i64_w, i32_w]
      rfl
    refine pure_ (i := 16) (N := some 89) (v := ?_) (a' := ?_) #[true, true, true, true, true, true, true, true, true, true, true, true, true, true, true, true, true, false, false, false, false, false, false, false, false, false] rfl rfl (by kernel_rfl) (fun _ _ _ h => h) (Or.inl ⟨by rfl, ?_⟩) ?_ ?_
    rotate_left
    · intro w'
      go_simp
      with_reducible rfl
    rotate_left
    · simp only [Act.put, List.setIfInBounds_toArray, List.set_cons_zero, List.set_cons_succ, i64_w, i32_w]
      rfl
    refine pure_ (i := 17) (N := some 90) (v := ?_) (a' := ?_) #[true, true, true, true, true, true, true, true, true, true, true, true, true, true, true, true, true, true, false, false, false, false, false, false, false, false] rfl rfl (by kernel_rfl) (fun _ _ _ h => h) (Or.inl ⟨by rfl, ?_⟩) ?_ ?_
    rotate_left
    · intro w'
      go_simp
      with_reducible rfl
    rotate_left
    · simp only [Act.put, List.setIfInBounds_toArray, List.set_cons_zero, List.set_cons_succ, i64_w, i32_w]
      rfl
    refine pure_ (i := 18) (N := some 91) (v := ?_) (a' := ?_) #[true, true, true, true, true, true, true, true, true, true, true, true, true, true, true, true, true, true, true, false, false, false, false, false, false, false] rfl rfl (by kernel_rfl) (fun _ _ _ h => h) (Or.inl ⟨by rfl, ?_⟩) ?_ ?_
    rotate_left
    · intro w'
      go_simp
      with_reducible rfl
    rotate_left
    · simp only [Act.put, List.setIfInBounds_toArray, List.set_cons_zero, List.set_cons_succ, i64_w, i32_w]
      rfl
    refine pure_ (i := 19) (N := some 92) (v := ?_) (a' := ?_) #[true, true, true, true, true, true, true, true, true, true, true, true, true, true, true, true, true, true, true, true, false, false, false, false, false, false] rfl rfl (by kernel_rfl) (fun _ _ _ h => h) (Or.inl ⟨by rfl, ?_⟩) ?_ ?_
    rotate_left
    · intro w'
      go_simp
      with_reducible rfl
    rotate_left
    · simp only [Act.put, List.setIfInBounds_toArray, List.set_cons_zero, List.set_cons_succ, i64_w, i32_w]
      rfl
    refine pure_ (i := 22) (N := some 95) (v := ?_) (a' := ?_) #[true, true, true, true, true, true, true, true, true, true, true, true, true, true, true, true, true, true, true, true, false, false, true, false, false, false] rfl rfl (by kernel_rfl) (fun _ _ _ h => h) (Or.inl ⟨by rfl, ?_⟩) ?_ ?_
    rotate_left
    · intro w'
      go_simp
      with_reducible rfl
    rotate_left
    · simp only [Act.put, List.setIfInBounds_toArray, List.set_cons_zero, List.set_cons_succ, i64_w, i32_w]
      rfl
    refine take_ (i := 23) (N := some 96) (v := ?_) (a' := ?_) #[true, true, true, true, true, true, true, true, true, true, true, true, true, true, true, true, true, true, true, true, false, false, true, true, false, false] rfl rfl (by kernel_rfl) (fun _ _ _ h => h) (Or.inl ⟨by rfl, ?_⟩) hHeld ?_ ?_
    rotate_left
    · intro w' s0
      go_simp
      with_reducible rfl
    rotate_left
    · simp only [Act.put, List.setIfInBounds_toArray, List.set_cons_zero, List.set_cons_succ, i64_w, i32_w]
      rfl
    refine one_ (i := 20) (N := some 93) #[true, true, true, true, true, true, true, true, true, true, true, true, true, true, true, true, true, true, true, true, true, false, true, true, false, false] rfl rfl (by kernel_rfl) (by decide) (fun K hK => ?_)
    refine goes_ Try.func35 (by kernel_rfl) rfl #[.pointer (some ⟨x, 0, none⟩)] (by rfl) rfl rfl (by simp only [List.map_toArray, List.map_cons, List.map_nil] <;> rfl) ?_
    with_reducible refine (HEnv.out x _ (PX4.out.below hb6)).mono ?_
    rintro e w7 ⟨A7, c7, rfl, hl7, hC7, hb7q⟩
    refine ⟨_, rfl, ?_⟩
    have hb7 : Below w4.heap.size w4 w7 := hb6.trans (hb7q.mono hb6.size)
    have hcv7 := en_conv A7 _ c7 bv w7 hC7
    refine hK.out _ _ (HSc.out _ hb7) (fun hHeld => ?_)
    clear hK K
    refine norm_ (a' := ?_) ?_ ?_
    rotate_left
    · show Act.put _ (some 93) _ = _
      simp only [Act.put, List.setIfInBounds_toArray, List.set_cons_zero, List.set_cons_succ, i64_w, i32_w]
      rfl
    refine one_ (i := 21) (N := some 94) #[true, true, true, true, true, true, true, true, true, true, true, true, true, true, true, true, true, true, true, true, true, true, true, true, false, false] rfl rfl (by kernel_rfl) (by decide) (fun K hK => ?_)
    refine value_ (w1 := ?_) (v := ?_) (by rfl) rfl ?_ ?_
    rotate_left 2
    · go_simp
      constructor
      · rfl
      · rfl
    refine hK.out _ _ (HSc.out _ hb7) (fun hHeld => ?_)
    clear hK K
    refine norm_ (a' := ?_) ?_ ?_
    rotate_left
    · show Act.put _ (some 94) _ = _
      simp only [Act.put, List.setIfInBounds_toArray, List.set_cons_zero, List.set_cons_succ, i64_w, i32_w]
      rfl
    refine pure_ (i := 24) (N := some 97) (v := ?_) (a' := ?_) #[true, true, true, true, true, true, true, true, true, true, true, true, true, true, true, true, true, true, true, true, true, true, true, true, true, false] rfl rfl (by kernel_rfl) (fun _ _ _ h => h) (Or.inl ⟨by rfl, ?_⟩) ?_ ?_
    rotate_left
    · intro w'
      go_simp
      with_reducible rfl
    rotate_left
    · simp only [Act.put, List.setIfInBounds_toArray, List.set_cons_zero, List.set_cons_succ, i64_w, i32_w]
      rfl
    refine pure_ (i := 25) (N := some 98) (v := ?_) (a' := ?_) #[true, true, true, true, true, true, true, true, true, true, true, true, true, true, true, true, true, true, true, true, true, true, true, true, true, true] rfl rfl (by kernel_rfl) (fun _ _ _ h => h) (Or.inl ⟨by rfl, ?_⟩) ?_ ?_
    rotate_left
    · intro w'
      go_simp
      with_reducible rfl
    rotate_left
    · simp only [Act.put, List.setIfInBounds_toArray, List.set_cons_zero, List.set_cons_succ, i64_w, i32_w]
      rfl
    refine done_ (by kernel_rfl) ?_
    have HV7 := Aside0.mk (Kd.C_below PV4.out hb7)
    have HW7 := Aside0.mk (Kd.C_below PW4.out hb7)
    have HH7 := Aside0.mk (PH4.out.below hb7)
    have Hb7 := Aside0.mk (Kd.C_below Pb4.out hb7)
    have HX7 := Aside0.mk (PX4.out.below hb7)
    have HB7 := Aside0.mk (PB4.out.trans (hb7.mono PB4.out.size))
    clear hb7 hb7q hcv7 hb6 hb6q hbd hbr hlb0 hC7
    go_wp2
    go_loopw [18] (fun s18 wr => ∃ k : Nat, s18 = .int .i64 (k : Int) ∧ Aside0 (k ≤ v.length) ∧ Aside0 (Kd.C (Kd.slice 3 (Kd.int .i64)) wr Av v.length v) ∧ Aside0 (Kd.C (Kd.slice 3 (Kd.int .i64)) wr Aw zs.length zs) ∧ Aside0 (GraphAt wr h (graphOf zs)) ∧ Aside0 (Kd.C (Kd.int .u8) wr Ab bv.length bv) ∧ Aside0 (GraphAt wr x (graphOf v)) ∧ Aside0 (Below w.heap.size w wr)) (fun s18 _ => v.length - (intOf s18).toNat)
    case atStart => exact ⟨0, rfl, ⟨Nat.zero_le _⟩, HV7, HW7, HH7, Hb7, HX7, HB7⟩
    case round =>
      obtain ⟨k, rfl, hkl, RV, RW, RH, Rb, RX, RB⟩ := hrel
      have hvf := HVf.out
      by_cases hk : k < v.length
      · obtain ⟨ad, Ai, ci, hAv, rx, hli, hCi⟩ := at_rows RV.out (k : Int) (by omega) (by omega)
        subst hAv
        have RU := Aside0.mk hCi
        have HUl : Aside0 ((rdR v (k : Int)).length ≤ 1000000) := ⟨by have := HVs.out _ (List.getElem_mem hk); rw [rdR_get hk]; omega⟩
        rw [Int.toNat_natCast] at rx
        have hkk : (k : Int) < (v.length : Int) := by omega
        have w1 : IntKind.i64.wrap ((k : Int) + 1) = (k : Int) + 1 := wrap_in (by omega) (by omega)
        clear hCi
        go_wp2_with (first
          | (go_at_call 26; ((with_reducible refine (dl_word HGv.out x k hk _ RX.out).mono ?_); rintro e w1 ⟨Ay, cy, rfl, hly, hC1, hb1⟩; have JV1 := Aside0.mk (Kd.C_below RV.out hb1); clear RV; have JW1 := Aside0.mk (Kd.C_below RW.out hb1); clear RW; have JH1 := Aside0.mk (GraphAt.below RH.out hb1); clear RH; have Jb1 := Aside0.mk (Kd.C_below Rb.out hb1); clear Rb; have JX1 := Aside0.mk (GraphAt.below RX.out hb1); clear RX; have JB1 := Aside0.mk (RB.out.trans (hb1.mono RB.out.size)); clear RB; have JU1 := Aside0.mk (Kd.C_below RU.out hb1); clear RU; have Jx1 := pw_cell_below hb1 rx; clear rx; have JY1 := Aside0.mk (hC1); clear hb1 hC1))
          | (go_at_call 27; ((with_reducible refine (tw_same (rdR v (k : Int)) Ay Ai cy ci _ JY1.out hly JU1.out hli HUl.out).mono ?_); rintro e w2 ⟨rfl, hb2⟩; have JV2 := Aside0.mk (Kd.C_below JV1.out hb2); clear JV1; have JW2 := Aside0.mk (Kd.C_below JW1.out hb2); clear JW1; have JH2 := Aside0.mk (GraphAt.below JH1.out hb2); clear JH1; have Jb2 := Aside0.mk (Kd.C_below Jb1.out hb2); clear Jb1; have JX2 := Aside0.mk (GraphAt.below JX1.out hb2); clear JX1; have JB2 := Aside0.mk (JB1.out.trans (hb2.mono JB1.out.size)); clear JB1; have JU2 := Aside0.mk (Kd.C_below JU1.out hb2); clear JU1; have Jx2 := pw_cell_below hb2 Jx1; clear Jx1; clear JY1; clear hb2))
          | fail)
        go_roundw
        case rel => exact ⟨k + 1, by go_num, ⟨hk⟩, JV2, JW2, JH2, Jb2, JX2, JB2⟩
        case measure => simp [intOf]; omega
      · have hkk : ¬ (k : Int) < (v.length : Int) := by omega
        go_wp2
        go_loopw [21, 22] (fun s21 s22 wr => ∃ (m : Nat) (sm : Bool), s22 = .int .i64 (m : Int) ∧ s21 = .bool sm ∧ Aside0 (m ≤ v.length ∧ sm = decide (v.length = zs.length ∧ v.take m = zs.take m)) ∧ Aside0 (Kd.C (Kd.slice 3 (Kd.int .i64)) wr Av v.length v) ∧ Aside0 (Kd.C (Kd.slice 3 (Kd.int .i64)) wr Aw zs.length zs) ∧ Aside0 (GraphAt wr h (graphOf zs)) ∧ Aside0 (Kd.C (Kd.int .u8) wr Ab bv.length bv) ∧ Aside0 (Below w.heap.size w wr)) (fun _ s22 _ => v.length - (intOf s22).toNat)
        case atStart => exact ⟨0, _, rfl, rfl, ⟨Nat.zero_le _, by rw [Bool.eq_iff_iff]; simp; omega⟩, RV, RW, RH, Rb, RB⟩
        case round =>
          obtain ⟨m, sm, rfl, rfl, hJ, TV, TW, TH, Tb, TB⟩ := hrel
          obtain ⟨hml, hsm⟩ := hJ.out
          have HSm := Aside0.mk hsm
          clear hJ hsm
          by_cases hgo : m < v.length ∧ sm = true
          · obtain ⟨hm, rfl⟩ := hgo
            have hd := HSm.out
            have hd2 := of_decide_eq_true hd.symm
            have hmw : m < zs.length := by omega
            obtain ⟨ad, Ai, ci, hAv, rx, hli, hCi⟩ := at_rows TV.out (m : Int) (by omega) (by omega)
            obtain ⟨ae, Ae, ce, hAw, re, hle, hCe⟩ := at_rows TW.out (m : Int) (by omega) (by omega)
            subst hAv hAw
            rw [Int.toNat_natCast] at rx re
            have HUl : Aside0 ((rdR v (m : Int)).length ≤ 1000000) := ⟨by have := HVs.out _ (List.getElem_mem hm); rw [rdR_get hm]; omega⟩
            have HCi := Aside0.mk hCi
            have HCe := Aside0.mk hCe
            have hNext : Aside0 ((cmpL (rdR v (m : Int)) (rdR zs (m : Int)) == 0) = decide (v.length = zs.length ∧ v.take (m + 1) = zs.take (m + 1))) := ⟨by
              rw [Bool.eq_iff_iff]
              simp only [beq_iff_eq, decide_eq_true_eq, cmp_eq]
              rw [rdR_get hm, rdR_get hmw, List.take_succ_eq_append_getElem hm, List.take_succ_eq_append_getElem hmw, hd2.2]
              constructor
              · intro e; exact ⟨hd2.1, by rw [e]⟩
              · intro e; simpa using List.append_cancel_left e.2⟩
            generalize rdR v (m : Int) = ua at *
            generalize rdR zs (m : Int) = ub at *
            have hmm : (m : Int) < (v.length : Int) := by omega
            have hmm2 : (m : Int) < (zs.length : Int) := by omega
            have w1 : IntKind.i64.wrap ((m : Int) + 1) = (m : Int) + 1 := wrap_in (by omega) (by omega)
            clear hd hd2 hCi hCe
            go_wp2
            go_quiet (first | (go_at_call 37; with_reducible exact en_order ua ub Ai Ae ci ce _ _ HCi.out hli HCe.out hle HUl.out))
            go_wp2
            go_roundw
            case rel => exact ⟨m + 1, _, by go_num, rfl, ⟨hm, hNext.out⟩, ⟨Kd.C_drewN TV.out _⟩, ⟨Kd.C_drewN TW.out _⟩, ⟨TH.out.below (pw_below_drewN (Below.refl _ _) _)⟩, ⟨Kd.C_drewN Tb.out _⟩, ⟨pw_below_drewN TB.out _⟩⟩
            case measure => simp [intOf]; omega
          · have HEq : Aside0 (sm = decide (v = zs)) := ⟨by
              rw [HSm.out]
              by_cases hm : m < v.length
              · have hf : sm = false := by cases sm; rfl; exact absurd ⟨hm, rfl⟩ hgo
                rw [hf] at HSm
                rw [← HSm.out]
                refine (decide_eq_false fun e => ?_).symm
                have := of_decide_eq_false HSm.out.symm
                exact this ⟨by rw [e], by rw [e]⟩
              · rw [Bool.eq_iff_iff, decide_eq_true_eq, decide_eq_true_eq]
                constructor
                · rintro ⟨e1, e2⟩
                  rwa [List.take_of_length_le (by omega), List.take_of_length_le (by omega)] at e2
                · rintro rfl; exact ⟨rfl, rfl⟩⟩
            have hAs : ((strOfNums bv).toList == (strOfNums bw).toList) = sm := by rw [HCs.out, HEq.out]
            obtain ⟨N, hN⟩ : ∃ N : Nat, around a3 (bv.length : Int) = (N : Int) := ⟨(around a3 (bv.length : Int)).toNat, by have := around_range a3 (bv.length : Int) (by have := HBy.out.2; omega); omega⟩
            have hNl : N < bv.length := by have := around_range a3 (bv.length : Int) (by have := HBy.out.2; omega); omega
            have HAr : Aside0 (∀ W : World, Calls Try.prog 18 #[.int .i64 a3, .int .i64 (bv.length : Int)] W fun e w' => e = .returned (.int .i64 (N : Int)) ∧ Below W.heap.size W w') := ⟨fun W => by
              have := dl_around a3 (bv.length : Int) W (by have := HBy.out.2; omega) HX3.out
              rwa [hN] at this⟩
            have hbl := HBv.out
            obtain ⟨hcut8, htk8⟩ := cut_take (k := .u8) Try.underlying55 info5 Ab cb bv N (by omega) hlb
            have HTk8 := Aside0.mk htk8
            have HNl := Aside0.mk hNl
            have n1 : (N : Int) ≤ (bv.length : Int) := by omega
            have n2 : (N : Int) ≤ (cb : Int) := by omega
            clear hN htk8
            by_cases hm : m < v.length
            all_goals
              first
              | (have hmm : (m : Int) < (v.length : Int) := by omega
                 have hf : sm = false := by cases sm; rfl; exact absurd ⟨hm, rfl⟩ hgo
                 subst hf)
              | have hmm : ¬ (m : Int) < (v.length : Int) := by omega
              clear hgo hkk
              go_upto_region 25 with (first
                | (go_at_call 18; ((with_reducible refine (HAr.out _).mono ?_); rintro e w6 ⟨rfl, hb6⟩; have NH6 := Aside0.mk (GraphAt.below TH.out hb6); clear TH; have Nb6 := Aside0.mk (Kd.C_below Tb.out hb6); clear Tb; have NB6 := Aside0.mk (TB.out.trans (hb6.mono TB.out.size)); clear TB; clear hb6))
                | (go_at_call 36; ((with_reducible refine (HPre.out N HNl.out Ab cb _ (HTk8.out _ Nb6.out) (by have := HNl.out; omega)).mono ?_); rintro e w7 ⟨q, hq, rfl, hb7⟩; have NH7 := Aside0.mk (GraphAt.below NH6.out hb7); clear NH6; have Nb7 := Aside0.mk (Kd.C_below Nb6.out hb7); clear Nb6; have NB7 := Aside0.mk (NB6.out.trans (hb7.mono NB6.out.size)); clear NB6; clear hb7))
                | fail)
              have hSc5 : ∀ X, Below w7.heap.size w7 X → (convert 55 9 (.slice Ab bv.length cb)).run Try.prog X = .ok (.string (strOfNums bv)) X := fun X hb => en_conv Ab _ cb bv X (Kd.C_below Nb7.out hb)
              have HSc5 := Aside0.mk hSc5
              have hbd : Below w7.heap.size w7 w7.drew := (Below.refl _ _).drew
              have hq1 : (q != 0) = true := bne_iff_ne.2 hq
              clear hSc5
              refine start_ (n := 20) (S := fun w' => (convert 55 9 (.slice Ab bv.length cb)).run Try.prog w' = .ok (.string (strOfNums bv)) w') (ds := []) #[false, false, false, false, false, false, false, false, false, false, false, false, false, false, false, false, false, false, false, false] (by kernel_rfl) rfl rfl (HSc5.out _ hbd) (fun hHeld => ?_)
              refine pure_ (i := 0) (N := some 156) (v := ?_) (a' := ?_) #[true, false, false, false, false, false, false, false, false, false, false, false, false, false, false, false, false, false, false, false] rfl rfl (by kernel_rfl) (fun _ _ _ h => h) (Or.inl ⟨by rfl, ?_⟩) ?_ ?_
              rotate_left
              · intro w'
                go_simp
                with_reducible rfl
              rotate_left
              · simp only [Act.put, List.setIfInBounds_toArray, List.set_cons_zero, List.set_cons_succ, i64_w, i32_w]
                rfl
              refine pure_ (i := 2) (N := some 158) (v := ?_) (a' := ?_) #[true, false, true, false, false, false, false, false, false, false, false, false, false, false, false, false, false, false, false, false] rfl rfl (by kernel_rfl) (fun _ _ _ h => h) (Or.inl ⟨by rfl, ?_⟩) ?_ ?_
              rotate_left
              · intro w'
                go_simp
                with_reducible rfl
              rotate_left
              · simp only [Act.put, List.setIfInBounds_toArray, List.set_cons_zero, List.set_cons_succ, i64_w, i32_w]
                rfl
              refine pure_ (i := 6) (N := some 162) (v := ?_) (a' := ?_) #[true, false, true, false, false, false, true, false, false, false, false, false, false, false, false, false, false, false, false, false] rfl rfl (by kernel_rfl) (fun _ _ _ h => h) (Or.inl ⟨by rfl, ?_⟩) ?_ ?_
              rotate_left
              · intro w'
                go_simp
                with_reducible rfl
              rotate_left
              · simp only [Act.put, List.setIfInBounds_toArray, List.set_cons_zero, List.set_cons_succ, i64_w, i32_w]
                rfl
              refine take_ (i := 1) (N := some 157) (v := ?_) (a' := ?_) #[true, true, true, false, false, false, true, false, false, false, false, false, false, false, false, false, false, false, false, false] rfl rfl (by kernel_rfl) (fun _ _ _ h => h) (Or.inl ⟨by rfl, ?_⟩) hHeld ?_ ?_
              rotate_left
              · intro w' s0
                go_simp
                with_reducible rfl
              rotate_left
              · simp only [Act.put, List.setIfInBounds_toArray, List.set_cons_zero, List.set_cons_succ, i64_w, i32_w]
                rfl
              refine one_ (i := 3) (N := some 159) #[true, true, true, true, false, false, true, false, false, false, false, false, false, false, false, false, false, false, false, false] rfl rfl (by kernel_rfl) (by decide) (fun K hK => ?_)
              refine goes_ Try.func35 (by kernel_rfl) rfl #[.pointer (some ⟨h, 0, none⟩)] (by rfl) rfl rfl (by simp only [List.map_toArray, List.map_cons, List.map_nil] <;> rfl) ?_
              with_reducible refine (HEnw.out h _ (NH7.out.below hbd)).mono ?_
              rintro e w8 ⟨A8, c8, rfl, hl8, hC8, hb8q⟩
              refine ⟨_, rfl, ?_⟩
              have hb8 : Below w7.heap.size w7 w8 := hbd.trans (hb8q.mono hbd.size)
              have hcv8 := en_conv A8 _ c8 bw w8 hC8
              refine hK.out _ _ (HSc5.out _ hb8) (fun hHeld => ?_)
              clear hK K
              refine norm_ (a' := ?_) ?_ ?_
              rotate_left
              · show Act.put _ (some 159) _ = _
                simp only [Act.put, List.setIfInBounds_toArray, List.set_cons_zero, List.set_cons_succ, i64_w, i32_w]
                rfl
              refine one_ (i := 4) (N := some 160) #[true, true, true, true, true, false, true, false, false, false, false, false, false, false, false, false, false, false, false, false] rfl rfl (by kernel_rfl) (by decide) (fun K hK => ?_)
              refine value_ (w1 := ?_) (v := ?_) (by rfl) rfl ?_ ?_
              rotate_left 2
              · go_simp
                constructor
                · rfl
                · rfl
              refine hK.out _ _ (HSc5.out _ hb8) (fun hHeld => ?_)
              clear hK K
              refine norm_ (a' := ?_) ?_ ?_
              rotate_left
              · show Act.put _ (some 160) _ = _
                simp only [Act.put, List.setIfInBounds_toArray, List.set_cons_zero, List.set_cons_succ, i64_w, i32_w]
                rfl
              refine pure_ (i := 5) (N := some 161) (v := ?_) (a' := ?_) #[true, true, true, true, true, true, true, false, false, false, false, false, false, false, false, false, false, false, false, false] rfl rfl (by kernel_rfl) (fun _ _ _ h => h) (Or.inl ⟨by rfl, ?_⟩) ?_ ?_
              rotate_left
              · intro w'
                go_simp
                with_reducible rfl
              rotate_left
              · simp only [Act.put, List.setIfInBounds_toArray, List.set_cons_zero, List.set_cons_succ, i64_w, i32_w]
                rfl
              refine pure_ (i := 7) (N := some 163) (v := ?_) (a' := ?_) #[true, true, true, true, true, true, true, true, false, false, false, false, false, false, false, false, false, false, false, false] rfl rfl (by kernel_rfl) (fun _ _ _ h => h) (Or.inl ⟨by rfl, ?_⟩) ?_ ?_
              rotate_left
              · intro w'
                go_simp
                with_reducible rfl
              rotate_left
              · simp only [Act.put, List.setIfInBounds_toArray, List.set_cons_zero, List.set_cons_succ, i64_w, i32_w]
                rfl
              refine pure_ (i := 8) (N := some 164) (v := ?_) (a' := ?_) #[true, true, true, true, true, true, true, true, true, false, false, false, false, false, false, false, false, false, false, false] rfl rfl (by kernel_rfl) (fun _ _ _ h => h) (Or.inl ⟨by rfl, ?_⟩) ?_ ?_
              rotate_left
              · intro w'
                go_simp
                with_reducible rfl
              rotate_left
              · simp only [Act.put, List.setIfInBounds_toArray, List.set_cons_zero, List.set_cons_succ, i64_w, i32_w]
                rfl
              refine pure_ (i := 9) (N := some 165) (v := ?_) (a' := ?_) #[true, true, true, true, true, true, true, true, true, true, false, false, false, false, false, false, false, false, false, false] rfl rfl (by kernel_rfl) (fun _ _ _ h => h) (Or.inl ⟨by rfl, ?_⟩) ?_ ?_
              rotate_left
              · intro w'
                go_simp
                with_reducible rfl
              rotate_left
              · simp only [Act.put, List.setIfInBounds_toArray, List.set_cons_zero, List.set_cons_succ, i64_w, i32_w]
                rfl
              refine pure_ (i := 10) (N := some 166) (v := ?_) (a' := ?_) #[true, true, true, true, true, true, true, true, true, true, true, false, false, false, false, false, false, false, false, false] rfl rfl (by kernel_rfl) (fun _ _ _ h => h) (Or.inl ⟨by rfl, ?_⟩) ?_ ?_
              rotate_left
              · intro w'
                go_simp
                with_reducible rfl
              rotate_left
              · simp only [Act.put, List.setIfInBounds_toArray, List.set_cons_zero, List.set_cons_succ, i64_w, i32_w]
                rfl
              refine pure_ (i := 11) (N := some 167) (v := ?_) (a' := ?_) #[true, true, true, true, true, true, true, true, true, true, true, true, false, false, false, false, false, false, false, false] rfl rfl (by kernel_rfl) (fun _ _ _ h => h) (Or.inl ⟨by rfl, ?_⟩) ?_ ?_
              rotate_left
              · intro w'
                go_simp
                with_reducible rfl
              rotate_left
              · simp only [Act.put, List.setIfInBounds_toArray, List.set_cons_zero, List.set_cons_succ, i64_w, i32_w]
                rfl
              refine pure_ (i := 12) (N := some 168) (v := ?_) (a' := ?_) #[true, true, true, true, true, true, true, true, true, true, true, true, true, false, false, false, false, false, false, false] rfl rfl (by kernel_rfl) (fun _ _ _ h => h) (Or.inl ⟨by rfl, ?_⟩) ?_ ?_
              rotate_left
              · intro w'
                go_simp
                with_reducible rfl
              rotate_left
              · simp only [Act.put, List.setIfInBounds_toArray, List.set_cons_zero, List.set_cons_succ, i64_w, i32_w]
                rfl
              refine pure_ (i := 13) (N := some 169) (v := ?_) (a' := ?_) #[true, true, true, true, true, true, true, true, true, true, true, true, true, true, false, false, false, false, false, false] rfl rfl (by kernel_rfl) (fun _ _ _ h => h) (Or.inl ⟨by rfl, ?_⟩) ?_ ?_
              rotate_left
              · intro w'
                go_simp
                with_reducible rfl
              rotate_left
              · simp only [Act.put, List.setIfInBounds_toArray, List.set_cons_zero, List.set_cons_succ, i64_w, i32_w]
                rfl
              refine pure_ (i := 14) (N := some 170) (v := ?_) (a' := ?_) #[true, true, true, true, true, true, true, true, true, true, true, true, true, true, true, false, false, false, false, false] rfl rfl (by kernel_rfl) (fun _ _ _ h => h) (Or.inl ⟨by rfl, ?_⟩) ?_ ?_
              rotate_left
              · intro w'
                go_simp
                with_reducible rfl
              rotate_left
              · simp only [Act.put, List.setIfInBounds_toArray, List.set_cons_zero, List.set_cons_succ, i64_w, i32_w]
                rfl
              refine pure_ (i := 15) (N := some 171) (v := ?_) (a' := ?_) #[true, true, true, true, true, true, true, true, true, true, true, true, true, true, true, true, false, false, false, false] rfl rfl (by kernel_rfl) (fun _ _ _ h => h) (Or.inl ⟨by rfl, ?_⟩) ?_ ?_
              rotate_left
              · intro w'
                go_simp
                with_reducible rfl
              rotate_left
              · simp only [Act.put, List.setIfInBounds_toArray, List.set_cons_zero, List.set_cons_succ, i64_w, i32_w]
                rfl
              refine pure_ (i := 16) (N := some 172) (v := ?_) (a' := ?_) #[true, true, true, true, true, true, true, true, true, true, true, true, true, true, true, true, true, false, false, false] rfl rfl (by kernel_rfl) (fun _ _ _ h => h) (Or.inl ⟨by rfl, ?_⟩) ?_ ?_
              rotate_left
              · intro w'
                go_simp
                with_reducible rfl
              rotate_left
              · simp only [Act.put, List.setIfInBounds_toArray, List.set_cons_zero, List.set_cons_succ, i64_w, i32_w]
                rfl
              refine one_ (i := 17) (N := some 173) #[true, true, true, true, true, true, true, true, true, true, true, true, true, true, true, true, true, true, false, false] rfl rfl (by kernel_rfl) (by decide) (fun K hK => ?_)
              refine goes_ Try.func28 (by kernel_rfl) rfl #[] (by rfl) rfl rfl (by simp only [List.map_toArray, List.map_cons, List.map_nil] <;> rfl) ?_
              with_reducible refine (lives15 _).mono ?_
              rintro e w9 ⟨rfl, hb9q⟩
              refine ⟨_, rfl, ?_⟩
              have hb9 : Below w7.heap.size w7 w9 := hb8.trans (hb9q.mono hb8.size)
              refine hK.out _ _ (HSc5.out _ hb9) (fun hHeld => ?_)
              clear hK K
              refine norm_ (a' := ?_) ?_ ?_
              rotate_left
              · show Act.put _ (some 173) _ = _
                simp only [Act.put, List.setIfInBounds_toArray, List.set_cons_zero, List.set_cons_succ, i64_w, i32_w]
                rfl
              refine pure_ (i := 18) (N := some 174) (v := ?_) (a' := ?_) #[true, true, true, true, true, true, true, true, true, true, true, true, true, true, true, true, true, true, true, false] rfl rfl (by kernel_rfl) (fun _ _ _ h => h) (Or.inl ⟨by rfl, ?_⟩) ?_ ?_
              rotate_left
              · intro w'
                go_simp
                with_reducible rfl
              rotate_left
              · simp only [Act.put, List.setIfInBounds_toArray, List.set_cons_zero, List.set_cons_succ, i64_w, i32_w]
                rfl
              refine pure_ (i := 19) (N := some 8) (v := ?_) (a' := ?_) #[true, true, true, true, true, true, true, true, true, true, true, true, true, true, true, true, true, true, true, true] rfl rfl (by kernel_rfl) (fun _ _ _ h => h) (Or.inl ⟨by rfl, ?_⟩) ?_ ?_
              rotate_left
              · intro w'
                go_simp
                with_reducible rfl
              rotate_left
              · simp only [Act.put, List.setIfInBounds_toArray, List.set_cons_zero, List.set_cons_succ, i64_w, i32_w]
                rfl
              refine done_ (by kernel_rfl) ?_
              go_wp2
              go_ret
              exact ⟨rfl, NB7.out.trans (hb9.mono NB7.out.size)⟩
def wordbooklaw15_DawgEncodes.Pure : Prop := True
theorem wordbooklaw15_DawgEncodes.walk (P : wordbooklaw15_DawgEncodes.Pure) (a0 : Option Addr) (len0 cap0 : Nat) (z0 : List Int) (a1 : Option Addr) (len1 cap1 : Nat) (z1 : List Int) (a2 : Int) (a3 : Int) (w : World) (w0 : (a0 = none ∧ len0 = 0 ∧ cap0 = 0 ∧ z0 = []) ∨ ∃ x, a0 = some x ∧ len0 ≤ cap0 ∧ cap0 ≤ maxLen ∧ z0.length = cap0 ∧ (∀ i, i < z0.length → w.cell? (x.add i) = some (.int .i64 (z0.getD i 0))) ∧ ∀ n ∈ z0, (Lit.int .i64 n).wf = true) (y0 : len0 * 8 ≤ 140737488351232) (w1 : (a1 = none ∧ len1 = 0 ∧ cap1 = 0 ∧ z1 = []) ∨ ∃ x, a1 = some x ∧ len1 ≤ cap1 ∧ cap1 ≤ maxLen ∧ z1.length = cap1 ∧ (∀ i, i < z1.length → w.cell? (x.add i) = some (.int .i64 (z1.getD i 0))) ∧ ∀ n ∈ z1, (Lit.int .i64 n).wf = true) (y1 : len1 * 8 ≤ 140737488351232) (w2 : (Lit.int .i64 a2).wf = true) (w3 : (Lit.int .i64 a3).wf = true) :
    Calls Try.prog 6 #[.slice a0 len0 cap0, .slice a1 len1 cap1, .int .i64 a2, .int .i64 a3] w fun e w' => e = .returned (.bool true) ∧ Below w.heap.size w w' := by
  obtain ⟨l0, rfl, hr0, hm0, hw0, hc0⟩ := ReadsInt.ofRowC w0
  obtain ⟨l1, rfl, hr1, hm1, hw1, hc1⟩ := ReadsInt.ofRowC w1
  exact encodes_true _ _ l0 _ _ l1 a2 a3 w (Kd.C_of_reads (d := (0 : Int)) (h1 := fun _ => rfl) hr0) hc0 (Kd.C_of_reads (d := (0 : Int)) (h1 := fun _ => rfl) hr1) hc1 (fun x hx => wf_i64 (hw0 x hx)) (fun x hx => wf_i64 (hw1 x hx)) (wf_i64 w2) (wf_i64 w3)
end Go.Proofs.Ytcdjeimjbbknjaa.PAll
