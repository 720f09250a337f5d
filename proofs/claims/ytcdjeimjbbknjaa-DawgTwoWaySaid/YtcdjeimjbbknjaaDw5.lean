import Derived.Deep.CutBlock
import Derived.BigQuiet
import Derived.Deep.RegionHeld3
import Derived.Deep.AppendLies
import Derived.Outline
import Derived.Test.YtcdjeimjbbknjaaDw4
namespace Go.Proofs.Ytcdjeimjbbknjaa.PAll
open Go.RowKit Go.Proofs.YtcdjeimjbbknjaaW.PrintWords Go.Proofs.YtcdjeimjbbknjaaW.PrintLast Go.Proofs.YtcdjeimjbbknjaaW.PrintMore Go.Proofs.Ytcdjeimjbbknjaa.Res
set_option linter.unusedVariables false
set_option linter.unusedSimpArgs false

def l15W : List (List Int) := [[0], [0, 1], [2, 1]]
def l15L : List Int := [4, 4, 0, 1, 2, 2, 3, 1, 3, 2, 1, 3, 1]
theorem l15_good : Good l15W := by
  refine ⟨?_, ?_, ?_, ?_, ?_⟩ <;> decide
theorem l15_list : listN (graphOf l15W) = l15L := by kernel_rfl
theorem l15_states : (graphOf l15W).length = 4 := by kernel_rfl
theorem l15_bytes : wordbookref01_Ints.f 20 l15L = some (listB l15L) := by kernel_rfl
theorem l15_byt : byt (listB l15L) ∧ (listB l15L).length ≤ 1000 := by
  refine ⟨listB_byt ?_ (by decide), of_decide_eq_true (by kernel_rfl)⟩
  rw [← l15_list]; exact (graph_list l15_good).2.2.2.2
theorem l15_dec : decN (listB l15L) = (l15W, 0) := by rw [← l15_list]; exact decN_listB l15_good
theorem l15_build (w : World) : Calls Try.prog 19 #[.slice (some ⟨w.heap.size + 1 + 1 + 1, 0, none⟩) 3 3]
    ((((w.alloc (.cells #[.int .i64 0] 3)).alloc (.cells #[.int .i64 0, .int .i64 1] 3)).alloc (.cells #[.int .i64 2, .int .i64 1] 3)).alloc (.cells #[.slice (some ⟨w.heap.size, 0, none⟩) 1 1, .slice (some ⟨w.heap.size + 1, 0, none⟩) 2 2, .slice (some ⟨w.heap.size + 1 + 1, 0, none⟩) 2 2] 22))
    fun e w' => ∃ g, e = .returned (.tuple #[.pointer (some ⟨g, 0, none⟩), .int .i64 0]) ∧ GraphAt w' g (graphOf l15W) ∧ Below w.heap.size w w' := by
  have s1 : (w.alloc (.cells #[.int .i64 0] 3)).heap.size = w.heap.size + 1 := by simp
  have s2 : ((w.alloc (.cells #[.int .i64 0] 3)).alloc (.cells #[.int .i64 0, .int .i64 1] 3)).heap.size = w.heap.size + 1 + 1 := by simp
  have s3 : (((w.alloc (.cells #[.int .i64 0] 3)).alloc (.cells #[.int .i64 0, .int .i64 1] 3)).alloc (.cells #[.int .i64 2, .int .i64 1] 3)).heap.size = w.heap.size + 1 + 1 + 1 := by simp
  have b0 : (((w.alloc (.cells #[.int .i64 0] 3)).alloc (.cells #[.int .i64 0, .int .i64 1] 3)).alloc (.cells #[.int .i64 2, .int .i64 1] 3)).heap[w.heap.size]? = some (.cells #[.int .i64 0] 3 (0, 0)) := blk_alloc (blk_alloc (blk_new _ _) _) _
  have b1 : (((w.alloc (.cells #[.int .i64 0] 3)).alloc (.cells #[.int .i64 0, .int .i64 1] 3)).alloc (.cells #[.int .i64 2, .int .i64 1] 3)).heap[w.heap.size + 1]? = some (.cells #[.int .i64 0, .int .i64 1] 3 (0, 0)) := by rw [← s1]; exact blk_alloc (blk_new _ _) _
  have b2 : (((w.alloc (.cells #[.int .i64 0] 3)).alloc (.cells #[.int .i64 0, .int .i64 1] 3)).alloc (.cells #[.int .i64 2, .int .i64 1] 3)).heap[w.heap.size + 1 + 1]? = some (.cells #[.int .i64 2, .int .i64 1] 3 (0, 0)) := by rw [← s2]; exact blk_new _ _
  have hB : Below w.heap.size w (((w.alloc (.cells #[.int .i64 0] 3)).alloc (.cells #[.int .i64 0, .int .i64 1] 3)).alloc (.cells #[.int .i64 2, .int .i64 1] 3)) := below_alloc (below_alloc (below_alloc (Below.refl _ w) _) _ |>.mono (by simp)) _ |>.mono (by simp)
  generalize ((w.alloc (.cells #[.int .i64 0] 3)).alloc (.cells #[.int .i64 0, .int .i64 1] 3)).alloc (.cells #[.int .i64 2, .int .i64 1] 3) = W4 at *
  rw [← s3]
  have c0 : Kd.C (Kd.int .i64) (W4.alloc (.cells #[.slice (some ⟨w.heap.size, 0, none⟩) 1 1, .slice (some ⟨w.heap.size + 1, 0, none⟩) 2 2, .slice (some ⟨w.heap.size + 1 + 1, 0, none⟩) 2 2] 22)) (some ⟨w.heap.size, 0, none⟩) 1 [0] := cb_ints (xs := [0]) (blk_alloc b0 _) (by decide)
  have c1 : Kd.C (Kd.int .i64) (W4.alloc (.cells #[.slice (some ⟨w.heap.size, 0, none⟩) 1 1, .slice (some ⟨w.heap.size + 1, 0, none⟩) 2 2, .slice (some ⟨w.heap.size + 1 + 1, 0, none⟩) 2 2] 22)) (some ⟨w.heap.size + 1, 0, none⟩) 2 [0, 1] := cb_ints (xs := [0, 1]) (blk_alloc b1 _) (by decide)
  have c2 : Kd.C (Kd.int .i64) (W4.alloc (.cells #[.slice (some ⟨w.heap.size, 0, none⟩) 1 1, .slice (some ⟨w.heap.size + 1, 0, none⟩) 2 2, .slice (some ⟨w.heap.size + 1 + 1, 0, none⟩) 2 2] 22)) (some ⟨w.heap.size + 1 + 1, 0, none⟩) 2 [2, 1] := cb_ints (xs := [2, 1]) (blk_alloc b2 _) (by decide)
  have bb := blk_new W4 (.cells #[.slice (some ⟨w.heap.size, 0, none⟩) 1 1, .slice (some ⟨w.heap.size + 1, 0, none⟩) 2 2, .slice (some ⟨w.heap.size + 1 + 1, 0, none⟩) 2 2] 22)
  have hB2 : Below w.heap.size w (W4.alloc (.cells #[.slice (some ⟨w.heap.size, 0, none⟩) 1 1, .slice (some ⟨w.heap.size + 1, 0, none⟩) 2 2, .slice (some ⟨w.heap.size + 1 + 1, 0, none⟩) 2 2] 22)) := below_alloc hB _
  generalize W4.alloc (.cells #[.slice (some ⟨w.heap.size, 0, none⟩) 1 1, .slice (some ⟨w.heap.size + 1, 0, none⟩) 2 2, .slice (some ⟨w.heap.size + 1 + 1, 0, none⟩) 2 2] 22) = W5 at *
  have hr : Reps ((Kd.slice 3 (Kd.int .i64)).K W5) 1 l15W [.slice (some ⟨w.heap.size, 0, none⟩) 1 1, .slice (some ⟨w.heap.size + 1, 0, none⟩) 2 2, .slice (some ⟨w.heap.size + 1 + 1, 0, none⟩) 2 2] :=
    (((Reps.none _ _).snoc (p := [0]) (c := [.slice (some ⟨w.heap.size, 0, none⟩) 1 1]) ⟨_, _, rfl, Nat.le_refl _, c0⟩ rfl).snoc (p := [0, 1]) (c := [.slice (some ⟨w.heap.size + 1, 0, none⟩) 2 2]) ⟨_, _, rfl, Nat.le_refl _, c1⟩ rfl).snoc (p := [2, 1]) (c := [.slice (some ⟨w.heap.size + 1 + 1, 0, none⟩) 2 2]) ⟨_, _, rfl, Nat.le_refl _, c2⟩ rfl
  have hC : Kd.C (Kd.slice 3 (Kd.int .i64)) W5 (some ⟨W4.heap.size, 0, none⟩) l15W.length l15W := cb_block bb hr (by decide)
  refine (build_good _ 3 l15W W5 hC (by decide) l15_good).mono ?_
  rintro e w' ⟨g, rfl, hg, hb, _⟩
  exact ⟨g, rfl, hg, hB2.trans (hb.mono hB2.size)⟩
theorem l15_ints (W : World) : Calls Try.prog 39 #[.slice (some ⟨W.heap.size, 0, none⟩) 13 13] (W.alloc (.cells #[.int .i64 4, .int .i64 4, .int .i64 0, .int .i64 1, .int .i64 2, .int .i64 2, .int .i64 3, .int .i64 1, .int .i64 3, .int .i64 2, .int .i64 1, .int .i64 3, .int .i64 1] 3))
    fun e w' => ∃ A c, e = .returned (.slice A (listB l15L).length c) ∧ (listB l15L).length ≤ c ∧ Kd.C (Kd.int .u8) w' A (listB l15L).length (listB l15L) ∧ Below W.heap.size W w' := by
  have hb := below_alloc (Below.refl W.heap.size W) (.cells (encs (Value.int .i64) l15L).toArray 3)
  refine (wordbookref01_Ints.calls 20 _ 13 l15L (listB l15L) _ (cb_new W l15L (by decide)) (by decide) l15_bytes).mono ?_
  rintro e w' ⟨v, rfl, hR, hb2⟩
  obtain ⟨A, c, rfl, hl, hC⟩ := Kd.R_reads hR
  exact ⟨A, c, rfl, hl, hC, hb.trans (hb2.mono hb.size)⟩
theorem l15_decode (A : Option Addr) (c : Nat) (W : World) (hC : Kd.C (Kd.int .u8) W A (listB l15L).length (listB l15L)) (hc : (listB l15L).length ≤ c) :
    Calls Try.prog 36 #[.slice A (listB l15L).length c] W fun e w' => ∃ g, e = .returned (.tuple #[.pointer (some ⟨g, 0, none⟩), .int .i64 0]) ∧ GraphAt w' g (graphOf l15W) ∧ Below W.heap.size W w' := by
  refine (decode_any A c _ W hC hc l15_byt.1 (by have := l15_byt.2; omega)).mono ?_
  rintro e w' ⟨hb, h⟩
  rw [l15_dec] at h
  rcases h with ⟨_, g, rfl, hg⟩ | ⟨h, _⟩
  · exact ⟨g, rfl, hg, hb⟩
  · exact absurd rfl h
theorem l15_index (W : World) (g : Nat) (hg : GraphAt W g (graphOf l15W)) (xs : List Int) (hx : xs.length ≤ 1000) (i : Int) (b : Bool) (hi : (if xs ∈ l15W then (lessL l15W xs : Int) else 0) = i) (hb : decide (xs ∈ l15W) = b) :
    Calls Try.prog 22 #[.pointer (some ⟨g, 0, none⟩), .slice (some ⟨W.heap.size, 0, none⟩) xs.length xs.length] (W.alloc (.cells (encs (Value.int .i64) xs).toArray 3)) fun e w' => e = .returned (.tuple #[.int .i64 i, .bool b]) ∧ Below W.heap.size W w' := by
  have h0 := below_alloc (Below.refl W.heap.size W) (.cells (encs (Value.int .i64) xs).toArray 3)
  refine (dl_index l15_good g _ _ xs _ (hg.below h0) (cb_new W xs (by omega)) (Nat.le_refl _)).mono ?_
  rintro e w' ⟨rfl, h1⟩
  exact ⟨by rw [hi, hb], h0.trans (h1.mono h0.size)⟩
theorem l15_begins (W : World) (g : Nat) (hg : GraphAt W g (graphOf l15W)) (xs : List Int) (hx : xs.length ≤ 1000) (i j : Int) (hi : (lessL l15W xs : Int) = i) (hj : (lessL l15W xs : Int) + ((resW l15W xs).length : Int) = j) :
    Calls Try.prog 24 #[.pointer (some ⟨g, 0, none⟩), .slice (some ⟨W.heap.size, 0, none⟩) xs.length xs.length] (W.alloc (.cells (encs (Value.int .i64) xs).toArray 3)) fun e w' => e = .returned (.tuple #[.int .i64 i, .int .i64 j]) ∧ Below W.heap.size W w' := by
  have h0 := below_alloc (Below.refl W.heap.size W) (.cells (encs (Value.int .i64) xs).toArray 3)
  refine (dl_begins l15_good g _ _ xs _ (hg.below h0) (cb_new W xs (by omega)) (Nat.le_refl _)).mono ?_
  rintro e w' ⟨rfl, h1⟩
  exact ⟨by rw [hj, hi], h0.trans (h1.mono h0.size)⟩
theorem l15_i1 (W : World) (g : Nat) (hg : GraphAt W g (graphOf l15W)) : Calls Try.prog 22 #[.pointer (some ⟨g, 0, none⟩), .slice (some ⟨W.heap.size, 0, none⟩) 2 2] (W.alloc (.cells #[.int .i64 2, .int .i64 1] 3)) fun e w' => e = .returned (.tuple #[.int .i64 2, .bool true]) ∧ Below W.heap.size W w' := l15_index W g hg [2, 1] (by decide) 2 true (by kernel_rfl) (by kernel_rfl)
theorem l15_i2 (W : World) (g : Nat) (hg : GraphAt W g (graphOf l15W)) : Calls Try.prog 22 #[.pointer (some ⟨g, 0, none⟩), .slice (some ⟨W.heap.size, 0, none⟩) 1 1] (W.alloc (.cells #[.int .i64 2] 3)) fun e w' => e = .returned (.tuple #[.int .i64 0, .bool false]) ∧ Below W.heap.size W w' := l15_index W g hg [2] (by decide) 0 false (by kernel_rfl) (by kernel_rfl)
theorem l15_b1 (W : World) (g : Nat) (hg : GraphAt W g (graphOf l15W)) : Calls Try.prog 24 #[.pointer (some ⟨g, 0, none⟩), .slice (some ⟨W.heap.size, 0, none⟩) 1 1] (W.alloc (.cells #[.int .i64 0] 3)) fun e w' => e = .returned (.tuple #[.int .i64 0, .int .i64 2]) ∧ Below W.heap.size W w' := l15_begins W g hg [0] (by decide) 0 2 (by kernel_rfl) (by kernel_rfl)
theorem l15_b2 (W : World) (g : Nat) (hg : GraphAt W g (graphOf l15W)) : Calls Try.prog 24 #[.pointer (some ⟨g, 0, none⟩), .slice (some ⟨W.heap.size, 0, none⟩) 1 1] (W.alloc (.cells #[.int .i64 2] 3)) fun e w' => e = .returned (.tuple #[.int .i64 2, .int .i64 3]) ∧ Below W.heap.size W w' := l15_begins W g hg [2] (by decide) 2 3 (by kernel_rfl) (by kernel_rfl)
theorem l15_b3 (W : World) (g : Nat) (hg : GraphAt W g (graphOf l15W)) : Calls Try.prog 24 #[.pointer (some ⟨g, 0, none⟩), .slice (some ⟨W.heap.size, 0, none⟩) 1 1] (W.alloc (.cells #[.int .i64 1] 3)) fun e w' => e = .returned (.tuple #[.int .i64 2, .int .i64 2]) ∧ Below W.heap.size W w' := l15_begins W g hg [1] (by decide) 2 2 (by kernel_rfl) (by kernel_rfl)
theorem l15_b4 (W : World) (g : Nat) (hg : GraphAt W g (graphOf l15W)) : Calls Try.prog 24 #[.pointer (some ⟨g, 0, none⟩), .slice none 0 0] W fun e w' => e = .returned (.tuple #[.int .i64 0, .int .i64 3]) ∧ Below W.heap.size W w' := by
  have := dl_begins l15_good g none 0 [] W hg (Kd.C_nil _ _) (Nat.le_refl _)
  exact this
theorem l15_w1 (W : World) (g : Nat) (hg : GraphAt W g (graphOf l15W)) : Calls Try.prog 26 #[.pointer (some ⟨g, 0, none⟩), .int .i64 1] W fun e w' => ∃ A c, e = .returned (.tuple #[.slice A 2 c, .bool true]) ∧ 2 ≤ c ∧ Kd.C (Kd.int .i64) w' A 2 [0, 1] ∧ Below W.heap.size W w' := dl_word l15_good g 1 (by decide) W hg
theorem l15_same (W W' : World) (A : Option Addr) (c : Nat) (hc : 2 ≤ c) (hC : Kd.C (Kd.int .i64) W A 2 [0, 1]) : Calls Try.prog 27 #[.slice A 2 c, .slice (some ⟨W.heap.size, 0, none⟩) 2 2] (W.alloc (.cells #[.int .i64 0, .int .i64 1] 3)) fun e w' => e = .returned (.bool true) ∧ Below W.heap.size W w' := by
  have h0 := below_alloc (Below.refl W.heap.size W) (.cells #[.int .i64 0, .int .i64 1] 3)
  refine (wordbookref01_SameInts.calls 10 A c [0, 1] _ 2 [0, 1] true _ (Kd.C_below hC h0) hc (cb_new W [0, 1] (by decide)) (by decide) (by rw [sameInts_is _ _ (by decide) _ (by decide)]; rfl)).mono ?_
  rintro e w' ⟨rfl, hd⟩
  exact ⟨rfl, h0.trans (hd.below.mono h0.size)⟩
end Go.Proofs.Ytcdjeimjbbknjaa.PAll
namespace Go.Proofs.Ytcdjeimjbbknjaa.PAll
open Go.RowKit Go.Proofs.YtcdjeimjbbknjaaW.PrintWords Go.Proofs.YtcdjeimjbbknjaaW.PrintLast Go.Proofs.YtcdjeimjbbknjaaW.PrintMore Go.Proofs.Ytcdjeimjbbknjaa.Res
set_option linter.unusedVariables false
set_option linter.unusedSimpArgs false

theorem l15_len (W : World) (g : Nat) (hg : GraphAt W g (graphOf l15W)) : Calls Try.prog 30 #[.pointer (some ⟨g, 0, none⟩)] W fun e w' => e = .returned (.int .i64 3) ∧ Below W.heap.size W w' := dl_lenB l15_good g W hg
theorem l15_st (W : World) (g : Nat) (hg : GraphAt W g (graphOf l15W)) : Calls Try.prog 42 #[.pointer (some ⟨g, 0, none⟩)] W fun e w' => e = .returned (.int .i64 4) ∧ Below W.heap.size W w' := by
  have := dl_statesB (ws := l15W) g W hg
  rwa [l15_states] at this
set_option maxHeartbeats 8000000 in
set_option maxRecDepth 100000 in
theorem lives15 (w : World) : Calls Try.prog 28 #[] w fun e w' => e = .returned (.bool true) ∧ Below w.heap.size w w' := by
  go_enter Try.func28, Try.ntmps28
  go_wp2_with (first
    | (go_at_call 19; ((with_reducible refine (l15_build w).mono ?_); rintro e w1 ⟨g, rfl, hG1, hb1⟩; have HG1 := Aside0.mk (hG1); have HB1 := Aside0.mk (hb1); clear hb1 hG1))
    | (go_at_call 39; ((with_reducible refine (l15_ints _).mono ?_); rintro e w2 ⟨Ab, cb, rfl, hlb, hC2, hb2⟩; have HG2 := Aside0.mk (GraphAt.below HG1.out hb2); clear HG1; have HB2 := Aside0.mk (HB1.out.trans (hb2.mono HB1.out.size)); clear HB1; have Hb2 := Aside0.mk (hC2); clear hb2 hC2))
    | (go_at_call 36; ((with_reducible refine (l15_decode Ab cb _ Hb2.out hlb).mono ?_); rintro e w3 ⟨h, rfl, hG3, hb3⟩; have HG3 := Aside0.mk (GraphAt.below HG2.out hb3); clear HG2; have HB3 := Aside0.mk (HB2.out.trans (hb3.mono HB2.out.size)); clear HB2; clear Hb2; have HH3 := Aside0.mk (hG3); clear hb3 hG3))
    | (go_at_call 22; ((with_reducible refine (l15_i1 _ g HG3.out).mono ?_); rintro e w4 ⟨rfl, hb4⟩; have HG4 := Aside0.mk (GraphAt.below HG3.out hb4); clear HG3; have HB4 := Aside0.mk (HB3.out.trans (hb4.mono HB3.out.size)); clear HB3; have HH4 := Aside0.mk (GraphAt.below HH3.out hb4); clear HH3; clear hb4))
    | (go_at_call 22; ((with_reducible refine (l15_i2 _ g HG4.out).mono ?_); rintro e w5 ⟨rfl, hb5⟩; have HG5 := Aside0.mk (GraphAt.below HG4.out hb5); clear HG4; have HB5 := Aside0.mk (HB4.out.trans (hb5.mono HB4.out.size)); clear HB4; have HH5 := Aside0.mk (GraphAt.below HH4.out hb5); clear HH4; clear hb5))
    | (go_at_call 26; ((with_reducible refine (l15_w1 _ h HH5.out).mono ?_); rintro e w6 ⟨Aw, cw, rfl, hlw, hC6, hb6⟩; have HG6 := Aside0.mk (GraphAt.below HG5.out hb6); clear HG5; have HB6 := Aside0.mk (HB5.out.trans (hb6.mono HB5.out.size)); clear HB5; have HH6 := Aside0.mk (GraphAt.below HH5.out hb6); clear HH5; have HW6 := Aside0.mk (hC6); clear hb6 hC6))
    | (go_at_call 24; ((with_reducible refine (l15_b1 _ g HG6.out).mono ?_); rintro e w7 ⟨rfl, hb7⟩; have HG7 := Aside0.mk (GraphAt.below HG6.out hb7); clear HG6; have HB7 := Aside0.mk (HB6.out.trans (hb7.mono HB6.out.size)); clear HB6; have HH7 := Aside0.mk (GraphAt.below HH6.out hb7); clear HH6; have HW7 := Aside0.mk (Kd.C_below HW6.out hb7); clear HW6; clear hb7))
    | (go_at_call 24; ((with_reducible refine (l15_b2 _ g HG7.out).mono ?_); rintro e w8 ⟨rfl, hb8⟩; have HG8 := Aside0.mk (GraphAt.below HG7.out hb8); clear HG7; have HB8 := Aside0.mk (HB7.out.trans (hb8.mono HB7.out.size)); clear HB7; have HH8 := Aside0.mk (GraphAt.below HH7.out hb8); clear HH7; have HW8 := Aside0.mk (Kd.C_below HW7.out hb8); clear HW7; clear hb8))
    | (go_at_call 24; ((with_reducible refine (l15_b3 _ g HG8.out).mono ?_); rintro e w9 ⟨rfl, hb9⟩; have HG9 := Aside0.mk (GraphAt.below HG8.out hb9); clear HG8; have HB9 := Aside0.mk (HB8.out.trans (hb9.mono HB8.out.size)); clear HB8; have HH9 := Aside0.mk (GraphAt.below HH8.out hb9); clear HH8; have HW9 := Aside0.mk (Kd.C_below HW8.out hb9); clear HW8; clear hb9))
    | (go_at_call 24; ((with_reducible refine (l15_b4 _ g HG9.out).mono ?_); rintro e w10 ⟨rfl, hb10⟩; have HG10 := Aside0.mk (GraphAt.below HG9.out hb10); clear HG9; have HB10 := Aside0.mk (HB9.out.trans (hb10.mono HB9.out.size)); clear HB9; have HH10 := Aside0.mk (GraphAt.below HH9.out hb10); clear HH9; have HW10 := Aside0.mk (Kd.C_below HW9.out hb10); clear HW9; clear hb10))
    | (go_at_call 30; ((with_reducible refine (l15_len _ g HG10.out).mono ?_); rintro e w11 ⟨rfl, hb11⟩; have HG11 := Aside0.mk (GraphAt.below HG10.out hb11); clear HG10; have HB11 := Aside0.mk (HB10.out.trans (hb11.mono HB10.out.size)); clear HB10; have HH11 := Aside0.mk (GraphAt.below HH10.out hb11); clear HH10; have HW11 := Aside0.mk (Kd.C_below HW10.out hb11); clear HW10; clear hb11))
    | (go_at_call 42; ((with_reducible refine (l15_st _ g HG11.out).mono ?_); rintro e w12 ⟨rfl, hb12⟩; have HG12 := Aside0.mk (GraphAt.below HG11.out hb12); clear HG11; have HB12 := Aside0.mk (HB11.out.trans (hb12.mono HB11.out.size)); clear HB11; have HH12 := Aside0.mk (GraphAt.below HH11.out hb12); clear HH11; have HW12 := Aside0.mk (Kd.C_below HW11.out hb12); clear HW11; clear hb12))
    | (go_at_call 42; ((with_reducible refine (l15_st _ h HH12.out).mono ?_); rintro e w13 ⟨rfl, hb13⟩; have HG13 := Aside0.mk (GraphAt.below HG12.out hb13); clear HG12; have HB13 := Aside0.mk (HB12.out.trans (hb13.mono HB12.out.size)); clear HB12; have HH13 := Aside0.mk (GraphAt.below HH12.out hb13); clear HH12; have HW13 := Aside0.mk (Kd.C_below HW12.out hb13); clear HW12; clear hb13))
    | (go_at_call 27; ((with_reducible refine (l15_same _ w Aw cw hlw HW13.out).mono ?_); rintro e w14 ⟨rfl, hb14⟩; have HG14 := Aside0.mk (GraphAt.below HG13.out hb14); clear HG13; have HB14 := Aside0.mk (HB13.out.trans (hb14.mono HB13.out.size)); clear HB13; have HH14 := Aside0.mk (GraphAt.below HH13.out hb14); clear HH13; clear HW13; clear hb14))
    | fail)
  go_ret
  exact ⟨rfl, HB14.out⟩
end Go.Proofs.Ytcdjeimjbbknjaa.PAll
namespace Go.Proofs.Ytcdjeimjbbknjaa.PAll
open Go.RowKit Go.Proofs.YtcdjeimjbbknjaaW.PrintWords Go.Proofs.YtcdjeimjbbknjaaW.PrintLast Go.Proofs.YtcdjeimjbbknjaaW.PrintMore Go.Proofs.Ytcdjeimjbbknjaa.Lev
set_option linter.unusedVariables false
set_option linter.unusedSimpArgs false

/-- 'xs[m:]' of a slice that is read. -/
theorem cut_drop {k : IntKind} {t e : TypeId} {b : Nat} (ht : Try.prog.underlying t = some (.slice e)) (hinfo : (Try.prog.info? e).map (fun i => (i.zero, i.size, i.bytes)) = some (some (Value.int k 0), 1, b)) (A : Option Addr) (c : Nat) (xs : List Int) (m : Nat) (hm : m ≤ xs.length) (hc : xs.length ≤ c) :
    ∃ A' : Option Addr, (∀ W : World, (Instr.slice t (.slice A xs.length c) (some (.int .i64 (m : Int))) none none).run Try.prog W = .ok (.slice A' (xs.length - m) (c - m)) W) ∧ (∀ w : World, Kd.C (Kd.int k) w A xs.length xs → Kd.C (Kd.int k) w A' (xs.length - m) (xs.drop m)) ∧ xs.length - m ≤ c - m := by
  obtain ⟨i0, hi, _, hsz, _⟩ := info_parts hinfo
  obtain ⟨A', hcut, hA, hC⟩ := print_drop_of (P := Try.prog) (Value.int k) 0 t e .i64 ht hi hsz A c xs (m : Int) (by omega) (by omega) hc
  have hl : (xs.drop (m : Int).toNat).length = xs.length - m := by rw [List.length_drop]; omega
  rw [hl] at hcut hA
  exact ⟨A', by simpa using hcut, fun w h => by have h2 : (Kd.int k).C w A' (xs.length - m) (xs.drop (m : Int).toNat) := Kd.C_of_reads (hA w (Kd.reads_of_C h)); rwa [Int.toNat_natCast] at h2, by omega⟩

def around (n most : Int) : Int := Int.tmod (if n < 0 then -(n + 1) else n) most
theorem around_is (n most : Int) (h0 : 0 < most) (hn : -9223372036854775808 ≤ n ∧ n ≤ 9223372036854775807) : wordbookref01_Around.f n most = some (around n most) := by
  unfold wordbookref01_Around.f around
  by_cases h : n < 0
  · rw [if_pos h, if_neg (by omega), if_pos h]
    have e1 : wrap64 (n + 1) = n + 1 := by unfold wrap64; omega
    have e2 : wrap64 (-(n + 1)) = -(n + 1) := by unfold wrap64; omega
    rw [e1, e2]
  · rw [if_neg h, if_neg (by omega), if_neg h]
theorem around_range (n most : Int) (h0 : 0 < most) : 0 ≤ around n most ∧ around n most < most := by
  unfold around
  have h : 0 ≤ (if n < 0 then -(n + 1) else n) := by split <;> omega
  generalize (if n < 0 then -(n + 1) else n) = q at *
  rw [Int.tmod_eq_emod_of_nonneg h]
  exact ⟨Int.emod_nonneg _ (by omega), Int.emod_lt_of_pos _ h0⟩
theorem around_calls (n most : Int) (w : World) (h0 : 0 < most) (hn : -9223372036854775808 ≤ n ∧ n ≤ 9223372036854775807) :
    Calls Try.prog 18 #[.int .i64 n, .int .i64 most] w fun e w' => e = .returned (.int .i64 (around n most)) ∧ Drawn0 w w' :=
  wordbookref01_Around.calls n most _ w (around_is n most h0 hn)

def edited (w : List Int) (kind at_ x : Int) : List Int :=
  if kind = 0 then put_ w (around at_ (w.length + 1)).toNat x
  else if w.length = 0 then [] else if kind = 2 then set_ w (around at_ w.length).toNat x else cut_ w (around at_ w.length).toNat
def editOk (l0 : List Int) (a2 : Int) : Prop := l0.length ≤ 1000000000000 ∧ -9223372036854775808 ≤ a2 ∧ a2 ≤ 9223372036854775807
instance (l0 : List Int) (a2 : Int) : Decidable (editOk l0 a2) := by unfold editOk; infer_instance
def wordbookref16_Edited.f (l0 : List Int) (a1 : Int) (a2 : Int) (a3 : Int) : Option (List Int) := if editOk l0 a2 then some (edited l0 a1 a2 a3) else none
set_option maxHeartbeats 4000000 in
set_option maxRecDepth 100000 in
theorem edited_put (A0 : Option Addr) (c0 : Nat) (l0 : List Int) (a2 a3 : Int) (w : World) (hr0 : Kd.C (Kd.int .i64) w A0 l0.length l0) (hc0 : l0.length ≤ c0) (hok : editOk l0 a2) :
    Calls Try.prog 59 #[.slice A0 l0.length c0, .int .i64 0, .int .i64 a2, .int .i64 a3] w fun e w' => ∃ v0_ : Value, e = .returned (v0_) ∧ Kd.R (Kd.int .i64) 3 w' w.heap.size (fun _ => True) v0_ (edited l0 0 a2 a3) ∧ Below w.heap.size w w' := by
  obtain ⟨hl, hb⟩ := hok
  obtain ⟨r0, r1⟩ := around_range a2 ((l0.length : Int) + 1) (by omega)
  have HA := Aside0.mk (fun W => around_calls a2 ((l0.length : Int) + 1) W (by omega) hb)
  have HF : Aside0 (edited l0 0 a2 a3 = put_ l0 (around a2 (l0.length + 1)).toNat a3) := ⟨by simp [edited]⟩
  clear hb
  generalize around a2 ((l0.length : Int) + 1) = q at *
  obtain ⟨m, rfl⟩ := Int.eq_ofNat_of_zero_le r0
  obtain ⟨hcut, hC⟩ := cut_take (k := .i64) Try.underlying22 info3 A0 c0 l0 m (by omega) hc0
  obtain ⟨A', hcut', hC', hc'⟩ := cut_drop (k := .i64) Try.underlying22 info3 A0 c0 l0 m (by omega) hc0
  have HR := Aside0.mk hr0
  have HC := Aside0.mk hC
  have HC' := Aside0.mk hC'
  have HL := Aside0.mk (show (l0.take m).length = m by rw [List.length_take]; omega)
  have HL' := Aside0.mk (show (l0.drop m).length = l0.length - m by rw [List.length_drop])
  clear hr0 hC hC'
  have hml : m ≤ l0.length := by omega
  clear r1 r0
  go_enter Try.func59, Try.ntmps59
  go_wp2_with (first | (go_at_call 18; refine (HA.out _).mono ?_; rintro e w' ⟨rfl, ⟨nd, rfl⟩⟩) | (at_builtin; refine Kd.R_append_rows (Kd.int .i64) (w0 := w) w.heap.size rfl (.tmp 19) (.tmp 22) 22 3 (.int .i64 0) 8 rfl Try.underlying22 info3 rfl (by decide) (by omega) (.slice none 0 0) ([] : List Int) (l0.take m) A0 m c0 (fun _ => True) (fun _ => False) rfl rfl (Kd.R_nil _ _ _ _ _) (HC.out _ (Kd.C_drewN HR.out nd)) (fun _ _ h => h) (fun _ h => h.elim) (fun _ _ => trivial) (pw_below_drewN (Below.refl _ _) nd) (Nat.le_refl _) (by simp only [List.length_nil]; omega) ?_; intro v1 w1 HO1 HB1 _ _; rw [List.nil_append] at HO1; have HO1 := Aside0.mk HO1; have HB1 := Aside0.mk HB1) | (at_builtin; refine Kd.R_append (Kd.int .i64) (w0 := w) w.heap.size rfl (.tmp 23) (.tmp 25) 22 3 (.int .i64 0) 8 rfl Try.underlying22 info3 rfl (by decide) (by omega) v1 (l0.take m) a3 [.int .i64 a3] (fun _ => True) (fun _ => False) rfl rfl rfl (fun _ h => h.elim) (fun _ _ => trivial) HO1.out HB1.out HB1.out.size (by have := HL.out; omega) ?_; intro v2 w2 HO2 HB2 _ _; have HO2 := Aside0.mk HO2; have HB2 := Aside0.mk HB2) | (at_builtin; refine Kd.R_append_rows (Kd.int .i64) (w0 := w) w.heap.size rfl (.tmp 27) (.tmp 30) 22 3 (.int .i64 0) 8 rfl Try.underlying22 info3 rfl (by decide) (by omega) v2 (l0.take m ++ [a3]) (l0.drop m) A' (l0.length - m) (c0 - m) (fun _ => True) (fun _ => False) rfl rfl HO2.out (HC'.out _ (Kd.C_below HR.out HB2.out)) (fun _ _ h => h) (fun _ h => h.elim) (fun _ _ => trivial) HB2.out HB2.out.size (by have := HL.out; simp only [List.length_append, List.length_singleton]; omega) ?_; intro v3 w3 HO3 HB3 _ _; have HO3 := Aside0.mk HO3; have HB3 := Aside0.mk HB3))
  go_ret
  exact ⟨_, rfl, by rw [HF.out, put_, Int.toNat_natCast]; simpa using HO3.out, HB3.out⟩
set_option maxHeartbeats 4000000 in
set_option maxRecDepth 100000 in
theorem edited_set (A0 : Option Addr) (c0 : Nat) (l0 : List Int) (a1 a2 a3 : Int) (w : World) (hr0 : Kd.C (Kd.int .i64) w A0 l0.length l0) (hc0 : l0.length ≤ c0) (hok : editOk l0 a2) (ha : ¬ a1 = 0) (hpos : 0 < l0.length) (hb2 : a1 = 2) :
    Calls Try.prog 59 #[.slice A0 l0.length c0, .int .i64 a1, .int .i64 a2, .int .i64 a3] w fun e w' => ∃ v0_ : Value, e = .returned (v0_) ∧ Kd.R (Kd.int .i64) 3 w' w.heap.size (fun _ => True) v0_ (edited l0 a1 a2 a3) ∧ Below w.heap.size w w' := by
  have h0 : (a1 == 0) = false := beq_eq_false_iff_ne.2 ha
  have h1 : ((l0.length : Int) == 0) = false := beq_eq_false_iff_ne.2 (by omega)
  have h2 : (a1 == 2) = true := beq_iff_eq.2 hb2
  obtain ⟨hl, hb⟩ := hok
  obtain ⟨r0, r1⟩ := around_range a2 (l0.length : Int) (by omega)
  have HA := Aside0.mk (fun W => around_calls a2 (l0.length : Int) W (by omega) hb)
  have HF : Aside0 (edited l0 a1 a2 a3 = set_ l0 (around a2 l0.length).toNat a3) := ⟨by unfold edited; rw [if_neg ha, if_neg (by omega)]; rw [if_pos hb2]⟩
  clear hb ha hb2
  generalize around a2 (l0.length : Int) = q at *
  obtain ⟨m, rfl⟩ := Int.eq_ofNat_of_zero_le r0
  obtain ⟨hcut, hC⟩ := cut_take (k := .i64) Try.underlying22 info3 A0 c0 l0 m (by omega) hc0
  obtain ⟨A', hcut', hC', hc'⟩ := cut_drop (k := .i64) Try.underlying22 info3 A0 c0 l0 (m + 1) (by omega) hc0
  rw [show (((m + 1 : Nat) : Int)) = (m : Int) + 1 from by omega] at hcut'
  have HR := Aside0.mk hr0
  have HC := Aside0.mk hC
  have HC' := Aside0.mk hC'
  have HL := Aside0.mk (show (l0.take m).length = m by rw [List.length_take]; omega)
  clear hr0 hC hC' hpos
  have hml : m < l0.length := by omega
  clear r1 r0
  go_enter Try.func59, Try.ntmps59
  go_wp2_with (first | (go_at_call 18; refine (HA.out _).mono ?_; rintro e w' ⟨rfl, ⟨nd, rfl⟩⟩) | (at_builtin; refine Kd.R_append_rows (Kd.int .i64) (w0 := w) w.heap.size rfl (.tmp 40) (.tmp 43) 22 3 (.int .i64 0) 8 rfl Try.underlying22 info3 rfl (by decide) (by omega) (.slice none 0 0) ([] : List Int) (l0.take m) A0 m c0 (fun _ => True) (fun _ => False) rfl rfl (Kd.R_nil _ _ _ _ _) (HC.out _ (Kd.C_drewN HR.out nd)) (fun _ _ h => h) (fun _ h => h.elim) (fun _ _ => trivial) (pw_below_drewN (Below.refl _ _) nd) (Nat.le_refl _) (by simp only [List.length_nil]; omega) ?_; intro v1 w1 HO1 HB1 _ _; rw [List.nil_append] at HO1; have HO1 := Aside0.mk HO1; have HB1 := Aside0.mk HB1) | (at_builtin; refine Kd.R_append (Kd.int .i64) (w0 := w) w.heap.size rfl (.tmp 47) (.tmp 49) 22 3 (.int .i64 0) 8 rfl Try.underlying22 info3 rfl (by decide) (by omega) v1 (l0.take m) a3 [.int .i64 a3] (fun _ => True) (fun _ => False) rfl rfl rfl (fun _ h => h.elim) (fun _ _ => trivial) HO1.out HB1.out HB1.out.size (by have := HL.out; omega) ?_; intro v2 w2 HO2 HB2 _ _; have HO2 := Aside0.mk HO2; have HB2 := Aside0.mk HB2) | (at_builtin; refine Kd.R_append_rows (Kd.int .i64) (w0 := w) w.heap.size rfl (.tmp 51) (.tmp 55) 22 3 (.int .i64 0) 8 rfl Try.underlying22 info3 rfl (by decide) (by omega) v2 (l0.take m ++ [a3]) (l0.drop (m + 1)) A' (l0.length - (m + 1)) (c0 - (m + 1)) (fun _ => True) (fun _ => False) rfl rfl HO2.out (HC'.out _ (Kd.C_below HR.out HB2.out)) (fun _ _ h => h) (fun _ h => h.elim) (fun _ _ => trivial) HB2.out HB2.out.size (by have := HL.out; simp only [List.length_append, List.length_singleton]; omega) ?_; intro v3 w3 HO3 HB3 _ _; have HO3 := Aside0.mk HO3; have HB3 := Aside0.mk HB3))
  go_ret
  exact ⟨_, rfl, by rw [HF.out, set_, Int.toNat_natCast]; simpa using HO3.out, HB3.out⟩
set_option maxHeartbeats 4000000 in
set_option maxRecDepth 100000 in
theorem edited_cut (A0 : Option Addr) (c0 : Nat) (l0 : List Int) (a1 a2 a3 : Int) (w : World) (hr0 : Kd.C (Kd.int .i64) w A0 l0.length l0) (hc0 : l0.length ≤ c0) (hok : editOk l0 a2) (ha : ¬ a1 = 0) (hpos : 0 < l0.length) (hb2 : ¬ a1 = 2) :
    Calls Try.prog 59 #[.slice A0 l0.length c0, .int .i64 a1, .int .i64 a2, .int .i64 a3] w fun e w' => ∃ v0_ : Value, e = .returned (v0_) ∧ Kd.R (Kd.int .i64) 3 w' w.heap.size (fun _ => True) v0_ (edited l0 a1 a2 a3) ∧ Below w.heap.size w w' := by
  have h0 : (a1 == 0) = false := beq_eq_false_iff_ne.2 ha
  have h1 : ((l0.length : Int) == 0) = false := beq_eq_false_iff_ne.2 (by omega)
  have h2 : (a1 == 2) = false := beq_eq_false_iff_ne.2 hb2
  obtain ⟨hl, hb⟩ := hok
  obtain ⟨r0, r1⟩ := around_range a2 (l0.length : Int) (by omega)
  have HA := Aside0.mk (fun W => around_calls a2 (l0.length : Int) W (by omega) hb)
  have HF : Aside0 (edited l0 a1 a2 a3 = cut_ l0 (around a2 l0.length).toNat) := ⟨by unfold edited; rw [if_neg ha, if_neg (by omega)]; rw [if_neg hb2]⟩
  clear hb ha hb2
  generalize around a2 (l0.length : Int) = q at *
  obtain ⟨m, rfl⟩ := Int.eq_ofNat_of_zero_le r0
  obtain ⟨hcut, hC⟩ := cut_take (k := .i64) Try.underlying22 info3 A0 c0 l0 m (by omega) hc0
  obtain ⟨A', hcut', hC', hc'⟩ := cut_drop (k := .i64) Try.underlying22 info3 A0 c0 l0 (m + 1) (by omega) hc0
  rw [show (((m + 1 : Nat) : Int)) = (m : Int) + 1 from by omega] at hcut'
  have HR := Aside0.mk hr0
  have HC := Aside0.mk hC
  have HC' := Aside0.mk hC'
  have HL := Aside0.mk (show (l0.take m).length = m by rw [List.length_take]; omega)
  clear hr0 hC hC' hpos
  have hml : m < l0.length := by omega
  clear r1 r0
  go_enter Try.func59, Try.ntmps59
  go_wp2_with (first | (go_at_call 18; refine (HA.out _).mono ?_; rintro e w' ⟨rfl, ⟨nd, rfl⟩⟩) | (at_builtin; refine Kd.R_append_rows (Kd.int .i64) (w0 := w) w.heap.size rfl (.tmp 40) (.tmp 43) 22 3 (.int .i64 0) 8 rfl Try.underlying22 info3 rfl (by decide) (by omega) (.slice none 0 0) ([] : List Int) (l0.take m) A0 m c0 (fun _ => True) (fun _ => False) rfl rfl (Kd.R_nil _ _ _ _ _) (HC.out _ (Kd.C_drewN HR.out nd)) (fun _ _ h => h) (fun _ h => h.elim) (fun _ _ => trivial) (pw_below_drewN (Below.refl _ _) nd) (Nat.le_refl _) (by simp only [List.length_nil]; omega) ?_; intro v1 w1 HO1 HB1 _ _; rw [List.nil_append] at HO1; have HO1 := Aside0.mk HO1; have HB1 := Aside0.mk HB1) | (at_builtin; refine Kd.R_append_rows (Kd.int .i64) (w0 := w) w.heap.size rfl (.tmp 51) (.tmp 55) 22 3 (.int .i64 0) 8 rfl Try.underlying22 info3 rfl (by decide) (by omega) v1 (l0.take m) (l0.drop (m + 1)) A' (l0.length - (m + 1)) (c0 - (m + 1)) (fun _ => True) (fun _ => False) rfl rfl HO1.out (HC'.out _ (Kd.C_below HR.out HB1.out)) (fun _ _ h => h) (fun _ h => h.elim) (fun _ _ => trivial) HB1.out HB1.out.size (by have := HL.out; omega) ?_; intro v3 w3 HO3 HB3 _ _; have HO3 := Aside0.mk HO3; have HB3 := Aside0.mk HB3))
  go_ret
  exact ⟨_, rfl, by rw [HF.out, cut_, Int.toNat_natCast]; simpa using HO3.out, HB3.out⟩
set_option maxHeartbeats 4000000 in
set_option maxRecDepth 100000 in
theorem edited_none (A0 : Option Addr) (c0 : Nat) (l0 : List Int) (a1 a2 a3 : Int) (w : World) (hr0 : Kd.C (Kd.int .i64) w A0 l0.length l0) (hc0 : l0.length ≤ c0) (hok : editOk l0 a2) (ha : ¬ a1 = 0) (hpos : l0.length = 0) :
    Calls Try.prog 59 #[.slice A0 l0.length c0, .int .i64 a1, .int .i64 a2, .int .i64 a3] w fun e w' => ∃ v0_ : Value, e = .returned (v0_) ∧ Kd.R (Kd.int .i64) 3 w' w.heap.size (fun _ => True) v0_ (edited l0 a1 a2 a3) ∧ Below w.heap.size w w' := by
  have h0 : (a1 == 0) = false := beq_eq_false_iff_ne.2 ha
  have HF : Aside0 (edited l0 a1 a2 a3 = []) := ⟨by unfold edited; rw [if_neg ha, if_pos hpos]⟩
  obtain rfl := List.eq_nil_of_length_eq_zero hpos
  clear ha hpos hok hr0
  go_enter Try.func59, Try.ntmps59
  go_wp2
  go_ret
  exact ⟨_, rfl, by rw [HF.out]; exact Kd.R_nil _ _ _ _ _, Below.refl _ _⟩
theorem wordbookref16_Edited.calls (A0 : Option Addr) (c0 : Nat) (l0 : List Int) (a1 : Int) (a2 : Int) (a3 : Int) (r : List Int) (w : World) (hr0 : Kd.C (Kd.int .i64) w A0 l0.length l0) (hc0 : l0.length ≤ c0) (h : wordbookref16_Edited.f l0 a1 a2 a3 = some r) :
    Calls Try.prog 59 #[.slice A0 l0.length c0, .int .i64 a1, .int .i64 a2, .int .i64 a3] w fun e w' => ∃ v0_ : Value, e = .returned (v0_) ∧ Kd.R (Kd.int .i64) 3 w' w.heap.size (fun _ => True) v0_ r ∧ Below w.heap.size w w' := by
  unfold wordbookref16_Edited.f at h
  split at h
  case isFalse => cases h
  case isTrue hok =>
  obtain rfl := Option.some.inj h
  by_cases h0 : a1 = 0
  · subst h0; exact edited_put A0 c0 l0 a2 a3 w hr0 hc0 hok
  · rcases Nat.eq_zero_or_pos l0.length with hz | hp
    · exact edited_none A0 c0 l0 a1 a2 a3 w hr0 hc0 hok h0 hz
    · by_cases h2 : a1 = 2
      · exact edited_set A0 c0 l0 a1 a2 a3 w hr0 hc0 hok h0 hp h2
      · exact edited_cut A0 c0 l0 a1 a2 a3 w hr0 hc0 hok h0 hp h2
end Go.Proofs.Ytcdjeimjbbknjaa.PAll
namespace Go.Proofs.Ytcdjeimjbbknjaa.PAll
open Go.RowKit Go.Proofs.YtcdjeimjbbknjaaW.PrintWords Go.Proofs.YtcdjeimjbbknjaaW.PrintLast Go.Proofs.YtcdjeimjbbknjaaW.PrintMore Go.Proofs.Ytcdjeimjbbknjaa.Res
set_option linter.unusedVariables false
set_option linter.unusedSimpArgs false

theorem cmp_flip : ∀ a b : List Int, cmpL a b = 1 → cmpL b a = -1
  | [], [], h => by simp [cmpL] at h
  | [], _ :: _, h => by simp [cmpL] at h
  | _ :: _, [], _ => rfl
  | x :: a, y :: b, h => by
    simp only [cmpL] at h ⊢
    by_cases h1 : x < y
    · rw [if_pos h1] at h; simp at h
    · rw [if_neg h1] at h
      by_cases h2 : y < x
      · rw [if_pos h2]
      · rw [if_neg h2] at h ⊢
        rw [if_neg h1]
        exact cmp_flip a b h
theorem cmp_eq : ∀ a b : List Int, cmpL a b = 0 ↔ a = b
  | [], [] => by simp [cmpL]
  | [], _ :: _ => by simp [cmpL]
  | _ :: _, [] => by simp [cmpL]
  | x :: a, y :: b => by
    simp only [cmpL]
    by_cases h1 : x < y
    · rw [if_pos h1]; simp; omega
    · rw [if_neg h1]
      by_cases h2 : y < x
      · rw [if_pos h2]; simp; omega
      · rw [if_neg h2, cmp_eq a b]
        have : x = y := by omega
        simp [this]
/-! ### Put -/
def insD (w : List Int) (l : List (List Int)) : List (List Int) := l.filter fun u => cmpL u w != 0
def ins15 (w : List Int) : List (List Int) → List (List Int)
  | [] => [w]
  | u :: l => if cmpL u w < 0 then u :: ins15 w l else if cmpL u w = 0 then w :: insD w l else w :: u :: insD w l
theorem put15_l0 (l : List (List Int)) (w : List Int) (hl : l.length ≤ 1000000) (hs : ∀ v ∈ l, v.length ≤ 1000000) : ∀ (d i k : Nat) (acc : List (List Int)) (b : Bool), i + d = l.length → acc.length ≤ i + (if b = true then 1 else 0) → 2 * d + 2000005 < k →
    wordbookref15_Put.l0 k l w acc b (i : Int) = some (acc ++ if b = true then insD w (l.drop i) else ins15 w (l.drop i)) := by
  intro d
  induction d with
  | zero =>
    intro i k acc b hid ha hk
    obtain ⟨k, rfl⟩ : ∃ m, k = m + 1 := ⟨k - 1, by omega⟩
    rw [wordbookref15_Put.l0, if_neg (by omega), List.drop_of_length_le (by omega)]
    cases b with
    | true => rw [if_pos rfl, if_pos rfl]; simp [insD]
    | false =>
      rw [if_neg (by decide)] at ha
      rw [if_neg (by decide), if_pos (by omega), if_neg (by decide)]; rfl
  | succ d ih =>
    intro i k acc b hid ha hk
    obtain ⟨k, rfl⟩ : ∃ m, k = m + 1 + 1 := ⟨k - 2, by omega⟩
    have hi : i < l.length := by omega
    have hdr : l.drop i = rdR l (i : Int) :: l.drop (i + 1) := by rw [List.drop_eq_getElem_cons hi, rdR_get hi]
    have hw1 : wrap64 ((i : Int) + 1) = ((i + 1 : Nat) : Int) := by unfold wrap64; omega
    have hm : (rdR l (i : Int)).length ≤ 1000000 := by rw [rdR_get hi]; exact hs _ (List.getElem_mem hi)
    have hrr : rd_L2 l (i : Int) = rdR l (i : Int) := rfl
    have h3 : (if true = true then 1 else 0 : Nat) = 1 := rfl
    have h4 : (if false = true then 1 else 0 : Nat) = 0 := rfl
    rw [wordbookref15_Put.l0, if_pos (by omega), if_pos (by omega), hrr, order_is _ _ (by omega) _ (by omega), Option.bind_some, hdr]
    have hcv := cmpL_values (rdR l (i : Int)) w
    cases b with
    | true =>
      rw [h3] at ha
      rw [if_pos rfl, wordbookref15_Put.j1, if_neg (by decide)]
      by_cases hz : cmpL (rdR l (i : Int)) w = 0
      · rw [if_pos hz, hw1, ih (i + 1) k acc true (by omega) (by rw [h3]; omega) (by omega), if_pos rfl, if_pos rfl]
        simp [insD, hz]
      · rw [if_neg hz, if_pos (by omega), if_pos (by omega), if_pos (by omega), hw1, hrr, ih (i + 1) k _ true (by omega) (by rw [h3]; simp; omega) (by omega), if_pos rfl, if_pos rfl]
        simp [insD, hz]
    | false =>
      rw [h4] at ha
      rw [if_neg (by decide), wordbookref15_Put.j1]
      by_cases hc : cmpL (rdR l (i : Int)) w < 0
      · rw [if_neg (by simp; omega), if_neg (by omega), if_pos (by omega), if_pos (by omega), if_pos (by omega), hw1, hrr, ih (i + 1) k _ false (by omega) (by rw [h4]; simp; omega) (by omega), if_neg (by decide), if_neg (by decide), ins15, if_pos hc]
        simp
      · rw [if_pos (decide_eq_true (by omega)), if_pos (by omega), Option.bind_some]
        by_cases hz : cmpL (rdR l (i : Int)) w = 0
        · rw [if_pos hz, hw1, ih (i + 1) k _ true (by omega) (by rw [h3]; simp; omega) (by omega), if_pos rfl, if_neg (by decide), ins15, if_neg hc, if_pos hz]
          simp
        · rw [if_neg hz, if_pos (by omega), if_pos (by omega), if_pos (by simp; omega), hw1, hrr, ih (i + 1) k _ true (by omega) (by rw [h3]; simp; omega) (by omega), if_pos rfl, if_neg (by decide), ins15, if_neg hc, if_neg hz]
          simp
theorem put15_is (l : List (List Int)) (w : List Int) (hl : l.length ≤ 100000) (hs : ∀ v ∈ l, v.length ≤ 1000000) (k : Nat) (hk : 3000000 ≤ k) : wordbookref15_Put.f k l w = some (ins15 w l) := by
  unfold wordbookref15_Put.f
  rw [show (0 : Int) = ((0 : Nat) : Int) from rfl, put15_l0 l w (by omega) hs l.length 0 k [] false (by omega) (by simp) (by omega), List.drop_zero]
  simp
theorem ins15_mem {w v : List Int} : ∀ {l : List (List Int)}, v ∈ ins15 w l → v ∈ l ∨ v = w
  | [], h => .inr (by simpa [ins15] using h)
  | u :: l, h => by
    rw [ins15] at h
    split at h
    · rcases List.mem_cons.1 h with rfl | h
      · exact .inl List.mem_cons_self
      · rcases ins15_mem h with h | h
        · exact .inl (List.mem_cons_of_mem _ h)
        · exact .inr h
    · split at h
      · rcases List.mem_cons.1 h with rfl | h
        · exact .inr rfl
        · exact .inl (List.mem_cons_of_mem _ ((List.mem_filter.1 h).1))
      · rcases List.mem_cons.1 h with rfl | h
        · exact .inr rfl
        · rcases List.mem_cons.1 h with rfl | h
          · exact .inl List.mem_cons_self
          · exact .inl (List.mem_cons_of_mem _ ((List.mem_filter.1 h).1))
theorem insD_le (w : List Int) (l : List (List Int)) : (insD w l).length ≤ l.length := List.length_filter_le _ _
theorem ins15_len (w : List Int) : ∀ l : List (List Int), 1 ≤ (ins15 w l).length ∧ (ins15 w l).length ≤ l.length + 1
  | [] => by simp [ins15]
  | u :: l => by
    have h1 := ins15_len w l
    have h2 := insD_le w l
    rw [ins15]
    split
    · simp only [List.length_cons]; omega
    · split <;> simp only [List.length_cons] <;> omega
theorem ins15_srt (w : List Int) : ∀ {l : List (List Int)}, Srt l → Srt (ins15 w l)
  | [], _ => by simp [ins15, Srt]
  | u :: l, h => by
    have h1 := List.pairwise_cons.1 h
    have hf : Srt (insD w l) := List.Pairwise.sublist List.filter_sublist h1.2
    rw [ins15]
    by_cases hc : cmpL u w < 0
    · rw [if_pos hc]
      refine List.pairwise_cons.2 ⟨fun v hv => ?_, ins15_srt w h1.2⟩
      rcases ins15_mem hv with hv | rfl
      · exact h1.1 v hv
      · exact (cmpL_lt_iff _ _).1 hc
    · rw [if_neg hc]
      by_cases hz : cmpL u w = 0
      · rw [if_pos hz]
        obtain rfl := (cmp_eq u w).1 hz
        exact List.pairwise_cons.2 ⟨fun v hv => h1.1 v ((List.mem_filter.1 hv).1), hf⟩
      · rw [if_neg hz]
        have hw : cmpL w u = -1 := cmp_flip u w (by rcases cmpL_values u w with e | e | e <;> omega)
        refine List.pairwise_cons.2 ⟨fun v hv => ?_, List.pairwise_cons.2 ⟨fun v hv => h1.1 v ((List.mem_filter.1 hv).1), hf⟩⟩
        rcases List.mem_cons.1 hv with rfl | hv
        · exact hw
        · exact cmpL_trans _ _ _ hw (h1.1 v ((List.mem_filter.1 hv).1))
/-! ### Words -/
theorem w64 {x : Int} (h0 : -9223372036854775808 ≤ x) (h1 : x ≤ 9223372036854775807) : wrap64 x = x := by unfold wrap64; omega
theorem succ64 (j : Nat) (h : j ≤ 1000000000) : wrap64 ((j : Int) + 1) = ((j + 1 : Nat) : Int) := by rw [w64 (by omega) (by omega)]; omega
theorem num15_is (l : List Int) (hw : ∀ x ∈ l, -9223372036854775808 ≤ x ∧ x ≤ 9223372036854775807) (i : Int) (h0 : 0 ≤ i) (h1 : i ≤ 100000) : ∃ x, wordbookref15_num.f l i = some x ∧ 0 ≤ x ∧ x ≤ 2800000 := by
  unfold wordbookref15_num.f
  by_cases hz : (l.length : Int) = 0
  · rw [if_pos hz]; exact ⟨0, rfl, by omega, by omega⟩
  · rw [if_neg hz]
    have hm0 : 0 ≤ Int.tmod i (l.length : Int) := Int.tmod_nonneg _ h0
    have hm1 : Int.tmod i (l.length : Int) < (l.length : Int) := by
      rw [Int.tmod_eq_emod_of_nonneg h0]; exact Int.emod_lt_of_pos _ (by omega)
    rw [if_pos hm0, if_pos hm1]
    have hd0 : 0 ≤ Int.tdiv i (l.length : Int) := Int.tdiv_nonneg h0 (by omega)
    have hd1 : Int.tdiv i (l.length : Int) ≤ i := by
      rw [Int.tdiv_eq_ediv_of_nonneg h0]; exact Int.ediv_le_self _ h0
    generalize Int.tdiv i (l.length : Int) = q at *
    generalize rd l (Int.tmod i (l.length : Int)) = y at *
    have hy0 : -1048576 < Int.tmod y 1048576 := by
      by_cases hy : 0 ≤ y
      · have := Int.tmod_nonneg 1048576 hy; omega
      · have h2 := Int.tmod_nonneg 1048576 (show 0 ≤ -y by omega)
        have h3 : Int.tmod (-y) 1048576 < 1048576 := by rw [Int.tmod_eq_emod_of_nonneg (by omega)]; exact Int.emod_lt_of_pos _ (by omega)
        rw [Int.neg_tmod] at h3; omega
    have hy1 : Int.tmod y 1048576 < 1048576 := by
      by_cases hy : 0 ≤ y
      · rw [Int.tmod_eq_emod_of_nonneg hy]; exact Int.emod_lt_of_pos _ (by omega)
      · have h2 := Int.tmod_nonneg 1048576 (show 0 ≤ -y by omega)
        rw [Int.neg_tmod] at h2; omega
    generalize Int.tmod y 1048576 = z at *
    rw [w64 (x := q) (by omega) (by omega), w64 (x := 17 * q) (by omega) (by omega), w64 (x := -z) (by omega) (by omega), w64 (x := -z + 17 * q) (by omega) (by omega), w64 (x := z + 17 * q) (by omega) (by omega)]
    split
    · exact ⟨_, rfl, by omega, by omega⟩
    · exact ⟨_, rfl, by omega, by omega⟩
structure W15 (out : List (List Int)) (n : Nat) : Prop where
  srt : Srt out
  few : out.length ≤ n
  pos : 0 < n → 0 < out.length
  size : ∀ v ∈ out, v.length ≤ 8
  sym : ∀ v ∈ out, ∀ s ∈ v, 0 ≤ s ∧ s < 64
theorem sum_le8 : ∀ {l : List (List Int)}, (∀ v ∈ l, v.length ≤ 8) → (l.map List.length).sum ≤ 8 * l.length
  | [], _ => by simp
  | v :: l, h => by
    have h1 := h v List.mem_cons_self
    have h2 := sum_le8 fun x hx => h x (List.mem_cons_of_mem v hx)
    simp only [List.map_cons, List.sum_cons, List.length_cons]; omega
theorem W15.good {out : List (List Int)} {n : Nat} (h : W15 out n) (hn : n ≤ 4000) : Good out :=
  ⟨h.sym, h.srt, fun v hv => by have := h.size v hv; omega, by have := h.few; omega, by have := sum_le8 h.size; have := h.few; omega⟩
theorem W15.put {out : List (List Int)} {n : Nat} (h : W15 out n) {w : List Int} (hl : w.length ≤ 8) (hs : ∀ s ∈ w, 0 ≤ s ∧ s < 64) : W15 (ins15 w out) (n + 1) := by
  have hp := ins15_len w out
  refine ⟨ins15_srt w h.srt, by have := h.few; omega, fun _ => by omega, fun v hv => ?_, fun v hv => ?_⟩
  · rcases ins15_mem hv with hv | rfl
    · exact h.size v hv
    · exact hl
  · rcases ins15_mem hv with hv | rfl
    · exact h.sym v hv
    · exact hs
def Sy (w : List Int) : Prop := ∀ s ∈ w, 0 ≤ s ∧ s < 64
theorem Sy.snoc {w : List Int} (h : Sy w) {x : Int} (h0 : 0 ≤ x) (h1 : x < 64) : Sy (w ++ [x]) := fun s hs => by
  rcases List.mem_append.1 hs with hs | hs
  · exact h s hs
  · rw [List.mem_singleton.1 hs]; exact ⟨h0, h1⟩
theorem tmod_in {x : Int} (h : 0 ≤ x) (m : Int) (hm : 0 < m) : 0 ≤ Int.tmod x m ∧ Int.tmod x m < m := by
  rw [Int.tmod_eq_emod_of_nonneg h]; exact ⟨Int.emod_nonneg _ (by omega), Int.emod_lt_of_pos _ hm⟩
theorem w15_l3 (l : List Int) (most : Int) (out : List (List Int)) (n : Nat) (hn : n ≤ 100) (ho : W15 out n) (K : Nat) (hK : 3000000 ≤ K) (T : List (List Int) → Prop)
  (next : ∀ (r : List (List Int)) (k : Nat), W15 r (n + 1) → K ≤ k → ∃ q, wordbookref15_Words.l0 k l most r ((n + 1 : Nat) : Int) = some q ∧ T q) (z : Int) (hz : 0 ≤ z ∧ z ≤ 2800000) : ∀ (d k j : Nat) (w : List Int), (j : Int) + d = Int.tmod z 3 → Sy w → w.length + d ≤ 8 → K + d < k → ∃ q, wordbookref15_Words.l3 k l most out (n : Int) w z (j : Int) = some q ∧ T q := by
  have hz3 := tmod_in hz.1 3 (by omega)
  intro d
  induction d with
  | zero =>
    intro k j w hj hs hl hk
    obtain ⟨k, rfl⟩ : ∃ m, k = m + 1 := ⟨k - 1, by omega⟩
    rw [wordbookref15_Words.l3, if_neg (by omega), put15_is out w (by have := ho.few; omega) (fun v hv => by have := ho.size v hv; omega) k (by omega), Option.bind_some, succ64 n (by omega)]
    exact next _ k (ho.put (by omega) hs) (by omega)
  | succ d ih =>
    intro k j w hj hs hl hk
    obtain ⟨k, rfl⟩ : ∃ m, k = m + 1 := ⟨k - 1, by omega⟩
    have hq := tmod_in (x := Int.tdiv z 3) (Int.tdiv_nonneg hz.1 (by omega)) 2 (by omega)
    have hq1 : Int.tdiv z 3 ≤ z := by rw [Int.tdiv_eq_ediv_of_nonneg hz.1]; omega
    have hq0 := Int.tdiv_nonneg hz.1 (show (0 : Int) ≤ 3 by omega)
    rw [wordbookref15_Words.l3, if_pos (by omega), if_pos (by omega), succ64 j (by omega), w64 (x := Int.tdiv z 3) (by omega) (by omega)]
    generalize Int.tmod (Int.tdiv z 3) 2 = q at *
    rw [w64 (x := 4 + (j : Int)) (by omega) (by omega), w64 (x := 4 + (j : Int) + q) (by omega) (by omega)]
    exact ih k (j + 1) _ (by omega) (hs.snoc (by omega) (by omega)) (by simp; omega) (by omega)
theorem w15_l2 (l : List Int) (hw : ∀ x ∈ l, -9223372036854775808 ≤ x ∧ x ≤ 9223372036854775807) (most : Int) (out : List (List Int)) (n : Nat) (hn : n ≤ 100) (ho : W15 out n) (K : Nat) (hK : 3000000 ≤ K) (T : List (List Int) → Prop)
  (next : ∀ (r : List (List Int)) (k : Nat), W15 r (n + 1) → K ≤ k → ∃ q, wordbookref15_Words.l0 k l most r ((n + 1 : Nat) : Int) = some q ∧ T q) (y : Int) (hy : 0 ≤ y ∧ y ≤ 2800000) : ∀ (d k j : Nat) (w : List Int), (j : Int) + d = Int.tmod y 3 → Sy w → w.length + d + 2 ≤ 8 → K + d + 10 < k → ∃ q, wordbookref15_Words.l2 k l most out (n : Int) w y (j : Int) = some q ∧ T q := by
  have hy3 := tmod_in hy.1 3 (by omega)
  have hy2 := tmod_in hy.1 2 (by omega)
  intro d
  induction d with
  | zero =>
    intro k j w hj hs hl hk
    obtain ⟨k, rfl⟩ : ∃ m, k = m + 1 := ⟨k - 1, by omega⟩
    obtain ⟨z, e, z0, z1⟩ := num15_is l hw (3 * (n : Int) + 2) (by omega) (by omega)
    rw [wordbookref15_Words.l2, if_neg (by omega), w64 (x := 3 * (n : Int)) (by omega) (by omega), w64 (x := 3 * (n : Int) + 2) (by omega) (by omega), e, Option.bind_some]
    have hz3 := tmod_in z0 3 (by omega)
    exact w15_l3 l most out n hn ho K hK T next z ⟨z0, z1⟩ (Int.tmod z 3).toNat k 0 w (by omega) hs (by omega) (by omega)
  | succ d ih =>
    intro k j w hj hs hl hk
    obtain ⟨k, rfl⟩ : ∃ m, k = m + 1 := ⟨k - 1, by omega⟩
    obtain ⟨x, e, x0, x1⟩ := num15_is l hw (5 * (n : Int) + (j : Int)) (by omega) (by omega)
    have hx4 := tmod_in x0 4 (by omega)
    rw [wordbookref15_Words.l2, if_pos (by omega), w64 (x := 5 * (n : Int)) (by omega) (by omega), w64 (x := 5 * (n : Int) + (j : Int)) (by omega) (by omega), e, Option.bind_some, succ64 j (by omega), w64 (x := 63 - Int.tmod y 2) (by omega) (by omega)]
    by_cases h3 : Int.tmod x 4 = 3
    · rw [if_pos h3, if_pos (by omega)]
      exact ih k (j + 1) _ (by omega) (hs.snoc (by omega) (by omega)) (by simp; omega) (by omega)
    · rw [if_neg h3, if_pos (by omega)]
      exact ih k (j + 1) _ (by omega) (hs.snoc (by omega) (by omega)) (by simp; omega) (by omega)
theorem w15_l1 (l : List Int) (hw : ∀ x ∈ l, -9223372036854775808 ≤ x ∧ x ≤ 9223372036854775807) (most : Int) (out : List (List Int)) (n : Nat) (hn : n ≤ 100) (ho : W15 out n) (K : Nat) (hK : 3000000 ≤ K) (T : List (List Int) → Prop)
  (next : ∀ (r : List (List Int)) (k : Nat), W15 r (n + 1) → K ≤ k → ∃ q, wordbookref15_Words.l0 k l most r ((n + 1 : Nat) : Int) = some q ∧ T q) (x : Int) (hx : 0 ≤ x ∧ x ≤ 2800000) : ∀ (d k j : Nat) (w : List Int), (j : Int) + d = Int.tmod x 4 → Sy w → w.length + d + 4 ≤ 8 → K + d + 20 < k → ∃ q, wordbookref15_Words.l1 k l most out (n : Int) w x (j : Int) = some q ∧ T q := by
  have hx4 := tmod_in hx.1 4 (by omega)
  have hx7 := tmod_in hx.1 7 (by omega)
  intro d
  induction d with
  | zero =>
    intro k j w hj hs hl hk
    obtain ⟨k, rfl⟩ : ∃ m, k = m + 1 := ⟨k - 1, by omega⟩
    obtain ⟨y, e, y0, y1⟩ := num15_is l hw (3 * (n : Int) + 1) (by omega) (by omega)
    rw [wordbookref15_Words.l1, if_neg (by omega), w64 (x := 3 * (n : Int)) (by omega) (by omega), w64 (x := 3 * (n : Int) + 1) (by omega) (by omega), e, Option.bind_some]
    have hy3 := tmod_in y0 3 (by omega)
    exact w15_l2 l hw most out n hn ho K hK T next y ⟨y0, y1⟩ (Int.tmod y 3).toNat k 0 w (by omega) hs (by omega) (by omega)
  | succ d ih =>
    intro k j w hj hs hl hk
    obtain ⟨k, rfl⟩ : ∃ m, k = m + 1 := ⟨k - 1, by omega⟩
    obtain ⟨t, e, t0, t1⟩ := num15_is l hw (Int.tmod x 7 + (j : Int)) (by omega) (by omega)
    have ht3 := tmod_in t0 3 (by omega)
    rw [wordbookref15_Words.l1, if_pos (by omega), w64 (x := Int.tmod x 7 + (j : Int)) (by omega) (by omega), e, Option.bind_some, if_pos (by omega), succ64 j (by omega)]
    exact ih k (j + 1) _ (by omega) (hs.snoc (by omega) (by omega)) (by simp; omega) (by omega)
theorem w15_l0 (l : List Int) (hw : ∀ x ∈ l, -9223372036854775808 ≤ x ∧ x ≤ 9223372036854775807) (m : Nat) (hm : m ≤ 100) : ∀ (d n k : Nat) (out : List (List Int)), n + d = m → W15 out n → 3000000 + 100 * d < k → ∃ q, wordbookref15_Words.l0 k l (m : Int) out (n : Int) = some q ∧ W15 q m := by
  intro d
  induction d with
  | zero =>
    intro n k out hd ho hk
    obtain ⟨k, rfl⟩ : ∃ j, k = j + 1 := ⟨k - 1, by omega⟩
    obtain rfl : n = m := by omega
    rw [wordbookref15_Words.l0, if_neg (by omega)]
    exact ⟨out, rfl, ho⟩
  | succ d ih =>
    intro n k out hd ho hk
    obtain ⟨k, rfl⟩ : ∃ j, k = j + 1 := ⟨k - 1, by omega⟩
    obtain ⟨x, e, x0, x1⟩ := num15_is l hw (3 * (n : Int)) (by omega) (by omega)
    have hx4 := tmod_in x0 4 (by omega)
    rw [wordbookref15_Words.l0, if_pos (by omega), w64 (x := 3 * (n : Int)) (by omega) (by omega), e, Option.bind_some]
    exact w15_l1 l hw (m : Int) out n (by omega) ho (3000000 + 100 * d + 1) (by omega) (fun q => W15 q m) (fun r k hr hk => ih (n + 1) k r (by omega) hr (by omega)) x ⟨x0, x1⟩ (Int.tmod x 4).toNat k 0 [] (by omega) (fun s hs => by cases hs) (by simp; omega) (by omega)
theorem words15_is (l : List Int) (hw : ∀ x ∈ l, -9223372036854775808 ≤ x ∧ x ≤ 9223372036854775807) (m : Int) (h0 : 0 ≤ m) (h1 : m ≤ 100) : ∃ q, wordbookref15_Words.f 4000000 l m = some q ∧ W15 q m.toNat := by
  obtain ⟨n, rfl⟩ := Int.eq_ofNat_of_zero_le h0
  exact w15_l0 l hw n (by omega) n 0 4000000 [] (by omega) ⟨by simp [Srt], by simp, fun h => absurd h (by decide), by simp, by simp⟩ (by omega)
end Go.Proofs.Ytcdjeimjbbknjaa.PAll
namespace Go.Proofs.Ytcdjeimjbbknjaa.PAll
open Go.RowKit Go.Proofs.YtcdjeimjbbknjaaW.PrintWords Go.Proofs.YtcdjeimjbbknjaaW.PrintLast Go.Proofs.YtcdjeimjbbknjaaW.PrintMore Go.Proofs.Ytcdjeimjbbknjaa.Res
set_option linter.unusedVariables false
set_option linter.unusedSimpArgs false

theorem resW_app : ∀ (p s : List Int) (r : List (List Int)), resW r (p ++ s) = resW (resW r p) s
  | [], _, _ => rfl
  | a :: p, s, r => resW_app p s (resS r a)
theorem lessL_app : ∀ (p s : List Int) {r : List (List Int)}, Srt r → lessL r (p ++ s) = lessL r p + lessL (resW r p) s
  | [], s, r, _ => by rw [lessL_nil, Nat.zero_add]; rfl
  | a :: p, s, r, h => by
    rw [List.cons_append, lessL_cons h, lessL_cons h a p, lessL_app p s (srt_resS h a)]
    rw [show resW r (a :: p) = resW (resS r a) p from rfl]; omega
theorem lessL_mem {r : List (List Int)} {u : List Int} (hu : u ∈ r) : lessL r u < r.length := by
  unfold lessL
  have h1 := List.length_filter_le (ltB u) r
  rcases Nat.lt_or_ge (r.filter (ltB u)).length r.length with h | h
  · exact h
  · exfalso
    have h2 : r.filter (ltB u) = r := List.filter_sublist.eq_of_length (by omega)
    have h3 : u ∈ r.filter (ltB u) := h2.symm ▸ hu
    have h4 := (List.mem_filter.1 h3).2
    simp only [ltB, decide_eq_true_eq] at h4
    rw [(cmp_eq u u).2 rfl] at h4
    omega
/-- The number of a word of a sorted list. -/
theorem lessL_at' : ∀ (ws : List (List Int)), Srt ws → ∀ i (h : i < ws.length), lessL ws ws[i] = i
  | [], _, i, h => absurd h (Nat.not_lt_zero _)
  | u :: ws, hs, 0, h => by
    have h1 := List.pairwise_cons.1 hs
    unfold lessL
    rw [List.length_eq_zero_iff, List.filter_eq_nil_iff]
    intro v hv hb
    simp only [ltB, decide_eq_true_eq, List.getElem_cons_zero] at hb
    rcases List.mem_cons.1 hv with rfl | hv
    · rw [(cmp_eq v v).2 rfl] at hb; omega
    · have := cmpL_trans _ _ _ (h1.1 v hv) hb
      rw [(cmp_eq u u).2 rfl] at this; omega
  | u :: ws, hs, i + 1, h => by
    have h1 := List.pairwise_cons.1 hs
    have ih := lessL_at' ws h1.2 i (by simpa using h)
    unfold lessL at ih ⊢
    rw [List.getElem_cons_succ, List.filter_cons_of_pos]
    · rw [List.length_cons, ih]
    · simp only [ltB, decide_eq_true_eq]
      exact h1.1 _ (List.getElem_mem _)
theorem st_nd {ns : List Nd} {Q : List (List (List Int))} (hI : Inv ns Q) {st : Int} (h0 : 0 ≤ st) (h1 : st < (ns.length : Int)) : IsNd Q (rdN ns st) (rdP Q st) ∧ Srt (rdP Q st) := by
  have hn := hI.nds st.toNat (by omega)
  rw [Int.toNat_of_nonneg h0] at hn
  exact ⟨hn, hI.srt _ (rdP_mem h0 (by rw [hI.len]; exact h1))⟩
theorem final_st {ns : List Nd} {Q : List (List (List Int))} (hI : Inv ns Q) {st : Int} (h0 : 0 ≤ st) (h1 : st < (ns.length : Int)) : finalB ns st = finR (rdP Q st) := by
  have := (st_nd hI h0 h1).1.fin
  unfold finalB
  rw [show hasB ns.length st = true from by simp [hasB, h0, h1], Bool.true_and]
  exact this
theorem syms_st {ns : List Nd} {Q : List (List (List Int))} (hI : Inv ns Q) {st : Int} (h0 : 0 ≤ st) (h1 : st < (ns.length : Int)) : symsN ns st = (groups (rdP Q st)).map (·.1) := by
  unfold symsN
  rw [if_pos (by simp [hasB, h0, h1])]
  exact (st_nd hI h0 h1).1.syms
theorem step_st {ns : List Nd} {Q : List (List (List Int))} (hI : Inv ns Q) {st : Int} (h0 : 0 ≤ st) (h1 : st < (ns.length : Int)) {s : Int} (hs : resS (rdP Q st) s ≠ []) : rdP Q (stepN ns st s) = resS (rdP Q st) s ∧ 0 ≤ stepN ns st s ∧ stepN ns st s < (ns.length : Int) := by
  obtain ⟨hn, hsr⟩ := st_nd hI h0 h1
  obtain ⟨a, b⟩ := hn.step hsr s
  have hm : s ∈ (rdN ns st).f1 := Classical.byContradiction fun h => hs (b h)
  obtain ⟨e1, _, e2, e3⟩ := a hm
  unfold stepN
  rw [if_pos ⟨by simp [hasB, h0, h1], hm⟩]
  exact ⟨e1, e2, by rw [← hI.len]; exact e3⟩
/-- The parts of a sorted set, one by one. -/
theorem grp_less {r : List (List Int)} (h : Srt r) {j : Nat} (hj : j < (groups r).length) : lessL r [((groups r)[j]).1] = (if finR r then 1 else 0) + (((groups r).take j).map fun g => g.2.length).sum ∧ resS r ((groups r)[j]).1 = ((groups r)[j]).2 ∧ 0 < ((groups r)[j]).2.length := by
  have hinc := groups_inc h
  have hm : (groups r)[j] ∈ groups r := List.getElem_mem hj
  refine ⟨?_, ?_, List.length_pos_iff.2 (groups_ok h _ hm).2.1⟩
  · rw [lessL_cons h, lessL_nil, Nat.add_zero]
    congr 3
    have key : ∀ (gs : List (Int × List (List Int))) (j : Nat) (hj : j < gs.length), gs.Pairwise (fun a b => a.1 < b.1) → gs.takeWhile (fun g => decide (g.1 < (gs[j]).1)) = gs.take j := by
      intro gs
      induction gs with
      | nil => intro j hj; exact absurd hj (Nat.not_lt_zero _)
      | cons g gs ih =>
        intro j hj hp
        have h1 := List.pairwise_cons.1 hp
        cases j with
        | zero => rw [List.takeWhile_cons_of_neg (p := fun y : Int × List (List Int) => decide (y.1 < ((g :: gs)[0]).1)) (by simp)]; rfl
        | succ j =>
          have hj' : j < gs.length := by simpa using hj
          have hlt := h1.1 _ (List.getElem_mem hj')
          rw [List.takeWhile_cons_of_pos (p := fun y : Int × List (List Int) => decide (y.1 < ((g :: gs)[j + 1]).1)) (by simpa using hlt), List.take_succ_cons]
          congr 1
          exact ih j hj' h1.2
    exact key _ j hj hinc
  · have hf : ∀ (gs : List (Int × List (List Int))) (j : Nat) (hj : j < gs.length), gs.Pairwise (fun a b => a.1 < b.1) → gs.find? (fun g => g.1 == (gs[j]).1) = some gs[j] := by
      intro gs
      induction gs with
      | nil => intro j hj; exact absurd hj (Nat.not_lt_zero _)
      | cons g gs ih =>
        intro j hj hp
        have h1 := List.pairwise_cons.1 hp
        cases j with
        | zero => rw [List.find?_cons_of_pos (by simp)]; rfl
        | succ j =>
          have hj' : j < gs.length := by simpa using hj
          have hlt := h1.1 _ (List.getElem_mem hj')
          rw [List.find?_cons_of_neg (by simp; omega)]
          exact ih j hj' h1.2
    unfold resS
    rw [hf _ j hj hinc]; rfl
/-- How many words the first j parts hold. -/
def preL (r : List (List Int)) (j : Nat) : Nat := (((groups r).take j).map fun g => g.2.length).sum
theorem preL_succ {r : List (List Int)} {j : Nat} (hj : j < (groups r).length) : preL r (j + 1) = preL r j + ((groups r)[j]).2.length := by
  unfold preL
  rw [List.take_succ_eq_append_getElem hj, List.map_append, List.sum_append]; simp
theorem preL_all {r : List (List Int)} (h : Srt r) : (if finR r then 1 else 0) + preL r (groups r).length = r.length := by
  unfold preL
  rw [List.take_length]; exact (res_length h).symm
/-! ### Along a word -/
structure At (ws : List (List Int)) (Q : List (List (List Int))) (u : List Int) (n : Nat) (st : Int) : Prop where
  le : n ≤ u.length
  s0 : 0 ≤ st
  s1 : st < ((graphOf ws).length : Int)
  res : rdP Q st = resW ws (u.take n)
theorem At.mem {ws : List (List Int)} {Q : List (List (List Int))} {u : List Int} {n : Nat} {st : Int} (hs : Srt ws) (hu : u ∈ ws) (h : At ws Q u n st) : u.drop n ∈ rdP Q st := by
  rw [h.res, mem_resW _ hs, List.take_append_drop]; exact hu
theorem At.start {ws : List (List Int)} {Q : List (List (List Int))} (u : List Int) (hq : 0 < (graphOf ws).length) (h0 : rdP Q 0 = ws) : At ws Q u 0 0 := ⟨Nat.zero_le _, Int.le_refl _, by omega, h0⟩
theorem At.step {ws : List (List Int)} {Q : List (List (List Int))} {u : List Int} {n : Nat} {st : Int} (hI : Inv (graphOf ws) Q) (hs : Srt ws) (hu : u ∈ ws) (h : At ws Q u n st) (hn : n < u.length) : At ws Q u (n + 1) (stepN (graphOf ws) st (rd u (n : Int))) := by
  have hm := h.mem hs hu
  rw [rd_drop hn] at hm
  have hsr := (st_nd hI h.s0 h.s1).2
  have hne : resS (rdP Q st) (rd u (n : Int)) ≠ [] := fun e => by
    have := (mem_resS hsr (rd u (n : Int)) (u.drop (n + 1))).2 hm
    rw [e] at this; cases this
  obtain ⟨e1, e2, e3⟩ := step_st hI h.s0 h.s1 hne
  refine ⟨hn, e2, e3, ?_⟩
  rw [e1, h.res, show u.take (n + 1) = u.take n ++ [rd u (n : Int)] from by rw [List.take_succ_eq_append_getElem hn, rd_nat, List.getD_eq_getElem?_getD, List.getElem?_eq_getElem hn]; rfl, resW_app]
  rfl
theorem At.range {ws : List (List Int)} {Q : List (List (List Int))} {i n : Nat} {st : Int} (hs : Srt ws) (hi : i < ws.length) (h : At ws Q (ws[i]) n st) : lessL ws (ws[i].take n) ≤ i ∧ i < lessL ws (ws[i].take n) + (resW ws (ws[i].take n)).length := by
  have h1 := lessL_at' ws hs i hi
  have h2 := lessL_app (ws[i].take n) (ws[i].drop n) hs
  rw [List.take_append_drop, h1] at h2
  have h3 := h.mem hs (List.getElem_mem hi)
  rw [h.res] at h3
  have := lessL_mem h3
  omega
theorem At.last {ws : List (List Int)} {Q : List (List (List Int))} {u : List Int} {st : Int} (hI : Inv (graphOf ws) Q) (hs : Srt ws) (hu : u ∈ ws) (h : At ws Q u u.length st) : finalB (graphOf ws) st = true := by
  rw [final_st hI h.s0 h.s1, fin_mem (st_nd hI h.s0 h.s1).2]
  have := h.mem hs hu
  rwa [List.drop_length] at this
end Go.Proofs.Ytcdjeimjbbknjaa.PAll
namespace Go.Proofs.Ytcdjeimjbbknjaa.PAll
open Go.RowKit Go.Proofs.YtcdjeimjbbknjaaW.PrintWords Go.Proofs.YtcdjeimjbbknjaaW.PrintLast Go.Proofs.YtcdjeimjbbknjaaW.PrintMore Go.Proofs.Ytcdjeimjbbknjaa.Res
set_option linter.unusedVariables false
set_option linter.unusedSimpArgs false

theorem dl_words (A0 : Option Addr) (c0 : Nat) (l : List Int) (most : Int) (r : List (List Int)) (w : World) (hr : Kd.C (Kd.int .i64) w A0 l.length l) (hc : l.length ≤ c0) (h : wordbookref15_Words.f 4000000 l most = some r) :
    Calls Try.prog 17 #[.slice A0 l.length c0, .int .i64 most] w fun e w' => ∃ A c, e = .returned (.slice A r.length c) ∧ r.length ≤ c ∧ Kd.C (Kd.slice 3 (Kd.int .i64)) w' A r.length r ∧ Below w.heap.size w w' := by
  refine (wordbookref15_Words.calls 4000000 A0 c0 l most r w hr hc h).mono ?_
  rintro e w' ⟨v, rfl, hN, hb⟩
  obtain ⟨A, c, rfl, hl, hC⟩ := Kd.N_reads hN
  exact ⟨A, c, rfl, hl, hC, hb⟩
theorem dl_build {ws : List (List Int)} (h : Good ws) (A : Option Addr) (c : Nat) (w : World) (hr : Kd.C (Kd.slice 3 (Kd.int .i64)) w A ws.length ws) (hc : ws.length ≤ c) :
    Calls Try.prog 19 #[.slice A ws.length c] w fun e w' => ∃ g, e = .returned (.tuple #[.pointer (some ⟨g, 0, none⟩), .int .i64 0]) ∧ GraphAt w' g (graphOf ws) ∧ Below w.heap.size w w' := by
  refine (build_good A c ws w hr hc h).mono ?_
  rintro e w' ⟨g, rfl, hg, hb, _⟩
  exact ⟨g, rfl, hg, hb⟩
theorem dl_around (n most : Int) (w : World) (h0 : 0 < most) (hn : -9223372036854775808 ≤ n ∧ n ≤ 9223372036854775807) :
    Calls Try.prog 18 #[.int .i64 n, .int .i64 most] w fun e w' => e = .returned (.int .i64 (around n most)) ∧ Below w.heap.size w w' := (around_calls n most w h0 hn).mono fun e w' hh => ⟨hh.1, hh.2.below⟩
theorem dl_same (a b : List Int) (n m : Nat) (hn : n = a.length) (hm : m = b.length) (A0 A1 : Option Addr) (c0 c1 : Nat) (w : World) (hr0 : Kd.C (Kd.int .i64) w A0 a.length a) (hc0 : a.length ≤ c0) (hr1 : Kd.C (Kd.int .i64) w A1 b.length b) (hc1 : b.length ≤ c1) (ha : a.length ≤ 1000000) :
    Calls Try.prog 27 #[.slice A0 n c0, .slice A1 m c1] w fun e w' => e = .returned (.bool (decide (a = b))) ∧ Below w.heap.size w w' := by
  subst hn hm
  refine (wordbookref01_SameInts.calls 1000001 A0 c0 a A1 c1 b _ w hr0 hc0 hr1 hc1 (sameInts_is a b (by omega) 1000001 (by omega))).mono ?_
  rintro e w' ⟨rfl, hd⟩
  exact ⟨rfl, hd.below⟩
theorem tw_index {ws : List (List Int)} (h : Good ws) (g i : Nat) (hi : i < ws.length) (A : Option Addr) (c : Nat) (w : World) (hg : GraphAt w g (graphOf ws)) (hw : Kd.C (Kd.int .i64) w A (rdR ws (i : Int)).length (rdR ws (i : Int))) (hc : (rdR ws (i : Int)).length ≤ c) :
    Calls Try.prog 22 #[.pointer (some ⟨g, 0, none⟩), .slice A (rdR ws (i : Int)).length c] w fun e w' => e = .returned (.tuple #[.int .i64 (i : Int), .bool true]) ∧ Below w.heap.size w w' := by
  have hm : rdR ws (i : Int) ∈ ws := by rw [rdR_get hi]; exact List.getElem_mem hi
  have := dl_index h g A c (rdR ws (i : Int)) w hg hw hc
  rw [if_pos hm, decide_eq_true hm] at this
  rwa [show lessL ws (rdR ws (i : Int)) = i from by rw [rdR_get hi]; exact lessL_at' ws h.sorted i hi] at this
theorem tw_same (a : List Int) (A0 A1 : Option Addr) (c0 c1 : Nat) (w : World) (hr0 : Kd.C (Kd.int .i64) w A0 a.length a) (hc0 : a.length ≤ c0) (hr1 : Kd.C (Kd.int .i64) w A1 a.length a) (hc1 : a.length ≤ c1) (ha : a.length ≤ 1000000) :
    Calls Try.prog 27 #[.slice A0 a.length c0, .slice A1 a.length c1] w fun e w' => e = .returned (.bool true) ∧ Below w.heap.size w w' := by
  have := dl_same a a a.length a.length rfl rfl A0 A1 c0 c1 w hr0 hc0 hr1 hc1 ha
  rwa [decide_eq_true rfl] at this
theorem tw_begins {ws : List (List Int)} (h : Good ws) (g n : Nat) (wl : List Int) (hn : wl.length = n) (F M : Nat) (hF : lessL ws wl = F) (hM : (resW ws wl).length = M) (A0 : Option Addr) (c0 : Nat) (w : World) (hg : GraphAt w g (graphOf ws)) (hw : Kd.C (Kd.int .i64) w A0 n wl) (hc : n ≤ c0) :
    Calls Try.prog 24 #[.pointer (some ⟨g, 0, none⟩), .slice A0 n c0] w fun e w' => e = .returned (.tuple #[.int .i64 (F : Int), .int .i64 ((F : Int) + (M : Int))]) ∧ Below w.heap.size w w' := by
  subst hn hF hM
  exact dl_begins h g A0 c0 wl w hg hw hc
theorem wf_i64 {x : Int} (h : (Lit.int .i64 x).wf = true) : -9223372036854775808 ≤ x ∧ x ≤ 9223372036854775807 := by
  simp only [Lit.wf, Bool.and_eq_true, decide_eq_true_eq] at h
  exact h
theorem tw_final {ws : List (List Int)} (g : Nat) (st : Int) (w : World) (hg : GraphAt w g (graphOf ws)) (h : finalB (graphOf ws) st = true) : Calls Try.prog 31 #[.pointer (some ⟨g, 0, none⟩), .int .i64 st] w fun e w' => e = .returned (.bool true) ∧ Below w.heap.size w w' := by
  have := dl_finalB (ws := ws) g st w hg
  rwa [h] at this
end Go.Proofs.Ytcdjeimjbbknjaa.PAll
namespace Go.Proofs.Ytcdjeimjbbknjaa.PAll
open Go.RowKit Go.Proofs.YtcdjeimjbbknjaaW.PrintWords Go.Proofs.YtcdjeimjbbknjaaW.PrintLast Go.Proofs.YtcdjeimjbbknjaaW.PrintMore Go.Proofs.Ytcdjeimjbbknjaa.Res
set_option linter.unusedVariables false
set_option linter.unusedSimpArgs false

theorem nil_R (W : World) (base : Nat) (hb : base ≤ W.heap.size) : Kd.R (Kd.int .i64) 3 (W.alloc (.cells #[] 3)) base (fun _ => True) (.slice (some ⟨W.heap.size, 0, none⟩) 0 0) [] := by
  refine ⟨fun _ _ => trivial, [], ?_, Reps.none _ _⟩
  have h2 := World.ownsRow_lit (base := base) (e := 3) (size := 1) W #[] 0 hb (by simp [maxLen]) (by simp)
  exact h2
theorem rows_lies {ops : Array Oper} {o : Oper} {a : Act} {Q : Exit → Act → World → Prop} {Kc : Act → World → Prop} {E : Prop} {w0 W : World} (base : Nat) (hgd : o.guard = none) (s x : Operand)
    (ho : o.op = .call { callee := .builtin .append, args := #[s, x], argTypes := #[22, 22] })
    (v : Value) (xs ys : List Int) (A : Option Addr) (m c : Nat) (hs : a.eval s = v) (hx : a.eval x = .slice A m c) (HO : Kd.R (Kd.int .i64) 3 W base (fun _ => True) v xs) (HR : Kd.C (Kd.int .i64) W A m ys)
    (HB : Below base w0 W) (hbase : base ≤ W.heap.size) (hl : xs.length + m ≤ 1000000000)
    (h : ∀ v1 w1, Kd.R (Kd.int .i64) 3 w1 base (fun _ => True) v1 (xs ++ ys) → Below base w0 w1 → W.grownBy w1 v.ownBlock → Kc (a.put o.dst v1) w1) :
    if Region.wanted o (yielded ops a.tmps) = true then Oper.wp Try.prog o a W Kc Q else E := by
  have hw : Region.wanted o (yielded ops a.tmps) = true := by simp [Region.wanted, hgd]
  have := Kd.R_append_rows_step (P := Try.prog) (Q := Q) (Kc := Kc) (Kd.int .i64) (w0 := w0) base hw s x 22 3 (.int .i64 0) 8 ho Try.underlying22 info3 rfl (by decide) (by omega) v xs ys A m c (fun _ => True) (fun _ => False) hs hx HO HR (fun _ _ h => h) (fun _ h => h.elim) (fun _ _ => trivial) HB hbase (by omega) (fun v1 w1 h1 h2 h3 _ => h v1 w1 h1 h2 h3)
  rw [if_pos hw] at this ⊢
  exact this
end Go.Proofs.Ytcdjeimjbbknjaa.PAll
namespace Go.Proofs.Ytcdjeimjbbknjaa.PAll
open Go.RowKit Go.Proofs.YtcdjeimjbbknjaaW.PrintWords Go.Proofs.YtcdjeimjbbknjaaW.PrintLast Go.Proofs.YtcdjeimjbbknjaaW.PrintMore Go.Proofs.Ytcdjeimjbbknjaa.Res
set_option linter.unusedVariables false
set_option linter.unusedSimpArgs false

set_option maxHeartbeats 8000000 in
set_option maxRecDepth 100000 in
theorem twoWay_true (A0 : Option Addr) (c0 : Nat) (l0 : List Int) (a1 : Int) (w : World) (hr0 : Kd.C (Kd.int .i64) w A0 l0.length l0) (hc0 : l0.length ≤ c0)
    (hx0 : ∀ x ∈ l0, -9223372036854775808 ≤ x ∧ x ≤ 9223372036854775807) (hx1 : -9223372036854775808 ≤ a1 ∧ a1 ≤ 9223372036854775807) :
    Calls Try.prog 5 #[.slice A0 l0.length c0, .int .i64 a1] w fun e w' => e = .returned (.bool true) ∧ Below w.heap.size w w' := by
  have har := around_range a1 25 (by decide)
  obtain ⟨ws, hws, h15⟩ := words15_is l0 hx0 (around a1 25) har.1 (by omega)
  have hgood := h15.good (by omega)
  have hfew := hgood.few
  have HWs := Aside0.mk hws
  have HG := Aside0.mk hgood
  have HR0 := Aside0.mk hr0
  have HX1 := Aside0.mk hx1
  clear hws h15 hgood hr0 hx0 hx1 har
  go_enter Try.func5, Try.ntmps5
  go_wp2_with (first
    | (go_at_call 18; ((with_reducible refine (dl_around a1 25 _ (by decide) HX1.out).mono ?_); rintro e w1 ⟨rfl, hb1⟩; have HL1 := Aside0.mk (Kd.C_below HR0.out hb1); clear HR0; have HB1 := Aside0.mk (hb1); clear hb1))
    | (go_at_call 17; ((with_reducible refine (dl_words A0 c0 l0 (around a1 25) ws _ HL1.out hc0 HWs.out).mono ?_); rintro e w2 ⟨Aw, cw, rfl, hlw, hC2, hb2⟩; clear HL1; have HB2 := Aside0.mk (HB1.out.trans (hb2.mono HB1.out.size)); clear HB1; have HW2 := Aside0.mk (hC2); clear hb2 hC2))
    | (go_at_call 19; ((with_reducible refine (dl_build HG.out Aw cw _ HW2.out hlw).mono ?_); rintro e w3 ⟨g, rfl, hG3, hb3⟩; have HB3 := Aside0.mk (HB2.out.trans (hb3.mono HB2.out.size)); clear HB2; have HW3 := Aside0.mk (Kd.C_below HW2.out hb3); clear HW2; have HG3 := Aside0.mk (hG3); clear hb3 hG3))
    | (go_at_call 30; ((with_reducible refine (dl_lenB HG.out g _ HG3.out).mono ?_); rintro e w4 ⟨rfl, hb4⟩; have HB4 := Aside0.mk (HB3.out.trans (hb4.mono HB3.out.size)); clear HB3; have HW4 := Aside0.mk (Kd.C_below HW3.out hb4); clear HW3; have HG4 := Aside0.mk (GraphAt.below HG3.out hb4); clear HG3; clear hb4))
    | fail)
  have HN : Aside0 (∃ Q, Inv (graphOf ws) Q ∧ 0 < (graphOf ws).length ∧ rdP Q 0 = ws) := ⟨by obtain ⟨Q, a, b, c, _⟩ := dgraph HG.out; exact ⟨Q, a, b, c⟩⟩
  go_loopw [8] (fun s8 wr => ∃ i : Nat, s8 = .int .i64 (i : Int) ∧ Aside0 (i ≤ ws.length) ∧ Aside0 (Kd.C (Kd.slice 3 (Kd.int .i64)) wr Aw ws.length ws) ∧ Aside0 (GraphAt wr g (graphOf ws)) ∧ Aside0 (Below w.heap.size w wr)) (fun s8 _ => ws.length - (intOf s8).toNat)
  case atStart => exact ⟨0, rfl, ⟨Nat.zero_le _⟩, HW4, HG4, HB4⟩
  case round =>
    obtain ⟨i, rfl, hil, RW, RG, RB⟩ := hrel
    by_cases hi : i < ws.length
    · obtain ⟨ad, Ai, ci, rfl, rx, hli, hCi⟩ := at_rows RW.out (i : Int) (by omega) (by omega)
      have RU := Aside0.mk hCi
      have hu64 := HG.out.short _ (List.getElem_mem hi)
      rw [← rdR_get hi] at hu64
      have HUl : Aside0 ((rdR ws (i : Int)).length ≤ 1000000) := ⟨by omega⟩
      rw [Int.toNat_natCast] at rx
      have hii : (i : Int) < (ws.length : Int) := by omega
      clear hCi
      go_wp2_with (first
        | (go_at_call 26; ((with_reducible refine (dl_word HG.out g i hi _ RG.out).mono ?_); rintro e w1 ⟨Ax, cx, rfl, hlx, hC1, hb1⟩; have PW1 := Aside0.mk (Kd.C_below RW.out hb1); clear RW; have PG1 := Aside0.mk (GraphAt.below RG.out hb1); clear RG; have PB1 := Aside0.mk (RB.out.trans (hb1.mono RB.out.size)); clear RB; have PU1 := Aside0.mk (Kd.C_below RU.out hb1); clear RU; have Px1 := pw_cell_below hb1 rx; clear rx; have PX1 := Aside0.mk (hC1); clear hb1 hC1))
        | (go_at_call 22; ((with_reducible refine (tw_index HG.out g i hi Ax cx _ PG1.out PX1.out hlx).mono ?_); rintro e w2 ⟨rfl, hb2⟩; have PW2 := Aside0.mk (Kd.C_below PW1.out hb2); clear PW1; have PG2 := Aside0.mk (GraphAt.below PG1.out hb2); clear PG1; have PB2 := Aside0.mk (PB1.out.trans (hb2.mono PB1.out.size)); clear PB1; have PU2 := Aside0.mk (Kd.C_below PU1.out hb2); clear PU1; have Px2 := pw_cell_below hb2 Px1; clear Px1; have PX2 := Aside0.mk (Kd.C_below PX1.out hb2); clear PX1; clear hb2))
        | (go_at_call 27; ((with_reducible refine (tw_same (rdR ws (i : Int)) Ax Ai cx ci _ PX2.out hlx PU2.out hli HUl.out).mono ?_); rintro e w3 ⟨rfl, hb3⟩; have PW3 := Aside0.mk (Kd.C_below PW2.out hb3); clear PW2; have PG3 := Aside0.mk (GraphAt.below PG2.out hb3); clear PG2; have PB3 := Aside0.mk (PB2.out.trans (hb3.mono PB2.out.size)); clear PB2; have PU3 := Aside0.mk (Kd.C_below PU2.out hb3); clear PU2; have Px3 := pw_cell_below hb3 Px2; clear Px2; clear PX2; clear hb3))
        | fail)
      obtain ⟨Q, hI, hq, hQ0⟩ := HN.out
      have HUi : Aside0 (rdR ws (i : Int) = ws[i]) := ⟨rdR_get hi⟩
      have HUm : Aside0 (rdR ws (i : Int) ∈ ws) := ⟨by rw [HUi.out]; exact List.getElem_mem hi⟩
      have HI := Aside0.mk hI
      have HAt := Aside0.mk (At.start (ws := ws) (Q := Q) (rdR ws (i : Int)) hq hQ0)
      have HRg : Aside0 (∀ n st, At ws Q (rdR ws (i : Int)) n st → lessL ws ((rdR ws (i : Int)).take n) ≤ i ∧ i < lessL ws ((rdR ws (i : Int)).take n) + (resW ws ((rdR ws (i : Int)).take n)).length) := ⟨fun n st h => by rw [HUi.out] at h ⊢; exact h.range HG.out.sorted hi⟩
      generalize rdR ws (i : Int) = u at *
      clear hI hq hQ0
      go_loopw [13, 14] (fun s13 s14 wr => ∃ (n : Nat) (st : Int), s14 = .int .i64 (n : Int) ∧ s13 = .int .i64 st ∧ Aside0 (n ≤ u.length + 1 ∧ At ws Q u (min n u.length) st) ∧ Aside0 (Kd.C (Kd.slice 3 (Kd.int .i64)) wr (some ad) ws.length ws) ∧ Aside0 (GraphAt wr g (graphOf ws)) ∧ Aside0 (Below w.heap.size w wr) ∧ Aside0 (Kd.C (Kd.int .i64) wr Ai u.length u) ∧ wr.cell? (ad.add i) = some (.slice Ai u.length ci)) (fun _ s14 _ => u.length + 1 - (intOf s14).toNat)
      case atStart => exact ⟨0, 0, rfl, rfl, ⟨Nat.zero_le _, by rw [Nat.zero_min]; exact HAt.out⟩, PW3, PG3, PB3, PU3, Px3⟩
      case round =>
        obtain ⟨n, st, rfl, rfl, hJ, QW, QG, QB, QU, qx⟩ := hrel
        obtain ⟨hn1, hat⟩ := hJ.out
        by_cases hnl : n ≤ u.length
        · rw [Nat.min_eq_left hnl] at hat
          have HA := Aside0.mk hat
          have hrg := HRg.out n st hat
          obtain ⟨F, hF⟩ : ∃ F, lessL ws (u.take n) = F := ⟨_, rfl⟩
          obtain ⟨M, hM⟩ : ∃ M, (resW ws (u.take n)).length = M := ⟨_, rfl⟩
          rw [hF, hM] at hrg
          have HF := Aside0.mk hF
          have HM := Aside0.mk hM
          have hle := dl_begins_le HG.out (u.take n)
          rw [hF, hM] at hle
          have f1 : ¬ (i : Int) < (F : Int) := by omega
          have f2 : (i : Int) < (F : Int) + (M : Int) := by omega
          have f3 : (n : Int) ≤ (u.length : Int) := by omega
          have f4 : IntKind.i64.wrap ((F : Int) + 1) = (F : Int) + 1 := wrap_in (by omega) (by omega)
          obtain ⟨hcut, htk⟩ := cut_take (k := .i64) Try.underlying22 info3 Ai ci u n hnl hli
          have HTk := Aside0.mk htk
          have HTc : Aside0 (n ≤ ci) := ⟨by omega⟩
          have HTn : Aside0 ((u.take n).length = n) := ⟨by rw [List.length_take]; omega⟩
          obtain ⟨fb, hfb⟩ : ∃ fb, finalB (graphOf ws) st = fb := ⟨_, rfl⟩
          have hfr := final_st HI.out hat.s0 hat.s1
          rw [hfb] at hfr
          have HFr := Aside0.mk hfr
          have HFb := Aside0.mk hfb
          obtain ⟨N0, hN0⟩ : ∃ N0 : Nat, N0 = F + (if fb = true then 1 else 0) := ⟨_, rfl⟩
          have HN0 := Aside0.mk hN0
          clear hat hrg hF hM hJ htk hfb hfr hN0
          go_upto_if 113 with (first
            | (go_at_call 24; ((with_reducible refine (tw_begins HG.out g n (u.take n) HTn.out F M HF.out HM.out Ai ci _ QG.out (HTk.out _ QU.out) HTc.out).mono ?_); rintro e w1 ⟨rfl, hb1⟩; have SW1 := Aside0.mk (Kd.C_below QW.out hb1); clear QW; have SG1 := Aside0.mk (GraphAt.below QG.out hb1); clear QG; have SB1 := Aside0.mk (QB.out.trans (hb1.mono QB.out.size)); clear QB; have SU1 := Aside0.mk (Kd.C_below QU.out hb1); clear QU; have Sx1 := pw_cell_below hb1 qx; clear qx; clear hb1))
            | (go_at_call 31; ((with_reducible refine (dl_finalB (ws := ws) g st _ SG1.out).mono ?_); rintro e w2 ⟨rfl, hb2⟩; have SW2 := Aside0.mk (Kd.C_below SW1.out hb2); clear SW1; have SG2 := Aside0.mk (GraphAt.below SG1.out hb2); clear SG1; have SB2 := Aside0.mk (SB1.out.trans (hb2.mono SB1.out.size)); clear SB1; have SU2 := Aside0.mk (Kd.C_below SU1.out hb2); clear SU1; have Sx2 := pw_cell_below hb2 Sx1; clear Sx1; clear hb2))
            | fail)
          go_cut [17] from 113 to 172 (fun s17 wx => s17 = .int .i64 (N0 : Int) ∧ w2 = wx)
          case first =>
            cases fb with
            | true =>
              rw [HFb.out]
              go_wp2
              go_meet
              exact ⟨by rw [HN0.out]; simp, rfl⟩
            | false =>
              rw [HFb.out]
              go_wp2
              go_meet
              exact ⟨by rw [HN0.out]; simp, rfl⟩
          case rest =>
            obtain ⟨rfl, rfl⟩ := hcut
            clear f4
            go_wp2_with (first
              | (go_at_call 32; ((with_reducible refine (dl_symbols HG.out g st _ SG2.out).mono ?_); rintro e w3 ⟨Ay, cy, rfl, hly, hC3, hb3⟩; have VW3 := Aside0.mk (Kd.C_below SW2.out hb3); clear SW2; have VG3 := Aside0.mk (GraphAt.below SG2.out hb3); clear SG2; have VB3 := Aside0.mk (SB2.out.trans (hb3.mono SB2.out.size)); clear SB2; have VU3 := Aside0.mk (Kd.C_below SU2.out hb3); clear SU2; have Vx3 := pw_cell_below hb3 Sx2; clear Sx2; have VY3 := Aside0.mk (hC3); clear hb3 hC3))
              | fail)
            have HYs : Aside0 (symsN (graphOf ws) st = (groups (rdP Q st)).map (·.1)) := ⟨syms_st HI.out HA.out.s0 HA.out.s1⟩
            generalize symsN (graphOf ws) st = ys at *
            have HYl : Aside0 (ys.length = (groups (rdP Q st)).length) := ⟨by rw [HYs.out, List.length_map]⟩
            have HSr : Aside0 (Srt (rdP Q st)) := ⟨(st_nd HI.out HA.out.s0 HA.out.s1).2⟩
            have HNx : Aside0 (N0 = F + (if finR (rdP Q st) = true then 1 else 0)) := ⟨by rw [← HFr.out]; exact HN0.out⟩
            go_loopw [17, 19] (fun s17 s19 wr => ∃ (j : Nat) (nx : Nat), s19 = .int .i64 (j : Int) ∧ s17 = .int .i64 (nx : Int) ∧ Aside0 (j ≤ ys.length ∧ nx = N0 + preL (rdP Q st) j) ∧ Aside0 (Kd.C (Kd.slice 3 (Kd.int .i64)) wr (some ad) ws.length ws) ∧ Aside0 (GraphAt wr g (graphOf ws)) ∧ Aside0 (Below w.heap.size w wr) ∧ Aside0 (Kd.C (Kd.int .i64) wr Ai u.length u) ∧ Aside0 (Kd.C (Kd.int .i64) wr Ay ys.length ys) ∧ wr.cell? (ad.add i) = some (.slice Ai u.length ci)) (fun _ s19 _ => ys.length - (intOf s19).toNat)
            case atStart => exact ⟨0, N0, rfl, rfl, ⟨Nat.zero_le _, by simp [preL]⟩, VW3, VG3, VB3, VU3, VY3, Vx3⟩
            case round =>
              obtain ⟨j, nx, rfl, rfl, hJ, TW, TG, TB, TU, TY, tx⟩ := hrel
              obtain ⟨hj, hnx⟩ := hJ.out
              have HNj := Aside0.mk hnx
              clear hJ hnx
              by_cases hjl : j < ys.length
              · obtain ⟨ady, rfl, ty⟩ := Kd.at_int TY.out (j : Int) (by omega) (by omega)
                rw [Int.toNat_natCast] at ty
                have hjg : j < (groups (rdP Q st)).length := by rw [← HYl.out]; exact hjl
                obtain ⟨g1, g2, g3⟩ := grp_less HSr.out hjg
                have hs : rd ys (j : Int) = ((groups (rdP Q st))[j]).1 := by rw [HYs.out, rd_nat, List.getD_eq_getElem?_getD, List.getElem?_map, List.getElem?_eq_getElem hjg]; rfl
                have hp := preL_succ hjg
                rw [← hs] at g1 g2
                generalize rd ys (j : Int) = s at *
                have HTk2 := Aside0.mk (fun X (hb : Below wr.heap.size wr X) => HTk.out X (Kd.C_below TU.out hb))
                obtain ⟨M2, hM2⟩ : ∃ M2, ((groups (rdP Q st))[j]).2.length = M2 := ⟨_, rfl⟩
                rw [hM2] at g3 hp
                have e1 : lessL ws (u.take n ++ [s]) = nx := by
                  rw [lessL_app _ _ HG.out.sorted, HF.out, ← HA.out.res, g1, HNj.out, HNx.out]; unfold preL; omega
                have e2 : (resW ws (u.take n ++ [s])).length = M2 := by
                  rw [resW_app, ← HA.out.res]
                  show (resS (rdP Q st) s).length = M2
                  rw [g2]; exact hM2
                have HBg : Aside0 (∀ (X : World) (A' : Option Addr) (c' : Nat), Below wr.heap.size wr X → Kd.C (Kd.int .i64) X A' (u.take n ++ [s]).length (u.take n ++ [s]) → (u.take n ++ [s]).length ≤ c' → Calls Try.prog 24 #[.pointer (some ⟨g, 0, none⟩), .slice A' ((u.take n).length + 1) c'] X fun e w' => e = .returned (.tuple #[.int .i64 (nx : Int), .int .i64 ((nx : Int) + (M2 : Int))]) ∧ Below X.heap.size X w') :=
                  ⟨fun X A' c' h1 h2 h3 => tw_begins HG.out g ((u.take n).length + 1) (u.take n ++ [s]) (by simp) nx M2 e1 e2 A' c' X (TG.out.below h1) (by simpa using h2) (by simpa using h3)⟩
                have HP2 : Aside0 (nx + M2 = N0 + preL (rdP Q st) (j + 1)) := ⟨by rw [hp, HNj.out]; omega⟩
                have hjj : (j : Int) < (ys.length : Int) := by omega
                have hmx := Kd.C_max TY.out
                have w1 : IntKind.i64.wrap ((j : Int) + 1) = (j : Int) + 1 := wrap_in (by omega) (by omega)
                have hM0 : ¬ (nx : Int) + (M2 : Int) ≤ (nx : Int) := by omega
                clear g1 g2 hs hp e1 e2 hM2
                have HS : Aside0 (∀ X, Below wr.heap.size wr X → X.cell? (ad.add i) = some (.slice Ai u.length ci) ∧ X.cell? (ady.add j) = some (.int .i64 s)) := ⟨fun X hb => ⟨pw_cell_below hb tx, pw_cell_below hb ty⟩⟩
                have HPl : Aside0 ((u.take n).length = n) := ⟨HTn.out⟩
                have HUl2 : Aside0 (n ≤ 1000000) := ⟨by have := HUl.out; omega⟩
                generalize u.take n = p at *
                have hb1 : Below wr.heap.size wr (wr.alloc (.cells #[] 3)).drew := (below_alloc (Below.refl _ wr) _).drew
                have hb2 : Below wr.heap.size wr ((wr.alloc (.cells #[] 3)).alloc (.cells #[.int .i64 s] 3)).drew := (below_alloc (below_alloc (Below.refl _ wr) _) _).drew
                have hb3 : Below wr.heap.size wr ((wr.alloc (.cells #[.int .i64 s] 3)).alloc (.cells #[] 3)).drew := (below_alloc (below_alloc (Below.refl _ wr) _) _).drew
                have HE1 : Aside0 (Kd.R (Kd.int .i64) 3 (wr.alloc (.cells #[] 3)).drew wr.heap.size (fun _ => True) (.slice (some ⟨wr.heap.size, 0, none⟩) 0 0) []) := ⟨Kd.R_drew (nil_R wr _ (Nat.le_refl _))⟩
                have HE2 : Aside0 (Kd.R (Kd.int .i64) 3 ((wr.alloc (.cells #[] 3)).alloc (.cells #[.int .i64 s] 3)).drew wr.heap.size (fun _ => True) (.slice (some ⟨wr.heap.size, 0, none⟩) 0 0) []) := ⟨Kd.R_drew (Kd.R_alloc (nil_R wr _ (Nat.le_refl _)) _)⟩
                have HE3 : Aside0 (Kd.R (Kd.int .i64) 3 ((wr.alloc (.cells #[.int .i64 s] 3)).alloc (.cells #[] 3)).drew wr.heap.size (fun _ => True) (.slice (some ⟨wr.heap.size + 1, 0, none⟩) 0 0) []) := ⟨Kd.R_drew (by have := nil_R (wr.alloc (.cells #[.int .i64 s] 3)) wr.heap.size (by simp); simpa using this)⟩
                have HB1 := Aside0.mk hb1
                have HB2 := Aside0.mk hb2
                have HB3 := Aside0.mk hb3
                have HK2 : Aside0 (((wr.alloc (.cells #[] 3)).alloc (.cells #[.int .i64 s] 3)).drew.heap[wr.heap.size + 1]? = some (.cells #[.int .i64 s] 3 (0, 0))) := ⟨by have := blk_new (wr.alloc (.cells #[] 3)) (.cells #[.int .i64 s] 3); rw [show (wr.alloc (.cells #[] 3)).heap.size = wr.heap.size + 1 from by simp] at this; exact this⟩
                have HK3 : Aside0 (((wr.alloc (.cells #[.int .i64 s] 3)).alloc (.cells #[] 3)).drew.heap[wr.heap.size]? = some (.cells #[.int .i64 s] 3 (0, 0))) := ⟨blk_alloc (blk_new wr (.cells #[.int .i64 s] 3)) (.cells #[] 3)⟩
                have HPl3 : Aside0 (p.length ≤ 1000000) := ⟨by have := HPl.out; have := HUl2.out; omega⟩
                clear hb1 hb2 hb3
                go_upto_region 26 with fail
                go_region_held3 (fun X => X.cell? (ad.add i) = some (.slice Ai u.length ci) ∧ X.cell? (ady.add j) = some (.int .i64 s)) (first | exact HS.out _ (by repeat (first | assumption | exact Below.refl _ _ | apply below_alloc | apply below_drew1))) (first | (refine rows_lies (w0 := wr) wr.heap.size (by rfl) (.tmp 127) (.tmp 133) (by rfl) (.slice (some ⟨wr.heap.size, 0, none⟩) 0 0) [] p Ai n ci (by rfl) (by rfl) HE1.out (HTk2.out _ HB1.out) HB1.out HB1.out.size (by have := HUl2.out; simp; omega) ?_; intro v6 w6 hR6 hb6 hG6; rw [List.nil_append] at hR6; obtain ⟨A6, c6, rfl⟩ := Kd.R_slice hR6) | (refine rows_lies (w0 := wr) wr.heap.size (by rfl) (.tmp 127) (.tmp 133) (by rfl) (.slice (some ⟨wr.heap.size, 0, none⟩) 0 0) [] p Ai n ci (by rfl) (by rfl) HE2.out (HTk2.out _ HB2.out) HB2.out HB2.out.size (by have := HUl2.out; simp; omega) ?_; intro v6 w6 hR6 hb6 hG6; have hcB2 : w6.cell? ⟨wr.heap.size + 1, 0, none⟩ = some (.int .i64 s) := (blk_cell ((hG6.block _ (by simp <;> omega) (by simp [Value.ownBlock])).trans HK2.out) 0).trans rfl; rw [List.nil_append] at hR6; obtain ⟨A6, c6, rfl⟩ := Kd.R_slice hR6) | (refine rows_lies (w0 := wr) wr.heap.size (by rfl) (.tmp 127) (.tmp 133) (by rfl) (.slice (some ⟨wr.heap.size + 1, 0, none⟩) 0 0) [] p Ai n ci (by rfl) (by rfl) HE3.out (HTk2.out _ HB3.out) HB3.out HB3.out.size (by have := HUl2.out; simp; omega) ?_; intro v6 w6 hR6 hb6 hG6; have hcB3 : w6.cell? ⟨wr.heap.size, 0, none⟩ = some (.int .i64 s) := (blk_cell ((hG6.block _ (by simp <;> omega) (by simp [Value.ownBlock])).trans HK3.out) 0).trans rfl; rw [List.nil_append] at hR6; obtain ⟨A6, c6, rfl⟩ := Kd.R_slice hR6) | (have hguard := hcB2; refine int_append_lies wr.heap.size (by rfl) (.tmp 134) (.tmp 139) (by rfl) Try.underlying22 info3 (.slice A6 p.length c6) p s (fun _ => True) (by rfl) hR6 hb6 hb6.size ⟨wr.heap.size + 1, 0, none⟩ (by rfl) hcB2 (by have := HPl3.out; omega) ?_; intro v8 w8 hR8 hB8 hG8; obtain ⟨A8, c8, rfl, hc8, hC8⟩ := Kd.R_reads hR8) | (have hguard := hcB3; refine int_append_lies wr.heap.size (by rfl) (.tmp 134) (.tmp 139) (by rfl) Try.underlying22 info3 (.slice A6 p.length c6) p s (fun _ => True) (by rfl) hR6 hb6 hb6.size ⟨wr.heap.size, 0, none⟩ (by rfl) hcB3 (by have := HPl3.out; omega) ?_; intro v8 w8 hR8 hB8 hG8; obtain ⟨A8, c8, rfl, hc8, hC8⟩ := Kd.R_reads hR8) | (refine int_append_lies wr.heap.size (by rfl) (.tmp 134) (.tmp 139) (by rfl) Try.underlying22 info3 (.slice A6 p.length c6) p s (fun _ => True) (by rfl) (Kd.R_below hR6 (below_alloc (Below.refl _ _) (.cells #[.int .i64 s] 3))) (below_alloc hb6 _) (Nat.le_trans hb6.size (by simp)) ⟨w6.heap.size, 0, none⟩ (by rfl) (by simp) (by have := HPl3.out; omega) ?_; intro v8 w8 hR8 hB8 hG8; obtain ⟨A8, c8, rfl, hc8, hC8⟩ := Kd.R_reads hR8) | (go_at_call 24; (with_reducible refine (HBg.out w8 A8 c8 hB8 hC8 hc8).mono ?_); rintro e w9 ⟨rfl, hb9'⟩; have hb9 : Below wr.heap.size wr w9 := hB8.trans (hb9'.mono hB8.size)) | fail)
                all_goals (
                  go_wp2
                  go_roundw
                  case rel => exact ⟨j + 1, nx + M2, by go_num, by simp, ⟨hjl, HP2.out⟩, ⟨Kd.C_below TW.out hb9⟩, ⟨TG.out.below hb9⟩, ⟨TB.out.trans (hb9.mono TB.out.size)⟩, ⟨Kd.C_below TU.out hb9⟩, ⟨Kd.C_below TY.out hb9⟩, pw_cell_below hb9 tx⟩
                  case measure => simp [intOf]; omega)
              · obtain rfl : j = ys.length := by omega
                have HEnd : Aside0 (nx = F + M) := ⟨by
                  have := preL_all HSr.out
                  rw [HNj.out, HNx.out, HYl.out, ← HM.out, ← HA.out.res]; omega⟩
                have hne1 : ((nx : Int) != (F : Int) + (M : Int)) = false := bne_eq_false_iff_eq.2 (by have := HEnd.out; omega)
                have hne2 : ((nx : Int) == (F : Int) + (M : Int)) = true := beq_iff_eq.2 (by have := HEnd.out; omega)
                have hul := HUl.out
                have w2 : IntKind.i64.wrap ((n : Int) + 1) = (n : Int) + 1 := wrap_in (by omega) (by omega)
                by_cases hnu : n < u.length
                · have HA2 := Aside0.mk (HA.out.step HI.out HG.out.sorted HUm.out hnu)
                  obtain ⟨adu, rfl, tu⟩ := Kd.at_int TU.out (n : Int) (by omega) (by omega)
                  rw [Int.toNat_natCast] at tu
                  generalize rd u (n : Int) = sn at *
                  have hnu2 : (n : Int) < (u.length : Int) := by omega
                  clear hcut
                  go_wp2_with (first
                    | (go_at_call 33; ((with_reducible refine (dl_step HG.out g st sn _ TG.out).mono ?_); rintro e w1 ⟨rfl, hb1⟩; have XW1 := Aside0.mk (Kd.C_below TW.out hb1); clear TW; have XG1 := Aside0.mk (GraphAt.below TG.out hb1); clear TG; have XB1 := Aside0.mk (TB.out.trans (hb1.mono TB.out.size)); clear TB; have XU1 := Aside0.mk (Kd.C_below TU.out hb1); clear TU; have Xx1 := pw_cell_below hb1 tx; clear tx; clear hb1))
                    | fail)
                  go_roundw
                  case rel => first | exact ⟨n + 1, _, by go_num, rfl, ⟨by omega, by rw [Nat.min_eq_left (by omega)]; exact HA2.out⟩, XW1, XG1, XB1, XU1, Xx1⟩ | ((repeat apply Exists.intro); refine ⟨?_, rfl⟩; exact ⟨n + 1, _, by go_num, rfl, ⟨by omega, by rw [Nat.min_eq_left (by omega)]; exact HA2.out⟩, XW1, XG1, XB1, XU1, Xx1⟩)
                  case measure => simp [intOf]; omega
                · have hnu2 : ¬ (n : Int) < (u.length : Int) := by omega
                  have HA2 : Aside0 (At ws Q u (min (n + 1) u.length) st) := ⟨by rw [show min (n + 1) u.length = n from by omega]; exact HA.out⟩
                  clear hcut
                  go_wp2
                  go_roundw
                  case rel => first | exact ⟨n + 1, st, by go_num, rfl, ⟨by omega, HA2.out⟩, ⟨TW.out⟩, ⟨TG.out⟩, ⟨TB.out⟩, ⟨TU.out⟩, tx⟩ | ((repeat apply Exists.intro); refine ⟨?_, rfl⟩; exact ⟨n + 1, st, by go_num, rfl, ⟨by omega, HA2.out⟩, ⟨TW.out⟩, ⟨TG.out⟩, ⟨TB.out⟩, ⟨TU.out⟩, tx⟩)
                  case measure => simp [intOf]; omega
        · have hul := HUl.out
          have hnl2 : ¬ (n : Int) ≤ (u.length : Int) := by omega
          rw [Nat.min_eq_right (by omega)] at hat
          have HLast := Aside0.mk (hat.last HI.out HG.out.sorted HUm.out)
          have w2 : IntKind.i64.wrap ((i : Int) + 1) = (i : Int) + 1 := wrap_in (by omega) (by omega)
          clear hat hJ
          go_wp2_with (first
            | (go_at_call 31; ((with_reducible refine (tw_final g st _ QG.out HLast.out).mono ?_); rintro e w1 ⟨rfl, hb1⟩; have ZW1 := Aside0.mk (Kd.C_below QW.out hb1); clear QW; have ZG1 := Aside0.mk (GraphAt.below QG.out hb1); clear QG; have ZB1 := Aside0.mk (QB.out.trans (hb1.mono QB.out.size)); clear QB; clear hb1))
            | fail)
          go_roundw
          case rel => exact ⟨i + 1, by go_num, ⟨hi⟩, ZW1, ZG1, ZB1⟩
          case measure => simp [intOf]; omega
    · have hii : ¬ (i : Int) < (ws.length : Int) := by omega
      go_wp2_with (first
        | (go_at_call 28; ((with_reducible refine (lives15 _).mono ?_); rintro e w1 ⟨rfl, hb1⟩; have YB1 := Aside0.mk (RB.out.trans (hb1.mono RB.out.size)); clear RB; clear hb1))
        | fail)
      go_ret
      exact ⟨rfl, YB1.out⟩
def wordbooklaw15_DawgTwoWay.Pure : Prop := True
theorem wordbooklaw15_DawgTwoWay.walk (P : wordbooklaw15_DawgTwoWay.Pure) (a0 : Option Addr) (len0 cap0 : Nat) (z0 : List Int) (a1 : Int) (w : World) (w0 : (a0 = none ∧ len0 = 0 ∧ cap0 = 0 ∧ z0 = []) ∨ ∃ x, a0 = some x ∧ len0 ≤ cap0 ∧ cap0 ≤ maxLen ∧ z0.length = cap0 ∧ (∀ i, i < z0.length → w.cell? (x.add i) = some (.int .i64 (z0.getD i 0))) ∧ ∀ n ∈ z0, (Lit.int .i64 n).wf = true) (y0 : len0 * 8 ≤ 140737488351232) (w1 : (Lit.int .i64 a1).wf = true) :
    Calls Try.prog 5 #[.slice a0 len0 cap0, .int .i64 a1] w fun e w' => e = .returned (.bool true) ∧ Below w.heap.size w w' := by
  obtain ⟨l0, rfl, hr0, hm0, hw0, hc0⟩ := ReadsInt.ofRowC w0
  exact twoWay_true _ _ l0 a1 w (Kd.C_of_reads (d := (0 : Int)) (h1 := fun _ => rfl) hr0) hc0 (fun x hx => wf_i64 (hw0 x hx)) (wf_i64 w1)

end Go.Proofs.Ytcdjeimjbbknjaa.PAll
