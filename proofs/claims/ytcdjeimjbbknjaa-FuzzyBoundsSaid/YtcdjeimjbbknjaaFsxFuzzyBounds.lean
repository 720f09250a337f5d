/- The statement FuzzyBounds is proved, without conditions. -/
import Derived.Test.YtcdjeimjbbknjaaRows
import Derived.WalkKit
import Derived.ProofKit
import Derived.OpenShut
import Derived.ShutString
import Derived.ChangeOld
import Derived.Below
import Derived.SizedLaws
import Derived.Test.YtcdjeimjbbknjaaFs4
namespace Go.Proofs.Ytcdjeimjbbknjaa.PAll
open Go.RowKit Go.Proofs.YtcdjeimjbbknjaaW.PrintWords Go.Proofs.YtcdjeimjbbknjaaW.PrintLast Go.Proofs.YtcdjeimjbbknjaaW.PrintMore Go.Proofs.Ytcdjeimjbbknjaa.Res Go.Proofs.Ytcdjeimjbbknjaa.Lev
set_option linter.unusedVariables false
set_option linter.unusedSimpArgs false

theorem refL_up (ws : List (List Int)) (wl : List Int) (j : Nat) : refL ws wl (j : Int) = hitsUpto (pairsOf ws wl) (j + 1) := by
  unfold refL; rw [show ((j : Int) + 1).toNat = j + 1 from by omega]
theorem hitsUpto_pre (ps : List (Int × Int)) (j : Nat) : (hitsUpto ps (j + 1)).take (hitsUpto ps j).length = hitsUpto ps j ∧ (hitsUpto ps j).length ≤ (hitsUpto ps (j + 1)).length := by
  rw [hitsUpto]; exact ⟨by simp, by simp⟩
theorem bestN_nil (xs : List (Int × Int)) : (bestN xs).length = 0 ↔ xs.length = 0 := by
  cases xs with
  | nil => simp [bestN]
  | cons a xs => unfold bestN; rw [List.takeWhile_cons_of_pos (by simp)]; simp
theorem filter_one {f : Nat → Int × Int} {p : Int × Int → Bool} {i : Nat} (hi : p (f i) = true) (n : Nat) (hn : ∀ k, k < n → (p (f k) = true ↔ k = i)) : ((List.range n).map f).filter p = if i < n then [f i] else [] := by
  induction n with
  | zero => simp
  | succ n ih =>
    have ih := ih (fun k hk => hn k (by omega))
    rw [List.range_succ, List.map_append, List.filter_append, ih]
    by_cases hin : n = i
    · subst hin
      rw [if_neg (by omega), if_pos (by omega)]
      simp [hi]
    · have : p (f n) = false := by
        have := hn n (by omega)
        cases hp : p (f n) with
        | true => exact absurd (this.1 hp) hin
        | false => rfl
      by_cases hlt : i < n
      · rw [if_pos hlt, if_pos (by omega)]; simp [this]
      · rw [if_neg hlt, if_neg (by omega)]; simp [this]
/-- A word of a sorted list is found at the distance 0 alone. -/
theorem refL_own {ws : List (List Int)} (hs : Srt ws) {i : Nat} (hi : i < ws.length) : refL ws (rdR ws (i : Int)) 0 = [((i : Int), 0)] := by
  have e : refL ws (rdR ws (i : Int)) 0 = [] ++ (pairsOf ws (rdR ws (i : Int))).filter fun h => h.2 == ((0 : Nat) : Int) := rfl
  rw [e, List.nil_append]
  unfold pairsOf
  rw [filter_one (i := i) (by simp [lev_self]) ws.length (fun k hk => ?_), if_pos hi, lev_self]
  · rfl
  · constructor
    · intro h
      simp only [beq_iff_eq] at h
      have h0 : lev (rdR ws (k : Int)) (rdR ws (i : Int)) = 0 := by omega
      have he := (lev_zero _ _).1 h0
      have h1 := lessL_at ws hs k hk
      have h2 := lessL_at ws hs i hi
      rw [he] at h1
      omega
    · rintro rfl; simp [lev_self]
/-- 'xs[:m]' of hits. -/
theorem cutH_take (A : Option Addr) (c : Nat) (xs : List S86) (m : Nat) (hm : m ≤ xs.length) (hc : xs.length ≤ c) :
    (∀ W : World, (Instr.slice 76 (.slice A xs.length c) none (some (.int .i64 (m : Int))) none).run Try.prog W = .ok (.slice A m c) W) ∧ ∀ w : World, Kd.C k86 w A xs.length xs → Kd.C k86 w A m (xs.take m) := by
  obtain ⟨i0, hi, _, hsz, _⟩ := info_parts info86
  have hrun := cut_to (P := Try.prog) 76 86 .i64 Try.underlying76 hi A xs.length c (m : Int) (by omega) (by omega) hc
  refine ⟨fun W => by have := hrun W; simpa using this, fun w h => ?_⟩
  have h2 := Kd.C_take h hm
  rwa [show (xs.take m).length = m from by rw [List.length_take]; omega] at h2
theorem same_quiet (xs : List S86) (n m : Nat) (hn : n = xs.length) (hm : m = xs.length) (A0 A1 : Option Addr) (c0 c1 : Nat) (w : World) (k : Nat) (hx : xs.length ≤ 1000000) (hr0 : Kd.C k86 w A0 xs.length xs) (hc0 : xs.length ≤ c0) (hr1 : Kd.C k86 w A1 xs.length xs) (hc1 : xs.length ≤ c1) :
    Calls Try.prog 57 #[.slice A0 n c0, .slice A1 m c1] (w.drewN k) fun e w'' => e = .returned (.bool true) ∧ ∃ q, w'' = w.drewN q := by
  subst hn hm
  refine Calls.quiet_of ((wordbookref16_SameHits.calls 1000001 A0 c0 xs A1 c1 xs true (w.drewN k) (Kd.C_drewN hr0 k) hc0 (Kd.C_drewN hr1 k) hc1 (same_is xs (by omega) _ (by omega))).mono ?_)
  rintro e w' ⟨rfl, ⟨m, rfl⟩⟩
  exact ⟨rfl, m, rfl⟩
theorem one_same (i : Int) (W : World) (A : Option Addr) (c : Nat) (hc : [toH (i, 0)].length ≤ c) (hC : Kd.C k86 W A [toH (i, 0)].length [toH (i, 0)]) :
    Calls Try.prog 57 #[.slice A 1 c, .slice (some ⟨W.heap.size, 0, none⟩) 1 1] (W.alloc (.cells #[.int .i64 i, .int .i64 0] 86)) fun e w' => e = .returned (.bool true) ∧ Below W.heap.size W w' := by
  have hb : (W.alloc (.cells #[.int .i64 i, .int .i64 0] 86)).heap[W.heap.size]? = some (.cells #[.int .i64 i, .int .i64 0] 86 (0, 0)) := blk_new _ _
  have hB : Below W.heap.size W (W.alloc (.cells #[.int .i64 i, .int .i64 0] 86)) := below_alloc (Below.refl _ W) _
  generalize W.alloc (.cells #[.int .i64 i, .int .i64 0] 86) = W1 at *
  have hr : Reps (k86.K W1) 2 [toH (i, 0)] [.int .i64 i, .int .i64 0] := (Reps.none _ _).snoc (p := toH (i, 0)) (c := [.int .i64 i, .int .i64 0]) (k86_mk W1 ⟨i, 0⟩) rfl
  refine (wordbookref16_SameHits.calls 20 A c [toH (i, 0)] _ 1 [toH (i, 0)] true W1 (Kd.C_below hC hB) hc (C_block hb hr (by simp)) (Nat.le_refl _) (same_is _ (by simp) 20 (by simp))).mono ?_
  rintro e w' ⟨rfl, hd⟩
  exact ⟨rfl, hB.trans (hd.below.mono hB.size)⟩
theorem cutH2 (A : Option Addr) (c : Nat) (xs : List (Int × Int)) (m : Nat) (hm : m ≤ xs.length) (hc : (xs.map toH).length ≤ c) :
    (∀ W : World, (Instr.slice 76 (.slice A xs.length c) none (some (.int .i64 (m : Int))) none).run Try.prog W = .ok (.slice A m c) W) ∧ ∀ w : World, Kd.C k86 w A (xs.map toH).length (xs.map toH) → Kd.C k86 w A m ((xs.take m).map toH) := by
  have := cutH_take A c (xs.map toH) m (by rw [List.length_map]; exact hm) hc
  rw [← List.map_take] at this
  rwa [List.length_map] at this ⊢
theorem C_empty (w : World) (A : Option Addr) : Kd.C k86 w A 0 [] := ⟨rfl, by decide, fun h => absurd h (by decide)⟩
set_option maxHeartbeats 8000000 in
set_option maxRecDepth 100000 in
theorem fuzzyBounds_true (A0 : Option Addr) (c0 : Nat) (l0 : List Int) (A1 : Option Addr) (c1 : Nat) (l1 : List Int) (a2 : Int) (w : World) (hr0 : Kd.C (Kd.int .i64) w A0 l0.length l0) (hc0 : l0.length ≤ c0) (hr1 : Kd.C (Kd.int .i64) w A1 l1.length l1) (hc1 : l1.length ≤ c1)
    (hx0 : ∀ x ∈ l0, -9223372036854775808 ≤ x ∧ x ≤ 9223372036854775807) (hx1 : ∀ x ∈ l1, -9223372036854775808 ≤ x ∧ x ≤ 9223372036854775807) (hx2 : -9223372036854775808 ≤ a2 ∧ a2 ≤ 9223372036854775807) :
    Calls Try.prog 15 #[.slice A0 l0.length c0, .slice A1 l1.length c1, .int .i64 a2] w fun e w' => e = .returned (.bool true) ∧ Below w.heap.size w w' := by
  obtain ⟨ws, hws, h16⟩ := words16_is l0 4 (by decide) hx0 200 (by decide)
  have hgood := h16.good (by decide) (by decide)
  have hm1 := Kd.C_max hr1
  have hwl := wordL_length l1
  have hfew : ws.length ≤ 1000 := by have := h16.few; omega
  have HSe0 := Aside0.mk (fun (j : Nat) (hj : j ≤ 3) g Au cu W hg hu hc => wl_search hgood g Au cu (wordL l1) (j : Int) W hg hu hc)
  have HSe := Aside0.mk (fun (j : Nat) (hj : j ≤ 3) => show ∀ g Au cu W, GraphAt W g (graphOf ws) → Kd.C (Kd.int .i64) W Au (wordL l1).length (wordL l1) → (wordL l1).length ≤ cu → Calls Try.prog 53 #[.pointer (some ⟨g, 0, none⟩), .slice Au (wordL l1).length cu, .int .i64 (j : Int)] W (GivesSI k86 ((hitsUpto (pairsOf ws (wordL l1)) (j + 1)).map toH) 0 W) from fun g Au cu W hg hu hc => by
    have := HSe0.out j hj g Au cu W hg hu hc
    rwa [refAns_in (by omega) (by omega) (by omega), refL_up] at this)
  have HBe := Aside0.mk (fun (j : Nat) (hj : j ≤ 3) => show ∀ g Au cu W, GraphAt W g (graphOf ws) → Kd.C (Kd.int .i64) W Au (wordL l1).length (wordL l1) → (wordL l1).length ≤ cu → Calls Try.prog 55 #[.pointer (some ⟨g, 0, none⟩), .slice Au (wordL l1).length cu, .int .i64 (j : Int)] W (GivesSI k86 ((bestN (hitsUpto (pairsOf ws (wordL l1)) (j + 1))).map toH) 0 W) from fun g Au cu W hg hu hc => by
    have := wl_best hgood g Au cu (wordL l1) (j : Int) W hg hu hc (by omega) (by omega) (by omega)
    rwa [refL_up] at this)
  have HLen := Aside0.mk (fun (j : Nat) => show (hitsUpto (pairsOf ws (wordL l1)) (j + 1)).length ≤ 1000 from by
    have := refL_length (ws := ws) (wordL l1) (j : Int)
    rw [refL_up] at this; omega)
  generalize pairsOf ws (wordL l1) = ps at *
  clear HSe0
  have HWs := Aside0.mk hws
  have HG := Aside0.mk hgood
  have HWp := Aside0.mk (show 0 < (ws.length : Int) by have := h16.pos; omega)
  have HAr := Aside0.mk (around_range a2 (ws.length : Int) HWp.out)
  have HR0 := Aside0.mk hr0
  have HL0 := Aside0.mk hr1
  have HX1 := Aside0.mk hx1
  have HX2 := Aside0.mk hx2
  clear hws h16 hgood hr0 hr1 hx0 hx1 hx2 hwl hfew
  go_enter Try.func15, Try.ntmps15
  go_wp2_with (first
    | (go_at_call 52; ((with_reducible refine (wl_words A0 c0 l0 4 ws _ HR0.out hc0 HWs.out).mono ?_); rintro e w1 ⟨Aw, cw, rfl, hlw, hC1, hb1⟩; have HL1 := Aside0.mk (Kd.C_below HL0.out hb1); clear HL0; have HW1 := Aside0.mk (hC1); have HB1 := Aside0.mk (hb1); clear hb1 hC1))
    | (go_at_call 19; ((with_reducible refine (build_good Aw cw ws _ HW1.out hlw HG.out).mono ?_); rintro e w2 ⟨g, rfl, hG2, hb2, _⟩; have HL2 := Aside0.mk (Kd.C_below HL1.out hb2); clear HL1; have HW2 := Aside0.mk (Kd.C_below HW1.out hb2); clear HW1; have HB2 := Aside0.mk (HB1.out.trans (hb2.mono HB1.out.size)); clear HB1; have HG2 := Aside0.mk (hG2); clear hb2 hG2))
    | (go_at_call 48; ((with_reducible refine (wl_word A1 c1 l1 _ HL2.out hc1 hm1 HX1.out).mono ?_); rintro e w3 ⟨Au, cu, rfl, hlu, hC3, hb3⟩; clear HL2; have HW3 := Aside0.mk (Kd.C_below HW2.out hb3); clear HW2; have HB3 := Aside0.mk (HB2.out.trans (hb3.mono HB2.out.size)); clear HB2; have HG3 := Aside0.mk (GraphAt.below HG2.out hb3); clear HG2; have HU3 := Aside0.mk (hC3); clear hb3 hC3)))
  have HSo : Aside0 (∀ (g : Nat) (Ai : Option Addr) (ci : Nat) (W : World), GraphAt W g (graphOf ws) → Kd.C (Kd.int .i64) W Ai (rdR ws (around a2 (ws.length : Int))).length (rdR ws (around a2 (ws.length : Int))) → (rdR ws (around a2 (ws.length : Int))).length ≤ ci → Calls Try.prog 53 #[.pointer (some ⟨g, 0, none⟩), .slice Ai (rdR ws (around a2 (ws.length : Int))).length ci, .int .i64 0] W (GivesSI k86 [toH (around a2 (ws.length : Int), 0)] 0 W)) := ⟨by
    intro g Ai ci W h1 h2 h3
    obtain ⟨r0, r1⟩ := HAr.out
    have hs : Srt ws := HG.out.sorted
    have hm : rdR ws (around a2 (ws.length : Int)) ∈ ws := by
      have := rdR_mem (l := ws) (j := (around a2 (ws.length : Int)).toNat) (by omega)
      rwa [show (((around a2 (ws.length : Int)).toNat : Nat) : Int) = around a2 (ws.length : Int) from by omega] at this
    have h64 := HG.out.short _ hm
    have := wl_search HG.out g Ai ci (rdR ws (around a2 (ws.length : Int))) 0 W h1 h2 h3
    have e := refL_own hs (i := (around a2 (ws.length : Int)).toNat) (by omega)
    rw [show (((around a2 (ws.length : Int)).toNat : Nat) : Int) = around a2 (ws.length : Int) from by omega] at e
    rw [refAns_in (by omega) (by omega) h64, e] at this
    exact this⟩
  go_loopw [11, 12] (fun s11 s12 wr => ∃ (j : Nat) (Al : Option Addr) (cl : Nat), s12 = .int .i64 (j : Int) ∧ s11 = .slice Al (hitsUpto ps j).length cl ∧ Aside0 (j ≤ 4) ∧ Aside0 ((hitsUpto ps j).length ≤ cl) ∧ Aside0 (Kd.C k86 wr Al (hitsUpto ps j).length ((hitsUpto ps j).map toH)) ∧ Aside0 (Kd.C (Kd.slice 3 (Kd.int .i64)) wr Aw ws.length ws) ∧ Aside0 (GraphAt wr g (graphOf ws)) ∧ Aside0 (Kd.C (Kd.int .i64) wr Au (wordL l1).length (wordL l1)) ∧ Aside0 (Below w.heap.size w wr)) (fun _ s12 _ => 4 - (intOf s12).toNat)
  case atStart => exact ⟨0, _, _, rfl, rfl, ⟨by omega⟩, ⟨Nat.zero_le _⟩, ⟨C_empty _ _⟩, ⟨Kd.C_alloc HW3.out _⟩, ⟨HG3.out.below (below_alloc (Below.refl _ _) _)⟩, ⟨Kd.C_alloc HU3.out _⟩, ⟨below_alloc HB3.out _⟩⟩
  case round =>
    obtain ⟨j, Al, cl, rfl, rfl, hj, hll, RL, RW, RG, RU, RB⟩ := hrel
    by_cases hlt : j ≤ 3
    · obtain ⟨htk, hle⟩ := hitsUpto_pre ps j
      have hlen := HLen.out j
      have HSej := Aside0.mk (HSe.out j hlt)
      have HBej := Aside0.mk (HBe.out j hlt)
      obtain ⟨hb, ehb⟩ : ∃ x, x = hitsUpto ps (j + 1) := ⟨_, rfl⟩
      rw [← ehb] at htk hle hlen HSej HBej
      have EHB := Aside0.mk ehb
      clear ehb
      generalize hitsUpto ps j = ha at *
      have hbn := bestN_nil hb
      have hbt := bestN_take hb
      have hbl : (bestN hb).length ≤ hb.length := (List.takeWhile_prefix _).length_le
      have hte : ∀ (h : (bestN hb).length < hb.length) (h0 : 0 < hb.length), (hb[(bestN hb).length].2 == hb[0].2) = false := fun h h0 => by
        have := tw_end (fun h : Int × Int => h.2 == (hb.headD (0, 0)).2) hb h
        cases hb with
        | nil => simp at h0
        | cons a b => exact this
      have hh0 : ∀ (h : 0 < (bestN hb).length) (h0 : 0 < hb.length), (bestN hb)[0].2 = hb[0].2 := fun h h0 => by
        have e : bestN hb = hb.takeWhile fun h => h.2 == (hb.headD (0, 0)).2 := rfl
        cases hb with
        | nil => simp at h0
        | cons a b =>
          have : bestN (a :: b) = a :: b.takeWhile (fun h => h.2 == a.2) := by rw [e]; exact List.takeWhile_cons_of_pos (by simp)
          simp [this]
      generalize bestN hb = hc at *
      have HTk := Aside0.mk htk
      have HBt := Aside0.mk hbt
      have HTe := Aside0.mk hte
      have HH0 := Aside0.mk hh0
      have HNa : Aside0 (ha.length = (ha.map toH).length) := ⟨by simp⟩
      have HNc : Aside0 (hc.length = (hc.map toH).length) := ⟨by simp⟩
      have HLa : Aside0 ((ha.map toH).length ≤ 1000000) := ⟨by rw [List.length_map]; omega⟩
      have HLc : Aside0 ((hc.map toH).length ≤ 1000000) := ⟨by rw [List.length_map]; omega⟩
      clear htk hbt hte hh0
      have d1 : (j : Int) ≤ 3 := by omega
      have f1 : ¬ hb.length < ha.length := by omega
      have f2 : ¬ hb.length < hc.length := by omega
      by_cases hz : hb.length = 0
      · have z1 : ((hb.length : Int) == 0) = true := beq_iff_eq.2 (by omega)
        have z2 : ((hc.length : Int) == 0) = true := beq_iff_eq.2 (by omega)
        have f3 : ¬ hc.length < hb.length := by omega
        clear hz hbn hlen
        go_wp2_with (first
            | (go_at_call 53; ((with_reducible refine (HSej.out g Au cu _ RG.out RU.out hlu).mono ?_); rintro e w1 ⟨Ah, ch, rfl, hlh, hC1, hb1⟩; have RW1 := Aside0.mk (Kd.C_below RW.out hb1); clear RW; have RG1 := Aside0.mk (GraphAt.below RG.out hb1); clear RG; have RU1 := Aside0.mk (Kd.C_below RU.out hb1); clear RU; have RB1 := Aside0.mk (RB.out.trans (hb1.mono RB.out.size)); clear RB; have RL1 := Aside0.mk (Kd.C_below RL.out hb1); clear RL; have RH1 := Aside0.mk (hC1); clear hb1 hC1))
            | (go_at_call 55; ((with_reducible refine (HBej.out g Au cu _ RG1.out RU1.out hlu).mono ?_); rintro e w2 ⟨Ab, cb, rfl, hlb, hC2, hb2⟩; have RW2 := Aside0.mk (Kd.C_below RW1.out hb2); clear RW1; have RG2 := Aside0.mk (GraphAt.below RG1.out hb2); clear RG1; have RU2 := Aside0.mk (Kd.C_below RU1.out hb2); clear RU1; have RB2 := Aside0.mk (RB1.out.trans (hb2.mono RB1.out.size)); clear RB1; have RL2 := Aside0.mk (Kd.C_below RL1.out hb2); clear RL1; have RH2 := Aside0.mk (Kd.C_below RH1.out hb2); clear RH1; have RBs2 := Aside0.mk (hC2); clear hb2 hC2)))
        obtain ⟨hcut1, hct1⟩ := cutH2 Ah ch hb ha.length hle hlh
        obtain ⟨hcut2, hct2⟩ := cutH2 Ah ch hb hc.length hbl hlh
        have HCa : Aside0 (Kd.C k86 w2 Ah (ha.map toH).length (ha.map toH)) := ⟨by have := hct1 _ RH2.out; rw [HTk.out] at this; simpa using this⟩
        have HCc : Aside0 (Kd.C k86 w2 Ah (hc.map toH).length (hc.map toH)) := ⟨by have := hct2 _ RH2.out; rw [← HBt.out] at this; simpa using this⟩
        have HCl : Aside0 (Kd.C k86 w2 Al (ha.map toH).length (ha.map toH)) := ⟨by simpa using RL2.out⟩
        have hlca : (ha.map toH).length ≤ ch := by simp at hlh ⊢; omega
        have hlcc : (hc.map toH).length ≤ ch := by simp at hlh ⊢; omega
        have hll' : (ha.map toH).length ≤ cl := by have := hll.out; simpa using this
        clear hct1 hct2
        go_quiet (first
          | (go_at_call 57; with_reducible exact same_quiet (ha.map toH) _ _ HNa.out HNa.out _ Al ch cl _ _ HLa.out HCa.out hlca HCl.out hll')
          | (go_at_call 57; with_reducible exact same_quiet (hc.map toH) _ _ HNc.out HNc.out _ _ ch cb _ _ HLc.out HCc.out hlcc RBs2.out hlb))
        go_wp2
        go_roundw
        case rel => exact ⟨j + 1, _, ch, by go_num, by rw [← EHB.out], ⟨by omega⟩, ⟨by rw [← EHB.out]; simpa using hlh⟩, ⟨by rw [← EHB.out]; exact Kd.C_drewN (by simpa using RH2.out) _⟩, ⟨Kd.C_drewN RW2.out _⟩, ⟨RG2.out.below (pw_below_drewN (Below.refl _ _) _)⟩, ⟨Kd.C_drewN RU2.out _⟩, ⟨pw_below_drewN RB2.out _⟩⟩
        case measure => simp [intOf]; omega
      · have z1 : ((hb.length : Int) == 0) = false := beq_eq_false_iff_ne.2 (by omega)
        have z2 : ((hc.length : Int) == 0) = false := beq_eq_false_iff_ne.2 (by omega)
        by_cases f3 : hc.length < hb.length
        · have hp0 : 0 < hc.length := by omega
          clear hz hbn hlen
          go_wp2_with (first
            | (go_at_call 53; ((with_reducible refine (HSej.out g Au cu _ RG.out RU.out hlu).mono ?_); rintro e w1 ⟨Ah, ch, rfl, hlh, hC1, hb1⟩; have RW1 := Aside0.mk (Kd.C_below RW.out hb1); clear RW; have RG1 := Aside0.mk (GraphAt.below RG.out hb1); clear RG; have RU1 := Aside0.mk (Kd.C_below RU.out hb1); clear RU; have RB1 := Aside0.mk (RB.out.trans (hb1.mono RB.out.size)); clear RB; have RL1 := Aside0.mk (Kd.C_below RL.out hb1); clear RL; have RH1 := Aside0.mk (hC1); clear hb1 hC1))
            | (go_at_call 55; ((with_reducible refine (HBej.out g Au cu _ RG1.out RU1.out hlu).mono ?_); rintro e w2 ⟨Ab, cb, rfl, hlb, hC2, hb2⟩; have RW2 := Aside0.mk (Kd.C_below RW1.out hb2); clear RW1; have RG2 := Aside0.mk (GraphAt.below RG1.out hb2); clear RG1; have RU2 := Aside0.mk (Kd.C_below RU1.out hb2); clear RU1; have RB2 := Aside0.mk (RB1.out.trans (hb2.mono RB1.out.size)); clear RB1; have RL2 := Aside0.mk (Kd.C_below RL1.out hb2); clear RL1; have RH2 := Aside0.mk (Kd.C_below RH1.out hb2); clear RH1; have RBs2 := Aside0.mk (hC2); clear hb2 hC2)))
          obtain ⟨hcut1, hct1⟩ := cutH2 Ah ch hb ha.length hle hlh
          obtain ⟨hcut2, hct2⟩ := cutH2 Ah ch hb hc.length hbl hlh
          have HCa : Aside0 (Kd.C k86 w2 Ah (ha.map toH).length (ha.map toH)) := ⟨by have := hct1 _ RH2.out; rw [HTk.out] at this; simpa using this⟩
          have HCc : Aside0 (Kd.C k86 w2 Ah (hc.map toH).length (hc.map toH)) := ⟨by have := hct2 _ RH2.out; rw [← HBt.out] at this; simpa using this⟩
          have HCl : Aside0 (Kd.C k86 w2 Al (ha.map toH).length (ha.map toH)) := ⟨by simpa using RL2.out⟩
          have hlca : (ha.map toH).length ≤ ch := by simp at hlh ⊢; omega
          have hlcc : (hc.map toH).length ≤ ch := by simp at hlh ⊢; omega
          have hll' : (ha.map toH).length ≤ cl := by have := hll.out; simpa using this
          clear hct1 hct2
          obtain ⟨ad1, hA1, x0, x1⟩ := at_T86 RH2.out (hc.length : Int) (by omega) (by simp; omega)
          obtain ⟨ad2, hA2, y0, y1⟩ := at_T86 RBs2.out ((0 : Nat) : Int) (by omega) (by simp; omega)
          subst hA1 hA2
          have e1 : hb.length = hb.length := rfl
          rw [rd_hit hb f3] at x1
          rw [rd_hit hc hp0] at y1
          simp only [toH, Int.toNat_natCast, Nat.zero_mul] at x1 y1
          rw [show ad2.add 0 = ad2 from by unfold Addr.add; simp] at y1
          have q1 := HTe.out f3 (by omega)
          rw [HH0.out hp0 (by omega)] at y1
          generalize hb[hc.length].2 = xa at *
          generalize hb[0].2 = xb at *
          clear x0 y0 e1
          go_quiet (first
            | (go_at_call 57; with_reducible exact same_quiet (ha.map toH) _ _ HNa.out HNa.out _ Al ch cl _ _ HLa.out HCa.out hlca HCl.out hll')
            | (go_at_call 57; with_reducible exact same_quiet (hc.map toH) _ _ HNc.out HNc.out _ _ ch cb _ _ HLc.out HCc.out hlcc RBs2.out hlb))
          go_wp2
          go_roundw
          case rel => exact ⟨j + 1, _, ch, by go_num, by rw [← EHB.out], ⟨by omega⟩, ⟨by rw [← EHB.out]; simpa using hlh⟩, ⟨by rw [← EHB.out]; exact Kd.C_drewN (by simpa using RH2.out) _⟩, ⟨Kd.C_drewN RW2.out _⟩, ⟨RG2.out.below (pw_below_drewN (Below.refl _ _) _)⟩, ⟨Kd.C_drewN RU2.out _⟩, ⟨pw_below_drewN RB2.out _⟩⟩
          case measure => simp [intOf]; omega
        · clear hz hbn hlen
          go_wp2_with (first
            | (go_at_call 53; ((with_reducible refine (HSej.out g Au cu _ RG.out RU.out hlu).mono ?_); rintro e w1 ⟨Ah, ch, rfl, hlh, hC1, hb1⟩; have RW1 := Aside0.mk (Kd.C_below RW.out hb1); clear RW; have RG1 := Aside0.mk (GraphAt.below RG.out hb1); clear RG; have RU1 := Aside0.mk (Kd.C_below RU.out hb1); clear RU; have RB1 := Aside0.mk (RB.out.trans (hb1.mono RB.out.size)); clear RB; have RL1 := Aside0.mk (Kd.C_below RL.out hb1); clear RL; have RH1 := Aside0.mk (hC1); clear hb1 hC1))
            | (go_at_call 55; ((with_reducible refine (HBej.out g Au cu _ RG1.out RU1.out hlu).mono ?_); rintro e w2 ⟨Ab, cb, rfl, hlb, hC2, hb2⟩; have RW2 := Aside0.mk (Kd.C_below RW1.out hb2); clear RW1; have RG2 := Aside0.mk (GraphAt.below RG1.out hb2); clear RG1; have RU2 := Aside0.mk (Kd.C_below RU1.out hb2); clear RU1; have RB2 := Aside0.mk (RB1.out.trans (hb2.mono RB1.out.size)); clear RB1; have RL2 := Aside0.mk (Kd.C_below RL1.out hb2); clear RL1; have RH2 := Aside0.mk (Kd.C_below RH1.out hb2); clear RH1; have RBs2 := Aside0.mk (hC2); clear hb2 hC2)))
          obtain ⟨hcut1, hct1⟩ := cutH2 Ah ch hb ha.length hle hlh
          obtain ⟨hcut2, hct2⟩ := cutH2 Ah ch hb hc.length hbl hlh
          have HCa : Aside0 (Kd.C k86 w2 Ah (ha.map toH).length (ha.map toH)) := ⟨by have := hct1 _ RH2.out; rw [HTk.out] at this; simpa using this⟩
          have HCc : Aside0 (Kd.C k86 w2 Ah (hc.map toH).length (hc.map toH)) := ⟨by have := hct2 _ RH2.out; rw [← HBt.out] at this; simpa using this⟩
          have HCl : Aside0 (Kd.C k86 w2 Al (ha.map toH).length (ha.map toH)) := ⟨by simpa using RL2.out⟩
          have hlca : (ha.map toH).length ≤ ch := by simp at hlh ⊢; omega
          have hlcc : (hc.map toH).length ≤ ch := by simp at hlh ⊢; omega
          have hll' : (ha.map toH).length ≤ cl := by have := hll.out; simpa using this
          clear hct1 hct2
          go_quiet (first
            | (go_at_call 57; with_reducible exact same_quiet (ha.map toH) _ _ HNa.out HNa.out _ Al ch cl _ _ HLa.out HCa.out hlca HCl.out hll')
            | (go_at_call 57; with_reducible exact same_quiet (hc.map toH) _ _ HNc.out HNc.out _ _ ch cb _ _ HLc.out HCc.out hlcc RBs2.out hlb))
          go_wp2
          go_roundw
          case rel => exact ⟨j + 1, _, ch, by go_num, by rw [← EHB.out], ⟨by omega⟩, ⟨by rw [← EHB.out]; simpa using hlh⟩, ⟨by rw [← EHB.out]; exact Kd.C_drewN (by simpa using RH2.out) _⟩, ⟨Kd.C_drewN RW2.out _⟩, ⟨RG2.out.below (pw_below_drewN (Below.refl _ _) _)⟩, ⟨Kd.C_drewN RU2.out _⟩, ⟨pw_below_drewN RB2.out _⟩⟩
          case measure => simp [intOf]; omega
    · have hje : j = 4 := by have := hj.out; omega
      have d1 : ¬ (j : Int) ≤ 3 := by omega
      clear hje
      have r0 : 0 ≤ around a2 (ws.length : Int) := HAr.out.1
      have r1 : around a2 (ws.length : Int) < (ws.length : Int) := HAr.out.2
      go_wp2_with (first
            | (go_at_call 18; ((with_reducible refine (around_calls a2 (ws.length : Int) _ HWp.out HX2.out).mono ?_); rintro e w1 ⟨rfl, hd⟩; have hb1 := hd.below; clear hd; obtain ⟨adi, Ai, ci, hAi, hxi, hli, hCi⟩ := at_rows (Kd.C_below RW.out hb1) (around a2 (ws.length : Int)) HAr.out.1 HAr.out.2; subst hAi; have EW1 := Aside0.mk (Kd.C_below RW.out hb1); clear RW; have EG1 := Aside0.mk (GraphAt.below RG.out hb1); clear RG; have EB1 := Aside0.mk (RB.out.trans (hb1.mono RB.out.size)); clear RB; have EI1 := Aside0.mk (hCi); clear hb1 hCi))
            | (go_at_call 53; ((with_reducible refine (HSo.out g Ai ci _ EG1.out EI1.out hli).mono ?_); rintro e w2 ⟨Ao, co, rfl, hlo, hC2, hb2⟩; have EW2 := Aside0.mk (Kd.C_below EW1.out hb2); clear EW1; have EG2 := Aside0.mk (GraphAt.below EG1.out hb2); clear EG1; have EB2 := Aside0.mk (EB1.out.trans (hb2.mono EB1.out.size)); clear EB1; clear EI1; have EO2 := Aside0.mk (hC2); clear hb2 hC2))
            | (go_at_call 57; ((with_reducible refine (one_same _ _ Ao co hlo EO2.out).mono ?_); rintro e w3 ⟨rfl, hb3⟩; have EW3 := Aside0.mk (Kd.C_below EW2.out hb3); clear EW2; have EG3 := Aside0.mk (GraphAt.below EG2.out hb3); clear EG2; have EB3 := Aside0.mk (EB2.out.trans (hb3.mono EB2.out.size)); clear EB2; clear EO2; clear hb3))
            | (go_at_call 51; ((with_reducible refine (wordbooklaw16_lives.calls true _ rfl).mono ?_); rintro e w4 ⟨rfl, hb4⟩; have EW4 := Aside0.mk (Kd.C_below EW3.out hb4); clear EW3; have EG4 := Aside0.mk (GraphAt.below EG3.out hb4); clear EG3; have EB4 := Aside0.mk (EB3.out.trans (hb4.mono EB3.out.size)); clear EB3; clear hb4)))
      go_ret
      exact ⟨rfl, EB4.out⟩
def wordbooklaw16_FuzzyBounds.Pure : Prop := True
theorem wordbooklaw16_FuzzyBounds.walk (P : wordbooklaw16_FuzzyBounds.Pure) (a0 : Option Addr) (len0 cap0 : Nat) (z0 : List Int) (a1 : Option Addr) (len1 cap1 : Nat) (z1 : List Int) (a2 : Int) (w : World) (w0 : (a0 = none ∧ len0 = 0 ∧ cap0 = 0 ∧ z0 = []) ∨ ∃ x, a0 = some x ∧ len0 ≤ cap0 ∧ cap0 ≤ maxLen ∧ z0.length = cap0 ∧ (∀ i, i < z0.length → w.cell? (x.add i) = some (.int .i64 (z0.getD i 0))) ∧ ∀ n ∈ z0, (Lit.int .i64 n).wf = true) (y0 : len0 * 8 ≤ 140737488351232) (w1 : (a1 = none ∧ len1 = 0 ∧ cap1 = 0 ∧ z1 = []) ∨ ∃ x, a1 = some x ∧ len1 ≤ cap1 ∧ cap1 ≤ maxLen ∧ z1.length = cap1 ∧ (∀ i, i < z1.length → w.cell? (x.add i) = some (.int .i64 (z1.getD i 0))) ∧ ∀ n ∈ z1, (Lit.int .i64 n).wf = true) (y1 : len1 * 8 ≤ 140737488351232) (w2 : (Lit.int .i64 a2).wf = true) :
    Calls Try.prog 15 #[.slice a0 len0 cap0, .slice a1 len1 cap1, .int .i64 a2] w fun e w' => e = .returned (.bool true) ∧ Below w.heap.size w w' := by
  obtain ⟨l0, rfl, hr0, hm0, hw0, hc0⟩ := ReadsInt.ofRowC w0
  obtain ⟨l1, rfl, hr1, hm1, hw1, hc1⟩ := ReadsInt.ofRowC w1
  exact fuzzyBounds_true _ _ l0 _ _ l1 a2 w (Kd.C_of_reads (d := (0 : Int)) (h1 := fun _ => rfl) hr0) hc0 (Kd.C_of_reads (d := (0 : Int)) (h1 := fun _ => rfl) hr1) hc1 (fun x hx => wf_int (hw0 x hx)) (fun x hx => wf_int (hw1 x hx)) (wf_int w2)

end Go.Proofs.Ytcdjeimjbbknjaa.PAll
namespace Go.Proofs.Ytcdjeimjbbknjaa.Pure
theorem FuzzyBounds : PAll.wordbooklaw16_FuzzyBounds.Pure := trivial
end Go.Proofs.Ytcdjeimjbbknjaa.Pure
namespace Go.Proofs.Ytcdjeimjbbknjaa.fuzzyBounds
open Go.ChangeShapes Go.WideShapes Go.ChangeAt Go.RowKit
open Go.ChangeMaps (open_string shut_string)
set_option linter.unusedVariables false
theorem own : ownKnob Try.prog.godebug = none := by kernel_rfl
theorem laidOut : laidOutB Try.prog = true := by kernel_rfl
def IsRow (k : IntKind) (w : World) (a : Option Addr) (len cap : Nat) (zs : List Int) : Prop :=
  (a = none ∧ len = 0 ∧ cap = 0 ∧ zs = []) ∨
  ∃ x, a = some x ∧ len ≤ cap ∧ cap ≤ maxLen ∧ zs.length = cap ∧ (∀ i, i < zs.length → w.cell? (x.add i) = some (.int k (zs.getD i 0))) ∧ ∀ n ∈ zs, (Lit.int k n).wf = true
set_option maxRecDepth 100000 in
theorem lifted (os : Os) (started : os.Started) (H : Type) (enc : TypeId × Value → H) :
    ReturnsInHanded {} Try.checked os 15 .any (Rows.fuzzyBoundsSpec.pre6 enc Try.prog Try.f15 Rows.fuzzyBoundsRow.domain false) (Rows.fuzzyBoundsSpec.post enc Try.prog Try.f15 false true false false) := by
  refine returnsInHanded_of_change_sized (C := Try.checked) own started (by kernel_rfl) Try.func15
    (ChangeSpec.witness6 (enc := enc) (C := Try.checked) false ⟨#[], #[.slice none 0 0, .slice none 0 0, .int .i64 0], []⟩ 8 (by kernel_rfl) (by kernel_rfl) (by kernel_rfl) (by kernel_rfl)) ?_
  intro W base args ds gs before hval0 hW hcnd hsz0 _
  have hsz : (DataW.weightsEach Try.prog (Try.f15.params.toList ++ Rows.fuzzyBoundsSpec.plain.varTypes Try.prog) (ds ++ gs)).all (· ≤ reachBytes) = true := hsz0
  have hval : ∀ (j : Nat) t v, Try.f15.params[j]? = some t → args[j]? = some v → Value.okWide Try.prog W .any base t v := hval0
  have hW' := hW
  obtain ⟨p, q, hA0, hV, rfl, hfz, hnd⟩ := hW
  have hA : DataW.TrodAll enc Try.prog W 0 (fun _ => true) true Try.f15.params.toList args.toList ds p := hA0
  rw [Try.params15] at hA hval hsz
  obtain ⟨v0, vs0, d0, ds0, p0, q0, hargs, rfl, rfl, h0, r0⟩ := trodAll_cons hA
  obtain ⟨v1, vs1, d1, ds1, p1, q1, rfl, rfl, rfl, h1, r1⟩ := trodAll_cons r0
  obtain ⟨v2, vs2, d2, ds2, p2, q2, rfl, rfl, rfl, h2, r2⟩ := trodAll_cons r1
  obtain ⟨rfl, rfl, rfl⟩ := trodAll_nil r2
  obtain rfl : args = #[v0, v1, v2] := by cases args; simp_all
  obtain ⟨rfl, rfl⟩ := trodVars_none hV
  obtain ⟨a0, len0, cap0, rfl⟩ := okWide_slice Try.underlying22 (hval 0 22 v0 rfl rfl)
  have k0 := h0
  have lt0 : ∀ x ∈ p0, x.block < W.heap.size := by obtain ⟨m, hm⟩ := k0; exact DataW.trod_lt m _ _ _ hm
  obtain ⟨z0, w0⟩ : ∃ zs, IsRow .i64 W a0 len0 cap0 zs := by
    obtain ⟨fuel, hf⟩ := h0
    rcases open_ints Try.underlying22 Try.underlying3 (by kernel_rfl) hf with ⟨hcs, _⟩ | ⟨x, l, c, zs, hcs, _, hl, hm, hz, _, hcell, hwz⟩
    · simp [Value.cells] at hcs
      obtain ⟨rfl, rfl, rfl⟩ := hcs
      exact ⟨[], .inl ⟨rfl, rfl, rfl, rfl⟩⟩
    · simp [Value.cells] at hcs
      obtain ⟨rfl, rfl, rfl⟩ := hcs
      exact ⟨zs, .inr ⟨_, rfl, hl, hm, by simpa using hz, hcell, hwz⟩⟩
  have y0 : len0 * 8 ≤ 140737488351232 := Go.Proofs.YtcdjeimjbbknjaaW.PrintWords.sized_ints hsz (j := 0) (t := 22) rfl rfl Try.underlying22 Try.underlying3 (by kernel_rfl) (by kernel_rfl) h0
  obtain ⟨a1, len1, cap1, rfl⟩ := okWide_slice Try.underlying22 (hval 1 22 v1 rfl rfl)
  have k1 := h1
  have lt1 : ∀ x ∈ p1, x.block < W.heap.size := by obtain ⟨m, hm⟩ := k1; exact DataW.trod_lt m _ _ _ hm
  obtain ⟨z1, w1⟩ : ∃ zs, IsRow .i64 W a1 len1 cap1 zs := by
    obtain ⟨fuel, hf⟩ := h1
    rcases open_ints Try.underlying22 Try.underlying3 (by kernel_rfl) hf with ⟨hcs, _⟩ | ⟨x, l, c, zs, hcs, _, hl, hm, hz, _, hcell, hwz⟩
    · simp [Value.cells] at hcs
      obtain ⟨rfl, rfl, rfl⟩ := hcs
      exact ⟨[], .inl ⟨rfl, rfl, rfl, rfl⟩⟩
    · simp [Value.cells] at hcs
      obtain ⟨rfl, rfl, rfl⟩ := hcs
      exact ⟨zs, .inr ⟨_, rfl, hl, hm, by simpa using hz, hcell, hwz⟩⟩
  have y1 : len1 * 8 ≤ 140737488351232 := Go.Proofs.YtcdjeimjbbknjaaW.PrintWords.sized_ints hsz (j := 1) (t := 22) rfl rfl Try.underlying22 Try.underlying3 (by kernel_rfl) (by kernel_rfl) h1
  obtain ⟨a2, rfl, rfl, rfl, w2⟩ := open_int Try.underlying3 (hval 2 3 v2 rfl rfl) h2
  clear hA0 hval0 hsz0 hsz
  refine (PAll.wordbooklaw16_FuzzyBounds.walk Pure.FuzzyBounds a0 len0 cap0 z0 a1 len1 cap1 z1 a2 W w0 y0 w1 y1 w2).mono fun e W' ⟨he, bel⟩ => ?_
  subst he
  exact ⟨_, rfl, _, _, _, [], _, [], hW', trodAll_mk1 (shut_bool Try.underlying4 _), (trodAll_cons_mk (Below.trod laidOut (by kernel_rfl) (of_decide_eq_true (by kernel_rfl)) k0 bel lt0) (trodAll_cons_mk (Below.trod laidOut (by kernel_rfl) (of_decide_eq_true (by kernel_rfl)) k1 bel lt1) (trodAll_cons_mk (shut_int Try.underlying3 w2) trodAll_mk0))), rfl, bel.frame _, fun h => by cases h⟩
theorem over : Rows.fuzzyBoundsRow.holds Try.pinned (OpenSpec.ofChange Rows.fuzzyBoundsSpec) :=
  OpenClaim.holds_of_wide 15 Try.f15 rfl rfl rfl rfl rfl rfl rfl ⟨rfl, rfl, rfl, rfl, rfl⟩ rfl rfl rfl rfl rfl (by kernel_rfl) Try.func15 (by kernel_rfl)
    (of_decide_eq_true (by kernel_rfl)) (by unfold Func.isWrapper; first | (rw [if_pos (by decide +kernel)]; kernel_rfl) | (rw [if_neg (by decide +kernel)]; exact ⟨rfl, rfl⟩))
    (fun os started H enc _ => lifted os started H enc)
theorem proved : Rows.FuzzyBoundsSaid := over
#print axioms proved
end Go.Proofs.Ytcdjeimjbbknjaa.fuzzyBounds
namespace Go.Proofs.Ytcdjeimjbbknjaa
/-- The row, under a short name, for the claim. -/
theorem fuzzyBounds_holds : Rows.FuzzyBoundsSaid := fuzzyBounds.proved
end Go.Proofs.Ytcdjeimjbbknjaa
