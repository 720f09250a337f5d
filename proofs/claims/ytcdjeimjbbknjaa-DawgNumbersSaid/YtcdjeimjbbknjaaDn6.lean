import Derived.Test.YtcdjeimjbbknjaaDn5
namespace Go.Proofs.Ytcdjeimjbbknjaa.PAll
open Go.RowKit Go.Proofs.YtcdjeimjbbknjaaW.PrintWords Go.Proofs.YtcdjeimjbbknjaaW.PrintLast Go.Proofs.YtcdjeimjbbknjaaW.PrintMore
open List (setIfInBounds_toArray set_cons_zero set_cons_succ)
open Kd (R_alloc R_drewN R_drew V_alloc V_drewN V_drew S_alloc S_drewN S_drew)
attribute [local go_sem] max2_int min2_int max_two min_two max_three min_three max_four min_four   -- for this text's walks alone
set_option linter.unusedVariables false
set_option linter.unusedSimpArgs false

set_option maxHeartbeats 8000000 in
set_option maxRecDepth 100000 in
theorem wordbookref15_Build.calls (k : Nat) (P0_ : Nat → Prop) (A0 : Option Addr) (c0 : Nat) (l0 : List (List Int)) (r1 : List (List Int)) (r2 : List (List Int)) (r3 : List (List Int)) (r4 : List Bool) (r5 : Int) (w : World) (hs0 : Kd.V (Kd.slice 3 (Kd.int .i64)) 22 w w.heap.size (fun k_ => P0_ k_) (.slice A0 l0.length c0) l0) (h : wordbookref15_Build.f k l0 = some (r1, r2, r3, r4, r5)) :
    Calls Try.prog 20 #[.slice A0 l0.length c0] w fun e w' => ∃ v0_ v1_ v2_ v3_ : Value, e = .returned (.tuple #[.agg #[v0_, v1_, v2_, v3_], .int .i64 r5]) ∧ Kd.V (Kd.slice 3 (Kd.int .i64)) 22 w' w.heap.size (fun k_ => (P0_ k_ ∨ w.heap.size ≤ k_) ∧ some k_ ≠ (v1_ : Value).ownBlock ∧ some k_ ≠ (v2_ : Value).ownBlock ∧ some k_ ≠ (v3_ : Value).ownBlock) v0_ r1 ∧ Kd.S (Kd.slice 3 (Kd.int .i64)) 22 w' w.heap.size (fun k_ => (w.heap.size ≤ k_) ∧ some k_ ≠ (v2_ : Value).ownBlock) v1_ r2 ∧ Kd.S (Kd.slice 3 (Kd.int .i64)) 22 w' w.heap.size (fun k_ => (w.heap.size ≤ k_) ∧ some k_ ≠ (v1_ : Value).ownBlock) v2_ r3 ∧ Kd.R Kd.bool 4 w' w.heap.size (fun k_ => (w.heap.size ≤ k_)) v3_ r4 ∧ Below w.heap.size w w' := by
 have hu32 := Try.underlying32
 have hu106 := Try.underlying106
 have HO0 := Aside0.mk (show Kd.V (Kd.slice 3 (Kd.int .i64)) 22 w w.heap.size (fun k_ => (P0_ k_ ∨ w.heap.size ≤ k_)) (.slice A0 l0.length c0) l0 from Kd.V_mono hs0 (fun k_ hk => .inl hk))
 have HB := Aside0.mk (Below.refl w.heap.size w)
 have H : ((wordbookref15_Errors.f k l0).bind fun t102 => (if t102 = 0 then (wordbookref15_Build.l0 k l0 (([(⟨0, (l0.length : Int), 0⟩ : S106)] : List (S106))) 0 l0 ([] : List (List Int)) ([] : List (List Int)) ([] : List Bool)) else (some (([] : List (List Int)), ([] : List (List Int)), ([] : List (List Int)), ([] : List Bool), t102)))) = some (r1, r2, r3, r4, r5) := h
 clear h
 replace H := Option.bind_eq_some_iff.mp H
 obtain ⟨t102, A20, H⟩ := H
 replace H : (if t102 = 0 then (wordbookref15_Build.l0 k l0 (([(⟨0, (l0.length : Int), 0⟩ : S106)] : List (S106))) 0 l0 ([] : List (List Int)) ([] : List (List Int)) ([] : List Bool)) else (some (([] : List (List Int)), ([] : List (List Int)), ([] : List (List Int)), ([] : List Bool), t102))) = some (r1, r2, r3, r4, r5) := H
 have A2 := Aside0.mk A20
 clear A20
 by_cases c3 : t102 = 0
 ·
  rw [if_pos c3] at H
  have cC : (t102 == 0) = true := beq_iff_eq.mpr c3
  have cB : (t102 != 0) = false := bne_eq_false_iff_eq.mpr c3
  clear c3
  obtain ⟨dy, hy104⟩ : ∃ y_ : List (S106), y_ = (([(⟨0, (l0.length : Int), 0⟩ : S106)] : List (S106))) := ⟨_, rfl⟩
  replace H : (wordbookref15_Build.l0 k l0 dy 0 l0 ([] : List (List Int)) ([] : List (List Int)) ([] : List Bool)) = some (r1, r2, r3, r4, r5) := by first | (rw [hy104]; with_reducible exact H) | (have H2_ := (Option.bind_some _ _).symm.trans H; rw [hy104]; with_reducible exact H2_) | (have H2_ := (Option.bind_some _ _).symm.trans H; with_reducible exact H2_) | with_reducible exact H | (rw [hy104]; exact H) | exact H
  have Ny104 := Aside0.mk hy104
  clear hy104
  have H' := Aside0.mk H
  clear H
  go_enter Try.func20, Try.ntmps20
  go_wp2_with (first | ((with_reducible refine gate_dst (N := 2) rfl ?_); (try (refine gate_guard (by rfl) ?_; dsimp only)); refine box_event ?hg (N := 2) ?hd (cs := #[.slice none 0 0, .slice none 0 0, .slice none 0 0, .slice none 0 0]) (t := 32) ?hr ?_; (case hd => rfl); (case hg => rfl); (case hr => first | (go_simp; done) | (go_simp; rfl)); intro ao hg w4 hbox hb; have aT := Aside0.mk (Kd.V_below (Kd.V_elderB (by (with_reducible repeat first | apply V_alloc | apply V_drewN | apply V_drew); exact HO0.out) ao (Nat.le_of_eq hg.symm)) hb); have aR := Aside0.mk (below_step (by repeat (first | (with_reducible first | exact HB.out | apply below_alloc | apply pw_below_drewN | apply below_drew1) | exact HB.out)) hb); have aQ := Aside0.mk (hbox); have aW := Aside0.mk ((by rw [hg]; exact (below_size (by repeat (first | (with_reducible first | exact HB.out | apply below_alloc | apply pw_below_drewN | apply below_drew1) | exact HB.out))) : w.heap.size ≤ ao)); have aV := Aside0.mk ((by rw [hg]; exact (below_size (by repeat (first | (with_reducible first | exact HB.out | apply below_alloc | apply pw_below_drewN | apply below_drew1) | exact HB.out))) : w.heap.size ≤ ao)); clear HO0; clear HB; have HO0 := aT; have HB := aR; have am := aQ; have eE := aW; have aD := aV; clear aT aR aQ aW aV; clear hb hbox hg) | ((with_reducible refine gate_callee (f := 70) rfl ?_); refine goesL_ (some 17) rfl rfl Try.func70 (by kernel_rfl) rfl #[.slice A0 l0.length c0] rfl (by (try simp only [List.map_toArray, List.map_cons, List.map_nil]); first | done | rfl | (simp only [List.length_drop, List.length_take]; rfl)) ?_; (with_reducible refine (wordbookref15_Errors.calls k _ _ l0 t102 _ ?side1 ?side2 A2.out).mono ?_); (case side1 => repeat (first | exact (Kd.V_reads' HO0.out).2.2 | (with_reducible refine Kd.C_alloc ?_ _) | (with_reducible refine Kd.C_drewN ?_ _) | (with_reducible refine Kd.C_drew ?_))); (case side2 => exact (Kd.V_reads' HO0.out).2.1); rintro e w' ⟨rfl, ⟨nd, rfl⟩⟩; refine ⟨_, rfl, ?_⟩; (try (rw [drewN_self w4]; generalize hq_ : World.drewN w4 _ = w4; have aT : Aside0 (Kd.V (Kd.slice 3 (Kd.int .i64)) 22 w4 w.heap.size (fun k_ => (P0_ k_ ∨ w.heap.size ≤ k_) ∧ k_ ≠ ao) (.slice A0 l0.length c0) l0) := ⟨by rw [← hq_]; exact (by (with_reducible repeat first | apply V_alloc | apply V_drewN | apply V_drew); exact HO0.out)⟩; have aR : Aside0 (w4.heap[ao]? = some (.cells #[.slice none 0 0, .slice none 0 0, .slice none 0 0, .slice none 0 0] 32 (0, 0))) := ⟨by rw [← hq_]; exact (by (with_reducible repeat first | apply blk_drewN | apply blk_drew | apply blk_alloc); exact am.out)⟩; have aQ : Aside0 (Below w.heap.size w w4) := ⟨by rw [← hq_]; exact (by repeat (first | (with_reducible first | exact HB.out | apply below_alloc | apply pw_below_drewN | apply below_drew1 | refine below_set ?_ aD.out) | exact HB.out))⟩; clear HO0 am HB hq_; have HO0 := aT; have am := aR; have HB := aQ; clear aT aR aQ))) | ((with_reducible refine gate_dst (N := 5) rfl ?_); (try (refine gate_guard (by rfl) ?_; dsimp only)); refine box_event ?hg (N := 5) ?hd (cs := #[.slice none 0 0, .slice none 0 0, .slice none 0 0, .slice none 0 0]) (t := 32) ?hr ?_; (case hd => rfl); (case hg => rfl); (case hr => first | (go_simp; done) | (go_simp; rfl)); intro an hg w5 hbox hb; have aT := Aside0.mk (Kd.V_below (Kd.V_elderB (by (with_reducible repeat first | apply V_alloc | apply V_drewN | apply V_drew); exact HO0.out) an (Nat.le_of_eq hg.symm)) hb); have aR := Aside0.mk (blk_below (g := ao) (o := .cells #[.slice none 0 0, .slice none 0 0, .slice none 0 0, .slice none 0 0] 32 (0, 0)) (by (with_reducible repeat first | apply blk_drewN | apply blk_drew | apply blk_alloc); exact am.out) hb); have aQ := Aside0.mk (below_step (by repeat (first | (with_reducible first | exact HB.out | apply below_alloc | apply pw_below_drewN | apply below_drew1 | refine below_set ?_ aD.out) | exact HB.out)) hb); have aW := Aside0.mk (hbox); have aV := Aside0.mk ((by rw [hg]; exact (below_size (by repeat (first | (with_reducible first | exact HB.out | apply below_alloc | apply pw_below_drewN | apply below_drew1 | refine below_set ?_ aD.out) | exact HB.out))) : w.heap.size ≤ an)); have bd := Aside0.mk ((by rw [hg]; exact (below_size (by repeat (first | (with_reducible first | exact HB.out | apply below_alloc | apply pw_below_drewN | apply below_drew1 | refine below_set ?_ aD.out) | exact HB.out))) : w.heap.size ≤ an)); have bc := Aside0.mk ((by rw [hg]; exact Nat.ne_of_lt (blk_lt (g := ao) (o := .cells #[.slice none 0 0, .slice none 0 0, .slice none 0 0, .slice none 0 0] 32 (0, 0)) (by (with_reducible repeat first | apply blk_drewN | apply blk_drew | apply blk_alloc); exact am.out)) : ao ≠ an)); have bb := Aside0.mk ((by rw [hg]; exact Nat.ne_of_gt (blk_lt (g := ao) (o := .cells #[.slice none 0 0, .slice none 0 0, .slice none 0 0, .slice none 0 0] 32 (0, 0)) (by (with_reducible repeat first | apply blk_drewN | apply blk_drew | apply blk_alloc); exact am.out)) : an ≠ ao)); clear HO0; clear am; clear HB; have HO0 := aT; have am := aR; have HB := aQ; have ah := aW; have fu := aV; have aE := bd; have aZ := bc; have bT := bb; clear aT aR aQ aW aV bd bc bb; clear hb hbox hg; have hnb6 := bT.out; have hnc6 := aZ.out; have bL : w5.cell? ⟨an, 0, none⟩ = some (.slice none 0 0) := (blk_cell ah.out 0).trans rfl; have bK : w5.cell? ⟨an, 1, none⟩ = some (.slice none 0 0) := (blk_cell ah.out 1).trans rfl; have bJ : w5.cell? ⟨an, 2, none⟩ = some (.slice none 0 0) := (blk_cell ah.out 2).trans rfl; have bI : w5.cell? ⟨an, 3, none⟩ = some (.slice none 0 0) := (blk_cell ah.out 3).trans rfl; have bH := blk_frozen ah.out 0; have bG := blk_frozen ah.out 1; have bF := blk_frozen ah.out 2; have bE := blk_frozen ah.out 3) | ((with_reducible refine gate_dst (N := 27) rfl ?_); (try (refine gate_guard (by rfl) ?_; dsimp only)); refine Kd.R_lit k106 _ 106 ?hg (N := 27) ?hd (xs := ([(⟨0, (l0.length : Int), 0⟩ : S106)] : List (S106))) (inner := [.int .i64 0, .int .i64 (l0.length : Int), .int .i64 0]) (ok := fun _ => True) (okp := fun _ => True) ?hr ?hp (fun _ hk => hk) trivial (Below.refl _ _) (Nat.le_refl _) (by simp) ?_; (case hd => rfl); (case hg => rfl); (case hr => first | (go_simp; done) | (go_simp; rfl)); (case hp => exact (Reps.c3 (show Kd.M k106 _ _ _ (⟨0, (l0.length : Int), 0⟩ : S106) [.int .i64 0, .int .i64 (l0.length : Int), .int .i64 0] from (k106_mkM _ _ _ (⟨0, (l0.length : Int), 0⟩ : S106) )) (Reps.none _ _))); intro v105 w8 ho9 hb hg_ hnew_; clear hg_ hnew_; (first | rw [← Ny104.out] at ho9 | (simp only [Int.reduceToNat] at ho9; rw [← Ny104.out] at ho9)); have aT := Aside0.mk (Kd.V_elder' (by (with_reducible repeat first | apply V_alloc | apply V_drewN | apply V_drew); exact (Kd.V_mono (Kd.V_far (p := ⟨an, 3, none⟩) (Kd.V_far (p := ⟨an, 2, none⟩) (Kd.V_far (p := ⟨an, 1, none⟩) (Kd.V_far (p := ⟨an, 0, none⟩) (Kd.V_mono HO0.out (fun k_ hk => (⟨hk, hk.2⟩ : _ ∧ k_ ≠ an))) (fun _ hk => hk.2) (.slice A0 l0.length c0)) (fun _ hk => hk.2) (.slice none 0 0)) (fun _ hk => hk.2) (.slice none 0 0)) (fun _ hk => hk.2) (.slice none 0 0)) (fun _ h_ => h_.1))) (Kd.R_base ho9) hb); have aR := Aside0.mk (Kd.R_lower (Kd.R_newM (M := fun k_ => (w.heap.size ≤ k_)) ho9 (below_size (by repeat (first | (with_reducible first | exact HB.out | apply below_alloc | apply pw_below_drewN | apply below_drew1 | refine below_set ?_ aD.out | refine below_set ?_ aE.out) | exact HB.out))) (fun k_ h_ => h_)) (below_size (by repeat (first | (with_reducible first | exact HB.out | apply below_alloc | apply pw_below_drewN | apply below_drew1 | refine below_set ?_ aD.out | refine below_set ?_ aE.out) | exact HB.out)))); have aQ := Aside0.mk (blk_below (g := ao) (o := .cells #[.slice none 0 0, .slice none 0 0, .slice none 0 0, .slice none 0 0] 32 (0, 0)) (by (with_reducible repeat first | apply blk_drewN | apply blk_drew | apply blk_alloc); refine blk_far ?_ aZ.out _; (with_reducible repeat first | apply blk_drewN | apply blk_drew | apply blk_alloc); refine blk_far ?_ aZ.out _; (with_reducible repeat first | apply blk_drewN | apply blk_drew | apply blk_alloc); refine blk_far ?_ aZ.out _; (with_reducible repeat first | apply blk_drewN | apply blk_drew | apply blk_alloc); refine blk_far ?_ aZ.out _; (with_reducible repeat first | apply blk_drewN | apply blk_drew | apply blk_alloc); exact am.out) hb); have aW := Aside0.mk (blk_below (g := an) (o := .cells #[.slice A0 l0.length c0, .slice none 0 0, .slice none 0 0, .slice none 0 0] 32 (0, 0)) (by (with_reducible repeat first | apply blk_drewN | apply blk_drew | apply blk_alloc); refine blk_put (cs := #[.slice A0 l0.length c0, .slice none 0 0, .slice none 0 0, .slice none 0 0]) ?_ 3 _ rfl; (with_reducible repeat first | apply blk_drewN | apply blk_drew | apply blk_alloc); refine blk_put (cs := #[.slice A0 l0.length c0, .slice none 0 0, .slice none 0 0, .slice none 0 0]) ?_ 2 _ rfl; (with_reducible repeat first | apply blk_drewN | apply blk_drew | apply blk_alloc); refine blk_put (cs := #[.slice A0 l0.length c0, .slice none 0 0, .slice none 0 0, .slice none 0 0]) ?_ 1 _ rfl; (with_reducible repeat first | apply blk_drewN | apply blk_drew | apply blk_alloc); refine blk_put (cs := #[.slice none 0 0, .slice none 0 0, .slice none 0 0, .slice none 0 0]) ?_ 0 _ rfl; (with_reducible repeat first | apply blk_drewN | apply blk_drew | apply blk_alloc); exact ah.out) hb); have aV := Aside0.mk (below_step (by repeat (first | (with_reducible first | exact HB.out | apply below_alloc | apply pw_below_drewN | apply below_drew1 | refine below_set ?_ aD.out | refine below_set ?_ aE.out) | exact HB.out)) hb); clear HO0; clear am; clear ah; clear HB; have HO0 := aT; have HO106 := aR; have am := aQ; have ah := aW; have HB := aV; clear aT aR aQ aW aV; clear hb ho9))
  go_loopg [6, 7] k (fun kq v6 v7 w' => ∃ (ab : List (S106)) (aa : Int) (ar : List (List Int)) (aq : List (List Int)) (ap : List Bool) (ak : Value) (ai : Value) (al : Value), v7 = .int .i64 aa ∧ Aside0 (wordbookref15_Build.l0 kq l0 ab aa l0 ar aq ap = some (r1, r2, r3, r4, r5)) ∧ Aside0 (kq ≤ k) ∧ Aside0 (Kd.V (Kd.slice 3 (Kd.int .i64)) 22 w' w.heap.size (fun k_ => (P0_ k_ ∨ w.heap.size ≤ k_) ∧ some k_ ≠ (v6 : Value).ownBlock ∧ some k_ ≠ (ak : Value).ownBlock ∧ some k_ ≠ (ai : Value).ownBlock ∧ some k_ ≠ (al : Value).ownBlock ∧ k_ ≠ ao ∧ k_ ≠ an) (.slice A0 l0.length c0) l0) ∧ Aside0 (Kd.R k106 106 w' w.heap.size (fun k_ => (w.heap.size ≤ k_)) v6 ab) ∧ Aside0 (Kd.V (Kd.slice 3 (Kd.int .i64)) 22 w' w.heap.size (fun k_ => (P0_ k_ ∨ w.heap.size ≤ k_) ∧ some k_ ≠ (v6 : Value).ownBlock ∧ some k_ ≠ (ak : Value).ownBlock ∧ some k_ ≠ (ai : Value).ownBlock ∧ some k_ ≠ (al : Value).ownBlock ∧ k_ ≠ ao ∧ k_ ≠ an) (.slice A0 l0.length c0) l0) ∧ Aside0 (Kd.S (Kd.slice 3 (Kd.int .i64)) 22 w' w.heap.size (fun k_ => (w.heap.size ≤ k_) ∧ some k_ ≠ (ai : Value).ownBlock) ak ar) ∧ Aside0 (Kd.S (Kd.slice 3 (Kd.int .i64)) 22 w' w.heap.size (fun k_ => (w.heap.size ≤ k_) ∧ some k_ ≠ (ak : Value).ownBlock) ai aq) ∧ Aside0 (Kd.R Kd.bool 4 w' w.heap.size (fun k_ => (w.heap.size ≤ k_)) al ap) ∧ Aside0 (w'.heap[ao]? = some (.cells #[(.slice none 0 0), (.slice none 0 0), (.slice none 0 0), (.slice none 0 0)] 32 (0, 0))) ∧ Aside0 (w'.heap[an]? = some (.cells #[(.slice A0 l0.length c0), ak, ai, al] 32 (0, 0))) ∧ Aside0 (Below w.heap.size w w'))
  case atStart => exact ⟨(dy), (0), (([] : List (List Int))), (([] : List (List Int))), (([] : List Bool)), (.slice none 0 0), (.slice none 0 0), (.slice none 0 0), (by first | rfl | (simp; done) | (simp [*]; done)), H', ⟨Nat.le_refl _⟩, ⟨by (with_reducible repeat first | apply V_alloc | apply V_drewN | apply V_drew); exact Kd.V_mono HO0.out (fun _ hk => ⟨hk.1.1.1, ⟨hk.2, ⟨(by simp [Value.ownBlock]), ⟨(by simp [Value.ownBlock]), ⟨(by simp [Value.ownBlock]), ⟨hk.1.1.2, hk.1.2⟩⟩⟩⟩⟩⟩)⟩, ⟨by (with_reducible repeat first | apply R_alloc | apply R_drewN | apply R_drew); exact Kd.R_mono HO106.out (fun _ hk => hk.1)⟩, ⟨by (with_reducible repeat first | apply V_alloc | apply V_drewN | apply V_drew); exact Kd.V_mono HO0.out (fun _ hk => ⟨hk.1.1.1, ⟨hk.2, ⟨(by simp [Value.ownBlock]), ⟨(by simp [Value.ownBlock]), ⟨(by simp [Value.ownBlock]), ⟨hk.1.1.2, hk.1.2⟩⟩⟩⟩⟩⟩)⟩, ⟨by first | exact Kd.S_nil _ _ _ _ _ | exact Kd.N_nil _ _ _ _ _ | exact Kd.V_nil _ _ _ _ _ | exact Kd.Q_nil _ _ _ _ _ | exact Kd.R_nil _ _ _ _ _⟩, ⟨by first | exact Kd.S_nil _ _ _ _ _ | exact Kd.N_nil _ _ _ _ _ | exact Kd.V_nil _ _ _ _ _ | exact Kd.Q_nil _ _ _ _ _ | exact Kd.R_nil _ _ _ _ _⟩, ⟨by first | exact Kd.R_nil _ _ _ _ _ | exact Kd.N_nil _ _ _ _ _ | exact Kd.V_nil _ _ _ _ _ | exact Kd.Q_nil _ _ _ _ _ | exact Kd.S_nil _ _ _ _ _⟩, ⟨by (with_reducible repeat first | apply blk_drewN | apply blk_drew | apply blk_alloc); exact am.out⟩, ⟨by (with_reducible repeat first | apply blk_drewN | apply blk_drew | apply blk_alloc); exact ah.out⟩, ⟨by repeat (first | (with_reducible first | exact HB.out | apply below_alloc | apply pw_below_drewN | apply below_drew1 | refine below_set ?_ aD.out | refine below_set ?_ aE.out) | exact HB.out)⟩⟩
  clear H'
  (try clear c2); (try clear p2); (try clear c3); (try clear cC); (try clear cB); (try clear c6); (try clear c7); (try clear bL); (try clear bK); (try clear bJ); (try clear bI); (try clear bH); (try clear bG); (try clear bF); (try clear bE)
  obtain ⟨ab, aa, ar, aq, ap, ak, ai, al, rfl, HA, cD, aw, aA, ae, af, ac, ad, am, ah, HB⟩ := hrel
  cases gk with
  | zero => exact absurd HA.out (by simp [wordbookref15_Build.l0])
  | succ k1 => ?_
  have H := HA.out
  clear HA
  simp only [wordbookref15_Build.l0] at H
  by_cases c10 : aa < (ab.length : Int)
  ·
   rw [if_pos c10] at H
   have bV : decide (aa < (ab.length : Int)) = true := decide_eq_true c10
   clear c10
   have c11 : 0 ≤ aa := Classical.byContradiction fun c_ => by rw [if_neg c_] at H; exact absurd H (by simp)
   rw [if_pos c11] at H
   have cj : decide (0 ≤ aa) = true := decide_eq_true c11
   clear c11
   have HC12 := Aside0.mk H
   clear H
   obtain ⟨fA, bW, eo13⟩ := Kd.R_slice aA.out
   subst eo13
   have p107 : 0 ≤ (aa : Int) := of_decide_eq_true (by first | (with_reducible assumption) | assumption)
   have q107 : aa < (ab.length : Int) := of_decide_eq_true (by first | (with_reducible assumption) | assumption)
   obtain ⟨ad107, e107, bt, bs, br⟩ := at_T106 (Kd.R_reads' aA.out).2.2 aa p107 q107
   cases e107
   replace p107 := eq_true p107
   replace q107 := eq_true q107
   go_upto_region 11 with (first | ((with_reducible refine gate_dst (N := 8) rfl ?_); (try (refine gate_guard (by rfl) ?_; dsimp only)); refine box_event ?hg (N := 8) ?hd (cs := #[.int .i64 0, .int .i64 0, .int .i64 0]) (t := 106) ?hr ?_; (case hd => rfl); (case hg => rfl); (case hr => first | (go_simp; done) | (go_simp; rfl)); intro ag hg w14 hbox hb; have aT := Aside0.mk (Kd.V_below (Kd.V_elderB (by (with_reducible repeat first | apply V_alloc | apply V_drewN | apply V_drew); exact aw.out) ag (Nat.le_of_eq hg.symm)) hb); have aR := Aside0.mk (Kd.R_below (Kd.R_elderB (by (with_reducible repeat first | apply R_alloc | apply R_drewN | apply R_drew); exact aA.out) ag (Nat.le_of_eq hg.symm)) hb); have aQ := Aside0.mk (Kd.V_below (Kd.V_elderB (by (with_reducible repeat first | apply V_alloc | apply V_drewN | apply V_drew); exact ae.out) ag (Nat.le_of_eq hg.symm)) hb); have aW := Aside0.mk (Kd.S_below (by (with_reducible repeat first | apply S_alloc | apply S_drewN | apply S_drew); exact af.out) hb); have aV := Aside0.mk (Kd.S_below (by (with_reducible repeat first | apply S_alloc | apply S_drewN | apply S_drew); exact ac.out) hb); have bd := Aside0.mk (Kd.R_below (by (with_reducible repeat first | apply R_alloc | apply R_drewN | apply R_drew); exact ad.out) hb); have bc := Aside0.mk (blk_below (g := ao) (o := .cells #[.slice none 0 0, .slice none 0 0, .slice none 0 0, .slice none 0 0] 32 (0, 0)) (by (with_reducible repeat first | apply blk_drewN | apply blk_drew | apply blk_alloc); exact am.out) hb); have bb := Aside0.mk (blk_below (g := an) (o := .cells #[.slice A0 l0.length c0, ak, ai, al] 32 (0, 0)) (by (with_reducible repeat first | apply blk_drewN | apply blk_drew | apply blk_alloc); exact ah.out) hb); have bh := Aside0.mk (below_step (by repeat (first | (with_reducible first | exact HB.out | apply below_alloc | apply pw_below_drewN | apply below_drew1 | refine below_set ?_ aD.out | refine below_set ?_ aE.out) | exact HB.out)) hb); have bg := Aside0.mk (hbox); have aN := Aside0.mk ((by rw [hg]; exact (below_size (by repeat (first | (with_reducible first | exact HB.out | apply below_alloc | apply pw_below_drewN | apply below_drew1 | refine below_set ?_ aD.out | refine below_set ?_ aE.out) | exact HB.out))) : w.heap.size ≤ ag)); have aU := Aside0.mk ((by rw [hg]; exact (below_size (by repeat (first | (with_reducible first | exact HB.out | apply below_alloc | apply pw_below_drewN | apply below_drew1 | refine below_set ?_ aD.out | refine below_set ?_ aE.out) | exact HB.out))) : w.heap.size ≤ ag)); have ba := Aside0.mk ((by rw [hg]; exact Nat.ne_of_lt (blk_lt (g := ao) (o := .cells #[.slice none 0 0, .slice none 0 0, .slice none 0 0, .slice none 0 0] 32 (0, 0)) (by (with_reducible repeat first | apply blk_drewN | apply blk_drew | apply blk_alloc); exact am.out)) : ao ≠ ag)); have bD := Aside0.mk ((by rw [hg]; exact Nat.ne_of_gt (blk_lt (g := ao) (o := .cells #[.slice none 0 0, .slice none 0 0, .slice none 0 0, .slice none 0 0] 32 (0, 0)) (by (with_reducible repeat first | apply blk_drewN | apply blk_drew | apply blk_alloc); exact am.out)) : ag ≠ ao)); have de := Aside0.mk ((by rw [hg]; exact Nat.ne_of_lt (blk_lt (g := an) (o := .cells #[.slice A0 l0.length c0, ak, ai, al] 32 (0, 0)) (by (with_reducible repeat first | apply blk_drewN | apply blk_drew | apply blk_alloc); exact ah.out)) : an ≠ ag)); have dd := Aside0.mk ((by rw [hg]; exact Nat.ne_of_gt (blk_lt (g := an) (o := .cells #[.slice A0 l0.length c0, ak, ai, al] 32 (0, 0)) (by (with_reducible repeat first | apply blk_drewN | apply blk_drew | apply blk_alloc); exact ah.out)) : ag ≠ an)); clear aw; clear aA; clear ae; clear af; clear ac; clear ad; clear am; clear ah; clear HB; have aw := aT; have aA := aR; have ae := aQ; have af := aW; have ac := aV; have ad := bd; have am := bc; have ah := bb; have HB := bh; have aj := bg; have ft := aN; have aG := aU; have aY := ba; have bO := bD; have aX := de; have bl := dd; clear aT aR aQ aW aV bd bc bb bh bg aN aU ba bD de dd; clear hb hbox hg; have hnb15 := bO.out; have hnc15 := aY.out; have hnb16 := bl.out; have hnc16 := aX.out; have bA : w14.cell? ⟨ag, 0, none⟩ = some (.int .i64 0) := (blk_cell aj.out 0).trans rfl; have bz : w14.cell? ⟨ag, 1, none⟩ = some (.int .i64 0) := (blk_cell aj.out 1).trans rfl; have bx : w14.cell? ⟨ag, 2, none⟩ = some (.int .i64 0) := (blk_cell aj.out 2).trans rfl; have bw := blk_frozen aj.out 0; have bv := blk_frozen aj.out 1; have bu := blk_frozen aj.out 2))
   (try simp only [Act.put, setIfInBounds_toArray, set_cons_zero, set_cons_succ])
   go_cut [10] (fun v10 wc => ∃ (kq : Nat) (aK : Bool), v10 = .bool aK ∧ Aside0 (wordbookref15_Build.j1 kq l0 ab aa ((rd_T106 ab aa).f0) aK l0 ar aq ap ((rd_T106 ab aa).f0) ((rd_T106 ab aa).f1) ((rd_T106 ab aa).f2) = some (r1, r2, r3, r4, r5)) ∧ Aside0 (kq ≤ k1) ∧ Aside0 (Kd.V (Kd.slice 3 (Kd.int .i64)) 22 wc w.heap.size (fun k_ => (P0_ k_ ∨ w.heap.size ≤ k_) ∧ some k_ ≠ ((.slice (some ad107) ab.length bW) : Value).ownBlock ∧ some k_ ≠ (ak : Value).ownBlock ∧ some k_ ≠ (ai : Value).ownBlock ∧ some k_ ≠ (al : Value).ownBlock ∧ k_ ≠ ao ∧ k_ ≠ an ∧ k_ ≠ ag) (.slice A0 l0.length c0) l0) ∧ Aside0 (Kd.R k106 106 wc w.heap.size (fun k_ => (w.heap.size ≤ k_) ∧ k_ ≠ ag) (.slice (some ad107) ab.length bW) ab) ∧ Aside0 (Kd.V (Kd.slice 3 (Kd.int .i64)) 22 wc w.heap.size (fun k_ => (P0_ k_ ∨ w.heap.size ≤ k_) ∧ some k_ ≠ ((.slice (some ad107) ab.length bW) : Value).ownBlock ∧ some k_ ≠ (ak : Value).ownBlock ∧ some k_ ≠ (ai : Value).ownBlock ∧ some k_ ≠ (al : Value).ownBlock ∧ k_ ≠ ao ∧ k_ ≠ an ∧ k_ ≠ ag) (.slice A0 l0.length c0) l0) ∧ Aside0 (Kd.S (Kd.slice 3 (Kd.int .i64)) 22 wc w.heap.size (fun k_ => (w.heap.size ≤ k_) ∧ some k_ ≠ (ai : Value).ownBlock) ak ar) ∧ Aside0 (Kd.S (Kd.slice 3 (Kd.int .i64)) 22 wc w.heap.size (fun k_ => (w.heap.size ≤ k_) ∧ some k_ ≠ (ak : Value).ownBlock) ai aq) ∧ Aside0 (Kd.R Kd.bool 4 wc w.heap.size (fun k_ => (w.heap.size ≤ k_)) al ap) ∧ Aside0 (wc.heap[ao]? = some (.cells #[(.slice none 0 0), (.slice none 0 0), (.slice none 0 0), (.slice none 0 0)] 32 (0, 0))) ∧ Aside0 (wc.heap[an]? = some (.cells #[(.slice A0 l0.length c0), ak, ai, al] 32 (0, 0))) ∧ Aside0 (wc.heap[ag]? = some (.cells #[.int .i64 ((rd_T106 ab aa).f0), .int .i64 ((rd_T106 ab aa).f1), .int .i64 ((rd_T106 ab aa).f2)] 106 (0, 0))) ∧ Aside0 (Below w.heap.size w wc))
   case first =>
    have H := HC12.out
    clear HC12
    by_cases c18 : ((rd_T106 ab aa).f0) < ((rd_T106 ab aa).f1)
    ·
     rw [if_pos c18] at H
     have bB : decide (((rd_T106 ab aa).f0) < ((rd_T106 ab aa).f1)) = true := decide_eq_true c18
     clear c18
     (first | rw [bB] | (simp only [i64_w, i32_w]; rw [bB]) | skip)
     have c19 : 0 ≤ ((rd_T106 ab aa).f0) := Classical.byContradiction fun c_ => by rw [if_neg c_] at H; exact absurd H (by simp)
     rw [if_pos c19] at H
     have ci : decide (0 ≤ ((rd_T106 ab aa).f0)) = true := decide_eq_true c19
     clear c19
     have c20 : ((rd_T106 ab aa).f0) < (l0.length : Int) := Classical.byContradiction fun c_ => by rw [if_neg c_] at H; exact absurd H (by simp)
     rw [if_pos c20] at H
     have ch : decide (((rd_T106 ab aa).f0) < (l0.length : Int)) = true := decide_eq_true c20
     clear c20
     have H' := Aside0.mk H
     clear H
     try go_wp2
     have aT : Aside0 (Kd.V (Kd.slice 3 (Kd.int .i64)) 22 (((w14.setCell ⟨ag, 0, none⟩ (.int .i64 ((rd_T106 ab aa).f0))).setCell ⟨ag, 1, none⟩ (.int .i64 ((rd_T106 ab aa).f1))).setCell ⟨ag, 2, none⟩ (.int .i64 ((rd_T106 ab aa).f2))) w.heap.size (fun k_ => (P0_ k_ ∨ w.heap.size ≤ k_) ∧ some k_ ≠ (.slice (some ad107) ab.length bW : Value).ownBlock ∧ some k_ ≠ (ak : Value).ownBlock ∧ some k_ ≠ (ai : Value).ownBlock ∧ some k_ ≠ (al : Value).ownBlock ∧ k_ ≠ ao ∧ k_ ≠ an ∧ k_ ≠ ag) (.slice A0 l0.length c0) l0) := ⟨by (with_reducible repeat first | apply V_alloc | apply V_drewN | apply V_drew); exact Kd.V_mono (Kd.V_far (p := ⟨ag, 2, none⟩) (Kd.V_far (p := ⟨ag, 1, none⟩) (Kd.V_far (p := ⟨ag, 0, none⟩) (Kd.V_mono aw.out (fun k_ hk => (⟨hk, hk.2⟩ : _ ∧ k_ ≠ ag))) (fun _ hk => hk.2) (.int .i64 ((rd_T106 ab aa).f0))) (fun _ hk => hk.2) (.int .i64 ((rd_T106 ab aa).f1))) (fun _ hk => hk.2) (.int .i64 ((rd_T106 ab aa).f2))) (fun _ hk => ⟨hk.1.1.1, ⟨hk.1.1.2.1, ⟨hk.1.1.2.2.1, ⟨hk.1.1.2.2.2.1, ⟨hk.1.1.2.2.2.2.1, ⟨hk.1.1.2.2.2.2.2.1, ⟨hk.1.1.2.2.2.2.2.2, hk.1.2⟩⟩⟩⟩⟩⟩⟩)⟩
     have aR : Aside0 (Kd.R k106 106 (((w14.setCell ⟨ag, 0, none⟩ (.int .i64 ((rd_T106 ab aa).f0))).setCell ⟨ag, 1, none⟩ (.int .i64 ((rd_T106 ab aa).f1))).setCell ⟨ag, 2, none⟩ (.int .i64 ((rd_T106 ab aa).f2))) w.heap.size (fun k_ => (w.heap.size ≤ k_) ∧ k_ ≠ ag) (.slice (some ad107) ab.length bW) ab) := ⟨by (with_reducible repeat first | apply R_alloc | apply R_drewN | apply R_drew); exact Kd.R_mono (Kd.R_far (p := ⟨ag, 2, none⟩) (Kd.R_far (p := ⟨ag, 1, none⟩) (Kd.R_far (p := ⟨ag, 0, none⟩) (Kd.R_mono aA.out (fun k_ hk => (⟨hk, hk.2⟩ : _ ∧ k_ ≠ ag))) (fun _ hk => hk.2) (.int .i64 ((rd_T106 ab aa).f0))) (fun _ hk => hk.2) (.int .i64 ((rd_T106 ab aa).f1))) (fun _ hk => hk.2) (.int .i64 ((rd_T106 ab aa).f2))) (fun _ hk => ⟨hk.1.1, hk.1.2⟩)⟩
     have aQ : Aside0 (Kd.V (Kd.slice 3 (Kd.int .i64)) 22 (((w14.setCell ⟨ag, 0, none⟩ (.int .i64 ((rd_T106 ab aa).f0))).setCell ⟨ag, 1, none⟩ (.int .i64 ((rd_T106 ab aa).f1))).setCell ⟨ag, 2, none⟩ (.int .i64 ((rd_T106 ab aa).f2))) w.heap.size (fun k_ => (P0_ k_ ∨ w.heap.size ≤ k_) ∧ some k_ ≠ (.slice (some ad107) ab.length bW : Value).ownBlock ∧ some k_ ≠ (ak : Value).ownBlock ∧ some k_ ≠ (ai : Value).ownBlock ∧ some k_ ≠ (al : Value).ownBlock ∧ k_ ≠ ao ∧ k_ ≠ an ∧ k_ ≠ ag) (.slice A0 l0.length c0) l0) := ⟨by (with_reducible repeat first | apply V_alloc | apply V_drewN | apply V_drew); exact Kd.V_mono (Kd.V_far (p := ⟨ag, 2, none⟩) (Kd.V_far (p := ⟨ag, 1, none⟩) (Kd.V_far (p := ⟨ag, 0, none⟩) (Kd.V_mono ae.out (fun k_ hk => (⟨hk, hk.2⟩ : _ ∧ k_ ≠ ag))) (fun _ hk => hk.2) (.int .i64 ((rd_T106 ab aa).f0))) (fun _ hk => hk.2) (.int .i64 ((rd_T106 ab aa).f1))) (fun _ hk => hk.2) (.int .i64 ((rd_T106 ab aa).f2))) (fun _ hk => ⟨hk.1.1.1, ⟨hk.1.1.2.1, ⟨hk.1.1.2.2.1, ⟨hk.1.1.2.2.2.1, ⟨hk.1.1.2.2.2.2.1, ⟨hk.1.1.2.2.2.2.2.1, ⟨hk.1.1.2.2.2.2.2.2, hk.1.2⟩⟩⟩⟩⟩⟩⟩)⟩
     have aW : Aside0 (Kd.S (Kd.slice 3 (Kd.int .i64)) 22 (((w14.setCell ⟨ag, 0, none⟩ (.int .i64 ((rd_T106 ab aa).f0))).setCell ⟨ag, 1, none⟩ (.int .i64 ((rd_T106 ab aa).f1))).setCell ⟨ag, 2, none⟩ (.int .i64 ((rd_T106 ab aa).f2))) w.heap.size (fun k_ => (w.heap.size ≤ k_) ∧ some k_ ≠ (ai : Value).ownBlock) ak ar) := ⟨by (with_reducible repeat first | apply S_alloc | apply S_drewN | apply S_drew); exact Kd.S_mono (Kd.S_far (p := ⟨ag, 2, none⟩) (Kd.S_far (p := ⟨ag, 1, none⟩) (Kd.S_far (p := ⟨ag, 0, none⟩) (Kd.S_types af.out aj.out (by decide)) (fun _ hk => hk.2) (.int .i64 ((rd_T106 ab aa).f0))) (fun _ hk => hk.2) (.int .i64 ((rd_T106 ab aa).f1))) (fun _ hk => hk.2) (.int .i64 ((rd_T106 ab aa).f2))) (fun _ hk => ⟨hk.1.1, hk.1.2⟩)⟩
     have aV : Aside0 (Kd.S (Kd.slice 3 (Kd.int .i64)) 22 (((w14.setCell ⟨ag, 0, none⟩ (.int .i64 ((rd_T106 ab aa).f0))).setCell ⟨ag, 1, none⟩ (.int .i64 ((rd_T106 ab aa).f1))).setCell ⟨ag, 2, none⟩ (.int .i64 ((rd_T106 ab aa).f2))) w.heap.size (fun k_ => (w.heap.size ≤ k_) ∧ some k_ ≠ (ak : Value).ownBlock) ai aq) := ⟨by (with_reducible repeat first | apply S_alloc | apply S_drewN | apply S_drew); exact Kd.S_mono (Kd.S_far (p := ⟨ag, 2, none⟩) (Kd.S_far (p := ⟨ag, 1, none⟩) (Kd.S_far (p := ⟨ag, 0, none⟩) (Kd.S_types ac.out aj.out (by decide)) (fun _ hk => hk.2) (.int .i64 ((rd_T106 ab aa).f0))) (fun _ hk => hk.2) (.int .i64 ((rd_T106 ab aa).f1))) (fun _ hk => hk.2) (.int .i64 ((rd_T106 ab aa).f2))) (fun _ hk => ⟨hk.1.1, hk.1.2⟩)⟩
     have bd : Aside0 (Kd.R Kd.bool 4 (((w14.setCell ⟨ag, 0, none⟩ (.int .i64 ((rd_T106 ab aa).f0))).setCell ⟨ag, 1, none⟩ (.int .i64 ((rd_T106 ab aa).f1))).setCell ⟨ag, 2, none⟩ (.int .i64 ((rd_T106 ab aa).f2))) w.heap.size (fun k_ => (w.heap.size ≤ k_)) al ap) := ⟨by (with_reducible repeat first | apply R_alloc | apply R_drewN | apply R_drew); exact Kd.R_mono (Kd.R_far (p := ⟨ag, 2, none⟩) (Kd.R_far (p := ⟨ag, 1, none⟩) (Kd.R_far (p := ⟨ag, 0, none⟩) (Kd.R_types ad.out aj.out (by decide)) (fun _ hk => hk.2) (.int .i64 ((rd_T106 ab aa).f0))) (fun _ hk => hk.2) (.int .i64 ((rd_T106 ab aa).f1))) (fun _ hk => hk.2) (.int .i64 ((rd_T106 ab aa).f2))) (fun _ hk => hk.1)⟩
     have bc : Aside0 ((((w14.setCell ⟨ag, 0, none⟩ (.int .i64 ((rd_T106 ab aa).f0))).setCell ⟨ag, 1, none⟩ (.int .i64 ((rd_T106 ab aa).f1))).setCell ⟨ag, 2, none⟩ (.int .i64 ((rd_T106 ab aa).f2))).heap[ao]? = some (.cells #[.slice none 0 0, .slice none 0 0, .slice none 0 0, .slice none 0 0] 32 (0, 0))) := ⟨by (with_reducible repeat first | apply blk_drewN | apply blk_drew | apply blk_alloc); refine blk_far ?_ aY.out _; (with_reducible repeat first | apply blk_drewN | apply blk_drew | apply blk_alloc); refine blk_far ?_ aY.out _; (with_reducible repeat first | apply blk_drewN | apply blk_drew | apply blk_alloc); refine blk_far ?_ aY.out _; (with_reducible repeat first | apply blk_drewN | apply blk_drew | apply blk_alloc); exact am.out⟩
     have bb : Aside0 ((((w14.setCell ⟨ag, 0, none⟩ (.int .i64 ((rd_T106 ab aa).f0))).setCell ⟨ag, 1, none⟩ (.int .i64 ((rd_T106 ab aa).f1))).setCell ⟨ag, 2, none⟩ (.int .i64 ((rd_T106 ab aa).f2))).heap[an]? = some (.cells #[.slice A0 l0.length c0, ak, ai, al] 32 (0, 0))) := ⟨by (with_reducible repeat first | apply blk_drewN | apply blk_drew | apply blk_alloc); refine blk_far ?_ aX.out _; (with_reducible repeat first | apply blk_drewN | apply blk_drew | apply blk_alloc); refine blk_far ?_ aX.out _; (with_reducible repeat first | apply blk_drewN | apply blk_drew | apply blk_alloc); refine blk_far ?_ aX.out _; (with_reducible repeat first | apply blk_drewN | apply blk_drew | apply blk_alloc); exact ah.out⟩
     have bh : Aside0 ((((w14.setCell ⟨ag, 0, none⟩ (.int .i64 ((rd_T106 ab aa).f0))).setCell ⟨ag, 1, none⟩ (.int .i64 ((rd_T106 ab aa).f1))).setCell ⟨ag, 2, none⟩ (.int .i64 ((rd_T106 ab aa).f2))).heap[ag]? = some (.cells #[.int .i64 ((rd_T106 ab aa).f0), .int .i64 ((rd_T106 ab aa).f1), .int .i64 ((rd_T106 ab aa).f2)] 106 (0, 0))) := ⟨by (with_reducible repeat first | apply blk_drewN | apply blk_drew | apply blk_alloc); refine blk_put (cs := #[.int .i64 ((rd_T106 ab aa).f0), .int .i64 ((rd_T106 ab aa).f1), .int .i64 0]) ?_ 2 _ rfl; (with_reducible repeat first | apply blk_drewN | apply blk_drew | apply blk_alloc); refine blk_put (cs := #[.int .i64 ((rd_T106 ab aa).f0), .int .i64 0, .int .i64 0]) ?_ 1 _ rfl; (with_reducible repeat first | apply blk_drewN | apply blk_drew | apply blk_alloc); refine blk_put (cs := #[.int .i64 0, .int .i64 0, .int .i64 0]) ?_ 0 _ rfl; (with_reducible repeat first | apply blk_drewN | apply blk_drew | apply blk_alloc); exact aj.out⟩
     have bg : Aside0 (Below w.heap.size w (((w14.setCell ⟨ag, 0, none⟩ (.int .i64 ((rd_T106 ab aa).f0))).setCell ⟨ag, 1, none⟩ (.int .i64 ((rd_T106 ab aa).f1))).setCell ⟨ag, 2, none⟩ (.int .i64 ((rd_T106 ab aa).f2)))) := ⟨by repeat (first | (with_reducible first | exact HB.out | apply below_alloc | apply pw_below_drewN | apply below_drew1 | refine below_set ?_ aD.out | refine below_set ?_ aE.out | refine below_set ?_ aG.out) | exact HB.out)⟩
     (try clear aw)
     (try clear aA)
     (try clear ae)
     (try clear af)
     (try clear ac)
     (try clear ad)
     (try clear am)
     (try clear ah)
     (try clear aj)
     (try clear HB)
     generalize (((w14.setCell ⟨ag, 0, none⟩ (.int .i64 ((rd_T106 ab aa).f0))).setCell ⟨ag, 1, none⟩ (.int .i64 ((rd_T106 ab aa).f1))).setCell ⟨ag, 2, none⟩ (.int .i64 ((rd_T106 ab aa).f2))) = w21 at aT aR aQ aW aV bd bc bb bh bg ⊢
     have aw := aT
     have aA := aR
     have ae := aQ
     have af := aW
     have ac := aV
     have ad := bd
     have am := bc
     have ah := bb
     have aj := bh
     have HB := bg
     clear aT aR aQ aW aV bd bc bb bh bg
     have aT := Aside0.mk (Kd.V_drew aw.out)
     have aR := Aside0.mk (Kd.R_drew aA.out)
     have aQ := Aside0.mk (Kd.V_drew ae.out)
     have aW := Aside0.mk (Kd.S_drew af.out)
     have aV := Aside0.mk (Kd.S_drew ac.out)
     have bd := Aside0.mk (Kd.R_drew ad.out)
     have bc := Aside0.mk (blk_drew am.out)
     have bb := Aside0.mk (blk_drew ah.out)
     have bh := Aside0.mk (blk_drew aj.out)
     have bg := Aside0.mk (below_drew1 HB.out)
     clear aw
     clear aA
     clear ae
     clear af
     clear ac
     clear ad
     clear am
     clear ah
     clear aj
     clear HB
     have aw := aT
     have aA := aR
     have ae := aQ
     have af := aW
     have ac := aV
     have ad := bd
     have am := bc
     have ah := bb
     have aj := bh
     have HB := bg
     clear aT aR aQ aW aV bd bc bb bh bg
     have p109 : 0 ≤ (((rd_T106 ab aa).f0) : Int) := of_decide_eq_true (by first | (with_reducible assumption) | assumption)
     have q109 : ((rd_T106 ab aa).f0) < (l0.length : Int) := of_decide_eq_true (by first | (with_reducible assumption) | assumption)
     obtain ⟨ad109, A109_0, c109_0, e109, bk, hl109_0, hi109_0⟩ := at_L2 (Kd.V_reads' aw.out).2.2 ((rd_T106 ab aa).f0) p109 q109
     cases e109
     obtain ⟨ce109, hce109, hMe109, hcc109⟩ := Kd.V_get aw.out [] ((rd_T106 ab aa).f0) p109 (by first | exact q109 | exact of_decide_eq_true (by first | (with_reducible assumption) | assumption) | (have e_ := (Kd.V_reads' aw.out).1; omega))
     obtain ⟨ua109_0, uc109_0, rfl, ul109_0, ge109_0⟩ := Kd.FK_slice_open hMe109
     have hv109_0 := hcc109 0 _ rfl
     rw [Nat.add_zero, show ((Kd.slice 3 (Kd.int .i64))).sz = 1 from rfl, Nat.mul_one] at hv109_0
     replace hv109_0 := Option.some.inj (hv109_0.symm.trans bk)
     injection hv109_0 with hva_ hvn_ hvc_
     rw [hva_] at ge109_0
     rw [hvc_] at ul109_0
     have HL109_0 := Aside0.mk (show Kd.V (Kd.int .i64) 3 _ w.heap.size _ _ (rd_L2 l0 ((rd_T106 ab aa).f0)) from Kd.V_mk ul109_0 ge109_0)
     clear hva_ hvn_ hvc_ ge109_0 ul109_0
     clear hcc109 hce109
     have HR109_0 := Aside0.mk hi109_0
     have HC109_0 := Aside0.mk hl109_0
     clear hi109_0 hl109_0
     replace p109 := eq_true p109
     replace q109 := eq_true q109
     refine start_ (n := 15) (S := fun w' => w'.cell? ⟨ag, 0, none⟩ = some (.int .i64 ((rd_T106 ab aa).f0)) ∧ w'.cell? ⟨ag, 1, none⟩ = some (.int .i64 ((rd_T106 ab aa).f1)) ∧ w'.cell? ⟨ag, 2, none⟩ = some (.int .i64 ((rd_T106 ab aa).f2)) ∧ w'.cell? (ad109.add (((rd_T106 ab aa).f0)).toNat) = some (.slice A109_0 (rd_L2 l0 ((rd_T106 ab aa).f0)).length c109_0)) (ds := []) #[false, false, false, false, false, false, false, false, false, false, false, false, false, false, false] (by kernel_rfl) rfl rfl ⟨(blk_cell aj.out 0).trans rfl, (blk_cell aj.out 1).trans rfl, (blk_cell aj.out 2).trans rfl, bk⟩ (fun hHeld => ?_); refine with_tabW wordbookref15_Build.tab11 wordbookref15_Build.bits11 (fun HT_ HW_ => ?_)
     generalize w21.drew = w22 at aw aA ae af ac ad am ah aj HB HL109_0 HR109_0 bk hHeld ⊢
     refine pure_ (i := 0) (N := some 40) (v := ?_) (a' := ?_) #[true, false, false, false, false, false, false, false, false, false, false, false, false, false, false] rfl rfl (any_of HT_.out (by kernel_rfl)) (fun _ _ _ h => h) (Or.inl ⟨by rfl, ?_⟩) ?_ ?_
     rotate_left
     ·
      intro w'
      go_simp
      with_reducible rfl
     rotate_left
     ·
      simp only [Act.put, setIfInBounds_toArray, set_cons_zero, set_cons_succ, i64_w, i32_w]
      rfl
     refine pure_ (i := 1) (N := some 41) (v := ?_) (a' := ?_) #[true, true, false, false, false, false, false, false, false, false, false, false, false, false, false] rfl rfl (any_of HT_.out (by kernel_rfl)) (fun _ _ _ h => h) (Or.inl ⟨by rfl, ?_⟩) ?_ ?_
     rotate_left
     ·
      intro w'
      go_simp
      with_reducible rfl
     rotate_left
     ·
      simp only [Act.put, setIfInBounds_toArray, set_cons_zero, set_cons_succ, i64_w, i32_w]
      rfl
     refine take_ (i := 2) (N := some 42) (v := ?_) (a' := ?_) #[true, true, true, false, false, false, false, false, false, false, false, false, false, false, false] rfl rfl (take_ofW HT_.out HW_.out (by kernel_rfl)) (fun _ _ _ h => h) (Or.inl ⟨by rfl, ?_⟩) hHeld ?_ ?_
     rotate_left
     ·
      rintro w' ⟨s0, s1, s2, s3⟩
      go_simp
      with_reducible rfl
     rotate_left
     ·
      simp only [Act.put, setIfInBounds_toArray, set_cons_zero, set_cons_succ, i64_w, i32_w]
      rfl
     refine pure_ (i := 3) (N := some 43) (v := ?_) (a' := ?_) #[true, true, true, true, false, false, false, false, false, false, false, false, false, false, false] rfl rfl (any_of HT_.out (by kernel_rfl)) (fun _ _ _ h => h) (Or.inl ⟨by rfl, ?_⟩) ?_ ?_
     rotate_left
     ·
      intro w'
      go_simp
      with_reducible rfl
     rotate_left
     ·
      simp only [Act.put, setIfInBounds_toArray, set_cons_zero, set_cons_succ, i64_w, i32_w]
      rfl
     refine pure_ (i := 4) (N := some 44) (v := ?_) (a' := ?_) #[true, true, true, true, true, false, false, false, false, false, false, false, false, false, false] rfl rfl (any_of HT_.out (by kernel_rfl)) (fun _ _ _ h => h) (Or.inl ⟨by rfl, ?_⟩) ?_ ?_
     rotate_left
     ·
      intro w'
      go_simp
      with_reducible rfl
     rotate_left
     ·
      simp only [Act.put, setIfInBounds_toArray, set_cons_zero, set_cons_succ, i64_w, i32_w]
      rfl
     refine pure_ (i := 5) (N := some 45) (v := ?_) (a' := ?_) #[true, true, true, true, true, true, false, false, false, false, false, false, false, false, false] rfl rfl (any_of HT_.out (by kernel_rfl)) (fun _ _ _ h => h) (Or.inl ⟨by rfl, ?_⟩) ?_ ?_
     rotate_left
     ·
      intro w'
      go_simp
      with_reducible rfl
     rotate_left
     ·
      simp only [Act.put, setIfInBounds_toArray, set_cons_zero, set_cons_succ, i64_w, i32_w]
      rfl
     refine pure_ (i := 6) (N := some 46) (v := ?_) (a' := ?_) #[true, true, true, true, true, true, true, false, false, false, false, false, false, false, false] rfl rfl (any_of HT_.out (by kernel_rfl)) (fun _ _ _ h => h) (Or.inl ⟨by rfl, ?_⟩) ?_ ?_
     rotate_left
     ·
      intro w'
      go_simp
      with_reducible rfl
     rotate_left
     ·
      simp only [Act.put, setIfInBounds_toArray, set_cons_zero, set_cons_succ, i64_w, i32_w]
      rfl
     refine pure_ (i := 7) (N := some 47) (v := ?_) (a' := ?_) #[true, true, true, true, true, true, true, true, false, false, false, false, false, false, false] rfl rfl (any_of HT_.out (by kernel_rfl)) (fun _ _ _ h => h) (Or.inl ⟨by rfl, ?_⟩) ?_ ?_
     rotate_left
     ·
      intro w'
      go_simp
      with_reducible rfl
     rotate_left
     ·
      simp only [Act.put, setIfInBounds_toArray, set_cons_zero, set_cons_succ, i64_w, i32_w]
      rfl
     refine pure_ (i := 10) (N := some 50) (v := ?_) (a' := ?_) #[true, true, true, true, true, true, true, true, false, false, true, false, false, false, false] rfl rfl (any_of HT_.out (by kernel_rfl)) (fun _ _ _ h => h) (Or.inl ⟨by rfl, ?_⟩) ?_ ?_
     rotate_left
     ·
      intro w'
      go_simp
      with_reducible rfl
     rotate_left
     ·
      simp only [Act.put, setIfInBounds_toArray, set_cons_zero, set_cons_succ, i64_w, i32_w]
      rfl
     refine take_ (i := 8) (N := some 48) (v := ?_) (a' := ?_) #[true, true, true, true, true, true, true, true, true, false, true, false, false, false, false] rfl rfl (take_ofW HT_.out HW_.out (by kernel_rfl)) (fun _ _ _ h => h) (Or.inl ⟨by rfl, ?_⟩) hHeld ?_ ?_
     rotate_left
     ·
      rintro w' ⟨s0, s1, s2, s3⟩
      go_simp
      with_reducible rfl
     rotate_left
     ·
      simp only [Act.put, setIfInBounds_toArray, set_cons_zero, set_cons_succ, i64_w, i32_w]
      rfl
     refine pure_ (i := 9) (N := some 49) (v := ?_) (a' := ?_) #[true, true, true, true, true, true, true, true, true, true, true, false, false, false, false] rfl rfl (any_of HT_.out (by kernel_rfl)) (fun _ _ _ h => h) (Or.inl ⟨by rfl, ?_⟩) ?_ ?_
     rotate_left
     ·
      intro w'
      go_simp
      with_reducible rfl
     rotate_left
     ·
      simp only [Act.put, setIfInBounds_toArray, set_cons_zero, set_cons_succ, i64_w, i32_w]
      rfl
     refine take_ (i := 11) (N := some 51) (v := ?_) (a' := ?_) #[true, true, true, true, true, true, true, true, true, true, true, true, false, false, false] rfl rfl (take_ofW HT_.out HW_.out (by kernel_rfl)) (fun _ _ _ h => h) (Or.inl ⟨by rfl, ?_⟩) hHeld ?_ ?_
     rotate_left
     ·
      rintro w' ⟨s0, s1, s2, s3⟩
      go_simp
      with_reducible rfl
     rotate_left
     ·
      simp only [Act.put, setIfInBounds_toArray, set_cons_zero, set_cons_succ, i64_w, i32_w]
      rfl
     refine pure_ (i := 12) (N := some 52) (v := ?_) (a' := ?_) #[true, true, true, true, true, true, true, true, true, true, true, true, true, false, false] rfl rfl (any_of HT_.out (by kernel_rfl)) (fun _ _ _ h => h) (Or.inl ⟨by rfl, ?_⟩) ?_ ?_
     rotate_left
     ·
      intro w'
      go_simp
      with_reducible rfl
     rotate_left
     ·
      simp only [Act.put, setIfInBounds_toArray, set_cons_zero, set_cons_succ, i64_w, i32_w]
      rfl
     refine pure_ (i := 13) (N := some 53) (v := ?_) (a' := ?_) #[true, true, true, true, true, true, true, true, true, true, true, true, true, true, false] rfl rfl (any_of HT_.out (by kernel_rfl)) (fun _ _ _ h => h) (Or.inl ⟨by rfl, ?_⟩) ?_ ?_
     rotate_left
     ·
      intro w'
      go_simp
      with_reducible rfl
     rotate_left
     ·
      simp only [Act.put, setIfInBounds_toArray, set_cons_zero, set_cons_succ, i64_w, i32_w]
      rfl
     refine pure_ (i := 14) (N := some 10) (v := ?_) (a' := ?_) #[true, true, true, true, true, true, true, true, true, true, true, true, true, true, true] rfl rfl (any_of HT_.out (by kernel_rfl)) (fun _ _ _ h => h) (Or.inl ⟨by rfl, ?_⟩) ?_ ?_
     rotate_left
     ·
      intro w'
      go_simp
      with_reducible rfl
     rotate_left
     ·
      simp only [Act.put, setIfInBounds_toArray, set_cons_zero, set_cons_succ, i64_w, i32_w]
      rfl
     refine done_ (done_of HT_.out (by kernel_rfl)) ?_
     try go_wp2
     go_meet
     case rel => exact ⟨_, ((((rd_L2 l0 ((rd_T106 ab aa).f0)).length : Int) == ((rd_T106 ab aa).f2))), (by first | rfl | (simp; done) | (simp [*]; done)), H', ⟨by have := cD.out; first | omega | exact Nat.le_refl _⟩, ⟨by (with_reducible repeat first | apply V_alloc | apply V_drewN | apply V_drew); exact aw.out⟩, ⟨by (with_reducible repeat first | apply R_alloc | apply R_drewN | apply R_drew); exact aA.out⟩, ⟨by (with_reducible repeat first | apply V_alloc | apply V_drewN | apply V_drew); exact ae.out⟩, ⟨by (with_reducible repeat first | apply S_alloc | apply S_drewN | apply S_drew); exact af.out⟩, ⟨by (with_reducible repeat first | apply S_alloc | apply S_drewN | apply S_drew); exact ac.out⟩, ⟨by (with_reducible repeat first | apply R_alloc | apply R_drewN | apply R_drew); exact ad.out⟩, ⟨by (with_reducible repeat first | apply blk_drewN | apply blk_drew | apply blk_alloc); exact am.out⟩, ⟨by (with_reducible repeat first | apply blk_drewN | apply blk_drew | apply blk_alloc); exact ah.out⟩, ⟨by (with_reducible repeat first | apply blk_drewN | apply blk_drew | apply blk_alloc); exact aj.out⟩, ⟨by repeat (first | (with_reducible first | exact HB.out | apply below_alloc | apply pw_below_drewN | apply below_drew1 | refine below_set ?_ aD.out | refine below_set ?_ aE.out | refine below_set ?_ aG.out) | exact HB.out)⟩⟩
    rw [if_neg c18] at H
    have bB : decide (((rd_T106 ab aa).f0) < ((rd_T106 ab aa).f1)) = false := decide_eq_false c18
    clear c18
    (first | rw [bB] | (simp only [i64_w, i32_w]; rw [bB]) | skip)
    have H' := Aside0.mk H
    clear H
    try go_wp2
    have aT : Aside0 (Kd.V (Kd.slice 3 (Kd.int .i64)) 22 (((w14.setCell ⟨ag, 0, none⟩ (.int .i64 ((rd_T106 ab aa).f0))).setCell ⟨ag, 1, none⟩ (.int .i64 ((rd_T106 ab aa).f1))).setCell ⟨ag, 2, none⟩ (.int .i64 ((rd_T106 ab aa).f2))) w.heap.size (fun k_ => (P0_ k_ ∨ w.heap.size ≤ k_) ∧ some k_ ≠ (.slice (some ad107) ab.length bW : Value).ownBlock ∧ some k_ ≠ (ak : Value).ownBlock ∧ some k_ ≠ (ai : Value).ownBlock ∧ some k_ ≠ (al : Value).ownBlock ∧ k_ ≠ ao ∧ k_ ≠ an ∧ k_ ≠ ag) (.slice A0 l0.length c0) l0) := ⟨by (with_reducible repeat first | apply V_alloc | apply V_drewN | apply V_drew); exact Kd.V_mono (Kd.V_far (p := ⟨ag, 2, none⟩) (Kd.V_far (p := ⟨ag, 1, none⟩) (Kd.V_far (p := ⟨ag, 0, none⟩) (Kd.V_mono aw.out (fun k_ hk => (⟨hk, hk.2⟩ : _ ∧ k_ ≠ ag))) (fun _ hk => hk.2) (.int .i64 ((rd_T106 ab aa).f0))) (fun _ hk => hk.2) (.int .i64 ((rd_T106 ab aa).f1))) (fun _ hk => hk.2) (.int .i64 ((rd_T106 ab aa).f2))) (fun _ hk => ⟨hk.1.1.1, ⟨hk.1.1.2.1, ⟨hk.1.1.2.2.1, ⟨hk.1.1.2.2.2.1, ⟨hk.1.1.2.2.2.2.1, ⟨hk.1.1.2.2.2.2.2.1, ⟨hk.1.1.2.2.2.2.2.2, hk.1.2⟩⟩⟩⟩⟩⟩⟩)⟩
    have aR : Aside0 (Kd.R k106 106 (((w14.setCell ⟨ag, 0, none⟩ (.int .i64 ((rd_T106 ab aa).f0))).setCell ⟨ag, 1, none⟩ (.int .i64 ((rd_T106 ab aa).f1))).setCell ⟨ag, 2, none⟩ (.int .i64 ((rd_T106 ab aa).f2))) w.heap.size (fun k_ => (w.heap.size ≤ k_) ∧ k_ ≠ ag) (.slice (some ad107) ab.length bW) ab) := ⟨by (with_reducible repeat first | apply R_alloc | apply R_drewN | apply R_drew); exact Kd.R_mono (Kd.R_far (p := ⟨ag, 2, none⟩) (Kd.R_far (p := ⟨ag, 1, none⟩) (Kd.R_far (p := ⟨ag, 0, none⟩) (Kd.R_mono aA.out (fun k_ hk => (⟨hk, hk.2⟩ : _ ∧ k_ ≠ ag))) (fun _ hk => hk.2) (.int .i64 ((rd_T106 ab aa).f0))) (fun _ hk => hk.2) (.int .i64 ((rd_T106 ab aa).f1))) (fun _ hk => hk.2) (.int .i64 ((rd_T106 ab aa).f2))) (fun _ hk => ⟨hk.1.1, hk.1.2⟩)⟩
    have aQ : Aside0 (Kd.V (Kd.slice 3 (Kd.int .i64)) 22 (((w14.setCell ⟨ag, 0, none⟩ (.int .i64 ((rd_T106 ab aa).f0))).setCell ⟨ag, 1, none⟩ (.int .i64 ((rd_T106 ab aa).f1))).setCell ⟨ag, 2, none⟩ (.int .i64 ((rd_T106 ab aa).f2))) w.heap.size (fun k_ => (P0_ k_ ∨ w.heap.size ≤ k_) ∧ some k_ ≠ (.slice (some ad107) ab.length bW : Value).ownBlock ∧ some k_ ≠ (ak : Value).ownBlock ∧ some k_ ≠ (ai : Value).ownBlock ∧ some k_ ≠ (al : Value).ownBlock ∧ k_ ≠ ao ∧ k_ ≠ an ∧ k_ ≠ ag) (.slice A0 l0.length c0) l0) := ⟨by (with_reducible repeat first | apply V_alloc | apply V_drewN | apply V_drew); exact Kd.V_mono (Kd.V_far (p := ⟨ag, 2, none⟩) (Kd.V_far (p := ⟨ag, 1, none⟩) (Kd.V_far (p := ⟨ag, 0, none⟩) (Kd.V_mono ae.out (fun k_ hk => (⟨hk, hk.2⟩ : _ ∧ k_ ≠ ag))) (fun _ hk => hk.2) (.int .i64 ((rd_T106 ab aa).f0))) (fun _ hk => hk.2) (.int .i64 ((rd_T106 ab aa).f1))) (fun _ hk => hk.2) (.int .i64 ((rd_T106 ab aa).f2))) (fun _ hk => ⟨hk.1.1.1, ⟨hk.1.1.2.1, ⟨hk.1.1.2.2.1, ⟨hk.1.1.2.2.2.1, ⟨hk.1.1.2.2.2.2.1, ⟨hk.1.1.2.2.2.2.2.1, ⟨hk.1.1.2.2.2.2.2.2, hk.1.2⟩⟩⟩⟩⟩⟩⟩)⟩
    have aW : Aside0 (Kd.S (Kd.slice 3 (Kd.int .i64)) 22 (((w14.setCell ⟨ag, 0, none⟩ (.int .i64 ((rd_T106 ab aa).f0))).setCell ⟨ag, 1, none⟩ (.int .i64 ((rd_T106 ab aa).f1))).setCell ⟨ag, 2, none⟩ (.int .i64 ((rd_T106 ab aa).f2))) w.heap.size (fun k_ => (w.heap.size ≤ k_) ∧ some k_ ≠ (ai : Value).ownBlock) ak ar) := ⟨by (with_reducible repeat first | apply S_alloc | apply S_drewN | apply S_drew); exact Kd.S_mono (Kd.S_far (p := ⟨ag, 2, none⟩) (Kd.S_far (p := ⟨ag, 1, none⟩) (Kd.S_far (p := ⟨ag, 0, none⟩) (Kd.S_types af.out aj.out (by decide)) (fun _ hk => hk.2) (.int .i64 ((rd_T106 ab aa).f0))) (fun _ hk => hk.2) (.int .i64 ((rd_T106 ab aa).f1))) (fun _ hk => hk.2) (.int .i64 ((rd_T106 ab aa).f2))) (fun _ hk => ⟨hk.1.1, hk.1.2⟩)⟩
    have aV : Aside0 (Kd.S (Kd.slice 3 (Kd.int .i64)) 22 (((w14.setCell ⟨ag, 0, none⟩ (.int .i64 ((rd_T106 ab aa).f0))).setCell ⟨ag, 1, none⟩ (.int .i64 ((rd_T106 ab aa).f1))).setCell ⟨ag, 2, none⟩ (.int .i64 ((rd_T106 ab aa).f2))) w.heap.size (fun k_ => (w.heap.size ≤ k_) ∧ some k_ ≠ (ak : Value).ownBlock) ai aq) := ⟨by (with_reducible repeat first | apply S_alloc | apply S_drewN | apply S_drew); exact Kd.S_mono (Kd.S_far (p := ⟨ag, 2, none⟩) (Kd.S_far (p := ⟨ag, 1, none⟩) (Kd.S_far (p := ⟨ag, 0, none⟩) (Kd.S_types ac.out aj.out (by decide)) (fun _ hk => hk.2) (.int .i64 ((rd_T106 ab aa).f0))) (fun _ hk => hk.2) (.int .i64 ((rd_T106 ab aa).f1))) (fun _ hk => hk.2) (.int .i64 ((rd_T106 ab aa).f2))) (fun _ hk => ⟨hk.1.1, hk.1.2⟩)⟩
    have bd : Aside0 (Kd.R Kd.bool 4 (((w14.setCell ⟨ag, 0, none⟩ (.int .i64 ((rd_T106 ab aa).f0))).setCell ⟨ag, 1, none⟩ (.int .i64 ((rd_T106 ab aa).f1))).setCell ⟨ag, 2, none⟩ (.int .i64 ((rd_T106 ab aa).f2))) w.heap.size (fun k_ => (w.heap.size ≤ k_)) al ap) := ⟨by (with_reducible repeat first | apply R_alloc | apply R_drewN | apply R_drew); exact Kd.R_mono (Kd.R_far (p := ⟨ag, 2, none⟩) (Kd.R_far (p := ⟨ag, 1, none⟩) (Kd.R_far (p := ⟨ag, 0, none⟩) (Kd.R_types ad.out aj.out (by decide)) (fun _ hk => hk.2) (.int .i64 ((rd_T106 ab aa).f0))) (fun _ hk => hk.2) (.int .i64 ((rd_T106 ab aa).f1))) (fun _ hk => hk.2) (.int .i64 ((rd_T106 ab aa).f2))) (fun _ hk => hk.1)⟩
    have bc : Aside0 ((((w14.setCell ⟨ag, 0, none⟩ (.int .i64 ((rd_T106 ab aa).f0))).setCell ⟨ag, 1, none⟩ (.int .i64 ((rd_T106 ab aa).f1))).setCell ⟨ag, 2, none⟩ (.int .i64 ((rd_T106 ab aa).f2))).heap[ao]? = some (.cells #[.slice none 0 0, .slice none 0 0, .slice none 0 0, .slice none 0 0] 32 (0, 0))) := ⟨by (with_reducible repeat first | apply blk_drewN | apply blk_drew | apply blk_alloc); refine blk_far ?_ aY.out _; (with_reducible repeat first | apply blk_drewN | apply blk_drew | apply blk_alloc); refine blk_far ?_ aY.out _; (with_reducible repeat first | apply blk_drewN | apply blk_drew | apply blk_alloc); refine blk_far ?_ aY.out _; (with_reducible repeat first | apply blk_drewN | apply blk_drew | apply blk_alloc); exact am.out⟩
    have bb : Aside0 ((((w14.setCell ⟨ag, 0, none⟩ (.int .i64 ((rd_T106 ab aa).f0))).setCell ⟨ag, 1, none⟩ (.int .i64 ((rd_T106 ab aa).f1))).setCell ⟨ag, 2, none⟩ (.int .i64 ((rd_T106 ab aa).f2))).heap[an]? = some (.cells #[.slice A0 l0.length c0, ak, ai, al] 32 (0, 0))) := ⟨by (with_reducible repeat first | apply blk_drewN | apply blk_drew | apply blk_alloc); refine blk_far ?_ aX.out _; (with_reducible repeat first | apply blk_drewN | apply blk_drew | apply blk_alloc); refine blk_far ?_ aX.out _; (with_reducible repeat first | apply blk_drewN | apply blk_drew | apply blk_alloc); refine blk_far ?_ aX.out _; (with_reducible repeat first | apply blk_drewN | apply blk_drew | apply blk_alloc); exact ah.out⟩
    have bh : Aside0 ((((w14.setCell ⟨ag, 0, none⟩ (.int .i64 ((rd_T106 ab aa).f0))).setCell ⟨ag, 1, none⟩ (.int .i64 ((rd_T106 ab aa).f1))).setCell ⟨ag, 2, none⟩ (.int .i64 ((rd_T106 ab aa).f2))).heap[ag]? = some (.cells #[.int .i64 ((rd_T106 ab aa).f0), .int .i64 ((rd_T106 ab aa).f1), .int .i64 ((rd_T106 ab aa).f2)] 106 (0, 0))) := ⟨by (with_reducible repeat first | apply blk_drewN | apply blk_drew | apply blk_alloc); refine blk_put (cs := #[.int .i64 ((rd_T106 ab aa).f0), .int .i64 ((rd_T106 ab aa).f1), .int .i64 0]) ?_ 2 _ rfl; (with_reducible repeat first | apply blk_drewN | apply blk_drew | apply blk_alloc); refine blk_put (cs := #[.int .i64 ((rd_T106 ab aa).f0), .int .i64 0, .int .i64 0]) ?_ 1 _ rfl; (with_reducible repeat first | apply blk_drewN | apply blk_drew | apply blk_alloc); refine blk_put (cs := #[.int .i64 0, .int .i64 0, .int .i64 0]) ?_ 0 _ rfl; (with_reducible repeat first | apply blk_drewN | apply blk_drew | apply blk_alloc); exact aj.out⟩
    have bg : Aside0 (Below w.heap.size w (((w14.setCell ⟨ag, 0, none⟩ (.int .i64 ((rd_T106 ab aa).f0))).setCell ⟨ag, 1, none⟩ (.int .i64 ((rd_T106 ab aa).f1))).setCell ⟨ag, 2, none⟩ (.int .i64 ((rd_T106 ab aa).f2)))) := ⟨by repeat (first | (with_reducible first | exact HB.out | apply below_alloc | apply pw_below_drewN | apply below_drew1 | refine below_set ?_ aD.out | refine below_set ?_ aE.out | refine below_set ?_ aG.out) | exact HB.out)⟩
    (try clear aw)
    (try clear aA)
    (try clear ae)
    (try clear af)
    (try clear ac)
    (try clear ad)
    (try clear am)
    (try clear ah)
    (try clear aj)
    (try clear HB)
    generalize (((w14.setCell ⟨ag, 0, none⟩ (.int .i64 ((rd_T106 ab aa).f0))).setCell ⟨ag, 1, none⟩ (.int .i64 ((rd_T106 ab aa).f1))).setCell ⟨ag, 2, none⟩ (.int .i64 ((rd_T106 ab aa).f2))) = w23 at aT aR aQ aW aV bd bc bb bh bg ⊢
    have aw := aT
    have aA := aR
    have ae := aQ
    have af := aW
    have ac := aV
    have ad := bd
    have am := bc
    have ah := bb
    have aj := bh
    have HB := bg
    clear aT aR aQ aW aV bd bc bb bh bg
    have aT := Aside0.mk (Kd.V_drew aw.out)
    have aR := Aside0.mk (Kd.R_drew aA.out)
    have aQ := Aside0.mk (Kd.V_drew ae.out)
    have aW := Aside0.mk (Kd.S_drew af.out)
    have aV := Aside0.mk (Kd.S_drew ac.out)
    have bd := Aside0.mk (Kd.R_drew ad.out)
    have bc := Aside0.mk (blk_drew am.out)
    have bb := Aside0.mk (blk_drew ah.out)
    have bh := Aside0.mk (blk_drew aj.out)
    have bg := Aside0.mk (below_drew1 HB.out)
    clear aw
    clear aA
    clear ae
    clear af
    clear ac
    clear ad
    clear am
    clear ah
    clear aj
    clear HB
    have aw := aT
    have aA := aR
    have ae := aQ
    have af := aW
    have ac := aV
    have ad := bd
    have am := bc
    have ah := bb
    have aj := bh
    have HB := bg
    clear aT aR aQ aW aV bd bc bb bh bg
    refine start_ (n := 15) (S := fun w' => w'.cell? ⟨ag, 0, none⟩ = some (.int .i64 ((rd_T106 ab aa).f0)) ∧ w'.cell? ⟨ag, 1, none⟩ = some (.int .i64 ((rd_T106 ab aa).f1)) ∧ w'.cell? ⟨ag, 2, none⟩ = some (.int .i64 ((rd_T106 ab aa).f2))) (ds := []) #[false, false, false, false, false, false, false, false, false, false, false, false, false, false, false] (by kernel_rfl) rfl rfl ⟨(blk_cell aj.out 0).trans rfl, (blk_cell aj.out 1).trans rfl, (blk_cell aj.out 2).trans rfl⟩ (fun hHeld => ?_); refine with_tabW wordbookref15_Build.tab11 wordbookref15_Build.bits11 (fun HT_ HW_ => ?_)
    generalize w23.drew = w24 at aw aA ae af ac ad am ah aj HB hHeld ⊢
    refine pure_ (i := 0) (N := some 40) (v := ?_) (a' := ?_) #[true, false, false, false, false, false, false, false, false, false, false, false, false, false, false] rfl rfl (any_of HT_.out (by kernel_rfl)) (fun _ _ _ h => h) (Or.inl ⟨by rfl, ?_⟩) ?_ ?_
    rotate_left
    ·
     intro w'
     go_simp
     with_reducible rfl
    rotate_left
    ·
     simp only [Act.put, setIfInBounds_toArray, set_cons_zero, set_cons_succ, i64_w, i32_w]
     rfl
    refine pure_ (i := 1) (N := some 41) (v := ?_) (a' := ?_) #[true, true, false, false, false, false, false, false, false, false, false, false, false, false, false] rfl rfl (any_of HT_.out (by kernel_rfl)) (fun _ _ _ h => h) (Or.inl ⟨by rfl, ?_⟩) ?_ ?_
    rotate_left
    ·
     intro w'
     go_simp
     with_reducible rfl
    rotate_left
    ·
     simp only [Act.put, setIfInBounds_toArray, set_cons_zero, set_cons_succ, i64_w, i32_w]
     rfl
    refine take_ (i := 2) (N := some 42) (v := ?_) (a' := ?_) #[true, true, true, false, false, false, false, false, false, false, false, false, false, false, false] rfl rfl (take_ofW HT_.out HW_.out (by kernel_rfl)) (fun _ _ _ h => h) (Or.inl ⟨by rfl, ?_⟩) hHeld ?_ ?_
    rotate_left
    ·
     rintro w' ⟨s0, s1, s2⟩
     go_simp
     with_reducible rfl
    rotate_left
    ·
     simp only [Act.put, setIfInBounds_toArray, set_cons_zero, set_cons_succ, i64_w, i32_w]
     rfl
    refine pure_ (i := 3) (N := some 43) (v := ?_) (a' := ?_) #[true, true, true, true, false, false, false, false, false, false, false, false, false, false, false] rfl rfl (any_of HT_.out (by kernel_rfl)) (fun _ _ _ h => h) (Or.inl ⟨by rfl, ?_⟩) ?_ ?_
    rotate_left
    ·
     intro w'
     go_simp
     with_reducible rfl
    rotate_left
    ·
     simp only [Act.put, setIfInBounds_toArray, set_cons_zero, set_cons_succ, i64_w, i32_w]
     rfl
    refine pure_ (i := 4) (N := some 44) (v := ?_) (a' := ?_) #[true, true, true, true, true, false, false, false, false, false, false, false, false, false, false] rfl rfl (any_of HT_.out (by kernel_rfl)) (fun _ _ _ h => h) (Or.inl ⟨by rfl, ?_⟩) ?_ ?_
    rotate_left
    ·
     intro w'
     go_simp
     with_reducible rfl
    rotate_left
    ·
     simp only [Act.put, setIfInBounds_toArray, set_cons_zero, set_cons_succ, i64_w, i32_w]
     rfl
    refine pure_ (i := 5) (N := some 45) (v := undef) (a' := ?_) #[true, true, true, true, true, true, false, false, false, false, false, false, false, false, false] rfl rfl (any_of HT_.out (by kernel_rfl)) (fun _ _ _ h => h) (Or.inr ⟨by rfl, rfl⟩) ?_ ?_
    rotate_left
    ·
     simp only [Act.put, setIfInBounds_toArray, set_cons_zero, set_cons_succ, i64_w, i32_w]
     rfl
    refine pure_ (i := 6) (N := some 46) (v := undef) (a' := ?_) #[true, true, true, true, true, true, true, false, false, false, false, false, false, false, false] rfl rfl (any_of HT_.out (by kernel_rfl)) (fun _ _ _ h => h) (Or.inr ⟨by rfl, rfl⟩) ?_ ?_
    rotate_left
    ·
     simp only [Act.put, setIfInBounds_toArray, set_cons_zero, set_cons_succ, i64_w, i32_w]
     rfl
    refine pure_ (i := 7) (N := some 47) (v := undef) (a' := ?_) #[true, true, true, true, true, true, true, true, false, false, false, false, false, false, false] rfl rfl (any_of HT_.out (by kernel_rfl)) (fun _ _ _ h => h) (Or.inr ⟨by rfl, rfl⟩) ?_ ?_
    rotate_left
    ·
     simp only [Act.put, setIfInBounds_toArray, set_cons_zero, set_cons_succ, i64_w, i32_w]
     rfl
    refine pure_ (i := 8) (N := some 48) (v := undef) (a' := ?_) #[true, true, true, true, true, true, true, true, true, false, false, false, false, false, false] rfl rfl (any_of HT_.out (by kernel_rfl)) (fun _ _ _ h => h) (Or.inr ⟨by rfl, rfl⟩) ?_ ?_
    rotate_left
    ·
     simp only [Act.put, setIfInBounds_toArray, set_cons_zero, set_cons_succ, i64_w, i32_w]
     rfl
    refine pure_ (i := 9) (N := some 49) (v := undef) (a' := ?_) #[true, true, true, true, true, true, true, true, true, true, false, false, false, false, false] rfl rfl (any_of HT_.out (by kernel_rfl)) (fun _ _ _ h => h) (Or.inr ⟨by rfl, rfl⟩) ?_ ?_
    rotate_left
    ·
     simp only [Act.put, setIfInBounds_toArray, set_cons_zero, set_cons_succ, i64_w, i32_w]
     rfl
    refine pure_ (i := 10) (N := some 50) (v := undef) (a' := ?_) #[true, true, true, true, true, true, true, true, true, true, true, false, false, false, false] rfl rfl (any_of HT_.out (by kernel_rfl)) (fun _ _ _ h => h) (Or.inr ⟨by rfl, rfl⟩) ?_ ?_
    rotate_left
    ·
     simp only [Act.put, setIfInBounds_toArray, set_cons_zero, set_cons_succ, i64_w, i32_w]
     rfl
    refine pure_ (i := 11) (N := some 51) (v := undef) (a' := ?_) #[true, true, true, true, true, true, true, true, true, true, true, true, false, false, false] rfl rfl (any_of HT_.out (by kernel_rfl)) (fun _ _ _ h => h) (Or.inr ⟨by rfl, rfl⟩) ?_ ?_
    rotate_left
    ·
     simp only [Act.put, setIfInBounds_toArray, set_cons_zero, set_cons_succ, i64_w, i32_w]
     rfl
    refine pure_ (i := 12) (N := some 52) (v := undef) (a' := ?_) #[true, true, true, true, true, true, true, true, true, true, true, true, true, false, false] rfl rfl (any_of HT_.out (by kernel_rfl)) (fun _ _ _ h => h) (Or.inr ⟨by rfl, rfl⟩) ?_ ?_
    rotate_left
    ·
     simp only [Act.put, setIfInBounds_toArray, set_cons_zero, set_cons_succ, i64_w, i32_w]
     rfl
    refine pure_ (i := 13) (N := some 53) (v := ?_) (a' := ?_) #[true, true, true, true, true, true, true, true, true, true, true, true, true, true, false] rfl rfl (any_of HT_.out (by kernel_rfl)) (fun _ _ _ h => h) (Or.inl ⟨by rfl, ?_⟩) ?_ ?_
    rotate_left
    ·
     intro w'
     go_simp
     with_reducible rfl
    rotate_left
    ·
     simp only [Act.put, setIfInBounds_toArray, set_cons_zero, set_cons_succ, i64_w, i32_w]
     rfl
    refine pure_ (i := 14) (N := some 10) (v := ?_) (a' := ?_) #[true, true, true, true, true, true, true, true, true, true, true, true, true, true, true] rfl rfl (any_of HT_.out (by kernel_rfl)) (fun _ _ _ h => h) (Or.inl ⟨by rfl, ?_⟩) ?_ ?_
    rotate_left
    ·
     intro w'
     go_simp
     with_reducible rfl
    rotate_left
    ·
     simp only [Act.put, setIfInBounds_toArray, set_cons_zero, set_cons_succ, i64_w, i32_w]
     rfl
    refine done_ (done_of HT_.out (by kernel_rfl)) ?_
    try go_wp2
    go_meet
    case rel => exact ⟨_, (false), (by first | rfl | (simp; done) | (simp [*]; done)), H', ⟨by have := cD.out; first | omega | exact Nat.le_refl _⟩, ⟨by (with_reducible repeat first | apply V_alloc | apply V_drewN | apply V_drew); exact aw.out⟩, ⟨by (with_reducible repeat first | apply R_alloc | apply R_drewN | apply R_drew); exact aA.out⟩, ⟨by (with_reducible repeat first | apply V_alloc | apply V_drewN | apply V_drew); exact ae.out⟩, ⟨by (with_reducible repeat first | apply S_alloc | apply S_drewN | apply S_drew); exact af.out⟩, ⟨by (with_reducible repeat first | apply S_alloc | apply S_drewN | apply S_drew); exact ac.out⟩, ⟨by (with_reducible repeat first | apply R_alloc | apply R_drewN | apply R_drew); exact ad.out⟩, ⟨by (with_reducible repeat first | apply blk_drewN | apply blk_drew | apply blk_alloc); exact am.out⟩, ⟨by (with_reducible repeat first | apply blk_drewN | apply blk_drew | apply blk_alloc); exact ah.out⟩, ⟨by (with_reducible repeat first | apply blk_drewN | apply blk_drew | apply blk_alloc); exact aj.out⟩, ⟨by repeat (first | (with_reducible first | exact HB.out | apply below_alloc | apply pw_below_drewN | apply below_drew1 | refine below_set ?_ aD.out | refine below_set ?_ aE.out | refine below_set ?_ aG.out) | exact HB.out)⟩⟩
   clear HC12
   (try clear c1); (try clear p1); (try clear q1); (try clear hx1); (try clear c2); (try clear p2); (try clear c3); (try clear cC); (try clear cB); (try clear c6); (try clear c7); (try clear c10); (try clear bV); (try clear p10); (try clear q10); (try clear hx10); (try clear c11); (try clear cj); (try clear c15); (try clear c16); (try clear c18); (try clear bB); (try clear c19); (try clear ci); (try clear c20); (try clear ch); (try clear bA); (try clear bz); (try clear bx); (try clear bL); (try clear bK); (try clear bJ); (try clear bI); (try clear bw); (try clear bv); (try clear bu); (try clear bH); (try clear bG); (try clear bF); (try clear bE); (try clear bt); (try clear bs); (try clear br); (try clear bk); (try clear p107); (try clear p109); (try clear p2); (try clear q107); (try clear q109)
   obtain ⟨kq, aK, rfl, HA, bP, aw, aA, ae, af, ac, ad, am, ah, aj, HB⟩ := hcut
   cases kq with
   | zero => exact absurd HA.out (by simp [wordbookref15_Build.j1])
   | succ dv => ?_
   have H := HA.out
   clear HA
   simp only [wordbookref15_Build.j1] at H
   have HC25 := Aside0.mk H
   clear H
   go_upto_if 54 with (fail)
   go_cut [9] (fun v9 wc => ∃ (kq : Nat) (cJ : Int), v9 = .int .i64 cJ ∧ Aside0 (wordbookref15_Build.j2 kq l0 ab aa cJ aK l0 ar aq ap ((rd_T106 ab aa).f0) ((rd_T106 ab aa).f1) ((rd_T106 ab aa).f2) = some (r1, r2, r3, r4, r5)) ∧ Aside0 (kq ≤ dv) ∧ Aside0 (Kd.V (Kd.slice 3 (Kd.int .i64)) 22 wc w.heap.size (fun k_ => (P0_ k_ ∨ w.heap.size ≤ k_) ∧ some k_ ≠ ((.slice (some ad107) ab.length bW) : Value).ownBlock ∧ some k_ ≠ (ak : Value).ownBlock ∧ some k_ ≠ (ai : Value).ownBlock ∧ some k_ ≠ (al : Value).ownBlock ∧ k_ ≠ ao ∧ k_ ≠ an ∧ k_ ≠ ag) (.slice A0 l0.length c0) l0) ∧ Aside0 (Kd.R k106 106 wc w.heap.size (fun k_ => (w.heap.size ≤ k_) ∧ k_ ≠ ag) (.slice (some ad107) ab.length bW) ab) ∧ Aside0 (Kd.V (Kd.slice 3 (Kd.int .i64)) 22 wc w.heap.size (fun k_ => (P0_ k_ ∨ w.heap.size ≤ k_) ∧ some k_ ≠ ((.slice (some ad107) ab.length bW) : Value).ownBlock ∧ some k_ ≠ (ak : Value).ownBlock ∧ some k_ ≠ (ai : Value).ownBlock ∧ some k_ ≠ (al : Value).ownBlock ∧ k_ ≠ ao ∧ k_ ≠ an ∧ k_ ≠ ag) (.slice A0 l0.length c0) l0) ∧ Aside0 (Kd.S (Kd.slice 3 (Kd.int .i64)) 22 wc w.heap.size (fun k_ => (w.heap.size ≤ k_) ∧ some k_ ≠ (ai : Value).ownBlock) ak ar) ∧ Aside0 (Kd.S (Kd.slice 3 (Kd.int .i64)) 22 wc w.heap.size (fun k_ => (w.heap.size ≤ k_) ∧ some k_ ≠ (ak : Value).ownBlock) ai aq) ∧ Aside0 (Kd.R Kd.bool 4 wc w.heap.size (fun k_ => (w.heap.size ≤ k_)) al ap) ∧ Aside0 (wc.heap[ao]? = some (.cells #[(.slice none 0 0), (.slice none 0 0), (.slice none 0 0), (.slice none 0 0)] 32 (0, 0))) ∧ Aside0 (wc.heap[an]? = some (.cells #[(.slice A0 l0.length c0), ak, ai, al] 32 (0, 0))) ∧ Aside0 (wc.heap[ag]? = some (.cells #[.int .i64 ((rd_T106 ab aa).f0), .int .i64 ((rd_T106 ab aa).f1), .int .i64 ((rd_T106 ab aa).f2)] 106 (0, 0))) ∧ Aside0 (Below w.heap.size w wc))
   case first =>
    have H := HC25.out
    clear HC25
    by_cases c26 : aK = true
    ·
     subst c26
     have H1 : (wordbookref15_Build.j2 dv l0 ab aa (wrap64 (((rd_T106 ab aa).f0) + 1)) true l0 ar aq ap ((rd_T106 ab aa).f0) ((rd_T106 ab aa).f1) ((rd_T106 ab aa).f2)) = some (r1, r2, r3, r4, r5) := by rw [if_pos rfl] at H; exact H
     clear H
     have H := H1
     clear H1
     have H' := Aside0.mk H
     clear H
     go_wp2
     go_meet
     case rel => exact ⟨_, (wrap64 (((rd_T106 ab aa).f0) + 1)), (by first | rfl | (simp; done) | (simp [*]; done)), H', ⟨by have := cD.out; have := bP.out; first | omega | exact Nat.le_refl _⟩, ⟨by (with_reducible repeat first | apply V_alloc | apply V_drewN | apply V_drew); exact aw.out⟩, ⟨by (with_reducible repeat first | apply R_alloc | apply R_drewN | apply R_drew); exact aA.out⟩, ⟨by (with_reducible repeat first | apply V_alloc | apply V_drewN | apply V_drew); exact ae.out⟩, ⟨by (with_reducible repeat first | apply S_alloc | apply S_drewN | apply S_drew); exact af.out⟩, ⟨by (with_reducible repeat first | apply S_alloc | apply S_drewN | apply S_drew); exact ac.out⟩, ⟨by (with_reducible repeat first | apply R_alloc | apply R_drewN | apply R_drew); exact ad.out⟩, ⟨by (with_reducible repeat first | apply blk_drewN | apply blk_drew | apply blk_alloc); exact am.out⟩, ⟨by (with_reducible repeat first | apply blk_drewN | apply blk_drew | apply blk_alloc); exact ah.out⟩, ⟨by (with_reducible repeat first | apply blk_drewN | apply blk_drew | apply blk_alloc); exact aj.out⟩, ⟨by repeat (first | (with_reducible first | exact HB.out | apply below_alloc | apply pw_below_drewN | apply below_drew1 | refine below_set ?_ aD.out | refine below_set ?_ aE.out | refine below_set ?_ aG.out) | exact HB.out)⟩⟩
    replace c26 := Bool.eq_false_iff.mpr c26
    subst c26
    have H1 : (wordbookref15_Build.j2 dv l0 ab aa ((rd_T106 ab aa).f0) false l0 ar aq ap ((rd_T106 ab aa).f0) ((rd_T106 ab aa).f1) ((rd_T106 ab aa).f2)) = some (r1, r2, r3, r4, r5) := by rw [if_neg (show ¬ (false = true) by decide)] at H; exact H
    clear H
    have H := H1
    clear H1
    have H' := Aside0.mk H
    clear H
    go_wp2
    go_meet
    case rel => exact ⟨_, (((rd_T106 ab aa).f0)), (by first | rfl | (simp; done) | (simp [*]; done)), H', ⟨by have := cD.out; have := bP.out; first | omega | exact Nat.le_refl _⟩, ⟨by (with_reducible repeat first | apply V_alloc | apply V_drewN | apply V_drew); exact aw.out⟩, ⟨by (with_reducible repeat first | apply R_alloc | apply R_drewN | apply R_drew); exact aA.out⟩, ⟨by (with_reducible repeat first | apply V_alloc | apply V_drewN | apply V_drew); exact ae.out⟩, ⟨by (with_reducible repeat first | apply S_alloc | apply S_drewN | apply S_drew); exact af.out⟩, ⟨by (with_reducible repeat first | apply S_alloc | apply S_drewN | apply S_drew); exact ac.out⟩, ⟨by (with_reducible repeat first | apply R_alloc | apply R_drewN | apply R_drew); exact ad.out⟩, ⟨by (with_reducible repeat first | apply blk_drewN | apply blk_drew | apply blk_alloc); exact am.out⟩, ⟨by (with_reducible repeat first | apply blk_drewN | apply blk_drew | apply blk_alloc); exact ah.out⟩, ⟨by (with_reducible repeat first | apply blk_drewN | apply blk_drew | apply blk_alloc); exact aj.out⟩, ⟨by repeat (first | (with_reducible first | exact HB.out | apply below_alloc | apply pw_below_drewN | apply below_drew1 | refine below_set ?_ aD.out | refine below_set ?_ aE.out | refine below_set ?_ aG.out) | exact HB.out)⟩⟩
   clear HC25
   (try clear c1); (try clear p1); (try clear q1); (try clear hx1); (try clear c2); (try clear p2); (try clear c3); (try clear cC); (try clear cB); (try clear c6); (try clear p6); (try clear c7); (try clear c10); (try clear bV); (try clear p10); (try clear q10); (try clear hx10); (try clear c11); (try clear cj); (try clear c15); (try clear c16); (try clear c18); (try clear bB); (try clear c19); (try clear ci); (try clear c20); (try clear ch); (try clear c26); (try clear bA); (try clear bz); (try clear bx); (try clear bL); (try clear bK); (try clear bJ); (try clear bI); (try clear bw); (try clear bv); (try clear bu); (try clear bH); (try clear bG); (try clear bF); (try clear bE); (try clear bt); (try clear bs); (try clear br); (try clear bk); (try clear p1); (try clear p10); (try clear p107); (try clear p109); (try clear p2); (try clear q1); (try clear q10); (try clear q107); (try clear q109)
   obtain ⟨kq, cJ, rfl, HA, bS, aw, aA, ae, af, ac, ad, am, ah, aj, HB⟩ := hcut
   cases kq with
   | zero => exact absurd HA.out (by simp [wordbookref15_Build.j2])
   | succ dE => ?_
   have H := HA.out
   clear HA
   simp only [wordbookref15_Build.j2] at H
   have H' := Aside0.mk H
   clear H
   go_wp2
   go_loopg [6, 9, 11, 12] dE (fun kq v6 v9 v11 v12 w' => ∃ (aJ : List (S106)) (ax : Int) (aM : List Int) (aI : List Int), v9 = .int .i64 ax ∧ Aside0 (wordbookref15_Build.l1 kq l0 aJ aa ax aK aM aI l0 ar aq ap ((rd_T106 ab aa).f0) ((rd_T106 ab aa).f1) ((rd_T106 ab aa).f2) = some (r1, r2, r3, r4, r5)) ∧ Aside0 (kq ≤ dE) ∧ Aside0 (Kd.V (Kd.slice 3 (Kd.int .i64)) 22 w' w.heap.size (fun k_ => (P0_ k_ ∨ w.heap.size ≤ k_) ∧ some k_ ≠ (v6 : Value).ownBlock ∧ some k_ ≠ (v11 : Value).ownBlock ∧ some k_ ≠ (v12 : Value).ownBlock ∧ some k_ ≠ (ak : Value).ownBlock ∧ some k_ ≠ (ai : Value).ownBlock ∧ some k_ ≠ (al : Value).ownBlock ∧ k_ ≠ ao ∧ k_ ≠ an ∧ k_ ≠ ag) (.slice A0 l0.length c0) l0) ∧ Aside0 (Kd.R k106 106 w' w.heap.size (fun k_ => (w.heap.size ≤ k_) ∧ k_ ≠ ag) v6 aJ) ∧ Aside0 (Kd.R (Kd.int .i64) 3 w' w.heap.size (fun k_ => (w.heap.size ≤ k_) ∧ some k_ ≠ (v12 : Value).ownBlock) v11 aM) ∧ Aside0 (Kd.R (Kd.int .i64) 3 w' w.heap.size (fun k_ => (w.heap.size ≤ k_) ∧ some k_ ≠ (v11 : Value).ownBlock) v12 aI) ∧ Aside0 (Kd.V (Kd.slice 3 (Kd.int .i64)) 22 w' w.heap.size (fun k_ => (P0_ k_ ∨ w.heap.size ≤ k_) ∧ some k_ ≠ (v6 : Value).ownBlock ∧ some k_ ≠ (v11 : Value).ownBlock ∧ some k_ ≠ (v12 : Value).ownBlock ∧ some k_ ≠ (ak : Value).ownBlock ∧ some k_ ≠ (ai : Value).ownBlock ∧ some k_ ≠ (al : Value).ownBlock ∧ k_ ≠ ao ∧ k_ ≠ an ∧ k_ ≠ ag) (.slice A0 l0.length c0) l0) ∧ Aside0 (Kd.S (Kd.slice 3 (Kd.int .i64)) 22 w' w.heap.size (fun k_ => (w.heap.size ≤ k_) ∧ some k_ ≠ (v11 : Value).ownBlock ∧ some k_ ≠ (v12 : Value).ownBlock ∧ some k_ ≠ (ai : Value).ownBlock) ak ar) ∧ Aside0 (Kd.S (Kd.slice 3 (Kd.int .i64)) 22 w' w.heap.size (fun k_ => (w.heap.size ≤ k_) ∧ some k_ ≠ (v11 : Value).ownBlock ∧ some k_ ≠ (v12 : Value).ownBlock ∧ some k_ ≠ (ak : Value).ownBlock) ai aq) ∧ Aside0 (Kd.R Kd.bool 4 w' w.heap.size (fun k_ => (w.heap.size ≤ k_)) al ap) ∧ Aside0 (w'.heap[ao]? = some (.cells #[(.slice none 0 0), (.slice none 0 0), (.slice none 0 0), (.slice none 0 0)] 32 (0, 0))) ∧ Aside0 (w'.heap[an]? = some (.cells #[(.slice A0 l0.length c0), ak, ai, al] 32 (0, 0))) ∧ Aside0 (w'.heap[ag]? = some (.cells #[.int .i64 ((rd_T106 ab aa).f0), .int .i64 ((rd_T106 ab aa).f1), .int .i64 ((rd_T106 ab aa).f2)] 106 (0, 0))) ∧ Aside0 (Below w.heap.size w w'))
   case atStart => exact ⟨(ab), (cJ), (([] : List Int)), (([] : List Int)), (by first | rfl | (simp; done) | (simp [*]; done)), H', ⟨Nat.le_refl _⟩, ⟨by (with_reducible repeat first | apply V_alloc | apply V_drewN | apply V_drew); exact Kd.V_mono aw.out (fun _ hk => ⟨hk.1, ⟨hk.2.1, ⟨(by simp [Value.ownBlock]), ⟨(by simp [Value.ownBlock]), ⟨hk.2.2.1, ⟨hk.2.2.2.1, ⟨hk.2.2.2.2.1, ⟨hk.2.2.2.2.2.1, ⟨hk.2.2.2.2.2.2.1, hk.2.2.2.2.2.2.2⟩⟩⟩⟩⟩⟩⟩⟩⟩)⟩, ⟨by (with_reducible repeat first | apply R_alloc | apply R_drewN | apply R_drew); exact aA.out⟩, ⟨by first | exact Kd.R_nil _ _ _ _ _ | exact Kd.N_nil _ _ _ _ _ | exact Kd.V_nil _ _ _ _ _ | exact Kd.Q_nil _ _ _ _ _ | exact Kd.S_nil _ _ _ _ _⟩, ⟨by first | exact Kd.R_nil _ _ _ _ _ | exact Kd.N_nil _ _ _ _ _ | exact Kd.V_nil _ _ _ _ _ | exact Kd.Q_nil _ _ _ _ _ | exact Kd.S_nil _ _ _ _ _⟩, ⟨by (with_reducible repeat first | apply V_alloc | apply V_drewN | apply V_drew); exact Kd.V_mono ae.out (fun _ hk => ⟨hk.1, ⟨hk.2.1, ⟨(by simp [Value.ownBlock]), ⟨(by simp [Value.ownBlock]), ⟨hk.2.2.1, ⟨hk.2.2.2.1, ⟨hk.2.2.2.2.1, ⟨hk.2.2.2.2.2.1, ⟨hk.2.2.2.2.2.2.1, hk.2.2.2.2.2.2.2⟩⟩⟩⟩⟩⟩⟩⟩⟩)⟩, ⟨by (with_reducible repeat first | apply S_alloc | apply S_drewN | apply S_drew); exact Kd.S_mono af.out (fun _ hk => ⟨hk.1, ⟨(by simp [Value.ownBlock]), ⟨(by simp [Value.ownBlock]), hk.2⟩⟩⟩)⟩, ⟨by (with_reducible repeat first | apply S_alloc | apply S_drewN | apply S_drew); exact Kd.S_mono ac.out (fun _ hk => ⟨hk.1, ⟨(by simp [Value.ownBlock]), ⟨(by simp [Value.ownBlock]), hk.2⟩⟩⟩)⟩, ⟨by (with_reducible repeat first | apply R_alloc | apply R_drewN | apply R_drew); exact ad.out⟩, ⟨by (with_reducible repeat first | apply blk_drewN | apply blk_drew | apply blk_alloc); exact am.out⟩, ⟨by (with_reducible repeat first | apply blk_drewN | apply blk_drew | apply blk_alloc); exact ah.out⟩, ⟨by (with_reducible repeat first | apply blk_drewN | apply blk_drew | apply blk_alloc); exact aj.out⟩, ⟨by repeat (first | (with_reducible first | exact HB.out | apply below_alloc | apply pw_below_drewN | apply below_drew1 | refine below_set ?_ aD.out | refine below_set ?_ aE.out | refine below_set ?_ aG.out) | exact HB.out)⟩⟩
   clear H'
   (try clear c1); (try clear p1); (try clear q1); (try clear hx1); (try clear c2); (try clear p2); (try clear c3); (try clear cC); (try clear cB); (try clear c6); (try clear p6); (try clear c7); (try clear c10); (try clear bV); (try clear p10); (try clear q10); (try clear hx10); (try clear c11); (try clear cj); (try clear c15); (try clear c16); (try clear c18); (try clear bB); (try clear c19); (try clear ci); (try clear c20); (try clear ch); (try clear c26); (try clear bA); (try clear bz); (try clear bx); (try clear bL); (try clear bK); (try clear bJ); (try clear bI); (try clear bw); (try clear bv); (try clear bu); (try clear bH); (try clear bG); (try clear bF); (try clear bE); (try clear bt); (try clear bs); (try clear br); (try clear bk); (try clear p1); (try clear p10); (try clear p107); (try clear p109); (try clear p2); (try clear p6); (try clear q1); (try clear q10); (try clear q107); (try clear q109)
   obtain ⟨aJ, ax, aM, aI, rfl, HA, cY, aw, aA, aC, au, ae, af, ac, ad, am, ah, aj, HB⟩ := hrel
   cases gk with
   | zero => exact absurd HA.out (by simp [wordbookref15_Build.l1])
   | succ k4 => ?_
   have H := HA.out
   clear HA
   simp only [wordbookref15_Build.l1] at H
   by_cases c27 : ax < ((rd_T106 ab aa).f1)
   ·
    rw [if_pos c27] at H
    have cG : decide (ax < ((rd_T106 ab aa).f1)) = true := decide_eq_true c27
    clear c27
    have H' := Aside0.mk H
    clear H
    have hnb28 := bO.out
    have hnc28 := aY.out
    have hnb29 := bl.out
    have hnc29 := aX.out
    have cd : wr.cell? ⟨ag, 0, none⟩ = some (.int .i64 ((rd_T106 ab aa).f0)) := (blk_cell aj.out 0).trans rfl
    have cc : wr.cell? ⟨ag, 1, none⟩ = some (.int .i64 ((rd_T106 ab aa).f1)) := (blk_cell aj.out 1).trans rfl
    have cb : wr.cell? ⟨ag, 2, none⟩ = some (.int .i64 ((rd_T106 ab aa).f2)) := (blk_cell aj.out 2).trans rfl
    have ca := blk_frozen aj.out 0
    have bZ := blk_frozen aj.out 1
    have bY := blk_frozen aj.out 2
    go_wp2
    go_loopg [13] k4 (fun kq v13 w' => ∃ (ay : Int), v13 = .int .i64 ay ∧ Aside0 (wordbookref15_Build.l2 kq l0 aJ aa ax aK aM aI ay l0 ar aq ap ((rd_T106 ab aa).f0) ((rd_T106 ab aa).f1) ((rd_T106 ab aa).f2) = some (r1, r2, r3, r4, r5)) ∧ Aside0 (kq ≤ k4) ∧ Aside0 (Kd.V (Kd.slice 3 (Kd.int .i64)) 22 w' w.heap.size (fun k_ => (P0_ k_ ∨ w.heap.size ≤ k_) ∧ some k_ ≠ (u6 : Value).ownBlock ∧ some k_ ≠ (u11 : Value).ownBlock ∧ some k_ ≠ (u12 : Value).ownBlock ∧ some k_ ≠ (ak : Value).ownBlock ∧ some k_ ≠ (ai : Value).ownBlock ∧ some k_ ≠ (al : Value).ownBlock ∧ k_ ≠ ao ∧ k_ ≠ an ∧ k_ ≠ ag) (.slice A0 l0.length c0) l0) ∧ Aside0 (Kd.R k106 106 w' w.heap.size (fun k_ => (w.heap.size ≤ k_) ∧ k_ ≠ ag) u6 aJ) ∧ Aside0 (Kd.R (Kd.int .i64) 3 w' w.heap.size (fun k_ => (w.heap.size ≤ k_) ∧ some k_ ≠ (u12 : Value).ownBlock) u11 aM) ∧ Aside0 (Kd.R (Kd.int .i64) 3 w' w.heap.size (fun k_ => (w.heap.size ≤ k_) ∧ some k_ ≠ (u11 : Value).ownBlock) u12 aI) ∧ Aside0 (Kd.V (Kd.slice 3 (Kd.int .i64)) 22 w' w.heap.size (fun k_ => (P0_ k_ ∨ w.heap.size ≤ k_) ∧ some k_ ≠ (u6 : Value).ownBlock ∧ some k_ ≠ (u11 : Value).ownBlock ∧ some k_ ≠ (u12 : Value).ownBlock ∧ some k_ ≠ (ak : Value).ownBlock ∧ some k_ ≠ (ai : Value).ownBlock ∧ some k_ ≠ (al : Value).ownBlock ∧ k_ ≠ ao ∧ k_ ≠ an ∧ k_ ≠ ag) (.slice A0 l0.length c0) l0) ∧ Aside0 (Kd.S (Kd.slice 3 (Kd.int .i64)) 22 w' w.heap.size (fun k_ => (w.heap.size ≤ k_) ∧ some k_ ≠ (u11 : Value).ownBlock ∧ some k_ ≠ (u12 : Value).ownBlock ∧ some k_ ≠ (ai : Value).ownBlock) ak ar) ∧ Aside0 (Kd.S (Kd.slice 3 (Kd.int .i64)) 22 w' w.heap.size (fun k_ => (w.heap.size ≤ k_) ∧ some k_ ≠ (u11 : Value).ownBlock ∧ some k_ ≠ (u12 : Value).ownBlock ∧ some k_ ≠ (ak : Value).ownBlock) ai aq) ∧ Aside0 (Kd.R Kd.bool 4 w' w.heap.size (fun k_ => (w.heap.size ≤ k_)) al ap) ∧ Aside0 (w'.heap[ao]? = some (.cells #[(.slice none 0 0), (.slice none 0 0), (.slice none 0 0), (.slice none 0 0)] 32 (0, 0))) ∧ Aside0 (w'.heap[an]? = some (.cells #[(.slice A0 l0.length c0), ak, ai, al] 32 (0, 0))) ∧ Aside0 (w'.heap[ag]? = some (.cells #[.int .i64 ((rd_T106 ab aa).f0), .int .i64 ((rd_T106 ab aa).f1), .int .i64 ((rd_T106 ab aa).f2)] 106 (0, 0))) ∧ Aside0 (Below w.heap.size w w'))
    case atStart => exact ⟨(ax), (by first | rfl | (simp; done) | (simp [*]; done)), H', ⟨Nat.le_refl _⟩, ⟨by (with_reducible repeat first | apply V_alloc | apply V_drewN | apply V_drew); exact aw.out⟩, ⟨by (with_reducible repeat first | apply R_alloc | apply R_drewN | apply R_drew); exact aA.out⟩, ⟨by (with_reducible repeat first | apply R_alloc | apply R_drewN | apply R_drew); exact aC.out⟩, ⟨by (with_reducible repeat first | apply R_alloc | apply R_drewN | apply R_drew); exact au.out⟩, ⟨by (with_reducible repeat first | apply V_alloc | apply V_drewN | apply V_drew); exact ae.out⟩, ⟨by (with_reducible repeat first | apply S_alloc | apply S_drewN | apply S_drew); exact af.out⟩, ⟨by (with_reducible repeat first | apply S_alloc | apply S_drewN | apply S_drew); exact ac.out⟩, ⟨by (with_reducible repeat first | apply R_alloc | apply R_drewN | apply R_drew); exact ad.out⟩, ⟨by (with_reducible repeat first | apply blk_drewN | apply blk_drew | apply blk_alloc); exact am.out⟩, ⟨by (with_reducible repeat first | apply blk_drewN | apply blk_drew | apply blk_alloc); exact ah.out⟩, ⟨by (with_reducible repeat first | apply blk_drewN | apply blk_drew | apply blk_alloc); exact aj.out⟩, ⟨by repeat (first | (with_reducible first | exact HB.out | apply below_alloc | apply pw_below_drewN | apply below_drew1 | refine below_set ?_ aD.out | refine below_set ?_ aE.out | refine below_set ?_ aG.out) | exact HB.out)⟩⟩
    clear H'
    (try clear c1); (try clear p1); (try clear q1); (try clear hx1); (try clear c2); (try clear p2); (try clear c3); (try clear cC); (try clear cB); (try clear c6); (try clear p6); (try clear c7); (try clear c10); (try clear bV); (try clear p10); (try clear q10); (try clear hx10); (try clear c11); (try clear cj); (try clear c15); (try clear c16); (try clear c18); (try clear bB); (try clear c19); (try clear ci); (try clear c20); (try clear ch); (try clear c26); (try clear c27); (try clear cG); (try clear c28); (try clear c29); (try clear bA); (try clear bz); (try clear bx); (try clear cd); (try clear cc); (try clear cb); (try clear bL); (try clear bK); (try clear bJ); (try clear bI); (try clear bw); (try clear bv); (try clear bu); (try clear ca); (try clear bZ); (try clear bY); (try clear bH); (try clear bG); (try clear bF); (try clear bE); (try clear bt); (try clear bs); (try clear br); (try clear bk); (try clear p1); (try clear p10); (try clear p107); (try clear p109); (try clear p2); (try clear p6); (try clear q1); (try clear q10); (try clear q107); (try clear q109)
    obtain ⟨ay, rfl, HA, dc, aw, aA, aC, au, ae, af, ac, ad, am, ah, aj, HB⟩ := hrel
    cases gk with
    | zero => exact absurd HA.out (by simp [wordbookref15_Build.l2])
    | succ k5 => ?_
    have H := HA.out
    clear HA
    simp only [wordbookref15_Build.l2] at H
    have HC31 := Aside0.mk H
    clear H
    go_upto_region 18 with (fail)
    go_cut [84] (fun v84 wc => ∃ (kq : Nat) (cv : Bool), v84 = .bool cv ∧ Aside0 (wordbookref15_Build.j5 kq l0 aJ aa ax aK aM aI ay cv l0 ar aq ap ((rd_T106 ab aa).f0) ((rd_T106 ab aa).f1) ((rd_T106 ab aa).f2) = some (r1, r2, r3, r4, r5)) ∧ Aside0 (kq ≤ k5) ∧ Aside0 (Kd.V (Kd.slice 3 (Kd.int .i64)) 22 wc w.heap.size (fun k_ => (P0_ k_ ∨ w.heap.size ≤ k_) ∧ some k_ ≠ (u6 : Value).ownBlock ∧ some k_ ≠ (u11 : Value).ownBlock ∧ some k_ ≠ (u12 : Value).ownBlock ∧ some k_ ≠ (ak : Value).ownBlock ∧ some k_ ≠ (ai : Value).ownBlock ∧ some k_ ≠ (al : Value).ownBlock ∧ k_ ≠ ao ∧ k_ ≠ an ∧ k_ ≠ ag) (.slice A0 l0.length c0) l0) ∧ Aside0 (Kd.R k106 106 wc w.heap.size (fun k_ => (w.heap.size ≤ k_) ∧ k_ ≠ ag) u6 aJ) ∧ Aside0 (Kd.R (Kd.int .i64) 3 wc w.heap.size (fun k_ => (w.heap.size ≤ k_) ∧ some k_ ≠ (u12 : Value).ownBlock) u11 aM) ∧ Aside0 (Kd.R (Kd.int .i64) 3 wc w.heap.size (fun k_ => (w.heap.size ≤ k_) ∧ some k_ ≠ (u11 : Value).ownBlock) u12 aI) ∧ Aside0 (Kd.V (Kd.slice 3 (Kd.int .i64)) 22 wc w.heap.size (fun k_ => (P0_ k_ ∨ w.heap.size ≤ k_) ∧ some k_ ≠ (u6 : Value).ownBlock ∧ some k_ ≠ (u11 : Value).ownBlock ∧ some k_ ≠ (u12 : Value).ownBlock ∧ some k_ ≠ (ak : Value).ownBlock ∧ some k_ ≠ (ai : Value).ownBlock ∧ some k_ ≠ (al : Value).ownBlock ∧ k_ ≠ ao ∧ k_ ≠ an ∧ k_ ≠ ag) (.slice A0 l0.length c0) l0) ∧ Aside0 (Kd.S (Kd.slice 3 (Kd.int .i64)) 22 wc w.heap.size (fun k_ => (w.heap.size ≤ k_) ∧ some k_ ≠ (u11 : Value).ownBlock ∧ some k_ ≠ (u12 : Value).ownBlock ∧ some k_ ≠ (ai : Value).ownBlock) ak ar) ∧ Aside0 (Kd.S (Kd.slice 3 (Kd.int .i64)) 22 wc w.heap.size (fun k_ => (w.heap.size ≤ k_) ∧ some k_ ≠ (u11 : Value).ownBlock ∧ some k_ ≠ (u12 : Value).ownBlock ∧ some k_ ≠ (ak : Value).ownBlock) ai aq) ∧ Aside0 (Kd.R Kd.bool 4 wc w.heap.size (fun k_ => (w.heap.size ≤ k_)) al ap) ∧ Aside0 (wc.heap[ao]? = some (.cells #[(.slice none 0 0), (.slice none 0 0), (.slice none 0 0), (.slice none 0 0)] 32 (0, 0))) ∧ Aside0 (wc.heap[an]? = some (.cells #[(.slice A0 l0.length c0), ak, ai, al] 32 (0, 0))) ∧ Aside0 (wc.heap[ag]? = some (.cells #[.int .i64 ((rd_T106 ab aa).f0), .int .i64 ((rd_T106 ab aa).f1), .int .i64 ((rd_T106 ab aa).f2)] 106 (0, 0))) ∧ Aside0 (Below w.heap.size w wc))
    case first =>
     have H := HC31.out
     clear HC31
     by_cases c32 : ay < ((rd_T106 ab aa).f1)
     ·
      rw [if_pos c32] at H
      have bU : decide (ay < ((rd_T106 ab aa).f1)) = true := decide_eq_true c32
      clear c32
      (first | rw [bU] | (simp only [i64_w, i32_w]; rw [bU]) | skip)
      have c33 : 0 ≤ ay := Classical.byContradiction fun c_ => by rw [if_neg c_] at H; exact absurd H (by simp)
      rw [if_pos c33] at H
      have dn : decide (0 ≤ ay) = true := decide_eq_true c33
      clear c33
      have c34 : ay < (l0.length : Int) := Classical.byContradiction fun c_ => by rw [if_neg c_] at H; exact absurd H (by simp)
      rw [if_pos c34] at H
      have dm : decide (ay < (l0.length : Int)) = true := decide_eq_true c34
      clear c34
      have c35 : 0 ≤ ((rd_T106 ab aa).f2) := Classical.byContradiction fun c_ => by rw [if_neg c_] at H; exact absurd H (by simp)
      rw [if_pos c35] at H
      have dl : decide (0 ≤ ((rd_T106 ab aa).f2)) = true := decide_eq_true c35
      clear c35
      have c36 : ((rd_T106 ab aa).f2) < ((rd_L2 l0 ay).length : Int) := Classical.byContradiction fun c_ => by rw [if_neg c_] at H; exact absurd H (by simp)
      rw [if_pos c36] at H
      have dk : decide (((rd_T106 ab aa).f2) < ((rd_L2 l0 ay).length : Int)) = true := decide_eq_true c36
      clear c36
      have c37 : 0 ≤ ax := Classical.byContradiction fun c_ => by rw [if_neg c_] at H; exact absurd H (by simp)
      rw [if_pos c37] at H
      have dj : decide (0 ≤ ax) = true := decide_eq_true c37
      clear c37
      have c38 : ax < (l0.length : Int) := Classical.byContradiction fun c_ => by rw [if_neg c_] at H; exact absurd H (by simp)
      rw [if_pos c38] at H
      have di : decide (ax < (l0.length : Int)) = true := decide_eq_true c38
      clear c38
      have c39 : ((rd_T106 ab aa).f2) < ((rd_L2 l0 ax).length : Int) := Classical.byContradiction fun c_ => by rw [if_neg c_] at H; exact absurd H (by simp)
      rw [if_pos c39] at H
      have dh : decide (((rd_T106 ab aa).f2) < ((rd_L2 l0 ax).length : Int)) = true := decide_eq_true c39
      clear c39
      have H' := Aside0.mk H
      clear H
      try go_wp2
      have aT := Aside0.mk (Kd.V_drew aw.out)
      have aR := Aside0.mk (Kd.R_drew aA.out)
      have aQ := Aside0.mk (Kd.R_drew aC.out)
      have aW := Aside0.mk (Kd.R_drew au.out)
      have aV := Aside0.mk (Kd.V_drew ae.out)
      have bd := Aside0.mk (Kd.S_drew af.out)
      have bc := Aside0.mk (Kd.S_drew ac.out)
      have bb := Aside0.mk (Kd.R_drew ad.out)
      have bh := Aside0.mk (blk_drew am.out)
      have bg := Aside0.mk (blk_drew ah.out)
      have aN := Aside0.mk (blk_drew aj.out)
      have aU := Aside0.mk (below_drew1 HB.out)
      clear aw
      clear aA
      clear aC
      clear au
      clear ae
      clear af
      clear ac
      clear ad
      clear am
      clear ah
      clear aj
      clear HB
      have aw := aT
      have aA := aR
      have aC := aQ
      have au := aW
      have ae := aV
      have af := bd
      have ac := bc
      have ad := bb
      have am := bh
      have ah := bg
      have aj := aN
      have HB := aU
      clear aT aR aQ aW aV bd bc bb bh bg aN aU
      have p119 : 0 ≤ (ay : Int) := of_decide_eq_true (by first | (with_reducible assumption) | assumption)
      have q119 : ay < (l0.length : Int) := of_decide_eq_true (by first | (with_reducible assumption) | assumption)
      obtain ⟨ad119, A119_0, c119_0, e119, bN, hl119_0, hi119_0⟩ := at_L2 (Kd.V_reads' aw.out).2.2 ay p119 q119
      cases e119
      obtain ⟨ce119, hce119, hMe119, hcc119⟩ := Kd.V_get aw.out [] ay p119 (by first | exact q119 | exact of_decide_eq_true (by first | (with_reducible assumption) | assumption) | (have e_ := (Kd.V_reads' aw.out).1; omega))
      obtain ⟨ua119_0, uc119_0, rfl, ul119_0, ge119_0⟩ := Kd.FK_slice_open hMe119
      have hv119_0 := hcc119 0 _ rfl
      rw [Nat.add_zero, show ((Kd.slice 3 (Kd.int .i64))).sz = 1 from rfl, Nat.mul_one] at hv119_0
      replace hv119_0 := Option.some.inj (hv119_0.symm.trans bN)
      injection hv119_0 with hva_ hvn_ hvc_
      rw [hva_] at ge119_0
      rw [hvc_] at ul119_0
      have HL119_0 := Aside0.mk (show Kd.V (Kd.int .i64) 3 _ w.heap.size _ _ (rd_L2 l0 ay) from Kd.V_mk ul119_0 ge119_0)
      clear hva_ hvn_ hvc_ ge119_0 ul119_0
      clear hcc119 hce119
      have HR119_0 := Aside0.mk hi119_0
      have HC119_0 := Aside0.mk hl119_0
      clear hi119_0 hl119_0
      replace p119 := eq_true p119
      replace q119 := eq_true q119
      have p120 : 0 ≤ (((rd_T106 ab aa).f2) : Int) := of_decide_eq_true (by first | (with_reducible assumption) | assumption)
      have q120 : ((rd_T106 ab aa).f2) < ((rd_L2 l0 ay).length : Int) := of_decide_eq_true (by first | (with_reducible assumption) | assumption)
      obtain ⟨ad120, e120, bR⟩ := Kd.at_int (by repeat (first | (with_reducible exact HR119_0.out) | (with_reducible refine Kd.C_alloc ?_ _) | (with_reducible refine Kd.C_drewN ?_ _) | (with_reducible refine Kd.C_drew ?_) | exact HR119_0.out)) ((rd_T106 ab aa).f2) p120 q120
      cases e120
      replace p120 := eq_true p120
      replace q120 := eq_true q120
      have p121 : 0 ≤ (ax : Int) := of_decide_eq_true (by first | (with_reducible assumption) | assumption)
      have q121 : ax < (l0.length : Int) := of_decide_eq_true (by first | (with_reducible assumption) | assumption)
      obtain ⟨ad121, A121_0, c121_0, e121, bM, hl121_0, hi121_0⟩ := at_L2 (Kd.V_reads' aw.out).2.2 ax p121 q121
      obtain rfl : ad119 = ad121 := (by injection e121)
      obtain ⟨ce121, hce121, hMe121, hcc121⟩ := Kd.V_get aw.out [] ax p121 (by first | exact q121 | exact of_decide_eq_true (by first | (with_reducible assumption) | assumption) | (have e_ := (Kd.V_reads' aw.out).1; omega))
      obtain ⟨ua121_0, uc121_0, rfl, ul121_0, ge121_0⟩ := Kd.FK_slice_open hMe121
      have hv121_0 := hcc121 0 _ rfl
      rw [Nat.add_zero, show ((Kd.slice 3 (Kd.int .i64))).sz = 1 from rfl, Nat.mul_one] at hv121_0
      replace hv121_0 := Option.some.inj (hv121_0.symm.trans bM)
      injection hv121_0 with hva_ hvn_ hvc_
      rw [hva_] at ge121_0
      rw [hvc_] at ul121_0
      have HL121_0 := Aside0.mk (show Kd.V (Kd.int .i64) 3 _ w.heap.size _ _ (rd_L2 l0 ax) from Kd.V_mk ul121_0 ge121_0)
      clear hva_ hvn_ hvc_ ge121_0 ul121_0
      clear hcc121 hce121
      have HR121_0 := Aside0.mk hi121_0
      have HC121_0 := Aside0.mk hl121_0
      clear hi121_0 hl121_0
      replace p121 := eq_true p121
      replace q121 := eq_true q121
      have p122 : 0 ≤ (((rd_T106 ab aa).f2) : Int) := of_decide_eq_true (by first | (with_reducible assumption) | assumption)
      have q122 : ((rd_T106 ab aa).f2) < ((rd_L2 l0 ax).length : Int) := of_decide_eq_true (by first | (with_reducible assumption) | assumption)
      obtain ⟨ad122, e122, bQ⟩ := Kd.at_int (by repeat (first | (with_reducible exact HR121_0.out) | (with_reducible refine Kd.C_alloc ?_ _) | (with_reducible refine Kd.C_drewN ?_ _) | (with_reducible refine Kd.C_drew ?_) | exact HR121_0.out)) ((rd_T106 ab aa).f2) p122 q122
      cases e122
      replace p122 := eq_true p122
      replace q122 := eq_true q122
      refine start_ (n := 23) (S := fun w' => w'.cell? ⟨ag, 0, none⟩ = some (.int .i64 ((rd_T106 ab aa).f0)) ∧ w'.cell? ⟨ag, 1, none⟩ = some (.int .i64 ((rd_T106 ab aa).f1)) ∧ w'.cell? ⟨ag, 2, none⟩ = some (.int .i64 ((rd_T106 ab aa).f2)) ∧ w'.cell? (ad119.add (ay).toNat) = some (.slice (some ad120) (rd_L2 l0 ay).length c119_0) ∧ w'.cell? (ad120.add (((rd_T106 ab aa).f2)).toNat) = some (.int .i64 (rd (rd_L2 l0 ay) ((rd_T106 ab aa).f2))) ∧ w'.cell? (ad119.add (ax).toNat) = some (.slice (some ad122) (rd_L2 l0 ax).length c121_0) ∧ w'.cell? (ad122.add (((rd_T106 ab aa).f2)).toNat) = some (.int .i64 (rd (rd_L2 l0 ax) ((rd_T106 ab aa).f2)))) (ds := []) #[false, false, false, false, false, false, false, false, false, false, false, false, false, false, false, false, false, false, false, false, false, false, false] (by kernel_rfl) rfl rfl ⟨(blk_cell aj.out 0).trans rfl, (blk_cell aj.out 1).trans rfl, (blk_cell aj.out 2).trans rfl, bN, bR, bM, bQ⟩ (fun hHeld => ?_); refine with_tabW wordbookref15_Build.tab18 wordbookref15_Build.bits18 (fun HT_ HW_ => ?_)
      generalize wr.drew = w40 at aw aA aC au ae af ac ad am ah aj HB HL119_0 HL121_0 HR119_0 HR121_0 bN bR bM bQ hHeld ⊢
      refine pure_ (i := 0) (N := some 62) (v := ?_) (a' := ?_) #[true, false, false, false, false, false, false, false, false, false, false, false, false, false, false, false, false, false, false, false, false, false, false] rfl rfl (any_of HT_.out (by kernel_rfl)) (fun _ _ _ h => h) (Or.inl ⟨by rfl, ?_⟩) ?_ ?_
      rotate_left
      ·
       intro w'
       go_simp
       with_reducible rfl
      rotate_left
      ·
       simp only [Act.put, setIfInBounds_toArray, set_cons_zero, set_cons_succ, i64_w, i32_w]
       rfl
      refine pure_ (i := 1) (N := some 63) (v := ?_) (a' := ?_) #[true, true, false, false, false, false, false, false, false, false, false, false, false, false, false, false, false, false, false, false, false, false, false] rfl rfl (any_of HT_.out (by kernel_rfl)) (fun _ _ _ h => h) (Or.inl ⟨by rfl, ?_⟩) ?_ ?_
      rotate_left
      ·
       intro w'
       go_simp
       with_reducible rfl
      rotate_left
      ·
       simp only [Act.put, setIfInBounds_toArray, set_cons_zero, set_cons_succ, i64_w, i32_w]
       rfl
      refine take_ (i := 2) (N := some 64) (v := ?_) (a' := ?_) #[true, true, true, false, false, false, false, false, false, false, false, false, false, false, false, false, false, false, false, false, false, false, false] rfl rfl (take_ofW HT_.out HW_.out (by kernel_rfl)) (fun _ _ _ h => h) (Or.inl ⟨by rfl, ?_⟩) hHeld ?_ ?_
      rotate_left
      ·
       rintro w' ⟨s0, s1, s2, s3, s4, s5, s6⟩
       go_simp
       with_reducible rfl
      rotate_left
      ·
       simp only [Act.put, setIfInBounds_toArray, set_cons_zero, set_cons_succ, i64_w, i32_w]
       rfl
      refine pure_ (i := 3) (N := some 65) (v := ?_) (a' := ?_) #[true, true, true, true, false, false, false, false, false, false, false, false, false, false, false, false, false, false, false, false, false, false, false] rfl rfl (any_of HT_.out (by kernel_rfl)) (fun _ _ _ h => h) (Or.inl ⟨by rfl, ?_⟩) ?_ ?_
      rotate_left
      ·
       intro w'
       go_simp
       with_reducible rfl
      rotate_left
      ·
       simp only [Act.put, setIfInBounds_toArray, set_cons_zero, set_cons_succ, i64_w, i32_w]
       rfl
      refine pure_ (i := 4) (N := some 66) (v := ?_) (a' := ?_) #[true, true, true, true, true, false, false, false, false, false, false, false, false, false, false, false, false, false, false, false, false, false, false] rfl rfl (any_of HT_.out (by kernel_rfl)) (fun _ _ _ h => h) (Or.inl ⟨by rfl, ?_⟩) ?_ ?_
      rotate_left
      ·
       intro w'
       go_simp
       with_reducible rfl
      rotate_left
      ·
       simp only [Act.put, setIfInBounds_toArray, set_cons_zero, set_cons_succ, i64_w, i32_w]
       rfl
      refine pure_ (i := 5) (N := some 67) (v := ?_) (a' := ?_) #[true, true, true, true, true, true, false, false, false, false, false, false, false, false, false, false, false, false, false, false, false, false, false] rfl rfl (any_of HT_.out (by kernel_rfl)) (fun _ _ _ h => h) (Or.inl ⟨by rfl, ?_⟩) ?_ ?_
      rotate_left
      ·
       intro w'
       go_simp
       with_reducible rfl
      rotate_left
      ·
       simp only [Act.put, setIfInBounds_toArray, set_cons_zero, set_cons_succ, i64_w, i32_w]
       rfl
      refine pure_ (i := 6) (N := some 68) (v := ?_) (a' := ?_) #[true, true, true, true, true, true, true, false, false, false, false, false, false, false, false, false, false, false, false, false, false, false, false] rfl rfl (any_of HT_.out (by kernel_rfl)) (fun _ _ _ h => h) (Or.inl ⟨by rfl, ?_⟩) ?_ ?_
      rotate_left
      ·
       intro w'
       go_simp
       with_reducible rfl
      rotate_left
      ·
       simp only [Act.put, setIfInBounds_toArray, set_cons_zero, set_cons_succ, i64_w, i32_w]
       rfl
      refine pure_ (i := 7) (N := some 69) (v := ?_) (a' := ?_) #[true, true, true, true, true, true, true, true, false, false, false, false, false, false, false, false, false, false, false, false, false, false, false] rfl rfl (any_of HT_.out (by kernel_rfl)) (fun _ _ _ h => h) (Or.inl ⟨by rfl, ?_⟩) ?_ ?_
      rotate_left
      ·
       intro w'
       go_simp
       with_reducible rfl
      rotate_left
      ·
       simp only [Act.put, setIfInBounds_toArray, set_cons_zero, set_cons_succ, i64_w, i32_w]
       rfl
      refine pure_ (i := 9) (N := some 71) (v := ?_) (a' := ?_) #[true, true, true, true, true, true, true, true, false, true, false, false, false, false, false, false, false, false, false, false, false, false, false] rfl rfl (any_of HT_.out (by kernel_rfl)) (fun _ _ _ h => h) (Or.inl ⟨by rfl, ?_⟩) ?_ ?_
      rotate_left
      ·
       intro w'
       go_simp
       with_reducible rfl
      rotate_left
      ·
       simp only [Act.put, setIfInBounds_toArray, set_cons_zero, set_cons_succ, i64_w, i32_w]
       rfl
      refine pure_ (i := 13) (N := some 75) (v := ?_) (a' := ?_) #[true, true, true, true, true, true, true, true, false, true, false, false, false, true, false, false, false, false, false, false, false, false, false] rfl rfl (any_of HT_.out (by kernel_rfl)) (fun _ _ _ h => h) (Or.inl ⟨by rfl, ?_⟩) ?_ ?_
      rotate_left
      ·
       intro w'
       go_simp
       with_reducible rfl
      rotate_left
      ·
       simp only [Act.put, setIfInBounds_toArray, set_cons_zero, set_cons_succ, i64_w, i32_w]
       rfl
      refine pure_ (i := 14) (N := some 76) (v := ?_) (a' := ?_) #[true, true, true, true, true, true, true, true, false, true, false, false, false, true, true, false, false, false, false, false, false, false, false] rfl rfl (any_of HT_.out (by kernel_rfl)) (fun _ _ _ h => h) (Or.inl ⟨by rfl, ?_⟩) ?_ ?_
      rotate_left
      ·
       intro w'
       go_simp
       with_reducible rfl
      rotate_left
      ·
       simp only [Act.put, setIfInBounds_toArray, set_cons_zero, set_cons_succ, i64_w, i32_w]
       rfl
      refine pure_ (i := 15) (N := some 77) (v := ?_) (a' := ?_) #[true, true, true, true, true, true, true, true, false, true, false, false, false, true, true, true, false, false, false, false, false, false, false] rfl rfl (any_of HT_.out (by kernel_rfl)) (fun _ _ _ h => h) (Or.inl ⟨by rfl, ?_⟩) ?_ ?_
      rotate_left
      ·
       intro w'
       go_simp
       with_reducible rfl
      rotate_left
      ·
       simp only [Act.put, setIfInBounds_toArray, set_cons_zero, set_cons_succ, i64_w, i32_w]
       rfl
      refine pure_ (i := 17) (N := some 79) (v := ?_) (a' := ?_) #[true, true, true, true, true, true, true, true, false, true, false, false, false, true, true, true, false, true, false, false, false, false, false] rfl rfl (any_of HT_.out (by kernel_rfl)) (fun _ _ _ h => h) (Or.inl ⟨by rfl, ?_⟩) ?_ ?_
      rotate_left
      ·
       intro w'
       go_simp
       with_reducible rfl
      rotate_left
      ·
       simp only [Act.put, setIfInBounds_toArray, set_cons_zero, set_cons_succ, i64_w, i32_w]
       rfl
      refine take_ (i := 8) (N := some 70) (v := ?_) (a' := ?_) #[true, true, true, true, true, true, true, true, true, true, false, false, false, true, true, true, false, true, false, false, false, false, false] rfl rfl (take_ofW HT_.out HW_.out (by kernel_rfl)) (fun _ _ _ h => h) (Or.inl ⟨by rfl, ?_⟩) hHeld ?_ ?_
      rotate_left
      ·
       rintro w' ⟨s0, s1, s2, s3, s4, s5, s6⟩
       go_simp
       with_reducible rfl
      rotate_left
      ·
       simp only [Act.put, setIfInBounds_toArray, set_cons_zero, set_cons_succ, i64_w, i32_w]
       rfl
      refine take_ (i := 10) (N := some 72) (v := ?_) (a' := ?_) #[true, true, true, true, true, true, true, true, true, true, true, false, false, true, true, true, false, true, false, false, false, false, false] rfl rfl (take_ofW HT_.out HW_.out (by kernel_rfl)) (fun _ _ _ h => h) (Or.inl ⟨by rfl, ?_⟩) hHeld ?_ ?_
      rotate_left
      ·
       rintro w' ⟨s0, s1, s2, s3, s4, s5, s6⟩
       go_simp
       with_reducible rfl
      rotate_left
      ·
       simp only [Act.put, setIfInBounds_toArray, set_cons_zero, set_cons_succ, i64_w, i32_w]
       rfl
      refine pure_ (i := 11) (N := some 73) (v := ?_) (a' := ?_) #[true, true, true, true, true, true, true, true, true, true, true, true, false, true, true, true, false, true, false, false, false, false, false] rfl rfl (any_of HT_.out (by kernel_rfl)) (fun _ _ _ h => h) (Or.inl ⟨by rfl, ?_⟩) ?_ ?_
      rotate_left
      ·
       intro w'
       go_simp
       with_reducible rfl
      rotate_left
      ·
       simp only [Act.put, setIfInBounds_toArray, set_cons_zero, set_cons_succ, i64_w, i32_w]
       rfl
      refine take_ (i := 12) (N := some 74) (v := ?_) (a' := ?_) #[true, true, true, true, true, true, true, true, true, true, true, true, true, true, true, true, false, true, false, false, false, false, false] rfl rfl (take_ofW HT_.out HW_.out (by kernel_rfl)) (fun _ _ _ h => h) (Or.inl ⟨by rfl, ?_⟩) hHeld ?_ ?_
      rotate_left
      ·
       rintro w' ⟨s0, s1, s2, s3, s4, s5, s6⟩
       go_simp
       with_reducible rfl
      rotate_left
      ·
       simp only [Act.put, setIfInBounds_toArray, set_cons_zero, set_cons_succ, i64_w, i32_w]
       rfl
      refine take_ (i := 16) (N := some 78) (v := ?_) (a' := ?_) #[true, true, true, true, true, true, true, true, true, true, true, true, true, true, true, true, true, true, false, false, false, false, false] rfl rfl (take_ofW HT_.out HW_.out (by kernel_rfl)) (fun _ _ _ h => h) (Or.inl ⟨by rfl, ?_⟩) hHeld ?_ ?_
      rotate_left
      ·
       rintro w' ⟨s0, s1, s2, s3, s4, s5, s6⟩
       go_simp
       with_reducible rfl
      rotate_left
      ·
       simp only [Act.put, setIfInBounds_toArray, set_cons_zero, set_cons_succ, i64_w, i32_w]
       rfl
      refine take_ (i := 18) (N := some 80) (v := ?_) (a' := ?_) #[true, true, true, true, true, true, true, true, true, true, true, true, true, true, true, true, true, true, true, false, false, false, false] rfl rfl (take_ofW HT_.out HW_.out (by kernel_rfl)) (fun _ _ _ h => h) (Or.inl ⟨by rfl, ?_⟩) hHeld ?_ ?_
      rotate_left
      ·
       rintro w' ⟨s0, s1, s2, s3, s4, s5, s6⟩
       go_simp
       with_reducible rfl
      rotate_left
      ·
       simp only [Act.put, setIfInBounds_toArray, set_cons_zero, set_cons_succ, i64_w, i32_w]
       rfl
      refine pure_ (i := 19) (N := some 81) (v := ?_) (a' := ?_) #[true, true, true, true, true, true, true, true, true, true, true, true, true, true, true, true, true, true, true, true, false, false, false] rfl rfl (any_of HT_.out (by kernel_rfl)) (fun _ _ _ h => h) (Or.inl ⟨by rfl, ?_⟩) ?_ ?_
      rotate_left
      ·
       intro w'
       go_simp
       with_reducible rfl
      rotate_left
      ·
       simp only [Act.put, setIfInBounds_toArray, set_cons_zero, set_cons_succ, i64_w, i32_w]
       rfl
      refine take_ (i := 20) (N := some 82) (v := ?_) (a' := ?_) #[true, true, true, true, true, true, true, true, true, true, true, true, true, true, true, true, true, true, true, true, true, false, false] rfl rfl (take_ofW HT_.out HW_.out (by kernel_rfl)) (fun _ _ _ h => h) (Or.inl ⟨by rfl, ?_⟩) hHeld ?_ ?_
      rotate_left
      ·
       rintro w' ⟨s0, s1, s2, s3, s4, s5, s6⟩
       go_simp
       with_reducible rfl
      rotate_left
      ·
       simp only [Act.put, setIfInBounds_toArray, set_cons_zero, set_cons_succ, i64_w, i32_w]
       rfl
      refine pure_ (i := 21) (N := some 83) (v := ?_) (a' := ?_) #[true, true, true, true, true, true, true, true, true, true, true, true, true, true, true, true, true, true, true, true, true, true, false] rfl rfl (any_of HT_.out (by kernel_rfl)) (fun _ _ _ h => h) (Or.inl ⟨by rfl, ?_⟩) ?_ ?_
      rotate_left
      ·
       intro w'
       go_simp
       with_reducible rfl
      rotate_left
      ·
       simp only [Act.put, setIfInBounds_toArray, set_cons_zero, set_cons_succ, i64_w, i32_w]
       rfl
      refine pure_ (i := 22) (N := some 84) (v := ?_) (a' := ?_) #[true, true, true, true, true, true, true, true, true, true, true, true, true, true, true, true, true, true, true, true, true, true, true] rfl rfl (any_of HT_.out (by kernel_rfl)) (fun _ _ _ h => h) (Or.inl ⟨by rfl, ?_⟩) ?_ ?_
      rotate_left
      ·
       intro w'
       go_simp
       with_reducible rfl
      rotate_left
      ·
       simp only [Act.put, setIfInBounds_toArray, set_cons_zero, set_cons_succ, i64_w, i32_w]
       rfl
      refine done_ (done_of HT_.out (by kernel_rfl)) ?_
      try go_wp2
      go_meet
      case rel => exact ⟨_, (((rd (rd_L2 l0 ay) ((rd_T106 ab aa).f2)) == (rd (rd_L2 l0 ax) ((rd_T106 ab aa).f2)))), (by first | rfl | (simp; done) | (simp [*]; done)), H', ⟨by have := cD.out; have := bP.out; have := bS.out; have := cY.out; have := dc.out; first | omega | exact Nat.le_refl _⟩, ⟨by (with_reducible repeat first | apply V_alloc | apply V_drewN | apply V_drew); exact aw.out⟩, ⟨by (with_reducible repeat first | apply R_alloc | apply R_drewN | apply R_drew); exact aA.out⟩, ⟨by (with_reducible repeat first | apply R_alloc | apply R_drewN | apply R_drew); exact aC.out⟩, ⟨by (with_reducible repeat first | apply R_alloc | apply R_drewN | apply R_drew); exact au.out⟩, ⟨by (with_reducible repeat first | apply V_alloc | apply V_drewN | apply V_drew); exact ae.out⟩, ⟨by (with_reducible repeat first | apply S_alloc | apply S_drewN | apply S_drew); exact af.out⟩, ⟨by (with_reducible repeat first | apply S_alloc | apply S_drewN | apply S_drew); exact ac.out⟩, ⟨by (with_reducible repeat first | apply R_alloc | apply R_drewN | apply R_drew); exact ad.out⟩, ⟨by (with_reducible repeat first | apply blk_drewN | apply blk_drew | apply blk_alloc); exact am.out⟩, ⟨by (with_reducible repeat first | apply blk_drewN | apply blk_drew | apply blk_alloc); exact ah.out⟩, ⟨by (with_reducible repeat first | apply blk_drewN | apply blk_drew | apply blk_alloc); exact aj.out⟩, ⟨by repeat (first | (with_reducible first | exact HB.out | apply below_alloc | apply pw_below_drewN | apply below_drew1 | refine below_set ?_ aD.out | refine below_set ?_ aE.out | refine below_set ?_ aG.out) | exact HB.out)⟩⟩
     rw [if_neg c32] at H
     have bU : decide (ay < ((rd_T106 ab aa).f1)) = false := decide_eq_false c32
     clear c32
     (first | rw [bU] | (simp only [i64_w, i32_w]; rw [bU]) | skip)
     have H' := Aside0.mk H
     clear H
     try go_wp2
     have aT := Aside0.mk (Kd.V_drew aw.out)
     have aR := Aside0.mk (Kd.R_drew aA.out)
     have aQ := Aside0.mk (Kd.R_drew aC.out)
     have aW := Aside0.mk (Kd.R_drew au.out)
     have aV := Aside0.mk (Kd.V_drew ae.out)
     have bd := Aside0.mk (Kd.S_drew af.out)
     have bc := Aside0.mk (Kd.S_drew ac.out)
     have bb := Aside0.mk (Kd.R_drew ad.out)
     have bh := Aside0.mk (blk_drew am.out)
     have bg := Aside0.mk (blk_drew ah.out)
     have aN := Aside0.mk (blk_drew aj.out)
     have aU := Aside0.mk (below_drew1 HB.out)
     clear aw
     clear aA
     clear aC
     clear au
     clear ae
     clear af
     clear ac
     clear ad
     clear am
     clear ah
     clear aj
     clear HB
     have aw := aT
     have aA := aR
     have aC := aQ
     have au := aW
     have ae := aV
     have af := bd
     have ac := bc
     have ad := bb
     have am := bh
     have ah := bg
     have aj := aN
     have HB := aU
     clear aT aR aQ aW aV bd bc bb bh bg aN aU
     refine start_ (n := 23) (S := fun w' => w'.cell? ⟨ag, 0, none⟩ = some (.int .i64 ((rd_T106 ab aa).f0)) ∧ w'.cell? ⟨ag, 1, none⟩ = some (.int .i64 ((rd_T106 ab aa).f1)) ∧ w'.cell? ⟨ag, 2, none⟩ = some (.int .i64 ((rd_T106 ab aa).f2))) (ds := []) #[false, false, false, false, false, false, false, false, false, false, false, false, false, false, false, false, false, false, false, false, false, false, false] (by kernel_rfl) rfl rfl ⟨(blk_cell aj.out 0).trans rfl, (blk_cell aj.out 1).trans rfl, (blk_cell aj.out 2).trans rfl⟩ (fun hHeld => ?_); refine with_tabW wordbookref15_Build.tab18 wordbookref15_Build.bits18 (fun HT_ HW_ => ?_)
     generalize wr.drew = w41 at aw aA aC au ae af ac ad am ah aj HB hHeld ⊢
     refine pure_ (i := 0) (N := some 62) (v := ?_) (a' := ?_) #[true, false, false, false, false, false, false, false, false, false, false, false, false, false, false, false, false, false, false, false, false, false, false] rfl rfl (any_of HT_.out (by kernel_rfl)) (fun _ _ _ h => h) (Or.inl ⟨by rfl, ?_⟩) ?_ ?_
     rotate_left
     ·
      intro w'
      go_simp
      with_reducible rfl
     rotate_left
     ·
      simp only [Act.put, setIfInBounds_toArray, set_cons_zero, set_cons_succ, i64_w, i32_w]
      rfl
     refine pure_ (i := 1) (N := some 63) (v := ?_) (a' := ?_) #[true, true, false, false, false, false, false, false, false, false, false, false, false, false, false, false, false, false, false, false, false, false, false] rfl rfl (any_of HT_.out (by kernel_rfl)) (fun _ _ _ h => h) (Or.inl ⟨by rfl, ?_⟩) ?_ ?_
     rotate_left
     ·
      intro w'
      go_simp
      with_reducible rfl
     rotate_left
     ·
      simp only [Act.put, setIfInBounds_toArray, set_cons_zero, set_cons_succ, i64_w, i32_w]
      rfl
     refine take_ (i := 2) (N := some 64) (v := ?_) (a' := ?_) #[true, true, true, false, false, false, false, false, false, false, false, false, false, false, false, false, false, false, false, false, false, false, false] rfl rfl (take_ofW HT_.out HW_.out (by kernel_rfl)) (fun _ _ _ h => h) (Or.inl ⟨by rfl, ?_⟩) hHeld ?_ ?_
     rotate_left
     ·
      rintro w' ⟨s0, s1, s2⟩
      go_simp
      with_reducible rfl
     rotate_left
     ·
      simp only [Act.put, setIfInBounds_toArray, set_cons_zero, set_cons_succ, i64_w, i32_w]
      rfl
     refine pure_ (i := 3) (N := some 65) (v := ?_) (a' := ?_) #[true, true, true, true, false, false, false, false, false, false, false, false, false, false, false, false, false, false, false, false, false, false, false] rfl rfl (any_of HT_.out (by kernel_rfl)) (fun _ _ _ h => h) (Or.inl ⟨by rfl, ?_⟩) ?_ ?_
     rotate_left
     ·
      intro w'
      go_simp
      with_reducible rfl
     rotate_left
     ·
      simp only [Act.put, setIfInBounds_toArray, set_cons_zero, set_cons_succ, i64_w, i32_w]
      rfl
     refine pure_ (i := 4) (N := some 66) (v := ?_) (a' := ?_) #[true, true, true, true, true, false, false, false, false, false, false, false, false, false, false, false, false, false, false, false, false, false, false] rfl rfl (any_of HT_.out (by kernel_rfl)) (fun _ _ _ h => h) (Or.inl ⟨by rfl, ?_⟩) ?_ ?_
     rotate_left
     ·
      intro w'
      go_simp
      with_reducible rfl
     rotate_left
     ·
      simp only [Act.put, setIfInBounds_toArray, set_cons_zero, set_cons_succ, i64_w, i32_w]
      rfl
     refine pure_ (i := 5) (N := some 67) (v := undef) (a' := ?_) #[true, true, true, true, true, true, false, false, false, false, false, false, false, false, false, false, false, false, false, false, false, false, false] rfl rfl (any_of HT_.out (by kernel_rfl)) (fun _ _ _ h => h) (Or.inr ⟨by rfl, rfl⟩) ?_ ?_
     rotate_left
     ·
      simp only [Act.put, setIfInBounds_toArray, set_cons_zero, set_cons_succ, i64_w, i32_w]
      rfl
     refine pure_ (i := 6) (N := some 68) (v := undef) (a' := ?_) #[true, true, true, true, true, true, true, false, false, false, false, false, false, false, false, false, false, false, false, false, false, false, false] rfl rfl (any_of HT_.out (by kernel_rfl)) (fun _ _ _ h => h) (Or.inr ⟨by rfl, rfl⟩) ?_ ?_
     rotate_left
     ·
      simp only [Act.put, setIfInBounds_toArray, set_cons_zero, set_cons_succ, i64_w, i32_w]
      rfl
     refine pure_ (i := 7) (N := some 69) (v := undef) (a' := ?_) #[true, true, true, true, true, true, true, true, false, false, false, false, false, false, false, false, false, false, false, false, false, false, false] rfl rfl (any_of HT_.out (by kernel_rfl)) (fun _ _ _ h => h) (Or.inr ⟨by rfl, rfl⟩) ?_ ?_
     rotate_left
     ·
      simp only [Act.put, setIfInBounds_toArray, set_cons_zero, set_cons_succ, i64_w, i32_w]
      rfl
     refine pure_ (i := 8) (N := some 70) (v := undef) (a' := ?_) #[true, true, true, true, true, true, true, true, true, false, false, false, false, false, false, false, false, false, false, false, false, false, false] rfl rfl (any_of HT_.out (by kernel_rfl)) (fun _ _ _ h => h) (Or.inr ⟨by rfl, rfl⟩) ?_ ?_
     rotate_left
     ·
      simp only [Act.put, setIfInBounds_toArray, set_cons_zero, set_cons_succ, i64_w, i32_w]
      rfl
     refine pure_ (i := 9) (N := some 71) (v := undef) (a' := ?_) #[true, true, true, true, true, true, true, true, true, true, false, false, false, false, false, false, false, false, false, false, false, false, false] rfl rfl (any_of HT_.out (by kernel_rfl)) (fun _ _ _ h => h) (Or.inr ⟨by rfl, rfl⟩) ?_ ?_
     rotate_left
     ·
      simp only [Act.put, setIfInBounds_toArray, set_cons_zero, set_cons_succ, i64_w, i32_w]
      rfl
     refine pure_ (i := 10) (N := some 72) (v := undef) (a' := ?_) #[true, true, true, true, true, true, true, true, true, true, true, false, false, false, false, false, false, false, false, false, false, false, false] rfl rfl (any_of HT_.out (by kernel_rfl)) (fun _ _ _ h => h) (Or.inr ⟨by rfl, rfl⟩) ?_ ?_
     rotate_left
     ·
      simp only [Act.put, setIfInBounds_toArray, set_cons_zero, set_cons_succ, i64_w, i32_w]
      rfl
     refine pure_ (i := 11) (N := some 73) (v := undef) (a' := ?_) #[true, true, true, true, true, true, true, true, true, true, true, true, false, false, false, false, false, false, false, false, false, false, false] rfl rfl (any_of HT_.out (by kernel_rfl)) (fun _ _ _ h => h) (Or.inr ⟨by rfl, rfl⟩) ?_ ?_
     rotate_left
     ·
      simp only [Act.put, setIfInBounds_toArray, set_cons_zero, set_cons_succ, i64_w, i32_w]
      rfl
     refine pure_ (i := 12) (N := some 74) (v := undef) (a' := ?_) #[true, true, true, true, true, true, true, true, true, true, true, true, true, false, false, false, false, false, false, false, false, false, false] rfl rfl (any_of HT_.out (by kernel_rfl)) (fun _ _ _ h => h) (Or.inr ⟨by rfl, rfl⟩) ?_ ?_
     rotate_left
     ·
      simp only [Act.put, setIfInBounds_toArray, set_cons_zero, set_cons_succ, i64_w, i32_w]
      rfl
     refine pure_ (i := 13) (N := some 75) (v := undef) (a' := ?_) #[true, true, true, true, true, true, true, true, true, true, true, true, true, true, false, false, false, false, false, false, false, false, false] rfl rfl (any_of HT_.out (by kernel_rfl)) (fun _ _ _ h => h) (Or.inr ⟨by rfl, rfl⟩) ?_ ?_
     rotate_left
     ·
      simp only [Act.put, setIfInBounds_toArray, set_cons_zero, set_cons_succ, i64_w, i32_w]
      rfl
     refine pure_ (i := 14) (N := some 76) (v := undef) (a' := ?_) #[true, true, true, true, true, true, true, true, true, true, true, true, true, true, true, false, false, false, false, false, false, false, false] rfl rfl (any_of HT_.out (by kernel_rfl)) (fun _ _ _ h => h) (Or.inr ⟨by rfl, rfl⟩) ?_ ?_
     rotate_left
     ·
      simp only [Act.put, setIfInBounds_toArray, set_cons_zero, set_cons_succ, i64_w, i32_w]
      rfl
     refine pure_ (i := 15) (N := some 77) (v := undef) (a' := ?_) #[true, true, true, true, true, true, true, true, true, true, true, true, true, true, true, true, false, false, false, false, false, false, false] rfl rfl (any_of HT_.out (by kernel_rfl)) (fun _ _ _ h => h) (Or.inr ⟨by rfl, rfl⟩) ?_ ?_
     rotate_left
     ·
      simp only [Act.put, setIfInBounds_toArray, set_cons_zero, set_cons_succ, i64_w, i32_w]
      rfl
     refine pure_ (i := 16) (N := some 78) (v := undef) (a' := ?_) #[true, true, true, true, true, true, true, true, true, true, true, true, true, true, true, true, true, false, false, false, false, false, false] rfl rfl (any_of HT_.out (by kernel_rfl)) (fun _ _ _ h => h) (Or.inr ⟨by rfl, rfl⟩) ?_ ?_
     rotate_left
     ·
      simp only [Act.put, setIfInBounds_toArray, set_cons_zero, set_cons_succ, i64_w, i32_w]
      rfl
     refine pure_ (i := 17) (N := some 79) (v := undef) (a' := ?_) #[true, true, true, true, true, true, true, true, true, true, true, true, true, true, true, true, true, true, false, false, false, false, false] rfl rfl (any_of HT_.out (by kernel_rfl)) (fun _ _ _ h => h) (Or.inr ⟨by rfl, rfl⟩) ?_ ?_
     rotate_left
     ·
      simp only [Act.put, setIfInBounds_toArray, set_cons_zero, set_cons_succ, i64_w, i32_w]
      rfl
     refine pure_ (i := 18) (N := some 80) (v := undef) (a' := ?_) #[true, true, true, true, true, true, true, true, true, true, true, true, true, true, true, true, true, true, true, false, false, false, false] rfl rfl (any_of HT_.out (by kernel_rfl)) (fun _ _ _ h => h) (Or.inr ⟨by rfl, rfl⟩) ?_ ?_
     rotate_left
     ·
      simp only [Act.put, setIfInBounds_toArray, set_cons_zero, set_cons_succ, i64_w, i32_w]
      rfl
     refine pure_ (i := 19) (N := some 81) (v := undef) (a' := ?_) #[true, true, true, true, true, true, true, true, true, true, true, true, true, true, true, true, true, true, true, true, false, false, false] rfl rfl (any_of HT_.out (by kernel_rfl)) (fun _ _ _ h => h) (Or.inr ⟨by rfl, rfl⟩) ?_ ?_
     rotate_left
     ·
      simp only [Act.put, setIfInBounds_toArray, set_cons_zero, set_cons_succ, i64_w, i32_w]
      rfl
     refine pure_ (i := 20) (N := some 82) (v := undef) (a' := ?_) #[true, true, true, true, true, true, true, true, true, true, true, true, true, true, true, true, true, true, true, true, true, false, false] rfl rfl (any_of HT_.out (by kernel_rfl)) (fun _ _ _ h => h) (Or.inr ⟨by rfl, rfl⟩) ?_ ?_
     rotate_left
     ·
      simp only [Act.put, setIfInBounds_toArray, set_cons_zero, set_cons_succ, i64_w, i32_w]
      rfl
     refine pure_ (i := 21) (N := some 83) (v := undef) (a' := ?_) #[true, true, true, true, true, true, true, true, true, true, true, true, true, true, true, true, true, true, true, true, true, true, false] rfl rfl (any_of HT_.out (by kernel_rfl)) (fun _ _ _ h => h) (Or.inr ⟨by rfl, rfl⟩) ?_ ?_
     rotate_left
     ·
      simp only [Act.put, setIfInBounds_toArray, set_cons_zero, set_cons_succ, i64_w, i32_w]
      rfl
     refine pure_ (i := 22) (N := some 84) (v := ?_) (a' := ?_) #[true, true, true, true, true, true, true, true, true, true, true, true, true, true, true, true, true, true, true, true, true, true, true] rfl rfl (any_of HT_.out (by kernel_rfl)) (fun _ _ _ h => h) (Or.inl ⟨by rfl, ?_⟩) ?_ ?_
     rotate_left
     ·
      intro w'
      go_simp
      with_reducible rfl
     rotate_left
     ·
      simp only [Act.put, setIfInBounds_toArray, set_cons_zero, set_cons_succ, i64_w, i32_w]
      rfl
     refine done_ (done_of HT_.out (by kernel_rfl)) ?_
     try go_wp2
     go_meet
     case rel => exact ⟨_, (false), (by first | rfl | (simp; done) | (simp [*]; done)), H', ⟨by have := cD.out; have := bP.out; have := bS.out; have := cY.out; have := dc.out; first | omega | exact Nat.le_refl _⟩, ⟨by (with_reducible repeat first | apply V_alloc | apply V_drewN | apply V_drew); exact aw.out⟩, ⟨by (with_reducible repeat first | apply R_alloc | apply R_drewN | apply R_drew); exact aA.out⟩, ⟨by (with_reducible repeat first | apply R_alloc | apply R_drewN | apply R_drew); exact aC.out⟩, ⟨by (with_reducible repeat first | apply R_alloc | apply R_drewN | apply R_drew); exact au.out⟩, ⟨by (with_reducible repeat first | apply V_alloc | apply V_drewN | apply V_drew); exact ae.out⟩, ⟨by (with_reducible repeat first | apply S_alloc | apply S_drewN | apply S_drew); exact af.out⟩, ⟨by (with_reducible repeat first | apply S_alloc | apply S_drewN | apply S_drew); exact ac.out⟩, ⟨by (with_reducible repeat first | apply R_alloc | apply R_drewN | apply R_drew); exact ad.out⟩, ⟨by (with_reducible repeat first | apply blk_drewN | apply blk_drew | apply blk_alloc); exact am.out⟩, ⟨by (with_reducible repeat first | apply blk_drewN | apply blk_drew | apply blk_alloc); exact ah.out⟩, ⟨by (with_reducible repeat first | apply blk_drewN | apply blk_drew | apply blk_alloc); exact aj.out⟩, ⟨by repeat (first | (with_reducible first | exact HB.out | apply below_alloc | apply pw_below_drewN | apply below_drew1 | refine below_set ?_ aD.out | refine below_set ?_ aE.out | refine below_set ?_ aG.out) | exact HB.out)⟩⟩
    clear HC31
    (try clear c1); (try clear p1); (try clear q1); (try clear hx1); (try clear c2); (try clear p2); (try clear c3); (try clear cC); (try clear cB); (try clear c6); (try clear p6); (try clear c7); (try clear c10); (try clear bV); (try clear p10); (try clear q10); (try clear hx10); (try clear c11); (try clear cj); (try clear p11); (try clear q11); (try clear hx11); (try clear c12); (try clear p12); (try clear q12); (try clear hx12); (try clear c15); (try clear c16); (try clear c18); (try clear bB); (try clear c19); (try clear ci); (try clear c20); (try clear ch); (try clear c26); (try clear c27); (try clear cG); (try clear c28); (try clear c29); (try clear c32); (try clear bU); (try clear c33); (try clear dn); (try clear c34); (try clear dm); (try clear c35); (try clear dl); (try clear c36); (try clear dk); (try clear c37); (try clear dj); (try clear c38); (try clear di); (try clear c39); (try clear dh); (try clear bA); (try clear bz); (try clear bx); (try clear cd); (try clear cc); (try clear cb); (try clear bL); (try clear bK); (try clear bJ); (try clear bI); (try clear bw); (try clear bv); (try clear bu); (try clear ca); (try clear bZ); (try clear bY); (try clear bH); (try clear bG); (try clear bF); (try clear bE); (try clear bt); (try clear bs); (try clear br); (try clear bk); (try clear bN); (try clear bR); (try clear bM); (try clear bQ); (try clear p1); (try clear p10); (try clear p107); (try clear p109); (try clear p119); (try clear p120); (try clear p121); (try clear p122); (try clear p2); (try clear p6); (try clear q1); (try clear q10); (try clear q107); (try clear q109); (try clear q119); (try clear q120); (try clear q121); (try clear q122)
    obtain ⟨kq, cv, rfl, HA, cm, aw, aA, aC, au, ae, af, ac, ad, am, ah, aj, HB⟩ := hcut
    cases kq with
    | zero => exact absurd HA.out (by simp [wordbookref15_Build.j5])
    | succ df => ?_
    have H := HA.out
    clear HA
    simp only [wordbookref15_Build.j5] at H
    by_cases c42 : cv = true
    ·
     subst c42
     have H1 : (wordbookref15_Build.l2 df l0 aJ aa ax aK aM aI (wrap64 (ay + 1)) l0 ar aq ap ((rd_T106 ab aa).f0) ((rd_T106 ab aa).f1) ((rd_T106 ab aa).f2)) = some (r1, r2, r3, r4, r5) := by rw [if_pos rfl] at H; exact H
     clear H
     have H := H1
     clear H1
     have H' := Aside0.mk H
     clear H
     go_wp2
     go_roundg df
     case measure => have := cD.out; have := bP.out; have := bS.out; have := cY.out; have := dc.out; have := cm.out; omega
     case rel => exact ⟨(wrap64 (ay + 1)), (by first | rfl | (simp; done) | (simp [*]; done)), H', ⟨by have := cD.out; have := bP.out; have := bS.out; have := cY.out; have := dc.out; have := cm.out; omega⟩, ⟨by (with_reducible repeat first | apply V_alloc | apply V_drewN | apply V_drew); exact aw.out⟩, ⟨by (with_reducible repeat first | apply R_alloc | apply R_drewN | apply R_drew); exact aA.out⟩, ⟨by (with_reducible repeat first | apply R_alloc | apply R_drewN | apply R_drew); exact aC.out⟩, ⟨by (with_reducible repeat first | apply R_alloc | apply R_drewN | apply R_drew); exact au.out⟩, ⟨by (with_reducible repeat first | apply V_alloc | apply V_drewN | apply V_drew); exact ae.out⟩, ⟨by (with_reducible repeat first | apply S_alloc | apply S_drewN | apply S_drew); exact af.out⟩, ⟨by (with_reducible repeat first | apply S_alloc | apply S_drewN | apply S_drew); exact ac.out⟩, ⟨by (with_reducible repeat first | apply R_alloc | apply R_drewN | apply R_drew); exact ad.out⟩, ⟨by (with_reducible repeat first | apply blk_drewN | apply blk_drew | apply blk_alloc); exact am.out⟩, ⟨by (with_reducible repeat first | apply blk_drewN | apply blk_drew | apply blk_alloc); exact ah.out⟩, ⟨by (with_reducible repeat first | apply blk_drewN | apply blk_drew | apply blk_alloc); exact aj.out⟩, ⟨by repeat (first | (with_reducible first | exact HB.out | apply below_alloc | apply pw_below_drewN | apply below_drew1 | refine below_set ?_ aD.out | refine below_set ?_ aE.out | refine below_set ?_ aG.out) | exact HB.out)⟩⟩
    replace c42 := Bool.eq_false_iff.mpr c42
    subst c42
    have H1 : (wordbookref15_Build.l3 df l0 aJ aa ax aK aM aI ay 0 l0 ar aq ap ((rd_T106 ab aa).f0) ((rd_T106 ab aa).f1) ((rd_T106 ab aa).f2) ax ay (wrap64 (((rd_T106 ab aa).f2) + 1))) = some (r1, r2, r3, r4, r5) := by rw [if_neg (show ¬ (false = true) by decide)] at H; exact H
    clear H
    have H := H1
    clear H1
    have H' := Aside0.mk H
    clear H
    have hnb43 := bO.out
    have hnc43 := aY.out
    have hnb44 := bl.out
    have hnc44 := aX.out
    have cX : wc.cell? ⟨ag, 0, none⟩ = some (.int .i64 ((rd_T106 ab aa).f0)) := (blk_cell aj.out 0).trans rfl
    have cW : wc.cell? ⟨ag, 1, none⟩ = some (.int .i64 ((rd_T106 ab aa).f1)) := (blk_cell aj.out 1).trans rfl
    have cV : wc.cell? ⟨ag, 2, none⟩ = some (.int .i64 ((rd_T106 ab aa).f2)) := (blk_cell aj.out 2).trans rfl
    have cR := blk_frozen aj.out 0
    have cQ := blk_frozen aj.out 1
    have cP := blk_frozen aj.out 2
    go_wp2_with (first | ((with_reducible refine gate_dst (N := 14) rfl ?_); (try (refine gate_guard (by rfl) ?_; dsimp only)); refine box_event ?hg (N := 14) ?hd (cs := #[.int .i64 0, .int .i64 0, .int .i64 0]) (t := 106) ?hr ?_; (case hd => rfl); (case hg => rfl); (case hr => first | (go_simp; done) | (go_simp; rfl)); intro av hg w46 hbox hb; have aT := Aside0.mk (Kd.V_below (Kd.V_elderB (by (with_reducible repeat first | apply V_alloc | apply V_drewN | apply V_drew); exact aw.out) av (Nat.le_of_eq hg.symm)) hb); have aR := Aside0.mk (Kd.R_below (Kd.R_elderB (by (with_reducible repeat first | apply R_alloc | apply R_drewN | apply R_drew); exact aA.out) av (Nat.le_of_eq hg.symm)) hb); have aQ := Aside0.mk (Kd.R_below (by (with_reducible repeat first | apply R_alloc | apply R_drewN | apply R_drew); exact aC.out) hb); have aW := Aside0.mk (Kd.R_below (by (with_reducible repeat first | apply R_alloc | apply R_drewN | apply R_drew); exact au.out) hb); have aV := Aside0.mk (Kd.V_below (Kd.V_elderB (by (with_reducible repeat first | apply V_alloc | apply V_drewN | apply V_drew); exact ae.out) av (Nat.le_of_eq hg.symm)) hb); have bd := Aside0.mk (Kd.S_below (by (with_reducible repeat first | apply S_alloc | apply S_drewN | apply S_drew); exact af.out) hb); have bc := Aside0.mk (Kd.S_below (by (with_reducible repeat first | apply S_alloc | apply S_drewN | apply S_drew); exact ac.out) hb); have bb := Aside0.mk (Kd.R_below (by (with_reducible repeat first | apply R_alloc | apply R_drewN | apply R_drew); exact ad.out) hb); have bh := Aside0.mk (blk_below (g := ao) (o := .cells #[.slice none 0 0, .slice none 0 0, .slice none 0 0, .slice none 0 0] 32 (0, 0)) (by (with_reducible repeat first | apply blk_drewN | apply blk_drew | apply blk_alloc); exact am.out) hb); have bg := Aside0.mk (blk_below (g := an) (o := .cells #[.slice A0 l0.length c0, ak, ai, al] 32 (0, 0)) (by (with_reducible repeat first | apply blk_drewN | apply blk_drew | apply blk_alloc); exact ah.out) hb); have aN := Aside0.mk (blk_below (g := ag) (o := .cells #[.int .i64 ((rd_T106 ab aa).f0), .int .i64 ((rd_T106 ab aa).f1), .int .i64 ((rd_T106 ab aa).f2)] 106 (0, 0)) (by (with_reducible repeat first | apply blk_drewN | apply blk_drew | apply blk_alloc); exact aj.out) hb); have aU := Aside0.mk (below_step (by repeat (first | (with_reducible first | exact HB.out | apply below_alloc | apply pw_below_drewN | apply below_drew1 | refine below_set ?_ aD.out | refine below_set ?_ aE.out | refine below_set ?_ aG.out) | exact HB.out)) hb); have ba := Aside0.mk (hbox); have bD := Aside0.mk ((by rw [hg]; exact (below_size (by repeat (first | (with_reducible first | exact HB.out | apply below_alloc | apply pw_below_drewN | apply below_drew1 | refine below_set ?_ aD.out | refine below_set ?_ aE.out | refine below_set ?_ aG.out) | exact HB.out))) : w.heap.size ≤ av)); have de := Aside0.mk ((by rw [hg]; exact (below_size (by repeat (first | (with_reducible first | exact HB.out | apply below_alloc | apply pw_below_drewN | apply below_drew1 | refine below_set ?_ aD.out | refine below_set ?_ aE.out | refine below_set ?_ aG.out) | exact HB.out))) : w.heap.size ≤ av)); have dd := Aside0.mk ((by rw [hg]; exact Nat.ne_of_lt (blk_lt (g := ao) (o := .cells #[.slice none 0 0, .slice none 0 0, .slice none 0 0, .slice none 0 0] 32 (0, 0)) (by (with_reducible repeat first | apply blk_drewN | apply blk_drew | apply blk_alloc); exact am.out)) : ao ≠ av)); have dD := Aside0.mk ((by rw [hg]; exact Nat.ne_of_gt (blk_lt (g := ao) (o := .cells #[.slice none 0 0, .slice none 0 0, .slice none 0 0, .slice none 0 0] 32 (0, 0)) (by (with_reducible repeat first | apply blk_drewN | apply blk_drew | apply blk_alloc); exact am.out)) : av ≠ ao)); have dC := Aside0.mk ((by rw [hg]; exact Nat.ne_of_lt (blk_lt (g := an) (o := .cells #[.slice A0 l0.length c0, ak, ai, al] 32 (0, 0)) (by (with_reducible repeat first | apply blk_drewN | apply blk_drew | apply blk_alloc); exact ah.out)) : an ≠ av)); have dB := Aside0.mk ((by rw [hg]; exact Nat.ne_of_gt (blk_lt (g := an) (o := .cells #[.slice A0 l0.length c0, ak, ai, al] 32 (0, 0)) (by (with_reducible repeat first | apply blk_drewN | apply blk_drew | apply blk_alloc); exact ah.out)) : av ≠ an)); have dA := Aside0.mk ((by rw [hg]; exact Nat.ne_of_lt (blk_lt (g := ag) (o := .cells #[.int .i64 ((rd_T106 ab aa).f0), .int .i64 ((rd_T106 ab aa).f1), .int .i64 ((rd_T106 ab aa).f2)] 106 (0, 0)) (by (with_reducible repeat first | apply blk_drewN | apply blk_drew | apply blk_alloc); exact aj.out)) : ag ≠ av)); have dz := Aside0.mk ((by rw [hg]; exact Nat.ne_of_gt (blk_lt (g := ag) (o := .cells #[.int .i64 ((rd_T106 ab aa).f0), .int .i64 ((rd_T106 ab aa).f1), .int .i64 ((rd_T106 ab aa).f2)] 106 (0, 0)) (by (with_reducible repeat first | apply blk_drewN | apply blk_drew | apply blk_alloc); exact aj.out)) : av ≠ ag)); clear aw; clear aA; clear aC; clear au; clear ae; clear af; clear ac; clear ad; clear am; clear ah; clear aj; clear HB; have aw := aT; have aA := aR; have aC := aQ; have au := aW; have ae := aV; have af := bd; have ac := bc; have ad := bb; have am := bh; have ah := bg; have aj := aN; have HB := aU; have az := ba; have fs := bD; have be := de; have bq := dd; have cr := dD; have bp := dC; have cq := dB; have bo := dA; have cp := dz; clear aT aR aQ aW aV bd bc bb bh bg aN aU ba bD de dd dD dC dB dA dz; clear hb hbox hg; have hnb47 := cr.out; have hnc47 := bq.out; have hnb48 := cq.out; have hnc48 := bp.out; have hnb49 := cp.out; have hnc49 := bo.out; have cU : w46.cell? ⟨av, 0, none⟩ = some (.int .i64 0) := (blk_cell az.out 0).trans rfl; have cT : w46.cell? ⟨av, 1, none⟩ = some (.int .i64 0) := (blk_cell az.out 1).trans rfl; have cS : w46.cell? ⟨av, 2, none⟩ = some (.int .i64 0) := (blk_cell az.out 2).trans rfl; have cO := blk_frozen az.out 0; have cN := blk_frozen az.out 1; have cM := blk_frozen az.out 2))
    go_loopg [15] df (fun kq v15 w' => ∃ (aH : Int), v15 = .int .i64 aH ∧ Aside0 (wordbookref15_Build.l3 kq l0 aJ aa ax aK aM aI ay aH l0 ar aq ap ((rd_T106 ab aa).f0) ((rd_T106 ab aa).f1) ((rd_T106 ab aa).f2) ax ay (wrap64 (((rd_T106 ab aa).f2) + 1)) = some (r1, r2, r3, r4, r5)) ∧ Aside0 (kq ≤ df) ∧ Aside0 (Kd.V (Kd.slice 3 (Kd.int .i64)) 22 w' w.heap.size (fun k_ => (P0_ k_ ∨ w.heap.size ≤ k_) ∧ some k_ ≠ (u6 : Value).ownBlock ∧ some k_ ≠ (u11 : Value).ownBlock ∧ some k_ ≠ (u12 : Value).ownBlock ∧ some k_ ≠ (ak : Value).ownBlock ∧ some k_ ≠ (ai : Value).ownBlock ∧ some k_ ≠ (al : Value).ownBlock ∧ k_ ≠ ao ∧ k_ ≠ an ∧ k_ ≠ ag ∧ k_ ≠ av) (.slice A0 l0.length c0) l0) ∧ Aside0 (Kd.R k106 106 w' w.heap.size (fun k_ => (w.heap.size ≤ k_) ∧ k_ ≠ ag ∧ k_ ≠ av) u6 aJ) ∧ Aside0 (Kd.R (Kd.int .i64) 3 w' w.heap.size (fun k_ => (w.heap.size ≤ k_) ∧ some k_ ≠ (u12 : Value).ownBlock) u11 aM) ∧ Aside0 (Kd.R (Kd.int .i64) 3 w' w.heap.size (fun k_ => (w.heap.size ≤ k_) ∧ some k_ ≠ (u11 : Value).ownBlock) u12 aI) ∧ Aside0 (Kd.V (Kd.slice 3 (Kd.int .i64)) 22 w' w.heap.size (fun k_ => (P0_ k_ ∨ w.heap.size ≤ k_) ∧ some k_ ≠ (u6 : Value).ownBlock ∧ some k_ ≠ (u11 : Value).ownBlock ∧ some k_ ≠ (u12 : Value).ownBlock ∧ some k_ ≠ (ak : Value).ownBlock ∧ some k_ ≠ (ai : Value).ownBlock ∧ some k_ ≠ (al : Value).ownBlock ∧ k_ ≠ ao ∧ k_ ≠ an ∧ k_ ≠ ag ∧ k_ ≠ av) (.slice A0 l0.length c0) l0) ∧ Aside0 (Kd.S (Kd.slice 3 (Kd.int .i64)) 22 w' w.heap.size (fun k_ => (w.heap.size ≤ k_) ∧ some k_ ≠ (u11 : Value).ownBlock ∧ some k_ ≠ (u12 : Value).ownBlock ∧ some k_ ≠ (ai : Value).ownBlock) ak ar) ∧ Aside0 (Kd.S (Kd.slice 3 (Kd.int .i64)) 22 w' w.heap.size (fun k_ => (w.heap.size ≤ k_) ∧ some k_ ≠ (u11 : Value).ownBlock ∧ some k_ ≠ (u12 : Value).ownBlock ∧ some k_ ≠ (ak : Value).ownBlock) ai aq) ∧ Aside0 (Kd.R Kd.bool 4 w' w.heap.size (fun k_ => (w.heap.size ≤ k_)) al ap) ∧ Aside0 (w'.heap[ao]? = some (.cells #[(.slice none 0 0), (.slice none 0 0), (.slice none 0 0), (.slice none 0 0)] 32 (0, 0))) ∧ Aside0 (w'.heap[an]? = some (.cells #[(.slice A0 l0.length c0), ak, ai, al] 32 (0, 0))) ∧ Aside0 (w'.heap[ag]? = some (.cells #[.int .i64 ((rd_T106 ab aa).f0), .int .i64 ((rd_T106 ab aa).f1), .int .i64 ((rd_T106 ab aa).f2)] 106 (0, 0))) ∧ Aside0 (w'.heap[av]? = some (.cells #[.int .i64 ax, .int .i64 ay, .int .i64 (wrap64 (((rd_T106 ab aa).f2) + 1))] 106 (0, 0))) ∧ Aside0 (Below w.heap.size w w'))
    case atStart => exact ⟨(0), (by first | rfl | (simp; done) | (simp [*]; done)), H', ⟨Nat.le_refl _⟩, ⟨by (with_reducible repeat first | apply V_alloc | apply V_drewN | apply V_drew); exact Kd.V_mono (Kd.V_far (p := ⟨av, 2, none⟩) (Kd.V_far (p := ⟨av, 1, none⟩) (Kd.V_far (p := ⟨av, 0, none⟩) (Kd.V_mono aw.out (fun k_ hk => (⟨hk, hk.2⟩ : _ ∧ k_ ≠ av))) (fun _ hk => hk.2) (.int .i64 ax)) (fun _ hk => hk.2) (.int .i64 ay)) (fun _ hk => hk.2) (.int .i64 (wrap64 (((rd_T106 ab aa).f2) + 1)))) (fun _ hk => ⟨hk.1.1.1, ⟨hk.1.1.2.1, ⟨hk.1.1.2.2.1, ⟨hk.1.1.2.2.2.1, ⟨hk.1.1.2.2.2.2.1, ⟨hk.1.1.2.2.2.2.2.1, ⟨hk.1.1.2.2.2.2.2.2.1, ⟨hk.1.1.2.2.2.2.2.2.2.1, ⟨hk.1.1.2.2.2.2.2.2.2.2.1, ⟨hk.1.1.2.2.2.2.2.2.2.2.2, hk.1.2⟩⟩⟩⟩⟩⟩⟩⟩⟩⟩)⟩, ⟨by (with_reducible repeat first | apply R_alloc | apply R_drewN | apply R_drew); exact Kd.R_mono (Kd.R_far (p := ⟨av, 2, none⟩) (Kd.R_far (p := ⟨av, 1, none⟩) (Kd.R_far (p := ⟨av, 0, none⟩) (Kd.R_mono aA.out (fun k_ hk => (⟨hk, hk.2⟩ : _ ∧ k_ ≠ av))) (fun _ hk => hk.2) (.int .i64 ax)) (fun _ hk => hk.2) (.int .i64 ay)) (fun _ hk => hk.2) (.int .i64 (wrap64 (((rd_T106 ab aa).f2) + 1)))) (fun _ hk => ⟨hk.1.1.1, ⟨hk.1.1.2, hk.1.2⟩⟩)⟩, ⟨by (with_reducible repeat first | apply R_alloc | apply R_drewN | apply R_drew); exact Kd.R_mono (Kd.R_far (p := ⟨av, 2, none⟩) (Kd.R_far (p := ⟨av, 1, none⟩) (Kd.R_far (p := ⟨av, 0, none⟩) (Kd.R_types aC.out az.out (by decide)) (fun _ hk => hk.2) (.int .i64 ax)) (fun _ hk => hk.2) (.int .i64 ay)) (fun _ hk => hk.2) (.int .i64 (wrap64 (((rd_T106 ab aa).f2) + 1)))) (fun _ hk => ⟨hk.1.1, hk.1.2⟩)⟩, ⟨by (with_reducible repeat first | apply R_alloc | apply R_drewN | apply R_drew); exact Kd.R_mono (Kd.R_far (p := ⟨av, 2, none⟩) (Kd.R_far (p := ⟨av, 1, none⟩) (Kd.R_far (p := ⟨av, 0, none⟩) (Kd.R_types au.out az.out (by decide)) (fun _ hk => hk.2) (.int .i64 ax)) (fun _ hk => hk.2) (.int .i64 ay)) (fun _ hk => hk.2) (.int .i64 (wrap64 (((rd_T106 ab aa).f2) + 1)))) (fun _ hk => ⟨hk.1.1, hk.1.2⟩)⟩, ⟨by (with_reducible repeat first | apply V_alloc | apply V_drewN | apply V_drew); exact Kd.V_mono (Kd.V_far (p := ⟨av, 2, none⟩) (Kd.V_far (p := ⟨av, 1, none⟩) (Kd.V_far (p := ⟨av, 0, none⟩) (Kd.V_mono ae.out (fun k_ hk => (⟨hk, hk.2⟩ : _ ∧ k_ ≠ av))) (fun _ hk => hk.2) (.int .i64 ax)) (fun _ hk => hk.2) (.int .i64 ay)) (fun _ hk => hk.2) (.int .i64 (wrap64 (((rd_T106 ab aa).f2) + 1)))) (fun _ hk => ⟨hk.1.1.1, ⟨hk.1.1.2.1, ⟨hk.1.1.2.2.1, ⟨hk.1.1.2.2.2.1, ⟨hk.1.1.2.2.2.2.1, ⟨hk.1.1.2.2.2.2.2.1, ⟨hk.1.1.2.2.2.2.2.2.1, ⟨hk.1.1.2.2.2.2.2.2.2.1, ⟨hk.1.1.2.2.2.2.2.2.2.2.1, ⟨hk.1.1.2.2.2.2.2.2.2.2.2, hk.1.2⟩⟩⟩⟩⟩⟩⟩⟩⟩⟩)⟩, ⟨by (with_reducible repeat first | apply S_alloc | apply S_drewN | apply S_drew); exact Kd.S_mono (Kd.S_far (p := ⟨av, 2, none⟩) (Kd.S_far (p := ⟨av, 1, none⟩) (Kd.S_far (p := ⟨av, 0, none⟩) (Kd.S_types af.out az.out (by decide)) (fun _ hk => hk.2) (.int .i64 ax)) (fun _ hk => hk.2) (.int .i64 ay)) (fun _ hk => hk.2) (.int .i64 (wrap64 (((rd_T106 ab aa).f2) + 1)))) (fun _ hk => ⟨hk.1.1, ⟨hk.1.2.1, ⟨hk.1.2.2.1, hk.1.2.2.2⟩⟩⟩)⟩, ⟨by (with_reducible repeat first | apply S_alloc | apply S_drewN | apply S_drew); exact Kd.S_mono (Kd.S_far (p := ⟨av, 2, none⟩) (Kd.S_far (p := ⟨av, 1, none⟩) (Kd.S_far (p := ⟨av, 0, none⟩) (Kd.S_types ac.out az.out (by decide)) (fun _ hk => hk.2) (.int .i64 ax)) (fun _ hk => hk.2) (.int .i64 ay)) (fun _ hk => hk.2) (.int .i64 (wrap64 (((rd_T106 ab aa).f2) + 1)))) (fun _ hk => ⟨hk.1.1, ⟨hk.1.2.1, ⟨hk.1.2.2.1, hk.1.2.2.2⟩⟩⟩)⟩, ⟨by (with_reducible repeat first | apply R_alloc | apply R_drewN | apply R_drew); exact Kd.R_mono (Kd.R_far (p := ⟨av, 2, none⟩) (Kd.R_far (p := ⟨av, 1, none⟩) (Kd.R_far (p := ⟨av, 0, none⟩) (Kd.R_types ad.out az.out (by decide)) (fun _ hk => hk.2) (.int .i64 ax)) (fun _ hk => hk.2) (.int .i64 ay)) (fun _ hk => hk.2) (.int .i64 (wrap64 (((rd_T106 ab aa).f2) + 1)))) (fun _ hk => hk.1)⟩, ⟨by (with_reducible repeat first | apply blk_drewN | apply blk_drew | apply blk_alloc); refine blk_far ?_ bq.out _; (with_reducible repeat first | apply blk_drewN | apply blk_drew | apply blk_alloc); refine blk_far ?_ bq.out _; (with_reducible repeat first | apply blk_drewN | apply blk_drew | apply blk_alloc); refine blk_far ?_ bq.out _; (with_reducible repeat first | apply blk_drewN | apply blk_drew | apply blk_alloc); exact am.out⟩, ⟨by (with_reducible repeat first | apply blk_drewN | apply blk_drew | apply blk_alloc); refine blk_far ?_ bp.out _; (with_reducible repeat first | apply blk_drewN | apply blk_drew | apply blk_alloc); refine blk_far ?_ bp.out _; (with_reducible repeat first | apply blk_drewN | apply blk_drew | apply blk_alloc); refine blk_far ?_ bp.out _; (with_reducible repeat first | apply blk_drewN | apply blk_drew | apply blk_alloc); exact ah.out⟩, ⟨by (with_reducible repeat first | apply blk_drewN | apply blk_drew | apply blk_alloc); refine blk_far ?_ bo.out _; (with_reducible repeat first | apply blk_drewN | apply blk_drew | apply blk_alloc); refine blk_far ?_ bo.out _; (with_reducible repeat first | apply blk_drewN | apply blk_drew | apply blk_alloc); refine blk_far ?_ bo.out _; (with_reducible repeat first | apply blk_drewN | apply blk_drew | apply blk_alloc); exact aj.out⟩, ⟨by (with_reducible repeat first | apply blk_drewN | apply blk_drew | apply blk_alloc); refine blk_put (cs := #[.int .i64 ax, .int .i64 ay, .int .i64 0]) ?_ 2 _ rfl; (with_reducible repeat first | apply blk_drewN | apply blk_drew | apply blk_alloc); refine blk_put (cs := #[.int .i64 ax, .int .i64 0, .int .i64 0]) ?_ 1 _ rfl; (with_reducible repeat first | apply blk_drewN | apply blk_drew | apply blk_alloc); refine blk_put (cs := #[.int .i64 0, .int .i64 0, .int .i64 0]) ?_ 0 _ rfl; (with_reducible repeat first | apply blk_drewN | apply blk_drew | apply blk_alloc); exact az.out⟩, ⟨by repeat (first | (with_reducible first | exact HB.out | apply below_alloc | apply pw_below_drewN | apply below_drew1 | refine below_set ?_ aD.out | refine below_set ?_ aE.out | refine below_set ?_ aG.out | refine below_set ?_ be.out) | exact HB.out)⟩⟩
    clear H'
    (try clear c1); (try clear p1); (try clear q1); (try clear hx1); (try clear c2); (try clear p2); (try clear c3); (try clear cC); (try clear cB); (try clear c4); (try clear c6); (try clear p6); (try clear c7); (try clear c10); (try clear bV); (try clear p10); (try clear q10); (try clear hx10); (try clear c11); (try clear cj); (try clear p11); (try clear q11); (try clear hx11); (try clear c12); (try clear p12); (try clear q12); (try clear hx12); (try clear c15); (try clear c16); (try clear c18); (try clear bB); (try clear c19); (try clear ci); (try clear c20); (try clear ch); (try clear c26); (try clear c27); (try clear cG); (try clear c28); (try clear c29); (try clear c32); (try clear bU); (try clear c33); (try clear dn); (try clear c34); (try clear dm); (try clear c35); (try clear dl); (try clear c36); (try clear dk); (try clear c37); (try clear dj); (try clear c38); (try clear di); (try clear c39); (try clear dh); (try clear c42); (try clear c43); (try clear c44); (try clear c47); (try clear c48); (try clear c49); (try clear bA); (try clear bz); (try clear bx); (try clear cd); (try clear cc); (try clear cb); (try clear cX); (try clear cW); (try clear cV); (try clear cU); (try clear cT); (try clear cS); (try clear bL); (try clear bK); (try clear bJ); (try clear bI); (try clear bw); (try clear bv); (try clear bu); (try clear ca); (try clear bZ); (try clear bY); (try clear cR); (try clear cQ); (try clear cP); (try clear cO); (try clear cN); (try clear cM); (try clear bH); (try clear bG); (try clear bF); (try clear bE); (try clear bt); (try clear bs); (try clear br); (try clear bk); (try clear bN); (try clear bR); (try clear bM); (try clear bQ); (try clear p1); (try clear p10); (try clear p107); (try clear p109); (try clear p11); (try clear p119); (try clear p12); (try clear p120); (try clear p121); (try clear p122); (try clear p2); (try clear p6); (try clear q1); (try clear q10); (try clear q107); (try clear q109); (try clear q11); (try clear q119); (try clear q12); (try clear q120); (try clear q121); (try clear q122)
    obtain ⟨aH, rfl, HA, dr, aw, aA, aC, au, ae, af, ac, ad, am, ah, aj, az, HB⟩ := hrel
    cases gk with
    | zero => exact absurd HA.out (by simp [wordbookref15_Build.l3])
    | succ k7 => ?_
    have H := HA.out
    clear HA
    simp only [wordbookref15_Build.l3] at H
    have HC51 := Aside0.mk H
    clear H
    go_upto_region 22 with (fail)
    go_cut [106] (fun v106 wc => ∃ (kq : Nat) (bX : Bool), v106 = .bool bX ∧ Aside0 (wordbookref15_Build.j7 kq l0 aJ aa ax aK aM aI ay aH bX l0 ar aq ap ((rd_T106 ab aa).f0) ((rd_T106 ab aa).f1) ((rd_T106 ab aa).f2) ax ay (wrap64 (((rd_T106 ab aa).f2) + 1)) = some (r1, r2, r3, r4, r5)) ∧ Aside0 (kq ≤ k7) ∧ Aside0 (Kd.V (Kd.slice 3 (Kd.int .i64)) 22 wc w.heap.size (fun k_ => (P0_ k_ ∨ w.heap.size ≤ k_) ∧ some k_ ≠ (u6 : Value).ownBlock ∧ some k_ ≠ (u11 : Value).ownBlock ∧ some k_ ≠ (u12 : Value).ownBlock ∧ some k_ ≠ (ak : Value).ownBlock ∧ some k_ ≠ (ai : Value).ownBlock ∧ some k_ ≠ (al : Value).ownBlock ∧ k_ ≠ ao ∧ k_ ≠ an ∧ k_ ≠ ag ∧ k_ ≠ av) (.slice A0 l0.length c0) l0) ∧ Aside0 (Kd.R k106 106 wc w.heap.size (fun k_ => (w.heap.size ≤ k_) ∧ k_ ≠ ag ∧ k_ ≠ av) u6 aJ) ∧ Aside0 (Kd.R (Kd.int .i64) 3 wc w.heap.size (fun k_ => (w.heap.size ≤ k_) ∧ some k_ ≠ (u12 : Value).ownBlock) u11 aM) ∧ Aside0 (Kd.R (Kd.int .i64) 3 wc w.heap.size (fun k_ => (w.heap.size ≤ k_) ∧ some k_ ≠ (u11 : Value).ownBlock) u12 aI) ∧ Aside0 (Kd.V (Kd.slice 3 (Kd.int .i64)) 22 wc w.heap.size (fun k_ => (P0_ k_ ∨ w.heap.size ≤ k_) ∧ some k_ ≠ (u6 : Value).ownBlock ∧ some k_ ≠ (u11 : Value).ownBlock ∧ some k_ ≠ (u12 : Value).ownBlock ∧ some k_ ≠ (ak : Value).ownBlock ∧ some k_ ≠ (ai : Value).ownBlock ∧ some k_ ≠ (al : Value).ownBlock ∧ k_ ≠ ao ∧ k_ ≠ an ∧ k_ ≠ ag ∧ k_ ≠ av) (.slice A0 l0.length c0) l0) ∧ Aside0 (Kd.S (Kd.slice 3 (Kd.int .i64)) 22 wc w.heap.size (fun k_ => (w.heap.size ≤ k_) ∧ some k_ ≠ (u11 : Value).ownBlock ∧ some k_ ≠ (u12 : Value).ownBlock ∧ some k_ ≠ (ai : Value).ownBlock) ak ar) ∧ Aside0 (Kd.S (Kd.slice 3 (Kd.int .i64)) 22 wc w.heap.size (fun k_ => (w.heap.size ≤ k_) ∧ some k_ ≠ (u11 : Value).ownBlock ∧ some k_ ≠ (u12 : Value).ownBlock ∧ some k_ ≠ (ak : Value).ownBlock) ai aq) ∧ Aside0 (Kd.R Kd.bool 4 wc w.heap.size (fun k_ => (w.heap.size ≤ k_)) al ap) ∧ Aside0 (wc.heap[ao]? = some (.cells #[(.slice none 0 0), (.slice none 0 0), (.slice none 0 0), (.slice none 0 0)] 32 (0, 0))) ∧ Aside0 (wc.heap[an]? = some (.cells #[(.slice A0 l0.length c0), ak, ai, al] 32 (0, 0))) ∧ Aside0 (wc.heap[ag]? = some (.cells #[.int .i64 ((rd_T106 ab aa).f0), .int .i64 ((rd_T106 ab aa).f1), .int .i64 ((rd_T106 ab aa).f2)] 106 (0, 0))) ∧ Aside0 (wc.heap[av]? = some (.cells #[.int .i64 ax, .int .i64 ay, .int .i64 (wrap64 (((rd_T106 ab aa).f2) + 1))] 106 (0, 0))) ∧ Aside0 (Below w.heap.size w wc))
    case first =>
     have H := HC51.out
     clear HC51
     by_cases c52 : aH < (aJ.length : Int)
     ·
      rw [if_pos c52] at H
      have co : decide (aH < (aJ.length : Int)) = true := decide_eq_true c52
      clear c52
      (first | rw [co] | (simp only [i64_w, i32_w]; rw [co]) | skip)
      have c53 : 0 ≤ aH := Classical.byContradiction fun c_ => by rw [if_neg c_] at H; exact absurd H (by simp)
      rw [if_pos c53] at H
      have eD : decide (0 ≤ aH) = true := decide_eq_true c53
      clear c53
      replace H := Option.bind_eq_some_iff.mp H
      obtain ⟨t125, A540, H⟩ := H
      replace H : (wordbookref15_Build.j7 k7 l0 aJ aa ax aK aM aI ay aH (!t125) l0 ar aq ap ((rd_T106 ab aa).f0) ((rd_T106 ab aa).f1) ((rd_T106 ab aa).f2) ax ay (wrap64 (((rd_T106 ab aa).f2) + 1))) = some (r1, r2, r3, r4, r5) := H
      have A54 := Aside0.mk A540
      clear A540
      have H' := Aside0.mk H
      clear H
      try go_wp2
      have aT := Aside0.mk (Kd.V_drew aw.out)
      have aR := Aside0.mk (Kd.R_drew aA.out)
      have aQ := Aside0.mk (Kd.R_drew aC.out)
      have aW := Aside0.mk (Kd.R_drew au.out)
      have aV := Aside0.mk (Kd.V_drew ae.out)
      have bd := Aside0.mk (Kd.S_drew af.out)
      have bc := Aside0.mk (Kd.S_drew ac.out)
      have bb := Aside0.mk (Kd.R_drew ad.out)
      have bh := Aside0.mk (blk_drew am.out)
      have bg := Aside0.mk (blk_drew ah.out)
      have aN := Aside0.mk (blk_drew aj.out)
      have aU := Aside0.mk (blk_drew az.out)
      have ba := Aside0.mk (below_drew1 HB.out)
      clear aw
      clear aA
      clear aC
      clear au
      clear ae
      clear af
      clear ac
      clear ad
      clear am
      clear ah
      clear aj
      clear az
      clear HB
      have aw := aT
      have aA := aR
      have aC := aQ
      have au := aW
      have ae := aV
      have af := bd
      have ac := bc
      have ad := bb
      have am := bh
      have ah := bg
      have aj := aN
      have az := aU
      have HB := ba
      clear aT aR aQ aW aV bd bc bb bh bg aN aU ba
      obtain ⟨fz, fx, eo56⟩ := Kd.R_slice aA.out
      (first | subst eo56 | (injection eo56 with f1_ f2_ f3_; have f4_ := f1_.symm; have f5_ := f3_.symm; clear f1_ f2_ f3_; subst f4_; subst f5_))
      have p124 : 0 ≤ (aH : Int) := of_decide_eq_true (by first | (with_reducible assumption) | assumption)
      have q124 : aH < (aJ.length : Int) := of_decide_eq_true (by first | (with_reducible assumption) | assumption)
      obtain ⟨ad124, e124, cA, cz, cy⟩ := at_T106 (Kd.R_reads' aA.out).2.2 aH p124 q124
      cases e124
      replace p124 := eq_true p124
      replace q124 := eq_true q124
      refine start_ (n := 14) (S := fun w' => w'.cell? ⟨av, 0, none⟩ = some (.int .i64 ax) ∧ w'.cell? ⟨av, 1, none⟩ = some (.int .i64 ay) ∧ w'.cell? ⟨av, 2, none⟩ = some (.int .i64 (wrap64 (((rd_T106 ab aa).f2) + 1))) ∧ w'.cell? (ad124.add ((aH).toNat * 3)) = some (.int .i64 ((rd_T106 aJ aH).f0)) ∧ w'.cell? ⟨(ad124.add ((aH).toNat * 3)).block, (ad124.add ((aH).toNat * 3)).off + 1, none⟩ = some (.int .i64 ((rd_T106 aJ aH).f1)) ∧ w'.cell? ⟨(ad124.add ((aH).toNat * 3)).block, (ad124.add ((aH).toNat * 3)).off + 2, none⟩ = some (.int .i64 ((rd_T106 aJ aH).f2))) (ds := []) #[false, false, false, false, false, false, false, false, false, false, false, false, false, false] (by kernel_rfl) rfl rfl ⟨(blk_cell az.out 0).trans rfl, (blk_cell az.out 1).trans rfl, (blk_cell az.out 2).trans rfl, cA, cz, cy⟩ (fun hHeld => ?_); refine with_tabW wordbookref15_Build.tab22 wordbookref15_Build.bits22 (fun HT_ HW_ => ?_)
      generalize wr.drew = w55 at aw aA aC au ae af ac ad am ah aj az HB cA cz cy hHeld ⊢
      refine pure_ (i := 0) (N := some 93) (v := ?_) (a' := ?_) #[true, false, false, false, false, false, false, false, false, false, false, false, false, false] rfl rfl (any_of HT_.out (by kernel_rfl)) (fun _ _ _ h => h) (Or.inl ⟨by rfl, ?_⟩) ?_ ?_
      rotate_left
      ·
       intro w'
       go_simp
       with_reducible rfl
      rotate_left
      ·
       simp only [Act.put, setIfInBounds_toArray, set_cons_zero, set_cons_succ, i64_w, i32_w]
       rfl
      refine pure_ (i := 1) (N := some 94) (v := ?_) (a' := ?_) #[true, true, false, false, false, false, false, false, false, false, false, false, false, false] rfl rfl (any_of HT_.out (by kernel_rfl)) (fun _ _ _ h => h) (Or.inl ⟨by rfl, ?_⟩) ?_ ?_
      rotate_left
      ·
       intro w'
       go_simp
       with_reducible rfl
      rotate_left
      ·
       simp only [Act.put, setIfInBounds_toArray, set_cons_zero, set_cons_succ, i64_w, i32_w]
       rfl
      refine pure_ (i := 2) (N := some 95) (v := ?_) (a' := ?_) #[true, true, true, false, false, false, false, false, false, false, false, false, false, false] rfl rfl (any_of HT_.out (by kernel_rfl)) (fun _ _ _ h => h) (Or.inl ⟨by rfl, ?_⟩) ?_ ?_
      rotate_left
      ·
       intro w'
       go_simp
       with_reducible rfl
      rotate_left
      ·
       simp only [Act.put, setIfInBounds_toArray, set_cons_zero, set_cons_succ, i64_w, i32_w]
       rfl
      refine pure_ (i := 3) (N := some 96) (v := ?_) (a' := ?_) #[true, true, true, true, false, false, false, false, false, false, false, false, false, false] rfl rfl (any_of HT_.out (by kernel_rfl)) (fun _ _ _ h => h) (Or.inl ⟨by rfl, ?_⟩) ?_ ?_
      rotate_left
      ·
       intro w'
       go_simp
       with_reducible rfl
      rotate_left
      ·
       simp only [Act.put, setIfInBounds_toArray, set_cons_zero, set_cons_succ, i64_w, i32_w]
       rfl
      refine pure_ (i := 4) (N := some 97) (v := ?_) (a' := ?_) #[true, true, true, true, true, false, false, false, false, false, false, false, false, false] rfl rfl (any_of HT_.out (by kernel_rfl)) (fun _ _ _ h => h) (Or.inl ⟨by rfl, ?_⟩) ?_ ?_
      rotate_left
      ·
       intro w'
       go_simp
       with_reducible rfl
      rotate_left
      ·
       simp only [Act.put, setIfInBounds_toArray, set_cons_zero, set_cons_succ, i64_w, i32_w]
       rfl
      refine pure_ (i := 5) (N := some 98) (v := ?_) (a' := ?_) #[true, true, true, true, true, true, false, false, false, false, false, false, false, false] rfl rfl (any_of HT_.out (by kernel_rfl)) (fun _ _ _ h => h) (Or.inl ⟨by rfl, ?_⟩) ?_ ?_
      rotate_left
      ·
       intro w'
       go_simp
       with_reducible rfl
      rotate_left
      ·
       simp only [Act.put, setIfInBounds_toArray, set_cons_zero, set_cons_succ, i64_w, i32_w]
       rfl
      refine pure_ (i := 6) (N := some 99) (v := ?_) (a' := ?_) #[true, true, true, true, true, true, true, false, false, false, false, false, false, false] rfl rfl (any_of HT_.out (by kernel_rfl)) (fun _ _ _ h => h) (Or.inl ⟨by rfl, ?_⟩) ?_ ?_
      rotate_left
      ·
       intro w'
       go_simp
       with_reducible rfl
      rotate_left
      ·
       simp only [Act.put, setIfInBounds_toArray, set_cons_zero, set_cons_succ, i64_w, i32_w]
       rfl
      refine pure_ (i := 7) (N := some 100) (v := ?_) (a' := ?_) #[true, true, true, true, true, true, true, true, false, false, false, false, false, false] rfl rfl (any_of HT_.out (by kernel_rfl)) (fun _ _ _ h => h) (Or.inl ⟨by rfl, ?_⟩) ?_ ?_
      rotate_left
      ·
       intro w'
       go_simp
       with_reducible rfl
      rotate_left
      ·
       simp only [Act.put, setIfInBounds_toArray, set_cons_zero, set_cons_succ, i64_w, i32_w]
       rfl
      refine pure_ (i := 8) (N := some 101) (v := ?_) (a' := ?_) #[true, true, true, true, true, true, true, true, true, false, false, false, false, false] rfl rfl (any_of HT_.out (by kernel_rfl)) (fun _ _ _ h => h) (Or.inl ⟨by rfl, ?_⟩) ?_ ?_
      rotate_left
      ·
       intro w'
       go_simp
       with_reducible rfl
      rotate_left
      ·
       simp only [Act.put, setIfInBounds_toArray, set_cons_zero, set_cons_succ, i64_w, i32_w]
       rfl
      refine take_ (i := 9) (N := some 102) (v := ?_) (a' := ?_) #[true, true, true, true, true, true, true, true, true, true, false, false, false, false] rfl rfl (take_ofW HT_.out HW_.out (by kernel_rfl)) (fun _ _ _ h => h) (Or.inl ⟨by rfl, ?_⟩) hHeld ?_ ?_
      rotate_left
      ·
       rintro w' ⟨s0, s1, s2, s3, s4, s5⟩
       go_simp
       with_reducible rfl
      rotate_left
      ·
       simp only [Act.put, setIfInBounds_toArray, set_cons_zero, set_cons_succ, i64_w, i32_w]
       rfl
      refine take_ (i := 10) (N := some 103) (v := ?_) (a' := ?_) #[true, true, true, true, true, true, true, true, true, true, true, false, false, false] rfl rfl (take_ofW HT_.out HW_.out (by kernel_rfl)) (fun _ _ _ h => h) (Or.inl ⟨by rfl, ?_⟩) hHeld ?_ ?_
      rotate_left
      ·
       rintro w' ⟨s0, s1, s2, s3, s4, s5⟩
       go_simp
       with_reducible rfl
      rotate_left
      ·
       simp only [Act.put, setIfInBounds_toArray, set_cons_zero, set_cons_succ, i64_w, i32_w]
       rfl
      refine one_ (i := 11) (N := some 104) #[true, true, true, true, true, true, true, true, true, true, true, true, false, false] rfl rfl (one_of HT_.out (by kernel_rfl)) (by decide) (fun K hK => ?_)
      refine goes_ Try.func71 (by kernel_rfl) rfl #[.slice A0 l0.length c0, .agg #[.int .i64 ((rd_T106 aJ aH).f0), .int .i64 ((rd_T106 aJ aH).f1), .int .i64 ((rd_T106 aJ aH).f2)], .agg #[.int .i64 ax, .int .i64 ay, .int .i64 (wrap64 (((rd_T106 ab aa).f2) + 1))]] (by rfl) rfl rfl (by (try simp only [List.map_toArray, List.map_cons, List.map_nil]); first | done | rfl | (simp only [List.length_drop, List.length_take]; rfl)) ?_
      with_reducible refine (wordbookref15_same.calls _ _ l0 ((rd_T106 aJ aH).f0) ((rd_T106 aJ aH).f1) ((rd_T106 aJ aH).f2) ax ay (wrap64 (((rd_T106 ab aa).f2) + 1)) t125 _ ?side1 ?side2 A54.out).mono ?_
      (case side1 => repeat (first | exact (Kd.V_reads' aw.out).2.2 | (with_reducible refine Kd.C_alloc ?_ _) | (with_reducible refine Kd.C_drewN ?_ _) | (with_reducible refine Kd.C_drew ?_)))
      (case side2 => exact (Kd.V_reads' aw.out).2.1)
      rintro e w57 ⟨rfl, hb⟩
      have HS3_ := (hb.cell (World.block_lt_of_cell? _ _ (hHeld.2.2.2.1))).trans (hHeld.2.2.2.1)
      have HS4_ := (hb.cell (World.block_lt_of_cell? _ _ (hHeld.2.2.2.2.1))).trans (hHeld.2.2.2.2.1)
      have HS5_ := (hb.cell (World.block_lt_of_cell? _ _ (hHeld.2.2.2.2.2))).trans (hHeld.2.2.2.2.2)
      refine ⟨_, rfl, ?_⟩
      have aT := Aside0.mk (Kd.V_below (by (with_reducible repeat first | apply V_alloc | apply V_drewN | apply V_drew); exact aw.out) hb)
      have aR := Aside0.mk (Kd.R_below (by (with_reducible repeat first | apply R_alloc | apply R_drewN | apply R_drew); exact aA.out) hb)
      have aQ := Aside0.mk (Kd.R_below (by (with_reducible repeat first | apply R_alloc | apply R_drewN | apply R_drew); exact aC.out) hb)
      have aW := Aside0.mk (Kd.R_below (by (with_reducible repeat first | apply R_alloc | apply R_drewN | apply R_drew); exact au.out) hb)
      have aV := Aside0.mk (Kd.V_below (by (with_reducible repeat first | apply V_alloc | apply V_drewN | apply V_drew); exact ae.out) hb)
      have bd := Aside0.mk (Kd.S_below (by (with_reducible repeat first | apply S_alloc | apply S_drewN | apply S_drew); exact af.out) hb)
      have bc := Aside0.mk (Kd.S_below (by (with_reducible repeat first | apply S_alloc | apply S_drewN | apply S_drew); exact ac.out) hb)
      have bb := Aside0.mk (Kd.R_below (by (with_reducible repeat first | apply R_alloc | apply R_drewN | apply R_drew); exact ad.out) hb)
      have bh := Aside0.mk (blk_below (g := ao) (o := .cells #[.slice none 0 0, .slice none 0 0, .slice none 0 0, .slice none 0 0] 32 (0, 0)) (by (with_reducible repeat first | apply blk_drewN | apply blk_drew | apply blk_alloc); exact am.out) hb)
      have bg := Aside0.mk (blk_below (g := an) (o := .cells #[.slice A0 l0.length c0, ak, ai, al] 32 (0, 0)) (by (with_reducible repeat first | apply blk_drewN | apply blk_drew | apply blk_alloc); exact ah.out) hb)
      have aN := Aside0.mk (blk_below (g := ag) (o := .cells #[.int .i64 ((rd_T106 ab aa).f0), .int .i64 ((rd_T106 ab aa).f1), .int .i64 ((rd_T106 ab aa).f2)] 106 (0, 0)) (by (with_reducible repeat first | apply blk_drewN | apply blk_drew | apply blk_alloc); exact aj.out) hb)
      have aU := Aside0.mk (blk_below (g := av) (o := .cells #[.int .i64 ax, .int .i64 ay, .int .i64 (wrap64 (((rd_T106 ab aa).f2) + 1))] 106 (0, 0)) (by (with_reducible repeat first | apply blk_drewN | apply blk_drew | apply blk_alloc); exact az.out) hb)
      have ba := Aside0.mk (below_step (by repeat (first | (with_reducible first | exact HB.out | apply below_alloc | apply pw_below_drewN | apply below_drew1 | refine below_set ?_ aD.out | refine below_set ?_ aE.out | refine below_set ?_ aG.out | refine below_set ?_ be.out) | exact HB.out)) hb)
      clear aw
      clear aA
      clear aC
      clear au
      clear ae
      clear af
      clear ac
      clear ad
      clear am
      clear ah
      clear aj
      clear az
      clear HB
      have aw := aT
      have aA := aR
      have aC := aQ
      have au := aW
      have ae := aV
      have af := bd
      have ac := bc
      have ad := bb
      have am := bh
      have ah := bg
      have aj := aN
      have az := aU
      have HB := ba
      clear aT aR aQ aW aV bd bc bb bh bg aN aU ba
      (try clear hb)
      (try clear hb2)
      (try clear hk)
      (try clear hi)
      refine hK.out _ _ ⟨(blk_cell az.out 0).trans rfl, (blk_cell az.out 1).trans rfl, (blk_cell az.out 2).trans rfl, HS3_, HS4_, HS5_⟩ (fun hHeld => ?_)
      clear hK K
      refine norm_ (a' := ?_) ?_ ?_
      rotate_left
      ·
       show Act.put _ (some 104) _ = _
       simp only [Act.put, setIfInBounds_toArray, set_cons_zero, set_cons_succ, i64_w, i32_w]
       rfl
      refine pure_ (i := 12) (N := some 105) (v := ?_) (a' := ?_) #[true, true, true, true, true, true, true, true, true, true, true, true, true, false] rfl rfl (any_of HT_.out (by kernel_rfl)) (fun _ _ _ h => h) (Or.inl ⟨by rfl, ?_⟩) ?_ ?_
      rotate_left
      ·
       intro w'
       go_simp
       with_reducible rfl
      rotate_left
      ·
       simp only [Act.put, setIfInBounds_toArray, set_cons_zero, set_cons_succ, i64_w, i32_w]
       rfl
      refine pure_ (i := 13) (N := some 106) (v := ?_) (a' := ?_) #[true, true, true, true, true, true, true, true, true, true, true, true, true, true] rfl rfl (any_of HT_.out (by kernel_rfl)) (fun _ _ _ h => h) (Or.inl ⟨by rfl, ?_⟩) ?_ ?_
      rotate_left
      ·
       intro w'
       go_simp
       with_reducible rfl
      rotate_left
      ·
       simp only [Act.put, setIfInBounds_toArray, set_cons_zero, set_cons_succ, i64_w, i32_w]
       rfl
      refine done_ (done_of HT_.out (by kernel_rfl)) ?_
      try go_wp2
      go_meet
      case rel => exact ⟨_, (!t125), (by first | rfl | (simp; done) | (simp [*]; done)), H', ⟨by have := cD.out; have := bP.out; have := bS.out; have := cY.out; have := dc.out; have := cm.out; have := dr.out; first | omega | exact Nat.le_refl _⟩, ⟨by (with_reducible repeat first | apply V_alloc | apply V_drewN | apply V_drew); exact aw.out⟩, ⟨by (with_reducible repeat first | apply R_alloc | apply R_drewN | apply R_drew); exact aA.out⟩, ⟨by (with_reducible repeat first | apply R_alloc | apply R_drewN | apply R_drew); exact aC.out⟩, ⟨by (with_reducible repeat first | apply R_alloc | apply R_drewN | apply R_drew); exact au.out⟩, ⟨by (with_reducible repeat first | apply V_alloc | apply V_drewN | apply V_drew); exact ae.out⟩, ⟨by (with_reducible repeat first | apply S_alloc | apply S_drewN | apply S_drew); exact af.out⟩, ⟨by (with_reducible repeat first | apply S_alloc | apply S_drewN | apply S_drew); exact ac.out⟩, ⟨by (with_reducible repeat first | apply R_alloc | apply R_drewN | apply R_drew); exact ad.out⟩, ⟨by (with_reducible repeat first | apply blk_drewN | apply blk_drew | apply blk_alloc); exact am.out⟩, ⟨by (with_reducible repeat first | apply blk_drewN | apply blk_drew | apply blk_alloc); exact ah.out⟩, ⟨by (with_reducible repeat first | apply blk_drewN | apply blk_drew | apply blk_alloc); exact aj.out⟩, ⟨by (with_reducible repeat first | apply blk_drewN | apply blk_drew | apply blk_alloc); exact az.out⟩, ⟨by repeat (first | (with_reducible first | exact HB.out | apply below_alloc | apply pw_below_drewN | apply below_drew1 | refine below_set ?_ aD.out | refine below_set ?_ aE.out | refine below_set ?_ aG.out | refine below_set ?_ be.out) | exact HB.out)⟩⟩
     rw [if_neg c52] at H
     have co : decide (aH < (aJ.length : Int)) = false := decide_eq_false c52
     clear c52
     (first | rw [co] | (simp only [i64_w, i32_w]; rw [co]) | skip)
     have H' := Aside0.mk H
     clear H
     try go_wp2
     have aT := Aside0.mk (Kd.V_drew aw.out)
     have aR := Aside0.mk (Kd.R_drew aA.out)
     have aQ := Aside0.mk (Kd.R_drew aC.out)
     have aW := Aside0.mk (Kd.R_drew au.out)
     have aV := Aside0.mk (Kd.V_drew ae.out)
     have bd := Aside0.mk (Kd.S_drew af.out)
     have bc := Aside0.mk (Kd.S_drew ac.out)
     have bb := Aside0.mk (Kd.R_drew ad.out)
     have bh := Aside0.mk (blk_drew am.out)
     have bg := Aside0.mk (blk_drew ah.out)
     have aN := Aside0.mk (blk_drew aj.out)
     have aU := Aside0.mk (blk_drew az.out)
     have ba := Aside0.mk (below_drew1 HB.out)
     clear aw
     clear aA
     clear aC
     clear au
     clear ae
     clear af
     clear ac
     clear ad
     clear am
     clear ah
     clear aj
     clear az
     clear HB
     have aw := aT
     have aA := aR
     have aC := aQ
     have au := aW
     have ae := aV
     have af := bd
     have ac := bc
     have ad := bb
     have am := bh
     have ah := bg
     have aj := aN
     have az := aU
     have HB := ba
     clear aT aR aQ aW aV bd bc bb bh bg aN aU ba
     obtain ⟨fy, fw, eo59⟩ := Kd.R_slice aA.out
     (first | subst eo59 | (injection eo59 with f1_ f2_ f3_; have f4_ := f1_.symm; have f5_ := f3_.symm; clear f1_ f2_ f3_; subst f4_; subst f5_))
     refine start_ (n := 14) (S := fun w' => True) (ds := []) #[false, false, false, false, false, false, false, false, false, false, false, false, false, false] (by kernel_rfl) rfl rfl trivial (fun hHeld => ?_); refine with_tabW wordbookref15_Build.tab22 wordbookref15_Build.bits22 (fun HT_ HW_ => ?_)
     generalize wr.drew = w58 at aw aA aC au ae af ac ad am ah aj az HB hHeld ⊢
     refine pure_ (i := 0) (N := some 93) (v := ?_) (a' := ?_) #[true, false, false, false, false, false, false, false, false, false, false, false, false, false] rfl rfl (any_of HT_.out (by kernel_rfl)) (fun _ _ _ h => h) (Or.inl ⟨by rfl, ?_⟩) ?_ ?_
     rotate_left
     ·
      intro w'
      go_simp
      with_reducible rfl
     rotate_left
     ·
      simp only [Act.put, setIfInBounds_toArray, set_cons_zero, set_cons_succ, i64_w, i32_w]
      rfl
     refine pure_ (i := 1) (N := some 94) (v := ?_) (a' := ?_) #[true, true, false, false, false, false, false, false, false, false, false, false, false, false] rfl rfl (any_of HT_.out (by kernel_rfl)) (fun _ _ _ h => h) (Or.inl ⟨by rfl, ?_⟩) ?_ ?_
     rotate_left
     ·
      intro w'
      go_simp
      with_reducible rfl
     rotate_left
     ·
      simp only [Act.put, setIfInBounds_toArray, set_cons_zero, set_cons_succ, i64_w, i32_w]
      rfl
     refine pure_ (i := 2) (N := some 95) (v := ?_) (a' := ?_) #[true, true, true, false, false, false, false, false, false, false, false, false, false, false] rfl rfl (any_of HT_.out (by kernel_rfl)) (fun _ _ _ h => h) (Or.inl ⟨by rfl, ?_⟩) ?_ ?_
     rotate_left
     ·
      intro w'
      go_simp
      with_reducible rfl
     rotate_left
     ·
      simp only [Act.put, setIfInBounds_toArray, set_cons_zero, set_cons_succ, i64_w, i32_w]
      rfl
     refine pure_ (i := 3) (N := some 96) (v := ?_) (a' := ?_) #[true, true, true, true, false, false, false, false, false, false, false, false, false, false] rfl rfl (any_of HT_.out (by kernel_rfl)) (fun _ _ _ h => h) (Or.inl ⟨by rfl, ?_⟩) ?_ ?_
     rotate_left
     ·
      intro w'
      go_simp
      with_reducible rfl
     rotate_left
     ·
      simp only [Act.put, setIfInBounds_toArray, set_cons_zero, set_cons_succ, i64_w, i32_w]
      rfl
     refine pure_ (i := 4) (N := some 97) (v := ?_) (a' := ?_) #[true, true, true, true, true, false, false, false, false, false, false, false, false, false] rfl rfl (any_of HT_.out (by kernel_rfl)) (fun _ _ _ h => h) (Or.inl ⟨by rfl, ?_⟩) ?_ ?_
     rotate_left
     ·
      intro w'
      go_simp
      with_reducible rfl
     rotate_left
     ·
      simp only [Act.put, setIfInBounds_toArray, set_cons_zero, set_cons_succ, i64_w, i32_w]
      rfl
     refine pure_ (i := 5) (N := some 98) (v := undef) (a' := ?_) #[true, true, true, true, true, true, false, false, false, false, false, false, false, false] rfl rfl (any_of HT_.out (by kernel_rfl)) (fun _ _ _ h => h) (Or.inr ⟨by rfl, rfl⟩) ?_ ?_
     rotate_left
     ·
      simp only [Act.put, setIfInBounds_toArray, set_cons_zero, set_cons_succ, i64_w, i32_w]
      rfl
     refine pure_ (i := 6) (N := some 99) (v := undef) (a' := ?_) #[true, true, true, true, true, true, true, false, false, false, false, false, false, false] rfl rfl (any_of HT_.out (by kernel_rfl)) (fun _ _ _ h => h) (Or.inr ⟨by rfl, rfl⟩) ?_ ?_
     rotate_left
     ·
      simp only [Act.put, setIfInBounds_toArray, set_cons_zero, set_cons_succ, i64_w, i32_w]
      rfl
     refine pure_ (i := 7) (N := some 100) (v := undef) (a' := ?_) #[true, true, true, true, true, true, true, true, false, false, false, false, false, false] rfl rfl (any_of HT_.out (by kernel_rfl)) (fun _ _ _ h => h) (Or.inr ⟨by rfl, rfl⟩) ?_ ?_
     rotate_left
     ·
      simp only [Act.put, setIfInBounds_toArray, set_cons_zero, set_cons_succ, i64_w, i32_w]
      rfl
     refine pure_ (i := 8) (N := some 101) (v := undef) (a' := ?_) #[true, true, true, true, true, true, true, true, true, false, false, false, false, false] rfl rfl (any_of HT_.out (by kernel_rfl)) (fun _ _ _ h => h) (Or.inr ⟨by rfl, rfl⟩) ?_ ?_
     rotate_left
     ·
      simp only [Act.put, setIfInBounds_toArray, set_cons_zero, set_cons_succ, i64_w, i32_w]
      rfl
     refine pure_ (i := 9) (N := some 102) (v := undef) (a' := ?_) #[true, true, true, true, true, true, true, true, true, true, false, false, false, false] rfl rfl (any_of HT_.out (by kernel_rfl)) (fun _ _ _ h => h) (Or.inr ⟨by rfl, rfl⟩) ?_ ?_
     rotate_left
     ·
      simp only [Act.put, setIfInBounds_toArray, set_cons_zero, set_cons_succ, i64_w, i32_w]
      rfl
     refine pure_ (i := 10) (N := some 103) (v := undef) (a' := ?_) #[true, true, true, true, true, true, true, true, true, true, true, false, false, false] rfl rfl (any_of HT_.out (by kernel_rfl)) (fun _ _ _ h => h) (Or.inr ⟨by rfl, rfl⟩) ?_ ?_
     rotate_left
     ·
      simp only [Act.put, setIfInBounds_toArray, set_cons_zero, set_cons_succ, i64_w, i32_w]
      rfl
     refine pure_ (i := 11) (N := some 104) (v := undef) (a' := ?_) #[true, true, true, true, true, true, true, true, true, true, true, true, false, false] rfl rfl (any_of HT_.out (by kernel_rfl)) (fun _ _ _ h => h) (Or.inr ⟨by rfl, rfl⟩) ?_ ?_
     rotate_left
     ·
      simp only [Act.put, setIfInBounds_toArray, set_cons_zero, set_cons_succ, i64_w, i32_w]
      rfl
     refine pure_ (i := 12) (N := some 105) (v := undef) (a' := ?_) #[true, true, true, true, true, true, true, true, true, true, true, true, true, false] rfl rfl (any_of HT_.out (by kernel_rfl)) (fun _ _ _ h => h) (Or.inr ⟨by rfl, rfl⟩) ?_ ?_
     rotate_left
     ·
      simp only [Act.put, setIfInBounds_toArray, set_cons_zero, set_cons_succ, i64_w, i32_w]
      rfl
     refine pure_ (i := 13) (N := some 106) (v := ?_) (a' := ?_) #[true, true, true, true, true, true, true, true, true, true, true, true, true, true] rfl rfl (any_of HT_.out (by kernel_rfl)) (fun _ _ _ h => h) (Or.inl ⟨by rfl, ?_⟩) ?_ ?_
     rotate_left
     ·
      intro w'
      go_simp
      with_reducible rfl
     rotate_left
     ·
      simp only [Act.put, setIfInBounds_toArray, set_cons_zero, set_cons_succ, i64_w, i32_w]
      rfl
     refine done_ (done_of HT_.out (by kernel_rfl)) ?_
     try go_wp2
     go_meet
     case rel => exact ⟨_, (false), (by first | rfl | (simp; done) | (simp [*]; done)), H', ⟨by have := cD.out; have := bP.out; have := bS.out; have := cY.out; have := dc.out; have := cm.out; have := dr.out; first | omega | exact Nat.le_refl _⟩, ⟨by (with_reducible repeat first | apply V_alloc | apply V_drewN | apply V_drew); exact aw.out⟩, ⟨by (with_reducible repeat first | apply R_alloc | apply R_drewN | apply R_drew); exact aA.out⟩, ⟨by (with_reducible repeat first | apply R_alloc | apply R_drewN | apply R_drew); exact aC.out⟩, ⟨by (with_reducible repeat first | apply R_alloc | apply R_drewN | apply R_drew); exact au.out⟩, ⟨by (with_reducible repeat first | apply V_alloc | apply V_drewN | apply V_drew); exact ae.out⟩, ⟨by (with_reducible repeat first | apply S_alloc | apply S_drewN | apply S_drew); exact af.out⟩, ⟨by (with_reducible repeat first | apply S_alloc | apply S_drewN | apply S_drew); exact ac.out⟩, ⟨by (with_reducible repeat first | apply R_alloc | apply R_drewN | apply R_drew); exact ad.out⟩, ⟨by (with_reducible repeat first | apply blk_drewN | apply blk_drew | apply blk_alloc); exact am.out⟩, ⟨by (with_reducible repeat first | apply blk_drewN | apply blk_drew | apply blk_alloc); exact ah.out⟩, ⟨by (with_reducible repeat first | apply blk_drewN | apply blk_drew | apply blk_alloc); exact aj.out⟩, ⟨by (with_reducible repeat first | apply blk_drewN | apply blk_drew | apply blk_alloc); exact az.out⟩, ⟨by repeat (first | (with_reducible first | exact HB.out | apply below_alloc | apply pw_below_drewN | apply below_drew1 | refine below_set ?_ aD.out | refine below_set ?_ aE.out | refine below_set ?_ aG.out | refine below_set ?_ be.out) | exact HB.out)⟩⟩
    clear HC51
    (try clear c1); (try clear p1); (try clear q1); (try clear hx1); (try clear c2); (try clear p2); (try clear c3); (try clear cC); (try clear cB); (try clear c4); (try clear c5); (try clear c6); (try clear p6); (try clear c7); (try clear c10); (try clear bV); (try clear p10); (try clear q10); (try clear hx10); (try clear c11); (try clear cj); (try clear p11); (try clear q11); (try clear hx11); (try clear c12); (try clear p12); (try clear q12); (try clear hx12); (try clear c15); (try clear c16); (try clear c18); (try clear bB); (try clear c19); (try clear ci); (try clear c20); (try clear ch); (try clear c26); (try clear c27); (try clear cG); (try clear c28); (try clear c29); (try clear c32); (try clear bU); (try clear c33); (try clear dn); (try clear c34); (try clear dm); (try clear c35); (try clear dl); (try clear c36); (try clear dk); (try clear c37); (try clear dj); (try clear c38); (try clear di); (try clear c39); (try clear dh); (try clear c42); (try clear c43); (try clear c44); (try clear c47); (try clear c48); (try clear c49); (try clear c52); (try clear co); (try clear c53); (try clear eD); (try clear bA); (try clear bz); (try clear bx); (try clear cd); (try clear cc); (try clear cb); (try clear cX); (try clear cW); (try clear cV); (try clear cU); (try clear cT); (try clear cS); (try clear bL); (try clear bK); (try clear bJ); (try clear bI); (try clear bw); (try clear bv); (try clear bu); (try clear ca); (try clear bZ); (try clear bY); (try clear cR); (try clear cQ); (try clear cP); (try clear cO); (try clear cN); (try clear cM); (try clear bH); (try clear bG); (try clear bF); (try clear bE); (try clear bt); (try clear bs); (try clear br); (try clear bk); (try clear bN); (try clear bR); (try clear bM); (try clear bQ); (try clear cA); (try clear cz); (try clear cy); (try clear p1); (try clear p10); (try clear p107); (try clear p109); (try clear p11); (try clear p119); (try clear p12); (try clear p120); (try clear p121); (try clear p122); (try clear p124); (try clear p2); (try clear p6); (try clear q1); (try clear q10); (try clear q107); (try clear q109); (try clear q11); (try clear q119); (try clear q12); (try clear q120); (try clear q121); (try clear q122); (try clear q124)
    obtain ⟨kq, bX, rfl, HA, da, aw, aA, aC, au, ae, af, ac, ad, am, ah, aj, az, HB⟩ := hcut
    cases kq with
    | zero => exact absurd HA.out (by simp [wordbookref15_Build.j7])
    | succ ce => ?_
    have H := HA.out
    clear HA
    simp only [wordbookref15_Build.j7] at H
    by_cases c60 : bX = true
    ·
     subst c60
     have H1 : (wordbookref15_Build.l3 ce l0 aJ aa ax aK aM aI ay (wrap64 (aH + 1)) l0 ar aq ap ((rd_T106 ab aa).f0) ((rd_T106 ab aa).f1) ((rd_T106 ab aa).f2) ax ay (wrap64 (((rd_T106 ab aa).f2) + 1))) = some (r1, r2, r3, r4, r5) := by rw [if_pos rfl] at H; exact H
     clear H
     have H := H1
     clear H1
     have H' := Aside0.mk H
     clear H
     go_wp2
     go_roundg ce
     case measure => have := cD.out; have := bP.out; have := bS.out; have := cY.out; have := dc.out; have := cm.out; have := dr.out; have := da.out; omega
     case rel => exact ⟨(wrap64 (aH + 1)), (by first | rfl | (simp; done) | (simp [*]; done)), H', ⟨by have := cD.out; have := bP.out; have := bS.out; have := cY.out; have := dc.out; have := cm.out; have := dr.out; have := da.out; omega⟩, ⟨by (with_reducible repeat first | apply V_alloc | apply V_drewN | apply V_drew); exact aw.out⟩, ⟨by (with_reducible repeat first | apply R_alloc | apply R_drewN | apply R_drew); exact aA.out⟩, ⟨by (with_reducible repeat first | apply R_alloc | apply R_drewN | apply R_drew); exact aC.out⟩, ⟨by (with_reducible repeat first | apply R_alloc | apply R_drewN | apply R_drew); exact au.out⟩, ⟨by (with_reducible repeat first | apply V_alloc | apply V_drewN | apply V_drew); exact ae.out⟩, ⟨by (with_reducible repeat first | apply S_alloc | apply S_drewN | apply S_drew); exact af.out⟩, ⟨by (with_reducible repeat first | apply S_alloc | apply S_drewN | apply S_drew); exact ac.out⟩, ⟨by (with_reducible repeat first | apply R_alloc | apply R_drewN | apply R_drew); exact ad.out⟩, ⟨by (with_reducible repeat first | apply blk_drewN | apply blk_drew | apply blk_alloc); exact am.out⟩, ⟨by (with_reducible repeat first | apply blk_drewN | apply blk_drew | apply blk_alloc); exact ah.out⟩, ⟨by (with_reducible repeat first | apply blk_drewN | apply blk_drew | apply blk_alloc); exact aj.out⟩, ⟨by (with_reducible repeat first | apply blk_drewN | apply blk_drew | apply blk_alloc); exact az.out⟩, ⟨by repeat (first | (with_reducible first | exact HB.out | apply below_alloc | apply pw_below_drewN | apply below_drew1 | refine below_set ?_ aD.out | refine below_set ?_ aE.out | refine below_set ?_ aG.out | refine below_set ?_ be.out) | exact HB.out)⟩⟩
    replace c60 := Bool.eq_false_iff.mpr c60
    subst c60
    have H1 : (if aH = (aJ.length : Int) then (if aJ.length < 5864062014805 then (if 0 ≤ ax then (if ax < (l0.length : Int) then (if 0 ≤ ((rd_T106 ab aa).f2) then (if ((rd_T106 ab aa).f2) < ((rd_L2 l0 ax).length : Int) then (if aM.length < 17592186044416 then (if aI.length < 17592186044416 then (wordbookref15_Build.l1 ce l0 (aJ ++ [(⟨ax, ay, (wrap64 (((rd_T106 ab aa).f2) + 1))⟩ : S106)]) aa ay aK (aM ++ [rd (rd_L2 l0 ax) ((rd_T106 ab aa).f2)]) (aI ++ [aH]) l0 ar aq ap ((rd_T106 ab aa).f0) ((rd_T106 ab aa).f1) ((rd_T106 ab aa).f2)) else (none)) else (none)) else (none)) else (none)) else (none)) else (none)) else (none)) else (if 0 ≤ ax then (if ax < (l0.length : Int) then (if 0 ≤ ((rd_T106 ab aa).f2) then (if ((rd_T106 ab aa).f2) < ((rd_L2 l0 ax).length : Int) then (if aM.length < 17592186044416 then (if aI.length < 17592186044416 then (wordbookref15_Build.l1 ce l0 aJ aa ay aK (aM ++ [rd (rd_L2 l0 ax) ((rd_T106 ab aa).f2)]) (aI ++ [aH]) l0 ar aq ap ((rd_T106 ab aa).f0) ((rd_T106 ab aa).f1) ((rd_T106 ab aa).f2)) else (none)) else (none)) else (none)) else (none)) else (none)) else (none))) = some (r1, r2, r3, r4, r5) := by rw [if_neg (show ¬ (false = true) by decide)] at H; exact H
    clear H
    have H := H1
    clear H1
    by_cases c61 : aH = (aJ.length : Int)
    ·
     rw [if_pos c61] at H
     have eC : (aH == (aJ.length : Int)) = true := beq_iff_eq.mpr c61
     have eB : (aH != (aJ.length : Int)) = false := bne_eq_false_iff_eq.mpr c61
     clear c61
     have c62 : aJ.length < 5864062014805 := Classical.byContradiction fun c_ => by rw [if_neg c_] at H; exact absurd H (by simp)
     rw [if_pos c62] at H
     have LMc62 := Aside0.mk c62
     clear c62
     obtain ⟨dq, hy126⟩ : ∃ y_ : List (S106), y_ = (aJ ++ [(⟨ax, ay, (wrap64 (((rd_T106 ab aa).f2) + 1))⟩ : S106)]) := ⟨_, rfl⟩
     replace H : (if 0 ≤ ax then (if ax < (l0.length : Int) then (if 0 ≤ ((rd_T106 ab aa).f2) then (if ((rd_T106 ab aa).f2) < ((rd_L2 l0 ax).length : Int) then (if aM.length < 17592186044416 then (if aI.length < 17592186044416 then (wordbookref15_Build.l1 ce l0 dq aa ay aK (aM ++ [rd (rd_L2 l0 ax) ((rd_T106 ab aa).f2)]) (aI ++ [aH]) l0 ar aq ap ((rd_T106 ab aa).f0) ((rd_T106 ab aa).f1) ((rd_T106 ab aa).f2)) else (none)) else (none)) else (none)) else (none)) else (none)) else (none)) = some (r1, r2, r3, r4, r5) := by first | (rw [hy126]; with_reducible exact H) | (have H2_ := (Option.bind_some _ _).symm.trans H; rw [hy126]; with_reducible exact H2_) | (have H2_ := (Option.bind_some _ _).symm.trans H; with_reducible exact H2_) | with_reducible exact H | (rw [hy126]; exact H) | exact H
     have Ny126 := Aside0.mk hy126
     clear hy126
     have c63 : 0 ≤ ax := Classical.byContradiction fun c_ => by rw [if_neg c_] at H; exact absurd H (by simp)
     rw [if_pos c63] at H
     have fr : decide (0 ≤ ax) = true := decide_eq_true c63
     clear c63
     have c64 : ax < (l0.length : Int) := Classical.byContradiction fun c_ => by rw [if_neg c_] at H; exact absurd H (by simp)
     rw [if_pos c64] at H
     have fq : decide (ax < (l0.length : Int)) = true := decide_eq_true c64
     clear c64
     have c65 : 0 ≤ ((rd_T106 ab aa).f2) := Classical.byContradiction fun c_ => by rw [if_neg c_] at H; exact absurd H (by simp)
     rw [if_pos c65] at H
     have fp : decide (0 ≤ ((rd_T106 ab aa).f2)) = true := decide_eq_true c65
     clear c65
     have c66 : ((rd_T106 ab aa).f2) < ((rd_L2 l0 ax).length : Int) := Classical.byContradiction fun c_ => by rw [if_neg c_] at H; exact absurd H (by simp)
     rw [if_pos c66] at H
     have fo : decide (((rd_T106 ab aa).f2) < ((rd_L2 l0 ax).length : Int)) = true := decide_eq_true c66
     clear c66
     have c67 : aM.length < 17592186044416 := Classical.byContradiction fun c_ => by rw [if_neg c_] at H; exact absurd H (by simp)
     rw [if_pos c67] at H
     have LMc67 := Aside0.mk c67
     clear c67
     obtain ⟨du, hy131⟩ : ∃ y_ : List Int, y_ = (aM ++ [rd (rd_L2 l0 ax) ((rd_T106 ab aa).f2)]) := ⟨_, rfl⟩
     replace H : (if aI.length < 17592186044416 then (wordbookref15_Build.l1 ce l0 dq aa ay aK du (aI ++ [aH]) l0 ar aq ap ((rd_T106 ab aa).f0) ((rd_T106 ab aa).f1) ((rd_T106 ab aa).f2)) else (none)) = some (r1, r2, r3, r4, r5) := by first | (rw [hy131]; with_reducible exact H) | (have H2_ := (Option.bind_some _ _).symm.trans H; rw [hy131]; with_reducible exact H2_) | (have H2_ := (Option.bind_some _ _).symm.trans H; with_reducible exact H2_) | with_reducible exact H | (rw [hy131]; exact H) | exact H
     have Ny131 := Aside0.mk hy131
     clear hy131
     have c68 : aI.length < 17592186044416 := Classical.byContradiction fun c_ => by rw [if_neg c_] at H; exact absurd H (by simp)
     rw [if_pos c68] at H
     have LMc68 := Aside0.mk c68
     clear c68
     obtain ⟨dx, hy134⟩ : ∃ y_ : List Int, y_ = (aI ++ [aH]) := ⟨_, rfl⟩
     replace H : (wordbookref15_Build.l1 ce l0 dq aa ay aK du dx l0 ar aq ap ((rd_T106 ab aa).f0) ((rd_T106 ab aa).f1) ((rd_T106 ab aa).f2)) = some (r1, r2, r3, r4, r5) := by first | (rw [hy134]; with_reducible exact H) | (have H2_ := (Option.bind_some _ _).symm.trans H; rw [hy134]; with_reducible exact H2_) | (have H2_ := (Option.bind_some _ _).symm.trans H; with_reducible exact H2_) | with_reducible exact H | (rw [hy134]; exact H) | exact H
     have Ny134 := Aside0.mk hy134
     clear hy134
     have H' := Aside0.mk H
     clear H
     obtain ⟨fi, fh, eo69⟩ := Kd.R_slice aA.out
     subst eo69
     have hnb70 := cr.out
     have hnc70 := bq.out
     have hnb71 := cq.out
     have hnc71 := bp.out
     have hnb72 := cp.out
     have hnc72 := bo.out
     have fg : wc.cell? ⟨av, 0, none⟩ = some (.int .i64 ax) := (blk_cell az.out 0).trans rfl
     have ff : wc.cell? ⟨av, 1, none⟩ = some (.int .i64 ay) := (blk_cell az.out 1).trans rfl
     have fe : wc.cell? ⟨av, 2, none⟩ = some (.int .i64 (wrap64 (((rd_T106 ab aa).f2) + 1))) := (blk_cell az.out 2).trans rfl
     have eS := blk_frozen az.out 0
     have eR := blk_frozen az.out 1
     have eQ := blk_frozen az.out 2
     try go_wp2_with (first | ((with_reducible refine gate_builtin (b := .append) (xs := #[.tmp 113, .tmp 115]) rfl ?_); (try (refine gate_guard (by rfl) ?_; dsimp only)); at_builtin; refine Kd.R_append k106 (w0 := w) w.heap.size rfl (.tmp 113) (.tmp 115) 107 106 (.agg #[(.int .i64 0), (.int .i64 0), (.int .i64 0)]) 24 rfl Try.underlying107 info106 rfl (by decide) (by omega) (.slice fi aJ.length fh) aJ (⟨ax, ay, (wrap64 (((rd_T106 ab aa).f2) + 1))⟩ : S106) [.int .i64 ax, .int .i64 ay, .int .i64 (wrap64 (((rd_T106 ab aa).f2) + 1))] (fun k_ => (w.heap.size ≤ k_) ∧ k_ ≠ ag ∧ k_ ≠ av) (fun _ => False) rfl rfl ?aP (fun _ hk => hk.elim) ?aF ?aO ?aB ?aS ?aL ?_; (case aP => exact k106_mkM _ _ _ (⟨ax, ay, (wrap64 (((rd_T106 ab aa).f2) + 1))⟩ : S106)); (case aB => exact (by repeat (first | (with_reducible first | exact HB.out | apply below_alloc | apply pw_below_drewN | apply below_drew1 | refine below_set ?_ aD.out | refine below_set ?_ aE.out | refine below_set ?_ aG.out | refine below_set ?_ be.out) | exact HB.out))); (case aF => exact (fun k_ hk => ⟨(Nat.le_trans (below_size (by repeat (first | (with_reducible first | exact HB.out | apply below_alloc | apply pw_below_drewN | apply below_drew1 | refine below_set ?_ aD.out | refine below_set ?_ aE.out | refine below_set ?_ aG.out | refine below_set ?_ be.out) | exact HB.out))) hk), Kd.freshB (g := ag) (o := .cells #[.int .i64 ((rd_T106 ab aa).f0), .int .i64 ((rd_T106 ab aa).f1), .int .i64 ((rd_T106 ab aa).f2)] 106 (0, 0)) (by (with_reducible repeat first | apply blk_drewN | apply blk_drew | apply blk_alloc); exact aj.out) k_ hk, Kd.freshB (g := av) (o := .cells #[.int .i64 ax, .int .i64 ay, .int .i64 (wrap64 (((rd_T106 ab aa).f2) + 1))] 106 (0, 0)) (by (with_reducible repeat first | apply blk_drewN | apply blk_drew | apply blk_alloc); exact az.out) k_ hk⟩)); (case aO => exact (by (with_reducible repeat first | apply R_alloc | apply R_drewN | apply R_drew); exact aA.out)); (case aS => exact (below_size (by repeat (first | (with_reducible first | exact HB.out | apply below_alloc | apply pw_below_drewN | apply below_drew1 | refine below_set ?_ aD.out | refine below_set ?_ aE.out | refine below_set ?_ aG.out | refine below_set ?_ be.out) | exact HB.out)))); (case aL => have := LMc62.out; omega); intro v127 w74 ho hb hg hat; rw [← Ny126.out] at ho; have aT := Aside0.mk (Kd.V_afterv (ok := (fun k_ => (P0_ k_ ∨ w.heap.size ≤ k_) ∧ some k_ ≠ (u11 : Value).ownBlock ∧ some k_ ≠ (u12 : Value).ownBlock ∧ some k_ ≠ (ak : Value).ownBlock ∧ some k_ ≠ (ai : Value).ownBlock ∧ some k_ ≠ (al : Value).ownBlock ∧ k_ ≠ ao ∧ k_ ≠ an ∧ k_ ≠ ag ∧ k_ ≠ av)) (by (with_reducible repeat first | apply V_alloc | apply V_drewN | apply V_drew); exact Kd.V_mono aw.out (fun _ hk => ⟨⟨hk.1, ⟨hk.2.2.1, ⟨hk.2.2.2.1, ⟨hk.2.2.2.2.1, ⟨hk.2.2.2.2.2.1, ⟨hk.2.2.2.2.2.2.1, ⟨hk.2.2.2.2.2.2.2.1, ⟨hk.2.2.2.2.2.2.2.2.1, ⟨hk.2.2.2.2.2.2.2.2.2.1, hk.2.2.2.2.2.2.2.2.2.2⟩⟩⟩⟩⟩⟩⟩⟩⟩, hk.2.1⟩)) hg hat); have aR := Aside0.mk (Kd.R_over' (by (with_reducible repeat first | apply R_alloc | apply R_drewN | apply R_drew); exact aC.out) (Kd.R_typed (by (with_reducible repeat first | apply R_alloc | apply R_drewN | apply R_drew); exact aA.out)) (by decide) hg); have aQ := Aside0.mk (Kd.R_over' (by (with_reducible repeat first | apply R_alloc | apply R_drewN | apply R_drew); exact au.out) (Kd.R_typed (by (with_reducible repeat first | apply R_alloc | apply R_drewN | apply R_drew); exact aA.out)) (by decide) hg); have aW := Aside0.mk (Kd.V_afterv (ok := (fun k_ => (P0_ k_ ∨ w.heap.size ≤ k_) ∧ some k_ ≠ (u11 : Value).ownBlock ∧ some k_ ≠ (u12 : Value).ownBlock ∧ some k_ ≠ (ak : Value).ownBlock ∧ some k_ ≠ (ai : Value).ownBlock ∧ some k_ ≠ (al : Value).ownBlock ∧ k_ ≠ ao ∧ k_ ≠ an ∧ k_ ≠ ag ∧ k_ ≠ av)) (by (with_reducible repeat first | apply V_alloc | apply V_drewN | apply V_drew); exact Kd.V_mono ae.out (fun _ hk => ⟨⟨hk.1, ⟨hk.2.2.1, ⟨hk.2.2.2.1, ⟨hk.2.2.2.2.1, ⟨hk.2.2.2.2.2.1, ⟨hk.2.2.2.2.2.2.1, ⟨hk.2.2.2.2.2.2.2.1, ⟨hk.2.2.2.2.2.2.2.2.1, ⟨hk.2.2.2.2.2.2.2.2.2.1, hk.2.2.2.2.2.2.2.2.2.2⟩⟩⟩⟩⟩⟩⟩⟩⟩, hk.2.1⟩)) hg hat); have aV := Aside0.mk (Kd.S_over' (by (with_reducible repeat first | apply S_alloc | apply S_drewN | apply S_drew); exact af.out) (Kd.R_typed (by (with_reducible repeat first | apply R_alloc | apply R_drewN | apply R_drew); exact aA.out)) (by decide) hg); have bd := Aside0.mk (Kd.S_over' (by (with_reducible repeat first | apply S_alloc | apply S_drewN | apply S_drew); exact ac.out) (Kd.R_typed (by (with_reducible repeat first | apply R_alloc | apply R_drewN | apply R_drew); exact aA.out)) (by decide) hg); have bc := Aside0.mk (Kd.R_over' (by (with_reducible repeat first | apply R_alloc | apply R_drewN | apply R_drew); exact ad.out) (Kd.R_typed (by (with_reducible repeat first | apply R_alloc | apply R_drewN | apply R_drew); exact aA.out)) (by decide) hg); have bb := Aside0.mk (blk_grown (g := ao) (o := .cells #[.slice none 0 0, .slice none 0 0, .slice none 0 0, .slice none 0 0] 32 (0, 0)) (by (with_reducible repeat first | apply blk_drewN | apply blk_drew | apply blk_alloc); exact am.out) hg (Kd.R_ne aA.out am.out (by decide))); have bh := Aside0.mk (blk_grown (g := an) (o := .cells #[.slice A0 l0.length c0, ak, ai, al] 32 (0, 0)) (by (with_reducible repeat first | apply blk_drewN | apply blk_drew | apply blk_alloc); exact ah.out) hg (Kd.R_ne aA.out ah.out (by decide))); have bg := Aside0.mk (blk_grown (g := ag) (o := .cells #[.int .i64 ((rd_T106 ab aa).f0), .int .i64 ((rd_T106 ab aa).f1), .int .i64 ((rd_T106 ab aa).f2)] 106 (0, 0)) (by (with_reducible repeat first | apply blk_drewN | apply blk_drew | apply blk_alloc); exact aj.out) hg (Kd.R_away aA.out (fun _ hk => hk.2.1))); have aN := Aside0.mk (blk_grown (g := av) (o := .cells #[.int .i64 ax, .int .i64 ay, .int .i64 (wrap64 (((rd_T106 ab aa).f2) + 1))] 106 (0, 0)) (by (with_reducible repeat first | apply blk_drewN | apply blk_drew | apply blk_alloc); exact az.out) hg (Kd.R_away aA.out (fun _ hk => hk.2.2))); have aU := Aside0.mk (hb); have ba := Aside0.mk (ho); clear aw; clear aC; clear au; clear ae; clear af; clear ac; clear ad; clear am; clear ah; clear aj; clear az; clear HB; clear aA; have aw := aT; have aC := aR; have au := aQ; have ae := aW; have af := aV; have ac := bd; have ad := bc; have am := bb; have ah := bh; have aj := bg; have az := aN; have HB := aU; have HO128 := ba; clear aT aR aQ aW aV bd bc bb bh bg aN aU ba; clear ho hb hg hat))
     have aT := Aside0.mk (Kd.V_drew aw.out)
     have aR := Aside0.mk (Kd.R_drew aC.out)
     have aQ := Aside0.mk (Kd.R_drew au.out)
     have aW := Aside0.mk (Kd.V_drew ae.out)
     have aV := Aside0.mk (Kd.S_drew af.out)
     have bd := Aside0.mk (Kd.S_drew ac.out)
     have bc := Aside0.mk (Kd.R_drew ad.out)
     have bb := Aside0.mk (Kd.R_drew HO128.out)
     have bh := Aside0.mk (blk_drew am.out)
     have bg := Aside0.mk (blk_drew ah.out)
     have aN := Aside0.mk (blk_drew aj.out)
     have aU := Aside0.mk (blk_drew az.out)
     have ba := Aside0.mk (below_drew1 HB.out)
     clear aw
     clear aC
     clear au
     clear ae
     clear af
     clear ac
     clear ad
     clear HO128
     clear am
     clear ah
     clear aj
     clear az
     clear HB
     have aw := aT
     have aC := aR
     have au := aQ
     have ae := aW
     have af := aV
     have ac := bd
     have ad := bc
     have HO128 := bb
     have am := bh
     have ah := bg
     have aj := aN
     have az := aU
     have HB := ba
     clear aT aR aQ aW aV bd bc bb bh bg aN aU ba
     have p129 : 0 ≤ (ax : Int) := of_decide_eq_true (by first | (with_reducible assumption) | assumption)
     have q129 : ax < (l0.length : Int) := of_decide_eq_true (by first | (with_reducible assumption) | assumption)
     obtain ⟨ad129, A129_0, c129_0, e129, cx, hl129_0, hi129_0⟩ := at_L2 (Kd.V_reads' aw.out).2.2 ax p129 q129
     cases e129
     obtain ⟨ce129, hce129, hMe129, hcc129⟩ := Kd.V_get aw.out [] ax p129 (by first | exact q129 | exact of_decide_eq_true (by first | (with_reducible assumption) | assumption) | (have e_ := (Kd.V_reads' aw.out).1; omega))
     obtain ⟨ua129_0, uc129_0, rfl, ul129_0, ge129_0⟩ := Kd.FK_slice_open hMe129
     have hv129_0 := hcc129 0 _ rfl
     rw [Nat.add_zero, show ((Kd.slice 3 (Kd.int .i64))).sz = 1 from rfl, Nat.mul_one] at hv129_0
     replace hv129_0 := Option.some.inj (hv129_0.symm.trans cx)
     injection hv129_0 with hva_ hvn_ hvc_
     rw [hva_] at ge129_0
     rw [hvc_] at ul129_0
     have HL129_0 := Aside0.mk (show Kd.V (Kd.int .i64) 3 _ w.heap.size _ _ (rd_L2 l0 ax) from Kd.V_mk ul129_0 ge129_0)
     clear hva_ hvn_ hvc_ ge129_0 ul129_0
     clear hcc129 hce129
     have HR129_0 := Aside0.mk hi129_0
     have HC129_0 := Aside0.mk hl129_0
     clear hi129_0 hl129_0
     replace p129 := eq_true p129
     replace q129 := eq_true q129
     have p130 : 0 ≤ (((rd_T106 ab aa).f2) : Int) := of_decide_eq_true (by first | (with_reducible assumption) | assumption)
     have q130 : ((rd_T106 ab aa).f2) < ((rd_L2 l0 ax).length : Int) := of_decide_eq_true (by first | (with_reducible assumption) | assumption)
     obtain ⟨ad130, e130, cL⟩ := Kd.at_int (by repeat (first | (with_reducible exact HR129_0.out) | (with_reducible refine Kd.C_alloc ?_ _) | (with_reducible refine Kd.C_drewN ?_ _) | (with_reducible refine Kd.C_drew ?_) | exact HR129_0.out)) ((rd_T106 ab aa).f2) p130 q130
     cases e130
     replace p130 := eq_true p130
     replace q130 := eq_true q130
     refine start_ (n := 12) (S := fun w' => w'.cell? ⟨ag, 0, none⟩ = some (.int .i64 ((rd_T106 ab aa).f0)) ∧ w'.cell? ⟨ag, 1, none⟩ = some (.int .i64 ((rd_T106 ab aa).f1)) ∧ w'.cell? ⟨ag, 2, none⟩ = some (.int .i64 ((rd_T106 ab aa).f2)) ∧ w'.cell? (ad129.add (ax).toNat) = some (.slice (some ad130) (rd_L2 l0 ax).length c129_0) ∧ w'.cell? (ad130.add (((rd_T106 ab aa).f2)).toNat) = some (.int .i64 (rd (rd_L2 l0 ax) ((rd_T106 ab aa).f2)))) (ds := [9, 10]) #[false, false, false, false, false, false, false, false, false, false, false, false] (by kernel_rfl) rfl rfl ⟨(blk_cell aj.out 0).trans rfl, (blk_cell aj.out 1).trans rfl, (blk_cell aj.out 2).trans rfl, cx, cL⟩ (fun hHeld => ?_); refine with_tabW wordbookref15_Build.tab26 wordbookref15_Build.bits26 (fun HT_ HW_ => ?_)
     generalize w74.drew = w75 at aw aC au ae af ac ad HO128 am ah aj az HB HL129_0 HR129_0 cx cL hHeld ⊢
     refine pure_ (i := 0) (N := some 117) (v := ?_) (a' := ?_) #[true, false, false, false, false, false, false, false, false, false, false, false] rfl rfl (any_of HT_.out (by kernel_rfl)) (fun _ _ _ h => h) (Or.inl ⟨by rfl, ?_⟩) ?_ ?_
     rotate_left
     ·
      intro w'
      go_simp
      with_reducible rfl
     rotate_left
     ·
      simp only [Act.put, setIfInBounds_toArray, set_cons_zero, set_cons_succ, i64_w, i32_w]
      rfl
     refine pure_ (i := 1) (N := some 118) (v := ?_) (a' := ?_) #[true, true, false, false, false, false, false, false, false, false, false, false] rfl rfl (any_of HT_.out (by kernel_rfl)) (fun _ _ _ h => h) (Or.inl ⟨by rfl, ?_⟩) ?_ ?_
     rotate_left
     ·
      intro w'
      go_simp
      with_reducible rfl
     rotate_left
     ·
      simp only [Act.put, setIfInBounds_toArray, set_cons_zero, set_cons_succ, i64_w, i32_w]
      rfl
     refine pure_ (i := 2) (N := some 119) (v := ?_) (a' := ?_) #[true, true, true, false, false, false, false, false, false, false, false, false] rfl rfl (any_of HT_.out (by kernel_rfl)) (fun _ _ _ h => h) (Or.inl ⟨by rfl, ?_⟩) ?_ ?_
     rotate_left
     ·
      intro w'
      go_simp
      with_reducible rfl
     rotate_left
     ·
      simp only [Act.put, setIfInBounds_toArray, set_cons_zero, set_cons_succ, i64_w, i32_w]
      rfl
     refine pure_ (i := 3) (N := some 120) (v := ?_) (a' := ?_) #[true, true, true, true, false, false, false, false, false, false, false, false] rfl rfl (any_of HT_.out (by kernel_rfl)) (fun _ _ _ h => h) (Or.inl ⟨by rfl, ?_⟩) ?_ ?_
     rotate_left
     ·
      intro w'
      go_simp
      with_reducible rfl
     rotate_left
     ·
      simp only [Act.put, setIfInBounds_toArray, set_cons_zero, set_cons_succ, i64_w, i32_w]
      rfl
     refine pure_ (i := 5) (N := some 122) (v := ?_) (a' := ?_) #[true, true, true, true, false, true, false, false, false, false, false, false] rfl rfl (any_of HT_.out (by kernel_rfl)) (fun _ _ _ h => h) (Or.inl ⟨by rfl, ?_⟩) ?_ ?_
     rotate_left
     ·
      intro w'
      go_simp
      with_reducible rfl
     rotate_left
     ·
      simp only [Act.put, setIfInBounds_toArray, set_cons_zero, set_cons_succ, i64_w, i32_w]
      rfl
     refine take_ (i := 4) (N := some 121) (v := ?_) (a' := ?_) #[true, true, true, true, true, true, false, false, false, false, false, false] rfl rfl (take_ofW HT_.out HW_.out (by kernel_rfl)) (fun _ _ _ h => h) (Or.inl ⟨by rfl, ?_⟩) hHeld ?_ ?_
     rotate_left
     ·
      rintro w' ⟨s0, s1, s2, s3, s4⟩
      go_simp
      with_reducible rfl
     rotate_left
     ·
      simp only [Act.put, setIfInBounds_toArray, set_cons_zero, set_cons_succ, i64_w, i32_w]
      rfl
     refine take_ (i := 6) (N := some 123) (v := ?_) (a' := ?_) #[true, true, true, true, true, true, true, false, false, false, false, false] rfl rfl (take_ofW HT_.out HW_.out (by kernel_rfl)) (fun _ _ _ h => h) (Or.inl ⟨by rfl, ?_⟩) hHeld ?_ ?_
     rotate_left
     ·
      rintro w' ⟨s0, s1, s2, s3, s4⟩
      go_simp
      with_reducible rfl
     rotate_left
     ·
      simp only [Act.put, setIfInBounds_toArray, set_cons_zero, set_cons_succ, i64_w, i32_w]
      rfl
     refine pure_ (i := 7) (N := some 124) (v := ?_) (a' := ?_) #[true, true, true, true, true, true, true, true, false, false, false, false] rfl rfl (any_of HT_.out (by kernel_rfl)) (fun _ _ _ h => h) (Or.inl ⟨by rfl, ?_⟩) ?_ ?_
     rotate_left
     ·
      intro w'
      go_simp
      with_reducible rfl
     rotate_left
     ·
      simp only [Act.put, setIfInBounds_toArray, set_cons_zero, set_cons_succ, i64_w, i32_w]
      rfl
     refine take_ (i := 8) (N := some 125) (v := ?_) (a' := ?_) #[true, true, true, true, true, true, true, true, true, false, false, false] rfl rfl (take_ofW HT_.out HW_.out (by kernel_rfl)) (fun _ _ _ h => h) (Or.inl ⟨by rfl, ?_⟩) hHeld ?_ ?_
     rotate_left
     ·
      rintro w' ⟨s0, s1, s2, s3, s4⟩
      go_simp
      with_reducible rfl
     rotate_left
     ·
      simp only [Act.put, setIfInBounds_toArray, set_cons_zero, set_cons_succ, i64_w, i32_w]
      rfl
     refine last_ (i := 9) (N := some 126) #[true, true, true, true, true, true, true, true, true, true, false, false] rfl rfl (one_of HT_.out (by kernel_rfl)) (by decide) (fun K hK => ?_)
     refine value_ (w1 := ?_) (v := ?_) (by rfl) rfl ?_ ?_
     rotate_left 2
     ·
      go_simp
      constructor
      ·
       rfl
      rfl
     refine hK.out _ _ ?_
     clear hK K
     refine norm_ (a' := ?_) ?_ ?_
     rotate_left
     ·
      show Act.put _ (some 126) _ = _
      simp only [Act.put, setIfInBounds_toArray, set_cons_zero, set_cons_succ, i64_w, i32_w]
      rfl
     refine last_ (i := 10) (N := some 127) #[true, true, true, true, true, true, true, true, true, true, true, false] rfl rfl (one_of HT_.out (by kernel_rfl)) (by decide) (fun K hK => ?_)
     refine Kd.R_append_step (Kd.int .i64) (w0 := w) w.heap.size (by rfl) (.tmp 117) (.tmp 126) 22 3 (.int .i64 0) 8 rfl Try.underlying22 info3 rfl (by decide) (by omega) u11 aM (rd (rd_L2 l0 ax) ((rd_T106 ab aa).f2)) [.int .i64 (rd (rd_L2 l0 ax) ((rd_T106 ab aa).f2))] (fun k_ => (w.heap.size ≤ k_) ∧ some k_ ≠ (u12 : Value).ownBlock) (fun _ => False) rfl rfl ?aP (fun _ hk => hk.elim) ?aF ?aO ?aB ?aS ?aL ?_
     (case aP => exact rfl)
     (case aB => exact (by repeat (first | (with_reducible first | exact HB.out | apply below_alloc | apply pw_below_drewN | apply below_drew1 | refine below_set ?_ aD.out | refine below_set ?_ aE.out | refine below_set ?_ aG.out | refine below_set ?_ be.out) | exact HB.out)))
     (case aF => exact (fun k_ hk => ⟨(Nat.le_trans (below_size (by repeat (first | (with_reducible first | exact HB.out | apply below_alloc | apply pw_below_drewN | apply below_drew1 | refine below_set ?_ aD.out | refine below_set ?_ aE.out | refine below_set ?_ aG.out | refine below_set ?_ be.out) | exact HB.out))) hk), Kd.fresh' (Kd.R_lt (by (with_reducible repeat first | apply R_alloc | apply R_drewN | apply R_drew); exact au.out)) k_ hk⟩))
     (case aO => exact (by (with_reducible repeat first | apply R_alloc | apply R_drewN | apply R_drew); exact aC.out))
     (case aS => exact (below_size (by repeat (first | (with_reducible first | exact HB.out | apply below_alloc | apply pw_below_drewN | apply below_drew1 | refine below_set ?_ aD.out | refine below_set ?_ aE.out | refine below_set ?_ aG.out | refine below_set ?_ be.out) | exact HB.out))))
     (case aL => have := LMc67.out; omega)
     intro v132 w76 ho hb hg hat
     rw [← Ny131.out] at ho
     have aT := Aside0.mk (Kd.V_afterv (ok := (fun k_ => (P0_ k_ ∨ w.heap.size ≤ k_) ∧ some k_ ≠ (u12 : Value).ownBlock ∧ some k_ ≠ (ak : Value).ownBlock ∧ some k_ ≠ (ai : Value).ownBlock ∧ some k_ ≠ (al : Value).ownBlock ∧ some k_ ≠ (v127 : Value).ownBlock ∧ k_ ≠ ao ∧ k_ ≠ an ∧ k_ ≠ ag ∧ k_ ≠ av)) (by (with_reducible repeat first | apply V_alloc | apply V_drewN | apply V_drew); exact Kd.V_mono aw.out (fun _ hk => ⟨⟨hk.1.1, ⟨hk.1.2.2.1, ⟨hk.1.2.2.2.1, ⟨hk.1.2.2.2.2.1, ⟨hk.1.2.2.2.2.2.1, ⟨hk.2, ⟨hk.1.2.2.2.2.2.2.1, ⟨hk.1.2.2.2.2.2.2.2.1, ⟨hk.1.2.2.2.2.2.2.2.2.1, hk.1.2.2.2.2.2.2.2.2.2⟩⟩⟩⟩⟩⟩⟩⟩⟩, hk.1.2.1⟩)) hg hat)
     have aR := Aside0.mk (Kd.R_after (ok := (fun k_ => (w.heap.size ≤ k_))) (by (with_reducible repeat first | apply R_alloc | apply R_drewN | apply R_drew); exact au.out) hg hat)
     have aQ := Aside0.mk (Kd.V_afterv (ok := (fun k_ => (P0_ k_ ∨ w.heap.size ≤ k_) ∧ some k_ ≠ (u12 : Value).ownBlock ∧ some k_ ≠ (ak : Value).ownBlock ∧ some k_ ≠ (ai : Value).ownBlock ∧ some k_ ≠ (al : Value).ownBlock ∧ some k_ ≠ (v127 : Value).ownBlock ∧ k_ ≠ ao ∧ k_ ≠ an ∧ k_ ≠ ag ∧ k_ ≠ av)) (by (with_reducible repeat first | apply V_alloc | apply V_drewN | apply V_drew); exact Kd.V_mono ae.out (fun _ hk => ⟨⟨hk.1.1, ⟨hk.1.2.2.1, ⟨hk.1.2.2.2.1, ⟨hk.1.2.2.2.2.1, ⟨hk.1.2.2.2.2.2.1, ⟨hk.2, ⟨hk.1.2.2.2.2.2.2.1, ⟨hk.1.2.2.2.2.2.2.2.1, ⟨hk.1.2.2.2.2.2.2.2.2.1, hk.1.2.2.2.2.2.2.2.2.2⟩⟩⟩⟩⟩⟩⟩⟩⟩, hk.1.2.1⟩)) hg hat)
     have aW := Aside0.mk (Kd.S_after (ok := (fun k_ => (w.heap.size ≤ k_) ∧ some k_ ≠ (u12 : Value).ownBlock ∧ some k_ ≠ (ai : Value).ownBlock)) (by (with_reducible repeat first | apply S_alloc | apply S_drewN | apply S_drew); exact Kd.S_mono af.out (fun _ hk => ⟨⟨hk.1, ⟨hk.2.2.1, hk.2.2.2⟩⟩, hk.2.1⟩)) hg hat)
     have aV := Aside0.mk (Kd.S_after (ok := (fun k_ => (w.heap.size ≤ k_) ∧ some k_ ≠ (u12 : Value).ownBlock ∧ some k_ ≠ (ak : Value).ownBlock)) (by (with_reducible repeat first | apply S_alloc | apply S_drewN | apply S_drew); exact Kd.S_mono ac.out (fun _ hk => ⟨⟨hk.1, ⟨hk.2.2.1, hk.2.2.2⟩⟩, hk.2.1⟩)) hg hat)
     have bd := Aside0.mk (Kd.R_over' (by (with_reducible repeat first | apply R_alloc | apply R_drewN | apply R_drew); exact ad.out) (Kd.R_typed (by (with_reducible repeat first | apply R_alloc | apply R_drewN | apply R_drew); exact aC.out)) (by decide) hg)
     have bc := Aside0.mk (blk_grown (g := ao) (o := .cells #[.slice none 0 0, .slice none 0 0, .slice none 0 0, .slice none 0 0] 32 (0, 0)) (by (with_reducible repeat first | apply blk_drewN | apply blk_drew | apply blk_alloc); exact am.out) hg (Kd.R_ne aC.out am.out (by decide)))
     have bb := Aside0.mk (blk_grown (g := an) (o := .cells #[.slice (some ad129) l0.length c0, ak, ai, al] 32 (0, 0)) (by (with_reducible repeat first | apply blk_drewN | apply blk_drew | apply blk_alloc); exact ah.out) hg (Kd.R_ne aC.out ah.out (by decide)))
     have bh := Aside0.mk (blk_grown (g := ag) (o := .cells #[.int .i64 ((rd_T106 ab aa).f0), .int .i64 ((rd_T106 ab aa).f1), .int .i64 ((rd_T106 ab aa).f2)] 106 (0, 0)) (by (with_reducible repeat first | apply blk_drewN | apply blk_drew | apply blk_alloc); exact aj.out) hg (Kd.R_ne aC.out aj.out (by decide)))
     have bg := Aside0.mk (blk_grown (g := av) (o := .cells #[.int .i64 ax, .int .i64 ay, .int .i64 (wrap64 (((rd_T106 ab aa).f2) + 1))] 106 (0, 0)) (by (with_reducible repeat first | apply blk_drewN | apply blk_drew | apply blk_alloc); exact az.out) hg (Kd.R_ne aC.out az.out (by decide)))
     have aN := Aside0.mk (Kd.R_over' (by (with_reducible repeat first | apply R_alloc | apply R_drewN | apply R_drew); exact HO128.out) (Kd.R_typed (by (with_reducible repeat first | apply R_alloc | apply R_drewN | apply R_drew); exact aC.out)) (by decide) hg)
     have aU := Aside0.mk (Kd.V_afterv (ok := (fun k_ => (P0_ k_ ∨ w.heap.size ≤ k_) ∧ some k_ ≠ (u12 : Value).ownBlock ∧ some k_ ≠ (ak : Value).ownBlock ∧ some k_ ≠ (ai : Value).ownBlock ∧ some k_ ≠ (al : Value).ownBlock ∧ some k_ ≠ (v127 : Value).ownBlock ∧ k_ ≠ ao ∧ k_ ≠ an ∧ k_ ≠ ag ∧ k_ ≠ av)) (by (with_reducible repeat first | apply V_alloc | apply V_drewN | apply V_drew); exact Kd.V_mono HL129_0.out (fun _ hk => ⟨⟨hk.1.1, ⟨hk.1.2.2.1, ⟨hk.1.2.2.2.1, ⟨hk.1.2.2.2.2.1, ⟨hk.1.2.2.2.2.2.1, ⟨hk.2, ⟨hk.1.2.2.2.2.2.2.1, ⟨hk.1.2.2.2.2.2.2.2.1, ⟨hk.1.2.2.2.2.2.2.2.2.1, hk.1.2.2.2.2.2.2.2.2.2⟩⟩⟩⟩⟩⟩⟩⟩⟩, hk.1.2.1⟩)) hg hat)
     have ba := Aside0.mk (hb)
     have bD := Aside0.mk (ho)
     clear aw
     clear au
     clear ae
     clear af
     clear ac
     clear ad
     clear am
     clear ah
     clear aj
     clear az
     clear HO128
     clear HL129_0
     clear HB
     clear aC
     have aw := aT
     have au := aR
     have ae := aQ
     have af := aW
     have ac := aV
     have ad := bd
     have am := bc
     have ah := bb
     have aj := bh
     have az := bg
     have HO128 := aN
     have HL129_0 := aU
     have HB := ba
     have HO133 := bD
     clear aT aR aQ aW aV bd bc bb bh bg aN aU ba bD
     clear ho hb hg hat
     refine hK.out _ _ ?_
     clear hK K
     refine norm_ (a' := ?_) ?_ ?_
     rotate_left
     ·
      show Act.put _ (some 127) _ = _
      simp only [Act.put, setIfInBounds_toArray, set_cons_zero, set_cons_succ, i64_w, i32_w]
      rfl
     refine pure_ (i := 11) (N := some 11) (v := ?_) (a' := ?_) #[true, true, true, true, true, true, true, true, true, true, true, true] rfl rfl (any_of HT_.out (by kernel_rfl)) (fun _ _ _ h => h) (Or.inl ⟨by rfl, ?_⟩) ?_ ?_
     rotate_left
     ·
      intro w'
      go_simp
      with_reducible rfl
     rotate_left
     ·
      simp only [Act.put, setIfInBounds_toArray, set_cons_zero, set_cons_succ, i64_w, i32_w]
      rfl
     refine done_ (done_of HT_.out (by kernel_rfl)) ?_
     try go_wp2_with (first | ((with_reducible refine gate_builtin (b := .append) (xs := #[.tmp 128, .tmp 130]) rfl ?_); (try (refine gate_guard (by rfl) ?_; dsimp only)); at_builtin; refine Kd.R_append (Kd.int .i64) (w0 := w) w.heap.size rfl (.tmp 128) (.tmp 130) 22 3 (.int .i64 0) 8 rfl Try.underlying22 info3 rfl (by decide) (by omega) u12 aI aH [.int .i64 aH] (fun k_ => (w.heap.size ≤ k_) ∧ some k_ ≠ (v132 : Value).ownBlock) (fun _ => False) rfl rfl ?aP (fun _ hk => hk.elim) ?aF ?aO ?aB ?aS ?aL ?_; (case aP => exact rfl); (case aB => exact (by repeat (first | (with_reducible first | exact HB.out | apply below_alloc | apply pw_below_drewN | apply below_drew1 | refine below_set ?_ aD.out | refine below_set ?_ aE.out | refine below_set ?_ aG.out | refine below_set ?_ be.out) | exact HB.out))); (case aF => exact (fun k_ hk => ⟨(Nat.le_trans (below_size (by repeat (first | (with_reducible first | exact HB.out | apply below_alloc | apply pw_below_drewN | apply below_drew1 | refine below_set ?_ aD.out | refine below_set ?_ aE.out | refine below_set ?_ aG.out | refine below_set ?_ be.out) | exact HB.out))) hk), Kd.fresh' (Kd.R_lt (by (with_reducible repeat first | apply R_alloc | apply R_drewN | apply R_drew); exact HO133.out)) k_ hk⟩)); (case aO => exact (by (with_reducible repeat first | apply R_alloc | apply R_drewN | apply R_drew); exact au.out)); (case aS => exact (below_size (by repeat (first | (with_reducible first | exact HB.out | apply below_alloc | apply pw_below_drewN | apply below_drew1 | refine below_set ?_ aD.out | refine below_set ?_ aE.out | refine below_set ?_ aG.out | refine below_set ?_ be.out) | exact HB.out)))); (case aL => have := LMc68.out; omega); intro v135 w77 ho hb hg hat; rw [← Ny134.out] at ho; have aT := Aside0.mk (Kd.V_afterv (ok := (fun k_ => (P0_ k_ ∨ w.heap.size ≤ k_) ∧ some k_ ≠ (ak : Value).ownBlock ∧ some k_ ≠ (ai : Value).ownBlock ∧ some k_ ≠ (al : Value).ownBlock ∧ some k_ ≠ (v127 : Value).ownBlock ∧ some k_ ≠ (v132 : Value).ownBlock ∧ k_ ≠ ao ∧ k_ ≠ an ∧ k_ ≠ ag ∧ k_ ≠ av)) (by (with_reducible repeat first | apply V_alloc | apply V_drewN | apply V_drew); exact Kd.V_mono aw.out (fun _ hk => ⟨⟨hk.1.1, ⟨hk.1.2.2.1, ⟨hk.1.2.2.2.1, ⟨hk.1.2.2.2.2.1, ⟨hk.1.2.2.2.2.2.1, ⟨hk.2, ⟨hk.1.2.2.2.2.2.2.1, ⟨hk.1.2.2.2.2.2.2.2.1, ⟨hk.1.2.2.2.2.2.2.2.2.1, hk.1.2.2.2.2.2.2.2.2.2⟩⟩⟩⟩⟩⟩⟩⟩⟩, hk.1.2.1⟩)) hg hat); have aR := Aside0.mk (Kd.V_afterv (ok := (fun k_ => (P0_ k_ ∨ w.heap.size ≤ k_) ∧ some k_ ≠ (ak : Value).ownBlock ∧ some k_ ≠ (ai : Value).ownBlock ∧ some k_ ≠ (al : Value).ownBlock ∧ some k_ ≠ (v127 : Value).ownBlock ∧ some k_ ≠ (v132 : Value).ownBlock ∧ k_ ≠ ao ∧ k_ ≠ an ∧ k_ ≠ ag ∧ k_ ≠ av)) (by (with_reducible repeat first | apply V_alloc | apply V_drewN | apply V_drew); exact Kd.V_mono ae.out (fun _ hk => ⟨⟨hk.1.1, ⟨hk.1.2.2.1, ⟨hk.1.2.2.2.1, ⟨hk.1.2.2.2.2.1, ⟨hk.1.2.2.2.2.2.1, ⟨hk.2, ⟨hk.1.2.2.2.2.2.2.1, ⟨hk.1.2.2.2.2.2.2.2.1, ⟨hk.1.2.2.2.2.2.2.2.2.1, hk.1.2.2.2.2.2.2.2.2.2⟩⟩⟩⟩⟩⟩⟩⟩⟩, hk.1.2.1⟩)) hg hat); have aQ := Aside0.mk (Kd.S_after (ok := (fun k_ => (w.heap.size ≤ k_) ∧ some k_ ≠ (ai : Value).ownBlock ∧ some k_ ≠ (v132 : Value).ownBlock)) (by (with_reducible repeat first | apply S_alloc | apply S_drewN | apply S_drew); exact Kd.S_mono af.out (fun _ hk => ⟨⟨hk.1.1, ⟨hk.1.2.2, hk.2⟩⟩, hk.1.2.1⟩)) hg hat); have aW := Aside0.mk (Kd.S_after (ok := (fun k_ => (w.heap.size ≤ k_) ∧ some k_ ≠ (ak : Value).ownBlock ∧ some k_ ≠ (v132 : Value).ownBlock)) (by (with_reducible repeat first | apply S_alloc | apply S_drewN | apply S_drew); exact Kd.S_mono ac.out (fun _ hk => ⟨⟨hk.1.1, ⟨hk.1.2.2, hk.2⟩⟩, hk.1.2.1⟩)) hg hat); have aV := Aside0.mk (Kd.R_over' (by (with_reducible repeat first | apply R_alloc | apply R_drewN | apply R_drew); exact ad.out) (Kd.R_typed (by (with_reducible repeat first | apply R_alloc | apply R_drewN | apply R_drew); exact au.out)) (by decide) hg); have bd := Aside0.mk (blk_grown (g := ao) (o := .cells #[.slice none 0 0, .slice none 0 0, .slice none 0 0, .slice none 0 0] 32 (0, 0)) (by (with_reducible repeat first | apply blk_drewN | apply blk_drew | apply blk_alloc); exact am.out) hg (Kd.R_ne au.out am.out (by decide))); have bc := Aside0.mk (blk_grown (g := an) (o := .cells #[.slice (some ad129) l0.length c0, ak, ai, al] 32 (0, 0)) (by (with_reducible repeat first | apply blk_drewN | apply blk_drew | apply blk_alloc); exact ah.out) hg (Kd.R_ne au.out ah.out (by decide))); have bb := Aside0.mk (blk_grown (g := ag) (o := .cells #[.int .i64 ((rd_T106 ab aa).f0), .int .i64 ((rd_T106 ab aa).f1), .int .i64 ((rd_T106 ab aa).f2)] 106 (0, 0)) (by (with_reducible repeat first | apply blk_drewN | apply blk_drew | apply blk_alloc); exact aj.out) hg (Kd.R_ne au.out aj.out (by decide))); have bh := Aside0.mk (blk_grown (g := av) (o := .cells #[.int .i64 ax, .int .i64 ay, .int .i64 (wrap64 (((rd_T106 ab aa).f2) + 1))] 106 (0, 0)) (by (with_reducible repeat first | apply blk_drewN | apply blk_drew | apply blk_alloc); exact az.out) hg (Kd.R_ne au.out az.out (by decide))); have bg := Aside0.mk (Kd.R_over' (by (with_reducible repeat first | apply R_alloc | apply R_drewN | apply R_drew); exact HO128.out) (Kd.R_typed (by (with_reducible repeat first | apply R_alloc | apply R_drewN | apply R_drew); exact au.out)) (by decide) hg); have aN := Aside0.mk (Kd.V_afterv (ok := (fun k_ => (P0_ k_ ∨ w.heap.size ≤ k_) ∧ some k_ ≠ (ak : Value).ownBlock ∧ some k_ ≠ (ai : Value).ownBlock ∧ some k_ ≠ (al : Value).ownBlock ∧ some k_ ≠ (v127 : Value).ownBlock ∧ some k_ ≠ (v132 : Value).ownBlock ∧ k_ ≠ ao ∧ k_ ≠ an ∧ k_ ≠ ag ∧ k_ ≠ av)) (by (with_reducible repeat first | apply V_alloc | apply V_drewN | apply V_drew); exact Kd.V_mono HL129_0.out (fun _ hk => ⟨⟨hk.1.1, ⟨hk.1.2.2.1, ⟨hk.1.2.2.2.1, ⟨hk.1.2.2.2.2.1, ⟨hk.1.2.2.2.2.2.1, ⟨hk.2, ⟨hk.1.2.2.2.2.2.2.1, ⟨hk.1.2.2.2.2.2.2.2.1, ⟨hk.1.2.2.2.2.2.2.2.2.1, hk.1.2.2.2.2.2.2.2.2.2⟩⟩⟩⟩⟩⟩⟩⟩⟩, hk.1.2.1⟩)) hg hat); have aU := Aside0.mk (Kd.R_after (ok := (fun k_ => (w.heap.size ≤ k_))) (by (with_reducible repeat first | apply R_alloc | apply R_drewN | apply R_drew); exact HO133.out) hg hat); have ba := Aside0.mk (hb); have bD := Aside0.mk (ho); clear aw; clear ae; clear af; clear ac; clear ad; clear am; clear ah; clear aj; clear az; clear HO128; clear HL129_0; clear HO133; clear HB; clear au; have aw := aT; have ae := aR; have af := aQ; have ac := aW; have ad := aV; have am := bd; have ah := bc; have aj := bb; have az := bh; have HO128 := bg; have HL129_0 := aN; have HO133 := aU; have HB := ba; have HO136 := bD; clear aT aR aQ aW aV bd bc bb bh bg aN aU ba bD; clear ho hb hg hat))
     go_roundg ce
     case measure => have := cD.out; have := bP.out; have := bS.out; have := cY.out; have := dc.out; have := cm.out; have := dr.out; have := da.out; omega
     case rel => exact ⟨(dq), (ay), (du), (dx), (by first | rfl | (simp; done) | (simp [*]; done)), H', ⟨by have := cD.out; have := bP.out; have := bS.out; have := cY.out; have := dc.out; have := cm.out; have := dr.out; have := da.out; omega⟩, ⟨by (with_reducible repeat first | apply V_alloc | apply V_drewN | apply V_drew); exact Kd.V_mono aw.out (fun _ hk => ⟨hk.1.1, ⟨hk.1.2.2.2.2.1, ⟨hk.1.2.2.2.2.2.1, ⟨hk.2, ⟨hk.1.2.1, ⟨hk.1.2.2.1, ⟨hk.1.2.2.2.1, ⟨hk.1.2.2.2.2.2.2.1, ⟨hk.1.2.2.2.2.2.2.2.1, hk.1.2.2.2.2.2.2.2.2.1⟩⟩⟩⟩⟩⟩⟩⟩⟩)⟩, ⟨by (with_reducible repeat first | apply R_alloc | apply R_drewN | apply R_drew); exact Kd.R_mono HO128.out (fun _ hk => ⟨hk.1, hk.2.1⟩)⟩, ⟨by (with_reducible repeat first | apply R_alloc | apply R_drewN | apply R_drew); exact HO133.out⟩, ⟨by (with_reducible repeat first | apply R_alloc | apply R_drewN | apply R_drew); exact HO136.out⟩, ⟨by (with_reducible repeat first | apply V_alloc | apply V_drewN | apply V_drew); exact Kd.V_mono ae.out (fun _ hk => ⟨hk.1.1, ⟨hk.1.2.2.2.2.1, ⟨hk.1.2.2.2.2.2.1, ⟨hk.2, ⟨hk.1.2.1, ⟨hk.1.2.2.1, ⟨hk.1.2.2.2.1, ⟨hk.1.2.2.2.2.2.2.1, ⟨hk.1.2.2.2.2.2.2.2.1, hk.1.2.2.2.2.2.2.2.2.1⟩⟩⟩⟩⟩⟩⟩⟩⟩)⟩, ⟨by (with_reducible repeat first | apply S_alloc | apply S_drewN | apply S_drew); exact Kd.S_mono af.out (fun _ hk => ⟨hk.1.1, ⟨hk.1.2.2, ⟨hk.2, hk.1.2.1⟩⟩⟩)⟩, ⟨by (with_reducible repeat first | apply S_alloc | apply S_drewN | apply S_drew); exact Kd.S_mono ac.out (fun _ hk => ⟨hk.1.1, ⟨hk.1.2.2, ⟨hk.2, hk.1.2.1⟩⟩⟩)⟩, ⟨by (with_reducible repeat first | apply R_alloc | apply R_drewN | apply R_drew); exact ad.out⟩, ⟨by (with_reducible repeat first | apply blk_drewN | apply blk_drew | apply blk_alloc); exact am.out⟩, ⟨by (with_reducible repeat first | apply blk_drewN | apply blk_drew | apply blk_alloc); exact ah.out⟩, ⟨by (with_reducible repeat first | apply blk_drewN | apply blk_drew | apply blk_alloc); exact aj.out⟩, ⟨by repeat (first | (with_reducible first | exact HB.out | apply below_alloc | apply pw_below_drewN | apply below_drew1 | refine below_set ?_ aD.out | refine below_set ?_ aE.out | refine below_set ?_ aG.out | refine below_set ?_ be.out) | exact HB.out)⟩⟩
    rw [if_neg c61] at H
    have eC : (aH == (aJ.length : Int)) = false := beq_eq_false_iff_ne.mpr c61
    have eB : (aH != (aJ.length : Int)) = true := bne_iff_ne.mpr c61
    have c78 : 0 ≤ ax := Classical.byContradiction fun c_ => by rw [if_neg c_] at H; exact absurd H (by simp)
    rw [if_pos c78] at H
    have fn : decide (0 ≤ ax) = true := decide_eq_true c78
    clear c78
    have c79 : ax < (l0.length : Int) := Classical.byContradiction fun c_ => by rw [if_neg c_] at H; exact absurd H (by simp)
    rw [if_pos c79] at H
    have fm : decide (ax < (l0.length : Int)) = true := decide_eq_true c79
    clear c79
    have c80 : 0 ≤ ((rd_T106 ab aa).f2) := Classical.byContradiction fun c_ => by rw [if_neg c_] at H; exact absurd H (by simp)
    rw [if_pos c80] at H
    have fl : decide (0 ≤ ((rd_T106 ab aa).f2)) = true := decide_eq_true c80
    clear c80
    have c81 : ((rd_T106 ab aa).f2) < ((rd_L2 l0 ax).length : Int) := Classical.byContradiction fun c_ => by rw [if_neg c_] at H; exact absurd H (by simp)
    rw [if_pos c81] at H
    have fk : decide (((rd_T106 ab aa).f2) < ((rd_L2 l0 ax).length : Int)) = true := decide_eq_true c81
    clear c81
    have c82 : aM.length < 17592186044416 := Classical.byContradiction fun c_ => by rw [if_neg c_] at H; exact absurd H (by simp)
    rw [if_pos c82] at H
    have LMc82 := Aside0.mk c82
    clear c82
    obtain ⟨dt, hy139⟩ : ∃ y_ : List Int, y_ = (aM ++ [rd (rd_L2 l0 ax) ((rd_T106 ab aa).f2)]) := ⟨_, rfl⟩
    replace H : (if aI.length < 17592186044416 then (wordbookref15_Build.l1 ce l0 aJ aa ay aK dt (aI ++ [aH]) l0 ar aq ap ((rd_T106 ab aa).f0) ((rd_T106 ab aa).f1) ((rd_T106 ab aa).f2)) else (none)) = some (r1, r2, r3, r4, r5) := by first | (rw [hy139]; with_reducible exact H) | (have H2_ := (Option.bind_some _ _).symm.trans H; rw [hy139]; with_reducible exact H2_) | (have H2_ := (Option.bind_some _ _).symm.trans H; with_reducible exact H2_) | with_reducible exact H | (rw [hy139]; exact H) | exact H
    have Ny139 := Aside0.mk hy139
    clear hy139
    have c83 : aI.length < 17592186044416 := Classical.byContradiction fun c_ => by rw [if_neg c_] at H; exact absurd H (by simp)
    rw [if_pos c83] at H
    have LMc83 := Aside0.mk c83
    clear c83
    obtain ⟨dw, hy142⟩ : ∃ y_ : List Int, y_ = (aI ++ [aH]) := ⟨_, rfl⟩
    replace H : (wordbookref15_Build.l1 ce l0 aJ aa ay aK dt dw l0 ar aq ap ((rd_T106 ab aa).f0) ((rd_T106 ab aa).f1) ((rd_T106 ab aa).f2)) = some (r1, r2, r3, r4, r5) := by first | (rw [hy142]; with_reducible exact H) | (have H2_ := (Option.bind_some _ _).symm.trans H; rw [hy142]; with_reducible exact H2_) | (have H2_ := (Option.bind_some _ _).symm.trans H; with_reducible exact H2_) | with_reducible exact H | (rw [hy142]; exact H) | exact H
    have Ny142 := Aside0.mk hy142
    clear hy142
    have H' := Aside0.mk H
    clear H
    obtain ⟨db, cZ, eo84⟩ := Kd.R_slice aA.out
    subst eo84
    try go_wp2
    have aT := Aside0.mk (Kd.V_drew aw.out)
    have aR := Aside0.mk (Kd.R_drew aA.out)
    have aQ := Aside0.mk (Kd.R_drew aC.out)
    have aW := Aside0.mk (Kd.R_drew au.out)
    have aV := Aside0.mk (Kd.V_drew ae.out)
    have bd := Aside0.mk (Kd.S_drew af.out)
    have bc := Aside0.mk (Kd.S_drew ac.out)
    have bb := Aside0.mk (Kd.R_drew ad.out)
    have bh := Aside0.mk (blk_drew am.out)
    have bg := Aside0.mk (blk_drew ah.out)
    have aN := Aside0.mk (blk_drew aj.out)
    have aU := Aside0.mk (blk_drew az.out)
    have ba := Aside0.mk (below_drew1 HB.out)
    clear aw
    clear aA
    clear aC
    clear au
    clear ae
    clear af
    clear ac
    clear ad
    clear am
    clear ah
    clear aj
    clear az
    clear HB
    have aw := aT
    have aA := aR
    have aC := aQ
    have au := aW
    have ae := aV
    have af := bd
    have ac := bc
    have ad := bb
    have am := bh
    have ah := bg
    have aj := aN
    have az := aU
    have HB := ba
    clear aT aR aQ aW aV bd bc bb bh bg aN aU ba
    have p137 : 0 ≤ (ax : Int) := of_decide_eq_true (by first | (with_reducible assumption) | assumption)
    have q137 : ax < (l0.length : Int) := of_decide_eq_true (by first | (with_reducible assumption) | assumption)
    obtain ⟨ad137, A137_0, c137_0, e137, cw, hl137_0, hi137_0⟩ := at_L2 (Kd.V_reads' aw.out).2.2 ax p137 q137
    cases e137
    obtain ⟨ce137, hce137, hMe137, hcc137⟩ := Kd.V_get aw.out [] ax p137 (by first | exact q137 | exact of_decide_eq_true (by first | (with_reducible assumption) | assumption) | (have e_ := (Kd.V_reads' aw.out).1; omega))
    obtain ⟨ua137_0, uc137_0, rfl, ul137_0, ge137_0⟩ := Kd.FK_slice_open hMe137
    have hv137_0 := hcc137 0 _ rfl
    rw [Nat.add_zero, show ((Kd.slice 3 (Kd.int .i64))).sz = 1 from rfl, Nat.mul_one] at hv137_0
    replace hv137_0 := Option.some.inj (hv137_0.symm.trans cw)
    injection hv137_0 with hva_ hvn_ hvc_
    rw [hva_] at ge137_0
    rw [hvc_] at ul137_0
    have HL137_0 := Aside0.mk (show Kd.V (Kd.int .i64) 3 _ w.heap.size _ _ (rd_L2 l0 ax) from Kd.V_mk ul137_0 ge137_0)
    clear hva_ hvn_ hvc_ ge137_0 ul137_0
    clear hcc137 hce137
    have HR137_0 := Aside0.mk hi137_0
    have HC137_0 := Aside0.mk hl137_0
    clear hi137_0 hl137_0
    replace p137 := eq_true p137
    replace q137 := eq_true q137
    have p138 : 0 ≤ (((rd_T106 ab aa).f2) : Int) := of_decide_eq_true (by first | (with_reducible assumption) | assumption)
    have q138 : ((rd_T106 ab aa).f2) < ((rd_L2 l0 ax).length : Int) := of_decide_eq_true (by first | (with_reducible assumption) | assumption)
    obtain ⟨ad138, e138, cK⟩ := Kd.at_int (by repeat (first | (with_reducible exact HR137_0.out) | (with_reducible refine Kd.C_alloc ?_ _) | (with_reducible refine Kd.C_drewN ?_ _) | (with_reducible refine Kd.C_drew ?_) | exact HR137_0.out)) ((rd_T106 ab aa).f2) p138 q138
    cases e138
    replace p138 := eq_true p138
    replace q138 := eq_true q138
    refine start_ (n := 12) (S := fun w' => w'.cell? ⟨ag, 0, none⟩ = some (.int .i64 ((rd_T106 ab aa).f0)) ∧ w'.cell? ⟨ag, 1, none⟩ = some (.int .i64 ((rd_T106 ab aa).f1)) ∧ w'.cell? ⟨ag, 2, none⟩ = some (.int .i64 ((rd_T106 ab aa).f2)) ∧ w'.cell? (ad137.add (ax).toNat) = some (.slice (some ad138) (rd_L2 l0 ax).length c137_0) ∧ w'.cell? (ad138.add (((rd_T106 ab aa).f2)).toNat) = some (.int .i64 (rd (rd_L2 l0 ax) ((rd_T106 ab aa).f2)))) (ds := [9, 10]) #[false, false, false, false, false, false, false, false, false, false, false, false] (by kernel_rfl) rfl rfl ⟨(blk_cell aj.out 0).trans rfl, (blk_cell aj.out 1).trans rfl, (blk_cell aj.out 2).trans rfl, cw, cK⟩ (fun hHeld => ?_); refine with_tabW wordbookref15_Build.tab26 wordbookref15_Build.bits26 (fun HT_ HW_ => ?_)
    generalize wc.drew = w85 at aw aA aC au ae af ac ad am ah aj az HB HL137_0 HR137_0 cw cK hHeld ⊢
    refine pure_ (i := 0) (N := some 117) (v := ?_) (a' := ?_) #[true, false, false, false, false, false, false, false, false, false, false, false] rfl rfl (any_of HT_.out (by kernel_rfl)) (fun _ _ _ h => h) (Or.inl ⟨by rfl, ?_⟩) ?_ ?_
    rotate_left
    ·
     intro w'
     go_simp
     with_reducible rfl
    rotate_left
    ·
     simp only [Act.put, setIfInBounds_toArray, set_cons_zero, set_cons_succ, i64_w, i32_w]
     rfl
    refine pure_ (i := 1) (N := some 118) (v := ?_) (a' := ?_) #[true, true, false, false, false, false, false, false, false, false, false, false] rfl rfl (any_of HT_.out (by kernel_rfl)) (fun _ _ _ h => h) (Or.inl ⟨by rfl, ?_⟩) ?_ ?_
    rotate_left
    ·
     intro w'
     go_simp
     with_reducible rfl
    rotate_left
    ·
     simp only [Act.put, setIfInBounds_toArray, set_cons_zero, set_cons_succ, i64_w, i32_w]
     rfl
    refine pure_ (i := 2) (N := some 119) (v := ?_) (a' := ?_) #[true, true, true, false, false, false, false, false, false, false, false, false] rfl rfl (any_of HT_.out (by kernel_rfl)) (fun _ _ _ h => h) (Or.inl ⟨by rfl, ?_⟩) ?_ ?_
    rotate_left
    ·
     intro w'
     go_simp
     with_reducible rfl
    rotate_left
    ·
     simp only [Act.put, setIfInBounds_toArray, set_cons_zero, set_cons_succ, i64_w, i32_w]
     rfl
    refine pure_ (i := 3) (N := some 120) (v := ?_) (a' := ?_) #[true, true, true, true, false, false, false, false, false, false, false, false] rfl rfl (any_of HT_.out (by kernel_rfl)) (fun _ _ _ h => h) (Or.inl ⟨by rfl, ?_⟩) ?_ ?_
    rotate_left
    ·
     intro w'
     go_simp
     with_reducible rfl
    rotate_left
    ·
     simp only [Act.put, setIfInBounds_toArray, set_cons_zero, set_cons_succ, i64_w, i32_w]
     rfl
    refine pure_ (i := 5) (N := some 122) (v := ?_) (a' := ?_) #[true, true, true, true, false, true, false, false, false, false, false, false] rfl rfl (any_of HT_.out (by kernel_rfl)) (fun _ _ _ h => h) (Or.inl ⟨by rfl, ?_⟩) ?_ ?_
    rotate_left
    ·
     intro w'
     go_simp
     with_reducible rfl
    rotate_left
    ·
     simp only [Act.put, setIfInBounds_toArray, set_cons_zero, set_cons_succ, i64_w, i32_w]
     rfl
    refine take_ (i := 4) (N := some 121) (v := ?_) (a' := ?_) #[true, true, true, true, true, true, false, false, false, false, false, false] rfl rfl (take_ofW HT_.out HW_.out (by kernel_rfl)) (fun _ _ _ h => h) (Or.inl ⟨by rfl, ?_⟩) hHeld ?_ ?_
    rotate_left
    ·
     rintro w' ⟨s0, s1, s2, s3, s4⟩
     go_simp
     with_reducible rfl
    rotate_left
    ·
     simp only [Act.put, setIfInBounds_toArray, set_cons_zero, set_cons_succ, i64_w, i32_w]
     rfl
    refine take_ (i := 6) (N := some 123) (v := ?_) (a' := ?_) #[true, true, true, true, true, true, true, false, false, false, false, false] rfl rfl (take_ofW HT_.out HW_.out (by kernel_rfl)) (fun _ _ _ h => h) (Or.inl ⟨by rfl, ?_⟩) hHeld ?_ ?_
    rotate_left
    ·
     rintro w' ⟨s0, s1, s2, s3, s4⟩
     go_simp
     with_reducible rfl
    rotate_left
    ·
     simp only [Act.put, setIfInBounds_toArray, set_cons_zero, set_cons_succ, i64_w, i32_w]
     rfl
    refine pure_ (i := 7) (N := some 124) (v := ?_) (a' := ?_) #[true, true, true, true, true, true, true, true, false, false, false, false] rfl rfl (any_of HT_.out (by kernel_rfl)) (fun _ _ _ h => h) (Or.inl ⟨by rfl, ?_⟩) ?_ ?_
    rotate_left
    ·
     intro w'
     go_simp
     with_reducible rfl
    rotate_left
    ·
     simp only [Act.put, setIfInBounds_toArray, set_cons_zero, set_cons_succ, i64_w, i32_w]
     rfl
    refine take_ (i := 8) (N := some 125) (v := ?_) (a' := ?_) #[true, true, true, true, true, true, true, true, true, false, false, false] rfl rfl (take_ofW HT_.out HW_.out (by kernel_rfl)) (fun _ _ _ h => h) (Or.inl ⟨by rfl, ?_⟩) hHeld ?_ ?_
    rotate_left
    ·
     rintro w' ⟨s0, s1, s2, s3, s4⟩
     go_simp
     with_reducible rfl
    rotate_left
    ·
     simp only [Act.put, setIfInBounds_toArray, set_cons_zero, set_cons_succ, i64_w, i32_w]
     rfl
    refine last_ (i := 9) (N := some 126) #[true, true, true, true, true, true, true, true, true, true, false, false] rfl rfl (one_of HT_.out (by kernel_rfl)) (by decide) (fun K hK => ?_)
    refine value_ (w1 := ?_) (v := ?_) (by rfl) rfl ?_ ?_
    rotate_left 2
    ·
     go_simp
     constructor
     ·
      rfl
     rfl
    refine hK.out _ _ ?_
    clear hK K
    refine norm_ (a' := ?_) ?_ ?_
    rotate_left
    ·
     show Act.put _ (some 126) _ = _
     simp only [Act.put, setIfInBounds_toArray, set_cons_zero, set_cons_succ, i64_w, i32_w]
     rfl
    refine last_ (i := 10) (N := some 127) #[true, true, true, true, true, true, true, true, true, true, true, false] rfl rfl (one_of HT_.out (by kernel_rfl)) (by decide) (fun K hK => ?_)
    refine Kd.R_append_step (Kd.int .i64) (w0 := w) w.heap.size (by rfl) (.tmp 117) (.tmp 126) 22 3 (.int .i64 0) 8 rfl Try.underlying22 info3 rfl (by decide) (by omega) u11 aM (rd (rd_L2 l0 ax) ((rd_T106 ab aa).f2)) [.int .i64 (rd (rd_L2 l0 ax) ((rd_T106 ab aa).f2))] (fun k_ => (w.heap.size ≤ k_) ∧ some k_ ≠ (u12 : Value).ownBlock) (fun _ => False) rfl rfl ?aP (fun _ hk => hk.elim) ?aF ?aO ?aB ?aS ?aL ?_
    (case aP => exact rfl)
    (case aB => exact (by repeat (first | (with_reducible first | exact HB.out | apply below_alloc | apply pw_below_drewN | apply below_drew1 | refine below_set ?_ aD.out | refine below_set ?_ aE.out | refine below_set ?_ aG.out | refine below_set ?_ be.out) | exact HB.out)))
    (case aF => exact (fun k_ hk => ⟨(Nat.le_trans (below_size (by repeat (first | (with_reducible first | exact HB.out | apply below_alloc | apply pw_below_drewN | apply below_drew1 | refine below_set ?_ aD.out | refine below_set ?_ aE.out | refine below_set ?_ aG.out | refine below_set ?_ be.out) | exact HB.out))) hk), Kd.fresh' (Kd.R_lt (by (with_reducible repeat first | apply R_alloc | apply R_drewN | apply R_drew); exact au.out)) k_ hk⟩))
    (case aO => exact (by (with_reducible repeat first | apply R_alloc | apply R_drewN | apply R_drew); exact aC.out))
    (case aS => exact (below_size (by repeat (first | (with_reducible first | exact HB.out | apply below_alloc | apply pw_below_drewN | apply below_drew1 | refine below_set ?_ aD.out | refine below_set ?_ aE.out | refine below_set ?_ aG.out | refine below_set ?_ be.out) | exact HB.out))))
    (case aL => have := LMc82.out; omega)
    intro v140 w86 ho hb hg hat
    rw [← Ny139.out] at ho
    have aT := Aside0.mk (Kd.V_afterv (ok := (fun k_ => (P0_ k_ ∨ w.heap.size ≤ k_) ∧ some k_ ≠ (.slice db aJ.length cZ : Value).ownBlock ∧ some k_ ≠ (u12 : Value).ownBlock ∧ some k_ ≠ (ak : Value).ownBlock ∧ some k_ ≠ (ai : Value).ownBlock ∧ some k_ ≠ (al : Value).ownBlock ∧ k_ ≠ ao ∧ k_ ≠ an ∧ k_ ≠ ag ∧ k_ ≠ av)) (by (with_reducible repeat first | apply V_alloc | apply V_drewN | apply V_drew); exact Kd.V_mono aw.out (fun _ hk => ⟨⟨hk.1, ⟨hk.2.1, ⟨hk.2.2.2.1, ⟨hk.2.2.2.2.1, ⟨hk.2.2.2.2.2.1, ⟨hk.2.2.2.2.2.2.1, ⟨hk.2.2.2.2.2.2.2.1, ⟨hk.2.2.2.2.2.2.2.2.1, ⟨hk.2.2.2.2.2.2.2.2.2.1, hk.2.2.2.2.2.2.2.2.2.2⟩⟩⟩⟩⟩⟩⟩⟩⟩, hk.2.2.1⟩)) hg hat)
    have aR := Aside0.mk (Kd.R_over' (by (with_reducible repeat first | apply R_alloc | apply R_drewN | apply R_drew); exact aA.out) (Kd.R_typed (by (with_reducible repeat first | apply R_alloc | apply R_drewN | apply R_drew); exact aC.out)) (by decide) hg)
    have aQ := Aside0.mk (Kd.R_after (ok := (fun k_ => (w.heap.size ≤ k_))) (by (with_reducible repeat first | apply R_alloc | apply R_drewN | apply R_drew); exact au.out) hg hat)
    have aW := Aside0.mk (Kd.V_afterv (ok := (fun k_ => (P0_ k_ ∨ w.heap.size ≤ k_) ∧ some k_ ≠ (.slice db aJ.length cZ : Value).ownBlock ∧ some k_ ≠ (u12 : Value).ownBlock ∧ some k_ ≠ (ak : Value).ownBlock ∧ some k_ ≠ (ai : Value).ownBlock ∧ some k_ ≠ (al : Value).ownBlock ∧ k_ ≠ ao ∧ k_ ≠ an ∧ k_ ≠ ag ∧ k_ ≠ av)) (by (with_reducible repeat first | apply V_alloc | apply V_drewN | apply V_drew); exact Kd.V_mono ae.out (fun _ hk => ⟨⟨hk.1, ⟨hk.2.1, ⟨hk.2.2.2.1, ⟨hk.2.2.2.2.1, ⟨hk.2.2.2.2.2.1, ⟨hk.2.2.2.2.2.2.1, ⟨hk.2.2.2.2.2.2.2.1, ⟨hk.2.2.2.2.2.2.2.2.1, ⟨hk.2.2.2.2.2.2.2.2.2.1, hk.2.2.2.2.2.2.2.2.2.2⟩⟩⟩⟩⟩⟩⟩⟩⟩, hk.2.2.1⟩)) hg hat)
    have aV := Aside0.mk (Kd.S_after (ok := (fun k_ => (w.heap.size ≤ k_) ∧ some k_ ≠ (u12 : Value).ownBlock ∧ some k_ ≠ (ai : Value).ownBlock)) (by (with_reducible repeat first | apply S_alloc | apply S_drewN | apply S_drew); exact Kd.S_mono af.out (fun _ hk => ⟨⟨hk.1, ⟨hk.2.2.1, hk.2.2.2⟩⟩, hk.2.1⟩)) hg hat)
    have bd := Aside0.mk (Kd.S_after (ok := (fun k_ => (w.heap.size ≤ k_) ∧ some k_ ≠ (u12 : Value).ownBlock ∧ some k_ ≠ (ak : Value).ownBlock)) (by (with_reducible repeat first | apply S_alloc | apply S_drewN | apply S_drew); exact Kd.S_mono ac.out (fun _ hk => ⟨⟨hk.1, ⟨hk.2.2.1, hk.2.2.2⟩⟩, hk.2.1⟩)) hg hat)
    have bc := Aside0.mk (Kd.R_over' (by (with_reducible repeat first | apply R_alloc | apply R_drewN | apply R_drew); exact ad.out) (Kd.R_typed (by (with_reducible repeat first | apply R_alloc | apply R_drewN | apply R_drew); exact aC.out)) (by decide) hg)
    have bb := Aside0.mk (blk_grown (g := ao) (o := .cells #[.slice none 0 0, .slice none 0 0, .slice none 0 0, .slice none 0 0] 32 (0, 0)) (by (with_reducible repeat first | apply blk_drewN | apply blk_drew | apply blk_alloc); exact am.out) hg (Kd.R_ne aC.out am.out (by decide)))
    have bh := Aside0.mk (blk_grown (g := an) (o := .cells #[.slice (some ad137) l0.length c0, ak, ai, al] 32 (0, 0)) (by (with_reducible repeat first | apply blk_drewN | apply blk_drew | apply blk_alloc); exact ah.out) hg (Kd.R_ne aC.out ah.out (by decide)))
    have bg := Aside0.mk (blk_grown (g := ag) (o := .cells #[.int .i64 ((rd_T106 ab aa).f0), .int .i64 ((rd_T106 ab aa).f1), .int .i64 ((rd_T106 ab aa).f2)] 106 (0, 0)) (by (with_reducible repeat first | apply blk_drewN | apply blk_drew | apply blk_alloc); exact aj.out) hg (Kd.R_ne aC.out aj.out (by decide)))
    have aN := Aside0.mk (blk_grown (g := av) (o := .cells #[.int .i64 ax, .int .i64 ay, .int .i64 (wrap64 (((rd_T106 ab aa).f2) + 1))] 106 (0, 0)) (by (with_reducible repeat first | apply blk_drewN | apply blk_drew | apply blk_alloc); exact az.out) hg (Kd.R_ne aC.out az.out (by decide)))
    have aU := Aside0.mk (Kd.V_afterv (ok := (fun k_ => (P0_ k_ ∨ w.heap.size ≤ k_) ∧ some k_ ≠ (.slice db aJ.length cZ : Value).ownBlock ∧ some k_ ≠ (u12 : Value).ownBlock ∧ some k_ ≠ (ak : Value).ownBlock ∧ some k_ ≠ (ai : Value).ownBlock ∧ some k_ ≠ (al : Value).ownBlock ∧ k_ ≠ ao ∧ k_ ≠ an ∧ k_ ≠ ag ∧ k_ ≠ av)) (by (with_reducible repeat first | apply V_alloc | apply V_drewN | apply V_drew); exact Kd.V_mono HL137_0.out (fun _ hk => ⟨⟨hk.1, ⟨hk.2.1, ⟨hk.2.2.2.1, ⟨hk.2.2.2.2.1, ⟨hk.2.2.2.2.2.1, ⟨hk.2.2.2.2.2.2.1, ⟨hk.2.2.2.2.2.2.2.1, ⟨hk.2.2.2.2.2.2.2.2.1, ⟨hk.2.2.2.2.2.2.2.2.2.1, hk.2.2.2.2.2.2.2.2.2.2⟩⟩⟩⟩⟩⟩⟩⟩⟩, hk.2.2.1⟩)) hg hat)
    have ba := Aside0.mk (hb)
    have bD := Aside0.mk (ho)
    clear aw
    clear aA
    clear au
    clear ae
    clear af
    clear ac
    clear ad
    clear am
    clear ah
    clear aj
    clear az
    clear HL137_0
    clear HB
    clear aC
    have aw := aT
    have aA := aR
    have au := aQ
    have ae := aW
    have af := aV
    have ac := bd
    have ad := bc
    have am := bb
    have ah := bh
    have aj := bg
    have az := aN
    have HL137_0 := aU
    have HB := ba
    have HO141 := bD
    clear aT aR aQ aW aV bd bc bb bh bg aN aU ba bD
    clear ho hb hg hat
    refine hK.out _ _ ?_
    clear hK K
    refine norm_ (a' := ?_) ?_ ?_
    rotate_left
    ·
     show Act.put _ (some 127) _ = _
     simp only [Act.put, setIfInBounds_toArray, set_cons_zero, set_cons_succ, i64_w, i32_w]
     rfl
    refine pure_ (i := 11) (N := some 11) (v := ?_) (a' := ?_) #[true, true, true, true, true, true, true, true, true, true, true, true] rfl rfl (any_of HT_.out (by kernel_rfl)) (fun _ _ _ h => h) (Or.inl ⟨by rfl, ?_⟩) ?_ ?_
    rotate_left
    ·
     intro w'
     go_simp
     with_reducible rfl
    rotate_left
    ·
     simp only [Act.put, setIfInBounds_toArray, set_cons_zero, set_cons_succ, i64_w, i32_w]
     rfl
    refine done_ (done_of HT_.out (by kernel_rfl)) ?_
    try go_wp2_with (first | ((with_reducible refine gate_builtin (b := .append) (xs := #[.tmp 128, .tmp 130]) rfl ?_); (try (refine gate_guard (by rfl) ?_; dsimp only)); at_builtin; refine Kd.R_append (Kd.int .i64) (w0 := w) w.heap.size rfl (.tmp 128) (.tmp 130) 22 3 (.int .i64 0) 8 rfl Try.underlying22 info3 rfl (by decide) (by omega) u12 aI aH [.int .i64 aH] (fun k_ => (w.heap.size ≤ k_) ∧ some k_ ≠ (v140 : Value).ownBlock) (fun _ => False) rfl rfl ?aP (fun _ hk => hk.elim) ?aF ?aO ?aB ?aS ?aL ?_; (case aP => exact rfl); (case aB => exact (by repeat (first | (with_reducible first | exact HB.out | apply below_alloc | apply pw_below_drewN | apply below_drew1 | refine below_set ?_ aD.out | refine below_set ?_ aE.out | refine below_set ?_ aG.out | refine below_set ?_ be.out) | exact HB.out))); (case aF => exact (fun k_ hk => ⟨(Nat.le_trans (below_size (by repeat (first | (with_reducible first | exact HB.out | apply below_alloc | apply pw_below_drewN | apply below_drew1 | refine below_set ?_ aD.out | refine below_set ?_ aE.out | refine below_set ?_ aG.out | refine below_set ?_ be.out) | exact HB.out))) hk), Kd.fresh' (Kd.R_lt (by (with_reducible repeat first | apply R_alloc | apply R_drewN | apply R_drew); exact HO141.out)) k_ hk⟩)); (case aO => exact (by (with_reducible repeat first | apply R_alloc | apply R_drewN | apply R_drew); exact au.out)); (case aS => exact (below_size (by repeat (first | (with_reducible first | exact HB.out | apply below_alloc | apply pw_below_drewN | apply below_drew1 | refine below_set ?_ aD.out | refine below_set ?_ aE.out | refine below_set ?_ aG.out | refine below_set ?_ be.out) | exact HB.out)))); (case aL => have := LMc83.out; omega); intro v143 w87 ho hb hg hat; rw [← Ny142.out] at ho; have aT := Aside0.mk (Kd.V_afterv (ok := (fun k_ => (P0_ k_ ∨ w.heap.size ≤ k_) ∧ some k_ ≠ (.slice db aJ.length cZ : Value).ownBlock ∧ some k_ ≠ (ak : Value).ownBlock ∧ some k_ ≠ (ai : Value).ownBlock ∧ some k_ ≠ (al : Value).ownBlock ∧ some k_ ≠ (v140 : Value).ownBlock ∧ k_ ≠ ao ∧ k_ ≠ an ∧ k_ ≠ ag ∧ k_ ≠ av)) (by (with_reducible repeat first | apply V_alloc | apply V_drewN | apply V_drew); exact Kd.V_mono aw.out (fun _ hk => ⟨⟨hk.1.1, ⟨hk.1.2.1, ⟨hk.1.2.2.2.1, ⟨hk.1.2.2.2.2.1, ⟨hk.1.2.2.2.2.2.1, ⟨hk.2, ⟨hk.1.2.2.2.2.2.2.1, ⟨hk.1.2.2.2.2.2.2.2.1, ⟨hk.1.2.2.2.2.2.2.2.2.1, hk.1.2.2.2.2.2.2.2.2.2⟩⟩⟩⟩⟩⟩⟩⟩⟩, hk.1.2.2.1⟩)) hg hat); have aR := Aside0.mk (Kd.R_over' (by (with_reducible repeat first | apply R_alloc | apply R_drewN | apply R_drew); exact aA.out) (Kd.R_typed (by (with_reducible repeat first | apply R_alloc | apply R_drewN | apply R_drew); exact au.out)) (by decide) hg); have aQ := Aside0.mk (Kd.V_afterv (ok := (fun k_ => (P0_ k_ ∨ w.heap.size ≤ k_) ∧ some k_ ≠ (.slice db aJ.length cZ : Value).ownBlock ∧ some k_ ≠ (ak : Value).ownBlock ∧ some k_ ≠ (ai : Value).ownBlock ∧ some k_ ≠ (al : Value).ownBlock ∧ some k_ ≠ (v140 : Value).ownBlock ∧ k_ ≠ ao ∧ k_ ≠ an ∧ k_ ≠ ag ∧ k_ ≠ av)) (by (with_reducible repeat first | apply V_alloc | apply V_drewN | apply V_drew); exact Kd.V_mono ae.out (fun _ hk => ⟨⟨hk.1.1, ⟨hk.1.2.1, ⟨hk.1.2.2.2.1, ⟨hk.1.2.2.2.2.1, ⟨hk.1.2.2.2.2.2.1, ⟨hk.2, ⟨hk.1.2.2.2.2.2.2.1, ⟨hk.1.2.2.2.2.2.2.2.1, ⟨hk.1.2.2.2.2.2.2.2.2.1, hk.1.2.2.2.2.2.2.2.2.2⟩⟩⟩⟩⟩⟩⟩⟩⟩, hk.1.2.2.1⟩)) hg hat); have aW := Aside0.mk (Kd.S_after (ok := (fun k_ => (w.heap.size ≤ k_) ∧ some k_ ≠ (ai : Value).ownBlock ∧ some k_ ≠ (v140 : Value).ownBlock)) (by (with_reducible repeat first | apply S_alloc | apply S_drewN | apply S_drew); exact Kd.S_mono af.out (fun _ hk => ⟨⟨hk.1.1, ⟨hk.1.2.2, hk.2⟩⟩, hk.1.2.1⟩)) hg hat); have aV := Aside0.mk (Kd.S_after (ok := (fun k_ => (w.heap.size ≤ k_) ∧ some k_ ≠ (ak : Value).ownBlock ∧ some k_ ≠ (v140 : Value).ownBlock)) (by (with_reducible repeat first | apply S_alloc | apply S_drewN | apply S_drew); exact Kd.S_mono ac.out (fun _ hk => ⟨⟨hk.1.1, ⟨hk.1.2.2, hk.2⟩⟩, hk.1.2.1⟩)) hg hat); have bd := Aside0.mk (Kd.R_over' (by (with_reducible repeat first | apply R_alloc | apply R_drewN | apply R_drew); exact ad.out) (Kd.R_typed (by (with_reducible repeat first | apply R_alloc | apply R_drewN | apply R_drew); exact au.out)) (by decide) hg); have bc := Aside0.mk (blk_grown (g := ao) (o := .cells #[.slice none 0 0, .slice none 0 0, .slice none 0 0, .slice none 0 0] 32 (0, 0)) (by (with_reducible repeat first | apply blk_drewN | apply blk_drew | apply blk_alloc); exact am.out) hg (Kd.R_ne au.out am.out (by decide))); have bb := Aside0.mk (blk_grown (g := an) (o := .cells #[.slice (some ad137) l0.length c0, ak, ai, al] 32 (0, 0)) (by (with_reducible repeat first | apply blk_drewN | apply blk_drew | apply blk_alloc); exact ah.out) hg (Kd.R_ne au.out ah.out (by decide))); have bh := Aside0.mk (blk_grown (g := ag) (o := .cells #[.int .i64 ((rd_T106 ab aa).f0), .int .i64 ((rd_T106 ab aa).f1), .int .i64 ((rd_T106 ab aa).f2)] 106 (0, 0)) (by (with_reducible repeat first | apply blk_drewN | apply blk_drew | apply blk_alloc); exact aj.out) hg (Kd.R_ne au.out aj.out (by decide))); have bg := Aside0.mk (blk_grown (g := av) (o := .cells #[.int .i64 ax, .int .i64 ay, .int .i64 (wrap64 (((rd_T106 ab aa).f2) + 1))] 106 (0, 0)) (by (with_reducible repeat first | apply blk_drewN | apply blk_drew | apply blk_alloc); exact az.out) hg (Kd.R_ne au.out az.out (by decide))); have aN := Aside0.mk (Kd.V_afterv (ok := (fun k_ => (P0_ k_ ∨ w.heap.size ≤ k_) ∧ some k_ ≠ (.slice db aJ.length cZ : Value).ownBlock ∧ some k_ ≠ (ak : Value).ownBlock ∧ some k_ ≠ (ai : Value).ownBlock ∧ some k_ ≠ (al : Value).ownBlock ∧ some k_ ≠ (v140 : Value).ownBlock ∧ k_ ≠ ao ∧ k_ ≠ an ∧ k_ ≠ ag ∧ k_ ≠ av)) (by (with_reducible repeat first | apply V_alloc | apply V_drewN | apply V_drew); exact Kd.V_mono HL137_0.out (fun _ hk => ⟨⟨hk.1.1, ⟨hk.1.2.1, ⟨hk.1.2.2.2.1, ⟨hk.1.2.2.2.2.1, ⟨hk.1.2.2.2.2.2.1, ⟨hk.2, ⟨hk.1.2.2.2.2.2.2.1, ⟨hk.1.2.2.2.2.2.2.2.1, ⟨hk.1.2.2.2.2.2.2.2.2.1, hk.1.2.2.2.2.2.2.2.2.2⟩⟩⟩⟩⟩⟩⟩⟩⟩, hk.1.2.2.1⟩)) hg hat); have aU := Aside0.mk (Kd.R_after (ok := (fun k_ => (w.heap.size ≤ k_))) (by (with_reducible repeat first | apply R_alloc | apply R_drewN | apply R_drew); exact HO141.out) hg hat); have ba := Aside0.mk (hb); have bD := Aside0.mk (ho); clear aw; clear aA; clear ae; clear af; clear ac; clear ad; clear am; clear ah; clear aj; clear az; clear HL137_0; clear HO141; clear HB; clear au; have aw := aT; have aA := aR; have ae := aQ; have af := aW; have ac := aV; have ad := bd; have am := bc; have ah := bb; have aj := bh; have az := bg; have HL137_0 := aN; have HO141 := aU; have HB := ba; have HO144 := bD; clear aT aR aQ aW aV bd bc bb bh bg aN aU ba bD; clear ho hb hg hat))
    go_roundg ce
    case measure => have := cD.out; have := bP.out; have := bS.out; have := cY.out; have := dc.out; have := cm.out; have := dr.out; have := da.out; omega
    case rel => exact ⟨(aJ), (ay), (dt), (dw), (by first | rfl | (simp; done) | (simp [*]; done)), H', ⟨by have := cD.out; have := bP.out; have := bS.out; have := cY.out; have := dc.out; have := cm.out; have := dr.out; have := da.out; omega⟩, ⟨by (with_reducible repeat first | apply V_alloc | apply V_drewN | apply V_drew); exact Kd.V_mono aw.out (fun _ hk => ⟨hk.1.1, ⟨hk.1.2.1, ⟨hk.1.2.2.2.2.2.1, ⟨hk.2, ⟨hk.1.2.2.1, ⟨hk.1.2.2.2.1, ⟨hk.1.2.2.2.2.1, ⟨hk.1.2.2.2.2.2.2.1, ⟨hk.1.2.2.2.2.2.2.2.1, hk.1.2.2.2.2.2.2.2.2.1⟩⟩⟩⟩⟩⟩⟩⟩⟩)⟩, ⟨by (with_reducible repeat first | apply R_alloc | apply R_drewN | apply R_drew); exact Kd.R_mono aA.out (fun _ hk => ⟨hk.1, hk.2.1⟩)⟩, ⟨by (with_reducible repeat first | apply R_alloc | apply R_drewN | apply R_drew); exact HO141.out⟩, ⟨by (with_reducible repeat first | apply R_alloc | apply R_drewN | apply R_drew); exact HO144.out⟩, ⟨by (with_reducible repeat first | apply V_alloc | apply V_drewN | apply V_drew); exact Kd.V_mono ae.out (fun _ hk => ⟨hk.1.1, ⟨hk.1.2.1, ⟨hk.1.2.2.2.2.2.1, ⟨hk.2, ⟨hk.1.2.2.1, ⟨hk.1.2.2.2.1, ⟨hk.1.2.2.2.2.1, ⟨hk.1.2.2.2.2.2.2.1, ⟨hk.1.2.2.2.2.2.2.2.1, hk.1.2.2.2.2.2.2.2.2.1⟩⟩⟩⟩⟩⟩⟩⟩⟩)⟩, ⟨by (with_reducible repeat first | apply S_alloc | apply S_drewN | apply S_drew); exact Kd.S_mono af.out (fun _ hk => ⟨hk.1.1, ⟨hk.1.2.2, ⟨hk.2, hk.1.2.1⟩⟩⟩)⟩, ⟨by (with_reducible repeat first | apply S_alloc | apply S_drewN | apply S_drew); exact Kd.S_mono ac.out (fun _ hk => ⟨hk.1.1, ⟨hk.1.2.2, ⟨hk.2, hk.1.2.1⟩⟩⟩)⟩, ⟨by (with_reducible repeat first | apply R_alloc | apply R_drewN | apply R_drew); exact ad.out⟩, ⟨by (with_reducible repeat first | apply blk_drewN | apply blk_drew | apply blk_alloc); exact am.out⟩, ⟨by (with_reducible repeat first | apply blk_drewN | apply blk_drew | apply blk_alloc); exact ah.out⟩, ⟨by (with_reducible repeat first | apply blk_drewN | apply blk_drew | apply blk_alloc); exact aj.out⟩, ⟨by repeat (first | (with_reducible first | exact HB.out | apply below_alloc | apply pw_below_drewN | apply below_drew1 | refine below_set ?_ aD.out | refine below_set ?_ aE.out | refine below_set ?_ aG.out | refine below_set ?_ be.out) | exact HB.out)⟩⟩
   rw [if_neg c27] at H
   have cG : decide (ax < ((rd_T106 ab aa).f1)) = false := decide_eq_false c27
   clear c27
   have c88 : ar.length < 5864062014805 := Classical.byContradiction fun c_ => by rw [if_neg c_] at H; exact absurd H (by simp)
   rw [if_pos c88] at H
   have LMc88 := Aside0.mk c88
   clear c88
   obtain ⟨bf, hy110⟩ : ∃ y_ : List (List Int), y_ = (ar ++ [aM]) := ⟨_, rfl⟩
   replace H : (if aq.length < 5864062014805 then (if ap.length < 140737488355328 then (wordbookref15_Build.l0 k4 l0 aJ (wrap64 (aa + 1)) l0 bf (aq ++ [aI]) (ap ++ [aK])) else (none)) else (none)) = some (r1, r2, r3, r4, r5) := by first | (rw [hy110]; with_reducible exact H) | (have H2_ := (Option.bind_some _ _).symm.trans H; rw [hy110]; with_reducible exact H2_) | (have H2_ := (Option.bind_some _ _).symm.trans H; with_reducible exact H2_) | with_reducible exact H | (rw [hy110]; exact H) | exact H
   have Ny110 := Aside0.mk hy110
   clear hy110
   have c89 : aq.length < 5864062014805 := Classical.byContradiction fun c_ => by rw [if_neg c_] at H; exact absurd H (by simp)
   rw [if_pos c89] at H
   have LMc89 := Aside0.mk c89
   clear c89
   obtain ⟨bC, hy113⟩ : ∃ y_ : List (List Int), y_ = (aq ++ [aI]) := ⟨_, rfl⟩
   replace H : (if ap.length < 140737488355328 then (wordbookref15_Build.l0 k4 l0 aJ (wrap64 (aa + 1)) l0 bf bC (ap ++ [aK])) else (none)) = some (r1, r2, r3, r4, r5) := by first | (rw [hy113]; with_reducible exact H) | (have H2_ := (Option.bind_some _ _).symm.trans H; rw [hy113]; with_reducible exact H2_) | (have H2_ := (Option.bind_some _ _).symm.trans H; with_reducible exact H2_) | with_reducible exact H | (rw [hy113]; exact H) | exact H
   have Ny113 := Aside0.mk hy113
   clear hy113
   have c90 : ap.length < 140737488355328 := Classical.byContradiction fun c_ => by rw [if_neg c_] at H; exact absurd H (by simp)
   rw [if_pos c90] at H
   have LMc90 := Aside0.mk c90
   clear c90
   obtain ⟨cu, hy116⟩ : ∃ y_ : List Bool, y_ = (ap ++ [aK]) := ⟨_, rfl⟩
   replace H : (wordbookref15_Build.l0 k4 l0 aJ (wrap64 (aa + 1)) l0 bf bC cu) = some (r1, r2, r3, r4, r5) := by first | (rw [hy116]; with_reducible exact H) | (have H2_ := (Option.bind_some _ _).symm.trans H; rw [hy116]; with_reducible exact H2_) | (have H2_ := (Option.bind_some _ _).symm.trans H; with_reducible exact H2_) | with_reducible exact H | (rw [hy116]; exact H) | exact H
   have Ny116 := Aside0.mk hy116
   clear hy116
   have H' := Aside0.mk H
   clear H
   have hnb91 := bO.out
   have hnc91 := aY.out
   have hnb92 := bl.out
   have hnc92 := aX.out
   have fd : wr.cell? ⟨ag, 0, none⟩ = some (.int .i64 ((rd_T106 ab aa).f0)) := (blk_cell aj.out 0).trans rfl
   have fc : wr.cell? ⟨ag, 1, none⟩ = some (.int .i64 ((rd_T106 ab aa).f1)) := (blk_cell aj.out 1).trans rfl
   have fb : wr.cell? ⟨ag, 2, none⟩ = some (.int .i64 ((rd_T106 ab aa).f2)) := (blk_cell aj.out 2).trans rfl
   have eP := blk_frozen aj.out 0
   have eO := blk_frozen aj.out 1
   have eN := blk_frozen aj.out 2
   have hnb94 := bT.out
   have hnc94 := aZ.out
   have fa : wr.cell? ⟨an, 0, none⟩ = some (.slice A0 l0.length c0) := (blk_cell ah.out 0).trans rfl
   have eZ : wr.cell? ⟨an, 1, none⟩ = some (ak) := (blk_cell ah.out 1).trans rfl
   have eY : wr.cell? ⟨an, 2, none⟩ = some (ai) := (blk_cell ah.out 2).trans rfl
   have eX : wr.cell? ⟨an, 3, none⟩ = some (al) := (blk_cell ah.out 3).trans rfl
   have eM := blk_frozen ah.out 0
   have eL := blk_frozen ah.out 1
   have eK := blk_frozen ah.out 2
   have eJ := blk_frozen ah.out 3
   obtain ⟨dp, dg, eo97⟩ := Kd.R_slice aC.out
   subst eo97
   go_wp2_with (first | ((with_reducible refine gate_builtin (b := .append) (xs := #[.tmp 134, .tmp 136]) rfl ?_); (try (refine gate_guard (by rfl) ?_; dsimp only)); at_builtin; refine Kd.S_append (Kd.slice 3 (Kd.int .i64)) (w0 := w) w.heap.size rfl (.tmp 134) (.tmp 136) 23 22 (.slice none 0 0) 24 rfl Try.underlying23 info22 rfl (by decide) (by omega) ak ar aM [.slice dp aM.length dg] (fun k_ => (w.heap.size ≤ k_) ∧ some k_ ≠ (u12 : Value).ownBlock ∧ some k_ ≠ (ai : Value).ownBlock) (fun k_ => some k_ = (.slice dp aM.length dg : Value).ownBlock) rfl rfl ?aP (fun k_ hk_ => ((Kd.R_mono (ok' := fun k_ => ((fun k_ => (w.heap.size ≤ k_) ∧ some k_ ≠ (u12 : Value).ownBlock ∧ some k_ ≠ (ai : Value).ownBlock)) k_ ∧ some k_ ≠ (ak : Value).ownBlock) (Kd.R_apart' (Kd.R_apart' (aC.out) (Kd.S_typed ac.out) (by decide)) (Kd.S_typed af.out) (by decide)) (fun k_ hk => ⟨⟨hk.1.1.1, ⟨hk.1.1.2, hk.1.2⟩⟩, hk.2⟩))).1 k_ hk_.symm) ?aF ?aO ?aB ?aS ?aL ?_; (case aP => exact Kd.M_row (Kd.R_mono (Kd.R_tight rfl (Kd.R_mono (ok' := fun k_ => ((fun k_ => (w.heap.size ≤ k_) ∧ some k_ ≠ (u12 : Value).ownBlock ∧ some k_ ≠ (ai : Value).ownBlock)) k_ ∧ some k_ ≠ (ak : Value).ownBlock) (Kd.R_apart' (Kd.R_apart' (aC.out) (Kd.S_typed ac.out) (by decide)) (Kd.S_typed af.out) (by decide)) (fun k_ hk => ⟨⟨hk.1.1.1, ⟨hk.1.1.2, hk.1.2⟩⟩, hk.2⟩))) (fun _ h_ => h_))); (case aB => exact (by repeat (first | (with_reducible first | exact HB.out | apply below_alloc | apply pw_below_drewN | apply below_drew1 | refine below_set ?_ aD.out | refine below_set ?_ aE.out | refine below_set ?_ aG.out) | exact HB.out))); (case aF => exact (fun k_ hk => ⟨(Nat.le_trans (below_size (by repeat (first | (with_reducible first | exact HB.out | apply below_alloc | apply pw_below_drewN | apply below_drew1 | refine below_set ?_ aD.out | refine below_set ?_ aE.out | refine below_set ?_ aG.out) | exact HB.out))) hk), Kd.fresh' (Kd.R_lt (by (with_reducible repeat first | apply R_alloc | apply R_drewN | apply R_drew); exact au.out)) k_ hk, Kd.fresh' (Kd.S_lt (by (with_reducible repeat first | apply S_alloc | apply S_drewN | apply S_drew); exact ac.out)) k_ hk⟩)); (case aO => exact (by (with_reducible repeat first | apply S_alloc | apply S_drewN | apply S_drew); exact Kd.S_mono af.out (fun k_ hk => ⟨⟨hk.1, ⟨hk.2.2.1, hk.2.2.2⟩⟩, fun e_ => hk.2.1 e_⟩))); (case aS => exact (below_size (by repeat (first | (with_reducible first | exact HB.out | apply below_alloc | apply pw_below_drewN | apply below_drew1 | refine below_set ?_ aD.out | refine below_set ?_ aE.out | refine below_set ?_ aG.out) | exact HB.out)))); (case aL => have := LMc88.out; omega); intro v111 w96 ho hb hg hat; rw [← Ny110.out] at ho; have aT := Aside0.mk (Kd.V_afterv (ok := (fun k_ => (P0_ k_ ∨ w.heap.size ≤ k_) ∧ some k_ ≠ (u6 : Value).ownBlock ∧ some k_ ≠ (.slice dp aM.length dg : Value).ownBlock ∧ some k_ ≠ (u12 : Value).ownBlock ∧ some k_ ≠ (ai : Value).ownBlock ∧ some k_ ≠ (al : Value).ownBlock ∧ k_ ≠ ao ∧ k_ ≠ an ∧ k_ ≠ ag)) (by (with_reducible repeat first | apply V_alloc | apply V_drewN | apply V_drew); exact Kd.V_mono aw.out (fun _ hk => ⟨⟨hk.1, ⟨hk.2.1, ⟨hk.2.2.1, ⟨hk.2.2.2.1, ⟨hk.2.2.2.2.2.1, ⟨hk.2.2.2.2.2.2.1, ⟨hk.2.2.2.2.2.2.2.1, ⟨hk.2.2.2.2.2.2.2.2.1, hk.2.2.2.2.2.2.2.2.2⟩⟩⟩⟩⟩⟩⟩⟩, hk.2.2.2.2.1⟩)) hg hat); have aR := Aside0.mk (Kd.R_over' (by (with_reducible repeat first | apply R_alloc | apply R_drewN | apply R_drew); exact aA.out) (Kd.S_typed (by (with_reducible repeat first | apply S_alloc | apply S_drewN | apply S_drew); exact af.out)) (by decide) hg); have aQ := Aside0.mk (Kd.R_over' (by (with_reducible repeat first | apply R_alloc | apply R_drewN | apply R_drew); exact au.out) (Kd.S_typed (by (with_reducible repeat first | apply S_alloc | apply S_drewN | apply S_drew); exact af.out)) (by decide) hg); have aW := Aside0.mk (Kd.V_afterv (ok := (fun k_ => (P0_ k_ ∨ w.heap.size ≤ k_) ∧ some k_ ≠ (u6 : Value).ownBlock ∧ some k_ ≠ (.slice dp aM.length dg : Value).ownBlock ∧ some k_ ≠ (u12 : Value).ownBlock ∧ some k_ ≠ (ai : Value).ownBlock ∧ some k_ ≠ (al : Value).ownBlock ∧ k_ ≠ ao ∧ k_ ≠ an ∧ k_ ≠ ag)) (by (with_reducible repeat first | apply V_alloc | apply V_drewN | apply V_drew); exact Kd.V_mono ae.out (fun _ hk => ⟨⟨hk.1, ⟨hk.2.1, ⟨hk.2.2.1, ⟨hk.2.2.2.1, ⟨hk.2.2.2.2.2.1, ⟨hk.2.2.2.2.2.2.1, ⟨hk.2.2.2.2.2.2.2.1, ⟨hk.2.2.2.2.2.2.2.2.1, hk.2.2.2.2.2.2.2.2.2⟩⟩⟩⟩⟩⟩⟩⟩, hk.2.2.2.2.1⟩)) hg hat); have aV := Aside0.mk (Kd.S_after (ok := (fun k_ => (w.heap.size ≤ k_) ∧ some k_ ≠ (.slice dp aM.length dg : Value).ownBlock ∧ some k_ ≠ (u12 : Value).ownBlock)) (by (with_reducible repeat first | apply S_alloc | apply S_drewN | apply S_drew); exact Kd.S_mono ac.out (fun _ hk => ⟨⟨hk.1, ⟨hk.2.1, hk.2.2.1⟩⟩, hk.2.2.2⟩)) hg hat); have bd := Aside0.mk (Kd.R_over' (by (with_reducible repeat first | apply R_alloc | apply R_drewN | apply R_drew); exact ad.out) (Kd.S_typed (by (with_reducible repeat first | apply S_alloc | apply S_drewN | apply S_drew); exact af.out)) (by decide) hg); have bc := Aside0.mk (blk_grown (g := ao) (o := .cells #[.slice none 0 0, .slice none 0 0, .slice none 0 0, .slice none 0 0] 32 (0, 0)) (by (with_reducible repeat first | apply blk_drewN | apply blk_drew | apply blk_alloc); exact am.out) hg (Kd.S_ne af.out am.out (by decide))); have bb := Aside0.mk (blk_grown (g := an) (o := .cells #[.slice A0 l0.length c0, ak, ai, al] 32 (0, 0)) (by (with_reducible repeat first | apply blk_drewN | apply blk_drew | apply blk_alloc); exact ah.out) hg (Kd.S_ne af.out ah.out (by decide))); have bh := Aside0.mk (blk_grown (g := ag) (o := .cells #[.int .i64 ((rd_T106 ab aa).f0), .int .i64 ((rd_T106 ab aa).f1), .int .i64 ((rd_T106 ab aa).f2)] 106 (0, 0)) (by (with_reducible repeat first | apply blk_drewN | apply blk_drew | apply blk_alloc); exact aj.out) hg (Kd.S_ne af.out aj.out (by decide))); have bg := Aside0.mk (hb); have aN := Aside0.mk (ho); clear aw; clear aA; clear au; clear ae; clear ac; clear ad; clear am; clear ah; clear aj; clear HB; clear af; clear aC; have aw := aT; have aA := aR; have au := aQ; have ae := aW; have ac := aV; have ad := bd; have am := bc; have ah := bb; have aj := bh; have HB := bg; have HO112 := aN; clear aT aR aQ aW aV bd bc bb bh bg aN; clear ho hb hg hat; obtain ⟨bj, bi, eo98⟩ := Kd.S_slice HO112.out; subst eo98; have eW : w96.cell? ⟨an, 0, none⟩ = some (.slice A0 l0.length c0) := (blk_cell ah.out 0).trans rfl; have eV : w96.cell? ⟨an, 1, none⟩ = some (ak) := (blk_cell ah.out 1).trans rfl; have eU : w96.cell? ⟨an, 2, none⟩ = some (ai) := (blk_cell ah.out 2).trans rfl; have eT : w96.cell? ⟨an, 3, none⟩ = some (al) := (blk_cell ah.out 3).trans rfl; have eI := blk_frozen ah.out 0; have eH := blk_frozen ah.out 1; have eG := blk_frozen ah.out 2; have eF := blk_frozen ah.out 3) | ((with_reducible refine gate_store (t := 23) (p := 138) rfl ?_); refine store_event (t := 23) (p := 138) (v := ?vo_w100) (w1 := (w96.setCell ⟨an, 1, none⟩ (.slice bj bf.length bi))) ?hg ?ho ?hn ?hr ?_; (case ho => rfl); (case hg => rfl); (case hn => rfl); (case hr => first | (go_simp; done) | (go_simp; rfl)); intro w100 hw; have aT : Aside0 (Kd.V (Kd.slice 3 (Kd.int .i64)) 22 w100 w.heap.size (fun k_ => (P0_ k_ ∨ w.heap.size ≤ k_) ∧ some k_ ≠ (u6 : Value).ownBlock ∧ some k_ ≠ (u12 : Value).ownBlock ∧ some k_ ≠ (ai : Value).ownBlock ∧ some k_ ≠ (al : Value).ownBlock ∧ some k_ ≠ (.slice bj bf.length bi : Value).ownBlock ∧ k_ ≠ ao ∧ k_ ≠ an ∧ k_ ≠ ag) (.slice A0 l0.length c0) l0) := ⟨(by rw [hw]; exact (by (with_reducible repeat first | apply V_alloc | apply V_drewN | apply V_drew); exact Kd.V_mono (Kd.V_far (p := ⟨an, 1, none⟩) (Kd.V_mono aw.out (fun k_ hk => (⟨hk, hk.1.2.2.2.2.2.2.2.1⟩ : _ ∧ k_ ≠ an))) (fun _ hk => hk.2) (.slice bj bf.length bi)) (fun _ hk => ⟨hk.1.1.1, ⟨hk.1.1.2.1, ⟨hk.1.1.2.2.2.1, ⟨hk.1.1.2.2.2.2.1, ⟨hk.1.1.2.2.2.2.2.1, ⟨hk.1.2, ⟨hk.1.1.2.2.2.2.2.2.1, ⟨hk.1.1.2.2.2.2.2.2.2.1, hk.1.1.2.2.2.2.2.2.2.2⟩⟩⟩⟩⟩⟩⟩⟩)))⟩; have aR : Aside0 (Kd.R k106 106 w100 w.heap.size (fun k_ => (w.heap.size ≤ k_) ∧ k_ ≠ ag) u6 aJ) := ⟨(by rw [hw]; exact (by (with_reducible repeat first | apply R_alloc | apply R_drewN | apply R_drew); exact Kd.R_mono (Kd.R_far (p := ⟨an, 1, none⟩) (Kd.R_types aA.out ah.out (by decide)) (fun _ hk => hk.2) (.slice bj bf.length bi)) (fun _ hk => ⟨hk.1.1, hk.1.2⟩)))⟩; have aQ : Aside0 (Kd.R (Kd.int .i64) 3 w100 w.heap.size (fun k_ => (w.heap.size ≤ k_)) u12 aI) := ⟨(by rw [hw]; exact (by (with_reducible repeat first | apply R_alloc | apply R_drewN | apply R_drew); exact Kd.R_mono (Kd.R_far (p := ⟨an, 1, none⟩) (Kd.R_types au.out ah.out (by decide)) (fun _ hk => hk.2) (.slice bj bf.length bi)) (fun _ hk => hk.1.1)))⟩; have aW : Aside0 (Kd.V (Kd.slice 3 (Kd.int .i64)) 22 w100 w.heap.size (fun k_ => (P0_ k_ ∨ w.heap.size ≤ k_) ∧ some k_ ≠ (u6 : Value).ownBlock ∧ some k_ ≠ (u12 : Value).ownBlock ∧ some k_ ≠ (ai : Value).ownBlock ∧ some k_ ≠ (al : Value).ownBlock ∧ some k_ ≠ (.slice bj bf.length bi : Value).ownBlock ∧ k_ ≠ ao ∧ k_ ≠ an ∧ k_ ≠ ag) (.slice A0 l0.length c0) l0) := ⟨(by rw [hw]; exact (by (with_reducible repeat first | apply V_alloc | apply V_drewN | apply V_drew); exact Kd.V_mono (Kd.V_far (p := ⟨an, 1, none⟩) (Kd.V_mono ae.out (fun k_ hk => (⟨hk, hk.1.2.2.2.2.2.2.2.1⟩ : _ ∧ k_ ≠ an))) (fun _ hk => hk.2) (.slice bj bf.length bi)) (fun _ hk => ⟨hk.1.1.1, ⟨hk.1.1.2.1, ⟨hk.1.1.2.2.2.1, ⟨hk.1.1.2.2.2.2.1, ⟨hk.1.1.2.2.2.2.2.1, ⟨hk.1.2, ⟨hk.1.1.2.2.2.2.2.2.1, ⟨hk.1.1.2.2.2.2.2.2.2.1, hk.1.1.2.2.2.2.2.2.2.2⟩⟩⟩⟩⟩⟩⟩⟩)))⟩; have aV : Aside0 (Kd.S (Kd.slice 3 (Kd.int .i64)) 22 w100 w.heap.size (fun k_ => (w.heap.size ≤ k_) ∧ some k_ ≠ (u12 : Value).ownBlock ∧ some k_ ≠ (.slice bj bf.length bi : Value).ownBlock) ai aq) := ⟨(by rw [hw]; exact (by (with_reducible repeat first | apply S_alloc | apply S_drewN | apply S_drew); exact Kd.S_mono (Kd.S_far (p := ⟨an, 1, none⟩) (Kd.S_types ac.out ah.out (by decide)) (fun _ hk => hk.2) (.slice bj bf.length bi)) (fun _ hk => ⟨hk.1.1.1, ⟨hk.1.1.2.2, hk.1.2⟩⟩)))⟩; have bd : Aside0 (Kd.R Kd.bool 4 w100 w.heap.size (fun k_ => (w.heap.size ≤ k_)) al ap) := ⟨(by rw [hw]; exact (by (with_reducible repeat first | apply R_alloc | apply R_drewN | apply R_drew); exact Kd.R_mono (Kd.R_far (p := ⟨an, 1, none⟩) (Kd.R_types ad.out ah.out (by decide)) (fun _ hk => hk.2) (.slice bj bf.length bi)) (fun _ hk => hk.1)))⟩; have bc : Aside0 (Kd.S (Kd.slice 3 (Kd.int .i64)) 22 w100 w.heap.size (fun k_ => (w.heap.size ≤ k_) ∧ some k_ ≠ (u12 : Value).ownBlock ∧ some k_ ≠ (ai : Value).ownBlock) (.slice bj bf.length bi) bf) := ⟨(by rw [hw]; exact (by (with_reducible repeat first | apply S_alloc | apply S_drewN | apply S_drew); exact Kd.S_mono (Kd.S_far (p := ⟨an, 1, none⟩) (Kd.S_types HO112.out ah.out (by decide)) (fun _ hk => hk.2) (.slice bj bf.length bi)) (fun _ hk => ⟨hk.1.1, ⟨hk.1.2.1, hk.1.2.2⟩⟩)))⟩; have bb : Aside0 (w100.heap[ao]? = some (.cells #[.slice none 0 0, .slice none 0 0, .slice none 0 0, .slice none 0 0] 32 (0, 0))) := ⟨(by rw [hw]; exact (by (with_reducible repeat first | apply blk_drewN | apply blk_drew | apply blk_alloc); refine blk_far ?_ aZ.out _; (with_reducible repeat first | apply blk_drewN | apply blk_drew | apply blk_alloc); exact am.out))⟩; have bh : Aside0 (w100.heap[an]? = some (.cells #[.slice A0 l0.length c0, .slice bj bf.length bi, ai, al] 32 (0, 0))) := ⟨(by rw [hw]; exact (by (with_reducible repeat first | apply blk_drewN | apply blk_drew | apply blk_alloc); refine blk_put (cs := #[.slice A0 l0.length c0, ak, ai, al]) ?_ 1 _ rfl; (with_reducible repeat first | apply blk_drewN | apply blk_drew | apply blk_alloc); exact ah.out))⟩; have bg : Aside0 (w100.heap[ag]? = some (.cells #[.int .i64 ((rd_T106 ab aa).f0), .int .i64 ((rd_T106 ab aa).f1), .int .i64 ((rd_T106 ab aa).f2)] 106 (0, 0))) := ⟨(by rw [hw]; exact (by (with_reducible repeat first | apply blk_drewN | apply blk_drew | apply blk_alloc); refine blk_far ?_ bl.out _; (with_reducible repeat first | apply blk_drewN | apply blk_drew | apply blk_alloc); exact aj.out))⟩; have aN : Aside0 (Below w.heap.size w w100) := ⟨(by rw [hw]; exact (by repeat (first | (with_reducible first | exact HB.out | apply below_alloc | apply pw_below_drewN | apply below_drew1 | refine below_set ?_ aD.out | refine below_set ?_ aE.out | refine below_set ?_ aG.out) | exact HB.out)))⟩; clear hw; clear aw; clear aA; clear au; clear ae; clear ac; clear ad; clear HO112; clear am; clear ah; clear aj; clear HB; have aw := aT; have aA := aR; have au := aQ; have ae := aW; have ac := aV; have ad := bd; have HO112 := bc; have am := bb; have ah := bh; have aj := bg; have HB := aN; clear aT aR aQ aW aV bd bc bb bh bg aN; have eA : w100.cell? ⟨an, 0, none⟩ = some (.slice A0 l0.length c0) := (blk_cell ah.out 0).trans rfl; have ez : w100.cell? ⟨an, 1, none⟩ = some (.slice bj bf.length bi) := (blk_cell ah.out 1).trans rfl; have ey : w100.cell? ⟨an, 2, none⟩ = some (ai) := (blk_cell ah.out 2).trans rfl; have ex : w100.cell? ⟨an, 3, none⟩ = some (al) := (blk_cell ah.out 3).trans rfl; have ec := blk_frozen ah.out 0; have eb := blk_frozen ah.out 1; have ea := blk_frozen ah.out 2; have dZ := blk_frozen ah.out 3; obtain ⟨cI, cF, eo103⟩ := Kd.R_slice au.out; subst eo103) | ((with_reducible refine gate_builtin (b := .append) (xs := #[.tmp 140, .tmp 142]) rfl ?_); (try (refine gate_guard (by rfl) ?_; dsimp only)); at_builtin; refine Kd.S_append (Kd.slice 3 (Kd.int .i64)) (w0 := w) w.heap.size rfl (.tmp 140) (.tmp 142) 23 22 (.slice none 0 0) 24 rfl Try.underlying23 info22 rfl (by decide) (by omega) ai aq aI [.slice cI aI.length cF] (fun k_ => (w.heap.size ≤ k_) ∧ some k_ ≠ (.slice bj bf.length bi : Value).ownBlock) (fun k_ => some k_ = (.slice cI aI.length cF : Value).ownBlock) rfl rfl ?aP (fun k_ hk_ => ((Kd.R_mono (ok' := fun k_ => ((fun k_ => (w.heap.size ≤ k_) ∧ some k_ ≠ (.slice bj bf.length bi : Value).ownBlock)) k_ ∧ some k_ ≠ (ai : Value).ownBlock) (Kd.R_apart' (Kd.R_apart' (au.out) (Kd.S_typed HO112.out) (by decide)) (Kd.S_typed ac.out) (by decide)) (fun k_ hk => ⟨⟨hk.1.1, hk.1.2⟩, hk.2⟩))).1 k_ hk_.symm) ?aF ?aO ?aB ?aS ?aL ?_; (case aP => exact Kd.M_row (Kd.R_mono (Kd.R_tight rfl (Kd.R_mono (ok' := fun k_ => ((fun k_ => (w.heap.size ≤ k_) ∧ some k_ ≠ (.slice bj bf.length bi : Value).ownBlock)) k_ ∧ some k_ ≠ (ai : Value).ownBlock) (Kd.R_apart' (Kd.R_apart' (au.out) (Kd.S_typed HO112.out) (by decide)) (Kd.S_typed ac.out) (by decide)) (fun k_ hk => ⟨⟨hk.1.1, hk.1.2⟩, hk.2⟩))) (fun _ h_ => h_))); (case aB => exact (by repeat (first | (with_reducible first | exact HB.out | apply below_alloc | apply pw_below_drewN | apply below_drew1 | refine below_set ?_ aD.out | refine below_set ?_ aE.out | refine below_set ?_ aG.out) | exact HB.out))); (case aF => exact (fun k_ hk => ⟨(Nat.le_trans (below_size (by repeat (first | (with_reducible first | exact HB.out | apply below_alloc | apply pw_below_drewN | apply below_drew1 | refine below_set ?_ aD.out | refine below_set ?_ aE.out | refine below_set ?_ aG.out) | exact HB.out))) hk), Kd.fresh' (Kd.S_lt (by (with_reducible repeat first | apply S_alloc | apply S_drewN | apply S_drew); exact HO112.out)) k_ hk⟩)); (case aO => exact (by (with_reducible repeat first | apply S_alloc | apply S_drewN | apply S_drew); exact Kd.S_mono ac.out (fun k_ hk => ⟨⟨hk.1, hk.2.2⟩, fun e_ => hk.2.1 e_⟩))); (case aS => exact (below_size (by repeat (first | (with_reducible first | exact HB.out | apply below_alloc | apply pw_below_drewN | apply below_drew1 | refine below_set ?_ aD.out | refine below_set ?_ aE.out | refine below_set ?_ aG.out) | exact HB.out)))); (case aL => have := LMc89.out; omega); intro v114 w102 ho hb hg hat; rw [← Ny113.out] at ho; have aT := Aside0.mk (Kd.V_afterv (ok := (fun k_ => (P0_ k_ ∨ w.heap.size ≤ k_) ∧ some k_ ≠ (u6 : Value).ownBlock ∧ some k_ ≠ (.slice cI aI.length cF : Value).ownBlock ∧ some k_ ≠ (al : Value).ownBlock ∧ some k_ ≠ (.slice bj bf.length bi : Value).ownBlock ∧ k_ ≠ ao ∧ k_ ≠ an ∧ k_ ≠ ag)) (by (with_reducible repeat first | apply V_alloc | apply V_drewN | apply V_drew); exact Kd.V_mono aw.out (fun _ hk => ⟨⟨hk.1, ⟨hk.2.1, ⟨hk.2.2.1, ⟨hk.2.2.2.2.1, ⟨hk.2.2.2.2.2.1, ⟨hk.2.2.2.2.2.2.1, ⟨hk.2.2.2.2.2.2.2.1, hk.2.2.2.2.2.2.2.2⟩⟩⟩⟩⟩⟩⟩, hk.2.2.2.1⟩)) hg hat); have aR := Aside0.mk (Kd.R_over' (by (with_reducible repeat first | apply R_alloc | apply R_drewN | apply R_drew); exact aA.out) (Kd.S_typed (by (with_reducible repeat first | apply S_alloc | apply S_drewN | apply S_drew); exact ac.out)) (by decide) hg); have aQ := Aside0.mk (Kd.V_afterv (ok := (fun k_ => (P0_ k_ ∨ w.heap.size ≤ k_) ∧ some k_ ≠ (u6 : Value).ownBlock ∧ some k_ ≠ (.slice cI aI.length cF : Value).ownBlock ∧ some k_ ≠ (al : Value).ownBlock ∧ some k_ ≠ (.slice bj bf.length bi : Value).ownBlock ∧ k_ ≠ ao ∧ k_ ≠ an ∧ k_ ≠ ag)) (by (with_reducible repeat first | apply V_alloc | apply V_drewN | apply V_drew); exact Kd.V_mono ae.out (fun _ hk => ⟨⟨hk.1, ⟨hk.2.1, ⟨hk.2.2.1, ⟨hk.2.2.2.2.1, ⟨hk.2.2.2.2.2.1, ⟨hk.2.2.2.2.2.2.1, ⟨hk.2.2.2.2.2.2.2.1, hk.2.2.2.2.2.2.2.2⟩⟩⟩⟩⟩⟩⟩, hk.2.2.2.1⟩)) hg hat); have aW := Aside0.mk (Kd.R_over' (by (with_reducible repeat first | apply R_alloc | apply R_drewN | apply R_drew); exact ad.out) (Kd.S_typed (by (with_reducible repeat first | apply S_alloc | apply S_drewN | apply S_drew); exact ac.out)) (by decide) hg); have aV := Aside0.mk (blk_grown (g := ao) (o := .cells #[.slice none 0 0, .slice none 0 0, .slice none 0 0, .slice none 0 0] 32 (0, 0)) (by (with_reducible repeat first | apply blk_drewN | apply blk_drew | apply blk_alloc); exact am.out) hg (Kd.S_ne ac.out am.out (by decide))); have bd := Aside0.mk (blk_grown (g := an) (o := .cells #[.slice A0 l0.length c0, .slice bj bf.length bi, ai, al] 32 (0, 0)) (by (with_reducible repeat first | apply blk_drewN | apply blk_drew | apply blk_alloc); exact ah.out) hg (Kd.S_ne ac.out ah.out (by decide))); have bc := Aside0.mk (blk_grown (g := ag) (o := .cells #[.int .i64 ((rd_T106 ab aa).f0), .int .i64 ((rd_T106 ab aa).f1), .int .i64 ((rd_T106 ab aa).f2)] 106 (0, 0)) (by (with_reducible repeat first | apply blk_drewN | apply blk_drew | apply blk_alloc); exact aj.out) hg (Kd.S_ne ac.out aj.out (by decide))); have bb := Aside0.mk (Kd.S_after (ok := (fun k_ => (w.heap.size ≤ k_) ∧ some k_ ≠ (.slice cI aI.length cF : Value).ownBlock)) (by (with_reducible repeat first | apply S_alloc | apply S_drewN | apply S_drew); exact Kd.S_mono HO112.out (fun _ hk => ⟨⟨hk.1, hk.2.1⟩, hk.2.2⟩)) hg hat); have bh := Aside0.mk (hb); have bg := Aside0.mk (ho); clear aw; clear aA; clear ae; clear ad; clear am; clear ah; clear aj; clear HO112; clear HB; clear ac; clear au; have aw := aT; have aA := aR; have ae := aQ; have ad := aW; have am := aV; have ah := bd; have aj := bc; have HO112 := bb; have HB := bh; have HO115 := bg; clear aT aR aQ aW aV bd bc bb bh bg; clear ho hb hg hat; obtain ⟨bn, bm, eo104⟩ := Kd.S_slice HO115.out; subst eo104; have ew : w102.cell? ⟨an, 0, none⟩ = some (.slice A0 l0.length c0) := (blk_cell ah.out 0).trans rfl; have ev : w102.cell? ⟨an, 1, none⟩ = some (.slice bj bf.length bi) := (blk_cell ah.out 1).trans rfl; have eu : w102.cell? ⟨an, 2, none⟩ = some (ai) := (blk_cell ah.out 2).trans rfl; have et : w102.cell? ⟨an, 3, none⟩ = some (al) := (blk_cell ah.out 3).trans rfl; have dY := blk_frozen ah.out 0; have dX := blk_frozen ah.out 1; have dW := blk_frozen ah.out 2; have dV := blk_frozen ah.out 3) | ((with_reducible refine gate_builtin (b := .append) (xs := #[.tmp 146, .tmp 148]) rfl ?_); (try (refine gate_guard (by rfl) ?_; dsimp only)); at_builtin; refine Kd.R_append Kd.bool (w0 := w) w.heap.size rfl (.tmp 146) (.tmp 148) 30 4 (.bool false) 1 rfl Try.underlying30 info4 rfl (by decide) (by omega) al ap aK [.bool aK] (fun k_ => (w.heap.size ≤ k_)) (fun _ => False) rfl (by first | (go_simp; done) | (go_simp; rfl)) ?aP (fun _ hk => hk.elim) ?aF ?aO ?aB ?aS ?aL ?_; (case aP => exact rfl); (case aB => exact (by repeat (first | (with_reducible first | exact HB.out | apply below_alloc | apply pw_below_drewN | apply below_drew1 | refine below_set ?_ aD.out | refine below_set ?_ aE.out | refine below_set ?_ aG.out) | exact HB.out))); (case aF => exact (fun k_ hk => (Nat.le_trans (below_size (by repeat (first | (with_reducible first | exact HB.out | apply below_alloc | apply pw_below_drewN | apply below_drew1 | refine below_set ?_ aD.out | refine below_set ?_ aE.out | refine below_set ?_ aG.out) | exact HB.out))) hk))); (case aO => exact (by (with_reducible repeat first | apply R_alloc | apply R_drewN | apply R_drew); exact Kd.R_mono (Kd.R_far (p := ⟨an, 2, none⟩) (Kd.R_types ad.out ah.out (by decide)) (fun _ hk => hk.2) (.slice bn bC.length bm)) (fun _ hk => hk.1))); (case aS => exact (below_size (by repeat (first | (with_reducible first | exact HB.out | apply below_alloc | apply pw_below_drewN | apply below_drew1 | refine below_set ?_ aD.out | refine below_set ?_ aE.out | refine below_set ?_ aG.out) | exact HB.out)))); (case aL => have := LMc90.out; omega); intro v117 w106 ho hb hg hat; rw [← Ny116.out] at ho; have aT := Aside0.mk (Kd.V_afterv (ok := (fun k_ => (P0_ k_ ∨ w.heap.size ≤ k_) ∧ some k_ ≠ (u6 : Value).ownBlock ∧ some k_ ≠ (.slice bj bf.length bi : Value).ownBlock ∧ some k_ ≠ (.slice bn bC.length bm : Value).ownBlock ∧ k_ ≠ ao ∧ k_ ≠ an ∧ k_ ≠ ag)) (by (with_reducible repeat first | apply V_alloc | apply V_drewN | apply V_drew); exact Kd.V_mono (Kd.V_far (p := ⟨an, 2, none⟩) (Kd.V_mono aw.out (fun k_ hk => (⟨hk, hk.1.2.2.2.2.2.2.1⟩ : _ ∧ k_ ≠ an))) (fun _ hk => hk.2) (.slice bn bC.length bm)) (fun _ hk => ⟨⟨hk.1.1.1, ⟨hk.1.1.2.1, ⟨hk.1.1.2.2.2.2.1, ⟨hk.1.2, ⟨hk.1.1.2.2.2.2.2.1, ⟨hk.1.1.2.2.2.2.2.2.1, hk.1.1.2.2.2.2.2.2.2⟩⟩⟩⟩⟩⟩, hk.1.1.2.2.2.1⟩)) hg hat); have aR := Aside0.mk (Kd.R_over' (by (with_reducible repeat first | apply R_alloc | apply R_drewN | apply R_drew); exact (Kd.R_mono (Kd.R_far (p := ⟨an, 2, none⟩) (Kd.R_types aA.out ah.out (by decide)) (fun _ hk => hk.2) (.slice bn bC.length bm)) (fun _ h_ => h_.1))) (Kd.R_typed (by (with_reducible repeat first | apply R_alloc | apply R_drewN | apply R_drew); exact (Kd.R_mono (Kd.R_far (p := ⟨an, 2, none⟩) (Kd.R_types ad.out ah.out (by decide)) (fun _ hk => hk.2) (.slice bn bC.length bm)) (fun _ h_ => h_.1)))) (by decide) hg); have aQ := Aside0.mk (Kd.V_afterv (ok := (fun k_ => (P0_ k_ ∨ w.heap.size ≤ k_) ∧ some k_ ≠ (u6 : Value).ownBlock ∧ some k_ ≠ (.slice bj bf.length bi : Value).ownBlock ∧ some k_ ≠ (.slice bn bC.length bm : Value).ownBlock ∧ k_ ≠ ao ∧ k_ ≠ an ∧ k_ ≠ ag)) (by (with_reducible repeat first | apply V_alloc | apply V_drewN | apply V_drew); exact Kd.V_mono (Kd.V_far (p := ⟨an, 2, none⟩) (Kd.V_mono ae.out (fun k_ hk => (⟨hk, hk.1.2.2.2.2.2.2.1⟩ : _ ∧ k_ ≠ an))) (fun _ hk => hk.2) (.slice bn bC.length bm)) (fun _ hk => ⟨⟨hk.1.1.1, ⟨hk.1.1.2.1, ⟨hk.1.1.2.2.2.2.1, ⟨hk.1.2, ⟨hk.1.1.2.2.2.2.2.1, ⟨hk.1.1.2.2.2.2.2.2.1, hk.1.1.2.2.2.2.2.2.2⟩⟩⟩⟩⟩⟩, hk.1.1.2.2.2.1⟩)) hg hat); have aW := Aside0.mk (blk_grown (g := ao) (o := .cells #[.slice none 0 0, .slice none 0 0, .slice none 0 0, .slice none 0 0] 32 (0, 0)) (by (with_reducible repeat first | apply blk_drewN | apply blk_drew | apply blk_alloc); refine blk_far ?_ aZ.out _; (with_reducible repeat first | apply blk_drewN | apply blk_drew | apply blk_alloc); exact am.out) hg (Kd.R_ne ad.out am.out (by decide))); have aV := Aside0.mk (blk_grown (g := an) (o := .cells #[.slice A0 l0.length c0, .slice bj bf.length bi, .slice bn bC.length bm, al] 32 (0, 0)) (by (with_reducible repeat first | apply blk_drewN | apply blk_drew | apply blk_alloc); refine blk_put (cs := #[.slice A0 l0.length c0, .slice bj bf.length bi, ai, al]) ?_ 2 _ rfl; (with_reducible repeat first | apply blk_drewN | apply blk_drew | apply blk_alloc); exact ah.out) hg (Kd.R_ne ad.out ah.out (by decide))); have bd := Aside0.mk (blk_grown (g := ag) (o := .cells #[.int .i64 ((rd_T106 ab aa).f0), .int .i64 ((rd_T106 ab aa).f1), .int .i64 ((rd_T106 ab aa).f2)] 106 (0, 0)) (by (with_reducible repeat first | apply blk_drewN | apply blk_drew | apply blk_alloc); refine blk_far ?_ bl.out _; (with_reducible repeat first | apply blk_drewN | apply blk_drew | apply blk_alloc); exact aj.out) hg (Kd.R_ne ad.out aj.out (by decide))); have bc := Aside0.mk (Kd.S_over' (by (with_reducible repeat first | apply S_alloc | apply S_drewN | apply S_drew); exact (Kd.S_mono (Kd.S_far (p := ⟨an, 2, none⟩) (Kd.S_types HO112.out ah.out (by decide)) (fun _ hk => hk.2) (.slice bn bC.length bm)) (fun _ h_ => h_.1))) (Kd.R_typed (by (with_reducible repeat first | apply R_alloc | apply R_drewN | apply R_drew); exact (Kd.R_mono (Kd.R_far (p := ⟨an, 2, none⟩) (Kd.R_types ad.out ah.out (by decide)) (fun _ hk => hk.2) (.slice bn bC.length bm)) (fun _ h_ => h_.1)))) (by decide) hg); have bb := Aside0.mk (Kd.S_over' (by (with_reducible repeat first | apply S_alloc | apply S_drewN | apply S_drew); exact (Kd.S_mono (Kd.S_far (p := ⟨an, 2, none⟩) (Kd.S_types HO115.out ah.out (by decide)) (fun _ hk => hk.2) (.slice bn bC.length bm)) (fun _ h_ => h_.1))) (Kd.R_typed (by (with_reducible repeat first | apply R_alloc | apply R_drewN | apply R_drew); exact (Kd.R_mono (Kd.R_far (p := ⟨an, 2, none⟩) (Kd.R_types ad.out ah.out (by decide)) (fun _ hk => hk.2) (.slice bn bC.length bm)) (fun _ h_ => h_.1)))) (by decide) hg); have bh := Aside0.mk (hb); have bg := Aside0.mk (ho); clear aw; clear aA; clear ae; clear am; clear ah; clear aj; clear HO112; clear HO115; clear HB; clear ad; have aw := aT; have aA := aR; have ae := aQ; have am := aW; have ah := aV; have aj := bd; have HO112 := bc; have HO115 := bb; have HB := bh; have HO118 := bg; clear aT aR aQ aW aV bd bc bb bh bg; clear ho hb hg hat; obtain ⟨cl, cg, eo107⟩ := Kd.R_slice HO118.out; subst eo107; have es : w106.cell? ⟨an, 0, none⟩ = some (.slice A0 l0.length c0) := (blk_cell ah.out 0).trans rfl; have er : w106.cell? ⟨an, 1, none⟩ = some (.slice bj bf.length bi) := (blk_cell ah.out 1).trans rfl; have eq : w106.cell? ⟨an, 2, none⟩ = some (.slice bn bC.length bm) := (blk_cell ah.out 2).trans rfl; have ep : w106.cell? ⟨an, 3, none⟩ = some (al) := (blk_cell ah.out 3).trans rfl; have dU := blk_frozen ah.out 0; have dT := blk_frozen ah.out 1; have dS := blk_frozen ah.out 2; have dR := blk_frozen ah.out 3))
   go_roundg k4
   case measure => have := cD.out; have := bP.out; have := bS.out; have := cY.out; omega
   case rel => exact ⟨(aJ), (wrap64 (aa + 1)), (bf), (bC), (cu), (.slice bj bf.length bi), (.slice bn bC.length bm), (.slice cl cu.length cg), (by first | rfl | (simp; done) | (simp [*]; done)), H', ⟨by have := cD.out; have := bP.out; have := bS.out; have := cY.out; omega⟩, ⟨by (with_reducible repeat first | apply V_alloc | apply V_drewN | apply V_drew); exact Kd.V_mono (Kd.V_far (p := ⟨an, 3, none⟩) (Kd.V_mono aw.out (fun k_ hk => (⟨hk, hk.1.2.2.2.2.2.1⟩ : _ ∧ k_ ≠ an))) (fun _ hk => hk.2) (.slice cl cu.length cg)) (fun _ hk => ⟨hk.1.1.1, ⟨hk.1.1.2.1, ⟨hk.1.1.2.2.1, ⟨hk.1.1.2.2.2.1, ⟨hk.1.2, ⟨hk.1.1.2.2.2.2.1, hk.1.1.2.2.2.2.2.1⟩⟩⟩⟩⟩⟩)⟩, ⟨by (with_reducible repeat first | apply R_alloc | apply R_drewN | apply R_drew); exact Kd.R_mono (Kd.R_far (p := ⟨an, 3, none⟩) (Kd.R_types aA.out ah.out (by decide)) (fun _ hk => hk.2) (.slice cl cu.length cg)) (fun _ hk => hk.1.1)⟩, ⟨by (with_reducible repeat first | apply V_alloc | apply V_drewN | apply V_drew); exact Kd.V_mono (Kd.V_far (p := ⟨an, 3, none⟩) (Kd.V_mono ae.out (fun k_ hk => (⟨hk, hk.1.2.2.2.2.2.1⟩ : _ ∧ k_ ≠ an))) (fun _ hk => hk.2) (.slice cl cu.length cg)) (fun _ hk => ⟨hk.1.1.1, ⟨hk.1.1.2.1, ⟨hk.1.1.2.2.1, ⟨hk.1.1.2.2.2.1, ⟨hk.1.2, ⟨hk.1.1.2.2.2.2.1, hk.1.1.2.2.2.2.2.1⟩⟩⟩⟩⟩⟩)⟩, ⟨by (with_reducible repeat first | apply S_alloc | apply S_drewN | apply S_drew); exact Kd.S_mono (Kd.S_far (p := ⟨an, 3, none⟩) (Kd.S_types HO112.out ah.out (by decide)) (fun _ hk => hk.2) (.slice cl cu.length cg)) (fun _ hk => ⟨hk.1.1.1, hk.1.2⟩)⟩, ⟨by (with_reducible repeat first | apply S_alloc | apply S_drewN | apply S_drew); exact Kd.S_mono (Kd.S_far (p := ⟨an, 3, none⟩) (Kd.S_types HO115.out ah.out (by decide)) (fun _ hk => hk.2) (.slice cl cu.length cg)) (fun _ hk => ⟨hk.1.1, hk.1.2⟩)⟩, ⟨by (with_reducible repeat first | apply R_alloc | apply R_drewN | apply R_drew); exact Kd.R_mono (Kd.R_far (p := ⟨an, 3, none⟩) (Kd.R_types HO118.out ah.out (by decide)) (fun _ hk => hk.2) (.slice cl cu.length cg)) (fun _ hk => hk.1)⟩, ⟨by (with_reducible repeat first | apply blk_drewN | apply blk_drew | apply blk_alloc); refine blk_far ?_ aZ.out _; (with_reducible repeat first | apply blk_drewN | apply blk_drew | apply blk_alloc); exact am.out⟩, ⟨by (with_reducible repeat first | apply blk_drewN | apply blk_drew | apply blk_alloc); refine blk_put (cs := #[.slice A0 l0.length c0, .slice bj bf.length bi, .slice bn bC.length bm, al]) ?_ 3 _ rfl; (with_reducible repeat first | apply blk_drewN | apply blk_drew | apply blk_alloc); exact ah.out⟩, ⟨by repeat (first | (with_reducible first | exact HB.out | apply below_alloc | apply pw_below_drewN | apply below_drew1 | refine below_set ?_ aD.out | refine below_set ?_ aE.out | refine below_set ?_ aG.out) | exact HB.out)⟩⟩
  rw [if_neg c10] at H
  have bV : decide (aa < (ab.length : Int)) = false := decide_eq_false c10
  clear c10
  simp only [Option.some.injEq, Prod.mk.injEq] at H
  obtain ⟨rfl, rfl, rfl, rfl, rfl⟩ := H
  obtain ⟨fv, fj, eo109⟩ := Kd.R_slice aA.out
  subst eo109
  have hnb110 := bT.out
  have hnc110 := aZ.out
  have eo : wr.cell? ⟨an, 0, none⟩ = some (.slice A0 l0.length c0) := (blk_cell ah.out 0).trans rfl
  have en : wr.cell? ⟨an, 1, none⟩ = some (ak) := (blk_cell ah.out 1).trans rfl
  have em : wr.cell? ⟨an, 2, none⟩ = some (ai) := (blk_cell ah.out 2).trans rfl
  have el : wr.cell? ⟨an, 3, none⟩ = some (al) := (blk_cell ah.out 3).trans rfl
  have dQ := blk_frozen ah.out 0
  have dP := blk_frozen ah.out 1
  have dO := blk_frozen ah.out 2
  have dN := blk_frozen ah.out 3
  have ek : wr.cell? ⟨ao, 0, none⟩ = some (.slice none 0 0) := (blk_cell am.out 0).trans rfl
  have ej : wr.cell? ⟨ao, 1, none⟩ = some (.slice none 0 0) := (blk_cell am.out 1).trans rfl
  have ei : wr.cell? ⟨ao, 2, none⟩ = some (.slice none 0 0) := (blk_cell am.out 2).trans rfl
  have eh : wr.cell? ⟨ao, 3, none⟩ = some (.slice none 0 0) := (blk_cell am.out 3).trans rfl
  have dM := blk_frozen am.out 0
  have dL := blk_frozen am.out 1
  have dK := blk_frozen am.out 2
  have dJ := blk_frozen am.out 3
  obtain ⟨ck, cf, eo113⟩ := Kd.S_slice af.out
  subst eo113
  obtain ⟨ct, cn, eo114⟩ := Kd.S_slice ac.out
  subst eo114
  obtain ⟨cH, cE, eo115⟩ := Kd.R_slice ad.out
  subst eo115
  go_wp2
  refine bodyPost_ret (results_ct rfl _ _ ao 32 #[.slice A0 l0.length c0, .slice ck ar.length cf, .slice ct aq.length cn, .slice cH ap.length cE] (0, 0) _ rfl (by (with_reducible repeat first | apply blk_drewN | apply blk_drew | apply blk_alloc); refine blk_put (cs := #[.slice A0 l0.length c0, .slice ck ar.length cf, .slice ct aq.length cn, .slice none 0 0]) ?_ 3 _ rfl; (with_reducible repeat first | apply blk_drewN | apply blk_drew | apply blk_alloc); refine blk_put (cs := #[.slice A0 l0.length c0, .slice ck ar.length cf, .slice none 0 0, .slice none 0 0]) ?_ 2 _ rfl; (with_reducible repeat first | apply blk_drewN | apply blk_drew | apply blk_alloc); refine blk_put (cs := #[.slice A0 l0.length c0, .slice none 0 0, .slice none 0 0, .slice none 0 0]) ?_ 1 _ rfl; (with_reducible repeat first | apply blk_drewN | apply blk_drew | apply blk_alloc); refine blk_put (cs := #[.slice none 0 0, .slice none 0 0, .slice none 0 0, .slice none 0 0]) ?_ 0 _ rfl; (with_reducible repeat first | apply blk_drewN | apply blk_drew | apply blk_alloc); exact am.out) Try.underlying32 rfl (by kernel_rfl)) rfl ?_
  exact ⟨_, _, _, _, by first | rfl | (simp [errW_none, errW_some] <;> rfl) | (simp [*, errW_none, errW_some] <;> rfl), by (with_reducible repeat first | apply V_alloc | apply V_drewN | apply V_drew); exact Kd.V_mono (Kd.V_far (p := ⟨ao, 3, none⟩) (Kd.V_far (p := ⟨ao, 2, none⟩) (Kd.V_far (p := ⟨ao, 1, none⟩) (Kd.V_far (p := ⟨ao, 0, none⟩) (Kd.V_mono ae.out (fun k_ hk => (⟨hk, hk.2.2.2.2.2.1⟩ : _ ∧ k_ ≠ ao))) (fun _ hk => hk.2) (.slice A0 l0.length c0)) (fun _ hk => hk.2) (.slice ck ar.length cf)) (fun _ hk => hk.2) (.slice ct aq.length cn)) (fun _ hk => hk.2) (.slice cH ap.length cE)) (fun _ hk => ⟨hk.1.1, ⟨hk.1.2.2.1, ⟨hk.1.2.2.2.1, hk.1.2.2.2.2.1⟩⟩⟩), by (with_reducible repeat first | apply S_alloc | apply S_drewN | apply S_drew); exact Kd.S_mono (Kd.S_far (p := ⟨ao, 3, none⟩) (Kd.S_far (p := ⟨ao, 2, none⟩) (Kd.S_far (p := ⟨ao, 1, none⟩) (Kd.S_far (p := ⟨ao, 0, none⟩) (Kd.S_types af.out am.out (by decide)) (fun _ hk => hk.2) (.slice A0 l0.length c0)) (fun _ hk => hk.2) (.slice ck ar.length cf)) (fun _ hk => hk.2) (.slice ct aq.length cn)) (fun _ hk => hk.2) (.slice cH ap.length cE)) (fun _ hk => ⟨hk.1.1, hk.1.2⟩), by (with_reducible repeat first | apply S_alloc | apply S_drewN | apply S_drew); exact Kd.S_mono (Kd.S_far (p := ⟨ao, 3, none⟩) (Kd.S_far (p := ⟨ao, 2, none⟩) (Kd.S_far (p := ⟨ao, 1, none⟩) (Kd.S_far (p := ⟨ao, 0, none⟩) (Kd.S_types ac.out am.out (by decide)) (fun _ hk => hk.2) (.slice A0 l0.length c0)) (fun _ hk => hk.2) (.slice ck ar.length cf)) (fun _ hk => hk.2) (.slice ct aq.length cn)) (fun _ hk => hk.2) (.slice cH ap.length cE)) (fun _ hk => ⟨hk.1.1, hk.1.2⟩), by (with_reducible repeat first | apply R_alloc | apply R_drewN | apply R_drew); exact Kd.R_mono (Kd.R_far (p := ⟨ao, 3, none⟩) (Kd.R_far (p := ⟨ao, 2, none⟩) (Kd.R_far (p := ⟨ao, 1, none⟩) (Kd.R_far (p := ⟨ao, 0, none⟩) (Kd.R_types ad.out am.out (by decide)) (fun _ hk => hk.2) (.slice A0 l0.length c0)) (fun _ hk => hk.2) (.slice ck ar.length cf)) (fun _ hk => hk.2) (.slice ct aq.length cn)) (fun _ hk => hk.2) (.slice cH ap.length cE)) (fun _ hk => hk.1), by repeat (first | (with_reducible first | exact HB.out | apply below_alloc | apply pw_below_drewN | apply below_drew1 | refine below_set ?_ aD.out | refine below_set ?_ aE.out) | exact HB.out)⟩
 rw [if_neg c3] at H
 have cC : (t102 == 0) = false := beq_eq_false_iff_ne.mpr c3
 have cB : (t102 != 0) = true := bne_iff_ne.mpr c3
 simp only [Option.some.injEq, Prod.mk.injEq] at H
 obtain ⟨rfl, rfl, rfl, rfl, rfl⟩ := H
 go_enter Try.func20, Try.ntmps20
 go_wp2_with (first | ((with_reducible refine gate_dst (N := 2) rfl ?_); (try (refine gate_guard (by rfl) ?_; dsimp only)); refine box_event ?hg (N := 2) ?hd (cs := #[.slice none 0 0, .slice none 0 0, .slice none 0 0, .slice none 0 0]) (t := 32) ?hr ?_; (case hd => rfl); (case hg => rfl); (case hr => first | (go_simp; done) | (go_simp; rfl)); intro ao hg w116 hbox hb; have aT := Aside0.mk (Kd.V_below (Kd.V_elderB (by (with_reducible repeat first | apply V_alloc | apply V_drewN | apply V_drew); exact HO0.out) ao (Nat.le_of_eq hg.symm)) hb); have aR := Aside0.mk (below_step (by repeat (first | (with_reducible first | exact HB.out | apply below_alloc | apply pw_below_drewN | apply below_drew1) | exact HB.out)) hb); have aQ := Aside0.mk (hbox); have aW := Aside0.mk ((by rw [hg]; exact (below_size (by repeat (first | (with_reducible first | exact HB.out | apply below_alloc | apply pw_below_drewN | apply below_drew1) | exact HB.out))) : w.heap.size ≤ ao)); have aV := Aside0.mk ((by rw [hg]; exact (below_size (by repeat (first | (with_reducible first | exact HB.out | apply below_alloc | apply pw_below_drewN | apply below_drew1) | exact HB.out))) : w.heap.size ≤ ao)); clear HO0; clear HB; have HO0 := aT; have HB := aR; have am := aQ; have eE := aW; have aD := aV; clear aT aR aQ aW aV; clear hb hbox hg) | ((with_reducible refine gate_callee (f := 70) rfl ?_); refine goesL_ (some 17) rfl rfl Try.func70 (by kernel_rfl) rfl #[.slice A0 l0.length c0] rfl (by (try simp only [List.map_toArray, List.map_cons, List.map_nil]); first | done | rfl | (simp only [List.length_drop, List.length_take]; rfl)) ?_; (with_reducible refine (wordbookref15_Errors.calls k _ _ l0 t102 _ ?side1 ?side2 A2.out).mono ?_); (case side1 => repeat (first | exact (Kd.V_reads' HO0.out).2.2 | (with_reducible refine Kd.C_alloc ?_ _) | (with_reducible refine Kd.C_drewN ?_ _) | (with_reducible refine Kd.C_drew ?_))); (case side2 => exact (Kd.V_reads' HO0.out).2.1); rintro e w' ⟨rfl, ⟨nd, rfl⟩⟩; refine ⟨_, rfl, ?_⟩; (try (rw [drewN_self w116]; generalize hq_ : World.drewN w116 _ = w116; have aT : Aside0 (Kd.V (Kd.slice 3 (Kd.int .i64)) 22 w116 w.heap.size (fun k_ => (P0_ k_ ∨ w.heap.size ≤ k_) ∧ k_ ≠ ao) (.slice A0 l0.length c0) l0) := ⟨by rw [← hq_]; exact (by (with_reducible repeat first | apply V_alloc | apply V_drewN | apply V_drew); exact HO0.out)⟩; have aR : Aside0 (w116.heap[ao]? = some (.cells #[.slice none 0 0, .slice none 0 0, .slice none 0 0, .slice none 0 0] 32 (0, 0))) := ⟨by rw [← hq_]; exact (by (with_reducible repeat first | apply blk_drewN | apply blk_drew | apply blk_alloc); exact am.out)⟩; have aQ : Aside0 (Below w.heap.size w w116) := ⟨by rw [← hq_]; exact (by repeat (first | (with_reducible first | exact HB.out | apply below_alloc | apply pw_below_drewN | apply below_drew1 | refine below_set ?_ aD.out) | exact HB.out))⟩; clear HO0 am HB hq_; have HO0 := aT; have am := aR; have HB := aQ; clear aT aR aQ)); have eg : w116.cell? ⟨ao, 0, none⟩ = some (.slice none 0 0) := (blk_cell am.out 0).trans rfl; have ef : w116.cell? ⟨ao, 1, none⟩ = some (.slice none 0 0) := (blk_cell am.out 1).trans rfl; have ee : w116.cell? ⟨ao, 2, none⟩ = some (.slice none 0 0) := (blk_cell am.out 2).trans rfl; have ed : w116.cell? ⟨ao, 3, none⟩ = some (.slice none 0 0) := (blk_cell am.out 3).trans rfl; have dI := blk_frozen am.out 0; have dH := blk_frozen am.out 1; have dG := blk_frozen am.out 2; have dF := blk_frozen am.out 3))
 refine bodyPost_ret (results_ct rfl _ _ ao 32 #[.slice none 0 0, .slice none 0 0, .slice none 0 0, .slice none 0 0] (0, 0) _ rfl (by (with_reducible repeat first | apply blk_drewN | apply blk_drew | apply blk_alloc); refine blk_put (cs := #[.slice none 0 0, .slice none 0 0, .slice none 0 0, .slice none 0 0]) ?_ 3 _ rfl; (with_reducible repeat first | apply blk_drewN | apply blk_drew | apply blk_alloc); refine blk_put (cs := #[.slice none 0 0, .slice none 0 0, .slice none 0 0, .slice none 0 0]) ?_ 2 _ rfl; (with_reducible repeat first | apply blk_drewN | apply blk_drew | apply blk_alloc); refine blk_put (cs := #[.slice none 0 0, .slice none 0 0, .slice none 0 0, .slice none 0 0]) ?_ 1 _ rfl; (with_reducible repeat first | apply blk_drewN | apply blk_drew | apply blk_alloc); refine blk_put (cs := #[.slice none 0 0, .slice none 0 0, .slice none 0 0, .slice none 0 0]) ?_ 0 _ rfl; (with_reducible repeat first | apply blk_drewN | apply blk_drew | apply blk_alloc); exact am.out) Try.underlying32 rfl (by kernel_rfl)) rfl ?_
 exact ⟨_, _, _, _, by first | rfl | (simp [errW_none, errW_some] <;> rfl) | (simp [*, errW_none, errW_some] <;> rfl), Kd.V_nil _ _ _ _ _, by first | exact Kd.S_nil _ _ _ _ _ | exact Kd.N_nil _ _ _ _ _ | exact Kd.V_nil _ _ _ _ _ | exact Kd.Q_nil _ _ _ _ _ | exact Kd.R_nil _ _ _ _ _, by first | exact Kd.S_nil _ _ _ _ _ | exact Kd.N_nil _ _ _ _ _ | exact Kd.V_nil _ _ _ _ _ | exact Kd.Q_nil _ _ _ _ _ | exact Kd.R_nil _ _ _ _ _, by first | exact Kd.R_nil _ _ _ _ _ | exact Kd.N_nil _ _ _ _ _ | exact Kd.V_nil _ _ _ _ _ | exact Kd.Q_nil _ _ _ _ _ | exact Kd.S_nil _ _ _ _ _, by repeat (first | (with_reducible first | exact HB.out | apply below_alloc | apply pw_below_drewN | apply below_drew1 | refine below_set ?_ aD.out) | exact HB.out)⟩
end Go.Proofs.Ytcdjeimjbbknjaa.PAll
