import Derived.StillTailTactics
import Derived.BigRegion
import Derived.BigQuiet
import Derived.Deep.CutBlock
import Derived.Deep.RegionHeld3
import Derived.Deep.RegionLaw
import Derived.Laws.EntriesVeiled
import Derived.Shelf.SlSortCmp.WholeK
import Derived.Shelf.SlSortCmp.NoneTotal
import Derived.Test.YtcdjeimjbbknjaaFz2
namespace Go.Proofs.Ytcdjeimjbbknjaa.PAll
open Go.RowKit Go.Maps Go.Proofs.YtcdjeimjbbknjaaW.PrintWords Go.Proofs.YtcdjeimjbbknjaaW.PrintLast Go.Proofs.YtcdjeimjbbknjaaW.PrintMore
set_option linter.unusedVariables false
set_option linter.unusedSimpArgs false

section
variable {w0 w wr W wA : World} {P : Nat → Prop} {bb bn bk bm : Nat} {v0 : Value} {at_ d : Nat} {u : List Int} {lr : List (List Int)} {Ar : Option Addr} {cr : Nat} {x : Nd} {vs vt v v1 : Value} {N : List Nd}
/-- What the recursive call does. -/
theorem rec_call (IH : InnerSpec d) (hL : LoopSt w0 w wr P bb bn bk bm v0 at_ d (u :: lr) Ar cr x vs vt v N) (hat : at_ + (d + 1) ≤ 1000000) (hb : Below wr.heap.size wr W) :
    Calls Try.prog 67 #[.slice Ar (grpLen at_ u lr + 1) cr, .int .i64 ((at_ : Int) + 1), .pointer (some ⟨bb, 0, none⟩), .pointer (some ⟨bn, 0, none⟩), .pointer (some ⟨bk, 0, none⟩)] W
      fun e w' => ∃ v', e = .returned (.int .i64 (bld d (u :: lr.take (grpLen at_ u lr)) (at_ + 1) N).1) ∧ Mid w0 w w' P bb bn bk bm v0 x vs vt v' (bld d (u :: lr.take (grpLen at_ u lr)) (at_ + 1) N).2 := by
  have hg := grpLen_le at_ u lr
  have hl : (u :: lr.take (grpLen at_ u lr)).length = grpLen at_ u lr + 1 := by rw [List.length_cons, List.length_take]; omega
  have hM := hL.toMid.step hb
  have hsub : ∀ v ∈ u :: lr.take (grpLen at_ u lr), v ∈ u :: lr := by
    intro v hv
    rcases List.mem_cons.1 hv with rfl | hv
    · exact List.mem_cons_self
    · exact List.mem_cons_of_mem _ (List.mem_of_mem_take hv)
  have h2 := (cutR_take Ar cr (u :: lr) (grpLen at_ u lr + 1) (by simp only [List.length_cons]; omega) hL.hc).2 w0 hL.hC
  rw [List.take_succ_cons] at h2
  have hcost := cost_succ (u :: lr.take (grpLen at_ u lr)) at_ (fun v hv => hL.long v (hsub v hv))
  have hsplit := cost_split lr (grpLen at_ u lr) at_
  have hroom := hL.room
  have hc2 := cost_cons u (lr.take (grpLen at_ u lr)) at_
  rw [cost_cons] at hroom
  have h3 := IH w0 W Ar cr (u :: lr.take (grpLen at_ u lr)) (at_ + 1) (fun k => (P k ∨ w.heap.size ≤ k) ∧ k ≠ w.heap.size ∧ some k ≠ vs.ownBlock ∧ some k ≠ vt.ownBlock) bb bn bk bm v N (by rw [hl]; exact h2) (by rw [hl]; have := hL.hc; simp only [List.length_cons] at this; omega) (grp_pre hL.pre hL.long) (fun v hv => by have := hL.short v (hsub v hv); omega) hM.inner hM.below (by omega) (by omega)
  rw [hl] at h3
  exact h3.mono fun e w' h => hM.call h
theorem app_box {a : Value} {o : Nat → Prop} {xs : List Int} (h : Mid w0 w W P bb bn bk bm v0 x vs vt v N) (ha : Kd.R (Kd.int .i64) 3 W w.heap.size o a xs) (HG : W.grownBy wA a.ownBlock) : wA.heap[w.heap.size]? = some (.cells #[.bool x.f0, vs, vt, .int .i64 x.f3] 102 (0, 0)) := by
  refine (HG.block _ (blk_lt h.hx) fun he => ?_).trans h.hx
  obtain ⟨cells, hc⟩ := Kd.R_typed ha _ he.symm
  rw [h.hx] at hc
  injection hc with hc
  injection hc with _ e
  exact absurd e (by decide)
theorem round_next (hL : LoopSt w0 w wr P bb bn bk bm v0 at_ d (u :: lr) Ar cr x vs vt v N) {ad : Addr} (hA : Ar = some ad) {x' : Nd} {vs' vt' v' : Value} {N' : List Nd} (hM : Mid w0 w W P bb bn bk bm v0 x' vs' vt' v' N')
    (h1 : x'.f1.length = x.f1.length + 1) (h2 : x'.f2.length = x.f2.length + 1) (hN : N'.length ≤ N.length + 1 + cost (u :: lr.take (grpLen at_ u lr)) (at_ + 1)) :
    LoopSt w0 w W P bb bn bk bm v0 at_ d (lr.drop (grpLen at_ u lr)) (if cr = grpLen at_ u lr + 1 then some ad else some { block := ad.block, off := ad.off + (grpLen at_ u lr + 1) }) (cr - (grpLen at_ u lr + 1)) x' vs' vt' v' N' := by
  subst hA
  have hg := grpLen_le at_ u lr
  have hc := hL.hc
  have hmem : ∀ v ∈ lr.drop (grpLen at_ u lr), v ∈ u :: lr := fun v hv => List.mem_cons_of_mem _ (List.mem_of_mem_drop hv)
  have hroom := hL.room
  have hsplit := cost_split lr (grpLen at_ u lr) at_
  have hcost := cost_succ (u :: lr.take (grpLen at_ u lr)) at_ (fun v hv => hL.long v (by
    rcases List.mem_cons.1 hv with rfl | hv
    · exact List.mem_cons_self
    · exact List.mem_cons_of_mem _ (List.mem_of_mem_take hv)))
  have hc2 := cost_cons u (lr.take (grpLen at_ u lr)) at_
  rw [cost_cons] at hroom
  have hfew := hL.few
  have heven := hL.even
  simp only [List.length_cons, List.length_take] at hcost hc hfew
  refine ⟨hM, ?_, by rw [List.length_drop]; omega, pre_drop (pre_tail hL.pre) _, fun v hv => hL.long v (hmem v hv), fun v hv => hL.short v (hmem v hv), by omega, by omega, by rw [List.length_drop]; omega⟩
  have h3 := Kd.C_drop hL.hC (m := grpLen at_ u lr + 1) (by simp only [List.length_cons]; omega) hL.hc
  have e : (grpLen at_ u lr + 1) * (Kd.slice 3 (Kd.int .i64)).sz = grpLen at_ u lr + 1 := Nat.mul_one _
  rw [e, List.drop_succ_cons] at h3
  exact h3
theorem app_fresh (h : Mid w0 w W P bb bn bk bm v0 x vs vt v N) : (∀ k, W.heap.size ≤ k → some k ≠ vt.ownBlock) ∧ (∀ k, W.heap.size ≤ k → some k ≠ vs.ownBlock) :=
  ⟨fun k hk e => by have := ((Kd.R_bound h.ht).1 k e.symm).2.2.1; omega, fun k hk e => by have := ((Kd.R_bound h.hs).1 k e.symm).2.2.1; omega⟩
end
set_option maxHeartbeats 4000000 in
set_option maxRecDepth 100000 in
theorem inner_step (d : Nat) (IH : Aside0 (0 < d → InnerSpec d)) : InnerSpec (d + 1) := by
  intro w0 w A c l at_ P bb bn bk bm v N hC hc hpre hshort hin hB hroom hat
  have HIN := Aside0.mk hin
  have c1 : w.cell? ⟨bb, 0, none⟩ = some (.func (.func 67) #[] #[.pointer (some ⟨bb, 0, none⟩), .pointer (some ⟨bn, 0, none⟩), .pointer (some ⟨bk, 0, none⟩)]) := (blk_cell hin.hbb 0).trans rfl
  have c2 : w.cell? ⟨bk, 0, none⟩ = some (.map (some bm)) := (blk_cell hin.hbk 0).trans rfl
  have c3 : w.cell? ⟨bn, 0, none⟩ = some v := (blk_cell hin.hbn 0).trans rfl
  have hmax := Kd.C_max hC
  have HPRE := Aside0.mk hpre
  have HB := Aside0.mk hB
  have HC := Aside0.mk hC
  have HSH := Aside0.mk hshort
  have HRM := Aside0.mk hroom
  clear hin hpre hB hC hshort hroom
  go_enter Try.func67, Try.ntmps67
  go_upto_region 2 with fail
  go_cut [23] from 13 (fun s23 wx => s23 = .bool (finB l at_) ∧ wx = w.alloc (.cells #[.bool false, .slice none 0 0, .slice none 0 0, .int .i64 0] 102))
  case first =>
    cases l with
    | nil =>
      go_wp2
      go_meet
      exact ⟨rfl, rfl⟩
    | cons u l =>
      obtain ⟨ad, A0, c0, rfl, hx, hl0, hC0⟩ := at_rows (HCof HC.out HB.out) 0 (by omega) (by simp)
      have hx' := pw_cell_below (below_alloc (Below.refl _ w) (.cells #[.bool false, .slice none 0 0, .slice none 0 0, .int .i64 0] 102)) hx
      have hrd : rdR (u :: l) 0 = u := rfl
      rw [hrd] at hx'
      have hadd : ad.add (0 : Int).toNat = ad := by unfold Addr.add; simp
      rw [hadd] at hx'
      clear hadd hrd hx
      go_wp2
      go_meet
      exact ⟨congrArg Value.bool (by rw [Bool.eq_iff_iff]; simp [finB]; omega), rfl⟩
  case rest =>
    obtain ⟨rfl, rfl⟩ := hcut
    go_upto_if 23 with fail
    go_cut [0] from 13 (fun s0 wx => ∃ Ar cr, s0 = .slice Ar (restL l at_).length cr ∧ LoopSt w0 w wx P bb bn bk bm v at_ d (restL l at_) Ar cr (startNd l at_) (.slice none 0 0) (.slice none 0 0) v N)
    case first =>
      by_cases hf : finB l at_ = true
      · cases l with
        | nil => simp [finB] at hf
        | cons u l =>
          rw [hf]
          have hl1 : restL (u :: l) at_ = l := by simp [restL, hf]
          have HC1 := Aside0.mk (rows_tail HC.out hc)
          have HST := fun (Ar : Option Addr) (cr : Nat) (wx : World) => loop_start (wx := wx) (Ar := Ar) (cr := cr) HIN.out HB.out HPRE.out HSH.out HRM.out
          have HSN : Aside0 (startNd (u :: l) at_ = ⟨true, [], [], 1⟩) := ⟨by simp [startNd, hf]⟩
          rw [hl1, hf] at HST
          have HST := Aside0.mk HST
          have HL1 := Aside0.mk hl1
          clear hl1 hf
          go_wp2
          go_region
          all_goals go_wp2
          all_goals go_meet
          all_goals (rw [HL1.out]; refine ⟨_, _, rfl, HST.out _ _ _ ?_ ?_ ?_ ?_⟩)
          · have h2 := HC1.out; subst h; simpa using h2
          · simp only [List.length_cons] at hc; omega
          · exact (below_alloc (Below.refl _ w) _).drew
          · exact blk_new w _
          · have h2 := HC1.out; rw [if_neg h] at h2; exact h2
          · simp only [List.length_cons] at hc; omega
          · exact (below_alloc (Below.refl _ w) _).drew
          · exact blk_new w _
      · have hf' : finB l at_ = false := by simpa using hf
        have hl1 : restL l at_ = l := by simp [restL, hf']
        have HST := fun (Ar : Option Addr) (cr : Nat) (wx : World) => loop_start (wx := wx) (Ar := Ar) (cr := cr) HIN.out HB.out HPRE.out HSH.out HRM.out
        rw [hl1] at HST
        have HST := Aside0.mk HST
        have HL1 := Aside0.mk hl1
        have HF := Aside0.mk hf'
        rw [hf']
        clear hl1 hf hf'
        go_wp2
        go_meet
        rw [HL1.out]
        refine ⟨_, _, rfl, HST.out _ _ _ HC.out hc (below_alloc (Below.refl _ w) _) ?_⟩
        rw [HF.out]
        exact blk_new w _
    case rest =>
      obtain ⟨Ar, cr, rfl, hL⟩ := hcut
      have HL := Aside0.mk hL
      clear hL
      go_wp2
      go_loopw [0] (fun s0 wr => ∃ (Ar : Option Addr) (cr : Nat) (lr : List (List Int)) (x : Nd) (vs vt v' : Value) (N' : List Nd), s0 = .slice Ar lr.length cr ∧ LoopSt w0 w wr P bb bn bk bm v at_ d lr Ar cr x vs vt v' N' ∧
          kids (fun l N => bld d l (at_ + 1) N) at_ lr.length lr x N' = kids (fun l N => bld d l (at_ + 1) N) at_ (restL l at_).length (restL l at_) (startNd l at_) N) (fun s0 _ => lenV s0)
      case atStart => exact ⟨Ar, cr, restL l at_, startNd l at_, _, _, v, N, rfl, HL.out, rfl⟩
      case round =>
        obtain ⟨Ar, cr, lr, x, vs, vt, v', N', rfl, hL, hk⟩ := hrel
        cases lr with
        | nil =>
          obtain ⟨Av, cv, rfl⟩ := Kd.R_slice hL.inner.row
          have hL1 := hL
          obtain ⟨⟨hx, hs, ht, hinn, hv, hkept, hbel, hle⟩, hC, hc', hpre, hlong, hshort, heven, hroom, hfew⟩ := hL
          have HKEY : Aside0 (∀ W, Below wr.heap.size wr W → Calls Try.prog 68 #[.agg #[.bool x.f0, vs, vt, .int .i64 x.f3]] W fun e w' => e = .returned (.string (keyOf x)) ∧ Below wr.heap.size wr w') :=
            ⟨fun W hb => (key_calls (Kd.R_below hs hb) (Kd.R_below ht hb) heven (by simpa using hfew)).mono fun e w' h => ⟨h.1, hb.trans (h.2.mono hb.size)⟩⟩
          have HS : Aside0 (∀ W, Below wr.heap.size wr W → W.cell? ⟨w.heap.size, 0, none⟩ = some (.bool x.f0) ∧ W.cell? ⟨w.heap.size, 1, none⟩ = some vs ∧ W.cell? ⟨w.heap.size, 2, none⟩ = some vt ∧ W.cell? ⟨w.heap.size, 3, none⟩ = some (.int .i64 x.f3) ∧ W.cell? ⟨bk, 0, none⟩ = some (.map (some bm)) ∧ W.cell? ⟨bn, 0, none⟩ = some (.slice Av N'.length cv) ∧
              (Instr.lookup 98 (.map (some bm)) (.string (keyOf x)) true).run Try.prog W = .ok (.tuple #[.int .i64 ((knownF N' (keyOf x)).getD 0), .bool (knownF N' (keyOf x)).isSome]) W) := ⟨fun W hb => by
            have hx' := (hb.block _ (blk_lt hx)).trans hx
            refine ⟨(blk_cell hx' 0).trans rfl, (blk_cell hx' 1).trans rfl, (blk_cell hx' 2).trans rfl, (blk_cell hx' 3).trans rfl, (blk_cell (hinn.below hb).hbk 0).trans rfl, (blk_cell (hinn.below hb).hbn 0).trans rfl, ?_⟩
            exact (hinn.below hb).map.lookup law_str Try.underlying98 (keyOf x) (.string (keyOf x)) (keyS (keyOf x) (keyOf_size x heven (by simpa using hfew)))⟩
          have HUP : Aside0 (knownF N' (keyOf x) = none → ∀ W, Below wr.heap.size wr W → ∃ W2, (Instr.mapUpdate 98 (.map (some bm)) (.string (keyOf x)) (.int .i64 (N'.length : Int))).run Try.prog W = .ok () W2 ∧
              MapHas 9 litS W2 bm (N'.length + 1) (fun y => if y = keyOf x then some (N'.length : Int) else knownF N' y) ∧ W.grownBy W2 (some bm) ∧ W2.cell? ⟨w.heap.size, 0, none⟩ = some (.bool x.f0) ∧ W2.cell? ⟨w.heap.size, 1, none⟩ = some vs ∧ W2.cell? ⟨w.heap.size, 2, none⟩ = some vt ∧ W2.cell? ⟨w.heap.size, 3, none⟩ = some (.int .i64 x.f3) ∧ W2.cell? ⟨bk, 0, none⟩ = some (.map (some bm)) ∧ W2.cell? ⟨bn, 0, none⟩ = some (.slice Av N'.length cv) ∧ W2.frozen? ⟨bn, 0, none⟩ = false) := ⟨fun hkn W hb => by
            have hi := hinn.below hb
            obtain ⟨W2, h1, h2, h3⟩ := hi.map.update law_str Try.underlying98 (by simp only [maxLen]; have := hL1.room; omega) (keyOf x) (.string (keyOf x)) (keyS (keyOf x) (keyOf_size x heven (by simpa using hfew))) litS_key litS_inj (N'.length : Int) (by simp only [Lit.wf, Bool.and_eq_true, decide_eq_true_eq]; have := hL1.room; exact ⟨by rw [show IntKind.i64.min = -9223372036854775808 from rfl]; omega, by rw [show IntKind.i64.max = 9223372036854775807 from rfl]; omega⟩)
            have hcar : ∀ {g : Nat} {cs : Array Value} {t : TypeId} {fr : Nat × Nat}, W.heap[g]? = some (.cells cs t fr) → W2.heap[g]? = some (.cells cs t fr) := by
              intro g cs t fr hg
              exact (h3.block g (blk_lt hg) (by intro e; exact hi.map.not_cells hg (Option.some.inj e))).trans hg
            have hx' := hcar ((hb.block _ (blk_lt hx)).trans hx)
            exact ⟨W2, h1, h2, h3, (blk_cell hx' 0).trans rfl, (blk_cell hx' 1).trans rfl, (blk_cell hx' 2).trans rfl, (blk_cell hx' 3).trans rfl, (blk_cell (hcar hi.hbk) 0).trans rfl, (blk_cell (hcar hi.hbn) 0).trans rfl, free_of_one (hcar hi.hbn)⟩⟩
          have HE1 : Aside0 (bld (d + 1) l at_ N = putN N' x) := ⟨by
            rw [show kids _ at_ ([] : List (List Int)).length [] x N' = (x, N') from rfl] at hk
            simp only [bld]
            rw [← hk]⟩
          have HALL := Aside0.mk hL1
          clear hL1 hC hc' hpre hlong hshort hx hs ht heven hinn hv hkept hbel hroom hfew hk hle c1 c2 c3
          cases hkn : knownF N' (keyOf x) with
          | some k =>
            rw [hkn] at HS
            have HP : Aside0 (putN N' x = (k, N')) := ⟨by unfold putN; rw [hkn]⟩
            clear hkn
            go_wp2
            go_region_held3 (fun W => W.cell? ⟨w.heap.size, 0, none⟩ = some (.bool x.f0) ∧ W.cell? ⟨w.heap.size, 1, none⟩ = some vs ∧ W.cell? ⟨w.heap.size, 2, none⟩ = some vt ∧ W.cell? ⟨w.heap.size, 3, none⟩ = some (.int .i64 x.f3) ∧ W.cell? ⟨bk, 0, none⟩ = some (.map (some bm)) ∧ W.cell? ⟨bn, 0, none⟩ = some (.slice Av N'.length cv) ∧
              (Instr.lookup 98 (.map (some bm)) (.string (keyOf x)) true).run Try.prog W = .ok (.tuple #[.int .i64 ((some k).getD 0), .bool (some k).isSome]) W) (first | exact HS.out _ (by assumption) | exact HS.out _ (Below.refl _ _).drew) (first | (go_at_call 68; refine (HKEY.out _ (Below.refl _ _).drew).mono ?_; rintro e w' ⟨rfl, hb⟩))
            go_wp2
            go_ret
            rw [HE1.out, HP.out]
            exact known_post HALL.out hb k
          | none =>
            rw [hkn] at HS
            have HP : Aside0 (putN N' x = ((N'.length : Int), N' ++ [x])) := ⟨by unfold putN; rw [hkn]⟩
            have HKN := Aside0.mk hkn
            clear hkn
            go_wp2
            go_region_held3 (fun W => W.cell? ⟨w.heap.size, 0, none⟩ = some (.bool x.f0) ∧ W.cell? ⟨w.heap.size, 1, none⟩ = some vs ∧ W.cell? ⟨w.heap.size, 2, none⟩ = some vt ∧ W.cell? ⟨w.heap.size, 3, none⟩ = some (.int .i64 x.f3) ∧ W.cell? ⟨bk, 0, none⟩ = some (.map (some bm)) ∧ W.cell? ⟨bn, 0, none⟩ = some (.slice Av N'.length cv) ∧
              (Instr.lookup 98 (.map (some bm)) (.string (keyOf x)) true).run Try.prog W = .ok (.tuple #[.int .i64 ((none : Option Int).getD 0), .bool (none : Option Int).isSome]) W) (first | exact HS.out _ (by assumption) | exact HS.out _ (Below.refl _ _).drew) (first | (go_at_call 68; refine (HKEY.out _ (Below.refl _ _).drew).mono ?_; rintro e w' ⟨rfl, hb⟩))
            go_wp2
            go_region_held3 (fun W => W.cell? ⟨w.heap.size, 0, none⟩ = some (.bool x.f0) ∧ W.cell? ⟨w.heap.size, 1, none⟩ = some vs ∧ W.cell? ⟨w.heap.size, 2, none⟩ = some vt ∧ W.cell? ⟨w.heap.size, 3, none⟩ = some (.int .i64 x.f3) ∧ W.cell? ⟨bk, 0, none⟩ = some (.map (some bm)) ∧ W.cell? ⟨bn, 0, none⟩ = some (.slice Av N'.length cv)) (first | exact ⟨q1, q2, q3, q4, q5, q6⟩ | (have h_ := HS.out _ (Below.drew hb); exact ⟨h_.1, h_.2.1, h_.2.2.1, h_.2.2.2.1, h_.2.2.2.2.1, h_.2.2.2.2.2.1⟩) | (have h_ := HS.out _ hb2; exact ⟨h_.1, h_.2.1, h_.2.2.1, h_.2.2.2.1, h_.2.2.2.2.1, h_.2.2.2.2.2.1⟩)) (first | (go_at_call 68; refine (HKEY.out _ (Below.drew hb)).mono ?_; rintro e w2 ⟨rfl, hb2⟩; obtain ⟨W2, hrun2, hm2, hg2, q1, q2, q3, q4, q5, q6, q7⟩ := HUP.out HKN.out w2 hb2))
            have HR := Aside0.mk (push_row HALL.out hb2 hg2)
            have HM := Aside0.mk (push_elem HALL.out hb2 hg2)
            have HB2 : Aside0 (Below w0.heap.size w0 W2) := ⟨(HALL.out.below.trans (hb2.mono HALL.out.below.size)).grown hg2 (by have := HALL.out.below.size; have := hb2.size; omega) (fun k e => by obtain rfl := Option.some.inj e; exact HALL.out.inner.lbm)⟩
            have HPOST := Aside0.mk (fun (v1 : Value) (w3 : World) => push_post (w3 := w3) (v1 := v1) HALL.out HKN.out hb2 hg2 hm2)
            have HRM2 := Aside0.mk (push_room HALL.out)
            have HNL : Aside0 (N'.length ≤ 1000000000) := ⟨by have := HALL.out.room; omega⟩
            have HAP := Aside0.mk (push_apart HALL.out)
            have HFR := Aside0.mk (fun (w3 : World) => push_box (w3 := w3) HALL.out hb2 hg2)
            have HSZ : Aside0 (w.heap.size ≤ W2.heap.size) := ⟨by have := HALL.out.kept.1; have := hb2.size; have := hg2.size; omega⟩
            clear hb hb2 hg2 hm2
            go_wp2_with (at_builtin; refine Kd.R_append k102 (w0 := w0) w0.heap.size rfl (.tmp 103) (.tmp 105) 99 102 (.agg #[(.bool false), (.slice none 0 0), (.slice none 0 0), (.int .i64 0)]) 64 rfl Try.underlying99 info102 rfl (by decide) (by omega) (.slice Av N'.length cv) N' x [.bool x.f0, vs, vt, .int .i64 x.f3] (fun k => P k ∨ w.heap.size ≤ k) _ rfl rfl HM.out HAP.out (fun k hk => .inr (Nat.le_trans HSZ.out hk)) HR.out HB2.out HB2.out.size HRM2.out ?_; intro v1 w1 HO HB HG hown; have hfz := free_of_one (HFR.out w1 HG); have hb1 := cell_of_one (HFR.out w1 HG); obtain ⟨A1, c1, rfl⟩ := Kd.R_slice HO)
            go_ret
            rw [HE1.out, HP.out]
            have h64 : wrap64 (N'.length : Int) = (N'.length : Int) := by have := HNL.out; unfold wrap64; omega
            show InPost w0 w P bb bn bk bm v ((N'.length : Int), N' ++ [x]) (.returned (.int .i64 (wrap64 (N'.length : Int)))) _
            rw [h64]
            rw [show (N' ++ [x]).length = N'.length + 1 from by simp] at HO hown
            exact HPOST.out _ w1 HO HG hown HB
        | cons u lr =>
          have HLR := Aside0.mk hL
          have hCw := HCof hL.hC hL.below
          obtain ⟨ad, A0, c0, rfl, hx00, hl0, hC0⟩ := at_rows hL.hC 0 (by omega) (by simp)
          rw [show rdR (u :: lr) 0 = u from rfl] at hx00 hl0 hC0
          rw [show ad.add (0 : Int).toNat = ad from by unfold Addr.add; simp] at hx00
          obtain ⟨ad0, rfl, hy00⟩ := Kd.at_int hC0 (at_ : Int) (by omega) (by have := hL.long u List.mem_cons_self; omega)
          rw [Int.toNat_natCast] at hy00
          have hx0 := pw_cell_below hL.below hx00
          have hy0 := pw_cell_below hL.below hy00
          have HX00 := Aside0.mk hx00
          have HY00 := Aside0.mk hy00
          have x4 : wr.cell? ⟨bb, 0, none⟩ = some (.func (.func 67) #[] #[.pointer (some ⟨bb, 0, none⟩), .pointer (some ⟨bn, 0, none⟩), .pointer (some ⟨bk, 0, none⟩)]) := (blk_cell hL.inner.hbb 0).trans rfl
          have hat1 : at_ < u.length := hL.long u List.mem_cons_self
          have hat2 : (at_ : Int) < (u.length : Int) := by omega
          have hat3 : (0 : Int) ≤ (at_ : Int) := by omega
          have HK := Aside0.mk hk
          have HCW := Aside0.mk hCw
          have hlr : lr.length < 100000000000 := by have := hL.few; simp only [List.length_cons] at this; omega
          clear hL hCw hC0 hk c1 c2 c3 hx00 hy00
          go_upto_block 2 with fail
          go_cut [9] from 28 to 88 (fun s9 wq => s9 = .int .i64 ((grpLen at_ u lr : Int) + 1) ∧ ∃ n, wq = wr.drewN n)
          case first =>
           go_wp2
           go_loopw [9] (fun s9 wq => ∃ j n : Nat, s9 = .int .i64 ((j : Int) + 1) ∧ Aside0 (j ≤ grpLen at_ u lr) ∧ wq = wr.drewN n) (fun s9 _ => lr.length + 1 - (intOf s9).toNat)
           case atStart => exact ⟨0, 0, rfl, ⟨Nat.zero_le _⟩, rfl⟩
           case round =>
            obtain ⟨j, n, rfl, hj, rfl⟩ := hrel
            by_cases hlt : j < lr.length
            · obtain ⟨ad2, A2, c2, hA2, hx2, hl2, hC2⟩ := at_rows HCW.out ((j + 1 : Nat) : Int) (by omega) (by simp only [List.length_cons]; omega)
              injection hA2 with hA2
              subst hA2
              have hlong : at_ < (rdR lr j).length := HLR.out.long _ (List.mem_cons_of_mem _ (by rw [rdR_nat, List.getD_eq_getElem?_getD, List.getElem?_eq_getElem hlt]; exact List.getElem_mem hlt))
              have er : rdR (u :: lr) ((j + 1 : Nat) : Int) = rdR lr j := by rw [rdR_nat, rdR_nat, List.getD_cons_succ]
              rw [er] at hx2 hl2 hC2
              obtain ⟨ad3, rfl, hy2⟩ := Kd.at_int hC2 (at_ : Int) (by omega) (by omega)
              rw [Int.toNat_natCast] at hx2 hy2
              have hx2' := cell_add hx2
              have w1 : IntKind.i64.wrap ((j : Int) + 1) = (j : Int) + 1 := wrap_in (by omega) (by omega)
              have w2 : ((j : Int) + 1).toNat = j + 1 := by omega
              have w3 : (0 : Int) ≤ (j : Int) + 1 := by omega
              have w4 : (j : Int) + 1 < ((u :: lr).length : Int) := by simp only [List.length_cons]; omega
              have w5 : decide ((j : Int) + 1 < ((u :: lr).length : Int)) = true := decide_eq_true w4
              have w6 : (at_ : Int) < ((rdR lr j).length : Int) := by omega
              clear er hC2 hx2
              by_cases hg : rd (rdR lr j) at_ = rd u at_
              · have hgb : (rd (rdR lr j) at_ == rd u at_) = true := beq_iff_eq.2 hg
                have HJ1 : Aside0 (j + 1 ≤ grpLen at_ u lr) := ⟨by
                  have := hj.out
                  rcases Nat.lt_or_ge j (grpLen at_ u lr) with h | h
                  · exact h
                  · obtain rfl : j = grpLen at_ u lr := by omega
                    exact absurd hg (grp_end at_ u lr hlt)⟩
                clear hg
                go_wp2
                go_quiet (fail)
                go_wp2
                go_roundw
                case rel => exact ⟨j + 1, _, by go_num, HJ1, rfl⟩
                case measure => simp [intOf]; omega
              · have hgb : (rd (rdR lr j) at_ == rd u at_) = false := beq_eq_false_iff_ne.2 hg
                have HJ1 : Aside0 (j = grpLen at_ u lr) := ⟨grp_stop at_ u lr j hj.out (.inr hg)⟩
                clear hg
                go_wp2
                go_quiet (fail)
                go_wp2
                go_meet
                exact ⟨by rw [HJ1.out], _, World.drewN_drewN _ _ _⟩
            · obtain rfl : j = lr.length := by have := hj.out; have := grpLen_le at_ u lr; omega
              have HJ1 : Aside0 (lr.length = grpLen at_ u lr) := ⟨grp_stop at_ u lr _ hj.out (.inl rfl)⟩
              have w5 : decide ((lr.length : Int) + 1 < ((u :: lr).length : Int)) = false := decide_eq_false (by simp only [List.length_cons]; omega)
              go_wp2
              go_quiet (fail)
              go_wp2
              go_meet
              exact ⟨by rw [HJ1.out], _, World.drewN_drewN _ _ _⟩
          case rest =>
            obtain ⟨rfl, n, hwc⟩ := hcut
            have hbc : Below wr.heap.size wr wc := by rw [hwc]; exact pw_below_drewN (Below.refl _ _) n
            clear hwc
            have hd0 : 0 < d := by have := HLR.out.short u List.mem_cons_self; omega
            have HREC := Aside0.mk (rec_call (W := wc.drew) (IH.out hd0) HLR.out hat hbc.drew)
            clear hd0
            have y4 : wc.cell? ⟨bb, 0, none⟩ = some (.func (.func 67) #[] #[.pointer (some ⟨bb, 0, none⟩), .pointer (some ⟨bn, 0, none⟩), .pointer (some ⟨bk, 0, none⟩)]) := (blk_cell (HLR.out.inner.below hbc).hbb 0).trans rfl
            clear hbc x4 hx0 hy0
            have hgl := grpLen_le at_ u lr
            obtain ⟨d, rfl⟩ : ∃ d', d = d' + 1 := ⟨d - 1, by have := HLR.out.short u List.mem_cons_self; omega⟩
            obtain ⟨hb0, hb1⟩ := bld_lt d (u :: lr.take (grpLen at_ u lr)) (at_ + 1) N'
            have HKR := Aside0.mk (kids_round (fun l N => bld (d + 1) l (at_ + 1) N) at_ u lr x N')
            have hcr : (u :: lr).length ≤ cr := HLR.out.hc
            simp only [roundX] at HKR
            generalize hr : bld (d + 1) (u :: lr.take (grpLen at_ u lr)) (at_ + 1) N' = r at *
            generalize hgg : grpLen at_ u lr = g at *
            have g1 : (0 : Int) ≤ (g : Int) + 1 := by omega
            have g2 : (g : Int) + 1 ≤ (cr : Int) := by simp only [List.length_cons] at hcr; omega
            have g3 : ((g : Int) + 1).toNat = g + 1 := by omega
            have g4 : IntKind.i64.wrap ((at_ : Int) + 1) = (at_ : Int) + 1 := wrap_in (by omega) (by omega)
            have HR := Aside0.mk hr
            have HGG := Aside0.mk hgg
            clear hr hgg
            go_wp2
            go_still_tail 6, (by kernel_rfl)
            change wpList _ _ _ _ _ wc.drew
            go_wp2_with (first | (go_at_call 67; refine (HREC.out).mono ?_; rintro e w1 ⟨v2, rfl, hM1⟩))
            have z1 : w1.cell? ⟨w.heap.size, 1, none⟩ = some vs := (blk_cell hM1.hx 1).trans rfl
            have z2 : w1.frozen? ⟨w.heap.size, 1, none⟩ = false := by simp [World.frozen?, hM1.hx]
            have z3 := pw_cell_below hM1.below HX00.out
            have z4 := pw_cell_below hM1.below HY00.out
            have HM1 := Aside0.mk (hM1.step (Below.refl _ _).drew)
            have HF1 : Aside0 (x.f1.length ≤ 100000000000) := ⟨by have := HLR.out.few; omega⟩
            have z5 : (w1.alloc (.cells #[.int .i64 (rd u at_)] 3)).cell? ⟨w.heap.size, 1, none⟩ = some vs := pw_cell_below (below_alloc (Below.refl _ w1) _) z1
            clear hM1 y4
            go_cut [10] from 28 to 88 (fun s10 wx => s10 = .int .i64 r.1 ∧ ∃ v3, Mid w0 w wx P bb bn bk bm v ⟨x.f0, x.f1 ++ [rd u at_], x.f2, x.f3⟩ v3 vt v2 r.2)
            case first =>
             go_region_law (refine Kd.R_append_step (Kd.int .i64) (w0 := w1.drew) (W := w1.drew) w.heap.size (by rfl) (.tmp 61) (.tmp 68) 22 3 (.int .i64 0) 8 rfl Try.underlying22 info3 rfl (by decide) (by omega) vs x.f1 (rd u at_) [.int .i64 (rd u at_)] (fun k => some k ≠ vt.ownBlock) (fun _ => False) rfl rfl rfl (fun _ h => h.elim) (app_fresh HM1.out).1 HM1.out.hs (Below.refl _ _) HM1.out.kept.1 (by have := HF1.out; omega) ?_; intro v3 wA HO1 HB1 HG1 hown1; have hbx := app_box HM1.out HM1.out.hs HG1; have t1 : wA.cell? ⟨w.heap.size, 1, none⟩ = some vs := (blk_cell hbx 1).trans rfl; have t2 : wA.frozen? ⟨w.heap.size, 1, none⟩ = false := (by simp [World.frozen?, hbx]); obtain ⟨A3, c3, rfl⟩ := Kd.R_slice HO1)
             all_goals go_wp2
             all_goals go_meet
             all_goals (rw [show (x.f1 ++ [rd u at_]).length = x.f1.length + 1 from by simp] at HO1 hown1; exact ⟨rfl, _, HM1.out.app1 _ HO1 HG1 hown1⟩)
            case rest =>
             obtain ⟨rfl, v3, hM3⟩ := hcut
             have z6 : wc.cell? ⟨w.heap.size, 2, none⟩ = some vt := (blk_cell hM3.hx 2).trans rfl
             have z7 : wc.frozen? ⟨w.heap.size, 2, none⟩ = false := by simp [World.frozen?, hM3.hx]
             have HM3 := Aside0.mk hM3
             have HF2 : Aside0 (x.f2.length ≤ 100000000000) := ⟨by have := HLR.out.few; have := HLR.out.even; omega⟩
             have HCONT := Aside0.mk (fun (wA : World) (v4 : Value) => hM3.app2 (wA := wA) (v1 := v4) r.1)
             clear hM3 z1 z2 z3 z4 z5
             go_wp2_with (at_builtin; refine Kd.R_append (Kd.int .i64) (w0 := wc) w.heap.size rfl (.tmp 72) (.tmp 74) 22 3 (.int .i64 0) 8 rfl Try.underlying22 info3 rfl (by decide) (by omega) vt x.f2 r.1 [.int .i64 r.1] (fun k => some k ≠ v3.ownBlock) (fun _ => False) rfl rfl rfl (fun _ h => h.elim) (app_fresh HM3.out).2 HM3.out.ht (Below.refl _ _) HM3.out.kept.1 (by have := HF2.out; omega) ?_; intro v4 wB HO2 HB2 HG2 hown2; have hbx := app_box HM3.out HM3.out.ht HG2; have t1 : wB.cell? ⟨w.heap.size, 2, none⟩ = some vt := (blk_cell hbx 2).trans rfl; have t2 : wB.frozen? ⟨w.heap.size, 2, none⟩ = false := (by simp [World.frozen?, hbx]); obtain ⟨A4, c4, rfl⟩ := Kd.R_slice HO2)
             rw [show (x.f2 ++ [r.1]).length = x.f2.length + 1 from by simp] at HO2 hown2
             have hM4 := HCONT.out wB _ HO2 HG2 hown2
             generalize hwD : wB.setCell _ _ = wD at *
             generalize Value.slice A4 (x.f2.length + 1) c4 = v4 at *
             obtain ⟨A5, c5, rfl⟩ := Kd.R_slice hM4.inner.row
             obtain ⟨A5', c5', hA5, hl5, hC5⟩ := Kd.R_reads hM4.inner.row
             injection hA5 with e1 e2 e3
             subst e1
             subst e3
             obtain ⟨ad5, _, _, _, _, rfl, _, _, _, y3, _⟩ := at_T102 hC5 r.1 hb0 (by omega)
             have y0 : wD.cell? ⟨w.heap.size, 3, none⟩ = some (.int .i64 x.f3) := (blk_cell hM4.hx 3).trans rfl
             have y1 : wD.frozen? ⟨w.heap.size, 3, none⟩ = false := by simp [World.frozen?, hM4.hx]
             have y2 : wD.cell? ⟨bn, 0, none⟩ = some (.slice (some ad5) r.2.length c5) := (blk_cell hM4.inner.hbn 0).trans rfl
             have HM4 := Aside0.mk hM4
             clear HM3 HCONT hM4 hC5 HO2 HB2 HG2 hown2 hbx t1 t2 hwD z6 z7
             go_wp2
             go_still_tail 9, (by kernel_rfl)
             change wpList _ _ _ _ _ wD.drew
             have q1 : (g : Int) + 1 ≤ (lr.length : Int) + 1 := by omega
             have q2 : ((lr.length : Int) + 1).toNat = lr.length + 1 := by omega
             go_wp2
             all_goals go_roundw
             case rel =>
              have hlen : r.2.length ≤ N'.length + 1 + cost (u :: lr.take g) (at_ + 1) := by
                have := bld_length (d + 1) (u :: lr.take g) (at_ + 1) N' (HGG.out ▸ grp_pre HLR.out.pre HLR.out.long)
                rwa [HR.out] at this
              have hM5 := ((HM4.out).cnt (wrap64 (x.f3 + (rd_T102 r.2 r.1).f3))).step (Below.refl _ _).drew
              have hN5 := round_next HLR.out rfl hM5 (by simp) (by simp) (by rw [HGG.out]; exact hlen)
              rw [HGG.out] at hN5
              refine ⟨_, cr - (g + 1), lr.drop g, _, _, _, _, _, ?_, hN5, ?_⟩
              · rw [List.length_drop]
              · exact HKR.out.symm.trans HK.out
             case measure => simp only [lenV, List.length_cons]; omega
theorem inner_any : ∀ d, InnerSpec (d + 1)
  | 0 => inner_step 0 ⟨fun h => absurd h (Nat.lt_irrefl 0)⟩
  | d + 1 => inner_step (d + 1) ⟨fun _ => inner_any d⟩
end Go.Proofs.Ytcdjeimjbbknjaa.PAll
namespace Go.Proofs.Ytcdjeimjbbknjaa.PAll
open Go.RowKit Go.Maps Go.Proofs.YtcdjeimjbbknjaaW.PrintWords Go.Proofs.YtcdjeimjbbknjaaW.PrintLast Go.Proofs.YtcdjeimjbbknjaaW.PrintMore
set_option linter.unusedVariables false
set_option linter.unusedSimpArgs false

theorem num_start (w W1 : World) (start : Int) (hm : MapHas 3 litI W1 w.heap.size 1 (fun y => if y = start then some 0 else none)) (hg : (w.alloc (.map #[] 0)).grownBy W1 (some w.heap.size)) :
    Num w ((W1.alloc (.cells #[.int .i64 start] 3)).alloc (.cells #[.slice none 0 0] 110)) (fun _ => True) w.heap.size (W1.heap.size + 1) (.slice (some ⟨W1.heap.size, 0, none⟩) 1 1) (.slice none 0 0) [start] [] := by
  have hsz : w.heap.size < W1.heap.size := hm.lt
  have h1 := own_lit_of (enc := Value.int .i64) W1 w.heap.size 3 [start] (by omega) (by simp)
  have h2 : Kd.R (Kd.int .i64) 3 (W1.alloc (.cells #[.int .i64 start] 3)) w.heap.size (fun _ => True) (.slice (some ⟨W1.heap.size, 0, none⟩) 1 1) [start] := Kd.R_of_own (h1 := fun _ => rfl) h1 (fun _ _ => trivial)
  have hb : Below W1.heap.size W1 ((W1.alloc (.cells #[.int .i64 start] 3)).alloc (.cells #[.slice none 0 0] 110)) := below_alloc (below_alloc (Below.refl _ _) _) _
  have hs2 : (W1.alloc (.cells #[.int .i64 start] 3)).heap.size = W1.heap.size + 1 := by simp
  refine ⟨Kd.R_alloc h2 _, ?_, ?_, Kd.N_nil _ _ _ _ _, ?_, Nat.le_refl _, by omega⟩
  · obtain ⟨D, h4, h5⟩ := hm.below hb
    exact ⟨D, h4, fun y => by
      have : posF [start] y = if y = start then some 0 else none := by
        have := posF_snoc [] start rfl y
        simpa [posF] using this
      rw [this]; exact h5 y⟩
  · rw [← hs2]; exact blk_new _ _
  · exact ((below_alloc (Below.refl _ w) _).grown hg (by simp) (fun k e => by obtain rfl := Option.some.inj e; exact Nat.le_refl _)).trans (hb.mono (by omega))

/-- The state in the inner loop; wi: the world in which the round began. -/
structure NumIn (w wi wq : World) (bm bg : Nat) (vo vg vsym vt : Value) (f0 : Bool) (f3 : Int) (o : List Int) (G : List Nd) (ts : List Int) : Prop extends Num w wq (fun k => k < wi.heap.size) bm bg vo vg o G where
  ht : Kd.R (Kd.int .i64) 3 wq wi.heap.size (fun k => some k ≠ vo.ownBlock) vt ts
  hx : wq.heap[wi.heap.size + 1]? = some (.cells #[.bool f0, vsym, vt, .int .i64 f3] 102 (0, 0))
  lm : bm < wi.heap.size
  lg : bg < wi.heap.size
  le : w.heap.size ≤ wi.heap.size
section
variable {w wi wq W w3 : World} {Q : Nat → Prop} {bm bg : Nat} {vo vg vsym vt v1 : Value} {f0 : Bool} {f1 ts o : List Int} {f3 : Int} {G : List Nd} {A1 : Option Addr} {c1 : Nat}
theorem numIn_start (h : Num w wi (fun _ => True) bm bg vo vg o G) (c9 c10 : Array Value) (hc : c10 = #[.bool f0, vsym, .slice none 0 0, .int .i64 f3]) :
    NumIn w wi ((wi.alloc (.cells c9 102)).alloc (.cells c10 102)) bm bg vo vg vsym (.slice none 0 0) f0 f3 o G [] := by
  subst hc
  have hs : (wi.alloc (.cells c9 102)).heap.size = wi.heap.size + 1 := by simp
  refine ⟨(h.bound.weak fun k hk => hk.2).step (below_alloc (below_alloc (Below.refl _ _) _) _ |>.mono (by simp)), Kd.R_nil _ _ _ _ _, by rw [← hs]; exact blk_new _ _, h.map.lt, blk_lt h.box, h.below.size⟩
/-- A new state. -/
theorem NumIn.push (h : NumIn w wi wq bm bg vo vg vsym vt f0 f3 o G ts) (k : Int) (hk : posF o k = none) (hg : wq.grownBy W (some bm)) (hm : MapHas 3 litI W bm (o.length + 1) (fun y => if y = k then some (o.length : Int) else posF o y))
    (HO : Kd.R (Kd.int .i64) 3 w3 w.heap.size (fun _ => True) v1 (o ++ [k])) (HB : Below w.heap.size w w3) (HG : W.grownBy w3 vo.ownBlock) (hown : v1.ownBlock = vo.ownBlock ∨ ∃ b, v1.ownBlock = some b ∧ W.heap.size ≤ b) : NumIn w wi w3 bm bg v1 vg vsym vt f0 f3 (o ++ [k]) G ts := by
  have h2 : ∀ g, g < wq.heap.size → g ≠ bm → some g ≠ vo.ownBlock → w3.heap[g]? = wq.heap[g]? := fun g hlt hne ho =>
    (HG.block g (Nat.lt_of_lt_of_le hlt hg.size) ho).trans (hg.block g hlt fun e => hne (Option.some.inj e))
  have hxm : wi.heap.size + 1 ≠ bm := by have := h.lm; omega
  refine ⟨h.toNum.push k hk hg hm HO HB HG hown, ?_, (h2 _ (blk_lt h.hx) hxm (h.typed h.hx (by decide))).trans h.hx, h.lm, h.lg, h.le⟩
  refine Kd.R_mono (Kd.R_step (Kd.R_bound h.ht) fun g hg' hlt => h2 g hlt (by have := h.lm; have := hg'.2.1; omega) hg'.1) fun g hg' e => ?_
  rcases hown with he | ⟨b, he, hb⟩
  · rw [he] at e; exact hg'.1 e
  · rw [he] at e
    obtain rfl := Option.some.inj e
    have := hg'.2.2.1
    have := hg.size
    omega
/-- A new number behind the node. -/
theorem NumIn.lead (h : NumIn w wi wq bm bg vo vg vsym vt f0 f3 o G ts) (p : Int) (HO : Kd.R (Kd.int .i64) 3 w3 wi.heap.size (fun k => some k ≠ vo.ownBlock) v1 (ts ++ [p])) (HG : wq.grownBy w3 vt.ownBlock) :
    NumIn w wi (w3.setCell ⟨wi.heap.size + 1, 2, none⟩ v1) bm bg vo vg vsym v1 f0 f3 o G (ts ++ [p]) := by
  have hbase : ∀ k, vt.ownBlock = some k → wi.heap.size ≤ k ∧ some k ≠ vo.ownBlock := fun k e => ⟨((Kd.R_bound h.ht).1 k e).2.1, h.ht.1 k e⟩
  have hx3 : w3.heap[wi.heap.size + 1]? = some (.cells #[.bool f0, vsym, vt, .int .i64 f3] 102 (0, 0)) := by
    refine (HG.block _ (blk_lt h.hx) fun he => ?_).trans h.hx
    obtain ⟨cells, hc⟩ := Kd.R_typed h.ht _ he.symm
    rw [h.hx] at hc
    injection hc with hc
    injection hc with _ e
    exact absurd e (by decide)
  have hB3 : Below w.heap.size w w3 := h.below.grown HG (Nat.le_trans h.le (by have := blk_lt h.hx; omega)) fun k e => Nat.le_trans h.le (hbase k e).1
  have hlm := h.lm
  have hlg := h.lg
  have hN : Num w w3 (fun k => k < wi.heap.size) bm bg vo vg o G := by
    cases hv : vt.ownBlock with
    | none =>
      rw [hv] at HG
      exact h.toNum.keep hB3 w3.heap.size (fun k hlt _ => HG.block k hlt (by simp)) (fun e => by have := (Kd.R_bound h.row).1 _ e.symm; have := this.2.2.1; have := HG.size; omega) (by have := h.map.lt; have := HG.size; omega) (by have := blk_lt h.box; have := HG.size; omega) (by have := blk_lt h.hx; have := HG.size; omega)
    | some r =>
      rw [hv] at HG
      have hr := hbase r hv
      exact h.toNum.keep hB3 r (fun k hlt hne => HG.block k hlt fun e => hne (Option.some.inj e)) hr.2 (by omega) (by omega) (by omega)
  refine ⟨hN.keep (hB3.setCell (p := ⟨wi.heap.size + 1, 2, none⟩) (by have := h.le; show w.heap.size ≤ wi.heap.size + 1; omega) v1) (wi.heap.size + 1) (fun k _ hne => Below.heap_setCell w3 _ v1 k hne) (hN.typed hx3 (by decide)) (by omega) (by omega) (by omega), Kd.R_set HO hx3 (by decide) 2 v1, blk_put hx3 2 v1 rfl, h.lm, h.lg, h.le⟩
theorem NumIn.xbox (h : NumIn w wi wq bm bg vo vg vsym vt f0 f3 o G ts) (HG : wq.grownBy w3 vt.ownBlock) : w3.heap[wi.heap.size + 1]? = some (.cells #[.bool f0, vsym, vt, .int .i64 f3] 102 (0, 0)) := by
  refine (HG.block _ (blk_lt h.hx) fun he => ?_).trans h.hx
  obtain ⟨cells, hc⟩ := Kd.R_typed h.ht _ he.symm
  rw [h.hx] at hc
  injection hc with hc
  injection hc with _ e
  exact absurd e (by decide)
theorem NumIn.step (h : NumIn w wi wq bm bg vo vg vsym vt f0 f3 o G ts) (hb : Below wq.heap.size wq W) : NumIn w wi W bm bg vo vg vsym vt f0 f3 o G ts :=
  ⟨h.toNum.step hb, Kd.R_below h.ht hb, (hb.block _ (blk_lt h.hx)).trans h.hx, h.lm, h.lg, h.le⟩
/-- The node joins the graph. -/
theorem NumIn.elem (h : NumIn w wi wq bm bg vo vg (.slice A1 f1.length c1) vt f0 f3 o G ts) (hr : Kd.C (Kd.int .i64) w A1 f1.length f1) (hc : f1.length ≤ c1) :
    Kd.FK k102 wq (fun k => k < w.heap.size ∨ some k = vt.ownBlock) (⟨f0, f1, ts, f3⟩ : Nd) [.bool f0, .slice A1 f1.length c1, vt, .int .i64 f3] := by
  obtain ⟨A2, c2, rfl, l2, g2⟩ := Kd.R_reads h.ht
  have h1 : Kd.F (Kd.int .i64) wq (fun k => k < w.heap.size) A1 f1.length f1 := Kd.F_step (Kd.C_F (Kd.heap_int .i64) hr) fun k hk hlt => h.below.block k hk
  have h2 := Kd.R_F (Kd.R_tight rfl h.ht)
  exact k102_mkF wq _ ⟨f0, f1, ts, f3⟩ hc (Kd.F_mono h1 fun k hk => .inl hk) l2 (Kd.F_mono h2 fun k hk => .inr hk)
theorem NumIn.apart (h : NumIn w wi wq bm bg vo vg vsym vt f0 f3 o G ts) : (∀ k, (k < w.heap.size ∨ some k = vt.ownBlock) → ((k ≠ bg ∧ k ≠ bm ∧ True) ∧ some k ≠ vo.ownBlock) ∧ some k ≠ vg.ownBlock) ∧ ∀ k, wq.heap.size ≤ k → ((k ≠ bg ∧ k ≠ bm ∧ True) ∧ some k ≠ vo.ownBlock) := by
  have h1 := h.lbm
  have h2 := h.lbg
  have h3 := h.map.lt
  have h4 := blk_lt h.box
  refine ⟨fun k hk => ?_, fun k hk => ⟨⟨by omega, by omega, trivial⟩, fun e => ?_⟩⟩
  · rcases hk with hk | hk
    · refine ⟨⟨⟨by omega, by omega, trivial⟩, fun e => ?_⟩, fun e => ?_⟩
      · have := ((Kd.R_bound h.row).1 k e.symm).2.1; omega
      · have := Kd.N_base h.gs k e.symm; omega
    · have h5 := ((Kd.R_bound h.ht).1 k hk.symm).2.1
      have h6 := h.lm
      have h7 := h.lg
      refine ⟨⟨⟨by omega, by omega, trivial⟩, h.ht.1 k hk.symm⟩, fun e => ?_⟩
      have := (h.gs.1 k e.symm).1.2.2
      omega
  · have := ((Kd.R_bound h.row).1 k e.symm).2.2.1
    omega
theorem Num.add (h : Num w W Q bm bg vo vg o G) {x : Nd} (HO : Kd.N k102 102 w3 w.heap.size (fun k => (k ≠ bg ∧ k ≠ bm ∧ True) ∧ some k ≠ vo.ownBlock) v1 (G ++ [x])) (HG : W.grownBy w3 vg.ownBlock) :
    w3.heap[bg]? = some (.cells #[vg] 110 (0, 0)) ∧ Num w (w3.setCell ⟨bg, 0, none⟩ v1) (fun _ => True) bm bg vo v1 o (G ++ [x]) := by
  have hle := h.below.size
  have h3 : w3.heap[bg]? = some (.cells #[vg] 110 (0, 0)) := (HG.block bg (blk_lt h.box) fun e => (h.gs.1 bg e.symm).1.1 rfl).trans h.box
  have hrow : Kd.R (Kd.int .i64) 3 w3 w.heap.size (fun _ => True) vo o := Kd.R_mono (Kd.R_grown (Kd.R_tight rfl h.row) HG fun k hk e => (h.gs.1 k e.symm).2 hk) fun _ _ => trivial
  have hmap : MapHas 3 litI w3 bm o.length (posF o) := h.map.of_block (HG.block bm h.map.lt fun e => (h.gs.1 bm e.symm).1.2.1 rfl)
  refine ⟨h3, Kd.R_set hrow h3 (by decide) 0 v1, hmap.of_block (Below.heap_setCell w3 _ v1 bm fun e => hmap.not_cells h3 e.symm), one_setCell h3, Kd.N_far HO (fun k hk => hk.1.1) v1, ?_, h.lbm, h.lbg⟩
  exact (h.below.grown HG hle fun k e => Kd.N_base h.gs k e).setCell h.lbg v1
theorem Num.graph (h : Num w W Q bm bg vo vg o G) : GraphAt W bg G := by
  obtain ⟨A, c, rfl, hl, hC⟩ := Kd.N_reads h.gs
  exact ⟨A, c, h.box, hl, hC⟩
end

end Go.Proofs.Ytcdjeimjbbknjaa.PAll
namespace Go.Proofs.Ytcdjeimjbbknjaa.PAll
open Go.RowKit Go.Maps Go.Proofs.YtcdjeimjbbknjaaW.PrintWords Go.Proofs.YtcdjeimjbbknjaaW.PrintLast Go.Proofs.YtcdjeimjbbknjaaW.PrintMore
set_option linter.unusedVariables false
set_option linter.unusedSimpArgs false

theorem rd_mem {l : List Int} {i : Nat} (h : i < l.length) : rd l i ∈ l := by
  rw [rd_nat, List.getD_eq_getElem?_getD, List.getElem?_eq_getElem h]; exact List.getElem_mem h
theorem rdN_mem {N : List Nd} {k : Int} (h0 : 0 ≤ k) (h : k < (N.length : Int)) : rdN N k ∈ N := by
  rw [rdN, rd_T102, List.getD_eq_getElem?_getD, List.getElem?_eq_getElem (by omega : k.toNat < N.length)]; exact List.getElem_mem _
set_option maxHeartbeats 4000000 in
set_option maxRecDepth 100000 in
theorem number_any (A0 : Option Addr) (c0 : Nat) (N : List Nd) (start : Int) (w : World) (hr : Kd.C k102 w A0 N.length N) (hc : N.length ≤ c0) (hN : NumOk N) (h0 : 0 ≤ start) (h1 : start < (N.length : Int)) :
    Calls Try.prog 69 #[.slice A0 N.length c0, .int .i64 start] w fun e w' => ∃ g, e = .returned (.pointer (some ⟨g, 0, none⟩)) ∧ GraphAt w' g (numN N start) ∧ Below w.heap.size w w' ∧ w.heap.size ≤ g := by
  have hmm := @run_makeMap Try.prog
  have hfew := hN.few
  obtain ⟨W1, hup, hm1, hg1⟩ := (MapHas.made (K := 3) w litI_key).update (t := 150) law_int Try.underlying150 (by decide) start (.int .i64 start) (keyI (by omega) (by omega)) litI_key litI_inj 0 (by decide)
  have HS := Aside0.mk (num_start w W1 start hm1 hg1)
  have HR := Aside0.mk hr
  have HN := Aside0.mk hN
  clear hm1 hg1 hr hN
  go_enter Try.func69, Try.ntmps69
  go_wp2
  go_loopw [6, 8] (fun so si wr => ∃ (i f : Nat) (vg : Value) (o : List Int) (G : List Nd), si = .int .i64 (i : Int) ∧ Aside0 (Num w wr (fun _ => True) w.heap.size (W1.heap.size + 1) so vg o G ∧ OrdOk N.length o ∧ i ≤ o.length ∧ G.length = i ∧ N.length < f + i ∧ (numG N f o i G).2 = numN N start)) (fun _ si _ => N.length + 1 - (intOf si).toNat)
  case atStart =>
    exact ⟨0, N.length + 1, .slice none 0 0, [start], [], rfl, ⟨HS.out, ⟨by simp, fun k hk => by obtain rfl := List.mem_singleton.1 hk; exact ⟨h0, h1⟩⟩, by simp, rfl, by omega, rfl⟩⟩
  case round =>
    obtain ⟨i, f, vg, o, G, rfl, hH⟩ := hrel
    obtain ⟨hNum, hord, hi, hG, hf, heq⟩ := hH.out
    obtain ⟨Ao, co, rfl⟩ := Kd.R_slice hNum.row
    have hole := hord.le
    clear hup hmm
    obtain ⟨wo, hwo⟩ : ∃ wo, wo = wr := ⟨_, rfl⟩
    subst hwo
    by_cases hlt : i < o.length
    · obtain ⟨Ao', co', hAo, hlo, hCo⟩ := Kd.R_reads hNum.row
      injection hAo with e1 e2 e3
      subst e1
      subst e3
      obtain ⟨ado, rfl, hxo⟩ := Kd.at_int hCo (i : Int) (by omega) (by omega)
      rw [Int.toNat_natCast] at hxo
      obtain ⟨hk0, hk1⟩ := hord.lead _ (rd_mem hlt)
      obtain ⟨adn, A1, c1, A2, c2, rfl, x0, x1, x2, x3, l1, g1, l2, g2⟩ := at_T102 HR.out (rd o i) hk0 hk1
      replace x0 := pw_cell_below hNum.below x0
      replace x1 := pw_cell_below hNum.below x1
      replace x2 := pw_cell_below hNum.below x2
      replace x3 := pw_cell_below hNum.below x3
      have hmem := rdN_mem hk0 hk1
      obtain ⟨f', rfl⟩ : ∃ f', f = f' + 1 := ⟨f - 1, by omega⟩
      rw [numG, if_pos hlt] at heq
      generalize hk : rd o i = k0 at *
      have hl3 := HN.out.rows _ hmem
      have hlead := HN.out.lead _ hmem
      generalize hnd : rdN N k0 = nd at *
      unfold rdN at hnd
      rw [hnd] at x0 x1 x2 x3 l1 g1 l2 g2
      obtain ⟨f0, f1, f2, f3⟩ := nd
      dsimp only at x0 x1 x2 x3 l1 g1 l2 g2 heq hl3 hlead
      have HNum := Aside0.mk hNum
      have HG2 := Aside0.mk g2
      have HOrd := Aside0.mk hord
      have HEq := Aside0.mk heq
      have HLead := Aside0.mk hlead
      have HR1 := Aside0.mk g1
      have HL1 := Aside0.mk l1
      have HGl := Aside0.mk hG
      clear hNum g1 g2 hord heq hlead hCo hmem hnd hH hk hG
      have HIN0 := Aside0.mk (numIn_start HNum.out #[.bool f0, .slice A1 f1.length c1, .slice A2 f2.length c2, .int .i64 f3] #[.bool f0, .slice A1 f1.length c1, .slice none 0 0, .int .i64 f3] rfl)
      have hwr := HNum.out.below.size
      go_upto_block 2 with fail
      go_cut [6] from 45 to 73 (fun so wx => ∃ vt, Aside0 (NumIn w wo wx w.heap.size (W1.heap.size + 1) so vg (.slice A1 f1.length c1) vt f0 f3 (numTo f2 o []).1 G (numTo f2 o []).2))
      case first =>
        go_wp2
        go_loopw [6, 45] (fun so sj wq => ∃ (j : Nat) (vt : Value) (o' ts : List Int), sj = .int .i64 (j : Int) ∧ j ≤ f2.length ∧ ts.length = j ∧ Aside0 (NumIn w wo wq w.heap.size (W1.heap.size + 1) so vg (.slice A1 f1.length c1) vt f0 f3 o' G ts ∧ OrdOk N.length o' ∧ numTo (f2.drop j) o' ts = numTo f2 o [])) (fun _ sj _ => f2.length - (intOf sj).toNat)
        case atStart => exact ⟨0, _, o, [], rfl, Nat.zero_le _, rfl, ⟨HIN0.out, HOrd.out, by simp⟩⟩
        case round =>
          obtain ⟨j, vt, o', ts, rfl, hj, htl, hH⟩ := hrel
          by_cases hjl : j < f2.length
          · obtain ⟨hIn, hord', heq'⟩ := hH.out
            obtain ⟨adt, rfl, hxt⟩ := Kd.at_int HG2.out (j : Int) (by omega) (by omega)
            rw [Int.toNat_natCast] at hxt
            replace hxt := pw_cell_below hIn.below hxt
            obtain ⟨hq0, hq1⟩ := HLead.out _ (rd_mem hjl)
            have hle' := hord'.le
            rw [List.drop_eq_getElem_cons hjl] at heq'
            have hrd : rd f2 j = f2[j] := by rw [rd_nat, List.getD_eq_getElem?_getD, List.getElem?_eq_getElem hjl, Option.getD_some]
            rw [← hrd] at heq'
            clear hrd
            generalize hqq : rd f2 j = q at *
            clear hqq
            obtain ⟨Av, cv, rfl⟩ := Kd.R_slice hIn.row
            cases hp : posF o' q with
            | some p =>
              have hlk := hIn.map.lookup (t := 150) law_int Try.underlying150 q (.int .i64 q) (keyI (by omega) (by omega))
              have hlk2 := hIn.map.look (t := 150) law_int Try.underlying150 q (.int .i64 q) (keyI (by omega) (by omega))
              rw [hp] at hlk hlk2
              have HIn := Aside0.mk hIn
              have hs1 : wr.cell? ⟨wo.heap.size + 1, 2, none⟩ = some vt := (blk_cell hIn.hx 2).trans rfl
              have HEq' : Aside0 (numTo (f2.drop (j + 1)) o' (ts ++ [p]) = numTo f2 o []) := ⟨by rw [← heq', numTo, ord1, hp]; simp [hp]⟩
              have HOrd' := Aside0.mk hord'
              clear hIn heq' hord' hp
              go_wp2_with (at_builtin; refine Kd.R_append (Kd.int .i64) (w0 := wr) wo.heap.size rfl (.tmp 66) (.tmp 70) 22 3 (.int .i64 0) 8 rfl Try.underlying22 info3 rfl (by decide) (by omega) vt ts p [.int .i64 p] (fun k => some k ≠ (Value.slice Av o'.length cv).ownBlock) (fun _ => False) rfl rfl rfl (fun _ h => h.elim) (fun k hk => (HIn.out.apart.2 k hk).2) HIn.out.ht (Below.refl _ _) (Nat.le_of_lt (Nat.lt_of_succ_lt (blk_lt HIn.out.hx))) (by omega) ?_; intro v4 w4 HO4 HB4 HG4 hown4; have hbx4 := HIn.out.xbox HG4; have t1 : w4.cell? ⟨wo.heap.size + 1, 2, none⟩ = some vt := (blk_cell hbx4 2).trans rfl; have t2 : w4.frozen? ⟨wo.heap.size + 1, 2, none⟩ = false := (by simp [World.frozen?, hbx4]); obtain ⟨A4, c4, rfl⟩ := Kd.R_slice HO4)
              go_roundw
              case rel =>
                rw [show (ts ++ [p]).length = j + 1 from by simp [htl]] at HO4
                exact ⟨j + 1, _, o', ts ++ [p], by go_num, by omega, by simp [htl], ⟨HIn.out.lead p HO4 HG4, HOrd'.out, HEq'.out⟩⟩
              case measure => simp [intOf]; omega
            | none =>
              have hlk := hIn.map.lookup (t := 150) law_int Try.underlying150 q (.int .i64 q) (keyI (by omega) (by omega))
              rw [hp] at hlk
              obtain ⟨W2, hup2, hm2, hg2⟩ := hIn.map.update (t := 150) law_int Try.underlying150 (by simp only [maxLen]; omega) q (.int .i64 q) (keyI (by omega) (by omega)) litI_key litI_inj (o'.length : Int) (wfI (by omega) (by omega))
              have HPUSH := Aside0.mk (fun (v3 : Value) (w3 : World) => hIn.push (v1 := v3) (w3 := w3) q hp hg2 hm2)
              have hB2 : Below w.heap.size w W2 := hIn.below.grown hg2 hIn.below.size (fun k e => by obtain rfl := Option.some.inj e; exact Nat.le_refl _)
              have HB2 := Aside0.mk hB2
              have HRow2 : Aside0 (Kd.R (Kd.int .i64) 3 W2 w.heap.size (fun _ => True) (.slice Av o'.length cv) o') := ⟨Kd.R_mono (Kd.R_grown (Kd.R_tight rfl hIn.row) hg2 fun k hk e => hIn.omap (e.symm.trans hk)) fun _ _ => trivial⟩
              have hps : posF (o' ++ [q]) q = some (o'.length : Int) := by rw [posF_snoc o' q hp, if_pos rfl]
              have HPS := Aside0.mk hps
              have HEq' : Aside0 (numTo (f2.drop (j + 1)) (o' ++ [q]) (ts ++ [(o'.length : Int)]) = numTo f2 o []) := ⟨by rw [← heq', numTo, ord1, hp]; simp [hps]⟩
              have HOrd' : Aside0 (OrdOk N.length (o' ++ [q])) := ⟨by have := hord'.ord1 ⟨hq0, hq1⟩; rw [ord1, hp] at this; simpa using this⟩
              clear hIn heq' hord' hp hg2 hm2 hps hB2
              go_wp2_with (first | (at_builtin; refine Kd.R_append (Kd.int .i64) (w0 := w) w.heap.size rfl (.tmp 61) (.tmp 63) 22 3 (.int .i64 0) 8 rfl Try.underlying22 info3 rfl (by decide) (by omega) (.slice Av o'.length cv) o' q [.int .i64 q] (fun _ => True) (fun _ => False) rfl rfl rfl (fun _ h => h.elim) (fun _ _ => trivial) HRow2.out HB2.out HB2.out.size (by omega) ?_; intro v3 w3 HO3 HB3 HG3 hown3; have hIn3 := HPUSH.out v3 w3 HO3 HB3 HG3 hown3; have hlk3 := hIn3.map.look (t := 150) law_int Try.underlying150 q (.int .i64 q) (keyI (by omega) (by omega)); rw [HPS.out] at hlk3; have hs3 : w3.cell? ⟨wo.heap.size + 1, 2, none⟩ = some vt := (blk_cell hIn3.hx 2).trans rfl; have HIn3 := Aside0.mk hIn3; clear hIn3; obtain ⟨A3, c3, rfl⟩ := Kd.R_slice HO3) | (at_builtin; refine Kd.R_append (Kd.int .i64) (w0 := w3) wo.heap.size rfl (.tmp 66) (.tmp 70) 22 3 (.int .i64 0) 8 rfl Try.underlying22 info3 rfl (by decide) (by omega) vt ts (o'.length : Int) [.int .i64 (o'.length : Int)] (fun k => some k ≠ (Value.slice A3 (o' ++ [q]).length c3).ownBlock) (fun _ => False) rfl rfl rfl (fun _ h => h.elim) (fun k hk => (HIn3.out.apart.2 k hk).2) HIn3.out.ht (Below.refl _ _) (Nat.le_of_lt (Nat.lt_of_succ_lt (blk_lt HIn3.out.hx))) (by omega) ?_; intro v4 w4 HO4 HB4 HG4 hown4; have hbx4 := HIn3.out.xbox HG4; have t1 : w4.cell? ⟨wo.heap.size + 1, 2, none⟩ = some vt := (blk_cell hbx4 2).trans rfl; have t2 : w4.frozen? ⟨wo.heap.size + 1, 2, none⟩ = false := (by simp [World.frozen?, hbx4]); obtain ⟨A4, c4, rfl⟩ := Kd.R_slice HO4))
              go_roundw
              case rel =>
                rw [show (ts ++ [(o'.length : Int)]).length = j + 1 from by simp [htl]] at HO4
                rw [show (o' ++ [q]).length = o'.length + 1 from by simp] at HIn3 HO4
                exact ⟨j + 1, _, o' ++ [q], ts ++ [(o'.length : Int)], by go_num, by omega, by simp [htl], ⟨HIn3.out.lead _ HO4 HG4, HOrd'.out, HEq'.out⟩⟩
              case measure => simp [intOf]; omega
          · obtain rfl : j = f2.length := by omega
            obtain ⟨hIn, hord', heq'⟩ := hH.out
            rw [List.drop_length, numTo] at heq'
            go_wp2
            go_meet
            exact ⟨_, ⟨by rw [← heq']; exact hIn⟩⟩
      case rest =>
        obtain ⟨vt, HIn⟩ := hcut
        have HOrd2 : Aside0 (OrdOk N.length (numTo f2 o []).1) := ⟨OrdOk.numTo f2 o [] HOrd.out HLead.out⟩
        obtain ⟨tl, htl⟩ := numTo_pre f2 o []
        have HLen : Aside0 (o.length ≤ (numTo f2 o []).1.length) := ⟨by rw [htl]; simp⟩
        clear htl
        generalize hrr : numTo f2 o [] = rr at *
        clear hrr
        obtain ⟨Av, cv, rfl⟩ := Kd.R_slice HIn.out.row
        have hz0 : wc.cell? ⟨wo.heap.size + 1, 0, none⟩ = some (.bool f0) := (blk_cell HIn.out.hx 0).trans rfl
        have hz1 : wc.cell? ⟨wo.heap.size + 1, 1, none⟩ = some (.slice A1 f1.length c1) := (blk_cell HIn.out.hx 1).trans rfl
        have hz2 : wc.cell? ⟨wo.heap.size + 1, 2, none⟩ = some vt := (blk_cell HIn.out.hx 2).trans rfl
        have hz3 : wc.cell? ⟨wo.heap.size + 1, 3, none⟩ = some (.int .i64 f3) := (blk_cell HIn.out.hx 3).trans rfl
        have hz4 : wc.cell? ⟨W1.heap.size + 1, 0, none⟩ = some vg := (blk_cell HIn.out.box 0).trans rfl
        have hgl := HGl.out
        have hz5 : (wc.alloc (.cells #[.bool f0, .slice A1 f1.length c1, vt, .int .i64 f3] 102)).cell? ⟨W1.heap.size + 1, 0, none⟩ = some vg := pw_cell_below (below_alloc (Below.refl _ wc) _) hz4
        have HInD := Aside0.mk (HIn.out.step (Below.refl _ _).drew)
        clear hxo x0 x1 x2 x3
        go_upto_region 18 with fail
        go_region_law (refine Kd.N_append_step k102 (w0 := w) (W := wc.drew) w.heap.size (by rfl) (.tmp 78) (.tmp 80) 99 102 (.agg #[(.bool false), (.slice none 0 0), (.slice none 0 0), (.int .i64 0)]) 64 rfl Try.underlying99 info102 rfl (by decide) (by omega) vg G ⟨f0, f1, rr.2, f3⟩ [.bool f0, .slice A1 f1.length c1, vt, .int .i64 f3] (fun k => (k ≠ W1.heap.size + 1 ∧ k ≠ w.heap.size ∧ True) ∧ some k ≠ (Value.slice Av rr.1.length cv).ownBlock) (fun k => k < w.heap.size ∨ some k = vt.ownBlock) rfl rfl (HInD.out.elem HR1.out HL1.out) HInD.out.apart.1 HInD.out.apart.2 (Kd.N_mono HInD.out.gs (fun k hk => ⟨⟨hk.1.1, hk.1.2.1, trivial⟩, hk.2⟩)) HInD.out.below HInD.out.below.size (by omega) ?_; intro v1 wA HO1 HB1 HG1 hown1; have hAdd := HInD.out.toNum.add HO1 HG1; have t1 : wA.cell? ⟨W1.heap.size + 1, 0, none⟩ = some vg := (blk_cell hAdd.1 0).trans rfl; have t2 : wA.frozen? ⟨W1.heap.size + 1, 0, none⟩ = false := (free_of_one hAdd.1); obtain ⟨A5, c5, rfl⟩ := Kd.N_slice HO1)
        all_goals go_wp2
        all_goals go_roundw
        all_goals first
          | (rw [show (G ++ [(⟨f0, f1, rr.2, f3⟩ : Nd)]).length = i + 1 from by simp [hgl]] at hAdd
             exact ⟨i + 1, f', _, rr.1, _, by go_num, ⟨hAdd.2, HOrd2.out, by have := HLen.out; omega, by simp [hgl], by omega, HEq.out⟩⟩)
          | (simp [intOf]; omega)
    · go_wp2
      go_ret
      obtain rfl : i = o.length := by omega
      refine ⟨_, rfl, ?_, hNum.below, by have := hNum.lbg; omega⟩
      have hg := hNum.graph
      rw [← heq]
      obtain ⟨f', rfl⟩ : ∃ f', f = f' + 1 := ⟨f - 1, by omega⟩
      rw [numG, if_neg (Nat.lt_irrefl _)]
      exact hg
end Go.Proofs.Ytcdjeimjbbknjaa.PAll
namespace Go.Proofs.Ytcdjeimjbbknjaa.PAll
open Go.RowKit Go.Maps Go.Proofs.YtcdjeimjbbknjaaW.PrintWords Go.Proofs.YtcdjeimjbbknjaaW.PrintLast Go.Proofs.YtcdjeimjbbknjaaW.PrintMore
set_option linter.unusedVariables false
set_option linter.unusedSimpArgs false

def boxed (w : World) : World := ((((w.alloc (.map #[] 0)).alloc (.cells #[.map (some w.heap.size)] 98)).alloc (.cells #[.slice none 0 0] 99)).alloc (.cells #[.func (.func 67) #[] #[.pointer (some ⟨w.heap.size + 3, 0, none⟩), .pointer (some ⟨w.heap.size + 2, 0, none⟩), .pointer (some ⟨w.heap.size + 1, 0, none⟩)]] 100))
theorem boxed_below (w : World) : Below w.heap.size w (boxed w) := below_alloc (below_alloc (below_alloc (below_alloc (Below.refl _ w) _ ) _ |>.mono (by simp)) _ |>.mono (by simp)) _ |>.mono (by simp)
theorem boxed_inner (w : World) (B : Nat) (hB : B ≤ w.heap.size) : Inner (boxed w) B (fun _ => True) (w.heap.size + 3) (w.heap.size + 2) (w.heap.size + 1) w.heap.size (.slice none 0 0) [] := by
  have h1 : (w.alloc (.map #[] 0)).heap.size = w.heap.size + 1 := by simp
  have h2 : ((w.alloc (.map #[] 0)).alloc (.cells #[.map (some w.heap.size)] 98)).heap.size = w.heap.size + 2 := by simp
  have h3 : (((w.alloc (.map #[] 0)).alloc (.cells #[.map (some w.heap.size)] 98)).alloc (.cells #[.slice none 0 0] 99)).heap.size = w.heap.size + 3 := by simp
  refine ⟨?_, ?_, ?_, Kd.R_nil _ _ _ _ _, ?_, by omega, hB⟩
  · rw [boxed, ← h3]; exact blk_new _ _
  · rw [boxed]
    refine blk_alloc (blk_alloc ?_ _) _
    rw [← h1]; exact blk_new _ _
  · rw [boxed]
    refine blk_alloc ?_ _
    rw [← h2]; exact blk_new _ _
  · have h4 := MapHas.made (K := 9) w litS_key
    have h5 := ((h4.below (below_alloc (Below.refl _ _) (.cells #[.map (some w.heap.size)] 98))).below (below_alloc (Below.refl _ _) (.cells #[.slice none 0 0] 99))).below (below_alloc (Below.refl _ _) (.cells #[.func (.func 67) #[] #[.pointer (some ⟨w.heap.size + 3, 0, none⟩), .pointer (some ⟨w.heap.size + 2, 0, none⟩), .pointer (some ⟨w.heap.size + 1, 0, none⟩)]] 100))
    exact h5
theorem inner_call (A0 : Option Addr) (c0 : Nat) (ws : List (List Int)) (w wd : World) (hr0 : Kd.C (Kd.slice 3 (Kd.int .i64)) w A0 ws.length ws) (hc0 : ws.length ≤ c0) (hg : Good ws) (hd : Drawn0 w wd) :
    Calls Try.prog 67 #[.slice A0 ws.length c0, .int .i64 0, .pointer (some ⟨wd.heap.size + 3, 0, none⟩), .pointer (some ⟨wd.heap.size + 2, 0, none⟩), .pointer (some ⟨wd.heap.size + 1, 0, none⟩)] (boxed wd)
      fun e w' => e = .returned (.int .i64 (nodesOf ws).1) ∧ ∃ A c, w'.cell? ⟨wd.heap.size + 2, 0, none⟩ = some (.slice A (nodesOf ws).2.length c) ∧ (nodesOf ws).2.length ≤ c ∧ Kd.C k102 w' A (nodesOf ws).2.length (nodesOf ws).2 ∧ Below w.heap.size w w' := by
  have hsz := hd.below.size
  have h1 := good_cost hg
  have hb : Below w.heap.size w (boxed wd) := hd.below.trans ((boxed_below wd).mono hsz)
  have h := inner_any 64 w (boxed wd) A0 c0 ws 0 (fun _ => True) _ _ _ _ _ [] hr0 hc0 (good_pre hg) (fun x hx => by have := hg.short x hx; omega) (boxed_inner wd w.heap.size hsz) hb (by simp; omega) (by omega)
  refine h.mono ?_
  rintro e w' ⟨v', rfl, hin, _, _, hb'⟩
  obtain ⟨A, c, rfl, hl, hC⟩ := Kd.R_reads hin.row
  exact ⟨rfl, A, c, (blk_cell hin.hbn 0).trans rfl, hl, hC, hb'⟩
set_option maxHeartbeats 4000000 in
set_option maxRecDepth 100000 in
theorem build_good (A0 : Option Addr) (c0 : Nat) (ws : List (List Int)) (w : World) (hr0 : Kd.C (Kd.slice 3 (Kd.int .i64)) w A0 ws.length ws) (hc0 : ws.length ≤ c0) (hg : Good ws) :
    Calls Try.prog 19 #[.slice A0 ws.length c0] w fun e w' => ∃ g, e = .returned (.tuple #[.pointer (some ⟨g, 0, none⟩), .int .i64 0]) ∧ GraphAt w' g (graphOf ws) ∧ Below w.heap.size w w' ∧ w.heap.size ≤ g := by
  have hck := check_any A0 c0 ws w hr0 hc0 (by rw [sumUpto_is ws _ (Nat.le_refl _), List.take_length]; have := hg.sum; omega)
  rw [good_check hg] at hck
  have HC := Aside0.mk hck
  have HI := Aside0.mk (fun wd => inner_call A0 c0 ws w wd hr0 hc0 hg)
  have HN : Aside0 (∀ (W : World) A c, Kd.C k102 W A (nodesOf ws).2.length (nodesOf ws).2 → (nodesOf ws).2.length ≤ c → Calls Try.prog 69 #[.slice A (nodesOf ws).2.length c, .int .i64 (nodesOf ws).1] W fun e w' => ∃ g, e = .returned (.pointer (some ⟨g, 0, none⟩)) ∧ GraphAt w' g (graphOf ws) ∧ Below W.heap.size W w' ∧ W.heap.size ≤ g) :=
    ⟨fun W A c h hl => number_any A c _ _ W h hl (nodesOf_ok hg).1 (nodesOf_ok hg).2.1 (nodesOf_ok hg).2.2⟩
  have hmm := @run_makeMap Try.prog
  clear hck hr0 hg
  go_enter Try.func19, Try.ntmps19
  go_wp2_with (first | (go_at_call 66; refine HC.out.mono ?_; rintro e wd ⟨rfl, hdr⟩) | (go_at_call 67; refine (HI.out _ hdr).mono ?_; rintro e w1 ⟨rfl, A, c, hcell, hl, hC, hb⟩) | (go_at_call 69; refine (HN.out _ _ _ hC hl).mono ?_; rintro e w2 ⟨g, rfl, hgr, hb2, hg2⟩))
  go_ret2
  exact ⟨g, rfl, hgr, hb.trans (hb2.mono hb.size), Nat.le_trans hb.size hg2⟩
end Go.Proofs.Ytcdjeimjbbknjaa.PAll
namespace Go.Proofs.Ytcdjeimjbbknjaa.PAll
open Go.RowKit Go.Proofs.YtcdjeimjbbknjaaW.PrintWords Go.Proofs.YtcdjeimjbbknjaaW.PrintLast Go.Proofs.YtcdjeimjbbknjaaW.PrintMore Go.Proofs.Ytcdjeimjbbknjaa.Lev
set_option linter.unusedVariables false
set_option linter.unusedSimpArgs false

/-! ### The mirror -/
def hitN (ns : List Nd) (wl : List Int) (k : Int) (s : Int) (last word : List Int) (hits : List (Int × Int)) : List (Int × Int) :=
  if (rd last (wl.length : Int) ≤ k ∧ finalB ns s = true) ∧ (indexN ns word).2 = true then hits ++ [((indexN ns word).1, rd last (wl.length : Int))] else hits
def visitN (ns : List Nd) (wl : List Int) (k : Int) : Nat → Int → List Int → List Int → List (Int × Int) → List (Int × Int)
  | 0, _, _, _, hits => hits
  | f + 1, s, last, word, hits =>
    (symsN ns s).foldl (fun hs x => if k < minL (nextRow last wl x) then hs else visitN ns wl k f (stepN ns s x) (nextRow last wl x) (word ++ [x]) hs) (hitN ns wl k s last word hits)
/-- How deep the graph is behind a state. -/
def Deep (ns : List Nd) : Nat → Int → Prop
  | 0, _ => False
  | f + 1, s => ∀ x ∈ symsN ns s, Deep ns f (stepN ns s x)

/-! ### The state -/
structure Vis (w0 W : World) (bw bk bg bo bh bv : Nat) (Aw : Option Addr) (cw : Nat) (wl : List Int) (k : Int) (g : Nat) (vo : Value) (word : List Int) (vh : Value) (hits : List (Int × Int)) : Prop where
  hbw : W.heap[bw]? = some (.cells #[.slice Aw wl.length cw] 22 (0, 0))
  hbk : W.heap[bk]? = some (.cells #[.int .i64 k] 3 (0, 0))
  hbg : W.heap[bg]? = some (.cells #[.pointer (some ⟨g, 0, none⟩)] 26 (0, 0))
  hbo : W.heap[bo]? = some (.cells #[vo] 22 (0, 0))
  hbh : W.heap[bh]? = some (.cells #[vh] 131 (0, 0))
  hbv : W.heap[bv]? = some (.cells #[.func (.func 97) #[] #[.pointer (some ⟨bw, 0, none⟩), .pointer (some ⟨bk, 0, none⟩), .pointer (some ⟨bg, 0, none⟩), .pointer (some ⟨bo, 0, none⟩), .pointer (some ⟨bh, 0, none⟩), .pointer (some ⟨bv, 0, none⟩)]] 132 (0, 0))
  word : Kd.R (Kd.int .i64) 3 W w0.heap.size (fun j => j ≠ bk) vo word
  hits : Kd.R kHit 133 W w0.heap.size (fun _ => True) vh hits
  below : Below w0.heap.size w0 W
  ne : bw ≠ bo
  lo : w0.heap.size ≤ bo
  lh : w0.heap.size ≤ bh
def turn (bo bh : Nat) (vo vh : Value) (j : Nat) : Prop := j = bo ∨ j = bh ∨ some j = vo.ownBlock ∨ some j = vh.ownBlock
section
variable {w0 W W' wA : World} {bw bk bg bo bh bv g : Nat} {Aw : Option Addr} {cw : Nat} {wl word : List Int} {k : Int} {vo vh v1 : Value} {hits : List (Int × Int)}
theorem Vis.step (h : Vis w0 W bw bk bg bo bh bv Aw cw wl k g vo word vh hits) (hb : Below W.heap.size W W') : Vis w0 W' bw bk bg bo bh bv Aw cw wl k g vo word vh hits :=
  ⟨(hb.block _ (blk_lt h.hbw)).trans h.hbw, (hb.block _ (blk_lt h.hbk)).trans h.hbk, (hb.block _ (blk_lt h.hbg)).trans h.hbg, (hb.block _ (blk_lt h.hbo)).trans h.hbo, (hb.block _ (blk_lt h.hbh)).trans h.hbh, (hb.block _ (blk_lt h.hbv)).trans h.hbv,
    Kd.R_below h.word hb, Kd.R_below h.hits hb, h.below.trans (hb.mono h.below.size), h.ne, h.lo, h.lh⟩
theorem Vis.notO (h : Vis w0 W bw bk bg bo bh bv Aw cw wl k g vo word vh hits) {b : Nat} {cs : Array Value} {t : TypeId} (hb : W.heap[b]? = some (.cells cs t (0, 0))) (ht : t ≠ 3) : some b ≠ vo.ownBlock := by
  intro he
  obtain ⟨cells, hc⟩ := Kd.R_typed h.word b he.symm
  rw [hb] at hc
  injection hc with hc
  injection hc with _ e
  exact ht e
theorem Vis.notH (h : Vis w0 W bw bk bg bo bh bv Aw cw wl k g vo word vh hits) {b : Nat} {cs : Array Value} {t : TypeId} (hb : W.heap[b]? = some (.cells cs t (0, 0))) (ht : t ≠ 133) : some b ≠ vh.ownBlock := by
  intro he
  obtain ⟨cells, hc⟩ := Kd.R_typed h.hits b he.symm
  rw [hb] at hc
  injection hc with hc
  injection hc with _ e
  exact ht e
/-- Another word, its row grown in its own block or in a new one; the box is set. -/
theorem Vis.setO (h : Vis w0 W bw bk bg bo bh bv Aw cw wl k g vo word vh hits) {word1 : List Int} (HO : Kd.R (Kd.int .i64) 3 wA w0.heap.size (fun j => j ≠ bk) v1 word1) (HG : W.grownBy wA vo.ownBlock) :
    wA.heap[bo]? = some (.cells #[vo] 22 (0, 0)) ∧ Vis w0 (wA.setCell ⟨bo, 0, none⟩ v1) bw bk bg bo bh bv Aw cw wl k g v1 word1 vh hits := by
  have hkk : some bk ≠ vo.ownBlock := fun e => h.word.1 bk e.symm rfl
  have car : ∀ {b : Nat} {o : Obj}, W.heap[b]? = some o → some b ≠ vo.ownBlock → wA.heap[b]? = some o := fun hb hn => (HG.block _ (blk_lt hb) hn).trans hb
  have h3 := car h.hbo (h.notO h.hbo (by decide))
  have far : ∀ {b : Nat} {o : Obj}, wA.heap[b]? = some o → b ≠ bo → (wA.setCell ⟨bo, 0, none⟩ v1).heap[b]? = some o := fun hb hn => (Below.heap_setCell wA ⟨bo, 0, none⟩ v1 _ hn).trans hb
  refine ⟨h3, far (car h.hbw (h.notO h.hbw (by decide))) h.ne, far (car h.hbk hkk) (blk_ne h.hbk h.hbo (by decide)), far (car h.hbg (h.notO h.hbg (by decide))) (blk_ne h.hbg h.hbo (by decide)), one_setCell h3, far (car h.hbh (h.notO h.hbh (by decide))) (blk_ne h.hbh h.hbo (by decide)), far (car h.hbv (h.notO h.hbv (by decide))) (blk_ne h.hbv h.hbo (by decide)),
    Kd.R_set HO h3 (by decide) 0 v1, Kd.R_set (Kd.R_mono (Kd.R_grown (Kd.R_bound (Kd.R_tight rfl h.hits)) HG fun j hj e => ?_) fun _ _ => trivial) h3 (by decide) 0 v1, ?_, h.ne, h.lo, h.lh⟩
  · obtain ⟨_, _, _, q, hq, cells, hc⟩ := hj
    have hq' : q = 133 := by have h3 : q ∈ [133] := hq; simpa using h3
    subst hq'
    exact h.notO hc (by decide) e
  · exact (h.below.grown HG h.below.size fun j e => ((Kd.R_bound h.word).1 j e).2.1).setCell h.lo v1
/-- Another list of hits. -/
theorem Vis.setH (h : Vis w0 W bw bk bg bo bh bv Aw cw wl k g vo word vh hits) {hits1 : List (Int × Int)} (HO : Kd.R kHit 133 wA w0.heap.size (fun _ => True) v1 hits1) (HG : W.grownBy wA vh.ownBlock) :
    wA.heap[bh]? = some (.cells #[vh] 131 (0, 0)) ∧ Vis w0 (wA.setCell ⟨bh, 0, none⟩ v1) bw bk bg bo bh bv Aw cw wl k g vo word v1 hits1 := by
  have car : ∀ {b : Nat} {cs : Array Value} {t : TypeId}, W.heap[b]? = some (.cells cs t (0, 0)) → t ≠ 133 → wA.heap[b]? = some (.cells cs t (0, 0)) := fun hb hn => (HG.block _ (blk_lt hb) (h.notH hb hn)).trans hb
  have h3 := car h.hbh (by decide)
  have far : ∀ {b : Nat} {o : Obj}, wA.heap[b]? = some o → b ≠ bh → (wA.setCell ⟨bh, 0, none⟩ v1).heap[b]? = some o := fun hb hn => (Below.heap_setCell wA ⟨bh, 0, none⟩ v1 _ hn).trans hb
  refine ⟨h3, far (car h.hbw (by decide)) (blk_ne h.hbw h.hbh (by decide)), far (car h.hbk (by decide)) (blk_ne h.hbk h.hbh (by decide)), far (car h.hbg (by decide)) (blk_ne h.hbg h.hbh (by decide)), far (car h.hbo (by decide)) (blk_ne h.hbo h.hbh (by decide)), one_setCell h3, far (car h.hbv (by decide)) (blk_ne h.hbv h.hbh (by decide)),
    Kd.R_set (Kd.R_mono (Kd.R_grown (Kd.R_bound h.word) HG fun j hj e => ?_) fun _ hj => hj.1) h3 (by decide) 0 v1, Kd.R_set HO h3 (by decide) 0 v1, ?_, h.ne, h.lo, h.lh⟩
  · obtain ⟨_, _, _, q, hq, cells, hc⟩ := hj
    have hq' : q = 3 := by have h3 : q ∈ [3] := hq; simpa using h3
    subst hq'
    exact h.notH hc (by decide) e
  · exact (h.below.grown HG h.below.size fun j e => ((Kd.R_bound h.hits).1 j e).2.1).setCell h.lh v1
end
end Go.Proofs.Ytcdjeimjbbknjaa.PAll
namespace Go.Proofs.Ytcdjeimjbbknjaa.PAll
open Go.RowKit Go.Proofs.YtcdjeimjbbknjaaW.PrintWords Go.Proofs.YtcdjeimjbbknjaaW.PrintLast Go.Proofs.YtcdjeimjbbknjaaW.PrintMore Go.Proofs.Ytcdjeimjbbknjaa.Lev
set_option linter.unusedVariables false
set_option linter.unusedSimpArgs false

theorem hitN_le (ns : List Nd) (wl : List Int) (k s : Int) (last word : List Int) (hits : List (Int × Int)) : hits.length ≤ (hitN ns wl k s last word hits).length := by
  unfold hitN
  split
  · simp
  · exact Nat.le_refl _
theorem foldl_le {α β : Type} (F : List β → α → List β) (h : ∀ hs x, hs.length ≤ (F hs x).length) : ∀ (xs : List α) (hs : List β), hs.length ≤ (xs.foldl F hs).length
  | [], hs => Nat.le_refl _
  | x :: xs, hs => Nat.le_trans (h hs x) (foldl_le F h xs (F hs x))
theorem visitN_le (ns : List Nd) (wl : List Int) (k : Int) : ∀ (f : Nat) (s : Int) (last word : List Int) (hits : List (Int × Int)), hits.length ≤ (visitN ns wl k f s last word hits).length
  | 0, _, _, _, hits => Nat.le_refl _
  | f + 1, s, last, word, hits => by
    rw [visitN]
    refine Nat.le_trans (hitN_le ns wl k s last word hits) (foldl_le _ (fun hs x => ?_) _ _)
    split
    · exact Nat.le_refl _
    · exact visitN_le ns wl k f _ _ _ _
/-- One symbol. -/
def symF (ns : List Nd) (wl : List Int) (k : Int) (f : Nat) (s : Int) (last word : List Int) (hs : List (Int × Int)) (x : Int) : List (Int × Int) :=
  if k < minL (nextRow last wl x) then hs else visitN ns wl k f (stepN ns s x) (nextRow last wl x) (word ++ [x]) hs
theorem symF_le (ns : List Nd) (wl : List Int) (k : Int) (f : Nat) (s : Int) (last word : List Int) (hs : List (Int × Int)) (x : Int) : hs.length ≤ (symF ns wl k f s last word hs x).length := by
  unfold symF
  split
  · exact Nat.le_refl _
  · exact visitN_le ns wl k f _ _ _ _

theorem kHit_M {W : World} {base : Nat} {ok : Nat → Prop} {i d : Int} : kHit.M W base ok (i, d) [.int .i64 i, .int .i64 d] := ⟨[.int .i64 i], [.int .i64 d], rfl, rfl, rfl⟩
theorem infoHit : (Try.prog.info? 133).map (fun i => (i.zero, i.size, i.bytes)) = some (some (.agg #[.int .i64 0, .int .i64 0]), 2, 16) := by kernel_rfl
def own (v' v : Value) (n : Nat) : Prop := v'.ownBlock = v.ownBlock ∨ ∃ b, v'.ownBlock = some b ∧ n ≤ b
theorem own.refl (v : Value) (n : Nat) : own v v n := .inl rfl
theorem own.trans {v v1 v2 : Value} {n m : Nat} (h1 : own v1 v n) (h2 : own v2 v1 m) (hm : n ≤ m) : own v2 v n := by
  rcases h2 with h | ⟨b, h, hb⟩
  · rcases h1 with h' | ⟨b', h', hb'⟩
    · exact .inl (h.trans h')
    · exact .inr ⟨b', h.trans h', hb'⟩
  · exact .inr ⟨b, h, by omega⟩
theorem turn_own {bo bh : Nat} {vo vh vo' vh' : Value} {n : Nat} (h1 : own vo' vo n) (h2 : own vh' vh n) : ∀ j, turn bo bh vo' vh' j → turn bo bh vo vh j ∨ n ≤ j := by
  intro j hj
  rcases hj with h | h | h | h
  · exact .inl (.inl h)
  · exact .inl (.inr (.inl h))
  · rcases h1 with h' | ⟨b, h', hb⟩
    · exact .inl (.inr (.inr (.inl (h.trans h'))))
    · rw [h'] at h; obtain rfl := Option.some.inj h; exact .inr hb
  · rcases h2 with h' | ⟨b, h', hb⟩
    · exact .inl (.inr (.inr (.inr (h.trans h'))))
    · rw [h'] at h; obtain rfl := Option.some.inj h; exact .inr hb

theorem own.mono {v v' : Value} {n m : Nat} (h : own v' v m) (hm : n ≤ m) : own v' v n := h.imp_right fun ⟨b, h1, h2⟩ => ⟨b, h1, by omega⟩
theorem Vis.fresh {w0 W : World} {bw bk bg bo bh bv g : Nat} {Aw : Option Addr} {cw : Nat} {wl word : List Int} {k : Int} {vo vh : Value} {hits : List (Int × Int)} (h : Vis w0 W bw bk bg bo bh bv Aw cw wl k g vo word vh hits) : ∀ j, W.heap.size ≤ j → ¬ turn bo bh vo vh j := by
  intro j hj ht
  rcases ht with rfl | rfl | ht | ht
  · have := blk_lt h.hbo; omega
  · have := blk_lt h.hbh; omega
  · have := ((Kd.R_bound h.word).1 j ht.symm).2.2.1; omega
  · have := ((Kd.R_bound h.hits).1 j ht.symm).2.2.1; omega
theorem foldl_take {α β : Type} (F : β → α → β) (b : β) (xs : List α) (j : Nat) (h : j < xs.length) : (xs.take (j + 1)).foldl F b = F ((xs.take j).foldl F b) xs[j] := by
  rw [List.take_succ_eq_append_getElem h, List.foldl_append]; rfl
theorem foldl_part {α β : Type} (F : List β → α → List β) (hF : ∀ hs x, hs.length ≤ (F hs x).length) (b : List β) (xs : List α) (j : Nat) : ((xs.take j).foldl F b).length ≤ (xs.foldl F b).length := by
  have : xs.foldl F b = (xs.drop j).foldl F ((xs.take j).foldl F b) := by rw [← List.foldl_append, List.take_append_drop]
  rw [this]
  exact foldl_le F hF _ _
def VisPost (w0 W : World) (bw bk bg bo bh bv : Nat) (Aw : Option Addr) (cw : Nat) (wl : List Int) (k : Int) (g : Nat) (vo : Value) (word : List Int) (vh : Value) (hits : List (Int × Int)) (e : Ending) (w' : World) : Prop :=
  e = .returned (.tuple #[]) ∧ ∃ vo' vh', Vis w0 w' bw bk bg bo bh bv Aw cw wl k g vo' word vh' hits ∧ own vo' vo W.heap.size ∧ own vh' vh W.heap.size ∧ Kept W w' (turn bo bh vo vh)
def VisSpec (w0 : World) (ns : List Nd) (Aw : Option Addr) (cw : Nat) (wl : List Int) (k : Int) (g : Nat) (f : Nat) : Prop :=
  ∀ (W : World) (bw bk bg bo bh bv : Nat) (vo : Value) (word : List Int) (vh : Value) (hits : List (Int × Int)) (A : Option Addr) (c : Nat) (last : List Int) (s b : Int),
    Vis w0 W bw bk bg bo bh bv Aw cw wl k g vo word vh hits → (∀ W', Kept W W' (turn bo bh vo vh) → Kd.C (Kd.int .i64) W' A last.length last) → last.length ≤ c → RowB last wl b → b + (f : Int) ≤ 1000000000000 → Deep ns f s → word.length + f ≤ 1000000000 →
    (visitN ns wl k f s last word hits).length ≤ 1000000000000 →
    Calls Try.prog 97 #[.int .i64 s, .slice A last.length c, .pointer (some ⟨bw, 0, none⟩), .pointer (some ⟨bk, 0, none⟩), .pointer (some ⟨bg, 0, none⟩), .pointer (some ⟨bo, 0, none⟩), .pointer (some ⟨bh, 0, none⟩), .pointer (some ⟨bv, 0, none⟩)] W
      (VisPost w0 W bw bk bg bo bh bv Aw cw wl k g vo word vh (visitN ns wl k f s last word hits))

set_option maxHeartbeats 4000000 in
set_option maxRecDepth 100000 in
theorem visit_step (w0 : World) (ns : List Nd) (Aw : Option Addr) (cw : Nat) (wl : List Int) (k : Int) (g : Nat) (hg : GraphAt w0 g ns) (hk : GOk ns) (hwl : Kd.C (Kd.int .i64) w0 Aw wl.length wl) (hcw : wl.length ≤ cw) (hw64 : wl.length ≤ 1000000000)
    (f : Nat) (IH : Aside0 (VisSpec w0 ns Aw cw wl k g f)) : VisSpec w0 ns Aw cw wl k g (f + 1) := by
  intro W bw bk bg bo bh bv vo word vh hits A c last s b hV hlast hc hrow hb hdeep hword hroom
  have HG := Aside0.mk hg
  have HK := Aside0.mk hk
  have HWL := Aside0.mk hwl
  have HV := Aside0.mk hV
  have HLast := Aside0.mk hlast
  have HRow := Aside0.mk hrow
  have HDeep := Aside0.mk hdeep
  have HRoom := Aside0.mk hroom
  have hll := hrow.1
  obtain ⟨ad, rfl, hx⟩ := Kd.at_int (hlast W (Kept.refl _ _)) (wl.length : Int) (by omega) (by omega)
  rw [Int.toNat_natCast] at hx
  have c1 : W.cell? ⟨bw, 0, none⟩ = some (.slice Aw wl.length cw) := (blk_cell hV.hbw 0).trans rfl
  have c2 : W.cell? ⟨bk, 0, none⟩ = some (.int .i64 k) := (blk_cell hV.hbk 0).trans rfl
  have c3 : W.cell? ⟨bg, 0, none⟩ = some (.pointer (some ⟨g, 0, none⟩)) := (blk_cell hV.hbg 0).trans rfl
  have c4 : W.cell? ⟨bo, 0, none⟩ = some vo := (blk_cell hV.hbo 0).trans rfl
  have c5 : W.cell? ⟨bh, 0, none⟩ = some vh := (blk_cell hV.hbh 0).trans rfl
  have hlt1 : (wl.length : Int) < (last.length : Int) := by omega
  have hlt2 : wl.length < last.length := by omega
  have HFin := Aside0.mk (final_any g ns s W (hg.below hV.below))
  have HLL := Aside0.mk hll
  have HHit : Aside0 (hitN ns wl k s last word hits = if (rd last (wl.length : Int) ≤ k ∧ finalB ns s = true) ∧ (indexN ns word).2 = true then hits ++ [((indexN ns word).1, rd last (wl.length : Int))] else hits) := ⟨rfl⟩
  clear hg hk hwl hV hlast hrow hdeep hroom hll
  generalize hd : rd last (wl.length : Int) = d at *
  have HD := Aside0.mk hd
  clear hd
  go_enter Try.func97, Try.ntmps97
  go_upto_region 1 with fail
  go_cut [28] from 16 (fun s28 wx => s28 = .bool (decide (d ≤ k) && finalB ns s) ∧ wx = W)
  case first =>
    by_cases hdk : d ≤ k
    · go_wp2_with (go_at_call 31; refine HFin.out.mono ?_; rintro e w' ⟨rfl, rfl⟩)
      go_meet
      exact ⟨by simp [hdk], rfl⟩
    · have HDK := Aside0.mk (decide_eq_false hdk)
      go_wp2
      go_meet
      exact ⟨by rw [HDK.out]; rfl, rfl⟩
  case rest =>
    obtain ⟨rfl, rfl⟩ := hcut
    obtain ⟨wi, hwi⟩ : ∃ wi, wi = wc := ⟨_, rfl⟩
    subst hwi
    go_upto_if 28 with fail
    go_cut [10] from 16 (fun s10 wx => s10 = .int .i64 d ∧ ∃ vh1, Vis w0 wx bw bk bg bo bh bv Aw cw wl k g vo word vh1 (hitN ns wl k s last word hits) ∧ own vh1 vh wi.heap.size ∧ Kept wi wx (turn bo bh vo vh))
    case first =>
      obtain ⟨Ao, co, rfl⟩ := Kd.R_slice HV.out.word
      obtain ⟨Ao', co', hAo, hlo, hCo⟩ := Kd.R_reads HV.out.word
      injection hAo with e1 e2 e3
      subst e1
      subst e3
      have HIx := Aside0.mk (index_any g ns Ao co word wi (HG.out.below HV.out.below) HK.out hCo hlo)
      clear hCo e2
      cases hdf : (decide (d ≤ k) && finalB ns s) with
      | true =>
        have hdf' := hdf
        simp only [Bool.and_eq_true, decide_eq_true_eq] at hdf'
        cases hix : (indexN ns word).2 with
        | true =>
          rw [hix] at HIx
          have HH2 : Aside0 (hitN ns wl k s last word hits = hits ++ [((indexN ns word).1, d)]) := ⟨by rw [HHit.out, if_pos ⟨hdf', hix⟩]⟩
          have HR2 : Aside0 ((hits.length + 1) * 16 ≤ 140737488355328) := ⟨by have := HRoom.out; have := visitN_le ns wl k (f + 1) s last word hits; omega⟩
          clear hix hdf hdf' HHit
          generalize (indexN ns word).1 = ix at *
          go_wp2_with (first | (go_at_call 22; refine HIx.out.mono ?_; rintro e w1 ⟨rfl, hb1⟩; have hV1 := HV.out.step hb1; have d5 : w1.cell? ⟨bh, 0, none⟩ = some vh := (blk_cell hV1.hbh 0).trans rfl; have HV1 := Aside0.mk hV1; clear hV1) | (at_builtin; refine Kd.R_append kHit (w0 := w0) w0.heap.size rfl (.tmp 36) (.tmp 40) 131 133 (.agg #[.int .i64 0, .int .i64 0]) 16 rfl Try.underlying131 infoHit rfl (by decide) (by omega) vh hits (ix, d) [.int .i64 ix, .int .i64 d] (fun _ => True) (fun _ => False) rfl rfl kHit_M (fun _ h => h.elim) (fun _ _ => trivial) HV1.out.hits HV1.out.below HV1.out.below.size HR2.out ?_; intro v3 w3 HO3 HB3 HG3 hown3; have hset := HV1.out.setH HO3 HG3; have t1 := cell_of_one hset.1; have t2 := free_of_one hset.1; have HSet := Aside0.mk hset; clear hset; obtain ⟨A3, c3', rfl⟩ := Kd.R_slice HO3))
          go_meet
          rw [show (hits ++ [(ix, d)]).length = hits.length + 1 from by simp] at HSet hown3
          refine ⟨rfl, _, by rw [HH2.out]; exact HSet.out.2, ?_, Kept.setCell (Kept.of_grown HG3 (Kept.of_below hb1 _) fun j e => .inl (.inr (.inr (.inr e.symm)))) (.inl (.inr (.inl rfl))) _⟩
          rcases hown3 with h | ⟨b', h, hb'⟩
          · exact .inl h
          · exact .inr ⟨b', h, by have := hb1.size; omega⟩
        | false =>
          rw [hix] at HIx
          have HH2 : Aside0 (hitN ns wl k s last word hits = hits) := ⟨by rw [HHit.out, if_neg (fun h => by rw [hix] at h; exact absurd h.2 (by decide))]⟩
          clear hix hdf hdf' HHit
          go_wp2_with (go_at_call 22; refine HIx.out.mono ?_; rintro e w1 ⟨rfl, hb1⟩)
          go_meet
          exact ⟨rfl, vh, by rw [HH2.out]; exact HV.out.step hb1, own.refl _ _, Kept.of_below hb1 _⟩
      | false =>
        have HH2 : Aside0 (hitN ns wl k s last word hits = hits) := ⟨by
          rw [HHit.out, if_neg (fun h => ?_)]
          rw [decide_eq_true h.1.1, h.1.2] at hdf
          exact absurd hdf (by decide)⟩
        clear hdf HHit
        go_wp2
        go_meet
        exact ⟨rfl, vh, by rw [HH2.out]; exact HV.out, own.refl _ _, Kept.refl _ _⟩
    case rest =>
      obtain ⟨rfl, vh1, hV1, hown1, hkept1⟩ := hcut
      have HV1 := Aside0.mk hV1
      have HOwn1 := Aside0.mk hown1
      have HKept1 := Aside0.mk hkept1
      have HSy := Aside0.mk (symbols_any g ns s wc (HG.out.below hV1.below) HK.out)
      have e3 : wc.cell? ⟨bg, 0, none⟩ = some (.pointer (some ⟨g, 0, none⟩)) := (blk_cell hV1.hbg 0).trans rfl
      have HTot : Aside0 (((symsN ns s).foldl (symF ns wl k f s last word) (hitN ns wl k s last word hits)).length ≤ 1000000000000 ∧ ∀ x ∈ symsN ns s, Deep ns f (stepN ns s x)) := ⟨HRoom.out, HDeep.out⟩
      have HVs : Aside0 (visitN ns wl k (f + 1) s last word hits = (symsN ns s).foldl (symF ns wl k f s last word) (hitN ns wl k s last word hits)) := ⟨rfl⟩
      clear hV1 hown1 hkept1 c1 c2 c3 c4 c5 hx HHit HFin HRoom HDeep
      generalize symsN ns s = syms at *
      generalize hitN ns wl k s last word hits = hits1 at *
      go_wp2_with (go_at_call 32; refine HSy.out.mono ?_; rintro e ws ⟨vs, rfl, hsr, hbs⟩; have hsb := Kd.R_bound hsr; have hsC := Aside0.mk hsb; clear hsb; obtain ⟨As, cs, hvs, hls, _⟩ := Kd.R_reads hsr; clear hsr; subst hvs)
      have hSyms : ∀ W', Kept ws W' (turn bo bh vo vh1) → Kd.C (Kd.int .i64) W' As syms.length syms := Kd.C_kept_own hsC.out fun j hj => HV1.out.fresh j hj.2.1
      have hLast2 : ∀ W', Kept ws W' (turn bo bh vo vh1) → Kd.C (Kd.int .i64) W' (some ad) last.length last := Kd.C_kept_call HLast.out (HKept1.out.below hbs) (fun j hj => turn_own (own.refl _ _) HOwn1.out j hj)
      have HSyms := Aside0.mk hSyms
      have HLast2 := Aside0.mk hLast2
      have HBs := Aside0.mk hbs
      have HMax := Aside0.mk (Kd.C_max (hSyms ws (Kept.refl _ _)))
      clear hSyms hLast2 hbs hsC HSy e3
      go_loopw [46] (fun sj wr => ∃ (j : Nat) (vo' vh' : Value), sj = .int .i64 (j : Int) ∧ j ≤ syms.length ∧ Aside0 (Vis w0 wr bw bk bg bo bh bv Aw cw wl k g vo' word vh' ((syms.take j).foldl (symF ns wl k f s last word) hits1) ∧ own vo' vo ws.heap.size ∧ own vh' vh1 ws.heap.size ∧ Kept ws wr (turn bo bh vo vh1))) (fun sj _ => syms.length - (intOf sj).toNat)
      case atStart => exact ⟨0, vo, vh1, rfl, Nat.zero_le _, ⟨HV1.out.step HBs.out, own.refl _ _, own.refl _ _, Kept.refl _ _⟩⟩
      case round =>
        obtain ⟨j, vo', vh', rfl, hj, hH⟩ := hrel
        have hmx := HMax.out
        by_cases hjl : j < syms.length
        · obtain ⟨hVr, ho1, ho2, hkr⟩ := hH.out
          obtain ⟨asy, rfl, hxs⟩ := Kd.at_int (HSyms.out wr hkr) (j : Int) (by omega) (by omega)
          rw [Int.toNat_natCast] at hxs
          have hmem : rd syms j ∈ syms := rd_mem' hjl
          have hdp := HTot.out.2 _ hmem
          have hft := foldl_take (symF ns wl k f s last word) hits1 syms j hjl
          have hfp := foldl_part (symF ns wl k f s last word) (symF_le ns wl k f s last word) hits1 syms (j + 1)
          have hgx : syms[j] = rd syms j := by rw [rd_nat, List.getD_eq_getElem?_getD, List.getElem?_eq_getElem hjl, Option.getD_some]
          rw [hgx] at hft
          rw [hft] at hfp
          generalize rd syms j = x at *
          generalize hhs : (syms.take j).foldl (symF ns wl k f s last word) hits1 = hs at *
          have hrow := HRow.out
          have hNx := hrow.next x
          have HRowC := Aside0.mk (fun (W : World) (hk : Kept ws W (turn bo bh vo vh1)) (hb : Below w0.heap.size w0 W) => fuzzy_row.calls (some ad) c last Aw cw wl x (nextRow last wl x) W (HLast2.out W hk) hc (Kd.C_below HWL.out hb) hcw (by unfold fuzzy_row.f; rw [if_pos (hrow.ok (by omega) (by omega))]))
          have hnl : 0 < (nextRow last wl x).length := by rw [hNx.1]; omega
          have HFT := Aside0.mk hft
          have HFP := Aside0.mk hfp
          have HNx := Aside0.mk hNx
          have HDp := Aside0.mk hdp
          have HVr := Aside0.mk hVr
          have HOs := Aside0.mk (And.intro ho1 ho2)
          have HKr := Aside0.mk hkr
          have r1 : wr.cell? ⟨bw, 0, none⟩ = some (.slice Aw wl.length cw) := (blk_cell hVr.hbw 0).trans rfl
          have r2 : wr.cell? ⟨bk, 0, none⟩ = some (.int .i64 k) := (blk_cell hVr.hbk 0).trans rfl
          generalize hnx : nextRow last wl x = next at *
          have HSF : Aside0 (symF ns wl k f s last word hs x = if k < minL next then hs else visitN ns wl k f (stepN ns s x) next (word ++ [x]) hs) := ⟨by rw [← hnx]; rfl⟩
          clear hVr ho1 ho2 hkr hmem hdp hft hfp hgx hrow hNx hhs hnx
          by_cases hmin : k < minL next
          · have HSF2 : Aside0 (symF ns wl k f s last word hs x = hs) := ⟨by rw [HSF.out, if_pos hmin]⟩
            clear HSF
            go_wp2_with (go_at_call 95; refine (HRowC.out _ HKr.out HVr.out.below).mono ?_; rintro e w1 ⟨vn, rfl, hnr, hnb⟩; obtain ⟨An, cn, hvn, hln, hnC⟩ := Kd.R_reads hnr; subst hvn; have HV2 := Aside0.mk (HVr.out.step hnb); have r3 : w1.cell? ⟨bk, 0, none⟩ = some (.int .i64 k) := (blk_cell HV2.out.hbk 0).trans rfl; have HMin := Aside0.mk (fun W (hb : Below w1.heap.size w1 W) => min_any An cn next W (Kd.C_below hnC hb) hnl); have HNb := Aside0.mk hnb; clear hnr hnC hnb)
            go_quiet (first | (go_at_call 98; refine (HMin.out _ (pw_below_drewN (Below.refl _ _) _)).mono ?_; rintro e w2 ⟨rfl, rfl⟩; exact ⟨rfl, _, rfl⟩))
            go_wp2
            go_roundw
            case rel => exact ⟨j + 1, vo', vh', by go_num, by omega, ⟨by rw [HFT.out, HSF2.out]; exact HV2.out.step (pw_below_drewN (Below.refl _ _) _), HOs.out.1, HOs.out.2, (HKr.out.below HNb.out).drewN _⟩⟩
            case measure => simp [intOf]; omega
          · have HSF2 : Aside0 (symF ns wl k f s last word hs x = visitN ns wl k f (stepN ns s x) next (word ++ [x]) hs) := ⟨by rw [HSF.out, if_neg hmin]⟩
            clear HSF
            go_wp2_with (go_at_call 95; refine (HRowC.out _ HKr.out HVr.out.below).mono ?_; rintro e w1 ⟨vn, rfl, hnr, hnb⟩; obtain ⟨An, cn, hvn, hln, hnC⟩ := Kd.R_reads hnr; subst hvn; have HV2 := Aside0.mk (HVr.out.step hnb); have r3 : w1.cell? ⟨bk, 0, none⟩ = some (.int .i64 k) := (blk_cell HV2.out.hbk 0).trans rfl; have HMin := Aside0.mk (fun W (hb : Below w1.heap.size w1 W) => min_any An cn next W (Kd.C_below hnC hb) hnl); have HNb := Aside0.mk hnb; have HNr := Aside0.mk (Kd.R_bound hnr); clear hnr hnC hnb)
            go_quiet (first | (go_at_call 98; refine (HMin.out _ (pw_below_drewN (Below.refl _ _) _)).mono ?_; rintro e w2 ⟨rfl, rfl⟩; exact ⟨rfl, _, rfl⟩))
            have HVd := Aside0.mk (fun n => HV2.out.step (pw_below_drewN (Below.refl w1.heap.size w1) n))
            have r4 : w1.cell? ⟨bo, 0, none⟩ = some vo' := (blk_cell HV2.out.hbo 0).trans rfl
            have hkk := blk_lt HV2.out.hbk
            clear r1 r2 hxs
            go_wp2_with (at_builtin; refine Kd.R_append (Kd.int .i64) (w0 := w0) (W := w1.drewN nq) w0.heap.size rfl (.tmp 58) (.tmp 60) 22 3 (.int .i64 0) 8 rfl Try.underlying22 info3 rfl (by decide) (by omega) vo' word x [.int .i64 x] (fun j => j ≠ bk) (fun _ => False) rfl rfl rfl (fun _ h => h.elim) (fun j hj => by have hj' : w1.heap.size ≤ j := hj; omega) (HVd.out nq).word (HVd.out nq).below (HVd.out nq).below.size (by omega) ?_; intro v4 w4 HO4 HB4 HG4 hown4; have hset := (HVd.out nq).setO HO4 HG4; have t1 := cell_of_one hset.1; have t2 := free_of_one hset.1; have HSet := Aside0.mk hset; clear hset; obtain ⟨A4, c4', rfl⟩ := Kd.R_slice HO4)
            rw [show (word ++ [x]).length = word.length + 1 from by simp] at HSet hown4
            have hV5 := HSet.out.2
            have hkp5 : Kept w1 (w4.setCell ⟨bo, 0, none⟩ (.slice A4 (word.length + 1) c4')) (turn bo bh vo' vh') := Kept.setCell (Kept.of_grown HG4 ((Kept.refl w1 _).drewN nq) fun j e => .inl (.inr (.inr (.inl e.symm)))) (.inl (.inl rfl)) _
            have hsz5 : w1.heap.size ≤ (w4.setCell ⟨bo, 0, none⟩ (.slice A4 (word.length + 1) c4')).heap.size := hkp5.1
            generalize hw5 : w4.setCell ⟨bo, 0, none⟩ (.slice A4 (word.length + 1) c4') = w5 at *
            have ho4 : own (.slice A4 (word.length + 1) c4') vo' w1.heap.size := hown4
            generalize hv4 : Value.slice A4 (word.length + 1) c4' = v4 at *
            have hNC : ∀ W', Kept w1 W' (turn bo bh vo' vh') → Kd.C (Kd.int .i64) W' An next.length next := Kd.C_kept_own HNr.out fun j hj => HVr.out.fresh j hj.2.1
            have HVis := Aside0.mk (fun (W : World) (hb : Below w5.heap.size w5 W) => IH.out W bw bk bg bo bh bv v4 (word ++ [x]) vh' hs An cn next (stepN ns s x) (b + 1) (hV5.step hb) (Kd.C_kept_call hNC (hkp5.below hb) (turn_own ho4 (own.refl _ _))) hln HNx.out (by omega) HDp.out (by rw [List.length_append, List.length_singleton]; omega) (by have h1 := HFP.out; rw [HSF2.out] at h1; exact Nat.le_trans h1 HTot.out.1))
            have HStep := Aside0.mk (step_any g ns s x w5.drew (HG.out.below hV5.below.drew) HK.out)
            have HSc : Aside0 (∀ W, Below w5.heap.size w5 W → W.cell? ⟨bv, 0, none⟩ = some (.func (.func 97) #[] #[.pointer (some ⟨bw, 0, none⟩), .pointer (some ⟨bk, 0, none⟩), .pointer (some ⟨bg, 0, none⟩), .pointer (some ⟨bo, 0, none⟩), .pointer (some ⟨bh, 0, none⟩), .pointer (some ⟨bv, 0, none⟩)]) ∧ W.cell? ⟨bg, 0, none⟩ = some (.pointer (some ⟨g, 0, none⟩))) := ⟨fun W hb => ⟨(blk_cell (hV5.step hb).hbv 0).trans rfl, (blk_cell (hV5.step hb).hbg 0).trans rfl⟩⟩
            have HV5 := Aside0.mk hV5
            have HKp5 := Aside0.mk hkp5
            have HO4' := Aside0.mk ho4
            clear hV5 hkp5 ho4 hNC HO4 HB4 HG4 hown4 HSet t1 t2 hw5 hv4
            go_region_held3 (fun W => W.cell? ⟨bv, 0, none⟩ = some (.func (.func 97) #[] #[.pointer (some ⟨bw, 0, none⟩), .pointer (some ⟨bk, 0, none⟩), .pointer (some ⟨bg, 0, none⟩), .pointer (some ⟨bo, 0, none⟩), .pointer (some ⟨bh, 0, none⟩), .pointer (some ⟨bv, 0, none⟩)]) ∧ W.cell? ⟨bg, 0, none⟩ = some (.pointer (some ⟨g, 0, none⟩))) (first | exact ⟨q1, q2⟩ | exact HSc.out _ hb6 | exact HSc.out _ (Below.refl _ _).drew) (first | (go_at_call 33; refine HStep.out.mono ?_; rintro e w6 ⟨rfl, hb6'⟩; have hb6 : Below w5.heap.size w5 w6 := (Below.refl _ _).drew.trans hb6'; clear hb6') | (go_at_call 97; refine (HVis.out _ hb6).mono ?_; rintro e w7 ⟨rfl, v5, vh2, hV7, ho5, ho6, hk7⟩; have q1 := (blk_cell hV7.hbv 0).trans rfl; have q2 := (blk_cell hV7.hbg 0).trans rfl))
            obtain ⟨A5, c5, rfl⟩ := Kd.R_slice hV7.word
            have hlen5 : (word ++ [x]).length = word.length + 1 := by simp
            have hcut := Kd.R_take hV7.word (m := word.length) (by omega)
            rw [List.take_left'] at hcut <;> try rfl
            obtain ⟨hb7, hV8⟩ := hV7.setO hcut (World.grownBy.refl w7 _)
            have u1 := cell_of_one hb7
            have u2 := free_of_one hb7
            have hc5 : (word.length : Int) ≤ (c5 : Int) := by
              obtain ⟨A6, c6, h6, hl6, _⟩ := Kd.R_reads hV7.word
              injection h6 with _ _ h6
              subst h6
              omega
            rw [hlen5] at u1 ho5
            have wl1 : IntKind.i64.wrap ((word.length : Int) + 1 - 1) = (word.length : Int) := (wrap_in (by omega) (by omega)).trans (by omega)
            have wl2 : (0 : Int) ≤ (word.length : Int) := by omega
            have HV8 := Aside0.mk hV8
            have HK7 := Aside0.mk hk7
            have HO5 := Aside0.mk ho5
            have HO6 := Aside0.mk ho6
            clear hV7 hV8 hcut hb7 hk7 ho5 ho6 q1 q2 r3 r4
            go_wp2
            go_roundw
            case rel =>
              have s1 : ws.heap.size ≤ wr.heap.size := HKr.out.1
              have s2 : wr.heap.size ≤ w1.heap.size := HNb.out.size
              have s3 : w5.heap.size ≤ w6.heap.size := hb6.size
              have o4 : own v4 vo ws.heap.size := HOs.out.1.trans (HO4'.out.mono (by omega)) (Nat.le_refl _)
              have e5 : (Value.slice A5 word.length c5).ownBlock = (Value.slice A5 (word.length + 1) c5).ownBlock := by cases A5 <;> rfl
              have o5 : own (.slice A5 word.length c5) v4 w6.heap.size := by
                have := HO5.out
                unfold own at this ⊢
                rw [e5]; exact this
              refine ⟨j + 1, _, vh2, by go_num, by omega, ⟨by rw [HFT.out, HSF2.out]; exact HV8.out, o4.trans (o5.mono (by omega)) (Nat.le_refl _), HOs.out.2.trans (HO6.out.mono (by omega)) (Nat.le_refl _), ?_⟩⟩
              exact (((((HKr.out.below HNb.out).then_ HKp5.out (turn_own HOs.out.1 HOs.out.2)).below hb6).then_ HK7.out (turn_own o4 HOs.out.2))).setCell (.inl (.inl rfl)) _
            case measure => simp [intOf]; omega
        · obtain rfl : j = syms.length := by omega
          obtain ⟨hVr, ho1, ho2, hkr⟩ := hH.out
          rw [List.take_length] at hVr
          go_wp2
          go_end0
          refine ⟨rfl, vo', vh', by rw [HVs.out]; exact hVr, ho1.mono (by have := HKept1.out.1; have := HBs.out.size; omega), HOwn1.out.trans (ho2.mono HBs.out.size) HKept1.out.1, (HKept1.out.below HBs.out).then_ hkr (turn_own (own.refl _ _) HOwn1.out)⟩
theorem visit_any (w0 : World) (ns : List Nd) (Aw : Option Addr) (cw : Nat) (wl : List Int) (k : Int) (g : Nat) (hg : GraphAt w0 g ns) (hk : GOk ns) (hwl : Kd.C (Kd.int .i64) w0 Aw wl.length wl) (hcw : wl.length ≤ cw) (hw64 : wl.length ≤ 1000000000) :
    ∀ f, VisSpec w0 ns Aw cw wl k g f
  | 0 => fun _ _ _ _ _ _ _ _ _ _ _ _ _ _ _ _ _ _ _ _ _ h => h.elim
  | f + 1 => visit_step w0 ns Aw cw wl k g hg hk hwl hcw hw64 f ⟨visit_any w0 ns Aw cw wl k g hg hk hwl hcw hw64 f⟩
end Go.Proofs.Ytcdjeimjbbknjaa.PAll
namespace Go.Proofs.Ytcdjeimjbbknjaa.PAll
open Go.RowKit Go.Proofs.YtcdjeimjbbknjaaW.PrintWords Go.Proofs.YtcdjeimjbbknjaaW.PrintLast Go.Proofs.YtcdjeimjbbknjaaW.PrintMore
set_option linter.unusedVariables false
set_option linter.unusedSimpArgs false

def sortHit_ren : Go.Shelf.Ren := ⟨fun | 6 => 99 | 15 => 120 | 14 => 119 | 28 => 137 | 29 => 138 | 20 => 129 | 21 => 130 | 22 => 131 | 23 => 132 | 24 => 133 | 25 => 134 | 26 => 135 | 27 => 136 | 46 => 141 | 47 => 142 | 48 => 143 | 49 => 144 | 50 => 145 | 57 => 147 | n => n, fun | 22 => 131 | 24 => 133 | 25 => 136 | 3 => 3 | 39 => 149 | 0 => 0 | 53 => 172 | 55 => 71 | 4 => 4 | 46 => 166 | 45 => 165 | 50 => 36 | 5 => 5 | 9 => 9 | 66 => 177 | 70 => 181 | 76 => 183 | 77 => 39 | n => n, fun | n => n⟩
theorem sortHit_lays : Go.Proofs.SlLaysF0.n6 Try.prog sortHit_ren := {
  mixed := by kernel_rfl
  f6 := ⟨Try.f99.name, by decide, Try.func99.trans (congrArg some (by kernel_rfl))⟩
  f14 := ⟨Try.f119.name, by decide, Try.func119.trans (congrArg some (by kernel_rfl))⟩
  f15 := Try.func120.trans (congrArg some (by kernel_rfl))
  f20 := ⟨Try.f129.name, by decide, Try.func129.trans (congrArg some (by kernel_rfl))⟩
  f21 := ⟨Try.f130.name, by decide, Try.func130.trans (congrArg some (by kernel_rfl))⟩
  f22 := ⟨Try.f131.name, by decide, Try.func131.trans (congrArg some (by kernel_rfl))⟩
  f23 := ⟨Try.f132.name, by decide, Try.func132.trans (congrArg some (by kernel_rfl))⟩
  f24 := ⟨Try.f133.name, by decide, Try.func133.trans (congrArg some (by kernel_rfl))⟩
  f25 := ⟨Try.f134.name, by decide, Try.func134.trans (congrArg some (by kernel_rfl))⟩
  f26 := ⟨Try.f135.name, by decide, Try.func135.trans (congrArg some (by kernel_rfl))⟩
  f27 := ⟨Try.f136.name, by decide, Try.func136.trans (congrArg some (by kernel_rfl))⟩
  f28 := Try.func137.trans (congrArg some (by kernel_rfl))
  f29 := Try.func138.trans (congrArg some (by kernel_rfl))
  f46 := ⟨Try.f141.name, by decide, Try.func141.trans (congrArg some (by kernel_rfl))⟩
  f47 := Try.func142.trans (congrArg some (by kernel_rfl))
  f48 := Try.func143.trans (congrArg some (by kernel_rfl))
  f49 := ⟨Try.f144.name, by decide, Try.func144.trans (congrArg some (by kernel_rfl))⟩
  f50 := ⟨Try.f145.name, by decide, Try.func145.trans (congrArg some (by kernel_rfl))⟩
  f57 := ⟨Try.f147.name, by decide, Try.func147.trans (congrArg some (by kernel_rfl))⟩
  t0 := Try.underlying0
  a0 := Try.isAgg0
  z0 := Try.sizeOf0
  v0 := Try.zeroValue0
  t3 := Try.underlying3
  a3 := Try.isAgg3
  z3 := Try.sizeOf3
  v3 := Try.zeroValue3
  t4 := Try.underlying4
  a4 := Try.isAgg4
  z4 := Try.sizeOf4
  v4 := Try.zeroValue4
  t5 := Try.underlying5
  a5 := Try.isAgg5
  z5 := Try.sizeOf5
  v5 := Try.zeroValue5
  t9 := Try.underlying9
  a9 := Try.isAgg9
  z9 := Try.sizeOf9
  v9 := Try.zeroValue9
  t22 := Try.underlying131
  a22 := Try.isAgg131
  z22 := Try.sizeOf131
  v22 := Try.zeroValue131
  t25 := Try.underlying136
  a25 := Try.isAgg136
  z25 := Try.sizeOf136
  v25 := Try.zeroValue136
  t39 := Try.underlying149
  a39 := Try.isAgg149
  z39 := Try.sizeOf149
  v39 := Try.zeroValue149
  t45 := Try.underlying165
  a45 := Try.isAgg165
  z45 := Try.sizeOf165
  v45 := Try.zeroValue165
  t46 := Try.underlying166
  a46 := Try.isAgg166
  z46 := Try.sizeOf166
  v46 := Try.zeroValue166
  t50 := Try.underlying36
  a50 := Try.isAgg36
  z50 := Try.sizeOf36
  v50 := Try.zeroValue36
  t53 := Try.underlying172
  a53 := Try.isAgg172
  z53 := Try.sizeOf172
  v53 := Try.zeroValue172
  t55 := Try.underlying71
  a55 := Try.isAgg71
  z55 := Try.sizeOf71
  v55 := Try.zeroValue71
  t66 := Try.underlying177
  a66 := Try.isAgg177
  z66 := Try.sizeOf177
  v66 := Try.zeroValue177
  t70 := Try.underlying181
  a70 := Try.isAgg181
  z70 := Try.sizeOf181
  v70 := Try.zeroValue181
  t76 := Try.underlying183
  a76 := Try.isAgg183
  z76 := Try.sizeOf183
  v76 := Try.zeroValue183
  t77 := Try.underlying39
  a77 := Try.isAgg39
  z77 := Try.sizeOf39
  v77 := Try.zeroValue39 }
/-- cmp.Compare at ints. -/
def cmpI (a b : Int) : Int := if a < b then -1 else if b < a then 1 else 0
theorem isnan_any (a : Int) (w : World) : Calls Try.prog 125 #[.int .i64 a] w fun e w' => e = .returned (.bool false) ∧ w = w' := by
  have h : (a != a) = false := by simp
  go_enter Try.func125, Try.ntmps125
  go_wp2
  go_ret
  exact ⟨rfl, rfl⟩
theorem cmp_any (a b : Int) (w : World) : Calls Try.prog 122 #[.int .i64 a, .int .i64 b] w fun e w' => e = .returned (.int .i64 (cmpI a b)) ∧ w' = w := by
  by_cases h1 : a < b
  · have HE : Aside0 (cmpI a b = -1) := ⟨by simp [cmpI, h1]⟩
    go_enter Try.func122, Try.ntmps122
    go_wp2_with (go_at_call 125; refine (isnan_any _ _).mono ?_; rintro e w' ⟨rfl, rfl⟩)
    go_ret
    exact ⟨by rw [HE.out]; rfl, rfl⟩
  · by_cases h2 : b < a
    · have HE : Aside0 (cmpI a b = 1) := ⟨by simp [cmpI, h1, h2]⟩
      go_enter Try.func122, Try.ntmps122
      go_wp2_with (go_at_call 125; refine (isnan_any _ _).mono ?_; rintro e w' ⟨rfl, rfl⟩)
      go_ret
      exact ⟨by rw [HE.out]; rfl, rfl⟩
    · have HE : Aside0 (cmpI a b = 0) := ⟨by simp [cmpI, h1, h2]⟩
      go_enter Try.func122, Try.ntmps122
      go_wp2_with (go_at_call 125; refine (isnan_any _ _).mono ?_; rintro e w' ⟨rfl, rfl⟩)
      go_ret
      exact ⟨by rw [HE.out]; rfl, rfl⟩
def orI (x y : Int) : Int := if x ≠ 0 then x else y
theorem or_any (x y : Int) (w : World) : Calls Try.prog 121 #[.slice (some ⟨w.heap.size, 0, none⟩) 2 2] (w.alloc (.cells #[.int .i64 x, .int .i64 y] 3)) fun e w' => e = .returned (.int .i64 (orI x y)) ∧ w' = w.alloc (.cells #[.int .i64 x, .int .i64 y] 3) := by
  have c0 : (w.alloc (.cells #[.int .i64 x, .int .i64 y] 3)).cell? ⟨w.heap.size, 0, none⟩ = some (.int .i64 x) := (blk_cell (blk_new w _) 0).trans rfl
  have c1 : (w.alloc (.cells #[.int .i64 x, .int .i64 y] 3)).cell? ⟨w.heap.size, 1, none⟩ = some (.int .i64 y) := (blk_cell (blk_new w _) 1).trans rfl
  have HE : Aside0 (orI x y = if x ≠ 0 then x else y) := ⟨rfl⟩
  generalize hW : w.alloc (.cells #[.int .i64 x, .int .i64 y] 3) = W at *
  clear hW
  by_cases hx : x = 0
  · by_cases hy : y = 0
    · subst hx; subst hy
      have HE2 : Aside0 (orI 0 0 = 0) := ⟨rfl⟩
      clear HE
      go_enter Try.func121, Try.ntmps121
      go_wp2
      refine wp_loop_rounds 3 ?_
      rw [rounds_succ]
      go_wp2
      rw [rounds_succ]
      go_wp2
      rw [rounds_succ]
      go_wp2
      go_ret
      exact ⟨by rw [HE2.out]; rfl, rfl⟩
    · subst hx
      have hyb : (y == 0) = false := beq_eq_false_iff_ne.2 hy
      have HE2 : Aside0 (orI 0 y = y) := ⟨rfl⟩
      clear HE
      go_enter Try.func121, Try.ntmps121
      go_wp2
      refine wp_loop_rounds 2 ?_
      rw [rounds_succ]
      go_wp2
      rw [rounds_succ]
      go_wp2
      go_ret
      exact ⟨by rw [HE2.out]; rfl, rfl⟩
  · have hxb : (x == 0) = false := beq_eq_false_iff_ne.2 hx
    have HE2 : Aside0 (orI x y = x) := ⟨by unfold orI; rw [if_pos hx]⟩
    clear HE
    go_enter Try.func121, Try.ntmps121
    go_wp2
    refine wp_loop_rounds 1 ?_
    rw [rounds_succ]
    go_wp2
    go_ret
    exact ⟨by rw [HE2.out]; rfl, rfl⟩
/-- The order of hits: the distance, then the number. -/
def cmpH (x y : Int × Int) : Int := orI (cmpI x.2 y.2) (cmpI x.1 y.1)
set_option maxHeartbeats 1000000 in
set_option maxRecDepth 100000 in
theorem compare_hit (x y : Int × Int) (W : World) : Calls Try.prog 100 #[.agg #[.int .i64 x.1, .int .i64 x.2], .agg #[.int .i64 y.1, .int .i64 y.2]] W fun e w' => e = .returned (.int .i64 (cmpH x y)) ∧ ∃ q os', w' = Go.Sort.grow (W.drewN q) os' := by
  obtain ⟨x1, x2⟩ := x
  obtain ⟨y1, y2⟩ := y
  have HE : Aside0 (cmpH (x1, x2) (y1, y2) = orI (cmpI x2 y2) (cmpI x1 y1)) := ⟨rfl⟩
  have hc1 := fun W => cmp_any x2 y2 W
  have hc2 := fun W => cmp_any x1 y1 W
  have ho := fun W => or_any (cmpI x2 y2) (cmpI x1 y1) W
  generalize cmpI x2 y2 = r1 at *
  generalize cmpI x1 y1 = r2 at *
  generalize orI r1 r2 = r at *
  go_enter Try.func100, Try.ntmps100
  go_wp2
  have hs1 : (W.alloc (.cells #[.int .i64 x1, .int .i64 x2] 133)).heap.size = W.heap.size + 1 := by simp
  have b1 : ((W.alloc (.cells #[.int .i64 x1, .int .i64 x2] 133)).alloc (.cells #[.int .i64 y1, .int .i64 y2] 133)).heap[W.heap.size]? = some (.cells #[.int .i64 x1, .int .i64 x2] 133 (0, 0)) := blk_alloc (blk_new W _) _
  have b2 : ((W.alloc (.cells #[.int .i64 x1, .int .i64 x2] 133)).alloc (.cells #[.int .i64 y1, .int .i64 y2] 133)).heap[W.heap.size + 1]? = some (.cells #[.int .i64 y1, .int .i64 y2] 133 (0, 0)) := by rw [← hs1]; exact blk_new _ _
  have hgr : ∀ n o, ∃ q os', (((W.alloc (.cells #[.int .i64 x1, .int .i64 x2] 133)).alloc (.cells #[.int .i64 y1, .int .i64 y2] 133)).drewN n).alloc o = Go.Sort.grow (W.drewN q) os' := fun n o => ⟨n, _, by rw [Go.Sort.alloc_eq_grow, Go.Sort.alloc_eq_grow, Go.Sort.alloc_eq_grow, Go.Sort.grow_grow]; show Go.Sort.grow (Go.Sort.grow (W.drewN n) _) _ = _; rw [Go.Sort.grow_grow]⟩
  generalize hW2 : (W.alloc (.cells #[.int .i64 x1, .int .i64 x2] 133)).alloc (.cells #[.int .i64 y1, .int .i64 y2] 133) = W2 at *
  have d0 : W2.cell? ⟨W.heap.size, 0, none⟩ = some (.int .i64 x1) := (blk_cell b1 0).trans rfl
  have d1 : W2.cell? ⟨W.heap.size, 1, none⟩ = some (.int .i64 x2) := (blk_cell b1 1).trans rfl
  have d2 : W2.cell? ⟨W.heap.size + 1, 0, none⟩ = some (.int .i64 y1) := (blk_cell b2 0).trans rfl
  have d3 : W2.cell? ⟨W.heap.size + 1, 1, none⟩ = some (.int .i64 y2) := (blk_cell b2 1).trans rfl
  have HGr := Aside0.mk hgr
  clear hgr b1 b2 hW2 hs1
  go_still_tail 10, (by kernel_rfl)
  still_call (hc1 _)
  repeat still_step
  still_call (hc2 _)
  repeat still_step
  refine wpStill_nil ?_
  change wpList _ _ _ _ _ W2.drew
  go_wp2_with (go_at_call 121; refine Calls.mono (ho W2.drew) ?_; rintro e w' ⟨rfl, rfl⟩)
  go_ret
  obtain ⟨q, os', h⟩ := HGr.out 1 (.cells #[.int .i64 r1, .int .i64 r2] 3)
  exact ⟨by rw [HE.out]; rfl, q, os', h⟩
end Go.Proofs.Ytcdjeimjbbknjaa.PAll
namespace Go.Proofs.Ytcdjeimjbbknjaa.PAll
open Go.RowKit Go.Proofs.YtcdjeimjbbknjaaW.PrintWords Go.Proofs.YtcdjeimjbbknjaaW.PrintLast Go.Proofs.YtcdjeimjbbknjaaW.PrintMore
set_option linter.unusedVariables false
set_option linter.unusedSimpArgs false

/-! ### The order, a plain sort -/
theorem cmpH_lt (x y : Int × Int) : cmpH x y < 0 ↔ (x.2 < y.2 ∨ x.2 = y.2 ∧ x.1 < y.1) := by
  unfold cmpH orI cmpI
  (repeat' split) <;> omega
def leH (x y : Int × Int) : Prop := x.2 < y.2 ∨ x.2 = y.2 ∧ x.1 ≤ y.1
instance (x y : Int × Int) : Decidable (leH x y) := by unfold leH; infer_instance
theorem leH_iff (x y : Int × Int) : leH x y ↔ ¬ cmpH y x < 0 := by rw [cmpH_lt, leH]; omega
def insH (x : Int × Int) : List (Int × Int) → List (Int × Int)
  | [] => [x]
  | y :: ys => if leH x y then x :: y :: ys else y :: insH x ys
def sortH (l : List (Int × Int)) : List (Int × Int) := l.foldr insH []
theorem insH_perm (x : Int × Int) : ∀ l, (insH x l).Perm (x :: l)
  | [] => List.Perm.refl _
  | y :: ys => by
    rw [insH]
    split
    · exact List.Perm.refl _
    · exact ((insH_perm x ys).cons y).trans (List.Perm.swap x y ys)
theorem sortH_perm : ∀ l, (sortH l).Perm l
  | [] => List.Perm.refl _
  | x :: l => (insH_perm x (sortH l)).trans ((sortH_perm l).cons x)
theorem leH_trans {x y z : Int × Int} (h1 : leH x y) (h2 : leH y z) : leH x z := by unfold leH at *; omega
theorem leH_total (x y : Int × Int) (h : ¬ leH x y) : leH y x := by unfold leH at *; omega
theorem leH_anti {x y : Int × Int} (h1 : leH x y) (h2 : leH y x) : x = y := by
  unfold leH at *
  exact Prod.ext (by omega) (by omega)
theorem insH_sorted (x : Int × Int) : ∀ l, l.Pairwise leH → (insH x l).Pairwise leH
  | [], _ => by simp [insH]
  | y :: ys, h => by
    rw [insH]
    split
    · rename_i hxy
      exact List.pairwise_cons.2 ⟨fun z hz => by
        rcases List.mem_cons.1 hz with rfl | hz
        · exact hxy
        · exact leH_trans hxy ((List.pairwise_cons.1 h).1 z hz), h⟩
    · rename_i hxy
      refine List.pairwise_cons.2 ⟨fun z hz => ?_, insH_sorted x ys (List.pairwise_cons.1 h).2⟩
      rcases List.mem_cons.1 ((insH_perm x ys).mem_iff.1 hz) with rfl | hz
      · exact leH_total _ _ hxy
      · exact (List.pairwise_cons.1 h).1 z hz
theorem sortH_sorted : ∀ l, (sortH l).Pairwise leH
  | [] => List.Pairwise.nil
  | x :: l => insH_sorted x _ (sortH_sorted l)
theorem sortH_unique {l l' : List (Int × Int)} (hp : l'.Perm l) (hs : l'.Pairwise leH) : l' = sortH l :=
  List.Perm.eq_of_pairwise (le := leH) (fun a b _ _ h1 h2 => leH_anti h1 h2) hs (sortH_sorted l) (hp.trans (sortH_perm l).symm)
theorem sortH_length (l : List (Int × Int)) : (sortH l).length = l.length := (sortH_perm l).length_eq
theorem swoH : Go.Sort.SWO (Go.Proofs.ltOf cmpH) where
  irrefl x := by simp only [Go.Proofs.ltOf, decide_eq_false_iff_not, cmpH_lt]; omega
  trans x y z h1 h2 := by simp only [Go.Proofs.ltOf, decide_eq_true_eq, cmpH_lt] at *; omega
  ntrans x y z h1 h2 := by simp only [Go.Proofs.ltOf, decide_eq_false_iff_not, cmpH_lt] at *; omega
/-! ### The row of hits -/
def encH (x : Int × Int) : List Value := [.int .i64 x.1, .int .i64 x.2]
theorem kHit_open {w : World} {x : Int × Int} {cs : List Value} (h : kHit.K w x cs) : cs = [.int .i64 x.1, .int .i64 x.2] := by
  obtain ⟨_, _, rfl, rfl, rfl⟩ := h
  rfl
theorem hits_hold {W : World} {base g n cap : Nat} {ok : Nat → Prop} {xs : List (Int × Int)} (h : Kd.R kHit 133 W base ok (.slice (some ⟨g, 0, none⟩) n cap) xs) (hn : n = xs.length) : Go.Sort.HoldsK encH 2 W g 0 xs.toArray := by
  intro t ht
  have ht' : t < xs.length * 2 := by simpa using ht
  obtain ⟨cells, hc⟩ := Kd.R_typed h g rfl
  obtain ⟨c, hcl, hM, hcell⟩ := Kd.R_getA h (0, 0) ((t / 2 : Nat) : Int) (by omega) (by omega)
  have hcs := kHit_open (Kd.K_of_M kHit hM)
  rw [Int.toNat_natCast] at hcs hcell
  refine ⟨?_, by simp [World.frozen?, hc]⟩
  rw [Go.Sort.get_flatK _ _ _ _ (by simpa using ht')]
  have hx : xs.toArray[t / 2]! = xs.getD (t / 2) (0, 0) := by
    rw [List.getD_eq_getElem?_getD]
    simp [Array.getElem!_eq_getD, Array.getD, (by omega : t / 2 < xs.length)]
  rw [hx]
  generalize xs.getD (t / 2) (0, 0) = x at *
  subst hcs
  have hm : t % 2 = 0 ∨ t % 2 = 1 := by omega
  have hsz : kHit.sz = 2 := rfl
  rw [hsz] at hcell
  rcases hm with hm | hm
  · have := hcell 0 _ rfl
    rw [hm]
    have e : t / 2 * 2 + 0 = t := by omega
    rw [e, add_at, Nat.zero_add] at this
    simpa [encH] using this
  · have := hcell 1 _ rfl
    rw [hm]
    have e : t / 2 * 2 + 1 = t := by omega
    rw [e, add_at, Nat.zero_add] at this
    simpa [encH] using this
theorem hits_read {W : World} {g : Nat} {d : Array (Int × Int)} (h : Go.Sort.HoldsK encH 2 W g 0 d) (hn : d.size ≤ 9223372036854775807) : Kd.C kHit W (some ⟨g, 0, none⟩) d.size d.toList := by
  refine ⟨by simp, hn, fun _ => ⟨_, rfl, fun j p hp => ⟨encH p, rfl, ⟨[.int .i64 p.1], [.int .i64 p.2], rfl, rfl, rfl⟩, fun i u hu => ?_⟩⟩⟩
  obtain ⟨hj, hjp⟩ := List.getElem?_eq_some_iff.1 hp
  have hj' : j < d.size := by simpa using hj
  have hi : i < 2 := by
    have := (List.getElem?_eq_some_iff.1 hu).1
    simpa [encH] using this
  have h1 := (h.cell hj' hi).1
  have hx : d[j]! = p := by
    rw [getElem!_pos d j hj', ← hjp]; simp
  rw [hx] at h1
  have hu' : (encH p)[i]! = u := by
    rw [List.getElem!_eq_getElem?_getD, hu]; rfl
  rw [hu'] at h1
  have hsz : kHit.sz = 2 := rfl
  rw [hsz, add_at]
  simpa [Nat.add_assoc] using h1
theorem sorted_world {W : World} {g m : Nat} {d : Array (Int × Int)} {os : Array Obj} {base : Nat} (hg : base ≤ g) (hlt : g < W.heap.size) : Below base W (sortWorldK encH 2 W g 0 m d os) := by
  have hsz : (Go.Sort.putRowK encH 2 (Go.Sort.ahead W m) g 0 d).heap.size = W.heap.size := by simp [Go.Sort.putRowK, Go.Sort.putRow, Go.Sort.mapBlock, Go.Sort.ahead]
  refine ⟨rfl, rfl, rfl, ?_, fun k hk => ?_⟩
  · simp [sortWorldK, Go.Sort.grow, hsz]
  · have hk2 : k < (Go.Sort.putRowK encH 2 (Go.Sort.ahead W m) g 0 d).heap.size := by omega
    show (Go.Sort.grow (Go.Sort.putRowK encH 2 (Go.Sort.ahead W m) g 0 d) os).heap[k]? = W.heap[k]?
    rw [Go.Sort.heap_grow_old _ _ hk2]
    show (W.heap.modify g _)[k]? = W.heap[k]?
    rw [Array.getElem?_modify]
    simp; omega
theorem sorted_kept {W : World} {g m : Nat} {d : Array (Int × Int)} {os : Array Obj} : Kept W (sortWorldK encH 2 W g 0 m d os) (fun j => j = g) := by
  have hsz : (Go.Sort.putRowK encH 2 (Go.Sort.ahead W m) g 0 d).heap.size = W.heap.size := by simp [Go.Sort.putRowK, Go.Sort.putRow, Go.Sort.mapBlock, Go.Sort.ahead]
  refine ⟨by simp [sortWorldK, Go.Sort.grow, hsz], fun k hk hne => ?_⟩
  have hk2 : k < (Go.Sort.putRowK encH 2 (Go.Sort.ahead W m) g 0 d).heap.size := by omega
  show (Go.Sort.grow (Go.Sort.putRowK encH 2 (Go.Sort.ahead W m) g 0 d) os).heap[k]? = W.heap[k]?
  rw [Go.Sort.heap_grow_old _ _ hk2]
  show (W.heap.modify g _)[k]? = W.heap[k]?
  rw [Array.getElem?_modify]
  simp; omega
theorem sort_some {W : World} {base g n cap : Nat} {ok : Nat → Prop} {xs : List (Int × Int)} (h : Kd.R kHit 133 W base ok (.slice (some ⟨g, 0, none⟩) n cap) xs) (hn : n = xs.length) (hb : base ≤ g) (hl : xs.length < 4611686018427387904) :
    Calls Try.prog 99 #[.slice (some ⟨g, 0, none⟩) n cap, .func (.func 100) #[] #[]] W
      fun e w' => e = .returned (.tuple #[]) ∧ Kd.C kHit w' (some ⟨g, 0, none⟩) n (sortH xs) ∧ Below base W w' ∧ Kept W w' (fun j => j = g) := by
  have hlt : g < W.heap.size := ((Kd.R_bound h).1 g rfl).2.2.1
  have hH := hits_hold h hn
  have eg : ∀ args w, (callFunc 100 args).run Try.prog w = .ok (.enter 100 args) w := enters_of Try.func100 (by kernel_rfl) rfl
  have hcon := AnyQ.slices_SortFunc sortHit_lays 2 Try.isAgg133 Try.sizeOf133 encH (fun _ => rfl) (fun x v hv => by simp [encH] at hv; rcases hv with rfl | rfl <;> rfl) cmpH swoH 100 #[] g 0 cap xs.toArray W eg (fun _ _ _ _ x y => compare_hit x y _) hH hlt (by simpa using hl)
  change Calls Try.prog 99 _ _ _ at hcon
  rw [show xs.toArray.size = n from by simp [hn]] at hcon
  refine hcon.mono ?_
  rintro e w' ⟨rfl, d', m, os, hp, hs, rfl⟩
  refine ⟨rfl, ?_, sorted_world hb hlt, sorted_kept⟩
  obtain ⟨h1, _, h3⟩ := hp
  have hsz : d'.size = n := by rw [h1]; simp [hn]
  have hperm : d'.toList.Perm xs := by
    have e1 : d'.extract 0 n = d' := by rw [← hsz]; simp
    have e2 : xs.toArray.extract 0 n = xs.toArray := by rw [hn]; simp
    rw [e1, e2] at h3
    simpa using h3
  have hsort : d'.toList.Pairwise leH := by
    rw [List.pairwise_iff_getElem]
    intro i j hi hj hij
    have hi' : i < d'.size := by simpa using hi
    have hj' : j < d'.size := by simpa using hj
    have := hs i j (Nat.zero_le _) hij (by omega)
    rw [getElem!_pos d' j hj', getElem!_pos d' i hi'] at this
    simp only [ltOf, decide_eq_false_iff_not] at this
    rw [leH_iff]
    simpa using this
  have he := sortH_unique hperm hsort
  have hH1 : Go.Sort.HoldsK encH 2 (Go.Sort.putRowK encH 2 (Go.Sort.ahead W m) g 0 d') g 0 d' := Go.Sort.holdsK_putRowK encH 2 (Go.Sort.ahead W m) g 0 xs.toArray d' (Go.Sort.holdsK_ahead encH 2 W m g 0 _ hH) (by rw [hsz]; simp [hn])
  have hsz2 : (Go.Sort.putRowK encH 2 (Go.Sort.ahead W m) g 0 d').heap.size = W.heap.size := by simp [Go.Sort.putRowK, Go.Sort.putRow, Go.Sort.mapBlock, Go.Sort.ahead]
  have hH2 := hits_read (Go.Sort.holdsK_grow encH 2 _ os g 0 d' (by omega) hH1) (by omega)
  rw [he, hsz] at hH2
  exact hH2
theorem sort_any {W : World} {base : Nat} {ok : Nat → Prop} {v : Value} {xs : List (Int × Int)} (h : Kd.R kHit 133 W base ok v xs) (hl : xs.length < 4611686018427387904) :
    Calls Try.prog 99 #[v, .func (.func 100) #[] #[]] W
      fun e w' => e = .returned (.tuple #[]) ∧ ∃ A c, v = .slice A xs.length c ∧ Kd.C kHit w' A xs.length (sortH xs) ∧ Below base W w' ∧ Kept W w' (fun j => some j = v.ownBlock) := by
  obtain ⟨A, c, rfl⟩ := Kd.R_slice h
  rcases Nat.eq_zero_or_pos xs.length with h0 | h0
  · obtain rfl := List.eq_nil_of_length_eq_zero h0
    have hcon := AnyF.slices_SortFunc_none sortHit_lays A c (.func (.func 100) #[] #[]) W
    change Calls Try.prog 99 _ _ _ at hcon
    refine hcon.mono ?_
    rintro e w' ⟨rfl, rfl⟩
    exact ⟨rfl, A, c, rfl, ⟨rfl, by simp, fun h => absurd h (by simp)⟩, Below.refl _ _, Kept.refl _ _⟩
  · obtain ⟨g, cap, hv, hb, _⟩ := Kd.R_form h h0
    injection hv with e1 e2 e3
    subst e1
    subst e3
    refine (sort_some h rfl hb hl).mono ?_
    rintro e w' ⟨rfl, h1, h2, h3⟩
    exact ⟨rfl, _, _, rfl, h1, h2, h3.mono fun j hj => by rw [hj]; rfl⟩
end Go.Proofs.Ytcdjeimjbbknjaa.PAll
-- import NoneTotal
namespace Go.Proofs.Ytcdjeimjbbknjaa.PAll
open Go.RowKit Go.Proofs.YtcdjeimjbbknjaaW.PrintWords Go.Proofs.YtcdjeimjbbknjaaW.PrintLast Go.Proofs.YtcdjeimjbbknjaaW.PrintMore Go.Proofs.Ytcdjeimjbbknjaa.Lev
set_option linter.unusedVariables false
set_option linter.unusedSimpArgs false

def toH (x : Int × Int) : S86 := ⟨x.1, x.2⟩
/-- What Search leaves, for a graph that is f deep. -/
def searchN (ns : List Nd) (wl : List Int) (k : Int) (f : Nat) : List (Int × Int) := sortH (visitN ns wl k f 0 (upTo (wl.length + 1)) [] [])
theorem search_bad (g : Nat) (A0 : Option Addr) (c0 n : Nat) (k : Int) (w : World) (hk : k < 0 ∨ 3 < k) :
    Calls Try.prog 53 #[.pointer (some ⟨g, 0, none⟩), .slice A0 n c0, .int .i64 k] w fun e w' => e = .returned (.tuple #[.slice none 0 0, .int .i64 1]) ∧ Below w.heap.size w w' := by
  by_cases h : k < 0
  · go_enter Try.func53, Try.ntmps53
    go_wp2
    go_ret2
    exact ⟨rfl, below_alloc (below_alloc (below_alloc (Below.refl _ _) _) _ |>.mono (by simp)) _ |>.mono (by simp)⟩
  · have h3 : 3 < k := by omega
    go_enter Try.func53, Try.ntmps53
    go_wp2
    go_ret2
    exact ⟨rfl, below_alloc (below_alloc (below_alloc (Below.refl _ _) _) _ |>.mono (by simp)) _ |>.mono (by simp)⟩
theorem search_long (g : Nat) (A0 : Option Addr) (c0 n : Nat) (k : Int) (w : World) (h0 : 0 ≤ k) (h3 : k ≤ 3) (hn : 64 < n) (hn2 : n ≤ 9223372036854775807) :
    Calls Try.prog 53 #[.pointer (some ⟨g, 0, none⟩), .slice A0 n c0, .int .i64 k] w fun e w' => e = .returned (.tuple #[.slice none 0 0, .int .i64 4]) ∧ Below w.heap.size w w' := by
  have h1 : ¬ k < 0 := by omega
  have h2 : ¬ 3 < k := by omega
  have h4 : (64 : Int) < (n : Int) := by omega
  go_enter Try.func53, Try.ntmps53
  go_wp2
  go_ret2
  exact ⟨rfl, below_alloc (below_alloc (below_alloc (Below.refl _ _) _) _ |>.mono (by simp)) _ |>.mono (by simp)⟩
def sboxed (w : World) (g : Nat) (A0 : Option Addr) (n c0 : Nat) (k : Int) : World :=
  (((((w.alloc (.cells #[.pointer (some ⟨g, 0, none⟩)] 26)).alloc (.cells #[.slice A0 n c0] 22)).alloc (.cells #[.int .i64 k] 3)).alloc (.cells #[.slice none 0 0] 131)).alloc (.cells #[.slice none 0 0] 22)).alloc
    (.cells #[.func (.func 97) #[] #[.pointer (some ⟨w.heap.size + 1, 0, none⟩), .pointer (some ⟨w.heap.size + 1 + 1, 0, none⟩), .pointer (some ⟨w.heap.size, 0, none⟩), .pointer (some ⟨w.heap.size + 1 + 1 + 1 + 1, 0, none⟩), .pointer (some ⟨w.heap.size + 1 + 1 + 1, 0, none⟩), .pointer (some ⟨w.heap.size + 1 + 1 + 1 + 1 + 1, 0, none⟩)]] 132)
theorem sboxed_below (w : World) (g : Nat) (A0 : Option Addr) (n c0 : Nat) (k : Int) : Below w.heap.size w (sboxed w g A0 n c0 k) :=
  below_alloc (below_alloc (below_alloc (below_alloc (below_alloc (below_alloc (Below.refl _ w) _) _ |>.mono (by simp)) _ |>.mono (by simp)) _ |>.mono (by simp)) _ |>.mono (by simp)) _ |>.mono (by simp)
theorem vis_start (w : World) (g : Nat) (Aw : Option Addr) (wl : List Int) (cw : Nat) (k : Int) :
    Vis w (sboxed w g Aw wl.length cw k) (w.heap.size + 1) (w.heap.size + 1 + 1) w.heap.size (w.heap.size + 1 + 1 + 1 + 1) (w.heap.size + 1 + 1 + 1) (w.heap.size + 1 + 1 + 1 + 1 + 1) Aw cw wl k g (.slice none 0 0) [] (.slice none 0 0) [] := by
  have h1 : (w.alloc (.cells #[.pointer (some ⟨g, 0, none⟩)] 26)).heap.size = w.heap.size + 1 := by simp
  have h2 : ((w.alloc (.cells #[.pointer (some ⟨g, 0, none⟩)] 26)).alloc (.cells #[.slice Aw wl.length cw] 22)).heap.size = w.heap.size + 1 + 1 := by simp
  have h3 : (((w.alloc (.cells #[.pointer (some ⟨g, 0, none⟩)] 26)).alloc (.cells #[.slice Aw wl.length cw] 22)).alloc (.cells #[.int .i64 k] 3)).heap.size = w.heap.size + 1 + 1 + 1 := by simp
  have h4 : ((((w.alloc (.cells #[.pointer (some ⟨g, 0, none⟩)] 26)).alloc (.cells #[.slice Aw wl.length cw] 22)).alloc (.cells #[.int .i64 k] 3)).alloc (.cells #[.slice none 0 0] 131)).heap.size = w.heap.size + 1 + 1 + 1 + 1 := by simp
  have h5 : (((((w.alloc (.cells #[.pointer (some ⟨g, 0, none⟩)] 26)).alloc (.cells #[.slice Aw wl.length cw] 22)).alloc (.cells #[.int .i64 k] 3)).alloc (.cells #[.slice none 0 0] 131)).alloc (.cells #[.slice none 0 0] 22)).heap.size = w.heap.size + 1 + 1 + 1 + 1 + 1 := by simp
  refine ⟨?_, ?_, ?_, ?_, ?_, ?_, Kd.R_nil _ _ _ _ _, Kd.R_nil _ _ _ _ _, sboxed_below w g Aw wl.length cw k, by omega, by omega, by omega⟩
  · rw [sboxed]; refine blk_alloc (blk_alloc (blk_alloc (blk_alloc ?_ _) _) _) _; rw [← h1]; exact blk_new _ _
  · rw [sboxed]; refine blk_alloc (blk_alloc (blk_alloc ?_ _) _) _; rw [← h2]; exact blk_new _ _
  · rw [sboxed]; exact blk_alloc (blk_alloc (blk_alloc (blk_alloc (blk_alloc (blk_new _ _) _) _) _) _) _
  · rw [sboxed]; refine blk_alloc ?_ _; rw [← h4]; exact blk_new _ _
  · rw [sboxed]; refine blk_alloc (blk_alloc ?_ _) _; rw [← h3]; exact blk_new _ _
  · rw [sboxed, ← h5]; exact blk_new _ _
theorem at_hit {w : World} {A : Option Addr} {n : Nat} {xs : List (Int × Int)} (h : Kd.C kHit w A n xs) (i : Int) (h0 : 0 ≤ i) (h1 : i < n) : ∃ ad, A = some ad ∧ w.cell? (ad.add (i.toNat * 2)) = some (.int .i64 (xs.getD i.toNat (0, 0)).1) ∧ w.cell? ⟨(ad.add (i.toNat * 2)).block, (ad.add (i.toNat * 2)).off + 1, none⟩ = some (.int .i64 (xs.getD i.toNat (0, 0)).2) := by
  obtain ⟨ad, c, e, _, hK, hc0⟩ := Kd.C_get h (0, 0) i h0 h1
  have hc : ∀ j u, c[j]? = some u → w.cell? (ad.add (i.toNat * 2 + j)) = some u := hc0
  obtain rfl := kHit_open hK
  exact ⟨ad, e, hc 0 _ rfl, by rw [← add_field _ _ 1 (by omega)]; exact hc 1 _ rfl⟩
theorem rowB_first (wl : List Int) : RowB (upTo (wl.length + 1)) wl (wl.length : Int) := by
  refine ⟨by rw [upTo_length], fun i hi => ?_⟩
  rw [List.getD_eq_getElem?_getD, List.getElem?_eq_getElem (by rw [upTo_length]; omega)]
  simp [upTo]; omega
set_option maxHeartbeats 4000000 in
set_option maxRecDepth 100000 in
theorem search_good (g : Nat) (ns : List Nd) (A0 : Option Addr) (c0 : Nat) (wl : List Int) (k : Int) (w : World) (f : Nat) (hg : GraphAt w g ns) (hk : GOk ns) (hw : Kd.C (Kd.int .i64) w A0 wl.length wl) (hc : wl.length ≤ c0) (h0 : 0 ≤ k) (h3 : k ≤ 3) (h64 : wl.length ≤ 64)
    (hd : Deep ns f 0) (hf : f ≤ 100000) (hroom : (searchN ns wl k f).length ≤ 1000000000000) :
    Calls Try.prog 53 #[.pointer (some ⟨g, 0, none⟩), .slice A0 wl.length c0, .int .i64 k] w fun e w' => ∃ v, e = .returned (.tuple #[v, .int .i64 0]) ∧ Kd.R k86 86 w' w.heap.size (fun _ => True) v ((searchN ns wl k f).map toH) ∧ Below w.heap.size w w' := by
  have h1 : ¬ k < 0 := by omega
  have h2 : ¬ 3 < k := by omega
  have h4 : ¬ (64 : Int) < (wl.length : Int) := by omega
  have hV := vis_start w g A0 wl c0 k
  have HVis := Aside0.mk (visit_any w ns A0 c0 wl k g hg hk hw hc (by omega) f)
  have hroom' : (visitN ns wl k f 0 (upTo (wl.length + 1)) [] []).length ≤ 1000000000000 := by rw [searchN, sortH_length] at hroom; exact hroom
  have HRoom := Aside0.mk hroom'
  have HRoom2 := Aside0.mk hroom
  have HFst := Aside0.mk (fun (W : World) (hb : Below w.heap.size w W) => fuzzy_first.calls A0 c0 wl (upTo (wl.length + 1)) W (Kd.C_below hw hb) hc (by unfold fuzzy_first.f; rw [if_pos (by omega)]))
  have HS : Aside0 (searchN ns wl k f = sortH (visitN ns wl k f 0 (upTo (wl.length + 1)) [] [])) := ⟨rfl⟩
  have HD := Aside0.mk hd
  have HV := Aside0.mk hV
  clear hg hk hw hroom hroom' hd hV
  go_enter Try.func53, Try.ntmps53
  go_wp2
  obtain ⟨W6, hW6⟩ : ∃ W6, sboxed w g A0 wl.length c0 k = W6 := ⟨_, rfl⟩
  rw [hW6] at HV
  rw [sboxed] at hW6
  rw [hW6]
  have HSc : Aside0 (∀ W, Below W6.heap.size W6 W → W.cell? ⟨w.heap.size + 1 + 1 + 1 + 1 + 1, 0, none⟩ = some (.func (.func 97) #[] #[.pointer (some ⟨w.heap.size + 1, 0, none⟩), .pointer (some ⟨w.heap.size + 1 + 1, 0, none⟩), .pointer (some ⟨w.heap.size, 0, none⟩), .pointer (some ⟨w.heap.size + 1 + 1 + 1 + 1, 0, none⟩), .pointer (some ⟨w.heap.size + 1 + 1 + 1, 0, none⟩), .pointer (some ⟨w.heap.size + 1 + 1 + 1 + 1 + 1, 0, none⟩)]) ∧ W.cell? ⟨w.heap.size + 1, 0, none⟩ = some (.slice A0 wl.length c0)) := ⟨fun W hb => ⟨(blk_cell (HV.out.step hb).hbv 0).trans rfl, (blk_cell (HV.out.step hb).hbw 0).trans rfl⟩⟩
  clear hW6
  have HFst2 := Aside0.mk (HFst.out W6.drew HV.out.below.drew)
  go_region_held3 (fun W => W.cell? ⟨w.heap.size + 1 + 1 + 1 + 1 + 1, 0, none⟩ = some (.func (.func 97) #[] #[.pointer (some ⟨w.heap.size + 1, 0, none⟩), .pointer (some ⟨w.heap.size + 1 + 1, 0, none⟩), .pointer (some ⟨w.heap.size, 0, none⟩), .pointer (some ⟨w.heap.size + 1 + 1 + 1 + 1, 0, none⟩), .pointer (some ⟨w.heap.size + 1 + 1 + 1, 0, none⟩), .pointer (some ⟨w.heap.size + 1 + 1 + 1 + 1 + 1, 0, none⟩)]) ∧ W.cell? ⟨w.heap.size + 1, 0, none⟩ = some (.slice A0 wl.length c0)) (first | exact ⟨q1, q2⟩ | exact HSc.out _ hb7 | exact HSc.out _ (Below.refl _ _).drew) (first | (go_at_call 94; refine HFst2.out.mono ?_; rintro e w7 ⟨vf, rfl, hfr, hb7'⟩; have hb7 : Below W6.heap.size W6 w7 := (Below.refl _ _).drew.trans hb7'; obtain ⟨Af, cf, hvf, hlf, _⟩ := Kd.R_reads hfr; subst hvf; have HVc := Aside0.mk (HVis.out w7 _ _ _ _ _ _ _ _ _ _ Af cf _ 0 _ (HV.out.step hb7) (Kd.C_kept_own (Kd.R_bound hfr) fun j hj => HV.out.fresh j hj.2.1) hlf (rowB_first wl) (by omega) HD.out (by simp; omega) HRoom.out); clear hfr hb7') | (go_at_call 97; refine HVc.out.mono ?_; rintro e w8 ⟨rfl, vo8, vh8, hV8, _, _, _⟩; have q1 := (blk_cell hV8.hbv 0).trans rfl; have q2 := (blk_cell hV8.hbw 0).trans rfl))
  have r1 : w8.cell? ⟨w.heap.size + 1 + 1 + 1, 0, none⟩ = some vh8 := (blk_cell hV8.hbh 0).trans rfl
  have HSort := Aside0.mk (sort_any hV8.hits (by have := HRoom.out; omega))
  have HV8 := Aside0.mk hV8
  clear hV8 q1 q2
  go_wp2_with (go_at_call 99; refine HSort.out.mono ?_; rintro e w9 ⟨rfl, Ah, ch, hvh, hCh, hb9, hk9⟩; have r2 : w9.cell? ⟨w.heap.size + 1 + 1 + 1, 0, none⟩ = some (.slice Ah (visitN ns wl k f 0 (upTo (wl.length + 1)) [] []).length ch) := (by rw [← hvh]; exact cell_kept r1 hk9 (HV8.out.notH HV8.out.hbh (by decide))); have HCh := Aside0.mk hCh; have HB9 := Aside0.mk (HV8.out.below.trans hb9); clear hCh hb9 hk9)
  have hlenX : (sortH (visitN ns wl k f 0 (upTo (wl.length + 1)) [] [])).length = (visitN ns wl k f 0 (upTo (wl.length + 1)) [] []).length := sortH_length _
  have hroomX := HRoom.out
  rw [← hlenX] at HCh hroomX
  rw [← hlenX]
  have hS := HS.out
  clear HSort HV8 HV HVis HFst HFst2 HVc HSc r1 r2 hlenX HRoom HRoom2 HD
  generalize sortH (visitN ns wl k f 0 (upTo (wl.length + 1)) [] []) = xs at *
  have HS2 := Aside0.mk hS
  clear hS HS
  go_loopw [11, 36] (fun so sj wr => ∃ j : Nat, sj = .int .i64 (j : Int) ∧ j ≤ xs.length ∧ Aside0 (Kd.R k86 86 wr w9.heap.size (fun _ => True) so ((xs.take j).map toH) ∧ Below w9.heap.size w9 wr)) (fun _ sj _ => xs.length - (intOf sj).toNat)
  case atStart => exact ⟨0, rfl, Nat.zero_le _, ⟨Kd.R_nil _ _ _ _ _, Below.refl _ _⟩⟩
  case round =>
    obtain ⟨j, rfl, hj, hH⟩ := hrel
    by_cases hlt : j < xs.length
    · obtain ⟨hR, hB⟩ := hH.out
      have hlj : ((xs.take j).map toH).length = j := by rw [List.length_map, List.length_take]; omega
      obtain ⟨Ao, co, rfl⟩ := Kd.R_slice hR
      rw [hlj] at hR
      rw [hlj]
      obtain ⟨adh, rfl, x0, x1⟩ := at_hit (Kd.C_below HCh.out hB) (j : Int) (by omega) (by omega)
      rw [Int.toNat_natCast] at x0 x1
      have htk : (xs.take (j + 1)).map toH = (xs.take j).map toH ++ [toH (xs.getD j (0, 0))] := by
        rw [List.take_succ_eq_append_getElem hlt, List.map_append, List.getD_eq_getElem?_getD, List.getElem?_eq_getElem hlt]; rfl
      have HTk := Aside0.mk htk
      have HR := Aside0.mk hR
      have HB := Aside0.mk hB
      clear hR hB htk
      generalize xs.getD j (0, 0) = h at *
      obtain ⟨hi, hd⟩ := h
      have HLj := Aside0.mk hlj
      clear hlj
      have HSz : Aside0 ((wr.alloc (.cells #[.int .i64 hi, .int .i64 hd] 133)).heap.size = wr.heap.size + 1) := ⟨by simp⟩
      go_wp2_with (at_builtin; (refine Kd.R_append k86 (w0 := w9) w9.heap.size rfl (.tmp 40) (.tmp 42) 76 86 (.agg #[.int .i64 0, .int .i64 0]) 16 rfl Try.underlying76 info86 rfl (by decide) (by omega) (.slice Ao j co) ((xs.take j).map toH) (toH (hi, hd)) [.int .i64 hi, .int .i64 hd] (fun _ => True) (fun _ => False) rfl (congrArg (fun n => Value.slice (some ⟨n, 0, none⟩) 1 1) HSz.out.symm) (k86_mkM _ _ _ (toH (hi, hd))) (fun _ h => h.elim) (fun _ _ => trivial) (Kd.R_below HR.out (below_alloc (Below.refl _ _) _)) (below_alloc HB.out _) (by have := HB.out.size; simp; omega) (by rw [HLj.out]; omega) ?_); intro v4 w4 HO4 HB4 HG4 hown4)
      go_roundw
      case rel => exact ⟨j + 1, by go_num, by omega, ⟨by rw [HTk.out]; exact HO4, HB4⟩⟩
      case measure => simp [intOf]; omega
    · obtain rfl : j = xs.length := by omega
      obtain ⟨hR, hB⟩ := hH.out
      rw [List.take_length] at hR
      go_wp2
      go_ret2
      exact ⟨_, rfl, by rw [HS2.out]; exact Kd.R_lower hR HB9.out.size, HB9.out.trans (hB.mono HB9.out.size)⟩
end Go.Proofs.Ytcdjeimjbbknjaa.PAll
namespace Go.Proofs.Ytcdjeimjbbknjaa.PAll
open Go.RowKit Go.Proofs.YtcdjeimjbbknjaaW.PrintWords Go.Proofs.YtcdjeimjbbknjaaW.PrintLast Go.Proofs.YtcdjeimjbbknjaaW.PrintMore Go.Proofs.Ytcdjeimjbbknjaa.Lev
set_option linter.unusedVariables false
set_option linter.unusedSimpArgs false

/-- The first ones, as near as the very first. -/
def bestN (xs : List (Int × Int)) : List (Int × Int) := xs.takeWhile fun h => h.2 == (xs.headD (0, 0)).2
theorem tw_at {α : Type} (p : α → Bool) : ∀ (xs : List α) (j : Nat) (h : j < xs.length), j < (xs.takeWhile p).length → p xs[j] = true
  | [], j, h, _ => by simp at h
  | x :: xs, j, h, hj => by
    by_cases hx : p x = true
    · rw [List.takeWhile_cons_of_pos hx] at hj
      cases j with
      | zero => exact hx
      | succ j => exact tw_at p xs j (by simpa using h) (by simpa using hj)
    · rw [List.takeWhile_cons_of_neg hx] at hj; simp at hj
theorem tw_end {α : Type} (p : α → Bool) : ∀ (xs : List α) (h : (xs.takeWhile p).length < xs.length), p xs[(xs.takeWhile p).length] = false
  | [], h => by simp at h
  | x :: xs, h => by
    by_cases hx : p x = true
    · have e : (x :: xs).takeWhile p = x :: xs.takeWhile p := List.takeWhile_cons_of_pos hx
      have hl : (xs.takeWhile p).length < xs.length := by rw [e] at h; simpa using h
      have := tw_end p xs hl
      have e2 : ((x :: xs).takeWhile p).length = (xs.takeWhile p).length + 1 := by rw [e]; rfl
      simp only [e2, List.getElem_cons_succ]
      exact this
    · have e : (x :: xs).takeWhile p = [] := List.takeWhile_cons_of_neg hx
      have e2 : ((x :: xs).takeWhile p).length = 0 := by rw [e]; rfl
      simp only [e2, List.getElem_cons_zero]
      simpa using hx
theorem bestN_take (xs : List (Int × Int)) : bestN xs = xs.take (bestN xs).length := (take_tw _ xs).symm
theorem rd_toH (xs : List (Int × Int)) (j : Nat) (h : j < xs.length) : rd_T86 (xs.map toH) (j : Int) = toH xs[j] := by
  rw [rd_T86, Int.toNat_natCast, List.getD_eq_getElem?_getD, List.getElem?_map, List.getElem?_eq_getElem h]; rfl

set_option maxHeartbeats 4000000 in
set_option maxRecDepth 100000 in
theorem best_any (pg : Value) (A0 : Option Addr) (n0 c0 : Nat) (k e0 : Int) (w : World) (xs : List (Int × Int))
    (hs : Calls Try.prog 53 #[pg, .slice A0 n0 c0, .int .i64 k] w fun e w' => ∃ v, e = .returned (.tuple #[v, .int .i64 e0]) ∧ Kd.R k86 86 w' w.heap.size (fun _ => True) v (xs.map toH) ∧ Below w.heap.size w w') :
    Calls Try.prog 55 #[pg, .slice A0 n0 c0, .int .i64 k] w fun e w' => ∃ v, e = .returned (.tuple #[v, .int .i64 e0]) ∧ Kd.R k86 86 w' w.heap.size (fun _ => True) v ((bestN xs).map toH) ∧ Below w.heap.size w w' := by
  have HS := Aside0.mk hs
  clear hs
  go_enter Try.func55, Try.ntmps55
  go_wp2_with (go_at_call 53; refine HS.out.mono ?_; rintro e w1 ⟨v, rfl, hR, hB⟩; have HR := Aside0.mk hR; have HB := Aside0.mk hB; obtain ⟨Ah, ch, hv, hlh, hC⟩ := Kd.R_reads hR; subst hv; have HC := Aside0.mk hC; clear hR hB hC)
  have hlx : (xs.map toH).length = xs.length := List.length_map ..
  rw [hlx] at hlh HR HC
  have hmax := Kd.C_max HC.out
  have HRes : Aside0 (∀ (n : Nat) (W : World) (nd : Nat), n = (bestN xs).length → W = w1.drewN nd → Kd.R k86 86 W w.heap.size (fun _ => True) (.slice Ah n ch) ((bestN xs).map toH) ∧ Below w.heap.size w W) := ⟨by
    rintro n W nd rfl rfl
    have hle : (bestN xs).length ≤ xs.length := (List.takeWhile_prefix _).length_le
    have h2 := Kd.R_take (Kd.R_drewN HR.out nd) (m := (bestN xs).length) (by rw [hlx]; exact hle)
    rw [← List.map_take, ← bestN_take] at h2
    exact ⟨h2, pw_below_drewN HB.out nd⟩⟩
  clear hlx HR
  go_loopw [10] (fun sn wr => ∃ j nd : Nat, sn = .int .i64 (j : Int) ∧ Aside0 (j ≤ (bestN xs).length) ∧ wr = w1.drewN nd) (fun sn _ => xs.length - (intOf sn).toNat)
  case atStart => exact ⟨0, 0, rfl, ⟨Nat.zero_le _⟩, rfl⟩
  case round =>
    obtain ⟨j, nd, rfl, hj, rfl⟩ := hrel
    have hle : (bestN xs).length ≤ xs.length := (List.takeWhile_prefix _).length_le
    by_cases hlt : j < xs.length
    · obtain ⟨ad, rfl, x0, x1⟩ := at_T86 HC.out (j : Int) (by omega) (by omega)
      obtain ⟨ad2, hA, y0, y1⟩ := at_T86 HC.out ((0 : Nat) : Int) (by omega) (by omega)
      injection hA with hA
      subst hA
      have h0 : 0 < xs.length := by omega
      rw [rd_toH xs j hlt] at x1
      rw [rd_toH xs 0 h0] at y1
      rw [Int.toNat_natCast] at x1 y1
      simp only [toH] at x1 y1
      rw [show ad.add (0 * 2) = ad from by unfold Addr.add; simp] at y1
      have d1 : decide ((j : Int) < (xs.length : Int)) = true := decide_eq_true (by omega)
      have d2 : (0 : Int) < (xs.length : Int) := by omega
      have hhd : (xs.headD (0, 0)).2 = xs[0].2 := by
        cases xs with
        | nil => simp at h0
        | cons a b => rfl
      have htw := tw_at (fun h : Int × Int => h.2 == (xs.headD (0, 0)).2) xs j hlt
      have hte := tw_end (fun h : Int × Int => h.2 == (xs.headD (0, 0)).2) xs
      rw [hhd] at htw hte
      have hbn : bestN xs = xs.takeWhile fun h => h.2 == xs[0].2 := by unfold bestN; rw [hhd]
      rw [← hbn] at htw hte
      clear x0 y0 hhd hbn
      by_cases hq : xs[j].2 = xs[0].2
      · have hqb : (xs[j].2 == xs[0].2) = true := beq_iff_eq.2 hq
        have HJ1 : Aside0 (j + 1 ≤ (bestN xs).length) := ⟨by
          rcases Nat.lt_or_ge j (bestN xs).length with h | h
          · exact h
          · exfalso
            have hje : j = (bestN xs).length := by have := hj.out; omega
            subst hje
            have := hte hlt
            rw [hqb] at this
            cases this⟩
        generalize xs[j].2 = p at *
        generalize xs[0].2 = q at *
        clear htw hte hq
        go_wp2
        go_quiet (fail)
        go_wp2
        go_roundw
        case rel => exact ⟨j + 1, _, by go_num, HJ1, rfl⟩
        case measure => simp [intOf]; omega
      · have hqb : (xs[j].2 == xs[0].2) = false := beq_eq_false_iff_ne.2 hq
        have HJ1 : Aside0 (j = (bestN xs).length) := ⟨by
          rcases Nat.lt_or_ge j (bestN xs).length with h | h
          · have := htw h
            rw [hqb] at this
            cases this
          · have := hj.out; omega⟩
        generalize xs[j].2 = p at *
        generalize xs[0].2 = q at *
        have hjc : (j : Int) ≤ (ch : Int) := by omega
        have hj0 : (0 : Int) ≤ (j : Int) := by omega
        clear htw hte hq
        go_wp2
        go_quiet (fail)
        go_wp2
        go_ret2
        obtain ⟨r1, r2⟩ := HRes.out j _ _ HJ1.out (rfl)
        exact ⟨_, rfl, r1, r2⟩
    · have HJ1 : Aside0 (j = (bestN xs).length) := ⟨by have := hj.out; omega⟩
      have d1 : decide ((j : Int) < (xs.length : Int)) = false := decide_eq_false (by omega)
      have hjl := hj.out
      have hjc : (j : Int) ≤ (ch : Int) := by omega
      have hj0 : (0 : Int) ≤ (j : Int) := by omega
      clear hjl
      go_wp2
      go_quiet (fail)
      go_wp2
      go_ret2
      obtain ⟨r1, r2⟩ := HRes.out j _ _ HJ1.out (rfl)
      exact ⟨_, rfl, r1, r2⟩
end Go.Proofs.Ytcdjeimjbbknjaa.PAll
namespace Go.Proofs.Ytcdjeimjbbknjaa.PAll
open Go.RowKit Go.Proofs.YtcdjeimjbbknjaaW.PrintWords Go.Proofs.YtcdjeimjbbknjaaW.PrintLast Go.Proofs.YtcdjeimjbbknjaaW.PrintMore
attribute [local go_sem] max2_int min2_int max_two min_two max_three min_three max_four min_four   -- for this text's walks alone
set_option linter.unusedVariables false
set_option linter.unusedSimpArgs false

theorem eqA86 (d : Nat) (w : World) (x0 y0 : Int) (x1 y1 : Int) :
    (Op.equalIn (d + 2) 86 (.agg #[.int .i64 x0, .int .i64 x1]) (.agg #[.int .i64 y0, .int .i64 y1])).run Try.prog w = .ok (x0 == y0 && (x1 == y1)) w := by
  refine eqA_of Try.underlying86 (by kernel_rfl) ?_
  refine eqf_cons (by rfl) (by go_simp; rfl) (by go_simp; rfl) (by go_simp) ?_
  exact eqf_last (by rfl) (by go_simp; rfl) (by go_simp; rfl) (by go_simp)
end Go.Proofs.Ytcdjeimjbbknjaa.PAll
namespace Go.Proofs.Ytcdjeimjbbknjaa.PAll
open Go.RowKit Go.Proofs.YtcdjeimjbbknjaaW.PrintWords Go.Proofs.YtcdjeimjbbknjaaW.PrintLast Go.Proofs.YtcdjeimjbbknjaaW.PrintMore
attribute [local go_sem] max2_int min2_int max_two min_two max_three min_three max_four min_four   -- for this text's walks alone
set_option linter.unusedVariables false
set_option linter.unusedSimpArgs false

attribute [local go_sem high] eqA86
/-! ### fuzzy_Distance: function 49 -/
def fuzzy_Distance.l0 : Nat → List Int → List Int → List Int → Int → Int → Option (Int)
  | 0, _, _, _, _, _ => none
  | k + 1, x1, x5, x10, x11, x12 => if x12 < x11 then (if 0 ≤ x12 then (if x12 < (x10.length : Int) then ((fuzzy_row.f x5 x1 (rd x10 x12)).bind fun t526 => (fuzzy_Distance.l0 k x1 t526 x10 x11 (wrap64 (x12 + 1)))) else (none)) else (none)) else (if 0 ≤ (x1.length : Int) then (if (x1.length : Int) < (x5.length : Int) then (some (rd x5 (x1.length : Int))) else (none)) else (none))
def fuzzy_Distance.f (k : Nat) (l0 : List Int) (l1 : List Int) : Option (Int) := (fuzzy_first.f l1).bind fun t522 => (fuzzy_Distance.l0 k l1 t522 l0 (l0.length : Int) 0)
theorem fuzzy_Distance.mono_l : ∀ k, (∀ y0 y1 y2 y3 y4, LeO (fuzzy_Distance.l0 k y0 y1 y2 y3 y4) (fuzzy_Distance.l0 (k + 1) y0 y1 y2 y3 y4))
  | 0 => fun _ _ _ _ _ r h => by simp [fuzzy_Distance.l0] at h
  | k + 1 => by
    have ih0 := fuzzy_Distance.mono_l k
    · intro y0 y1 y2 y3 y4
      unfold fuzzy_Distance.l0
      repeat' first
      | (with_reducible exact ih0 _ _ _ _ _)
      | (with_reducible exact LeO.refl _)
      | (with_reducible exact LeO.none _)
      | (with_reducible refine LeO.ite ?_ ?_)
      | (with_reducible refine LeO.bind ?_ (fun _ => ?_))
      | exact ih0 _ _ _ _ _
      | exact LeO.none _
      | refine LeO.ite ?_ ?_
      | refine LeO.bind ?_ (fun _ => ?_)
theorem fuzzy_Distance.mono : ∀ a0 a1 k, LeO (fuzzy_Distance.f k a0 a1) (fuzzy_Distance.f (k + 1) a0 a1) := by
  intro a0 a1 k
  have ih0 := fuzzy_Distance.mono_l k
  unfold fuzzy_Distance.f
  repeat' first
      | (with_reducible exact ih0 _ _ _ _ _)
      | (with_reducible exact LeO.refl _)
      | (with_reducible exact LeO.none _)
      | (with_reducible refine LeO.ite ?_ ?_)
      | (with_reducible refine LeO.bind ?_ (fun _ => ?_))
      | exact ih0 _ _ _ _ _
      | exact LeO.none _
      | refine LeO.ite ?_ ?_
      | refine LeO.bind ?_ (fun _ => ?_)
set_option maxHeartbeats 8000000 in
set_option maxRecDepth 100000 in
theorem fuzzy_Distance.calls (k : Nat) (A0 : Option Addr) (c0 : Nat) (l0 : List Int) (A1 : Option Addr) (c1 : Nat) (l1 : List Int) (r : Int) (w : World) (hr0 : Kd.C (Kd.int .i64) w A0 l0.length l0) (hc0 : l0.length ≤ c0) (hr1 : Kd.C (Kd.int .i64) w A1 l1.length l1) (hc1 : l1.length ≤ c1) (h : fuzzy_Distance.f k l0 l1 = some r) :
    Calls Try.prog 49 #[.slice A0 l0.length c0, .slice A1 l1.length c1] w fun e w' => e = .returned (.int .i64 r) ∧ Below w.heap.size w w' := by
  have HR0 := Aside0.mk hr0
  have HC0 := Aside0.mk hc0
  clear hr0 hc0
  have HR1 := Aside0.mk hr1
  have HC1 := Aside0.mk hc1
  clear hr1 hc1
  have HB := Aside0.mk (Below.refl w.heap.size w)
  have H : ((fuzzy_first.f l1).bind fun t522 => (fuzzy_Distance.l0 k l1 t522 l0 (l0.length : Int) 0)) = some r := h
  clear h
  replace H := Option.bind_eq_some_iff.mp H
  obtain ⟨t522, A30, H⟩ := H
  replace H : (fuzzy_Distance.l0 k l1 t522 l0 (l0.length : Int) 0) = some r := H
  have A3 := Aside0.mk A30
  clear A30
  have H' := Aside0.mk H
  clear H
  go_enter Try.func49, Try.ntmps49
  go_wp2_with (first | ((with_reducible refine gate_callee (f := 94) rfl ?_); refine goesL_ (some 9) rfl rfl Try.func94 (by kernel_rfl) rfl #[.slice A1 l1.length c1] rfl (by (try simp only [List.map_toArray, List.map_cons, List.map_nil]); first | done | rfl | (simp only [List.length_drop, List.length_take]; rfl)) ?_; (with_reducible refine (fuzzy_first.calls _ _ l1 t522 _ ?side1 ?side2 A3.out).mono ?_); (case side1 => repeat (first | exact HR1.out | (with_reducible refine Kd.C_alloc ?_ _) | (with_reducible refine Kd.C_drewN ?_ _) | (with_reducible refine Kd.C_drew ?_))); (case side2 => exact HC1.out); rintro e w4 ⟨v523, rfl, ho0, hb⟩; refine ⟨_, rfl, ?_⟩; have n0_ := Aside0.mk (Kd.R_lower ho0 (below_size (by repeat (first | (with_reducible first | exact HB.out | apply below_alloc | apply pw_below_drewN | apply below_drew1) | exact HB.out)))); have n1_ := Aside0.mk (below_step (by repeat (first | (with_reducible first | exact HB.out | apply below_alloc | apply pw_below_drewN | apply below_drew1) | exact HB.out)) hb); clear HB; have HO524 := n0_; have HB := n1_; clear n0_ n1_; (try clear hb); (try clear hb2); (try clear hk); (try clear hi); (try clear ho0)))
  go_loopg [5, 12] k (fun kq v5 v12 w' => ∃ (x5_1 : List Int) (x12_1 : Int), v12 = .int .i64 x12_1 ∧ Aside0 (fuzzy_Distance.l0 kq l1 x5_1 l0 (l0.length : Int) x12_1 = some r) ∧ Aside0 (kq ≤ k) ∧ Aside0 (Kd.R (Kd.int .i64) 3 w' w.heap.size (fun _ => True) v5 x5_1) ∧ Aside0 (Below w.heap.size w w'))
  case atStart => exact ⟨(t522), (0), (by first | rfl | (simp; done) | (simp [*]; done)), H', ⟨Nat.le_refl _⟩, ⟨by (with_reducible repeat (first | apply Kd.R_alloc | apply Kd.R_drewN | apply Kd.R_drew)); exact HO524.out⟩, ⟨by repeat (first | (with_reducible first | exact HB.out | apply below_alloc | apply pw_below_drewN | apply below_drew1) | exact HB.out)⟩⟩
  case round =>
    clear H'
    try clear c1
    try clear p2
    try clear c4
    obtain ⟨x5_1, x12_1, rfl, HA, HK1, HO_5, HB⟩ := hrel
    cases gk with
    | zero => exact absurd HA.out (by simp [fuzzy_Distance.l0])
    | succ k1 =>
      have H := HA.out
      clear HA
      simp only [fuzzy_Distance.l0] at H
      by_cases c5 : x12_1 < (l0.length : Int)
      · rw [if_pos c5] at H
        have c5b0 : decide (x12_1 < (l0.length : Int)) = true := decide_eq_true c5
        clear c5
        by_cases c6 : 0 ≤ x12_1
        · rw [if_pos c6] at H
          have c6b0 : decide (0 ≤ x12_1) = true := decide_eq_true c6
          clear c6
          by_cases c7 : x12_1 < (l0.length : Int)
          · rw [if_pos c7] at H
            have c7b0 : decide (x12_1 < (l0.length : Int)) = true := decide_eq_true c7
            clear c7
            replace H := Option.bind_eq_some_iff.mp H
            obtain ⟨t526, A80, H⟩ := H
            replace H : (fuzzy_Distance.l0 k1 l1 t526 l0 (l0.length : Int) (wrap64 (x12_1 + 1))) = some r := H
            have A8 := Aside0.mk A80
            clear A80
            have H' := Aside0.mk H
            clear H
            have p525 : 0 ≤ (x12_1 : Int) := of_decide_eq_true (by first | (with_reducible assumption) | assumption)
            have q525 : x12_1 < (l0.length : Int) := of_decide_eq_true (by first | (with_reducible assumption) | assumption)
            obtain ⟨ad525, e525, hx525_0⟩ := Kd.at_int HR0.out x12_1 p525 q525
            cases e525
            replace hx525_0 := (HB.out.cell (World.block_lt_of_cell? w _ hx525_0)).trans hx525_0
            replace p525 := eq_true p525
            replace q525 := eq_true q525
            obtain ⟨Ao9, co9, eo9⟩ := Kd.R_slice HO_5.out
            subst eo9
            go_wp2_with (first | ((with_reducible refine gate_callee (f := 95) rfl ?_); refine goesL_ (some 19) rfl rfl Try.func95 (by kernel_rfl) rfl #[.slice Ao9 x5_1.length co9, .slice A1 l1.length c1, .int .i64 (rd l0 x12_1)] rfl (by (try simp only [List.map_toArray, List.map_cons, List.map_nil]); first | done | rfl | (simp only [List.length_drop, List.length_take]; rfl)) ?_; (with_reducible refine (fuzzy_row.calls _ _ x5_1 _ _ l1 (rd l0 x12_1) t526 _ ?side1 ?side2 ?side3 ?side4 A8.out).mono ?_); (case side1 => repeat (first | exact (Kd.R_reads' HO_5.out).2.2 | (with_reducible refine Kd.C_alloc ?_ _) | (with_reducible refine Kd.C_drewN ?_ _) | (with_reducible refine Kd.C_drew ?_))); (case side2 => exact (Kd.R_reads' HO_5.out).2.1); (case side3 => repeat (first | exact (Kd.C_below HR1.out HB.out) | (with_reducible refine Kd.C_alloc ?_ _) | (with_reducible refine Kd.C_drewN ?_ _) | (with_reducible refine Kd.C_drew ?_))); (case side4 => exact HC1.out); rintro e w10 ⟨v527, rfl, ho0, hb⟩; refine ⟨_, rfl, ?_⟩; have n0_ := Aside0.mk (Kd.R_elder' (by (with_reducible repeat (first | apply Kd.R_alloc | apply Kd.R_drewN | apply Kd.R_drew)); exact HO_5.out) (Kd.R_base ho0) hb); have n1_ := Aside0.mk (Kd.R_lower (Kd.R_new' ho0 (Kd.R_lt (by (with_reducible repeat (first | apply Kd.R_alloc | apply Kd.R_drewN | apply Kd.R_drew)); exact HO_5.out))) (below_size (by repeat (first | (with_reducible first | exact HB.out | apply below_alloc | apply pw_below_drewN | apply below_drew1) | exact HB.out)))); have n2_ := Aside0.mk (below_step (by repeat (first | (with_reducible first | exact HB.out | apply below_alloc | apply pw_below_drewN | apply below_drew1) | exact HB.out)) hb); clear HO_5; clear HB; have HO_5 := n0_; have HO528 := n1_; have HB := n2_; clear n0_ n1_ n2_; (try clear hb); (try clear hb2); (try clear hk); (try clear hi); (try clear ho0)))
            go_roundg k1
            case measure => have := HK1.out; omega
            case rel => exact ⟨(t526), (wrap64 (x12_1 + 1)), (by first | rfl | (simp; done) | (simp [*]; done)), H', ⟨by have := HK1.out; omega⟩, ⟨by (with_reducible repeat (first | apply Kd.R_alloc | apply Kd.R_drewN | apply Kd.R_drew)); exact Kd.R_mono HO528.out (fun _ hk => trivial)⟩, ⟨by repeat (first | (with_reducible first | exact HB.out | apply below_alloc | apply pw_below_drewN | apply below_drew1) | exact HB.out)⟩⟩
          · rw [if_neg c7] at H
            exact absurd H (by simp)
        · rw [if_neg c6] at H
          exact absurd H (by simp)
      · rw [if_neg c5] at H
        have c5b0 : decide (x12_1 < (l0.length : Int)) = false := decide_eq_false c5
        clear c5
        by_cases c11 : 0 ≤ (l1.length : Int)
        · rw [if_pos c11] at H
          have c11b0 : decide (0 ≤ (l1.length : Int)) = true := decide_eq_true c11
          have c11b1 : decide (0 ≤ l1.length) = true := decide_eq_true (by omega)
          clear c11
          by_cases c12 : (l1.length : Int) < (x5_1.length : Int)
          · rw [if_pos c12] at H
            have c12b0 : decide ((l1.length : Int) < (x5_1.length : Int)) = true := decide_eq_true c12
            have c12b1 : decide (l1.length < x5_1.length) = true := decide_eq_true (Int.ofNat_lt.mp c12)
            clear c12
            obtain rfl := Option.some.inj H
            obtain ⟨Ao13, co13, eo13⟩ := Kd.R_slice HO_5.out
            subst eo13
            have p529 : 0 ≤ ((l1.length : Int) : Int) := of_decide_eq_true (by first | (with_reducible assumption) | assumption)
            have q529 : (l1.length : Int) < (x5_1.length : Int) := of_decide_eq_true (by first | (with_reducible assumption) | assumption)
            obtain ⟨ad529, e529, hx529_0⟩ := Kd.at_int (Kd.R_reads' HO_5.out).2.2 (l1.length : Int) p529 q529
            cases e529
            (try simp only [Go.IntWalk.toNatUp] at hx529_0)
            replace p529 := eq_true p529
            replace q529 := eq_true q529
            go_wp2
            go_ret
            exact ⟨by first | rfl | (simp [errW_none, errW_some] <;> rfl) | (simp [*, errW_none, errW_some] <;> rfl), by repeat (first | (with_reducible first | exact HB.out | apply below_alloc | apply pw_below_drewN | apply below_drew1) | exact HB.out)⟩
          · rw [if_neg c12] at H
            exact absurd H (by simp)
        · rw [if_neg c11] at H
          exact absurd H (by simp)

/-! ### fuzzy_Within: function 50 -/
def fuzzy_Within.f (k : Nat) (l0 : List Int) (l1 : List Int) (a2 : Int) : Option (Bool) := (fuzzy_Distance.f k l0 l1).bind fun t530 => (some (decide (t530 ≤ a2)))
theorem fuzzy_Within.mono : ∀ a0 a1 a2 k, LeO (fuzzy_Within.f k a0 a1 a2) (fuzzy_Within.f (k + 1) a0 a1 a2) := by
  intro a0 a1 a2 k
  unfold fuzzy_Within.f
  repeat' first
      | (with_reducible exact fuzzy_Distance.mono _ _ _)
      | (with_reducible exact LeO.refl _)
      | (with_reducible exact LeO.none _)
      | (with_reducible refine LeO.ite ?_ ?_)
      | (with_reducible refine LeO.bind ?_ (fun _ => ?_))
      | exact fuzzy_Distance.mono _ _ _
      | exact LeO.none _
      | refine LeO.ite ?_ ?_
      | refine LeO.bind ?_ (fun _ => ?_)
set_option maxHeartbeats 8000000 in
set_option maxRecDepth 100000 in
theorem fuzzy_Within.calls (k : Nat) (A0 : Option Addr) (c0 : Nat) (l0 : List Int) (A1 : Option Addr) (c1 : Nat) (l1 : List Int) (a2 : Int) (r : Bool) (w : World) (hr0 : Kd.C (Kd.int .i64) w A0 l0.length l0) (hc0 : l0.length ≤ c0) (hr1 : Kd.C (Kd.int .i64) w A1 l1.length l1) (hc1 : l1.length ≤ c1) (h : fuzzy_Within.f k l0 l1 a2 = some r) :
    Calls Try.prog 50 #[.slice A0 l0.length c0, .slice A1 l1.length c1, .int .i64 a2] w fun e w' => e = .returned (.bool r) ∧ Below w.heap.size w w' := by
  have HR0 := Aside0.mk hr0
  have HC0 := Aside0.mk hc0
  clear hr0 hc0
  have HR1 := Aside0.mk hr1
  have HC1 := Aside0.mk hc1
  clear hr1 hc1
  have HB := Aside0.mk (Below.refl w.heap.size w)
  have H : ((fuzzy_Distance.f k l0 l1).bind fun t530 => (some (decide (t530 ≤ a2)))) = some r := h
  clear h
  replace H := Option.bind_eq_some_iff.mp H
  obtain ⟨t530, A40, H⟩ := H
  replace H : (some (decide (t530 ≤ a2))) = some r := H
  have A4 := Aside0.mk A40
  clear A40
  obtain rfl := Option.some.inj H
  go_enter Try.func50, Try.ntmps50
  go_wp2_with (first | ((with_reducible refine gate_callee (f := 49) rfl ?_); refine goesL_ (some 9) rfl rfl Try.func49 (by kernel_rfl) rfl #[.slice A0 l0.length c0, .slice A1 l1.length c1] rfl (by (try simp only [List.map_toArray, List.map_cons, List.map_nil]); first | done | rfl | (simp only [List.length_drop, List.length_take]; rfl)) ?_; (with_reducible refine (fuzzy_Distance.calls k _ _ l0 _ _ l1 t530 _ ?side1 ?side2 ?side3 ?side4 A4.out).mono ?_); (case side1 => repeat (first | exact HR0.out | (with_reducible refine Kd.C_alloc ?_ _) | (with_reducible refine Kd.C_drewN ?_ _) | (with_reducible refine Kd.C_drew ?_))); (case side2 => exact HC0.out); (case side3 => repeat (first | exact HR1.out | (with_reducible refine Kd.C_alloc ?_ _) | (with_reducible refine Kd.C_drewN ?_ _) | (with_reducible refine Kd.C_drew ?_))); (case side4 => exact HC1.out); rintro e w5 ⟨rfl, hb⟩; refine ⟨_, rfl, ?_⟩; have n0_ := Aside0.mk (below_step (by repeat (first | (with_reducible first | exact HB.out | apply below_alloc | apply pw_below_drewN | apply below_drew1) | exact HB.out)) hb); clear HB; have HB := n0_; clear n0_; (try clear hb); (try clear hb2); (try clear hk); (try clear hi)))
  go_ret
  exact ⟨by first | rfl | (simp [errW_none, errW_some] <;> rfl) | (simp [*, errW_none, errW_some] <;> rfl), by repeat (first | (with_reducible first | exact HB.out | apply below_alloc | apply pw_below_drewN | apply below_drew1) | exact HB.out)⟩






















/-! ### wordbookref16_SameHits: function 57 -/
def wordbookref16_SameHits.l0 : Nat → List (S86) → List (S86) → Int → Option (Bool)
  | 0, _, _, _ => none
  | k + 1, x0, x1, x5 => if x5 < (x0.length : Int) then (if 0 ≤ x5 then (if x5 < (x1.length : Int) then (if (!(((rd_T86 x0 x5).f0) == ((rd_T86 x1 x5).f0)) || (!(((rd_T86 x0 x5).f1) == ((rd_T86 x1 x5).f1)))) = true then (some false) else (wordbookref16_SameHits.l0 k x0 x1 (wrap64 (x5 + 1)))) else (none)) else (none)) else (some true)
def wordbookref16_SameHits.f (k : Nat) (l0 : List (S86)) (l1 : List (S86)) : Option (Bool) := if (l0.length : Int) = (l1.length : Int) then (wordbookref16_SameHits.l0 k l0 l1 0) else (some false)
theorem wordbookref16_SameHits.mono_l : ∀ k, (∀ y0 y1 y2, LeO (wordbookref16_SameHits.l0 k y0 y1 y2) (wordbookref16_SameHits.l0 (k + 1) y0 y1 y2))
  | 0 => fun _ _ _ r h => by simp [wordbookref16_SameHits.l0] at h
  | k + 1 => by
    have ih0 := wordbookref16_SameHits.mono_l k
    · intro y0 y1 y2
      unfold wordbookref16_SameHits.l0
      repeat' first
      | (with_reducible exact ih0 _ _ _)
      | (with_reducible exact LeO.refl _)
      | (with_reducible exact LeO.none _)
      | (with_reducible refine LeO.ite ?_ ?_)
      | (with_reducible refine LeO.bind ?_ (fun _ => ?_))
      | exact ih0 _ _ _
      | exact LeO.none _
      | refine LeO.ite ?_ ?_
      | refine LeO.bind ?_ (fun _ => ?_)
theorem wordbookref16_SameHits.mono : ∀ a0 a1 k, LeO (wordbookref16_SameHits.f k a0 a1) (wordbookref16_SameHits.f (k + 1) a0 a1) := by
  intro a0 a1 k
  have ih0 := wordbookref16_SameHits.mono_l k
  unfold wordbookref16_SameHits.f
  repeat' first
      | (with_reducible exact ih0 _ _ _)
      | (with_reducible exact LeO.refl _)
      | (with_reducible exact LeO.none _)
      | (with_reducible refine LeO.ite ?_ ?_)
      | (with_reducible refine LeO.bind ?_ (fun _ => ?_))
      | exact ih0 _ _ _
      | exact LeO.none _
      | refine LeO.ite ?_ ?_
      | refine LeO.bind ?_ (fun _ => ?_)
set_option maxHeartbeats 8000000 in
set_option maxRecDepth 100000 in
theorem wordbookref16_SameHits.calls (k : Nat) (A0 : Option Addr) (c0 : Nat) (l0 : List (S86)) (A1 : Option Addr) (c1 : Nat) (l1 : List (S86)) (r : Bool) (w : World) (hr0 : Kd.C k86 w A0 l0.length l0) (hc0 : l0.length ≤ c0) (hr1 : Kd.C k86 w A1 l1.length l1) (hc1 : l1.length ≤ c1) (h : wordbookref16_SameHits.f k l0 l1 = some r) :
    Calls Try.prog 57 #[.slice A0 l0.length c0, .slice A1 l1.length c1] w fun e w' => e = .returned (.bool r) ∧ Drawn0 w w' := by
  have hu86 := Try.underlying86
  have HR0 := Aside0.mk hr0
  have HC0 := Aside0.mk hc0
  clear hr0 hc0
  have HR1 := Aside0.mk hr1
  have HC1 := Aside0.mk hc1
  clear hr1 hc1
  have H : (if (l0.length : Int) = (l1.length : Int) then (wordbookref16_SameHits.l0 k l0 l1 0) else (some false)) = some r := h
  clear h
  by_cases c3 : (l0.length : Int) = (l1.length : Int)
  · rw [if_pos c3] at H
    have c3b0 : ((l0.length : Int) == (l1.length : Int)) = true := beq_iff_eq.mpr c3
    have c3b1 : ((l0.length : Int) != (l1.length : Int)) = false := bne_eq_false_iff_eq.mpr c3
    have c3b2 : (l0.length == l1.length) = true := by first | simpa using c3 | (simp at c3 ⊢; omega)
    clear c3
    have H' := Aside0.mk H
    clear H
    go_enter Try.func57, Try.ntmps57
    go_wp2
    repeat (go_quiet (fail); try go_wp2)
    go_loopg [5] k (fun kq v5 w' => ∃ (x5_1 : Int), v5 = .int .i64 x5_1 ∧ Aside0 (wordbookref16_SameHits.l0 kq l0 l1 x5_1 = some r) ∧ Aside0 (kq ≤ k) ∧ Drawn0 w w')
    case atStart => exact ⟨(0), (by first | rfl | (simp; done) | (simp [*]; done)), H', ⟨Nat.le_refl _⟩, by repeat (first | exact Drawn0.refl _ | apply Drawn0.step)⟩
    case round =>
      clear H'
      try clear c1
      try clear p2
      try clear c3
      try clear c3b0
      try clear c3b1
      try clear c3b2
      obtain ⟨x5_1, rfl, HA, HK1, ⟨m1, rfl⟩⟩ := hrel
      cases gk with
      | zero => exact absurd HA.out (by simp [wordbookref16_SameHits.l0])
      | succ k1 =>
        have H := HA.out
        clear HA
        simp only [wordbookref16_SameHits.l0] at H
        by_cases c4 : x5_1 < (l0.length : Int)
        · rw [if_pos c4] at H
          have c4b0 : decide (x5_1 < (l0.length : Int)) = true := decide_eq_true c4
          clear c4
          by_cases c5 : 0 ≤ x5_1
          · rw [if_pos c5] at H
            have c5b0 : decide (0 ≤ x5_1) = true := decide_eq_true c5
            clear c5
            by_cases c6 : x5_1 < (l1.length : Int)
            · rw [if_pos c6] at H
              have c6b0 : decide (x5_1 < (l1.length : Int)) = true := decide_eq_true c6
              clear c6
              by_cases c7 : (!(((rd_T86 l0 x5_1).f0) == ((rd_T86 l1 x5_1).f0)) || (!(((rd_T86 l0 x5_1).f1) == ((rd_T86 l1 x5_1).f1)))) = true
              · rw [if_pos c7] at H
                have c7b0 : (!(((rd_T86 l0 x5_1).f0) == ((rd_T86 l1 x5_1).f0)) || (!(((rd_T86 l0 x5_1).f1) == ((rd_T86 l1 x5_1).f1)))) = true := c7
                clear c7
                obtain rfl := Option.some.inj H
                have p531 : 0 ≤ (x5_1 : Int) := of_decide_eq_true (by first | (with_reducible assumption) | assumption)
                have q531 : x5_1 < (l0.length : Int) := of_decide_eq_true (by first | (with_reducible assumption) | assumption)
                obtain ⟨ad531, e531, hx531_0, hx531_1⟩ := at_T86 HR0.out x5_1 p531 q531
                cases e531
                replace p531 := eq_true p531
                replace q531 := eq_true q531
                have p532 : 0 ≤ (x5_1 : Int) := of_decide_eq_true (by first | (with_reducible assumption) | assumption)
                have q532 : x5_1 < (l1.length : Int) := of_decide_eq_true (by first | (with_reducible assumption) | assumption)
                obtain ⟨ad532, e532, hx532_0, hx532_1⟩ := at_T86 HR1.out x5_1 p532 q532
                cases e532
                replace p532 := eq_true p532
                replace q532 := eq_true q532
                go_wp2
                repeat (go_quiet (fail); try go_wp2)
                go_ret
                exact ⟨by first | rfl | (simp; done) | (simp [*]; done), by repeat (first | exact Drawn0.refl _ | apply Drawn0.step)⟩
              · rw [if_neg c7] at H
                have c7b0 : (!(((rd_T86 l0 x5_1).f0) == ((rd_T86 l1 x5_1).f0)) || (!(((rd_T86 l0 x5_1).f1) == ((rd_T86 l1 x5_1).f1)))) = false := by simpa using c7
                clear c7
                have H' := Aside0.mk H
                clear H
                have p531 : 0 ≤ (x5_1 : Int) := of_decide_eq_true (by first | (with_reducible assumption) | assumption)
                have q531 : x5_1 < (l0.length : Int) := of_decide_eq_true (by first | (with_reducible assumption) | assumption)
                obtain ⟨ad531, e531, hx531_0, hx531_1⟩ := at_T86 HR0.out x5_1 p531 q531
                cases e531
                replace p531 := eq_true p531
                replace q531 := eq_true q531
                have p532 : 0 ≤ (x5_1 : Int) := of_decide_eq_true (by first | (with_reducible assumption) | assumption)
                have q532 : x5_1 < (l1.length : Int) := of_decide_eq_true (by first | (with_reducible assumption) | assumption)
                obtain ⟨ad532, e532, hx532_0, hx532_1⟩ := at_T86 HR1.out x5_1 p532 q532
                cases e532
                replace p532 := eq_true p532
                replace q532 := eq_true q532
                go_wp2
                repeat (go_quiet (fail); try go_wp2)
                go_roundg k1
                case measure => have := HK1.out; omega
                case rel => exact ⟨(wrap64 (x5_1 + 1)), (by first | rfl | (simp; done) | (simp [*]; done)), H', ⟨by have := HK1.out; omega⟩, by repeat (first | exact Drawn0.refl _ | apply Drawn0.step)⟩
            · rw [if_neg c6] at H
              exact absurd H (by simp)
          · rw [if_neg c5] at H
            exact absurd H (by simp)
        · rw [if_neg c4] at H
          have c4b0 : decide (x5_1 < (l0.length : Int)) = false := decide_eq_false c4
          clear c4
          obtain rfl := Option.some.inj H
          go_wp2
          repeat (go_quiet (fail); try go_wp2)
          go_ret
          exact ⟨by first | rfl | (simp; done) | (simp [*]; done), by repeat (first | exact Drawn0.refl _ | apply Drawn0.step)⟩
  · rw [if_neg c3] at H
    have c3b0 : ((l0.length : Int) == (l1.length : Int)) = false := beq_eq_false_iff_ne.mpr c3
    have c3b1 : ((l0.length : Int) != (l1.length : Int)) = true := bne_iff_ne.mpr c3
    have c3b2 : (l0.length == l1.length) = false := by first | simpa using c3 | (simp at c3 ⊢; omega)
    obtain rfl := Option.some.inj H
    go_enter Try.func57, Try.ntmps57
    go_wp2
    repeat (go_quiet (fail); try go_wp2)
    go_ret
    exact ⟨by first | rfl | (simp; done) | (simp [*]; done), by repeat (first | exact Drawn0.refl _ | apply Drawn0.step)⟩



/-! ### wordbookref16_Compare: function 58 -/
mutual
def wordbookref16_Compare.l0 : Nat → List Int → List Int → Int → Option (Int)
  | 0, _, _, _ => none
  | k + 1, x0, x1, x5 => if x5 < (x0.length : Int) then (wordbookref16_Compare.j1 k x0 x1 x5 (decide (x5 < (x1.length : Int)))) else (wordbookref16_Compare.j1 k x0 x1 x5 false)
def wordbookref16_Compare.j1 : Nat → List Int → List Int → Int → Bool → Option (Int)
  | 0, _, _, _, _ => none
  | k + 1, x0, x1, x5, x15 => if x15 = true then (if 0 ≤ x5 then (if x5 < (x0.length : Int) then (if x5 < (x1.length : Int) then (if (rd x0 x5) < (rd x1 x5) then (some (-1)) else (if (rd x0 x5) > (rd x1 x5) then (some 1) else (wordbookref16_Compare.l0 k x0 x1 (wrap64 (x5 + 1))))) else (none)) else (none)) else (none)) else (if (x0.length : Int) < (x1.length : Int) then (some (-1)) else (if (x0.length : Int) > (x1.length : Int) then (some 1) else (some 0)))
end
def wordbookref16_Compare.f (k : Nat) (l0 : List Int) (l1 : List Int) : Option (Int) := wordbookref16_Compare.l0 k l0 l1 0
theorem wordbookref16_Compare.mono_l : ∀ k, (∀ y0 y1 y2, LeO (wordbookref16_Compare.l0 k y0 y1 y2) (wordbookref16_Compare.l0 (k + 1) y0 y1 y2)) ∧ (∀ y0 y1 y2 y3, LeO (wordbookref16_Compare.j1 k y0 y1 y2 y3) (wordbookref16_Compare.j1 (k + 1) y0 y1 y2 y3))
  | 0 => ⟨fun _ _ _ r h => by simp [wordbookref16_Compare.l0] at h, fun _ _ _ _ r h => by simp [wordbookref16_Compare.j1] at h⟩
  | k + 1 => by
    obtain ⟨ih0, ih1⟩ := wordbookref16_Compare.mono_l k
    refine ⟨?_, ?_⟩
    · intro y0 y1 y2
      unfold wordbookref16_Compare.l0
      repeat' first
      | (with_reducible exact ih0 _ _ _)
      | (with_reducible exact ih1 _ _ _ _)
      | (with_reducible exact LeO.refl _)
      | (with_reducible exact LeO.none _)
      | (with_reducible refine LeO.ite ?_ ?_)
      | (with_reducible refine LeO.bind ?_ (fun _ => ?_))
      | exact ih0 _ _ _
      | exact ih1 _ _ _ _
      | exact LeO.none _
      | refine LeO.ite ?_ ?_
      | refine LeO.bind ?_ (fun _ => ?_)
    · intro y0 y1 y2 y3
      unfold wordbookref16_Compare.j1
      repeat' first
      | (with_reducible exact ih0 _ _ _)
      | (with_reducible exact ih1 _ _ _ _)
      | (with_reducible exact LeO.refl _)
      | (with_reducible exact LeO.none _)
      | (with_reducible refine LeO.ite ?_ ?_)
      | (with_reducible refine LeO.bind ?_ (fun _ => ?_))
      | exact ih0 _ _ _
      | exact ih1 _ _ _ _
      | exact LeO.none _
      | refine LeO.ite ?_ ?_
      | refine LeO.bind ?_ (fun _ => ?_)
theorem wordbookref16_Compare.mono : ∀ a0 a1 k, LeO (wordbookref16_Compare.f k a0 a1) (wordbookref16_Compare.f (k + 1) a0 a1) := by
  intro a0 a1 k
  obtain ⟨ih0, ih1⟩ := wordbookref16_Compare.mono_l k
  unfold wordbookref16_Compare.f
  repeat' first
      | (with_reducible exact ih0 _ _ _)
      | (with_reducible exact ih1 _ _ _ _)
      | (with_reducible exact LeO.refl _)
      | (with_reducible exact LeO.none _)
      | (with_reducible refine LeO.ite ?_ ?_)
      | (with_reducible refine LeO.bind ?_ (fun _ => ?_))
      | exact ih0 _ _ _
      | exact ih1 _ _ _ _
      | exact LeO.none _
      | refine LeO.ite ?_ ?_
      | refine LeO.bind ?_ (fun _ => ?_)
set_option maxHeartbeats 8000000 in
set_option maxRecDepth 100000 in
theorem wordbookref16_Compare.calls (k : Nat) (A0 : Option Addr) (c0 : Nat) (l0 : List Int) (A1 : Option Addr) (c1 : Nat) (l1 : List Int) (r : Int) (w : World) (hr0 : Kd.C (Kd.int .i64) w A0 l0.length l0) (hc0 : l0.length ≤ c0) (hr1 : Kd.C (Kd.int .i64) w A1 l1.length l1) (hc1 : l1.length ≤ c1) (h : wordbookref16_Compare.f k l0 l1 = some r) :
    Calls Try.prog 58 #[.slice A0 l0.length c0, .slice A1 l1.length c1] w fun e w' => e = .returned (.int .i64 r) ∧ Drawn0 w w' := by
  have HR0 := Aside0.mk hr0
  have HC0 := Aside0.mk hc0
  clear hr0 hc0
  have HR1 := Aside0.mk hr1
  have HC1 := Aside0.mk hc1
  clear hr1 hc1
  have H : (wordbookref16_Compare.l0 k l0 l1 0) = some r := h
  clear h
  have H' := Aside0.mk H
  clear H
  go_enter Try.func58, Try.ntmps58
  go_wp2
  repeat (go_quiet (fail); try go_wp2)
  go_loopg [5] k (fun kq v5 w' => ∃ (x5_1 : Int), v5 = .int .i64 x5_1 ∧ Aside0 (wordbookref16_Compare.l0 kq l0 l1 x5_1 = some r) ∧ Aside0 (kq ≤ k) ∧ Drawn0 w w')
  case atStart => exact ⟨(0), (by first | rfl | (simp; done) | (simp [*]; done)), H', ⟨Nat.le_refl _⟩, by repeat (first | exact Drawn0.refl _ | apply Drawn0.step)⟩
  case round =>
    clear H'
    try clear c1
    try clear p2
    obtain ⟨x5_1, rfl, HA, HK1, ⟨m1, rfl⟩⟩ := hrel
    cases gk with
    | zero => exact absurd HA.out (by simp [wordbookref16_Compare.l0])
    | succ k1 =>
      have H := HA.out
      clear HA
      simp only [wordbookref16_Compare.l0] at H
      have HC3 := Aside0.mk H
      clear H
      go_upto_region 2 with (fail)
      repeat (go_quiet (fail); go_upto_region 2 with (fail))
      go_cut [15] (fun v15 wc => ∃ (kq : Nat) (x15_2 : Bool), v15 = .bool x15_2 ∧ Aside0 (wordbookref16_Compare.j1 kq l0 l1 x5_1 x15_2 = some r) ∧ Aside0 (kq ≤ k1) ∧ Drawn0 w wc)
      case first =>
        have H := HC3.out
        clear HC3
        by_cases c4 : x5_1 < (l0.length : Int)
        · rw [if_pos c4] at H
          have c4b0 : decide (x5_1 < (l0.length : Int)) = true := decide_eq_true c4
          clear c4
          (first | rw [c4b0] | (simp only [i64_w, i32_w]; rw [c4b0]) | skip)
          have H' := Aside0.mk H
          clear H
          go_wp2
          repeat (go_quiet (fail); try go_wp2)
          go_meet
          case rel => exact ⟨_, (decide (x5_1 < (l1.length : Int))), (by first | rfl | (simp; done) | (simp [*]; done)), H', ⟨by have := HK1.out; first | omega | exact Nat.le_refl _⟩, by repeat (first | exact Drawn0.refl _ | apply Drawn0.step)⟩
        · rw [if_neg c4] at H
          have c4b0 : decide (x5_1 < (l0.length : Int)) = false := decide_eq_false c4
          clear c4
          (first | rw [c4b0] | (simp only [i64_w, i32_w]; rw [c4b0]) | skip)
          have H' := Aside0.mk H
          clear H
          go_wp2
          repeat (go_quiet (fail); try go_wp2)
          go_meet
          case rel => exact ⟨_, (false), (by first | rfl | (simp; done) | (simp [*]; done)), H', ⟨by have := HK1.out; first | omega | exact Nat.le_refl _⟩, by repeat (first | exact Drawn0.refl _ | apply Drawn0.step)⟩
      case rest =>
        clear HC3
        try clear c1
        try clear p2
        try clear c4
        try clear c4b0
        try clear p2
        obtain ⟨kq, x15_2, rfl, HA, HJ2, ⟨mc2, rfl⟩⟩ := hcut
        cases kq with
        | zero => exact absurd HA.out (by simp [wordbookref16_Compare.j1])
        | succ kj2 =>
          have H := HA.out
          clear HA
          simp only [wordbookref16_Compare.j1] at H
          by_cases c5 : x15_2 = true
          · subst c5
            have H1 : (if 0 ≤ x5_1 then (if x5_1 < (l0.length : Int) then (if x5_1 < (l1.length : Int) then (if (rd l0 x5_1) < (rd l1 x5_1) then (some (-1)) else (if (rd l0 x5_1) > (rd l1 x5_1) then (some 1) else (wordbookref16_Compare.l0 kj2 l0 l1 (wrap64 (x5_1 + 1))))) else (none)) else (none)) else (none)) = some r := by rw [if_pos rfl] at H; exact H
            clear H
            have H := H1
            clear H1
            by_cases c6 : 0 ≤ x5_1
            · rw [if_pos c6] at H
              have c6b0 : decide (0 ≤ x5_1) = true := decide_eq_true c6
              clear c6
              by_cases c7 : x5_1 < (l0.length : Int)
              · rw [if_pos c7] at H
                have c7b0 : decide (x5_1 < (l0.length : Int)) = true := decide_eq_true c7
                clear c7
                by_cases c8 : x5_1 < (l1.length : Int)
                · rw [if_pos c8] at H
                  have c8b0 : decide (x5_1 < (l1.length : Int)) = true := decide_eq_true c8
                  clear c8
                  by_cases c9 : (rd l0 x5_1) < (rd l1 x5_1)
                  · rw [if_pos c9] at H
                    have c9b0 : decide ((rd l0 x5_1) < (rd l1 x5_1)) = true := decide_eq_true c9
                    clear c9
                    obtain rfl := Option.some.inj H
                    have p575 : 0 ≤ (x5_1 : Int) := of_decide_eq_true (by first | (with_reducible assumption) | assumption)
                    have q575 : x5_1 < (l0.length : Int) := of_decide_eq_true (by first | (with_reducible assumption) | assumption)
                    obtain ⟨ad575, e575, hx575_0⟩ := Kd.at_int HR0.out x5_1 p575 q575
                    cases e575
                    replace p575 := eq_true p575
                    replace q575 := eq_true q575
                    have p576 : 0 ≤ (x5_1 : Int) := of_decide_eq_true (by first | (with_reducible assumption) | assumption)
                    have q576 : x5_1 < (l1.length : Int) := of_decide_eq_true (by first | (with_reducible assumption) | assumption)
                    obtain ⟨ad576, e576, hx576_0⟩ := Kd.at_int HR1.out x5_1 p576 q576
                    cases e576
                    replace p576 := eq_true p576
                    replace q576 := eq_true q576
                    go_wp2
                    repeat (go_quiet (fail); try go_wp2)
                    go_ret
                    exact ⟨by first | rfl | (simp; done) | (simp [*]; done), by repeat (first | exact Drawn0.refl _ | apply Drawn0.step)⟩
                  · rw [if_neg c9] at H
                    have c9b0 : decide ((rd l0 x5_1) < (rd l1 x5_1)) = false := decide_eq_false c9
                    clear c9
                    by_cases c10 : (rd l0 x5_1) > (rd l1 x5_1)
                    · rw [if_pos c10] at H
                      have c10b0 : decide ((rd l1 x5_1) < (rd l0 x5_1)) = true := decide_eq_true c10
                      clear c10
                      obtain rfl := Option.some.inj H
                      have p575 : 0 ≤ (x5_1 : Int) := of_decide_eq_true (by first | (with_reducible assumption) | assumption)
                      have q575 : x5_1 < (l0.length : Int) := of_decide_eq_true (by first | (with_reducible assumption) | assumption)
                      obtain ⟨ad575, e575, hx575_0⟩ := Kd.at_int HR0.out x5_1 p575 q575
                      cases e575
                      replace p575 := eq_true p575
                      replace q575 := eq_true q575
                      have p576 : 0 ≤ (x5_1 : Int) := of_decide_eq_true (by first | (with_reducible assumption) | assumption)
                      have q576 : x5_1 < (l1.length : Int) := of_decide_eq_true (by first | (with_reducible assumption) | assumption)
                      obtain ⟨ad576, e576, hx576_0⟩ := Kd.at_int HR1.out x5_1 p576 q576
                      cases e576
                      replace p576 := eq_true p576
                      replace q576 := eq_true q576
                      have p577 : 0 ≤ (x5_1 : Int) := of_decide_eq_true (by first | (with_reducible assumption) | assumption)
                      have q577 : x5_1 < (l0.length : Int) := of_decide_eq_true (by first | (with_reducible assumption) | assumption)
                      obtain ⟨ad577, e577, hx577_0⟩ := Kd.at_int HR0.out x5_1 p577 q577
                      obtain rfl : ad575 = ad577 := (by injection e577)
                      replace p577 := eq_true p577
                      replace q577 := eq_true q577
                      have p578 : 0 ≤ (x5_1 : Int) := of_decide_eq_true (by first | (with_reducible assumption) | assumption)
                      have q578 : x5_1 < (l1.length : Int) := of_decide_eq_true (by first | (with_reducible assumption) | assumption)
                      obtain ⟨ad578, e578, hx578_0⟩ := Kd.at_int HR1.out x5_1 p578 q578
                      obtain rfl : ad576 = ad578 := (by injection e578)
                      replace p578 := eq_true p578
                      replace q578 := eq_true q578
                      go_wp2
                      repeat (go_quiet (fail); try go_wp2)
                      go_ret
                      exact ⟨by first | rfl | (simp; done) | (simp [*]; done), by repeat (first | exact Drawn0.refl _ | apply Drawn0.step)⟩
                    · rw [if_neg c10] at H
                      have c10b0 : decide ((rd l1 x5_1) < (rd l0 x5_1)) = false := decide_eq_false c10
                      clear c10
                      have H' := Aside0.mk H
                      clear H
                      have p575 : 0 ≤ (x5_1 : Int) := of_decide_eq_true (by first | (with_reducible assumption) | assumption)
                      have q575 : x5_1 < (l0.length : Int) := of_decide_eq_true (by first | (with_reducible assumption) | assumption)
                      obtain ⟨ad575, e575, hx575_0⟩ := Kd.at_int HR0.out x5_1 p575 q575
                      cases e575
                      replace p575 := eq_true p575
                      replace q575 := eq_true q575
                      have p576 : 0 ≤ (x5_1 : Int) := of_decide_eq_true (by first | (with_reducible assumption) | assumption)
                      have q576 : x5_1 < (l1.length : Int) := of_decide_eq_true (by first | (with_reducible assumption) | assumption)
                      obtain ⟨ad576, e576, hx576_0⟩ := Kd.at_int HR1.out x5_1 p576 q576
                      cases e576
                      replace p576 := eq_true p576
                      replace q576 := eq_true q576
                      have p577 : 0 ≤ (x5_1 : Int) := of_decide_eq_true (by first | (with_reducible assumption) | assumption)
                      have q577 : x5_1 < (l0.length : Int) := of_decide_eq_true (by first | (with_reducible assumption) | assumption)
                      obtain ⟨ad577, e577, hx577_0⟩ := Kd.at_int HR0.out x5_1 p577 q577
                      obtain rfl : ad575 = ad577 := (by injection e577)
                      replace p577 := eq_true p577
                      replace q577 := eq_true q577
                      have p578 : 0 ≤ (x5_1 : Int) := of_decide_eq_true (by first | (with_reducible assumption) | assumption)
                      have q578 : x5_1 < (l1.length : Int) := of_decide_eq_true (by first | (with_reducible assumption) | assumption)
                      obtain ⟨ad578, e578, hx578_0⟩ := Kd.at_int HR1.out x5_1 p578 q578
                      obtain rfl : ad576 = ad578 := (by injection e578)
                      replace p578 := eq_true p578
                      replace q578 := eq_true q578
                      go_wp2
                      repeat (go_quiet (fail); try go_wp2)
                      go_roundg kj2
                      case measure => have := HK1.out; have := HJ2.out; omega
                      case rel => exact ⟨(wrap64 (x5_1 + 1)), (by first | rfl | (simp; done) | (simp [*]; done)), H', ⟨by have := HK1.out; have := HJ2.out; omega⟩, by repeat (first | exact Drawn0.refl _ | apply Drawn0.step)⟩
                · rw [if_neg c8] at H
                  exact absurd H (by simp)
              · rw [if_neg c7] at H
                exact absurd H (by simp)
            · rw [if_neg c6] at H
              exact absurd H (by simp)
          · replace c5 := Bool.eq_false_iff.mpr c5
            subst c5
            have H1 : (if (l0.length : Int) < (l1.length : Int) then (some (-1)) else (if (l0.length : Int) > (l1.length : Int) then (some 1) else (some 0))) = some r := by rw [if_neg (show ¬ (false = true) by decide)] at H; exact H
            clear H
            have H := H1
            clear H1
            by_cases c11 : (l0.length : Int) < (l1.length : Int)
            · rw [if_pos c11] at H
              have c11b0 : decide ((l0.length : Int) < (l1.length : Int)) = true := decide_eq_true c11
              have c11b1 : decide (l0.length < l1.length) = true := decide_eq_true (Int.ofNat_lt.mp c11)
              clear c11
              obtain rfl := Option.some.inj H
              go_wp2
              repeat (go_quiet (fail); try go_wp2)
              go_ret
              exact ⟨by first | rfl | (simp; done) | (simp [*]; done), by repeat (first | exact Drawn0.refl _ | apply Drawn0.step)⟩
            · rw [if_neg c11] at H
              have c11b0 : decide ((l0.length : Int) < (l1.length : Int)) = false := decide_eq_false c11
              have c11b1 : decide (l0.length < l1.length) = false := decide_eq_false (fun h => c11 (Int.ofNat_lt.mpr h))
              clear c11
              by_cases c12 : (l0.length : Int) > (l1.length : Int)
              · rw [if_pos c12] at H
                have c12b0 : decide ((l1.length : Int) < (l0.length : Int)) = true := decide_eq_true c12
                have c12b1 : decide (l1.length < l0.length) = true := decide_eq_true (Int.ofNat_lt.mp c12)
                clear c12
                obtain rfl := Option.some.inj H
                go_wp2
                repeat (go_quiet (fail); try go_wp2)
                go_ret
                exact ⟨by first | rfl | (simp; done) | (simp [*]; done), by repeat (first | exact Drawn0.refl _ | apply Drawn0.step)⟩
              · rw [if_neg c12] at H
                have c12b0 : decide ((l1.length : Int) < (l0.length : Int)) = false := decide_eq_false c12
                have c12b1 : decide (l1.length < l0.length) = false := decide_eq_false (fun h => c12 (Int.ofNat_lt.mpr h))
                clear c12
                obtain rfl := Option.some.inj H
                go_wp2
                repeat (go_quiet (fail); try go_wp2)
                go_ret
                exact ⟨by first | rfl | (simp; done) | (simp [*]; done), by repeat (first | exact Drawn0.refl _ | apply Drawn0.step)⟩



end Go.Proofs.Ytcdjeimjbbknjaa.PAll
namespace Go.Proofs.Ytcdjeimjbbknjaa.PAll
open Go.RowKit Go.Proofs.YtcdjeimjbbknjaaW.PrintWords Go.Proofs.YtcdjeimjbbknjaaW.PrintLast Go.Proofs.YtcdjeimjbbknjaaW.PrintMore Go.Proofs.Ytcdjeimjbbknjaa.Lev
set_option linter.unusedVariables false
set_option linter.unusedSimpArgs false

def liveW : List (List Int) := [[1], [1, 2, 3], [1, 3], [2]]
def liveG : List Nd := [⟨false, [1, 2], [1, 2], 4⟩, ⟨true, [2, 3], [3, 2], 3⟩, ⟨true, [], [], 1⟩, ⟨false, [3], [2], 1⟩]
theorem live_good : Good liveW := by
  refine ⟨?_, ?_, ?_, ?_, ?_⟩ <;> decide
theorem live_graph : graphOf liveW = liveG := by kernel_rfl
instance (xs : List Int) : Decidable (Inc xs) := by unfold Inc; infer_instance
theorem live_ok : GOk liveG := by
  refine ⟨?_, ?_, ?_, ?_, ?_⟩ <;> decide
instance deepDec (ns : List Nd) : ∀ (f : Nat) (s : Int), Decidable (Deep ns f s)
  | 0, _ => .isFalse id
  | f + 1, s => by
    unfold Deep
    have := fun x => deepDec ns f (stepN ns s x)
    infer_instance
theorem live_deep : Deep liveG 5 0 := of_decide_eq_true (by kernel_rfl)
theorem live_search1 : searchN liveG [1, 2] 1 5 = [(0, 1), (1, 1), (2, 1), (3, 1)] := by kernel_rfl
theorem live_search2 : bestN (searchN liveG [2] 2 5) = [(3, 0)] := by kernel_rfl

/-! ### Literals -/
theorem C_block {α : Type} {d : Kd α} {W : World} {b : Nat} {cs : List Value} {e : Nat} {xs : List α} (h : W.heap[b]? = some (.cells cs.toArray e (0, 0))) (hr : Reps (d.K W) d.sz xs cs) (hn : xs.length ≤ 9223372036854775807) : d.C W (some ⟨b, 0, none⟩) xs.length xs := by
  refine ⟨rfl, hn, fun _ => ⟨_, rfl, fun j p hp => ⟨(cs.drop (j * d.sz)).take d.sz, ?_, hr.2 j p hp, fun i u hu => ?_⟩⟩⟩
  · obtain ⟨hj, _⟩ := List.getElem?_eq_some_iff.1 hp
    have h1 := hr.1
    rw [List.length_take, List.length_drop, h1]
    have := Nat.mul_le_mul_right d.sz (show j + 1 ≤ xs.length from hj)
    rw [Nat.add_mul, Nat.one_mul] at this
    omega
  · rw [add_at, Nat.zero_add, blk_cell h]
    have hi : i < d.sz := by
      have := (List.getElem?_eq_some_iff.1 hu).1
      rw [List.length_take] at this
      omega
    rw [List.getElem?_take_of_lt hi, List.getElem?_drop] at hu
    simpa using hu
theorem C_ints {W : World} {b : Nat} {xs : List Int} (h : W.heap[b]? = some (.cells (encs (Value.int .i64) xs).toArray 3 (0, 0))) (hn : xs.length ≤ 9223372036854775807) : Kd.C (Kd.int .i64) W (some ⟨b, 0, none⟩) xs.length xs := C_block h (Kd.reps_scalar xs) hn

theorem live_build (w : World) : Calls Try.prog 19 #[.slice (some ⟨w.heap.size + 1 + 1 + 1 + 1, 0, none⟩) 4 4]
    (((((w.alloc (.cells #[.int .i64 1] 3)).alloc (.cells #[.int .i64 1, .int .i64 2, .int .i64 3] 3)).alloc (.cells #[.int .i64 1, .int .i64 3] 3)).alloc (.cells #[.int .i64 2] 3)).alloc (.cells #[.slice (some ⟨w.heap.size, 0, none⟩) 1 1, .slice (some ⟨w.heap.size + 1, 0, none⟩) 3 3, .slice (some ⟨w.heap.size + 1 + 1, 0, none⟩) 2 2, .slice (some ⟨w.heap.size + 1 + 1 + 1, 0, none⟩) 1 1] 22))
    fun e w' => ∃ g, e = .returned (.tuple #[.pointer (some ⟨g, 0, none⟩), .int .i64 0]) ∧ GraphAt w' g liveG ∧ Below w.heap.size w w' := by
  have s1 : (w.alloc (.cells #[.int .i64 1] 3)).heap.size = w.heap.size + 1 := by simp
  have s2 : ((w.alloc (.cells #[.int .i64 1] 3)).alloc (.cells #[.int .i64 1, .int .i64 2, .int .i64 3] 3)).heap.size = w.heap.size + 1 + 1 := by simp
  have s3 : (((w.alloc (.cells #[.int .i64 1] 3)).alloc (.cells #[.int .i64 1, .int .i64 2, .int .i64 3] 3)).alloc (.cells #[.int .i64 1, .int .i64 3] 3)).heap.size = w.heap.size + 1 + 1 + 1 := by simp
  have s4 : ((((w.alloc (.cells #[.int .i64 1] 3)).alloc (.cells #[.int .i64 1, .int .i64 2, .int .i64 3] 3)).alloc (.cells #[.int .i64 1, .int .i64 3] 3)).alloc (.cells #[.int .i64 2] 3)).heap.size = w.heap.size + 1 + 1 + 1 + 1 := by simp
  have b0 : ((((w.alloc (.cells #[.int .i64 1] 3)).alloc (.cells #[.int .i64 1, .int .i64 2, .int .i64 3] 3)).alloc (.cells #[.int .i64 1, .int .i64 3] 3)).alloc (.cells #[.int .i64 2] 3)).heap[w.heap.size]? = some (.cells #[.int .i64 1] 3 (0, 0)) := blk_alloc (blk_alloc (blk_alloc (blk_new _ _) _) _) _
  have b1 : ((((w.alloc (.cells #[.int .i64 1] 3)).alloc (.cells #[.int .i64 1, .int .i64 2, .int .i64 3] 3)).alloc (.cells #[.int .i64 1, .int .i64 3] 3)).alloc (.cells #[.int .i64 2] 3)).heap[w.heap.size + 1]? = some (.cells #[.int .i64 1, .int .i64 2, .int .i64 3] 3 (0, 0)) := by rw [← s1]; exact blk_alloc (blk_alloc (blk_new _ _) _) _
  have b2 : ((((w.alloc (.cells #[.int .i64 1] 3)).alloc (.cells #[.int .i64 1, .int .i64 2, .int .i64 3] 3)).alloc (.cells #[.int .i64 1, .int .i64 3] 3)).alloc (.cells #[.int .i64 2] 3)).heap[w.heap.size + 1 + 1]? = some (.cells #[.int .i64 1, .int .i64 3] 3 (0, 0)) := by rw [← s2]; exact blk_alloc (blk_new _ _) _
  have b3 : ((((w.alloc (.cells #[.int .i64 1] 3)).alloc (.cells #[.int .i64 1, .int .i64 2, .int .i64 3] 3)).alloc (.cells #[.int .i64 1, .int .i64 3] 3)).alloc (.cells #[.int .i64 2] 3)).heap[w.heap.size + 1 + 1 + 1]? = some (.cells #[.int .i64 2] 3 (0, 0)) := by rw [← s3]; exact blk_new _ _
  have hB : Below w.heap.size w ((((w.alloc (.cells #[.int .i64 1] 3)).alloc (.cells #[.int .i64 1, .int .i64 2, .int .i64 3] 3)).alloc (.cells #[.int .i64 1, .int .i64 3] 3)).alloc (.cells #[.int .i64 2] 3)) := below_alloc (below_alloc (below_alloc (below_alloc (Below.refl _ w) _) _ |>.mono (by simp)) _ |>.mono (by simp)) _ |>.mono (by simp)
  generalize (((w.alloc (.cells #[.int .i64 1] 3)).alloc (.cells #[.int .i64 1, .int .i64 2, .int .i64 3] 3)).alloc (.cells #[.int .i64 1, .int .i64 3] 3)).alloc (.cells #[.int .i64 2] 3) = W4 at *
  rw [← s4]
  have c0 : Kd.C (Kd.int .i64) (W4.alloc (.cells #[.slice (some ⟨w.heap.size, 0, none⟩) 1 1, .slice (some ⟨w.heap.size + 1, 0, none⟩) 3 3, .slice (some ⟨w.heap.size + 1 + 1, 0, none⟩) 2 2, .slice (some ⟨w.heap.size + 1 + 1 + 1, 0, none⟩) 1 1] 22)) (some ⟨w.heap.size, 0, none⟩) 1 [1] := C_ints (xs := [1]) (blk_alloc b0 _) (by decide)
  have c1 : Kd.C (Kd.int .i64) (W4.alloc (.cells #[.slice (some ⟨w.heap.size, 0, none⟩) 1 1, .slice (some ⟨w.heap.size + 1, 0, none⟩) 3 3, .slice (some ⟨w.heap.size + 1 + 1, 0, none⟩) 2 2, .slice (some ⟨w.heap.size + 1 + 1 + 1, 0, none⟩) 1 1] 22)) (some ⟨w.heap.size + 1, 0, none⟩) 3 [1, 2, 3] := C_ints (xs := [1, 2, 3]) (blk_alloc b1 _) (by decide)
  have c2 : Kd.C (Kd.int .i64) (W4.alloc (.cells #[.slice (some ⟨w.heap.size, 0, none⟩) 1 1, .slice (some ⟨w.heap.size + 1, 0, none⟩) 3 3, .slice (some ⟨w.heap.size + 1 + 1, 0, none⟩) 2 2, .slice (some ⟨w.heap.size + 1 + 1 + 1, 0, none⟩) 1 1] 22)) (some ⟨w.heap.size + 1 + 1, 0, none⟩) 2 [1, 3] := C_ints (xs := [1, 3]) (blk_alloc b2 _) (by decide)
  have c3 : Kd.C (Kd.int .i64) (W4.alloc (.cells #[.slice (some ⟨w.heap.size, 0, none⟩) 1 1, .slice (some ⟨w.heap.size + 1, 0, none⟩) 3 3, .slice (some ⟨w.heap.size + 1 + 1, 0, none⟩) 2 2, .slice (some ⟨w.heap.size + 1 + 1 + 1, 0, none⟩) 1 1] 22)) (some ⟨w.heap.size + 1 + 1 + 1, 0, none⟩) 1 [2] := C_ints (xs := [2]) (blk_alloc b3 _) (by decide)
  have bb := blk_new W4 (.cells #[.slice (some ⟨w.heap.size, 0, none⟩) 1 1, .slice (some ⟨w.heap.size + 1, 0, none⟩) 3 3, .slice (some ⟨w.heap.size + 1 + 1, 0, none⟩) 2 2, .slice (some ⟨w.heap.size + 1 + 1 + 1, 0, none⟩) 1 1] 22)
  have hB2 : Below w.heap.size w (W4.alloc (.cells #[.slice (some ⟨w.heap.size, 0, none⟩) 1 1, .slice (some ⟨w.heap.size + 1, 0, none⟩) 3 3, .slice (some ⟨w.heap.size + 1 + 1, 0, none⟩) 2 2, .slice (some ⟨w.heap.size + 1 + 1 + 1, 0, none⟩) 1 1] 22)) := below_alloc hB _
  generalize W4.alloc (.cells #[.slice (some ⟨w.heap.size, 0, none⟩) 1 1, .slice (some ⟨w.heap.size + 1, 0, none⟩) 3 3, .slice (some ⟨w.heap.size + 1 + 1, 0, none⟩) 2 2, .slice (some ⟨w.heap.size + 1 + 1 + 1, 0, none⟩) 1 1] 22) = W5 at *
  have hr : Reps ((Kd.slice 3 (Kd.int .i64)).K W5) 1 liveW [.slice (some ⟨w.heap.size, 0, none⟩) 1 1, .slice (some ⟨w.heap.size + 1, 0, none⟩) 3 3, .slice (some ⟨w.heap.size + 1 + 1, 0, none⟩) 2 2, .slice (some ⟨w.heap.size + 1 + 1 + 1, 0, none⟩) 1 1] :=
    ((((Reps.none _ _).snoc (p := [1]) (c := [.slice (some ⟨w.heap.size, 0, none⟩) 1 1]) ⟨_, _, rfl, Nat.le_refl _, c0⟩ rfl).snoc (p := [1, 2, 3]) (c := [.slice (some ⟨w.heap.size + 1, 0, none⟩) 3 3]) ⟨_, _, rfl, Nat.le_refl _, c1⟩ rfl).snoc (p := [1, 3]) (c := [.slice (some ⟨w.heap.size + 1 + 1, 0, none⟩) 2 2]) ⟨_, _, rfl, Nat.le_refl _, c2⟩ rfl).snoc (p := [2]) (c := [.slice (some ⟨w.heap.size + 1 + 1 + 1, 0, none⟩) 1 1]) ⟨_, _, rfl, Nat.le_refl _, c3⟩ rfl
  have hC : Kd.C (Kd.slice 3 (Kd.int .i64)) W5 (some ⟨W4.heap.size, 0, none⟩) liveW.length liveW := C_block bb hr (by decide)
  refine (build_good _ 4 liveW W5 hC (by decide) live_good).mono ?_
  rintro e w' ⟨g, rfl, hg, hb, _⟩
  rw [live_graph] at hg
  exact ⟨g, rfl, hg, hB2.trans (hb.mono hB2.size)⟩
theorem pair_lits (W : World) (a b : List Int) (ha : a.length ≤ 1000) (hb : b.length ≤ 1000) :
    Kd.C (Kd.int .i64) ((W.alloc (.cells (encs (Value.int .i64) a).toArray 3)).alloc (.cells (encs (Value.int .i64) b).toArray 3)) (some ⟨W.heap.size, 0, none⟩) a.length a ∧
    Kd.C (Kd.int .i64) ((W.alloc (.cells (encs (Value.int .i64) a).toArray 3)).alloc (.cells (encs (Value.int .i64) b).toArray 3)) (some ⟨W.heap.size + 1, 0, none⟩) b.length b ∧
    Below W.heap.size W ((W.alloc (.cells (encs (Value.int .i64) a).toArray 3)).alloc (.cells (encs (Value.int .i64) b).toArray 3)) := by
  have s1 : (W.alloc (.cells (encs (Value.int .i64) a).toArray 3)).heap.size = W.heap.size + 1 := by simp
  exact ⟨C_ints (blk_alloc (blk_new _ _) _) (by omega), C_ints (by rw [← s1]; exact blk_new _ _) (by omega), below_alloc (below_alloc (Below.refl _ W) _ ) _ |>.mono (by simp)⟩
theorem live_dist (W : World) (a b : List Int) (d : Int) (ha : a.length ≤ 1000) (hb : b.length ≤ 1000) (h : fuzzy_Distance.f 20 a b = some d) :
    Calls Try.prog 49 #[.slice (some ⟨W.heap.size, 0, none⟩) a.length a.length, .slice (some ⟨W.heap.size + 1, 0, none⟩) b.length b.length] ((W.alloc (.cells (encs (Value.int .i64) a).toArray 3)).alloc (.cells (encs (Value.int .i64) b).toArray 3)) fun e w' => e = .returned (.int .i64 d) ∧ Below W.heap.size W w' := by
  obtain ⟨h1, h2, h3⟩ := pair_lits W a b ha hb
  exact (fuzzy_Distance.calls 20 _ _ a _ _ b d _ h1 (Nat.le_refl _) h2 (Nat.le_refl _) h).mono fun e w' hh => ⟨hh.1, h3.trans (hh.2.mono h3.size)⟩
theorem live_dist0 (W : World) (a : List Int) (d : Int) (ha : a.length ≤ 1000) (h : fuzzy_Distance.f 20 a [] = some d) :
    Calls Try.prog 49 #[.slice (some ⟨W.heap.size, 0, none⟩) a.length a.length, .slice none 0 0] (W.alloc (.cells (encs (Value.int .i64) a).toArray 3)) fun e w' => e = .returned (.int .i64 d) ∧ Below W.heap.size W w' := by
  have hb := below_alloc (Below.refl W.heap.size W) (.cells (encs (Value.int .i64) a).toArray 3)
  exact (fuzzy_Distance.calls 20 _ _ a _ _ [] d _ (C_ints (blk_new _ _) (by omega)) (Nat.le_refl _) (Kd.C_nil _ _) (Nat.le_refl _) h).mono fun e w' hh => ⟨hh.1, hb.trans (hh.2.mono hb.size)⟩
theorem live_within (W : World) (a b : List Int) (k : Int) (r : Bool) (ha : a.length ≤ 1000) (hb : b.length ≤ 1000) (h : fuzzy_Within.f 20 a b k = some r) :
    Calls Try.prog 50 #[.slice (some ⟨W.heap.size, 0, none⟩) a.length a.length, .slice (some ⟨W.heap.size + 1, 0, none⟩) b.length b.length, .int .i64 k] ((W.alloc (.cells (encs (Value.int .i64) a).toArray 3)).alloc (.cells (encs (Value.int .i64) b).toArray 3)) fun e w' => e = .returned (.bool r) ∧ Below W.heap.size W w' := by
  obtain ⟨h1, h2, h3⟩ := pair_lits W a b ha hb
  exact (fuzzy_Within.calls 20 _ _ a _ _ b k r _ h1 (Nat.le_refl _) h2 (Nat.le_refl _) h).mono fun e w' hh => ⟨hh.1, h3.trans (hh.2.mono h3.size)⟩
def hitsA : List S86 := [⟨0, 1⟩, ⟨1, 1⟩, ⟨2, 1⟩, ⟨3, 1⟩]
def hitsB : List S86 := [⟨3, 0⟩]
theorem live_s1 (W : World) (g : Nat) (hg : GraphAt W g liveG) :
    Calls Try.prog 53 #[.pointer (some ⟨g, 0, none⟩), .slice (some ⟨W.heap.size, 0, none⟩) 2 2, .int .i64 1] (W.alloc (.cells #[.int .i64 1, .int .i64 2] 3))
      fun e w' => ∃ A c, e = .returned (.tuple #[.slice A 4 c, .int .i64 0]) ∧ 4 ≤ c ∧ Kd.C k86 w' A 4 hitsA ∧ Below W.heap.size W w' := by
  have hb := below_alloc (Below.refl W.heap.size W) (.cells #[.int .i64 1, .int .i64 2] 3)
  refine (search_good g liveG _ 2 [1, 2] 1 _ 5 (hg.below hb) live_ok (C_ints (xs := [1, 2]) (blk_new _ _) (by decide)) (by decide) (by decide) (by decide) (by decide) live_deep (by decide) (by rw [live_search1]; decide)).mono ?_
  rintro e w' ⟨v, rfl, hR, hb2⟩
  rw [live_search1] at hR
  obtain ⟨A, c, rfl, hl, hC⟩ := Kd.R_reads hR
  exact ⟨A, c, rfl, hl, hC, hb.trans (hb2.mono hb.size)⟩
theorem live_b1 (W : World) (g : Nat) (hg : GraphAt W g liveG) :
    Calls Try.prog 55 #[.pointer (some ⟨g, 0, none⟩), .slice (some ⟨W.heap.size, 0, none⟩) 1 1, .int .i64 2] (W.alloc (.cells #[.int .i64 2] 3))
      fun e w' => ∃ A c, e = .returned (.tuple #[.slice A 1 c, .int .i64 0]) ∧ 1 ≤ c ∧ Kd.C k86 w' A 1 hitsB ∧ Below W.heap.size W w' := by
  have hb := below_alloc (Below.refl W.heap.size W) (.cells #[.int .i64 2] 3)
  refine (best_any _ _ 1 1 2 0 _ (searchN liveG [2] 2 5) (search_good g liveG _ 1 [2] 2 _ 5 (hg.below hb) live_ok (C_ints (xs := [2]) (blk_new _ _) (by decide)) (by decide) (by decide) (by decide) (by decide) live_deep (by decide) (of_decide_eq_true (by kernel_rfl)))).mono ?_
  rintro e w' ⟨v, rfl, hR, hb2⟩
  rw [live_search2] at hR
  obtain ⟨A, c, rfl, hl, hC⟩ := Kd.R_reads hR
  exact ⟨A, c, rfl, hl, hC, hb.trans (hb2.mono hb.size)⟩
theorem live_s2 (W : World) (g : Nat) : Calls Try.prog 53 #[.pointer (some ⟨g, 0, none⟩), .slice none 0 0, .int .i64 4] W fun e w' => e = .returned (.tuple #[.slice none 0 0, .int .i64 1]) ∧ Below W.heap.size W w' := search_bad g none 0 0 4 W (by decide)
theorem live_s3 (W : World) (g : Nat) (A : Option Addr) (c : Nat) : Calls Try.prog 53 #[.pointer (some ⟨g, 0, none⟩), .slice A 65 c, .int .i64 3] W fun e w' => e = .returned (.tuple #[.slice none 0 0, .int .i64 4]) ∧ Below W.heap.size W w' := search_long g A c 65 3 W (by decide) (by decide) (by decide) (by decide)
theorem live_same1 (W W' : World) (A : Option Addr) (c : Nat) (hc : 4 ≤ c) (hC : Kd.C k86 W A 4 hitsA) (b : Nat) (hb : W.heap[b]? = some (.cells #[.int .i64 0, .int .i64 1, .int .i64 1, .int .i64 1, .int .i64 2, .int .i64 1, .int .i64 3, .int .i64 1] 86 (0, 0))) :
    Calls Try.prog 57 #[.slice A 4 c, .slice (some ⟨b, 0, none⟩) 4 4] W fun e w' => e = .returned (.bool true) ∧ Drawn0 W w' := by
  have hr : Reps (k86.K W) 2 hitsA [.int .i64 0, .int .i64 1, .int .i64 1, .int .i64 1, .int .i64 2, .int .i64 1, .int .i64 3, .int .i64 1] :=
    ((((Reps.none _ _).snoc (p := (⟨0, 1⟩ : S86)) (c := [.int .i64 0, .int .i64 1]) (k86_mk W ⟨0, 1⟩) rfl).snoc (p := (⟨1, 1⟩ : S86)) (c := [.int .i64 1, .int .i64 1]) (k86_mk W ⟨1, 1⟩) rfl).snoc (p := (⟨2, 1⟩ : S86)) (c := [.int .i64 2, .int .i64 1]) (k86_mk W ⟨2, 1⟩) rfl).snoc (p := (⟨3, 1⟩ : S86)) (c := [.int .i64 3, .int .i64 1]) (k86_mk W ⟨3, 1⟩) rfl
  exact wordbookref16_SameHits.calls 20 A c hitsA _ _ hitsA true W hC hc (C_block hb hr (by decide)) (Nat.le_refl _) (by kernel_rfl)
theorem live_same2 (W : World) (A : Option Addr) (c : Nat) (hc : 1 ≤ c) (hC : Kd.C k86 W A 1 hitsB) (b : Nat) (hb : W.heap[b]? = some (.cells #[.int .i64 3, .int .i64 0] 86 (0, 0))) :
    Calls Try.prog 57 #[.slice A 1 c, .slice (some ⟨b, 0, none⟩) 1 1] W fun e w' => e = .returned (.bool true) ∧ Drawn0 W w' := by
  have hr : Reps (k86.K W) 2 hitsB [.int .i64 3, .int .i64 0] := (Reps.none _ _).snoc (p := (⟨3, 0⟩ : S86)) (c := [.int .i64 3, .int .i64 0]) (k86_mk W ⟨3, 0⟩) rfl
  exact wordbookref16_SameHits.calls 20 A c hitsB _ _ hitsB true W hC hc (C_block hb hr (by decide)) (Nat.le_refl _) (by kernel_rfl)
end Go.Proofs.Ytcdjeimjbbknjaa.PAll
namespace Go.Proofs.Ytcdjeimjbbknjaa.PAll
open Go.RowKit Go.Proofs.YtcdjeimjbbknjaaW.PrintWords Go.Proofs.YtcdjeimjbbknjaaW.PrintLast Go.Proofs.YtcdjeimjbbknjaaW.PrintMore Go.Proofs.Ytcdjeimjbbknjaa.Lev
set_option linter.unusedVariables false
set_option linter.unusedSimpArgs false

def wordbooklaw16_lives.f : Option Bool := some true
theorem lv1 (W : World) : Calls Try.prog 49 #[.slice (some ⟨W.heap.size, 0, none⟩) 3 3, .slice (some ⟨W.heap.size + 1, 0, none⟩) 3 3] ((W.alloc (.cells #[.int .i64 1, .int .i64 2, .int .i64 3] 3)).alloc (.cells #[.int .i64 2, .int .i64 3, .int .i64 4] 3)) fun e w' => e = .returned (.int .i64 2) ∧ Below W.heap.size W w' := live_dist W [1, 2, 3] [2, 3, 4] 2 (by decide) (by decide) (by kernel_rfl)
theorem lv2 (W : World) : Calls Try.prog 49 #[.slice (some ⟨W.heap.size, 0, none⟩) 2 2, .slice (some ⟨W.heap.size + 1, 0, none⟩) 2 2] ((W.alloc (.cells #[.int .i64 1, .int .i64 2] 3)).alloc (.cells #[.int .i64 2, .int .i64 1] 3)) fun e w' => e = .returned (.int .i64 2) ∧ Below W.heap.size W w' := live_dist W [1, 2] [2, 1] 2 (by decide) (by decide) (by kernel_rfl)
theorem lv3 (W : World) : Calls Try.prog 49 #[.slice (some ⟨W.heap.size, 0, none⟩) 2 2, .slice none 0 0] (W.alloc (.cells #[.int .i64 5, .int .i64 5] 3)) fun e w' => e = .returned (.int .i64 2) ∧ Below W.heap.size W w' := live_dist0 W [5, 5] 2 (by decide) (by kernel_rfl)
theorem lv4 (W : World) : Calls Try.prog 50 #[.slice (some ⟨W.heap.size, 0, none⟩) 1 1, .slice (some ⟨W.heap.size + 1, 0, none⟩) 1 1, .int .i64 1] ((W.alloc (.cells #[.int .i64 1] 3)).alloc (.cells #[.int .i64 2] 3)) fun e w' => e = .returned (.bool true) ∧ Below W.heap.size W w' := live_within W [1] [2] 1 true (by decide) (by decide) (by kernel_rfl)
theorem lv5 (W : World) : Calls Try.prog 50 #[.slice (some ⟨W.heap.size, 0, none⟩) 1 1, .slice (some ⟨W.heap.size + 1, 0, none⟩) 1 1, .int .i64 0] ((W.alloc (.cells #[.int .i64 1] 3)).alloc (.cells #[.int .i64 2] 3)) fun e w' => e = .returned (.bool false) ∧ Below W.heap.size W w' := live_within W [1] [2] 0 false (by decide) (by decide) (by kernel_rfl)
set_option maxHeartbeats 4000000 in
set_option maxRecDepth 100000 in
theorem lives_true (w : World) : Calls Try.prog 51 #[] w fun e w' => e = .returned (.bool true) ∧ Below w.heap.size w w' := by
  have HBld := Aside0.mk (live_build w)
  go_enter Try.func51, Try.ntmps51
  go_upto_region 2 with (go_at_call 19; refine HBld.out.mono ?_; rintro e w1 ⟨g, rfl, hg1, hb1⟩; have HG1 := Aside0.mk hg1; have HB1 := Aside0.mk hb1; clear hg1 hb1)
  go_upto_region 4 with (first
    | (go_at_call 49; with_reducible refine (lv1 _).mono ?_; rintro e w2 ⟨rfl, hb2⟩; have HB2 := Aside0.mk hb2; clear hb2)
    | (go_at_call 49; with_reducible refine (lv2 _).mono ?_; rintro e w3 ⟨rfl, hb3⟩; have HB3 := Aside0.mk hb3; clear hb3)
    | (go_at_call 49; with_reducible refine (lv3 _).mono ?_; rintro e w4 ⟨rfl, hb4⟩; have HB4 := Aside0.mk hb4; clear hb4))
  have hB4 := HB2.out.trans ((HB3.out.trans (HB4.out.mono HB3.out.size)).mono HB2.out.size)
  have HB14 := Aside0.mk (HB1.out.trans (hB4.mono HB1.out.size))
  have HS1 := Aside0.mk (live_s1 w4 g (HG1.out.below hB4))
  have HG4 := Aside0.mk (HG1.out.below hB4)
  clear hB4 HB1 HB2 HB3 HB4 HG1
  go_upto_region 5 with (go_at_call 53; refine HS1.out.mono ?_; rintro e w5 ⟨Aa, ca, rfl, hca, hCa, hb5⟩; have HCa := Aside0.mk hCa; have HB5 := Aside0.mk hb5; clear hCa hb5)
  have HBs := Aside0.mk (live_b1 w5 g (HG4.out.below HB5.out))
  go_upto_region 6 with (go_at_call 55; refine HBs.out.mono ?_; rintro e w6 ⟨Ab, cb, rfl, hcb, hCb, hb6⟩; have HCb := Aside0.mk hCb; have HB6 := Aside0.mk hb6; clear hCb hb6)
  go_upto_region 7 with (go_at_call 53; refine (live_s2 _ _).mono ?_; rintro e w7 ⟨rfl, hb7⟩; have HB7 := Aside0.mk hb7; clear hb7)
  have hmk := print_make_of (P := Try.prog) 22 3 (.int .i64 0) 8 Try.underlying22 info3 rfl (by omega) 65 (by omega)
  rw [show ((65 : Nat) : Int) = (65 : Int) from rfl] at hmk
  have HB8' := Aside0.mk (below_alloc (Below.refl w7.heap.size w7) (.cells (madeCells #[.int .i64 0] 65) 3))
  go_upto_region 8 with (go_at_call 53; refine (live_s3 _ _ _ _).mono ?_; rintro e w8 ⟨rfl, hb8⟩; have HB8 := Aside0.mk hb8; clear hb8)
  have hB68 := HB6.out.trans ((HB7.out.trans ((HB8'.out.trans (HB8.out.mono HB8'.out.size)).mono HB7.out.size)).mono HB6.out.size)
  have hBw := below_alloc (Below.refl w8.heap.size w8) (.cells #[.int .i64 0, .int .i64 1, .int .i64 1, .int .i64 1, .int .i64 2, .int .i64 1, .int .i64 3, .int .i64 1] 86)
  have hB6w := (HB6.out.trans ((HB7.out.trans ((HB8'.out.trans ((HB8.out.trans (hBw.mono HB8.out.size)).mono HB8'.out.size)).mono HB7.out.size)).mono HB6.out.size))
  have hB7w := (HB7.out.trans ((HB8'.out.trans ((HB8.out.trans (hBw.mono HB8.out.size)).mono HB8'.out.size)).mono HB7.out.size))
  have HSa := Aside0.mk (live_same1 (w8.alloc (.cells #[.int .i64 0, .int .i64 1, .int .i64 1, .int .i64 1, .int .i64 2, .int .i64 1, .int .i64 3, .int .i64 1] 86)) w8 Aa ca hca (Kd.C_below HCa.out hB6w) w8.heap.size (blk_new _ _))
  have HCb2 := Aside0.mk (Kd.C_below HCb.out hB7w)
  have hBall := HB14.out.trans ((HB5.out.trans (hB6w.mono HB5.out.size)).mono HB14.out.size)
  have HBall := Aside0.mk hBall
  clear hBall hBw hB6w hB7w hB68 hmk HB8' HB14 HB5 HB6 HB7 HB8 HBs HS1 HG4 HBld HCa HCb
  go_wp2_with (first
    | (go_at_call 57; with_reducible refine HSa.out.mono ?_; rintro e w9 ⟨rfl, hd9⟩; have HB9 := Aside0.mk (HBall.out.trans (hd9.below.mono HBall.out.size)); have HSb := Aside0.mk (live_same2 (w9.alloc (.cells #[.int .i64 3, .int .i64 0] 86)) Ab cb hcb (Kd.C_below HCb2.out (hd9.below.trans (below_alloc (Below.refl _ _) _ |>.mono hd9.below.size))) w9.heap.size (blk_new _ _)); have HB9' := Aside0.mk (below_alloc (Below.refl w9.heap.size w9) (.cells #[.int .i64 3, .int .i64 0] 86)); clear hd9)
    | (go_at_call 57; with_reducible refine HSb.out.mono ?_; rintro e w10 ⟨rfl, hd10⟩; have HB10 := Aside0.mk (HB9.out.trans ((HB9'.out.trans (hd10.below.mono HB9'.out.size)).mono HB9.out.size)); clear hd10)
    | (go_at_call 50; with_reducible refine (lv4 _).mono ?_; rintro e w11 ⟨rfl, hb11⟩; have HB11 := Aside0.mk (HB10.out.trans (hb11.mono HB10.out.size)); clear hb11)
    | (go_at_call 50; with_reducible refine (lv5 _).mono ?_; rintro e w12 ⟨rfl, hb12⟩; have HB12 := Aside0.mk (HB11.out.trans (hb12.mono HB11.out.size)); clear hb12))
  go_ret
  exact ⟨rfl, HB12.out⟩
theorem wordbooklaw16_lives.calls (r : Bool) (w : World) (h : wordbooklaw16_lives.f = some r) : Calls Try.prog 51 #[] w fun e w' => e = .returned (.bool r) ∧ Below w.heap.size w w' := by
  obtain rfl := Option.some.inj h
  exact lives_true w
end Go.Proofs.Ytcdjeimjbbknjaa.PAll
namespace Go.Proofs.Ytcdjeimjbbknjaa.PAll
open Go.RowKit Go.Proofs.YtcdjeimjbbknjaaW.PrintWords Go.Proofs.YtcdjeimjbbknjaaW.PrintLast Go.Proofs.YtcdjeimjbbknjaaW.PrintMore
attribute [local go_sem] max2_int min2_int max_two min_two max_three min_three max_four min_four   -- for this text's walks alone
set_option linter.unusedVariables false
set_option linter.unusedSimpArgs false

/-! ### wordbooklaw16_word: function 48 -/
def wordbooklaw16_word.l0 : Nat → List Int → List Int → Int → Option (List Int)
  | 0, _, _, _ => none
  | k + 1, x0, x3, x4 => if x4 < (x0.length : Int) then (if x4 < 10 then (if 0 ≤ x4 then ((wordbookref01_Around.f (rd x0 x4) 4).bind fun t518 => (if x3.length < 17592186044416 then (wordbooklaw16_word.l0 k x0 (x3 ++ [t518]) (wrap64 (x4 + 1))) else (none))) else (none)) else (some x3)) else (some x3)
def wordbooklaw16_word.f (k : Nat) (l0 : List Int) : Option (List Int) := wordbooklaw16_word.l0 k l0 ([] : List Int) 0
theorem wordbooklaw16_word.mono_l : ∀ k, (∀ y0 y1 y2, LeO (wordbooklaw16_word.l0 k y0 y1 y2) (wordbooklaw16_word.l0 (k + 1) y0 y1 y2))
  | 0 => fun _ _ _ r h => by simp [wordbooklaw16_word.l0] at h
  | k + 1 => by
    have ih0 := wordbooklaw16_word.mono_l k
    · intro y0 y1 y2
      unfold wordbooklaw16_word.l0
      repeat' first
      | (with_reducible exact ih0 _ _ _)
      | (with_reducible exact LeO.refl _)
      | (with_reducible exact LeO.none _)
      | (with_reducible refine LeO.ite ?_ ?_)
      | (with_reducible refine LeO.bind ?_ (fun _ => ?_))
      | exact ih0 _ _ _
      | exact LeO.none _
      | refine LeO.ite ?_ ?_
      | refine LeO.bind ?_ (fun _ => ?_)
theorem wordbooklaw16_word.mono : ∀ a0 k, LeO (wordbooklaw16_word.f k a0) (wordbooklaw16_word.f (k + 1) a0) := by
  intro a0 k
  have ih0 := wordbooklaw16_word.mono_l k
  unfold wordbooklaw16_word.f
  repeat' first
      | (with_reducible exact ih0 _ _ _)
      | (with_reducible exact LeO.refl _)
      | (with_reducible exact LeO.none _)
      | (with_reducible refine LeO.ite ?_ ?_)
      | (with_reducible refine LeO.bind ?_ (fun _ => ?_))
      | exact ih0 _ _ _
      | exact LeO.none _
      | refine LeO.ite ?_ ?_
      | refine LeO.bind ?_ (fun _ => ?_)
set_option maxHeartbeats 8000000 in
set_option maxRecDepth 100000 in
theorem wordbooklaw16_word.calls (k : Nat) (A0 : Option Addr) (c0 : Nat) (l0 : List Int) (r : List Int) (w : World) (hr0 : Kd.C (Kd.int .i64) w A0 l0.length l0) (hc0 : l0.length ≤ c0) (h : wordbooklaw16_word.f k l0 = some r) :
    Calls Try.prog 48 #[.slice A0 l0.length c0] w fun e w' => ∃ v0_ : Value, e = .returned (v0_) ∧ Kd.R (Kd.int .i64) 3 w' w.heap.size (fun _ => True) v0_ r ∧ Below w.heap.size w w' := by
  have HR0 := Aside0.mk hr0
  have HC0 := Aside0.mk hc0
  clear hr0 hc0
  have HB := Aside0.mk (Below.refl w.heap.size w)
  have H : (wordbooklaw16_word.l0 k l0 ([] : List Int) 0) = some r := h
  clear h
  have H' := Aside0.mk H
  clear H
  go_enter Try.func48, Try.ntmps48
  go_wp2
  go_loopg [3, 4] k (fun kq v3 v4 w' => ∃ (x3_1 : List Int) (x4_1 : Int), v4 = .int .i64 x4_1 ∧ Aside0 (wordbooklaw16_word.l0 kq l0 x3_1 x4_1 = some r) ∧ Aside0 (kq ≤ k) ∧ Aside0 (Kd.R (Kd.int .i64) 3 w' w.heap.size (fun _ => True) v3 x3_1) ∧ Aside0 (Below w.heap.size w w'))
  case atStart => exact ⟨(([] : List Int)), (0), (by first | rfl | (simp; done) | (simp [*]; done)), H', ⟨Nat.le_refl _⟩, ⟨by first | exact Kd.R_nil _ _ _ _ _ | exact Kd.N_nil _ _ _ _ _ | exact Kd.V_nil _ _ _ _ _ | exact Kd.Q_nil _ _ _ _ _ | exact Kd.S_nil _ _ _ _ _⟩, ⟨by repeat (first | (with_reducible first | exact HB.out | apply below_alloc | apply pw_below_drewN | apply below_drew1) | exact HB.out)⟩⟩
  case round =>
    clear H'
    obtain ⟨x3_1, x4_1, rfl, HA, HK1, HO_3, HB⟩ := hrel
    cases gk with
    | zero => exact absurd HA.out (by simp [wordbooklaw16_word.l0])
    | succ k1 =>
      have H := HA.out
      clear HA
      simp only [wordbooklaw16_word.l0] at H
      by_cases c2 : x4_1 < (l0.length : Int)
      · rw [if_pos c2] at H
        have c2b0 : decide (x4_1 < (l0.length : Int)) = true := decide_eq_true c2
        clear c2
        by_cases c3 : x4_1 < 10
        · rw [if_pos c3] at H
          have c3b0 : decide (x4_1 < 10) = true := decide_eq_true c3
          clear c3
          by_cases c4 : 0 ≤ x4_1
          · rw [if_pos c4] at H
            have c4b0 : decide (0 ≤ x4_1) = true := decide_eq_true c4
            clear c4
            replace H := Option.bind_eq_some_iff.mp H
            obtain ⟨t518, A50, H⟩ := H
            replace H : (if x3_1.length < 17592186044416 then (wordbooklaw16_word.l0 k1 l0 (x3_1 ++ [t518]) (wrap64 (x4_1 + 1))) else (none)) = some r := H
            have A5 := Aside0.mk A50
            clear A50
            by_cases c6 : x3_1.length < 17592186044416
            · rw [if_pos c6] at H
              have LMc6 := Aside0.mk c6
              clear c6
              obtain ⟨y519, hy519⟩ : ∃ y_ : List Int, y_ = (x3_1 ++ [t518]) := ⟨_, rfl⟩
              replace H : (wordbooklaw16_word.l0 k1 l0 y519 (wrap64 (x4_1 + 1))) = some r := by first | (rw [hy519]; with_reducible exact H) | (have H2_ := (Option.bind_some _ _).symm.trans H; rw [hy519]; with_reducible exact H2_) | (have H2_ := (Option.bind_some _ _).symm.trans H; with_reducible exact H2_) | with_reducible exact H | (rw [hy519]; exact H) | exact H
              have Ny519 := Aside0.mk hy519
              clear hy519
              have H' := Aside0.mk H
              clear H
              have p517 : 0 ≤ (x4_1 : Int) := of_decide_eq_true (by first | (with_reducible assumption) | assumption)
              have q517 : x4_1 < (l0.length : Int) := of_decide_eq_true (by first | (with_reducible assumption) | assumption)
              obtain ⟨ad517, e517, hx517_0⟩ := Kd.at_int HR0.out x4_1 p517 q517
              cases e517
              replace hx517_0 := (HB.out.cell (World.block_lt_of_cell? w _ hx517_0)).trans hx517_0
              replace p517 := eq_true p517
              replace q517 := eq_true q517
              go_wp2_with (first | ((with_reducible refine gate_callee (f := 18) rfl ?_); refine goesL_ (some 20) rfl rfl Try.func18 (by kernel_rfl) rfl #[.int .i64 (rd l0 x4_1), .int .i64 4] rfl (by (try simp only [List.map_toArray, List.map_cons, List.map_nil]); first | done | rfl | (simp only [List.length_drop, List.length_take]; rfl)) ?_; (with_reducible refine (wordbookref01_Around.calls (rd l0 x4_1) 4 t518 _ A5.out).mono ?_); rintro e w' ⟨rfl, ⟨nd, rfl⟩⟩; refine ⟨_, rfl, ?_⟩) | ((with_reducible refine gate_builtin (b := .append) (xs := #[.tmp 15, .tmp 21]) rfl ?_); at_builtin; refine Kd.R_append (Kd.int .i64) (w0 := w) w.heap.size rfl (.tmp 15) (.tmp 21) 22 3 (.int .i64 0) 8 rfl Try.underlying22 info3 rfl (by decide) (by omega) u3 x3_1 t518 [.int .i64 t518] (fun _ => True) (fun _ => False) rfl rfl ?aP (fun _ hk => hk.elim) ?aF ?aO ?aB ?aS ?aL ?_; (case aP => exact rfl); (case aB => exact (by repeat (first | (with_reducible first | exact HB.out | apply below_alloc | apply pw_below_drewN | apply below_drew1) | exact HB.out))); (case aF => exact (fun _ _ => trivial)); (case aO => exact (by (with_reducible repeat (first | apply Kd.R_alloc | apply Kd.R_drewN | apply Kd.R_drew)); exact HO_3.out)); (case aS => exact (below_size (by repeat (first | (with_reducible first | exact HB.out | apply below_alloc | apply pw_below_drewN | apply below_drew1) | exact HB.out)))); (case aL => have := LMc6.out; omega); intro v520 w7 ho hb hg hat; rw [← Ny519.out] at ho; have n0_ := Aside0.mk (hb); have n1_ := Aside0.mk (ho); clear HB; clear HO_3; have HB := n0_; have HO521 := n1_; clear n0_ n1_; clear ho hb hg hat))
              go_roundg k1
              case measure => have := HK1.out; omega
              case rel => exact ⟨(y519), (wrap64 (x4_1 + 1)), (by first | rfl | (simp; done) | (simp [*]; done)), H', ⟨by have := HK1.out; omega⟩, ⟨by (with_reducible repeat (first | apply Kd.R_alloc | apply Kd.R_drewN | apply Kd.R_drew)); exact HO521.out⟩, ⟨by repeat (first | (with_reducible first | exact HB.out | apply below_alloc | apply pw_below_drewN | apply below_drew1) | exact HB.out)⟩⟩
            · rw [if_neg c6] at H
              exact absurd H (by simp)
          · rw [if_neg c4] at H
            exact absurd H (by simp)
        · rw [if_neg c3] at H
          have c3b0 : decide (x4_1 < 10) = false := decide_eq_false c3
          clear c3
          obtain rfl := Option.some.inj H
          go_wp2
          go_ret
          exact ⟨_, by first | rfl | (simp [errW_none, errW_some] <;> rfl) | (simp [*, errW_none, errW_some] <;> rfl), by (with_reducible repeat (first | apply Kd.R_alloc | apply Kd.R_drewN | apply Kd.R_drew)); exact HO_3.out, by repeat (first | (with_reducible first | exact HB.out | apply below_alloc | apply pw_below_drewN | apply below_drew1) | exact HB.out)⟩
      · rw [if_neg c2] at H
        have c2b0 : decide (x4_1 < (l0.length : Int)) = false := decide_eq_false c2
        clear c2
        obtain rfl := Option.some.inj H
        go_wp2
        go_ret
        exact ⟨_, by first | rfl | (simp [errW_none, errW_some] <;> rfl) | (simp [*, errW_none, errW_some] <;> rfl), by (with_reducible repeat (first | apply Kd.R_alloc | apply Kd.R_drewN | apply Kd.R_drew)); exact HO_3.out, by repeat (first | (with_reducible first | exact HB.out | apply below_alloc | apply pw_below_drewN | apply below_drew1) | exact HB.out)⟩

end Go.Proofs.Ytcdjeimjbbknjaa.PAll
namespace Go.Proofs.Ytcdjeimjbbknjaa.PAll
open Go.RowKit Go.Proofs.YtcdjeimjbbknjaaW.PrintWords Go.Proofs.YtcdjeimjbbknjaaW.PrintLast Go.Proofs.YtcdjeimjbbknjaaW.PrintMore Go.Proofs.Ytcdjeimjbbknjaa.Lev
set_option linter.unusedVariables false
set_option linter.unusedSimpArgs false

/-- 'xs[m:]' of a slice that is read. -/
theorem cut_drop {k : IntKind} {t e : TypeId} {b : Nat} (ht : Try.prog.underlying t = some (.slice e)) (hinfo : (Try.prog.info? e).map (fun i => (i.zero, i.size, i.bytes)) = some (some (Value.int k 0), 1, b)) (A : Option Addr) (c : Nat) (xs : List Int) (m : Nat) (hm : m ≤ xs.length) (hc : xs.length ≤ c) :
    ∃ A' : Option Addr, (∀ W : World, (Instr.slice t (.slice A xs.length c) (some (.int .i64 (m : Int))) none none).run Try.prog W = .ok (.slice A' (xs.length - m) (c - m)) W) ∧ (∀ w : World, Kd.C (Kd.int k) w A xs.length xs → Kd.C (Kd.int k) w A' (xs.length - m) (xs.drop m)) ∧ xs.length - m ≤ c - m := by
  obtain ⟨i0, hi, _, hsz, _⟩ := info_parts hinfo
  obtain ⟨A', hcut, hA, hC⟩ := print_drop_of (P := Try.prog) (Value.int k) 0 t e .i64 ht hi hsz A c xs (m : Int) (by omega) (by omega) hc
  have hl : (xs.drop (m : Int).toNat).length = xs.length - m := by rw [List.length_drop]; omega
  rw [hl] at hcut hA
  exact ⟨A', by simpa using hcut, fun w h => by have h2 : (Kd.int k).C w A' (xs.length - m) (xs.drop (m : Int).toNat) := Kd.C_of_reads (hA w (Kd.reads_of_C h)); rwa [Int.toNat_natCast] at h2, by omega⟩

def around (n most : Int) : Int := Int.tmod (if n < 0 then -(n + 1) else n) most
theorem around_is (n most : Int) (h0 : 0 < most) (hn : -9223372036854775808 ≤ n ∧ n ≤ 9223372036854775807) : wordbookref01_Around.f n most = some (around n most) := by
  unfold wordbookref01_Around.f around
  by_cases h : n < 0
  · rw [if_pos h, if_neg (by omega), if_pos h]
    have e1 : wrap64 (n + 1) = n + 1 := by unfold wrap64; omega
    have e2 : wrap64 (-(n + 1)) = -(n + 1) := by unfold wrap64; omega
    rw [e1, e2]
  · rw [if_neg h, if_neg (by omega), if_neg h]
theorem around_range (n most : Int) (h0 : 0 < most) : 0 ≤ around n most ∧ around n most < most := by
  unfold around
  have h : 0 ≤ (if n < 0 then -(n + 1) else n) := by split <;> omega
  generalize (if n < 0 then -(n + 1) else n) = q at *
  rw [Int.tmod_eq_emod_of_nonneg h]
  exact ⟨Int.emod_nonneg _ (by omega), Int.emod_lt_of_pos _ h0⟩
theorem around_calls (n most : Int) (w : World) (h0 : 0 < most) (hn : -9223372036854775808 ≤ n ∧ n ≤ 9223372036854775807) :
    Calls Try.prog 18 #[.int .i64 n, .int .i64 most] w fun e w' => e = .returned (.int .i64 (around n most)) ∧ Drawn0 w w' :=
  wordbookref01_Around.calls n most _ w (around_is n most h0 hn)

def edited (w : List Int) (kind at_ x : Int) : List Int :=
  if kind = 0 then put_ w (around at_ (w.length + 1)).toNat x
  else if w.length = 0 then [] else if kind = 2 then set_ w (around at_ w.length).toNat x else cut_ w (around at_ w.length).toNat
def editOk (l0 : List Int) (a2 : Int) : Prop := l0.length ≤ 1000000000000 ∧ -9223372036854775808 ≤ a2 ∧ a2 ≤ 9223372036854775807
instance (l0 : List Int) (a2 : Int) : Decidable (editOk l0 a2) := by unfold editOk; infer_instance
def wordbookref16_Edited.f (l0 : List Int) (a1 : Int) (a2 : Int) (a3 : Int) : Option (List Int) := if editOk l0 a2 then some (edited l0 a1 a2 a3) else none
set_option maxHeartbeats 4000000 in
set_option maxRecDepth 100000 in
theorem edited_put (A0 : Option Addr) (c0 : Nat) (l0 : List Int) (a2 a3 : Int) (w : World) (hr0 : Kd.C (Kd.int .i64) w A0 l0.length l0) (hc0 : l0.length ≤ c0) (hok : editOk l0 a2) :
    Calls Try.prog 59 #[.slice A0 l0.length c0, .int .i64 0, .int .i64 a2, .int .i64 a3] w fun e w' => ∃ v0_ : Value, e = .returned (v0_) ∧ Kd.R (Kd.int .i64) 3 w' w.heap.size (fun _ => True) v0_ (edited l0 0 a2 a3) ∧ Below w.heap.size w w' := by
  obtain ⟨hl, hb⟩ := hok
  obtain ⟨r0, r1⟩ := around_range a2 ((l0.length : Int) + 1) (by omega)
  have HA := Aside0.mk (fun W => around_calls a2 ((l0.length : Int) + 1) W (by omega) hb)
  have HF : Aside0 (edited l0 0 a2 a3 = put_ l0 (around a2 (l0.length + 1)).toNat a3) := ⟨by simp [edited]⟩
  clear hb
  generalize around a2 ((l0.length : Int) + 1) = q at *
  obtain ⟨m, rfl⟩ := Int.eq_ofNat_of_zero_le r0
  obtain ⟨hcut, hC⟩ := cut_take (k := .i64) Try.underlying22 info3 A0 c0 l0 m (by omega) hc0
  obtain ⟨A', hcut', hC', hc'⟩ := cut_drop (k := .i64) Try.underlying22 info3 A0 c0 l0 m (by omega) hc0
  have HR := Aside0.mk hr0
  have HC := Aside0.mk hC
  have HC' := Aside0.mk hC'
  have HL := Aside0.mk (show (l0.take m).length = m by rw [List.length_take]; omega)
  have HL' := Aside0.mk (show (l0.drop m).length = l0.length - m by rw [List.length_drop])
  clear hr0 hC hC'
  have hml : m ≤ l0.length := by omega
  clear r1 r0
  go_enter Try.func59, Try.ntmps59
  go_wp2_with (first | (go_at_call 18; refine (HA.out _).mono ?_; rintro e w' ⟨rfl, ⟨nd, rfl⟩⟩) | (at_builtin; refine Kd.R_append_rows (Kd.int .i64) (w0 := w) w.heap.size rfl (.tmp 19) (.tmp 22) 22 3 (.int .i64 0) 8 rfl Try.underlying22 info3 rfl (by decide) (by omega) (.slice none 0 0) ([] : List Int) (l0.take m) A0 m c0 (fun _ => True) (fun _ => False) rfl rfl (Kd.R_nil _ _ _ _ _) (HC.out _ (Kd.C_drewN HR.out nd)) (fun _ _ h => h) (fun _ h => h.elim) (fun _ _ => trivial) (pw_below_drewN (Below.refl _ _) nd) (Nat.le_refl _) (by simp only [List.length_nil]; omega) ?_; intro v1 w1 HO1 HB1 _ _; rw [List.nil_append] at HO1; have HO1 := Aside0.mk HO1; have HB1 := Aside0.mk HB1) | (at_builtin; refine Kd.R_append (Kd.int .i64) (w0 := w) w.heap.size rfl (.tmp 23) (.tmp 25) 22 3 (.int .i64 0) 8 rfl Try.underlying22 info3 rfl (by decide) (by omega) v1 (l0.take m) a3 [.int .i64 a3] (fun _ => True) (fun _ => False) rfl rfl rfl (fun _ h => h.elim) (fun _ _ => trivial) HO1.out HB1.out HB1.out.size (by have := HL.out; omega) ?_; intro v2 w2 HO2 HB2 _ _; have HO2 := Aside0.mk HO2; have HB2 := Aside0.mk HB2) | (at_builtin; refine Kd.R_append_rows (Kd.int .i64) (w0 := w) w.heap.size rfl (.tmp 27) (.tmp 30) 22 3 (.int .i64 0) 8 rfl Try.underlying22 info3 rfl (by decide) (by omega) v2 (l0.take m ++ [a3]) (l0.drop m) A' (l0.length - m) (c0 - m) (fun _ => True) (fun _ => False) rfl rfl HO2.out (HC'.out _ (Kd.C_below HR.out HB2.out)) (fun _ _ h => h) (fun _ h => h.elim) (fun _ _ => trivial) HB2.out HB2.out.size (by have := HL.out; simp only [List.length_append, List.length_singleton]; omega) ?_; intro v3 w3 HO3 HB3 _ _; have HO3 := Aside0.mk HO3; have HB3 := Aside0.mk HB3))
  go_ret
  exact ⟨_, rfl, by rw [HF.out, put_, Int.toNat_natCast]; simpa using HO3.out, HB3.out⟩
set_option maxHeartbeats 4000000 in
set_option maxRecDepth 100000 in
theorem edited_set (A0 : Option Addr) (c0 : Nat) (l0 : List Int) (a1 a2 a3 : Int) (w : World) (hr0 : Kd.C (Kd.int .i64) w A0 l0.length l0) (hc0 : l0.length ≤ c0) (hok : editOk l0 a2) (ha : ¬ a1 = 0) (hpos : 0 < l0.length) (hb2 : a1 = 2) :
    Calls Try.prog 59 #[.slice A0 l0.length c0, .int .i64 a1, .int .i64 a2, .int .i64 a3] w fun e w' => ∃ v0_ : Value, e = .returned (v0_) ∧ Kd.R (Kd.int .i64) 3 w' w.heap.size (fun _ => True) v0_ (edited l0 a1 a2 a3) ∧ Below w.heap.size w w' := by
  have h0 : (a1 == 0) = false := beq_eq_false_iff_ne.2 ha
  have h1 : ((l0.length : Int) == 0) = false := beq_eq_false_iff_ne.2 (by omega)
  have h2 : (a1 == 2) = true := beq_iff_eq.2 hb2
  obtain ⟨hl, hb⟩ := hok
  obtain ⟨r0, r1⟩ := around_range a2 (l0.length : Int) (by omega)
  have HA := Aside0.mk (fun W => around_calls a2 (l0.length : Int) W (by omega) hb)
  have HF : Aside0 (edited l0 a1 a2 a3 = set_ l0 (around a2 l0.length).toNat a3) := ⟨by unfold edited; rw [if_neg ha, if_neg (by omega)]; rw [if_pos hb2]⟩
  clear hb ha hb2
  generalize around a2 (l0.length : Int) = q at *
  obtain ⟨m, rfl⟩ := Int.eq_ofNat_of_zero_le r0
  obtain ⟨hcut, hC⟩ := cut_take (k := .i64) Try.underlying22 info3 A0 c0 l0 m (by omega) hc0
  obtain ⟨A', hcut', hC', hc'⟩ := cut_drop (k := .i64) Try.underlying22 info3 A0 c0 l0 (m + 1) (by omega) hc0
  rw [show (((m + 1 : Nat) : Int)) = (m : Int) + 1 from by omega] at hcut'
  have HR := Aside0.mk hr0
  have HC := Aside0.mk hC
  have HC' := Aside0.mk hC'
  have HL := Aside0.mk (show (l0.take m).length = m by rw [List.length_take]; omega)
  clear hr0 hC hC' hpos
  have hml : m < l0.length := by omega
  clear r1 r0
  go_enter Try.func59, Try.ntmps59
  go_wp2_with (first | (go_at_call 18; refine (HA.out _).mono ?_; rintro e w' ⟨rfl, ⟨nd, rfl⟩⟩) | (at_builtin; refine Kd.R_append_rows (Kd.int .i64) (w0 := w) w.heap.size rfl (.tmp 40) (.tmp 43) 22 3 (.int .i64 0) 8 rfl Try.underlying22 info3 rfl (by decide) (by omega) (.slice none 0 0) ([] : List Int) (l0.take m) A0 m c0 (fun _ => True) (fun _ => False) rfl rfl (Kd.R_nil _ _ _ _ _) (HC.out _ (Kd.C_drewN HR.out nd)) (fun _ _ h => h) (fun _ h => h.elim) (fun _ _ => trivial) (pw_below_drewN (Below.refl _ _) nd) (Nat.le_refl _) (by simp only [List.length_nil]; omega) ?_; intro v1 w1 HO1 HB1 _ _; rw [List.nil_append] at HO1; have HO1 := Aside0.mk HO1; have HB1 := Aside0.mk HB1) | (at_builtin; refine Kd.R_append (Kd.int .i64) (w0 := w) w.heap.size rfl (.tmp 47) (.tmp 49) 22 3 (.int .i64 0) 8 rfl Try.underlying22 info3 rfl (by decide) (by omega) v1 (l0.take m) a3 [.int .i64 a3] (fun _ => True) (fun _ => False) rfl rfl rfl (fun _ h => h.elim) (fun _ _ => trivial) HO1.out HB1.out HB1.out.size (by have := HL.out; omega) ?_; intro v2 w2 HO2 HB2 _ _; have HO2 := Aside0.mk HO2; have HB2 := Aside0.mk HB2) | (at_builtin; refine Kd.R_append_rows (Kd.int .i64) (w0 := w) w.heap.size rfl (.tmp 51) (.tmp 55) 22 3 (.int .i64 0) 8 rfl Try.underlying22 info3 rfl (by decide) (by omega) v2 (l0.take m ++ [a3]) (l0.drop (m + 1)) A' (l0.length - (m + 1)) (c0 - (m + 1)) (fun _ => True) (fun _ => False) rfl rfl HO2.out (HC'.out _ (Kd.C_below HR.out HB2.out)) (fun _ _ h => h) (fun _ h => h.elim) (fun _ _ => trivial) HB2.out HB2.out.size (by have := HL.out; simp only [List.length_append, List.length_singleton]; omega) ?_; intro v3 w3 HO3 HB3 _ _; have HO3 := Aside0.mk HO3; have HB3 := Aside0.mk HB3))
  go_ret
  exact ⟨_, rfl, by rw [HF.out, set_, Int.toNat_natCast]; simpa using HO3.out, HB3.out⟩
set_option maxHeartbeats 4000000 in
set_option maxRecDepth 100000 in
theorem edited_cut (A0 : Option Addr) (c0 : Nat) (l0 : List Int) (a1 a2 a3 : Int) (w : World) (hr0 : Kd.C (Kd.int .i64) w A0 l0.length l0) (hc0 : l0.length ≤ c0) (hok : editOk l0 a2) (ha : ¬ a1 = 0) (hpos : 0 < l0.length) (hb2 : ¬ a1 = 2) :
    Calls Try.prog 59 #[.slice A0 l0.length c0, .int .i64 a1, .int .i64 a2, .int .i64 a3] w fun e w' => ∃ v0_ : Value, e = .returned (v0_) ∧ Kd.R (Kd.int .i64) 3 w' w.heap.size (fun _ => True) v0_ (edited l0 a1 a2 a3) ∧ Below w.heap.size w w' := by
  have h0 : (a1 == 0) = false := beq_eq_false_iff_ne.2 ha
  have h1 : ((l0.length : Int) == 0) = false := beq_eq_false_iff_ne.2 (by omega)
  have h2 : (a1 == 2) = false := beq_eq_false_iff_ne.2 hb2
  obtain ⟨hl, hb⟩ := hok
  obtain ⟨r0, r1⟩ := around_range a2 (l0.length : Int) (by omega)
  have HA := Aside0.mk (fun W => around_calls a2 (l0.length : Int) W (by omega) hb)
  have HF : Aside0 (edited l0 a1 a2 a3 = cut_ l0 (around a2 l0.length).toNat) := ⟨by unfold edited; rw [if_neg ha, if_neg (by omega)]; rw [if_neg hb2]⟩
  clear hb ha hb2
  generalize around a2 (l0.length : Int) = q at *
  obtain ⟨m, rfl⟩ := Int.eq_ofNat_of_zero_le r0
  obtain ⟨hcut, hC⟩ := cut_take (k := .i64) Try.underlying22 info3 A0 c0 l0 m (by omega) hc0
  obtain ⟨A', hcut', hC', hc'⟩ := cut_drop (k := .i64) Try.underlying22 info3 A0 c0 l0 (m + 1) (by omega) hc0
  rw [show (((m + 1 : Nat) : Int)) = (m : Int) + 1 from by omega] at hcut'
  have HR := Aside0.mk hr0
  have HC := Aside0.mk hC
  have HC' := Aside0.mk hC'
  have HL := Aside0.mk (show (l0.take m).length = m by rw [List.length_take]; omega)
  clear hr0 hC hC' hpos
  have hml : m < l0.length := by omega
  clear r1 r0
  go_enter Try.func59, Try.ntmps59
  go_wp2_with (first | (go_at_call 18; refine (HA.out _).mono ?_; rintro e w' ⟨rfl, ⟨nd, rfl⟩⟩) | (at_builtin; refine Kd.R_append_rows (Kd.int .i64) (w0 := w) w.heap.size rfl (.tmp 40) (.tmp 43) 22 3 (.int .i64 0) 8 rfl Try.underlying22 info3 rfl (by decide) (by omega) (.slice none 0 0) ([] : List Int) (l0.take m) A0 m c0 (fun _ => True) (fun _ => False) rfl rfl (Kd.R_nil _ _ _ _ _) (HC.out _ (Kd.C_drewN HR.out nd)) (fun _ _ h => h) (fun _ h => h.elim) (fun _ _ => trivial) (pw_below_drewN (Below.refl _ _) nd) (Nat.le_refl _) (by simp only [List.length_nil]; omega) ?_; intro v1 w1 HO1 HB1 _ _; rw [List.nil_append] at HO1; have HO1 := Aside0.mk HO1; have HB1 := Aside0.mk HB1) | (at_builtin; refine Kd.R_append_rows (Kd.int .i64) (w0 := w) w.heap.size rfl (.tmp 51) (.tmp 55) 22 3 (.int .i64 0) 8 rfl Try.underlying22 info3 rfl (by decide) (by omega) v1 (l0.take m) (l0.drop (m + 1)) A' (l0.length - (m + 1)) (c0 - (m + 1)) (fun _ => True) (fun _ => False) rfl rfl HO1.out (HC'.out _ (Kd.C_below HR.out HB1.out)) (fun _ _ h => h) (fun _ h => h.elim) (fun _ _ => trivial) HB1.out HB1.out.size (by have := HL.out; omega) ?_; intro v3 w3 HO3 HB3 _ _; have HO3 := Aside0.mk HO3; have HB3 := Aside0.mk HB3))
  go_ret
  exact ⟨_, rfl, by rw [HF.out, cut_, Int.toNat_natCast]; simpa using HO3.out, HB3.out⟩
set_option maxHeartbeats 4000000 in
set_option maxRecDepth 100000 in
theorem edited_none (A0 : Option Addr) (c0 : Nat) (l0 : List Int) (a1 a2 a3 : Int) (w : World) (hr0 : Kd.C (Kd.int .i64) w A0 l0.length l0) (hc0 : l0.length ≤ c0) (hok : editOk l0 a2) (ha : ¬ a1 = 0) (hpos : l0.length = 0) :
    Calls Try.prog 59 #[.slice A0 l0.length c0, .int .i64 a1, .int .i64 a2, .int .i64 a3] w fun e w' => ∃ v0_ : Value, e = .returned (v0_) ∧ Kd.R (Kd.int .i64) 3 w' w.heap.size (fun _ => True) v0_ (edited l0 a1 a2 a3) ∧ Below w.heap.size w w' := by
  have h0 : (a1 == 0) = false := beq_eq_false_iff_ne.2 ha
  have HF : Aside0 (edited l0 a1 a2 a3 = []) := ⟨by unfold edited; rw [if_neg ha, if_pos hpos]⟩
  obtain rfl := List.eq_nil_of_length_eq_zero hpos
  clear ha hpos hok hr0
  go_enter Try.func59, Try.ntmps59
  go_wp2
  go_ret
  exact ⟨_, rfl, by rw [HF.out]; exact Kd.R_nil _ _ _ _ _, Below.refl _ _⟩
theorem wordbookref16_Edited.calls (A0 : Option Addr) (c0 : Nat) (l0 : List Int) (a1 : Int) (a2 : Int) (a3 : Int) (r : List Int) (w : World) (hr0 : Kd.C (Kd.int .i64) w A0 l0.length l0) (hc0 : l0.length ≤ c0) (h : wordbookref16_Edited.f l0 a1 a2 a3 = some r) :
    Calls Try.prog 59 #[.slice A0 l0.length c0, .int .i64 a1, .int .i64 a2, .int .i64 a3] w fun e w' => ∃ v0_ : Value, e = .returned (v0_) ∧ Kd.R (Kd.int .i64) 3 w' w.heap.size (fun _ => True) v0_ r ∧ Below w.heap.size w w' := by
  unfold wordbookref16_Edited.f at h
  split at h
  case isFalse => cases h
  case isTrue hok =>
  obtain rfl := Option.some.inj h
  by_cases h0 : a1 = 0
  · subst h0; exact edited_put A0 c0 l0 a2 a3 w hr0 hc0 hok
  · rcases Nat.eq_zero_or_pos l0.length with hz | hp
    · exact edited_none A0 c0 l0 a1 a2 a3 w hr0 hc0 hok h0 hz
    · by_cases h2 : a1 = 2
      · exact edited_set A0 c0 l0 a1 a2 a3 w hr0 hc0 hok h0 hp h2
      · exact edited_cut A0 c0 l0 a1 a2 a3 w hr0 hc0 hok h0 hp h2
end Go.Proofs.Ytcdjeimjbbknjaa.PAll
namespace Go.Proofs.Ytcdjeimjbbknjaa.PAll
open Go.RowKit Go.Proofs.YtcdjeimjbbknjaaW.PrintWords Go.Proofs.YtcdjeimjbbknjaaW.PrintLast Go.Proofs.YtcdjeimjbbknjaaW.PrintMore Go.Proofs.Ytcdjeimjbbknjaa.Lev
set_option linter.unusedVariables false
set_option linter.unusedSimpArgs false

theorem upTo_row (w : List Int) : upTo (w.length + 1) = rowOf [] w := (rowOf_first w).symm
theorem rowOf_ok (r w : List Int) (h : r.length ≤ 1000000 ∧ w.length ≤ 1000000) : rowOk (rowOf r w) w := by
  refine ⟨rowOf_length r w, by rw [rowOf_length]; omega, fun x hx => ?_⟩
  have := rowOf_bound r w x hx
  omega
theorem distance_tells (v w : List Int) (hv : v.length ≤ 1000000) (hw : w.length ≤ 1000000) (d : Nat) : ∀ (k i : Nat), v.length - i = d → i ≤ v.length → d < k →
    fuzzy_Distance.l0 k w (rowOf (v.take i).reverse w) v (v.length : Int) (i : Int) = some ((lev v w : Nat) : Int) := by
  induction d with
  | zero =>
    intro k i hd hi hk
    obtain ⟨k, rfl⟩ : ∃ m, k = m + 1 := ⟨k - 1, by omega⟩
    obtain rfl : i = v.length := by omega
    simp only [fuzzy_Distance.l0]
    rw [if_neg (by omega), if_pos (by omega), if_pos (by rw [rowOf_length]; omega), List.take_length, rd_nat, rowOf_at _ _ _ (Nat.le_refl _), List.take_length, lev_reverse]
  | succ d ih =>
    intro k i hd hi hk
    obtain ⟨k, rfl⟩ : ∃ m, k = m + 1 := ⟨k - 1, by omega⟩
    simp only [fuzzy_Distance.l0]
    rw [if_pos (by omega), if_pos (by omega), if_pos (by omega)]
    unfold fuzzy_row.f
    rw [if_pos (rowOf_ok _ _ ⟨by rw [List.length_reverse, List.length_take]; omega, hw⟩), Option.bind_some, rowOf_next, wrap_succ (by omega) (by omega)]
    have h1 : (v.take (i + 1)).reverse = rd v i :: (v.take i).reverse := by
      rw [List.take_succ_eq_append_getElem (by omega : i < v.length), List.reverse_append, rd_nat, List.getD_eq_getElem?_getD, List.getElem?_eq_getElem (by omega : i < v.length)]; rfl
    have := ih k (i + 1) (by omega) (by omega) (by omega)
    rw [h1] at this
    rwa [show ((i + 1 : Nat) : Int) = (i : Int) + 1 from by omega] at this
theorem distance_is (v w : List Int) (hv : v.length ≤ 1000000) (hw : w.length ≤ 1000000) (k : Nat) (hk : v.length < k) : fuzzy_Distance.f k v w = some ((lev v w : Nat) : Int) := by
  unfold fuzzy_Distance.f fuzzy_first.f
  rw [if_pos (by omega), Option.bind_some, upTo_row]
  have := distance_tells v w hv hw v.length k 0 (by omega) (by omega) hk
  simpa using this
theorem within_is (v w : List Int) (hv : v.length ≤ 1000000) (hw : w.length ≤ 1000000) (k : Nat) (hk : v.length < k) (m : Int) : fuzzy_Within.f k v w m = some (decide (((lev v w : Nat) : Int) ≤ m)) := by
  unfold fuzzy_Within.f
  rw [distance_is v w hv hw k hk]; rfl
/-- A word of law 16. -/
def wordL (l : List Int) : List Int := (l.take 10).map fun x => around x 4
theorem wordL_length (l : List Int) : (wordL l).length ≤ 10 := by simp [wordL]; omega
theorem word_tells (l : List Int) (hl : l.length ≤ 9223372036854775807) (hx : ∀ x ∈ l, -9223372036854775808 ≤ x ∧ x ≤ 9223372036854775807) (d : Nat) : ∀ (k i : Nat), 11 - i = d → i ≤ 10 → i ≤ l.length → d < k →
    wordbooklaw16_word.l0 k l ((l.take i).map fun x => around x 4) (i : Int) = some (wordL l) := by
  induction d with
  | zero => intro k i hd hi _ hk; omega
  | succ d ih =>
    intro k i hd hi hil hk
    obtain ⟨k, rfl⟩ : ∃ m, k = m + 1 := ⟨k - 1, by omega⟩
    simp only [wordbooklaw16_word.l0]
    by_cases h1 : i < l.length
    · rw [if_pos (by omega)]
      by_cases h2 : i < 10
      · rw [if_pos (by omega), if_pos (by omega)]
        have hm : rd l i ∈ l := by rw [rd_nat, List.getD_eq_getElem?_getD, List.getElem?_eq_getElem h1]; exact List.getElem_mem h1
        rw [around_is (rd l i) 4 (by decide) (hx _ hm), Option.bind_some, if_pos (by rw [List.length_map, List.length_take]; omega), wrap_succ (by omega) (by omega)]
        have := ih k (i + 1) (by omega) (by omega) (by omega) (by omega)
        rw [List.take_succ_eq_append_getElem h1, List.map_append] at this
        rw [rd_nat, List.getD_eq_getElem?_getD, List.getElem?_eq_getElem h1, Option.getD_some]
        rwa [show ((i + 1 : Nat) : Int) = (i : Int) + 1 from by omega] at this
      · obtain rfl : i = 10 := by omega
        rw [if_neg (by omega)]; rfl
    · obtain rfl : i = l.length := by omega
      rw [if_neg (by omega), wordL, List.take_length, List.take_of_length_le hi]
theorem word_is (l : List Int) (hl : l.length ≤ 9223372036854775807) (hx : ∀ x ∈ l, -9223372036854775808 ≤ x ∧ x ≤ 9223372036854775807) (k : Nat) (hk : 11 < k) : wordbooklaw16_word.f k l = some (wordL l) := by
  have := word_tells l hl hx 11 k 0 (by omega) (by omega) (by omega) hk
  simpa [wordbooklaw16_word.f] using this
theorem wf_int {x : Int} (h : (Lit.int .i64 x).wf = true) : -9223372036854775808 ≤ x ∧ x ≤ 9223372036854775807 := by
  simp only [Lit.wf, Bool.and_eq_true, decide_eq_true_eq] at h
  exact h
end Go.Proofs.Ytcdjeimjbbknjaa.PAll
namespace Go.Proofs.Ytcdjeimjbbknjaa.PAll
open Go.RowKit Go.Proofs.YtcdjeimjbbknjaaW.PrintWords Go.Proofs.YtcdjeimjbbknjaaW.PrintLast Go.Proofs.YtcdjeimjbbknjaaW.PrintMore Go.Proofs.Ytcdjeimjbbknjaa.Lev
set_option linter.unusedVariables false
set_option linter.unusedSimpArgs false

theorem compare16_tells (a b : List Int) (ha : a.length ≤ 1000000000) (d : Nat) : ∀ (k i : Nat), a.length - i = d → i ≤ a.length → i ≤ b.length → 2 * d + 1 < k →
    wordbookref16_Compare.l0 k a b (i : Int) = some (cmpL (a.drop i) (b.drop i)) := by
  induction d with
  | zero =>
    intro k i hd hi hib hk
    obtain ⟨k, rfl⟩ : ∃ m, k = m + 1 + 1 := ⟨k - 2, by omega⟩
    simp only [wordbookref16_Compare.l0, wordbookref16_Compare.j1]
    rw [if_neg (by omega), if_neg (by simp), List.drop_of_length_le (by omega : a.length ≤ i)]
    by_cases hb : i < b.length
    · rw [if_pos (by omega), rd_drop hb]; rfl
    · rw [if_neg (by omega), if_neg (by omega), List.drop_of_length_le (by omega : b.length ≤ i)]; rfl
  | succ d ih =>
    intro k i hd hi hib hk
    obtain ⟨k, rfl⟩ : ∃ m, k = m + 1 + 1 := ⟨k - 2, by omega⟩
    simp only [wordbookref16_Compare.l0, wordbookref16_Compare.j1]
    rw [if_pos (by omega), rd_drop (by omega : i < a.length)]
    by_cases hb : i < b.length
    · have hd1 : decide ((i : Int) < (b.length : Int)) = true := decide_eq_true (by omega)
      rw [hd1, if_pos rfl, if_pos (by omega), if_pos (by omega), if_pos (by omega), rd_drop hb]
      simp only [cmpL]
      by_cases h1 : rd a i < rd b i
      · rw [if_pos h1, if_pos h1]
      · rw [if_neg h1, if_neg h1]
        by_cases h2 : rd b i < rd a i
        · rw [if_pos h2, if_pos h2]
        · rw [if_neg h2, if_neg h2, wrap_succ (by omega) (by omega)]
          have := ih k (i + 1) (by omega) (by omega) (by omega) (by omega)
          rwa [show (((i + 1 : Nat) : Int)) = (i : Int) + 1 from by omega] at this
    · have hd1 : decide ((i : Int) < (b.length : Int)) = false := decide_eq_false (by omega)
      rw [hd1, if_neg (by decide), if_neg (by omega), if_pos (by omega), List.drop_of_length_le (by omega : b.length ≤ i)]; rfl
theorem compare16_is (a b : List Int) (ha : a.length ≤ 1000000000) (k : Nat) (hk : 2 * a.length + 1 < k) : wordbookref16_Compare.f k a b = some (cmpL a b) := by
  have := compare16_tells a b ha a.length k 0 (by omega) (by omega) (by omega) hk
  simpa [wordbookref16_Compare.f] using this
theorem cmpL_zero : ∀ a b : List Int, cmpL a b = 0 ↔ a = b := by
  intro a
  induction a with
  | nil => intro b; cases b <;> simp [cmpL]
  | cons x a ih =>
    intro b
    cases b with
    | nil => simp [cmpL]
    | cons y b =>
      simp only [cmpL, List.cons.injEq]
      by_cases h1 : x < y
      · rw [if_pos h1]; constructor
        · intro h; simp at h
        · rintro ⟨h, _⟩; omega
      · rw [if_neg h1]
        by_cases h2 : y < x
        · rw [if_pos h2]; constructor
          · intro h; simp at h
          · rintro ⟨h, _⟩; omega
        · rw [if_neg h2, ih b]
          exact ⟨fun h => ⟨by omega, h⟩, fun h => h.2⟩
end Go.Proofs.Ytcdjeimjbbknjaa.PAll
