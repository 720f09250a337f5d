import Derived.StillTailTactics
import Derived.Deep.CutBlock
import Derived.Deep.RegionLaw
import Derived.BigRegion
import Derived.IntWalk
import Derived.BigQuiet
import Derived.Test.YtcdjeimjbbknjaaDm4
namespace Go.Proofs.Ytcdjeimjbbknjaa.PAll
open Go.RowKit Go.Maps Go.Proofs.YtcdjeimjbbknjaaW.PrintWords Go.Proofs.YtcdjeimjbbknjaaW.PrintLast Go.Proofs.YtcdjeimjbbknjaaW.PrintMore
set_option linter.unusedVariables false
set_option linter.unusedSimpArgs false

def ExNext (w : World) (N : Nat) (nx : List (List Int)) (p1 p2 p3 : Value) : Prop := ∀ W, Below w.heap.size w W → ∀ i s : Nat, i < N → s < 64 → Calls Try.prog 92 #[.int .i64 (i : Int), .int .i64 (s : Int), p1, p2, p3] W fun e w' => e = .returned (.int .i64 (goA nx i s)) ∧ Below W.heap.size W w'
def ExFin (w : World) (N : Nat) (p2 p3 : Value) : Prop := ∀ W, Below w.heap.size w W → ∀ i : Nat, i < N → Calls Try.prog 93 #[.int .i64 (i : Int), p2, p3] W fun e w' => ∃ b : Bool, e = .returned (.bool b) ∧ Below W.heap.size W w'
set_option maxHeartbeats 4000000 in
set_option maxRecDepth 100000 in
theorem explore_any {w : World} {N : Nat} {nx : List (List Int)} {fin : List Bool} (p1 p2 p3 : Value) (hD : DfaOk N nx fin) (hR : Reach N nx) (hN : ExNext w N nx p1 p2 p3) (hF : ExFin w N p2 p3) :
    Calls Try.prog 91 #[.int .i64 0, .int .i64 64, .func (.func 92) #[] #[p1, p2, p3], .func (.func 93) #[] #[p2, p3]] w fun e w' => ∃ (A B : Option Addr) (n c d : Nat), e = .returned (.tuple #[.agg #[.int .i64 64, .slice A N c, .slice B n d], .bool true]) ∧ Below w.heap.size w w' := by
 have hmm := @run_makeMap Try.prog
 have hpos := hD.pos
 have hfew := hD.few
 have hmk : ∀ W : World, (Instr.makeSlice 22 (.int .i64 64) (.int .i64 64)).run Try.prog W = .ok (.slice (some ⟨W.heap.size, 0, none⟩) 64 64) (W.alloc (.cells (madeCells #[.int .i64 0] 64) 3)) := print_make_of (P := Try.prog) 22 3 (.int .i64 0) 8 Try.underlying22 info3 rfl (by omega) 64 (by omega)
 obtain ⟨wm, hwm⟩ : ∃ wm, wm = (w.alloc (.cells #[.int .i64 0, .slice none 0 0, .slice none 0 0] 68)).alloc (.cells #[.int .i64 64, .slice none 0 0, .slice none 0 0] 68) := ⟨_, rfl⟩
 have hsz : wm.heap.size = w.heap.size + 1 + 1 := by rw [hwm]; simp
 obtain ⟨W1, hup, hm1, hg1⟩ := (MapHas.made (K := 3) wm litI_key).update (t := 150) law_int Try.underlying150 (by decide) 0 (.int .i64 0) (keyI (by omega) (by omega)) litI_key litI_inj 0 (by decide)
 rw [hsz] at hm1
 rw [hsz, hwm] at hup hg1
 have HS := Aside0.mk (exp_start w W1 0 hm1 hg1)
 have HD := Aside0.mk hD
 have HR := Aside0.mk hR
 have HN := Aside0.mk hN
 have HF := Aside0.mk hF
 clear hm1 hg1 hwm hsz hD hR hN hF
 go_enter Try.func91, Try.ntmps91
 go_wp2
 generalize hW2 : W1.alloc (.cells #[.int .i64 0] 3) = W2 at *
 clear hup hW2
 generalize hgl : W1.heap.size = gl at *
 clear hgl
 go_loopw [12, 13] (fun s12 s13 wr => ∃ (i : Nat) (vn vf : Value) (o : List Int) (xn : List Hd) (xf : List Bool), s13 = .int .i64 (i : Int) ∧ Aside0 (Exp w wr (w.heap.size + 1 + 1) (w.heap.size + 1) w.heap.size s12 vn vf o xn xf ∧ OrdOk N o ∧ (0 : Int) ∈ o ∧ i ≤ o.length ∧ xn.length = i ∧ xf.length = i ∧ ∀ j : Nat, j < i → ∀ k ∈ rdR nx (rd o j), k ∈ o)) (fun _ s13 _ => N + 1 - (intOf s13).toNat)
 case atStart => exact ⟨0, _, _, _, _, _, rfl, ⟨HS.out, ⟨by simp, fun k hk => by rw [List.mem_singleton.1 hk]; omega⟩, by simp, Nat.zero_le _, rfl, rfl, fun j hj => by omega⟩⟩
 case round =>
  clear HS
  obtain ⟨i, vn, vf, o, xn, xf, rfl, hH⟩ := hrel
  obtain ⟨hE, hord, h0o, hi, hxn, hxf, hsucc⟩ := hH.out
  obtain ⟨Ao, co, rfl⟩ := Kd.R_slice hE.list
  have hole := hord.le
  by_cases hlt : i < o.length
  ·
   obtain ⟨hk0, hk1⟩ := hord.lead _ (rd_mem hlt)
   obtain ⟨q, hq⟩ : ∃ q : Nat, rd o (i : Int) = (q : Int) := ⟨(rd o (i : Int)).toNat, by omega⟩
   have hqN : q < N := by omega
   have HQ := Aside0.mk hq
   have HIn0 := Aside0.mk hE.start
   have HOrd := Aside0.mk hord
   have HLt := Aside0.mk hlt
   have hgn := hE.below.size
   clear hE hH hord hi hq hk0 hk1
   have HX := Aside0.mk (show (0 : Int) ∈ o ∧ xn.length = i ∧ xf.length = i ∧ (∀ j : Nat, j < i → ∀ k ∈ rdR nx (rd o j), k ∈ o) from ⟨h0o, hxn, hxf, hsucc⟩)
   clear h0o hxn hxf hsucc
   generalize hgw : wr.heap.size = gn at *
   go_wp2
   clear hgw
   generalize wr.alloc (.cells (madeCells #[.int .i64 0] 64) 3) = Wa at *
   go_loopw [12, 36] (fun s12 s36 wq => ∃ (s : Nat) (o' r : List Int), s36 = .int .i64 (s : Int) ∧ s ≤ 64 ∧ Aside0 (ExpIn w wq (w.heap.size + 1 + 1) (w.heap.size + 1) w.heap.size gn s12 vn vf o' xn xf r ∧ OrdOk N o' ∧ (∃ tl, o' = o ++ tl) ∧ ∀ s' : Nat, s' < s → goA nx q s' ∈ o')) (fun _ s36 _ => 64 - (intOf s36).toNat)
   case atStart => exact ⟨0, o, _, rfl, by omega, ⟨HIn0.out, HOrd.out, ⟨[], by simp⟩, fun s' h => by omega⟩⟩
   case round =>
    clear HIn0
    obtain ⟨s, o', r, rfl, hs, hH⟩ := hrel
    obtain ⟨hIn, hord, ⟨tl, htl⟩, hsucc⟩ := hH.out
    by_cases hs64 : s < 64
    ·
     have hpre : rd o' (i : Int) = (q : Int) := by
      rw [← HQ.out, htl, rd_nat, rd_nat, List.getD_eq_getElem?_getD, List.getD_eq_getElem?_getD, List.getElem?_append_left HLt.out]
     have hlo : i < o'.length := by rw [htl, List.length_append]; have := HLt.out; omega
     have hle' := hord.le
     obtain ⟨Av, cv, hv, hlc, hCo⟩ := Kd.R_reads hIn.list
     obtain ⟨ado, hA, hxo⟩ := Kd.at_int hCo (i : Int) (by omega) (by omega)
     rw [Int.toNat_natCast, hpre] at hxo
     subst hv
     subst hA
     obtain ⟨k, hk⟩ : ∃ k : Nat, goA nx q s = (k : Int) := ⟨(goA nx q s).toNat, by
      have := rd_lead (HD.out.lead q hqN) (i := s) (by rw [HD.out.rows q hqN]; exact hs64)
      have e : goA nx q s = rd (rdR nx (q : Int)) (s : Int) := rfl
      omega⟩
     have hkN : k < N := by
      have := rd_lead (HD.out.lead q hqN) (i := s) (by rw [HD.out.rows q hqN]; exact hs64)
      have e : goA nx q s = rd (rdR nx (q : Int)) (s : Int) := rfl
      omega
     have HNx := HN.out wr hIn.below q s hqN hs64
     rw [hk] at HNx
     have HNx := Aside0.mk HNx
     have hsucc' : ∀ ob : List Int, (∀ x ∈ o', x ∈ ob) → (k : Int) ∈ ob → ∀ s' : Nat, s' < s + 1 → goA nx q s' ∈ ob := fun ob h1 h2 s' hs' => by
      rcases Nat.lt_or_ge s' s with h | h
      ·
       exact h1 _ (hsucc s' h)
      ·
       obtain rfl : s' = s := by omega
       rw [hk]; exact h2
     have HSucc := Aside0.mk hsucc'
     have HOrd' := Aside0.mk hord
     have HTl := Aside0.mk htl
     have HIn := Aside0.mk hIn
     clear hH hIn hord htl hsucc hsucc' hk hpre hCo HOrd
     cases hp : posF o' (k : Int) with
     | some p =>
      have hmem : (k : Int) ∈ o' := posF_mem.1 (by rw [hp]; rfl)
      have HP := Aside0.mk hp
      have HMem := Aside0.mk hmem
      clear hp hmem
      go_wp2_with (go_at_call 92; ((with_reducible refine HNx.out.mono ?_); rintro e w1 ⟨rfl, hb1⟩; have HIn1 := Aside0.mk (HIn.out.step hb1); clear hb1; have hlk := HIn1.out.map.lookup (t := 150) law_int Try.underlying150 (k : Int) (.int .i64 (k : Int)) (keyI (by omega) (by omega)); rw [HP.out] at hlk; obtain ⟨hz0, hz1⟩ := own_at_of (d := (0 : Int)) HIn1.out.row (s : Int) (by omega) (by omega); rw [Int.toNat_natCast] at hz0 hz1))
      go_roundw
      case rel => exact ⟨s + 1, o', _, by go_num, by omega, ⟨HIn1.out.put s p, HOrd'.out, ⟨tl, HTl.out⟩, HSucc.out o' (fun _ h => h) HMem.out⟩⟩
      case measure => simp [intOf]; omega
     | none =>
      have hnm : (k : Int) ∉ o' := fun h => by have := posF_mem.2 h; rw [hp] at this; cases this
      have HOrd2 : Aside0 (OrdOk N (o' ++ [(k : Int)])) := ⟨by have := HOrd'.out.ord1 (k := (k : Int)) ⟨by omega, by omega⟩; rw [ord1, hp] at this; simpa using this⟩
      have hle2 := HOrd2.out.le
      rw [List.length_append, List.length_singleton] at hle2
      have hd : ((o'.length : Int) == 2048) = false := by simp; omega
      have HP := Aside0.mk hp
      clear hp hnm
      go_wp2_with (first
       | (go_at_call 92; ((with_reducible refine HNx.out.mono ?_); rintro e w1 ⟨rfl, hb1⟩; have HIn1 := Aside0.mk (HIn.out.step hb1); clear hb1; have hlk := HIn1.out.map.lookup (t := 150) law_int Try.underlying150 (k : Int) (.int .i64 (k : Int)) (keyI (by omega) (by omega)); rw [HP.out] at hlk; obtain ⟨W2, hup2, hm2, hg2⟩ := HIn1.out.map.update (t := 150) law_int Try.underlying150 (by simp only [maxLen]; omega) (k : Int) (.int .i64 (k : Int)) (keyI (by omega) (by omega)) litI_key litI_inj (o'.length : Int) (wfI (by omega) (by omega)); have HPUSH := Aside0.mk (fun (v3 : Value) (w3 : World) => HIn1.out.push (v1 := v3) (w3 := w3) (k : Int) HP.out hg2 hm2); have HB2 : Aside0 (Below w.heap.size w W2) := ⟨HIn1.out.below.grown hg2 HIn1.out.below.size (fun k e => by obtain rfl := Option.some.inj e; exact HIn1.out.lm)⟩; have HRow2 : Aside0 (Kd.R (Kd.int .i64) 3 W2 w.heap.size (fun _ => True) (.slice (some ado) o'.length cv) o') := ⟨Kd.R_grown2 HIn1.out.list rfl hg2 fun k e => by obtain rfl := Option.some.inj e; exact R_nemap HIn1.out.list HIn1.out.map⟩; clear hm2 hg2))
       | (at_builtin; refine Kd.R_append (Kd.int .i64) (w0 := w) w.heap.size rfl (.tmp 62) (.tmp 64) 22 3 (.int .i64 0) 8 rfl Try.underlying22 info3 rfl (by decide) (by omega) (.slice (some ado) o'.length cv) o' (k : Int) [.int .i64 (k : Int)] (fun _ => True) (fun _ => False) rfl rfl rfl (fun _ h => h.elim) (fun _ _ => trivial) HRow2.out HB2.out HB2.out.size (by omega) ?_; intro v3 w3 HO3 HB3 HG3 hown3; have hIn3 := HPUSH.out v3 w3 HO3 HB3 HG3 hown3; obtain ⟨hz0, hz1⟩ := own_at_of (d := (0 : Int)) hIn3.row (s : Int) (by omega) (by omega); rw [Int.toNat_natCast] at hz0 hz1; have HIn3 := Aside0.mk hIn3; clear hIn3 HO3 HB3 HG3 hown3)
       | fail)
      go_roundw
      case rel => exact ⟨s + 1, o' ++ [(k : Int)], _, by go_num, by omega, ⟨HIn3.out.put s _, HOrd2.out, ⟨tl ++ [(k : Int)], by rw [HTl.out, List.append_assoc]⟩, HSucc.out _ (fun _ h => List.mem_append_left _ h) (by simp)⟩⟩
      case measure => simp [intOf]; omega
    ·
     obtain rfl : s = 64 := by omega
     have hE := hIn.toExp
     have hpre : ∀ j : Nat, j < o.length → rd o' (j : Int) = rd o (j : Int) := fun j hj => by
      rw [htl, rd_nat, rd_nat, List.getD_eq_getElem?_getD, List.getD_eq_getElem?_getD, List.getElem?_append_left hj]
     have hlo : i < o'.length := by rw [htl, List.length_append]; have := HLt.out; omega
     have hle' := hord.le
     obtain ⟨h0o, hxn, hxf, hsu⟩ := HX.out
     have HNew : Aside0 (OrdOk N o' ∧ (0 : Int) ∈ o' ∧ i + 1 ≤ o'.length ∧ ∀ j : Nat, j < i + 1 → ∀ k ∈ rdR nx (rd o' j), k ∈ o') := ⟨hord, by rw [htl]; exact List.mem_append_left _ h0o, by omega, fun j hj k hk => by
      rcases Nat.lt_or_ge j i with h | h
      ·
       rw [hpre j (by have := HLt.out; omega)] at hk
       rw [htl]; exact List.mem_append_left _ (hsu j h k hk)
      ·
       obtain rfl : j = i := by omega
       rw [hpre j HLt.out, HQ.out] at hk
       obtain ⟨s', hs', rfl⟩ := List.mem_iff_getElem.1 hk
       rw [HD.out.rows q hqN] at hs'
       have := hsucc s' hs'
       rwa [show goA nx q s' = (rdR nx (q : Int))[s'] from rd_getA _] at this⟩
     have hpq : rd o' (i : Int) = (q : Int) := (hpre i HLt.out).trans HQ.out
     obtain ⟨Av, cv, hv, hlc, hCo⟩ := Kd.R_reads hE.list
     obtain ⟨ado, hA, _⟩ := Kd.at_int hCo (i : Int) (by omega) (by omega)
     subst hv
     subst hA
     obtain ⟨An, cn, rfl⟩ := Kd.R_slice hE.nxt
     obtain ⟨Af, cf, rfl⟩ := Kd.R_slice hE.fins
     have t1 : wr.cell? ⟨w.heap.size + 1, 1, none⟩ = some (.slice An xn.length cn) := (blk_cell hE.dfa 1).trans rfl
     have HE := Aside0.mk hE
     have HXN := Aside0.mk (show xn.length ≤ 2048 ∧ xf.length ≤ 2048 ∧ xn.length = i ∧ xf.length = i from by omega)
     have HPq := Aside0.mk hpq
     have HLo := Aside0.mk hlo
     clear hH hIn hord htl hsucc hE hpre h0o hxn hxf hsu hCo HX HQ hpq
     go_upto_region 22 with (first
      | (at_builtin; refine Kd.R_append slV (w0 := w) w.heap.size rfl (.tmp 72) (.tmp 74) 23 22 (.slice none 0 0) 24 rfl Try.underlying23 info22 rfl (by decide) (by omega) (.slice An xn.length cn) xn (some ⟨gn, 0, none⟩, 64, 64) [.slice (some ⟨gn, 0, none⟩) 64 64] (fun _ => True) (fun _ => False) rfl rfl rfl (fun _ h => h.elim) (fun _ _ => trivial) HE.out.nxt HE.out.below HE.out.below.size (by have := HXN.out.1; omega) ?_; intro v3 wA HO3 HB3 HG3 hown3; have hnx := HE.out.next _ HO3 HB3 HG3; have u1 : wA.cell? ⟨w.heap.size + 1, 1, none⟩ = some (.slice An xn.length cn) := (blk_cell hnx.1 1).trans rfl; have u2 : wA.frozen? ⟨w.heap.size + 1, 1, none⟩ = false := (by simp [World.frozen?, hnx.1]); have HE2 := Aside0.mk hnx.2; clear hnx HB3 HG3 hown3; obtain ⟨A3, c3, rfl⟩ := Kd.R_slice HO3; clear HO3)
      | fail)
     obtain ⟨w3, hw3⟩ : ∃ w3, w3 = wA.setCell ⟨w.heap.size + 1, 1, none⟩ (.slice A3 (xn ++ [((some ⟨gn, 0, none⟩, 64, 64) : Hd)]).length c3) := ⟨_, rfl⟩
     rw [← hw3] at HE2
     rw [show (xn ++ [((some ⟨gn, 0, none⟩, 64, 64) : Hd)]).length = xn.length + 1 from by simp] at hw3
     rw [← hw3]
     clear hw3 u1 u2 t1
     have hxo3 : w3.cell? (ado.add i) = some (.int .i64 (q : Int)) := by
      obtain ⟨ad', hA', hx'⟩ := Kd.at_int (Kd.R_reads' HE2.out.list).2.2 (i : Int) (by omega) (by have := HLo.out; omega)
      injection hA' with hA'
      subst hA'
      rw [Int.toNat_natCast, HPq.out] at hx'
      exact hx'
     have ht3 : w3.cell? ⟨w.heap.size + 1, 2, none⟩ = some (.slice Af xf.length cf) := (blk_cell HE2.out.dfa 2).trans rfl
     have HSc : Aside0 (∀ X, Below w3.heap.size w3 X → X.cell? (ado.add i) = some (.int .i64 (q : Int)) ∧ X.cell? ⟨w.heap.size + 1, 2, none⟩ = some (.slice Af xf.length cf)) := ⟨fun X hb => ⟨pw_cell_below hb hxo3, pw_cell_below hb ht3⟩⟩
     have HFn : Aside0 (∀ X, Below w3.heap.size w3 X → Calls Try.prog 93 #[.int .i64 (q : Int), p2, p3] X fun e w' => ∃ b : Bool, e = .returned (.bool b) ∧ Below X.heap.size X w') := ⟨fun X hb => HF.out X (HE2.out.below.trans (hb.mono HE2.out.below.size)) q hqN⟩
     have ii0 : (0 : Int) ≤ (i : Int) := by omega
     have ii1 : (i : Int) < (o'.length : Int) := by have := HLo.out; omega
     go_region_law (first | (refine Kd.R_append_step Kd.bool (w0 := w) (W := w6) w.heap.size (by rfl) (.tmp 78) (.tmp 85) 30 4 (.bool false) 1 (by rfl) Try.underlying30 info4 rfl (by decide) (by omega) (.slice Af xf.length cf) xf b [.bool b] (fun _ => True) (fun _ => False) (by rfl) (by rfl) rfl (fun _ h => h.elim) (fun _ _ => trivial) (HE2.out.step hb6).fins (HE2.out.step hb6).below (HE2.out.step hb6).below.size (by have := HXN.out.2.1; omega) ?_; intro v4 wB HO4 HB4 HG4 hown4; have hnx := (HE2.out.step hb6).fin b HO4 HB4 HG4; have u1 : wB.cell? ⟨w.heap.size + 1, 2, none⟩ = some (.slice Af xf.length cf) := (blk_cell hnx.1 2).trans rfl; have u2 : wB.frozen? ⟨w.heap.size + 1, 2, none⟩ = false := (by simp [World.frozen?, hnx.1]); have HE3 := Aside0.mk hnx.2; clear hnx; obtain ⟨A4, c4, rfl⟩ := Kd.R_slice HO4) | (go_simp; go_at_call 93; refine (HFn.out _ (Below.refl _ _).drew).mono ?_; rintro e w6 ⟨b, rfl, hb6'⟩; have hb6 : Below w3.heap.size w3 w6 := (Below.refl _ _).drew.trans hb6'; have r6 := HSc.out _ hb6; have r7 : (w6.alloc (.cells #[.bool b] 4)).cell? ⟨w.heap.size + 1, 2, none⟩ = some (.slice Af xf.length cf) := (HSc.out _ (below_alloc hb6 _)).2) | fail)
     all_goals go_wp2
     all_goals
      have hE4 := HE3.out
      rw [show (xf ++ [b]).length = xf.length + 1 from by simp] at hE4
      have HE4 := Aside0.mk hE4
      clear hE4
      go_roundw
      case rel => exact ⟨i + 1, _, _, o', xn ++ [(some ⟨gn, 0, none⟩, 64, 64)], xf ++ [b], by go_num, ⟨HE4.out, HNew.out.1, HNew.out.2.1, HNew.out.2.2.1, by simp [HXN.out.2.2.1], by simp [HXN.out.2.2.2], HNew.out.2.2.2⟩⟩
      case measure => simp [intOf]; omega
  ·
   obtain rfl : i = o.length := by omega
   have hall : o.length = N := by
    have h1 := HR.out (fun x => x ∈ o) h0o fun a ha hin s hs => by
     obtain ⟨j, hj, hje⟩ := List.mem_iff_getElem.1 hin
     have := hsucc j hj (goA nx a s)
     rw [rd_getA hj, hje] at this
     exact this (rd_mem (by rw [HD.out.rows a ha]; exact hs))
    have h2 := len_sub (l := idN N) (m := o) (by
     unfold idN
     refine List.Pairwise.map _ (fun a b h e => h (by omega)) List.nodup_range) fun x hx => by
      obtain ⟨a, ha, rfl⟩ := List.mem_map.1 hx
      exact h1 a (List.mem_range.1 ha)
    rw [idN_len] at h2
    omega
   obtain ⟨An, cn, rfl⟩ := Kd.R_slice hE.nxt
   obtain ⟨Af, cf, rfl⟩ := Kd.R_slice hE.fins
   have t0 : wr.cell? ⟨w.heap.size + 1, 0, none⟩ = some (.int .i64 64) := (blk_cell hE.dfa 0).trans rfl
   have t1 : wr.cell? ⟨w.heap.size + 1, 1, none⟩ = some (.slice An xn.length cn) := (blk_cell hE.dfa 1).trans rfl
   have t2 : wr.cell? ⟨w.heap.size + 1, 2, none⟩ = some (.slice Af xf.length cf) := (blk_cell hE.dfa 2).trans rfl
   have f0 : ∀ i, wr.frozen? ⟨w.heap.size, i, none⟩ = false := fun i => by simp [World.frozen?, hE.res]
   have r0 : wr.cell? ⟨w.heap.size, 0, none⟩ = some (.int .i64 0) := (blk_cell hE.res 0).trans rfl
   have r1 : wr.cell? ⟨w.heap.size, 1, none⟩ = some (.slice none 0 0) := (blk_cell hE.res 1).trans rfl
   have r2 : wr.cell? ⟨w.heap.size, 2, none⟩ = some (.slice none 0 0) := (blk_cell hE.res 2).trans rfl
   have f1 := f0 0
   have f2 := f0 1
   have f3 := f0 2
   have HE := Aside0.mk hE
   have HXn := Aside0.mk (show xn.length = N by omega)
   clear hE hH f0 hxn hxf hsucc h0o hord hall
   go_wp2
   have hb := ((HE.out.below.setCell (p := ⟨w.heap.size, 0, none⟩) (Nat.le_refl _) (.int .i64 64)).setCell (p := ⟨w.heap.size, 1, none⟩) (Nat.le_refl _) (.slice An xn.length cn)).setCell (p := ⟨w.heap.size, 2, none⟩) (Nat.le_refl _) (.slice Af xf.length cf)
   refine bodyPost_ret (v := .tuple #[.agg #[.int .i64 64, .slice An xn.length cn, .slice Af xf.length cf], .bool true]) (by simp [results, Try.results91, go_sem, t0, t1, t2, f1, f2, f3, r0, r1, r2]) rfl ⟨An, Af, xf.length, cn, cf, by rw [HXn.out], hb⟩
end Go.Proofs.Ytcdjeimjbbknjaa.PAll
namespace Go.Proofs.Ytcdjeimjbbknjaa.PAll
open Go.RowKit Go.Maps Go.Proofs.YtcdjeimjbbknjaaW.PrintWords Go.Proofs.YtcdjeimjbbknjaaW.PrintLast Go.Proofs.YtcdjeimjbbknjaaW.PrintMore
set_option linter.unusedVariables false
set_option linter.unusedSimpArgs false

def downN (N m : Nat) : List Int := (List.range N).map fun j : Nat => if m ≤ j then (j : Int) else 0
theorem downN_len (N m : Nat) : (downN N m).length = N := by simp [downN]
theorem downN_set {N m : Nat} (h : m < N) : (downN N (m + 1)).set m (m : Int) = downN N m := by
 refine List.ext_getElem (by simp [downN]) fun j h1 h2 => ?_
 rw [List.getElem_set]
 simp only [downN, List.getElem_map, List.getElem_range]
 by_cases hj : m = j
 ·
  subst hj; simp
 ·
  rw [if_neg hj]
  by_cases h3 : m ≤ j
  ·
   rw [if_pos h3, if_pos (by omega)]
  ·
   rw [if_neg h3, if_neg (by omega)]
theorem downN_all (N : Nat) : downN N N = List.replicate N 0 := by
 refine List.ext_getElem (by simp [downN]) fun j h1 h2 => ?_
 simp only [downN, List.getElem_map, List.getElem_range, List.getElem_replicate]
 rw [if_neg (by rw [downN_len] at h1; omega)]
theorem downN_zero (N : Nat) : downN N 0 = idN N := by simp [downN, idN]
theorem idN_nil {v : Value} {N e base : Nat} {ok : Nat → Prop} {w : World} (h : Kd.R (Kd.int .i64) e w base ok v (idN N)) (hN : 0 < N) : ∃ g c, v = .slice (some ⟨g, 0, none⟩) N c ∧ ∀ i : Nat, i < N → w.cell? ⟨g, i, none⟩ = some (.int .i64 (i : Int)) := by
 obtain ⟨g, c, rfl, _, _, _, _⟩ := Kd.R_form h (by rw [idN_len]; exact hN)
 rw [idN_len] at h
 refine ⟨g, c, by rw [idN_len], fun i hi => ?_⟩
 obtain ⟨_, _, hC⟩ := Kd.R_reads' h
 obtain ⟨ad, hA, hx⟩ := Kd.at_int hC (i : Int) (by omega) (by rw [idN_len]; omega)
 injection hA with hA
 subst hA
 rw [rd_idN hi, Int.toNat_natCast, add_plain] at hx
 simpa using hx
structure MinSt (w2 wr : World) (N gc cc m : Nat) : Prop where
  below : Below w2.heap.size w2 wr
  boxC : wr.heap[w2.heap.size]? = some (.cells #[.slice (some ⟨gc, 0, none⟩) N cc] 22 (0, 0))
  boxF : wr.heap[w2.heap.size + 1 + 1]? = some (.cells #[.slice (some ⟨w2.heap.size + 1, 0, none⟩) N N] 22 (0, 0))
  row : wr.ownsRow w2.heap.size 3 1 (.slice (some ⟨w2.heap.size + 1, 0, none⟩) N N) N (encs (Value.int .i64) (downN N m))
theorem MinSt.put {w2 wr : World} {N gc cc k : Nat} (h : MinSt w2 wr N gc cc (k + 1)) (hk : k < N) : MinSt w2 (wr.setCell ⟨w2.heap.size + 1, k, none⟩ (.int .i64 (k : Int))) N gc cc k := by
 obtain ⟨h1, hg⟩ := own_store_of h.row (k : Int) (k : Int)
 rw [Int.toNat_natCast] at h1 hg
 rw [downN_set hk] at h1
 exact ⟨h.below.setCell (by simp) _, blk_grown h.boxC hg (by simp), blk_grown h.boxF hg (by simp), h1⟩
theorem MinSt.step {w2 wr W : World} {N gc cc m : Nat} (h : MinSt w2 wr N gc cc m) (hb : Below wr.heap.size wr W) : MinSt w2 W N gc cc m :=
  ⟨h.below.trans (hb.mono h.below.size), (hb.block _ (blk_lt h.boxC)).trans h.boxC, (hb.block _ (blk_lt h.boxF)).trans h.boxF, pw_own_below h.row hb⟩
set_option maxHeartbeats 4000000 in
set_option maxRecDepth 100000 in
theorem minA_any {w : World} {N : Nat} {nx : List (List Int)} {fin : List Bool} {A B : Option Addr} {ca cb : Nat} (hD : DfaAt w N nx fin A B ca cb) (hm : Minim N nx fin) (hr : Reach N nx) :
    Calls Try.prog 44 #[.agg #[.int .i64 64, .slice A N ca, .slice B N cb]] w fun e w' => ∃ (A' B' : Option Addr) (n c d : Nat), e = .returned (.agg #[.int .i64 64, .slice A' N c, .slice B' n d]) ∧ Below w.heap.size w w' := by
 have hpos := hD.ok.pos
 have hfew := hD.ok.few
 have hmk := print_make_of (P := Try.prog) 22 3 (.int .i64 0) 8 Try.underlying22 info3 rfl (by omega) N (by omega)
 have HD := Aside0.mk hD
 have HM := Aside0.mk hm
 have HR := Aside0.mk hr
 clear hD hm hr
 obtain ⟨W0, hW0⟩ : ∃ W0, W0 = (w.alloc (.cells #[.int .i64 64, .slice A N ca, .slice B N cb] 68)).alloc (.cells #[.int .i64 0, .slice none 0 0, .slice none 0 0] 68) := ⟨_, rfl⟩
 have hb0 : Below w.heap.size w W0 := by rw [hW0]; exact below_alloc (below_alloc (Below.refl _ _) _) _
 have HB0 := Aside0.mk hb0
 have HD0 := Aside0.mk (HD.out.below hb0)
 have HBx : Aside0 (W0.heap[w.heap.size]? = some (.cells #[.int .i64 64, .slice A N ca, .slice B N cb] 68 (0, 0))) := ⟨by
  rw [hW0]; exact ((below_alloc (Below.refl _ _) _).block _ (by simp)).trans (blk_new _ _)⟩
 have HRs : Aside0 (W0.heap[w.heap.size + 1]? = some (.cells #[.int .i64 0, .slice none 0 0, .slice none 0 0] 68 (0, 0))) := ⟨by
  have hs : (w.alloc (.cells #[.int .i64 64, .slice A N ca, .slice B N cb] 68)).heap.size = w.heap.size + 1 := by simp
  rw [hW0, ← hs]; exact blk_new _ _⟩
 go_enter Try.func44, Try.ntmps44
 go_upto_region 1 with fail
 rw [← hW0]
 clear hW0 hb0
 have x0 : W0.cell? ⟨w.heap.size, 0, none⟩ = some (.int .i64 64) := (blk_cell HBx.out 0).trans rfl
 have x1 : W0.cell? ⟨w.heap.size, 1, none⟩ = some (.slice A N ca) := (blk_cell HBx.out 1).trans rfl
 have x2 : W0.cell? ⟨w.heap.size, 2, none⟩ = some (.slice B N cb) := (blk_cell HBx.out 2).trans rfl
 go_upto_region 5 with (first
  | (go_at_call 43; ((with_reducible refine (valid_any HD0.out).mono ?_); rintro e w1 ⟨rfl, hb1⟩; have HD1 := Aside0.mk (HD0.out.below hb1); have HB1 := Aside0.mk (HB0.out.trans (hb1.mono HB0.out.size)); have y0 := pw_cell_below hb1 x0; have y1 := pw_cell_below hb1 x1; have y2 := pw_cell_below hb1 x2; have HBx1 := Aside0.mk ((hb1.block _ (blk_lt HBx.out)).trans HBx.out); have HRs1 := Aside0.mk ((hb1.block _ (blk_lt HRs.out)).trans HRs.out); clear hb1))
  | (go_at_call 90; ((with_reducible refine (classes_any HD1.out HM.out).mono ?_); rintro e w2 ⟨v2, rfl, hR2, hb2⟩; have HD2 := Aside0.mk (HD1.out.below hb2); have HB2 := Aside0.mk (HB1.out.trans (hb2.mono HB1.out.size)); have HBx2 := Aside0.mk ((hb2.block _ (blk_lt HBx1.out)).trans HBx1.out); have HRs2 := Aside0.mk ((hb2.block _ (blk_lt HRs1.out)).trans HRs1.out); obtain ⟨gc, cc, rfl, hcell⟩ := idN_nil hR2 hpos; have HC2 := Aside0.mk hcell; clear hb2 hR2 hcell))
  | fail)
 obtain ⟨W3, hW3⟩ : ∃ W3, W3 = ((w2.alloc (.cells #[.slice (some ⟨gc, 0, none⟩) N cc] 22)).alloc (.cells (madeCells #[.int .i64 0] N) 3)).alloc (.cells #[.slice (some ⟨w2.heap.size + 1, 0, none⟩) N N] 22) := ⟨_, rfl⟩
 have HS0 : Aside0 (MinSt w2 W3 N gc cc N) := ⟨by
  obtain ⟨wa, hwa⟩ : ∃ wa, wa = w2.alloc (.cells #[.slice (some ⟨gc, 0, none⟩) N cc] 22) := ⟨_, rfl⟩
  have sa : wa.heap.size = w2.heap.size + 1 := by rw [hwa]; simp
  have h1 := own_made_of (enc := Value.int .i64) (d := 0) wa w2.heap.size 3 N (by omega) (by omega)
  rw [sa] at h1
  rw [← hwa] at hW3
  have ra : wa.heap[w2.heap.size]? = some (.cells #[.slice (some ⟨gc, 0, none⟩) N cc] 22 (0, 0)) := by rw [hwa]; exact blk_new _ _
  have ba : Below wa.heap.size wa W3 := by rw [hW3]; exact below_alloc (below_alloc (Below.refl _ _) _) _
  have b2 : Below w2.heap.size w2 W3 := by rw [hW3, hwa]; exact below_alloc (below_alloc (below_alloc (Below.refl _ _) _) _) _
  refine ⟨b2, (ba.block _ (blk_lt ra)).trans ra, ?_, ?_⟩
  ·
   have sb : (wa.alloc (.cells (madeCells #[.int .i64 0] N) 3)).heap.size = w2.heap.size + 1 + 1 := by simp [sa]
   rw [hW3, ← sb]; exact blk_new _ _
  ·
   rw [downN_all, hW3]; exact own_alloc h1 _⟩
 rw [← hW3]
 clear hW3
 have hg2 := blk_lt HRs2.out
 have z3 : W3.cell? ⟨w2.heap.size, 0, none⟩ = some (.slice (some ⟨gc, 0, none⟩) N cc) := (blk_cell HS0.out.boxC 0).trans rfl
 go_wp2
 clear z3
 go_loopw [5] (fun s5 wr => ∃ (z : Int) (m : Nat), s5 = .int .i64 z ∧ Aside0 (z = (m : Int) - 1 ∧ m ≤ N) ∧ Aside0 (MinSt w2 wr N gc cc m)) (fun s5 _ => (intOf s5 + 1).toNat)
 case atStart => exact ⟨_, N, rfl, ⟨rfl, Nat.le_refl _⟩, HS0⟩
 case round =>
  clear HS0
  obtain ⟨z, m, rfl, hz, hS⟩ := hrel
  have z3 : wr.cell? ⟨w2.heap.size, 0, none⟩ = some (.slice (some ⟨gc, 0, none⟩) N cc) := (blk_cell hS.out.boxC 0).trans rfl
  have z4 : wr.cell? ⟨w2.heap.size + 1 + 1, 0, none⟩ = some (.slice (some ⟨w2.heap.size + 1, 0, none⟩) N N) := (blk_cell hS.out.boxF 0).trans rfl
  by_cases hz0 : 0 ≤ z
  ·
   obtain ⟨k, rfl⟩ : ∃ k : Nat, z = (k : Int) := ⟨z.toNat, by omega⟩
   have hkm : m = k + 1 ∧ k < N := by have := hz.out; omega
   obtain ⟨rfl, hkN⟩ := hkm
   have z5 : wr.cell? ⟨gc, k, none⟩ = some (.int .i64 (k : Int)) := pw_cell_below hS.out.below (HC2.out k hkN)
   obtain ⟨z6, z7⟩ := own_at_of (d := (0 : Int)) hS.out.row (k : Int) (by omega) (by omega)
   rw [Int.toNat_natCast] at z6 z7
   have hst := hS.out.put hkN
   have HSt := Aside0.mk hst
   have k0 : (0 : Int) ≤ (k : Int) := by omega
   have k1 : (k : Int) < (N : Int) := by omega
   clear hst hz
   go_wp2
   go_region
   all_goals go_wp2
   all_goals
    go_roundw
    case rel => exact ⟨_, k, rfl, ⟨by first | rfl | omega, by omega⟩, ⟨HSt.out.step (Below.refl _ _).drew⟩⟩
    case measure => simp [intOf]
  ·
   obtain rfl : m = 0 := by have := hz.out; omega
   have hMB : MinBox wr N nx fin A B ca cb cc w2.heap.size w.heap.size (w2.heap.size + 1 + 1) gc (w2.heap.size + 1) :=
    ⟨HD2.out.below hS.out.below, hS.out.boxC, (hS.out.below.block _ (blk_lt HBx2.out)).trans HBx2.out, hS.out.boxF, fun i hi => pw_cell_below hS.out.below (HC2.out i hi), fun i hi => by
     have h1 := hS.out.row
     rw [downN_zero] at h1
     have h2 := (own_at_of (d := (0 : Int)) h1 (i : Int) (by omega) (by omega)).1
     rw [Int.toNat_natCast] at h2
     rw [h2, show rdOf (0 : Int) (idN N) (i : Int) = rd (idN N) (i : Int) from rfl, rd_idN hi]⟩
   have HEx : Aside0 (∀ X, Below wr.heap.size wr X → Calls Try.prog 91 #[.int .i64 0, .int .i64 64, .func (.func 92) #[] #[.pointer (some ⟨w2.heap.size, 0, none⟩), .pointer (some ⟨w.heap.size, 0, none⟩), .pointer (some ⟨w2.heap.size + 1 + 1, 0, none⟩)], .func (.func 93) #[] #[.pointer (some ⟨w.heap.size, 0, none⟩), .pointer (some ⟨w2.heap.size + 1 + 1, 0, none⟩)]] X fun e w' => ∃ (A B : Option Addr) (n c d : Nat), e = .returned (.tuple #[.agg #[.int .i64 64, .slice A N c, .slice B n d], .bool true]) ∧ Below X.heap.size X w') :=
    ⟨fun X hb => explore_any (fin := fin) _ _ _ HD.out.ok HR.out (fun W hW i s hi hs => min1_any ((hMB.below hb).below hW) i s hi hs) (fun W hW i hi => min2_any ((hMB.below hb).below hW) i hi)⟩
   have q0 : wr.cell? ⟨gc, 0, none⟩ = some (.int .i64 0) := hMB.rowC 0 hpos
   have q1 : wr.cell? ⟨w.heap.size, 0, none⟩ = some (.int .i64 64) := (blk_cell hMB.boxD 0).trans rfl
   have HRr := Aside0.mk ((hS.out.below.block _ (blk_lt HRs2.out)).trans HRs2.out)
   have HBw := Aside0.mk (HB2.out.trans (hS.out.below.mono HB2.out.size))
   have n0 : (0 : Int) < (N : Int) := by omega
   clear hMB hS hz y0 y1 y2 x0 x1 x2 z4
   go_upto_region 9 with fail
   go_cut [6, 7] from 31 to 41 (fun s6 s7 wx => ∃ (g6 : Nat) (A' B' : Option Addr) (n c d : Nat), s6 = .pointer (some ⟨g6, 0, none⟩) ∧ s7 = .bool true ∧ Aside0 (wx.heap[g6]? = some (.cells #[.int .i64 64, .slice A' N c, .slice B' n d] 68 (0, 0))) ∧ Aside0 (Below wr.heap.size wr wx))
   case first =>
    have a0 := pw_cell_below (below_alloc (Below.refl _ wr) (.cells #[.int .i64 0, .slice none 0 0, .slice none 0 0] 68)) q0
    have a1 := pw_cell_below (below_alloc (Below.refl _ wr) (.cells #[.int .i64 0, .slice none 0 0, .slice none 0 0] 68)) q1
    have a2 := pw_cell_below (below_alloc (Below.refl _ wr) (.cells #[.int .i64 0, .slice none 0 0, .slice none 0 0] 68)) z3
    -- REGION 9
    refine start_ (n := 14) (S := fun w' => w'.cell? ⟨w2.heap.size, 0, none⟩ = some (.slice (some ⟨gc, 0, none⟩) N cc) ∧ w'.cell? ⟨gc, 0, none⟩ = some (.int .i64 0) ∧ w'.cell? ⟨w.heap.size, 0, none⟩ = some (.int .i64 64)) (ds := [12]) #[false, false, false, false, false, false, false, false, false, false, false, false, false, false] (by kernel_rfl) rfl rfl ⟨z3, q0, q1⟩ (fun hHeld => ?_)
    refine pure_ (i := 3) (N := some 35) (v := ?_) (a' := ?_) #[false, false, false, true, false, false, false, false, false, false, false, false, false, false] rfl rfl (by kernel_rfl) (fun _ _ _ h => h) (Or.inl ⟨by rfl, ?_⟩) ?_ ?_
    rotate_left
    ·
     intro w'
     go_simp
     with_reducible rfl
    rotate_left
    ·
     simp only [Act.put, List.setIfInBounds_toArray, List.set_cons_zero, List.set_cons_succ, i64_w, i32_w]
     rfl
    refine pure_ (i := 5) (N := some 37) (v := ?_) (a' := ?_) #[false, false, false, true, false, true, false, false, false, false, false, false, false, false] rfl rfl (by kernel_rfl) (fun _ _ _ h => h) (Or.inl ⟨by rfl, ?_⟩) ?_ ?_
    rotate_left
    ·
     intro w'
     go_simp
     with_reducible rfl
    rotate_left
    ·
     simp only [Act.put, List.setIfInBounds_toArray, List.set_cons_zero, List.set_cons_succ, i64_w, i32_w]
     rfl
    refine pure_ (i := 6) (N := some 38) (v := ?_) (a' := ?_) #[false, false, false, true, false, true, true, false, false, false, false, false, false, false] rfl rfl (by kernel_rfl) (fun _ _ _ h => h) (Or.inl ⟨by rfl, ?_⟩) ?_ ?_
    rotate_left
    ·
     intro w'
     go_simp
     with_reducible rfl
    rotate_left
    ·
     simp only [Act.put, List.setIfInBounds_toArray, List.set_cons_zero, List.set_cons_succ, i64_w, i32_w]
     rfl
    refine take_ (i := 0) (N := some 32) (v := ?_) (a' := ?_) #[true, false, false, true, false, true, true, false, false, false, false, false, false, false] rfl rfl (by kernel_rfl) (fun _ _ _ h => h) (Or.inl ⟨by rfl, ?_⟩) hHeld ?_ ?_
    rotate_left
    ·
     rintro w' ⟨s0, s1, s2⟩
     go_simp
     with_reducible rfl
    rotate_left
    ·
     simp only [Act.put, List.setIfInBounds_toArray, List.set_cons_zero, List.set_cons_succ, i64_w, i32_w]
     rfl
    refine pure_ (i := 1) (N := some 33) (v := ?_) (a' := ?_) #[true, true, false, true, false, true, true, false, false, false, false, false, false, false] rfl rfl (by kernel_rfl) (fun _ _ _ h => h) (Or.inl ⟨by rfl, ?_⟩) ?_ ?_
    rotate_left
    ·
     intro w'
     go_simp
     with_reducible rfl
    rotate_left
    ·
     simp only [Act.put, List.setIfInBounds_toArray, List.set_cons_zero, List.set_cons_succ, i64_w, i32_w]
     rfl
    refine take_ (i := 2) (N := some 34) (v := ?_) (a' := ?_) #[true, true, true, true, false, true, true, false, false, false, false, false, false, false] rfl rfl (by kernel_rfl) (fun _ _ _ h => h) (Or.inl ⟨by rfl, ?_⟩) hHeld ?_ ?_
    rotate_left
    ·
     rintro w' ⟨s0, s1, s2⟩
     go_simp
     with_reducible rfl
    rotate_left
    ·
     simp only [Act.put, List.setIfInBounds_toArray, List.set_cons_zero, List.set_cons_succ, i64_w, i32_w]
     rfl
    refine take_ (i := 4) (N := some 36) (v := ?_) (a' := ?_) #[true, true, true, true, true, true, true, false, false, false, false, false, false, false] rfl rfl (by kernel_rfl) (fun _ _ _ h => h) (Or.inl ⟨by rfl, ?_⟩) hHeld ?_ ?_
    rotate_left
    ·
     rintro w' ⟨s0, s1, s2⟩
     go_simp
     with_reducible rfl
    rotate_left
    ·
     simp only [Act.put, List.setIfInBounds_toArray, List.set_cons_zero, List.set_cons_succ, i64_w, i32_w]
     rfl
    refine join_ (σ := Option Addr × Option Addr × Nat × Nat × Nat × Nat) 2 #[true, true, true, true, true, true, true, true, true, true, true, true, false, false] (fun s_ => [(39, .tuple #[(.agg #[.int .i64 64, .slice s_.1 N s_.2.2.2.1, .slice s_.2.1 s_.2.2.1 s_.2.2.2.2.1]), .bool true]), (6, .pointer (some ⟨s_.2.2.2.2.2, 0, none⟩)), (31, .tuple #[(.agg #[.int .i64 64, .slice s_.1 N s_.2.2.2.1, .slice s_.2.1 s_.2.2.1 s_.2.2.2.2.1]), .bool true]), (40, (.agg #[.int .i64 64, .slice s_.1 N s_.2.2.2.1, .slice s_.2.1 s_.2.2.1 s_.2.2.2.2.1])), (41, .bool true)]) (fun s_ w' => (w'.cell? ⟨w2.heap.size, 0, none⟩ = some (.slice (some ⟨gc, 0, none⟩) N cc) ∧ w'.cell? ⟨gc, 0, none⟩ = some (.int .i64 0) ∧ w'.cell? ⟨w.heap.size, 0, none⟩ = some (.int .i64 64)) ∧ Below wr.heap.size wr w' ∧ w'.heap[s_.2.2.2.2.2]? = some (.cells #[.int .i64 0, .slice none 0 0, .slice none 0 0] 68 (0, 0)) ∧ wr.heap.size ≤ s_.2.2.2.2.2) ?_ ?_
    rotate_left
    ·
     intro hCont
     refine two_ (i := 7) (j := 11) (Ni := some 39) (Nj := some 6) #[true, true, true, true, true, true, true, true, false, false, false, false, false, false] #[true, true, true, true, true, true, true, false, false, false, false, true, false, false] rfl rfl rfl rfl (by kernel_rfl) (by decide) (by decide) (fun K hK => ?_) (fun K hK => ?_)
     ·
      skip
      refine goes_ Try.func91 (by kernel_rfl) rfl #[.int .i64 0, .int .i64 64, .func (.func 92) #[] #[.pointer (some ⟨w2.heap.size, 0, none⟩), .pointer (some ⟨w.heap.size, 0, none⟩), .pointer (some ⟨w2.heap.size + 1 + 1, 0, none⟩)], .func (.func 93) #[] #[.pointer (some ⟨w.heap.size, 0, none⟩), .pointer (some ⟨w2.heap.size + 1 + 1, 0, none⟩)]] (by rfl) rfl rfl (by simp only [List.map_toArray, List.map_cons, List.map_nil] <;> rfl) ?_
      with_reducible refine (HEx.out _ (by repeat (first | exact Below.refl _ _ | apply below_alloc | apply below_drew1))).mono ?_
      rintro e w6 ⟨A1, B1, n1, c1, d1, rfl, hb6q⟩
      refine ⟨_, rfl, ?_⟩
      have hb6 : Below wr.heap.size wr w6 := below_step (by repeat (first | exact Below.refl _ _ | apply below_alloc | apply below_drew1)) hb6q
      refine hK.out _ _ ⟨pw_cell_below hb6 z3, pw_cell_below hb6 q0, pw_cell_below hb6 q1⟩ (fun hHeld => ?_)
      clear hK K
      refine norm_ (a' := ?_) ?_ ?_
      rotate_left
      ·
       show Act.put _ (some 39) _ = _
       simp only [Act.put, List.setIfInBounds_toArray, List.set_cons_zero, List.set_cons_succ, i64_w, i32_w]
       rfl
      refine pure_ (i := 8) (N := some 31) (v := ?_) (a' := ?_) #[true, true, true, true, true, true, true, true, true, false, false, false, false, false] rfl rfl (by kernel_rfl) (fun _ _ _ h => h) (Or.inl ⟨by rfl, ?_⟩) ?_ ?_
      rotate_left
      ·
       intro w'
       go_simp
       with_reducible rfl
      rotate_left
      ·
       simp only [Act.put, List.setIfInBounds_toArray, List.set_cons_zero, List.set_cons_succ, i64_w, i32_w]
       rfl
      refine pure_ (i := 9) (N := some 40) (v := ?_) (a' := ?_) #[true, true, true, true, true, true, true, true, true, true, false, false, false, false] rfl rfl (by kernel_rfl) (fun _ _ _ h => h) (Or.inl ⟨by rfl, ?_⟩) ?_ ?_
      rotate_left
      ·
       intro w'
       go_simp
       with_reducible rfl
      rotate_left
      ·
       simp only [Act.put, List.setIfInBounds_toArray, List.set_cons_zero, List.set_cons_succ, i64_w, i32_w]
       rfl
      refine pure_ (i := 10) (N := some 41) (v := ?_) (a' := ?_) #[true, true, true, true, true, true, true, true, true, true, true, false, false, false] rfl rfl (by kernel_rfl) (fun _ _ _ h => h) (Or.inl ⟨by rfl, ?_⟩) ?_ ?_
      rotate_left
      ·
       intro w'
       go_simp
       with_reducible rfl
      rotate_left
      ·
       simp only [Act.put, List.setIfInBounds_toArray, List.set_cons_zero, List.set_cons_succ, i64_w, i32_w]
       rfl
      refine one_ (i := 11) (N := some 6) #[true, true, true, true, true, true, true, true, true, true, true, true, false, false] rfl rfl (by kernel_rfl) (by decide) (fun K hK => ?_)
      refine value_ (w1 := ?_) (v := ?_) (by rfl) rfl ?_ ?_
      rotate_left 2
      ·
       go_simp
       constructor
       ·
        rfl
       ·
        rfl
      refine hK.out _ _ ⟨pw_cell_below (below_alloc hb6 _) z3, pw_cell_below (below_alloc hb6 _) q0, pw_cell_below (below_alloc hb6 _) q1⟩ (fun hHeld => ?_)
      clear hK K
      refine norm_ (a' := ?_) ?_ ?_
      rotate_left
      ·
       show Act.put _ (some 6) _ = _
       simp only [Act.put, List.setIfInBounds_toArray, List.set_cons_zero, List.set_cons_succ, i64_w, i32_w]
       rfl
      exact norm_ (by simp only [putAll, Act.put, List.setIfInBounds_toArray, List.set_cons_zero, List.set_cons_succ]) (hCont (A1, B1, n1, c1, d1, w6.heap.size) _ ⟨⟨pw_cell_below (below_alloc hb6 _) z3, pw_cell_below (below_alloc hb6 _) q0, pw_cell_below (below_alloc hb6 _) q1⟩, below_alloc hb6 _, blk_new _ _, hb6.size⟩)
     ·
      skip
      refine value_ (w1 := ?_) (v := ?_) (by rfl) rfl ?_ ?_
      rotate_left 2
      ·
       go_simp
       constructor
       ·
        rfl
       ·
        rfl
      refine hK.out _ _ ⟨a2, a0, a1⟩ (fun hHeld => ?_)
      clear hK K
      refine norm_ (a' := ?_) ?_ ?_
      rotate_left
      ·
       show Act.put _ (some 6) _ = _
       simp only [Act.put, List.setIfInBounds_toArray, List.set_cons_zero, List.set_cons_succ, i64_w, i32_w]
       rfl
      refine one_ (i := 7) (N := some 39) #[true, true, true, true, true, true, true, true, false, false, false, true, false, false] rfl rfl (by kernel_rfl) (by decide) (fun K hK => ?_)
      refine goes_ Try.func91 (by kernel_rfl) rfl #[.int .i64 0, .int .i64 64, .func (.func 92) #[] #[.pointer (some ⟨w2.heap.size, 0, none⟩), .pointer (some ⟨w.heap.size, 0, none⟩), .pointer (some ⟨w2.heap.size + 1 + 1, 0, none⟩)], .func (.func 93) #[] #[.pointer (some ⟨w.heap.size, 0, none⟩), .pointer (some ⟨w2.heap.size + 1 + 1, 0, none⟩)]] (by rfl) rfl rfl (by simp only [List.map_toArray, List.map_cons, List.map_nil] <;> rfl) ?_
      with_reducible refine (HEx.out _ (by repeat (first | exact Below.refl _ _ | apply below_alloc | apply below_drew1))).mono ?_
      rintro e w6 ⟨A1, B1, n1, c1, d1, rfl, hb6q⟩
      refine ⟨_, rfl, ?_⟩
      have hb6 : Below wr.heap.size wr w6 := below_step (by repeat (first | exact Below.refl _ _ | apply below_alloc | apply below_drew1)) hb6q
      have hk6 : w6.heap[wr.heap.size]? = some (.cells #[.int .i64 0, .slice none 0 0, .slice none 0 0] 68 (0, 0)) := (hb6q.block wr.heap.size (by simp)).trans (blk_new wr _)
      refine hK.out _ _ ⟨pw_cell_below hb6 z3, pw_cell_below hb6 q0, pw_cell_below hb6 q1⟩ (fun hHeld => ?_)
      clear hK K
      refine norm_ (a' := ?_) ?_ ?_
      rotate_left
      ·
       show Act.put _ (some 39) _ = _
       simp only [Act.put, List.setIfInBounds_toArray, List.set_cons_zero, List.set_cons_succ, i64_w, i32_w]
       rfl
      refine pure_ (i := 8) (N := some 31) (v := ?_) (a' := ?_) #[true, true, true, true, true, true, true, true, true, false, false, true, false, false] rfl rfl (by kernel_rfl) (fun _ _ _ h => h) (Or.inl ⟨by rfl, ?_⟩) ?_ ?_
      rotate_left
      ·
       intro w'
       go_simp
       with_reducible rfl
      rotate_left
      ·
       simp only [Act.put, List.setIfInBounds_toArray, List.set_cons_zero, List.set_cons_succ, i64_w, i32_w]
       rfl
      refine pure_ (i := 9) (N := some 40) (v := ?_) (a' := ?_) #[true, true, true, true, true, true, true, true, true, true, false, true, false, false] rfl rfl (by kernel_rfl) (fun _ _ _ h => h) (Or.inl ⟨by rfl, ?_⟩) ?_ ?_
      rotate_left
      ·
       intro w'
       go_simp
       with_reducible rfl
      rotate_left
      ·
       simp only [Act.put, List.setIfInBounds_toArray, List.set_cons_zero, List.set_cons_succ, i64_w, i32_w]
       rfl
      refine pure_ (i := 10) (N := some 41) (v := ?_) (a' := ?_) #[true, true, true, true, true, true, true, true, true, true, true, true, false, false] rfl rfl (by kernel_rfl) (fun _ _ _ h => h) (Or.inl ⟨by rfl, ?_⟩) ?_ ?_
      rotate_left
      ·
       intro w'
       go_simp
       with_reducible rfl
      rotate_left
      ·
       simp only [Act.put, List.setIfInBounds_toArray, List.set_cons_zero, List.set_cons_succ, i64_w, i32_w]
       rfl
      exact norm_ (by simp only [putAll, Act.put, List.setIfInBounds_toArray, List.set_cons_zero, List.set_cons_succ]) (hCont (A1, B1, n1, c1, d1, wr.heap.size) _ ⟨⟨pw_cell_below hb6 z3, pw_cell_below hb6 q0, pw_cell_below hb6 q1⟩, hb6, hk6, Nat.le_refl _⟩)
    rintro ⟨A1, B1, n1, c1, d1, g6⟩ w9 ⟨hHeld, hb9, hk9, hg9⟩
    dsimp only at hk9 hg9
    have k0 : w9.cell? ⟨g6, 0, none⟩ = some (.int .i64 0) := (blk_cell hk9 0).trans rfl
    have k1 : w9.cell? ⟨g6, 1, none⟩ = some (.slice none 0 0) := (blk_cell hk9 1).trans rfl
    have k2 : w9.cell? ⟨g6, 2, none⟩ = some (.slice none 0 0) := (blk_cell hk9 2).trans rfl
    have k3 : w9.frozen? ⟨g6, 0, none⟩ = false := by simp [World.frozen?, hk9]
    have k4 : w9.frozen? ⟨g6, 1, none⟩ = false := by simp [World.frozen?, hk9]
    have k5 : w9.frozen? ⟨g6, 2, none⟩ = false := by simp [World.frozen?, hk9]
    refine norm_ (a' := ?_) ?_ ?_
    rotate_left
    ·
     simp only [putAll, Act.put, List.setIfInBounds_toArray, List.set_cons_zero, List.set_cons_succ]
     rfl
    refine last_ (i := 12) (N := none) #[true, true, true, true, true, true, true, true, true, true, true, true, true, false] rfl rfl (by kernel_rfl) (by decide) (fun K hK => ?_)
    refine skip_ (w1 := ?_) (by rfl) rfl ?_ ?_
    rotate_left
    ·
     go_simp
     rfl
    refine hK.out _ _ ?_
    clear hK K
    refine pure_ (i := 13) (N := some 7) (v := ?_) (a' := ?_) #[true, true, true, true, true, true, true, true, true, true, true, true, true, true] rfl rfl (by kernel_rfl) (fun _ _ _ h => h) (Or.inl ⟨by rfl, ?_⟩) ?_ ?_
    rotate_left
    ·
     intro w'
     go_simp
     with_reducible rfl
    rotate_left
    ·
     simp only [Act.put, List.setIfInBounds_toArray, List.set_cons_zero, List.set_cons_succ, i64_w, i32_w]
     rfl
    refine done_ (by kernel_rfl) ?_
    -- END 9
    go_wp2
    go_meet
    exact ⟨g6, A1, B1, n1, c1, d1, rfl, rfl, ⟨by simp [World.setCell, Array.getElem?_modify, hk9]⟩, ⟨((hb9.setCell (p := ⟨g6, 0, none⟩) hg9 _).setCell (p := ⟨g6, 1, none⟩) hg9 _).setCell (p := ⟨g6, 2, none⟩) hg9 _⟩⟩
   case rest =>
    obtain ⟨g6, A1, B1, n1, c1, d1, rfl, rfl, hk, hb⟩ := hcut
    have k0 : wc.cell? ⟨g6, 0, none⟩ = some (.int .i64 64) := (blk_cell hk.out 0).trans rfl
    have k1 : wc.cell? ⟨g6, 1, none⟩ = some (.slice A1 N c1) := (blk_cell hk.out 1).trans rfl
    have k2 : wc.cell? ⟨g6, 2, none⟩ = some (.slice B1 n1 d1) := (blk_cell hk.out 2).trans rfl
    have hr := (hb.out.block _ (blk_lt HRr.out)).trans HRr.out
    have r0 : wc.cell? ⟨w.heap.size + 1, 0, none⟩ = some (.int .i64 0) := (blk_cell hr 0).trans rfl
    have r1 : wc.cell? ⟨w.heap.size + 1, 1, none⟩ = some (.slice none 0 0) := (blk_cell hr 1).trans rfl
    have r2 : wc.cell? ⟨w.heap.size + 1, 2, none⟩ = some (.slice none 0 0) := (blk_cell hr 2).trans rfl
    have f1 : wc.frozen? ⟨w.heap.size + 1, 0, none⟩ = false := by simp [World.frozen?, hr]
    have f2 : wc.frozen? ⟨w.heap.size + 1, 1, none⟩ = false := by simp [World.frozen?, hr]
    have f3 : wc.frozen? ⟨w.heap.size + 1, 2, none⟩ = false := by simp [World.frozen?, hr]
    clear hr z3 q0 q1
    go_wp2
    have hb2 := (((HBw.out.trans (hb.out.mono HBw.out.size)).setCell (p := ⟨w.heap.size + 1, 0, none⟩) (by simp) (.int .i64 64)).setCell (p := ⟨w.heap.size + 1, 1, none⟩) (by simp) (.slice A1 N c1)).setCell (p := ⟨w.heap.size + 1, 2, none⟩) (by simp) (.slice B1 n1 d1)
    refine bodyPost_ret (v := .agg #[.int .i64 64, .slice A1 N c1, .slice B1 n1 d1]) (by simp [results, Try.results44, go_sem, k0, k1, k2, f1, f2, f3, r0, r1, r2]) rfl ⟨⟨A1, B1, n1, c1, d1, rfl⟩, hb2⟩
end Go.Proofs.Ytcdjeimjbbknjaa.PAll
namespace Go.Proofs.Ytcdjeimjbbknjaa.PAll
open Go.RowKit Go.Proofs.YtcdjeimjbbknjaaW.PrintWords Go.Proofs.YtcdjeimjbbknjaaW.PrintLast Go.Proofs.YtcdjeimjbbknjaaW.PrintMore Go.Proofs.Ytcdjeimjbbknjaa.Res
set_option linter.unusedVariables false
set_option linter.unusedSimpArgs false

def addAt (V : List Int) (k x : Int) : List Int := V.set k.toNat (rd V k + x)
def pushRow (row : List Int) (x : Int) (V : List Int) : List Int := row.foldl (fun V k => addAt V k x) V
def pushPre (N : Nat) (nx : List (List Int)) (many : List Int) : Nat → List Int
  | 0 => List.replicate N 0
  | i + 1 => pushRow (rdR nx i) (rd many i) (pushPre N nx many i)
def iterV (N : Nat) (nx : List (List Int)) : Nat → List Int
  | 0 => (List.replicate N 0).set 0 1
  | t + 1 => pushPre N nx (iterV N nx t) N
def dotP (V : List Int) (g : Int → Int) : Nat → Int
  | 0 => 0
  | n + 1 => dotP V g n + rd V n * g n
def rsG (nx : List (List Int)) (g : Int → Int) (i : Int) : Int := ((rdR nx i).map g).sum
theorem addAt_len (V : List Int) (k x : Int) : (addAt V k x).length = V.length := by simp [addAt]
theorem pushRow_len (x : Int) : ∀ (row V : List Int), (pushRow row x V).length = V.length
  | [], _ => rfl
  | k :: row, V => by
    have := pushRow_len x row (addAt V k x)
    rw [addAt_len] at this
    exact this
theorem pushPre_len (N : Nat) (nx : List (List Int)) (many : List Int) : ∀ i, (pushPre N nx many i).length = N
  | 0 => by simp [pushPre]
  | i + 1 => by rw [pushPre, pushRow_len, pushPre_len N nx many i]
theorem rd_addAt (V : List Int) {k : Int} (h0 : 0 ≤ k) (h1 : k < (V.length : Int)) (x : Int) (j : Nat) : rd (addAt V k x) (j : Int) = rd V (j : Int) + if k = (j : Int) then x else 0 := by
 obtain ⟨m, rfl⟩ : ∃ m : Nat, k = (m : Int) := ⟨k.toNat, by omega⟩
 unfold addAt
 simp only [rd_nat, Int.toNat_natCast, List.getD_eq_getElem?_getD]
 by_cases hj : m = j
 ·
  subst hj
  rw [List.getElem?_set_self (by omega), if_pos rfl]; rfl
 ·
  rw [List.getElem?_set_ne hj, if_neg (by omega), Int.add_zero]
theorem dot_add (V : List Int) {k : Int} (h0 : 0 ≤ k) (h1 : k < (V.length : Int)) (x : Int) (g : Int → Int) : ∀ n : Nat, dotP (addAt V k x) g n = dotP V g n + if k < (n : Int) then x * g k else 0
  | 0 => by rw [dotP, dotP, if_neg (by omega), Int.add_zero]
  | n + 1 => by
    rw [dotP, dotP, dot_add V h0 h1 x g n, rd_addAt V h0 h1]
    by_cases hk : k = (n : Int)
    · subst hk
      rw [if_neg (by omega), if_pos rfl, if_pos (by omega), Int.add_mul]; omega
    · rw [if_neg hk, Int.add_zero]
      by_cases hn : k < (n : Int)
      · rw [if_pos hn, if_pos (by omega)]; omega
      · rw [if_neg hn, if_neg (by omega)]; omega
theorem dot_row {N : Nat} (x : Int) (g : Int → Int) : ∀ (row V : List Int), V.length = N → (∀ k ∈ row, 0 ≤ k ∧ k < (N : Int)) → dotP (pushRow row x V) g N = dotP V g N + x * (row.map g).sum
  | [], V, _, _ => by simp [pushRow]
  | k :: row, V, hV, hr => by
    have hk := hr k List.mem_cons_self
    have h1 := dot_row x g row (addAt V k x) (by rw [addAt_len]; exact hV) fun y hy => hr y (List.mem_cons_of_mem _ hy)
    have h2 := dot_add V hk.1 (by rw [hV]; exact hk.2) x g N
    rw [if_pos hk.2] at h2
    show dotP (pushRow row x (addAt V k x)) g N = _
    rw [h1, h2, List.map_cons, List.sum_cons, Int.mul_add]; omega
theorem dot_pre {N : Nat} {nx : List (List Int)} (hl : ∀ i : Nat, i < N → ∀ k ∈ rdR nx i, 0 ≤ k ∧ k < (N : Int)) (many : List Int) (g : Int → Int) : ∀ i, i ≤ N → dotP (pushPre N nx many i) g N = dotP many (rsG nx g) i
  | 0, _ => by
    have : ∀ n, dotP (List.replicate N (0 : Int)) g n = 0 := by
      intro n
      induction n with
      | zero => rfl
      | succ n ih =>
        rw [dotP, ih, rd_nat, List.getD_eq_getElem?_getD, List.getElem?_replicate]
        split <;> simp
    exact this N
  | i + 1, hi => by
    rw [pushPre, dot_row _ _ _ _ (pushPre_len N nx many i) (hl i (by omega)), dot_pre hl many g i (by omega), dotP]; rfl
theorem dot_first {N : Nat} (hN : 0 < N) (nx : List (List Int)) (g : Int → Int) : ∀ n : Nat, 0 < n → dotP (iterV N nx 0) g n = g 0 := by
 intro n hn
 obtain ⟨m, rfl⟩ : ∃ m, n = m + 1 := ⟨n - 1, by omega⟩
 clear hn
 have hr : ∀ j : Nat, rd (iterV N nx 0) (j : Int) = if j = 0 then 1 else 0 := by
  intro j
  rw [iterV, rd_nat, List.getD_eq_getElem?_getD]
  cases j with
  | zero => rw [List.getElem?_set_self (by simpa using hN)]; rfl
  | succ j =>
   rw [List.getElem?_set_ne (by omega), List.getElem?_replicate]
   split <;> simp
 induction m with
 | zero => rw [dotP, dotP, hr]; simp
 | succ m ih => rw [dotP, ih, hr, if_neg (by omega)]; omega
theorem dot_congr (V : List Int) {g g' : Int → Int} : ∀ n : Nat, (∀ i : Nat, i < n → g i = g' i) → dotP V g n = dotP V g' n
  | 0, _ => rfl
  | n + 1, h => by rw [dotP, dotP, dot_congr V n fun i hi => h i (by omega), h n (by omega)]
theorem dot_mul (V : List Int) (g : Int → Int) (c : Int) : ∀ n : Nat, dotP V (fun i => c * g i) n = c * dotP V g n
  | 0 => by simp [dotP]
  | n + 1 => by
    rw [dotP, dotP, dot_mul V g c n, Int.mul_add, Int.mul_left_comm]
def NonN (V : List Int) : Prop := ∀ i : Nat, 0 ≤ rd V i
theorem NonN.row {x : Int} (hx : 0 ≤ x) {N : Nat} : ∀ {row V : List Int}, NonN V → V.length = N → (∀ k ∈ row, 0 ≤ k ∧ k < (N : Int)) → NonN (pushRow row x V)
  | [], V, h, _, _ => h
  | k :: row, V, h, hV, hr => by
    have hk := hr k List.mem_cons_self
    refine NonN.row (V := addAt V k x) hx (fun i => ?_) (by rw [addAt_len]; exact hV) fun y hy => hr y (List.mem_cons_of_mem _ hy)
    rw [rd_addAt V hk.1 (by rw [hV]; exact hk.2)]
    have := h i
    split <;> omega
theorem NonN.pre {N : Nat} {nx : List (List Int)} (hl : ∀ i : Nat, i < N → ∀ k ∈ rdR nx i, 0 ≤ k ∧ k < (N : Int)) {many : List Int} (h : NonN many) : ∀ i, i ≤ N → NonN (pushPre N nx many i)
  | 0, _ => fun j => by
    rw [pushPre, rd_nat, List.getD_eq_getElem?_getD, List.getElem?_replicate]
    split <;> simp
  | i + 1, hi => NonN.row (h i) (NonN.pre hl h i (by omega)) (pushPre_len N nx many i) (hl i (by omega))
theorem NonN.iter {N : Nat} {nx : List (List Int)} (hl : ∀ i : Nat, i < N → ∀ k ∈ rdR nx i, 0 ≤ k ∧ k < (N : Int)) : ∀ t, NonN (iterV N nx t)
  | 0 => fun j => by
    rw [iterV, rd_nat, List.getD_eq_getElem?_getD, List.getElem?_set]
    split
    · split <;> simp
    · rw [List.getElem?_replicate]; split <;> simp
  | t + 1 => NonN.pre hl (NonN.iter hl t) N (Nat.le_refl _)
theorem NonN.part {V : List Int} (h : NonN V) {g : Int → Int} (hg : ∀ i : Nat, 0 ≤ g i) : ∀ (m n : Nat), m ≤ n → dotP V g m ≤ dotP V g n ∧ 0 ≤ dotP V g m
  | m, 0, hm => by obtain rfl : m = 0 := by omega
                   exact ⟨Int.le_refl _, Int.le_refl _⟩
  | m, n + 1, hm => by
    have hp := Int.mul_nonneg (h n) (hg n)
    rcases Nat.lt_or_ge m (n + 1) with h1 | h1
    · have := NonN.part h hg m n (by omega)
      rw [dotP]; omega
    · obtain rfl : m = n + 1 := by omega
      have := (NonN.part h hg n n (Nat.le_refl _)).2
      rw [dotP]; omega
theorem NonN.le {V : List Int} (h : NonN V) {i n : Nat} (hi : i < n) : rd V i ≤ dotP V (fun _ => 1) n := by
 have h1 := (h.part (g := fun _ => 1) (fun _ => by decide) (i + 1) n (by omega)).1
 have h2 := (h.part (g := fun _ => 1) (fun _ => by decide) i i (Nat.le_refl _)).2
 rw [dotP] at h1; omega
theorem total_iter {N : Nat} {nx : List (List Int)} {fin : List Bool} (hD : DfaOk N nx fin) : ∀ t, dotP (iterV N nx t) (fun _ => 1) N = 64 ^ t
  | 0 => by rw [dot_first hD.pos nx _ N hD.pos]; rfl
  | t + 1 => by
    rw [iterV, dot_pre hD.lead _ _ N (Nat.le_refl _), dot_congr (g' := fun i => 64 * (fun _ => 1) i) _ N (fun i hi => by
      unfold rsG
      rw [show ((rdR nx i).map fun _ => (1 : Int)).sum = ((rdR nx i).length : Int) from by
        generalize rdR nx i = l
        induction l with
        | nil => rfl
        | cons a l ih => rw [List.map_cons, List.sum_cons, ih, List.length_cons]; omega, hD.rows i hi]
      rfl), dot_mul, total_iter hD t, Int.pow_succ, Int.mul_comm]
theorem round_small {N : Nat} {nx : List (List Int)} {fin : List Bool} (hD : DfaOk N nx fin) {t : Nat} (ht : t ≤ 9) {i j : Nat} (hi : i < N) (hj : j ≤ 64) (k : Nat) (hk : k < N) :
    0 ≤ rd (pushRow ((rdR nx i).take j) (rd (iterV N nx t) i) (pushPre N nx (iterV N nx t) i)) k ∧ rd (pushRow ((rdR nx i).take j) (rd (iterV N nx t) i) (pushPre N nx (iterV N nx t) i)) k ≤ 1152921504606846976 ∧ 0 ≤ rd (iterV N nx t) i ∧ rd (iterV N nx t) i ≤ 1152921504606846976 := by
  have hn := NonN.iter (nx := nx) hD.lead t
  have ht64 : (64 : Int) ^ t ≤ 64 ^ 9 := by
    have h1 : (64 : Nat) ^ t ≤ 64 ^ 9 := Nat.pow_le_pow_right (by omega) ht
    have h2 : (((64 : Nat) ^ t : Nat) : Int) ≤ ((64 ^ 9 : Nat) : Int) := Int.ofNat_le.2 h1
    simpa using h2
  have htot := total_iter hD t
  have hx : rd (iterV N nx t) i ≤ 64 ^ t := by rw [← htot]; exact hn.le hi
  have h9 : (64 : Int) ^ 9 = 18014398509481984 := by decide
  have hlead : ∀ k ∈ (rdR nx i).take j, 0 ≤ k ∧ k < (N : Int) := fun k hk => hD.lead i hi k (List.mem_of_mem_take hk)
  have hP := NonN.row (N := N) (hn i) (NonN.pre hD.lead hn i (by omega)) (pushPre_len N nx _ i) hlead
  have hle := hP.le hk
  rw [dot_row _ _ _ _ (pushPre_len N nx _ i) hlead, dot_pre hD.lead _ _ i (by omega), dot_congr (g' := fun i => 64 * (fun _ => 1) i) _ i (fun i' hi' => by
      unfold rsG
      rw [show ((rdR nx i').map fun _ => (1 : Int)).sum = ((rdR nx i').length : Int) from by
        generalize rdR nx i' = l
        induction l with
        | nil => rfl
        | cons a l ih => rw [List.map_cons, List.sum_cons, ih, List.length_cons]; omega, hD.rows i' (by omega)]
      rfl), dot_mul] at hle
  have hs : (((rdR nx i).take j).map fun _ => (1 : Int)).sum = ((((rdR nx i).take j).length : Nat) : Int) := by
    generalize (rdR nx i).take j = l
    induction l with
    | nil => rfl
    | cons a l ih => rw [List.map_cons, List.sum_cons, ih, List.length_cons]; omega
  rw [hs] at hle
  have hlen : (((rdR nx i).take j).length : Int) ≤ 64 := by rw [List.length_take]; omega
  have hpart := (hn.part (g := fun _ => 1) (fun _ => by decide) (i + 1) N (by omega)).1
  rw [dotP, htot] at hpart
  have hmul : rd (iterV N nx t) i * (((rdR nx i).take j).length : Int) ≤ rd (iterV N nx t) i * 64 := Int.mul_le_mul_of_nonneg_left hlen (hn i)
  refine ⟨hP k, ?_, hn i, by omega⟩
  generalize rd (iterV N nx t) i * (((rdR nx i).take j).length : Int) = z at *
  omega
def cntL (r : List (List Int)) (m : Nat) : Nat := (r.filter fun w => w.length == m).length
theorem cntL_app (a b : List (List Int)) (m : Nat) : cntL (a ++ b) m = cntL a m + cntL b m := by simp [cntL]
theorem cntL_flat (m : Nat) : ∀ gs : List (Int × List (List Int)), (cntL (flat gs) (m + 1) : Int) = (gs.map fun g => (cntL g.2 m : Int)).sum
  | [] => rfl
  | g :: gs => by
    have := cntL_flat m gs
    have h1 : cntL (g.2.map (g.1 :: ·)) (m + 1) = cntL g.2 m := by
      generalize g.2 = l
      unfold cntL
      induction l with
      | nil => rfl
      | cons w l ih =>
        rw [List.map_cons, List.filter_cons, List.filter_cons, List.length_cons]
        have e : (w.length + 1 == m + 1) = (w.length == m) := by
          by_cases h : w.length = m <;> simp [h]
        rw [e]
        split
        · rw [List.length_cons, List.length_cons, ih]
        · exact ih
    unfold flat at this ⊢
    rw [List.flatMap_cons, cntL_app, h1, List.map_cons, List.sum_cons, ← this]; omega
theorem sum_one (F : Nat → Int) (a : Nat) (x : Int) : ∀ n : Nat, ((List.range n).map fun s => if a = s then x else F s).sum = ((List.range n).map F).sum + if a < n then x - F a else 0
  | 0 => by simp
  | n + 1 => by
    rw [List.range_succ, List.map_append, List.map_append, List.sum_append, List.sum_append, sum_one F a x n]
    simp only [List.map_cons, List.map_nil, List.sum_cons, List.sum_nil]
    by_cases h : a = n
    · subst h
      rw [if_neg (by omega), if_pos rfl, if_pos (by omega)]; omega
    · rw [if_neg h]
      by_cases h2 : a < n
      · rw [if_pos h2, if_pos (by omega)]; omega
      · rw [if_neg h2, if_neg (by omega)]; omega
theorem cntL_find (m : Nat) : ∀ gs : List (Int × List (List Int)), gs.Pairwise (fun a b => a.1 < b.1) → (∀ g ∈ gs, 0 ≤ g.1 ∧ g.1 < 64) →
    ((List.range 64).map fun s : Nat => (cntL (((gs.find? fun g => g.1 == (s : Int)).map (·.2)).getD []) m : Int)).sum = (gs.map fun g => (cntL g.2 m : Int)).sum
  | [], _, _ => by
    have : ∀ n : Nat, ((List.range n).map fun s : Nat => (0 : Int)).sum = 0 := by
      intro n
      induction n with
      | zero => rfl
      | succ n ih => rw [List.range_succ, List.map_append, List.sum_append, ih]; rfl
    exact this 64
  | g :: gs, hp, hs => by
    have hp' := List.pairwise_cons.1 hp
    have ih := cntL_find m gs hp'.2 fun x hx => hs x (List.mem_cons_of_mem _ hx)
    have hg := hs g List.mem_cons_self
    obtain ⟨a, ha⟩ : ∃ a : Nat, g.1 = (a : Int) := ⟨g.1.toNat, by omega⟩
    have hnone : gs.find? (fun x => x.1 == (a : Int)) = none := by
      rw [List.find?_eq_none]
      intro x hx
      have := hp'.1 x hx
      simp only [beq_iff_eq]; omega
    have e : (fun s : Nat => (cntL ((((g :: gs).find? fun x => x.1 == (s : Int)).map (·.2)).getD []) m : Int)) = fun s : Nat => if a = s then (cntL g.2 m : Int) else (cntL (((gs.find? fun x => x.1 == (s : Int)).map (·.2)).getD []) m : Int) := by
      funext s
      rw [List.find?_cons, ha]
      by_cases h : a = s
      · subst h; simp
      · rw [if_neg h, show ((a : Int) == (s : Int)) = false from by simp; omega]
    rw [e, sum_one, ih, if_pos (by omega), hnone, List.map_cons, List.sum_cons]
    simp [cntL]; omega
theorem cntL_step {r : List (List Int)} (h : Srt r) (hs : SymR r) (m : Nat) : ((List.range 64).map fun s : Nat => (cntL (resS r (s : Int)) m : Int)).sum = (cntL r (m + 1) : Int) := by
 have h1 := cntL_find m (groups r) (groups_inc h) fun g hg => syms_sym h hs _ (List.mem_map.2 ⟨g, hg, rfl⟩)
 unfold resS
 rw [h1]
 conv => rhs; rw [rest_back h, cntL_app, ← groups_back h]
 have h2 := cntL_flat m (groups r)
 have h3 : cntL (if finR r = true then [[]] else []) (m + 1) = 0 := by split <;> rfl
 rw [h3]; omega
theorem cntL_zero {r : List (List Int)} (h : Srt r) : (cntL r 0 : Int) = if finR r = true then 1 else 0 := by
 conv => lhs; rw [rest_back h, cntL_app]
 have h2 : cntL (restR r) 0 = 0 := by
  unfold cntL
  rw [List.length_eq_zero_iff, List.filter_eq_nil_iff]
  intro w hw
  have := (restR_ok h).2 w hw
  simpa using this
 rw [h2]
 split <;> simp [cntL]
section
variable {ws : List (List Int)} {ns : List Nd} {Q : List (List (List Int))}
theorem GrOk.rs (h : GrOk ws ns Q) (m : Nat) {i : Nat} (hi : i ≤ ns.length) : rsG (nxG ns) (fun j => (cntL (rdP Q j) m : Int)) i = (cntL (rdP Q i) (m + 1) : Int) := by
 unfold rsG
 rw [nxG_at hi, rowG, List.map_map, ← cntL_step (h.srtP i (by omega)).1 (h.srtP i (by omega)).2]
 congr 1
 refine List.map_congr_left fun s _ => ?_
 show (cntL (rdP Q (goG ns i s)) m : Int) = _
 rw [(h.go (i := i) (by omega) (by omega) s).1]
theorem GrOk.counts (h : GrOk ws ns Q) (hN : ns.length ≤ 2047) : ∀ t m : Nat, dotP (iterV (ns.length + 1) (nxG ns) t) (fun j => (cntL (rdP Q j) m : Int)) (ns.length + 1) = (cntL ws (t + m) : Int)
  | 0, m => by
    rw [dot_first (by omega) _ _ _ (by omega), h.top, Nat.zero_add]
  | t + 1, m => by
    rw [iterV, dot_pre (h.dfa hN).lead _ _ _ (Nat.le_refl _), dot_congr (g' := fun j => (cntL (rdP Q j) (m + 1) : Int)) _ _ (fun i hi => h.rs m (i := i) (by omega)), h.counts hN t (m + 1)]
    congr 2; omega
theorem GrOk.accepts (h : GrOk ws ns Q) (hN : ns.length ≤ 2047) (t : Nat) : dotP (iterV (ns.length + 1) (nxG ns) t) (fun j => if finA (finG ns) j.toNat = true then 1 else 0) (ns.length + 1) = (cntL ws t : Int) := by
 refine Eq.trans (dot_congr _ _ fun i hi => ?_) (h.counts hN t 0)
 rw [Int.toNat_natCast, finA_is (by omega), h.fin (by omega) (by omega), cntL_zero (h.srtP i (by omega)).1]
end
end Go.Proofs.Ytcdjeimjbbknjaa.PAll
namespace Go.Proofs.Ytcdjeimjbbknjaa.PAll
open Go.RowKit Go.Proofs.YtcdjeimjbbknjaaW.PrintWords Go.Proofs.YtcdjeimjbbknjaaW.PrintLast Go.Proofs.YtcdjeimjbbknjaaW.PrintMore
set_option linter.unusedVariables false
set_option linter.unusedSimpArgs false

theorem infoU : (Try.prog.info? 71).map (fun i => (i.zero, i.size, i.bytes)) = some (some (.int .u64 0), 1, 8) := by kernel_rfl
theorem pushRow_snoc (row : List Int) (x : Int) (V : List Int) {j : Nat} (h : j < row.length) : pushRow (row.take (j + 1)) x V = addAt (pushRow (row.take j) x V) (rd row j) x := by
 unfold pushRow
 rw [List.take_succ_eq_append_getElem h, List.foldl_append, rd_getA h]; rfl
def indF (fin : List Bool) (j : Int) : Int := if finA fin j.toNat = true then 1 else 0
theorem dot_ind (fin : List Bool) {V : List Int} (h : NonN V) : ∀ n, dotP V (indF fin) n ≤ dotP V (fun _ => 1) n ∧ 0 ≤ dotP V (indF fin) n
  | 0 => ⟨Int.le_refl _, Int.le_refl _⟩
  | n + 1 => by
    obtain ⟨h1, h2⟩ := dot_ind fin h n
    have h3 := h n
    rw [dotP, dotP]
    unfold indF
    split
    · unfold indF at h1 h2; omega
    · unfold indF at h1 h2; omega
theorem final_small {N : Nat} {nx : List (List Int)} {fin : List Bool} (hD : DfaOk N nx fin) {t : Nat} (ht : t ≤ 9) {i : Nat} (hi : i < N) :
    0 ≤ dotP (iterV N nx t) (indF fin) i ∧ dotP (iterV N nx t) (indF fin) i ≤ 1152921504606846976 ∧ 0 ≤ rd (iterV N nx t) i ∧ rd (iterV N nx t) i ≤ 1152921504606846976 := by
 have hn := NonN.iter (nx := nx) hD.lead t
 obtain ⟨h1, h2⟩ := dot_ind fin hn i
 have h3 := (hn.part (g := fun _ => 1) (fun _ => by decide) i N (by omega)).1
 have h4 := hn.le hi
 have htot := total_iter hD t
 have ht64 : (64 : Int) ^ t ≤ 64 ^ 9 := by
  have h1 : (64 : Nat) ^ t ≤ 64 ^ 9 := Nat.pow_le_pow_right (by omega) ht
  have h2 : (((64 : Nat) ^ t : Nat) : Int) ≤ ((64 ^ 9 : Nat) : Int) := Int.ofNat_le.2 h1
  simpa using h2
 have h9 : (64 : Int) ^ 9 = 18014398509481984 := by decide
 rw [htot] at h3 h4
 have h5 := hn i
 refine ⟨h2, by omega, h5, by omega⟩
set_option maxHeartbeats 4000000 in
set_option maxRecDepth 100000 in
theorem count_is {w : World} {N : Nat} {nx : List (List Int)} {fin : List Bool} {A B : Option Addr} {ca cb : Nat} (hD : DfaAt w N nx fin A B ca cb) (t : Nat) (ht : t ≤ 9) :
    Calls Try.prog 45 #[.agg #[.int .i64 64, .slice A N ca, .slice B N cb], .int .i64 (t : Int)] w fun e w' => e = .returned (.int .u64 (dotP (iterV N nx t) (indF fin) N)) ∧ Below w.heap.size w w' := by
 have hpos := hD.ok.pos
 have hfew := hD.ok.few
 have hmk := print_make_of (P := Try.prog) 129 71 (.int .u64 0) 8 Try.underlying129 infoU rfl (by omega) N (by omega)
 have HD := Aside0.mk hD
 have HT := Aside0.mk ht
 have p1 : ¬ (t : Int) < 0 := by omega
 have p2 : ¬ (1024 : Int) < (t : Int) := by omega
 obtain ⟨W0, hW0⟩ : ∃ W0, W0 = w.alloc (.cells #[.int .i64 64, .slice A N ca, .slice B N cb] 68) := ⟨_, rfl⟩
 have hb0 : Below w.heap.size w W0 := by rw [hW0]; exact below_alloc (Below.refl _ _) _
 have HD0 := Aside0.mk (HD.out.below hb0)
 have HBx : Aside0 (W0.heap[w.heap.size]? = some (.cells #[.int .i64 64, .slice A N ca, .slice B N cb] 68 (0, 0))) := ⟨by rw [hW0]; exact blk_new _ _⟩
 have HB0 := Aside0.mk hb0
 clear hD ht hb0
 go_enter Try.func45, Try.ntmps45
 go_upto_region 1 with fail
 rw [← hW0]
 clear hW0
 have x0 : W0.cell? ⟨w.heap.size, 0, none⟩ = some (.int .i64 64) := (blk_cell HBx.out 0).trans rfl
 have x1 : W0.cell? ⟨w.heap.size, 1, none⟩ = some (.slice A N ca) := (blk_cell HBx.out 1).trans rfl
 have x2 : W0.cell? ⟨w.heap.size, 2, none⟩ = some (.slice B N cb) := (blk_cell HBx.out 2).trans rfl
 go_upto_region 4 with (first
  | (go_at_call 43; ((with_reducible refine (valid_any HD0.out).mono ?_); rintro e w1 ⟨rfl, hb1⟩; have HD1 := Aside0.mk (HD0.out.below hb1); have HB1 := Aside0.mk (HB0.out.trans (hb1.mono HB0.out.size)); have y1 := pw_cell_below hb1 x1; have HBx1 := Aside0.mk ((hb1.block _ (blk_lt HBx.out)).trans HBx.out); clear hb1))
  | fail)
 obtain ⟨W1, hW1⟩ : ∃ W1, W1 = w1.alloc (.cells (madeCells #[.int .u64 0] N) 71) := ⟨_, rfl⟩
 have hO := own_made_of (enc := Value.int .u64) (d := 0) w1 w1.heap.size 71 N (Nat.le_refl _) (by omega)
 have hb1 : Below w1.heap.size w1 W1 := by rw [hW1]; exact below_alloc (Below.refl _ _) _
 rw [← hW1] at hO
 rw [← hW1]
 clear hW1
 obtain ⟨z0, z1⟩ := own_at_of (d := (0 : Int)) hO (0 : Int) (by omega) (by omega)
 rw [show ((0 : Int)).toNat = 0 from rfl] at z0 z1
 obtain ⟨hO1, _⟩ := own_store_of hO (0 : Int) (1 : Int)
 rw [show ((0 : Int)).toNat = 0 from rfl] at hO1
 have n0 : (0 : Int) < (N : Int) := by omega
 have y1' := pw_cell_below hb1 y1
 have HS : Aside0 ((W1.setCell ⟨w1.heap.size, 0, none⟩ (.int .u64 1)).ownsRow w.heap.size 71 1 (.slice (some ⟨w1.heap.size, 0, none⟩) N N) N (encs (Value.int .u64) (iterV N nx 0)) ∧ Below w.heap.size w (W1.setCell ⟨w1.heap.size, 0, none⟩ (.int .u64 1)) ∧ (W1.setCell ⟨w1.heap.size, 0, none⟩ (.int .u64 1)).heap[w.heap.size]? = some (.cells #[.int .i64 64, .slice A N ca, .slice B N cb] 68 (0, 0))) := ⟨own_less hO1 HB1.out.size, (HB1.out.trans (hb1.mono HB1.out.size)).setCell HB1.out.size _, by
  have h1 := blk_lt HBx1.out
  rw [Below.heap_setCell W1 _ _ _ (by simp; omega)]
  exact (hb1.block _ h1).trans HBx1.out⟩
 clear hO hO1 hb1 x0 x1 x2
 go_wp2
 clear z0 z1 y1 y1'
 generalize W1.setCell ⟨w1.heap.size, 0, none⟩ (.int .u64 1) = Wb at *
 generalize w1.heap.size = g0 at *
 go_loopw [5, 32] (fun s5 s32 wr => ∃ (g tt : Nat), s5 = .slice (some ⟨g, 0, none⟩) N N ∧ s32 = .int .i64 (tt : Int) ∧ Aside0 (tt ≤ t) ∧ Aside0 (wr.ownsRow w.heap.size 71 1 (.slice (some ⟨g, 0, none⟩) N N) N (encs (Value.int .u64) (iterV N nx tt)) ∧ Below w.heap.size w wr ∧ wr.heap[w.heap.size]? = some (.cells #[.int .i64 64, .slice A N ca, .slice B N cb] 68 (0, 0)))) (fun _ s32 _ => t - (intOf s32).toNat)
 case atStart => exact ⟨_, 0, rfl, rfl, ⟨Nat.zero_le _⟩, HS⟩
 case round =>
  clear HS
  obtain ⟨g, tt, rfl, rfl, htt, hS⟩ := hrel
  have htt0 := htt.out
  have ht9 := HT.out
  obtain ⟨wo, hwo⟩ : ∃ wo, wo = wr := ⟨_, rfl⟩
  subst hwo
  by_cases hlt : tt < t
  ·
   have x1 : wo.cell? ⟨w.heap.size, 1, none⟩ = some (.slice A N ca) := (blk_cell hS.out.2.2 1).trans rfl
   have hbl := blk_lt hS.out.2.2
   have HDo := Aside0.mk (HD.out.below hS.out.2.1)
   have HI0 : Aside0 ((wo.alloc (.cells (madeCells #[.int .u64 0] N) 71)).ownsRow wo.heap.size 71 1 (.slice (some ⟨wo.heap.size, 0, none⟩) N N) N (encs (Value.int .u64) (pushPre N nx (iterV N nx tt) 0)) ∧ Below wo.heap.size wo (wo.alloc (.cells (madeCells #[.int .u64 0] N) 71))) := ⟨own_made_of (enc := Value.int .u64) (d := 0) wo wo.heap.size 71 N (Nat.le_refl _) (by omega), below_alloc (Below.refl _ _) _⟩
   have htlt : (tt : Int) < (t : Int) := by omega
   go_wp2
   generalize wo.alloc (.cells (madeCells #[.int .u64 0] N) 71) = Wc at *
   go_loopw [40] (fun s40 wq => ∃ i : Nat, s40 = .int .i64 (i : Int) ∧ i ≤ N ∧ Aside0 (wq.ownsRow wo.heap.size 71 1 (.slice (some ⟨wo.heap.size, 0, none⟩) N N) N (encs (Value.int .u64) (pushPre N nx (iterV N nx tt) i)) ∧ Below wo.heap.size wo wq)) (fun s40 _ => N - (intOf s40).toNat)
   case atStart => exact ⟨0, rfl, Nat.zero_le _, HI0⟩
   case round =>
    clear HI0
    obtain ⟨i, rfl, hi, hI⟩ := hrel
    obtain ⟨wq, hwq⟩ : ∃ wq, wq = wr := ⟨_, rfl⟩
    subst hwq
    by_cases hil : i < N
    ·
     obtain ⟨adr, Ar, cr, rfl, hxr, hlr, hCr⟩ := HDo.out.row hil
     replace hxr := pw_cell_below hI.out.2 hxr
     have hlen := HDo.out.ok.rows i hil
     rw [hlen] at hCr
     have HCr := Aside0.mk hCr
     have HLen := Aside0.mk hlen
     have HJ0 : Aside0 (wq.ownsRow wo.heap.size 71 1 (.slice (some ⟨wo.heap.size, 0, none⟩) N N) N (encs (Value.int .u64) (pushRow ((rdR nx (i : Int)).take 0) (rd (iterV N nx tt) (i : Int)) (pushPre N nx (iterV N nx tt) i))) ∧ Below wo.heap.size wo wq) := ⟨by rw [List.take_zero]; exact hI.out.1, hI.out.2⟩
     have i1 : (i : Int) < (N : Int) := by omega
     clear hCr hlen hI
     go_wp2
     go_loopw [47] (fun s47 wx => ∃ j : Nat, s47 = .int .i64 (j : Int) ∧ j ≤ 64 ∧ Aside0 (wx.ownsRow wo.heap.size 71 1 (.slice (some ⟨wo.heap.size, 0, none⟩) N N) N (encs (Value.int .u64) (pushRow ((rdR nx (i : Int)).take j) (rd (iterV N nx tt) (i : Int)) (pushPre N nx (iterV N nx tt) i))) ∧ Below wo.heap.size wo wx)) (fun s47 _ => 64 - (intOf s47).toNat)
     case atStart => exact ⟨0, rfl, by omega, HJ0⟩
     case round =>
      clear HJ0
      obtain ⟨j, rfl, hj, hJ⟩ := hrel
      by_cases hjl : j < 64
      ·
       have hjr : j < (rdR nx (i : Int)).length := by have := HLen.out; omega
       obtain ⟨adk, rfl, hxk⟩ := Kd.at_int (Kd.C_below HCr.out hJ.out.2) (j : Int) (by omega) (by omega)
       rw [Int.toNat_natCast] at hxk
       have hld := rd_lead (HDo.out.ok.lead i hil) hjr
       have hsn := pushRow_snoc (rdR nx (i : Int)) (rd (iterV N nx tt) (i : Int)) (pushPre N nx (iterV N nx tt) i) hjr
       obtain ⟨k, hk⟩ : ∃ k : Nat, rd (rdR nx (i : Int)) (j : Int) = (k : Int) := ⟨(rd (rdR nx (i : Int)) (j : Int)).toNat, by omega⟩
       rw [hk] at hxk hld hsn
       have hkN : k < N := by omega
       obtain ⟨b1, b2, b3, b4⟩ := round_small HDo.out.ok (t := tt) (by omega) hil hj k hkN
       obtain ⟨z0, z1⟩ := own_at_of (d := (0 : Int)) hJ.out.1 (k : Int) (by omega) (by omega)
       obtain ⟨z2, _⟩ := own_at_of (d := (0 : Int)) (pw_own_below hS.out.1 hJ.out.2) (i : Int) (by omega) (by omega)
       have hst := (own_store_of hJ.out.1 (k : Int) (rd (pushRow ((rdR nx (i : Int)).take j) (rd (iterV N nx tt) (i : Int)) (pushPre N nx (iterV N nx tt) i)) (k : Int) + rd (iterV N nx tt) (i : Int))).1
       have e1 : ∀ X : List Int, ∀ q : Int, rdOf (0 : Int) X q = rd X q := fun _ _ => rfl
       rw [Int.toNat_natCast] at z0 z1 z2 hst
       rw [e1] at z0 z2
       have hadd : (pushRow ((rdR nx (i : Int)).take j) (rd (iterV N nx tt) (i : Int)) (pushPre N nx (iterV N nx tt) i)).set k (rd (pushRow ((rdR nx (i : Int)).take j) (rd (iterV N nx tt) (i : Int)) (pushPre N nx (iterV N nx tt) i)) (k : Int) + rd (iterV N nx tt) (i : Int)) = pushRow ((rdR nx (i : Int)).take (j + 1)) (rd (iterV N nx tt) (i : Int)) (pushPre N nx (iterV N nx tt) i) := by
        rw [hsn, addAt, Int.toNat_natCast]
       rw [hadd] at hst
       generalize rd (pushRow ((rdR nx (i : Int)).take j) (rd (iterV N nx tt) (i : Int)) (pushPre N nx (iterV N nx tt) i)) (k : Int) = a at *
       generalize rd (iterV N nx tt) (i : Int) = b at *
       have hwr : IntKind.u64.wrap (a + b) = a + b := Go.IntWalk.u64_in _ (by omega)
       have HSt := Aside0.mk hst
       have HBj := Aside0.mk hJ.out.2
       have k0 : (0 : Int) ≤ (k : Int) := by omega
       have k1 : (k : Int) < (N : Int) := by omega
       have j1 : (j : Int) < 64 := by omega
       clear hst hadd hsn hk hjr hld e1 hJ b1 b2 b3 b4
       go_upto_region 14 with fail
       go_region
       all_goals go_wp2
       all_goals
        go_roundw
        case rel => exact ⟨j + 1, by go_num, by omega, ⟨HSt.out, (HBj.out.setCell (p := ⟨wo.heap.size, k, none⟩) (Nat.le_refl _) _).drew⟩⟩
        case measure => simp [intOf]; omega
      ·
       obtain rfl : j = 64 := by omega
       have hN1 : pushRow ((rdR nx (i : Int)).take 64) (rd (iterV N nx tt) (i : Int)) (pushPre N nx (iterV N nx tt) i) = pushPre N nx (iterV N nx tt) (i + 1) := by
        rw [List.take_of_length_le (by rw [HLen.out]; omega)]; rfl
       rw [hN1] at hJ
       clear hN1
       go_wp2
       go_roundw
       case rel => exact ⟨i + 1, by go_num, by omega, hJ⟩
       case measure => simp [intOf]; omega
    ·
     obtain rfl : i = N := by omega
     have HNx : Aside0 (wq.ownsRow w.heap.size 71 1 (.slice (some ⟨wo.heap.size, 0, none⟩) i i) i (encs (Value.int .u64) (iterV i nx (tt + 1)))) := ⟨own_less hI.out.1 hS.out.2.1.size⟩
     have HBn := Aside0.mk (hS.out.2.1.trans (hI.out.2.mono hS.out.2.1.size))
     have HBk := Aside0.mk ((hI.out.2.block _ hbl).trans hS.out.2.2)
     go_wp2
     go_roundw
     case rel => exact ⟨_, tt + 1, rfl, by go_num, ⟨by omega⟩, ⟨HNx.out, HBn.out, HBk.out⟩⟩
     case measure => simp [intOf]; omega
  ·
   obtain rfl : tt = t := by omega
   have HDo := Aside0.mk (HD.out.below hS.out.2.1)
   have x2 : wo.cell? ⟨w.heap.size, 2, none⟩ = some (.slice B N cb) := (blk_cell hS.out.2.2 2).trans rfl
   go_wp2
   go_loop [11, 68] (fun s11 s68 => ∃ i : Nat, s68 = .int .i64 (i : Int) ∧ i ≤ N ∧ s11 = .int .u64 (dotP (iterV N nx tt) (indF fin) i)) (fun _ s68 => N - (intOf s68).toNat)
   case atStart => exact ⟨0, rfl, Nat.zero_le _, rfl⟩
   case round =>
    obtain ⟨i, rfl, hi, rfl⟩ := hrel
    by_cases hil : i < N
    ·
     obtain ⟨adf, rfl, hxf⟩ := Kd.at_bool HDo.out.fins (i : Int) (by omega) (by omega)
     rw [Int.toNat_natCast] at hxf
     have hfi : rdOf false fin (i : Int) = finA fin i := by unfold rdOf finA; rw [Int.toNat_natCast]
     rw [hfi] at hxf
     obtain ⟨b1, b2, b3, b4⟩ := final_small (fin := fin) HDo.out.ok (t := tt) (by omega) hil
     obtain ⟨z2, _⟩ := own_at_of (d := (0 : Int)) hS.out.1 (i : Int) (by omega) (by omega)
     rw [Int.toNat_natCast, show rdOf (0 : Int) (iterV N nx tt) (i : Int) = rd (iterV N nx tt) (i : Int) from rfl] at z2
     have hdot : dotP (iterV N nx tt) (indF fin) (i + 1) = dotP (iterV N nx tt) (indF fin) i + rd (iterV N nx tt) (i : Int) * (if finA fin i = true then 1 else 0) := rfl
     have i1 : (i : Int) < (N : Int) := by omega
     cases hf : finA fin i with
     | true =>
      rw [hf] at hxf hdot
      rw [if_pos rfl, Int.mul_one] at hdot
      have HDot := Aside0.mk hdot
      clear hdot hf hfi
      generalize rd (iterV N nx tt) (i : Int) = b at *
      generalize dotP (iterV N nx tt) (indF fin) i = a at *
      have hwr : IntKind.u64.wrap (a + b) = a + b := Go.IntWalk.u64_in _ (by omega)
      clear b1 b2 b3 b4
      go_wp2
      go_round
      case rel => exact ⟨i + 1, by go_num, by omega, by rw [HDot.out]⟩
      case measure => simp [intOf]; omega
     | false =>
      rw [hf] at hxf hdot
      rw [if_neg (by decide), Int.mul_zero, Int.add_zero] at hdot
      have HDot := Aside0.mk hdot
      clear hdot hf hfi b1 b2 b3 b4
      go_wp2
      go_round
      case rel => exact ⟨i + 1, by go_num, by omega, by rw [HDot.out]⟩
      case measure => simp [intOf]; omega
    ·
     obtain rfl : i = N := by omega
     go_wp2
     go_ret
     exact ⟨rfl, hS.out.2.1⟩
end Go.Proofs.Ytcdjeimjbbknjaa.PAll
namespace Go.Proofs.Ytcdjeimjbbknjaa.PAll
open Go.RowKit Go.Proofs.YtcdjeimjbbknjaaW.PrintWords Go.Proofs.YtcdjeimjbbknjaaW.PrintLast Go.Proofs.YtcdjeimjbbknjaaW.PrintMore Go.Proofs.Ytcdjeimjbbknjaa.Res
set_option linter.unusedVariables false
set_option linter.unusedSimpArgs false

theorem dl_words (A0 : Option Addr) (c0 : Nat) (l : List Int) (most : Int) (r : List (List Int)) (w : World) (hr : Kd.C (Kd.int .i64) w A0 l.length l) (hc : l.length ≤ c0) (h : wordbookref15_Words.f 4000000 l most = some r) :
    Calls Try.prog 17 #[.slice A0 l.length c0, .int .i64 most] w fun e w' => ∃ A c, e = .returned (.slice A r.length c) ∧ r.length ≤ c ∧ Kd.C (Kd.slice 3 (Kd.int .i64)) w' A r.length r ∧ Below w.heap.size w w' := by
 refine (wordbookref15_Words.calls 4000000 A0 c0 l most r w hr hc h).mono ?_
 rintro e w' ⟨v, rfl, hN, hb⟩
 obtain ⟨A, c, rfl, hl, hC⟩ := Kd.N_reads hN
 exact ⟨A, c, rfl, hl, hC, hb⟩
theorem dl_build {ws : List (List Int)} (h : Good ws) (A : Option Addr) (c : Nat) (w : World) (hr : Kd.C (Kd.slice 3 (Kd.int .i64)) w A ws.length ws) (hc : ws.length ≤ c) :
    Calls Try.prog 19 #[.slice A ws.length c] w fun e w' => ∃ g, e = .returned (.tuple #[.pointer (some ⟨g, 0, none⟩), .int .i64 0]) ∧ GraphAt w' g (graphOf ws) ∧ Below w.heap.size w w' := by
 refine (build_good A c ws w hr hc h).mono ?_
 rintro e w' ⟨g, rfl, hg, hb, _⟩
 exact ⟨g, rfl, hg, hb⟩
theorem dl_around (n most : Int) (w : World) (h0 : 0 < most) (hn : -9223372036854775808 ≤ n ∧ n ≤ 9223372036854775807) :
    Calls Try.prog 18 #[.int .i64 n, .int .i64 most] w fun e w' => e = .returned (.int .i64 (around n most)) ∧ Below w.heap.size w w' := (around_calls n most w h0 hn).mono fun e w' hh => ⟨hh.1, hh.2.below⟩
theorem wf_i64 {x : Int} (h : (Lit.int .i64 x).wf = true) : -9223372036854775808 ≤ x ∧ x ≤ 9223372036854775807 := by
 simp only [Lit.wf, Bool.and_eq_true, decide_eq_true_eq] at h
 exact h
end Go.Proofs.Ytcdjeimjbbknjaa.PAll
namespace Go.Proofs.Ytcdjeimjbbknjaa.PAll
open Go.RowKit Go.Proofs.YtcdjeimjbbknjaaW.PrintWords Go.Proofs.YtcdjeimjbbknjaaW.PrintLast Go.Proofs.YtcdjeimjbbknjaaW.PrintMore Go.Proofs.Ytcdjeimjbbknjaa.Res
set_option linter.unusedVariables false
set_option linter.unusedSimpArgs false

end Go.Proofs.Ytcdjeimjbbknjaa.PAll
namespace Go.Proofs.Ytcdjeimjbbknjaa.PAll
open Go.RowKit Go.Proofs.YtcdjeimjbbknjaaW.PrintWords Go.Proofs.YtcdjeimjbbknjaaW.PrintLast Go.Proofs.YtcdjeimjbbknjaaW.PrintMore Go.Proofs.Ytcdjeimjbbknjaa.Res
set_option linter.unusedVariables false
set_option linter.unusedSimpArgs false

structure MinW (w wr : World) (gd i : Nat) (vn vf : Value) (ns : List Nd) : Prop where
  below : Below w.heap.size w wr
  box : wr.heap[gd]? = some (.cells #[.int .i64 64, vn, vf] 68 (0, 0))
  nxt : Kd.R (Kd.slice 3 (Kd.int .i64)) 22 wr w.heap.size (fun _ => True) vn ((nxG ns).take i)
  fins : Kd.bool.R 4 wr w.heap.size (fun _ => True) vf ((finG ns).take i)
  ld : w.heap.size ≤ gd
theorem typed_box {W : World} {g : Nat} {cs : Array Value} {t : TypeId} (h : W.heap[g]? = some (.cells cs t (0, 0))) : ∀ k, (Value.slice (some ⟨g, 0, none⟩) 0 0).ownBlock = some k → ∃ cells, W.heap[k]? = some (.cells cells t (0, 0)) := fun k hk => by
  simp only [Value.ownBlock, Option.some.injEq] at hk
  subst hk
  exact ⟨cs, h⟩
section
variable {w wr W wA : World} {gd i : Nat} {vn vf v1 : Value} {ns : List Nd}
theorem MinW.step (h : MinW w wr gd i vn vf ns) (hb : Below wr.heap.size wr W) : MinW w W gd i vn vf ns :=
  ⟨h.below.trans (hb.mono h.below.size), (hb.block _ (blk_lt h.box)).trans h.box, Kd.R_below h.nxt hb, Kd.R_below h.fins hb, h.ld⟩
theorem nxG_snoc {i : Nat} (h : i ≤ ns.length) : (nxG ns).take (i + 1) = (nxG ns).take i ++ [rowG ns i] := by
 rw [List.take_succ_eq_append_getElem (by simp [nxG]; omega)]; simp [nxG]
theorem finG_snoc {i : Nat} (h : i ≤ ns.length) : (finG ns).take (i + 1) = (finG ns).take i ++ [finalB ns (i : Int)] := by
 rw [List.take_succ_eq_append_getElem (by simp [finG]; omega)]; simp [finG]
structure MinM (w wr : World) (gd i : Nat) (vn vf : Value) (ns : List Nd) : Prop where
  below : Below w.heap.size w wr
  box : wr.heap[gd]? = some (.cells #[.int .i64 64, vn, vf] 68 (0, 0))
  nxt : Kd.R (Kd.slice 3 (Kd.int .i64)) 22 wr w.heap.size (fun _ => True) vn ((nxG ns).take (i + 1))
  fins : Kd.bool.R 4 wr w.heap.size (fun _ => True) vf ((finG ns).take i)
  ld : w.heap.size ≤ gd
theorem MinM.step (h : MinM w wr gd i vn vf ns) (hb : Below wr.heap.size wr W) : MinM w W gd i vn vf ns :=
  ⟨h.below.trans (hb.mono h.below.size), (hb.block _ (blk_lt h.box)).trans h.box, Kd.R_below h.nxt hb, Kd.R_below h.fins hb, h.ld⟩
theorem MinW.next (h : MinW w wr gd i vn vf ns) (HO : Kd.R (Kd.slice 3 (Kd.int .i64)) 22 wA w.heap.size (fun _ => True) v1 ((nxG ns).take (i + 1))) (HB : Below w.heap.size w wA) (HG : wr.grownBy wA vn.ownBlock) :
    wA.heap[gd]? = some (.cells #[.int .i64 64, vn, vf] 68 (0, 0)) ∧ MinM w (wA.setCell ⟨gd, 1, none⟩ v1) gd i v1 vf ns := by
 have f1 := Kd.R_over' h.fins (Kd.R_typed h.nxt) (by decide) HG
 have d1 := blk_grown h.box HG (R_ne h.nxt h.box (by decide))
 have hg := grown_set wA ⟨gd, 1, none⟩ v1
 exact ⟨d1, HB.setCell h.ld _, (set1 d1).1, Kd.R_over' HO (typed_box d1) (by decide) hg, Kd.R_over' f1 (typed_box d1) (by decide) hg, h.ld⟩
theorem MinM.fin (h : MinM w wr gd i vn vf ns) (HO : Kd.bool.R 4 wA w.heap.size (fun _ => True) v1 ((finG ns).take (i + 1))) (HB : Below w.heap.size w wA) (HG : wr.grownBy wA vf.ownBlock) :
    wA.heap[gd]? = some (.cells #[.int .i64 64, vn, vf] 68 (0, 0)) ∧ MinW w (wA.setCell ⟨gd, 2, none⟩ v1) gd (i + 1) vn v1 ns := by
 have n1 := Kd.R_over' h.nxt (Kd.R_typed h.fins) (by decide) HG
 have d1 := blk_grown h.box HG (R_ne h.fins h.box (by decide))
 have hg := grown_set wA ⟨gd, 2, none⟩ v1
 exact ⟨d1, HB.setCell h.ld _, (set1 d1).2, Kd.R_over' n1 (typed_box d1) (by decide) hg, Kd.R_over' HO (typed_box d1) (by decide) hg, h.ld⟩
theorem MinW.start (w : World) (ns : List Nd) : MinW w (w.alloc (.cells #[.int .i64 64, .slice none 0 0, .slice none 0 0] 68)) w.heap.size 0 (.slice none 0 0) (.slice none 0 0) ns :=
  ⟨below_alloc (Below.refl _ _) _, blk_new _ _, by rw [List.take_zero]; exact Kd.R_nil _ _ _ _ _, by rw [List.take_zero]; exact Kd.R_nil _ _ _ _ _, Nat.le_refl _⟩
theorem MinW.done (h : MinW w wr gd (ns.length + 1) vn vf ns) (hk : DfaOk (ns.length + 1) (nxG ns) (finG ns)) : ∃ (A B : Option Addr) (ca cb : Nat), vn = .slice A (ns.length + 1) ca ∧ vf = .slice B (ns.length + 1) cb ∧ DfaAt wr (ns.length + 1) (nxG ns) (finG ns) A B ca cb := by
 have e1 : (nxG ns).take (ns.length + 1) = nxG ns := List.take_of_length_le (by simp [nxG])
 have e2 : (finG ns).take (ns.length + 1) = finG ns := List.take_of_length_le (by simp [finG])
 have h1 := h.nxt
 have h2 := h.fins
 rw [e1] at h1
 rw [e2] at h2
 obtain ⟨A, ca, rfl, hca, hA⟩ := Kd.R_reads h1
 obtain ⟨B, cb, rfl, hcb, hB⟩ := Kd.R_reads h2
 have l1 : (nxG ns).length = ns.length + 1 := by simp [nxG]
 have l2 : (finG ns).length = ns.length + 1 := by simp [finG]
 rw [l1] at hca hA
 rw [l2] at hcb hB
 exact ⟨A, B, ca, cb, by rw [l1], by rw [l2], hk, hA, hB, hca, hcb⟩
end
theorem rowG_snoc (ns : List Nd) (i : Nat) {s : Nat} (h : s < 64) : (rowG ns i).take (s + 1) = (rowG ns i).take s ++ [goG ns (i : Int) (s : Int)] := by
 rw [List.take_succ_eq_append_getElem (by rw [rowG_len]; exact h)]; simp [rowG]
theorem cnt_snoc (ws : List (List Int)) (k : Nat) {i : Nat} (h : i < ws.length) : cntL (ws.take (i + 1)) k = cntL (ws.take i) k + if (rdR ws (i : Int)).length = k then 1 else 0 := by
 rw [List.take_succ_eq_append_getElem h, cntL_app, rdR_get h]
 unfold cntL
 by_cases hk : (ws[i]).length = k
 ·
  rw [if_pos hk]; simp [hk]
 ·
  rw [if_neg hk]; simp [hk]
end Go.Proofs.Ytcdjeimjbbknjaa.PAll
namespace Go.Proofs.Ytcdjeimjbbknjaa.PAll
open Go.RowKit Go.Proofs.YtcdjeimjbbknjaaW.PrintWords Go.Proofs.YtcdjeimjbbknjaaW.PrintLast Go.Proofs.YtcdjeimjbbknjaaW.PrintMore Go.Proofs.Ytcdjeimjbbknjaa.Res
set_option linter.unusedVariables false
set_option linter.unusedSimpArgs false

set_option maxHeartbeats 8000000 in
set_option maxRecDepth 100000 in
theorem minimal_true (A0 : Option Addr) (c0 : Nat) (l0 : List Int) (a1 : Int) (w : World) (hr0 : Kd.C (Kd.int .i64) w A0 l0.length l0) (hc0 : l0.length ≤ c0) (hx0 : ∀ x ∈ l0, -9223372036854775808 ≤ x ∧ x ≤ 9223372036854775807) (hx1 : -9223372036854775808 ≤ a1 ∧ a1 ≤ 9223372036854775807) :
    Calls Try.prog 9 #[.slice A0 l0.length c0, .int .i64 a1] w fun e w' => e = .returned (.bool true) ∧ Below w.heap.size w w' := by
 have har := around_range a1 24 (by decide)
 obtain ⟨m, hm⟩ : ∃ m, 1 + around a1 24 = m := ⟨_, rfl⟩
 have hm0 : 1 ≤ m ∧ m ≤ 24 := by omega
 have wm : IntKind.i64.wrap (1 + around a1 24) = m := (wrap_in (by omega) (by omega)).trans hm
 obtain ⟨ws, hws, h15⟩ := words15_is l0 hx0 m (by omega) (by omega)
 have HG := Aside0.mk (h15.good (by omega))
 have hpos := h15.pos (by omega)
 have hfew := h15.few
 obtain ⟨Q, hQ⟩ := grOk HG.out hpos
 have hst := hQ.few 8 24 h15.size (by omega)
 obtain ⟨ns, hns⟩ : ∃ ns, ns = graphOf ws := ⟨_, rfl⟩
 rw [← hns] at hQ hst
 have HNs := Aside0.mk hns
 have HQ := Aside0.mk hQ
 have HWs := Aside0.mk hws
 have HR0 := Aside0.mk hr0
 have HX1 := Aside0.mk hx1
 have HW25 : Aside0 (ws.length ≤ 24) := ⟨by omega⟩
 have n400 : ¬ (400 : Int) < (ns.length : Int) := by omega
 have hn216 : ns.length ≤ 216 := by omega
 clear hws h15 hr0 hx0 hx1 har hm hfew hQ hst hpos hns
 go_enter Try.func9, Try.ntmps9
 go_upto_region 8 with (first
  | (go_at_call 18; ((with_reducible refine (dl_around a1 24 _ (by decide) HX1.out).mono ?_); rintro e w1 ⟨rfl, hb1⟩; have HL1 := Aside0.mk (Kd.C_below HR0.out hb1); have HB1 := Aside0.mk hb1; clear hb1))
  | (go_at_call 17; ((with_reducible refine (dl_words A0 c0 l0 m ws _ HL1.out hc0 HWs.out).mono ?_); rintro e w2 ⟨Aw, cw, rfl, hlw, hC2, hb2⟩; have HB2 := Aside0.mk (HB1.out.trans (hb2.mono HB1.out.size)); have HV2 := Aside0.mk hC2; clear hb2 hC2))
  | (go_at_call 19; ((with_reducible refine (dl_build HG.out Aw cw _ HV2.out hlw).mono ?_); rintro e w3 ⟨g, rfl, hG3, hb3⟩; have HB3 := Aside0.mk (HB2.out.trans (hb3.mono HB2.out.size)); have HV3 := Aside0.mk (Kd.C_below HV2.out hb3); have HG3 := Aside0.mk hG3; clear hb3 hG3))
  | (go_at_call 42; ((with_reducible refine (dl_statesB (ws := ws) g _ HG3.out).mono ?_); rintro e w4 ⟨rfl, hb4⟩; rw [← HNs.out]; have HB4 := Aside0.mk (HB3.out.trans (hb4.mono HB3.out.size)); have HV4 := Aside0.mk (Kd.C_below HV3.out hb4); have HG4 := Aside0.mk (HG3.out.below hb4); clear hb4))
  | fail)
 have HS := Aside0.mk (MinW.start w4 ns)
 have hgd : w4.heap.size < w4.heap.size + 1 := by omega
 go_wp2
 generalize w4.alloc (.cells #[.int .i64 64, .slice none 0 0, .slice none 0 0] 68) = W5 at *
 go_loopw [10] (fun s10 wr => ∃ (i : Nat) (vn vf : Value), s10 = .int .i64 (i : Int) ∧ Aside0 (i ≤ ns.length + 1) ∧ Aside0 (MinW w4 wr w4.heap.size i vn vf ns)) (fun s10 _ => ns.length + 1 - (intOf s10).toNat)
 case atStart => exact ⟨0, _, _, rfl, ⟨Nat.zero_le _⟩, HS⟩
 case round =>
  clear HS
  obtain ⟨i, vn, vf, rfl, hi, hM⟩ := hrel
  have hi0 := hi.out
  obtain ⟨wo, hwo⟩ : ∃ wo, wo = wr := ⟨_, rfl⟩
  subst hwo
  by_cases hin : i ≤ ns.length
  ·
   have i1 : (i : Int) ≤ (ns.length : Int) := by omega
   go_wp2
   go_loopw [11, 12] (fun s11 s12 wx => ∃ s : Nat, s12 = .int .i64 (s : Int) ∧ s ≤ 64 ∧ Aside0 (Kd.R (Kd.int .i64) 3 wx wo.heap.size (fun _ => True) s11 ((rowG ns i).take s)) ∧ Aside0 (Below wo.heap.size wo wx)) (fun _ s12 _ => 64 - (intOf s12).toNat)
   case atStart => exact ⟨0, rfl, by omega, ⟨by rw [List.take_zero]; exact Kd.R_nil _ _ _ _ _⟩, ⟨Below.refl _ _⟩⟩
   case round =>
    obtain ⟨s, rfl, hs, hR, hB⟩ := hrel
    by_cases hs64 : s < 64
    ·
     have HSn := Aside0.mk (rowG_snoc ns i hs64)
     have HL : Aside0 (((rowG ns i).take s).length ≤ 64) := ⟨by rw [List.length_take]; omega⟩
     have HSt := Aside0.mk (dl_step HG.out g (i : Int) (s : Int) wr ((HG4.out.below hM.out.below).below hB.out))
     rw [← HNs.out] at HSt
     have s1 : (s : Int) < 64 := by omega
     by_cases hk : stepN ns (i : Int) (s : Int) < 0
     ·
      have HGo : Aside0 (goG ns (i : Int) (s : Int) = (ns.length : Int)) := ⟨by unfold goG; rw [if_pos hk]⟩
      generalize stepN ns (i : Int) (s : Int) = k at *
      go_wp2_with (first
       | (go_at_call 33; ((with_reducible refine HSt.out.mono ?_); rintro e w5 ⟨rfl, hb5⟩; have HR5 := Aside0.mk (Kd.R_below hR.out hb5); have HB5 := Aside0.mk (hB.out.trans (hb5.mono hB.out.size)); clear hb5))
       | (at_builtin; refine Kd.R_append (Kd.int .i64) (w0 := wo) wo.heap.size rfl (.tmp 54) (.tmp 56) 22 3 (.int .i64 0) 8 rfl Try.underlying22 info3 rfl (by decide) (by omega) _ ((rowG ns i).take s) (ns.length : Int) [.int .i64 (ns.length : Int)] (fun _ => True) (fun _ => False) rfl rfl rfl (fun _ h => h.elim) (fun _ _ => trivial) HR5.out HB5.out HB5.out.size (by have := HL.out; omega) ?_; intro v6 w6 HO6 HB6 HG6 hown6; rw [← HGo.out, ← HSn.out] at HO6; have HO6 := Aside0.mk HO6; have HB6 := Aside0.mk HB6)
       | fail)
      go_roundw
      case rel => exact ⟨s + 1, by go_num, by omega, HO6, HB6⟩
      case measure => simp [intOf]; omega
     ·
      have HGo : Aside0 (goG ns (i : Int) (s : Int) = stepN ns (i : Int) (s : Int)) := ⟨by unfold goG; rw [if_neg hk]⟩
      generalize stepN ns (i : Int) (s : Int) = k at *
      go_wp2_with (first
       | (go_at_call 33; ((with_reducible refine HSt.out.mono ?_); rintro e w5 ⟨rfl, hb5⟩; have HR5 := Aside0.mk (Kd.R_below hR.out hb5); have HB5 := Aside0.mk (hB.out.trans (hb5.mono hB.out.size)); clear hb5))
       | (at_builtin; refine Kd.R_append (Kd.int .i64) (w0 := wo) wo.heap.size rfl (.tmp 54) (.tmp 56) 22 3 (.int .i64 0) 8 rfl Try.underlying22 info3 rfl (by decide) (by omega) _ ((rowG ns i).take s) k [.int .i64 k] (fun _ => True) (fun _ => False) rfl rfl rfl (fun _ h => h.elim) (fun _ _ => trivial) HR5.out HB5.out HB5.out.size (by have := HL.out; omega) ?_; intro v6 w6 HO6 HB6 HG6 hown6; rw [← HGo.out, ← HSn.out] at HO6; have HO6 := Aside0.mk HO6; have HB6 := Aside0.mk HB6)
       | fail)
      go_roundw
      case rel => exact ⟨s + 1, by go_num, by omega, HO6, HB6⟩
      case measure => simp [intOf]; omega
    ·
     obtain rfl : s = 64 := by omega
     rw [List.take_of_length_le (by rw [rowG_len]; omega)] at hR
     obtain ⟨Ar, cr, rfl⟩ := Kd.R_slice hR.out
     rw [rowG_len]
     have hM1 := hM.out.step hB.out
     obtain ⟨An, cn, rfl⟩ := Kd.R_slice hM1.nxt
     obtain ⟨Af, cf, rfl⟩ := Kd.R_slice hM1.fins
     have hLn : ((nxG ns).take i).length = i := by rw [List.length_take]; simp [nxG]; omega
     have hLf : ((finG ns).take i).length = i := by rw [List.length_take]; simp [finG]; omega
     rw [hLn, hLf] at hM1
     have HRow : Aside0 (Kd.R (Kd.int .i64) 3 wr w4.heap.size (fun k => True ∧ some k ≠ (Value.slice An i cn).ownBlock) (.slice Ar (rowG ns i).length cr) (rowG ns i)) := ⟨Kd.R_mono (Kd.R_lower (Kd.R_bound hR.out) hM.out.below.size) fun k hk => ⟨trivial, fun e => by
      have h1 := ((Kd.R_bound hM.out.nxt).1 k (by rw [hLn]; exact e.symm)).2.2.1
      have h2 := hk.2.1
      omega⟩⟩
     rw [rowG_len] at HRow
     have t1 : wr.cell? ⟨w4.heap.size, 1, none⟩ = some (.slice An i cn) := (blk_cell hM1.box 1).trans rfl
     have HM1 := Aside0.mk hM1
     have HLn := Aside0.mk hLn
     have HLf := Aside0.mk hLf
     have HSn := Aside0.mk (nxG_snoc (ns := ns) hin)
     have HSf := Aside0.mk (finG_snoc (ns := ns) hin)
     have HL1 : Aside0 (((nxG ns).take (i + 1)).length = i + 1 ∧ ((finG ns).take (i + 1)).length = i + 1) := ⟨by rw [List.length_take, List.length_take]; simp [nxG, finG]; omega⟩
     clear hM1 hR hB hM hi hLn hLf
     go_upto_region 21 with (first
      | (at_builtin; refine Kd.R_append (Kd.slice 3 (Kd.int .i64)) (w0 := w4) w4.heap.size rfl (.tmp 59) (.tmp 61) 23 22 (.slice none 0 0) 24 rfl Try.underlying23 info22 rfl (by decide) (by omega) (.slice An i cn) ((nxG ns).take i) (rowG ns i) [.slice Ar 64 cr] (fun _ => True) _ rfl rfl (Kd.M_row HRow.out) (fun _ h => h) (fun _ _ => trivial) HM1.out.nxt HM1.out.below HM1.out.below.size (by have := HLn.out; omega) ?_; intro v3 wA HO3 HB3 HG3 hown3; rw [← HSn.out] at HO3; have hnx := HM1.out.next HO3 HB3 HG3; have u1 : wA.cell? ⟨w4.heap.size, 1, none⟩ = some (.slice An i cn) := (blk_cell hnx.1 1).trans rfl; have u2 : wA.frozen? ⟨w4.heap.size, 1, none⟩ = false := (by simp [World.frozen?, hnx.1]); have HE2 := Aside0.mk hnx.2; clear hnx HB3 HG3 hown3; obtain ⟨A3, c3, hv3⟩ := Kd.R_slice HO3; rw [HL1.out.1] at hv3; subst hv3; clear HO3)
      | fail)
     generalize wA.setCell ⟨w4.heap.size, 1, none⟩ (.slice A3 (i + 1) c3) = w3 at *
     clear u1 u2 t1
     have ht3 : w3.cell? ⟨w4.heap.size, 2, none⟩ = some (.slice Af i cf) := (blk_cell HE2.out.box 2).trans rfl
     have HSc : Aside0 (∀ X, Below w3.heap.size w3 X → X.cell? ⟨w4.heap.size, 2, none⟩ = some (.slice Af i cf)) := ⟨fun X hb => pw_cell_below hb ht3⟩
     have HFn : Aside0 (∀ X, Below w3.heap.size w3 X → Calls Try.prog 31 #[.pointer (some ⟨g, 0, none⟩), .int .i64 (i : Int)] X fun e w' => e = .returned (.bool (finalB ns (i : Int))) ∧ Below X.heap.size X w') := ⟨fun X hb => by
      have := dl_finalB (ws := ws) g (i : Int) X ((HG4.out.below HE2.out.below).below hb)
      rwa [← HNs.out] at this⟩
     generalize hfb : finalB ns (i : Int) = b at *
     go_region_law (first | (refine Kd.R_append_step Kd.bool (w0 := w4) (W := w6) w4.heap.size (by rfl) (.tmp 65) (.tmp 69) 30 4 (.bool false) 1 (by rfl) Try.underlying30 info4 rfl (by decide) (by omega) (.slice Af i cf) ((finG ns).take i) b [.bool b] (fun _ => True) (fun _ => False) (by rfl) (by rfl) rfl (fun _ h => h.elim) (fun _ _ => trivial) (HE2.out.step hb6).fins (HE2.out.step hb6).below (HE2.out.step hb6).below.size (by have := HLf.out; omega) ?_; intro v4 wB HO4 HB4 HG4' hown4; rw [← HSf.out] at HO4; have hnx := (HE2.out.step hb6).fin HO4 HB4 HG4'; have u1 : wB.cell? ⟨w4.heap.size, 2, none⟩ = some (.slice Af i cf) := (blk_cell hnx.1 2).trans rfl; have u2 : wB.frozen? ⟨w4.heap.size, 2, none⟩ = false := (by simp [World.frozen?, hnx.1]); have HE3 := Aside0.mk hnx.2; clear hnx; obtain ⟨A4, c4, hv4⟩ := Kd.R_slice HO4; rw [HL1.out.2] at hv4; subst hv4; clear HO4) | (go_simp; go_at_call 31; refine (HFn.out _ (Below.refl _ _).drew).mono ?_; rintro e w6 ⟨rfl, hb6'⟩; have hb6 : Below w3.heap.size w3 w6 := (Below.refl _ _).drew.trans hb6'; have r6 := HSc.out _ hb6; have r7 : (w6.alloc (.cells #[.bool b] 4)).cell? ⟨w4.heap.size, 2, none⟩ = some (.slice Af i cf) := HSc.out _ (below_alloc hb6 _)) | fail)
     all_goals go_wp2
     all_goals
      go_roundw
      case rel => exact ⟨i + 1, _, _, by go_num, ⟨by omega⟩, HE3⟩
      case measure => simp [intOf]; omega
  ·
   obtain ⟨N, hN⟩ : ∃ N, N = ns.length + 1 := ⟨_, rfl⟩
   obtain rfl : i = ns.length + 1 := by omega
   have hok := HQ.out.dfa (by omega)
   obtain ⟨A, B, ca, cb, rfl, rfl, hDf⟩ := hM.out.done hok
   have hmin := HQ.out.minim
   have hrch := HQ.out.reach
   have hacc := HQ.out.accepts (by omega)
   have hbox := hM.out.box
   rw [← hN] at hDf hmin hrch hacc hbox
   have HDf := Aside0.mk hDf
   have HMin := Aside0.mk hmin
   have HRch := Aside0.mk hrch
   have HAcc : Aside0 (∀ k : Nat, dotP (iterV N (nxG ns) k) (indF (finG ns)) N = (cntL ws k : Int)) := ⟨hacc⟩
   have HBox := Aside0.mk hbox
   have HBz := Aside0.mk hM.out.below
   have wN : IntKind.i64.wrap ((ns.length : Int) + 1) = (N : Int) := (wrap_in (by omega) (by omega)).trans (by omega)
   have n1 : ¬ (((ns.length + 1 : Nat) : Int) ≤ (ns.length : Int)) := by omega
   have n2 : (ns.length : Int) < ((ns.length + 1 : Nat) : Int) := by omega
   have x0 : wo.cell? ⟨w4.heap.size, 0, none⟩ = some (.int .i64 64) := (blk_cell hbox 0).trans rfl
   have x1 : wo.cell? ⟨w4.heap.size, 1, none⟩ = some (.slice A N ca) := (blk_cell hbox 1).trans rfl
   have x2 : wo.cell? ⟨w4.heap.size, 2, none⟩ = some (.slice B N cb) := (blk_cell hbox 2).trans rfl
   clear hok hDf hmin hrch hacc hbox hM hi hN
   have hfd : ∀ (A' B' : Option Addr) (n' c' d' : Nat) (W : World), (Instr.field 68 (.agg #[.int .i64 64, .slice A' N c', .slice B' n' d']) 1).run Try.prog W = .ok (.slice A' N c') W := fun _ _ _ _ _ _ => by kernel_rfl
   go_upto_region 24 with (first
    | (go_at_call 43; ((with_reducible refine (valid_any HDf.out).mono ?_); rintro e w5 ⟨rfl, hb5⟩; have y0 := pw_cell_below hb5 x0; have y1 := pw_cell_below hb5 x1; have y2 := pw_cell_below hb5 x2; have HDf5 := Aside0.mk (HDf.out.below hb5); have HB5 := Aside0.mk hb5; clear hb5))
    | (go_at_call 44; ((with_reducible refine (minA_any HDf5.out HMin.out HRch.out).mono ?_); rintro e w6 ⟨A', B', n', c', d', rfl, hb6⟩; have HB6 := Aside0.mk (HB5.out.trans (hb6.mono HB5.out.size)); clear hb6))
    | fail)
   have HV6 := Aside0.mk (Kd.C_below (Kd.C_below HV4.out HBz.out) HB6.out)
   have HD6 := Aside0.mk (HDf.out.below HB6.out)
   have HBk6 := Aside0.mk ((HB6.out.block _ (blk_lt HBox.out)).trans HBox.out)
   have HB60 : Aside0 (Below w.heap.size w w6) := ⟨HB4.out.trans ((HBz.out.trans (HB6.out.mono HBz.out.size)).mono HB4.out.size)⟩
   clear x0 x1 x2 y0 y1 y2 HB5 HDf5 hfd
   go_wp2
   go_loopw [14] (fun s14 wr => ∃ k : Nat, s14 = .int .i64 (k : Int) ∧ Aside0 (k ≤ 10) ∧ Aside0 (Below w6.heap.size w6 wr)) (fun s14 _ => 10 - (intOf s14).toNat)
   case atStart => exact ⟨0, rfl, ⟨by omega⟩, ⟨Below.refl _ _⟩⟩
   case round =>
    obtain ⟨k, rfl, hk, hB⟩ := hrel
    have hk0 := hk.out
    by_cases hk9 : k ≤ 9
    ·
     have k1 : (k : Int) ≤ 9 := by omega
     have HVr := Aside0.mk (Kd.C_below HV6.out hB.out)
     go_wp2
     go_loop [15, 16] (fun s15 s16 => ∃ i : Nat, s16 = .int .i64 (i : Int) ∧ i ≤ ws.length ∧ s15 = .int .u64 ((cntL (ws.take i) k : Nat) : Int)) (fun _ s16 => ws.length - (intOf s16).toNat)
     case atStart => exact ⟨0, rfl, Nat.zero_le _, by simp [cntL]⟩
     case round =>
      obtain ⟨i, rfl, hi, rfl⟩ := hrel
      by_cases hil : i < ws.length
      ·
       obtain ⟨ad, Ai, ci, rfl, rx, hli, hCi⟩ := at_rows HVr.out (i : Int) (by omega) (by omega)
       rw [Int.toNat_natCast] at rx
       have hcs := cnt_snoc ws k hil
       have hcl : cntL (ws.take i) k ≤ (ws.take i).length := List.length_filter_le _ _
       rw [List.length_take] at hcl
       have i1 : (i : Int) < (ws.length : Int) := by omega
       have hw24 := HW25.out
       clear hCi hli
       generalize cntL (ws.take i) k = q at *
       have wq : IntKind.u64.wrap ((q : Int) + 1) = ((q + 1 : Nat) : Int) := (Go.IntWalk.u64_in _ (by omega)).trans (by omega)
       generalize (rdR ws (i : Int)).length = len at *
       by_cases he : len = k
       ·
        subst he
        rw [if_pos rfl] at hcs
        have HCs := Aside0.mk hcs
        clear hcs hcl
        go_wp2
        go_round
        case rel => exact ⟨i + 1, by go_num, by omega, by rw [HCs.out]; exact congrArg (Value.int .u64) (by omega)⟩
        case measure => simp [intOf]; omega
       ·
        rw [if_neg he] at hcs
        have HCs := Aside0.mk hcs
        have hne : ((len : Int) == (k : Int)) = false := by simp; omega
        clear hcs hcl
        go_wp2
        go_round
        case rel => exact ⟨i + 1, by go_num, by omega, by rw [HCs.out]; rfl⟩
        case measure => simp [intOf]; omega
      ·
       obtain rfl : i = ws.length := by omega
       rw [List.take_length]
       have hct := count_is (HD6.out.below hB.out) k hk9
       rw [HAcc.out k] at hct
       have HCt := Aside0.mk hct
       have hbk := (hB.out.block _ (blk_lt HBk6.out)).trans HBk6.out
       have x0 : wr.cell? ⟨w4.heap.size, 0, none⟩ = some (.int .i64 64) := (blk_cell hbk 0).trans rfl
       have x1 : wr.cell? ⟨w4.heap.size, 1, none⟩ = some (.slice A N ca) := (blk_cell hbk 1).trans rfl
       have x2 : wr.cell? ⟨w4.heap.size, 2, none⟩ = some (.slice B N cb) := (blk_cell hbk 2).trans rfl
       clear hct hbk
       generalize cntL ws k = q at *
       go_wp2_with (go_at_call 45; ((with_reducible refine HCt.out.mono ?_); rintro e w7 ⟨rfl, hb7⟩; have HB7 := Aside0.mk (hB.out.trans (hb7.mono hB.out.size)); clear hb7))
       go_roundw
       case rel => exact ⟨k + 1, by go_num, ⟨by omega⟩, HB7⟩
       case measure => simp [intOf]; omega
    ·
     have k1 : ¬ (k : Int) ≤ 9 := by omega
     go_wp2_with (go_at_call 28; ((with_reducible refine (lives15 _).mono ?_); rintro e w8 ⟨rfl, hb8⟩; have HB8 := Aside0.mk (HB60.out.trans ((hB.out.trans (hb8.mono hB.out.size)).mono HB60.out.size)); clear hb8))
     go_ret
     exact ⟨rfl, HB8.out⟩
def wordbooklaw15_DawgMinimal.Pure : Prop := True
theorem wordbooklaw15_DawgMinimal.walk (P : wordbooklaw15_DawgMinimal.Pure) (a0 : Option Addr) (len0 cap0 : Nat) (z0 : List Int) (a1 : Int) (w : World) (w0 : (a0 = none ∧ len0 = 0 ∧ cap0 = 0 ∧ z0 = []) ∨ ∃ x, a0 = some x ∧ len0 ≤ cap0 ∧ cap0 ≤ maxLen ∧ z0.length = cap0 ∧ (∀ i, i < z0.length → w.cell? (x.add i) = some (.int .i64 (z0.getD i 0))) ∧ ∀ n ∈ z0, (Lit.int .i64 n).wf = true) (y0 : len0 * 8 ≤ 140737488351232) (w1 : (Lit.int .i64 a1).wf = true) :
    Calls Try.prog 9 #[.slice a0 len0 cap0, .int .i64 a1] w fun e w' => e = .returned (.bool true) ∧ Below w.heap.size w w' := by
 obtain ⟨l0, rfl, hr0, hm0, hw0, hc0⟩ := ReadsInt.ofRowC w0
 exact minimal_true _ _ l0 a1 w (Kd.C_of_reads (d := (0 : Int)) (h1 := fun _ => rfl) hr0) hc0 (fun x hx => wf_i64 (hw0 x hx)) (wf_i64 w1)
end Go.Proofs.Ytcdjeimjbbknjaa.PAll
