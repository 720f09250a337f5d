/- The statement FuzzyAffixes is proved, without conditions. -/
import Derived.Test.YtcdjeimjbbknjaaRows
import Derived.WalkKit
import Derived.ProofKit
import Derived.OpenShut
import Derived.ShutString
import Derived.ChangeOld
import Derived.Below
import Derived.SizedLaws
import Derived.Test.YtcdjeimjbbknjaaFaB3
namespace Go.Proofs.Ytcdjeimjbbknjaa.PAll
open Go.RowKit Go.Proofs.YtcdjeimjbbknjaaW.PrintWords Go.Proofs.YtcdjeimjbbknjaaW.PrintLast Go.Proofs.YtcdjeimjbbknjaaW.PrintMore Go.Proofs.Ytcdjeimjbbknjaa.Lev
set_option linter.unusedVariables false
set_option linter.unusedSimpArgs false

/-- 'xs[m:]' of a slice that is read. -/
theorem cut_drop {k : IntKind} {t e : TypeId} {b : Nat} (ht : Try.prog.underlying t = some (.slice e)) (hinfo : (Try.prog.info? e).map (fun i => (i.zero, i.size, i.bytes)) = some (some (Value.int k 0), 1, b)) (A : Option Addr) (c : Nat) (xs : List Int) (m : Nat) (hm : m ≤ xs.length) (hc : xs.length ≤ c) :
    ∃ A' : Option Addr, (∀ W : World, (Instr.slice t (.slice A xs.length c) (some (.int .i64 (m : Int))) none none).run Try.prog W = .ok (.slice A' (xs.length - m) (c - m)) W) ∧ (∀ w : World, Kd.C (Kd.int k) w A xs.length xs → Kd.C (Kd.int k) w A' (xs.length - m) (xs.drop m)) ∧ xs.length - m ≤ c - m := by
  obtain ⟨i0, hi, _, hsz, _⟩ := info_parts hinfo
  obtain ⟨A', hcut, hA, hC⟩ := print_drop_of (P := Try.prog) (Value.int k) 0 t e .i64 ht hi hsz A c xs (m : Int) (by omega) (by omega) hc
  have hl : (xs.drop (m : Int).toNat).length = xs.length - m := by rw [List.length_drop]; omega
  rw [hl] at hcut hA
  exact ⟨A', by simpa using hcut, fun w h => by have h2 : (Kd.int k).C w A' (xs.length - m) (xs.drop (m : Int).toNat) := Kd.C_of_reads (hA w (Kd.reads_of_C h)); rwa [Int.toNat_natCast] at h2, by omega⟩

def around (n most : Int) : Int := Int.tmod (if n < 0 then -(n + 1) else n) most
theorem around_is (n most : Int) (h0 : 0 < most) (hn : -9223372036854775808 ≤ n ∧ n ≤ 9223372036854775807) : wordbookref01_Around.f n most = some (around n most) := by
  unfold wordbookref01_Around.f around
  by_cases h : n < 0
  · rw [if_pos h, if_neg (by omega), if_pos h]
    have e1 : wrap64 (n + 1) = n + 1 := by unfold wrap64; omega
    have e2 : wrap64 (-(n + 1)) = -(n + 1) := by unfold wrap64; omega
    rw [e1, e2]
  · rw [if_neg h, if_neg (by omega), if_neg h]
theorem around_range (n most : Int) (h0 : 0 < most) : 0 ≤ around n most ∧ around n most < most := by
  unfold around
  have h : 0 ≤ (if n < 0 then -(n + 1) else n) := by split <;> omega
  generalize (if n < 0 then -(n + 1) else n) = q at *
  rw [Int.tmod_eq_emod_of_nonneg h]
  exact ⟨Int.emod_nonneg _ (by omega), Int.emod_lt_of_pos _ h0⟩
theorem around_calls (n most : Int) (w : World) (h0 : 0 < most) (hn : -9223372036854775808 ≤ n ∧ n ≤ 9223372036854775807) :
    Calls Try.prog 18 #[.int .i64 n, .int .i64 most] w fun e w' => e = .returned (.int .i64 (around n most)) ∧ Drawn0 w w' :=
  wordbookref01_Around.calls n most _ w (around_is n most h0 hn)

def edited (w : List Int) (kind at_ x : Int) : List Int :=
  if kind = 0 then put_ w (around at_ (w.length + 1)).toNat x
  else if w.length = 0 then [] else if kind = 2 then set_ w (around at_ w.length).toNat x else cut_ w (around at_ w.length).toNat
def editOk (l0 : List Int) (a2 : Int) : Prop := l0.length ≤ 1000000000000 ∧ -9223372036854775808 ≤ a2 ∧ a2 ≤ 9223372036854775807
instance (l0 : List Int) (a2 : Int) : Decidable (editOk l0 a2) := by unfold editOk; infer_instance
def wordbookref16_Edited.f (l0 : List Int) (a1 : Int) (a2 : Int) (a3 : Int) : Option (List Int) := if editOk l0 a2 then some (edited l0 a1 a2 a3) else none
set_option maxHeartbeats 4000000 in
set_option maxRecDepth 100000 in
theorem edited_put (A0 : Option Addr) (c0 : Nat) (l0 : List Int) (a2 a3 : Int) (w : World) (hr0 : Kd.C (Kd.int .i64) w A0 l0.length l0) (hc0 : l0.length ≤ c0) (hok : editOk l0 a2) :
    Calls Try.prog 59 #[.slice A0 l0.length c0, .int .i64 0, .int .i64 a2, .int .i64 a3] w fun e w' => ∃ v0_ : Value, e = .returned (v0_) ∧ Kd.R (Kd.int .i64) 3 w' w.heap.size (fun _ => True) v0_ (edited l0 0 a2 a3) ∧ Below w.heap.size w w' := by
  obtain ⟨hl, hb⟩ := hok
  obtain ⟨r0, r1⟩ := around_range a2 ((l0.length : Int) + 1) (by omega)
  have HA := Aside0.mk (fun W => around_calls a2 ((l0.length : Int) + 1) W (by omega) hb)
  have HF : Aside0 (edited l0 0 a2 a3 = put_ l0 (around a2 (l0.length + 1)).toNat a3) := ⟨by simp [edited]⟩
  clear hb
  generalize around a2 ((l0.length : Int) + 1) = q at *
  obtain ⟨m, rfl⟩ := Int.eq_ofNat_of_zero_le r0
  obtain ⟨hcut, hC⟩ := cut_take (k := .i64) Try.underlying22 info3 A0 c0 l0 m (by omega) hc0
  obtain ⟨A', hcut', hC', hc'⟩ := cut_drop (k := .i64) Try.underlying22 info3 A0 c0 l0 m (by omega) hc0
  have HR := Aside0.mk hr0
  have HC := Aside0.mk hC
  have HC' := Aside0.mk hC'
  have HL := Aside0.mk (show (l0.take m).length = m by rw [List.length_take]; omega)
  have HL' := Aside0.mk (show (l0.drop m).length = l0.length - m by rw [List.length_drop])
  clear hr0 hC hC'
  have hml : m ≤ l0.length := by omega
  clear r1 r0
  go_enter Try.func59, Try.ntmps59
  go_wp2_with (first | (go_at_call 18; refine (HA.out _).mono ?_; rintro e w' ⟨rfl, ⟨nd, rfl⟩⟩) | (at_builtin; refine Kd.R_append_rows (Kd.int .i64) (w0 := w) w.heap.size rfl (.tmp 19) (.tmp 22) 22 3 (.int .i64 0) 8 rfl Try.underlying22 info3 rfl (by decide) (by omega) (.slice none 0 0) ([] : List Int) (l0.take m) A0 m c0 (fun _ => True) (fun _ => False) rfl rfl (Kd.R_nil _ _ _ _ _) (HC.out _ (Kd.C_drewN HR.out nd)) (fun _ _ h => h) (fun _ h => h.elim) (fun _ _ => trivial) (pw_below_drewN (Below.refl _ _) nd) (Nat.le_refl _) (by simp only [List.length_nil]; omega) ?_; intro v1 w1 HO1 HB1 _ _; rw [List.nil_append] at HO1; have HO1 := Aside0.mk HO1; have HB1 := Aside0.mk HB1) | (at_builtin; refine Kd.R_append (Kd.int .i64) (w0 := w) w.heap.size rfl (.tmp 23) (.tmp 25) 22 3 (.int .i64 0) 8 rfl Try.underlying22 info3 rfl (by decide) (by omega) v1 (l0.take m) a3 [.int .i64 a3] (fun _ => True) (fun _ => False) rfl rfl rfl (fun _ h => h.elim) (fun _ _ => trivial) HO1.out HB1.out HB1.out.size (by have := HL.out; omega) ?_; intro v2 w2 HO2 HB2 _ _; have HO2 := Aside0.mk HO2; have HB2 := Aside0.mk HB2) | (at_builtin; refine Kd.R_append_rows (Kd.int .i64) (w0 := w) w.heap.size rfl (.tmp 27) (.tmp 30) 22 3 (.int .i64 0) 8 rfl Try.underlying22 info3 rfl (by decide) (by omega) v2 (l0.take m ++ [a3]) (l0.drop m) A' (l0.length - m) (c0 - m) (fun _ => True) (fun _ => False) rfl rfl HO2.out (HC'.out _ (Kd.C_below HR.out HB2.out)) (fun _ _ h => h) (fun _ h => h.elim) (fun _ _ => trivial) HB2.out HB2.out.size (by have := HL.out; simp only [List.length_append, List.length_singleton]; omega) ?_; intro v3 w3 HO3 HB3 _ _; have HO3 := Aside0.mk HO3; have HB3 := Aside0.mk HB3))
  go_ret
  exact ⟨_, rfl, by rw [HF.out, put_, Int.toNat_natCast]; simpa using HO3.out, HB3.out⟩
set_option maxHeartbeats 4000000 in
set_option maxRecDepth 100000 in
theorem edited_set (A0 : Option Addr) (c0 : Nat) (l0 : List Int) (a1 a2 a3 : Int) (w : World) (hr0 : Kd.C (Kd.int .i64) w A0 l0.length l0) (hc0 : l0.length ≤ c0) (hok : editOk l0 a2) (ha : ¬ a1 = 0) (hpos : 0 < l0.length) (hb2 : a1 = 2) :
    Calls Try.prog 59 #[.slice A0 l0.length c0, .int .i64 a1, .int .i64 a2, .int .i64 a3] w fun e w' => ∃ v0_ : Value, e = .returned (v0_) ∧ Kd.R (Kd.int .i64) 3 w' w.heap.size (fun _ => True) v0_ (edited l0 a1 a2 a3) ∧ Below w.heap.size w w' := by
  have h0 : (a1 == 0) = false := beq_eq_false_iff_ne.2 ha
  have h1 : ((l0.length : Int) == 0) = false := beq_eq_false_iff_ne.2 (by omega)
  have h2 : (a1 == 2) = true := beq_iff_eq.2 hb2
  obtain ⟨hl, hb⟩ := hok
  obtain ⟨r0, r1⟩ := around_range a2 (l0.length : Int) (by omega)
  have HA := Aside0.mk (fun W => around_calls a2 (l0.length : Int) W (by omega) hb)
  have HF : Aside0 (edited l0 a1 a2 a3 = set_ l0 (around a2 l0.length).toNat a3) := ⟨by unfold edited; rw [if_neg ha, if_neg (by omega)]; rw [if_pos hb2]⟩
  clear hb ha hb2
  generalize around a2 (l0.length : Int) = q at *
  obtain ⟨m, rfl⟩ := Int.eq_ofNat_of_zero_le r0
  obtain ⟨hcut, hC⟩ := cut_take (k := .i64) Try.underlying22 info3 A0 c0 l0 m (by omega) hc0
  obtain ⟨A', hcut', hC', hc'⟩ := cut_drop (k := .i64) Try.underlying22 info3 A0 c0 l0 (m + 1) (by omega) hc0
  rw [show (((m + 1 : Nat) : Int)) = (m : Int) + 1 from by omega] at hcut'
  have HR := Aside0.mk hr0
  have HC := Aside0.mk hC
  have HC' := Aside0.mk hC'
  have HL := Aside0.mk (show (l0.take m).length = m by rw [List.length_take]; omega)
  clear hr0 hC hC' hpos
  have hml : m < l0.length := by omega
  clear r1 r0
  go_enter Try.func59, Try.ntmps59
  go_wp2_with (first | (go_at_call 18; refine (HA.out _).mono ?_; rintro e w' ⟨rfl, ⟨nd, rfl⟩⟩) | (at_builtin; refine Kd.R_append_rows (Kd.int .i64) (w0 := w) w.heap.size rfl (.tmp 40) (.tmp 43) 22 3 (.int .i64 0) 8 rfl Try.underlying22 info3 rfl (by decide) (by omega) (.slice none 0 0) ([] : List Int) (l0.take m) A0 m c0 (fun _ => True) (fun _ => False) rfl rfl (Kd.R_nil _ _ _ _ _) (HC.out _ (Kd.C_drewN HR.out nd)) (fun _ _ h => h) (fun _ h => h.elim) (fun _ _ => trivial) (pw_below_drewN (Below.refl _ _) nd) (Nat.le_refl _) (by simp only [List.length_nil]; omega) ?_; intro v1 w1 HO1 HB1 _ _; rw [List.nil_append] at HO1; have HO1 := Aside0.mk HO1; have HB1 := Aside0.mk HB1) | (at_builtin; refine Kd.R_append (Kd.int .i64) (w0 := w) w.heap.size rfl (.tmp 47) (.tmp 49) 22 3 (.int .i64 0) 8 rfl Try.underlying22 info3 rfl (by decide) (by omega) v1 (l0.take m) a3 [.int .i64 a3] (fun _ => True) (fun _ => False) rfl rfl rfl (fun _ h => h.elim) (fun _ _ => trivial) HO1.out HB1.out HB1.out.size (by have := HL.out; omega) ?_; intro v2 w2 HO2 HB2 _ _; have HO2 := Aside0.mk HO2; have HB2 := Aside0.mk HB2) | (at_builtin; refine Kd.R_append_rows (Kd.int .i64) (w0 := w) w.heap.size rfl (.tmp 51) (.tmp 55) 22 3 (.int .i64 0) 8 rfl Try.underlying22 info3 rfl (by decide) (by omega) v2 (l0.take m ++ [a3]) (l0.drop (m + 1)) A' (l0.length - (m + 1)) (c0 - (m + 1)) (fun _ => True) (fun _ => False) rfl rfl HO2.out (HC'.out _ (Kd.C_below HR.out HB2.out)) (fun _ _ h => h) (fun _ h => h.elim) (fun _ _ => trivial) HB2.out HB2.out.size (by have := HL.out; simp only [List.length_append, List.length_singleton]; omega) ?_; intro v3 w3 HO3 HB3 _ _; have HO3 := Aside0.mk HO3; have HB3 := Aside0.mk HB3))
  go_ret
  exact ⟨_, rfl, by rw [HF.out, set_, Int.toNat_natCast]; simpa using HO3.out, HB3.out⟩
set_option maxHeartbeats 4000000 in
set_option maxRecDepth 100000 in
theorem edited_cut (A0 : Option Addr) (c0 : Nat) (l0 : List Int) (a1 a2 a3 : Int) (w : World) (hr0 : Kd.C (Kd.int .i64) w A0 l0.length l0) (hc0 : l0.length ≤ c0) (hok : editOk l0 a2) (ha : ¬ a1 = 0) (hpos : 0 < l0.length) (hb2 : ¬ a1 = 2) :
    Calls Try.prog 59 #[.slice A0 l0.length c0, .int .i64 a1, .int .i64 a2, .int .i64 a3] w fun e w' => ∃ v0_ : Value, e = .returned (v0_) ∧ Kd.R (Kd.int .i64) 3 w' w.heap.size (fun _ => True) v0_ (edited l0 a1 a2 a3) ∧ Below w.heap.size w w' := by
  have h0 : (a1 == 0) = false := beq_eq_false_iff_ne.2 ha
  have h1 : ((l0.length : Int) == 0) = false := beq_eq_false_iff_ne.2 (by omega)
  have h2 : (a1 == 2) = false := beq_eq_false_iff_ne.2 hb2
  obtain ⟨hl, hb⟩ := hok
  obtain ⟨r0, r1⟩ := around_range a2 (l0.length : Int) (by omega)
  have HA := Aside0.mk (fun W => around_calls a2 (l0.length : Int) W (by omega) hb)
  have HF : Aside0 (edited l0 a1 a2 a3 = cut_ l0 (around a2 l0.length).toNat) := ⟨by unfold edited; rw [if_neg ha, if_neg (by omega)]; rw [if_neg hb2]⟩
  clear hb ha hb2
  generalize around a2 (l0.length : Int) = q at *
  obtain ⟨m, rfl⟩ := Int.eq_ofNat_of_zero_le r0
  obtain ⟨hcut, hC⟩ := cut_take (k := .i64) Try.underlying22 info3 A0 c0 l0 m (by omega) hc0
  obtain ⟨A', hcut', hC', hc'⟩ := cut_drop (k := .i64) Try.underlying22 info3 A0 c0 l0 (m + 1) (by omega) hc0
  rw [show (((m + 1 : Nat) : Int)) = (m : Int) + 1 from by omega] at hcut'
  have HR := Aside0.mk hr0
  have HC := Aside0.mk hC
  have HC' := Aside0.mk hC'
  have HL := Aside0.mk (show (l0.take m).length = m by rw [List.length_take]; omega)
  clear hr0 hC hC' hpos
  have hml : m < l0.length := by omega
  clear r1 r0
  go_enter Try.func59, Try.ntmps59
  go_wp2_with (first | (go_at_call 18; refine (HA.out _).mono ?_; rintro e w' ⟨rfl, ⟨nd, rfl⟩⟩) | (at_builtin; refine Kd.R_append_rows (Kd.int .i64) (w0 := w) w.heap.size rfl (.tmp 40) (.tmp 43) 22 3 (.int .i64 0) 8 rfl Try.underlying22 info3 rfl (by decide) (by omega) (.slice none 0 0) ([] : List Int) (l0.take m) A0 m c0 (fun _ => True) (fun _ => False) rfl rfl (Kd.R_nil _ _ _ _ _) (HC.out _ (Kd.C_drewN HR.out nd)) (fun _ _ h => h) (fun _ h => h.elim) (fun _ _ => trivial) (pw_below_drewN (Below.refl _ _) nd) (Nat.le_refl _) (by simp only [List.length_nil]; omega) ?_; intro v1 w1 HO1 HB1 _ _; rw [List.nil_append] at HO1; have HO1 := Aside0.mk HO1; have HB1 := Aside0.mk HB1) | (at_builtin; refine Kd.R_append_rows (Kd.int .i64) (w0 := w) w.heap.size rfl (.tmp 51) (.tmp 55) 22 3 (.int .i64 0) 8 rfl Try.underlying22 info3 rfl (by decide) (by omega) v1 (l0.take m) (l0.drop (m + 1)) A' (l0.length - (m + 1)) (c0 - (m + 1)) (fun _ => True) (fun _ => False) rfl rfl HO1.out (HC'.out _ (Kd.C_below HR.out HB1.out)) (fun _ _ h => h) (fun _ h => h.elim) (fun _ _ => trivial) HB1.out HB1.out.size (by have := HL.out; omega) ?_; intro v3 w3 HO3 HB3 _ _; have HO3 := Aside0.mk HO3; have HB3 := Aside0.mk HB3))
  go_ret
  exact ⟨_, rfl, by rw [HF.out, cut_, Int.toNat_natCast]; simpa using HO3.out, HB3.out⟩
set_option maxHeartbeats 4000000 in
set_option maxRecDepth 100000 in
theorem edited_none (A0 : Option Addr) (c0 : Nat) (l0 : List Int) (a1 a2 a3 : Int) (w : World) (hr0 : Kd.C (Kd.int .i64) w A0 l0.length l0) (hc0 : l0.length ≤ c0) (hok : editOk l0 a2) (ha : ¬ a1 = 0) (hpos : l0.length = 0) :
    Calls Try.prog 59 #[.slice A0 l0.length c0, .int .i64 a1, .int .i64 a2, .int .i64 a3] w fun e w' => ∃ v0_ : Value, e = .returned (v0_) ∧ Kd.R (Kd.int .i64) 3 w' w.heap.size (fun _ => True) v0_ (edited l0 a1 a2 a3) ∧ Below w.heap.size w w' := by
  have h0 : (a1 == 0) = false := beq_eq_false_iff_ne.2 ha
  have HF : Aside0 (edited l0 a1 a2 a3 = []) := ⟨by unfold edited; rw [if_neg ha, if_pos hpos]⟩
  obtain rfl := List.eq_nil_of_length_eq_zero hpos
  clear ha hpos hok hr0
  go_enter Try.func59, Try.ntmps59
  go_wp2
  go_ret
  exact ⟨_, rfl, by rw [HF.out]; exact Kd.R_nil _ _ _ _ _, Below.refl _ _⟩
theorem wordbookref16_Edited.calls (A0 : Option Addr) (c0 : Nat) (l0 : List Int) (a1 : Int) (a2 : Int) (a3 : Int) (r : List Int) (w : World) (hr0 : Kd.C (Kd.int .i64) w A0 l0.length l0) (hc0 : l0.length ≤ c0) (h : wordbookref16_Edited.f l0 a1 a2 a3 = some r) :
    Calls Try.prog 59 #[.slice A0 l0.length c0, .int .i64 a1, .int .i64 a2, .int .i64 a3] w fun e w' => ∃ v0_ : Value, e = .returned (v0_) ∧ Kd.R (Kd.int .i64) 3 w' w.heap.size (fun _ => True) v0_ r ∧ Below w.heap.size w w' := by
  unfold wordbookref16_Edited.f at h
  split at h
  case isFalse => cases h
  case isTrue hok =>
  obtain rfl := Option.some.inj h
  by_cases h0 : a1 = 0
  · subst h0; exact edited_put A0 c0 l0 a2 a3 w hr0 hc0 hok
  · rcases Nat.eq_zero_or_pos l0.length with hz | hp
    · exact edited_none A0 c0 l0 a1 a2 a3 w hr0 hc0 hok h0 hz
    · by_cases h2 : a1 = 2
      · exact edited_set A0 c0 l0 a1 a2 a3 w hr0 hc0 hok h0 hp h2
      · exact edited_cut A0 c0 l0 a1 a2 a3 w hr0 hc0 hok h0 hp h2
end Go.Proofs.Ytcdjeimjbbknjaa.PAll
namespace Go.Proofs.Ytcdjeimjbbknjaa.PAll
open Go.RowKit Go.Proofs.YtcdjeimjbbknjaaW.PrintWords Go.Proofs.YtcdjeimjbbknjaaW.PrintLast Go.Proofs.YtcdjeimjbbknjaaW.PrintMore Go.Proofs.Ytcdjeimjbbknjaa.Lev
set_option linter.unusedVariables false
set_option linter.unusedSimpArgs false

theorem upTo_row (w : List Int) : upTo (w.length + 1) = rowOf [] w := (rowOf_first w).symm
theorem rowOf_ok (r w : List Int) (h : r.length ≤ 1000000 ∧ w.length ≤ 1000000) : rowOk (rowOf r w) w := by
  refine ⟨rowOf_length r w, by rw [rowOf_length]; omega, fun x hx => ?_⟩
  have := rowOf_bound r w x hx
  omega
theorem distance_tells (v w : List Int) (hv : v.length ≤ 1000000) (hw : w.length ≤ 1000000) (d : Nat) : ∀ (k i : Nat), v.length - i = d → i ≤ v.length → d < k →
    fuzzy_Distance.l0 k w (rowOf (v.take i).reverse w) v (v.length : Int) (i : Int) = some ((lev v w : Nat) : Int) := by
  induction d with
  | zero =>
    intro k i hd hi hk
    obtain ⟨k, rfl⟩ : ∃ m, k = m + 1 := ⟨k - 1, by omega⟩
    obtain rfl : i = v.length := by omega
    simp only [fuzzy_Distance.l0]
    rw [if_neg (by omega), if_pos (by omega), if_pos (by rw [rowOf_length]; omega), List.take_length, rd_nat, rowOf_at _ _ _ (Nat.le_refl _), List.take_length, lev_reverse]
  | succ d ih =>
    intro k i hd hi hk
    obtain ⟨k, rfl⟩ : ∃ m, k = m + 1 := ⟨k - 1, by omega⟩
    simp only [fuzzy_Distance.l0]
    rw [if_pos (by omega), if_pos (by omega), if_pos (by omega)]
    unfold fuzzy_row.f
    rw [if_pos (rowOf_ok _ _ ⟨by rw [List.length_reverse, List.length_take]; omega, hw⟩), Option.bind_some, rowOf_next, wrap_succ (by omega) (by omega)]
    have h1 : (v.take (i + 1)).reverse = rd v i :: (v.take i).reverse := by
      rw [List.take_succ_eq_append_getElem (by omega : i < v.length), List.reverse_append, rd_nat, List.getD_eq_getElem?_getD, List.getElem?_eq_getElem (by omega : i < v.length)]; rfl
    have := ih k (i + 1) (by omega) (by omega) (by omega)
    rw [h1] at this
    rwa [show ((i + 1 : Nat) : Int) = (i : Int) + 1 from by omega] at this
theorem distance_is (v w : List Int) (hv : v.length ≤ 1000000) (hw : w.length ≤ 1000000) (k : Nat) (hk : v.length < k) : fuzzy_Distance.f k v w = some ((lev v w : Nat) : Int) := by
  unfold fuzzy_Distance.f fuzzy_first.f
  rw [if_pos (by omega), Option.bind_some, upTo_row]
  have := distance_tells v w hv hw v.length k 0 (by omega) (by omega) hk
  simpa using this
/-- A word of law 16. -/
def wordL (l : List Int) : List Int := (l.take 10).map fun x => around x 4
theorem wordL_length (l : List Int) : (wordL l).length ≤ 10 := by simp [wordL]; omega
theorem word_tells (l : List Int) (hl : l.length ≤ 9223372036854775807) (hx : ∀ x ∈ l, -9223372036854775808 ≤ x ∧ x ≤ 9223372036854775807) (d : Nat) : ∀ (k i : Nat), 11 - i = d → i ≤ 10 → i ≤ l.length → d < k →
    wordbooklaw16_word.l0 k l ((l.take i).map fun x => around x 4) (i : Int) = some (wordL l) := by
  induction d with
  | zero => intro k i hd hi _ hk; omega
  | succ d ih =>
    intro k i hd hi hil hk
    obtain ⟨k, rfl⟩ : ∃ m, k = m + 1 := ⟨k - 1, by omega⟩
    simp only [wordbooklaw16_word.l0]
    by_cases h1 : i < l.length
    · rw [if_pos (by omega)]
      by_cases h2 : i < 10
      · rw [if_pos (by omega), if_pos (by omega)]
        have hm : rd l i ∈ l := by rw [rd_nat, List.getD_eq_getElem?_getD, List.getElem?_eq_getElem h1]; exact List.getElem_mem h1
        rw [around_is (rd l i) 4 (by decide) (hx _ hm), Option.bind_some, if_pos (by rw [List.length_map, List.length_take]; omega), wrap_succ (by omega) (by omega)]
        have := ih k (i + 1) (by omega) (by omega) (by omega) (by omega)
        rw [List.take_succ_eq_append_getElem h1, List.map_append] at this
        rw [rd_nat, List.getD_eq_getElem?_getD, List.getElem?_eq_getElem h1, Option.getD_some]
        rwa [show ((i + 1 : Nat) : Int) = (i : Int) + 1 from by omega] at this
      · obtain rfl : i = 10 := by omega
        rw [if_neg (by omega)]; rfl
    · obtain rfl : i = l.length := by omega
      rw [if_neg (by omega), wordL, List.take_length, List.take_of_length_le hi]
theorem word_is (l : List Int) (hl : l.length ≤ 9223372036854775807) (hx : ∀ x ∈ l, -9223372036854775808 ≤ x ∧ x ≤ 9223372036854775807) (k : Nat) (hk : 11 < k) : wordbooklaw16_word.f k l = some (wordL l) := by
  have := word_tells l hl hx 11 k 0 (by omega) (by omega) (by omega) hk
  simpa [wordbooklaw16_word.f] using this
theorem wf_int {x : Int} (h : (Lit.int .i64 x).wf = true) : -9223372036854775808 ≤ x ∧ x ≤ 9223372036854775807 := by
  simp only [Lit.wf, Bool.and_eq_true, decide_eq_true_eq] at h
  exact h
end Go.Proofs.Ytcdjeimjbbknjaa.PAll
namespace Go.Proofs.Ytcdjeimjbbknjaa.PAll
open Go.RowKit Go.Proofs.YtcdjeimjbbknjaaW.PrintWords Go.Proofs.YtcdjeimjbbknjaaW.PrintLast Go.Proofs.YtcdjeimjbbknjaaW.PrintMore Go.Proofs.Ytcdjeimjbbknjaa.Lev
set_option linter.unusedVariables false
set_option linter.unusedSimpArgs false

end Go.Proofs.Ytcdjeimjbbknjaa.PAll
namespace Go.Proofs.Ytcdjeimjbbknjaa.Pure
open Go.RowKit Go.Proofs.Ytcdjeimjbbknjaa.PAll Go.Proofs.YtcdjeimjbbknjaaW.PrintWords Go.Proofs.YtcdjeimjbbknjaaW.PrintLast Go.Proofs.Ytcdjeimjbbknjaa.Lev

theorem FuzzyAffixes : wordbooklaw16_FuzzyAffixes.Pure := by
  intro l0 l1 l2 l3 m0 _ w0 m1 _ w1 m2 _ w2 m3 _ w3
  refine ⟨100, ?_⟩
  have hx0 := fun x hx => wf_int (w0 x hx)
  have hx1 := fun x hx => wf_int (w1 x hx)
  have hx2 := fun x hx => wf_int (w2 x hx)
  have hx3 := fun x hx => wf_int (w3 x hx)
  have f0 := wordL_length l0
  have f1 := wordL_length l1
  have f2 := wordL_length l2
  have f3 := wordL_length l3
  unfold wordbooklaw16_FuzzyAffixes.f
  rw [word_is l0 m0 hx0 100 (by decide), word_is l1 m1 hx1 100 (by decide), word_is l2 m2 hx2 100 (by decide), word_is l3 m3 hx3 100 (by decide)]
  simp only [Option.bind_some]
  generalize wordL l0 = a at *
  generalize wordL l1 = b at *
  generalize wordL l2 = p at *
  generalize wordL l3 = q at *
  simp only [List.nil_append, List.length_nil, List.length_append]
  rw [if_pos (by omega), if_pos (by omega), if_pos (by omega), if_pos (by omega), if_pos (by omega)]
  rw [distance_is (p ++ a ++ q) (p ++ b ++ q) (by simp; omega) (by simp; omega) 100 (by simp; omega), distance_is a b (by omega) (by omega) 100 (by omega)]
  simp only [Option.bind_some]
  rw [lev_suffix, lev_prefix, if_pos rfl]
  rfl
end Go.Proofs.Ytcdjeimjbbknjaa.Pure
namespace Go.Proofs.Ytcdjeimjbbknjaa.fuzzyAffixes
open Go.ChangeShapes Go.WideShapes Go.ChangeAt Go.RowKit
open Go.ChangeMaps (open_string shut_string)
set_option linter.unusedVariables false
theorem own : ownKnob Try.prog.godebug = none := by kernel_rfl
theorem laidOut : laidOutB Try.prog = true := by kernel_rfl
def IsRow (k : IntKind) (w : World) (a : Option Addr) (len cap : Nat) (zs : List Int) : Prop :=
  (a = none ∧ len = 0 ∧ cap = 0 ∧ zs = []) ∨
  ∃ x, a = some x ∧ len ≤ cap ∧ cap ≤ maxLen ∧ zs.length = cap ∧ (∀ i, i < zs.length → w.cell? (x.add i) = some (.int k (zs.getD i 0))) ∧ ∀ n ∈ zs, (Lit.int k n).wf = true
set_option maxRecDepth 100000 in
theorem lifted (os : Os) (started : os.Started) (H : Type) (enc : TypeId × Value → H) :
    ReturnsInHanded {} Try.checked os 14 .any (Rows.fuzzyAffixesSpec.pre6 enc Try.prog Try.f14 Rows.fuzzyAffixesRow.domain false) (Rows.fuzzyAffixesSpec.post enc Try.prog Try.f14 false true false false) := by
  refine returnsInHanded_of_change_sized (C := Try.checked) own started (by kernel_rfl) Try.func14
    (ChangeSpec.witness6 (enc := enc) (C := Try.checked) false ⟨#[], #[.slice none 0 0, .slice none 0 0, .slice none 0 0, .slice none 0 0], []⟩ 8 (by kernel_rfl) (by kernel_rfl) (by kernel_rfl) (by kernel_rfl)) ?_
  intro W base args ds gs before hval0 hW hcnd hsz0 _
  have hsz : (DataW.weightsEach Try.prog (Try.f14.params.toList ++ Rows.fuzzyAffixesSpec.plain.varTypes Try.prog) (ds ++ gs)).all (· ≤ reachBytes) = true := hsz0
  have hval : ∀ (j : Nat) t v, Try.f14.params[j]? = some t → args[j]? = some v → Value.okWide Try.prog W .any base t v := hval0
  have hW' := hW
  obtain ⟨p, q, hA0, hV, rfl, hfz, hnd⟩ := hW
  have hA : DataW.TrodAll enc Try.prog W 0 (fun _ => true) true Try.f14.params.toList args.toList ds p := hA0
  rw [Try.params14] at hA hval hsz
  obtain ⟨v0, vs0, d0, ds0, p0, q0, hargs, rfl, rfl, h0, r0⟩ := trodAll_cons hA
  obtain ⟨v1, vs1, d1, ds1, p1, q1, rfl, rfl, rfl, h1, r1⟩ := trodAll_cons r0
  obtain ⟨v2, vs2, d2, ds2, p2, q2, rfl, rfl, rfl, h2, r2⟩ := trodAll_cons r1
  obtain ⟨v3, vs3, d3, ds3, p3, q3, rfl, rfl, rfl, h3, r3⟩ := trodAll_cons r2
  obtain ⟨rfl, rfl, rfl⟩ := trodAll_nil r3
  obtain rfl : args = #[v0, v1, v2, v3] := by cases args; simp_all
  obtain ⟨rfl, rfl⟩ := trodVars_none hV
  obtain ⟨a0, len0, cap0, rfl⟩ := okWide_slice Try.underlying22 (hval 0 22 v0 rfl rfl)
  have k0 := h0
  have lt0 : ∀ x ∈ p0, x.block < W.heap.size := by obtain ⟨m, hm⟩ := k0; exact DataW.trod_lt m _ _ _ hm
  obtain ⟨z0, w0⟩ : ∃ zs, IsRow .i64 W a0 len0 cap0 zs := by
    obtain ⟨fuel, hf⟩ := h0
    rcases open_ints Try.underlying22 Try.underlying3 (by kernel_rfl) hf with ⟨hcs, _⟩ | ⟨x, l, c, zs, hcs, _, hl, hm, hz, _, hcell, hwz⟩
    · simp [Value.cells] at hcs
      obtain ⟨rfl, rfl, rfl⟩ := hcs
      exact ⟨[], .inl ⟨rfl, rfl, rfl, rfl⟩⟩
    · simp [Value.cells] at hcs
      obtain ⟨rfl, rfl, rfl⟩ := hcs
      exact ⟨zs, .inr ⟨_, rfl, hl, hm, by simpa using hz, hcell, hwz⟩⟩
  have y0 : len0 * 8 ≤ 140737488351232 := Go.Proofs.YtcdjeimjbbknjaaW.PrintWords.sized_ints hsz (j := 0) (t := 22) rfl rfl Try.underlying22 Try.underlying3 (by kernel_rfl) (by kernel_rfl) h0
  obtain ⟨a1, len1, cap1, rfl⟩ := okWide_slice Try.underlying22 (hval 1 22 v1 rfl rfl)
  have k1 := h1
  have lt1 : ∀ x ∈ p1, x.block < W.heap.size := by obtain ⟨m, hm⟩ := k1; exact DataW.trod_lt m _ _ _ hm
  obtain ⟨z1, w1⟩ : ∃ zs, IsRow .i64 W a1 len1 cap1 zs := by
    obtain ⟨fuel, hf⟩ := h1
    rcases open_ints Try.underlying22 Try.underlying3 (by kernel_rfl) hf with ⟨hcs, _⟩ | ⟨x, l, c, zs, hcs, _, hl, hm, hz, _, hcell, hwz⟩
    · simp [Value.cells] at hcs
      obtain ⟨rfl, rfl, rfl⟩ := hcs
      exact ⟨[], .inl ⟨rfl, rfl, rfl, rfl⟩⟩
    · simp [Value.cells] at hcs
      obtain ⟨rfl, rfl, rfl⟩ := hcs
      exact ⟨zs, .inr ⟨_, rfl, hl, hm, by simpa using hz, hcell, hwz⟩⟩
  have y1 : len1 * 8 ≤ 140737488351232 := Go.Proofs.YtcdjeimjbbknjaaW.PrintWords.sized_ints hsz (j := 1) (t := 22) rfl rfl Try.underlying22 Try.underlying3 (by kernel_rfl) (by kernel_rfl) h1
  obtain ⟨a2, len2, cap2, rfl⟩ := okWide_slice Try.underlying22 (hval 2 22 v2 rfl rfl)
  have k2 := h2
  have lt2 : ∀ x ∈ p2, x.block < W.heap.size := by obtain ⟨m, hm⟩ := k2; exact DataW.trod_lt m _ _ _ hm
  obtain ⟨z2, w2⟩ : ∃ zs, IsRow .i64 W a2 len2 cap2 zs := by
    obtain ⟨fuel, hf⟩ := h2
    rcases open_ints Try.underlying22 Try.underlying3 (by kernel_rfl) hf with ⟨hcs, _⟩ | ⟨x, l, c, zs, hcs, _, hl, hm, hz, _, hcell, hwz⟩
    · simp [Value.cells] at hcs
      obtain ⟨rfl, rfl, rfl⟩ := hcs
      exact ⟨[], .inl ⟨rfl, rfl, rfl, rfl⟩⟩
    · simp [Value.cells] at hcs
      obtain ⟨rfl, rfl, rfl⟩ := hcs
      exact ⟨zs, .inr ⟨_, rfl, hl, hm, by simpa using hz, hcell, hwz⟩⟩
  have y2 : len2 * 8 ≤ 140737488351232 := Go.Proofs.YtcdjeimjbbknjaaW.PrintWords.sized_ints hsz (j := 2) (t := 22) rfl rfl Try.underlying22 Try.underlying3 (by kernel_rfl) (by kernel_rfl) h2
  obtain ⟨a3, len3, cap3, rfl⟩ := okWide_slice Try.underlying22 (hval 3 22 v3 rfl rfl)
  have k3 := h3
  have lt3 : ∀ x ∈ p3, x.block < W.heap.size := by obtain ⟨m, hm⟩ := k3; exact DataW.trod_lt m _ _ _ hm
  obtain ⟨z3, w3⟩ : ∃ zs, IsRow .i64 W a3 len3 cap3 zs := by
    obtain ⟨fuel, hf⟩ := h3
    rcases open_ints Try.underlying22 Try.underlying3 (by kernel_rfl) hf with ⟨hcs, _⟩ | ⟨x, l, c, zs, hcs, _, hl, hm, hz, _, hcell, hwz⟩
    · simp [Value.cells] at hcs
      obtain ⟨rfl, rfl, rfl⟩ := hcs
      exact ⟨[], .inl ⟨rfl, rfl, rfl, rfl⟩⟩
    · simp [Value.cells] at hcs
      obtain ⟨rfl, rfl, rfl⟩ := hcs
      exact ⟨zs, .inr ⟨_, rfl, hl, hm, by simpa using hz, hcell, hwz⟩⟩
  have y3 : len3 * 8 ≤ 140737488351232 := Go.Proofs.YtcdjeimjbbknjaaW.PrintWords.sized_ints hsz (j := 3) (t := 22) rfl rfl Try.underlying22 Try.underlying3 (by kernel_rfl) (by kernel_rfl) h3
  clear hA0 hval0 hsz0 hsz
  refine (PAll.wordbooklaw16_FuzzyAffixes.walk Pure.FuzzyAffixes a0 len0 cap0 z0 a1 len1 cap1 z1 a2 len2 cap2 z2 a3 len3 cap3 z3 W w0 y0 w1 y1 w2 y2 w3 y3).mono fun e W' ⟨he, bel⟩ => ?_
  subst he
  exact ⟨_, rfl, _, _, _, [], _, [], hW', trodAll_mk1 (shut_bool Try.underlying4 _), (trodAll_cons_mk (Below.trod laidOut (by kernel_rfl) (of_decide_eq_true (by kernel_rfl)) k0 bel lt0) (trodAll_cons_mk (Below.trod laidOut (by kernel_rfl) (of_decide_eq_true (by kernel_rfl)) k1 bel lt1) (trodAll_cons_mk (Below.trod laidOut (by kernel_rfl) (of_decide_eq_true (by kernel_rfl)) k2 bel lt2) (trodAll_cons_mk (Below.trod laidOut (by kernel_rfl) (of_decide_eq_true (by kernel_rfl)) k3 bel lt3) trodAll_mk0)))), rfl, bel.frame _, fun h => by cases h⟩
theorem over : Rows.fuzzyAffixesRow.holds Try.pinned (OpenSpec.ofChange Rows.fuzzyAffixesSpec) :=
  OpenClaim.holds_of_wide 14 Try.f14 rfl rfl rfl rfl rfl rfl rfl ⟨rfl, rfl, rfl, rfl, rfl⟩ rfl rfl rfl rfl rfl (by kernel_rfl) Try.func14 (by kernel_rfl)
    (of_decide_eq_true (by kernel_rfl)) (by unfold Func.isWrapper; first | (rw [if_pos (by decide +kernel)]; kernel_rfl) | (rw [if_neg (by decide +kernel)]; exact ⟨rfl, rfl⟩))
    (fun os started H enc _ => lifted os started H enc)
theorem proved : Rows.FuzzyAffixesSaid := over
#print axioms proved
end Go.Proofs.Ytcdjeimjbbknjaa.fuzzyAffixes
namespace Go.Proofs.Ytcdjeimjbbknjaa
/-- The row, under a short name, for the claim. -/
theorem fuzzyAffixes_holds : Rows.FuzzyAffixesSaid := fuzzyAffixes.proved
end Go.Proofs.Ytcdjeimjbbknjaa
