import Derived.Test.YtcdjeimjbbknjaaDn6
namespace Go.Proofs.Ytcdjeimjbbknjaa.PAll
open Go.RowKit Go.Proofs.YtcdjeimjbbknjaaW.PrintWords Go.Proofs.YtcdjeimjbbknjaaW.PrintLast Go.Proofs.YtcdjeimjbbknjaaW.PrintMore Go.Proofs.Ytcdjeimjbbknjaa.Res
set_option linter.unusedVariables false
set_option linter.unusedSimpArgs false

theorem ref_build {ws : List (List Int)} (h : Good ws) (A0 : Option Addr) (c0 : Nat) (w : World) (hr0 : Kd.C (Kd.slice 3 (Kd.int .i64)) w A0 ws.length ws) (hc0 : ws.length ≤ c0) :
    Calls Try.prog 20 #[.slice A0 ws.length c0] w fun e w' => ∃ (B0 B1 B2 B3 : Option Addr) (d0 d1 d2 d3 : Nat), e = .returned (.tuple #[.agg #[.slice B0 ws.length d0, .slice B1 ((graphOf ws).map (·.f1)).length d1, .slice B2 ((graphOf ws).map (·.f2)).length d2, .slice B3 ((graphOf ws).map (·.f0)).length d3], .int .i64 0]) ∧
      (ws.length ≤ d0 ∧ Kd.C (Kd.slice 3 (Kd.int .i64)) w' B0 ws.length ws) ∧ (((graphOf ws).map (·.f1)).length ≤ d1 ∧ Kd.C (Kd.slice 3 (Kd.int .i64)) w' B1 ((graphOf ws).map (·.f1)).length ((graphOf ws).map (·.f1))) ∧ (((graphOf ws).map (·.f2)).length ≤ d2 ∧ Kd.C (Kd.slice 3 (Kd.int .i64)) w' B2 ((graphOf ws).map (·.f2)).length ((graphOf ws).map (·.f2))) ∧ (((graphOf ws).map (·.f0)).length ≤ d3 ∧ Kd.C Kd.bool w' B3 ((graphOf ws).map (·.f0)).length ((graphOf ws).map (·.f0))) ∧ Below w.heap.size w w' := by
 obtain ⟨q, hq⟩ := build15_good h
 refine (wordbookref15_Build.calls q (fun k => k < w.heap.size) A0 c0 ws _ _ _ _ _ w (Kd.V_mk hc0 (Kd.C_F (Kd.heap_slice 3 (Kd.heap_int .i64)) hr0)) hq).mono ?_
 rintro e w' ⟨v0, v1, v2, v3, rfl, h0, h1, h2, h3, hb⟩
 obtain ⟨B0, d0, rfl⟩ := Kd.V_slice h0
 obtain ⟨B1, d1, rfl, e1, f1⟩ := Kd.S_reads h1
 obtain ⟨B2, d2, rfl, e2, f2⟩ := Kd.S_reads h2
 obtain ⟨B3, d3, rfl, e3, f3⟩ := Kd.R_reads h3
 exact ⟨B0, B1, B2, B3, d0, d1, d2, d3, rfl, (Kd.V_reads' h0).2, ⟨e1, f1⟩, ⟨e2, f2⟩, ⟨e3, f3⟩, hb⟩
end Go.Proofs.Ytcdjeimjbbknjaa.PAll
namespace Go.Proofs.Ytcdjeimjbbknjaa.PAll
open Go.RowKit Go.Proofs.YtcdjeimjbbknjaaW.PrintWords Go.Proofs.YtcdjeimjbbknjaaW.PrintLast Go.Proofs.YtcdjeimjbbknjaaW.PrintMore Go.Proofs.Ytcdjeimjbbknjaa.Res
set_option linter.unusedVariables false
set_option linter.unusedSimpArgs false

theorem refBuild : RefBuild := fun ws h A0 c0 w hr0 hc0 => ref_build h A0 c0 w hr0 hc0
theorem rows_C {W : World} {a : Addr} {l : Nat} {A : Nat → Option Addr} {L C : Nat → Nat} {Z : Nat → List Int} (hl : l ≤ maxLen)
    (h : ∀ r, r < l → W.cell? (a.add r) = some (.slice (A r) (L r) (C r)) ∧ L r ≤ C r ∧ C r ≤ maxLen ∧ (Z r).length = C r ∧ (A r = none → C r = 0) ∧ ∀ a', A r = some a' → ∀ c, c < C r → W.cell? (a'.add c) = some (.int .i64 ((Z r).getD c 0))) :
    Kd.C (Kd.slice 3 (Kd.int .i64)) W (some a) l ((List.range l).map fun r => (Z r).take (L r)) := by
 refine ⟨by simp, by simpa [maxLen] using hl, fun _ => ⟨_, rfl, fun j p hp => ?_⟩⟩
 obtain ⟨hj, hp⟩ := List.getElem?_eq_some_iff.1 hp
 have hjl : j < l := by simpa using hj
 rw [List.getElem_map, List.getElem_range] at hp
 subst hp
 obtain ⟨h1, h2, h3, h4, h5, h6⟩ := h j hjl
 have hpl : ((Z j).take (L j)).length = L j := by rw [List.length_take]; omega
 refine ⟨[.slice (A j) (L j) (C j)], rfl, ⟨A j, C j, by rw [hpl], by rw [hpl]; exact h2, ?_⟩, fun i u hu => ?_⟩
 ·
  rw [hpl]
  refine ⟨hpl, by simp only [maxLen] at h3; omega, fun h0 => ?_⟩
  cases hA : A j with
  | none => have := h5 hA; omega
  | some a' =>
   refine ⟨_, rfl, fun i q hq => ⟨[.int .i64 q], rfl, rfl, fun i2 u hu => ?_⟩⟩
   obtain ⟨hi, hq⟩ := List.getElem?_eq_some_iff.1 hq
   rw [hpl] at hi
   rw [List.getElem_take] at hq
   have h7 := h6 a' hA i (by omega)
   rw [List.getD_eq_getElem?_getD, List.getElem?_eq_getElem (by omega), Option.getD_some, hq] at h7
   cases i2 with
   | zero => simp only [List.getElem?_cons_zero, Option.some.injEq] at hu; subst hu; show W.cell? (a'.add (i * 1)) = _; rw [Nat.mul_one]; exact h7
   | succ i2 => simp at hu
 ·
  cases i with
  | zero => simp only [List.getElem?_cons_zero, Option.some.injEq] at hu; subst hu; show W.cell? (a.add (j * 1)) = _; rw [Nat.mul_one]; exact h1
  | succ i => simp at hu
theorem rows_trod {H : Type} {enc : TypeId × Value → H} {W : World} {held : Bool} {fuel : Nat} {a2 : Option Addr} {len2 cap2 : Nat} {x : DataW H × List MemPlace} (hf : DataW.trod enc Try.prog W 0 (fun _ => true) held fuel 23 (Value.slice a2 len2 cap2).cells.toList = some x) :
    ∃ zs : List (List Int), zs.length = len2 ∧ len2 ≤ cap2 ∧ Kd.C (Kd.slice 3 (Kd.int .i64)) W a2 zs.length zs := by
 rcases Go.Deep.open_int_rows Try.underlying23 Try.underlying22 Try.underlying3 (by kernel_rfl) (by kernel_rfl) hf with ⟨hcs, _⟩ | ⟨a, l, c, A, L, C, Z, hcs, _, hl, hm, _, hall⟩
 ·
  simp [Value.cells] at hcs
  obtain ⟨rfl, rfl, rfl⟩ := hcs
  exact ⟨[], rfl, Nat.le_refl _, rfl, Nat.zero_le _, fun h => absurd h (by simp)⟩
 ·
  simp [Value.cells] at hcs
  obtain ⟨rfl, rfl, rfl⟩ := hcs
  have hC := rows_C (l := len2) (Z := Z) (Nat.le_trans hl hm) (fun r hr => by
   obtain ⟨h1, h2, h3, h4, _, h5, h6⟩ := hall r (by omega)
   exact ⟨h1, h2, h3, h4, h5, fun a' ha => (h6 a' ha).2⟩)
  have hlen : ((List.range len2).map fun r => (Z r).take (L r)).length = len2 := by simp
  exact ⟨_, hlen, hl, by rw [hlen]; exact hC⟩
def wordbooklaw15_DawgNumbers.Pure : Prop := True
theorem wordbooklaw15_DawgNumbers.walk (P : wordbooklaw15_DawgNumbers.Pure) (a0 : Option Addr) (len0 cap0 : Nat) (z0 : List Int) (a1 : Int) (a2 : Option Addr) (len2 cap2 : Nat) (z2 : List (List Int)) (a3 : Int) (w : World) (w0 : (a0 = none ∧ len0 = 0 ∧ cap0 = 0 ∧ z0 = []) ∨ ∃ x, a0 = some x ∧ len0 ≤ cap0 ∧ cap0 ≤ maxLen ∧ z0.length = cap0 ∧ (∀ i, i < z0.length → w.cell? (x.add i) = some (.int .i64 (z0.getD i 0))) ∧ ∀ n ∈ z0, (Lit.int .i64 n).wf = true) (y0 : len0 * 8 ≤ 140737488351232) (w1 : (Lit.int .i64 a1).wf = true)
    (w2 : z2.length = len2 ∧ len2 ≤ cap2 ∧ Kd.C (Kd.slice 3 (Kd.int .i64)) w a2 z2.length z2) (w3 : (Lit.int .i64 a3).wf = true) :
    Calls Try.prog 3 #[.slice a0 len0 cap0, .int .i64 a1, .slice a2 len2 cap2, .int .i64 a3] w fun e w' => e = .returned (.bool true) ∧ Below w.heap.size w w' := by
 obtain ⟨l0, rfl, hr0, hm0, hw0, hc0⟩ := ReadsInt.ofRowC w0
 obtain ⟨rfl, hc2, hr2⟩ := w2
 exact numbers_true refBuild _ _ _ _ l0 z2 a1 a3 w (Kd.C_of_reads (d := (0 : Int)) (h1 := fun _ => rfl) hr0) hc0 hr2 hc2 (Kd.C_max hr2) (fun x hx => wf_i64 (hw0 x hx)) (wf_i64 w1) (wf_i64 w3)
end Go.Proofs.Ytcdjeimjbbknjaa.PAll
