/- The statement FuzzySearches is proved, without conditions. -/
import Derived.Test.YtcdjeimjbbknjaaRows
import Derived.WalkKit
import Derived.ProofKit
import Derived.OpenShut
import Derived.ShutString
import Derived.ChangeOld
import Derived.Below
import Derived.SizedLaws
import Derived.Test.YtcdjeimjbbknjaaFs4
namespace Go.Proofs.Ytcdjeimjbbknjaa.PAll
open Go.RowKit Go.Proofs.YtcdjeimjbbknjaaW.PrintWords Go.Proofs.YtcdjeimjbbknjaaW.PrintLast Go.Proofs.YtcdjeimjbbknjaaW.PrintMore Go.Proofs.Ytcdjeimjbbknjaa.Res Go.Proofs.Ytcdjeimjbbknjaa.Lev
set_option linter.unusedVariables false
set_option linter.unusedSimpArgs false

set_option maxHeartbeats 8000000 in
set_option maxRecDepth 100000 in
theorem fuzzySearches_true (A0 : Option Addr) (c0 : Nat) (l0 : List Int) (A1 : Option Addr) (c1 : Nat) (l1 : List Int) (a2 : Int) (w : World) (hr0 : Kd.C (Kd.int .i64) w A0 l0.length l0) (hc0 : l0.length ≤ c0) (hr1 : Kd.C (Kd.int .i64) w A1 l1.length l1) (hc1 : l1.length ≤ c1)
    (hx0 : ∀ x ∈ l0, -9223372036854775808 ≤ x ∧ x ≤ 9223372036854775807) (hx1 : ∀ x ∈ l1, -9223372036854775808 ≤ x ∧ x ≤ 9223372036854775807) (hx2 : -9223372036854775808 ≤ a2 ∧ a2 ≤ 9223372036854775807) :
    Calls Try.prog 11 #[.slice A0 l0.length c0, .slice A1 l1.length c1, .int .i64 a2] w fun e w' => e = .returned (.bool true) ∧ Below w.heap.size w w' := by
  obtain ⟨ws, hws, h16⟩ := words16_is l0 4 (by decide) hx0 200 (by decide)
  have hgood := h16.good (by decide) (by decide)
  have hm1 := Kd.C_max hr1
  have hwl := wordL_length l1
  obtain ⟨m0, m1⟩ := around_range a2 4 (by decide)
  obtain ⟨lt, hlt⟩ : ∃ lt, lt = l1.take 70 := ⟨_, rfl⟩
  have HTk := Aside0.mk (fun A c W h1 h2 => wl_take70 A c l1 W h1 h2)
  rw [← hlt] at HTk
  have hfew : ws.length ≤ 1000 := by have := h16.few; omega
  have hshort : ∀ v ∈ ws, v.length ≤ 1000 := fun v hv => by have := h16.size v hv; omega
  have htk : lt.length ≤ 1000 := by rw [hlt, List.length_take]; omega
  clear hlt
  have eR : refAns ws (wordL l1) (around a2 4) = (refL ws (wordL l1) (around a2 4), 0) := refAns_in m0 (by omega) (by omega)
  have HSe := Aside0.mk (fun g Au cu W hg hu hc => wl_search hgood g Au cu (wordL l1) (around a2 4) W hg hu hc)
  have HRs := Aside0.mk (fun Aw cw Au cu W h1 h2 h3 h4 => wl_rsearch Aw cw ws Au cu (wordL l1) (around a2 4) W h1 h2 h3 h4 hfew hshort (by omega))
  have HBe := Aside0.mk (fun g Au cu W hg hu hc => wl_best hgood g Au cu (wordL l1) (around a2 4) W hg hu hc m0 (by omega) (by omega))
  have HRb := Aside0.mk (fun Aw cw Au cu W h1 h2 h3 h4 => wl_rbest Aw cw ws Au cu (wordL l1) (around a2 4) W h1 h2 h3 h4 hfew hshort (by omega))
  have HSe2 := Aside0.mk (fun g Au cu W hg hu hc => wl_search hgood g Au cu lt a2 W hg hu hc)
  have HRs2 := Aside0.mk (fun Aw cw Au cu W h1 h2 h3 h4 => wl_rsearch Aw cw ws Au cu lt a2 W h1 h2 h3 h4 hfew hshort htk)
  have la := refL_length (ws := ws) (wordL l1) (around a2 4)
  have lc : (bestN (refL ws (wordL l1) (around a2 4))).length ≤ (refL ws (wordL l1) (around a2 4)).length := (List.takeWhile_prefix _).length_le
  have le := refAns_length ws lt a2
  rw [eR] at HSe HRs HRb
  clear eR
  generalize refL ws (wordL l1) (around a2 4) = ha at *
  generalize hbn : bestN ha = hb at *
  clear hbn
  generalize refAns ws lt a2 = hq at *
  obtain ⟨he, q⟩ := hq
  dsimp only at *
  have HLa : Aside0 ((ha.map toH).length ≤ 1000000) := ⟨by rw [List.length_map]; omega⟩
  have HLc : Aside0 ((hb.map toH).length ≤ 1000000) := ⟨by rw [List.length_map]; omega⟩
  have HLe : Aside0 ((he.map toH).length ≤ 1000000) := ⟨by rw [List.length_map]; omega⟩
  have HWs := Aside0.mk hws
  have HG := Aside0.mk hgood
  have HR0 := Aside0.mk hr0
  have HL0 := Aside0.mk hr1
  have HX1 := Aside0.mk hx1
  have HX2 := Aside0.mk hx2
  have hqq : (q == q) = true := by simp
  have hqn : (q != q) = false := by simp
  clear hws h16 hgood hr0 hr1 hx0 hx1 hx2 hwl m0 m1 hfew hshort htk la lc le
  go_enter Try.func11, Try.ntmps11
  go_wp2_with (first
    | (go_at_call 52; ((with_reducible refine (wl_words A0 c0 l0 4 ws _ HR0.out hc0 HWs.out).mono ?_); rintro e w1 ⟨Aw, cw, rfl, hlw, hC1, hb1⟩; have HL1 := Aside0.mk (Kd.C_below HL0.out hb1); clear HL0; have HW1 := Aside0.mk (hC1); have HB1 := Aside0.mk (hb1); clear hb1 hC1))
    | (go_at_call 19; ((with_reducible refine (build_good Aw cw ws _ HW1.out hlw HG.out).mono ?_); rintro e w2 ⟨g, rfl, hG2, hb2, _⟩; have HL2 := Aside0.mk (Kd.C_below HL1.out hb2); clear HL1; have HW2 := Aside0.mk (Kd.C_below HW1.out hb2); clear HW1; have HB2 := Aside0.mk (HB1.out.trans (hb2.mono HB1.out.size)); clear HB1; have HG2 := Aside0.mk (hG2); clear hb2 hG2))
    | (go_at_call 48; ((with_reducible refine (wl_word A1 c1 l1 _ HL2.out hc1 hm1 HX1.out).mono ?_); rintro e w3 ⟨Au, cu, rfl, hlu, hC3, hb3⟩; have HL3 := Aside0.mk (Kd.C_below HL2.out hb3); clear HL2; have HW3 := Aside0.mk (Kd.C_below HW2.out hb3); clear HW2; have HB3 := Aside0.mk (HB2.out.trans (hb3.mono HB2.out.size)); clear HB2; have HG3 := Aside0.mk (GraphAt.below HG2.out hb3); clear HG2; have HU3 := Aside0.mk (hC3); clear hb3 hC3))
    | (go_at_call 18; ((with_reducible refine (around_calls a2 4 _ (by decide) HX2.out).mono ?_); rintro e w4 ⟨rfl, hd⟩; have hb4 := hd.below; clear hd; have HL4 := Aside0.mk (Kd.C_below HL3.out hb4); clear HL3; have HW4 := Aside0.mk (Kd.C_below HW3.out hb4); clear HW3; have HB4 := Aside0.mk (HB3.out.trans (hb4.mono HB3.out.size)); clear HB3; have HG4 := Aside0.mk (GraphAt.below HG3.out hb4); clear HG3; have HU4 := Aside0.mk (Kd.C_below HU3.out hb4); clear HU3; clear hb4))
    | (go_at_call 53; ((with_reducible refine (HSe.out g Au cu _ HG4.out HU4.out hlu).mono ?_); rintro e w5 ⟨Aa, ca, rfl, hla, hC5, hb5⟩; have HL5 := Aside0.mk (Kd.C_below HL4.out hb5); clear HL4; have HW5 := Aside0.mk (Kd.C_below HW4.out hb5); clear HW4; have HB5 := Aside0.mk (HB4.out.trans (hb5.mono HB4.out.size)); clear HB4; have HG5 := Aside0.mk (GraphAt.below HG4.out hb5); clear HG4; have HU5 := Aside0.mk (Kd.C_below HU4.out hb5); clear HU4; have HA5 := Aside0.mk (hC5); clear hb5 hC5))
    | (go_at_call 54; ((with_reducible refine (HRs.out Aw cw Au cu _ HW5.out hlw HU5.out hlu).mono ?_); rintro e w6 ⟨Ab, cb, rfl, hlb, hC6, hb6⟩; have HL6 := Aside0.mk (Kd.C_below HL5.out hb6); clear HL5; have HW6 := Aside0.mk (Kd.C_below HW5.out hb6); clear HW5; have HB6 := Aside0.mk (HB5.out.trans (hb6.mono HB5.out.size)); clear HB5; have HG6 := Aside0.mk (GraphAt.below HG5.out hb6); clear HG5; have HU6 := Aside0.mk (Kd.C_below HU5.out hb6); clear HU5; have HA6 := Aside0.mk (Kd.C_below HA5.out hb6); clear HA5; have HBb6 := Aside0.mk (hC6); clear hb6 hC6))
    | (go_at_call 55; ((with_reducible refine (HBe.out g Au cu _ HG6.out HU6.out hlu).mono ?_); rintro e w7 ⟨Ac, cc, rfl, hlc, hC7, hb7⟩; have HL7 := Aside0.mk (Kd.C_below HL6.out hb7); clear HL6; have HW7 := Aside0.mk (Kd.C_below HW6.out hb7); clear HW6; have HB7 := Aside0.mk (HB6.out.trans (hb7.mono HB6.out.size)); clear HB6; have HG7 := Aside0.mk (GraphAt.below HG6.out hb7); clear HG6; have HU7 := Aside0.mk (Kd.C_below HU6.out hb7); clear HU6; have HA7 := Aside0.mk (Kd.C_below HA6.out hb7); clear HA6; have HBb7 := Aside0.mk (Kd.C_below HBb6.out hb7); clear HBb6; have HCc7 := Aside0.mk (hC7); clear hb7 hC7))
    | (go_at_call 56; ((with_reducible refine (HRb.out Aw cw Au cu _ HW7.out hlw HU7.out hlu).mono ?_); rintro e w8 ⟨Ad, cd, rfl, hld, hC8, hb8⟩; have HL8 := Aside0.mk (Kd.C_below HL7.out hb8); clear HL7; have HW8 := Aside0.mk (Kd.C_below HW7.out hb8); clear HW7; have HB8 := Aside0.mk (HB7.out.trans (hb8.mono HB7.out.size)); clear HB7; have HG8 := Aside0.mk (GraphAt.below HG7.out hb8); clear HG7; have HU8 := Aside0.mk (Kd.C_below HU7.out hb8); clear HU7; have HA8 := Aside0.mk (Kd.C_below HA7.out hb8); clear HA7; have HBb8 := Aside0.mk (Kd.C_below HBb7.out hb8); clear HBb7; have HCc8 := Aside0.mk (Kd.C_below HCc7.out hb8); clear HCc7; have HDd8 := Aside0.mk (hC8); clear hb8 hC8))
    | (go_at_call 57; ((with_reducible refine (wl_same (ha.map toH) _ _ (by simp) (by simp) Aa Ab ca cb _ HLa.out HA8.out hla HBb8.out hlb).mono ?_); rintro e w9 ⟨rfl, hb9⟩; have HL9 := Aside0.mk (Kd.C_below HL8.out hb9); clear HL8; have HW9 := Aside0.mk (Kd.C_below HW8.out hb9); clear HW8; have HB9 := Aside0.mk (HB8.out.trans (hb9.mono HB8.out.size)); clear HB8; have HG9 := Aside0.mk (GraphAt.below HG8.out hb9); clear HG8; have HU9 := Aside0.mk (Kd.C_below HU8.out hb9); clear HU8; clear HA8; clear HBb8; have HCc9 := Aside0.mk (Kd.C_below HCc8.out hb9); clear HCc8; have HDd9 := Aside0.mk (Kd.C_below HDd8.out hb9); clear HDd8; clear hb9))
    | (go_at_call 57; ((with_reducible refine (wl_same (hb.map toH) _ _ (by simp) (by simp) Ac Ad cc cd _ HLc.out HCc9.out hlc HDd9.out hld).mono ?_); rintro e w10 ⟨rfl, hb10⟩; have HL10 := Aside0.mk (Kd.C_below HL9.out hb10); clear HL9; have HW10 := Aside0.mk (Kd.C_below HW9.out hb10); clear HW9; have HB10 := Aside0.mk (HB9.out.trans (hb10.mono HB9.out.size)); clear HB9; have HG10 := Aside0.mk (GraphAt.below HG9.out hb10); clear HG9; have HU10 := Aside0.mk (Kd.C_below HU9.out hb10); clear HU9; clear HCc9; clear HDd9; clear hb10))
    | (go_at_call 46; ((with_reducible refine (HTk.out A1 c1 _ HL10.out hc1).mono ?_); rintro e w11 ⟨At, ct, rfl, hlt, hC11, hb11⟩; have HL11 := Aside0.mk (Kd.C_below HL10.out hb11); clear HL10; have HW11 := Aside0.mk (Kd.C_below HW10.out hb11); clear HW10; have HB11 := Aside0.mk (HB10.out.trans (hb11.mono HB10.out.size)); clear HB10; have HG11 := Aside0.mk (GraphAt.below HG10.out hb11); clear HG10; have HU11 := Aside0.mk (Kd.C_below HU10.out hb11); clear HU10; have HT11 := Aside0.mk (hC11); clear hb11 hC11))
    | (go_at_call 53; ((with_reducible refine (HSe2.out g At ct _ HG11.out HT11.out hlt).mono ?_); rintro e w12 ⟨Ae, ce, rfl, hle, hC12, hb12⟩; have HL12 := Aside0.mk (Kd.C_below HL11.out hb12); clear HL11; have HW12 := Aside0.mk (Kd.C_below HW11.out hb12); clear HW11; have HB12 := Aside0.mk (HB11.out.trans (hb12.mono HB11.out.size)); clear HB11; have HG12 := Aside0.mk (GraphAt.below HG11.out hb12); clear HG11; have HU12 := Aside0.mk (Kd.C_below HU11.out hb12); clear HU11; clear HT11; have HE12 := Aside0.mk (hC12); clear hb12 hC12))
    | (go_at_call 46; ((with_reducible refine (HTk.out A1 c1 _ HL12.out hc1).mono ?_); rintro e w13 ⟨At2, ct2, rfl, hlt2, hC13, hb13⟩; have HL13 := Aside0.mk (Kd.C_below HL12.out hb13); clear HL12; have HW13 := Aside0.mk (Kd.C_below HW12.out hb13); clear HW12; have HB13 := Aside0.mk (HB12.out.trans (hb13.mono HB12.out.size)); clear HB12; have HG13 := Aside0.mk (GraphAt.below HG12.out hb13); clear HG12; have HU13 := Aside0.mk (Kd.C_below HU12.out hb13); clear HU12; have HE13 := Aside0.mk (Kd.C_below HE12.out hb13); clear HE12; have HT213 := Aside0.mk (hC13); clear hb13 hC13))
    | (go_at_call 54; ((with_reducible refine (HRs2.out Aw cw At2 ct2 _ HW13.out hlw HT213.out hlt2).mono ?_); rintro e w14 ⟨Af, cf, rfl, hlf, hC14, hb14⟩; have HL14 := Aside0.mk (Kd.C_below HL13.out hb14); clear HL13; have HW14 := Aside0.mk (Kd.C_below HW13.out hb14); clear HW13; have HB14 := Aside0.mk (HB13.out.trans (hb14.mono HB13.out.size)); clear HB13; have HG14 := Aside0.mk (GraphAt.below HG13.out hb14); clear HG13; have HU14 := Aside0.mk (Kd.C_below HU13.out hb14); clear HU13; have HE14 := Aside0.mk (Kd.C_below HE13.out hb14); clear HE13; clear HT213; have HFf14 := Aside0.mk (hC14); clear hb14 hC14))
    | (go_at_call 53; ((with_reducible refine (search_nil Au cu _ _ _).mono ?_); rintro e w15 ⟨rfl, hb15⟩; have HL15 := Aside0.mk (Kd.C_below HL14.out hb15); clear HL14; have HW15 := Aside0.mk (Kd.C_below HW14.out hb15); clear HW14; have HB15 := Aside0.mk (HB14.out.trans (hb15.mono HB14.out.size)); clear HB14; have HG15 := Aside0.mk (GraphAt.below HG14.out hb15); clear HG14; have HU15 := Aside0.mk (Kd.C_below HU14.out hb15); clear HU14; have HE15 := Aside0.mk (Kd.C_below HE14.out hb15); clear HE14; have HFf15 := Aside0.mk (Kd.C_below HFf14.out hb15); clear HFf14; clear hb15))
    | (go_at_call 55; ((with_reducible refine (wl_nilbest Au cu _ _ _).mono ?_); rintro e w16 ⟨Ah, ch, rfl, hlh, _, hb16⟩; have HL16 := Aside0.mk (Kd.C_below HL15.out hb16); clear HL15; have HW16 := Aside0.mk (Kd.C_below HW15.out hb16); clear HW15; have HB16 := Aside0.mk (HB15.out.trans (hb16.mono HB15.out.size)); clear HB15; have HG16 := Aside0.mk (GraphAt.below HG15.out hb16); clear HG15; have HU16 := Aside0.mk (Kd.C_below HU15.out hb16); clear HU15; have HE16 := Aside0.mk (Kd.C_below HE15.out hb16); clear HE15; have HFf16 := Aside0.mk (Kd.C_below HFf15.out hb16); clear HFf15; clear hb16))
    | (go_at_call 57; ((with_reducible refine (wl_same (he.map toH) _ _ (by simp) (by simp) Ae Af ce cf _ HLe.out HE16.out hle HFf16.out hlf).mono ?_); rintro e w17 ⟨rfl, hb17⟩; have HL17 := Aside0.mk (Kd.C_below HL16.out hb17); clear HL16; have HW17 := Aside0.mk (Kd.C_below HW16.out hb17); clear HW16; have HB17 := Aside0.mk (HB16.out.trans (hb17.mono HB16.out.size)); clear HB16; have HG17 := Aside0.mk (GraphAt.below HG16.out hb17); clear HG16; have HU17 := Aside0.mk (Kd.C_below HU16.out hb17); clear HU16; have HE17 := Aside0.mk (Kd.C_below HE16.out hb17); clear HE16; have HFf17 := Aside0.mk (Kd.C_below HFf16.out hb17); clear HFf16; clear hb17))
    | (go_at_call 51; ((with_reducible refine (wordbooklaw16_lives.calls true _ rfl).mono ?_); rintro e w18 ⟨rfl, hb18⟩; have HL18 := Aside0.mk (Kd.C_below HL17.out hb18); clear HL17; have HW18 := Aside0.mk (Kd.C_below HW17.out hb18); clear HW17; have HB18 := Aside0.mk (HB17.out.trans (hb18.mono HB17.out.size)); clear HB17; have HG18 := Aside0.mk (GraphAt.below HG17.out hb18); clear HG17; have HU18 := Aside0.mk (Kd.C_below HU17.out hb18); clear HU17; have HE18 := Aside0.mk (Kd.C_below HE17.out hb18); clear HE17; have HFf18 := Aside0.mk (Kd.C_below HFf17.out hb18); clear HFf17; clear hb18)))
  go_ret
  exact ⟨rfl, HB18.out⟩
def wordbooklaw16_FuzzySearches.Pure : Prop := True
theorem wordbooklaw16_FuzzySearches.walk (P : wordbooklaw16_FuzzySearches.Pure) (a0 : Option Addr) (len0 cap0 : Nat) (z0 : List Int) (a1 : Option Addr) (len1 cap1 : Nat) (z1 : List Int) (a2 : Int) (w : World) (w0 : (a0 = none ∧ len0 = 0 ∧ cap0 = 0 ∧ z0 = []) ∨ ∃ x, a0 = some x ∧ len0 ≤ cap0 ∧ cap0 ≤ maxLen ∧ z0.length = cap0 ∧ (∀ i, i < z0.length → w.cell? (x.add i) = some (.int .i64 (z0.getD i 0))) ∧ ∀ n ∈ z0, (Lit.int .i64 n).wf = true) (y0 : len0 * 8 ≤ 140737488351232) (w1 : (a1 = none ∧ len1 = 0 ∧ cap1 = 0 ∧ z1 = []) ∨ ∃ x, a1 = some x ∧ len1 ≤ cap1 ∧ cap1 ≤ maxLen ∧ z1.length = cap1 ∧ (∀ i, i < z1.length → w.cell? (x.add i) = some (.int .i64 (z1.getD i 0))) ∧ ∀ n ∈ z1, (Lit.int .i64 n).wf = true) (y1 : len1 * 8 ≤ 140737488351232) (w2 : (Lit.int .i64 a2).wf = true) :
    Calls Try.prog 11 #[.slice a0 len0 cap0, .slice a1 len1 cap1, .int .i64 a2] w fun e w' => e = .returned (.bool true) ∧ Below w.heap.size w w' := by
  obtain ⟨l0, rfl, hr0, hm0, hw0, hc0⟩ := ReadsInt.ofRowC w0
  obtain ⟨l1, rfl, hr1, hm1, hw1, hc1⟩ := ReadsInt.ofRowC w1
  exact fuzzySearches_true _ _ l0 _ _ l1 a2 w (Kd.C_of_reads (d := (0 : Int)) (h1 := fun _ => rfl) hr0) hc0 (Kd.C_of_reads (d := (0 : Int)) (h1 := fun _ => rfl) hr1) hc1 (fun x hx => wf_int (hw0 x hx)) (fun x hx => wf_int (hw1 x hx)) (wf_int w2)

end Go.Proofs.Ytcdjeimjbbknjaa.PAll
namespace Go.Proofs.Ytcdjeimjbbknjaa.Pure
theorem FuzzySearches : PAll.wordbooklaw16_FuzzySearches.Pure := trivial
end Go.Proofs.Ytcdjeimjbbknjaa.Pure
namespace Go.Proofs.Ytcdjeimjbbknjaa.fuzzySearches
open Go.ChangeShapes Go.WideShapes Go.ChangeAt Go.RowKit
open Go.ChangeMaps (open_string shut_string)
set_option linter.unusedVariables false
theorem own : ownKnob Try.prog.godebug = none := by kernel_rfl
theorem laidOut : laidOutB Try.prog = true := by kernel_rfl
def IsRow (k : IntKind) (w : World) (a : Option Addr) (len cap : Nat) (zs : List Int) : Prop :=
  (a = none ∧ len = 0 ∧ cap = 0 ∧ zs = []) ∨
  ∃ x, a = some x ∧ len ≤ cap ∧ cap ≤ maxLen ∧ zs.length = cap ∧ (∀ i, i < zs.length → w.cell? (x.add i) = some (.int k (zs.getD i 0))) ∧ ∀ n ∈ zs, (Lit.int k n).wf = true
set_option maxRecDepth 100000 in
theorem lifted (os : Os) (started : os.Started) (H : Type) (enc : TypeId × Value → H) :
    ReturnsInHanded {} Try.checked os 11 .any (Rows.fuzzySearchesSpec.pre6 enc Try.prog Try.f11 Rows.fuzzySearchesRow.domain false) (Rows.fuzzySearchesSpec.post enc Try.prog Try.f11 false true false false) := by
  refine returnsInHanded_of_change_sized (C := Try.checked) own started (by kernel_rfl) Try.func11
    (ChangeSpec.witness6 (enc := enc) (C := Try.checked) false ⟨#[], #[.slice none 0 0, .slice none 0 0, .int .i64 0], []⟩ 8 (by kernel_rfl) (by kernel_rfl) (by kernel_rfl) (by kernel_rfl)) ?_
  intro W base args ds gs before hval0 hW hcnd hsz0 _
  have hsz : (DataW.weightsEach Try.prog (Try.f11.params.toList ++ Rows.fuzzySearchesSpec.plain.varTypes Try.prog) (ds ++ gs)).all (· ≤ reachBytes) = true := hsz0
  have hval : ∀ (j : Nat) t v, Try.f11.params[j]? = some t → args[j]? = some v → Value.okWide Try.prog W .any base t v := hval0
  have hW' := hW
  obtain ⟨p, q, hA0, hV, rfl, hfz, hnd⟩ := hW
  have hA : DataW.TrodAll enc Try.prog W 0 (fun _ => true) true Try.f11.params.toList args.toList ds p := hA0
  rw [Try.params11] at hA hval hsz
  obtain ⟨v0, vs0, d0, ds0, p0, q0, hargs, rfl, rfl, h0, r0⟩ := trodAll_cons hA
  obtain ⟨v1, vs1, d1, ds1, p1, q1, rfl, rfl, rfl, h1, r1⟩ := trodAll_cons r0
  obtain ⟨v2, vs2, d2, ds2, p2, q2, rfl, rfl, rfl, h2, r2⟩ := trodAll_cons r1
  obtain ⟨rfl, rfl, rfl⟩ := trodAll_nil r2
  obtain rfl : args = #[v0, v1, v2] := by cases args; simp_all
  obtain ⟨rfl, rfl⟩ := trodVars_none hV
  obtain ⟨a0, len0, cap0, rfl⟩ := okWide_slice Try.underlying22 (hval 0 22 v0 rfl rfl)
  have k0 := h0
  have lt0 : ∀ x ∈ p0, x.block < W.heap.size := by obtain ⟨m, hm⟩ := k0; exact DataW.trod_lt m _ _ _ hm
  obtain ⟨z0, w0⟩ : ∃ zs, IsRow .i64 W a0 len0 cap0 zs := by
    obtain ⟨fuel, hf⟩ := h0
    rcases open_ints Try.underlying22 Try.underlying3 (by kernel_rfl) hf with ⟨hcs, _⟩ | ⟨x, l, c, zs, hcs, _, hl, hm, hz, _, hcell, hwz⟩
    · simp [Value.cells] at hcs
      obtain ⟨rfl, rfl, rfl⟩ := hcs
      exact ⟨[], .inl ⟨rfl, rfl, rfl, rfl⟩⟩
    · simp [Value.cells] at hcs
      obtain ⟨rfl, rfl, rfl⟩ := hcs
      exact ⟨zs, .inr ⟨_, rfl, hl, hm, by simpa using hz, hcell, hwz⟩⟩
  have y0 : len0 * 8 ≤ 140737488351232 := Go.Proofs.YtcdjeimjbbknjaaW.PrintWords.sized_ints hsz (j := 0) (t := 22) rfl rfl Try.underlying22 Try.underlying3 (by kernel_rfl) (by kernel_rfl) h0
  obtain ⟨a1, len1, cap1, rfl⟩ := okWide_slice Try.underlying22 (hval 1 22 v1 rfl rfl)
  have k1 := h1
  have lt1 : ∀ x ∈ p1, x.block < W.heap.size := by obtain ⟨m, hm⟩ := k1; exact DataW.trod_lt m _ _ _ hm
  obtain ⟨z1, w1⟩ : ∃ zs, IsRow .i64 W a1 len1 cap1 zs := by
    obtain ⟨fuel, hf⟩ := h1
    rcases open_ints Try.underlying22 Try.underlying3 (by kernel_rfl) hf with ⟨hcs, _⟩ | ⟨x, l, c, zs, hcs, _, hl, hm, hz, _, hcell, hwz⟩
    · simp [Value.cells] at hcs
      obtain ⟨rfl, rfl, rfl⟩ := hcs
      exact ⟨[], .inl ⟨rfl, rfl, rfl, rfl⟩⟩
    · simp [Value.cells] at hcs
      obtain ⟨rfl, rfl, rfl⟩ := hcs
      exact ⟨zs, .inr ⟨_, rfl, hl, hm, by simpa using hz, hcell, hwz⟩⟩
  have y1 : len1 * 8 ≤ 140737488351232 := Go.Proofs.YtcdjeimjbbknjaaW.PrintWords.sized_ints hsz (j := 1) (t := 22) rfl rfl Try.underlying22 Try.underlying3 (by kernel_rfl) (by kernel_rfl) h1
  obtain ⟨a2, rfl, rfl, rfl, w2⟩ := open_int Try.underlying3 (hval 2 3 v2 rfl rfl) h2
  clear hA0 hval0 hsz0 hsz
  refine (PAll.wordbooklaw16_FuzzySearches.walk Pure.FuzzySearches a0 len0 cap0 z0 a1 len1 cap1 z1 a2 W w0 y0 w1 y1 w2).mono fun e W' ⟨he, bel⟩ => ?_
  subst he
  exact ⟨_, rfl, _, _, _, [], _, [], hW', trodAll_mk1 (shut_bool Try.underlying4 _), (trodAll_cons_mk (Below.trod laidOut (by kernel_rfl) (of_decide_eq_true (by kernel_rfl)) k0 bel lt0) (trodAll_cons_mk (Below.trod laidOut (by kernel_rfl) (of_decide_eq_true (by kernel_rfl)) k1 bel lt1) (trodAll_cons_mk (shut_int Try.underlying3 w2) trodAll_mk0))), rfl, bel.frame _, fun h => by cases h⟩
theorem over : Rows.fuzzySearchesRow.holds Try.pinned (OpenSpec.ofChange Rows.fuzzySearchesSpec) :=
  OpenClaim.holds_of_wide 11 Try.f11 rfl rfl rfl rfl rfl rfl rfl ⟨rfl, rfl, rfl, rfl, rfl⟩ rfl rfl rfl rfl rfl (by kernel_rfl) Try.func11 (by kernel_rfl)
    (of_decide_eq_true (by kernel_rfl)) (by unfold Func.isWrapper; first | (rw [if_pos (by decide +kernel)]; kernel_rfl) | (rw [if_neg (by decide +kernel)]; exact ⟨rfl, rfl⟩))
    (fun os started H enc _ => lifted os started H enc)
theorem proved : Rows.FuzzySearchesSaid := over
#print axioms proved
end Go.Proofs.Ytcdjeimjbbknjaa.fuzzySearches
namespace Go.Proofs.Ytcdjeimjbbknjaa
/-- The row, under a short name, for the claim. -/
theorem fuzzySearches_holds : Rows.FuzzySearchesSaid := fuzzySearches.proved
end Go.Proofs.Ytcdjeimjbbknjaa
