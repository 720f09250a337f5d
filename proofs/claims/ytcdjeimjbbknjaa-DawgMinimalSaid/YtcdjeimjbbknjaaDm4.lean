import Derived.Laws.BitsAll
import Derived.WalkMore
import Derived.Deep.LoopGhost
import Derived.Deep.CutBlock
import Derived.Outline
import Derived.StillTailTactics
import Derived.Laws.EntriesVeiled
import Derived.IntWalk
import Derived.BigQuiet
import Derived.Deep.AppendLies
import Derived.Deep.RegionLaw
import Derived.Test.YtcdjeimjbbknjaaProg
import Derived.Below
import Derived.Deep.Draws
import Derived.Maps.AppendAt
import Derived.OwnWalk
import Derived.Laws.BytesArg
import Derived.Laws.MakeOwn
import Derived.Laws.OwnMore
import Derived.Deep.OwnRows
import Derived.Tactics
import Derived.Lib.ConvBytes
import Derived.Laws.Slices
import Derived.WalkKit
import Derived.KernelRfl
import Derived.RowKit3
import Derived.Deep.QuietTactic
import Derived.WideLaws
import Derived.Deep.DeepCutAuto
import Derived.Deep.RegionHeld3
import Derived.Laws.Rows
import Derived.Lib.AppendStr
import Derived.ArgAppend
import Derived.Laws.IdiomCopy
import Derived.OrdersHeld
import Derived.Laws.BitsLemmas
import Derived.RowKit
import Derived.Test.YtcdjeimjbbknjaaDm3
namespace Go.Proofs.Ytcdjeimjbbknjaa.PAll
open Go.RowKit Go.Proofs.YtcdjeimjbbknjaaW.PrintWords Go.Proofs.YtcdjeimjbbknjaaW.PrintLast Go.Proofs.YtcdjeimjbbknjaaW.PrintMore Go.Proofs.Ytcdjeimjbbknjaa.Res
set_option linter.unusedVariables false
set_option linter.unusedSimpArgs false

def hgt (r : List (List Int)) : Nat := (r.map List.length).foldr max 0
theorem hgt_le {r : List (List Int)} {v : List Int} (h : v ∈ r) : v.length ≤ hgt r := by
 induction r with
 | nil => cases h
 | cons u r ih =>
  rw [show hgt (u :: r) = max u.length (hgt r) from rfl]
  rcases List.mem_cons.1 h with rfl | h
  ·
   exact Nat.le_max_left _ _
  ·
   exact Nat.le_trans (ih h) (Nat.le_max_right _ _)
theorem hgt_at {r : List (List Int)} (h : r ≠ []) : ∃ v ∈ r, v.length = hgt r := by
 induction r with
 | nil => exact absurd rfl h
 | cons u r ih =>
  rw [show hgt (u :: r) = max u.length (hgt r) from rfl]
  by_cases hr : r = []
  ·
   subst hr; exact ⟨u, List.mem_cons_self, by simp [hgt]⟩
  ·
   obtain ⟨v, hv, e⟩ := ih hr
   rcases Nat.le_total u.length (hgt r) with h1 | h1
   ·
    exact ⟨v, List.mem_cons_of_mem _ hv, by rw [e, Nat.max_eq_right h1]⟩
   ·
    exact ⟨u, List.mem_cons_self, by rw [Nat.max_eq_left h1]⟩
theorem hgt_sup {r : List (List Int)} {b : Nat} (h : ∀ v ∈ r, v.length ≤ b) : hgt r ≤ b := by
  by_cases hr : r = []
  · subst hr; exact Nat.zero_le _
  · obtain ⟨v, hv, e⟩ := hgt_at hr; rw [← e]; exact h v hv
section
variable {ns : List Nd} {Q : List (List (List Int))}
theorem kids_ok (hI : Inv ns Q) {i : Int} (h0 : 0 ≤ i) (h1 : i < (ns.length : Int)) : ∀ k ∈ (rdN ns i).f2, 0 ≤ k ∧ k < (ns.length : Int) ∧ rdP Q k ≠ [] ∧ hgt (rdP Q k) < hgt (rdP Q i) := by
 intro k hk
 have hn : IsNd Q (rdN ns i) (rdP Q i) := by have := hI.nds i.toNat (by omega); rwa [Int.toNat_of_nonneg h0] at this
 have hs : Srt (rdP Q i) := hI.srt _ (rdP_mem h0 (by rw [hI.len]; exact h1))
 obtain ⟨k0, k1⟩ := hn.lead k hk
 rw [hI.len] at k1
 have hm : rdP Q k ∈ (groups (rdP Q i)).map (·.2) := by rw [← hn.goes]; exact List.mem_map.2 ⟨k, hk, rfl⟩
 obtain ⟨g, hg, e⟩ := List.mem_map.1 hm
 obtain ⟨_, g2, g3⟩ := groups_ok hs g hg
 rw [← e]
 refine ⟨k0, k1, g2, ?_⟩
 obtain ⟨v, hv, el⟩ := hgt_at g2
 have := hgt_le (g3 v hv)
 rw [List.length_cons] at this
 omega
theorem sumK_map (g : Int → Nat) (h : List (List Int) → Nat) : ∀ ks : List Int, (∀ k ∈ ks, g k = h (rdP Q k)) → sumK g ks = ((ks.map (rdP Q)).map h).sum
  | [], _ => rfl
  | k :: ks, e => by rw [sumK, e k List.mem_cons_self, sumK_map g h ks (fun k hk => e k (List.mem_cons_of_mem _ hk))]; rfl
theorem nW_is (hI : Inv ns Q) : ∀ (f : Nat) (i : Int), 0 ≤ i → i < (ns.length : Int) → DeepK ns f i → nW ns f i = (rdP Q i).length
  | 0, _, _, _, h => h.elim
  | f + 1, i, h0, h1, h => by
    have hn : IsNd Q (rdN ns i) (rdP Q i) := by have := hI.nds i.toNat (by omega); rwa [Int.toNat_of_nonneg h0] at this
    have hs : Srt (rdP Q i) := hI.srt _ (rdP_mem h0 (by rw [hI.len]; exact h1))
    have hk := kids_ok hI h0 h1
    rw [nW, sumK_map (Q := Q) _ List.length _ (fun k hkm => nW_is hI f k (hk k hkm).1 (hk k hkm).2.1 (h k hkm)), hn.goes, List.map_map, res_length hs, hn.fin]
    rfl
theorem lstK_is (rec_ : Int → List Int → List (List Int) → List (List Int)) (w : List Int) : ∀ (gs : List (Int × List (List Int))) (ks : List Int), ks.map (rdP Q) = gs.map (·.2) → (∀ k ∈ ks, ∀ w out, rec_ k w out = out ++ (rdP Q k).map (w ++ ·)) → ∀ out, lstK rec_ w (gs.map (·.1)) ks out = out ++ (flat gs).map (w ++ ·)
  | [], [], _, _, out => by simp [lstK, flat]
  | [], _ :: _, h, _, _ => by simp at h
  | _ :: _, [], h, _, _ => by simp at h
  | g :: gs, k :: ks, h, hr, out => by
    simp only [List.map_cons, List.cons.injEq] at h
    rw [List.map_cons, lstK, lstK_is rec_ w gs ks h.2 (fun k hk => hr k (List.mem_cons_of_mem _ hk)), hr k List.mem_cons_self, h.1]
    rw [show flat (g :: gs) = g.2.map (g.1 :: ·) ++ flat gs from rfl, List.map_append, List.map_map, List.append_assoc]
    congr 2
    exact List.map_congr_left fun v _ => by simp
theorem lst_is (hI : Inv ns Q) : ∀ (f : Nat) (i : Int), 0 ≤ i → i < (ns.length : Int) → DeepK ns f i → ∀ w out, lstN ns f i w out = out ++ (rdP Q i).map (w ++ ·)
  | 0, _, _, _, h, _, _ => h.elim
  | f + 1, i, h0, h1, h, w, out => by
    have hn : IsNd Q (rdN ns i) (rdP Q i) := by have := hI.nds i.toNat (by omega); rwa [Int.toNat_of_nonneg h0] at this
    have hs : Srt (rdP Q i) := hI.srt _ (rdP_mem h0 (by rw [hI.len]; exact h1))
    have hk := kids_ok hI h0 h1
    rw [lstN, hn.syms, lstK_is _ w (groups (rdP Q i)) _ hn.goes (fun k hkm w out => lst_is hI f k (hk k hkm).1 (hk k hkm).2.1 (h k hkm) w out), groups_back hs]
    conv => rhs; rw [rest_back hs]
    unfold lstO
    rw [hn.fin]
    cases finR (rdP Q i) <;> simp
theorem cinv_set (hl : ∀ {ct st : List Int}, True) {ct st : List Int} {i : Int} (x : Int) (hc : CLen ns ct st) (h : CInv ns ct st) (h0 : 0 ≤ i) (h1 : i < (ns.length : Int)) (hi : rd st i = 1) : CInv ns (ct.set i.toNat x) st := by
  have hset : ∀ j, 0 ≤ j → rd (ct.set i.toNat x) j = if j = i then x else rd ct j := fun j j0 => rd_set x h0 (by rw [hc.1]; exact h1) j0
  refine ⟨fun j j0 j1 g1 g2 => ?_, fun j j0 j1 g2 => ?_⟩
  · rw [hset j j0, if_neg (fun e => g1 (by rw [e, hi]))]; exact h.fresh j j0 j1 g1 g2
  · rw [hset j j0, if_neg (fun e => by rw [e, hi] at g2; omega)]; exact h.done j j0 j1 g2
def NoNew (ns : List Nd) (st st' : List Int) : Prop := ∀ j, 0 ≤ j → j < (ns.length : Int) → rd st' j = 1 → rd st j = 1
theorem visK_true (hI : Inv ns Q) (rec_ : Int → List Int → List Int → Bool × List Int × List Int) (hs : CSpec ns rec_) (i : Int) (i0 : 0 ≤ i) (i1 : i < (ns.length : Int))
    (ht : ∀ k ct st, 0 ≤ k → k < (ns.length : Int) → CLen ns ct st → CInv ns ct st → (∀ j, 0 ≤ j → j < (ns.length : Int) → rd st j = 1 → hgt (rdP Q k) < hgt (rdP Q j)) → hgt (rdP Q k) < hgt (rdP Q i) → (rec_ k ct st).1 = true ∧ NoNew ns st (rec_ k ct st).2.2) :
    ∀ ks : List Int, (∀ k ∈ ks, 0 ≤ k ∧ k < (ns.length : Int) ∧ rdP Q k ≠ [] ∧ hgt (rdP Q k) < hgt (rdP Q i)) → ∀ ct st, CLen ns ct st → CInv ns ct st → rd st i = 1 → (∀ j, 0 ≤ j → j < (ns.length : Int) → rd st j = 1 → hgt (rdP Q i) ≤ hgt (rdP Q j)) →
      (visK rec_ i ks ct st).1 = true ∧ NoNew ns st (visK rec_ i ks ct st).2.2
  | [], _, ct, st, _, _, _, _ => by rw [visK]; exact ⟨rfl, fun j _ _ h => h⟩
  | k :: ks, hks, ct, st, hl, hi, h1, hj => by
    obtain ⟨k0, k1, kne, kh⟩ := hks k List.mem_cons_self
    obtain ⟨t1, t2⟩ := ht k ct st k0 k1 hl hi (fun j j0 j1 e => Nat.lt_of_lt_of_le kh (hj j j0 j1 e)) kh
    obtain ⟨hl1, hf1, _, hp1⟩ := hs k ct st k0 k1 hl hi
    rw [visK]
    generalize rec_ k ct st = q at *
    obtain ⟨b, ct1, st1⟩ := q
    dsimp only at t1 t2 hl1 hf1 hp1 ⊢
    obtain ⟨hi1, hk2⟩ := hp1 t1
    obtain ⟨hd1, hn1⟩ := hi1.done k k0 k1 hk2
    have hpos : 0 < (rdP Q k).length := List.length_pos_iff.2 kne
    have hne : rd ct1 k ≠ 0 := by
      rw [hn1, nW_is hI _ k k0 k1 hd1]
      unfold mn; split <;> omega
    have hs1 := (hf1 i i0 i1 (.inl h1)).1.trans h1
    rw [if_pos ⟨t1, hne⟩]
    obtain ⟨u1, u2⟩ := visK_true hI rec_ hs i i0 i1 ht ks (fun k hk => hks k (List.mem_cons_of_mem _ hk)) (ct1.set i.toNat (mn (rd ct1 i + rd ct1 k) 4097)) st1 ⟨by rw [List.length_set]; exact hl1.1, hl1.2⟩ (cinv_set (fun {_ _} => trivial) _ hl1 hi1 i0 i1 hs1) hs1
      (fun j j0 j1 e => hj j j0 j1 (t2 j j0 j1 e))
    exact ⟨u1, fun j j0 j1 e => t2 j j0 j1 (u2 j j0 j1 e)⟩
theorem visN_true (hI : Inv ns Q) (hlead : ∀ x ∈ ns, ∀ k ∈ x.f2, 0 ≤ k ∧ k < (ns.length : Int)) : ∀ (f : Nat) (depth i : Int) (ct st : List Int), 0 ≤ i → i < (ns.length : Int) → CLen ns ct st → CInv ns ct st →
    (∀ j, 0 ≤ j → j < (ns.length : Int) → rd st j = 1 → hgt (rdP Q i) < hgt (rdP Q j)) → hgt (rdP Q i) < f → depth + (hgt (rdP Q i) : Int) ≤ 64 → (visN ns f i depth ct st).1 = true ∧ NoNew ns st (visN ns f i depth ct st).2.2
  | 0, _, _, _, _, _, _, _, _, _, h, _ => absurd h (Nat.not_lt_zero _)
  | f + 1, depth, i, ct, st, i0, i1, hl, hi, hj, hf, hd => by
    have h1 : rd st i ≠ 1 := fun e => Nat.lt_irrefl _ (hj i i0 i1 e)
    rw [visN, if_neg (by omega)]
    by_cases h2 : rd st i = 2
    · rw [if_pos h2]; exact ⟨rfl, fun j _ _ h => h⟩
    · rw [if_neg h2]
      have hf0 := hi.fresh i i0 i1 h1 h2
      have hst : ∀ x j, 0 ≤ j → rd (st.set i.toNat x) j = if j = i then x else rd st j := fun x j j0 => rd_set x i0 (by rw [hl.2]; exact i1) j0
      have hctl : (ct1 ns i ct).length = ns.length := by unfold ct1; split <;> simp [hl.1]
      have hct : ∀ j, 0 ≤ j → rd (ct1 ns i ct) j = if j = i then (if (rdN ns i).f0 = true then 1 else 0) else rd ct j := by
        intro j j0
        unfold ct1
        split
        · exact rd_set 1 i0 (by rw [hl.1]; exact i1) j0
        · by_cases e : j = i
          · rw [if_pos e, e, hf0]
          · rw [if_neg e]
      have ht1 : two (st.set i.toNat 1) = two st := by rw [two_set 1 i0 (by rw [hl.2]; exact i1), if_neg h2, if_neg (by omega)]; omega
      have hIn : CInv ns (ct1 ns i ct) (st.set i.toNat 1) := by
        refine ⟨fun j j0 j1 g1 g2 => ?_, fun j j0 j1 g2 => ?_⟩
        · have hne : j ≠ i := fun e => by rw [hst 1 j j0, if_pos e] at g1; exact g1 rfl
          rw [hst 1 j j0, if_neg hne] at g1 g2
          rw [hct j j0, if_neg hne]
          exact hi.fresh j j0 j1 g1 g2
        · have hne : j ≠ i := fun e => by rw [hst 1 j j0, if_pos e] at g2; omega
          rw [hst 1 j j0, if_neg hne] at g2
          rw [hct j j0, if_neg hne, ht1]
          exact hi.done j j0 j1 g2
      obtain ⟨t1, t2⟩ := visK_true hI (fun k ct st => visN ns f k (depth + 1) ct st) (visN_spec ns hlead f (depth + 1)) i i0 i1
        (fun k ct st k0 k1 hl hi hj hk => visN_true hI hlead f (depth + 1) k ct st k0 k1 hl hi hj (by omega) (by omega)) (rdN ns i).f2 (kids_ok hI i0 i1) (ct1 ns i ct) (st.set i.toNat 1) ⟨hctl, by rw [List.length_set]; exact hl.2⟩ hIn (by rw [hst 1 i i0, if_pos rfl])
        (fun j j0 j1 e => by
          rw [hst 1 j j0] at e
          by_cases ej : j = i
          · rw [ej]; exact Nat.le_refl _
          · rw [if_neg ej] at e; exact Nat.le_of_lt (hj j j0 j1 e))
      obtain ⟨hlK, _⟩ := visK_spec ns (fun k ct st => visN ns f k (depth + 1) ct st) (visN_spec ns hlead f (depth + 1)) i i0 i1 (rdN ns i).f2 (hlead _ (rdN_mem' i0 i1)) (ct1 ns i ct) (st.set i.toNat 1) (if (rdN ns i).f0 = true then 1 else 0) ⟨hctl, by rw [List.length_set]; exact hl.2⟩ hIn (by rw [hst 1 i i0, if_pos rfl])
          (by rw [hct i i0, if_pos rfl]; unfold mn; split <;> simp)
      generalize visK (fun k ct st => visN ns f k (depth + 1) ct st) i (rdN ns i).f2 (ct1 ns i ct) (st.set i.toNat 1) = r at *
      obtain ⟨b, ct2, st2⟩ := r
      dsimp only at t1 t2 hlK
      unfold fini
      rw [if_pos t1]
      refine ⟨rfl, fun j j0 j1 e => ?_⟩
      dsimp only at e
      rw [rd_set 2 i0 (by rw [hlK.2]; exact i1) j0] at e
      by_cases ej : j = i
      · rw [if_pos ej] at e; omega
      · rw [if_neg ej] at e
        have e2 := t2 j j0 j1 e
        rwa [hst 1 j j0, if_neg ej] at e2
theorem rd_zeros (n : Nat) (k : Int) : rd (List.replicate n (0 : Int)) k = 0 := by
 unfold rd
 rw [List.getD_eq_getElem?_getD]
 cases hk : (List.replicate n (0 : Int))[k.toNat]? with
 | none => rfl
 | some x => exact List.eq_of_mem_replicate (List.mem_of_getElem? hk)
theorem inv_lead (hI : Inv ns Q) : (∀ x ∈ ns, ∀ k ∈ x.f2, 0 ≤ k ∧ k < (ns.length : Int)) ∧ ∀ x ∈ ns, x.f1.length = x.f2.length := by
 refine ⟨fun x hx => ?_, fun x hx => ?_⟩
 all_goals
  obtain ⟨i, hi, rfl⟩ := List.getElem_of_mem hx
  have hn := hI.nds i hi
  rw [rdN_at hi] at hn
 ·
  intro k hk; have := hn.lead k hk; rwa [hI.len] at this
 ·
  exact hn.even
theorem words_back (hI : Inv ns Q) (hpos : 0 < ns.length) (hshort : ∀ w ∈ rdP Q 0, w.length ≤ 64) (hfew : (rdP Q 0).length ≤ 4096) : wordsN ns = (rdP Q 0, true) ∧ WordsPl ns := by
 obtain ⟨hlead, heven⟩ := inv_lead hI
 have hcl : CLen ns (List.replicate ns.length 0) (List.replicate ns.length 0) := ⟨by simp, by simp⟩
 have hci : CInv ns (List.replicate ns.length 0) (List.replicate ns.length 0) := ⟨fun k _ _ _ _ => rd_zeros _ k, fun k _ _ h => by rw [rd_zeros] at h; omega⟩
 have h0 := hgt_sup hshort
 obtain ⟨t1, _⟩ := visN_true hI hlead 66 0 0 _ _ (by omega) (by omega) hcl hci (fun j _ _ h => by rw [rd_zeros] at h; omega) (by omega) (by omega)
 obtain ⟨_, _, _, hp⟩ := visN_spec ns hlead 66 0 0 _ _ (by omega) (by omega) hcl hci
 change (visQ ns).1 = true at t1
 change (visQ ns).1 = true → CInv ns (visQ ns).2.1 (visQ ns).2.2 ∧ rd (visQ ns).2.2 0 = 2 at hp
 obtain ⟨hi, h2⟩ := hp t1
 obtain ⟨d1, d2⟩ := hi.done 0 (by omega) (by omega) h2
 rw [nW_is hI _ 0 (by omega) (by omega) d1] at d2
 have hc : rd (visQ ns).2.1 0 ≤ 4096 := by rw [d2]; unfold mn; split <;> omega
 obtain ⟨dk, _⟩ := words_pl ns hpos hlead heven t1 hc
 have hl := lst_is hI ns.length 0 (by omega) (by omega) dk [] []
 rw [List.nil_append] at hl
 have hl2 : lstN ns ns.length 0 [] [] = rdP Q 0 := by rw [hl]; simp
 refine ⟨by unfold wordsN; rw [if_pos ⟨t1, hc⟩, hl2], fun _ _ => ⟨dk, by rw [hl2]; omega⟩⟩
end
theorem visN_strip (ns : List Nd) : ∀ (f : Nat) (i depth : Int) (ct st : List Int), visN (ns.map strip) f i depth ct st = visN ns f i depth ct st
  | 0, _, _, _, _ => rfl
  | f + 1, i, depth, ct, st => by
    have e : (fun k ct st => visN (ns.map strip) f k (depth + 1) ct st) = fun k ct st => visN ns f k (depth + 1) ct st := by funext k ct st; exact visN_strip ns f k (depth + 1) ct st
    have e2 : ct1 (ns.map strip) i ct = ct1 ns i ct := by unfold ct1; rw [rdN_strip]; rfl
    rw [visN, visN, e, e2, rdN_strip]
    rfl
theorem lstN_strip (ns : List Nd) : ∀ (f : Nat) (i : Int) (w : List Int) (out : List (List Int)), lstN (ns.map strip) f i w out = lstN ns f i w out
  | 0, _, _, _ => rfl
  | f + 1, i, w, out => by
    have e : (fun k w out => lstN (ns.map strip) f k w out) = fun k w out => lstN ns f k w out := by funext k w out; exact lstN_strip ns f k w out
    have e2 : lstO (ns.map strip) i w out = lstO ns i w out := by unfold lstO; rw [rdN_strip]; rfl
    rw [lstN, lstN, e, e2, rdN_strip]
    rfl
theorem wordsN_strip (ns : List Nd) : wordsN (ns.map strip) = wordsN ns := by
 have e : visQ (ns.map strip) = visQ ns := by unfold visQ; rw [List.length_map]; exact visN_strip ns _ _ _ _ _
 unfold wordsN
 rw [e, List.length_map, lstN_strip]
end Go.Proofs.Ytcdjeimjbbknjaa.PAll
namespace Go.Proofs.Ytcdjeimjbbknjaa.PAll
open Go.RowKit Go.Proofs.YtcdjeimjbbknjaaW.PrintWords Go.Proofs.YtcdjeimjbbknjaaW.PrintLast Go.Proofs.YtcdjeimjbbknjaaW.PrintMore Go.Proofs.Ytcdjeimjbbknjaa.Res Go.Proofs.Ytcdjeimjbbknjaa.Lev
set_option linter.unusedVariables false
set_option linter.unusedSimpArgs false
def ltB (w v : List Int) : Bool := decide (cmpL v w = -1)
def lessL (r : List (List Int)) (w : List Int) : Nat := (r.filter (ltB w)).length
def resS (r : List (List Int)) (s : Int) : List (List Int) := (((groups r).find? fun g => g.1 == s).map (·.2)).getD []
def resW : List (List Int) → List Int → List (List Int)
  | r, [] => r
  | r, s :: w => resW (resS r s) w
theorem lessL_nil (r : List (List Int)) : lessL r [] = 0 := by
 unfold lessL ltB
 rw [List.length_eq_zero_iff, List.filter_eq_nil_iff]
 intro v _
 simpa using cmpL_nil_right v
theorem lessL_le (r : List (List Int)) (w : List Int) : lessL r w ≤ r.length := List.length_filter_le _ _
theorem filter_cons_map (g s : Int) (l : List (List Int)) (w : List Int) : ((l.map (g :: ·)).filter (ltB (s :: w))).length = if g < s then l.length else if g = s then lessL l w else 0 := by
 rw [List.filter_map, List.length_map]
 by_cases h1 : g < s
 ·
  rw [if_pos h1]
  congr 1
  rw [List.filter_eq_self]
  intro v _
  simp only [Function.comp, ltB, decide_eq_true_eq, cmpL_cons]
  exact .inl h1
 ·
  rw [if_neg h1]
  by_cases h2 : g = s
  ·
   rw [if_pos h2]
   subst h2
   unfold lessL
   congr 2
   funext v
   simp only [Function.comp, ltB, cmpL_cons]
   simp
  ·
   rw [if_neg h2, List.length_eq_zero_iff, List.filter_eq_nil_iff]
   intro v _
   simp only [Function.comp, ltB, decide_eq_true_eq, cmpL_cons]
   omega
theorem flat_less (s : Int) (w : List Int) : ∀ gs : List (Int × List (List Int)), gs.Pairwise (fun a b => a.1 < b.1) →
    ((flat gs).filter (ltB (s :: w))).length = ((gs.takeWhile fun g => decide (g.1 < s)).map fun g => g.2.length).sum + lessL (((gs.find? fun g => g.1 == s).map (·.2)).getD []) w
  | [], _ => by simp [flat, lessL]
  | g :: gs, h => by
    have h1 := List.pairwise_cons.1 h
    have ih := flat_less s w gs h1.2
    unfold flat at ih ⊢
    rw [List.flatMap_cons, List.filter_append, List.length_append, filter_cons_map, ih]
    by_cases hlt : g.1 < s
    · rw [if_pos hlt, List.takeWhile_cons_of_pos (p := fun g : Int × List (List Int) => decide (g.1 < s)) (by simpa using hlt), List.map_cons, List.sum_cons, List.find?_cons_of_neg (by simp; omega)]
      omega
    · have htw : gs.takeWhile (fun g => decide (g.1 < s)) = [] := by
        cases gs with
        | nil => rfl
        | cons b gs =>
          have := h1.1 b List.mem_cons_self
          rw [List.takeWhile_cons_of_neg (by simp; omega)]
      rw [if_neg hlt, List.takeWhile_cons_of_neg (p := fun g : Int × List (List Int) => decide (g.1 < s)) (by simpa using hlt), htw]
      by_cases he : g.1 = s
      · rw [if_pos he, List.find?_cons_of_pos (by simpa using he)]
        have hn : gs.find? (fun g => g.1 == s) = none := by
          rw [List.find?_eq_none]
          intro b hb
          have := h1.1 b hb
          simp; omega
        rw [hn]
        simp [lessL]
      · rw [if_neg he, List.find?_cons_of_neg (by simpa using he)]
        simp
theorem lessL_cons {r : List (List Int)} (h : Srt r) (s : Int) (w : List Int) : lessL r (s :: w) = (if finR r then 1 else 0) + (((groups r).takeWhile fun g => decide (g.1 < s)).map fun g => g.2.length).sum + lessL (resS r s) w := by
 have e := flat_less s w (groups r) (groups_inc h)
 unfold lessL
 conv => lhs; rw [rest_back h, ← groups_back h]
 rw [List.filter_append, List.length_append, e]
 unfold resS lessL
 have : ((if finR r = true then [[]] else []).filter (ltB (s :: w))).length = if finR r then 1 else 0 := by
  split
  ·
   simp [ltB, cmpL]
  ·
   rfl
 rw [this]; omega
theorem find_group {gs : List (Int × List (List Int))} (h : gs.Pairwise fun a b => a.1 < b.1) {s : Int} {u : List Int} : u ∈ ((gs.find? fun g => g.1 == s).map (·.2)).getD [] ↔ (s :: u) ∈ flat gs := by
 induction gs with
 | nil => simp [flat]
 | cons g gs ih =>
  have h1 := List.pairwise_cons.1 h
  have ih := ih h1.2
  unfold flat at ih ⊢
  rw [List.flatMap_cons, List.mem_append]
  by_cases he : g.1 = s
  ·
   rw [List.find?_cons_of_pos (by simpa using he)]
   have hn : gs.find? (fun g => g.1 == s) = none := by
    rw [List.find?_eq_none]
    intro b hb
    have := h1.1 b hb
    simp; omega
   rw [hn] at ih
   rw [← ih]
   simp [he]
  ·
   rw [List.find?_cons_of_neg (by simpa using he), ih]
   simp [he]
theorem mem_resS {r : List (List Int)} (h : Srt r) (s : Int) (u : List Int) : u ∈ resS r s ↔ (s :: u) ∈ r := by
 unfold resS
 rw [find_group (groups_inc h), groups_back h]
 conv => rhs; rw [rest_back h]
 rw [List.mem_append]
 constructor
 ·
  exact .inr
 ·
  rintro (h1 | h1)
  ·
   split at h1 <;> simp at h1
  ·
   exact h1
theorem srt_resS {r : List (List Int)} (h : Srt r) (s : Int) : Srt (resS r s) := by
 unfold resS
 cases hf : (groups r).find? (fun g => g.1 == s) with
 | none => exact List.Pairwise.nil
 | some g => exact (groups_ok h g (List.mem_of_find?_eq_some hf)).1
theorem srt_resW : ∀ (w : List Int) {r : List (List Int)}, Srt r → Srt (resW r w)
  | [], _, h => h
  | s :: w, _, h => srt_resW w (srt_resS h s)
theorem mem_resW : ∀ (w : List Int) {r : List (List Int)}, Srt r → ∀ u, u ∈ resW r w ↔ (w ++ u) ∈ r
  | [], _, _, u => Iff.rfl
  | s :: w, r, h, u => by
    rw [resW, mem_resW w (srt_resS h s), mem_resS h]; rfl
theorem fin_mem {r : List (List Int)} (h : Srt r) : finR r = true ↔ [] ∈ r := by
 cases r with
 | nil => simp [finR]
 | cons w l =>
  cases w with
  | nil => simp [finR]
  | cons a w => simpa [finR] using fun hm => (srt_ne h [] hm) rfl
theorem resW_nil : ∀ w : List Int, resW [] w = []
  | [] => rfl
  | s :: w => by rw [resW]; exact resW_nil w
theorem lessL_empty (w : List Int) : lessL [] w = 0 := rfl

theorem sumTo_is (ns : List Nd) (f2 : List Int) (gs : List (List (List Int))) (less : Int) (h0 : 0 ≤ less) (hk : ∀ i, i < gs.length → (rdN ns (rd f2 i)).f3 = ((gs.getD i []).length : Int)) (hb : less + (gs.map List.length).sum ≤ 1000000000000) :
    ∀ k, k ≤ gs.length → sumTo ns f2 k less = less + ((gs.take k).map List.length).sum
  | 0, _ => by simp [sumTo]
  | k + 1, h => by
    have ht : gs.take (k + 1) = gs.take k ++ [gs.getD k []] := by
      rw [List.take_succ_eq_append_getElem (by omega : k < gs.length), List.getD_eq_getElem?_getD, List.getElem?_eq_getElem (by omega : k < gs.length)]; rfl
    have hs : ((gs.take (k + 1)).map List.length).sum ≤ (gs.map List.length).sum := by
      conv => rhs; rw [← List.take_append_drop (k + 1) gs]
      rw [List.map_append, List.sum_append]; omega
    rw [ht, List.map_append, List.sum_append] at hs
    simp only [List.map_cons, List.map_nil, List.sum_cons, List.sum_nil] at hs
    rw [sumTo, sumTo_is ns f2 gs less h0 hk hb k (by omega), hk k (by omega), ht, List.map_append, List.sum_append, wrap_id (by omega) (by omega)]
    simp only [List.map_cons, List.map_nil, List.sum_cons, List.sum_nil]
    omega
theorem tw_posL (gs : List (Int × List (List Int))) (s : Int) : gs.takeWhile (fun g => decide (g.1 < s)) = gs.take (posL (gs.map (·.1)) s) := by
 unfold posL
 rw [List.takeWhile_map, List.length_map]
 exact (tw_len_take _ gs).symm
theorem IsNd.inc {P : List (List (List Int))} {x : Nd} {r : List (List Int)} (h : IsNd P x r) (hs : Srt r) : Inc x.f1 := by
 rw [h.syms]
 unfold Inc
 rw [List.pairwise_map]
 exact groups_inc hs
theorem IsNd.kid {P : List (List (List Int))} {x : Nd} {r : List (List Int)} (h : IsNd P x r) {i : Nat} (hi : i < x.f2.length) : ∃ g, (groups r)[i]? = some g ∧ rd x.f1 i = g.1 ∧ rdP P (rd x.f2 i) = g.2 ∧ 0 ≤ rd x.f2 i ∧ rd x.f2 i < (P.length : Int) := by
 have hl : x.f2.length = (groups r).length := by have := congrArg List.length h.goes; simpa using this
 have hg : (groups r)[i]? = some ((groups r)[i]'(by omega)) := List.getElem?_eq_getElem _
 refine ⟨_, hg, ?_, ?_, h.lead _ (rd_in hi)⟩
 ·
  rw [rd_nat, List.getD_eq_getElem?_getD, h.syms, List.getElem?_map, hg]; rfl
 ·
  have := congrArg (fun l => l[i]?) h.goes
  simp only [List.getElem?_map, hg, List.getElem?_eq_getElem hi, Option.map_some, Option.some.injEq] at this
  rw [rd_nat, List.getD_eq_getElem?_getD, List.getElem?_eq_getElem hi, Option.getD_some, this]
theorem IsNd.step {P : List (List (List Int))} {x : Nd} {r : List (List Int)} (h : IsNd P x r) (hs : Srt r) (s : Int) : (s ∈ x.f1 → rdP P (rd x.f2 (posL x.f1 s)) = resS r s ∧ resS r s ≠ [] ∧ 0 ≤ rd x.f2 (posL x.f1 s) ∧ rd x.f2 (posL x.f1 s) < (P.length : Int)) ∧ (s ∉ x.f1 → resS r s = []) := by
 constructor
 ·
  intro hm
  obtain ⟨h1, h2⟩ := (posL_mem (h.inc hs)).1 hm
  obtain ⟨g, hg, e1, e2, e3⟩ := h.kid (i := posL x.f1 s) (by rw [← h.even]; exact h1)
  have hgm : g ∈ groups r := List.mem_of_getElem? hg
  have hf : (groups r).find? (fun g => g.1 == s) = some g := by
   obtain ⟨hi, e⟩ := List.getElem?_eq_some_iff.1 hg
   rw [List.find?_eq_some_iff_getElem]
   refine ⟨by simp; rw [← h2, e1], posL x.f1 s, hi, e, fun j hj => ?_⟩
   have := List.pairwise_iff_getElem.1 (groups_inc hs) j _ (by omega) hi hj
   rw [e] at this
   simp; omega
  have hr : resS r s = g.2 := by unfold resS; rw [hf]; rfl
  exact ⟨by rw [e2, hr], by rw [hr]; exact (groups_ok hs g hgm).2.1, e3⟩
 ·
  intro hm
  unfold resS
  have : (groups r).find? (fun g => g.1 == s) = none := by
   rw [List.find?_eq_none]
   intro g hg he
   refine hm ?_
   rw [h.syms, ← show g.1 = s by simpa using he]
   exact List.mem_map_of_mem hg
  rw [this]; rfl
theorem lessN_is {ns : List Nd} {Q : List (List (List Int))} (h : Inv ns Q) {i : Int} (h0 : 0 ≤ i) (h1 : i < (ns.length : Int)) (s less : Int) (hl : 0 ≤ less) (hb : less + ((rdP Q i).length : Int) ≤ 1000000000000) :
    lessN ns i s less = less + (((if finR (rdP Q i) then 1 else 0) + (((groups (rdP Q i)).takeWhile fun g => decide (g.1 < s)).map fun g => g.2.length).sum : Nat) : Int) := by
 have hn := h.nds i.toNat (by omega)
 rw [show ((i.toNat : Nat) : Int) = i from by omega] at hn
 have hm := rdP_mem h0 (by rw [h.len]; exact h1)
 have hs := h.srt _ hm
 generalize rdP Q i = r at *
 have hlen := res_length hs
 unfold lessN
 have hless : (if (rdN ns i).f0 = true then wrap64 (less + 1) else less) = less + if finR r then 1 else 0 := by
  rw [hn.fin]
  split
  ·
   rename_i hf
   rw [if_pos hf] at hlen
   exact wrap_id (by omega) (by omega)
  ·
   omega
 rw [hless]
 have hle : posL (rdN ns i).f1 s ≤ ((groups r).map (·.2)).length := by
  have := posL_le (rdN ns i).f1 s
  rw [hn.syms] at this ⊢
  simpa using this
 have e := sumTo_is ns (rdN ns i).f2 ((groups r).map (·.2)) (less + if finR r then 1 else 0) (by split <;> omega) (fun j hj => by
  have hj2 : j < (rdN ns i).f2.length := by have := congrArg List.length hn.goes; simp only [List.length_map] at this hj; omega
  obtain ⟨g, hg, _, e2, e3, e4⟩ := hn.kid hj2
  have hk := h.nds (rd (rdN ns i).f2 j).toNat (by have := h.len; omega)
  rw [show (((rd (rdN ns i).f2 j).toNat : Nat) : Int) = rd (rdN ns i).f2 j from by omega] at hk
  rw [hk.count, e2, List.getD_eq_getElem?_getD, List.getElem?_map, hg]; rfl) (by
  rw [List.map_map]
  have : ((groups r).map (List.length ∘ fun x => x.2)).sum = ((groups r).map fun g => g.2.length).sum := rfl
  rw [this]
  split <;> rename_i hf
  ·
   rw [if_pos hf] at hlen; omega
  ·
   rw [if_neg hf] at hlen; omega) _ hle
 rw [e, tw_posL, ← hn.syms, ← List.map_take, List.map_map]
 have : (((groups r).take (posL (rdN ns i).f1 s)).map (List.length ∘ fun x => x.2)).sum = (((groups r).take (posL (rdN ns i).f1 s)).map fun g => g.2.length).sum := rfl
 rw [this]
 split <;> omega
theorem resS_length {r : List (List Int)} (h : Srt r) (s : Int) : (if finR r then 1 else 0) + (((groups r).takeWhile fun g => decide (g.1 < s)).map fun g => g.2.length).sum + (resS r s).length ≤ r.length := by
 rw [res_length h]
 have key : ∀ gs : List (Int × List (List Int)), ((gs.takeWhile fun g => decide (g.1 < s)).map fun g => g.2.length).sum + (((gs.find? fun g => g.1 == s).map (·.2)).getD []).length ≤ (gs.map fun g => g.2.length).sum := by
  intro gs
  induction gs with
  | nil => simp
  | cons g gs ih =>
   by_cases hlt : g.1 < s
   ·
    rw [List.takeWhile_cons_of_pos (p := fun g : Int × List (List Int) => decide (g.1 < s)) (by simpa using hlt), List.find?_cons_of_neg (by simp; omega), List.map_cons, List.map_cons, List.sum_cons, List.sum_cons]; omega
   ·
    rw [List.takeWhile_cons_of_neg (p := fun g : Int × List (List Int) => decide (g.1 < s)) (by simpa using hlt)]
    have hfs : (((gs.find? fun g => g.1 == s).map (·.2)).getD []).length ≤ (gs.map fun g => g.2.length).sum := by omega
    by_cases he : g.1 = s
    ·
     rw [List.find?_cons_of_pos (by simpa using he)]; simp
    ·
     rw [List.find?_cons_of_neg (by simpa using he), List.map_cons, List.sum_cons]; simp only [List.map_nil, List.sum_nil]; omega
 have := key (groups r)
 unfold resS
 omega
theorem walk_tells {ns : List Nd} {Q : List (List (List Int))} (h : Inv ns Q) : ∀ (w : List Int) (i less : Int), 0 ≤ i → i < (ns.length : Int) → 0 ≤ less → less + ((rdP Q i).length : Int) ≤ 1000000000000 →
    (walkN ns w less i).1 = less + (lessL (rdP Q i) w : Int) ∧ ((walkN ns w less i).2 = -1 ∧ resW (rdP Q i) w = [] ∧ w ≠ [] ∨ 0 ≤ (walkN ns w less i).2 ∧ (walkN ns w less i).2 < (ns.length : Int) ∧ rdP Q (walkN ns w less i).2 = resW (rdP Q i) w)
  | [], i, less, h0, h1, _, _ => by
    rw [lessL_nil]
    exact ⟨by simp [walkN], .inr ⟨h0, h1, rfl⟩⟩
  | s :: w, i, less, h0, h1, hl, hb => by
    have hn := h.nds i.toNat (by omega)
    rw [show ((i.toNat : Nat) : Int) = i from by omega] at hn
    have hm := rdP_mem h0 (by rw [h.len]; exact h1)
    have hs := h.srt _ hm
    have e := lessN_is h h0 h1 s less hl hb
    have hlen := resS_length hs s
    obtain ⟨st1, st2⟩ := hn.step hs s
    rw [walkN, lessL_cons hs, resW]
    split
    · rename_i hin
      obtain ⟨t1, _, t2, t3⟩ := st1 hin
      have := walk_tells h w (rd (rdN ns i).f2 (posL (rdN ns i).f1 s)) (lessN ns i s less) t2 (by rw [← h.len]; exact t3) (by rw [e]; omega) (by rw [t1, e]; omega)
      rw [t1] at this
      refine ⟨?_, ?_⟩
      · rw [this.1, e]; omega
      · rcases this.2 with ⟨a, b, c⟩ | b
        · exact .inl ⟨a, b, by simp⟩
        · exact .inr b
    · rename_i hin
      have hz := st2 hin
      rw [hz, lessL_empty, resW_nil]
      exact ⟨by rw [e]; omega, .inl ⟨rfl, rfl, by simp⟩⟩
theorem index_tells {ns : List Nd} {Q : List (List (List Int))} (h : Inv ns Q) (hq : 0 < ns.length) (hb : (rdP Q 0).length ≤ 1000000000) (w : List Int) : indexN ns w = if w ∈ rdP Q 0 then ((lessL (rdP Q 0) w : Int), true) else (0, false) := by
 have hs := h.srt _ (rdP_mem (Int.le_refl 0) (by rw [h.len]; omega))
 have hw := walk_tells h w 0 0 (Int.le_refl 0) (by omega) (Int.le_refl 0) (by omega)
 unfold indexN
 have hmem : w ∈ rdP Q 0 ↔ [] ∈ resW (rdP Q 0) w := by rw [mem_resW w hs]; simp
 rcases hw.2 with ⟨a, b, c⟩ | ⟨a, b, c⟩
 ·
  rw [a, if_neg (by omega), if_neg]
  rw [hmem, b]; simp
 ·
  have hn := h.nds (walkN ns w 0 0).2.toNat (by omega)
  rw [show (((walkN ns w 0 0).2.toNat : Nat) : Int) = (walkN ns w 0 0).2 from by omega] at hn
  rw [hn.fin, c, hw.1, Int.zero_add]
  have hf := fin_mem (srt_resW w hs)
  by_cases hm : w ∈ rdP Q 0
  ·
   rw [if_pos ⟨a, hf.2 (hmem.1 hm)⟩, if_pos hm]
  ·
   rw [if_neg (fun e => hm (hmem.2 (hf.1 e.2))), if_neg hm]
theorem begins_tells {ns : List Nd} {Q : List (List (List Int))} (h : Inv ns Q) (hq : 0 < ns.length) (hb : (rdP Q 0).length ≤ 1000000000) (w : List Int) : beginsN ns w = ((lessL (rdP Q 0) w : Int), (lessL (rdP Q 0) w : Int) + ((resW (rdP Q 0) w).length : Int)) := by
 have hs := h.srt _ (rdP_mem (Int.le_refl 0) (by rw [h.len]; omega))
 have hw := walk_tells h w 0 0 (Int.le_refl 0) (by omega) (Int.le_refl 0) (by omega)
 have hle := lessL_le (rdP Q 0) w
 unfold beginsN
 rcases hw.2 with ⟨a, b, c⟩ | ⟨a, b, c⟩
 ·
  rw [a, if_pos (by omega), hw.1, b]; simp
 ·
  have hn := h.nds (walkN ns w 0 0).2.toNat (by omega)
  rw [show (((walkN ns w 0 0).2.toNat : Nat) : Int) = (walkN ns w 0 0).2 from by omega] at hn
  rw [if_neg (by omega), hw.1, hn.count, c, Int.zero_add, wrap_id (by omega)]
  have h2 : (resW (rdP Q 0) w).length ≤ (rdP Q 0).length := by
   have key : ∀ (w : List Int) (r : List (List Int)), Srt r → (resW r w).length ≤ r.length := by
    intro w
    induction w with
    | nil => intro r _; exact Nat.le_refl _
    | cons s w ih => intro r hr; exact Nat.le_trans (ih _ (srt_resS hr s)) (by have := resS_length hr s; omega)
   exact key w _ hs
  omega
theorem resS_group {r : List (List Int)} (h : Srt r) {g : Int × List (List Int)} (hg : g ∈ groups r) : resS r g.1 = g.2 := by
 have hf : (groups r).find? (fun b => b.1 == g.1) = some g := by
  obtain ⟨i, hi, e⟩ := List.getElem_of_mem hg
  rw [List.find?_eq_some_iff_getElem]
  refine ⟨by simp, i, hi, e, fun j hj => ?_⟩
  have := List.pairwise_iff_getElem.1 (groups_inc h) j i (by omega) hi hj
  rw [e] at this
  simp; omega
 unfold resS; rw [hf]; rfl
end Go.Proofs.Ytcdjeimjbbknjaa.PAll
namespace Go.Proofs.Ytcdjeimjbbknjaa.PAll
open Go.RowKit Go.Proofs.YtcdjeimjbbknjaaW.PrintWords Go.Proofs.YtcdjeimjbbknjaaW.PrintLast Go.Proofs.YtcdjeimjbbknjaaW.PrintMore
set_option linter.unusedVariables false
set_option linter.unusedSimpArgs false

def flp (neg : Bool) (c : Int) : Int := if neg then 255 - c else c
def foldB (neg : Bool) : Int → List Int → Int
  | m, [] => m
  | m, c :: cs => foldB neg (m * 256 + flp neg c) cs
def getI (b : List Int) : Int × Int × Int :=
  if b.length = 0 then (0, 0, 3)
  else
    let neg := decide (rd b 0 < 128)
    let k := flp neg (rd b 0) - 128
    if 8 < k then (0, 0, 2)
    else if (b.length : Int) ≤ k then (0, 0, 3)
    else if 0 < k ∧ flp neg (rd b 1) = 0 then (0, 0, 2)
    else
      let m := foldB neg 0 ((b.drop 1).take k.toNat)
      if 9223372036854775808 ≤ m then (0, 0, 2)
      else (if neg then -m - 1 else m, k + 1, 0)
set_option maxRecDepth 100000 in
theorem xor_255 (c : Int) (h0 : 0 ≤ c) (h1 : c < 256) : bits .xor .u8 c 255 = 255 - c := by
 rw [u8_xor c 255 h0 h1 (by omega) (by omega)]
 obtain ⟨n, rfl⟩ := Int.eq_ofNat_of_zero_le h0
 have hn : n < 256 := by omega
 simp only [Int.toNat_natCast]
 have h : ∀ n : Fin 256, ((n.val ^^^ 255 : Nat) : Int) = 255 - (n.val : Int) := by decide
 exact h ⟨n, hn⟩
theorem xor_0 (c : Int) (h0 : 0 ≤ c) (h1 : c < 256) : bits .xor .u8 c 0 = c := by
 rw [u8_xor c 0 h0 h1 (by omega) (by omega)]
 simp; omega
end Go.Proofs.Ytcdjeimjbbknjaa.PAll
namespace Go.Proofs.Ytcdjeimjbbknjaa.PAll
open Go.RowKit Go.Proofs.YtcdjeimjbbknjaaW.PrintWords Go.Proofs.YtcdjeimjbbknjaaW.PrintLast Go.Proofs.YtcdjeimjbbknjaaW.PrintMore
set_option linter.unusedVariables false
set_option linter.unusedSimpArgs false
def lenD : Nat → Int → Nat
  | 0, _ => 0
  | k + 1, m => if 0 < m / (256 ^ k : Nat) then k + 1 else lenD k m
def digs : Nat → Int → List Int
  | 0, _ => []
  | k + 1, m => m / (256 ^ k : Nat) % 256 :: digs k m
def magI (n : Int) : Int := if n < 0 then -n - 1 else n
def intB (n : Int) : List Int := flp (decide (n < 0)) (128 + (lenD 8 (magI n) : Int)) :: (digs (lenD 8 (magI n)) (magI n)).map (flp (decide (n < 0)))
def intsB (l : List Int) : List Int := l.flatMap intB
def listB (l : List Int) : List Int := intB (l.length : Int) ++ intsB l
def i64 (n : Int) : Prop := -9223372036854775808 ≤ n ∧ n ≤ 9223372036854775807
theorem flp_flp (neg : Bool) (c : Int) : flp neg (flp neg c) = c := by unfold flp; split <;> omega
theorem digs_length : ∀ (k : Nat) (m : Int), (digs k m).length = k
  | 0, _ => rfl
  | k + 1, m => by rw [digs, List.length_cons, digs_length]
theorem lenD_le : ∀ (k : Nat) (m : Int), lenD k m ≤ k
  | 0, _ => Nat.le_refl _
  | k + 1, m => by rw [lenD]; split; exact Nat.le_refl _; exact Nat.le_succ_of_le (lenD_le k m)
theorem pow_pos' (k : Nat) : (0 : Int) < (256 ^ k : Nat) := by exact_mod_cast Nat.pow_pos (by decide)
theorem pow_succ' (k : Nat) : ((256 ^ (k + 1) : Nat) : Int) = 256 * ((256 ^ k : Nat) : Int) := by rw [Nat.pow_succ, Int.natCast_mul, Int.mul_comm]; rfl
theorem lenD_lt : ∀ (k : Nat) (m : Int), 0 ≤ m → m < (256 ^ k : Nat) → m < (256 ^ lenD k m : Nat)
  | 0, m, h0, h => by simpa [lenD] using h
  | k + 1, m, h0, h => by
    rw [lenD]
    split
    · exact h
    · rename_i hd
      refine lenD_lt k m h0 ?_
      have hp := pow_pos' k
      have h1 : m / ((256 ^ k : Nat) : Int) = 0 := by
        have := Int.ediv_nonneg h0 (Int.le_of_lt hp)
        omega
      have h2 := Int.emod_add_mul_ediv m ((256 ^ k : Nat) : Int)
      rw [h1, Int.mul_zero, Int.add_zero] at h2
      rw [← h2]
      exact Int.emod_lt_of_pos m hp
theorem lenD_head : ∀ (k j : Nat) (m : Int), lenD k m = j + 1 → 0 < m / (256 ^ j : Nat)
  | 0, j, m, h => by simp [lenD] at h
  | k + 1, j, m, h => by
    rw [lenD] at h
    split at h
    · rename_i hd
      obtain rfl : k = j := by omega
      exact hd
    · exact lenD_head k j m h
theorem flp_range (neg : Bool) {c : Int} (h : 0 ≤ c ∧ c < 256) : 0 ≤ flp neg c ∧ flp neg c < 256 := by unfold flp; split <;> omega
theorem digs_range : ∀ (k : Nat) (m : Int), ∀ c ∈ digs k m, 0 ≤ c ∧ c < 256
  | 0, _, c, hc => by simp [digs] at hc
  | k + 1, m, c, hc => by
    rw [digs] at hc
    rcases List.mem_cons.1 hc with rfl | hc
    · exact ⟨Int.emod_nonneg _ (by omega), Int.emod_lt_of_pos _ (by omega)⟩
    · exact digs_range k m c hc
theorem foldB_digs (neg : Bool) : ∀ (k : Nat) (m a : Int), 0 ≤ m → foldB neg a ((digs k m).map (flp neg)) = a * (256 ^ k : Nat) + m % (256 ^ k : Nat)
  | 0, m, a, h => by simp [digs, foldB]
  | k + 1, m, a, h => by
    rw [digs, List.map_cons, foldB, foldB_digs neg k m _ h, flp_flp, pow_succ']
    have hp := pow_pos' k
    generalize ((256 ^ k : Nat) : Int) = p at *
    have e1 := Int.emod_add_mul_ediv m p
    have e2 := Int.emod_add_mul_ediv (m / p) 256
    have e3 : m % (256 * p) = p * (m / p % 256) + m % p := by
      have h1 : m = (p * (m / p % 256) + m % p) + (256 * p) * (m / p / 256) := by
        calc m = m % p + p * (m / p) := e1.symm
          _ = m % p + p * (m / p % 256 + 256 * (m / p / 256)) := by rw [e2]
          _ = _ := by rw [Int.mul_add, ← Int.mul_assoc, Int.mul_comm p 256]; omega
      rw [h1, Int.add_mul_emod_self_left, ← h1]
      refine Int.emod_eq_of_lt ?_ ?_
      · have := Int.mul_nonneg (Int.le_of_lt hp) (Int.emod_nonneg (m / p) (show (256 : Int) ≠ 0 by decide))
        have := Int.emod_nonneg m (show p ≠ 0 by omega)
        omega
      · have h2 : m / p % 256 ≤ 255 := by have := Int.emod_lt_of_pos (m / p) (show (0 : Int) < 256 by decide); omega
        have h3 := Int.mul_le_mul_of_nonneg_left h2 (Int.le_of_lt hp)
        have h4 := Int.emod_lt_of_pos m hp
        rw [Int.mul_comm p 255] at h3
        omega
    rw [e3, Int.add_mul, Int.mul_assoc, Int.mul_comm p]
    omega
theorem magI_range {n : Int} (h : i64 n) : 0 ≤ magI n ∧ magI n < 9223372036854775808 := by unfold magI; unfold i64 at h; split <;> omega
theorem intB_length (n : Int) : (intB n).length = lenD 8 (magI n) + 1 := by rw [intB, List.length_cons, List.length_map, digs_length]
theorem intB_ne (n : Int) : 1 ≤ (intB n).length := by rw [intB_length]; omega
theorem intB_range {n : Int} (h : i64 n) : ∀ c ∈ intB n, 0 ≤ c ∧ c < 256 := by
 intro c hc
 rw [intB] at hc
 rcases List.mem_cons.1 hc with rfl | hc
 ·
  exact flp_range _ (by have := lenD_le 8 (magI n); omega)
 ·
  obtain ⟨d, hd, rfl⟩ := List.mem_map.1 hc
  exact flp_range _ (digs_range _ _ _ hd)
theorem getI_intB {n : Int} (h : i64 n) (r : List Int) : getI (intB n ++ r) = (n, ((intB n).length : Int), 0) := by
  have hk := lenD_le 8 (magI n)
  obtain ⟨m0, m1⟩ := magI_range h
  have hlt := lenD_lt 8 (magI n) m0 (by have : ((256 ^ 8 : Nat) : Int) = 18446744073709551616 := by decide
                                        omega)
  have hhd := lenD_head 8
  have hln := intB_length n
  unfold getI
  rw [if_neg (by simp [hln])]
  have hneg : decide (rd (intB n ++ r) 0 < 128) = decide (n < 0) := by
    have e : rd (intB n ++ r) 0 = flp (decide (n < 0)) (128 + (lenD 8 (magI n) : Int)) := rfl
    rw [e]
    unfold flp
    by_cases hn : n < 0
    · rw [decide_eq_true hn, if_pos rfl]; exact decide_eq_true (by omega)
    · rw [decide_eq_false hn, if_neg (by decide)]; exact decide_eq_false (by omega)
  have hv : flp (decide (n < 0)) (rd (intB n ++ r) 0) - 128 = (lenD 8 (magI n) : Int) := by
    have e : rd (intB n ++ r) 0 = flp (decide (n < 0)) (128 + (lenD 8 (magI n) : Int)) := rfl
    rw [e, flp_flp]; omega
  dsimp only
  rw [hneg, hv, if_neg (by omega), if_neg (by rw [List.length_append, hln]; omega)]
  have hdr : ((intB n ++ r).drop 1).take ((lenD 8 (magI n) : Int)).toNat = (digs (lenD 8 (magI n)) (magI n)).map (flp (decide (n < 0))) := by
    rw [Int.toNat_natCast, intB, List.cons_append, List.drop_succ_cons, List.drop_zero]
    rw [List.take_left' (by rw [List.length_map, digs_length])]
  have h2 : ¬ (0 < (lenD 8 (magI n) : Int) ∧ flp (decide (n < 0)) (rd (intB n ++ r) 1) = 0) := by
    rintro ⟨ha, hb⟩
    obtain ⟨j, hj⟩ : ∃ j, lenD 8 (magI n) = j + 1 := ⟨lenD 8 (magI n) - 1, by omega⟩
    have e : rd (intB n ++ r) 1 = flp (decide (n < 0)) (magI n / (256 ^ j : Nat) % 256) := by
      rw [intB, hj]; rfl
    rw [e, flp_flp] at hb
    have h3 := lenD_head 8 j (magI n) hj
    rw [hj, pow_succ'] at hlt
    have hp := pow_pos' j
    have h4 : magI n / ((256 ^ j : Nat) : Int) < 256 := (Int.ediv_lt_iff_lt_mul hp).2 hlt
    rw [Int.emod_eq_of_lt (by omega) h4] at hb
    omega
  rw [if_neg h2, hdr, foldB_digs _ _ _ _ m0, Int.zero_mul, Int.zero_add, Int.emod_eq_of_lt m0 hlt, if_neg (by omega), hln]
  congr 1
  unfold magI
  by_cases hn : n < 0
  · rw [decide_eq_true hn, if_pos rfl, if_pos hn]; omega
  · rw [decide_eq_false hn, if_neg (by decide), if_neg hn]
theorem rd_app {b r : List Int} {i : Nat} (h : i < b.length) : rd (b ++ r) (i : Int) = rd b (i : Int) := by
 unfold rd; rw [Int.toNat_natCast, List.getD_eq_getElem?_getD, List.getD_eq_getElem?_getD, List.getElem?_append_left h]
def byt (b : List Int) : Prop := ∀ c ∈ b, 0 ≤ c ∧ c < 256
theorem rd_mem0 {b : List Int} {i : Nat} (h : i < b.length) : rd b (i : Int) ∈ b := by
 unfold rd; rw [Int.toNat_natCast, List.getD_eq_getElem?_getD, List.getElem?_eq_getElem h, Option.getD_some]; exact List.getElem_mem h
theorem headK {b : List Int} (hb : byt b) (h0 : b.length ≠ 0) : 0 ≤ flp (decide (rd b 0 < 128)) (rd b 0) - 128 := by
 have := hb _ (rd_mem0 (i := 0) (show 0 < b.length by omega))
 rw [show ((0 : Nat) : Int) = 0 from rfl] at this
 unfold flp
 by_cases h : rd b 0 < 128
 ·
  rw [decide_eq_true h, if_pos rfl]; omega
 ·
  rw [decide_eq_false h, if_neg (by decide)]; omega
theorem getI_ok {b : List Int} (hbt : byt b) {n k : Int} (h : getI b = (n, k, 0)) : 1 ≤ k ∧ k ≤ (b.length : Int) ∧ ∀ r, getI (b ++ r) = (n, k, 0) := by
 have hk0 := headK hbt
 unfold getI at h
 by_cases h0 : b.length = 0
 ·
  rw [if_pos h0] at h; injection h with _ h; injection h with _ h; exact absurd h (by decide)
 have hk0 := hk0 h0
 rw [if_neg h0] at h
 dsimp only at h
 by_cases h1 : 8 < flp (decide (rd b 0 < 128)) (rd b 0) - 128
 ·
  rw [if_pos h1] at h; injection h with _ h; injection h with _ h; exact absurd h (by decide)
 rw [if_neg h1] at h
 by_cases h2 : (b.length : Int) ≤ flp (decide (rd b 0 < 128)) (rd b 0) - 128
 ·
  rw [if_pos h2] at h; injection h with _ h; injection h with _ h; exact absurd h (by decide)
 rw [if_neg h2] at h
 by_cases h3 : 0 < flp (decide (rd b 0 < 128)) (rd b 0) - 128 ∧ flp (decide (rd b 0 < 128)) (rd b 1) = 0
 ·
  rw [if_pos h3] at h; injection h with _ h; injection h with _ h; exact absurd h (by decide)
 rw [if_neg h3] at h
 by_cases h4 : 9223372036854775808 ≤ foldB (decide (rd b 0 < 128)) 0 ((b.drop 1).take (flp (decide (rd b 0 < 128)) (rd b 0) - 128).toNat)
 ·
  rw [if_pos h4] at h; injection h with _ h; injection h with _ h; exact absurd h (by decide)
 rw [if_neg h4] at h
 have h' := h
 injection h' with e1 h'
 injection h' with e2 _
 refine ⟨by omega, by omega, fun r => ?_⟩
 have a0 : rd (b ++ r) 0 = rd b 0 := rd_app (i := 0) (by omega)
 have hd : ((b ++ r).drop 1).take (flp (decide (rd b 0 < 128)) (rd b 0) - 128).toNat = (b.drop 1).take (flp (decide (rd b 0 < 128)) (rd b 0) - 128).toNat := by
  rw [List.drop_append_of_le_length (by omega), List.take_append_of_le_length (by rw [List.length_drop]; omega)]
 unfold getI
 rw [if_neg (by rw [List.length_append]; omega)]
 dsimp only
 rw [a0, if_neg h1, if_neg (by rw [List.length_append]; omega), hd, if_neg (fun ⟨x, y⟩ => h3 ⟨x, by rwa [show rd (b ++ r) 1 = rd b 1 from rd_app (i := 1) (by omega)] at y⟩), if_neg h4]
 exact h
def getsN (b : List Int) : Nat → Nat → List Int → List Int × Int × Int
  | 0, at_, out => (out, (at_ : Int), 0)
  | f + 1, at_, out => if (getI (b.drop at_)).2.2 ≠ 0 then ([], 0, (getI (b.drop at_)).2.2) else getsN b f (at_ + (getI (b.drop at_)).2.1.toNat) (out ++ [(getI (b.drop at_)).1])
def cntI (b : List Int) : Int × Int × Int :=
  if (getI b).2.2 ≠ 0 then getI b else if (getI b).1 < 0 then ((getI b).1, (getI b).2.1, 2) else if (b.length : Int) - (getI b).2.1 < (getI b).1 then ((getI b).1, (getI b).2.1, 3) else getI b
def getsI (b : List Int) : List Int × Int × Int :=
  if (cntI b).2.2 ≠ 0 then ([], 0, (cntI b).2.2) else getsN b (cntI b).1.toNat (cntI b).2.1.toNat []
theorem byt_drop {b : List Int} (h : byt b) (n : Nat) : byt (b.drop n) := fun c hc => h c (List.mem_of_mem_drop hc)
theorem byt_app {a b : List Int} (h : byt a) (h2 : byt b) : byt (a ++ b) := fun c hc => by rcases List.mem_append.1 hc with hc | hc; exact h c hc; exact h2 c hc
theorem cntI_ok {b : List Int} (h : (cntI b).2.2 = 0) : cntI b = getI b ∧ (getI b).2.2 = 0 ∧ 0 ≤ (getI b).1 ∧ (getI b).1 ≤ (b.length : Int) - (getI b).2.1 := by
 unfold cntI at h ⊢
 by_cases h1 : (getI b).2.2 ≠ 0
 ·
  rw [if_pos h1] at h; exact absurd h h1
 rw [if_neg h1] at h ⊢
 by_cases h2 : (getI b).1 < 0
 ·
  rw [if_pos h2] at h; exact absurd (show (2 : Int) = 0 from h) (by decide)
 rw [if_neg h2] at h ⊢
 by_cases h3 : (b.length : Int) - (getI b).2.1 < (getI b).1
 ·
  rw [if_pos h3] at h; exact absurd (show (3 : Int) = 0 from h) (by decide)
 rw [if_neg h3] at h ⊢
 exact ⟨rfl, h, by omega, by omega⟩
theorem intsB_cons (n : Int) (l : List Int) : intsB (n :: l) = intB n ++ intsB l := rfl
theorem intsB_length : ∀ l : List Int, l.length ≤ (intsB l).length
  | [] => Nat.le_refl _
  | n :: l => by rw [intsB_cons, List.length_append, List.length_cons]; have := intsB_length l; have := intB_ne n; omega
theorem intsB_byt {l : List Int} (h : ∀ x ∈ l, i64 x) : byt (intsB l) := by
 intro c hc
 obtain ⟨n, hn, hc⟩ := List.mem_flatMap.1 hc
 exact intB_range (h n hn) c hc
theorem listB_byt {l : List Int} (h : ∀ x ∈ l, i64 x) (hl : l.length ≤ 9223372036854775807) : byt (listB l) := byt_app (intB_range ⟨by omega, by omega⟩) (intsB_byt h)
theorem getsN_intsB : ∀ (l : List Int), (∀ x ∈ l, i64 x) → ∀ (p r out : List Int), getsN (p ++ (intsB l ++ r)) l.length p.length out = (out ++ l, (((p ++ intsB l).length : Nat) : Int), 0)
  | [], _, p, r, out => by simp [getsN, intsB]
  | n :: l, h, p, r, out => by
    have hd : (p ++ (intsB (n :: l) ++ r)).drop p.length = intB n ++ (intsB l ++ r) := by rw [List.drop_left' rfl, intsB_cons, List.append_assoc]
    rw [List.length_cons, getsN, hd, getI_intB (h n List.mem_cons_self)]
    dsimp only
    rw [if_neg (by decide), Int.toNat_natCast]
    have ih := getsN_intsB l (fun x hx => h x (List.mem_cons_of_mem _ hx)) (p ++ intB n) r (out ++ [n])
    rw [List.length_append] at ih
    rw [show p ++ (intsB (n :: l) ++ r) = p ++ intB n ++ (intsB l ++ r) from by rw [intsB_cons]; simp, ih, intsB_cons]
    simp
theorem getsI_listB {l : List Int} (h : ∀ x ∈ l, i64 x) (hl : l.length ≤ 9223372036854775807) (r : List Int) : getsI (listB l ++ r) = (l, ((listB l).length : Int), 0) := by
 have hg : getI (listB l ++ r) = ((l.length : Int), ((intB (l.length : Int)).length : Int), 0) := by
  rw [listB, List.append_assoc]; exact getI_intB ⟨by omega, by omega⟩ _
 have hc : cntI (listB l ++ r) = ((l.length : Int), ((intB (l.length : Int)).length : Int), 0) := by
  have := intsB_length l
  unfold cntI
  rw [hg]
  dsimp only
  rw [if_neg (by decide), if_neg (by omega), if_neg (by simp only [List.length_append, listB]; omega)]
 unfold getsI
 rw [hc]
 dsimp only
 rw [if_neg (by decide), Int.toNat_natCast, Int.toNat_natCast, listB, List.append_assoc, getsN_intsB l h, List.nil_append]
end Go.Proofs.Ytcdjeimjbbknjaa.PAll
namespace Go.Proofs.Ytcdjeimjbbknjaa.PAll
open Go.RowKit Go.Proofs.YtcdjeimjbbknjaaW.PrintWords Go.Proofs.YtcdjeimjbbknjaaW.PrintLast Go.Proofs.YtcdjeimjbbknjaaW.PrintMore
set_option linter.unusedVariables false
set_option linter.unusedSimpArgs false

theorem not_u64 (n : Int) (h0 : 0 ≤ n) (h1 : n < 18446744073709551616) : bits .xor .u64 18446744073709551615 n = 18446744073709551615 - n := by
 obtain ⟨a, rfl⟩ := Int.eq_ofNat_of_zero_le h0
 show IntKind.u64.wrap ((BitVec.ofInt 64 18446744073709551615 ^^^ BitVec.ofInt 64 (a : Int)).toNat : Int) = _
 have h2 : BitVec.ofInt 64 18446744073709551615 = BitVec.allOnes 64 := by decide
 rw [h2, BitVec.allOnes_xor, BitVec.toNat_not, ofInt_u64 a (by omega)]
 simp [IntKind.wrap, IntKind.bits, IntKind.signed]
 omega
end Go.Proofs.Ytcdjeimjbbknjaa.PAll
namespace Go.Proofs.Ytcdjeimjbbknjaa.PAll
open Go.RowKit Go.Proofs.YtcdjeimjbbknjaaW.PrintWords Go.Proofs.YtcdjeimjbbknjaaW.PrintLast Go.Proofs.YtcdjeimjbbknjaaW.PrintMore
set_option linter.unusedVariables false
set_option linter.unusedSimpArgs false

def GiPost (w : World) (q : Int × Int × Int) (e : Ending) (w' : World) : Prop := e = .returned (.tuple #[.int .i64 q.1, .int .i64 q.2.1, .int .i64 q.2.2]) ∧ w' = w
theorem or_add (m d : Int) (h0 : 0 ≤ m) (h1 : m < 72057594037927936) (d0 : 0 ≤ d) (d1 : d < 256) : bits .or .u64 (m * 256) d = m * 256 + d := by
 rw [u64_or _ _ (by omega) (by omega) d0 (by omega)]
 obtain ⟨a, rfl⟩ := Int.eq_ofNat_of_zero_le h0
 obtain ⟨b, rfl⟩ := Int.eq_ofNat_of_zero_le d0
 have h := Nat.shiftLeft_add_eq_or_of_lt (i := 8) (b := b) (by omega) a
 rw [Nat.shiftLeft_eq] at h
 rw [show ((a : Int) * 256).toNat = a * 2 ^ 8 from by omega, Int.toNat_natCast, ← h]
 omega
theorem foldB_drop (neg : Bool) (m : Int) {cs : List Int} {j : Nat} (h : j < cs.length) : foldB neg m (cs.drop j) = foldB neg (m * 256 + flp neg (rd cs (j : Int))) (cs.drop (j + 1)) := by
 rw [rd_drop h, foldB]
set_option maxHeartbeats 4000000 in
set_option maxRecDepth 100000 in
theorem getInt_any (A0 : Option Addr) (c0 : Nat) (b : List Int) (w : World) (hr : Kd.C (Kd.int .u8) w A0 b.length b) (hc : b.length ≤ c0) (hb : ∀ c ∈ b, 0 ≤ c ∧ c < 256) :
    Calls Try.prog 126 #[.slice A0 b.length c0] w (GiPost w (getI b)) := by
  have hmx := Kd.C_max hr
  by_cases h0 : b.length = 0
  · have HQ : Aside0 (getI b = (0, 0, 3)) := ⟨by unfold getI; rw [if_pos h0]⟩
    have hb0 : ((b.length : Int) == 0) = true := beq_iff_eq.2 (by omega)
    clear hr hb
    go_enter Try.func126, Try.ntmps126
    go_wp2
    go_ret3
    exact ⟨by rw [HQ.out]; rfl, rfl⟩
  · have hb0 : ((b.length : Int) == 0) = false := beq_eq_false_iff_ne.2 (by omega)
    obtain ⟨ad, rfl, hx0⟩ := Kd.at_int hr 0 (by omega) (by omega)
    have hx : w.cell? ad = some (.int .u8 (rd b 0)) := by simpa [Addr.add] using hx0
    have hr0 : 0 ≤ rd b 0 ∧ rd b 0 < 256 := by simpa using hb _ (rd_mem' (show 0 < b.length by omega))
    have HR := Aside0.mk hr
    have HB := Aside0.mk hb
    have hl0 : (0 : Int) < (b.length : Int) := by omega
    have HQ : Aside0 (getI b = getI b) := ⟨rfl⟩
    clear hr hb hx0
    go_enter Try.func126, Try.ntmps126
    go_upto_if 16 with fail
    go_cut [5] from 16 (fun s5 wx => s5 = .int .u8 (if rd b 0 < 128 then 255 else 0) ∧ w = wx)
    case first =>
      by_cases h1 : rd b 0 < 128
      · go_wp2
        go_meet
        refine ⟨?_, rfl⟩
        rw [if_pos (by omega)]
      · go_wp2
        go_meet
        refine ⟨?_, rfl⟩
        rw [if_neg (by omega)]
    case rest =>
      obtain ⟨hs5, rfl⟩ := hcut
      subst hs5
      have HG : Aside0 (getI b = if 8 < flp (decide (rd b 0 < 128)) (rd b 0) - 128 then (0, 0, 2)
          else if (b.length : Int) ≤ flp (decide (rd b 0 < 128)) (rd b 0) - 128 then (0, 0, 3)
          else if 0 < flp (decide (rd b 0 < 128)) (rd b 0) - 128 ∧ flp (decide (rd b 0 < 128)) (rd b 1) = 0 then (0, 0, 2)
          else if 9223372036854775808 ≤ foldB (decide (rd b 0 < 128)) 0 ((b.drop 1).take (flp (decide (rd b 0 < 128)) (rd b 0) - 128).toNat) then (0, 0, 2)
          else (if decide (rd b 0 < 128) = true then -foldB (decide (rd b 0 < 128)) 0 ((b.drop 1).take (flp (decide (rd b 0 < 128)) (rd b 0) - 128).toNat) - 1 else foldB (decide (rd b 0 < 128)) 0 ((b.drop 1).take (flp (decide (rd b 0 < 128)) (rd b 0) - 128).toNat), flp (decide (rd b 0 < 128)) (rd b 0) - 128 + 1, 0)) := ⟨by unfold getI; rw [if_neg h0]⟩
      have hv : 128 ≤ flp (decide (rd b 0 < 128)) (rd b 0) ∧ flp (decide (rd b 0 < 128)) (rd b 0) < 256 := by
        by_cases h1 : rd b 0 < 128
        · rw [decide_eq_true h1, show flp true (rd b 0) = 255 - rd b 0 from rfl]; omega
        · rw [decide_eq_false h1, show flp false (rd b 0) = rd b 0 from rfl]; omega
      have hfl : (if rd b 0 < 128 then (255 : Int) else 0) = if decide (rd b 0 < 128) = true then 255 else 0 := by simp
      rw [hfl]
      generalize decide (rd b 0 < 128) = neg at *
      have hx1 : bits .xor .u8 (rd b 0) (if neg = true then 255 else 0) = flp neg (rd b 0) := by
        cases neg
        · simpa [flp] using xor_0 _ hr0.1 hr0.2
        · simpa [flp] using xor_255 _ hr0.1 hr0.2
      have HX : Aside0 (∀ c, 0 ≤ c → c < 256 → bits .xor .u8 c (if neg = true then 255 else 0) = flp neg c) := ⟨fun c h0 h1 => by
        cases neg
        · simpa [flp] using xor_0 _ h0 h1
        · simpa [flp] using xor_255 _ h0 h1⟩
      have HFl : Aside0 ((if neg = true then (255 : Int) else 0) = if neg = true then 255 else 0) := ⟨rfl⟩
      obtain ⟨K, hK⟩ : ∃ K : Nat, flp neg (rd b 0) - 128 = (K : Int) := ⟨(flp neg (rd b 0) - 128).toNat, by omega⟩
      rw [hK] at HG
      generalize flp neg (rd b 0) = v0 at *
      have hfr : 0 ≤ (if neg = true then (255 : Int) else 0) ∧ (if neg = true then (255 : Int) else 0) < 256 := by split <;> omega
      generalize hfe : (if neg = true then (255 : Int) else 0) = fl at *
      have HFe := Aside0.mk hfe
      generalize rd b 0 = b0 at *
      have k1 : IntKind.i64.wrap v0 = v0 := wrap_in (by omega) (by omega)
      have k2 : IntKind.i64.wrap (v0 - 128) = (K : Int) := (wrap_in (by omega) (by omega)).trans hK
      clear hfl hfe
      have HK := Aside0.mk hK
      have hv1 := hv.1
      have hv2 := hv.2
      clear hK hv
      go_upto_block 0 with fail
      go_cut [] (fun wx => w = wx ∧ ¬ 8 < (K : Int) ∧ ¬ (b.length : Int) ≤ (K : Int) ∧ ¬ (0 < (K : Int) ∧ flp neg (rd b 1) = 0))
      case first =>
        by_cases hA : 8 < (K : Int)
        · have HQ2 : Aside0 (getI b = (0, 0, 2)) := ⟨by rw [HG.out, if_pos hA]⟩
          go_wp2
          go_ret3
          exact ⟨by rw [HQ2.out]; rfl, rfl⟩
        · by_cases hBl : (b.length : Int) ≤ (K : Int)
          · have HQ2 : Aside0 (getI b = (0, 0, 3)) := ⟨by rw [HG.out, if_neg hA, if_pos hBl]⟩
            go_wp2
            go_ret3
            exact ⟨by rw [HQ2.out]; rfl, rfl⟩
          · by_cases hK0 : 0 < (K : Int)
            · obtain ⟨ad1, e1, hx1'⟩ := Kd.at_int HR.out 1 (by omega) (by omega)
              injection e1 with e1
              subst e1
              rw [show (1 : Int).toNat = 1 from rfl] at hx1'
              have hx1n : w.cell? { block := ad.block, off := ad.off + 1 } = some (.int .u8 (rd b 1)) := by simpa [Addr.add] using hx1'
              have hr1 := HB.out _ (rd_mem' (show 1 < b.length by omega))
              rw [show ((1 : Nat) : Int) = 1 from rfl] at hr1
              have hx2 := HX.out _ hr1.1 hr1.2
              have hl1 : (1 : Int) < (b.length : Int) := by omega
              generalize hf1 : flp neg (rd b 1) = v1 at *
              generalize rd b 1 = b1 at *
              by_cases hZ : v1 = 0
              · have HQ2 : Aside0 (getI b = (0, 0, 2)) := ⟨by rw [HG.out, if_neg hA, if_neg hBl, if_pos ⟨hK0, hZ⟩]⟩
                have hz1 : (v1 == 0) = true := beq_iff_eq.2 hZ
                clear hZ
                go_wp2
                go_ret3
                exact ⟨by rw [HQ2.out]; rfl, rfl⟩
              · have hz1 : (v1 == 0) = false := beq_eq_false_iff_ne.2 hZ
                have HZ : Aside0 (¬ v1 = 0) := ⟨hZ⟩
                clear hZ
                go_wp2
                go_meet
                exact ⟨rfl, by omega, by omega, fun h => HZ.out h.2⟩
            · have hd0 : decide (0 < (K : Int)) = false := decide_eq_false hK0
              go_wp2
              go_meet
              exact ⟨rfl, by omega, by omega, fun h => absurd h.1 (by omega)⟩
      case rest =>
        obtain ⟨rfl, hA, hBl, hZ⟩ := hcut
        have HG2 : Aside0 (getI b = if 9223372036854775808 ≤ foldB neg 0 ((b.drop 1).take K) then (0, 0, 2) else (if neg = true then -foldB neg 0 ((b.drop 1).take K) - 1 else foldB neg 0 ((b.drop 1).take K), (K : Int) + 1, 0)) := ⟨by
          rw [HG.out, if_neg hA, if_neg hBl, if_neg hZ, Int.toNat_natCast]⟩
        clear HG hZ
        have hKb : K + 1 ≤ b.length := by omega
        have p1 : IntKind.i64.wrap ((K : Int) + 1) = (K : Int) + 1 := wrap_in (by omega) (by omega)
        obtain ⟨i0, hi0, _, hsz, _⟩ := info_parts info5
        obtain ⟨A2, hcut2, hA2, hC2⟩ := print_mid_of (P := Try.prog) (Value.int .u8) 0 55 5 .i64 .i64 Try.underlying55 hi0 hsz (some ad) c0 b 1 ((K : Int) + 1) (by omega) (by omega) (by omega) hc
        have hl2 : (b.take ((K : Int) + 1).toNat).drop (1 : Int).toNat = (b.drop 1).take K := by
          rw [show ((K : Int) + 1).toNat = K + 1 from by omega, show (1 : Int).toNat = 1 from rfl, List.drop_take]; rfl
        have hln : ((b.drop 1).take K).length = K := by rw [List.length_take, List.length_drop]; omega
        rw [hl2] at hcut2 hA2 hC2
        have HC2 := Aside0.mk (Kd.C_of_reads (h1 := fun _ => rfl) (hA2 _ (Kd.reads_of_C HR.out)))
        have HBb : Aside0 (∀ c ∈ (b.drop 1).take K, 0 ≤ c ∧ c < 256) := ⟨fun c hc => HB.out c (List.mem_of_mem_drop (List.mem_of_mem_take hc))⟩
        generalize (b.drop 1).take K = cs at *
        rw [hln] at hcut2
        have HLn := Aside0.mk hln
        clear hA2 hl2 hi0 hsz hln hC2
        go_wp2
        have hsg : IntKind.u64.signed = false := rfl
        clear p1 hx hcut2 hr0
        go_loopw [7, 48] (fun s7 s48 wr => ∃ (j : Nat) (m : Int), s7 = .int .u64 m ∧ s48 = .int .i64 (j : Int) ∧ Aside0 (j ≤ K ∧ 0 ≤ m ∧ m < ((256 ^ j : Nat) : Int) ∧ foldB neg m (cs.drop j) = foldB neg 0 cs) ∧ w = wr) (fun _ s48 _ => K - (intOf s48).toNat)
        case atStart => exact ⟨0, 0, rfl, rfl, ⟨Nat.zero_le _, by omega, by simp, by rw [List.drop_zero]⟩, rfl⟩
        case round =>
          obtain ⟨j, m, rfl, rfl, hJ, rfl⟩ := hrel
          obtain ⟨hj, hm0, hm1, hfo⟩ := hJ.out
          by_cases hjk : j < K
          · have hjl : j < cs.length := by have := HLn.out; omega
            obtain ⟨ad2, rfl, q1⟩ := Kd.at_int HC2.out (j : Int) (by omega) (by have := HLn.out; omega)
            rw [Int.toNat_natCast] at q1
            have hcr := HBb.out _ (rd_mem' hjl)
            rw [foldB_drop neg m hjl] at hfo
            have hfr := flp_range neg hcr
            have e1 := HX.out _ hcr.1 hcr.2
            have hm2 : m < 72057594037927936 := by
              have h7 : (256 ^ j : Nat) ≤ 256 ^ 7 := Nat.pow_le_pow_right (by omega) (by omega)
              have h8 : (256 ^ 7 : Nat) = 72057594037927936 := by decide
              omega
            have hm3 : m * 256 + flp neg (rd cs (j : Int)) < ((256 ^ (j + 1) : Nat) : Int) := by
              rw [pow_succ']; omega
            generalize flp neg (rd cs (j : Int)) = d at *
            generalize rd cs (j : Int) = cj at *
            have e2 : IntKind.u64.wrap (m * 256) = m * 256 := by rw [IntKind.wrap_u64]; omega
            have e3 : IntKind.u64.wrap d = d := by rw [IntKind.wrap_u64]; omega
            have e4 : bits .or .u64 (IntKind.u64.wrap (m * 256)) d = m * 256 + d := by rw [e2]; exact or_add m d hm0 hm2 hfr.1 hfr.2
            clear e2
            have hm4 : 0 ≤ m * 256 + d := by omega
            generalize m * 256 + d = m' at *
            have HF2 := Aside0.mk hfo
            have HM3 := Aside0.mk hm3
            have HM4 := Aside0.mk hm4
            have hkk : (j : Int) < (K : Int) := by omega
            clear hJ hfo hm3 hm4 hm1 hm2 hcr hfr hm0
            go_wp2
            go_roundw
            case rel => exact ⟨j + 1, m', rfl, by go_num, ⟨by omega, HM4.out, HM3.out, HF2.out⟩, trivial⟩
            case measure => simp [intOf]; omega
          · obtain rfl : j = K := by omega
            have hdr : cs.drop j = [] := List.drop_of_length_le (by have := HLn.out; omega)
            rw [hdr, foldB] at hfo
            have hg := HG2.out
            rw [← hfo] at hg
            have HG3 := Aside0.mk hg
            clear hJ hfo hdr hg hm1
            by_cases hbig : 9223372036854775808 ≤ m
            · have HQ2 : Aside0 (getI b = (0, 0, 2)) := ⟨by rw [HG3.out, if_pos hbig]⟩
              have u1 : decide (0 < m / 9223372036854775808) = true := decide_eq_true (by omega)
              clear HG3
              go_wp2
              go_ret3
              exact ⟨by rw [HQ2.out]; rfl, rfl⟩
            · have u1 : decide (0 < m / 9223372036854775808) = false := decide_eq_false (by omega)
              have u5 : IntKind.i64.wrap ((j : Int) + 1) = (j : Int) + 1 := wrap_in (by omega) (by omega)
              cases neg with
              | true =>
                have HQ2 : Aside0 (getI b = (-m - 1, (j : Int) + 1, 0)) := ⟨by rw [HG3.out, if_neg hbig]; rfl⟩
                have hfl : fl = 255 := by rw [← HFe.out]; rfl
                subst hfl
                have u2 : bits .xor .u64 IntKind.u64.max m = 18446744073709551615 - m := not_u64 m hm0 (by omega)
                have u3 : IntKind.i64.wrap (18446744073709551615 - m) = -m - 1 := by rw [IntKind.wrap_i64]; omega
                generalize 18446744073709551615 - m = mx at *
                clear HG3 hbig
                go_wp2
                go_ret3
                exact ⟨by rw [HQ2.out]; rfl, rfl⟩
              | false =>
                have HQ2 : Aside0 (getI b = (m, (j : Int) + 1, 0)) := ⟨by rw [HG3.out, if_neg hbig]; rfl⟩
                have hfl : fl = 0 := by rw [← HFe.out]; rfl
                subst hfl
                have u3 : IntKind.i64.wrap m = m := wrap_in (by omega) (by omega)
                clear HG3 hbig
                go_wp2
                go_ret3
                exact ⟨by rw [HQ2.out]; rfl, rfl⟩
end Go.Proofs.Ytcdjeimjbbknjaa.PAll
namespace Go.Proofs.Ytcdjeimjbbknjaa.PAll
open Go.RowKit Go.Proofs.YtcdjeimjbbknjaaW.PrintWords Go.Proofs.YtcdjeimjbbknjaaW.PrintLast Go.Proofs.YtcdjeimjbbknjaaW.PrintMore
set_option linter.unusedVariables false
set_option linter.unusedSimpArgs false

theorem getI_i64 {b : List Int} (hbt : byt b) : i64 (getI b).1 ∧ 0 ≤ (getI b).2.1 ∧ (getI b).2.1 ≤ 9 ∧ 0 ≤ (getI b).2.2 ∧ (getI b).2.2 ≤ 3 := by
 have hk0 := headK hbt
 unfold getI i64
 by_cases h0 : b.length = 0
 ·
  rw [if_pos h0]; dsimp only; omega
 have hk0 := hk0 h0
 rw [if_neg h0]
 dsimp only
 have hf : ∀ (cs : List Int), byt cs → ∀ m, 0 ≤ m → 0 ≤ foldB (decide (rd b 0 < 128)) m cs := by
  intro cs
  induction cs with
  | nil => intro _ m hm; exact hm
  | cons c cs ih => intro hc m hm; rw [foldB]; refine ih (fun x hx => hc x (List.mem_cons_of_mem _ hx)) _ ?_; have := flp_range (decide (rd b 0 < 128)) (hc c List.mem_cons_self); omega
 have hf0 := hf ((b.drop 1).take (flp (decide (rd b 0 < 128)) (rd b 0) - 128).toNat) (fun x hx => hbt x (List.mem_of_mem_drop (List.mem_of_mem_take hx))) 0 (Int.le_refl _)
 generalize foldB (decide (rd b 0 < 128)) 0 ((b.drop 1).take (flp (decide (rd b 0 < 128)) (rd b 0) - 128).toNat) = m at *
 generalize flp (decide (rd b 0 < 128)) (rd b 0) - 128 = k at *
 split
 ·
  dsimp only; omega
 ·
  split
  ·
   dsimp only; omega
  ·
   split
   ·
    dsimp only; omega
   ·
    split
    ·
     dsimp only; omega
    ·
     dsimp only
     split <;> omega
set_option maxHeartbeats 4000000 in
set_option maxRecDepth 100000 in
theorem count_any (A0 : Option Addr) (c0 : Nat) (b : List Int) (w : World) (hr : Kd.C (Kd.int .u8) w A0 b.length b) (hc : b.length ≤ c0) (hb : byt b) :
    Calls Try.prog 111 #[.slice A0 b.length c0, .int .i64 1] w (GiPost w (cntI b)) := by
 have hmx := Kd.C_max hr
 have HG := Aside0.mk (getInt_any A0 c0 b w hr hc hb)
 obtain ⟨h1, h2, h3, h4, h5⟩ := getI_i64 hb
 have HC : Aside0 (cntI b = if (getI b).2.2 ≠ 0 then getI b else if (getI b).1 < 0 then ((getI b).1, (getI b).2.1, 2) else if (b.length : Int) - (getI b).2.1 < (getI b).1 then ((getI b).1, (getI b).2.1, 3) else getI b) := ⟨rfl⟩
 generalize getI b = q at *
 obtain ⟨n, at_, e⟩ := q
 dsimp only at h1 h2 h3 h4 h5
 unfold i64 at h1
 clear hr hb
 by_cases he : e = 0
 ·
  subst he
  have w1 : IntKind.i64.wrap ((b.length : Int) - at_) = (b.length : Int) - at_ := wrap_in (by omega) (by omega)
  have w2 : IntKind.i64.wrap (((b.length : Int) - at_).tdiv 1) = (b.length : Int) - at_ := by rw [Int.tdiv_one]; exact w1
  by_cases hn : n < 0
  ·
   have HQ : Aside0 (cntI b = (n, at_, 2)) := ⟨by rw [HC.out, if_neg (by simp), if_pos hn]⟩
   go_enter Try.func111, Try.ntmps111
   go_wp2_with (go_at_call 126; refine HG.out.mono ?_; rintro e w' ⟨rfl, rfl⟩)
   go_ret3
   exact ⟨by rw [HQ.out]; rfl, rfl⟩
  ·
   by_cases hm : (b.length : Int) - at_ < n
   ·
    have HQ : Aside0 (cntI b = (n, at_, 3)) := ⟨by rw [HC.out, if_neg (by simp), if_neg hn, if_pos hm]⟩
    go_enter Try.func111, Try.ntmps111
    go_wp2_with (go_at_call 126; refine HG.out.mono ?_; rintro e w' ⟨rfl, rfl⟩)
    go_ret3
    exact ⟨by rw [HQ.out]; rfl, rfl⟩
   ·
    have HQ : Aside0 (cntI b = (n, at_, 0)) := ⟨by rw [HC.out, if_neg (by simp), if_neg hn, if_neg hm]⟩
    go_enter Try.func111, Try.ntmps111
    go_wp2_with (go_at_call 126; refine HG.out.mono ?_; rintro e w' ⟨rfl, rfl⟩)
    go_ret3
    exact ⟨by rw [HQ.out]; rfl, rfl⟩
 ·
  have HQ : Aside0 (cntI b = (n, at_, e)) := ⟨by rw [HC.out, if_pos he]⟩
  have he1 : (e == 0) = false := beq_eq_false_iff_ne.2 he
  have he2 : (e != 0) = true := bne_iff_ne.2 he
  clear he
  go_enter Try.func111, Try.ntmps111
  go_wp2_with (go_at_call 126; refine HG.out.mono ?_; rintro e w' ⟨rfl, rfl⟩)
  go_ret3
  exact ⟨by rw [HQ.out]; rfl, rfl⟩
end Go.Proofs.Ytcdjeimjbbknjaa.PAll
namespace Go.Proofs.Ytcdjeimjbbknjaa.PAll
open Go.RowKit Go.Proofs.YtcdjeimjbbknjaaW.PrintWords Go.Proofs.YtcdjeimjbbknjaaW.PrintLast Go.Proofs.YtcdjeimjbbknjaaW.PrintMore
attribute [local go_sem] max2_int min2_int max_two min_two max_three min_three max_four min_four   -- for this text's walks alone
set_option linter.unusedVariables false
set_option linter.unusedSimpArgs false

def slices_Equal_int_int.l0 : Nat → List Int → List Int → Int → Int → Option (Bool)
  | 0, _, _, _, _ => none
  | k + 1, x0, x1, x12, x13 => if x13 < x12 then (if 0 ≤ x13 then (if x13 < (x0.length : Int) then (if x13 < (x1.length : Int) then (if (rd x0 x13) = (rd x1 x13) then (slices_Equal_int_int.l0 k x0 x1 x12 (wrap64 (x13 + 1))) else (some false)) else (none)) else (none)) else (none)) else (some true)
def slices_Equal_int_int.f (k : Nat) (l0 : List Int) (l1 : List Int) : Option (Bool) := if (l0.length : Int) = (l1.length : Int) then (slices_Equal_int_int.l0 k l0 l1 (l0.length : Int) 0) else (some false)
set_option maxHeartbeats 8000000 in
set_option maxRecDepth 100000 in
theorem slices_Equal_int_int.calls (k : Nat) (A0 : Option Addr) (c0 : Nat) (l0 : List Int) (A1 : Option Addr) (c1 : Nat) (l1 : List Int) (r : Bool) (w : World) (hr0 : Kd.C (Kd.int .i64) w A0 l0.length l0) (hc0 : l0.length ≤ c0) (hr1 : Kd.C (Kd.int .i64) w A1 l1.length l1) (hc1 : l1.length ≤ c1) (h : slices_Equal_int_int.f k l0 l1 = some r) :
    Calls Try.prog 82 #[.slice A0 l0.length c0, .slice A1 l1.length c1] w fun e w' => e = .returned (.bool r) ∧ Drawn0 w w' := by
 have HR0 := Aside0.mk hr0
 have HC0 := Aside0.mk hc0
 clear hr0 hc0
 have HR1 := Aside0.mk hr1
 have HC1 := Aside0.mk hc1
 clear hr1 hc1
 have H : (if (l0.length : Int) = (l1.length : Int) then (slices_Equal_int_int.l0 k l0 l1 (l0.length : Int) 0) else (some false)) = some r := h
 clear h
 by_cases c3 : (l0.length : Int) = (l1.length : Int)
 ·
  rw [if_pos c3] at H
  have af : ((l0.length : Int) == (l1.length : Int)) = true := beq_iff_eq.mpr c3
  have ae : ((l0.length : Int) != (l1.length : Int)) = false := bne_eq_false_iff_eq.mpr c3
  have ad : (l0.length == l1.length) = true := by first | simpa using c3 | (simp at c3 ⊢; omega)
  clear c3
  have H' := Aside0.mk H
  clear H
  go_enter Try.func82, Try.ntmps82
  go_wp2
  repeat (go_quiet (fail); try go_wp2)
  go_loopg [13] k (fun kq v13 w' => ∃ (aa : Int), v13 = .int .i64 aa ∧ Aside0 (slices_Equal_int_int.l0 kq l0 l1 (l0.length : Int) aa = some r) ∧ Aside0 (kq ≤ k) ∧ Drawn0 w w')
  case atStart => exact ⟨(0), (by first | rfl | (simp; done) | (simp [*]; done)), H', ⟨Nat.le_refl _⟩, by repeat (first | exact Drawn0.refl _ | apply Drawn0.step)⟩
  clear H'
  (try clear c1); (try clear p2); (try clear c3); (try clear af); (try clear ae); (try clear ad)
  obtain ⟨aa, rfl, HA, aj, ⟨m1, rfl⟩⟩ := hrel
  cases gk with
  | zero => exact absurd HA.out (by simp [slices_Equal_int_int.l0])
  | succ k1 => ?_
  have H := HA.out
  clear HA
  simp only [slices_Equal_int_int.l0] at H
  by_cases c4 : aa < (l0.length : Int)
  ·
   rw [if_pos c4] at H
   have ai : decide (aa < (l0.length : Int)) = true := decide_eq_true c4
   clear c4
   have c5 : 0 ≤ aa := Classical.byContradiction fun c_ => by rw [if_neg c_] at H; exact absurd H (by simp)
   rw [if_pos c5] at H
   have am : decide (0 ≤ aa) = true := decide_eq_true c5
   clear c5
   have c6 : aa < (l0.length : Int) := Classical.byContradiction fun c_ => by rw [if_neg c_] at H; exact absurd H (by simp)
   rw [if_pos c6] at H
   have al : decide (aa < (l0.length : Int)) = true := decide_eq_true c6
   clear c6
   have c7 : aa < (l1.length : Int) := Classical.byContradiction fun c_ => by rw [if_neg c_] at H; exact absurd H (by simp)
   rw [if_pos c7] at H
   have ak : decide (aa < (l1.length : Int)) = true := decide_eq_true c7
   clear c7
   by_cases c8 : (rd l0 aa) = (rd l1 aa)
   ·
    rw [if_pos c8] at H
    have ah : ((rd l0 aa) == (rd l1 aa)) = true := beq_iff_eq.mpr c8
    have ag : ((rd l0 aa) != (rd l1 aa)) = false := bne_eq_false_iff_eq.mpr c8
    clear c8
    have H' := Aside0.mk H
    clear H
    have p274 : 0 ≤ (aa : Int) := of_decide_eq_true (by first | (with_reducible assumption) | assumption)
    have q274 : aa < (l0.length : Int) := of_decide_eq_true (by first | (with_reducible assumption) | assumption)
    obtain ⟨ad274, e274, ac⟩ := Kd.at_int HR0.out aa p274 q274
    cases e274
    replace p274 := eq_true p274
    replace q274 := eq_true q274
    have p275 : 0 ≤ (aa : Int) := of_decide_eq_true (by first | (with_reducible assumption) | assumption)
    have q275 : aa < (l1.length : Int) := of_decide_eq_true (by first | (with_reducible assumption) | assumption)
    obtain ⟨ad275, e275, ab⟩ := Kd.at_int HR1.out aa p275 q275
    cases e275
    replace p275 := eq_true p275
    replace q275 := eq_true q275
    go_wp2
    repeat (go_quiet (fail); try go_wp2)
    go_roundg k1
    case measure => have := aj.out; omega
    case rel => exact ⟨(wrap64 (aa + 1)), (by first | rfl | (simp; done) | (simp [*]; done)), H', ⟨by have := aj.out; omega⟩, by repeat (first | exact Drawn0.refl _ | apply Drawn0.step)⟩
   rw [if_neg c8] at H
   have ah : ((rd l0 aa) == (rd l1 aa)) = false := beq_eq_false_iff_ne.mpr c8
   have ag : ((rd l0 aa) != (rd l1 aa)) = true := bne_iff_ne.mpr c8
   obtain rfl := Option.some.inj H
   have p274 : 0 ≤ (aa : Int) := of_decide_eq_true (by first | (with_reducible assumption) | assumption)
   have q274 : aa < (l0.length : Int) := of_decide_eq_true (by first | (with_reducible assumption) | assumption)
   obtain ⟨ad274, e274, ac⟩ := Kd.at_int HR0.out aa p274 q274
   cases e274
   replace p274 := eq_true p274
   replace q274 := eq_true q274
   have p275 : 0 ≤ (aa : Int) := of_decide_eq_true (by first | (with_reducible assumption) | assumption)
   have q275 : aa < (l1.length : Int) := of_decide_eq_true (by first | (with_reducible assumption) | assumption)
   obtain ⟨ad275, e275, ab⟩ := Kd.at_int HR1.out aa p275 q275
   cases e275
   replace p275 := eq_true p275
   replace q275 := eq_true q275
   go_wp2
   repeat (go_quiet (fail); try go_wp2)
   go_ret
   exact ⟨by first | rfl | (simp; done) | (simp [*]; done), by repeat (first | exact Drawn0.refl _ | apply Drawn0.step)⟩
  rw [if_neg c4] at H
  have ai : decide (aa < (l0.length : Int)) = false := decide_eq_false c4
  clear c4
  obtain rfl := Option.some.inj H
  go_wp2
  repeat (go_quiet (fail); try go_wp2)
  go_ret
  exact ⟨by first | rfl | (simp; done) | (simp [*]; done), by repeat (first | exact Drawn0.refl _ | apply Drawn0.step)⟩
 rw [if_neg c3] at H
 have af : ((l0.length : Int) == (l1.length : Int)) = false := beq_eq_false_iff_ne.mpr c3
 have ae : ((l0.length : Int) != (l1.length : Int)) = true := bne_iff_ne.mpr c3
 have ad : (l0.length == l1.length) = false := by first | simpa using c3 | (simp at c3 ⊢; omega)
 obtain rfl := Option.some.inj H
 go_enter Try.func82, Try.ntmps82
 go_wp2
 repeat (go_quiet (fail); try go_wp2)
 go_ret
 exact ⟨by first | rfl | (simp; done) | (simp [*]; done), by repeat (first | exact Drawn0.refl _ | apply Drawn0.step)⟩
mutual
def wordbookref01_Int.j0 : Nat → Int → Int → Option (List Int)
  | 0, _, _ => none
  | k + 1, x0, x3 => wordbookref01_Int.l0 k x0 x3 ([] : List Int)
def wordbookref01_Int.l0 : Nat → Int → Int → List Int → Option (List Int)
  | 0, _, _, _ => none
  | k + 1, x0, x3, x4 => if x3 > 0 then (if x4.length < 140737488355328 then (wordbookref01_Int.l0 k x0 (wrap64 (Int.tdiv x3 256)) (x4 ++ [(Int.tmod x3 256) % 256])) else (none)) else (if x0 ≥ 0 then (if ([] : List Int).length < 140737488355328 then (wordbookref01_Int.j2 k x0 x4 (x4.length : Int) (([] : List Int) ++ [(wrap64 (128 + (x4.length : Int))) % 256])) else (none)) else (if ([] : List Int).length < 140737488355328 then (wordbookref01_Int.j2 k x0 x4 (x4.length : Int) (([] : List Int) ++ [(wrap64 (127 - (x4.length : Int))) % 256])) else (none)))
def wordbookref01_Int.j2 : Nat → Int → List Int → Int → List Int → Option (List Int)
  | 0, _, _, _, _ => none
  | k + 1, x0, x4, x5, x6 => wordbookref01_Int.l1 k x0 x4 x6 (wrap64 (x5 - 1))
def wordbookref01_Int.l1 : Nat → Int → List Int → List Int → Int → Option (List Int)
  | 0, _, _, _, _ => none
  | k + 1, x0, x4, x6, x7 => if x7 ≥ 0 then (if 0 ≤ x7 then (if x7 < (x4.length : Int) then (if x0 < 0 then (if x6.length < 140737488355328 then (wordbookref01_Int.l1 k x0 x4 (x6 ++ [(255 - (rd x4 x7)) % 256]) (wrap64 (x7 - 1))) else (none)) else (if x6.length < 140737488355328 then (wordbookref01_Int.l1 k x0 x4 (x6 ++ [rd x4 x7]) (wrap64 (x7 - 1))) else (none))) else (none)) else (none)) else (some x6)
end
def wordbookref01_Int.f (k : Nat) (a0 : Int) : Option (List Int) := if a0 < 0 then (wordbookref01_Int.j0 k a0 (wrap64 ((-1) - a0))) else (wordbookref01_Int.j0 k a0 a0)
set_option maxHeartbeats 8000000 in
set_option maxRecDepth 100000 in
theorem wordbookref01_Int.calls (k : Nat) (a0 : Int) (r : List Int) (w : World) (h : wordbookref01_Int.f k a0 = some r) :
    Calls Try.prog 83 #[.int .i64 a0] w fun e w' => ∃ v0_ : Value, e = .returned (v0_) ∧ Kd.R (Kd.int .u8) 5 w' w.heap.size (fun _ => True) v0_ r ∧ Below w.heap.size w w' := by
 have HB := Aside0.mk (Below.refl w.heap.size w)
 have H : (if a0 < 0 then (wordbookref01_Int.j0 k a0 (wrap64 ((-1) - a0))) else (wordbookref01_Int.j0 k a0 a0)) = some r := h
 clear h
 have HC2 := Aside0.mk H
 clear H
 go_enter Try.func83, Try.ntmps83
 go_upto_if 11 with (fail)
 go_cut [3] (fun v3 wc => ∃ (kq : Nat) (an : Int), v3 = .int .i64 an ∧ Aside0 (wordbookref01_Int.j0 kq a0 an = some r) ∧ Aside0 (kq ≤ k) ∧ Aside0 (Below w.heap.size w wc))
 case first =>
  have H := HC2.out
  clear HC2
  by_cases c3 : a0 < 0
  ·
   rw [if_pos c3] at H
   have af : decide (a0 < 0) = true := decide_eq_true c3
   clear c3
   (first | rw [af] | (simp only [i64_w, i32_w]; rw [af]) | skip)
   have H' := Aside0.mk H
   clear H
   go_wp2
   go_meet
   case rel => exact ⟨_, (wrap64 ((-1) - a0)), (by first | rfl | (simp; done) | (simp [*]; done)), H', ⟨by first | omega | exact Nat.le_refl _⟩, ⟨by repeat (first | (with_reducible first | exact HB.out | apply below_alloc | apply pw_below_drewN | apply below_drew1) | exact HB.out)⟩⟩
  rw [if_neg c3] at H
  have af : decide (a0 < 0) = false := decide_eq_false c3
  clear c3
  (first | rw [af] | (simp only [i64_w, i32_w]; rw [af]) | skip)
  have H' := Aside0.mk H
  clear H
  go_wp2
  go_meet
  case rel => exact ⟨_, (a0), (by first | rfl | (simp; done) | (simp [*]; done)), H', ⟨by first | omega | exact Nat.le_refl _⟩, ⟨by repeat (first | (with_reducible first | exact HB.out | apply below_alloc | apply pw_below_drewN | apply below_drew1) | exact HB.out)⟩⟩
 clear HC2
 (try clear p2); (try clear c3); (try clear af)
 obtain ⟨kq, an, rfl, HA, aq, HB⟩ := hcut
 cases kq with
 | zero => exact absurd HA.out (by simp [wordbookref01_Int.j0])
 | succ aH => ?_
 have H := HA.out
 clear HA
 simp only [wordbookref01_Int.j0] at H
 have H' := Aside0.mk H
 clear H
 go_wp2
 go_loopg [3, 4] aH (fun kq v3 v4 w' => ∃ (ad : Int) (aa : List Int), v3 = .int .i64 ad ∧ Aside0 (wordbookref01_Int.l0 kq a0 ad aa = some r) ∧ Aside0 (kq ≤ aH) ∧ Aside0 (Kd.R (Kd.int .u8) 5 w' w.heap.size (fun _ => True) v4 aa) ∧ Aside0 (Below w.heap.size w w'))
 case atStart => exact ⟨(an), (([] : List Int)), (by first | rfl | (simp; done) | (simp [*]; done)), H', ⟨Nat.le_refl _⟩, ⟨by first | exact Kd.R_nil _ _ _ _ _ | exact Kd.N_nil _ _ _ _ _ | exact Kd.V_nil _ _ _ _ _ | exact Kd.Q_nil _ _ _ _ _ | exact Kd.S_nil _ _ _ _ _⟩, ⟨by repeat (first | (with_reducible first | exact HB.out | apply below_alloc | apply pw_below_drewN | apply below_drew1) | exact HB.out)⟩⟩
 clear H'
 (try clear p2); (try clear c3); (try clear af); (try clear p2)
 obtain ⟨ad, aa, rfl, HA, ap, ab, HB⟩ := hrel
 cases gk with
 | zero => exact absurd HA.out (by simp [wordbookref01_Int.l0])
 | succ k2 => ?_
 have H := HA.out
 clear HA
 simp only [wordbookref01_Int.l0] at H
 by_cases c4 : ad > 0
 ·
  rw [if_pos c4] at H
  have au : decide (0 < ad) = true := decide_eq_true c4
  clear c4
  have c5 : aa.length < 140737488355328 := Classical.byContradiction fun c_ => by rw [if_neg c_] at H; exact absurd H (by simp)
  rw [if_pos c5] at H
  have LMc5 := Aside0.mk c5
  clear c5
  obtain ⟨az, hy276⟩ : ∃ y_ : List Int, y_ = (aa ++ [(Int.tmod ad 256) % 256]) := ⟨_, rfl⟩
  replace H : (wordbookref01_Int.l0 k2 a0 (wrap64 (Int.tdiv ad 256)) az) = some r := by first | (rw [hy276]; with_reducible exact H) | (have H2_ := (Option.bind_some _ _).symm.trans H; rw [hy276]; with_reducible exact H2_) | (have H2_ := (Option.bind_some _ _).symm.trans H; with_reducible exact H2_) | with_reducible exact H | (rw [hy276]; exact H) | exact H
  have Ny276 := Aside0.mk hy276
  clear hy276
  have H' := Aside0.mk H
  clear H
  go_wp2_with (first | ((with_reducible refine gate_builtin (b := .append) (xs := #[.tmp 16, .tmp 20]) rfl ?_); at_builtin; refine Kd.R_append (Kd.int .u8) (w0 := w) w.heap.size rfl (.tmp 16) (.tmp 20) 55 5 (.int .u8 0) 1 rfl Try.underlying55 info5 rfl (by decide) (by omega) u4 aa ((Int.tmod ad 256) % 256) [.int .u8 ((Int.tmod ad 256) % 256)] (fun _ => True) (fun _ => False) rfl rfl ?aP (fun _ hk => hk.elim) ?aF ?aO ?aB ?aS ?aL ?_; (case aP => exact rfl); (case aB => exact (by repeat (first | (with_reducible first | exact HB.out | apply below_alloc | apply pw_below_drewN | apply below_drew1) | exact HB.out))); (case aF => exact (fun _ _ => trivial)); (case aO => exact (by (with_reducible repeat (first | apply Kd.R_alloc | apply Kd.R_drewN | apply Kd.R_drew)); exact ab.out)); (case aS => exact (below_size (by repeat (first | (with_reducible first | exact HB.out | apply below_alloc | apply pw_below_drewN | apply below_drew1) | exact HB.out)))); (case aL => have := LMc5.out; omega); intro v277 w6 ho hb hg hat; rw [← Ny276.out] at ho; have aj := Aside0.mk (hb); have ai := Aside0.mk (ho); clear HB; clear ab; have HB := aj; have HO278 := ai; clear aj ai; clear ho hb hg hat))
  go_roundg k2
  case measure => have := aq.out; have := ap.out; omega
  case rel => exact ⟨(wrap64 (Int.tdiv ad 256)), (az), (by first | rfl | (simp; done) | (simp [*]; done)), H', ⟨by have := aq.out; have := ap.out; omega⟩, ⟨by (with_reducible repeat (first | apply Kd.R_alloc | apply Kd.R_drewN | apply Kd.R_drew)); exact HO278.out⟩, ⟨by repeat (first | (with_reducible first | exact HB.out | apply below_alloc | apply pw_below_drewN | apply below_drew1) | exact HB.out)⟩⟩
 rw [if_neg c4] at H
 have au : decide (0 < ad) = false := decide_eq_false c4
 clear c4
 have HC7 := Aside0.mk H
 clear H
 obtain ⟨ar, al, eo8⟩ := Kd.R_slice ab.out
 subst eo8
 go_upto_if 27 with (fail)
 go_cut [6] (fun v6 wc => ∃ (kq : Nat) (am : List Int), Aside0 (wordbookref01_Int.j2 kq a0 aa (aa.length : Int) am = some r) ∧ Aside0 (kq ≤ k2) ∧ Aside0 (Kd.R (Kd.int .u8) 5 wc w.heap.size (fun k_ => some k_ ≠ (v6 : Value).ownBlock) (.slice ar aa.length al) aa) ∧ Aside0 (Kd.R (Kd.int .u8) 5 wc w.heap.size (fun k_ => some k_ ≠ ((.slice ar aa.length al) : Value).ownBlock) v6 am) ∧ Aside0 (Below w.heap.size w wc))
 case first =>
  have H := HC7.out
  clear HC7
  by_cases c9 : a0 ≥ 0
  ·
   rw [if_pos c9] at H
   have ag : decide (0 ≤ a0) = true := decide_eq_true c9
   clear c9
   (first | rw [ag] | (simp only [i64_w, i32_w]; rw [ag]) | skip)
   have c10 : ([] : List Int).length < 140737488355328 := Classical.byContradiction fun c_ => by rw [if_neg c_] at H; exact absurd H (by simp)
   rw [if_pos c10] at H
   have LMc10 := Aside0.mk c10
   clear c10
   obtain ⟨ay, hy279⟩ : ∃ y_ : List Int, y_ = (([] : List Int) ++ [(wrap64 (128 + (aa.length : Int))) % 256]) := ⟨_, rfl⟩
   replace H : (wordbookref01_Int.j2 k2 a0 aa (aa.length : Int) ay) = some r := by first | (rw [hy279]; with_reducible exact H) | (have H2_ := (Option.bind_some _ _).symm.trans H; rw [hy279]; with_reducible exact H2_) | (have H2_ := (Option.bind_some _ _).symm.trans H; with_reducible exact H2_) | with_reducible exact H | (rw [hy279]; exact H) | exact H
   have Ny279 := Aside0.mk hy279
   clear hy279
   have H' := Aside0.mk H
   clear H
   go_wp2_with (first | ((with_reducible refine gate_builtin (b := .append) (xs := #[.tmp 28, .tmp 32]) rfl ?_); at_builtin; refine Kd.R_append (Kd.int .u8) (w0 := w) w.heap.size rfl (.tmp 28) (.tmp 32) 55 5 (.int .u8 0) 1 rfl Try.underlying55 info5 rfl (by decide) (by omega) (.slice none 0 0) ([] : List Int) ((wrap64 (128 + (aa.length : Int))) % 256) [.int .u8 ((wrap64 (128 + (aa.length : Int))) % 256)] (fun k_ => some k_ ≠ (.slice ar aa.length al : Value).ownBlock) (fun _ => False) rfl rfl ?aP (fun _ hk => hk.elim) ?aF ?aO ?aB ?aS ?aL ?_; (case aP => exact rfl); (case aB => exact (by repeat (first | (with_reducible first | exact HB.out | apply below_alloc | apply pw_below_drewN | apply below_drew1) | exact HB.out))); (case aF => exact (fun k_ hk => Kd.fresh' (Kd.R_lt (by (with_reducible repeat (first | apply Kd.R_alloc | apply Kd.R_drewN | apply Kd.R_drew)); exact ab.out)) k_ hk)); (case aO => exact ((Kd.R_nil _ _ _ _ (fun k_ => some k_ ≠ (.slice ar aa.length al : Value).ownBlock)))); (case aS => exact (below_size (by repeat (first | (with_reducible first | exact HB.out | apply below_alloc | apply pw_below_drewN | apply below_drew1) | exact HB.out)))); (case aL => have := LMc10.out; omega); intro v280 w11 ho hb hg hat; rw [← Ny279.out] at ho; have aj := Aside0.mk (Kd.R_after (Kd.R_apart_nil (by (with_reducible repeat (first | apply Kd.R_alloc | apply Kd.R_drewN | apply Kd.R_drew)); exact ab.out)) hg hat); have ai := Aside0.mk (hb); have ak := Aside0.mk (ho); clear ab; clear HB; have ab := aj; have HB := ai; have HO281 := ak; clear aj ai ak; clear ho hb hg hat))
   go_meet
   case rel => exact ⟨_, (ay), H', ⟨by have := aq.out; have := ap.out; first | omega | exact Nat.le_refl _⟩, ⟨by (with_reducible repeat (first | apply Kd.R_alloc | apply Kd.R_drewN | apply Kd.R_drew)); exact Kd.R_mono ab.out (fun _ hk => hk.2)⟩, ⟨by (with_reducible repeat (first | apply Kd.R_alloc | apply Kd.R_drewN | apply Kd.R_drew)); exact HO281.out⟩, ⟨by repeat (first | (with_reducible first | exact HB.out | apply below_alloc | apply pw_below_drewN | apply below_drew1) | exact HB.out)⟩⟩
  rw [if_neg c9] at H
  have ag : decide (0 ≤ a0) = false := decide_eq_false c9
  clear c9
  (first | rw [ag] | (simp only [i64_w, i32_w]; rw [ag]) | skip)
  have c12 : ([] : List Int).length < 140737488355328 := Classical.byContradiction fun c_ => by rw [if_neg c_] at H; exact absurd H (by simp)
  rw [if_pos c12] at H
  have LMc12 := Aside0.mk c12
  clear c12
  obtain ⟨ax, hy282⟩ : ∃ y_ : List Int, y_ = (([] : List Int) ++ [(wrap64 (127 - (aa.length : Int))) % 256]) := ⟨_, rfl⟩
  replace H : (wordbookref01_Int.j2 k2 a0 aa (aa.length : Int) ax) = some r := by first | (rw [hy282]; with_reducible exact H) | (have H2_ := (Option.bind_some _ _).symm.trans H; rw [hy282]; with_reducible exact H2_) | (have H2_ := (Option.bind_some _ _).symm.trans H; with_reducible exact H2_) | with_reducible exact H | (rw [hy282]; exact H) | exact H
  have Ny282 := Aside0.mk hy282
  clear hy282
  have H' := Aside0.mk H
  clear H
  go_wp2_with (first | ((with_reducible refine gate_builtin (b := .append) (xs := #[.tmp 34, .tmp 38]) rfl ?_); at_builtin; refine Kd.R_append (Kd.int .u8) (w0 := w) w.heap.size rfl (.tmp 34) (.tmp 38) 55 5 (.int .u8 0) 1 rfl Try.underlying55 info5 rfl (by decide) (by omega) (.slice none 0 0) ([] : List Int) ((wrap64 (127 - (aa.length : Int))) % 256) [.int .u8 ((wrap64 (127 - (aa.length : Int))) % 256)] (fun k_ => some k_ ≠ (.slice ar aa.length al : Value).ownBlock) (fun _ => False) rfl rfl ?aP (fun _ hk => hk.elim) ?aF ?aO ?aB ?aS ?aL ?_; (case aP => exact rfl); (case aB => exact (by repeat (first | (with_reducible first | exact HB.out | apply below_alloc | apply pw_below_drewN | apply below_drew1) | exact HB.out))); (case aF => exact (fun k_ hk => Kd.fresh' (Kd.R_lt (by (with_reducible repeat (first | apply Kd.R_alloc | apply Kd.R_drewN | apply Kd.R_drew)); exact ab.out)) k_ hk)); (case aO => exact ((Kd.R_nil _ _ _ _ (fun k_ => some k_ ≠ (.slice ar aa.length al : Value).ownBlock)))); (case aS => exact (below_size (by repeat (first | (with_reducible first | exact HB.out | apply below_alloc | apply pw_below_drewN | apply below_drew1) | exact HB.out)))); (case aL => have := LMc12.out; omega); intro v283 w13 ho hb hg hat; rw [← Ny282.out] at ho; have aj := Aside0.mk (Kd.R_after (Kd.R_apart_nil (by (with_reducible repeat (first | apply Kd.R_alloc | apply Kd.R_drewN | apply Kd.R_drew)); exact ab.out)) hg hat); have ai := Aside0.mk (hb); have ak := Aside0.mk (ho); clear ab; clear HB; have ab := aj; have HB := ai; have HO284 := ak; clear aj ai ak; clear ho hb hg hat))
  go_meet
  case rel => exact ⟨_, (ax), H', ⟨by have := aq.out; have := ap.out; first | omega | exact Nat.le_refl _⟩, ⟨by (with_reducible repeat (first | apply Kd.R_alloc | apply Kd.R_drewN | apply Kd.R_drew)); exact Kd.R_mono ab.out (fun _ hk => hk.2)⟩, ⟨by (with_reducible repeat (first | apply Kd.R_alloc | apply Kd.R_drewN | apply Kd.R_drew)); exact HO284.out⟩, ⟨by repeat (first | (with_reducible first | exact HB.out | apply below_alloc | apply pw_below_drewN | apply below_drew1) | exact HB.out)⟩⟩
 clear HC7
 (try clear c1); (try clear p2); (try clear c3); (try clear af); (try clear c4); (try clear au); (try clear c5); (try clear p6); (try clear c8); (try clear c9); (try clear ag); (try clear c10); (try clear c12); (try clear p2)
 obtain ⟨kq, am, HA, aE, ab, ah, HB⟩ := hcut
 cases kq with
 | zero => exact absurd HA.out (by simp [wordbookref01_Int.j2])
 | succ aG => ?_
 have H := HA.out
 clear HA
 simp only [wordbookref01_Int.j2] at H
 have H' := Aside0.mk H
 clear H
 go_wp2
 go_loopg [6, 7] aG (fun kq v6 v7 w' => ∃ (ae : List Int) (ac : Int), v7 = .int .i64 ac ∧ Aside0 (wordbookref01_Int.l1 kq a0 aa ae ac = some r) ∧ Aside0 (kq ≤ aG) ∧ Aside0 (Kd.R (Kd.int .u8) 5 w' w.heap.size (fun k_ => some k_ ≠ (v6 : Value).ownBlock) (.slice ar aa.length al) aa) ∧ Aside0 (Kd.R (Kd.int .u8) 5 w' w.heap.size (fun k_ => some k_ ≠ ((.slice ar aa.length al) : Value).ownBlock) v6 ae) ∧ Aside0 (Below w.heap.size w w'))
 case atStart => exact ⟨(am), (wrap64 ((aa.length : Int) - 1)), (by first | rfl | (simp; done) | (simp [*]; done)), H', ⟨Nat.le_refl _⟩, ⟨by (with_reducible repeat (first | apply Kd.R_alloc | apply Kd.R_drewN | apply Kd.R_drew)); exact ab.out⟩, ⟨by (with_reducible repeat (first | apply Kd.R_alloc | apply Kd.R_drewN | apply Kd.R_drew)); exact ah.out⟩, ⟨by repeat (first | (with_reducible first | exact HB.out | apply below_alloc | apply pw_below_drewN | apply below_drew1) | exact HB.out)⟩⟩
 clear H'
 (try clear c1); (try clear p2); (try clear c3); (try clear af); (try clear c4); (try clear au); (try clear c5); (try clear p6); (try clear c8); (try clear c9); (try clear ag); (try clear c10); (try clear c12); (try clear p2); (try clear p6)
 obtain ⟨ae, ac, rfl, HA, aD, ab, ah, HB⟩ := hrel
 cases gk with
 | zero => exact absurd HA.out (by simp [wordbookref01_Int.l1])
 | succ k4 => ?_
 have H := HA.out
 clear HA
 simp only [wordbookref01_Int.l1] at H
 by_cases c14 : ac ≥ 0
 ·
  rw [if_pos c14] at H
  have aC : decide (0 ≤ ac) = true := decide_eq_true c14
  clear c14
  have c15 : 0 ≤ ac := Classical.byContradiction fun c_ => by rw [if_neg c_] at H; exact absurd H (by simp)
  rw [if_pos c15] at H
  have aJ : decide (0 ≤ ac) = true := decide_eq_true c15
  clear c15
  have c16 : ac < (aa.length : Int) := Classical.byContradiction fun c_ => by rw [if_neg c_] at H; exact absurd H (by simp)
  rw [if_pos c16] at H
  have aI : decide (ac < (aa.length : Int)) = true := decide_eq_true c16
  clear c16
  by_cases c17 : a0 < 0
  ·
   rw [if_pos c17] at H
   have aA : decide (a0 < 0) = true := decide_eq_true c17
   clear c17
   have c18 : ae.length < 140737488355328 := Classical.byContradiction fun c_ => by rw [if_neg c_] at H; exact absurd H (by simp)
   rw [if_pos c18] at H
   have LMc18 := Aside0.mk c18
   clear c18
   obtain ⟨aw, hy286⟩ : ∃ y_ : List Int, y_ = (ae ++ [(255 - (rd aa ac)) % 256]) := ⟨_, rfl⟩
   replace H : (wordbookref01_Int.l1 k4 a0 aa aw (wrap64 (ac - 1))) = some r := by first | (rw [hy286]; with_reducible exact H) | (have H2_ := (Option.bind_some _ _).symm.trans H; rw [hy286]; with_reducible exact H2_) | (have H2_ := (Option.bind_some _ _).symm.trans H; with_reducible exact H2_) | with_reducible exact H | (rw [hy286]; exact H) | exact H
   have Ny286 := Aside0.mk hy286
   clear hy286
   have H' := Aside0.mk H
   clear H
   have p285 : 0 ≤ (ac : Int) := of_decide_eq_true (by first | (with_reducible assumption) | assumption)
   have q285 : ac < (aa.length : Int) := of_decide_eq_true (by first | (with_reducible assumption) | assumption)
   obtain ⟨ad285, e285, ao⟩ := Kd.at_int (Kd.R_reads' ab.out).2.2 ac p285 q285
   cases e285
   replace p285 := eq_true p285
   replace q285 := eq_true q285
   go_wp2_with (first | ((with_reducible refine gate_builtin (b := .append) (xs := #[.tmp 54, .tmp 56]) rfl ?_); at_builtin; refine Kd.R_append (Kd.int .u8) (w0 := w) w.heap.size rfl (.tmp 54) (.tmp 56) 55 5 (.int .u8 0) 1 rfl Try.underlying55 info5 rfl (by decide) (by omega) u6 ae ((255 - (rd aa ac)) % 256) [.int .u8 ((255 - (rd aa ac)) % 256)] (fun k_ => some k_ ≠ (.slice (some ad285) aa.length al : Value).ownBlock) (fun _ => False) rfl rfl ?aP (fun _ hk => hk.elim) ?aF ?aO ?aB ?aS ?aL ?_; (case aP => exact rfl); (case aB => exact (by repeat (first | (with_reducible first | exact HB.out | apply below_alloc | apply pw_below_drewN | apply below_drew1) | exact HB.out))); (case aF => exact (fun k_ hk => Kd.fresh' (Kd.R_lt (by (with_reducible repeat (first | apply Kd.R_alloc | apply Kd.R_drewN | apply Kd.R_drew)); exact ab.out)) k_ hk)); (case aO => exact (by (with_reducible repeat (first | apply Kd.R_alloc | apply Kd.R_drewN | apply Kd.R_drew)); exact ah.out)); (case aS => exact (below_size (by repeat (first | (with_reducible first | exact HB.out | apply below_alloc | apply pw_below_drewN | apply below_drew1) | exact HB.out)))); (case aL => have := LMc18.out; omega); intro v287 w19 ho hb hg hat; rw [← Ny286.out] at ho; have aj := Aside0.mk (Kd.R_after (ok := (fun _ => True)) (by (with_reducible repeat (first | apply Kd.R_alloc | apply Kd.R_drewN | apply Kd.R_drew)); exact Kd.R_mono ab.out (fun _ hk => ⟨trivial, hk⟩)) hg hat); have ai := Aside0.mk (hb); have ak := Aside0.mk (ho); clear ab; clear HB; clear ah; have ab := aj; have HB := ai; have HO288 := ak; clear aj ai ak; clear ho hb hg hat))
   go_roundg k4
   case measure => have := aq.out; have := ap.out; have := aE.out; have := aD.out; omega
   case rel => exact ⟨(aw), (wrap64 (ac - 1)), (by first | rfl | (simp; done) | (simp [*]; done)), H', ⟨by have := aq.out; have := ap.out; have := aE.out; have := aD.out; omega⟩, ⟨by (with_reducible repeat (first | apply Kd.R_alloc | apply Kd.R_drewN | apply Kd.R_drew)); exact Kd.R_mono ab.out (fun _ hk => hk.2)⟩, ⟨by (with_reducible repeat (first | apply Kd.R_alloc | apply Kd.R_drewN | apply Kd.R_drew)); exact HO288.out⟩, ⟨by repeat (first | (with_reducible first | exact HB.out | apply below_alloc | apply pw_below_drewN | apply below_drew1) | exact HB.out)⟩⟩
  rw [if_neg c17] at H
  have aA : decide (a0 < 0) = false := decide_eq_false c17
  clear c17
  have c20 : ae.length < 140737488355328 := Classical.byContradiction fun c_ => by rw [if_neg c_] at H; exact absurd H (by simp)
  rw [if_pos c20] at H
  have LMc20 := Aside0.mk c20
  clear c20
  obtain ⟨av, hy289⟩ : ∃ y_ : List Int, y_ = (ae ++ [rd aa ac]) := ⟨_, rfl⟩
  replace H : (wordbookref01_Int.l1 k4 a0 aa av (wrap64 (ac - 1))) = some r := by first | (rw [hy289]; with_reducible exact H) | (have H2_ := (Option.bind_some _ _).symm.trans H; rw [hy289]; with_reducible exact H2_) | (have H2_ := (Option.bind_some _ _).symm.trans H; with_reducible exact H2_) | with_reducible exact H | (rw [hy289]; exact H) | exact H
  have Ny289 := Aside0.mk hy289
  clear hy289
  have H' := Aside0.mk H
  clear H
  have p285 : 0 ≤ (ac : Int) := of_decide_eq_true (by first | (with_reducible assumption) | assumption)
  have q285 : ac < (aa.length : Int) := of_decide_eq_true (by first | (with_reducible assumption) | assumption)
  obtain ⟨ad285, e285, ao⟩ := Kd.at_int (Kd.R_reads' ab.out).2.2 ac p285 q285
  cases e285
  replace p285 := eq_true p285
  replace q285 := eq_true q285
  go_wp2_with (first | ((with_reducible refine gate_builtin (b := .append) (xs := #[.tmp 54, .tmp 56]) rfl ?_); at_builtin; refine Kd.R_append (Kd.int .u8) (w0 := w) w.heap.size rfl (.tmp 54) (.tmp 56) 55 5 (.int .u8 0) 1 rfl Try.underlying55 info5 rfl (by decide) (by omega) u6 ae (rd aa ac) [.int .u8 (rd aa ac)] (fun k_ => some k_ ≠ (.slice (some ad285) aa.length al : Value).ownBlock) (fun _ => False) rfl rfl ?aP (fun _ hk => hk.elim) ?aF ?aO ?aB ?aS ?aL ?_; (case aP => exact rfl); (case aB => exact (by repeat (first | (with_reducible first | exact HB.out | apply below_alloc | apply pw_below_drewN | apply below_drew1) | exact HB.out))); (case aF => exact (fun k_ hk => Kd.fresh' (Kd.R_lt (by (with_reducible repeat (first | apply Kd.R_alloc | apply Kd.R_drewN | apply Kd.R_drew)); exact ab.out)) k_ hk)); (case aO => exact (by (with_reducible repeat (first | apply Kd.R_alloc | apply Kd.R_drewN | apply Kd.R_drew)); exact ah.out)); (case aS => exact (below_size (by repeat (first | (with_reducible first | exact HB.out | apply below_alloc | apply pw_below_drewN | apply below_drew1) | exact HB.out)))); (case aL => have := LMc20.out; omega); intro v290 w21 ho hb hg hat; rw [← Ny289.out] at ho; have aj := Aside0.mk (Kd.R_after (ok := (fun _ => True)) (by (with_reducible repeat (first | apply Kd.R_alloc | apply Kd.R_drewN | apply Kd.R_drew)); exact Kd.R_mono ab.out (fun _ hk => ⟨trivial, hk⟩)) hg hat); have ai := Aside0.mk (hb); have ak := Aside0.mk (ho); clear ab; clear HB; clear ah; have ab := aj; have HB := ai; have HO291 := ak; clear aj ai ak; clear ho hb hg hat))
  go_roundg k4
  case measure => have := aq.out; have := ap.out; have := aE.out; have := aD.out; omega
  case rel => exact ⟨(av), (wrap64 (ac - 1)), (by first | rfl | (simp; done) | (simp [*]; done)), H', ⟨by have := aq.out; have := ap.out; have := aE.out; have := aD.out; omega⟩, ⟨by (with_reducible repeat (first | apply Kd.R_alloc | apply Kd.R_drewN | apply Kd.R_drew)); exact Kd.R_mono ab.out (fun _ hk => hk.2)⟩, ⟨by (with_reducible repeat (first | apply Kd.R_alloc | apply Kd.R_drewN | apply Kd.R_drew)); exact HO291.out⟩, ⟨by repeat (first | (with_reducible first | exact HB.out | apply below_alloc | apply pw_below_drewN | apply below_drew1) | exact HB.out)⟩⟩
 rw [if_neg c14] at H
 have aC : decide (0 ≤ ac) = false := decide_eq_false c14
 clear c14
 obtain rfl := Option.some.inj H
 go_wp2
 go_ret
 exact ⟨_, by first | rfl | (simp [errW_none, errW_some] <;> rfl) | (simp [*, errW_none, errW_some] <;> rfl), by (with_reducible repeat (first | apply Kd.R_alloc | apply Kd.R_drewN | apply Kd.R_drew)); exact Kd.R_mono ah.out (fun _ hk => trivial), by repeat (first | (with_reducible first | exact HB.out | apply below_alloc | apply pw_below_drewN | apply below_drew1) | exact HB.out)⟩
def wordbookref01_Ints.l0 : Nat → List Int → List Int → Int → Option (List Int)
  | 0, _, _, _ => none
  | k + 1, x0, x3, x4 => if x4 < (x0.length : Int) then (if 0 ≤ x4 then ((wordbookref01_Int.f k (rd x0 x4)).bind fun t296 => (if x3.length + t296.length < 140737488355328 then (wordbookref01_Ints.l0 k x0 (x3 ++ t296) (wrap64 (x4 + 1))) else (none))) else (none)) else (some x3)
def wordbookref01_Ints.f (k : Nat) (l0 : List Int) : Option (List Int) := (wordbookref01_Int.f k (l0.length : Int)).bind fun t292 => (wordbookref01_Ints.l0 k l0 t292 0)
set_option maxHeartbeats 8000000 in
set_option maxRecDepth 100000 in
theorem wordbookref01_Ints.calls (k : Nat) (A0 : Option Addr) (c0 : Nat) (l0 : List Int) (r : List Int) (w : World) (hr0 : Kd.C (Kd.int .i64) w A0 l0.length l0) (hc0 : l0.length ≤ c0) (h : wordbookref01_Ints.f k l0 = some r) :
    Calls Try.prog 39 #[.slice A0 l0.length c0] w fun e w' => ∃ v0_ : Value, e = .returned (v0_) ∧ Kd.R (Kd.int .u8) 5 w' w.heap.size (fun _ => True) v0_ r ∧ Below w.heap.size w w' := by
 have HR0 := Aside0.mk hr0
 have HC0 := Aside0.mk hc0
 clear hr0 hc0
 have HB := Aside0.mk (Below.refl w.heap.size w)
 have H : ((wordbookref01_Int.f k (l0.length : Int)).bind fun t292 => (wordbookref01_Ints.l0 k l0 t292 0)) = some r := h
 clear h
 replace H := Option.bind_eq_some_iff.mp H
 obtain ⟨t292, A20, H⟩ := H
 replace H : (wordbookref01_Ints.l0 k l0 t292 0) = some r := H
 have A2 := Aside0.mk A20
 clear A20
 have H' := Aside0.mk H
 clear H
 go_enter Try.func39, Try.ntmps39
 go_wp2_with (first | ((with_reducible refine gate_callee (f := 83) rfl ?_); refine goesL_ (some 7) rfl rfl Try.func83 (by kernel_rfl) rfl #[.int .i64 (l0.length : Int)] rfl (by (try simp only [List.map_toArray, List.map_cons, List.map_nil]); first | done | rfl | (simp only [List.length_drop, List.length_take]; rfl)) ?_; (with_reducible refine (wordbookref01_Int.calls k (l0.length : Int) t292 _ A2.out).mono ?_); rintro e w3 ⟨v293, rfl, ho0, hb⟩; refine ⟨_, rfl, ?_⟩; have af := Aside0.mk (Kd.R_lower ho0 (below_size (by repeat (first | (with_reducible first | exact HB.out | apply below_alloc | apply pw_below_drewN | apply below_drew1) | exact HB.out)))); have ae := Aside0.mk (below_step (by repeat (first | (with_reducible first | exact HB.out | apply below_alloc | apply pw_below_drewN | apply below_drew1) | exact HB.out)) hb); clear HB; have HO294 := af; have HB := ae; clear af ae; (try clear hb); (try clear hb2); (try clear hk); (try clear hi); (try clear ho0)))
 go_loopg [3, 4] k (fun kq v3 v4 w' => ∃ (ac : List Int) (aa : Int), v4 = .int .i64 aa ∧ Aside0 (wordbookref01_Ints.l0 kq l0 ac aa = some r) ∧ Aside0 (kq ≤ k) ∧ Aside0 (Kd.R (Kd.int .u8) 5 w' w.heap.size (fun _ => True) v3 ac) ∧ Aside0 (Below w.heap.size w w'))
 case atStart => exact ⟨(t292), (0), (by first | rfl | (simp; done) | (simp [*]; done)), H', ⟨Nat.le_refl _⟩, ⟨by (with_reducible repeat (first | apply Kd.R_alloc | apply Kd.R_drewN | apply Kd.R_drew)); exact HO294.out⟩, ⟨by repeat (first | (with_reducible first | exact HB.out | apply below_alloc | apply pw_below_drewN | apply below_drew1) | exact HB.out)⟩⟩
 clear H'
 (try clear p2); (try clear c3)
 obtain ⟨ac, aa, rfl, HA, al, ad, HB⟩ := hrel
 cases gk with
 | zero => exact absurd HA.out (by simp [wordbookref01_Ints.l0])
 | succ k1 => ?_
 have H := HA.out
 clear HA
 simp only [wordbookref01_Ints.l0] at H
 by_cases c4 : aa < (l0.length : Int)
 ·
  rw [if_pos c4] at H
  have aj : decide (aa < (l0.length : Int)) = true := decide_eq_true c4
  clear c4
  have c5 : 0 ≤ aa := Classical.byContradiction fun c_ => by rw [if_neg c_] at H; exact absurd H (by simp)
  rw [if_pos c5] at H
  have am : decide (0 ≤ aa) = true := decide_eq_true c5
  clear c5
  replace H := Option.bind_eq_some_iff.mp H
  obtain ⟨t296, A60, H⟩ := H
  replace H : (if ac.length + t296.length < 140737488355328 then (wordbookref01_Ints.l0 k1 l0 (ac ++ t296) (wrap64 (aa + 1))) else (none)) = some r := H
  have A6 := Aside0.mk A60
  clear A60
  have c7 : ac.length + t296.length < 140737488355328 := Classical.byContradiction fun c_ => by rw [if_neg c_] at H; exact absurd H (by simp)
  rw [if_pos c7] at H
  have LMc7 := Aside0.mk c7
  clear c7
  obtain ⟨ag, hy299⟩ : ∃ y_ : List Int, y_ = (ac ++ t296) := ⟨_, rfl⟩
  replace H : (wordbookref01_Ints.l0 k1 l0 ag (wrap64 (aa + 1))) = some r := by first | (rw [hy299]; with_reducible exact H) | (have H2_ := (Option.bind_some _ _).symm.trans H; rw [hy299]; with_reducible exact H2_) | (have H2_ := (Option.bind_some _ _).symm.trans H; with_reducible exact H2_) | with_reducible exact H | (rw [hy299]; exact H) | exact H
  have Ny299 := Aside0.mk hy299
  clear hy299
  have H' := Aside0.mk H
  clear H
  have p295 : 0 ≤ (aa : Int) := of_decide_eq_true (by first | (with_reducible assumption) | assumption)
  have q295 : aa < (l0.length : Int) := of_decide_eq_true (by first | (with_reducible assumption) | assumption)
  obtain ⟨ad295, e295, ab⟩ := Kd.at_int HR0.out aa p295 q295
  cases e295
  replace ab := (HB.out.cell (World.block_lt_of_cell? w _ ab)).trans ab
  replace p295 := eq_true p295
  replace q295 := eq_true q295
  go_wp2_with (first | ((with_reducible refine gate_callee (f := 83) rfl ?_); refine goesL_ (some 19) rfl rfl Try.func83 (by kernel_rfl) rfl #[.int .i64 (rd l0 aa)] rfl (by (try simp only [List.map_toArray, List.map_cons, List.map_nil]); first | done | rfl | (simp only [List.length_drop, List.length_take]; rfl)) ?_; (with_reducible refine (wordbookref01_Int.calls k1 (rd l0 aa) t296 _ A6.out).mono ?_); rintro e w8 ⟨v297, rfl, ho0, hb⟩; refine ⟨_, rfl, ?_⟩; have af := Aside0.mk (Kd.R_elder' (by (with_reducible repeat (first | apply Kd.R_alloc | apply Kd.R_drewN | apply Kd.R_drew)); exact ad.out) (Kd.R_base ho0) hb); have ae := Aside0.mk (Kd.R_lower (Kd.R_new' ho0 (Kd.R_lt (by (with_reducible repeat (first | apply Kd.R_alloc | apply Kd.R_drewN | apply Kd.R_drew)); exact ad.out))) (below_size (by repeat (first | (with_reducible first | exact HB.out | apply below_alloc | apply pw_below_drewN | apply below_drew1) | exact HB.out)))); have ah := Aside0.mk (below_step (by repeat (first | (with_reducible first | exact HB.out | apply below_alloc | apply pw_below_drewN | apply below_drew1) | exact HB.out)) hb); clear ad; clear HB; have ad := af; have HO298 := ae; have HB := ah; clear af ae ah; (try clear hb); (try clear hb2); (try clear hk); (try clear hi); (try clear ho0); obtain ⟨ak, ai, eo10⟩ := Kd.R_slice HO298.out; subst eo10) | ((with_reducible refine gate_builtin (b := .append) (xs := #[.tmp 14, .tmp 19]) rfl ?_); at_builtin; refine Kd.R_append_rows (Kd.int .u8) (w0 := w) w.heap.size rfl (.tmp 14) (.tmp 19) 55 5 (.int .u8 0) 1 rfl Try.underlying55 info5 rfl (by decide) (by omega) u3 ac t296 _ _ _ (fun k_ => some k_ ≠ (.slice ak t296.length ai : Value).ownBlock) (fun _ => False) rfl rfl ?aO ?aR (fun _ _ h => h) (fun _ h => h.elim) ?aF ?aB ?aS ?aL ?_; (case aR => repeat (first | exact (Kd.R_reads' HO298.out).2.2 | (with_reducible refine Kd.C_alloc ?_ _) | (with_reducible refine Kd.C_drewN ?_ _) | (with_reducible refine Kd.C_drew ?_))); (case aB => exact (by repeat (first | (with_reducible first | exact HB.out | apply below_alloc | apply pw_below_drewN | apply below_drew1) | exact HB.out))); (case aF => exact (fun k_ hk => Kd.fresh' (Kd.R_lt (by (with_reducible repeat (first | apply Kd.R_alloc | apply Kd.R_drewN | apply Kd.R_drew)); exact HO298.out)) k_ hk)); (case aO => exact (by (with_reducible repeat (first | apply Kd.R_alloc | apply Kd.R_drewN | apply Kd.R_drew)); exact Kd.R_mono ad.out (fun _ hk => hk.2))); (case aS => exact (below_size (by repeat (first | (with_reducible first | exact HB.out | apply below_alloc | apply pw_below_drewN | apply below_drew1) | exact HB.out)))); (case aL => have := LMc7.out; omega); intro v300 w9 ho hb hg hat; rw [← Ny299.out] at ho; have af := Aside0.mk (Kd.R_after (ok := (fun _ => True)) (by (with_reducible repeat (first | apply Kd.R_alloc | apply Kd.R_drewN | apply Kd.R_drew)); exact HO298.out) hg hat); have ae := Aside0.mk (hb); have ah := Aside0.mk (ho); clear HO298; clear HB; clear ad; have HO298 := af; have HB := ae; have HO301 := ah; clear af ae ah; clear ho hb hg hat))
  go_roundg k1
  case measure => have := al.out; omega
  case rel => exact ⟨(ag), (wrap64 (aa + 1)), (by first | rfl | (simp; done) | (simp [*]; done)), H', ⟨by have := al.out; omega⟩, ⟨by (with_reducible repeat (first | apply Kd.R_alloc | apply Kd.R_drewN | apply Kd.R_drew)); exact Kd.R_mono HO301.out (fun _ hk => trivial)⟩, ⟨by repeat (first | (with_reducible first | exact HB.out | apply below_alloc | apply pw_below_drewN | apply below_drew1) | exact HB.out)⟩⟩
 rw [if_neg c4] at H
 have aj : decide (aa < (l0.length : Int)) = false := decide_eq_false c4
 clear c4
 obtain rfl := Option.some.inj H
 go_wp2
 go_ret
 exact ⟨_, by first | rfl | (simp [errW_none, errW_some] <;> rfl) | (simp [*, errW_none, errW_some] <;> rfl), by (with_reducible repeat (first | apply Kd.R_alloc | apply Kd.R_drewN | apply Kd.R_drew)); exact ad.out, by repeat (first | (with_reducible first | exact HB.out | apply below_alloc | apply pw_below_drewN | apply below_drew1) | exact HB.out)⟩
end Go.Proofs.Ytcdjeimjbbknjaa.PAll
namespace Go.Proofs.Ytcdjeimjbbknjaa.PAll
open Go.RowKit Go.Proofs.YtcdjeimjbbknjaaW.PrintWords Go.Proofs.YtcdjeimjbbknjaaW.PrintLast Go.Proofs.YtcdjeimjbbknjaaW.PrintMore Go.Proofs.Ytcdjeimjbbknjaa.Res
set_option linter.unusedVariables false
set_option linter.unusedSimpArgs false

def OkN (n : Nat) (x : Nd) : Prop := x.f1.length = x.f2.length ∧ ∀ k ∈ x.f2, 0 ≤ k ∧ k < (n : Int)
theorem put12 {N : List Nd} {i : Nat} (hi : i < N.length) (s t : Int) : put2 (put1 N i s) i t = N.set i ⟨(rdN N (i : Int)).f0, (rdN N (i : Int)).f1 ++ [s], (rdN N (i : Int)).f2 ++ [t], (rdN N (i : Int)).f3⟩ := by
 have hi1 : i < (put1 N i s).length := by unfold put1; rw [List.length_set]; exact hi
 unfold put2
 rw [show rdN (put1 N i s) (i : Int) = ⟨(rdN N (i : Int)).f0, (rdN N (i : Int)).f1 ++ [s], (rdN N (i : Int)).f2, (rdN N (i : Int)).f3⟩ from by unfold put1; rw [rdN_set _ hi, if_pos rfl]]
 unfold put1
 rw [List.set_set]
theorem rdIn_okN (l : List Int) (n i : Nat) : ∀ (e k : Nat) (N N' : List Nd), i < N.length → (∀ x ∈ N, OkN n x) → rdIn l n i e k N = some N' → N'.length = N.length ∧ ∀ x ∈ N', OkN n x
  | 0, k, N, N', hi, hN, h => by rw [rdIn] at h; obtain rfl := Option.some.inj h; exact ⟨rfl, hN⟩
  | e + 1, k, N, N', hi, hN, h => by
    rw [rdIn] at h
    split at h
    · cases h
    · rename_i hc
      rw [put12 hi] at h
      have h2 := rdIn_okN l n i e (k + 2) _ N' (by rw [List.length_set]; exact hi) (fun x hx => by
        rcases List.mem_or_eq_of_mem_set hx with hx | rfl
        · exact hN x hx
        · have ho := hN _ (rdN_mem' (show (0 : Int) ≤ (i : Int) by omega) (show (i : Int) < (N.length : Int) by omega))
          refine ⟨by simp [ho.1], fun k hk => ?_⟩
          rcases List.mem_append.1 hk with hk | hk
          · exact ho.2 k hk
          · rw [List.mem_singleton.1 hk]; omega) h
      rwa [List.length_set] at h2
theorem rdOut_okN (l : List Int) (n : Nat) : ∀ (f i at_ : Nat) (N N' : List Nd), i + f ≤ N.length → (∀ x ∈ N, OkN n x) → rdOut l n f i at_ N = (N', true) → N'.length = N.length ∧ ∀ x ∈ N', OkN n x
  | 0, i, at_, N, N', hi, hN, h => by rw [rdOut] at h; injection h with h _; subst h; exact ⟨rfl, hN⟩
  | f + 1, i, at_, N, N', hi, hN, h => by
    rw [rdOut] at h
    split at h
    · injection h with _ h; cases h
    · cases hq : rdIn l n i (rd l (at_ : Int) / 2).toNat (at_ + 1) (putF N i (decide (rd l (at_ : Int) % 2 = 1))) with
      | none => rw [hq] at h; injection h with _ h; cases h
      | some N1 =>
        rw [hq] at h
        obtain ⟨h1, h2⟩ := rdIn_okN l n i _ _ _ N1 (by rw [putF_len]; omega) (fun x hx => by
          unfold putF at hx
          rcases List.mem_or_eq_of_mem_set hx with hx | rfl
          · exact hN x hx
          · exact show OkN n (rdN N (i : Int)) from hN _ (rdN_mem' (show (0 : Int) ≤ (i : Int) by omega) (show (i : Int) < (N.length : Int) by omega))) hq
        rw [putF_len] at h1
        obtain ⟨h3, h4⟩ := rdOut_okN l n f (i + 1) _ N1 N' (by omega) h2 h
        exact ⟨by omega, h4⟩
theorem readN_ok {l : List Int} {N : List Nd} (h : readN l = (N, true)) : 0 < N.length ∧ N.length ≤ l.length ∧ (∀ x ∈ N, x.f1.length = x.f2.length) ∧ ∀ x ∈ N, ∀ k ∈ x.f2, 0 ≤ k ∧ k < (N.length : Int) := by
 unfold readN at h
 split at h
 ·
  injection h with _ h; cases h
 ·
  obtain ⟨h1, h2⟩ := rdOut_okN l _ _ _ _ _ N (by simp) (fun x hx => by rw [List.eq_of_mem_replicate hx]; exact ⟨rfl, by intro k hk; cases hk⟩) h
  rw [List.length_replicate] at h1
  exact ⟨by omega, by omega, fun x hx => (h2 x hx).1, fun x hx k hk => by have := (h2 x hx).2 k hk; rwa [← h1] at this⟩
theorem lstK_short (rec_ : Int → List Int → List (List Int) → List (List Int)) (b : Nat) (w : List Int) (h : ∀ k s out, (∀ v ∈ out, v.length ≤ b) → ∀ v ∈ rec_ k (w ++ [s]) out, v.length ≤ b) : ∀ (ss ks : List Int) (out : List (List Int)), (∀ v ∈ out, v.length ≤ b) → ∀ v ∈ lstK rec_ w ss ks out, v.length ≤ b
  | [], _, out, ho => by rw [lstK]; exact ho; simp
  | _ :: _, [], out, ho => by rw [lstK]; exact ho; simp
  | s :: ss, k :: ks, out, ho => by rw [lstK]; exact lstK_short rec_ b w h ss ks _ (h k s out ho)
theorem lstN_short (ns : List Nd) : ∀ (f : Nat) (i : Int) (w : List Int) (out : List (List Int)) (b : Nat), w.length + f ≤ b → (∀ v ∈ out, v.length ≤ b) → ∀ v ∈ lstN ns f i w out, v.length ≤ b
  | 0, i, w, out, b, hb, ho => by rw [lstN]; exact ho
  | f + 1, i, w, out, b, hb, ho => by
    rw [lstN]
    refine lstK_short _ b w (fun k s out ho => lstN_short ns f k (w ++ [s]) out b (by simp; omega) ho) _ _ _ ?_
    unfold lstO
    split
    · intro v hv
      rcases List.mem_append.1 hv with hv | hv
      · exact ho v hv
      · rw [List.mem_singleton.1 hv]; omega
    · exact ho
theorem sum_le_mul {b : Nat} : ∀ {ws : List (List Int)}, (∀ w ∈ ws, w.length ≤ b) → (ws.map List.length).sum ≤ ws.length * b
  | [], _ => by simp
  | w :: ws, h => by
    have h1 := h w List.mem_cons_self
    have h2 := sum_le_mul (fun v hv => h v (List.mem_cons_of_mem w hv))
    simp only [List.map_cons, List.sum_cons, List.length_cons, Nat.add_mul, Nat.one_mul]
    omega
theorem wordsN_ok {N : List Nd} (hpos : 0 < N.length) (hlead : ∀ x ∈ N, ∀ k ∈ x.f2, 0 ≤ k ∧ k < (N.length : Int)) (heven : ∀ x ∈ N, x.f1.length = x.f2.length) : WordsPl N ∧ (wordsN N).1.length ≤ 4096 ∧ ∀ w ∈ (wordsN N).1, w.length ≤ N.length := by
  have hp := words_pl N hpos hlead heven
  refine ⟨fun h1 h2 => ⟨(hp h1 h2).1, by have := (hp h1 h2).2; omega⟩, ?_, ?_⟩
  · unfold wordsN
    split
    · rename_i h; have := (hp h.1 h.2).2; dsimp only; omega
    · simp
  · unfold wordsN
    split
    · exact lstN_short N _ _ _ _ _ (by simp) (by simp)
    · simp
theorem numG_le (N : List Nd) : ∀ (f : Nat) (o : List Int) (i : Nat) (G : List Nd), (numG N f o i G).2.length ≤ G.length + f
  | 0, _, _, G => by rw [numG]; exact Nat.le_refl _
  | f + 1, o, i, G => by
    rw [numG]
    split
    · refine Nat.le_trans (numG_le N f _ _ _) ?_
      rw [List.length_append, List.length_singleton]; omega
    · dsimp only; omega
theorem graphOf_small {ws : List (List Int)} (h : Good ws) : (graphOf ws).length ≤ 65540 := by
 have h1 := numG_le (nodesOf ws).2 ((nodesOf ws).2.length + 1) [(nodesOf ws).1] 0 []
 have h2 := bld_length 65 ws 0 [] (good_pre h)
 have h3 := good_cost h
 change (graphOf ws).length ≤ _ at h1
 change (nodesOf ws).2.length ≤ _ at h2
 simp only [List.length_nil] at h1 h2
 omega
theorem inc_small {xs : List Int} (h : Inc xs) (hs : ∀ s ∈ xs, 0 ≤ s ∧ s < 64) : xs.length ≤ 64 := nodup_le 64 xs (h.imp fun h => by omega) hs
theorem bodyN_le : ∀ (ns : List Nd), (∀ x ∈ ns, x.f1.length = x.f2.length ∧ x.f1.length ≤ 64) → (bodyN ns).length ≤ 129 * ns.length
  | [], _ => by simp [bodyN]
  | x :: ns, h => by
    have h1 := h x List.mem_cons_self
    have h2 := bodyN_le ns fun y hy => h y (List.mem_cons_of_mem _ hy)
    rw [show bodyN (x :: ns) = recN x ++ bodyN ns from rfl, List.length_append, List.length_cons]
    unfold recN
    rw [List.length_cons, prsN_length _ _ h1.1]
    omega
theorem graph_list {ws : List (List Int)} (h : Good ws) : 0 < (graphOf ws).length ∧ (∀ x ∈ graphOf ws, x.f1.length = x.f2.length) ∧ (∀ x ∈ graphOf ws, ∀ k ∈ x.f2, 0 ≤ k ∧ k < ((graphOf ws).length : Int)) ∧ (listN (graphOf ws)).length ≤ 8600000 ∧ ∀ x ∈ listN (graphOf ws), i64 x := by
 obtain ⟨Q, _, hI, hq, _⟩ := graph_spec h
 have hl := hI.len
 obtain ⟨hlead, heven⟩ := inv_lead hI
 have hx : ∀ x ∈ graphOf ws, ∃ r, IsNd Q x r ∧ Srt r ∧ SymR r := fun x hx => by
  obtain ⟨i, hi, rfl⟩ := List.getElem_of_mem hx
  have hn := hI.nds i hi
  rw [rdN_at hi] at hn
  have hm : rdP Q (i : Int) ∈ Q := rdP_mem (by omega) (by omega)
  exact ⟨_, hn, hI.srt _ hm, hI.sym _ hm⟩
 have hs : ∀ x ∈ graphOf ws, ∀ s ∈ x.f1, 0 ≤ s ∧ s < 64 := fun x hx' => by
  obtain ⟨r, hn, h1, h2⟩ := hx x hx'
  rw [hn.syms]; exact syms_sym h1 h2
 have h64 : ∀ x ∈ graphOf ws, x.f1.length ≤ 64 := fun x hx' => by
  obtain ⟨r, hn, h1, h2⟩ := hx x hx'
  exact inc_small (hn.inc h1) (hs x hx')
 have hsm := graphOf_small h
 have hb := bodyN_le (graphOf ws) fun x hx' => ⟨heven x hx', h64 x hx'⟩
 refine ⟨by omega, heven, hlead, by simp only [listN, List.length_cons]; omega, fun y hy => ?_⟩
 unfold i64
 rcases List.mem_cons.1 hy with rfl | hy
 ·
  omega
 ·
  obtain ⟨x, hx', hy⟩ := List.mem_flatMap.1 hy
  rcases List.mem_cons.1 hy with rfl | hy
  ·
   have := h64 x hx'; split <;> omega
  ·
   have hp : ∀ (ss ts : List Int), (∀ s ∈ ss, 0 ≤ s ∧ s < 64) → (∀ t ∈ ts, 0 ≤ t ∧ t < ((graphOf ws).length : Int)) → ∀ y ∈ prsN ss ts, 0 ≤ y ∧ y ≤ 1000000 := by
    intro ss
    induction ss with
    | nil => intro ts _ _ y hy; simp [prsN] at hy
    | cons s ss ih =>
     intro ts h1 h2 y hy
     cases ts with
     | nil => simp [prsN] at hy
     | cons t ts =>
      rw [prsN] at hy
      rcases List.mem_cons.1 hy with rfl | hy
      ·
       have := h1 _ List.mem_cons_self; omega
      ·
       rcases List.mem_cons.1 hy with rfl | hy
       ·
        have := h2 _ List.mem_cons_self; omega
       ·
        exact ih ts (fun s hs => h1 s (List.mem_cons_of_mem _ hs)) (fun t ht => h2 t (List.mem_cons_of_mem _ ht)) y hy
   have := hp x.f1 x.f2 (hs x hx') (hlead x hx') y hy
   omega
def decN (b : List Int) : List (List Int) × Int :=
  if (getsI b).2.2 ≠ 0 then ([], (getsI b).2.2)
  else if (readN (getsI b).1).2 = false ∨ (getsI b).2.1 ≠ (b.length : Int) then ([], 2)
  else if (wordsN (readN (getsI b).1).1).2 = false then ([], 2)
  else if checkL (wordsN (readN (getsI b).1).1).1 ≠ 0 then ([], 2)
  else if listN (graphOf (wordsN (readN (getsI b).1).1).1) ≠ (getsI b).1 then ([], 2)
  else ((wordsN (readN (getsI b).1).1).1, 0)
theorem getsN_i64 {b : List Int} (hb : byt b) : ∀ (f at_ : Nat) (out : List Int), (∀ x ∈ out, i64 x) → (∀ x ∈ (getsN b f at_ out).1, i64 x) ∧ 0 ≤ (getsN b f at_ out).2.2 ∧ (getsN b f at_ out).2.2 ≤ 3 ∧ (getsN b f at_ out).1.length ≤ out.length + f
  | 0, at_, out, h => by rw [getsN]; exact ⟨h, by simp, by simp, by simp⟩
  | f + 1, at_, out, h => by
    obtain ⟨g1, g2, g3, g4, g5⟩ := getI_i64 (byt_drop hb at_)
    rw [getsN]
    split
    · exact ⟨by simp, g4, g5, by simp⟩
    · have := getsN_i64 hb f (at_ + (getI (b.drop at_)).2.1.toNat) (out ++ [(getI (b.drop at_)).1]) (fun x hx => by
        rcases List.mem_append.1 hx with hx | hx
        · exact h x hx
        · rw [List.mem_singleton.1 hx]; exact g1)
      refine ⟨this.1, this.2.1, this.2.2.1, ?_⟩
      have h4 := this.2.2.2
      rw [List.length_append, List.length_singleton] at h4
      omega
theorem getsI_i64 {b : List Int} (hb : byt b) : (∀ x ∈ (getsI b).1, i64 x) ∧ 0 ≤ (getsI b).2.2 ∧ (getsI b).2.2 ≤ 3 ∧ (getsI b).1.length ≤ b.length := by
 have hc : 0 ≤ (cntI b).2.2 ∧ (cntI b).2.2 ≤ 3 := by
  obtain ⟨g1, g2, g3, g4, g5⟩ := getI_i64 hb
  unfold cntI
  split
  ·
   exact ⟨g4, g5⟩
  ·
   split
   ·
    exact ⟨by simp, by simp⟩
   ·
    split
    ·
     exact ⟨by simp, by simp⟩
    ·
     exact ⟨g4, g5⟩
 unfold getsI
 split
 ·
  exact ⟨by simp, hc.1, hc.2, by simp⟩
 ·
  rename_i h
  obtain ⟨c1, c2, c3, c4⟩ := cntI_ok (b := b) (by simpa using h)
  have hg : getI b = ((getI b).1, (getI b).2.1, 0) := by rw [← c2]
  obtain ⟨k1, k2, k3⟩ := getI_ok hb hg
  have := getsN_i64 hb (cntI b).1.toNat (cntI b).2.1.toNat [] (by simp)
  refine ⟨this.1, this.2.1, this.2.2.1, Nat.le_trans this.2.2.2 ?_⟩
  rw [c1]; simp; omega
theorem equal_is (a b : List Int) (ha : a.length ≤ 1000000000) : ∀ k, a.length < k → slices_Equal_int_int.f k a b = some (decide (a = b)) := by
 have hl : ∀ (d i k : Nat), i + d = a.length → a.length = b.length → d < k → (∀ j, j < i → rd a (j : Int) = rd b (j : Int)) → slices_Equal_int_int.l0 k a b (a.length : Int) (i : Int) = some (decide (a = b)) := by
  intro d
  induction d with
  | zero =>
   intro i k hi hab hk hj
   obtain ⟨k, rfl⟩ : ∃ m, k = m + 1 := ⟨k - 1, by omega⟩
   have : a = b := by
    refine List.ext_getElem hab fun j h1 h2 => ?_
    have := hj j (by omega)
    rwa [rd_nat, rd_nat, List.getD_eq_getElem?_getD, List.getD_eq_getElem?_getD, List.getElem?_eq_getElem h1, List.getElem?_eq_getElem h2] at this
   rw [slices_Equal_int_int.l0, if_neg (by omega), decide_eq_true this]
  | succ d ih =>
   intro i k hi hab hk hj
   obtain ⟨k, rfl⟩ : ∃ m, k = m + 1 := ⟨k - 1, by omega⟩
   rw [slices_Equal_int_int.l0, if_pos (by omega), if_pos (by omega), if_pos (by omega), if_pos (by omega)]
   by_cases he : rd a (i : Int) = rd b (i : Int)
   ·
    rw [if_pos he, show wrap64 ((i : Int) + 1) = ((i + 1 : Nat) : Int) from by unfold wrap64; omega]
    refine ih (i + 1) k (by omega) hab (by omega) fun j hj' => ?_
    rcases Nat.lt_succ_iff_lt_or_eq.1 hj' with h | rfl
    ·
     exact hj j h
    ·
     exact he
   ·
    rw [if_neg he, decide_eq_false (fun e => he (by rw [e]))]
 intro k hk
 unfold slices_Equal_int_int.f
 by_cases hab : a.length = b.length
 ·
  rw [if_pos (by omega)]
  exact hl a.length 0 k (by omega) hab hk (fun j hj => absurd hj (Nat.not_lt_zero _))
 ·
  rw [if_neg (by omega), decide_eq_false (fun e => hab (by rw [e]))]
theorem decN_listB {ws : List (List Int)} (h : Good ws) : decN (listB (listN (graphOf ws))) = (ws, 0) := by
 obtain ⟨Q, _, hI, hq, hw⟩ := graph_spec h
 obtain ⟨g1, g2, g3, g4, g5⟩ := graph_list h
 have hg := getsI_listB g5 (by omega) []
 rw [List.append_nil] at hg
 have hr := readN_listN _ g1 g2 g3
 obtain ⟨hwb, _⟩ := words_back hI g1 (by rw [hw]; exact h.short) (by rw [hw]; exact h.few)
 rw [hw] at hwb
 unfold decN
 rw [hg]
 dsimp only
 rw [hr]
 dsimp only
 rw [wordsN_strip, hwb]
 dsimp only
 rw [if_neg (by simp), if_neg (by simp), if_neg (by simp), good_check h, if_neg (by simp), if_neg (by simp)]
end Go.Proofs.Ytcdjeimjbbknjaa.PAll
namespace Go.Proofs.Ytcdjeimjbbknjaa.PAll
open Go.RowKit Go.Proofs.YtcdjeimjbbknjaaW.PrintWords Go.Proofs.YtcdjeimjbbknjaaW.PrintLast Go.Proofs.YtcdjeimjbbknjaaW.PrintMore
set_option linter.unusedVariables false
set_option linter.unusedSimpArgs false

theorem cb_block {α : Type} {d : Kd α} {W : World} {b : Nat} {cs : List Value} {e : Nat} {xs : List α} (h : W.heap[b]? = some (.cells cs.toArray e (0, 0))) (hr : Reps (d.K W) d.sz xs cs) (hn : xs.length ≤ 9223372036854775807) : d.C W (some ⟨b, 0, none⟩) xs.length xs := by
 refine ⟨rfl, hn, fun _ => ⟨_, rfl, fun j p hp => ⟨(cs.drop (j * d.sz)).take d.sz, ?_, hr.2 j p hp, fun i u hu => ?_⟩⟩⟩
 ·
  obtain ⟨hj, _⟩ := List.getElem?_eq_some_iff.1 hp
  have h1 := hr.1
  rw [List.length_take, List.length_drop, h1]
  have := Nat.mul_le_mul_right d.sz (show j + 1 ≤ xs.length from hj)
  rw [Nat.add_mul, Nat.one_mul] at this
  omega
 ·
  rw [add_at, Nat.zero_add, blk_cell h]
  have hi : i < d.sz := by
   have := (List.getElem?_eq_some_iff.1 hu).1
   rw [List.length_take] at this
   omega
  rw [List.getElem?_take_of_lt hi, List.getElem?_drop] at hu
  simpa using hu
theorem cb_ints {W : World} {b : Nat} {xs : List Int} (h : W.heap[b]? = some (.cells (encs (Value.int .i64) xs).toArray 3 (0, 0))) (hn : xs.length ≤ 9223372036854775807) : Kd.C (Kd.int .i64) W (some ⟨b, 0, none⟩) xs.length xs := cb_block h (Kd.reps_scalar xs) hn
theorem cb_new (W : World) (xs : List Int) (hn : xs.length ≤ 9223372036854775807) : Kd.C (Kd.int .i64) (W.alloc (.cells (encs (Value.int .i64) xs).toArray 3)) (some ⟨W.heap.size, 0, none⟩) xs.length xs := cb_ints (blk_new _ _) hn
theorem drop_cons' {α : Type} {l : List α} {i : Nat} (h : i < l.length) : l.drop i = l[i] :: l.drop (i + 1) := List.drop_eq_getElem_cons h
theorem prs_step {f1 f2 : List Int} {j : Nat} (he : f1.length = f2.length) (h : j < f1.length) : prsN (f1.drop j) (f2.drop j) = rd f1 (j : Int) :: rd f2 (j : Int) :: prsN (f1.drop (j + 1)) (f2.drop (j + 1)) := by
 rw [rd_drop h, rd_drop (show j < f2.length by omega), prsN]
theorem body_step {ns : List Nd} {i : Nat} (h : i < ns.length) : bodyN (ns.drop i) = (2 * ((rdN ns (i : Int)).f1.length : Int) + (if (rdN ns (i : Int)).f0 = true then 1 else 0)) :: (prsN (rdN ns (i : Int)).f1 (rdN ns (i : Int)).f2 ++ bodyN (ns.drop (i + 1))) := by
 rw [drop_cons' h, rdN_at h]; rfl
set_option maxHeartbeats 4000000 in
set_option maxRecDepth 100000 in
theorem list_any (g : Nat) (ns : List Nd) (w : World) (hg : GraphAt w g ns) (he : ∀ x ∈ ns, x.f1.length = x.f2.length) (hlen : (listN ns).length ≤ 1000000000) :
    Calls Try.prog 78 #[.pointer (some ⟨g, 0, none⟩)] w fun e w' => ∃ v, e = .returned v ∧ Kd.R (Kd.int .i64) 3 w' w.heap.size (fun _ => True) v (listN ns) ∧ Below w.heap.size w w' := by
 obtain ⟨A, c, hcell, hcc, hC⟩ := hg.cell
 have HG := Aside0.mk hg
 have HE := Aside0.mk he
 have HC := Aside0.mk hC
 have hmax := Kd.C_max hC
 have HL : Aside0 ([(ns.length : Int)] ++ bodyN (ns.drop 0) = listN ns) := ⟨rfl⟩
 have HT : Aside0 ((listN ns).length ≤ 1000000000) := ⟨hlen⟩
 have hnl : ns.length ≤ 1000000000 := by
  have : ∀ m : List Nd, m.length ≤ (bodyN m).length := by
   intro m
   induction m with
   | nil => exact Nat.zero_le _
   | cons x m ih =>
    rw [show bodyN (x :: m) = recN x ++ bodyN m from rfl, List.length_append, List.length_cons]
    have : 1 ≤ (recN x).length := by unfold recN; simp
    omega
  have := this ns
  simp only [listN, List.length_cons] at hlen
  omega
 generalize listN ns = T at *
 clear hg he hC hlen
 go_enter Try.func78, Try.ntmps78
 go_wp2_with ((with_reducible refine gate_dst (N := 14) rfl ?_); refine Kd.R_lit (Kd.int .i64) w.heap.size 3 ?hg (N := 14) ?hd (xs := ([(ns.length : Int)] : List Int)) (inner := [.int .i64 (ns.length : Int)]) (ok := fun _ => True) (okp := fun _ => True) ?hr ?hp (fun _ hk => hk) trivial (Below.refl _ _) (Nat.le_refl _) (by simp) ?_; (case hd => rfl); (case hg => rfl); (case hr => first | (go_simp; done) | (go_simp; rfl)); (case hp => exact (Reps.one (show Kd.M (Kd.int .i64) _ _ _ (ns.length : Int) [.int .i64 (ns.length : Int)] from rfl) (Reps.none _ _))); intro v1 w1 HO1 HB1 HG1 hne1; have hcell1 := pw_cell_below HB1 hcell; have HO1 := Aside0.mk HO1; have HB1 := Aside0.mk HB1; clear HG1 hne1 hcell)
 go_loopw [3, 20] (fun s3 s20 wr => ∃ (i : Nat) (acc : List Int), s20 = .int .i64 (i : Int) ∧ Aside0 (i ≤ ns.length ∧ acc ++ bodyN (ns.drop i) = T ∧ Kd.R (Kd.int .i64) 3 wr w.heap.size (fun _ => True) s3 acc ∧ Below w.heap.size w wr)) (fun _ s20 _ => ns.length - (intOf s20).toNat)
 case atStart => exact ⟨0, [(ns.length : Int)], rfl, ⟨Nat.zero_le _, HL.out, HO1.out, HB1.out⟩⟩
 case round =>
  obtain ⟨i, acc, rfl, hJ⟩ := hrel
  obtain ⟨hi, hacc, hR, hB⟩ := hJ.out
  obtain ⟨Av, cv, rfl⟩ := Kd.R_slice hR
  have HR := Aside0.mk hR
  have HB := Aside0.mk hB
  clear hJ hR hB hcell1
  by_cases hin : i < ns.length
  ·
   obtain ⟨ad, A1, c1, A2, c2, rfl, x0, x1, x2, x3, l1, g1, l2, g2⟩ := at_T102 HC.out (i : Int) (by omega) (by omega)
   have hev := HE.out _ (rdN_mem' (show (0 : Int) ≤ (i : Int) by omega) (show (i : Int) < (ns.length : Int) by omega))
   rw [body_step hin] at hacc
   rw [show rd_T102 ns (i : Int) = rdN ns (i : Int) from rfl] at x0 x1 x2 x3 l1 g1 l2 g2
   generalize rdN ns (i : Int) = nd at *
   obtain ⟨f0, f1, f2, f3⟩ := nd
   dsimp only at x0 x1 x2 x3 l1 g1 l2 g2 hev hacc
   have y0 := pw_cell_below HB.out x0
   have y1 := pw_cell_below HB.out x1
   have y2 := pw_cell_below HB.out x2
   have y3 := pw_cell_below HB.out x3
   rw [Int.toNat_natCast] at y0 y1 y2 y3
   have G1 := Aside0.mk g1
   have G2 := Aside0.mk g2
   have HEv := Aside0.mk hev
   have hT := HT.out
   have hTl := congrArg List.length hacc
   simp only [List.length_append, List.length_cons, prsN_length f1 f2 hev] at hTl
   have hf1 : f1.length ≤ 1000000000 := by omega
   have hal : acc.length + 2 * f1.length + 1 ≤ 1000000000 := by omega
   have p1 : IntKind.i64.wrap (2 * (f1.length : Int)) = 2 * (f1.length : Int) := wrap_in (by omega) (by omega)
   have p2 : IntKind.i64.wrap (2 * (f1.length : Int) + 1) = 2 * (f1.length : Int) + 1 := wrap_in (by omega) (by omega)
   obtain ⟨hd, hhd⟩ : ∃ hd, hd = 2 * (f1.length : Int) + (if f0 = true then 1 else 0) := ⟨_, rfl⟩
   rw [← hhd] at hacc
   have HA := Aside0.mk hacc
   have HHd := Aside0.mk hhd
   clear hacc hhd x0 x1 x2 x3 g1 g2 hev hT hTl
   go_upto_if 29 with fail
   go_cut [6] from 21 to 54 (fun s6 wx => s6 = .int .i64 hd ∧ wx = wr.alloc (.cells #[.bool f0, .slice A1 f1.length c1, .slice A2 f2.length c2, .int .i64 f3] 102))
   case first =>
    cases f0 with
    | true =>
     go_wp2
     go_meet
     exact ⟨by rw [HHd.out]; simp, rfl⟩
    | false =>
     go_wp2
     go_meet
     exact ⟨by rw [HHd.out]; simp, rfl⟩
   case rest =>
    obtain ⟨rfl, rfl⟩ := hcut
    have hrk : Kd.R (Kd.int .i64) 3 wr w.heap.size (fun k => k ≠ wr.heap.size) (.slice Av acc.length cv) acc := Kd.R_mono (Kd.R_bound HR.out) fun k hk => by omega
    have HRk := Aside0.mk (Kd.R_alloc hrk (.cells #[.bool f0, .slice A1 f1.length c1, .slice A2 f2.length c2, .int .i64 f3] 102))
    have hbx := blk_new wr (.cells #[.bool f0, .slice A1 f1.length c1, .slice A2 f2.length c2, .int .i64 f3] 102)
    have hba := below_alloc HB.out (.cells #[.bool f0, .slice A1 f1.length c1, .slice A2 f2.length c2, .int .i64 f3] 102)
    have HSz := HB.out.size
    obtain ⟨wb, hwb⟩ : ∃ wb, wb = wr.alloc (.cells #[.bool f0, .slice A1 f1.length c1, .slice A2 f2.length c2, .int .i64 f3] 102) := ⟨_, rfl⟩
    have hszb : wb.heap.size = wr.heap.size + 1 := by rw [hwb]; simp
    rw [← hwb] at HRk hbx hba ⊢
    have HBa := Aside0.mk hba
    have HBx := Aside0.mk hbx
    have HSzb := Aside0.mk hszb
    clear hwb hba hrk hbx y0 y1 y2 y3 p1 p2 hszb HSz
    generalize wr.heap.size = B at *
    go_wp2_with (at_builtin; refine Kd.R_append (Kd.int .i64) (w0 := w) (W := wb) w.heap.size rfl (.tmp 32) (.tmp 34) 22 3 (.int .i64 0) 8 rfl Try.underlying22 info3 rfl (by decide) (by omega) (.slice Av acc.length cv) acc hd [.int .i64 hd] (fun k => k ≠ B) (fun _ => False) rfl rfl rfl (fun _ h => h.elim) (fun k hk => show k ≠ B by have := HSzb.out; omega) HRk.out HBa.out HBa.out.size (by omega) ?_; intro v2 w2 HO2 HB2 HG2 _; have hbx2 := (HG2.block _ (by have := HSzb.out; omega) (fun e => (HRk.out).1 _ e.symm rfl)).trans HBx.out; have HO2 := Aside0.mk HO2; have HB2 := Aside0.mk HB2; have HBx2 := Aside0.mk hbx2; have z1 : w2.cell? ⟨B, 1, none⟩ = some (.slice A1 f1.length c1) := (blk_cell hbx2 1).trans rfl; clear HG2 hbx2)
    clear z1
    go_loopw [3, 39] (fun s3 s39 wx => ∃ (j : Nat) (acc2 : List Int), s39 = .int .i64 (j : Int) ∧ Aside0 (j ≤ f1.length ∧ acc2 ++ (prsN (f1.drop j) (f2.drop j) ++ bodyN (ns.drop (i + 1))) = T ∧ acc2.length ≤ acc.length + 1 + 2 * j ∧ Kd.R (Kd.int .i64) 3 wx w.heap.size (fun k => k ≠ B) s3 acc2 ∧ Below w.heap.size w wx ∧ B < wx.heap.size ∧ wx.heap[B]? = some (.cells #[.bool f0, .slice A1 f1.length c1, .slice A2 f2.length c2, .int .i64 f3] 102 (0, 0)))) (fun _ s39 _ => f1.length - (intOf s39).toNat)
    case atStart => exact ⟨0, acc ++ [hd], rfl, ⟨Nat.zero_le _, by rw [List.append_assoc, List.drop_zero, List.drop_zero]; exact HA.out, by simp, HO2.out, HB2.out, blk_lt HBx2.out, HBx2.out⟩⟩
    case round =>
     obtain ⟨j, acc2, rfl, hJ⟩ := hrel
     obtain ⟨hj, hacc2, hl2, hR2, hB2, hsz2, hbx2⟩ := hJ.out
     obtain ⟨Av2, cv2, rfl⟩ := Kd.R_slice hR2
     have HR2 := Aside0.mk hR2
     have HB2 := Aside0.mk hB2
     have HBx2 := Aside0.mk hbx2
     have HSz2 := Aside0.mk hsz2
     have HL2 := Aside0.mk hl2
     clear hJ hR2 hB2 hl2 hsz2
     by_cases hjl : j < f1.length
     ·
      rw [prs_step HEv.out hjl] at hacc2
      have hj2 : j < f2.length := by have := HEv.out; omega
      obtain ⟨ad1, rfl, q1⟩ := Kd.at_int (Kd.C_below G1.out HB2.out) (j : Int) (by omega) (by omega)
      obtain ⟨ad2, rfl, q2⟩ := Kd.at_int (Kd.C_below G2.out HB2.out) (j : Int) (by omega) (by omega)
      rw [Int.toNat_natCast] at q1 q2
      generalize rd f1 (j : Int) = s at *
      generalize rd f2 (j : Int) = t at *
      have HA2 := Aside0.mk hacc2
      have z2 : wr.cell? ⟨B, 2, none⟩ = some (.slice (some ad2) f2.length c2) := (blk_cell hbx2 2).trans rfl
      have hj3 : (j : Int) < (f2.length : Int) := by omega
      clear hacc2 hbx2
      go_wp2_with (at_builtin; refine Kd.R_append_rows (Kd.int .i64) (w0 := w) (W := wr.alloc (.cells #[.int .i64 s, .int .i64 t] 3)) w.heap.size rfl (.tmp 44) (.tmp 51) 22 3 (.int .i64 0) 8 rfl Try.underlying22 info3 rfl (by decide) (by omega) (.slice Av2 acc2.length cv2) acc2 [s, t] (some ⟨wr.heap.size, 0, none⟩) 2 2 (fun k => k ≠ B) (fun _ => False) rfl rfl (Kd.R_alloc HR2.out _) (cb_new wr [s, t] (by simp)) (fun _ _ h => h) (fun _ h => h.elim) (fun k hk => show k ≠ B by have := HSz2.out; have hk' : (wr.alloc (.cells #[.int .i64 s, .int .i64 t] 3)).heap.size ≤ k := hk; simp at hk'; omega) (below_alloc HB2.out _) (by have := HB2.out.size; simp; omega) (by have := HL2.out; omega) ?_; intro v4 w4 HO4 HB4 HG4 _; have hbx4 := (HG4.block _ (by have := HSz2.out; simp; omega) (fun e => (HR2.out).1 _ e.symm rfl)).trans (blk_alloc HBx2.out _); have HO4 := Aside0.mk HO4; have HB4 := Aside0.mk HB4; have HBx4 := Aside0.mk hbx4; clear HG4 hbx4)
      go_roundw
      case rel => exact ⟨j + 1, acc2 ++ [s, t], by go_num, ⟨by omega, by rw [List.append_assoc]; exact HA2.out, by have := HL2.out; simp; omega, HO4.out, HB4.out, blk_lt HBx4.out, HBx4.out⟩⟩
      case measure => simp [intOf]; omega
     ·
      obtain rfl : j = f1.length := by omega
      have HA2 : Aside0 (acc2 ++ bodyN (ns.drop (i + 1)) = T) := ⟨by rw [← hacc2, List.drop_length]; simp [prsN]⟩
      clear hacc2 hbx2
      go_wp2
      go_roundw
      case rel => exact ⟨i + 1, acc2, by go_num, ⟨by omega, HA2.out, Kd.R_mono HR2.out fun _ _ => trivial, HB2.out⟩⟩
      case measure => simp [intOf]; omega
  ·
   obtain rfl : i = ns.length := by omega
   have HA : Aside0 (acc = T) := ⟨by rw [← hacc, List.drop_length]; simp [bodyN]⟩
   clear hacc
   go_wp2
   go_ret
   exact ⟨_, rfl, by rw [← HA.out]; exact HR.out, HB.out⟩
end Go.Proofs.Ytcdjeimjbbknjaa.PAll
namespace Go.Proofs.Ytcdjeimjbbknjaa.PAll
open Go.RowKit Go.Proofs.YtcdjeimjbbknjaaW.PrintWords Go.Proofs.YtcdjeimjbbknjaaW.PrintLast Go.Proofs.YtcdjeimjbbknjaaW.PrintMore
set_option linter.unusedVariables false
set_option linter.unusedSimpArgs false

theorem cutB_drop (A : Option Addr) (c : Nat) (xs : List Int) (m : Nat) (hm : m ≤ xs.length) (hc : xs.length ≤ c) :
    ∃ A' : Option Addr, (∀ W : World, (Instr.slice 55 (.slice A xs.length c) (some (.int .i64 (m : Int))) none none).run Try.prog W = .ok (.slice A' (xs.length - m) (c - m)) W) ∧ (∀ w : World, Kd.C (Kd.int .u8) w A xs.length xs → Kd.C (Kd.int .u8) w A' (xs.length - m) (xs.drop m)) ∧ xs.length - m ≤ c - m := by
 obtain ⟨i0, hi, _, hsz, _⟩ := info_parts info5
 have hrun := cut_from (P := Try.prog) 55 5 .i64 Try.underlying55 hi 1 hsz A xs.length c (m : Int) (by omega) (by omega)
 refine ⟨if c = m then A else A.map (·.add (m * 1)), fun W => by have := hrun W; simpa using this, fun w h => ?_, by omega⟩
 have h2 := Kd.C_drop h hm hc
 rwa [show (xs.drop m).length = xs.length - m from by rw [List.length_drop]] at h2
theorem reader_boxes (A : Option Addr) (n c : Nat) (at_ : Int) (w W : World) (h : W = (w.alloc (.cells #[.slice A n c] 55)).alloc (.cells #[.int .i64 at_] 3)) :
    W.heap[w.heap.size]? = some (.cells #[.slice A n c] 55 (0, 0)) ∧ W.heap[w.heap.size + 1]? = some (.cells #[.int .i64 at_] 3 (0, 0)) ∧ Below w.heap.size w W ∧ W.heap.size = w.heap.size + 2 := by
 subst h
 have s1 : (w.alloc (.cells #[.slice A n c] 55)).heap.size = w.heap.size + 1 := by simp
 refine ⟨blk_alloc (blk_new _ _) _, ?_, below_alloc (below_alloc (Below.refl _ w) _) _ |>.mono (by simp), by simp⟩
 rw [← s1]; exact blk_new _ _
theorem reader_any (A : Option Addr) (n c : Nat) (at_ : Int) (w : World) :
    Calls Try.prog 112 #[.slice A n c, .int .i64 at_] w fun e w' => e = .returned (.func (.func 127) #[] #[.pointer (some ⟨w.heap.size, 0, none⟩), .pointer (some ⟨w.heap.size + 1, 0, none⟩)]) ∧ w' = (w.alloc (.cells #[.slice A n c] 55)).alloc (.cells #[.int .i64 at_] 3) := by
 go_enter Try.func112, Try.ntmps112
 go_wp2
 go_ret
 exact ⟨rfl, rfl⟩
set_option maxHeartbeats 4000000 in
set_option maxRecDepth 100000 in
theorem next_any (A : Option Addr) (c : Nat) (b : List Int) (at_ : Nat) (w : World) (B1 B2 : Nat) (hat : at_ ≤ b.length) (hc : b.length ≤ c) (hb : byt b) (hlen : b.length ≤ 1000000000000) (hr : Kd.C (Kd.int .u8) w A b.length b) (h1 : w.heap[B1]? = some (.cells #[.slice A b.length c] 55 (0, 0))) (h2 : w.heap[B2]? = some (.cells #[.int .i64 (at_ : Int)] 3 (0, 0))) :
    Calls Try.prog 127 #[.pointer (some ⟨B1, 0, none⟩), .pointer (some ⟨B2, 0, none⟩)] w fun e w' => e = .returned (.tuple #[.int .i64 (getI (b.drop at_)).1, .int .i64 ((at_ : Int) + (getI (b.drop at_)).2.1), .int .i64 (getI (b.drop at_)).2.2]) ∧
      ∃ k, w' = (w.setCell ⟨B2, 0, none⟩ (.int .i64 ((at_ : Int) + (getI (b.drop at_)).2.1))).drewN k := by
 obtain ⟨A', hcut, hC, hl⟩ := cutB_drop A c b at_ hat hc
 have hmx := Kd.C_max hr
 have hd : (b.drop at_).length = b.length - at_ := List.length_drop
 have hg := getInt_any A' (c - at_) (b.drop at_) w (by rw [hd]; exact hC w hr) (by rw [hd]; exact hl) (byt_drop hb at_)
 rw [hd] at hg
 have HG := Aside0.mk hg
 obtain ⟨q1, q2, q3, q4, q5⟩ := getI_i64 (byt_drop hb at_)
 generalize getI (b.drop at_) = q at *
 obtain ⟨n, u, e⟩ := q
 dsimp only at q1 q2 q3 q4 q5 HG ⊢
 have c1 : w.cell? ⟨B1, 0, none⟩ = some (.slice A b.length c) := (blk_cell h1 0).trans rfl
 have c2 : w.cell? ⟨B2, 0, none⟩ = some (.int .i64 (at_ : Int)) := (blk_cell h2 0).trans rfl
 have c3 : w.frozen? ⟨B2, 0, none⟩ = false := by simp [World.frozen?, h2]
 have w1 : IntKind.i64.wrap ((at_ : Int) + u) = (at_ : Int) + u := wrap_in (by omega) (by omega)
 have c4 : (w.setCell ⟨B2, 0, none⟩ (.int .i64 ((at_ : Int) + u))).cell? ⟨B2, 0, none⟩ = some (.int .i64 ((at_ : Int) + u)) := World.cell?_setCell_same _ _ _ c2
 clear hr h1 h2 hC hg hd q1
 go_enter Try.func127, Try.ntmps127
 go_wp2_with (go_at_call 126; refine HG.out.mono ?_; rintro e w' ⟨rfl, rfl⟩)
 go_quiet (fail)
 go_wp2
 go_ret3
 exact ⟨rfl, _, rfl⟩
theorem next_state {w0 wr W : World} {B k : Nat} {x y : Int} {A : Option Addr} {n c : Nat} {v : Value} {out : List Int} (h : W = (wr.setCell ⟨B + 1, 0, none⟩ (.int .i64 y)).drewN k) (hR : Kd.R (Kd.int .i64) 3 wr w0.heap.size (fun k => k ≠ B ∧ k ≠ B + 1) v out) (hB : Below w0.heap.size w0 wr) (hb : w0.heap.size ≤ B) (hsz : B + 1 < wr.heap.size)
    (h1 : wr.heap[B]? = some (.cells #[.slice A n c] 55 (0, 0))) (h2 : wr.heap[B + 1]? = some (.cells #[.int .i64 x] 3 (0, 0))) :
    Kd.R (Kd.int .i64) 3 W w0.heap.size (fun k => k ≠ B ∧ k ≠ B + 1) v out ∧ Below w0.heap.size w0 W ∧ B + 1 < W.heap.size ∧ W.heap[B]? = some (.cells #[.slice A n c] 55 (0, 0)) ∧ W.heap[B + 1]? = some (.cells #[.int .i64 y] 3 (0, 0)) := by
 subst h
 refine ⟨Kd.R_drewN (Kd.R_far hR (fun k hk => hk.2) _) k, pw_below_drewN (hB.setCell (by simp; omega) _) _, by simpa using hsz, ?_, ?_⟩
 ·
  have := heap_setCell_other wr ⟨B + 1, 0, none⟩ B (.int .i64 y) (show B ≠ B + 1 by omega)
  simpa using this.trans h1
 ·
  have := heap_setCell_same wr (B + 1) 0 _ _ (.int .i64 y) h2
  simpa using this
def GsPost (w : World) (q : List Int × Int × Int) (e : Ending) (w' : World) : Prop := ∃ v, e = .returned (.tuple #[v, .int .i64 q.2.1, .int .i64 q.2.2]) ∧ Kd.R (Kd.int .i64) 3 w' w.heap.size (fun _ => True) v q.1 ∧ Below w.heap.size w w'
set_option maxHeartbeats 4000000 in
set_option maxRecDepth 100000 in
theorem getInts_any (A : Option Addr) (c : Nat) (b : List Int) (w : World) (hr : Kd.C (Kd.int .u8) w A b.length b) (hc : b.length ≤ c) (hb : byt b) (hlen : b.length ≤ 1000000000000) :
    Calls Try.prog 79 #[.slice A b.length c] w (GsPost w (getsI b)) := by
 have HCn := Aside0.mk (count_any A c b w hr hc hb)
 have HR := Aside0.mk hr
 have HQ : Aside0 (getsI b = if (cntI b).2.2 ≠ 0 then ([], 0, (cntI b).2.2) else getsN b (cntI b).1.toNat (cntI b).2.1.toNat []) := ⟨rfl⟩
 have hck : (cntI b).2.2 = 0 → 0 ≤ (cntI b).1 ∧ (cntI b).1 ≤ (b.length : Int) ∧ 1 ≤ (cntI b).2.1 ∧ (cntI b).2.1 ≤ (b.length : Int) := fun h => by
  obtain ⟨c1, c2, c3, c4⟩ := cntI_ok h
  obtain ⟨k1, k2, _⟩ := getI_ok (n := (getI b).1) (k := (getI b).2.1) hb (by rw [← c2])
  rw [c1]; omega
 generalize getsI b = Q at *
 generalize cntI b = q at *
 obtain ⟨n, at0, e⟩ := q
 dsimp only at hck HQ
 have HBt := Aside0.mk hb
 clear hr hb
 by_cases he : e = 0
 ·
  subst he
  obtain ⟨n0, n1, a0, a1⟩ := hck rfl
  clear hck
  obtain ⟨N, rfl⟩ := Int.eq_ofNat_of_zero_le n0
  obtain ⟨at_, rfl⟩ := Int.eq_ofNat_of_zero_le (show 0 ≤ at0 by omega)
  have HQ1 : Aside0 (getsN b N at_ [] = Q) := ⟨by rw [HQ.out, if_neg (by simp)]; rfl⟩
  clear HQ
  go_enter Try.func79, Try.ntmps79
  go_wp2_with (first | (go_at_call 111; refine HCn.out.mono ?_; rintro e wq ⟨rfl, hq⟩; obtain rfl := hq.symm) | (go_at_call 112; refine (reader_any _ _ _ _ _).mono ?_; rintro e w1 ⟨rfl, hw1⟩; have HBox := Aside0.mk (reader_boxes _ _ _ _ _ _ hw1); clear hw1))
  obtain ⟨B1, hB1⟩ : ∃ B1, B1 = w.heap.size := ⟨_, rfl⟩
  have HB1 := Aside0.mk hB1
  go_loopw [6, 9, 26] (fun s6 s9 s26 wr => ∃ (i a : Nat) (out : List Int), s6 = .int .i64 (a : Int) ∧ s26 = .int .i64 (i : Int) ∧ Aside0 (i ≤ N ∧ a ≤ b.length ∧ out.length ≤ i ∧ getsN b (N - i) a out = Q ∧ Kd.R (Kd.int .i64) 3 wr w.heap.size (fun k => k ≠ w.heap.size ∧ k ≠ w.heap.size + 1) s9 out ∧ Below w.heap.size w wr ∧ w.heap.size + 1 < wr.heap.size ∧ wr.heap[w.heap.size]? = some (.cells #[.slice A b.length c] 55 (0, 0)) ∧ wr.heap[w.heap.size + 1]? = some (.cells #[.int .i64 (a : Int)] 3 (0, 0)))) (fun _ _ s26 _ => N - (intOf s26).toNat)
  case atStart => exact ⟨0, at_, [], rfl, rfl, ⟨Nat.zero_le _, by omega, by simp, HQ1.out, Kd.R_nil _ _ _ _ _, HBox.out.2.2.1, by have := HBox.out.2.2.2; omega, HBox.out.1, HBox.out.2.1⟩⟩
  case round =>
   obtain ⟨i, a, out, rfl, rfl, hJ⟩ := hrel
   obtain ⟨hi, ha, hol, hgs, hRo, hB, hsz, hx1, hx2⟩ := hJ.out
   obtain ⟨Av, cv, rfl⟩ := Kd.R_slice hRo
   have HRo := Aside0.mk hRo
   have HB := Aside0.mk hB
   have HSz := Aside0.mk hsz
   by_cases hin : i < N
   ·
    rw [show N - i = (N - (i + 1)) + 1 from by omega, getsN] at hgs
    have HN := Aside0.mk (next_any A c b a wr w.heap.size (w.heap.size + 1) ha hc HBt.out hlen (Kd.C_below HR.out hB) hx1 hx2)
    have hgi := getI_i64 (byt_drop HBt.out a)
    have hgo : (getI (b.drop a)).2.2 = 0 → (a : Int) + (getI (b.drop a)).2.1 ≤ (b.length : Int) := fun h => by
     obtain ⟨k1, k2, _⟩ := getI_ok (n := (getI (b.drop a)).1) (k := (getI (b.drop a)).2.1) (byt_drop HBt.out a) (by rw [← h])
     rw [List.length_drop] at k2; omega
    have HX1 := Aside0.mk hx1
    have HX2 := Aside0.mk hx2
    generalize getI (b.drop a) = q at *
    obtain ⟨x, u, e⟩ := q
    dsimp only at hgs HN hgi hgo
    obtain ⟨hxi, hu0, hu9, he0, he3⟩ := hgi
    obtain ⟨U, rfl⟩ := Int.eq_ofNat_of_zero_le hu0
    have hol8 : (out.length + 1) * 8 ≤ 140737488355328 := by omega
    clear hJ hRo hB hsz hx1 hx2 hxi
    by_cases he : e = 0
    ·
     subst he
     have hgo := hgo rfl
     rw [if_neg (by simp), Int.toNat_natCast] at hgs
     have HGs := Aside0.mk hgs
     clear hgs
     go_wp2_with (first | (go_at_call 127; refine HN.out.mono ?_; rintro e w2 ⟨rfl, ⟨kq, hw2⟩⟩; have HW2 := Aside0.mk (next_state hw2 HRo.out HB.out (Nat.le_refl _) HSz.out HX1.out HX2.out); clear hw2) | (at_builtin; refine Kd.R_append (Kd.int .i64) (w0 := w) (W := w2) w.heap.size rfl (.tmp 37) (.tmp 39) 22 3 (.int .i64 0) 8 rfl Try.underlying22 info3 rfl (by decide) (by omega) (.slice Av out.length cv) out x [.int .i64 x] (fun k => k ≠ w.heap.size ∧ k ≠ w.heap.size + 1) (fun _ => False) rfl rfl rfl (fun _ h => h.elim) (fun k hk => show k ≠ w.heap.size ∧ k ≠ w.heap.size + 1 by have := HW2.out.2.2.1; omega) HW2.out.1 HW2.out.2.1 HW2.out.2.1.size hol8 ?_; intro v3 w3 HO3 HB3 HG3 _; have hx13 := (HG3.block _ (by have := HW2.out.2.2.1; omega) (fun e => (HW2.out.1.1 _ e.symm).1 rfl)).trans HW2.out.2.2.2.1; have hx23 := (HG3.block _ (by have := HW2.out.2.2.1; omega) (fun e => (HW2.out.1.1 _ e.symm).2 rfl)).trans HW2.out.2.2.2.2; have HO3 := Aside0.mk HO3; have HB3 := Aside0.mk HB3; have HX13 := Aside0.mk hx13; have HX23 := Aside0.mk hx23; clear HG3 hx13 hx23))
     go_roundw
     case rel => exact ⟨i + 1, a + U, out ++ [x], by go_num, by go_num, ⟨by omega, by omega, by simp; omega, HGs.out, HO3.out, HB3.out, blk_lt HX23.out, HX13.out, by rw [HX23.out]; simp⟩⟩
     case measure => simp [intOf]; omega
    ·
     rw [if_pos he] at hgs
     have HGs := Aside0.mk hgs
     have he1 : (e == 0) = false := beq_eq_false_iff_ne.2 he
     have he2 : (e != 0) = true := bne_iff_ne.2 he
     clear hgs he hgo
     go_wp2_with (go_at_call 127; refine HN.out.mono ?_; rintro e w2 ⟨rfl, ⟨kq, hw2⟩⟩; have HW2 := Aside0.mk hw2; clear hw2)
     go_ret3
     exact ⟨.slice none 0 0, by rw [← HGs.out]; rfl, by rw [← HGs.out]; exact Kd.R_nil _ _ _ _ _, by rw [HW2.out]; exact pw_below_drewN (HB.out.setCell (by simp) _) _⟩
   ·
    obtain rfl : i = N := by omega
    rw [Nat.sub_self, getsN] at hgs
    have HGs := Aside0.mk hgs
    clear hgs hJ hRo hB hsz hx1 hx2
    go_wp2
    go_ret3
    exact ⟨_, by rw [← HGs.out]; rfl, by rw [← HGs.out]; exact Kd.R_mono HRo.out fun _ _ => trivial, HB.out⟩
 ·
  have HQ1 : Aside0 (([], 0, e) = Q) := ⟨by rw [HQ.out, if_pos he]⟩
  have he1 : (e == 0) = false := beq_eq_false_iff_ne.2 he
  have he2 : (e != 0) = true := bne_iff_ne.2 he
  clear he hck HQ
  go_enter Try.func79, Try.ntmps79
  go_wp2_with (go_at_call 111; refine HCn.out.mono ?_; rintro e w' ⟨rfl, rfl⟩)
  go_ret3
  exact ⟨.slice none 0 0, by rw [← HQ1.out]; rfl, by rw [← HQ1.out]; exact Kd.R_nil _ _ _ _ _, Below.refl _ _⟩
end Go.Proofs.Ytcdjeimjbbknjaa.PAll
namespace Go.Proofs.Ytcdjeimjbbknjaa.PAll
open Go.RowKit Go.Proofs.YtcdjeimjbbknjaaW.PrintWords Go.Proofs.YtcdjeimjbbknjaaW.PrintLast Go.Proofs.YtcdjeimjbbknjaaW.PrintMore
set_option linter.unusedVariables false
set_option linter.unusedSimpArgs false

theorem rn_start (w : World) (n : Nat) (hn : n ≤ 1000000000) :
    Rn w (w.alloc (.cells (madeCells #[.bool false, .slice none 0 0, .slice none 0 0, .int .i64 0] (n * 4)) 102)) w.heap.size n (fun _ => .slice none 0 0) (List.replicate n nd0) := by
 have hc : ∀ o, o < n * 4 → (w.alloc (.cells (madeCells #[.bool false, .slice none 0 0, .slice none 0 0, .int .i64 0] (n * 4)) 102)).cell? ⟨w.heap.size, o, none⟩ = (#[Value.bool false, .slice none 0 0, .slice none 0 0, .int .i64 0])[o % 4]? := by
  intro o ho
  have h4 : o % 4 < 4 := Nat.mod_lt _ (by omega)
  rw [blk_cell (blk_new w _) o]
  simp only [madeCells, Array.getElem?_map, Array.getElem?_range, ho, if_true, Option.map_some]
  rw [getElem!_pos _ _ (by simpa using h4)]
  simp
 have hnd : ∀ j, j < n → rdN (List.replicate n nd0) (j : Int) = nd0 := by
  intro j hj
  unfold rdN rd_T102
  rw [Int.toNat_natCast, List.getD_eq_getElem?_getD, List.getElem?_replicate, if_pos hj]; rfl
 have hrow : ∀ m, m < 2 * n → rowN (List.replicate n nd0) m = [] := by
  intro m hm
  unfold rowN
  rw [hnd (m / 2) (by omega)]
  split <;> rfl
 refine ⟨by simp, ⟨_, blk_new _ _⟩, Nat.le_refl _, fun j hj => ?_, fun m hm => ?_, fun j hj => ?_, fun m hm => ?_, ?_, below_alloc (Below.refl _ _) _⟩
 ·
  rw [hc _ (by omega), hnd j hj, show j * 4 % 4 = 0 from by omega]; rfl
 ·
  rw [hc _ (by omega)]
  rcases Nat.mod_two_eq_zero_or_one m with h | h
  ·
   rw [h, show (m / 2 * 4 + (1 + 0)) % 4 = 1 from by omega]; rfl
  ·
   rw [h, show (m / 2 * 4 + (1 + 1)) % 4 = 2 from by omega]; rfl
 ·
  rw [hc _ (by omega), hnd j hj, show (j * 4 + 3) % 4 = 3 from by omega]; rfl
 ·
  rw [hrow m hm]; exact Kd.R_nil _ _ _ _ _
 ·
  intro m m' k _ _ h; simp [Value.ownBlock] at h
theorem Rn.toC {w0 W : World} {B n : Nat} {vs : Nat → Value} {N : List Nd} (h : Rn w0 W B n vs N) (hn : n ≤ 1000000000) : Kd.C k102 W (some ⟨B, 0, none⟩) N.length N := by
 refine ⟨rfl, by rw [h.len]; omega, fun _ => ⟨_, rfl, fun j p hj => ?_⟩⟩
 obtain ⟨hl, hp⟩ := List.getElem?_eq_some_iff.1 hj
 have hjn : j < n := by rw [← h.len]; exact hl
 have hrd : rdN N (j : Int) = p := by unfold rdN rd_T102; rw [Int.toNat_natCast, List.getD_eq_getElem?_getD, hj]; rfl
 obtain ⟨A1, c1, e1, l1, g1⟩ := Kd.R_reads (h.row (2 * j) (by omega))
 obtain ⟨A2, c2, e2, l2, g2⟩ := Kd.R_reads (h.row (2 * j + 1) (by omega))
 have r1 : rowN N (2 * j) = p.f1 := by unfold rowN; rw [if_pos (by omega), show 2 * j / 2 = j from by omega, hrd]
 have r2 : rowN N (2 * j + 1) = p.f2 := by unfold rowN; rw [if_neg (by omega), show (2 * j + 1) / 2 = j from by omega, hrd]
 rw [r1] at e1 l1 g1
 rw [r2] at e2 l2 g2
 have x0 := h.c0 j hjn
 have x1 := h.cv (2 * j) (by omega)
 have x2 := h.cv (2 * j + 1) (by omega)
 have x3 := h.c3 j hjn
 rw [hrd] at x0 x3
 rw [e1, show 2 * j / 2 * 4 + (1 + 2 * j % 2) = j * 4 + 1 from by omega] at x1
 rw [e2, show (2 * j + 1) / 2 * 4 + (1 + (2 * j + 1) % 2) = j * 4 + 2 from by omega] at x2
 refine ⟨[.bool p.f0, .slice A1 p.f1.length c1, .slice A2 p.f2.length c2, .int .i64 p.f3], rfl, k102_mk W p l1 g1 l2 g2, fun i u hu => ?_⟩
 have had : ∀ o, (⟨B, 0, none⟩ : Addr).add o = ⟨B, o, none⟩ := fun o => by simp [Addr.add]; exact fun h => h.symm
 change W.cell? ((⟨B, 0, none⟩ : Addr).add (j * 4 + i)) = some u
 rw [had]
 match i, hu with
 | 0, hu => injection hu with hu; subst hu; exact x0
 | 1, hu => injection hu with hu; subst hu; exact x1
 | 2, hu => injection hu with hu; subst hu; exact x2
 | 3, hu => injection hu with hu; subst hu; exact x3
 | i + 4, hu => simp at hu
theorem make_nodes (n : Nat) (hn : n ≤ 1000000000) (W : World) : (Instr.makeSlice 99 (.int .i64 (n : Int)) (.int .i64 (n : Int))).run Try.prog W = .ok (.slice (some ⟨W.heap.size, 0, none⟩) n n) (W.alloc (.cells (madeCells #[.bool false, .slice none 0 0, .slice none 0 0, .int .i64 0] (n * 4)) 102)) := by
 obtain ⟨i, hi, hie⟩ := Option.map_eq_some_iff.1 info102
 simp only [Prod.mk.injEq] at hie
 obtain ⟨hz, hsz, hby⟩ := hie
 have h := run_make (P := Try.prog) W 99 102 i _ Try.underlying99 hi hz .i64 .i64 (n : Int) (n : Int) (by omega) (by omega) (by rw [hby]; omega) (by omega)
 rw [hsz, Int.toNat_natCast, show (Value.agg #[.bool false, .slice none 0 0, .slice none 0 0, .int .i64 0]).cells = #[.bool false, .slice none 0 0, .slice none 0 0, .int .i64 0] from rfl] at h
 simpa using h
end Go.Proofs.Ytcdjeimjbbknjaa.PAll
namespace Go.Proofs.Ytcdjeimjbbknjaa.PAll
open Go.RowKit Go.Proofs.YtcdjeimjbbknjaaW.PrintWords Go.Proofs.YtcdjeimjbbknjaaW.PrintLast Go.Proofs.YtcdjeimjbbknjaaW.PrintMore
set_option linter.unusedVariables false
set_option linter.unusedSimpArgs false

def RdPost (w : World) (q : List Nd × Bool) (e : Ending) (w' : World) : Prop :=
  ∃ A' c', e = .returned (.tuple #[.slice A' q.1.length c', .bool q.2]) ∧ q.1.length ≤ c' ∧ Kd.C k102 w' A' q.1.length q.1 ∧ Below w.heap.size w w'
theorem putR_1 (N : List Nd) (i : Nat) (x : Int) : putR N (2 * i) x = put1 N i x := by unfold putR; rw [if_pos (by omega), show 2 * i / 2 = i from by omega]
theorem putR_2 (N : List Nd) (i : Nat) (x : Int) : putR N (2 * i + 1) x = put2 N i x := by unfold putR; rw [if_neg (by omega), show (2 * i + 1) / 2 = i from by omega]
theorem rowN_1 (N : List Nd) (i : Nat) : rowN N (2 * i) = (rdN N (i : Int)).f1 := by unfold rowN; rw [if_pos (by omega), show 2 * i / 2 = i from by omega]
theorem rowN_2 (N : List Nd) (i : Nat) : rowN N (2 * i + 1) = (rdN N (i : Int)).f2 := by unfold rowN; rw [if_neg (by omega), show (2 * i + 1) / 2 = i from by omega]
def Short (N : List Nd) (n k : Nat) : Prop := ∀ m, m < 2 * n → (rowN N m).length ≤ k
theorem short0 (n : Nat) : Short (List.replicate n nd0) n 1 := by
 intro m hm
 have : rdN (List.replicate n nd0) ((m / 2 : Nat) : Int) = nd0 := by
  unfold rdN rd_T102
  rw [Int.toNat_natCast, List.getD_eq_getElem?_getD, List.getElem?_replicate, if_pos (by omega)]; rfl
 unfold rowN
 rw [this]
 split <;> simp [nd0]
theorem Short.put {N : List Nd} {n k m : Nat} (h : Short N n k) (hl : N.length = n) (hm : m < 2 * n) (x : Int) : Short (putR N m x) n (k + 1) := by
 intro j hj
 rw [putR_row N m x (by omega)]
 split
 ·
  have := h m hm; simp; omega
 ·
  have := h j hj; omega
theorem Short.mono {N : List Nd} {n k k' : Nat} (h : Short N n k) (hk : k ≤ k') : Short N n k' := fun m hm => Nat.le_trans (h m hm) hk
theorem Short.putF {N : List Nd} {n k i : Nat} {b : Bool} (h : Short N n k) (hi : i < N.length) : Short (putF N i b) n k := by
 intro m hm
 have : rowN (PAll.putF N i b) m = rowN N m := by
  unfold rowN PAll.putF
  rw [rdN_set _ hi]
  by_cases e : m / 2 = i
  ·
   subst e; simp
  ·
   simp [e]
 rw [this]; exact h m hm
theorem Rn.app1 {w0 W wA : World} {B n i : Nat} {vs : Nat → Value} {N : List Nd} {v1 : Value} (h : Rn w0 W B n vs N) (hi : i < n) {x : Int} (HO : Kd.R (Kd.int .i64) 3 wA w0.heap.size (fun _ => True) v1 ((rdN N (i : Int)).f1 ++ [x])) (HG : W.grownBy wA (vs (2 * i)).ownBlock) (hown : v1.ownBlock = (vs (2 * i)).ownBlock ∨ ∃ b, v1.ownBlock = some b ∧ W.heap.size ≤ b) :
    wA.frozen? ⟨B, i * 4 + 1, none⟩ = false ∧ wA.cell? ⟨B, i * 4 + 1, none⟩ = some (vs (2 * i)) ∧ Rn w0 (wA.setCell ⟨B, i * 4 + 1, none⟩ v1) B n (fun j => if j = 2 * i then v1 else vs j) (put1 N i x) := by
 rw [← rowN_1] at HO
 obtain ⟨⟨cs, a⟩, b, c⟩ := h.app (by omega) HO HG hown
 rw [show 2 * i / 2 * 4 + (1 + 2 * i % 2) = i * 4 + 1 from by omega] at b c
 rw [putR_1] at c
 exact ⟨by simp [World.frozen?, a], b, c⟩
theorem Rn.app2 {w0 W wA : World} {B n i : Nat} {vs : Nat → Value} {N : List Nd} {v1 : Value} (h : Rn w0 W B n vs N) (hi : i < n) {x : Int} (HO : Kd.R (Kd.int .i64) 3 wA w0.heap.size (fun _ => True) v1 ((rdN N (i : Int)).f2 ++ [x])) (HG : W.grownBy wA (vs (2 * i + 1)).ownBlock) (hown : v1.ownBlock = (vs (2 * i + 1)).ownBlock ∨ ∃ b, v1.ownBlock = some b ∧ W.heap.size ≤ b) :
    wA.frozen? ⟨B, i * 4 + 2, none⟩ = false ∧ wA.cell? ⟨B, i * 4 + 2, none⟩ = some (vs (2 * i + 1)) ∧ Rn w0 (wA.setCell ⟨B, i * 4 + 2, none⟩ v1) B n (fun j => if j = 2 * i + 1 then v1 else vs j) (put2 N i x) := by
 rw [← rowN_2] at HO
 obtain ⟨⟨cs, a⟩, b, c⟩ := h.app (by omega) HO HG hown
 rw [show (2 * i + 1) / 2 * 4 + (1 + (2 * i + 1) % 2) = i * 4 + 2 from by omega] at b c
 rw [putR_2] at c
 exact ⟨by simp [World.frozen?, a], b, c⟩
theorem Rn.cells {w0 W : World} {B n i : Nat} {vs : Nat → Value} {N : List Nd} (h : Rn w0 W B n vs N) (hi : i < n) :
    W.cell? ⟨B, i * 4 + 1, none⟩ = some (vs (2 * i)) ∧ W.cell? ⟨B, i * 4 + 2, none⟩ = some (vs (2 * i + 1)) ∧ Kd.R (Kd.int .i64) 3 W w0.heap.size (fun _ => True) (vs (2 * i)) (rdN N (i : Int)).f1 ∧ Kd.R (Kd.int .i64) 3 W w0.heap.size (fun _ => True) (vs (2 * i + 1)) (rdN N (i : Int)).f2 := by
 have a := h.cv (2 * i) (by omega)
 have b := h.cv (2 * i + 1) (by omega)
 have c := h.row (2 * i) (by omega)
 have d := h.row (2 * i + 1) (by omega)
 rw [show 2 * i / 2 * 4 + (1 + 2 * i % 2) = i * 4 + 1 from by omega] at a
 rw [show (2 * i + 1) / 2 * 4 + (1 + (2 * i + 1) % 2) = i * 4 + 2 from by omega] at b
 rw [rowN_1] at c
 rw [rowN_2] at d
 exact ⟨a, b, c, d⟩
set_option maxHeartbeats 4000000 in
set_option maxRecDepth 100000 in
theorem read_main (A0 : Option Addr) (c0 : Nat) (l : List Int) (w : World) (hr : Kd.C (Kd.int .i64) w A0 l.length l) (hc : l.length ≤ c0) (hlen : l.length ≤ 1000000000) (hi64 : ∀ x ∈ l, -9223372036854775808 ≤ x ∧ x ≤ 9223372036854775807) (n : Nat) (hn : rd l 0 = (n : Int)) (hn1 : 1 ≤ n) (hn2 : n < l.length) :
    Calls Try.prog 80 #[.slice A0 l.length c0] w (RdPost w (rdOut l n n 0 1 (List.replicate n nd0))) := by
 have hmk := make_nodes n (by omega)
 have HS := Aside0.mk (rn_start w n (by omega))
 obtain ⟨ad, rfl, hx0⟩ := Kd.at_int hr 0 (by omega) (by omega)
 rw [hn] at hx0
 have hx : w.cell? ad = some (.int .i64 (n : Int)) := by simpa [Addr.add] using hx0
 have HR := Aside0.mk hr
 have h1 : ¬ (n : Int) < 1 := by omega
 have h2 : ¬ (l.length : Int) ≤ (n : Int) := by omega
 have h3 : ¬ ((l.length : Int) = 0) := by omega
 have h4 : (0 : Int) < (l.length : Int) := by omega
 have hb3 : ((l.length : Int) == 0) = false := beq_eq_false_iff_ne.2 h3
 have HN : Aside0 (rd l 0 = (n : Int)) := ⟨hn⟩
 have HI := Aside0.mk hi64
 clear hr hn hx0 hi64
 obtain ⟨Q, hQ⟩ : ∃ Q, Q = rdOut l n n 0 1 (List.replicate n nd0) := ⟨_, rfl⟩
 rw [← hQ]
 have HQ := Aside0.mk hQ.symm
 clear hQ
 go_enter Try.func80, Try.ntmps80
 go_wp2
 have HL : Aside0 (∀ X, Below w.heap.size w X → ∀ k : Nat, k < l.length → X.cell? (ad.add k) = some (.int .i64 (rd l (k : Int)))) := ⟨fun X hb k hk => by
  obtain ⟨ad', e, h⟩ := Kd.at_int (Kd.C_below HR.out hb) (k : Int) (by omega) (by omega)
  injection e with e
  subst e
  rwa [Int.toNat_natCast] at h⟩
 clear hx hmk
 go_loopw [5, 32] (fun s5 s32 wr => ∃ (at_ i : Nat) (vs : Nat → Value) (N : List Nd), s5 = .int .i64 (at_ : Int) ∧ s32 = .int .i64 (i : Int) ∧ Aside0 (i ≤ n ∧ at_ ≤ 2000000000 ∧ Short N n at_ ∧ Rn w wr w.heap.size n vs N ∧ rdOut l n (n - i) i at_ N = Q)) (fun _ s32 _ => n - (intOf s32).toNat)
 case atStart => exact ⟨1, 0, _, _, rfl, rfl, ⟨Nat.zero_le _, by omega, short0 n, HS.out, HQ.out⟩⟩
 case round =>
  obtain ⟨at_, i, vs, N, rfl, rfl, hJ⟩ := hrel
  obtain ⟨hi, hat, hsh, hRn, hEq⟩ := hJ.out
  have HSh := Aside0.mk hsh
  clear hsh
  have HRn := Aside0.mk hRn
  clear hJ
  by_cases hin : i < n
  ·
   rw [show n - i = (n - (i + 1)) + 1 from by omega, rdOut] at hEq
   by_cases hA : l.length ≤ at_
   ·
    rw [if_pos (.inl hA)] at hEq
    have hA' : (l.length : Int) ≤ (at_ : Int) := by omega
    have HEq := Aside0.mk hEq
    clear hRn hEq
    go_wp2
    go_ret2
    exact ⟨none, 0, by rw [← HEq.out]; rfl, by rw [← HEq.out]; exact Nat.le_refl _, by rw [← HEq.out]; exact Kd.C_nil _ _, HRn.out.below⟩
   ·
    have hA' : ¬ (l.length : Int) ≤ (at_ : Int) := by omega
    have x0 := HL.out wr hRn.below at_ (by omega)
    have hxr := HI.out _ (rd_mem' (by omega : at_ < l.length))
    have HLat := Aside0.mk x0
    generalize hxx : rd l (at_ : Int) = x at *
    have HXx := Aside0.mk hxx
    clear hxx
    have w1 : IntKind.i64.wrap ((l.length : Int) - (at_ : Int)) = (l.length : Int) - (at_ : Int) := wrap_in (by omega) (by omega)
    have w2 : IntKind.i64.wrap ((l.length : Int) - (at_ : Int) - 1) = (l.length : Int) - (at_ : Int) - 1 := wrap_in (by omega) (by omega)
    have hal : (at_ : Int) < (l.length : Int) := by omega
    by_cases hB : x < 0
    ·
     rw [if_pos (.inr (.inl hB))] at hEq
     have HEq := Aside0.mk hEq
     clear hRn hEq
     go_wp2
     go_ret2
     exact ⟨none, 0, by rw [← HEq.out]; rfl, by rw [← HEq.out]; exact Nat.le_refl _, by rw [← HEq.out]; exact Kd.C_nil _ _, HRn.out.below⟩
    ·
     obtain ⟨e, he⟩ : ∃ e : Nat, x / 2 = (e : Int) := ⟨(x / 2).toNat, by omega⟩
     obtain ⟨r, hr⟩ : ∃ r : Nat, ((l.length : Int) - (at_ : Int) - 1) / 2 = (r : Int) := ⟨(((l.length : Int) - (at_ : Int) - 1) / 2).toNat, by omega⟩
     have q1 : IntKind.i64.wrap (x.tdiv 2) = (e : Int) := (IntWalk.i64_quo x 2 ⟨by omega, by omega, by omega⟩).trans he
     have q2 : IntKind.i64.wrap (((l.length : Int) - (at_ : Int) - 1).tdiv 2) = (r : Int) := (IntWalk.i64_quo _ 2 ⟨by omega, by omega, by omega⟩).trans hr
     rw [he, hr] at hEq
     by_cases hC : (r : Int) < (e : Int)
     ·
      rw [if_pos (.inr (.inr hC))] at hEq
      have HEq := Aside0.mk hEq
      clear hRn hEq he hr
      go_wp2
      go_ret2
      exact ⟨none, 0, by rw [← HEq.out]; rfl, by rw [← HEq.out]; exact Nat.le_refl _, by rw [← HEq.out]; exact Kd.C_nil _ _, HRn.out.below⟩
     ·
      rw [if_neg (fun h => h.elim hA (fun h => h.elim hB hC)), Int.toNat_natCast] at hEq
      have hfit : at_ + 1 + 2 * e ≤ l.length := by omega
      rw [show decide (x % 2 = 1) = (x % 2 == 1) from rfl] at hEq
      have HEq := Aside0.mk hEq
      have y0 := hRn.c0 i hin
      have y1 := hRn.free (i * 4)
      have hii : (i : Int) < (n : Int) := by omega
      have hii2 : (i : Int).toNat = i := by omega
      have HSet := Aside0.mk (hRn.setF hin (x % 2 == 1))
      clear hRn hEq he hr w1 w2 q2 hxr
      have w4 : IntKind.i64.wrap ((at_ : Int) + 1) = (at_ : Int) + 1 := wrap_in (by omega) (by omega)
      have w5 : IntKind.i64.wrap ((e : Int) * 2) = (e : Int) * 2 := wrap_in (by omega) (by omega)
      have w6 : IntKind.i64.wrap ((at_ : Int) + 1 + (e : Int) * 2) = (at_ : Int) + 1 + (e : Int) * 2 := wrap_in (by omega) (by omega)
      go_upto_region 11 with fail
      obtain ⟨W1, hW1⟩ : ∃ W1, W1 = wr.setCell ⟨w.heap.size, i * 4, none⟩ (.bool (x % 2 == 1)) := ⟨_, rfl⟩
      rw [← hW1] at HSet ⊢
      clear hW1 y0 y1
      have x1 := HL.out W1 HSet.out.below at_ (by omega)
      rw [HXx.out] at x1
      clear x0
      have HSh1 : Aside0 (Short (putF N i (x % 2 == 1)) n (at_ + 1)) := ⟨(HSh.out.putF (by rw [HRn.out.len]; exact hin)).mono (by omega)⟩
      generalize putF N i (x % 2 == 1) = N1 at *
      go_wp2
      clear x1 q1 w4 w5 w6
      obtain ⟨Qi, hQi⟩ : ∃ Qi, Qi = rdIn l n i e (at_ + 1) N1 := ⟨_, rfl⟩
      rw [← hQi] at HEq
      have HQi := Aside0.mk hQi.symm
      clear hQi
      go_loopw [8] (fun s8 wx => ∃ (kk j : Nat) (vs2 : Nat → Value) (N2 : List Nd), s8 = .int .i64 (kk : Int) ∧ Aside0 (kk = at_ + 1 + 2 * j ∧ j ≤ e ∧ Short N2 n kk ∧ Rn w wx w.heap.size n vs2 N2 ∧ rdIn l n i (e - j) kk N2 = Qi)) (fun s8 _ => l.length - (intOf s8).toNat)
      case atStart => exact ⟨at_ + 1, 0, vs, N1, by simp, ⟨rfl, Nat.zero_le _, HSh1.out, HSet.out, HQi.out⟩⟩
      case round =>
       obtain ⟨kk, j, vs2, N2, rfl, hJ2⟩ := hrel
       obtain ⟨hkk, hj, hsh2, hRn2, hEq2⟩ := hJ2.out
       have HKk := Aside0.mk hkk
       have HSh2 := Aside0.mk hsh2
       clear hsh2
       have HR2 := Aside0.mk hRn2
       have HE2 := Aside0.mk hEq2
       clear hJ2
       by_cases hjl : j < e
       ·
        have hkl : kk + 1 < l.length := by omega
        rw [show e - j = (e - (j + 1)) + 1 from by omega, rdIn] at hEq2
        have z0 := HL.out wr hRn2.below kk (by omega)
        have z1 := HL.out wr hRn2.below (kk + 1) hkl
        have z1' := cell_add z1
        generalize hyy : rd l ((kk + 1 : Nat) : Int) = y at *
        generalize hzz : rd l (kk : Int) = z at *
        have HYy := Aside0.mk hyy
        have HZz := Aside0.mk hzz
        clear hyy hzz
        have t2 : (kk : Int) < (at_ : Int) + 1 + (e : Int) * 2 := by omega
        have k1 : IntKind.i64.wrap ((kk : Int) + 1) = (kk : Int) + 1 := wrap_in (by omega) (by omega)
        have k2 : (kk : Int) + 1 < (l.length : Int) := by omega
        have k3 : (0 : Int) ≤ (kk : Int) + 1 := by omega
        have k4 : ((kk : Int) + 1).toNat = kk + 1 := by omega
        have k5 : (kk : Int) < (l.length : Int) := by omega
        clear hkk
        by_cases hY : y < 0
        ·
         rw [if_pos (.inl hY)] at hEq2
         have HE3 := Aside0.mk (show (([], false) : List Nd × Bool) = Q by rw [← HEq.out, ← hEq2])
         clear hEq2 hRn2
         go_wp2
         go_ret2
         exact ⟨none, 0, by rw [← HE3.out]; rfl, by rw [← HE3.out]; exact Nat.le_refl _, by rw [← HE3.out]; exact Kd.C_nil _ _, HR2.out.below⟩
        ·
         by_cases hY2 : (n : Int) ≤ y
         ·
          rw [if_pos (.inr hY2)] at hEq2
          have HE3 := Aside0.mk (show (([], false) : List Nd × Bool) = Q by rw [← HEq.out, ← hEq2])
          clear hEq2 hRn2
          go_wp2
          go_ret2
          exact ⟨none, 0, by rw [← HE3.out]; rfl, by rw [← HE3.out]; exact Nat.le_refl _, by rw [← HE3.out]; exact Kd.C_nil _ _, HR2.out.below⟩
         ·
          rw [if_neg (fun h => h.elim hY hY2)] at hEq2
          obtain ⟨p1, _, rw1, _⟩ := hRn2.cells hin
          have p1' : (wr.alloc (.cells #[.int .i64 z] 3)).cell? ⟨w.heap.size, i * 4 + 1, none⟩ = some (vs2 (2 * i)) := pw_cell_below (below_alloc (Below.refl _ wr) _) p1
          have HRow := Aside0.mk rw1
          have HE3 := Aside0.mk hEq2
          have HRoom : Aside0 (((rdN N2 (i : Int)).f1.length + 1) * 8 ≤ 140737488355328) := ⟨by have := HSh2.out (2 * i) (by omega); rw [rowN_1] at this; omega⟩
          have HSh3 := Aside0.mk (HSh2.out.put HR2.out.len (show 2 * i < 2 * n by omega) z)
          rw [putR_1] at HSh3
          have hii : (i : Int) < (n : Int) := by omega
          have hii2 : (i : Int).toNat = i := by omega
          clear hRn2 hEq2 rw1
          go_upto_region 17 with fail
          go_cut [81] from 82 to 132 (fun s81 wx => ∃ vs3, Rn w wx w.heap.size n vs3 (put1 N2 i z))
          case first =>
           go_region_law (refine Kd.R_append_step (Kd.int .i64) (w0 := w) (W := wr.drew) w.heap.size (by rfl) (.tmp 108) (.tmp 113) 22 3 (.int .i64 0) 8 rfl Try.underlying22 info3 rfl (by decide) (by omega) (vs2 (2 * i)) (rdN N2 (i : Int)).f1 z [.int .i64 z] (fun _ => True) (fun _ => False) rfl rfl rfl (fun _ h => h.elim) (fun _ _ => trivial) (Kd.R_drew HRow.out) HR2.out.below.drew HR2.out.below.drew.size HRoom.out ?_; intro v3 wA HO1 HB1 HG1 hown1; have happ := (HR2.out.step (Below.refl _ _).drew).app1 hin HO1 HG1 hown1; have t5 := happ.2.1; have t6 := happ.1; have HA := Aside0.mk happ.2.2; clear happ; obtain ⟨A3, c3, rfl⟩ := Kd.R_slice HO1)
           all_goals go_wp2
           all_goals go_meet
           all_goals (rw [show ((rdN N2 (i : Int)).f1 ++ [z]).length = (rdN N2 (i : Int)).f1.length + 1 from by simp] at HA; exact ⟨_, HA.out⟩)
          case rest =>
           obtain ⟨vs3, hR3⟩ := hcut
           have HR3 := Aside0.mk hR3
           clear HRow HRoom p1 p1'
           obtain ⟨_, p2, _, rw2⟩ := hR3.cells hin
           have p2' : (wc.alloc (.cells #[.int .i64 y] 3)).cell? ⟨w.heap.size, i * 4 + 2, none⟩ = some (vs3 (2 * i + 1)) := pw_cell_below (below_alloc (Below.refl _ wc) _) p2
           have z3 := HL.out wc hR3.below (kk + 1) hkl
           rw [HYy.out] at z3
           have z3' := cell_add z3
           have HRow := Aside0.mk rw2
           have HRoom : Aside0 (((rdN (put1 N2 i z) (i : Int)).f2.length + 1) * 8 ≤ 140737488355328) := ⟨by have := HSh3.out (2 * i + 1) (by omega); rw [rowN_2] at this; omega⟩
           have HSh4 := Aside0.mk (HSh3.out.put HR3.out.len (show 2 * i + 1 < 2 * n by omega) y)
           rw [putR_2] at HSh4
           have k6 : IntKind.i64.wrap ((kk : Int) + 2) = (kk : Int) + 2 := wrap_in (by omega) (by omega)
           clear hR3 rw2 z0 z1 z1'
           go_upto_region 18 with fail
           go_region_law (refine Kd.R_append_step (Kd.int .i64) (w0 := w) (W := wc.drew) w.heap.size (by rfl) (.tmp 123) (.tmp 129) 22 3 (.int .i64 0) 8 rfl Try.underlying22 info3 rfl (by decide) (by omega) (vs3 (2 * i + 1)) (rdN (put1 N2 i z) (i : Int)).f2 y [.int .i64 y] (fun _ => True) (fun _ => False) rfl rfl rfl (fun _ h => h.elim) (fun _ _ => trivial) (Kd.R_drew HRow.out) HR3.out.below.drew HR3.out.below.drew.size HRoom.out ?_; intro v3 wA HO1 HB1 HG1 hown1; have happ := (HR3.out.step (Below.refl _ _).drew).app2 hin HO1 HG1 hown1; have t5 := happ.2.1; have t6 := happ.1; have HA := Aside0.mk happ.2.2; clear happ; obtain ⟨A3, c3, rfl⟩ := Kd.R_slice HO1)
           all_goals (
            rw [show ((rdN (put1 N2 i z) (i : Int)).f2 ++ [y]).length = (rdN (put1 N2 i z) (i : Int)).f2.length + 1 from by simp] at HA
            have HA2 := Aside0.mk HA.out
            clear HA
            go_wp2
            go_roundw
            case rel => exact ⟨kk + 2, j + 1, _, _, by go_num, ⟨by have := HKk.out; omega, by omega, HSh4.out.mono (by omega), HA2.out, HE3.out⟩⟩
            case measure => simp [intOf]; omega)
       ·
        obtain rfl : j = e := by omega
        rw [Nat.sub_self, rdIn] at hEq2
        have HE3 := Aside0.mk (show rdOut l n (n - (i + 1)) (i + 1) (at_ + 1 + j * 2) N2 = Q by rw [← HEq.out, ← hEq2])
        clear hEq2 hRn2
        have t2 : ¬ (kk : Int) < (at_ : Int) + 1 + (j : Int) * 2 := by omega
        clear hkk
        go_wp2
        go_roundw
        case rel => exact ⟨at_ + 1 + j * 2, i + 1, vs2, N2, by go_num, by go_num, ⟨by omega, by omega, HSh2.out.mono (by have := HKk.out; omega), HR2.out, HE3.out⟩⟩
        case measure => simp [intOf]; omega
  ·
   obtain rfl : i = n := by omega
   rw [Nat.sub_self, rdOut] at hEq
   have HEq := Aside0.mk hEq
   have hd : ((at_ : Int) == (l.length : Int)) = decide (at_ = l.length) := by
    by_cases e : at_ = l.length
    ·
     rw [decide_eq_true e, e]; simp
    ·
     rw [decide_eq_false e]; exact beq_eq_false_iff_ne.2 (by omega)
   clear hRn hEq
   go_wp2
   go_ret2
   refine ⟨some ⟨w.heap.size, 0, none⟩, i, by rw [← HEq.out]; dsimp only; rw [HRn.out.len]; rfl, by rw [← HEq.out]; dsimp only; rw [HRn.out.len]; exact Nat.le_refl _, by rw [← HEq.out]; exact HRn.out.toC (by omega), HRn.out.below⟩
end Go.Proofs.Ytcdjeimjbbknjaa.PAll
namespace Go.Proofs.Ytcdjeimjbbknjaa.PAll
open Go.RowKit Go.Proofs.YtcdjeimjbbknjaaW.PrintWords Go.Proofs.YtcdjeimjbbknjaaW.PrintLast Go.Proofs.YtcdjeimjbbknjaaW.PrintMore
set_option linter.unusedVariables false
set_option linter.unusedSimpArgs false

theorem read_any (A0 : Option Addr) (c0 : Nat) (l : List Int) (w : World) (hr : Kd.C (Kd.int .i64) w A0 l.length l) (hc : l.length ≤ c0) (hlen : l.length ≤ 1000000000) (hi64 : ∀ x ∈ l, -9223372036854775808 ≤ x ∧ x ≤ 9223372036854775807) :
    Calls Try.prog 80 #[.slice A0 l.length c0] w (RdPost w (readN l)) := by
 by_cases h0 : l.length = 0
 ·
  have HQ : Aside0 (readN l = ([], false)) := ⟨by unfold readN; rw [if_pos (.inl h0)]⟩
  have hb : ((l.length : Int) == 0) = true := beq_iff_eq.2 (by omega)
  clear hr hi64
  go_enter Try.func80, Try.ntmps80
  go_wp2
  go_ret2
  exact ⟨none, 0, by rw [HQ.out]; rfl, by rw [HQ.out]; exact Nat.le_refl _, by rw [HQ.out]; exact Kd.C_nil _ _, Below.refl _ _⟩
 ·
  obtain ⟨ad, rfl, hx0⟩ := Kd.at_int hr 0 (by omega) (by omega)
  have hx : w.cell? ad = some (.int .i64 (rd l 0)) := by simpa [Addr.add] using hx0
  have hb : ((l.length : Int) == 0) = false := beq_eq_false_iff_ne.2 (by omega)
  have h4 : (0 : Int) < (l.length : Int) := by omega
  clear hx0
  by_cases h1 : rd l 0 < 1
  ·
   have HQ : Aside0 (readN l = ([], false)) := ⟨by unfold readN; rw [if_pos (.inr (.inl h1))]⟩
   clear hr hi64
   generalize rd l 0 = x at *
   go_enter Try.func80, Try.ntmps80
   go_wp2
   go_ret2
   exact ⟨none, 0, by rw [HQ.out]; rfl, by rw [HQ.out]; exact Nat.le_refl _, by rw [HQ.out]; exact Kd.C_nil _ _, Below.refl _ _⟩
  ·
   by_cases h2 : (l.length : Int) ≤ rd l 0
   ·
    have HQ : Aside0 (readN l = ([], false)) := ⟨by unfold readN; rw [if_pos (.inr (.inr h2))]⟩
    clear hr hi64
    generalize rd l 0 = x at *
    go_enter Try.func80, Try.ntmps80
    go_wp2
    go_ret2
    exact ⟨none, 0, by rw [HQ.out]; rfl, by rw [HQ.out]; exact Nat.le_refl _, by rw [HQ.out]; exact Kd.C_nil _ _, Below.refl _ _⟩
   ·
    have hq : readN l = rdOut l (rd l 0).toNat (rd l 0).toNat 0 1 (List.replicate (rd l 0).toNat nd0) := by unfold readN; rw [if_neg (fun h => h.elim h0 (fun h => h.elim h1 h2))]
    rw [hq]
    exact read_main (some ad) c0 l w hr hc hlen hi64 (rd l 0).toNat (by omega) (by omega) (by omega)
end Go.Proofs.Ytcdjeimjbbknjaa.PAll
namespace Go.Proofs.Ytcdjeimjbbknjaa.PAll
open Go.RowKit Go.Proofs.YtcdjeimjbbknjaaW.PrintWords Go.Proofs.YtcdjeimjbbknjaaW.PrintLast Go.Proofs.YtcdjeimjbbknjaaW.PrintMore
attribute [local go_sem] max2_int min2_int max_two min_two max_three min_three max_four min_four   -- for this text's walks alone
set_option linter.unusedVariables false
set_option linter.unusedSimpArgs false






end Go.Proofs.Ytcdjeimjbbknjaa.PAll
namespace Go.Proofs.Ytcdjeimjbbknjaa.PAll
open Go.RowKit Go.Proofs.YtcdjeimjbbknjaaW.PrintWords Go.Proofs.YtcdjeimjbbknjaaW.PrintLast Go.Proofs.YtcdjeimjbbknjaaW.PrintMore
attribute [local go_sem] max2_int min2_int max_two min_two max_three min_three max_four min_four   -- for this text's walks alone
set_option linter.unusedVariables false
set_option linter.unusedSimpArgs false

end Go.Proofs.Ytcdjeimjbbknjaa.PAll
namespace Go.Proofs.Ytcdjeimjbbknjaa.PAll
open Go.RowKit Go.Proofs.YtcdjeimjbbknjaaW.PrintWords Go.Proofs.YtcdjeimjbbknjaaW.PrintLast Go.Proofs.YtcdjeimjbbknjaaW.PrintMore
set_option linter.unusedVariables false
set_option linter.unusedSimpArgs false

def DcPost (w : World) (q : List (List Int) × Int) (e : Ending) (w' : World) : Prop :=
  Below w.heap.size w w' ∧ ((q.2 = 0 ∧ ∃ g, e = .returned (.tuple #[.pointer (some ⟨g, 0, none⟩), .int .i64 0]) ∧ GraphAt w' g (graphOf q.1)) ∨ (q.2 ≠ 0 ∧ e = .returned (.tuple #[.pointer none, .int .i64 q.2])))
theorem dc_read {w W : World} {v : Value} {l : List Int} (hR : Kd.R (Kd.int .i64) 3 W w.heap.size (fun _ => True) v l) (hl : l.length ≤ 1000000) (hi : ∀ x ∈ l, i64 x) :
    ∃ A c, v = .slice A l.length c ∧ l.length ≤ c ∧ Kd.C (Kd.int .i64) W A l.length l ∧ Calls Try.prog 80 #[.slice A l.length c] W (RdPost W (readN l)) := by
 obtain ⟨A, c, rfl, hc, hC⟩ := Kd.R_reads hR
 exact ⟨A, c, rfl, hc, hC, read_any A c l W hC hc (by omega) hi⟩
set_option maxHeartbeats 4000000 in
set_option maxRecDepth 100000 in
theorem decode_any (A : Option Addr) (c : Nat) (b : List Int) (w : World) (hr : Kd.C (Kd.int .u8) w A b.length b) (hc : b.length ≤ c) (hb : byt b) (hlen : b.length ≤ 1000000) :
    Calls Try.prog 36 #[.slice A b.length c] w (DcPost w (decN b)) := by
 have HGs := Aside0.mk (getInts_any A c b w hr hc hb (by omega))
 obtain ⟨hi1, he0, he3, hl1⟩ := getsI_i64 hb
 have HD : Aside0 (decN b = if (getsI b).2.2 ≠ 0 then ([], (getsI b).2.2)
 else if (readN (getsI b).1).2 = false ∨ (getsI b).2.1 ≠ (b.length : Int) then ([], 2)
 else if (wordsN (readN (getsI b).1).1).2 = false then ([], 2)
 else if checkL (wordsN (readN (getsI b).1).1).1 ≠ 0 then ([], 2)
 else if listN (graphOf (wordsN (readN (getsI b).1).1).1) ≠ (getsI b).1 then ([], 2)
 else ((wordsN (readN (getsI b).1).1).1, 0)) := ⟨rfl⟩
 generalize getsI b = q at *
 obtain ⟨l, u, e⟩ := q
 dsimp only at hi1 he0 he3 hl1
 unfold GsPost at HGs
 dsimp only at HGs HD
 generalize decN b = D at *
 have HI := Aside0.mk hi1
 clear hr hb hi1 he0 he3
 by_cases he : e = 0
 ·
  subst he
  rw [if_neg (by simp)] at HD
  by_cases hrd : (readN l).2 = false ∨ u ≠ (b.length : Int)
  ·
   have HQ : Aside0 (D = ([], 2)) := ⟨by rw [HD.out, if_pos hrd]⟩
   have hpk : ((readN l).2 = false) ∨ ((readN l).2 = true ∧ (u == (b.length : Int)) = false ∧ (u != (b.length : Int)) = true) := by
    rcases hrd with h | h
    ·
     exact .inl h
    ·
     cases hh : (readN l).2
     ·
      exact .inl rfl
     ·
      exact .inr ⟨rfl, beq_eq_false_iff_ne.2 h, bne_iff_ne.2 h⟩
   clear HD hrd
   generalize hrl : readN l = R at *
   have HRl := Aside0.mk hrl
   obtain ⟨N, ok⟩ := R
   dsimp only at hpk
   clear hrl
   rcases hpk with rfl | ⟨rfl, hu1, hu2⟩
   ·
    go_enter Try.func36, Try.ntmps36
    go_wp2_with (first | (go_at_call 79; refine HGs.out.mono ?_; rintro e w1 ⟨v, rfl, hR1, hB1⟩; obtain ⟨A1, c1, rfl, hc1, hC1, hcall⟩ := dc_read hR1 (by omega) HI.out; rw [HRl.out] at hcall; have HCall := Aside0.mk hcall; have HB1 := Aside0.mk hB1; have HC1 := Aside0.mk hC1; clear hR1 hB1 hC1 hcall) | (go_at_call 80; refine HCall.out.mono ?_; rintro e w2 ⟨A2, c2, rfl, hc2, hC2, hB2⟩; have HC2 := Aside0.mk hC2; have HBx := Aside0.mk hB2; clear hC2 hB2))
    go_ret2
    rw [HQ.out]
    exact ⟨HB1.out.trans (HBx.out.mono HB1.out.size), .inr ⟨by decide, rfl⟩⟩
   ·
    go_enter Try.func36, Try.ntmps36
    go_wp2_with (first | (go_at_call 79; refine HGs.out.mono ?_; rintro e w1 ⟨v, rfl, hR1, hB1⟩; obtain ⟨A1, c1, rfl, hc1, hC1, hcall⟩ := dc_read hR1 (by omega) HI.out; rw [HRl.out] at hcall; have HCall := Aside0.mk hcall; have HB1 := Aside0.mk hB1; have HC1 := Aside0.mk hC1; clear hR1 hB1 hC1 hcall) | (go_at_call 80; refine HCall.out.mono ?_; rintro e w2 ⟨A2, c2, rfl, hc2, hC2, hB2⟩; have HC2 := Aside0.mk hC2; have HBx := Aside0.mk hB2; clear hC2 hB2))
    go_ret2
    rw [HQ.out]
    exact ⟨HB1.out.trans (HBx.out.mono HB1.out.size), .inr ⟨by decide, rfl⟩⟩
  ·
   have hok : (readN l).2 = true := by cases hh : (readN l).2; exact absurd (.inl hh) hrd; rfl
   have hu : u = (b.length : Int) := Classical.byContradiction fun h => hrd (.inr h)
   rw [if_neg hrd] at HD
   have hu1 : (u == (b.length : Int)) = true := beq_iff_eq.2 hu
   have hu2 : (u != (b.length : Int)) = false := bne_eq_false_iff_eq.2 hu
   clear hrd hu
   have hrok := readN_ok (l := l) (N := (readN l).1) (by rw [← hok])
   have HRl : Aside0 (readN l = ((readN l).1, true)) := ⟨by rw [← hok]⟩
   clear hok
   generalize (readN l).1 = N at *
   obtain ⟨hpos, hNl, heven, hlead⟩ := hrok
   obtain ⟨hpl, hfew, hshort⟩ := wordsN_ok hpos hlead heven
   have HWo0 := Aside0.mk (fun (A : Option Addr) (c : Nat) (W : World) (hc : N.length ≤ c) (hC : Kd.C k102 W A N.length N) => words_any A c N W hc hC hpos (by omega) hlead heven hpl)
   have HSum : Aside0 (sumUpto (wordsN N).1 (wordsN N).1.length ≤ 4611686018427387904) := ⟨by
    rw [sumUpto_is _ _ (Nat.le_refl _), List.take_length]
    have h1 := sum_le_mul hshort
    have h2 := Nat.mul_le_mul hfew (show N.length ≤ 1000000 by omega)
    omega⟩
   clear hpos heven hlead hpl hfew hshort
   generalize hwo : wordsN N = R at *
   obtain ⟨ws, ok2⟩ := R
   dsimp only at HD HSum HWo0
   have HWo := Aside0.mk HWo0.out
   clear hwo HWo0
   cases ok2 with
   | false =>
    have HQ : Aside0 (D = ([], 2)) := ⟨by rw [HD.out, if_pos rfl]⟩
    clear HD
    go_enter Try.func36, Try.ntmps36
    go_wp2_with (first | (go_at_call 79; refine HGs.out.mono ?_; rintro e w1 ⟨v, rfl, hR1, hB1⟩; obtain ⟨A1, c1, rfl, hc1, hC1, hcall⟩ := dc_read hR1 (by omega) HI.out; rw [HRl.out] at hcall; have HCall := Aside0.mk hcall; have HB1 := Aside0.mk hB1; have HC1 := Aside0.mk hC1; clear hR1 hB1 hC1 hcall) | (go_at_call 80; refine HCall.out.mono ?_; rintro e w2 ⟨A2, c2, rfl, hc2, hC2, hB2⟩; have HC2 := Aside0.mk hC2; have HBx := Aside0.mk hB2; clear hC2 hB2) | (go_at_call 81; refine (HWo.out _ _ _ hc2 HC2.out).mono ?_; rintro e w3 ⟨v3, rfl, hR3, hB3⟩; obtain ⟨A3, c3, rfl, hc3, hC3⟩ := Kd.R_reads hR3; have HC3 := Aside0.mk hC3; have HBx3 := Aside0.mk (HBx.out.trans (hB3.mono HBx.out.size)); clear hR3 hB3 hC3))
    go_ret2
    rw [HQ.out]
    exact ⟨HB1.out.trans (HBx3.out.mono HB1.out.size), .inr ⟨by decide, rfl⟩⟩
   | true =>
    rw [if_neg (by simp)] at HD
    by_cases hck : checkL ws ≠ 0
    ·
     have HQ : Aside0 (D = ([], 2)) := ⟨by rw [HD.out, if_pos hck]⟩
     have HCk := Aside0.mk hck
     have hk1 : (checkL ws == 0) = false := beq_eq_false_iff_ne.2 hck
     have hk2 : (checkL ws != 0) = true := bne_iff_ne.2 hck
     clear HD hck
     go_enter Try.func36, Try.ntmps36
     go_wp2_with (first | (go_at_call 79; refine HGs.out.mono ?_; rintro e w1 ⟨v, rfl, hR1, hB1⟩; obtain ⟨A1, c1, rfl, hc1, hC1, hcall⟩ := dc_read hR1 (by omega) HI.out; rw [HRl.out] at hcall; have HCall := Aside0.mk hcall; have HB1 := Aside0.mk hB1; have HC1 := Aside0.mk hC1; clear hR1 hB1 hC1 hcall) | (go_at_call 80; refine HCall.out.mono ?_; rintro e w2 ⟨A2, c2, rfl, hc2, hC2, hB2⟩; have HC2 := Aside0.mk hC2; have HBx := Aside0.mk hB2; clear hC2 hB2) | (go_at_call 81; refine (HWo.out _ _ _ hc2 HC2.out).mono ?_; rintro e w3 ⟨v3, rfl, hR3, hB3⟩; obtain ⟨A3, c3, rfl, hc3, hC3⟩ := Kd.R_reads hR3; have HC3 := Aside0.mk hC3; have HBx3 := Aside0.mk (HBx.out.trans (hB3.mono HBx.out.size)); clear hR3 hB3 hC3) | (go_at_call 19; refine (build_bad A3 c3 ws w3 HC3.out hc3 HSum.out HCk.out).mono ?_; rintro e w4 ⟨rfl, hd4⟩; have HBx4 := Aside0.mk (HBx3.out.trans (hd4.below.mono HBx3.out.size)); clear hd4))
     go_ret2
     rw [HQ.out]
     exact ⟨HB1.out.trans (HBx4.out.mono HB1.out.size), .inr ⟨by decide, rfl⟩⟩
    ·
     have hck0 : checkL ws = 0 := by simpa using hck
     rw [if_neg hck] at HD
     have HGd := Aside0.mk (checkL_good hck0)
     have HGl := Aside0.mk (graph_list HGd.out)
     clear hck hck0
     by_cases heq : listN (graphOf ws) = l
     ·
      have HQ : Aside0 (D = (ws, 0)) := ⟨by rw [HD.out, if_neg (fun h => h heq)]⟩
      have hde : decide (listN (graphOf ws) = l) = true := decide_eq_true heq
      clear HD heq
      go_enter Try.func36, Try.ntmps36
      go_wp2_with (first | (go_at_call 79; refine HGs.out.mono ?_; rintro e w1 ⟨v, rfl, hR1, hB1⟩; obtain ⟨A1, c1, rfl, hc1, hC1, hcall⟩ := dc_read hR1 (by omega) HI.out; rw [HRl.out] at hcall; have HCall := Aside0.mk hcall; have HB1 := Aside0.mk hB1; have HC1 := Aside0.mk hC1; clear hR1 hB1 hC1 hcall) | (go_at_call 80; refine HCall.out.mono ?_; rintro e w2 ⟨A2, c2, rfl, hc2, hC2, hB2⟩; have HC2 := Aside0.mk hC2; have HBx := Aside0.mk hB2; clear hC2 hB2) | (go_at_call 81; refine (HWo.out _ _ _ hc2 HC2.out).mono ?_; rintro e w3 ⟨v3, rfl, hR3, hB3⟩; obtain ⟨A3, c3, rfl, hc3, hC3⟩ := Kd.R_reads hR3; have HC3 := Aside0.mk hC3; have HBx3 := Aside0.mk (HBx.out.trans (hB3.mono HBx.out.size)); clear hR3 hB3 hC3) | (go_at_call 19; refine (build_good A3 c3 ws w3 HC3.out hc3 HGd.out).mono ?_; rintro e w4 ⟨g, rfl, hG4, hB4, _⟩; have HBx4 := Aside0.mk (HBx3.out.trans (hB4.mono HBx3.out.size)); have HG4 := Aside0.mk hG4; clear hG4 hB4) | (go_at_call 78; refine (list_any g (graphOf ws) w4 HG4.out HGl.out.2.1 (by have := HGl.out.2.2.2.1; omega)).mono ?_; rintro e w5 ⟨v5, rfl, hR5, hB5⟩; obtain ⟨A5, c5, rfl, hc5, hC5⟩ := Kd.R_reads hR5; have HC5 := Aside0.mk hC5; have HG5 := Aside0.mk (HG4.out.below hB5); have HBx5 := Aside0.mk (HBx4.out.trans (hB5.mono HBx4.out.size)); clear hR5 hB5 hC5) | (go_at_call 82; refine (slices_Equal_int_int.calls 1000000001 A5 c5 (listN (graphOf ws)) A1 c1 l _ w5 HC5.out hc5 (Kd.C_below HC1.out HBx5.out) hc1 (equal_is _ _ (by have := HGl.out.2.2.2.1; omega) _ (by have := HGl.out.2.2.2.1; omega))).mono ?_; rintro e w6 ⟨rfl, hd6⟩; have HG6 := Aside0.mk (HG5.out.drawn hd6); have HBx6 := Aside0.mk (HBx5.out.trans (hd6.below.mono HBx5.out.size)); clear hd6))
      go_ret2
      rw [HQ.out]
      exact ⟨HB1.out.trans (HBx6.out.mono HB1.out.size), .inl ⟨rfl, g, rfl, HG6.out⟩⟩
     ·
      have HQ : Aside0 (D = ([], 2)) := ⟨by rw [HD.out, if_pos heq]⟩
      have hde : decide (listN (graphOf ws) = l) = false := decide_eq_false heq
      clear HD heq
      go_enter Try.func36, Try.ntmps36
      go_wp2_with (first | (go_at_call 79; refine HGs.out.mono ?_; rintro e w1 ⟨v, rfl, hR1, hB1⟩; obtain ⟨A1, c1, rfl, hc1, hC1, hcall⟩ := dc_read hR1 (by omega) HI.out; rw [HRl.out] at hcall; have HCall := Aside0.mk hcall; have HB1 := Aside0.mk hB1; have HC1 := Aside0.mk hC1; clear hR1 hB1 hC1 hcall) | (go_at_call 80; refine HCall.out.mono ?_; rintro e w2 ⟨A2, c2, rfl, hc2, hC2, hB2⟩; have HC2 := Aside0.mk hC2; have HBx := Aside0.mk hB2; clear hC2 hB2) | (go_at_call 81; refine (HWo.out _ _ _ hc2 HC2.out).mono ?_; rintro e w3 ⟨v3, rfl, hR3, hB3⟩; obtain ⟨A3, c3, rfl, hc3, hC3⟩ := Kd.R_reads hR3; have HC3 := Aside0.mk hC3; have HBx3 := Aside0.mk (HBx.out.trans (hB3.mono HBx.out.size)); clear hR3 hB3 hC3) | (go_at_call 19; refine (build_good A3 c3 ws w3 HC3.out hc3 HGd.out).mono ?_; rintro e w4 ⟨g, rfl, hG4, hB4, _⟩; have HBx4 := Aside0.mk (HBx3.out.trans (hB4.mono HBx3.out.size)); have HG4 := Aside0.mk hG4; clear hG4 hB4) | (go_at_call 78; refine (list_any g (graphOf ws) w4 HG4.out HGl.out.2.1 (by have := HGl.out.2.2.2.1; omega)).mono ?_; rintro e w5 ⟨v5, rfl, hR5, hB5⟩; obtain ⟨A5, c5, rfl, hc5, hC5⟩ := Kd.R_reads hR5; have HC5 := Aside0.mk hC5; have HG5 := Aside0.mk (HG4.out.below hB5); have HBx5 := Aside0.mk (HBx4.out.trans (hB5.mono HBx4.out.size)); clear hR5 hB5 hC5) | (go_at_call 82; refine (slices_Equal_int_int.calls 1000000001 A5 c5 (listN (graphOf ws)) A1 c1 l _ w5 HC5.out hc5 (Kd.C_below HC1.out HBx5.out) hc1 (equal_is _ _ (by have := HGl.out.2.2.2.1; omega) _ (by have := HGl.out.2.2.2.1; omega))).mono ?_; rintro e w6 ⟨rfl, hd6⟩; have HG6 := Aside0.mk (HG5.out.drawn hd6); have HBx6 := Aside0.mk (HBx5.out.trans (hd6.below.mono HBx5.out.size)); clear hd6))
      go_ret2
      rw [HQ.out]
      exact ⟨HB1.out.trans (HBx6.out.mono HB1.out.size), .inr ⟨by decide, rfl⟩⟩
 ·
  have HQ : Aside0 (D = ([], e)) := ⟨by rw [HD.out, if_pos he]⟩
  have he1 : (e == 0) = false := beq_eq_false_iff_ne.2 he
  have he2 : (e != 0) = true := bne_iff_ne.2 he
  have HE : Aside0 (e ≠ 0) := ⟨he⟩
  clear he HD
  go_enter Try.func36, Try.ntmps36
  go_wp2_with (go_at_call 79; refine HGs.out.mono ?_; rintro e w1 ⟨v, rfl, hR1, hB1⟩; obtain ⟨A1, c1, rfl⟩ := Kd.R_slice hR1; have HB1 := Aside0.mk hB1; clear hR1 hB1)
  go_ret2
  rw [HQ.out]
  exact ⟨HB1.out, .inr ⟨HE.out, rfl⟩⟩
end Go.Proofs.Ytcdjeimjbbknjaa.PAll
namespace Go.Proofs.Ytcdjeimjbbknjaa.PAll
open Go.RowKit Go.Proofs.YtcdjeimjbbknjaaW.PrintWords Go.Proofs.YtcdjeimjbbknjaaW.PrintLast Go.Proofs.YtcdjeimjbbknjaaW.PrintMore Go.Proofs.Ytcdjeimjbbknjaa.Res
set_option linter.unusedVariables false
set_option linter.unusedSimpArgs false

theorem num_zero {r : List (List Int)} (hf : finR r = true) : r.getD 0 [] = [] := by
 cases r with
 | nil => rfl
 | cons w l =>
  cases w with
  | nil => rfl
  | cons a w => simp [finR] at hf
theorem num_step {r : List (List Int)} (hs : Srt r) {i : Nat} (hi : i < r.length) (h : ¬ (finR r = true ∧ i = 0)) : (if finR r then 1 else 0) ≤ i ∧ i - (if finR r then 1 else 0) < (flat (groups r)).length ∧ r.getD i [] = (flat (groups r)).getD (i - if finR r then 1 else 0) [] := by
 have hb := rest_back hs
 have hl := congrArg List.length hb
 rw [groups_back hs]
 by_cases hf : finR r = true
 ·
  rw [if_pos hf] at hb hl ⊢
  have hi0 : i ≠ 0 := fun e => h ⟨hf, e⟩
  obtain ⟨k, rfl⟩ : ∃ k, i = k + 1 := ⟨i - 1, by omega⟩
  simp only [List.length_append, List.length_singleton] at hl
  refine ⟨by omega, by omega, ?_⟩
  conv => lhs; rw [hb]
  rfl
 ·
  rw [if_neg hf] at hb hl ⊢
  simp only [List.nil_append] at hb hl
  exact ⟨by omega, by omega, by rw [← hb]; rfl⟩
theorem num_group (g : Int × List (List Int)) (gs : List (Int × List (List Int))) (i : Nat) : (i < g.2.length → (flat (g :: gs)).getD i [] = g.1 :: g.2.getD i []) ∧ (g.2.length ≤ i → (flat (g :: gs)).getD i [] = (flat gs).getD (i - g.2.length) []) ∧ (flat (g :: gs)).length = g.2.length + (flat gs).length := by
 have e : flat (g :: gs) = g.2.map (g.1 :: ·) ++ flat gs := by simp [flat]
 rw [e]
 refine ⟨fun h => ?_, fun h => ?_, by simp⟩
 ·
  rw [List.getD_eq_getElem?_getD, List.getElem?_append_left (by simpa using h), List.getElem?_map, List.getD_eq_getElem?_getD, List.getElem?_eq_getElem h]; rfl
 ·
  rw [List.getD_eq_getElem?_getD, List.getElem?_append_right (by simpa using h), List.length_map, List.getD_eq_getElem?_getD]
theorem num_drop {gs : List (Int × List (List Int))} {j i : Nat} (h : i < (flat (gs.drop j)).length) : ∃ g, gs[j]? = some g ∧ (i < g.2.length → (flat (gs.drop j)).getD i [] = g.1 :: g.2.getD i []) ∧ (g.2.length ≤ i → (flat (gs.drop j)).getD i [] = (flat (gs.drop (j + 1))).getD (i - g.2.length) [] ∧ i - g.2.length < (flat (gs.drop (j + 1))).length) := by
 have hj : j < gs.length := by
  rcases Nat.lt_or_ge j gs.length with h1 | h1
  ·
   exact h1
  ·
   rw [List.drop_of_length_le h1] at h; simp [flat] at h
 refine ⟨gs[j], List.getElem?_eq_getElem hj, ?_⟩
 rw [List.drop_eq_getElem_cons hj] at h ⊢
 obtain ⟨h1, h2, h3⟩ := num_group gs[j] (gs.drop (j + 1)) i
 exact ⟨h1, fun hle => ⟨h2 hle, by omega⟩⟩
theorem flat_ne {r : List (List Int)} (hs : Srt r) {i : Nat} (h : i < (flat (groups r)).length) : (flat (groups r)).getD i [] ≠ [] := by
 rw [groups_back hs] at h ⊢
 rw [List.getD_eq_getElem?_getD, List.getElem?_eq_getElem h, Option.getD_some]
 exact (restR_ok hs).2 _ (List.getElem_mem h)
end Go.Proofs.Ytcdjeimjbbknjaa.PAll
namespace Go.Proofs.Ytcdjeimjbbknjaa.PAll
open Go.RowKit Go.Proofs.YtcdjeimjbbknjaaW.PrintWords Go.Proofs.YtcdjeimjbbknjaaW.PrintLast Go.Proofs.YtcdjeimjbbknjaaW.PrintMore Go.Proofs.Ytcdjeimjbbknjaa.Res
set_option linter.unusedVariables false
set_option linter.unusedSimpArgs false

set_option maxHeartbeats 4000000 in
set_option maxRecDepth 100000 in
theorem word_any {ns : List Nd} {Q : List (List (List Int))} (hi : Inv ns Q) (hq : 0 < ns.length) (hb : ∀ r ∈ Q, r.length ≤ 1000000000) (g i0 : Nat) (h : i0 < (rdP Q 0).length) (T : List Int) (hT : (rdP Q 0).getD i0 [] = T) (hTl : T.length ≤ 100000) (w : World) (hg : GraphAt w g ns) :
    Calls Try.prog 26 #[.pointer (some ⟨g, 0, none⟩), .int .i64 (i0 : Int)] w fun e w' => ∃ v, e = .returned (.tuple #[v, .bool true]) ∧ Kd.R (Kd.int .i64) 3 w' w.heap.size (fun _ => True) v T ∧ Below w.heap.size w w' := by
 have hb0 := hb _ (rdP_mem (Int.le_refl 0) (by rw [hi.len]; omega))
 have hc0 : (rdN ns 0).f3 = ((rdP Q 0).length : Int) := (hi.nds 0 hq).count
 have HL := Aside0.mk (len_any g ns w hg hq)
 rw [show (rd_T102 ns 0).f3 = ((rdP Q 0).length : Int) from hc0] at HL
 have HG := Aside0.mk hg
 have HI := Aside0.mk hi
 have HBd := Aside0.mk hb
 have HT0 := Aside0.mk hT
 have HTl := Aside0.mk hTl
 have hh0 : (0 : Int) ≤ (i0 : Int) := by omega
 have hh1 : (i0 : Int) < ((rdP Q 0).length : Int) := by omega
 have HH := Aside0.mk h
 generalize hn0 : (rdP Q 0).length = n0 at *
 have HN0 := Aside0.mk hn0
 clear hn0
 have hd0 : decide (n0 ≤ i0) = false := decide_eq_false (by omega)
 have hd1 : decide ((i0 : Int) < 0) = false := decide_eq_false (by omega)
 clear hg hi hb hT hTl hc0 h
 go_enter Try.func26, Try.ntmps26
 go_wp2
 go_step3
 go_wp2_with (go_at_call 30; refine HL.out.mono ?_; rintro e w' ⟨rfl, rfl⟩)
 go_step3
 go_wp2
 go_loopg [1, 6, 7] T.length (fun kq s1 s6 s7 wr => ∃ (i : Nat) (at_ : Int) (acc : List Int) (Aw : Option Addr) (cw : Nat), s1 = .int .i64 (i : Int) ∧ s6 = .slice Aw acc.length cw ∧ s7 = .int .i64 at_ ∧ Aside0 (0 ≤ at_ ∧ at_ < (ns.length : Int) ∧ i < (rdP Q at_).length ∧ acc ++ (rdP Q at_).getD i [] = T ∧ Kd.R (Kd.int .i64) 3 wr w.heap.size (fun _ => True) (.slice Aw acc.length cw) acc ∧ Below w.heap.size w wr ∧ T.length = acc.length + kq))
 case atStart => exact ⟨i0, 0, [], none, 0, rfl, rfl, rfl, ⟨Int.le_refl _, by omega, by rw [HN0.out]; exact HH.out, HT0.out, Kd.R_nil _ _ _ _ _, Below.refl _ _, by simp⟩⟩
 case round =>
  obtain ⟨i, at_, acc, Aw, cw, rfl, rfl, rfl, hH⟩ := hrel
  obtain ⟨h0, h1, hir, hacc, hR, hB, hgk⟩ := hH.out
  clear hH
  have hnd := HI.out.nds at_.toNat (by omega)
  rw [show ((at_.toNat : Nat) : Int) = at_ from by omega] at hnd
  have hmQ := rdP_mem h0 (by rw [HI.out.len]; exact h1)
  have hs := HI.out.srt _ hmQ
  have hbr := HBd.out _ hmQ
  obtain ⟨ad, A1, c1, A2, c2, c, hcell, hcc, x0, x1, x2, x3, l1, g1, l2, g2⟩ := (HG.out.below hB).node at_ h0 h1
  change Kd.C (Kd.int .i64) wr A1 (rdN ns at_).f1.length (rdN ns at_).f1 at g1
  change Kd.C (Kd.int .i64) wr A2 (rdN ns at_).f2.length (rdN ns at_).f2 at g2
  change (rdN ns at_).f1.length ≤ c1 at l1
  change (rdN ns at_).f2.length ≤ c2 at l2
  rw [show rd_T102 ns at_ = rdN ns at_ from rfl] at x0 x1 x2 x3
  generalize rdN ns at_ = nd at *
  generalize rdP Q at_ = r at *
  obtain ⟨f0, f1, f2, f3⟩ := nd
  dsimp only at *
  have hlt : at_.toNat < ns.length := by omega
  by_cases hend : finR r = true ∧ i = 0
  ·
   obtain ⟨he1, rfl⟩ := hend
   rw [num_zero he1, List.append_nil] at hacc
   subst hacc
   have hf0 : f0 = true := by have := hnd.fin; dsimp only at this; rw [this, he1]
   subst hf0
   have HR := Aside0.mk hR
   have HB := Aside0.mk hB
   clear hnd hmQ hs hbr g1 g2 hR hB he1 hir
   go_wp2
   try rw [Exit.noGoto_ret]
   go_ret2
   exact ⟨_, rfl, HR.out, HB.out⟩
  ·
   obtain ⟨n1, n2, n3⟩ := num_step hs hir hend
   rw [n3] at hacc
   have hf0 : f0 = finR r := hnd.fin
   rw [← hf0] at n1 n2 hacc hend
   have HN := Aside0.mk hnd
   have HS := Aside0.mk hs
   have HR := Aside0.mk hR
   have HB := Aside0.mk hB
   have HG1 := Aside0.mk g1
   have HG2 := Aside0.mk g2
   have hev := Aside0.mk (show f1.length = f2.length from hnd.even)
   clear hnd hmQ hs hR hB g1 g2 hf0 n3
   obtain ⟨ko, rfl⟩ : ∃ m, gk = m + 1 := ⟨gk - 1, by
    have : T.length ≠ acc.length := by
     intro e
     have h2 := congrArg List.length hacc
     rw [List.length_append, e] at h2
     exact flat_ne HS.out n2 (List.eq_nil_of_length_eq_zero (by omega))
    omega⟩
   have HA := Aside0.mk hacc
   have HGK := Aside0.mk hgk
   clear hacc hgk
   cases f0 with
   | true =>
    have hi0 : 0 < i := by rcases Nat.eq_zero_or_pos i with h | h; exact absurd ⟨rfl, h⟩ hend; exact h
    simp only [if_true] at n1 n2 HA
    clear hend
    go_wp2
    have HBx := Aside0.mk (below_alloc (Below.refl wr.heap.size wr) (.cells #[.bool true, .slice A1 f1.length c1, .slice A2 f2.length c2, .int .i64 f3] 102))
    have hbx : (wr.alloc (.cells #[.bool true, .slice A1 f1.length c1, .slice A2 f2.length c2, .int .i64 f3] 102)).heap[wr.heap.size]? = some (.cells #[.bool true, .slice A1 f1.length c1, .slice A2 f2.length c2, .int .i64 f3] 102 (0, 0)) := blk_new _ _
    generalize wr.alloc (.cells #[.bool true, .slice A1 f1.length c1, .slice A2 f2.length c2, .int .i64 f3] 102) = W1 at *
    have b1 : W1.cell? ⟨wr.heap.size, 1, none⟩ = some (.slice A1 f1.length c1) := (blk_cell hbx 1).trans rfl
    have b2 : W1.cell? ⟨wr.heap.size, 2, none⟩ = some (.slice A2 f2.length c2) := (blk_cell hbx 2).trans rfl
    clear hbx
    go_loopg [1, 6, 46] f2.length (fun kq s1 s6 s46 wx => ∃ (j i2 : Nat), s46 = .int .i64 (j : Int) ∧ s1 = .int .i64 (i2 : Int) ∧ s6 = .slice Aw acc.length cw ∧ Aside0 (i2 < (flat ((groups r).drop j)).length ∧ acc ++ (flat ((groups r).drop j)).getD i2 [] = T ∧ f2.length = j + kq ∧ i2 ≤ 1000000000) ∧ wx = W1)
    case atStart => exact ⟨0, i - 1, rfl, by (refine congrArg (Value.int .i64) ?_); omega, rfl, ⟨by rw [List.drop_zero]; exact n2, by rw [List.drop_zero]; exact HA.out, by omega, by omega⟩, rfl⟩
    case round =>
     obtain ⟨j, i2, rfl, rfl, rfl, hJ, rfl⟩ := hrel
     obtain ⟨m1, m2, m3, m4⟩ := hJ.out
     have M3 := Aside0.mk m3
     clear m3
     obtain ⟨gp, e1, e2, e3⟩ := num_drop m1
     have hgl : f2.length = (groups r).length := by have := congrArg List.length HN.out.goes; simpa using this
     have hj : j < f2.length := by rw [hgl]; exact (List.getElem?_eq_some_iff.1 e1).1
     obtain ⟨gp', e1', q1, q2, q3, q4⟩ := HN.out.kid (i := j) hj
     dsimp only at q1 q2 q3 q4
     rw [e1] at e1'
     obtain rfl := Option.some.inj e1'
     have q5 : rd f2 (j : Int) < (ns.length : Int) := by have := HI.out.len; omega
     have hnk := HI.out.nds (rd f2 (j : Int)).toNat (by omega)
     rw [show (((rd f2 (j : Int)).toNat : Nat) : Int) = rd f2 (j : Int) from by omega] at hnk
     have hcnt := hnk.count
     rw [q2] at hcnt
     have hgQ := HBd.out _ (rdP_mem q3 q4)
     rw [q2] at hgQ
     obtain ⟨adj, hAj, hy⟩ := Kd.at_int (Kd.C_below HG2.out HBx.out) (j : Int) (by omega) (by omega)
     obtain ⟨ads, hAs, hz⟩ := Kd.at_int (Kd.C_below HG1.out HBx.out) (j : Int) (by omega) (by have := hev.out; omega)
     subst hAj hAs
     rw [Int.toNat_natCast] at hy hz
     obtain ⟨adq, _, _, _, _, cq, hcq, hlq, _, _, _, hyq, _⟩ := (HG.out.below (HB.out.trans (HBx.out.mono HB.out.size))).node (rd f2 (j : Int)) q3 q5
     rw [show (rd_T102 ns (rd f2 (j : Int))).f3 = (gp.2.length : Int) from hcnt] at hyq
     have hj1 : j < f1.length := by have := hev.out; omega
     have hmx := Kd.C_max HG2.out
     have HQ := Aside0.mk q2
     rw [q1] at hz
     generalize rd f2 (j : Int) = tt at *
     clear hcnt hnk q1 q2 q4 e1 e1' hgl
     have hq5 : tt.toNat < ns.length := by omega
     by_cases hlt2 : i2 < gp.2.length
     ·
      have HA2 := Aside0.mk ((e2 hlt2) ▸ m2)
      have HRw := Aside0.mk (Kd.R_below HR.out HBx.out)
      have HBw := Aside0.mk (HB.out.trans (HBx.out.mono HB.out.size))
      have hal : (acc.length + 1) * 8 ≤ 140737488355328 := by have := HTl.out; have := HGK.out; omega
      clear e2 e3 m1 m2
      go_wp2_with (at_builtin; refine Kd.R_append (Kd.int .i64) (w0 := w) w.heap.size rfl (.tmp 61) (.tmp 67) 22 3 (.int .i64 0) 8 rfl Try.underlying22 info3 rfl (by decide) (by omega) (.slice Aw acc.length cw) acc gp.1 [.int .i64 gp.1] (fun _ => True) (fun _ => False) rfl rfl rfl (fun _ h => h.elim) (fun _ _ => trivial) HRw.out HBw.out HBw.out.size hal ?_; intro v2 w2 HO2 HB2 _ _; obtain ⟨A9, c9, hv9⟩ := Kd.R_slice HO2; subst hv9; have HO2 := Aside0.mk HO2; have HB2 := Aside0.mk HB2)
      go_roundg ko
      case measure => omega
      case rel => exact ⟨i2, tt, acc ++ [gp.1], _, _, rfl, by simp, rfl, ⟨q3, q5, by rw [HQ.out]; exact hlt2, by rw [HQ.out]; simpa using HA2.out, HO2.out, HB2.out, by have := HGK.out; simp only [List.length_append, List.length_singleton]; omega⟩⟩
     ·
      obtain ⟨e4, e5⟩ := e3 (by omega)
      have hge : gp.2.length ≤ i2 := by omega
      have hgI : (gp.2.length : Int) ≤ (i2 : Int) := by omega
      have HE := Aside0.mk (e4 ▸ m2)
      clear e2 e3 e4 m1 m2
      cases gk with
      | zero => have := M3.out; omega
      | succ ki =>
       go_wp2
       go_roundg ki
       case measure => omega
       case rel =>
        refine ⟨j + 1, i2 - gp.2.length, ?_, ?_, rfl, ⟨e5, HE.out, by have := M3.out; omega, by omega⟩, rfl⟩
        ·
         exact congrArg (Value.int .i64) (by omega)
        ·
         exact congrArg (Value.int .i64) (by omega)
   | false =>
    simp only [Bool.false_eq_true, if_false, Nat.sub_zero] at n1 n2 HA
    clear hend
    go_wp2
    have HBx := Aside0.mk (below_alloc (Below.refl wr.heap.size wr) (.cells #[.bool false, .slice A1 f1.length c1, .slice A2 f2.length c2, .int .i64 f3] 102))
    have hbx : (wr.alloc (.cells #[.bool false, .slice A1 f1.length c1, .slice A2 f2.length c2, .int .i64 f3] 102)).heap[wr.heap.size]? = some (.cells #[.bool false, .slice A1 f1.length c1, .slice A2 f2.length c2, .int .i64 f3] 102 (0, 0)) := blk_new _ _
    generalize wr.alloc (.cells #[.bool false, .slice A1 f1.length c1, .slice A2 f2.length c2, .int .i64 f3] 102) = W1 at *
    have b1 : W1.cell? ⟨wr.heap.size, 1, none⟩ = some (.slice A1 f1.length c1) := (blk_cell hbx 1).trans rfl
    have b2 : W1.cell? ⟨wr.heap.size, 2, none⟩ = some (.slice A2 f2.length c2) := (blk_cell hbx 2).trans rfl
    clear hbx
    go_loopg [1, 6, 46] f2.length (fun kq s1 s6 s46 wx => ∃ (j i2 : Nat), s46 = .int .i64 (j : Int) ∧ s1 = .int .i64 (i2 : Int) ∧ s6 = .slice Aw acc.length cw ∧ Aside0 (i2 < (flat ((groups r).drop j)).length ∧ acc ++ (flat ((groups r).drop j)).getD i2 [] = T ∧ f2.length = j + kq ∧ i2 ≤ 1000000000) ∧ wx = W1)
    case atStart => exact ⟨0, i, rfl, rfl, rfl, ⟨by rw [List.drop_zero]; exact n2, by rw [List.drop_zero]; exact HA.out, by omega, by omega⟩, rfl⟩
    case round =>
     obtain ⟨j, i2, rfl, rfl, rfl, hJ, rfl⟩ := hrel
     obtain ⟨m1, m2, m3, m4⟩ := hJ.out
     have M3 := Aside0.mk m3
     clear m3
     obtain ⟨gp, e1, e2, e3⟩ := num_drop m1
     have hgl : f2.length = (groups r).length := by have := congrArg List.length HN.out.goes; simpa using this
     have hj : j < f2.length := by rw [hgl]; exact (List.getElem?_eq_some_iff.1 e1).1
     obtain ⟨gp', e1', q1, q2, q3, q4⟩ := HN.out.kid (i := j) hj
     dsimp only at q1 q2 q3 q4
     rw [e1] at e1'
     obtain rfl := Option.some.inj e1'
     have q5 : rd f2 (j : Int) < (ns.length : Int) := by have := HI.out.len; omega
     have hnk := HI.out.nds (rd f2 (j : Int)).toNat (by omega)
     rw [show (((rd f2 (j : Int)).toNat : Nat) : Int) = rd f2 (j : Int) from by omega] at hnk
     have hcnt := hnk.count
     rw [q2] at hcnt
     have hgQ := HBd.out _ (rdP_mem q3 q4)
     rw [q2] at hgQ
     obtain ⟨adj, hAj, hy⟩ := Kd.at_int (Kd.C_below HG2.out HBx.out) (j : Int) (by omega) (by omega)
     obtain ⟨ads, hAs, hz⟩ := Kd.at_int (Kd.C_below HG1.out HBx.out) (j : Int) (by omega) (by have := hev.out; omega)
     subst hAj hAs
     rw [Int.toNat_natCast] at hy hz
     obtain ⟨adq, _, _, _, _, cq, hcq, hlq, _, _, _, hyq, _⟩ := (HG.out.below (HB.out.trans (HBx.out.mono HB.out.size))).node (rd f2 (j : Int)) q3 q5
     rw [show (rd_T102 ns (rd f2 (j : Int))).f3 = (gp.2.length : Int) from hcnt] at hyq
     have hj1 : j < f1.length := by have := hev.out; omega
     have hmx := Kd.C_max HG2.out
     have HQ := Aside0.mk q2
     rw [q1] at hz
     generalize rd f2 (j : Int) = tt at *
     clear hcnt hnk q1 q2 q4 e1 e1' hgl
     have hq5 : tt.toNat < ns.length := by omega
     by_cases hlt2 : i2 < gp.2.length
     ·
      have HA2 := Aside0.mk ((e2 hlt2) ▸ m2)
      have HRw := Aside0.mk (Kd.R_below HR.out HBx.out)
      have HBw := Aside0.mk (HB.out.trans (HBx.out.mono HB.out.size))
      have hal : (acc.length + 1) * 8 ≤ 140737488355328 := by have := HTl.out; have := HGK.out; omega
      clear e2 e3 m1 m2
      go_wp2_with (at_builtin; refine Kd.R_append (Kd.int .i64) (w0 := w) w.heap.size rfl (.tmp 61) (.tmp 67) 22 3 (.int .i64 0) 8 rfl Try.underlying22 info3 rfl (by decide) (by omega) (.slice Aw acc.length cw) acc gp.1 [.int .i64 gp.1] (fun _ => True) (fun _ => False) rfl rfl rfl (fun _ h => h.elim) (fun _ _ => trivial) HRw.out HBw.out HBw.out.size hal ?_; intro v2 w2 HO2 HB2 _ _; obtain ⟨A9, c9, hv9⟩ := Kd.R_slice HO2; subst hv9; have HO2 := Aside0.mk HO2; have HB2 := Aside0.mk HB2)
      go_roundg ko
      case measure => omega
      case rel => exact ⟨i2, tt, acc ++ [gp.1], _, _, rfl, by simp, rfl, ⟨q3, q5, by rw [HQ.out]; exact hlt2, by rw [HQ.out]; simpa using HA2.out, HO2.out, HB2.out, by have := HGK.out; simp only [List.length_append, List.length_singleton]; omega⟩⟩
     ·
      obtain ⟨e4, e5⟩ := e3 (by omega)
      have hge : gp.2.length ≤ i2 := by omega
      have hgI : (gp.2.length : Int) ≤ (i2 : Int) := by omega
      have HE := Aside0.mk (e4 ▸ m2)
      clear e2 e3 e4 m1 m2
      cases gk with
      | zero => have := M3.out; omega
      | succ ki =>
       go_wp2
       go_roundg ki
       case measure => omega
       case rel =>
        refine ⟨j + 1, i2 - gp.2.length, ?_, ?_, rfl, ⟨e5, HE.out, by have := M3.out; omega, by omega⟩, rfl⟩
        ·
         exact congrArg (Value.int .i64) (by omega)
        ·
         exact congrArg (Value.int .i64) (by omega)
end Go.Proofs.Ytcdjeimjbbknjaa.PAll
namespace Go.Proofs.Ytcdjeimjbbknjaa.PAll
open Go.RowKit Go.Proofs.YtcdjeimjbbknjaaW.PrintWords Go.Proofs.YtcdjeimjbbknjaaW.PrintLast Go.Proofs.YtcdjeimjbbknjaaW.PrintMore Go.Proofs.Ytcdjeimjbbknjaa.Res
set_option linter.unusedVariables false
set_option linter.unusedSimpArgs false

theorem dgok {ns : List Nd} {Q : List (List (List Int))} (h : Inv ns Q) (hq : 0 < Q.length) : GOk ns := by
 have key : ∀ x ∈ ns, ∃ r ∈ Q, IsNd Q x r := by
  intro x hx
  obtain ⟨i, hi, rfl⟩ := List.getElem_of_mem hx
  refine ⟨rdP Q i, rdP_mem (by omega) (by rw [h.len]; omega), ?_⟩
  have := h.nds i hi
  rwa [rdN_get hi] at this
 refine ⟨fun x hx => ?_, fun x hx => ?_, fun x hx k hk => ?_, fun x hx => ?_, by rw [← h.len]; exact hq⟩
 ·
  obtain ⟨r, hr, hn⟩ := key x hx; exact hn.inc (h.srt r hr)
 ·
  obtain ⟨r, hr, hn⟩ := key x hx; exact hn.even
 ·
  obtain ⟨r, hr, hn⟩ := key x hx; rw [← h.len]; exact hn.lead k hk
 ·
  obtain ⟨r, hr, hn⟩ := key x hx
  have hi := hn.inc (h.srt r hr)
  have hs := syms_sym (h.srt r hr) (h.sym r hr)
  rw [← hn.syms] at hs
  have := inc_small hi hs
  omega
theorem dgraph {ws : List (List Int)} (h : Good ws) : ∃ Q, Inv (graphOf ws) Q ∧ 0 < (graphOf ws).length ∧ rdP Q 0 = ws ∧ GOk (graphOf ws) := by
 obtain ⟨Q, _, hi, hq, h0⟩ := graph_spec h
 exact ⟨Q, hi, by rw [← hi.len]; exact hq, h0, dgok hi hq⟩
theorem dcount {ws : List (List Int)} (h : Good ws) : (rdN (graphOf ws) 0).f3 = (ws.length : Int) := by
 obtain ⟨Q, hi, hl, h0, _⟩ := dgraph h
 have := (hi.nds 0 hl).count
 rw [show ((0 : Nat) : Int) = 0 from rfl, h0] at this
 exact this
theorem toR_all (p : List (List Int) → Prop) : ∀ (rs P : List (List (List Int))) (ts : List Int), (∀ r ∈ rs, p r) → (∀ r ∈ P, p r) → ∀ r ∈ (toR rs P ts).1, p r
  | [], P, ts, _, hP => hP
  | r :: rs, P, ts, hr, hP => by
    rw [toR]
    refine toR_all p rs _ _ (fun x hx => hr x (List.mem_cons_of_mem _ hx)) fun x hx => ?_
    unfold addP at hx
    split at hx
    · exact hP x hx
    · rcases List.mem_append.1 hx with hx | hx
      · exact hP x hx
      · rw [List.mem_singleton.1 hx]; exact hr r List.mem_cons_self
theorem resG_all (p : List (List Int) → Prop) (hp : ∀ r, p r → ∀ g ∈ groups r, p g.2) : ∀ (f : Nat) (P : List (List (List Int))) (i : Nat) (G : List Nd), (∀ r ∈ P, p r) → ∀ r ∈ (resG f P i G).1, p r
  | 0, P, i, G, h => h
  | f + 1, P, i, G, h => by
    rw [resG]
    split
    · rename_i hi
      have hm : p (rdP P i) := h _ (rdP_mem (by omega) (by omega))
      refine resG_all p hp f _ _ _ (toR_all p _ _ _ (fun x hx => ?_) h)
      obtain ⟨g, hg, rfl⟩ := List.mem_map.1 hx
      exact hp _ hm g hg
    · exact h
theorem mem_sum {α : Type} (f : α → Nat) : ∀ {l : List α} {x : α}, x ∈ l → f x ≤ (l.map f).sum
  | y :: l, x, h => by
    rw [List.map_cons, List.sum_cons]
    rcases List.mem_cons.1 h with rfl | h
    · omega
    · have := mem_sum f h; omega
theorem dresid {ws : List (List Int)} (h : Good ws) : ∃ Q, Inv (graphOf ws) Q ∧ 0 < (graphOf ws).length ∧ rdP Q 0 = ws ∧ ∀ r ∈ Q, Srt r ∧ r.length ≤ ws.length := by
 obtain ⟨Q, e, hi, hq, h0⟩ := graph_spec h
 refine ⟨Q, hi, by rw [← hi.len]; exact hq, h0, ?_⟩
 have := resG_all (fun r => Srt r ∧ r.length ≤ ws.length) (fun r hr g hg => ⟨(groups_ok hr.1 g hg).1, by
  have h1 := res_length hr.1
  have h2 := mem_sum (fun g : Int × List (List Int) => g.2.length) hg
  have := hr.2
  omega⟩) ((nodesOf ws).2.length + 1) [ws] 0 [] (by intro r hr; rw [List.mem_singleton.1 hr]; exact ⟨h.sorted, Nat.le_refl _⟩)
 rwa [e] at this
theorem dl_len {ws : List (List Int)} (h : Good ws) (g : Nat) (w : World) (hg : GraphAt w g (graphOf ws)) : Calls Try.prog 30 #[.pointer (some ⟨g, 0, none⟩)] w fun e w' => e = .returned (.int .i64 (ws.length : Int)) ∧ w = w' := by
 obtain ⟨Q, hi, hl, h0, _⟩ := dgraph h
 have := len_any g _ w hg hl
 rwa [show (rd_T102 (graphOf ws) 0).f3 = (ws.length : Int) from dcount h] at this
theorem dl_lenB {ws : List (List Int)} (h : Good ws) (g : Nat) (w : World) (hg : GraphAt w g (graphOf ws)) : Calls Try.prog 30 #[.pointer (some ⟨g, 0, none⟩)] w fun e w' => e = .returned (.int .i64 (ws.length : Int)) ∧ Below w.heap.size w w' := (dl_len h g w hg).mono fun e w' hh => ⟨hh.1, hh.2 ▸ Below.refl _ _⟩
theorem dl_statesB {ws : List (List Int)} (g : Nat) (w : World) (hg : GraphAt w g (graphOf ws)) : Calls Try.prog 42 #[.pointer (some ⟨g, 0, none⟩)] w fun e w' => e = .returned (.int .i64 ((graphOf ws).length : Int)) ∧ Below w.heap.size w w' := (states_any g _ w hg).mono fun e w' hh => ⟨hh.1, hh.2 ▸ Below.refl _ _⟩
theorem dl_finalB {ws : List (List Int)} (g : Nat) (i : Int) (w : World) (hg : GraphAt w g (graphOf ws)) : Calls Try.prog 31 #[.pointer (some ⟨g, 0, none⟩), .int .i64 i] w fun e w' => e = .returned (.bool (finalB (graphOf ws) i)) ∧ Below w.heap.size w w' := (final_any g _ i w hg).mono fun e w' hh => ⟨hh.1, hh.2 ▸ Below.refl _ _⟩
theorem dl_index {ws : List (List Int)} (h : Good ws) (g : Nat) (A0 : Option Addr) (c0 : Nat) (wl : List Int) (w : World) (hg : GraphAt w g (graphOf ws)) (hw : Kd.C (Kd.int .i64) w A0 wl.length wl) (hc : wl.length ≤ c0) :
    Calls Try.prog 22 #[.pointer (some ⟨g, 0, none⟩), .slice A0 wl.length c0] w fun e w' => e = .returned (.tuple #[.int .i64 (if wl ∈ ws then (lessL ws wl : Int) else 0), .bool (decide (wl ∈ ws))]) ∧ Below w.heap.size w w' := by
 obtain ⟨Q, hi, hl, h0, hk⟩ := dgraph h
 have := index_any g _ A0 c0 wl w hg hk hw hc
 rw [index_tells hi hl (by rw [h0]; have := h.few; omega), h0] at this
 by_cases hm : wl ∈ ws
 ·
  rw [if_pos hm] at this
  rw [if_pos hm, decide_eq_true hm]
  exact this
 ·
  rw [if_neg hm] at this
  rw [if_neg hm, decide_eq_false hm]
  exact this
theorem dl_begins {ws : List (List Int)} (h : Good ws) (g : Nat) (A0 : Option Addr) (c0 : Nat) (wl : List Int) (w : World) (hg : GraphAt w g (graphOf ws)) (hw : Kd.C (Kd.int .i64) w A0 wl.length wl) (hc : wl.length ≤ c0) :
    Calls Try.prog 24 #[.pointer (some ⟨g, 0, none⟩), .slice A0 wl.length c0] w fun e w' => e = .returned (.tuple #[.int .i64 (lessL ws wl : Int), .int .i64 ((lessL ws wl : Int) + ((resW ws wl).length : Int))]) ∧ Below w.heap.size w w' := by
 obtain ⟨Q, hi, hl, h0, hk⟩ := dgraph h
 have := begins_any g _ A0 c0 wl w hg hk hw hc
 rwa [begins_tells hi hl (by rw [h0]; have := h.few; omega), h0] at this
theorem dl_step {ws : List (List Int)} (h : Good ws) (g : Nat) (i s : Int) (w : World) (hg : GraphAt w g (graphOf ws)) : Calls Try.prog 33 #[.pointer (some ⟨g, 0, none⟩), .int .i64 i, .int .i64 s] w fun e w' => e = .returned (.int .i64 (stepN (graphOf ws) i s)) ∧ Below w.heap.size w w' := by
 obtain ⟨Q, hi, hl, h0, hk⟩ := dgraph h
 exact step_any g _ i s w hg hk
theorem dl_word {ws : List (List Int)} (h : Good ws) (g : Nat) (i : Nat) (hi : i < ws.length) (w : World) (hg : GraphAt w g (graphOf ws)) :
    Calls Try.prog 26 #[.pointer (some ⟨g, 0, none⟩), .int .i64 (i : Int)] w fun e w' => ∃ A c, e = .returned (.tuple #[.slice A (rdR ws (i : Int)).length c, .bool true]) ∧ (rdR ws (i : Int)).length ≤ c ∧ Kd.C (Kd.int .i64) w' A (rdR ws (i : Int)).length (rdR ws (i : Int)) ∧ Below w.heap.size w w' := by
 obtain ⟨Q, hI, hl, h0, hs⟩ := dresid h
 have hr : (rdP Q 0).getD i [] = rdR ws (i : Int) := by rw [h0, rdR_nat]
 refine (word_any hI hl (fun r hr => by have := (hs r hr).2; have := h.few; omega) g i (by rw [h0]; exact hi) _ hr (by rw [rdR_get hi]; have := h.short _ (List.getElem_mem hi); omega) w hg).mono ?_
 rintro e w' ⟨v, rfl, hR, hb⟩
 obtain ⟨A, c, rfl, hl, hC⟩ := Kd.R_reads hR
 exact ⟨A, c, rfl, hl, hC, hb⟩
end Go.Proofs.Ytcdjeimjbbknjaa.PAll
namespace Go.Proofs.Ytcdjeimjbbknjaa.PAll
open Go.RowKit Go.Proofs.YtcdjeimjbbknjaaW.PrintWords Go.Proofs.YtcdjeimjbbknjaaW.PrintLast Go.Proofs.YtcdjeimjbbknjaaW.PrintMore Go.Proofs.Ytcdjeimjbbknjaa.Res
set_option linter.unusedVariables false
set_option linter.unusedSimpArgs false

def l15W : List (List Int) := [[0], [0, 1], [2, 1]]
def l15L : List Int := [4, 4, 0, 1, 2, 2, 3, 1, 3, 2, 1, 3, 1]
theorem l15_good : Good l15W := by
 refine ⟨?_, ?_, ?_, ?_, ?_⟩ <;> decide
theorem l15_list : listN (graphOf l15W) = l15L := by kernel_rfl
theorem l15_states : (graphOf l15W).length = 4 := by kernel_rfl
theorem l15_bytes : wordbookref01_Ints.f 20 l15L = some (listB l15L) := by kernel_rfl
theorem l15_byt : byt (listB l15L) ∧ (listB l15L).length ≤ 1000 := by
 refine ⟨listB_byt ?_ (by decide), of_decide_eq_true (by kernel_rfl)⟩
 rw [← l15_list]; exact (graph_list l15_good).2.2.2.2
theorem l15_dec : decN (listB l15L) = (l15W, 0) := by rw [← l15_list]; exact decN_listB l15_good
theorem l15_build (w : World) : Calls Try.prog 19 #[.slice (some ⟨w.heap.size + 1 + 1 + 1, 0, none⟩) 3 3]
    ((((w.alloc (.cells #[.int .i64 0] 3)).alloc (.cells #[.int .i64 0, .int .i64 1] 3)).alloc (.cells #[.int .i64 2, .int .i64 1] 3)).alloc (.cells #[.slice (some ⟨w.heap.size, 0, none⟩) 1 1, .slice (some ⟨w.heap.size + 1, 0, none⟩) 2 2, .slice (some ⟨w.heap.size + 1 + 1, 0, none⟩) 2 2] 22))
    fun e w' => ∃ g, e = .returned (.tuple #[.pointer (some ⟨g, 0, none⟩), .int .i64 0]) ∧ GraphAt w' g (graphOf l15W) ∧ Below w.heap.size w w' := by
 have s1 : (w.alloc (.cells #[.int .i64 0] 3)).heap.size = w.heap.size + 1 := by simp
 have s2 : ((w.alloc (.cells #[.int .i64 0] 3)).alloc (.cells #[.int .i64 0, .int .i64 1] 3)).heap.size = w.heap.size + 1 + 1 := by simp
 have s3 : (((w.alloc (.cells #[.int .i64 0] 3)).alloc (.cells #[.int .i64 0, .int .i64 1] 3)).alloc (.cells #[.int .i64 2, .int .i64 1] 3)).heap.size = w.heap.size + 1 + 1 + 1 := by simp
 have b0 : (((w.alloc (.cells #[.int .i64 0] 3)).alloc (.cells #[.int .i64 0, .int .i64 1] 3)).alloc (.cells #[.int .i64 2, .int .i64 1] 3)).heap[w.heap.size]? = some (.cells #[.int .i64 0] 3 (0, 0)) := blk_alloc (blk_alloc (blk_new _ _) _) _
 have b1 : (((w.alloc (.cells #[.int .i64 0] 3)).alloc (.cells #[.int .i64 0, .int .i64 1] 3)).alloc (.cells #[.int .i64 2, .int .i64 1] 3)).heap[w.heap.size + 1]? = some (.cells #[.int .i64 0, .int .i64 1] 3 (0, 0)) := by rw [← s1]; exact blk_alloc (blk_new _ _) _
 have b2 : (((w.alloc (.cells #[.int .i64 0] 3)).alloc (.cells #[.int .i64 0, .int .i64 1] 3)).alloc (.cells #[.int .i64 2, .int .i64 1] 3)).heap[w.heap.size + 1 + 1]? = some (.cells #[.int .i64 2, .int .i64 1] 3 (0, 0)) := by rw [← s2]; exact blk_new _ _
 have hB : Below w.heap.size w (((w.alloc (.cells #[.int .i64 0] 3)).alloc (.cells #[.int .i64 0, .int .i64 1] 3)).alloc (.cells #[.int .i64 2, .int .i64 1] 3)) := below_alloc (below_alloc (below_alloc (Below.refl _ w) _) _ |>.mono (by simp)) _ |>.mono (by simp)
 generalize ((w.alloc (.cells #[.int .i64 0] 3)).alloc (.cells #[.int .i64 0, .int .i64 1] 3)).alloc (.cells #[.int .i64 2, .int .i64 1] 3) = W4 at *
 rw [← s3]
 have c0 : Kd.C (Kd.int .i64) (W4.alloc (.cells #[.slice (some ⟨w.heap.size, 0, none⟩) 1 1, .slice (some ⟨w.heap.size + 1, 0, none⟩) 2 2, .slice (some ⟨w.heap.size + 1 + 1, 0, none⟩) 2 2] 22)) (some ⟨w.heap.size, 0, none⟩) 1 [0] := cb_ints (xs := [0]) (blk_alloc b0 _) (by decide)
 have c1 : Kd.C (Kd.int .i64) (W4.alloc (.cells #[.slice (some ⟨w.heap.size, 0, none⟩) 1 1, .slice (some ⟨w.heap.size + 1, 0, none⟩) 2 2, .slice (some ⟨w.heap.size + 1 + 1, 0, none⟩) 2 2] 22)) (some ⟨w.heap.size + 1, 0, none⟩) 2 [0, 1] := cb_ints (xs := [0, 1]) (blk_alloc b1 _) (by decide)
 have c2 : Kd.C (Kd.int .i64) (W4.alloc (.cells #[.slice (some ⟨w.heap.size, 0, none⟩) 1 1, .slice (some ⟨w.heap.size + 1, 0, none⟩) 2 2, .slice (some ⟨w.heap.size + 1 + 1, 0, none⟩) 2 2] 22)) (some ⟨w.heap.size + 1 + 1, 0, none⟩) 2 [2, 1] := cb_ints (xs := [2, 1]) (blk_alloc b2 _) (by decide)
 have bb := blk_new W4 (.cells #[.slice (some ⟨w.heap.size, 0, none⟩) 1 1, .slice (some ⟨w.heap.size + 1, 0, none⟩) 2 2, .slice (some ⟨w.heap.size + 1 + 1, 0, none⟩) 2 2] 22)
 have hB2 : Below w.heap.size w (W4.alloc (.cells #[.slice (some ⟨w.heap.size, 0, none⟩) 1 1, .slice (some ⟨w.heap.size + 1, 0, none⟩) 2 2, .slice (some ⟨w.heap.size + 1 + 1, 0, none⟩) 2 2] 22)) := below_alloc hB _
 generalize W4.alloc (.cells #[.slice (some ⟨w.heap.size, 0, none⟩) 1 1, .slice (some ⟨w.heap.size + 1, 0, none⟩) 2 2, .slice (some ⟨w.heap.size + 1 + 1, 0, none⟩) 2 2] 22) = W5 at *
 have hr : Reps ((Kd.slice 3 (Kd.int .i64)).K W5) 1 l15W [.slice (some ⟨w.heap.size, 0, none⟩) 1 1, .slice (some ⟨w.heap.size + 1, 0, none⟩) 2 2, .slice (some ⟨w.heap.size + 1 + 1, 0, none⟩) 2 2] :=
  (((Reps.none _ _).snoc (p := [0]) (c := [.slice (some ⟨w.heap.size, 0, none⟩) 1 1]) ⟨_, _, rfl, Nat.le_refl _, c0⟩ rfl).snoc (p := [0, 1]) (c := [.slice (some ⟨w.heap.size + 1, 0, none⟩) 2 2]) ⟨_, _, rfl, Nat.le_refl _, c1⟩ rfl).snoc (p := [2, 1]) (c := [.slice (some ⟨w.heap.size + 1 + 1, 0, none⟩) 2 2]) ⟨_, _, rfl, Nat.le_refl _, c2⟩ rfl
 have hC : Kd.C (Kd.slice 3 (Kd.int .i64)) W5 (some ⟨W4.heap.size, 0, none⟩) l15W.length l15W := cb_block bb hr (by decide)
 refine (build_good _ 3 l15W W5 hC (by decide) l15_good).mono ?_
 rintro e w' ⟨g, rfl, hg, hb, _⟩
 exact ⟨g, rfl, hg, hB2.trans (hb.mono hB2.size)⟩
theorem l15_ints (W : World) : Calls Try.prog 39 #[.slice (some ⟨W.heap.size, 0, none⟩) 13 13] (W.alloc (.cells #[.int .i64 4, .int .i64 4, .int .i64 0, .int .i64 1, .int .i64 2, .int .i64 2, .int .i64 3, .int .i64 1, .int .i64 3, .int .i64 2, .int .i64 1, .int .i64 3, .int .i64 1] 3))
    fun e w' => ∃ A c, e = .returned (.slice A (listB l15L).length c) ∧ (listB l15L).length ≤ c ∧ Kd.C (Kd.int .u8) w' A (listB l15L).length (listB l15L) ∧ Below W.heap.size W w' := by
 have hb := below_alloc (Below.refl W.heap.size W) (.cells (encs (Value.int .i64) l15L).toArray 3)
 refine (wordbookref01_Ints.calls 20 _ 13 l15L (listB l15L) _ (cb_new W l15L (by decide)) (by decide) l15_bytes).mono ?_
 rintro e w' ⟨v, rfl, hR, hb2⟩
 obtain ⟨A, c, rfl, hl, hC⟩ := Kd.R_reads hR
 exact ⟨A, c, rfl, hl, hC, hb.trans (hb2.mono hb.size)⟩
theorem l15_decode (A : Option Addr) (c : Nat) (W : World) (hC : Kd.C (Kd.int .u8) W A (listB l15L).length (listB l15L)) (hc : (listB l15L).length ≤ c) :
    Calls Try.prog 36 #[.slice A (listB l15L).length c] W fun e w' => ∃ g, e = .returned (.tuple #[.pointer (some ⟨g, 0, none⟩), .int .i64 0]) ∧ GraphAt w' g (graphOf l15W) ∧ Below W.heap.size W w' := by
 refine (decode_any A c _ W hC hc l15_byt.1 (by have := l15_byt.2; omega)).mono ?_
 rintro e w' ⟨hb, h⟩
 rw [l15_dec] at h
 rcases h with ⟨_, g, rfl, hg⟩ | ⟨h, _⟩
 ·
  exact ⟨g, rfl, hg, hb⟩
 ·
  exact absurd rfl h
theorem l15_index (W : World) (g : Nat) (hg : GraphAt W g (graphOf l15W)) (xs : List Int) (hx : xs.length ≤ 1000) (i : Int) (b : Bool) (hi : (if xs ∈ l15W then (lessL l15W xs : Int) else 0) = i) (hb : decide (xs ∈ l15W) = b) :
    Calls Try.prog 22 #[.pointer (some ⟨g, 0, none⟩), .slice (some ⟨W.heap.size, 0, none⟩) xs.length xs.length] (W.alloc (.cells (encs (Value.int .i64) xs).toArray 3)) fun e w' => e = .returned (.tuple #[.int .i64 i, .bool b]) ∧ Below W.heap.size W w' := by
 have h0 := below_alloc (Below.refl W.heap.size W) (.cells (encs (Value.int .i64) xs).toArray 3)
 refine (dl_index l15_good g _ _ xs _ (hg.below h0) (cb_new W xs (by omega)) (Nat.le_refl _)).mono ?_
 rintro e w' ⟨rfl, h1⟩
 exact ⟨by rw [hi, hb], h0.trans (h1.mono h0.size)⟩
theorem l15_begins (W : World) (g : Nat) (hg : GraphAt W g (graphOf l15W)) (xs : List Int) (hx : xs.length ≤ 1000) (i j : Int) (hi : (lessL l15W xs : Int) = i) (hj : (lessL l15W xs : Int) + ((resW l15W xs).length : Int) = j) :
    Calls Try.prog 24 #[.pointer (some ⟨g, 0, none⟩), .slice (some ⟨W.heap.size, 0, none⟩) xs.length xs.length] (W.alloc (.cells (encs (Value.int .i64) xs).toArray 3)) fun e w' => e = .returned (.tuple #[.int .i64 i, .int .i64 j]) ∧ Below W.heap.size W w' := by
 have h0 := below_alloc (Below.refl W.heap.size W) (.cells (encs (Value.int .i64) xs).toArray 3)
 refine (dl_begins l15_good g _ _ xs _ (hg.below h0) (cb_new W xs (by omega)) (Nat.le_refl _)).mono ?_
 rintro e w' ⟨rfl, h1⟩
 exact ⟨by rw [hj, hi], h0.trans (h1.mono h0.size)⟩
theorem l15_i1 (W : World) (g : Nat) (hg : GraphAt W g (graphOf l15W)) : Calls Try.prog 22 #[.pointer (some ⟨g, 0, none⟩), .slice (some ⟨W.heap.size, 0, none⟩) 2 2] (W.alloc (.cells #[.int .i64 2, .int .i64 1] 3)) fun e w' => e = .returned (.tuple #[.int .i64 2, .bool true]) ∧ Below W.heap.size W w' := l15_index W g hg [2, 1] (by decide) 2 true (by kernel_rfl) (by kernel_rfl)
theorem l15_i2 (W : World) (g : Nat) (hg : GraphAt W g (graphOf l15W)) : Calls Try.prog 22 #[.pointer (some ⟨g, 0, none⟩), .slice (some ⟨W.heap.size, 0, none⟩) 1 1] (W.alloc (.cells #[.int .i64 2] 3)) fun e w' => e = .returned (.tuple #[.int .i64 0, .bool false]) ∧ Below W.heap.size W w' := l15_index W g hg [2] (by decide) 0 false (by kernel_rfl) (by kernel_rfl)
theorem l15_b1 (W : World) (g : Nat) (hg : GraphAt W g (graphOf l15W)) : Calls Try.prog 24 #[.pointer (some ⟨g, 0, none⟩), .slice (some ⟨W.heap.size, 0, none⟩) 1 1] (W.alloc (.cells #[.int .i64 0] 3)) fun e w' => e = .returned (.tuple #[.int .i64 0, .int .i64 2]) ∧ Below W.heap.size W w' := l15_begins W g hg [0] (by decide) 0 2 (by kernel_rfl) (by kernel_rfl)
theorem l15_b2 (W : World) (g : Nat) (hg : GraphAt W g (graphOf l15W)) : Calls Try.prog 24 #[.pointer (some ⟨g, 0, none⟩), .slice (some ⟨W.heap.size, 0, none⟩) 1 1] (W.alloc (.cells #[.int .i64 2] 3)) fun e w' => e = .returned (.tuple #[.int .i64 2, .int .i64 3]) ∧ Below W.heap.size W w' := l15_begins W g hg [2] (by decide) 2 3 (by kernel_rfl) (by kernel_rfl)
theorem l15_b3 (W : World) (g : Nat) (hg : GraphAt W g (graphOf l15W)) : Calls Try.prog 24 #[.pointer (some ⟨g, 0, none⟩), .slice (some ⟨W.heap.size, 0, none⟩) 1 1] (W.alloc (.cells #[.int .i64 1] 3)) fun e w' => e = .returned (.tuple #[.int .i64 2, .int .i64 2]) ∧ Below W.heap.size W w' := l15_begins W g hg [1] (by decide) 2 2 (by kernel_rfl) (by kernel_rfl)
theorem l15_b4 (W : World) (g : Nat) (hg : GraphAt W g (graphOf l15W)) : Calls Try.prog 24 #[.pointer (some ⟨g, 0, none⟩), .slice none 0 0] W fun e w' => e = .returned (.tuple #[.int .i64 0, .int .i64 3]) ∧ Below W.heap.size W w' := by
 have := dl_begins l15_good g none 0 [] W hg (Kd.C_nil _ _) (Nat.le_refl _)
 exact this
theorem l15_w1 (W : World) (g : Nat) (hg : GraphAt W g (graphOf l15W)) : Calls Try.prog 26 #[.pointer (some ⟨g, 0, none⟩), .int .i64 1] W fun e w' => ∃ A c, e = .returned (.tuple #[.slice A 2 c, .bool true]) ∧ 2 ≤ c ∧ Kd.C (Kd.int .i64) w' A 2 [0, 1] ∧ Below W.heap.size W w' := dl_word l15_good g 1 (by decide) W hg
theorem l15_same (W W' : World) (A : Option Addr) (c : Nat) (hc : 2 ≤ c) (hC : Kd.C (Kd.int .i64) W A 2 [0, 1]) : Calls Try.prog 27 #[.slice A 2 c, .slice (some ⟨W.heap.size, 0, none⟩) 2 2] (W.alloc (.cells #[.int .i64 0, .int .i64 1] 3)) fun e w' => e = .returned (.bool true) ∧ Below W.heap.size W w' := by
 have h0 := below_alloc (Below.refl W.heap.size W) (.cells #[.int .i64 0, .int .i64 1] 3)
 refine (wordbookref01_SameInts.calls 10 A c [0, 1] _ 2 [0, 1] true _ (Kd.C_below hC h0) hc (cb_new W [0, 1] (by decide)) (by decide) (by rw [sameInts_is _ _ (by decide) _ (by decide)]; rfl)).mono ?_
 rintro e w' ⟨rfl, hd⟩
 exact ⟨rfl, h0.trans (hd.below.mono h0.size)⟩
end Go.Proofs.Ytcdjeimjbbknjaa.PAll
namespace Go.Proofs.Ytcdjeimjbbknjaa.PAll
open Go.RowKit Go.Proofs.YtcdjeimjbbknjaaW.PrintWords Go.Proofs.YtcdjeimjbbknjaaW.PrintLast Go.Proofs.YtcdjeimjbbknjaaW.PrintMore Go.Proofs.Ytcdjeimjbbknjaa.Res
set_option linter.unusedVariables false
set_option linter.unusedSimpArgs false

theorem l15_len (W : World) (g : Nat) (hg : GraphAt W g (graphOf l15W)) : Calls Try.prog 30 #[.pointer (some ⟨g, 0, none⟩)] W fun e w' => e = .returned (.int .i64 3) ∧ Below W.heap.size W w' := dl_lenB l15_good g W hg
theorem l15_st (W : World) (g : Nat) (hg : GraphAt W g (graphOf l15W)) : Calls Try.prog 42 #[.pointer (some ⟨g, 0, none⟩)] W fun e w' => e = .returned (.int .i64 4) ∧ Below W.heap.size W w' := by
 have := dl_statesB (ws := l15W) g W hg
 rwa [l15_states] at this
set_option maxHeartbeats 8000000 in
set_option maxRecDepth 100000 in
theorem lives15 (w : World) : Calls Try.prog 28 #[] w fun e w' => e = .returned (.bool true) ∧ Below w.heap.size w w' := by
 go_enter Try.func28, Try.ntmps28
 go_wp2_with (first
  | (go_at_call 19; ((with_reducible refine (l15_build w).mono ?_); rintro e w1 ⟨g, rfl, hG1, hb1⟩; have HG1 := Aside0.mk (hG1); have HB1 := Aside0.mk (hb1); clear hb1 hG1))
  | (go_at_call 39; ((with_reducible refine (l15_ints _).mono ?_); rintro e w2 ⟨Ab, cb, rfl, hlb, hC2, hb2⟩; have HG2 := Aside0.mk (GraphAt.below HG1.out hb2); clear HG1; have HB2 := Aside0.mk (HB1.out.trans (hb2.mono HB1.out.size)); clear HB1; have Hb2 := Aside0.mk (hC2); clear hb2 hC2))
  | (go_at_call 36; ((with_reducible refine (l15_decode Ab cb _ Hb2.out hlb).mono ?_); rintro e w3 ⟨h, rfl, hG3, hb3⟩; have HG3 := Aside0.mk (GraphAt.below HG2.out hb3); clear HG2; have HB3 := Aside0.mk (HB2.out.trans (hb3.mono HB2.out.size)); clear HB2; clear Hb2; have HH3 := Aside0.mk (hG3); clear hb3 hG3))
  | (go_at_call 22; ((with_reducible refine (l15_i1 _ g HG3.out).mono ?_); rintro e w4 ⟨rfl, hb4⟩; have HG4 := Aside0.mk (GraphAt.below HG3.out hb4); clear HG3; have HB4 := Aside0.mk (HB3.out.trans (hb4.mono HB3.out.size)); clear HB3; have HH4 := Aside0.mk (GraphAt.below HH3.out hb4); clear HH3; clear hb4))
  | (go_at_call 22; ((with_reducible refine (l15_i2 _ g HG4.out).mono ?_); rintro e w5 ⟨rfl, hb5⟩; have HG5 := Aside0.mk (GraphAt.below HG4.out hb5); clear HG4; have HB5 := Aside0.mk (HB4.out.trans (hb5.mono HB4.out.size)); clear HB4; have HH5 := Aside0.mk (GraphAt.below HH4.out hb5); clear HH4; clear hb5))
  | (go_at_call 26; ((with_reducible refine (l15_w1 _ h HH5.out).mono ?_); rintro e w6 ⟨Aw, cw, rfl, hlw, hC6, hb6⟩; have HG6 := Aside0.mk (GraphAt.below HG5.out hb6); clear HG5; have HB6 := Aside0.mk (HB5.out.trans (hb6.mono HB5.out.size)); clear HB5; have HH6 := Aside0.mk (GraphAt.below HH5.out hb6); clear HH5; have HW6 := Aside0.mk (hC6); clear hb6 hC6))
  | (go_at_call 24; ((with_reducible refine (l15_b1 _ g HG6.out).mono ?_); rintro e w7 ⟨rfl, hb7⟩; have HG7 := Aside0.mk (GraphAt.below HG6.out hb7); clear HG6; have HB7 := Aside0.mk (HB6.out.trans (hb7.mono HB6.out.size)); clear HB6; have HH7 := Aside0.mk (GraphAt.below HH6.out hb7); clear HH6; have HW7 := Aside0.mk (Kd.C_below HW6.out hb7); clear HW6; clear hb7))
  | (go_at_call 24; ((with_reducible refine (l15_b2 _ g HG7.out).mono ?_); rintro e w8 ⟨rfl, hb8⟩; have HG8 := Aside0.mk (GraphAt.below HG7.out hb8); clear HG7; have HB8 := Aside0.mk (HB7.out.trans (hb8.mono HB7.out.size)); clear HB7; have HH8 := Aside0.mk (GraphAt.below HH7.out hb8); clear HH7; have HW8 := Aside0.mk (Kd.C_below HW7.out hb8); clear HW7; clear hb8))
  | (go_at_call 24; ((with_reducible refine (l15_b3 _ g HG8.out).mono ?_); rintro e w9 ⟨rfl, hb9⟩; have HG9 := Aside0.mk (GraphAt.below HG8.out hb9); clear HG8; have HB9 := Aside0.mk (HB8.out.trans (hb9.mono HB8.out.size)); clear HB8; have HH9 := Aside0.mk (GraphAt.below HH8.out hb9); clear HH8; have HW9 := Aside0.mk (Kd.C_below HW8.out hb9); clear HW8; clear hb9))
  | (go_at_call 24; ((with_reducible refine (l15_b4 _ g HG9.out).mono ?_); rintro e w10 ⟨rfl, hb10⟩; have HG10 := Aside0.mk (GraphAt.below HG9.out hb10); clear HG9; have HB10 := Aside0.mk (HB9.out.trans (hb10.mono HB9.out.size)); clear HB9; have HH10 := Aside0.mk (GraphAt.below HH9.out hb10); clear HH9; have HW10 := Aside0.mk (Kd.C_below HW9.out hb10); clear HW9; clear hb10))
  | (go_at_call 30; ((with_reducible refine (l15_len _ g HG10.out).mono ?_); rintro e w11 ⟨rfl, hb11⟩; have HG11 := Aside0.mk (GraphAt.below HG10.out hb11); clear HG10; have HB11 := Aside0.mk (HB10.out.trans (hb11.mono HB10.out.size)); clear HB10; have HH11 := Aside0.mk (GraphAt.below HH10.out hb11); clear HH10; have HW11 := Aside0.mk (Kd.C_below HW10.out hb11); clear HW10; clear hb11))
  | (go_at_call 42; ((with_reducible refine (l15_st _ g HG11.out).mono ?_); rintro e w12 ⟨rfl, hb12⟩; have HG12 := Aside0.mk (GraphAt.below HG11.out hb12); clear HG11; have HB12 := Aside0.mk (HB11.out.trans (hb12.mono HB11.out.size)); clear HB11; have HH12 := Aside0.mk (GraphAt.below HH11.out hb12); clear HH11; have HW12 := Aside0.mk (Kd.C_below HW11.out hb12); clear HW11; clear hb12))
  | (go_at_call 42; ((with_reducible refine (l15_st _ h HH12.out).mono ?_); rintro e w13 ⟨rfl, hb13⟩; have HG13 := Aside0.mk (GraphAt.below HG12.out hb13); clear HG12; have HB13 := Aside0.mk (HB12.out.trans (hb13.mono HB12.out.size)); clear HB12; have HH13 := Aside0.mk (GraphAt.below HH12.out hb13); clear HH12; have HW13 := Aside0.mk (Kd.C_below HW12.out hb13); clear HW12; clear hb13))
  | (go_at_call 27; ((with_reducible refine (l15_same _ w Aw cw hlw HW13.out).mono ?_); rintro e w14 ⟨rfl, hb14⟩; have HG14 := Aside0.mk (GraphAt.below HG13.out hb14); clear HG13; have HB14 := Aside0.mk (HB13.out.trans (hb14.mono HB13.out.size)); clear HB13; have HH14 := Aside0.mk (GraphAt.below HH13.out hb14); clear HH13; clear HW13; clear hb14))
  | fail)
 go_ret
 exact ⟨rfl, HB14.out⟩
end Go.Proofs.Ytcdjeimjbbknjaa.PAll
namespace Go.Proofs.Ytcdjeimjbbknjaa.PAll
open Go.RowKit Go.Proofs.YtcdjeimjbbknjaaW.PrintWords Go.Proofs.YtcdjeimjbbknjaaW.PrintLast Go.Proofs.YtcdjeimjbbknjaaW.PrintMore Go.Proofs.Ytcdjeimjbbknjaa.Lev
set_option linter.unusedVariables false
set_option linter.unusedSimpArgs false

def around (n most : Int) : Int := Int.tmod (if n < 0 then -(n + 1) else n) most
theorem around_is (n most : Int) (h0 : 0 < most) (hn : -9223372036854775808 ≤ n ∧ n ≤ 9223372036854775807) : wordbookref01_Around.f n most = some (around n most) := by
 unfold wordbookref01_Around.f around
 by_cases h : n < 0
 ·
  rw [if_pos h, if_neg (by omega), if_pos h]
  have e1 : wrap64 (n + 1) = n + 1 := by unfold wrap64; omega
  have e2 : wrap64 (-(n + 1)) = -(n + 1) := by unfold wrap64; omega
  rw [e1, e2]
 ·
  rw [if_neg h, if_neg (by omega), if_neg h]
theorem around_range (n most : Int) (h0 : 0 < most) : 0 ≤ around n most ∧ around n most < most := by
 unfold around
 have h : 0 ≤ (if n < 0 then -(n + 1) else n) := by split <;> omega
 generalize (if n < 0 then -(n + 1) else n) = q at *
 rw [Int.tmod_eq_emod_of_nonneg h]
 exact ⟨Int.emod_nonneg _ (by omega), Int.emod_lt_of_pos _ h0⟩
theorem around_calls (n most : Int) (w : World) (h0 : 0 < most) (hn : -9223372036854775808 ≤ n ∧ n ≤ 9223372036854775807) :
    Calls Try.prog 18 #[.int .i64 n, .int .i64 most] w fun e w' => e = .returned (.int .i64 (around n most)) ∧ Drawn0 w w' :=
  wordbookref01_Around.calls n most _ w (around_is n most h0 hn)

def editOk (l0 : List Int) (a2 : Int) : Prop := l0.length ≤ 1000000000000 ∧ -9223372036854775808 ≤ a2 ∧ a2 ≤ 9223372036854775807
instance (l0 : List Int) (a2 : Int) : Decidable (editOk l0 a2) := by unfold editOk; infer_instance
end Go.Proofs.Ytcdjeimjbbknjaa.PAll
namespace Go.Proofs.Ytcdjeimjbbknjaa.PAll
open Go.RowKit Go.Proofs.YtcdjeimjbbknjaaW.PrintWords Go.Proofs.YtcdjeimjbbknjaaW.PrintLast Go.Proofs.YtcdjeimjbbknjaaW.PrintMore Go.Proofs.Ytcdjeimjbbknjaa.Res
set_option linter.unusedVariables false
set_option linter.unusedSimpArgs false

theorem cmp_flip : ∀ a b : List Int, cmpL a b = 1 → cmpL b a = -1
  | [], [], h => by simp [cmpL] at h
  | [], _ :: _, h => by simp [cmpL] at h
  | _ :: _, [], _ => rfl
  | x :: a, y :: b, h => by
    simp only [cmpL] at h ⊢
    by_cases h1 : x < y
    · rw [if_pos h1] at h; simp at h
    · rw [if_neg h1] at h
      by_cases h2 : y < x
      · rw [if_pos h2]
      · rw [if_neg h2] at h ⊢
        rw [if_neg h1]
        exact cmp_flip a b h
theorem cmp_eq : ∀ a b : List Int, cmpL a b = 0 ↔ a = b
  | [], [] => by simp [cmpL]
  | [], _ :: _ => by simp [cmpL]
  | _ :: _, [] => by simp [cmpL]
  | x :: a, y :: b => by
    simp only [cmpL]
    by_cases h1 : x < y
    · rw [if_pos h1]; simp; omega
    · rw [if_neg h1]
      by_cases h2 : y < x
      · rw [if_pos h2]; simp; omega
      · rw [if_neg h2, cmp_eq a b]
        have : x = y := by omega
        simp [this]
def insD (w : List Int) (l : List (List Int)) : List (List Int) := l.filter fun u => cmpL u w != 0
def ins15 (w : List Int) : List (List Int) → List (List Int)
  | [] => [w]
  | u :: l => if cmpL u w < 0 then u :: ins15 w l else if cmpL u w = 0 then w :: insD w l else w :: u :: insD w l
theorem put15_l0 (l : List (List Int)) (w : List Int) (hl : l.length ≤ 1000000) (hs : ∀ v ∈ l, v.length ≤ 1000000) : ∀ (d i k : Nat) (acc : List (List Int)) (b : Bool), i + d = l.length → acc.length ≤ i + (if b = true then 1 else 0) → 2 * d + 2000005 < k →
    wordbookref15_Put.l0 k l w acc b (i : Int) = some (acc ++ if b = true then insD w (l.drop i) else ins15 w (l.drop i)) := by
 intro d
 induction d with
 | zero =>
  intro i k acc b hid ha hk
  obtain ⟨k, rfl⟩ : ∃ m, k = m + 1 := ⟨k - 1, by omega⟩
  rw [wordbookref15_Put.l0, if_neg (by omega), List.drop_of_length_le (by omega)]
  cases b with
  | true => rw [if_pos rfl, if_pos rfl]; simp [insD]
  | false =>
   rw [if_neg (by decide)] at ha
   rw [if_neg (by decide), if_pos (by omega), if_neg (by decide)]; rfl
 | succ d ih =>
  intro i k acc b hid ha hk
  obtain ⟨k, rfl⟩ : ∃ m, k = m + 1 + 1 := ⟨k - 2, by omega⟩
  have hi : i < l.length := by omega
  have hdr : l.drop i = rdR l (i : Int) :: l.drop (i + 1) := by rw [List.drop_eq_getElem_cons hi, rdR_get hi]
  have hw1 : wrap64 ((i : Int) + 1) = ((i + 1 : Nat) : Int) := by unfold wrap64; omega
  have hm : (rdR l (i : Int)).length ≤ 1000000 := by rw [rdR_get hi]; exact hs _ (List.getElem_mem hi)
  have hrr : rd_L2 l (i : Int) = rdR l (i : Int) := rfl
  have h3 : (if true = true then 1 else 0 : Nat) = 1 := rfl
  have h4 : (if false = true then 1 else 0 : Nat) = 0 := rfl
  rw [wordbookref15_Put.l0, if_pos (by omega), if_pos (by omega), hrr, order_is _ _ (by omega) _ (by omega), Option.bind_some, hdr]
  have hcv := cmpL_values (rdR l (i : Int)) w
  cases b with
  | true =>
   rw [h3] at ha
   rw [if_pos rfl, wordbookref15_Put.j1, if_neg (by decide)]
   by_cases hz : cmpL (rdR l (i : Int)) w = 0
   ·
    rw [if_pos hz, hw1, ih (i + 1) k acc true (by omega) (by rw [h3]; omega) (by omega), if_pos rfl, if_pos rfl]
    simp [insD, hz]
   ·
    rw [if_neg hz, if_pos (by omega), if_pos (by omega), if_pos (by omega), hw1, hrr, ih (i + 1) k _ true (by omega) (by rw [h3]; simp; omega) (by omega), if_pos rfl, if_pos rfl]
    simp [insD, hz]
  | false =>
   rw [h4] at ha
   rw [if_neg (by decide), wordbookref15_Put.j1]
   by_cases hc : cmpL (rdR l (i : Int)) w < 0
   ·
    rw [if_neg (by simp; omega), if_neg (by omega), if_pos (by omega), if_pos (by omega), if_pos (by omega), hw1, hrr, ih (i + 1) k _ false (by omega) (by rw [h4]; simp; omega) (by omega), if_neg (by decide), if_neg (by decide), ins15, if_pos hc]
    simp
   ·
    rw [if_pos (decide_eq_true (by omega)), if_pos (by omega), Option.bind_some]
    by_cases hz : cmpL (rdR l (i : Int)) w = 0
    ·
     rw [if_pos hz, hw1, ih (i + 1) k _ true (by omega) (by rw [h3]; simp; omega) (by omega), if_pos rfl, if_neg (by decide), ins15, if_neg hc, if_pos hz]
     simp
    ·
     rw [if_neg hz, if_pos (by omega), if_pos (by omega), if_pos (by simp; omega), hw1, hrr, ih (i + 1) k _ true (by omega) (by rw [h3]; simp; omega) (by omega), if_pos rfl, if_neg (by decide), ins15, if_neg hc, if_neg hz]
     simp
theorem put15_is (l : List (List Int)) (w : List Int) (hl : l.length ≤ 100000) (hs : ∀ v ∈ l, v.length ≤ 1000000) (k : Nat) (hk : 3000000 ≤ k) : wordbookref15_Put.f k l w = some (ins15 w l) := by
 unfold wordbookref15_Put.f
 rw [show (0 : Int) = ((0 : Nat) : Int) from rfl, put15_l0 l w (by omega) hs l.length 0 k [] false (by omega) (by simp) (by omega), List.drop_zero]
 simp
theorem ins15_mem {w v : List Int} : ∀ {l : List (List Int)}, v ∈ ins15 w l → v ∈ l ∨ v = w
  | [], h => .inr (by simpa [ins15] using h)
  | u :: l, h => by
    rw [ins15] at h
    split at h
    · rcases List.mem_cons.1 h with rfl | h
      · exact .inl List.mem_cons_self
      · rcases ins15_mem h with h | h
        · exact .inl (List.mem_cons_of_mem _ h)
        · exact .inr h
    · split at h
      · rcases List.mem_cons.1 h with rfl | h
        · exact .inr rfl
        · exact .inl (List.mem_cons_of_mem _ ((List.mem_filter.1 h).1))
      · rcases List.mem_cons.1 h with rfl | h
        · exact .inr rfl
        · rcases List.mem_cons.1 h with rfl | h
          · exact .inl List.mem_cons_self
          · exact .inl (List.mem_cons_of_mem _ ((List.mem_filter.1 h).1))
theorem insD_le (w : List Int) (l : List (List Int)) : (insD w l).length ≤ l.length := List.length_filter_le _ _
theorem ins15_len (w : List Int) : ∀ l : List (List Int), 1 ≤ (ins15 w l).length ∧ (ins15 w l).length ≤ l.length + 1
  | [] => by simp [ins15]
  | u :: l => by
    have h1 := ins15_len w l
    have h2 := insD_le w l
    rw [ins15]
    split
    · simp only [List.length_cons]; omega
    · split <;> simp only [List.length_cons] <;> omega
theorem ins15_srt (w : List Int) : ∀ {l : List (List Int)}, Srt l → Srt (ins15 w l)
  | [], _ => by simp [ins15, Srt]
  | u :: l, h => by
    have h1 := List.pairwise_cons.1 h
    have hf : Srt (insD w l) := List.Pairwise.sublist List.filter_sublist h1.2
    rw [ins15]
    by_cases hc : cmpL u w < 0
    · rw [if_pos hc]
      refine List.pairwise_cons.2 ⟨fun v hv => ?_, ins15_srt w h1.2⟩
      rcases ins15_mem hv with hv | rfl
      · exact h1.1 v hv
      · exact (cmpL_lt_iff _ _).1 hc
    · rw [if_neg hc]
      by_cases hz : cmpL u w = 0
      · rw [if_pos hz]
        obtain rfl := (cmp_eq u w).1 hz
        exact List.pairwise_cons.2 ⟨fun v hv => h1.1 v ((List.mem_filter.1 hv).1), hf⟩
      · rw [if_neg hz]
        have hw : cmpL w u = -1 := cmp_flip u w (by rcases cmpL_values u w with e | e | e <;> omega)
        refine List.pairwise_cons.2 ⟨fun v hv => ?_, List.pairwise_cons.2 ⟨fun v hv => h1.1 v ((List.mem_filter.1 hv).1), hf⟩⟩
        rcases List.mem_cons.1 hv with rfl | hv
        · exact hw
        · exact cmpL_trans _ _ _ hw (h1.1 v ((List.mem_filter.1 hv).1))
theorem w64 {x : Int} (h0 : -9223372036854775808 ≤ x) (h1 : x ≤ 9223372036854775807) : wrap64 x = x := by unfold wrap64; omega
theorem succ64 (j : Nat) (h : j ≤ 1000000000) : wrap64 ((j : Int) + 1) = ((j + 1 : Nat) : Int) := by rw [w64 (by omega) (by omega)]; omega
theorem num15_is (l : List Int) (hw : ∀ x ∈ l, -9223372036854775808 ≤ x ∧ x ≤ 9223372036854775807) (i : Int) (h0 : 0 ≤ i) (h1 : i ≤ 100000) : ∃ x, wordbookref15_num.f l i = some x ∧ 0 ≤ x ∧ x ≤ 2800000 := by
 unfold wordbookref15_num.f
 by_cases hz : (l.length : Int) = 0
 ·
  rw [if_pos hz]; exact ⟨0, rfl, by omega, by omega⟩
 ·
  rw [if_neg hz]
  have hm0 : 0 ≤ Int.tmod i (l.length : Int) := Int.tmod_nonneg _ h0
  have hm1 : Int.tmod i (l.length : Int) < (l.length : Int) := by
   rw [Int.tmod_eq_emod_of_nonneg h0]; exact Int.emod_lt_of_pos _ (by omega)
  rw [if_pos hm0, if_pos hm1]
  have hd0 : 0 ≤ Int.tdiv i (l.length : Int) := Int.tdiv_nonneg h0 (by omega)
  have hd1 : Int.tdiv i (l.length : Int) ≤ i := by
   rw [Int.tdiv_eq_ediv_of_nonneg h0]; exact Int.ediv_le_self _ h0
  generalize Int.tdiv i (l.length : Int) = q at *
  generalize rd l (Int.tmod i (l.length : Int)) = y at *
  have hy0 : -1048576 < Int.tmod y 1048576 := by
   by_cases hy : 0 ≤ y
   ·
    have := Int.tmod_nonneg 1048576 hy; omega
   ·
    have h2 := Int.tmod_nonneg 1048576 (show 0 ≤ -y by omega)
    have h3 : Int.tmod (-y) 1048576 < 1048576 := by rw [Int.tmod_eq_emod_of_nonneg (by omega)]; exact Int.emod_lt_of_pos _ (by omega)
    rw [Int.neg_tmod] at h3; omega
  have hy1 : Int.tmod y 1048576 < 1048576 := by
   by_cases hy : 0 ≤ y
   ·
    rw [Int.tmod_eq_emod_of_nonneg hy]; exact Int.emod_lt_of_pos _ (by omega)
   ·
    have h2 := Int.tmod_nonneg 1048576 (show 0 ≤ -y by omega)
    rw [Int.neg_tmod] at h2; omega
  generalize Int.tmod y 1048576 = z at *
  rw [w64 (x := q) (by omega) (by omega), w64 (x := 17 * q) (by omega) (by omega), w64 (x := -z) (by omega) (by omega), w64 (x := -z + 17 * q) (by omega) (by omega), w64 (x := z + 17 * q) (by omega) (by omega)]
  split
  ·
   exact ⟨_, rfl, by omega, by omega⟩
  ·
   exact ⟨_, rfl, by omega, by omega⟩
structure W15 (out : List (List Int)) (n : Nat) : Prop where
  srt : Srt out
  few : out.length ≤ n
  pos : 0 < n → 0 < out.length
  size : ∀ v ∈ out, v.length ≤ 8
  sym : ∀ v ∈ out, ∀ s ∈ v, 0 ≤ s ∧ s < 64
theorem sum_le8 : ∀ {l : List (List Int)}, (∀ v ∈ l, v.length ≤ 8) → (l.map List.length).sum ≤ 8 * l.length
  | [], _ => by simp
  | v :: l, h => by
    have h1 := h v List.mem_cons_self
    have h2 := sum_le8 fun x hx => h x (List.mem_cons_of_mem v hx)
    simp only [List.map_cons, List.sum_cons, List.length_cons]; omega
theorem W15.good {out : List (List Int)} {n : Nat} (h : W15 out n) (hn : n ≤ 4000) : Good out :=
  ⟨h.sym, h.srt, fun v hv => by have := h.size v hv; omega, by have := h.few; omega, by have := sum_le8 h.size; have := h.few; omega⟩
theorem W15.put {out : List (List Int)} {n : Nat} (h : W15 out n) {w : List Int} (hl : w.length ≤ 8) (hs : ∀ s ∈ w, 0 ≤ s ∧ s < 64) : W15 (ins15 w out) (n + 1) := by
  have hp := ins15_len w out
  refine ⟨ins15_srt w h.srt, by have := h.few; omega, fun _ => by omega, fun v hv => ?_, fun v hv => ?_⟩
  · rcases ins15_mem hv with hv | rfl
    · exact h.size v hv
    · exact hl
  · rcases ins15_mem hv with hv | rfl
    · exact h.sym v hv
    · exact hs
def Sy (w : List Int) : Prop := ∀ s ∈ w, 0 ≤ s ∧ s < 64
theorem Sy.snoc {w : List Int} (h : Sy w) {x : Int} (h0 : 0 ≤ x) (h1 : x < 64) : Sy (w ++ [x]) := fun s hs => by
  rcases List.mem_append.1 hs with hs | hs
  · exact h s hs
  · rw [List.mem_singleton.1 hs]; exact ⟨h0, h1⟩
theorem tmod_in {x : Int} (h : 0 ≤ x) (m : Int) (hm : 0 < m) : 0 ≤ Int.tmod x m ∧ Int.tmod x m < m := by
 rw [Int.tmod_eq_emod_of_nonneg h]; exact ⟨Int.emod_nonneg _ (by omega), Int.emod_lt_of_pos _ hm⟩
theorem w15_l3 (l : List Int) (most : Int) (out : List (List Int)) (n : Nat) (hn : n ≤ 100) (ho : W15 out n) (K : Nat) (hK : 3000000 ≤ K) (T : List (List Int) → Prop)
  (next : ∀ (r : List (List Int)) (k : Nat), W15 r (n + 1) → K ≤ k → ∃ q, wordbookref15_Words.l0 k l most r ((n + 1 : Nat) : Int) = some q ∧ T q) (z : Int) (hz : 0 ≤ z ∧ z ≤ 2800000) : ∀ (d k j : Nat) (w : List Int), (j : Int) + d = Int.tmod z 3 → Sy w → w.length + d ≤ 8 → K + d < k → ∃ q, wordbookref15_Words.l3 k l most out (n : Int) w z (j : Int) = some q ∧ T q := by
 have hz3 := tmod_in hz.1 3 (by omega)
 intro d
 induction d with
 | zero =>
  intro k j w hj hs hl hk
  obtain ⟨k, rfl⟩ : ∃ m, k = m + 1 := ⟨k - 1, by omega⟩
  rw [wordbookref15_Words.l3, if_neg (by omega), put15_is out w (by have := ho.few; omega) (fun v hv => by have := ho.size v hv; omega) k (by omega), Option.bind_some, succ64 n (by omega)]
  exact next _ k (ho.put (by omega) hs) (by omega)
 | succ d ih =>
  intro k j w hj hs hl hk
  obtain ⟨k, rfl⟩ : ∃ m, k = m + 1 := ⟨k - 1, by omega⟩
  have hq := tmod_in (x := Int.tdiv z 3) (Int.tdiv_nonneg hz.1 (by omega)) 2 (by omega)
  have hq1 : Int.tdiv z 3 ≤ z := by rw [Int.tdiv_eq_ediv_of_nonneg hz.1]; omega
  have hq0 := Int.tdiv_nonneg hz.1 (show (0 : Int) ≤ 3 by omega)
  rw [wordbookref15_Words.l3, if_pos (by omega), if_pos (by omega), succ64 j (by omega), w64 (x := Int.tdiv z 3) (by omega) (by omega)]
  generalize Int.tmod (Int.tdiv z 3) 2 = q at *
  rw [w64 (x := 4 + (j : Int)) (by omega) (by omega), w64 (x := 4 + (j : Int) + q) (by omega) (by omega)]
  exact ih k (j + 1) _ (by omega) (hs.snoc (by omega) (by omega)) (by simp; omega) (by omega)
theorem w15_l2 (l : List Int) (hw : ∀ x ∈ l, -9223372036854775808 ≤ x ∧ x ≤ 9223372036854775807) (most : Int) (out : List (List Int)) (n : Nat) (hn : n ≤ 100) (ho : W15 out n) (K : Nat) (hK : 3000000 ≤ K) (T : List (List Int) → Prop)
  (next : ∀ (r : List (List Int)) (k : Nat), W15 r (n + 1) → K ≤ k → ∃ q, wordbookref15_Words.l0 k l most r ((n + 1 : Nat) : Int) = some q ∧ T q) (y : Int) (hy : 0 ≤ y ∧ y ≤ 2800000) : ∀ (d k j : Nat) (w : List Int), (j : Int) + d = Int.tmod y 3 → Sy w → w.length + d + 2 ≤ 8 → K + d + 10 < k → ∃ q, wordbookref15_Words.l2 k l most out (n : Int) w y (j : Int) = some q ∧ T q := by
 have hy3 := tmod_in hy.1 3 (by omega)
 have hy2 := tmod_in hy.1 2 (by omega)
 intro d
 induction d with
 | zero =>
  intro k j w hj hs hl hk
  obtain ⟨k, rfl⟩ : ∃ m, k = m + 1 := ⟨k - 1, by omega⟩
  obtain ⟨z, e, z0, z1⟩ := num15_is l hw (3 * (n : Int) + 2) (by omega) (by omega)
  rw [wordbookref15_Words.l2, if_neg (by omega), w64 (x := 3 * (n : Int)) (by omega) (by omega), w64 (x := 3 * (n : Int) + 2) (by omega) (by omega), e, Option.bind_some]
  have hz3 := tmod_in z0 3 (by omega)
  exact w15_l3 l most out n hn ho K hK T next z ⟨z0, z1⟩ (Int.tmod z 3).toNat k 0 w (by omega) hs (by omega) (by omega)
 | succ d ih =>
  intro k j w hj hs hl hk
  obtain ⟨k, rfl⟩ : ∃ m, k = m + 1 := ⟨k - 1, by omega⟩
  obtain ⟨x, e, x0, x1⟩ := num15_is l hw (5 * (n : Int) + (j : Int)) (by omega) (by omega)
  have hx4 := tmod_in x0 4 (by omega)
  rw [wordbookref15_Words.l2, if_pos (by omega), w64 (x := 5 * (n : Int)) (by omega) (by omega), w64 (x := 5 * (n : Int) + (j : Int)) (by omega) (by omega), e, Option.bind_some, succ64 j (by omega), w64 (x := 63 - Int.tmod y 2) (by omega) (by omega)]
  by_cases h3 : Int.tmod x 4 = 3
  ·
   rw [if_pos h3, if_pos (by omega)]
   exact ih k (j + 1) _ (by omega) (hs.snoc (by omega) (by omega)) (by simp; omega) (by omega)
  ·
   rw [if_neg h3, if_pos (by omega)]
   exact ih k (j + 1) _ (by omega) (hs.snoc (by omega) (by omega)) (by simp; omega) (by omega)
theorem w15_l1 (l : List Int) (hw : ∀ x ∈ l, -9223372036854775808 ≤ x ∧ x ≤ 9223372036854775807) (most : Int) (out : List (List Int)) (n : Nat) (hn : n ≤ 100) (ho : W15 out n) (K : Nat) (hK : 3000000 ≤ K) (T : List (List Int) → Prop)
  (next : ∀ (r : List (List Int)) (k : Nat), W15 r (n + 1) → K ≤ k → ∃ q, wordbookref15_Words.l0 k l most r ((n + 1 : Nat) : Int) = some q ∧ T q) (x : Int) (hx : 0 ≤ x ∧ x ≤ 2800000) : ∀ (d k j : Nat) (w : List Int), (j : Int) + d = Int.tmod x 4 → Sy w → w.length + d + 4 ≤ 8 → K + d + 20 < k → ∃ q, wordbookref15_Words.l1 k l most out (n : Int) w x (j : Int) = some q ∧ T q := by
 have hx4 := tmod_in hx.1 4 (by omega)
 have hx7 := tmod_in hx.1 7 (by omega)
 intro d
 induction d with
 | zero =>
  intro k j w hj hs hl hk
  obtain ⟨k, rfl⟩ : ∃ m, k = m + 1 := ⟨k - 1, by omega⟩
  obtain ⟨y, e, y0, y1⟩ := num15_is l hw (3 * (n : Int) + 1) (by omega) (by omega)
  rw [wordbookref15_Words.l1, if_neg (by omega), w64 (x := 3 * (n : Int)) (by omega) (by omega), w64 (x := 3 * (n : Int) + 1) (by omega) (by omega), e, Option.bind_some]
  have hy3 := tmod_in y0 3 (by omega)
  exact w15_l2 l hw most out n hn ho K hK T next y ⟨y0, y1⟩ (Int.tmod y 3).toNat k 0 w (by omega) hs (by omega) (by omega)
 | succ d ih =>
  intro k j w hj hs hl hk
  obtain ⟨k, rfl⟩ : ∃ m, k = m + 1 := ⟨k - 1, by omega⟩
  obtain ⟨t, e, t0, t1⟩ := num15_is l hw (Int.tmod x 7 + (j : Int)) (by omega) (by omega)
  have ht3 := tmod_in t0 3 (by omega)
  rw [wordbookref15_Words.l1, if_pos (by omega), w64 (x := Int.tmod x 7 + (j : Int)) (by omega) (by omega), e, Option.bind_some, if_pos (by omega), succ64 j (by omega)]
  exact ih k (j + 1) _ (by omega) (hs.snoc (by omega) (by omega)) (by simp; omega) (by omega)
theorem w15_l0 (l : List Int) (hw : ∀ x ∈ l, -9223372036854775808 ≤ x ∧ x ≤ 9223372036854775807) (m : Nat) (hm : m ≤ 100) : ∀ (d n k : Nat) (out : List (List Int)), n + d = m → W15 out n → 3000000 + 100 * d < k → ∃ q, wordbookref15_Words.l0 k l (m : Int) out (n : Int) = some q ∧ W15 q m := by
 intro d
 induction d with
 | zero =>
  intro n k out hd ho hk
  obtain ⟨k, rfl⟩ : ∃ j, k = j + 1 := ⟨k - 1, by omega⟩
  obtain rfl : n = m := by omega
  rw [wordbookref15_Words.l0, if_neg (by omega)]
  exact ⟨out, rfl, ho⟩
 | succ d ih =>
  intro n k out hd ho hk
  obtain ⟨k, rfl⟩ : ∃ j, k = j + 1 := ⟨k - 1, by omega⟩
  obtain ⟨x, e, x0, x1⟩ := num15_is l hw (3 * (n : Int)) (by omega) (by omega)
  have hx4 := tmod_in x0 4 (by omega)
  rw [wordbookref15_Words.l0, if_pos (by omega), w64 (x := 3 * (n : Int)) (by omega) (by omega), e, Option.bind_some]
  exact w15_l1 l hw (m : Int) out n (by omega) ho (3000000 + 100 * d + 1) (by omega) (fun q => W15 q m) (fun r k hr hk => ih (n + 1) k r (by omega) hr (by omega)) x ⟨x0, x1⟩ (Int.tmod x 4).toNat k 0 [] (by omega) (fun s hs => by cases hs) (by simp; omega) (by omega)
theorem words15_is (l : List Int) (hw : ∀ x ∈ l, -9223372036854775808 ≤ x ∧ x ≤ 9223372036854775807) (m : Int) (h0 : 0 ≤ m) (h1 : m ≤ 100) : ∃ q, wordbookref15_Words.f 4000000 l m = some q ∧ W15 q m.toNat := by
 obtain ⟨n, rfl⟩ := Int.eq_ofNat_of_zero_le h0
 exact w15_l0 l hw n (by omega) n 0 4000000 [] (by omega) ⟨by simp [Srt], by simp, fun h => absurd h (by decide), by simp, by simp⟩ (by omega)
end Go.Proofs.Ytcdjeimjbbknjaa.PAll
namespace Go.Proofs.Ytcdjeimjbbknjaa.PAll
open Go.RowKit Go.Proofs.YtcdjeimjbbknjaaW.PrintWords Go.Proofs.YtcdjeimjbbknjaaW.PrintLast Go.Proofs.YtcdjeimjbbknjaaW.PrintMore Go.Proofs.Ytcdjeimjbbknjaa.Res
set_option linter.unusedVariables false
set_option linter.unusedSimpArgs false

theorem resW_app : ∀ (p s : List Int) (r : List (List Int)), resW r (p ++ s) = resW (resW r p) s
  | [], _, _ => rfl
  | a :: p, s, r => resW_app p s (resS r a)
theorem lessL_app : ∀ (p s : List Int) {r : List (List Int)}, Srt r → lessL r (p ++ s) = lessL r p + lessL (resW r p) s
  | [], s, r, _ => by rw [lessL_nil, Nat.zero_add]; rfl
  | a :: p, s, r, h => by
    rw [List.cons_append, lessL_cons h, lessL_cons h a p, lessL_app p s (srt_resS h a)]
    rw [show resW r (a :: p) = resW (resS r a) p from rfl]; omega
theorem lessL_mem {r : List (List Int)} {u : List Int} (hu : u ∈ r) : lessL r u < r.length := by
 unfold lessL
 have h1 := List.length_filter_le (ltB u) r
 rcases Nat.lt_or_ge (r.filter (ltB u)).length r.length with h | h
 ·
  exact h
 ·
  exfalso
  have h2 : r.filter (ltB u) = r := List.filter_sublist.eq_of_length (by omega)
  have h3 : u ∈ r.filter (ltB u) := h2.symm ▸ hu
  have h4 := (List.mem_filter.1 h3).2
  simp only [ltB, decide_eq_true_eq] at h4
  rw [(cmp_eq u u).2 rfl] at h4
  omega
theorem lessL_at' : ∀ (ws : List (List Int)), Srt ws → ∀ i (h : i < ws.length), lessL ws ws[i] = i
  | [], _, i, h => absurd h (Nat.not_lt_zero _)
  | u :: ws, hs, 0, h => by
    have h1 := List.pairwise_cons.1 hs
    unfold lessL
    rw [List.length_eq_zero_iff, List.filter_eq_nil_iff]
    intro v hv hb
    simp only [ltB, decide_eq_true_eq, List.getElem_cons_zero] at hb
    rcases List.mem_cons.1 hv with rfl | hv
    · rw [(cmp_eq v v).2 rfl] at hb; omega
    · have := cmpL_trans _ _ _ (h1.1 v hv) hb
      rw [(cmp_eq u u).2 rfl] at this; omega
  | u :: ws, hs, i + 1, h => by
    have h1 := List.pairwise_cons.1 hs
    have ih := lessL_at' ws h1.2 i (by simpa using h)
    unfold lessL at ih ⊢
    rw [List.getElem_cons_succ, List.filter_cons_of_pos]
    · rw [List.length_cons, ih]
    · simp only [ltB, decide_eq_true_eq]
      exact h1.1 _ (List.getElem_mem _)
theorem st_nd {ns : List Nd} {Q : List (List (List Int))} (hI : Inv ns Q) {st : Int} (h0 : 0 ≤ st) (h1 : st < (ns.length : Int)) : IsNd Q (rdN ns st) (rdP Q st) ∧ Srt (rdP Q st) := by
 have hn := hI.nds st.toNat (by omega)
 rw [Int.toNat_of_nonneg h0] at hn
 exact ⟨hn, hI.srt _ (rdP_mem h0 (by rw [hI.len]; exact h1))⟩
theorem final_st {ns : List Nd} {Q : List (List (List Int))} (hI : Inv ns Q) {st : Int} (h0 : 0 ≤ st) (h1 : st < (ns.length : Int)) : finalB ns st = finR (rdP Q st) := by
 have := (st_nd hI h0 h1).1.fin
 unfold finalB
 rw [show hasB ns.length st = true from by simp [hasB, h0, h1], Bool.true_and]
 exact this
theorem step_st {ns : List Nd} {Q : List (List (List Int))} (hI : Inv ns Q) {st : Int} (h0 : 0 ≤ st) (h1 : st < (ns.length : Int)) {s : Int} (hs : resS (rdP Q st) s ≠ []) : rdP Q (stepN ns st s) = resS (rdP Q st) s ∧ 0 ≤ stepN ns st s ∧ stepN ns st s < (ns.length : Int) := by
 obtain ⟨hn, hsr⟩ := st_nd hI h0 h1
 obtain ⟨a, b⟩ := hn.step hsr s
 have hm : s ∈ (rdN ns st).f1 := Classical.byContradiction fun h => hs (b h)
 obtain ⟨e1, _, e2, e3⟩ := a hm
 unfold stepN
 rw [if_pos ⟨by simp [hasB, h0, h1], hm⟩]
 exact ⟨e1, e2, by rw [← hI.len]; exact e3⟩
structure At (ws : List (List Int)) (Q : List (List (List Int))) (u : List Int) (n : Nat) (st : Int) : Prop where
  le : n ≤ u.length
  s0 : 0 ≤ st
  s1 : st < ((graphOf ws).length : Int)
  res : rdP Q st = resW ws (u.take n)
theorem At.mem {ws : List (List Int)} {Q : List (List (List Int))} {u : List Int} {n : Nat} {st : Int} (hs : Srt ws) (hu : u ∈ ws) (h : At ws Q u n st) : u.drop n ∈ rdP Q st := by
 rw [h.res, mem_resW _ hs, List.take_append_drop]; exact hu
theorem At.start {ws : List (List Int)} {Q : List (List (List Int))} (u : List Int) (hq : 0 < (graphOf ws).length) (h0 : rdP Q 0 = ws) : At ws Q u 0 0 := ⟨Nat.zero_le _, Int.le_refl _, by omega, h0⟩
theorem At.step {ws : List (List Int)} {Q : List (List (List Int))} {u : List Int} {n : Nat} {st : Int} (hI : Inv (graphOf ws) Q) (hs : Srt ws) (hu : u ∈ ws) (h : At ws Q u n st) (hn : n < u.length) : At ws Q u (n + 1) (stepN (graphOf ws) st (rd u (n : Int))) := by
 have hm := h.mem hs hu
 rw [rd_drop hn] at hm
 have hsr := (st_nd hI h.s0 h.s1).2
 have hne : resS (rdP Q st) (rd u (n : Int)) ≠ [] := fun e => by
  have := (mem_resS hsr (rd u (n : Int)) (u.drop (n + 1))).2 hm
  rw [e] at this; cases this
 obtain ⟨e1, e2, e3⟩ := step_st hI h.s0 h.s1 hne
 refine ⟨hn, e2, e3, ?_⟩
 rw [e1, h.res, show u.take (n + 1) = u.take n ++ [rd u (n : Int)] from by rw [List.take_succ_eq_append_getElem hn, rd_nat, List.getD_eq_getElem?_getD, List.getElem?_eq_getElem hn]; rfl, resW_app]
 rfl
theorem At.range {ws : List (List Int)} {Q : List (List (List Int))} {i n : Nat} {st : Int} (hs : Srt ws) (hi : i < ws.length) (h : At ws Q (ws[i]) n st) : lessL ws (ws[i].take n) ≤ i ∧ i < lessL ws (ws[i].take n) + (resW ws (ws[i].take n)).length := by
 have h1 := lessL_at' ws hs i hi
 have h2 := lessL_app (ws[i].take n) (ws[i].drop n) hs
 rw [List.take_append_drop, h1] at h2
 have h3 := h.mem hs (List.getElem_mem hi)
 rw [h.res] at h3
 have := lessL_mem h3
 omega
theorem At.last {ws : List (List Int)} {Q : List (List (List Int))} {u : List Int} {st : Int} (hI : Inv (graphOf ws) Q) (hs : Srt ws) (hu : u ∈ ws) (h : At ws Q u u.length st) : finalB (graphOf ws) st = true := by
 rw [final_st hI h.s0 h.s1, fin_mem (st_nd hI h.s0 h.s1).2]
 have := h.mem hs hu
 rwa [List.drop_length] at this
end Go.Proofs.Ytcdjeimjbbknjaa.PAll
namespace Go.Proofs.Ytcdjeimjbbknjaa.PAll
open Go.RowKit Go.Proofs.YtcdjeimjbbknjaaW.PrintWords Go.Proofs.YtcdjeimjbbknjaaW.PrintLast Go.Proofs.YtcdjeimjbbknjaaW.PrintMore Go.Proofs.Ytcdjeimjbbknjaa.Res
set_option linter.unusedVariables false
set_option linter.unusedSimpArgs false

theorem cmpL_self : ∀ u : List Int, cmpL u u ≠ -1
  | [] => by simp [cmpL]
  | a :: u => fun h => by
    rcases (cmpL_cons a a u u).1 h with h | ⟨_, h⟩
    · omega
    · exact cmpL_self u h
theorem srt_ext : ∀ {r r' : List (List Int)}, Srt r → Srt r' → (∀ u, u ∈ r ↔ u ∈ r') → r = r'
  | [], [], _, _, _ => rfl
  | [], v :: r', _, _, h => absurd ((h v).2 List.mem_cons_self) (by simp)
  | v :: r, [], _, _, h => absurd ((h v).1 List.mem_cons_self) (by simp)
  | v :: r, v' :: r', h1, h2, h => by
    have p1 := List.pairwise_cons.1 h1
    have p2 := List.pairwise_cons.1 h2
    have e : v = v' := by
      rcases List.mem_cons.1 ((h v).1 List.mem_cons_self) with e | e
      · exact e
      · rcases List.mem_cons.1 ((h v').2 List.mem_cons_self) with e' | e'
        · exact e'.symm
        · exact absurd (cmpL_trans _ _ _ (p1.1 _ e') (p2.1 _ e)) (cmpL_self v)
    subst e
    rw [srt_ext p1.2 p2.2 fun u => ⟨fun hu => ?_, fun hu => ?_⟩]
    · rcases List.mem_cons.1 ((h u).1 (List.mem_cons_of_mem _ hu)) with e | e
      · subst e; exact absurd (p1.1 _ hu) (cmpL_self u)
      · exact e
    · rcases List.mem_cons.1 ((h u).2 (List.mem_cons_of_mem _ hu)) with e | e
      · subst e; exact absurd (p2.1 _ hu) (cmpL_self u)
      · exact e
theorem len_sub {α : Type} [BEq α] [LawfulBEq α] : ∀ {l m : List α}, l.Nodup → (∀ x ∈ l, x ∈ m) → l.length ≤ m.length
  | [], m, _, _ => Nat.zero_le _
  | x :: l, m, h, hs => by
    have hx := hs x List.mem_cons_self
    have hn := List.nodup_cons.1 h
    have := len_sub (m := m.erase x) hn.2 fun y hy => (List.mem_erase_of_ne (fun e : y = x => hn.1 (by rw [← e]; exact hy))).2 (hs y (List.mem_cons_of_mem _ hy))
    rw [List.length_erase_of_mem hx] at this
    have := List.length_pos_of_mem hx
    rw [List.length_cons]; omega
def goG (ns : List Nd) (i s : Int) : Int := if stepN ns i s < 0 then (ns.length : Int) else stepN ns i s
def rowG (ns : List Nd) (i : Nat) : List Int := (List.range 64).map fun s : Nat => goG ns i s
def nxG (ns : List Nd) : List (List Int) := (List.range (ns.length + 1)).map (rowG ns)
def finG (ns : List Nd) : List Bool := (List.range (ns.length + 1)).map fun i : Nat => finalB ns i
structure GrOk (ws : List (List Int)) (ns : List Nd) (Q : List (List (List Int))) : Prop where
  inv : Inv ns Q
  pos : 0 < ns.length
  top : rdP Q 0 = ws
  srt : Srt ws
  sym : ∀ w ∈ ws, ∀ s ∈ w, 0 ≤ s ∧ s < 64
  short : ∀ w ∈ ws, w.length ≤ 64
  full : ∀ r ∈ Q, r ≠ [] ∧ ∃ u, (∀ s ∈ u, 0 ≤ s ∧ s < 64) ∧ r = resW ws u
theorem resW_snoc (r : List (List Int)) (u : List Int) (s : Int) : resW r (u ++ [s]) = resS (resW r u) s := by rw [resW_app]; rfl
theorem grOk {ws : List (List Int)} (h : Good ws) (hne : 0 < ws.length) : ∃ Q, GrOk ws (graphOf ws) Q := by
 obtain ⟨Q, e, hi, hq, h0⟩ := graph_spec h
 refine ⟨Q, hi, by rw [← hi.len]; exact hq, h0, h.sorted, h.syms, h.short, ?_⟩
 have := resG_all (fun r => Srt r ∧ SymR r ∧ r ≠ [] ∧ ∃ u, (∀ s ∈ u, 0 ≤ s ∧ s < 64) ∧ r = resW ws u) (fun r hr g hg => by
  obtain ⟨h1, h2, h3, u, h4, h5⟩ := hr
  refine ⟨(groups_ok h1 g hg).1, groups_sym h1 h2 g hg, (groups_ok h1 g hg).2.1, u ++ [g.1], fun s hs => ?_, ?_⟩
  ·
   rcases List.mem_append.1 hs with hs | hs
   ·
    exact h4 s hs
   ·
    rw [List.mem_singleton.1 hs]; exact syms_sym h1 h2 _ (List.mem_map.2 ⟨g, hg, rfl⟩)
  ·
   rw [resW_snoc, ← h5, resS_group h1 hg]) ((nodesOf ws).2.length + 1) [ws] 0 [] (by
   intro r hr; rw [List.mem_singleton.1 hr]
   exact ⟨h.sorted, h.syms, by intro e; subst e; simp at hne, [], by simp, rfl⟩)
 rw [e] at this
 exact fun r hr => (this r hr).2.2
section
variable {ws : List (List Int)} {ns : List Nd} {Q : List (List (List Int))}
theorem rdP_out {k : Int} (h : (Q.length : Int) ≤ k) : rdP Q k = [] := by
 unfold rdP; rw [List.getD_eq_getElem?_getD, List.getElem?_eq_none (by omega)]; rfl
theorem GrOk.srtP (h : GrOk ws ns Q) (i : Int) (h0 : 0 ≤ i) : Srt (rdP Q i) ∧ SymR (rdP Q i) := by
  by_cases h1 : i < (Q.length : Int)
  · exact ⟨h.inv.srt _ (rdP_mem h0 h1), h.inv.sym _ (rdP_mem h0 h1)⟩
  · rw [rdP_out (by omega)]; exact ⟨List.Pairwise.nil, fun w hw => by cases hw⟩
theorem GrOk.go (h : GrOk ws ns Q) {i : Int} (h0 : 0 ≤ i) (h1 : i ≤ (ns.length : Int)) (s : Int) : rdP Q (goG ns i s) = resS (rdP Q i) s ∧ 0 ≤ goG ns i s ∧ goG ns i s ≤ (ns.length : Int) := by
 have hl := h.inv.len
 by_cases hi : i < (ns.length : Int)
 ·
  obtain ⟨hn, hsr⟩ := st_nd h.inv h0 hi
  obtain ⟨a, b⟩ := hn.step hsr s
  unfold goG
  by_cases hm : s ∈ (rdN ns i).f1
  ·
   obtain ⟨e1, _, e2, e3⟩ := a hm
   have e : stepN ns i s = rd (rdN ns i).f2 (posL (rdN ns i).f1 s) := by unfold stepN; rw [if_pos ⟨by simp [hasB, h0, hi], hm⟩]
   rw [e, if_neg (by omega)]
   exact ⟨e1, e2, by omega⟩
  ·
   have e : stepN ns i s = -1 := by unfold stepN; rw [if_neg fun hh => hm hh.2]
   rw [e, if_pos (by omega), b hm, rdP_out (by omega)]
   exact ⟨rfl, by omega, by omega⟩
 ·
  have e : stepN ns i s = -1 := by unfold stepN; rw [if_neg]; rintro ⟨hh, _⟩; simp [hasB, h0, hi] at hh
  unfold goG
  rw [e, if_pos (by omega), rdP_out (by omega), rdP_out (by omega)]
  exact ⟨rfl, by omega, by omega⟩
theorem GrOk.fin (h : GrOk ws ns Q) {i : Int} (h0 : 0 ≤ i) (h1 : i ≤ (ns.length : Int)) : finalB ns i = finR (rdP Q i) := by
  by_cases hi : i < (ns.length : Int)
  · exact final_st h.inv h0 hi
  · rw [rdP_out (by have := h.inv.len; omega)]; simp [finalB, hasB, hi, finR]
theorem nxG_at {i : Nat} (h : i ≤ ns.length) : rdR (nxG ns) i = rowG ns i := by
 unfold rdR nxG
 rw [Int.toNat_natCast, List.getD_eq_getElem?_getD, List.getElem?_eq_getElem (by simp; omega), Option.getD_some]; simp
theorem rowG_len (i : Nat) : (rowG ns i).length = 64 := by simp [rowG]
theorem goA_is {i s : Nat} (h : i ≤ ns.length) (hs : s < 64) : goA (nxG ns) i s = goG ns i s := by
 unfold goA
 rw [nxG_at h, rd_getA (by rw [rowG_len]; exact hs)]; simp [rowG]
theorem finA_is {i : Nat} (h : i ≤ ns.length) : finA (finG ns) i = finalB ns i := by
 unfold finA finG
 rw [List.getD_eq_getElem?_getD, List.getElem?_eq_getElem (by simp; omega), Option.getD_some]; simp
theorem GrOk.dfa (h : GrOk ws ns Q) (hN : ns.length ≤ 2047) : DfaOk (ns.length + 1) (nxG ns) (finG ns) :=
  ⟨by omega, by omega, by simp [nxG], by simp [finG], fun i hi => by rw [nxG_at (by omega), rowG_len], fun i hi k hk => by
    rw [nxG_at (by omega)] at hk
    obtain ⟨s, _, rfl⟩ := List.mem_map.1 hk
    have := (h.go (i := i) (by omega) (by omega) s).2
    omega⟩
theorem GrOk.inj (h : GrOk ws ns Q) {i j : Int} (h0 : 0 ≤ i) (h1 : i ≤ (ns.length : Int)) (h2 : 0 ≤ j) (h3 : j ≤ (ns.length : Int)) (e : rdP Q i = rdP Q j) : i = j := by
 have hl := h.inv.len
 by_cases hi : i < (ns.length : Int)
 ·
  by_cases hj : j < (ns.length : Int)
  ·
   exact nodup_get h.inv.nodup h0 (by omega) h2 (by omega) e
  ·
   rw [rdP_out (k := j) (by omega)] at e
   exact absurd e (h.full _ (rdP_mem h0 (by omega))).1
 ·
  by_cases hj : j < (ns.length : Int)
  ·
   rw [rdP_out (k := i) (by omega)] at e
   exact absurd e.symm (h.full _ (rdP_mem h2 (by omega))).1
  ·
   omega
theorem GrOk.minim (h : GrOk ws ns Q) : Minim (ns.length + 1) (nxG ns) (finG ns) := by
 intro c hc hb
 have key : ∀ (u : List Int) (i j : Nat), i ≤ ns.length → j ≤ ns.length → rd c i = rd c j → (∀ s ∈ u, 0 ≤ s ∧ s < 64) → (u ∈ rdP Q i ↔ u ∈ rdP Q j) := by
  intro u
  induction u with
  | nil =>
   intro i j hi hj e _
   have hf := (hb i j (by omega) (by omega) e).1
   rw [finA_is hi, finA_is hj, h.fin (by omega) (by omega), h.fin (by omega) (by omega)] at hf
   rw [← fin_mem (h.srtP i (by omega)).1, ← fin_mem (h.srtP j (by omega)).1, hf]
  | cons s u ih =>
   intro i j hi hj e hs
   have hss := hs s List.mem_cons_self
   obtain ⟨t, rfl⟩ : ∃ t : Nat, s = (t : Int) := ⟨s.toNat, by omega⟩
   have hg := (hb i j (by omega) (by omega) e).2 t (by omega)
   rw [goA_is hi (by omega), goA_is hj (by omega)] at hg
   obtain ⟨a1, a2, a3⟩ := h.go (i := i) (by omega) (by omega) (t : Int)
   obtain ⟨b1, b2, b3⟩ := h.go (i := j) (by omega) (by omega) (t : Int)
   rw [← mem_resS (h.srtP i (by omega)).1, ← mem_resS (h.srtP j (by omega)).1, ← a1, ← b1]
   have := ih (goG ns i t).toNat (goG ns j t).toNat (by omega) (by omega) (by rw [Int.toNat_of_nonneg a2, Int.toNat_of_nonneg b2]; exact hg) fun x hx => hs x (List.mem_cons_of_mem _ hx)
   rwa [Int.toNat_of_nonneg a2, Int.toNat_of_nonneg b2] at this
 rw [List.nodup_iff_pairwise_ne, List.pairwise_iff_getElem]
 intro i j hi hj hij e
 rw [hc] at hi hj
 have e' : rd c i = rd c j := by rw [rd_getA (by omega), rd_getA (by omega)]; exact e
 have := h.inj (i := i) (j := j) (by omega) (by omega) (by omega) (by omega) (srt_ext (h.srtP i (by omega)).1 (h.srtP j (by omega)).1 fun u => ⟨fun hu => (key u i j (by omega) (by omega) e' ((h.srtP i (by omega)).2 u hu)).1 hu, fun hu => (key u i j (by omega) (by omega) e' ((h.srtP j (by omega)).2 u hu)).2 hu⟩)
 omega
def Reach (N : Nat) (nx : List (List Int)) : Prop := ∀ P : Int → Prop, P 0 → (∀ i : Nat, i < N → P i → ∀ s : Nat, s < 64 → P (goA nx i s)) → ∀ i : Nat, i < N → P i
theorem GrOk.reach (h : GrOk ws ns Q) : Reach (ns.length + 1) (nxG ns) := by
 intro P p0 ps i hi
 have key : ∀ (u : List Int) (i : Int), 0 ≤ i → i ≤ (ns.length : Int) → P i → (∀ s ∈ u, 0 ≤ s ∧ s < 64) → ∃ j, 0 ≤ j ∧ j ≤ (ns.length : Int) ∧ P j ∧ rdP Q j = resW (rdP Q i) u := by
  intro u
  induction u with
  | nil => intro i h0 h1 hp _; exact ⟨i, h0, h1, hp, rfl⟩
  | cons s u ih =>
   intro i h0 h1 hp hs
   have hss := hs s List.mem_cons_self
   obtain ⟨t, rfl⟩ : ∃ t : Nat, s = (t : Int) := ⟨s.toNat, by omega⟩
   obtain ⟨k, rfl⟩ : ∃ k : Nat, i = (k : Int) := ⟨i.toNat, by omega⟩
   obtain ⟨a1, a2, a3⟩ := h.go h0 h1 (t : Int)
   have hq := ps k (by omega) hp t (by omega)
   rw [goA_is (by omega) (by omega)] at hq
   obtain ⟨j, j0, j1, j2, j3⟩ := ih _ a2 a3 hq fun x hx => hs x (List.mem_cons_of_mem _ hx)
   exact ⟨j, j0, j1, j2, by rw [j3, a1]; rfl⟩
 have hl := h.inv.len
 by_cases hi' : i < ns.length
 ·
  obtain ⟨_, u, hu, e⟩ := h.full (rdP Q i) (rdP_mem (by omega) (by omega))
  obtain ⟨j, j0, j1, j2, j3⟩ := key u 0 (by omega) (by omega) p0 hu
  rw [h.top, ← e] at j3
  rw [← h.inj j0 j1 (by omega) (by omega) j3]
  exact j2
 ·
  obtain ⟨j, j0, j1, j2, j3⟩ := key (List.replicate 65 0) 0 (by omega) (by omega) p0 (by intro s hs; rw [List.eq_of_mem_replicate hs]; omega)
  rw [h.top] at j3
  have hz : resW ws (List.replicate 65 0) = [] := by
   rw [List.eq_nil_iff_forall_not_mem]
   intro u hu
   have := h.short _ ((mem_resW _ h.srt u).1 hu)
   rw [List.length_append, List.length_replicate] at this
   omega
  rw [hz, ← rdP_out (Q := Q) (k := i) (by omega)] at j3
  rw [← h.inj j0 j1 (by omega) (by omega) j3]
  exact j2
theorem GrOk.few (h : GrOk ws ns Q) (b m : Nat) (hb : ∀ w ∈ ws, w.length ≤ b) (hm : ws.length ≤ m) : ns.length ≤ m * (b + 1) := by
 have h1 : Q.length ≤ ((ws.flatMap fun w => (List.range (b + 1)).map fun k => w.take k).map (resW ws)).length := len_sub h.inv.nodup fun r hr => by
  obtain ⟨hne, u, _, e⟩ := h.full r hr
  obtain ⟨v, hv⟩ := List.exists_mem_of_ne_nil r hne
  rw [e] at hv
  have hw := (mem_resW u h.srt v).1 hv
  refine List.mem_map.2 ⟨u, List.mem_flatMap.2 ⟨u ++ v, hw, List.mem_map.2 ⟨u.length, ?_, List.take_left'  rfl⟩⟩, e.symm⟩
  have := hb _ hw
  rw [List.length_append] at this
  rw [List.mem_range]; omega
 have h2 : ∀ l : List (List Int), (l.flatMap fun w => (List.range (b + 1)).map fun k => w.take k).length = l.length * (b + 1) := by
  intro l
  induction l with
  | nil => simp
  | cons w l ih => rw [List.flatMap_cons, List.length_append, ih, List.length_cons, Nat.succ_mul]; simp; omega
 rw [List.length_map, h2, h.inv.len] at h1
 exact Nat.le_trans h1 (Nat.mul_le_mul_right _ hm)
end
end Go.Proofs.Ytcdjeimjbbknjaa.PAll
namespace Go.Proofs.Ytcdjeimjbbknjaa.PAll
open Go.RowKit Go.Maps Go.Proofs.YtcdjeimjbbknjaaW.PrintWords Go.Proofs.YtcdjeimjbbknjaaW.PrintLast Go.Proofs.YtcdjeimjbbknjaaW.PrintMore
set_option linter.unusedVariables false
set_option linter.unusedSimpArgs false

structure MinBox (W : World) (N : Nat) (nx : List (List Int)) (fin : List Bool) (A B : Option Addr) (ca cb cc pc pd pf gc gf : Nat) : Prop where
  dfa : DfaAt W N nx fin A B ca cb
  boxC : W.heap[pc]? = some (.cells #[.slice (some ⟨gc, 0, none⟩) N cc] 22 (0, 0))
  boxD : W.heap[pd]? = some (.cells #[.int .i64 64, .slice A N ca, .slice B N cb] 68 (0, 0))
  boxF : W.heap[pf]? = some (.cells #[.slice (some ⟨gf, 0, none⟩) N N] 22 (0, 0))
  rowC : ∀ i : Nat, i < N → W.cell? ⟨gc, i, none⟩ = some (.int .i64 (i : Int))
  rowF : ∀ i : Nat, i < N → W.cell? ⟨gf, i, none⟩ = some (.int .i64 (i : Int))
theorem MinBox.below {W W' : World} {N : Nat} {nx : List (List Int)} {fin : List Bool} {A B : Option Addr} {ca cb cc pc pd pf gc gf : Nat} (h : MinBox W N nx fin A B ca cb cc pc pd pf gc gf) (hb : Below W.heap.size W W') : MinBox W' N nx fin A B ca cb cc pc pd pf gc gf :=
  ⟨h.dfa.below hb, (hb.block _ (blk_lt h.boxC)).trans h.boxC, (hb.block _ (blk_lt h.boxD)).trans h.boxD, (hb.block _ (blk_lt h.boxF)).trans h.boxF, fun i hi => pw_cell_below hb (h.rowC i hi), fun i hi => pw_cell_below hb (h.rowF i hi)⟩
set_option maxHeartbeats 800000 in
theorem min2_any {W : World} {N : Nat} {nx : List (List Int)} {fin : List Bool} {A B : Option Addr} {ca cb cc pc pd pf gc gf : Nat} (h : MinBox W N nx fin A B ca cb cc pc pd pf gc gf) (i : Nat) (hi : i < N) :
    Calls Try.prog 93 #[.int .i64 (i : Int), .pointer (some ⟨pd, 0, none⟩), .pointer (some ⟨pf, 0, none⟩)] W fun e w' => ∃ b : Bool, e = .returned (.bool b) ∧ Below W.heap.size W w' := by
 obtain ⟨adf, rfl, hxf⟩ := Kd.at_bool h.dfa.fins (i : Int) (by omega) (by omega)
 rw [Int.toNat_natCast] at hxf
 have x2 : W.cell? ⟨pd, 2, none⟩ = some (.slice (some adf) N cb) := (blk_cell h.boxD 2).trans rfl
 have x3 : W.cell? ⟨pf, 0, none⟩ = some (.slice (some ⟨gf, 0, none⟩) N N) := (blk_cell h.boxF 0).trans rfl
 have x4 := h.rowF i hi
 have i0 : (0 : Int) ≤ (i : Int) := by omega
 have i1 : (i : Int) < (N : Int) := by omega
 clear h
 go_enter Try.func93, Try.ntmps93
 go_wp2
 go_quiet (fail)
 go_wp2
 go_ret
 exact ⟨_, rfl, pw_below_drewN (Below.refl _ _) _⟩
set_option maxHeartbeats 800000 in
theorem min1_any {W : World} {N : Nat} {nx : List (List Int)} {fin : List Bool} {A B : Option Addr} {ca cb cc pc pd pf gc gf : Nat} (h : MinBox W N nx fin A B ca cb cc pc pd pf gc gf) (i s : Nat) (hi : i < N) (hs : s < 64) :
    Calls Try.prog 92 #[.int .i64 (i : Int), .int .i64 (s : Int), .pointer (some ⟨pc, 0, none⟩), .pointer (some ⟨pd, 0, none⟩), .pointer (some ⟨pf, 0, none⟩)] W fun e w' => e = .returned (.int .i64 (goA nx i s)) ∧ Below W.heap.size W w' := by
 obtain ⟨adr, Ar, cr, rfl, hxr, hlr, hCr⟩ := h.dfa.row hi
 have hlen := h.dfa.ok.rows i hi
 have hsl : s < (rdR nx (i : Int)).length := by omega
 obtain ⟨k0, k1⟩ := rd_lead (h.dfa.ok.lead i hi) hsl
 rw [hlen] at hCr
 obtain ⟨adk, rfl, hxk⟩ := Kd.at_int hCr (s : Int) (by omega) (by omega)
 rw [Int.toNat_natCast] at hxk
 have hgo : goA nx i s = rd (rdR nx (i : Int)) (s : Int) := rfl
 rw [hgo]
 obtain ⟨k, hk⟩ : ∃ k : Nat, rd (rdR nx (i : Int)) (s : Int) = (k : Int) := ⟨(rd (rdR nx (i : Int)) (s : Int)).toNat, by omega⟩
 rw [hk] at hxk k0 k1 ⊢
 have x0 : W.cell? ⟨pc, 0, none⟩ = some (.slice (some ⟨gc, 0, none⟩) N cc) := (blk_cell h.boxC 0).trans rfl
 have x1 : W.cell? ⟨pd, 1, none⟩ = some (.slice (some adr) N ca) := (blk_cell h.boxD 1).trans rfl
 have x3 : W.cell? ⟨pf, 0, none⟩ = some (.slice (some ⟨gf, 0, none⟩) N N) := (blk_cell h.boxF 0).trans rfl
 have x4 := h.rowF i hi
 have x5 := h.rowC k (by omega)
 have i0 : (0 : Int) ≤ (i : Int) := by omega
 have i1 : (i : Int) < (N : Int) := by omega
 have s0 : (0 : Int) ≤ (s : Int) := by omega
 have s1 : (s : Int) < 64 := by omega
 clear h hCr hlen hsl hgo hk hlr
 go_enter Try.func92, Try.ntmps92
 go_wp2
 go_quiet (fail)
 go_wp2
 go_ret
 exact ⟨rfl, pw_below_drewN (Below.refl _ _) _⟩
end Go.Proofs.Ytcdjeimjbbknjaa.PAll
namespace Go.Proofs.Ytcdjeimjbbknjaa.PAll
open Go.RowKit Go.Maps Go.Proofs.YtcdjeimjbbknjaaW.PrintWords Go.Proofs.YtcdjeimjbbknjaaW.PrintLast Go.Proofs.YtcdjeimjbbknjaaW.PrintMore
set_option linter.unusedVariables false
set_option linter.unusedSimpArgs false

abbrev Hd := Option Addr × Nat × Nat
def hdV (p : Hd) : Value := .slice p.1 p.2.1 p.2.2
def slV : Kd Hd := Kd.scalar hdV (fun _ => rfl)
section
variable {α : Type} {d : Kd α} {e base : Nat} {ok : Nat → Prop} {w : World} {v : Value} {xs : List α}
theorem R_ne (h : d.R e w base ok v xs) {g : Nat} {cs : Array Value} {t : TypeId} {fr : Nat × Nat} (hg : w.heap[g]? = some (.cells cs t fr)) (ht : t ≠ e) : some g ≠ v.ownBlock := by
 intro he
 obtain ⟨cells, hc⟩ := Kd.R_typed h g he.symm
 rw [hg] at hc
 injection hc with hc
 injection hc with _ e
 exact ht e
theorem R_nemap (h : d.R e w base ok v xs) {β : Type} {K : Nat} {lit : β → Lit} {b n : Nat} {f : β → Option Int} (hm : MapHas K lit w b n f) : some b ≠ v.ownBlock := by
 intro he
 obtain ⟨cells, hc⟩ := Kd.R_typed h b he.symm
 exact hm.not_cells hc rfl
theorem R_ne2 (h : d.R e w base ok v xs) {β : Type} {d' : Kd β} {e' base' : Nat} {ok' : Nat → Prop} {v' : Value} {xs' : List β} (h' : d'.R e' w base' ok' v' xs') (hne : e ≠ e') : ∀ k, v.ownBlock = some k → some k ≠ v'.ownBlock := fun k hk => by
  obtain ⟨cells, hc⟩ := Kd.R_typed h k hk
  exact R_ne h' hc hne
end
structure Exp (w wr : World) (gm gd gr : Nat) (vo vn vf : Value) (o : List Int) (xn : List Hd) (xf : List Bool) : Prop where
  below : Below w.heap.size w wr
  list : Kd.R (Kd.int .i64) 3 wr w.heap.size (fun _ => True) vo o
  map : MapHas 3 litI wr gm o.length (posF o)
  dfa : wr.heap[gd]? = some (.cells #[.int .i64 64, vn, vf] 68 (0, 0))
  res : wr.heap[gr]? = some (.cells #[.int .i64 0, .slice none 0 0, .slice none 0 0] 68 (0, 0))
  nxt : slV.R 22 wr w.heap.size (fun _ => True) vn xn
  fins : Kd.bool.R 4 wr w.heap.size (fun _ => True) vf xf
  lm : w.heap.size ≤ gm
  ld : w.heap.size ≤ gd
  lr : w.heap.size ≤ gr
  dr : gd ≠ gr
structure ExpIn (w wr : World) (gm gd gr gn : Nat) (vo vn vf : Value) (o : List Int) (xn : List Hd) (xf : List Bool) (r : List Int) : Prop extends Exp w wr gm gd gr vo vn vf o xn xf where
  row : wr.ownsRow w.heap.size 3 1 (.slice (some ⟨gn, 0, none⟩) 64 64) 64 (encs (Value.int .i64) r)
  hgn : some gn ≠ vo.ownBlock
section
variable {w wr W w3 wA : World} {gm gd gr gn : Nat} {vo vn vf v1 : Value} {o r : List Int} {xn : List Hd} {xf : List Bool}
theorem Exp.step (h : Exp w wr gm gd gr vo vn vf o xn xf) (hb : Below wr.heap.size wr W) : Exp w W gm gd gr vo vn vf o xn xf :=
  ⟨h.below.trans (hb.mono h.below.size), Kd.R_below h.list hb, h.map.below hb, (hb.block _ (blk_lt h.dfa)).trans h.dfa, (hb.block _ (blk_lt h.res)).trans h.res, Kd.R_below h.nxt hb, Kd.R_below h.fins hb, h.lm, h.ld, h.lr, h.dr⟩
theorem ExpIn.step (h : ExpIn w wr gm gd gr gn vo vn vf o xn xf r) (hb : Below wr.heap.size wr W) : ExpIn w W gm gd gr gn vo vn vf o xn xf r := ⟨h.toExp.step hb, pw_own_below h.row hb, h.hgn⟩
theorem ExpIn.cell (h : ExpIn w wr gm gd gr gn vo vn vf o xn xf r) : ∃ cells, wr.heap[gn]? = some (.cells cells 3 (0, 0)) := own_typed h.row gn rfl
theorem Exp.start (h : Exp w wr gm gd gr vo vn vf o xn xf) : ExpIn w (wr.alloc (.cells (madeCells #[.int .i64 0] 64) 3)) gm gd gr wr.heap.size vo vn vf o xn xf (List.replicate 64 0) :=
  ⟨h.step (below_alloc (Below.refl _ _) _), own_made_of (enc := Value.int .i64) (d := 0) wr w.heap.size 3 64 h.below.size (by omega), fun e => by have := ((Kd.R_bound h.list).1 _ e.symm).2.2.1; omega⟩
theorem ExpIn.put (h : ExpIn w wr gm gd gr gn vo vn vf o xn xf r) (s : Nat) (x : Int) : ExpIn w (wr.setCell ⟨gn, s, none⟩ (.int .i64 x)) gm gd gr gn vo vn vf o xn xf (r.set s x) := by
 obtain ⟨h1, hg⟩ := own_store_of h.row (s : Int) x
 rw [Int.toNat_natCast] at h1 hg
 obtain ⟨cells, hc⟩ := h.cell
 have hle : w.heap.size ≤ gn := (Kd.R_bound (Kd.R_of_own (h1 := fun _ => rfl) (ok := fun _ => True) (xs := r) (by have := h.row.1; rw [show r.length = 64 from by simpa [encs] using this]; exact h.row) fun _ _ => trivial)).1 gn rfl |>.2.1
 refine ⟨⟨h.below.setCell hle _, Kd.R_grown2 h.list rfl hg fun k e => by obtain rfl := Option.some.inj e; exact h.hgn, h.map.kept hg fun e => ?_, blk_grown h.dfa hg fun e => ?_, blk_grown h.res hg fun e => ?_, Kd.R_grown2 h.nxt rfl hg fun k e => by obtain rfl := Option.some.inj e; exact R_ne h.nxt hc (by decide), Kd.R_grown2 h.fins rfl hg fun k e => by obtain rfl := Option.some.inj e; exact R_ne h.fins hc (by decide), h.lm, h.ld, h.lr, h.dr⟩, h1, h.hgn⟩
 ·
  obtain rfl := Option.some.inj e; exact h.map.not_cells hc rfl
 ·
  obtain rfl := Option.some.inj e; exact blk_ne h.dfa hc (by decide) rfl
 ·
  obtain rfl := Option.some.inj e; exact blk_ne h.res hc (by decide) rfl
theorem ExpIn.push (h : ExpIn w wr gm gd gr gn vo vn vf o xn xf r) (k : Int) (hk : posF o k = none) (hg : wr.grownBy W (some gm)) (hm : MapHas 3 litI W gm (o.length + 1) (fun y => if y = k then some (o.length : Int) else posF o y))
    (HO : Kd.R (Kd.int .i64) 3 w3 w.heap.size (fun _ => True) v1 (o ++ [k])) (HB : Below w.heap.size w w3) (HG : W.grownBy w3 vo.ownBlock) (hown : v1.ownBlock = vo.ownBlock ∨ ∃ b, v1.ownBlock = some b ∧ W.heap.size ≤ b) : ExpIn w w3 gm gd gr gn v1 vn vf (o ++ [k]) xn xf r := by
 obtain ⟨cells, hc⟩ := h.cell
 have hgnm : some gn ≠ some gm := fun e => by obtain rfl := Option.some.inj e; exact h.map.not_cells hc rfl
 have hdm : some gd ≠ some gm := fun e => h.map.not_cells h.dfa (Option.some.inj e)
 have hrm : some gr ≠ some gm := fun e => h.map.not_cells h.res (Option.some.inj e)
 have n1 := Kd.R_grown2 h.nxt rfl hg fun k e => by obtain rfl := Option.some.inj e; exact R_nemap h.nxt h.map
 have f1 := Kd.R_grown2 h.fins rfl hg fun k e => by obtain rfl := Option.some.inj e; exact R_nemap h.fins h.map
 have l1 := Kd.R_grown2 h.list rfl hg fun k e => by obtain rfl := Option.some.inj e; exact R_nemap h.list h.map
 have d1 := blk_grown h.dfa hg hdm
 have r1 := blk_grown h.res hg hrm
 have hr : Kd.R (Kd.int .i64) 3 wr w.heap.size (fun _ => True) (.slice (some ⟨gn, 0, none⟩) 64 64) r := Kd.R_of_own (h1 := fun _ => rfl) (by have := h.row.1; rw [show r.length = 64 from by simpa [encs] using this]; exact h.row) fun _ _ => trivial
 have hr1 := Kd.R_grown2 hr rfl hg fun k e => by obtain rfl := Option.some.inj e; exact hgnm.symm
 have hr2 := Kd.R_grown2 hr1 rfl HG fun k e e2 => h.hgn ((show some gn = some k from e2.symm).trans e.symm)
 have hrl : r.length = 64 := by have := h.row.1; simpa [encs] using this
 refine ⟨⟨HB, HO, ?_, blk_grown d1 HG (R_ne l1 d1 (by decide)), blk_grown r1 HG (R_ne l1 r1 (by decide)), Kd.R_grown2 n1 rfl HG (R_ne2 l1 n1 (by decide)), Kd.R_grown2 f1 rfl HG (R_ne2 l1 f1 (by decide)), h.lm, h.ld, h.lr, h.dr⟩, by have := Kd.own_of_R hr2; rwa [hrl] at this, fun e => ?_⟩
 ·
  have h3 := hm.of_block (HG.block gm hm.lt (R_nemap l1 hm))
  obtain ⟨D, h4, h5⟩ := h3
  exact ⟨D, by rw [List.length_append]; exact h4, fun y => by rw [posF_snoc o k hk y]; exact h5 y⟩
 ·
  rcases hown with he | ⟨b, he, hb⟩
  ·
   rw [he] at e; exact h.hgn e
  ·
   rw [he] at e
   obtain rfl := Option.some.inj e
   have := blk_lt hc
   have := hg.size
   omega
theorem set1 {W : World} {g : Nat} {a b c u : Value} (h : W.heap[g]? = some (.cells #[a, b, c] 68 (0, 0))) : (W.setCell ⟨g, 1, none⟩ u).heap[g]? = some (.cells #[a, u, c] 68 (0, 0)) ∧ (W.setCell ⟨g, 2, none⟩ u).heap[g]? = some (.cells #[a, b, u] 68 (0, 0)) := by
 constructor <;> simp [World.setCell, Array.getElem?_modify, h]
theorem grown_set (W : World) (p : Addr) (u : Value) : W.grownBy (W.setCell p u) (some p.block) :=
  ⟨rfl, rfl, rfl, by simp [World.setCell], fun k _ hk => Below.heap_setCell _ _ _ k (fun e => hk (by rw [e]))⟩
theorem Exp.next (h : Exp w wr gm gd gr vo vn vf o xn xf) (x : Hd) (HO : slV.R 22 wA w.heap.size (fun _ => True) v1 (xn ++ [x])) (HB : Below w.heap.size w wA) (HG : wr.grownBy wA vn.ownBlock) :
    wA.heap[gd]? = some (.cells #[.int .i64 64, vn, vf] 68 (0, 0)) ∧ Exp w (wA.setCell ⟨gd, 1, none⟩ v1) gm gd gr vo v1 vf o (xn ++ [x]) xf := by
 have l1 := Kd.R_grown2 h.list rfl HG (R_ne2 h.nxt h.list (by decide))
 have f1 := Kd.R_grown2 h.fins rfl HG (R_ne2 h.nxt h.fins (by decide))
 have d1 := blk_grown h.dfa HG (R_ne h.nxt h.dfa (by decide))
 have r1 := blk_grown h.res HG (R_ne h.nxt h.res (by decide))
 have m1 := h.map.kept HG (R_nemap h.nxt h.map)
 have hg := grown_set wA ⟨gd, 1, none⟩ v1
 exact ⟨d1, HB.setCell h.ld _, Kd.R_grown2 l1 rfl hg (fun k e => by obtain rfl := Option.some.inj e; exact R_ne l1 d1 (by decide)), m1.kept hg (fun e => m1.not_cells d1 (Option.some.inj e).symm), (set1 d1).1, blk_grown r1 hg (fun e => h.dr (Option.some.inj e).symm), Kd.R_grown2 HO rfl hg (fun k e => by obtain rfl := Option.some.inj e; exact R_ne HO d1 (by decide)), Kd.R_grown2 f1 rfl hg (fun k e => by obtain rfl := Option.some.inj e; exact R_ne f1 d1 (by decide)), h.lm, h.ld, h.lr, h.dr⟩
theorem Exp.fin (h : Exp w wr gm gd gr vo vn vf o xn xf) (x : Bool) (HO : Kd.bool.R 4 wA w.heap.size (fun _ => True) v1 (xf ++ [x])) (HB : Below w.heap.size w wA) (HG : wr.grownBy wA vf.ownBlock) :
    wA.heap[gd]? = some (.cells #[.int .i64 64, vn, vf] 68 (0, 0)) ∧ Exp w (wA.setCell ⟨gd, 2, none⟩ v1) gm gd gr vo vn v1 o xn (xf ++ [x]) := by
 have l1 := Kd.R_grown2 h.list rfl HG (R_ne2 h.fins h.list (by decide))
 have f1 := Kd.R_grown2 h.nxt rfl HG (R_ne2 h.fins h.nxt (by decide))
 have d1 := blk_grown h.dfa HG (R_ne h.fins h.dfa (by decide))
 have r1 := blk_grown h.res HG (R_ne h.fins h.res (by decide))
 have m1 := h.map.kept HG (R_nemap h.fins h.map)
 have hg := grown_set wA ⟨gd, 2, none⟩ v1
 exact ⟨d1, HB.setCell h.ld _, Kd.R_grown2 l1 rfl hg (fun k e => by obtain rfl := Option.some.inj e; exact R_ne l1 d1 (by decide)), m1.kept hg (fun e => m1.not_cells d1 (Option.some.inj e).symm), (set1 d1).2, blk_grown r1 hg (fun e => h.dr (Option.some.inj e).symm), Kd.R_grown2 f1 rfl hg (fun k e => by obtain rfl := Option.some.inj e; exact R_ne f1 d1 (by decide)), Kd.R_grown2 HO rfl hg (fun k e => by obtain rfl := Option.some.inj e; exact R_ne HO d1 (by decide)), h.lm, h.ld, h.lr, h.dr⟩
end
theorem exp_start (w W1 : World) (start : Int) (hm : MapHas 3 litI W1 (w.heap.size + 1 + 1) 1 (fun y => if y = start then some 0 else none)) (hg : (((w.alloc (.cells #[.int .i64 0, .slice none 0 0, .slice none 0 0] 68)).alloc (.cells #[.int .i64 64, .slice none 0 0, .slice none 0 0] 68)).alloc (.map #[] 0)).grownBy W1 (some (w.heap.size + 1 + 1))) :
    Exp w (W1.alloc (.cells #[.int .i64 start] 3)) (w.heap.size + 1 + 1) (w.heap.size + 1) w.heap.size (.slice (some ⟨W1.heap.size, 0, none⟩) 1 1) (.slice none 0 0) (.slice none 0 0) [start] [] [] := by
 obtain ⟨wa, hwa⟩ : ∃ wa, wa = w.alloc (.cells #[.int .i64 0, .slice none 0 0, .slice none 0 0] 68) := ⟨_, rfl⟩
 obtain ⟨wb, hwb⟩ : ∃ wb, wb = wa.alloc (.cells #[.int .i64 64, .slice none 0 0, .slice none 0 0] 68) := ⟨_, rfl⟩
 rw [← hwa, ← hwb] at hg
 have sa : wa.heap.size = w.heap.size + 1 := by rw [hwa]; simp
 have sb : wb.heap.size = w.heap.size + 1 + 1 := by rw [hwb]; simp [sa]
 have h0 : Below w.heap.size w (wb.alloc (.map #[] 0)) := by rw [hwb, hwa]; exact below_alloc (below_alloc (below_alloc (Below.refl _ _) _) _) _
 have h1 : Below w.heap.size w W1 := h0.grown hg h0.size (fun k e => by obtain rfl := Option.some.inj e; omega)
 have ra : wa.heap[w.heap.size]? = some (.cells #[.int .i64 0, .slice none 0 0, .slice none 0 0] 68 (0, 0)) := by rw [hwa]; exact blk_new _ _
 have rb : wb.heap[w.heap.size + 1]? = some (.cells #[.int .i64 64, .slice none 0 0, .slice none 0 0] 68 (0, 0)) := by rw [hwb, ← sa]; exact blk_new _ _
 have ba : Below wa.heap.size wa (wb.alloc (.map #[] 0)) := by rw [hwb]; exact below_alloc (below_alloc (Below.refl _ _) _) _
 have bb : Below wb.heap.size wb (wb.alloc (.map #[] 0)) := below_alloc (Below.refl _ _) _
 have r1 := blk_grown ((ba.block _ (blk_lt ra)).trans ra) hg (by simp; omega)
 have r2 := blk_grown ((bb.block _ (blk_lt rb)).trans rb) hg (by simp)
 have hb : Below W1.heap.size W1 (W1.alloc (.cells #[.int .i64 start] 3)) := below_alloc (Below.refl _ _) _
 have h3 := own_lit_of (enc := Value.int .i64) W1 w.heap.size 3 [start] h1.size (by simp)
 refine ⟨h1.trans (hb.mono h1.size), Kd.R_of_own (h1 := fun _ => rfl) h3 (fun _ _ => trivial), ?_, (hb.block _ (blk_lt r2)).trans r2, (hb.block _ (blk_lt r1)).trans r1, Kd.R_nil _ _ _ _ _, Kd.R_nil _ _ _ _ _, by omega, by omega, Nat.le_refl _, by omega⟩
 obtain ⟨D, h4, h5⟩ := hm.below hb
 exact ⟨D, h4, fun y => by
  have : posF [start] y = if y = start then some 0 else none := by
   have := posF_snoc [] start rfl y
   simpa [posF] using this
  rw [this]; exact h5 y⟩
end Go.Proofs.Ytcdjeimjbbknjaa.PAll
