import Derived.Test.YtcdjeimjbbknjaaProg
import Derived.Below
import Derived.Deep.Draws
import Derived.Deep.AppendLies
import Derived.Maps.AppendAt
import Derived.OwnWalk
import Derived.Laws.BytesArg
import Derived.Laws.MakeOwn
import Derived.Laws.OwnMore
import Derived.Deep.OwnRows
import Derived.Tactics
import Derived.Lib.ConvBytes
import Derived.Laws.Slices
import Derived.WalkKit
import Derived.KernelRfl
import Derived.RowKit3
import Derived.Deep.LoopGhost
import Derived.Deep.QuietTactic
import Derived.BigQuiet
import Derived.WideLaws
import Derived.Deep.DeepCutAuto
import Derived.Deep.CutBlock
import Derived.Deep.RegionHeld3
import Derived.Laws.Rows
import Derived.Lib.AppendStr
import Derived.ArgAppend
import Derived.Laws.IdiomCopy
import Derived.OrdersHeld
import Derived.Laws.BitsLemmas
import Derived.RowKit
import Derived.WalkSpells
import Derived.Maps.OwnSet
import Derived.Test.YtcdjeimjbbknjaaDm1
namespace Go.Proofs.Ytcdjeimjbbknjaa.PAll
open Go.RowKit Go.Proofs.YtcdjeimjbbknjaaW.PrintWords Go.Proofs.YtcdjeimjbbknjaaW.PrintLast Go.Proofs.YtcdjeimjbbknjaaW.PrintMore
attribute [local go_sem] max2_int min2_int max_two min_two max_three min_three max_four min_four   -- for this text's walks alone
set_option linter.unusedVariables false
set_option linter.unusedSimpArgs false



def errW : Option Int → Value
  | none => .nilIface
  | some c => .iface 0 (.int .i64 c)
theorem errW_none : errW none = .nilIface := rfl
theorem errW_some (c : Int) : errW (some c) = .iface 0 (.int .i64 c) := rfl

theorem info3 : (Try.prog.info? 3).map (fun i => (i.zero, i.size, i.bytes)) = some (some (.int .i64 0), 1, 8) := by kernel_rfl
theorem info4 : (Try.prog.info? 4).map (fun i => (i.zero, i.size, i.bytes)) = some (some (.bool false), 1, 1) := by kernel_rfl
theorem info5 : (Try.prog.info? 5).map (fun i => (i.zero, i.size, i.bytes)) = some (some (.int .u8 0), 1, 1) := by kernel_rfl
theorem info22 : (Try.prog.info? 22).map (fun i => (i.zero, i.size, i.bytes)) = some (some (.slice none 0 0), 1, 24) := by kernel_rfl
theorem info102 : (Try.prog.info? 102).map (fun i => (i.zero, i.size, i.bytes)) = some (some (.agg #[(.bool false), (.slice none 0 0), (.slice none 0 0), (.int .i64 0)]), 4, 64) := by kernel_rfl
def rd_L2 (xs : List (List Int)) (i : Int) : (List Int) := xs.getD i.toNat ([] : List Int)
theorem at_L2 {w : World} {A : Option Addr} {n : Nat} {xs : List (List Int)} (h : Kd.C (Kd.slice 3 (Kd.int .i64)) w A n xs) (i : Int) (h0 : 0 ≤ i) (h1 : i < n) : ∃ ad A0 c0, A = some ad ∧ w.cell? (ad.add i.toNat) = some (.slice A0 (rd_L2 xs i).length c0) ∧ (rd_L2 xs i).length ≤ c0 ∧ (Kd.int .i64).C w A0 (rd_L2 xs i).length (rd_L2 xs i) := by
 obtain ⟨ad, c, e, _, hK, hc0⟩ := Kd.C_get h ([] : List Int) i h0 h1
 have hc : ∀ j u, c[j]? = some u → w.cell? (ad.add (i.toNat * 1 + j)) = some u := hc0
 obtain ⟨A0, c0, rfl, l0, g0⟩ := hK
 exact ⟨ad, A0, c0, e, by have hq := hc 0 _ rfl; rwa [Nat.mul_one, Nat.add_zero] at hq, l0, g0⟩

structure S106 where
  f0 : Int
  f1 : Int
  f2 : Int
structure S102 where
  f0 : Bool
  f1 : (List Int)
  f2 : (List Int)
  f3 : Int
def z102 : S102 := ⟨false, ([] : List Int), ([] : List Int), (0 : Int)⟩
def k102 : Kd S102 := Kd.iso (Kd.pair Kd.bool (Kd.pair (Kd.slice 3 (Kd.int .i64)) (Kd.pair (Kd.slice 3 (Kd.int .i64)) (Kd.int .i64)))) (fun x : S102 => (x.f0, x.f1, x.f2, x.f3))
theorem k102_open {w : World} {x : S102} {cs : List Value} (h : k102.K w x cs) : ∃ A1 c1 A2 c2, cs = [.bool x.f0, .slice A1 x.f1.length c1, .slice A2 x.f2.length c2, .int .i64 x.f3] ∧ x.f1.length ≤ c1 ∧ (Kd.int .i64).C w A1 x.f1.length x.f1 ∧ x.f2.length ≤ c2 ∧ (Kd.int .i64).C w A2 x.f2.length x.f2 := by
 obtain ⟨_, _, rfl, rfl, ⟨_, _, rfl, ⟨A1, c1, rfl, l1, g1⟩, ⟨_, _, rfl, ⟨A2, c2, rfl, l2, g2⟩, rfl⟩⟩⟩ := h
 exact ⟨A1, c1, A2, c2, rfl, l1, g1, l2, g2⟩
theorem k102_mk (w : World) (x : S102) {A1 : Option Addr} {c1 : Nat} (l1 : x.f1.length ≤ c1) (g1 : (Kd.int .i64).C w A1 x.f1.length x.f1) {A2 : Option Addr} {c2 : Nat} (l2 : x.f2.length ≤ c2) (g2 : (Kd.int .i64).C w A2 x.f2.length x.f2) : k102.K w x [.bool x.f0, .slice A1 x.f1.length c1, .slice A2 x.f2.length c2, .int .i64 x.f3] := ⟨[.bool x.f0], [.slice A1 x.f1.length c1, .slice A2 x.f2.length c2, .int .i64 x.f3], rfl, rfl, ⟨[.slice A1 x.f1.length c1], [.slice A2 x.f2.length c2, .int .i64 x.f3], rfl, ⟨A1, c1, rfl, l1, g1⟩, ⟨[.slice A2 x.f2.length c2], [.int .i64 x.f3], rfl, ⟨A2, c2, rfl, l2, g2⟩, rfl⟩⟩⟩
theorem k102_mkM (w : World) (base : Nat) (ok : Nat → Prop) (x : S102) {v1 : Value} (g1 : (Kd.int .i64).R 3 w base ok v1 x.f1) {v2 : Value} (g2 : (Kd.int .i64).R 3 w base ok v2 x.f2) : k102.M w base ok x [.bool x.f0, v1, v2, .int .i64 x.f3] := ⟨[.bool x.f0], [v1, v2, .int .i64 x.f3], rfl, rfl, ⟨[v1], [v2, .int .i64 x.f3], rfl, ⟨v1, rfl, g1⟩, ⟨[v2], [.int .i64 x.f3], rfl, ⟨v2, rfl, g2⟩, rfl⟩⟩⟩
theorem k102_mkF (W : World) (ok : Nat → Prop) (x : S102) {A1 : Option Addr} {c1 : Nat} (l1 : x.f1.length ≤ c1) (g1 : Kd.F (Kd.int .i64) W ok A1 x.f1.length x.f1) {A2 : Option Addr} {c2 : Nat} (l2 : x.f2.length ≤ c2) (g2 : Kd.F (Kd.int .i64) W ok A2 x.f2.length x.f2) : Kd.FK k102 W ok x [.bool x.f0, .slice A1 x.f1.length c1, .slice A2 x.f2.length c2, .int .i64 x.f3] := fun W2 hW => k102_mk W2 x l1 (g1 W2 hW) l2 (g2 W2 hW)
def rd_T102 (xs : List S102) (i : Int) : S102 := xs.getD i.toNat z102
theorem at_T102 {w : World} {A : Option Addr} {n : Nat} {xs : List S102} (h : Kd.C k102 w A n xs) (i : Int) (h0 : 0 ≤ i) (h1 : i < n) : ∃ ad A1 c1 A2 c2, A = some ad ∧ w.cell? (ad.add (i.toNat * 4)) = some (.bool (rd_T102 xs i).f0) ∧ w.cell? ⟨(ad.add (i.toNat * 4)).block, (ad.add (i.toNat * 4)).off + 1, none⟩ = some (.slice A1 (rd_T102 xs i).f1.length c1) ∧ w.cell? ⟨(ad.add (i.toNat * 4)).block, (ad.add (i.toNat * 4)).off + 2, none⟩ = some (.slice A2 (rd_T102 xs i).f2.length c2) ∧ w.cell? ⟨(ad.add (i.toNat * 4)).block, (ad.add (i.toNat * 4)).off + 3, none⟩ = some (.int .i64 (rd_T102 xs i).f3) ∧ (rd_T102 xs i).f1.length ≤ c1 ∧ (Kd.int .i64).C w A1 (rd_T102 xs i).f1.length (rd_T102 xs i).f1 ∧ (rd_T102 xs i).f2.length ≤ c2 ∧ (Kd.int .i64).C w A2 (rd_T102 xs i).f2.length (rd_T102 xs i).f2 := by
 obtain ⟨ad, c, e, _, hK, hc0⟩ := Kd.C_get h z102 i h0 h1
 have hc : ∀ j u, c[j]? = some u → w.cell? (ad.add (i.toNat * 4 + j)) = some u := hc0
 obtain ⟨A1, c1, A2, c2, rfl, l1, g1, l2, g2⟩ := k102_open hK
 exact ⟨ad, A1, c1, A2, c2, e, hc 0 _ rfl, by rw [← add_field _ _ 1 (by omega)]; exact hc 1 _ rfl, by rw [← add_field _ _ 2 (by omega)]; exact hc 2 _ rfl, by rw [← add_field _ _ 3 (by omega)]; exact hc 3 _ rfl, l1, g1, l2, g2⟩

structure S86 where
  f0 : Int
  f1 : Int
structure S139 where
  f0 : ByteArray
  f1 : Int
  f2 : Int
  f3 : Int
  f4 : Int
end Go.Proofs.Ytcdjeimjbbknjaa.PAll
namespace Go.Proofs.Ytcdjeimjbbknjaa.PAll
open Go.RowKit Go.Proofs.YtcdjeimjbbknjaaW.PrintWords Go.Proofs.YtcdjeimjbbknjaaW.PrintLast Go.Proofs.YtcdjeimjbbknjaaW.PrintMore
set_option linter.unusedVariables false
set_option linter.unusedSimpArgs false

def rdR (xs : List (List Int)) (i : Int) : List Int := xs.getD i.toNat []
theorem at_rows {w : World} {A : Option Addr} {n : Nat} {xs : List (List Int)} (h : Kd.C (Kd.slice 3 (Kd.int .i64)) w A n xs) (i : Int) (h0 : 0 ≤ i) (h1 : i < n) :
    ∃ ad A0 c0, A = some ad ∧ w.cell? (ad.add i.toNat) = some (.slice A0 (rdR xs i).length c0) ∧ (rdR xs i).length ≤ c0 ∧ (Kd.int .i64).C w A0 (rdR xs i).length (rdR xs i) := by
 obtain ⟨ad, c, e, _, hK, hc0⟩ := Kd.C_get h ([] : List Int) i h0 h1
 have hc : ∀ j u, c[j]? = some u → w.cell? (ad.add (i.toNat * 1 + j)) = some u := hc0
 obtain ⟨A0, c0, rfl, l0, g0⟩ := hK
 exact ⟨ad, A0, c0, e, by have hq := hc 0 _ rfl; rwa [Nat.mul_one, Nat.add_zero] at hq, l0, g0⟩
theorem rdR_nat (xs : List (List Int)) (i : Nat) : rdR xs (i : Int) = xs.getD i [] := by rw [rdR, Int.toNat_natCast]
theorem rd_nat (xs : List Int) (i : Nat) : rd xs (i : Int) = xs.getD i 0 := by rw [rd, Int.toNat_natCast]
theorem wrap_in {i : Int} (h0 : -9223372036854775808 ≤ i) (h : i ≤ 9223372036854775807) : IntKind.i64.wrap i = i := by rw [IntKind.wrap_i64]; omega
theorem cell_add {w : World} {ad : Addr} {k : Nat} {v : Value} (h : w.cell? (ad.add (k + 1)) = some v) : w.cell? { block := ad.block, off := ad.off + (k + 1) } = some v := by simpa [Addr.add] using h
end Go.Proofs.Ytcdjeimjbbknjaa.PAll
namespace Go.Proofs.Ytcdjeimjbbknjaa.PAll
open Go.RowKit Go.Proofs.YtcdjeimjbbknjaaW.PrintWords Go.Proofs.YtcdjeimjbbknjaaW.PrintLast Go.Proofs.YtcdjeimjbbknjaaW.PrintMore
set_option linter.unusedVariables false
set_option linter.unusedSimpArgs false

theorem mn_idx_app {α : Type} [BEq α] [LawfulBEq α] (x y : α) : ∀ (l : List α), x ∈ l → (l ++ [y]).idxOf x = l.idxOf x
  | [], h => by cases h
  | z :: l, h => by
    rw [List.cons_append, List.idxOf_cons, List.idxOf_cons]
    by_cases hz : z = x
    · subst hz; simp
    · have : (z == x) = false := by simpa using hz
      rw [this, mn_idx_app x y l (by rcases List.mem_cons.1 h with h | h; exact absurd h.symm hz; exact h)]
theorem mn_idx_new {α : Type} [BEq α] [LawfulBEq α] (x : α) : ∀ (l : List α), x ∉ l → (l ++ [x]).idxOf x = l.length
  | [], _ => by simp
  | z :: l, h => by
    have hz : (z == x) = false := by simp only [beq_eq_false_iff_ne]; intro e; exact h (e ▸ List.mem_cons_self ..)
    rw [List.cons_append, List.idxOf_cons, hz, mn_idx_new x l (fun h' => h (List.mem_cons_of_mem _ h'))]
    simp
theorem mn_idx_inj {α : Type} [BEq α] [LawfulBEq α] {x y : α} : ∀ {l : List α}, x ∈ l → y ∈ l → l.idxOf x = l.idxOf y → x = y
  | [], h, _, _ => by cases h
  | z :: l, hx, hy, h => by
    rw [List.idxOf_cons, List.idxOf_cons] at h
    by_cases h1 : z = x
    · by_cases h2 : z = y
      · rw [← h1, h2]
      · rw [show (z == x) = true by simpa using h1, show (z == y) = false by simpa using h2] at h; simp at h
    · by_cases h2 : z = y
      · rw [show (z == x) = false by simpa using h1, show (z == y) = true by simpa using h2] at h; simp at h
      · rw [show (z == x) = false by simpa using h1, show (z == y) = false by simpa using h2] at h
        simp only [cond_false, Nat.add_right_cancel_iff] at h
        exact mn_idx_inj (by rcases List.mem_cons.1 hx with h | h; exact absurd h.symm h1; exact h) (by rcases List.mem_cons.1 hy with h | h; exact absurd h.symm h2; exact h) h
def addU {α : Type} [BEq α] (o : List α) (x : α) : List α := if o.contains x then o else o ++ [x]
def uniq {α : Type} [BEq α] (l : List α) : List α := l.foldl addU []
def numb {α : Type} [BEq α] (l : List α) : List Int := l.map fun x => ((uniq l).idxOf x : Int)
theorem uniq_snoc {α : Type} [BEq α] (l : List α) (x : α) : uniq (l ++ [x]) = addU (uniq l) x := by unfold uniq; rw [List.foldl_append]; rfl
theorem numb_len {α : Type} [BEq α] (l : List α) : (numb l).length = l.length := by simp [numb]
theorem zip_maps {α β : Type} (xs : List α) (ys : List β) (h : xs.length = ys.length) : (xs.zip ys).map (·.1) = xs ∧ (xs.zip ys).map (·.2) = ys :=
  ⟨List.map_fst_zip (by omega), List.map_snd_zip (by omega)⟩
theorem zip_at {α β : Type} {xs : List α} {ys : List β} {p : α × β} (h : p ∈ xs.zip ys) : ∃ i : Nat, ∃ h1 : i < xs.length, ∃ h2 : i < ys.length, p = (xs[i], ys[i]) := by
 obtain ⟨i, hi, rfl⟩ := List.mem_iff_getElem.1 h
 rw [List.length_zip] at hi
 exact ⟨i, by omega, by omega, List.getElem_zip⟩
theorem numb_get {α : Type} [BEq α] {xs : List α} {i : Nat} (h : i < xs.length) (h' : i < (numb xs).length) : (numb xs)[i] = ((uniq xs).idxOf xs[i] : Int) := by simp [numb]
def Finer {α β : Type} (xs : List α) (ys : List β) : Prop := ∀ p ∈ xs.zip ys, ∀ q ∈ xs.zip ys, p.1 = q.1 → p.2 = q.2
theorem finer_of {α β : Type} {xs : List α} {ys : List β} (h : ∀ i j (h1 : i < xs.length) (h2 : j < xs.length) (h3 : i < ys.length) (h4 : j < ys.length), xs[i] = xs[j] → ys[i] = ys[j]) : Finer xs ys := by
 intro p hp q hq he
 obtain ⟨i, h1, h2, rfl⟩ := zip_at hp
 obtain ⟨j, h3, h4, rfl⟩ := zip_at hq
 exact h i j h1 h3 h2 h4 he
section
variable {α β : Type} [BEq α] [LawfulBEq α] [BEq β] [LawfulBEq β]
theorem addU_in {o : List α} {x : α} (h : x ∈ o) : addU o x = o := by unfold addU; rw [if_pos (by simpa using h)]
theorem addU_new {o : List α} {x : α} (h : x ∉ o) : addU o x = o ++ [x] := by unfold addU; rw [if_neg (by simpa using h)]
theorem addU_mem {o : List α} {x y : α} : y ∈ addU o x ↔ y ∈ o ∨ y = x := by
  by_cases h : x ∈ o
  · rw [addU_in h]; exact ⟨.inl, fun h' => h'.elim id (fun e => e ▸ h)⟩
  · rw [addU_new h]; simp
theorem foldU_mem {y : α} : ∀ (l o : List α), y ∈ l.foldl addU o ↔ y ∈ o ∨ y ∈ l
  | [], o => by simp
  | x :: l, o => by rw [List.foldl_cons, foldU_mem l, addU_mem, List.mem_cons, or_assoc]
theorem uniq_mem {l : List α} {y : α} : y ∈ uniq l ↔ y ∈ l := by unfold uniq; rw [foldU_mem]; simp
theorem addU_len (o : List α) (x : α) : o.length ≤ (addU o x).length ∧ (addU o x).length ≤ o.length + 1 := by
  by_cases h : x ∈ o
  · rw [addU_in h]; omega
  · rw [addU_new h]; simp
theorem foldU_len : ∀ (l o : List α), o.length ≤ (l.foldl addU o).length ∧ (l.foldl addU o).length ≤ o.length + l.length
  | [], o => by simp
  | x :: l, o => by
    rw [List.foldl_cons]
    have h1 := foldU_len l (addU o x)
    have h2 := addU_len o x
    rw [List.length_cons]; omega
theorem uniq_len (l : List α) : (uniq l).length ≤ l.length := by have := (foldU_len l []).2; simpa [uniq] using this
theorem uniq_pos {l : List α} (h : 0 < l.length) : 0 < (uniq l).length := by
 cases l with
 | nil => simp at h
 | cons x l => exact List.length_pos_of_mem (uniq_mem.2 (List.mem_cons_self ..))
theorem addU_idx {o : List α} {x y : α} (h : y ∈ o) : (addU o x).idxOf y = o.idxOf y := by
  by_cases hx : x ∈ o
  · rw [addU_in hx]
  · rw [addU_new hx, mn_idx_app _ _ _ h]
theorem foldU_idx {y : α} : ∀ (l o : List α), y ∈ o → (l.foldl addU o).idxOf y = o.idxOf y
  | [], o, _ => rfl
  | x :: l, o, h => by rw [List.foldl_cons, foldU_idx l _ (addU_mem.2 (.inl h)), addU_idx h]
theorem uniq_stay (l l' : List α) {y : α} (h : y ∈ l) : (uniq (l ++ l')).idxOf y = (uniq l).idxOf y := by
 unfold uniq; rw [List.foldl_append]; exact foldU_idx _ _ (uniq_mem.2 h)
theorem snoc_ind {γ : Type} (P : List γ → Prop) (h0 : P []) (h1 : ∀ l x, P l → P (l ++ [x])) (l : List γ) : P l := by
 have : ∀ n (l : List γ), l.length = n → P l := by
  intro n
  induction n with
  | zero => intro l h; rw [List.length_eq_zero_iff.1 h]; exact h0
  | succ n ih =>
   intro l h
   have hne : l ≠ [] := by intro e; subst e; simp at h
   rw [← List.dropLast_concat_getLast hne]
   exact h1 _ _ (ih _ (by rw [List.length_dropLast, h]; rfl))
 exact this _ l rfl
theorem pair_le : ∀ zs : List (α × β), (∀ p ∈ zs, ∀ q ∈ zs, p.1 = q.1 → p.2 = q.2) → (uniq (zs.map (·.2))).length ≤ (uniq (zs.map (·.1))).length ∧
    ((uniq (zs.map (·.2))).length = (uniq (zs.map (·.1))).length → ∀ p ∈ zs, (uniq (zs.map (·.1))).idxOf p.1 = (uniq (zs.map (·.2))).idxOf p.2) := by
 intro zs
 induction zs using snoc_ind with
 | h0 => intro _; exact ⟨Nat.le_refl _, fun _ p hp => by cases hp⟩
 | h1 zs z ih =>
  intro hR
  obtain ⟨i1, i2⟩ := ih fun p hp q hq => hR p (List.mem_append_left _ hp) q (List.mem_append_left _ hq)
  have hz := List.mem_append_right zs (List.mem_singleton.2 (rfl : z = z))
  simp only [List.map_append, List.map_cons, List.map_nil, uniq_snoc]
  by_cases hx : z.1 ∈ zs.map (·.1)
  ·
   obtain ⟨p, hp, hpe⟩ := List.mem_map.1 hx
   have hye := hR p (List.mem_append_left _ hp) z hz hpe
   have hy : z.2 ∈ zs.map (·.2) := hye ▸ List.mem_map.2 ⟨p, hp, rfl⟩
   rw [addU_in (uniq_mem.2 hx), addU_in (uniq_mem.2 hy)]
   refine ⟨i1, fun he q hq => ?_⟩
   rcases List.mem_append.1 hq with hq | hq
   ·
    exact i2 he q hq
   ·
    obtain rfl := List.mem_singleton.1 hq
    rw [← hpe, ← hye]; exact i2 he p hp
  ·
   rw [addU_new fun h => hx (uniq_mem.1 h)]
   by_cases hy : z.2 ∈ zs.map (·.2)
   ·
    rw [addU_in (uniq_mem.2 hy)]
    exact ⟨by rw [List.length_append]; omega, fun he => absurd he (by rw [List.length_append]; simp; omega)⟩
   ·
    rw [addU_new fun h => hy (uniq_mem.1 h)]
    simp only [List.length_append, List.length_singleton, Nat.add_right_cancel_iff]
    refine ⟨by omega, fun he q hq => ?_⟩
    rcases List.mem_append.1 hq with hq | hq
    ·
     rw [mn_idx_app _ _ _ (uniq_mem.2 (List.mem_map.2 ⟨q, hq, rfl⟩)), mn_idx_app _ _ _ (uniq_mem.2 (List.mem_map.2 ⟨q, hq, rfl⟩))]; exact i2 he q hq
    ·
     obtain rfl := List.mem_singleton.1 hq
     rw [mn_idx_new _ _ fun h => hx (uniq_mem.1 h), mn_idx_new _ _ fun h => hy (uniq_mem.1 h), he]
theorem finer_le {xs : List α} {ys : List β} (h : xs.length = ys.length) (hR : Finer xs ys) : (uniq ys).length ≤ (uniq xs).length := by
 have := (pair_le (xs.zip ys) hR).1
 rwa [(zip_maps xs ys h).1, (zip_maps xs ys h).2] at this
theorem finer_eq {xs : List α} {ys : List β} (h : xs.length = ys.length) (hR : Finer xs ys) (he : (uniq ys).length = (uniq xs).length) : numb xs = numb ys := by
 have h2 := (pair_le (xs.zip ys) hR).2
 rw [(zip_maps xs ys h).1, (zip_maps xs ys h).2] at h2
 have h3 := h2 he
 unfold numb
 have e1 : xs.map (fun x => ((uniq xs).idxOf x : Int)) = (xs.zip ys).map fun p => ((uniq xs).idxOf p.1 : Int) := by
  conv => lhs; rw [← (zip_maps xs ys h).1]
  rw [List.map_map, (zip_maps xs ys h).1]; rfl
 have e2 : ys.map (fun y => ((uniq ys).idxOf y : Int)) = (xs.zip ys).map fun p => ((uniq ys).idxOf p.2 : Int) := by
  conv => lhs; rw [← (zip_maps xs ys h).2]
  rw [List.map_map, (zip_maps xs ys h).2]; rfl
 rw [e1, e2]
 exact List.map_congr_left fun p hp => by rw [h3 p hp]
theorem numb_same {xs : List α} {i j : Nat} (h : i < xs.length) (h2 : j < xs.length) (h' : i < (numb xs).length) (h'' : j < (numb xs).length) : (numb xs)[i] = (numb xs)[j] ↔ xs[i] = xs[j] := by
 rw [numb_get h, numb_get h2]
 exact ⟨fun e => mn_idx_inj (uniq_mem.2 (List.getElem_mem _)) (uniq_mem.2 (List.getElem_mem _)) (by omega), fun e => by rw [e]⟩
theorem numb_idem (xs : List α) : numb (numb xs) = numb xs ∧ (uniq (numb xs)).length = (uniq xs).length := by
 have hl := numb_len xs
 have f1 : Finer xs (numb xs) := finer_of fun i j h1 h2 h3 h4 e => (numb_same h1 h2 h3 h4).2 e
 have f2 : Finer (numb xs) xs := finer_of fun i j h1 h2 h3 h4 e => (numb_same h3 h4 h1 h2).1 e
 have a1 := finer_le hl.symm f1
 have a2 := finer_le hl f2
 exact ⟨finer_eq hl f2 (by omega), by omega⟩
end
theorem uniq_id {l : List Int} (h : l.Nodup) : uniq l = l := by
 induction l using snoc_ind with
 | h0 => rfl
 | h1 l x ih =>
  rw [List.nodup_append] at h
  rw [uniq_snoc, ih h.1, addU_new (fun hx => h.2.2 x hx x (List.mem_singleton.2 rfl) rfl)]
theorem idx_get {l : List Int} (h : l.Nodup) {i : Nat} (hi : i < l.length) : l.idxOf l[i] = i := h.idxOf_getElem i hi
theorem numb_all {c : List Int} (h : numb c = c) (hd : c.Nodup) : c = (List.range c.length).map fun i : Nat => (i : Int) := by
 conv => lhs; rw [← h]
 unfold numb
 rw [uniq_id hd]
 refine List.ext_getElem (by simp) fun i h1 h2 => ?_
 simp only [List.getElem_map, List.getElem_range]
 rw [idx_get hd]
end Go.Proofs.Ytcdjeimjbbknjaa.PAll
namespace Go.Proofs.Ytcdjeimjbbknjaa.PAll
open Go.RowKit Go.Proofs.YtcdjeimjbbknjaaW.PrintWords Go.Proofs.YtcdjeimjbbknjaaW.PrintLast Go.Proofs.YtcdjeimjbbknjaaW.PrintMore
set_option linter.unusedVariables false
set_option linter.unusedSimpArgs false

def k3 (n : Int) : List Int := [n % 256, n / 256 % 256, n / 65536 % 256]
theorem k3_inj {a b : Int} (h0 : 0 ≤ a) (h1 : a < 16777216) (h2 : 0 ≤ b) (h3 : b < 16777216) (h : k3 a = k3 b) : a = b := by
 unfold k3 at h; simp only [List.cons.injEq, and_true] at h; omega
def rowS (c : List Int) (row : List Int) : List Int := row.flatMap fun k => k3 (rd c k)
def sigS (c row : List Int) (f : Bool) (x : Int) : List Int := k3 x ++ (if f = true then [1] else []) ++ rowS c row
theorem rowS_len (c : List Int) : ∀ row : List Int, (rowS c row).length = 3 * row.length
  | [] => rfl
  | k :: row => by
    have := rowS_len c row
    unfold rowS at this ⊢
    rw [List.flatMap_cons, List.length_append, this, List.length_cons]; simp [k3]; omega
theorem rowS_inj {c : List Int} (hc : ∀ k, 0 ≤ rd c k ∧ rd c k < 16777216) : ∀ r r' : List Int, r.length = r'.length → rowS c r = rowS c r' → ∀ s : Nat, s < r.length → rd c (rd r s) = rd c (rd r' s)
  | [], [], _, _, s, hs => by simp at hs
  | [], _ :: _, h, _, _, _ => by simp at h
  | _ :: _, [], h, _, _, _ => by simp at h
  | k :: r, k' :: r', h, he, s, hs => by
    unfold rowS at he
    rw [List.flatMap_cons, List.flatMap_cons] at he
    obtain ⟨h1, h2⟩ := List.append_inj he (by simp [k3])
    cases s with
    | zero => exact k3_inj (hc k).1 (hc k).2 (hc k').1 (hc k').2 h1
    | succ s =>
      have := rowS_inj hc r r' (by simpa using h) h2 s (by simpa using hs)
      have e : ∀ (z : Int) (q : List Int), rd (z :: q) ((s + 1 : Nat) : Int) = rd q (s : Int) := fun z q => by
        unfold rd; rw [Int.toNat_natCast, Int.toNat_natCast]; simp
      rw [e, e]; exact this
theorem sigS_inj {c : List Int} (hc : ∀ k, 0 ≤ rd c k ∧ rd c k < 16777216) {r r' : List Int} {f f' : Bool} {x y : Int} (hx : 0 ≤ x ∧ x < 16777216) (hy : 0 ≤ y ∧ y < 16777216) (h : r.length = r'.length) (he : sigS c r f x = sigS c r' f' y) :
    x = y ∧ f = f' ∧ ∀ s : Nat, s < r.length → rd c (rd r s) = rd c (rd r' s) := by
 unfold sigS at he
 have hl := congrArg List.length he
 simp only [List.length_append, rowS_len, h] at hl
 have hf : f = f' := by cases f <;> cases f' <;> simp [k3] at hl ⊢
 subst hf
 rw [List.append_assoc, List.append_assoc] at he
 obtain ⟨h1, h2⟩ := List.append_inj he (by simp [k3])
 obtain ⟨_, h3⟩ := List.append_inj h2 rfl
 exact ⟨k3_inj hx.1 hx.2 hy.1 hy.2 h1, rfl, rowS_inj hc r r' h h3⟩
theorem k3_byte (n : Int) : ∀ x ∈ k3 n, 0 ≤ x ∧ x < 256 := by
 intro x hx
 simp only [k3, List.mem_cons, List.not_mem_nil, or_false] at hx
 rcases hx with rfl | rfl | rfl <;> omega
theorem sigS_byte (c row : List Int) (f : Bool) (x : Int) : ∀ y ∈ sigS c row f x, 0 ≤ y ∧ y < 256 := by
 intro y hy
 unfold sigS at hy
 rcases List.mem_append.1 hy with hy | hy
 ·
  rcases List.mem_append.1 hy with hy | hy
  ·
   exact k3_byte _ _ hy
  ·
   cases f with
   | true => simp at hy; omega
   | false => simp at hy
 ·
  obtain ⟨k, _, hk⟩ := List.mem_flatMap.1 hy
  exact k3_byte _ _ hk
structure DfaOk (N : Nat) (nx : List (List Int)) (fin : List Bool) : Prop where
  pos : 0 < N
  few : N ≤ 2048
  len : nx.length = N
  flen : fin.length = N
  rows : ∀ i : Nat, i < N → (rdR nx i).length = 64
  lead : ∀ i : Nat, i < N → ∀ k ∈ rdR nx i, 0 ≤ k ∧ k < (N : Int)
def finA (fin : List Bool) (i : Nat) : Bool := fin.getD i false
def goA (nx : List (List Int)) (i s : Nat) : Int := rd (rdR nx i) s
def Bisim (N : Nat) (nx : List (List Int)) (fin : List Bool) (c : List Int) : Prop := ∀ i j : Nat, i < N → j < N → rd c i = rd c j → finA fin i = finA fin j ∧ ∀ s : Nat, s < 64 → rd c (goA nx i s) = rd c (goA nx j s)
def Minim (N : Nat) (nx : List (List Int)) (fin : List Bool) : Prop := ∀ c : List Int, c.length = N → Bisim N nx fin c → c.Nodup
def sigA (nx : List (List Int)) (fin : List Bool) (c : List Int) (i : Nat) : List Int := sigS c (rdR nx i) (finA fin i) (rd c i)
def sigsA (N : Nat) (nx : List (List Int)) (fin : List Bool) (c : List Int) : List (List Int) := (List.range N).map (sigA nx fin c)
def idN (N : Nat) : List Int := (List.range N).map fun i : Nat => (i : Int)
theorem rd_getA {c : List Int} {i : Nat} (h : i < c.length) : rd c (i : Int) = c[i] := by
 unfold rd; rw [Int.toNat_natCast, List.getD_eq_getElem?_getD, List.getElem?_eq_getElem h, Option.getD_some]
structure ClsOk (N : Nat) (c : List Int) : Prop where
  len : c.length = N
  can : numb c = c
theorem ClsOk.byte {N : Nat} {c : List Int} (h : ClsOk N c) (hN : N ≤ 2048) : ∀ k, 0 ≤ rd c k ∧ rd c k < 16777216 := by
 intro k
 by_cases hk : k.toNat < c.length
 ·
  have e : rd c k = c[k.toNat] := by unfold rd; rw [List.getD_eq_getElem?_getD, List.getElem?_eq_getElem hk, Option.getD_some]
  have e2 : c[k.toNat] = (numb c)[k.toNat]'(by rw [numb_len]; exact hk) := by congr 1; exact h.can.symm
  rw [e, e2, numb_get hk]
  have h1 : (uniq c).idxOf c[k.toNat] ≤ (uniq c).length := List.idxOf_le_length
  have h2 := uniq_len c
  have h3 := h.len
  omega
 ·
  unfold rd; rw [List.getD_eq_getElem?_getD, List.getElem?_eq_none (by omega)]; simp
theorem zeros_ok (N : Nat) (hN : 0 < N) : ClsOk N (List.replicate N (0 : Int)) := by
 refine ⟨by simp, ?_⟩
 have hu : ∀ n, uniq (List.replicate (n + 1) (0 : Int)) = [0] := by
  intro n
  induction n with
  | zero => rfl
  | succ n ih => rw [show n + 1 + 1 = (n + 1) + 1 from rfl, List.replicate_succ', uniq_snoc, ih]; rfl
 obtain ⟨n, rfl⟩ : ∃ n, N = n + 1 := ⟨N - 1, by omega⟩
 unfold numb
 rw [hu, List.map_replicate]
 rfl
theorem next_ok {N : Nat} {nx : List (List Int)} {fin : List Bool} (c : List Int) : ClsOk N (numb (sigsA N nx fin c)) ∧ (uniq (numb (sigsA N nx fin c))).length = (uniq (sigsA N nx fin c)).length :=
  ⟨⟨by simp [numb, sigsA], (numb_idem _).1⟩, (numb_idem _).2⟩
theorem sigs_get {N : Nat} {nx : List (List Int)} {fin : List Bool} {c : List Int} {i : Nat} (h : i < (sigsA N nx fin c).length) : (sigsA N nx fin c)[i] = sigA nx fin c i := by simp [sigsA]
theorem sigs_inj {N : Nat} {nx : List (List Int)} {fin : List Bool} (hD : DfaOk N nx fin) {c : List Int} (hc : ClsOk N c) {i j : Nat} (hi : i < N) (hj : j < N) (h : sigA nx fin c i = sigA nx fin c j) :
    rd c i = rd c j ∧ finA fin i = finA fin j ∧ ∀ s : Nat, s < 64 → rd c (goA nx i s) = rd c (goA nx j s) := by
 have hb := hc.byte hD.few
 have := sigS_inj hb (hb i) (hb j) (by rw [hD.rows i hi, hD.rows j hj]) h
 rw [hD.rows i hi] at this
 exact this
theorem sigs_finer {N : Nat} {nx : List (List Int)} {fin : List Bool} (hD : DfaOk N nx fin) {c : List Int} (hc : ClsOk N c) : Finer (sigsA N nx fin c) c := by
 refine finer_of fun i j h1 h2 h3 h4 he => ?_
 rw [sigs_get, sigs_get] at he
 have := (sigs_inj hD hc (by rw [← hc.len]; exact h3) (by rw [← hc.len]; exact h4) he).1
 rwa [rd_getA h3, rd_getA h4] at this
theorem sigs_len (N : Nat) (nx : List (List Int)) (fin : List Bool) (c : List Int) : (sigsA N nx fin c).length = N := by simp [sigsA]
theorem sigs_le {N : Nat} {nx : List (List Int)} {fin : List Bool} (hD : DfaOk N nx fin) {c : List Int} (hc : ClsOk N c) : (uniq c).length ≤ (uniq (sigsA N nx fin c)).length :=
  finer_le (by rw [sigs_len, hc.len]) (sigs_finer hD hc)
theorem last_round {N : Nat} {nx : List (List Int)} {fin : List Bool} (hD : DfaOk N nx fin) (hm : Minim N nx fin) {c : List Int} (hc : ClsOk N c) (he : (uniq c).length = (uniq (sigsA N nx fin c)).length) : numb (sigsA N nx fin c) = idN N := by
 have hF : numb (sigsA N nx fin c) = c := (finer_eq (by rw [sigs_len, hc.len]) (sigs_finer hD hc) he).trans hc.can
 have hd : c.Nodup := hm c hc.len fun i j hi hj e => by
  have h1 : i < (numb (sigsA N nx fin c)).length := by rw [numb_len, sigs_len]; exact hi
  have h2 : j < (numb (sigsA N nx fin c)).length := by rw [numb_len, sigs_len]; exact hj
  have e2 : (numb (sigsA N nx fin c))[i] = (numb (sigsA N nx fin c))[j] := by
   rw [← rd_getA h1, ← rd_getA h2, hF]; exact e
  have e3 := (numb_same (xs := sigsA N nx fin c) (by rw [sigs_len]; exact hi) (by rw [sigs_len]; exact hj) h1 h2).1 e2
  rw [sigs_get, sigs_get] at e3
  exact (sigs_inj hD hc hi hj e3).2
 rw [hF, numb_all hc.can hd, hc.len]
 rfl
theorem idN_len (N : Nat) : (idN N).length = N := by simp [idN]
theorem rd_idN {N i : Nat} (h : i < N) : rd (idN N) (i : Int) = (i : Int) := by
 rw [rd_getA (by rw [idN_len]; exact h)]; simp [idN]
end Go.Proofs.Ytcdjeimjbbknjaa.PAll
namespace Go.Proofs.Ytcdjeimjbbknjaa.PAll
open Go.RowKit Go.Proofs.YtcdjeimjbbknjaaW.PrintWords Go.Proofs.YtcdjeimjbbknjaaW.PrintLast Go.Proofs.YtcdjeimjbbknjaaW.PrintMore
set_option linter.unusedVariables false
set_option linter.unusedSimpArgs false

def badSym (x : Int) : Bool := decide (x < 0) || decide (64 ≤ x)
theorem check1_any (x : Int) (w : World) : Calls Try.prog 106 #[.int .i64 x] w fun e w' => e = .returned (.bool (badSym x)) ∧ w = w' := by
 by_cases h0 : x < 0
 ·
  go_enter Try.func106, Try.ntmps106
  go_wp2
  go_ret
  exact ⟨by simp [badSym, h0], rfl⟩
 ·
  go_enter Try.func106, Try.ntmps106
  go_wp2
  go_ret
  exact ⟨by simp [badSym]; omega, rfl⟩

def firstAt (p : Int → Bool) : List Int → Nat → Int
  | [], _ => -1
  | x :: xs, k => if p x then (k : Int) else firstAt p xs (k + 1)
theorem firstAt_none (p : Int → Bool) : ∀ (xs : List Int) (k : Nat), xs.any p = false → firstAt p xs k = -1
  | [], _, _ => rfl
  | x :: xs, k, h => by
    simp only [List.any_cons, Bool.or_eq_false_iff] at h
    simp only [firstAt, h.1]
    exact firstAt_none p xs (k + 1) h.2
theorem firstAt_some (p : Int → Bool) : ∀ (xs : List Int) (k : Nat), xs.any p = true → 0 ≤ firstAt p xs k
  | [], _, h => by simp at h
  | x :: xs, k, h => by
    by_cases hx : p x = true
    · simp only [firstAt, hx, if_true]; omega
    · simp only [List.any_cons, Bool.or_eq_true] at h
      have hx' : p x = false := by simpa using hx
      simp only [firstAt, hx']
      exact firstAt_some p xs (k + 1) (h.resolve_left hx)
theorem firstAt_sign (p : Int → Bool) (xs : List Int) (k : Nat) : decide (0 ≤ firstAt p xs k) = xs.any p := by
 cases h : xs.any p with
 | true => simpa using firstAt_some p xs k h
 | false => rw [firstAt_none p xs k h]; rfl
theorem firstAt_drop (p : Int → Bool) (xs : List Int) (k : Nat) (h : k < xs.length) : firstAt p (xs.drop k) k = if p (rd xs k) then (k : Int) else firstAt p (xs.drop (k + 1)) (k + 1) := by
 rw [List.drop_eq_getElem_cons h]
 simp only [firstAt, rd, Int.toNat_natCast, List.getD_eq_getElem?_getD, List.getElem?_eq_getElem h, Option.getD_some]

set_option maxHeartbeats 800000 in
theorem indexFunc_check (A0 : Option Addr) (c0 : Nat) (l0 : List Int) (w : World) (hr0 : Kd.C (Kd.int .i64) w A0 l0.length l0) (hl : l0.length ≤ 9223372036854775807) :
    Calls Try.prog 117 #[.slice A0 l0.length c0, .func (.func 106) #[] #[]] w fun e w' => e = .returned (.int .i64 (firstAt badSym l0 0)) ∧ w = w' := by
 have HR := Aside0.mk hr0
 clear hr0
 go_enter Try.func117, Try.ntmps117
 go_wp2
 go_loop [8] (fun i => ∃ k : Nat, k ≤ l0.length ∧ i = .int .i64 k ∧ Aside0 (firstAt badSym l0 0 = firstAt badSym (l0.drop k) k)) (fun i => l0.length - (intOf i).toNat)
 case atStart => exact ⟨0, Nat.zero_le _, rfl, ⟨by simp⟩⟩
 case round =>
  obtain ⟨k, hk, rfl, hs⟩ := hrel
  by_cases hlt : k < l0.length
  ·
   obtain ⟨ad, rfl, hc⟩ := Kd.at_int HR.out (k : Int) (by omega) (by omega)
   rw [Int.toNat_natCast] at hc
   have hstep := firstAt_drop badSym l0 k hlt
   cases hb : badSym (rd l0 k) with
   | true =>
    rw [hb] at hstep
    have HS := Aside0.mk hstep
    have HB := Aside0.mk (hb ▸ check1_any (rd l0 k) w)
    clear hstep hb
    go_wp2_with (go_at_call 106; refine HB.out.mono ?_; rintro e w' ⟨rfl, rfl⟩)
    go_ret
    exact ⟨by rw [hs.out, HS.out]; rfl, rfl⟩
   | false =>
    rw [hb] at hstep
    have HS := Aside0.mk hstep
    have HB := Aside0.mk (hb ▸ check1_any (rd l0 k) w)
    clear hstep hb
    go_wp2_with (go_at_call 106; refine HB.out.mono ?_; rintro e w' ⟨rfl, rfl⟩)
    go_round
    case rel => exact ⟨k + 1, by omega, by go_num, ⟨by rw [hs.out, HS.out]; rfl⟩⟩
    case measure => simp [intOf]; omega
  ·
   obtain rfl : k = l0.length := by omega
   go_wp2
   go_ret
   exact ⟨by rw [hs.out]; simp [firstAt], rfl⟩
theorem containsFunc_check (A0 : Option Addr) (c0 : Nat) (l0 : List Int) (w : World) (hr0 : Kd.C (Kd.int .i64) w A0 l0.length l0) :
    Calls Try.prog 88 #[.slice A0 l0.length c0, .func (.func 106) #[] #[]] w fun e w' => e = .returned (.bool (l0.any badSym)) ∧ w = w' := by
 have HI := Aside0.mk (indexFunc_check A0 c0 l0 w hr0 (Kd.C_max hr0))
 clear hr0
 go_enter Try.func88, Try.ntmps88
 go_wp2_with (go_at_call 117; refine HI.out.mono ?_; rintro e w' ⟨rfl, rfl⟩)
 go_ret
 exact ⟨by rw [← firstAt_sign badSym l0 0]; rfl, rfl⟩
end Go.Proofs.Ytcdjeimjbbknjaa.PAll
namespace Go.Proofs.Ytcdjeimjbbknjaa.PAll
open Go.RowKit Go.Proofs.YtcdjeimjbbknjaaW.PrintWords Go.Proofs.YtcdjeimjbbknjaaW.PrintLast Go.Proofs.YtcdjeimjbbknjaaW.PrintMore
set_option linter.unusedVariables false
set_option linter.unusedSimpArgs false

theorem valid1_any (k : Int) (n g : Nat) (w : World) (hc : w.cell? ⟨g, 0, none⟩ = some (.int .i64 (n : Int))) (h0 : 0 ≤ k) (h1 : k < (n : Int)) :
    Calls Try.prog 89 #[.int .i64 k, .pointer (some ⟨g, 0, none⟩)] w fun e w' => e = .returned (.bool false) ∧ w = w' := by
 go_enter Try.func89, Try.ntmps89
 go_wp2
 go_ret
 exact ⟨by simp; omega, rfl⟩
theorem rd_lead {l : List Int} {N : Nat} (h : ∀ k ∈ l, 0 ≤ k ∧ k < (N : Int)) {i : Nat} (hi : i < l.length) : 0 ≤ rd l i ∧ rd l i < (N : Int) := by
 rw [rd_getA hi]; exact h _ (List.getElem_mem _)
set_option maxHeartbeats 800000 in
theorem indexFunc_valid (A0 : Option Addr) (c0 : Nat) (l0 : List Int) (n g : Nat) (w : World) (hr0 : Kd.C (Kd.int .i64) w A0 l0.length l0) (hl : l0.length ≤ 9223372036854775807) (hc : w.cell? ⟨g, 0, none⟩ = some (.int .i64 (n : Int))) (hlead : ∀ k ∈ l0, 0 ≤ k ∧ k < (n : Int)) :
    Calls Try.prog 117 #[.slice A0 l0.length c0, .func (.func 89) #[] #[.pointer (some ⟨g, 0, none⟩)]] w fun e w' => e = .returned (.int .i64 (-1)) ∧ w = w' := by
 have HR := Aside0.mk hr0
 have HL := Aside0.mk hlead
 have HC := Aside0.mk hc
 clear hr0 hlead hc
 go_enter Try.func117, Try.ntmps117
 go_wp2
 go_loop [8] (fun i => ∃ k : Nat, k ≤ l0.length ∧ i = .int .i64 k) (fun i => l0.length - (intOf i).toNat)
 case atStart => exact ⟨0, Nat.zero_le _, rfl⟩
 case round =>
  obtain ⟨k, hk, rfl⟩ := hrel
  by_cases hlt : k < l0.length
  ·
   obtain ⟨ad, rfl, hc⟩ := Kd.at_int HR.out (k : Int) (by omega) (by omega)
   rw [Int.toNat_natCast] at hc
   obtain ⟨a0, a1⟩ := rd_lead HL.out hlt
   have HB := Aside0.mk (valid1_any (rd l0 k) n g w HC.out a0 a1)
   clear a0 a1
   go_wp2_with (go_at_call 89; refine HB.out.mono ?_; rintro e w' ⟨rfl, rfl⟩)
   go_round
   case rel => exact ⟨k + 1, by omega, by go_num⟩
   case measure => simp [intOf]; omega
  ·
   obtain rfl : k = l0.length := by omega
   go_wp2
   go_ret
   exact ⟨rfl, rfl⟩
theorem containsFunc_valid (A0 : Option Addr) (c0 : Nat) (l0 : List Int) (n g : Nat) (w : World) (hr0 : Kd.C (Kd.int .i64) w A0 l0.length l0) (hc : w.cell? ⟨g, 0, none⟩ = some (.int .i64 (n : Int))) (hlead : ∀ k ∈ l0, 0 ≤ k ∧ k < (n : Int)) :
    Calls Try.prog 88 #[.slice A0 l0.length c0, .func (.func 89) #[] #[.pointer (some ⟨g, 0, none⟩)]] w fun e w' => e = .returned (.bool false) ∧ w = w' := by
 have HI := Aside0.mk (indexFunc_valid A0 c0 l0 n g w hr0 (Kd.C_max hr0) hc hlead)
 clear hr0 hc hlead
 go_enter Try.func88, Try.ntmps88
 go_wp2_with (go_at_call 117; refine HI.out.mono ?_; rintro e w' ⟨rfl, rfl⟩)
 go_ret
 exact ⟨rfl, rfl⟩
structure DfaAt (w : World) (N : Nat) (nx : List (List Int)) (fin : List Bool) (A B : Option Addr) (ca cb : Nat) : Prop where
  ok : DfaOk N nx fin
  rows : Kd.C (Kd.slice 3 (Kd.int .i64)) w A N nx
  fins : Kd.C Kd.bool w B N fin
  ca : N ≤ ca
  cb : N ≤ cb
theorem DfaAt.below {w w1 : World} {N : Nat} {nx : List (List Int)} {fin : List Bool} {A B : Option Addr} {ca cb : Nat} (h : DfaAt w N nx fin A B ca cb) (hb : Below w.heap.size w w1) : DfaAt w1 N nx fin A B ca cb :=
  ⟨h.ok, Kd.C_below h.rows hb, Kd.C_below h.fins hb, h.ca, h.cb⟩
theorem DfaAt.row {w : World} {N : Nat} {nx : List (List Int)} {fin : List Bool} {A B : Option Addr} {ca cb : Nat} (h : DfaAt w N nx fin A B ca cb) {i : Nat} (hi : i < N) :
    ∃ ad A' c', A = some ad ∧ w.cell? (ad.add i) = some (.slice A' 64 c') ∧ 64 ≤ c' ∧ Kd.C (Kd.int .i64) w A' (rdR nx i).length (rdR nx i) := by
 have hR := h.rows
 rw [← h.ok.len] at hR
 obtain ⟨ad, A', c', rfl, hx, hlc, hC⟩ := at_rows hR (i : Int) (by omega) (by have := h.ok.len; omega)
 rw [Int.toNat_natCast] at hx
 rw [h.ok.rows i hi] at hx hlc
 exact ⟨ad, A', c', rfl, hx, hlc, hC⟩
set_option maxHeartbeats 4000000 in
set_option maxRecDepth 100000 in
theorem valid_any {w : World} {N : Nat} {nx : List (List Int)} {fin : List Bool} {A B : Option Addr} {ca cb : Nat} (hD : DfaAt w N nx fin A B ca cb) :
    Calls Try.prog 43 #[.agg #[.int .i64 64, .slice A N ca, .slice B N cb]] w fun e w' => e = .returned (.bool true) ∧ Below w.heap.size w w' := by
 have HD := Aside0.mk hD
 have hpos := hD.ok.pos
 have hfew := hD.ok.few
 have p1 : (N : Int) < 1 ↔ False := ⟨fun h => by omega, fun h => h.elim⟩
 have p2 : (2048 : Int) < (N : Int) ↔ False := ⟨fun h => by omega, fun h => h.elim⟩
 clear hD
 go_enter Try.func43, Try.ntmps43
 go_wp2
 obtain ⟨W, hW⟩ : ∃ W, W = (w.alloc (.cells #[.int .i64 64, .slice A N ca, .slice B N cb] 68)).alloc (.cells #[.int .i64 (N : Int)] 3) := ⟨_, rfl⟩
 have hb : Below w.heap.size w W := by rw [hW]; exact below_alloc (below_alloc (Below.refl _ _) _) _
 have hx0 : W.cell? ⟨w.heap.size, 0, none⟩ = some (.int .i64 64) := by rw [hW]; go_simp
 have hx1 : W.cell? ⟨w.heap.size + 1, 0, none⟩ = some (.int .i64 (N : Int)) := by rw [hW]; go_simp
 have HB := Aside0.mk hb
 have HDW := Aside0.mk (HD.out.below hb)
 rw [← hW]
 clear hW hb
 go_loop [35] (fun i => ∃ k : Nat, k ≤ N ∧ i = .int .i64 k) (fun i => N - (intOf i).toNat)
 case atStart => exact ⟨0, Nat.zero_le _, rfl⟩
 case round =>
  obtain ⟨k, hk, rfl⟩ := hrel
  by_cases hlt : k < N
  ·
   obtain ⟨ad, A', c', rfl, hx, hlc, hC⟩ := HDW.out.row hlt
   have hlen := HDW.out.ok.rows k hlt
   have HCF := Aside0.mk (containsFunc_valid A' c' (rdR nx k) N (w.heap.size + 1) W hC hx1 (HDW.out.ok.lead k hlt))
   rw [hlen] at HCF
   clear hC hlen
   go_wp2_with (go_at_call 88; refine HCF.out.mono ?_; rintro e w' ⟨rfl, rfl⟩)
   go_round
   case rel => exact ⟨k + 1, by omega, by go_num⟩
   case measure => simp [intOf]; omega
  ·
   obtain rfl : k = N := by omega
   go_wp2
   go_ret
   exact ⟨rfl, HB.out⟩
end Go.Proofs.Ytcdjeimjbbknjaa.PAll
namespace Go.Proofs.Ytcdjeimjbbknjaa.PAll
open Go.RowKit Go.Proofs.YtcdjeimjbbknjaaW.PrintWords Go.Proofs.YtcdjeimjbbknjaaW.PrintLast Go.Proofs.YtcdjeimjbbknjaaW.PrintMore
attribute [local go_sem] max2_int min2_int max_two min_two max_three min_three max_four min_four   -- for this text's walks alone
set_option linter.unusedVariables false
set_option linter.unusedSimpArgs false

mutual
def dawg_node_key.j0 : Nat → List Int → Bool → List Int → List Int → Int → Option (ByteArray)
  | 0, _, _, _, _, _ => none
  | k + 1, x3, x102000, x102001, x102002, x102003 => dawg_node_key.l0 k x3 x102001 (x102001.length : Int) 0 x102000 x102001 x102002 x102003
def dawg_node_key.l0 : Nat → List Int → List Int → Int → Int → Bool → List Int → List Int → Int → Option (ByteArray)
  | 0, _, _, _, _, _, _, _, _ => none
  | k + 1, x3, x12, x13, x14, x102000, x102001, x102002, x102003 => if x14 < x13 then (if 0 ≤ x14 then (if x14 < (x12.length : Int) then (if x14 < (x102002.length : Int) then ((some (([(rd x12 x14) % 256, (rd x102002 x14) % 256, ((rd x102002 x14) / 256) % 256, ((rd x102002 x14) / 65536) % 256] : List Int) : List Int)).bind fun y110 => (if x3.length + y110.length < 140737488355328 then (dawg_node_key.l0 k (x3 ++ y110) x12 x13 (wrap64 (x14 + 1)) x102000 x102001 x102002 x102003) else (none))) else (none)) else (none)) else (none)) else (some (strOfNums x3))
end
def dawg_node_key.f (k : Nat) (a0_0 : Bool) (l0_1 : List Int) (l0_2 : List Int) (a0_3 : Int) : Option (ByteArray) := (some (([0] : List Int) : List Int)).bind fun y102 => (if a0_0 = true then (if 0 < (y102.length : Int) then (dawg_node_key.j0 k (y102.set (0 : Int).toNat 1) a0_0 l0_1 l0_2 a0_3) else (none)) else (dawg_node_key.j0 k y102 a0_0 l0_1 l0_2 a0_3))
def dawg_node_key.T7 : Bool × List (List Nat × List Nat) := (true, [([], []), ([], []), ([1], [1]), ([], []), ([3], [3]), ([], []), ([4, 5], [4, 5]), ([6], [6]), ([7], [7]), ([], []), ([9], [9]), ([], []), ([10, 11], [10, 11]), ([12], [12]), ([13], [13]), ([14], [14]), ([], []), ([16], [16]), ([], []), ([17, 18], [17, 18]), ([19], [19]), ([20], [20]), ([21], [21]), ([2, 8, 15, 22], [2, 8, 15, 22]), ([0, 23], [0, 23]), ([24, 24, 0, 1, 2, 3, 4, 5, 6, 7, 8, 9, 10, 11, 12, 13, 14, 15, 16, 17, 18, 19, 20, 21, 22, 23, 24], [0, 24])])
def dawg_node_key.B7 : List Nat := [0, 0, 2, 0, 8, 0, 56, 120, 248, 0, 512, 0, 3584, 7680, 15872, 32256, 0, 65536, 0, 458752, 983040, 2031616, 4128768, 8388606, 16777215, 33554431]
theorem dawg_node_key.tab7 : rtab .any (opsOf Try.f68 7) = dawg_node_key.T7 := by kernel_rfl
theorem dawg_node_key.bits7 : waitsOk dawg_node_key.T7.2 dawg_node_key.B7 = true := by kernel_rfl
set_option maxHeartbeats 8000000 in
set_option maxRecDepth 100000 in
theorem dawg_node_key.calls (k : Nat) (a0_0 : Bool) (A0_1 : Option Addr) (c0_1 : Nat) (l0_1 : List Int) (A0_2 : Option Addr) (c0_2 : Nat) (l0_2 : List Int) (a0_3 : Int) (r : ByteArray) (w : World) (hr0_1 : Kd.C (Kd.int .i64) w A0_1 l0_1.length l0_1) (hc0_1 : l0_1.length ≤ c0_1) (hr0_2 : Kd.C (Kd.int .i64) w A0_2 l0_2.length l0_2) (hc0_2 : l0_2.length ≤ c0_2) (h : dawg_node_key.f k a0_0 l0_1 l0_2 a0_3 = some r) :
    Calls Try.prog 68 #[.agg #[.bool a0_0, .slice A0_1 l0_1.length c0_1, .slice A0_2 l0_2.length c0_2, .int .i64 a0_3]] w fun e w' => e = .returned (.string r) ∧ Below w.heap.size w w' := by
 have hu102 := Try.underlying102
 have HR0_1 := Aside0.mk hr0_1
 have HC0_1 := Aside0.mk hc0_1
 clear hr0_1 hc0_1
 have HR0_2 := Aside0.mk hr0_2
 have HC0_2 := Aside0.mk hc0_2
 clear hr0_2 hc0_2
 have HB := Aside0.mk (Below.refl w.heap.size w)
 have H : ((some (([0] : List Int) : List Int)).bind fun ad => (if a0_0 = true then (if 0 < (ad.length : Int) then (dawg_node_key.j0 k (ad.set (0 : Int).toNat 1) a0_0 l0_1 l0_2 a0_3) else (none)) else (dawg_node_key.j0 k ad a0_0 l0_1 l0_2 a0_3))) = some r := h
 clear h
 obtain ⟨ad, hy102⟩ : ∃ y_ : List Int, y_ = (([0] : List Int)) := ⟨_, rfl⟩
 replace H : (if a0_0 = true then (if 0 < (ad.length : Int) then (dawg_node_key.j0 k (ad.set (0 : Int).toNat 1) a0_0 l0_1 l0_2 a0_3) else (none)) else (dawg_node_key.j0 k ad a0_0 l0_1 l0_2 a0_3)) = some r := by (have H2_ := (Option.bind_some _ _).symm.trans H; rw [hy102]; with_reducible exact H2_)
 have Ny102 := Aside0.mk hy102
 clear hy102
 have HC2 := Aside0.mk H
 clear H
 go_enter Try.func68, Try.ntmps68
 go_upto_if 8 with (first | ((with_reducible refine gate_dst (N := 1) rfl ?_); refine box_event ?hg (N := 1) ?hd (cs := #[.bool a0_0, .slice A0_1 l0_1.length c0_1, .slice A0_2 l0_2.length c0_2, .int .i64 a0_3]) (t := 102) ?hr ?_; (case hd => rfl); (case hg => rfl); (case hr => first | (go_simp; done) | (go_simp; rfl)); intro ac hg w3 hbox hb; have am := Aside0.mk (below_step HB.out hb); have al := Aside0.mk (hbox); have ak := Aside0.mk ((by rw [hg]; exact (below_size HB.out) : w.heap.size ≤ ac)); have aM := Aside0.mk ((by rw [hg]; exact (below_size HB.out) : w.heap.size ≤ ac)); clear HB; have HB := am; have ab := al; have bd := ak; have be := aM; clear am al ak aM; clear hb hbox hg) | ((with_reducible refine gate_dst (N := 6) rfl ?_); refine Kd.R_lit (Kd.int .u8) _ 5 ?hg (N := 6) ?hd (xs := ([0] : List Int)) (inner := [.int .u8 0]) (ok := fun _ => True) (okp := fun _ => True) ?hr ?hp (fun _ hk => hk) trivial (Below.refl _ _) (Nat.le_refl _) (by simp) ?_; (case hd => rfl); (case hg => rfl); (case hr => first | (go_simp; done) | (go_simp; rfl)); (case hp => exact (Reps.one (show Kd.M (Kd.int .u8) _ _ _ 0 [.int .u8 0] from rfl) (Reps.none _ _))); intro v103 w4 ho5 hb hg_ hnew_; clear hg_ hnew_; (first | rw [← Ny102.out] at ho5 | (simp only [Int.reduceToNat] at ho5; rw [← Ny102.out] at ho5)); have am := Aside0.mk (Kd.R_lower ho5 (below_size HB.out)); have al := Aside0.mk (blk_below (g := ac) (o := .cells #[.bool a0_0, .slice A0_1 l0_1.length c0_1, .slice A0_2 l0_2.length c0_2, .int .i64 a0_3] 102 (0, 0)) ab.out hb); have ak := Aside0.mk (below_step HB.out hb); clear ab; clear HB; have HO104 := am; have ab := al; have HB := ak; clear am al ak; clear hb ho5; have ay : w4.cell? ⟨ac, 0, none⟩ = some (.bool a0_0) := (blk_cell ab.out 0).trans rfl; have ax : w4.cell? ⟨ac, 1, none⟩ = some (.slice A0_1 l0_1.length c0_1) := (blk_cell ab.out 1).trans rfl; have aw : w4.cell? ⟨ac, 2, none⟩ = some (.slice A0_2 l0_2.length c0_2) := (blk_cell ab.out 2).trans rfl; have av : w4.cell? ⟨ac, 3, none⟩ = some (.int .i64 a0_3) := (blk_cell ab.out 3).trans rfl; have au := blk_frozen ab.out 0; have ar := blk_frozen ab.out 1; have aq := blk_frozen ab.out 2; have ap := blk_frozen ab.out 3))
 (try simp only [Act.put, List.setIfInBounds_toArray, List.set_cons_zero, List.set_cons_succ])
 go_cut [] (fun wc => ∃ (kq : Nat) (az : List Int), Aside0 (dawg_node_key.j0 kq az a0_0 l0_1 l0_2 a0_3 = some r) ∧ Aside0 (kq ≤ k) ∧ Aside0 (Kd.R (Kd.int .u8) 5 wc w.heap.size (fun _ => True) v103 az) ∧ Aside0 (wc.heap[ac]? = some (.cells #[.bool a0_0, (.slice A0_1 l0_1.length c0_1), (.slice A0_2 l0_2.length c0_2), .int .i64 a0_3] 102 (0, 0))) ∧ Aside0 (Below w.heap.size w wc))
 case first =>
  have H := HC2.out
  clear HC2
  by_cases c7 : a0_0 = true
  ·
   subst c7
   have H1 : (if 0 < (ad.length : Int) then (dawg_node_key.j0 k (ad.set (0 : Int).toNat 1) true l0_1 l0_2 a0_3) else (none)) = some r := by rw [if_pos rfl] at H; exact H
   clear H
   have H := H1
   clear H1
   have c8 : 0 < (ad.length : Int) := Classical.byContradiction fun c_ => by rw [if_neg c_] at H; exact absurd H (by simp)
   rw [if_pos c8] at H
   have aK : decide (0 < (ad.length : Int)) = true := decide_eq_true c8
   have aQ : decide (0 < ad.length) = true := decide_eq_true (by omega)
   clear c8
   (first | rw [aK] | (simp only [i64_w, i32_w]; rw [aK]) | skip)
   obtain ⟨aN, hy105⟩ : ∃ y_ : List Int, y_ = (ad.set (0 : Int).toNat 1) := ⟨_, rfl⟩
   replace H : (dawg_node_key.j0 k aN true l0_1 l0_2 a0_3) = some r := by (rw [hy105]; with_reducible exact H)
   have Ny105 := Aside0.mk hy105
   clear hy105
   have H' := Aside0.mk H
   clear H
   have p9 : 0 ≤ (0 : Int) := (by omega)
   have q9 : (0 : Int) < ((ad.length : Int) : Int) := of_decide_eq_true (by first | (with_reducible assumption) | assumption)
   have qi9 : (0 < ad.length) = True := eq_true (by omega)
   obtain ⟨go9, bf, eo9, aX, gl9, cl9, HG9⟩ := Kd.R_form HO104.out (by omega)
   (first | cases eo9 | (injection eo9 with ea_ en_ ec_; (first | subst ea_ | (injection ea_ with ea_; subst ea_)); subst ec_; clear en_))
   have GB9 := Aside0.mk aX
   have GG9 := Aside0.mk HG9
   clear aX gl9 HG9
   obtain ⟨an, hf9_0⟩ := Kd.R_celln 0 HO104.out (0 : Int) p9 q9
   (try rw [show ((0 : Int)).toNat = 0 from rfl] at an)
   (try simp only [Nat.reduceMul, Nat.zero_mul, Nat.zero_add, Nat.reduceAdd] at an)
   (try rw [show ((0 : Int)).toNat = 0 from rfl] at hf9_0)
   (try simp only [Nat.reduceMul, Nat.zero_mul, Nat.zero_add, Nat.reduceAdd] at hf9_0)
   replace p9 := eq_true p9
   replace q9 := eq_true q9
   have HP10 := Kd.R_putg HO104.out (0 : Int) 1
   go_wp2_with (first | ((with_reducible refine gate_store (t := 5) (p := 10) rfl ?_); refine store_event (t := 5) (p := 10) (v := ?vo_w11) (w1 := (w4.setCell ⟨go9, (0 : Int).toNat, none⟩ (.int .u8 1))) ?hg ?ho ?hn ?hr ?_; (case ho => rfl); (case hg => rfl); (case hn => rfl); (case hr => first | (go_simp; done) | (go_simp; rfl)); intro w11 hw; have hg : w4.grownBy w11 (some go9) := (by rw [hw]; exact HP10.2); have hp_ : Kd.R (Kd.int .u8) 5 w11 w.heap.size (fun _ => True) (.slice (some ⟨go9, 0, none⟩) ad.length bf) aN := (by rw [hw, Ny105.out]; exact HP10.1); clear HP10; have am := Aside0.mk (blk_grown (g := ac) (o := .cells #[.bool true, .slice A0_1 l0_1.length c0_1, .slice A0_2 l0_2.length c0_2, .int .i64 a0_3] 102 (0, 0)) ab.out hg (Kd.R_ne HO104.out ab.out (by decide))); have al := Aside0.mk (hp_); have ak := Aside0.mk ((by rw [hw]; exact below_set (HB.out) GB9.out : Below w.heap.size w w11)); clear ab; clear HO104; clear HB; have ab := am; have HO104 := al; have HB := ak; clear am al ak; clear hg hw hp_))
   go_meet
   case rel => exact ⟨_, (aN), H', ⟨by first | omega | exact Nat.le_refl _⟩, ⟨HO104.out⟩, ⟨ab.out⟩, ⟨HB.out⟩⟩
  replace c7 := Bool.eq_false_iff.mpr c7
  subst c7
  have H1 : (dawg_node_key.j0 k ad false l0_1 l0_2 a0_3) = some r := by rw [if_neg (show ¬ (false = true) by decide)] at H; exact H
  clear H
  have H := H1
  clear H1
  have H' := Aside0.mk H
  clear H
  go_wp2
  go_meet
  case rel => exact ⟨_, (ad), H', ⟨by first | omega | exact Nat.le_refl _⟩, ⟨HO104.out⟩, ⟨ab.out⟩, ⟨HB.out⟩⟩
 clear HC2
 (try clear p2); (try clear c6); (try clear c7); (try clear c8); (try clear aK); (try clear aQ); (try clear p9); (try clear q9); (try clear hx9); (try clear qi9); (try clear hf9); (try clear ay); (try clear ax); (try clear aw); (try clear av); (try clear au); (try clear ar); (try clear aq); (try clear ap); (try clear an); (try clear p9); (try clear q9)
 obtain ⟨kq, az, HA, bc, ah, ab, HB⟩ := hcut
 cases kq with
 | zero => exact absurd HA.out (by simp [dawg_node_key.j0])
 | succ aW => ?_
 have H := HA.out
 clear HA
 simp only [dawg_node_key.j0] at H
 have H' := Aside0.mk H
 clear H
 have aJ : wc.cell? ⟨ac, 0, none⟩ = some (.bool a0_0) := (blk_cell ab.out 0).trans rfl
 have aI : wc.cell? ⟨ac, 1, none⟩ = some (.slice A0_1 l0_1.length c0_1) := (blk_cell ab.out 1).trans rfl
 have aH : wc.cell? ⟨ac, 2, none⟩ = some (.slice A0_2 l0_2.length c0_2) := (blk_cell ab.out 2).trans rfl
 have aG : wc.cell? ⟨ac, 3, none⟩ = some (.int .i64 a0_3) := (blk_cell ab.out 3).trans rfl
 have aE := blk_frozen ab.out 0
 have aD := blk_frozen ab.out 1
 have aC := blk_frozen ab.out 2
 have aA := blk_frozen ab.out 3
 go_wp2
 go_loopg [3, 14] aW (fun kq v3 v14 w' => ∃ (aj : List Int) (aa : Int), v14 = .int .i64 aa ∧ Aside0 (dawg_node_key.l0 kq aj l0_1 (l0_1.length : Int) aa a0_0 l0_1 l0_2 a0_3 = some r) ∧ Aside0 (kq ≤ aW) ∧ Aside0 (Kd.R (Kd.int .u8) 5 w' w.heap.size (fun _ => True) v3 aj) ∧ Aside0 (w'.heap[ac]? = some (.cells #[.bool a0_0, (.slice A0_1 l0_1.length c0_1), (.slice A0_2 l0_2.length c0_2), .int .i64 a0_3] 102 (0, 0))) ∧ Aside0 (Below w.heap.size w w'))
 case atStart => exact ⟨(az), (0), (by first | rfl | (simp; done) | (simp [*]; done)), H', ⟨Nat.le_refl _⟩, ⟨ah.out⟩, ⟨ab.out⟩, ⟨HB.out⟩⟩
 clear H'
 (try clear p2); (try clear c6); (try clear c7); (try clear c8); (try clear aK); (try clear aQ); (try clear p9); (try clear q9); (try clear hx9); (try clear qi9); (try clear hf9); (try clear aJ); (try clear aI); (try clear aH); (try clear aG); (try clear ay); (try clear ax); (try clear aw); (try clear av); (try clear aE); (try clear aD); (try clear aC); (try clear aA); (try clear au); (try clear ar); (try clear aq); (try clear ap); (try clear an); (try clear p2); (try clear p9); (try clear q9)
 obtain ⟨aj, aa, rfl, HA, bb, ah, ab, HB⟩ := hrel
 cases gk with
 | zero => exact absurd HA.out (by simp [dawg_node_key.l0])
 | succ k2 => ?_
 have H := HA.out
 clear HA
 simp only [dawg_node_key.l0] at H
 by_cases c13 : aa < (l0_1.length : Int)
 ·
  rw [if_pos c13] at H
  have aT : decide (aa < (l0_1.length : Int)) = true := decide_eq_true c13
  clear c13
  have c14 : 0 ≤ aa := Classical.byContradiction fun c_ => by rw [if_neg c_] at H; exact absurd H (by simp)
  rw [if_pos c14] at H
  have ba : decide (0 ≤ aa) = true := decide_eq_true c14
  clear c14
  have c15 : aa < (l0_1.length : Int) := Classical.byContradiction fun c_ => by rw [if_neg c_] at H; exact absurd H (by simp)
  rw [if_pos c15] at H
  have aZ : decide (aa < (l0_1.length : Int)) = true := decide_eq_true c15
  clear c15
  have c16 : aa < (l0_2.length : Int) := Classical.byContradiction fun c_ => by rw [if_neg c_] at H; exact absurd H (by simp)
  rw [if_pos c16] at H
  have aY : decide (aa < (l0_2.length : Int)) = true := decide_eq_true c16
  clear c16
  obtain ⟨ao, hy110⟩ : ∃ y_ : List Int, y_ = (([(rd l0_1 aa) % 256, (rd l0_2 aa) % 256, ((rd l0_2 aa) / 256) % 256, ((rd l0_2 aa) / 65536) % 256] : List Int)) := ⟨_, rfl⟩
  replace H : (if aj.length + ao.length < 140737488355328 then (dawg_node_key.l0 k2 (aj ++ ao) l0_1 (l0_1.length : Int) (wrap64 (aa + 1)) a0_0 l0_1 l0_2 a0_3) else (none)) = some r := by (have H2_ := (Option.bind_some _ _).symm.trans H; rw [hy110]; with_reducible exact H2_)
  have Ny110 := Aside0.mk hy110
  clear hy110
  have c17 : aj.length + ao.length < 140737488355328 := Classical.byContradiction fun c_ => by rw [if_neg c_] at H; exact absurd H (by simp)
  rw [if_pos c17] at H
  have LMc17 := Aside0.mk c17
  clear c17
  obtain ⟨aP, hy113⟩ : ∃ y_ : List Int, y_ = (aj ++ ao) := ⟨_, rfl⟩
  replace H : (dawg_node_key.l0 k2 aP l0_1 (l0_1.length : Int) (wrap64 (aa + 1)) a0_0 l0_1 l0_2 a0_3) = some r := by (rw [hy113]; with_reducible exact H)
  have Ny113 := Aside0.mk hy113
  clear hy113
  have H' := Aside0.mk H
  clear H
  have p106 : 0 ≤ (aa : Int) := of_decide_eq_true (by first | (with_reducible assumption) | assumption)
  have q106 : aa < (l0_1.length : Int) := of_decide_eq_true (by first | (with_reducible assumption) | assumption)
  obtain ⟨ad106, e106, ai⟩ := Kd.at_int HR0_1.out aa p106 q106
  cases e106
  replace ai := (HB.out.cell (World.block_lt_of_cell? w _ ai)).trans ai
  replace p106 := eq_true p106
  replace q106 := eq_true q106
  try go_wp2
  have am := Aside0.mk (Kd.R_drew ah.out)
  have al := Aside0.mk (blk_drew ab.out)
  have ak := Aside0.mk (below_drew1 HB.out)
  clear ah
  clear ab
  clear HB
  have ah := am
  have ab := al
  have HB := ak
  clear am al ak
  have p107 : 0 ≤ (aa : Int) := of_decide_eq_true (by first | (with_reducible assumption) | assumption)
  have q107 : aa < (l0_2.length : Int) := of_decide_eq_true (by first | (with_reducible assumption) | assumption)
  obtain ⟨ad107, e107, ag⟩ := Kd.at_int HR0_2.out aa p107 q107
  have hw107_0 := ag
  cases e107
  replace ag := (HB.out.cell (World.block_lt_of_cell? w _ ag)).trans ag
  replace p107 := eq_true p107
  replace q107 := eq_true q107
  have p108 : 0 ≤ (aa : Int) := of_decide_eq_true (by first | (with_reducible assumption) | assumption)
  have q108 : aa < (l0_2.length : Int) := of_decide_eq_true (by first | (with_reducible assumption) | assumption)
  obtain ⟨ad108, e108, af⟩ := Kd.at_int HR0_2.out aa p108 q108
  have hw108_0 := af
  obtain rfl : ad107 = ad108 := (by injection e108)
  replace af := (HB.out.cell (World.block_lt_of_cell? w _ af)).trans af
  replace p108 := eq_true p108
  replace q108 := eq_true q108
  have p109 : 0 ≤ (aa : Int) := of_decide_eq_true (by first | (with_reducible assumption) | assumption)
  have q109 : aa < (l0_2.length : Int) := of_decide_eq_true (by first | (with_reducible assumption) | assumption)
  obtain ⟨ad109, e109, ae⟩ := Kd.at_int HR0_2.out aa p109 q109
  have hw109_0 := ae
  obtain rfl : ad107 = ad109 := (by injection e109)
  replace ae := (HB.out.cell (World.block_lt_of_cell? w _ ae)).trans ae
  replace p109 := eq_true p109
  replace q109 := eq_true q109
  refine start_ (n := 26) (S := fun w' => w'.cell? ⟨ac, 0, none⟩ = some (.bool a0_0) ∧ w'.cell? ⟨ac, 1, none⟩ = some (.slice (some ad106) l0_1.length c0_1) ∧ w'.cell? ⟨ac, 2, none⟩ = some (.slice (some ad107) l0_2.length c0_2) ∧ w'.cell? ⟨ac, 3, none⟩ = some (.int .i64 a0_3) ∧ w'.cell? (ad107.add (aa).toNat) = some (.int .i64 (rd l0_2 aa)) ∧ w'.cell? (ad107.add (aa).toNat) = some (.int .i64 (rd l0_2 aa)) ∧ w'.cell? (ad107.add (aa).toNat) = some (.int .i64 (rd l0_2 aa))) (ds := []) #[false, false, false, false, false, false, false, false, false, false, false, false, false, false, false, false, false, false, false, false, false, false, false, false, false, false] (by kernel_rfl) rfl rfl ⟨(blk_cell ab.out 0).trans rfl, (blk_cell ab.out 1).trans rfl, (blk_cell ab.out 2).trans rfl, (blk_cell ab.out 3).trans rfl, ((HB.out.cell (World.block_lt_of_cell? w _ hw107_0)).trans hw107_0), ((HB.out.cell (World.block_lt_of_cell? w _ hw108_0)).trans hw108_0), ((HB.out.cell (World.block_lt_of_cell? w _ hw109_0)).trans hw109_0)⟩ (fun hHeld => ?_); refine with_tabW dawg_node_key.tab7 dawg_node_key.bits7 (fun HT_ HW_ => ?_)
  generalize wr.drew = w18 at ah ab HB ag af ae hHeld ⊢
  refine pure_ (i := 0) (N := some 19) (v := ?_) (a' := ?_) #[true, false, false, false, false, false, false, false, false, false, false, false, false, false, false, false, false, false, false, false, false, false, false, false, false, false] rfl rfl (any_of HT_.out (by kernel_rfl)) (fun _ _ _ h => h) (Or.inl ⟨by rfl, ?_⟩) ?_ ?_
  rotate_left
  ·
   intro w'
   go_simp
   with_reducible rfl
  rotate_left
  ·
   simp only [Act.put, List.setIfInBounds_toArray, List.set_cons_zero, List.set_cons_succ, i64_w, i32_w]
   rfl
  refine pure_ (i := 1) (N := some 20) (v := ?_) (a' := ?_) #[true, true, false, false, false, false, false, false, false, false, false, false, false, false, false, false, false, false, false, false, false, false, false, false, false, false] rfl rfl (any_of HT_.out (by kernel_rfl)) (fun _ _ _ h => h) (Or.inl ⟨by rfl, ?_⟩) ?_ ?_
  rotate_left
  ·
   intro w'
   go_simp
   with_reducible rfl
  rotate_left
  ·
   simp only [Act.put, List.setIfInBounds_toArray, List.set_cons_zero, List.set_cons_succ, i64_w, i32_w]
   rfl
  refine pure_ (i := 2) (N := some 21) (v := ?_) (a' := ?_) #[true, true, true, false, false, false, false, false, false, false, false, false, false, false, false, false, false, false, false, false, false, false, false, false, false, false] rfl rfl (any_of HT_.out (by kernel_rfl)) (fun _ _ _ h => h) (Or.inl ⟨by rfl, ?_⟩) ?_ ?_
  rotate_left
  ·
   intro w'
   go_simp
   with_reducible rfl
  rotate_left
  ·
   simp only [Act.put, List.setIfInBounds_toArray, List.set_cons_zero, List.set_cons_succ, i64_w, i32_w]
   rfl
  refine pure_ (i := 3) (N := some 22) (v := ?_) (a' := ?_) #[true, true, true, true, false, false, false, false, false, false, false, false, false, false, false, false, false, false, false, false, false, false, false, false, false, false] rfl rfl (any_of HT_.out (by kernel_rfl)) (fun _ _ _ h => h) (Or.inl ⟨by rfl, ?_⟩) ?_ ?_
  rotate_left
  ·
   intro w'
   go_simp
   with_reducible rfl
  rotate_left
  ·
   simp only [Act.put, List.setIfInBounds_toArray, List.set_cons_zero, List.set_cons_succ, i64_w, i32_w]
   rfl
  refine pure_ (i := 5) (N := some 24) (v := ?_) (a' := ?_) #[true, true, true, true, false, true, false, false, false, false, false, false, false, false, false, false, false, false, false, false, false, false, false, false, false, false] rfl rfl (any_of HT_.out (by kernel_rfl)) (fun _ _ _ h => h) (Or.inl ⟨by rfl, ?_⟩) ?_ ?_
  rotate_left
  ·
   intro w'
   go_simp
   with_reducible rfl
  rotate_left
  ·
   simp only [Act.put, List.setIfInBounds_toArray, List.set_cons_zero, List.set_cons_succ, i64_w, i32_w]
   rfl
  refine pure_ (i := 9) (N := some 28) (v := ?_) (a' := ?_) #[true, true, true, true, false, true, false, false, false, true, false, false, false, false, false, false, false, false, false, false, false, false, false, false, false, false] rfl rfl (any_of HT_.out (by kernel_rfl)) (fun _ _ _ h => h) (Or.inl ⟨by rfl, ?_⟩) ?_ ?_
  rotate_left
  ·
   intro w'
   go_simp
   with_reducible rfl
  rotate_left
  ·
   simp only [Act.put, List.setIfInBounds_toArray, List.set_cons_zero, List.set_cons_succ, i64_w, i32_w]
   rfl
  refine pure_ (i := 11) (N := some 30) (v := ?_) (a' := ?_) #[true, true, true, true, false, true, false, false, false, true, false, true, false, false, false, false, false, false, false, false, false, false, false, false, false, false] rfl rfl (any_of HT_.out (by kernel_rfl)) (fun _ _ _ h => h) (Or.inl ⟨by rfl, ?_⟩) ?_ ?_
  rotate_left
  ·
   intro w'
   go_simp
   with_reducible rfl
  rotate_left
  ·
   simp only [Act.put, List.setIfInBounds_toArray, List.set_cons_zero, List.set_cons_succ, i64_w, i32_w]
   rfl
  refine pure_ (i := 16) (N := some 35) (v := ?_) (a' := ?_) #[true, true, true, true, false, true, false, false, false, true, false, true, false, false, false, false, true, false, false, false, false, false, false, false, false, false] rfl rfl (any_of HT_.out (by kernel_rfl)) (fun _ _ _ h => h) (Or.inl ⟨by rfl, ?_⟩) ?_ ?_
  rotate_left
  ·
   intro w'
   go_simp
   with_reducible rfl
  rotate_left
  ·
   simp only [Act.put, List.setIfInBounds_toArray, List.set_cons_zero, List.set_cons_succ, i64_w, i32_w]
   rfl
  refine pure_ (i := 18) (N := some 37) (v := ?_) (a' := ?_) #[true, true, true, true, false, true, false, false, false, true, false, true, false, false, false, false, true, false, true, false, false, false, false, false, false, false] rfl rfl (any_of HT_.out (by kernel_rfl)) (fun _ _ _ h => h) (Or.inl ⟨by rfl, ?_⟩) ?_ ?_
  rotate_left
  ·
   intro w'
   go_simp
   with_reducible rfl
  rotate_left
  ·
   simp only [Act.put, List.setIfInBounds_toArray, List.set_cons_zero, List.set_cons_succ, i64_w, i32_w]
   rfl
  refine take_ (i := 4) (N := some 23) (v := ?_) (a' := ?_) #[true, true, true, true, true, true, false, false, false, true, false, true, false, false, false, false, true, false, true, false, false, false, false, false, false, false] rfl rfl (take_ofW HT_.out HW_.out (by kernel_rfl)) (fun _ _ _ h => h) (Or.inl ⟨by rfl, ?_⟩) hHeld ?_ ?_
  rotate_left
  ·
   rintro w' ⟨s0, s1, s2, s3, s4, s5, s6⟩
   go_simp
   with_reducible rfl
  rotate_left
  ·
   simp only [Act.put, List.setIfInBounds_toArray, List.set_cons_zero, List.set_cons_succ, i64_w, i32_w]
   rfl
  refine pure_ (i := 6) (N := some 25) (v := ?_) (a' := ?_) #[true, true, true, true, true, true, true, false, false, true, false, true, false, false, false, false, true, false, true, false, false, false, false, false, false, false] rfl rfl (any_of HT_.out (by kernel_rfl)) (fun _ _ _ h => h) (Or.inl ⟨by rfl, ?_⟩) ?_ ?_
  rotate_left
  ·
   intro w'
   go_simp
   with_reducible rfl
  rotate_left
  ·
   simp only [Act.put, List.setIfInBounds_toArray, List.set_cons_zero, List.set_cons_succ, i64_w, i32_w]
   rfl
  refine take_ (i := 7) (N := some 26) (v := ?_) (a' := ?_) #[true, true, true, true, true, true, true, true, false, true, false, true, false, false, false, false, true, false, true, false, false, false, false, false, false, false] rfl rfl (take_ofW HT_.out HW_.out (by kernel_rfl)) (fun _ _ _ h => h) (Or.inl ⟨by rfl, ?_⟩) hHeld ?_ ?_
  rotate_left
  ·
   rintro w' ⟨s0, s1, s2, s3, s4, s5, s6⟩
   go_simp
   with_reducible rfl
  rotate_left
  ·
   simp only [Act.put, List.setIfInBounds_toArray, List.set_cons_zero, List.set_cons_succ, i64_w, i32_w]
   rfl
  refine pure_ (i := 8) (N := some 27) (v := ?_) (a' := ?_) #[true, true, true, true, true, true, true, true, true, true, false, true, false, false, false, false, true, false, true, false, false, false, false, false, false, false] rfl rfl (any_of HT_.out (by kernel_rfl)) (fun _ _ _ h => h) (Or.inl ⟨by rfl, ?_⟩) ?_ ?_
  rotate_left
  ·
   intro w'
   go_simp
   with_reducible rfl
  rotate_left
  ·
   simp only [Act.put, List.setIfInBounds_toArray, List.set_cons_zero, List.set_cons_succ, i64_w, i32_w]
   rfl
  refine take_ (i := 10) (N := some 29) (v := ?_) (a' := ?_) #[true, true, true, true, true, true, true, true, true, true, true, true, false, false, false, false, true, false, true, false, false, false, false, false, false, false] rfl rfl (take_ofW HT_.out HW_.out (by kernel_rfl)) (fun _ _ _ h => h) (Or.inl ⟨by rfl, ?_⟩) hHeld ?_ ?_
  rotate_left
  ·
   rintro w' ⟨s0, s1, s2, s3, s4, s5, s6⟩
   go_simp
   with_reducible rfl
  rotate_left
  ·
   simp only [Act.put, List.setIfInBounds_toArray, List.set_cons_zero, List.set_cons_succ, i64_w, i32_w]
   rfl
  refine pure_ (i := 12) (N := some 31) (v := ?_) (a' := ?_) #[true, true, true, true, true, true, true, true, true, true, true, true, true, false, false, false, true, false, true, false, false, false, false, false, false, false] rfl rfl (any_of HT_.out (by kernel_rfl)) (fun _ _ _ h => h) (Or.inl ⟨by rfl, ?_⟩) ?_ ?_
  rotate_left
  ·
   intro w'
   go_simp
   with_reducible rfl
  rotate_left
  ·
   simp only [Act.put, List.setIfInBounds_toArray, List.set_cons_zero, List.set_cons_succ, i64_w, i32_w]
   rfl
  refine take_ (i := 13) (N := some 32) (v := ?_) (a' := ?_) #[true, true, true, true, true, true, true, true, true, true, true, true, true, true, false, false, true, false, true, false, false, false, false, false, false, false] rfl rfl (take_ofW HT_.out HW_.out (by kernel_rfl)) (fun _ _ _ h => h) (Or.inl ⟨by rfl, ?_⟩) hHeld ?_ ?_
  rotate_left
  ·
   rintro w' ⟨s0, s1, s2, s3, s4, s5, s6⟩
   go_simp
   with_reducible rfl
  rotate_left
  ·
   simp only [Act.put, List.setIfInBounds_toArray, List.set_cons_zero, List.set_cons_succ, i64_w, i32_w]
   rfl
  refine pure_ (i := 14) (N := some 33) (v := ?_) (a' := ?_) #[true, true, true, true, true, true, true, true, true, true, true, true, true, true, true, false, true, false, true, false, false, false, false, false, false, false] rfl rfl (any_of HT_.out (by kernel_rfl)) (fun _ _ _ h => h) (Or.inl ⟨by rfl, ?_⟩) ?_ ?_
  rotate_left
  ·
   intro w'
   go_simp
   with_reducible rfl
  rotate_left
  ·
   simp only [Act.put, List.setIfInBounds_toArray, List.set_cons_zero, List.set_cons_succ, i64_w, i32_w]
   rfl
  refine pure_ (i := 15) (N := some 34) (v := ?_) (a' := ?_) #[true, true, true, true, true, true, true, true, true, true, true, true, true, true, true, true, true, false, true, false, false, false, false, false, false, false] rfl rfl (any_of HT_.out (by kernel_rfl)) (fun _ _ _ h => h) (Or.inl ⟨by rfl, ?_⟩) ?_ ?_
  rotate_left
  ·
   intro w'
   go_simp
   with_reducible rfl
  rotate_left
  ·
   simp only [Act.put, List.setIfInBounds_toArray, List.set_cons_zero, List.set_cons_succ, i64_w, i32_w]
   rfl
  refine take_ (i := 17) (N := some 36) (v := ?_) (a' := ?_) #[true, true, true, true, true, true, true, true, true, true, true, true, true, true, true, true, true, true, true, false, false, false, false, false, false, false] rfl rfl (take_ofW HT_.out HW_.out (by kernel_rfl)) (fun _ _ _ h => h) (Or.inl ⟨by rfl, ?_⟩) hHeld ?_ ?_
  rotate_left
  ·
   rintro w' ⟨s0, s1, s2, s3, s4, s5, s6⟩
   go_simp
   with_reducible rfl
  rotate_left
  ·
   simp only [Act.put, List.setIfInBounds_toArray, List.set_cons_zero, List.set_cons_succ, i64_w, i32_w]
   rfl
  refine pure_ (i := 19) (N := some 38) (v := ?_) (a' := ?_) #[true, true, true, true, true, true, true, true, true, true, true, true, true, true, true, true, true, true, true, true, false, false, false, false, false, false] rfl rfl (any_of HT_.out (by kernel_rfl)) (fun _ _ _ h => h) (Or.inl ⟨by rfl, ?_⟩) ?_ ?_
  rotate_left
  ·
   intro w'
   go_simp
   with_reducible rfl
  rotate_left
  ·
   simp only [Act.put, List.setIfInBounds_toArray, List.set_cons_zero, List.set_cons_succ, i64_w, i32_w]
   rfl
  refine take_ (i := 20) (N := some 39) (v := ?_) (a' := ?_) #[true, true, true, true, true, true, true, true, true, true, true, true, true, true, true, true, true, true, true, true, true, false, false, false, false, false] rfl rfl (take_ofW HT_.out HW_.out (by kernel_rfl)) (fun _ _ _ h => h) (Or.inl ⟨by rfl, ?_⟩) hHeld ?_ ?_
  rotate_left
  ·
   rintro w' ⟨s0, s1, s2, s3, s4, s5, s6⟩
   go_simp
   with_reducible rfl
  rotate_left
  ·
   simp only [Act.put, List.setIfInBounds_toArray, List.set_cons_zero, List.set_cons_succ, i64_w, i32_w]
   rfl
  refine pure_ (i := 21) (N := some 40) (v := ?_) (a' := ?_) #[true, true, true, true, true, true, true, true, true, true, true, true, true, true, true, true, true, true, true, true, true, true, false, false, false, false] rfl rfl (any_of HT_.out (by kernel_rfl)) (fun _ _ _ h => h) (Or.inl ⟨by rfl, ?_⟩) ?_ ?_
  rotate_left
  ·
   intro w'
   go_simp
   with_reducible rfl
  rotate_left
  ·
   simp only [Act.put, List.setIfInBounds_toArray, List.set_cons_zero, List.set_cons_succ, i64_w, i32_w]
   rfl
  refine pure_ (i := 22) (N := some 41) (v := ?_) (a' := ?_) #[true, true, true, true, true, true, true, true, true, true, true, true, true, true, true, true, true, true, true, true, true, true, true, false, false, false] rfl rfl (any_of HT_.out (by kernel_rfl)) (fun _ _ _ h => h) (Or.inl ⟨by rfl, ?_⟩) ?_ ?_
  rotate_left
  ·
   intro w'
   go_simp
   with_reducible rfl
  rotate_left
  ·
   simp only [Act.put, List.setIfInBounds_toArray, List.set_cons_zero, List.set_cons_succ, i64_w, i32_w]
   rfl
  refine one_ (i := 23) (N := some 42) #[true, true, true, true, true, true, true, true, true, true, true, true, true, true, true, true, true, true, true, true, true, true, true, true, false, false] rfl rfl (one_of HT_.out (by kernel_rfl)) (by decide) (fun K hK => ?_)
  refine Kd.R_lit_step (Kd.int .u8) _ 5 ?hg (N := 42) ?hd (xs := ([(rd l0_1 aa) % 256, (rd l0_2 aa) % 256, ((rd l0_2 aa) / 256) % 256, ((rd l0_2 aa) / 65536) % 256] : List Int)) (inner := [.int .u8 ((rd l0_1 aa) % 256), .int .u8 ((rd l0_2 aa) % 256), .int .u8 (((rd l0_2 aa) / 256) % 256), .int .u8 (((rd l0_2 aa) / 65536) % 256)]) (ok := fun _ => True) (okp := fun _ => True) ?hr ?hp (fun _ hk => hk) trivial (Below.refl _ _) (Nat.le_refl _) (by simp) ?_; (case hd => rfl); (case hg => rfl); (case hr => first | (go_simp; done) | (go_simp; rfl)); (case hp => exact (Reps.one (show Kd.M (Kd.int .u8) _ _ _ ((rd l0_1 aa) % 256) [.int .u8 ((rd l0_1 aa) % 256)] from rfl) (Reps.one (show Kd.M (Kd.int .u8) _ _ _ ((rd l0_2 aa) % 256) [.int .u8 ((rd l0_2 aa) % 256)] from rfl) (Reps.one (show Kd.M (Kd.int .u8) _ _ _ (((rd l0_2 aa) / 256) % 256) [.int .u8 (((rd l0_2 aa) / 256) % 256)] from rfl) (Reps.one (show Kd.M (Kd.int .u8) _ _ _ (((rd l0_2 aa) / 65536) % 256) [.int .u8 (((rd l0_2 aa) / 65536) % 256)] from rfl) (Reps.none _ _))))))
  intro v111 w19 ho20 hb hg_ hnew_
  clear hg_ hnew_
  (first | rw [← Ny110.out] at ho20 | (simp only [Int.reduceToNat] at ho20; rw [← Ny110.out] at ho20))
  have am := Aside0.mk (Kd.R_elder' ah.out (Kd.R_base ho20) hb)
  have al := Aside0.mk (Kd.R_lower (Kd.R_new' ho20 (Kd.R_lt ah.out)) (below_size HB.out))
  have ak := Aside0.mk (blk_below (g := ac) (o := .cells #[.bool a0_0, .slice (some ad106) l0_1.length c0_1, .slice (some ad107) l0_2.length c0_2, .int .i64 a0_3] 102 (0, 0)) ab.out hb)
  have aM := Aside0.mk (below_step HB.out hb)
  clear ah
  clear ab
  clear HB
  have ah := am
  have HO112 := al
  have ab := ak
  have HB := aM
  clear am al ak aM
  clear hb ho20
  obtain ⟨aV, aU, eo22⟩ := Kd.R_slice HO112.out
  (first | subst eo22 | (injection eo22 with f1_ f2_ f3_; have f4_ := f1_.symm; have f5_ := f3_.symm; clear f1_ f2_ f3_; subst f4_; subst f5_))
  refine hK.out _ _ ⟨(blk_cell ab.out 0).trans rfl, (blk_cell ab.out 1).trans rfl, (blk_cell ab.out 2).trans rfl, (blk_cell ab.out 3).trans rfl, ((HB.out.cell (World.block_lt_of_cell? w _ hw107_0)).trans hw107_0), ((HB.out.cell (World.block_lt_of_cell? w _ hw108_0)).trans hw108_0), ((HB.out.cell (World.block_lt_of_cell? w _ hw109_0)).trans hw109_0)⟩ (fun hHeld => ?_)
  clear hK K
  refine norm_ (a' := ?_) ?_ ?_
  rotate_left
  ·
   show Act.put _ (some 42) _ = _
   simp only [Act.put, List.setIfInBounds_toArray, List.set_cons_zero, List.set_cons_succ, i64_w, i32_w]
   rfl
  refine one_ (i := 24) (N := some 43) #[true, true, true, true, true, true, true, true, true, true, true, true, true, true, true, true, true, true, true, true, true, true, true, true, true, false] rfl rfl (one_of HT_.out (by kernel_rfl)) (by decide) (fun K hK => ?_)
  refine Kd.R_append_rows_step (Kd.int .u8) (w0 := w) w.heap.size (by rfl) (.tmp 19) (.tmp 42) 55 5 (.int .u8 0) 1 rfl Try.underlying55 info5 rfl (by decide) (by omega) u3 aj ao _ _ _ (fun k_ => some k_ ≠ (.slice aV ao.length aU : Value).ownBlock) (fun _ => False) rfl rfl ?aO ?aR (fun _ _ h => h) (fun _ h => h.elim) ?aF ?aB ?aS ?aL ?_
  (case aR => repeat (first | exact (Kd.R_reads' HO112.out).2.2 | (with_reducible refine Kd.C_alloc ?_ _) | (with_reducible refine Kd.C_drewN ?_ _) | (with_reducible refine Kd.C_drew ?_)))
  (case aB => exact HB.out)
  (case aF => exact (fun k_ hk => Kd.fresh' (Kd.R_lt HO112.out) k_ hk))
  (case aO => exact (by exact Kd.R_mono ah.out (fun _ hk => hk.2)))
  (case aS => exact (below_size HB.out))
  (case aL => have := LMc17.out; omega)
  intro v114 w21 ho hb hg hat
  rw [← Ny113.out] at ho
  have am := Aside0.mk (blk_grown (g := ac) (o := .cells #[.bool a0_0, .slice (some ad106) l0_1.length c0_1, .slice (some ad107) l0_2.length c0_2, .int .i64 a0_3] 102 (0, 0)) ab.out hg (Kd.R_ne ah.out ab.out (by decide)))
  have al := Aside0.mk (Kd.R_after (ok := (fun _ => True)) HO112.out hg hat)
  have ak := Aside0.mk (hb)
  have aM := Aside0.mk (ho)
  clear ab
  clear HO112
  clear HB
  clear ah
  have ab := am
  have HO112 := al
  have HB := ak
  have HO115 := aM
  clear am al ak aM
  clear ho hb hg hat
  refine hK.out _ _ ⟨(blk_cell ab.out 0).trans rfl, (blk_cell ab.out 1).trans rfl, (blk_cell ab.out 2).trans rfl, (blk_cell ab.out 3).trans rfl, ((HB.out.cell (World.block_lt_of_cell? w _ hw107_0)).trans hw107_0), ((HB.out.cell (World.block_lt_of_cell? w _ hw108_0)).trans hw108_0), ((HB.out.cell (World.block_lt_of_cell? w _ hw109_0)).trans hw109_0)⟩ (fun hHeld => ?_)
  clear hK K
  refine norm_ (a' := ?_) ?_ ?_
  rotate_left
  ·
   show Act.put _ (some 43) _ = _
   simp only [Act.put, List.setIfInBounds_toArray, List.set_cons_zero, List.set_cons_succ, i64_w, i32_w]
   rfl
  refine pure_ (i := 25) (N := some 3) (v := ?_) (a' := ?_) #[true, true, true, true, true, true, true, true, true, true, true, true, true, true, true, true, true, true, true, true, true, true, true, true, true, true] rfl rfl (any_of HT_.out (by kernel_rfl)) (fun _ _ _ h => h) (Or.inl ⟨by rfl, ?_⟩) ?_ ?_
  rotate_left
  ·
   intro w'
   go_simp
   with_reducible rfl
  rotate_left
  ·
   simp only [Act.put, List.setIfInBounds_toArray, List.set_cons_zero, List.set_cons_succ, i64_w, i32_w]
   rfl
  refine done_ (done_of HT_.out (by kernel_rfl)) ?_
  try go_wp2
  go_roundg k2
  case measure => have := bc.out; have := bb.out; omega
  case rel => exact ⟨(aP), (wrap64 (aa + 1)), (by first | rfl | (simp; done) | (simp [*]; done)), H', ⟨by have := bc.out; have := bb.out; omega⟩, ⟨by exact Kd.R_mono HO115.out (fun _ hk => trivial)⟩, ⟨ab.out⟩, ⟨HB.out⟩⟩
 rw [if_neg c13] at H
 have aT : decide (aa < (l0_1.length : Int)) = false := decide_eq_false c13
 clear c13
 obtain rfl := Option.some.inj H
 have hcv23 := own_string (P := Try.prog) Try.underlying55 Try.underlying5 Try.underlying9 (Kd.own_of_R ah.out)
 go_wp2
 go_ret
 exact ⟨by first | rfl | (simp [errW_none, errW_some] <;> rfl) | (simp [*, errW_none, errW_some] <;> rfl), by exact HB.out⟩
mutual
def wordbookref06_Order.l0 : Nat → List Int → List Int → Int → Option (Int)
  | 0, _, _, _ => none
  | k + 1, x0, x1, x5 => if x5 < (x0.length : Int) then (wordbookref06_Order.j1 k x0 x1 x5 (decide (x5 < (x1.length : Int)))) else (wordbookref06_Order.j1 k x0 x1 x5 false)
def wordbookref06_Order.j1 : Nat → List Int → List Int → Int → Bool → Option (Int)
  | 0, _, _, _, _ => none
  | k + 1, x0, x1, x5, x15 => if x15 = true then (if 0 ≤ x5 then (if x5 < (x0.length : Int) then (if x5 < (x1.length : Int) then (if (rd x0 x5) < (rd x1 x5) then (some (-1)) else (if (rd x0 x5) > (rd x1 x5) then (some 1) else (wordbookref06_Order.l0 k x0 x1 (wrap64 (x5 + 1))))) else (none)) else (none)) else (none)) else (if (x0.length : Int) < (x1.length : Int) then (some (-1)) else (if (x0.length : Int) > (x1.length : Int) then (some 1) else (some 0)))
end
def wordbookref06_Order.f (k : Nat) (l0 : List Int) (l1 : List Int) : Option (Int) := wordbookref06_Order.l0 k l0 l1 0
set_option maxHeartbeats 8000000 in
set_option maxRecDepth 100000 in
theorem wordbookref06_Order.calls (k : Nat) (A0 : Option Addr) (c0 : Nat) (l0 : List Int) (A1 : Option Addr) (c1 : Nat) (l1 : List Int) (r : Int) (w : World) (hr0 : Kd.C (Kd.int .i64) w A0 l0.length l0) (hc0 : l0.length ≤ c0) (hr1 : Kd.C (Kd.int .i64) w A1 l1.length l1) (hc1 : l1.length ≤ c1) (h : wordbookref06_Order.f k l0 l1 = some r) :
    Calls Try.prog 37 #[.slice A0 l0.length c0, .slice A1 l1.length c1] w fun e w' => e = .returned (.int .i64 r) ∧ Drawn0 w w' := by
 have HR0 := Aside0.mk hr0
 have HC0 := Aside0.mk hc0
 clear hr0 hc0
 have HR1 := Aside0.mk hr1
 have HC1 := Aside0.mk hc1
 clear hr1 hc1
 have H : (wordbookref06_Order.l0 k l0 l1 0) = some r := h
 clear h
 have H' := Aside0.mk H
 clear H
 go_enter Try.func37, Try.ntmps37
 go_wp2
 repeat (go_quiet (fail); try go_wp2)
 go_loopg [5] k (fun kq v5 w' => ∃ (aa : Int), v5 = .int .i64 aa ∧ Aside0 (wordbookref06_Order.l0 kq l0 l1 aa = some r) ∧ Aside0 (kq ≤ k) ∧ Drawn0 w w')
 case atStart => exact ⟨(0), (by first | rfl | (simp; done) | (simp [*]; done)), H', ⟨Nat.le_refl _⟩, by repeat (first | exact Drawn0.refl _ | apply Drawn0.step)⟩
 clear H'
 (try clear c1); (try clear p2)
 obtain ⟨aa, rfl, HA, am, ⟨m1, rfl⟩⟩ := hrel
 cases gk with
 | zero => exact absurd HA.out (by simp [wordbookref06_Order.l0])
 | succ k1 => ?_
 have H := HA.out
 clear HA
 simp only [wordbookref06_Order.l0] at H
 have HC3 := Aside0.mk H
 clear H
 go_upto_region 2 with (fail)
 repeat (go_quiet (fail); go_upto_region 2 with (fail))
 go_cut [15] (fun v15 wc => ∃ (kq : Nat) (ab : Bool), v15 = .bool ab ∧ Aside0 (wordbookref06_Order.j1 kq l0 l1 aa ab = some r) ∧ Aside0 (kq ≤ k1) ∧ Drawn0 w wc)
 case first =>
  have H := HC3.out
  clear HC3
  by_cases c4 : aa < (l0.length : Int)
  ·
   rw [if_pos c4] at H
   have ae : decide (aa < (l0.length : Int)) = true := decide_eq_true c4
   clear c4
   (first | rw [ae] | (simp only [i64_w, i32_w]; rw [ae]) | skip)
   have H' := Aside0.mk H
   clear H
   go_wp2
   repeat (go_quiet (fail); try go_wp2)
   go_meet
   case rel => exact ⟨_, (decide (aa < (l1.length : Int))), (by first | rfl | (simp; done) | (simp [*]; done)), H', ⟨by have := am.out; first | omega | exact Nat.le_refl _⟩, by repeat (first | exact Drawn0.refl _ | apply Drawn0.step)⟩
  rw [if_neg c4] at H
  have ae : decide (aa < (l0.length : Int)) = false := decide_eq_false c4
  clear c4
  (first | rw [ae] | (simp only [i64_w, i32_w]; rw [ae]) | skip)
  have H' := Aside0.mk H
  clear H
  go_wp2
  repeat (go_quiet (fail); try go_wp2)
  go_meet
  case rel => exact ⟨_, (false), (by first | rfl | (simp; done) | (simp [*]; done)), H', ⟨by have := am.out; first | omega | exact Nat.le_refl _⟩, by repeat (first | exact Drawn0.refl _ | apply Drawn0.step)⟩
 clear HC3
 (try clear c1); (try clear p2); (try clear c3); (try clear c4); (try clear ae); (try clear p2)
 obtain ⟨kq, ab, rfl, HA, ap, ⟨mc2, rfl⟩⟩ := hcut
 cases kq with
 | zero => exact absurd HA.out (by simp [wordbookref06_Order.j1])
 | succ ao => ?_
 have H := HA.out
 clear HA
 simp only [wordbookref06_Order.j1] at H
 by_cases c5 : ab = true
 ·
  subst c5
  have H1 : (if 0 ≤ aa then (if aa < (l0.length : Int) then (if aa < (l1.length : Int) then (if (rd l0 aa) < (rd l1 aa) then (some (-1)) else (if (rd l0 aa) > (rd l1 aa) then (some 1) else (wordbookref06_Order.l0 ao l0 l1 (wrap64 (aa + 1))))) else (none)) else (none)) else (none)) = some r := by rw [if_pos rfl] at H; exact H
  clear H
  have H := H1
  clear H1
  have c6 : 0 ≤ aa := Classical.byContradiction fun c_ => by rw [if_neg c_] at H; exact absurd H (by simp)
  rw [if_pos c6] at H
  have au : decide (0 ≤ aa) = true := decide_eq_true c6
  clear c6
  have c7 : aa < (l0.length : Int) := Classical.byContradiction fun c_ => by rw [if_neg c_] at H; exact absurd H (by simp)
  rw [if_pos c7] at H
  have ar : decide (aa < (l0.length : Int)) = true := decide_eq_true c7
  clear c7
  have c8 : aa < (l1.length : Int) := Classical.byContradiction fun c_ => by rw [if_neg c_] at H; exact absurd H (by simp)
  rw [if_pos c8] at H
  have aq : decide (aa < (l1.length : Int)) = true := decide_eq_true c8
  clear c8
  by_cases c9 : (rd l0 aa) < (rd l1 aa)
  ·
   rw [if_pos c9] at H
   have an : decide ((rd l0 aa) < (rd l1 aa)) = true := decide_eq_true c9
   clear c9
   obtain rfl := Option.some.inj H
   have p116 : 0 ≤ (aa : Int) := of_decide_eq_true (by first | (with_reducible assumption) | assumption)
   have q116 : aa < (l0.length : Int) := of_decide_eq_true (by first | (with_reducible assumption) | assumption)
   obtain ⟨ad116, e116, ad⟩ := Kd.at_int HR0.out aa p116 q116
   cases e116
   replace p116 := eq_true p116
   replace q116 := eq_true q116
   have p117 : 0 ≤ (aa : Int) := of_decide_eq_true (by first | (with_reducible assumption) | assumption)
   have q117 : aa < (l1.length : Int) := of_decide_eq_true (by first | (with_reducible assumption) | assumption)
   obtain ⟨ad117, e117, ac⟩ := Kd.at_int HR1.out aa p117 q117
   cases e117
   replace p117 := eq_true p117
   replace q117 := eq_true q117
   go_wp2
   repeat (go_quiet (fail); try go_wp2)
   go_ret
   exact ⟨by first | rfl | (simp; done) | (simp [*]; done), by repeat (first | exact Drawn0.refl _ | apply Drawn0.step)⟩
  rw [if_neg c9] at H
  have an : decide ((rd l0 aa) < (rd l1 aa)) = false := decide_eq_false c9
  clear c9
  by_cases c10 : (rd l0 aa) > (rd l1 aa)
  ·
   rw [if_pos c10] at H
   have al : decide ((rd l1 aa) < (rd l0 aa)) = true := decide_eq_true c10
   clear c10
   obtain rfl := Option.some.inj H
   have p116 : 0 ≤ (aa : Int) := of_decide_eq_true (by first | (with_reducible assumption) | assumption)
   have q116 : aa < (l0.length : Int) := of_decide_eq_true (by first | (with_reducible assumption) | assumption)
   obtain ⟨ad116, e116, ad⟩ := Kd.at_int HR0.out aa p116 q116
   cases e116
   replace p116 := eq_true p116
   replace q116 := eq_true q116
   have p117 : 0 ≤ (aa : Int) := of_decide_eq_true (by first | (with_reducible assumption) | assumption)
   have q117 : aa < (l1.length : Int) := of_decide_eq_true (by first | (with_reducible assumption) | assumption)
   obtain ⟨ad117, e117, ac⟩ := Kd.at_int HR1.out aa p117 q117
   cases e117
   replace p117 := eq_true p117
   replace q117 := eq_true q117
   have p118 : 0 ≤ (aa : Int) := of_decide_eq_true (by first | (with_reducible assumption) | assumption)
   have q118 : aa < (l0.length : Int) := of_decide_eq_true (by first | (with_reducible assumption) | assumption)
   obtain ⟨ad118, e118, ag⟩ := Kd.at_int HR0.out aa p118 q118
   obtain rfl : ad116 = ad118 := (by injection e118)
   replace p118 := eq_true p118
   replace q118 := eq_true q118
   have p119 : 0 ≤ (aa : Int) := of_decide_eq_true (by first | (with_reducible assumption) | assumption)
   have q119 : aa < (l1.length : Int) := of_decide_eq_true (by first | (with_reducible assumption) | assumption)
   obtain ⟨ad119, e119, af⟩ := Kd.at_int HR1.out aa p119 q119
   obtain rfl : ad117 = ad119 := (by injection e119)
   replace p119 := eq_true p119
   replace q119 := eq_true q119
   go_wp2
   repeat (go_quiet (fail); try go_wp2)
   go_ret
   exact ⟨by first | rfl | (simp; done) | (simp [*]; done), by repeat (first | exact Drawn0.refl _ | apply Drawn0.step)⟩
  rw [if_neg c10] at H
  have al : decide ((rd l1 aa) < (rd l0 aa)) = false := decide_eq_false c10
  clear c10
  have H' := Aside0.mk H
  clear H
  have p116 : 0 ≤ (aa : Int) := of_decide_eq_true (by first | (with_reducible assumption) | assumption)
  have q116 : aa < (l0.length : Int) := of_decide_eq_true (by first | (with_reducible assumption) | assumption)
  obtain ⟨ad116, e116, ad⟩ := Kd.at_int HR0.out aa p116 q116
  cases e116
  replace p116 := eq_true p116
  replace q116 := eq_true q116
  have p117 : 0 ≤ (aa : Int) := of_decide_eq_true (by first | (with_reducible assumption) | assumption)
  have q117 : aa < (l1.length : Int) := of_decide_eq_true (by first | (with_reducible assumption) | assumption)
  obtain ⟨ad117, e117, ac⟩ := Kd.at_int HR1.out aa p117 q117
  cases e117
  replace p117 := eq_true p117
  replace q117 := eq_true q117
  have p118 : 0 ≤ (aa : Int) := of_decide_eq_true (by first | (with_reducible assumption) | assumption)
  have q118 : aa < (l0.length : Int) := of_decide_eq_true (by first | (with_reducible assumption) | assumption)
  obtain ⟨ad118, e118, ag⟩ := Kd.at_int HR0.out aa p118 q118
  obtain rfl : ad116 = ad118 := (by injection e118)
  replace p118 := eq_true p118
  replace q118 := eq_true q118
  have p119 : 0 ≤ (aa : Int) := of_decide_eq_true (by first | (with_reducible assumption) | assumption)
  have q119 : aa < (l1.length : Int) := of_decide_eq_true (by first | (with_reducible assumption) | assumption)
  obtain ⟨ad119, e119, af⟩ := Kd.at_int HR1.out aa p119 q119
  obtain rfl : ad117 = ad119 := (by injection e119)
  replace p119 := eq_true p119
  replace q119 := eq_true q119
  go_wp2
  repeat (go_quiet (fail); try go_wp2)
  go_roundg ao
  case measure => have := am.out; have := ap.out; omega
  case rel => exact ⟨(wrap64 (aa + 1)), (by first | rfl | (simp; done) | (simp [*]; done)), H', ⟨by have := am.out; have := ap.out; omega⟩, by repeat (first | exact Drawn0.refl _ | apply Drawn0.step)⟩
 replace c5 := Bool.eq_false_iff.mpr c5
 subst c5
 have H1 : (if (l0.length : Int) < (l1.length : Int) then (some (-1)) else (if (l0.length : Int) > (l1.length : Int) then (some 1) else (some 0))) = some r := by rw [if_neg (show ¬ (false = true) by decide)] at H; exact H
 clear H
 have H := H1
 clear H1
 by_cases c11 : (l0.length : Int) < (l1.length : Int)
 ·
  rw [if_pos c11] at H
  have ak : decide ((l0.length : Int) < (l1.length : Int)) = true := decide_eq_true c11
  have aj : decide (l0.length < l1.length) = true := decide_eq_true (Int.ofNat_lt.mp c11)
  clear c11
  obtain rfl := Option.some.inj H
  go_wp2
  repeat (go_quiet (fail); try go_wp2)
  go_ret
  exact ⟨by first | rfl | (simp; done) | (simp [*]; done), by repeat (first | exact Drawn0.refl _ | apply Drawn0.step)⟩
 rw [if_neg c11] at H
 have ak : decide ((l0.length : Int) < (l1.length : Int)) = false := decide_eq_false c11
 have aj : decide (l0.length < l1.length) = false := decide_eq_false (fun h => c11 (Int.ofNat_lt.mpr h))
 clear c11
 by_cases c12 : (l0.length : Int) > (l1.length : Int)
 ·
  rw [if_pos c12] at H
  have ai : decide ((l1.length : Int) < (l0.length : Int)) = true := decide_eq_true c12
  have ah : decide (l1.length < l0.length) = true := decide_eq_true (Int.ofNat_lt.mp c12)
  clear c12
  obtain rfl := Option.some.inj H
  go_wp2
  repeat (go_quiet (fail); try go_wp2)
  go_ret
  exact ⟨by first | rfl | (simp; done) | (simp [*]; done), by repeat (first | exact Drawn0.refl _ | apply Drawn0.step)⟩
 rw [if_neg c12] at H
 have ai : decide ((l1.length : Int) < (l0.length : Int)) = false := decide_eq_false c12
 have ah : decide (l1.length < l0.length) = false := decide_eq_false (fun h => c12 (Int.ofNat_lt.mpr h))
 clear c12
 obtain rfl := Option.some.inj H
 go_wp2
 repeat (go_quiet (fail); try go_wp2)
 go_ret
 exact ⟨by first | rfl | (simp; done) | (simp [*]; done), by repeat (first | exact Drawn0.refl _ | apply Drawn0.step)⟩
end Go.Proofs.Ytcdjeimjbbknjaa.PAll
namespace Go.Proofs.Ytcdjeimjbbknjaa.PAll
open Go.RowKit Go.Proofs.YtcdjeimjbbknjaaW.PrintWords Go.Proofs.YtcdjeimjbbknjaaW.PrintLast Go.Proofs.YtcdjeimjbbknjaaW.PrintMore
attribute [local go_sem] max2_int min2_int max_two min_two max_three min_three max_four min_four   -- for this text's walks alone
set_option linter.unusedVariables false
set_option linter.unusedSimpArgs false

mutual
def wordbookref15_Put.l0 : Nat → List (List Int) → List Int → List (List Int) → Bool → Int → Option ((List (List Int)))
  | 0, _, _, _, _, _ => none
  | k + 1, x0, x1, x5, x6, x7 => if x7 < (x0.length : Int) then (if 0 ≤ x7 then ((wordbookref06_Order.f k (rd_L2 x0 x7) x1).bind fun t124 => (if x6 = true then (wordbookref15_Put.j1 k x0 x1 x5 x6 x7 t124 false) else (wordbookref15_Put.j1 k x0 x1 x5 x6 x7 t124 (decide (t124 ≥ 0))))) else (none)) else (if x6 = true then (some x5) else (if x5.length < 5864062014805 then (some (x5 ++ [x1])) else (none)))
def wordbookref15_Put.j1 : Nat → List (List Int) → List Int → List (List Int) → Bool → Int → Int → Bool → Option ((List (List Int)))
  | 0, _, _, _, _, _, _, _ => none
  | k + 1, x0, x1, x5, x6, x7, x8, x26 => if x26 = true then (if x5.length < 5864062014805 then ((some (x5 ++ [x1] : List (List Int))).bind fun y125 => (if x8 = 0 then (wordbookref15_Put.l0 k x0 x1 y125 true (wrap64 (x7 + 1))) else (if 0 ≤ x7 then (if x7 < (x0.length : Int) then (if y125.length < 5864062014805 then (wordbookref15_Put.l0 k x0 x1 (y125 ++ [rd_L2 x0 x7]) true (wrap64 (x7 + 1))) else (none)) else (none)) else (none)))) else (none)) else (if x8 = 0 then (wordbookref15_Put.l0 k x0 x1 x5 x6 (wrap64 (x7 + 1))) else (if 0 ≤ x7 then (if x7 < (x0.length : Int) then (if x5.length < 5864062014805 then (wordbookref15_Put.l0 k x0 x1 (x5 ++ [rd_L2 x0 x7]) x6 (wrap64 (x7 + 1))) else (none)) else (none)) else (none)))
end
def wordbookref15_Put.f (k : Nat) (l0 : List (List Int)) (l1 : List Int) : Option ((List (List Int))) := wordbookref15_Put.l0 k l0 l1 ([] : List (List Int)) false 0
set_option maxHeartbeats 8000000 in
set_option maxRecDepth 100000 in
theorem wordbookref15_Put.calls (k : Nat) (P0_ : Nat → Prop) (A0 : Option Addr) (c0 : Nat) (l0 : List (List Int)) (P1_ : Nat → Prop) (A1 : Option Addr) (c1 : Nat) (l1 : List Int) (r : List (List Int)) (w : World) (hs0 : Kd.V (Kd.slice 3 (Kd.int .i64)) 22 w w.heap.size (fun k_ => P0_ k_) (.slice A0 l0.length c0) l0) (hs1 : Kd.V (Kd.int .i64) 3 w w.heap.size (fun k_ => P1_ k_) (.slice A1 l1.length c1) l1) (h : wordbookref15_Put.f k l0 l1 = some r) :
    Calls Try.prog 34 #[.slice A0 l0.length c0, .slice A1 l1.length c1] w fun e w' => ∃ v0_ : Value, e = .returned (v0_) ∧ Kd.N (Kd.slice 3 (Kd.int .i64)) 22 w' w.heap.size (fun k_ => ((P0_ k_ ∨ P1_ k_) ∨ w.heap.size ≤ k_)) v0_ r ∧ Below w.heap.size w w' := by
 have HO0 := Aside0.mk (show Kd.V (Kd.slice 3 (Kd.int .i64)) 22 w w.heap.size (fun k_ => ((P0_ k_ ∨ P1_ k_) ∨ w.heap.size ≤ k_)) (.slice A0 l0.length c0) l0 from Kd.V_mono hs0 (fun k_ hk => .inl (.inl hk)))
 have HO1 := Aside0.mk (show Kd.V (Kd.int .i64) 3 w w.heap.size (fun k_ => ((P0_ k_ ∨ P1_ k_) ∨ w.heap.size ≤ k_)) (.slice A1 l1.length c1) l1 from Kd.V_mono hs1 (fun k_ hk => .inl (.inr hk)))
 have HB := Aside0.mk (Below.refl w.heap.size w)
 have H : (wordbookref15_Put.l0 k l0 l1 ([] : List (List Int)) false 0) = some r := h
 clear h
 have H' := Aside0.mk H
 clear H
 go_enter Try.func34, Try.ntmps34
 go_wp2
 go_loopg [5, 6, 7] k (fun kq v5 v6 v7 w' => ∃ (ad : List (List Int)) (ae : Bool) (aa : Int), v6 = .bool ae ∧ v7 = .int .i64 aa ∧ Aside0 (wordbookref15_Put.l0 kq l0 l1 ad ae aa = some r) ∧ Aside0 (kq ≤ k) ∧ Aside0 (Kd.V (Kd.slice 3 (Kd.int .i64)) 22 w' w.heap.size (fun k_ => ((P0_ k_ ∨ P1_ k_) ∨ w.heap.size ≤ k_) ∧ some k_ ≠ (v5 : Value).ownBlock) (.slice A0 l0.length c0) l0) ∧ Aside0 (Kd.V (Kd.int .i64) 3 w' w.heap.size (fun k_ => ((P0_ k_ ∨ P1_ k_) ∨ w.heap.size ≤ k_) ∧ some k_ ≠ (v5 : Value).ownBlock) (.slice A1 l1.length c1) l1) ∧ Aside0 (Kd.N (Kd.slice 3 (Kd.int .i64)) 22 w' w.heap.size (fun k_ => ((P0_ k_ ∨ P1_ k_) ∨ w.heap.size ≤ k_)) v5 ad) ∧ Aside0 (Below w.heap.size w w'))
 case atStart => exact ⟨(([] : List (List Int))), (false), (0), (by first | rfl | (simp; done) | (simp [*]; done)), (by first | rfl | (simp; done) | (simp [*]; done)), H', ⟨Nat.le_refl _⟩, ⟨by exact Kd.V_mono HO0.out (fun _ hk => ⟨hk, (by simp [Value.ownBlock])⟩)⟩, ⟨by exact Kd.V_mono HO1.out (fun _ hk => ⟨hk, (by simp [Value.ownBlock])⟩)⟩, ⟨by first | exact Kd.S_nil _ _ _ _ _ | exact Kd.N_nil _ _ _ _ _ | exact Kd.V_nil _ _ _ _ _ | exact Kd.Q_nil _ _ _ _ _ | exact Kd.R_nil _ _ _ _ _⟩, ⟨HB.out⟩⟩
 clear H'
 (try clear c1); (try clear p2)
 obtain ⟨ad, ae, aa, rfl, rfl, HA, ao, ab, ac, af, HB⟩ := hrel
 cases gk with
 | zero => exact absurd HA.out (by simp [wordbookref15_Put.l0])
 | succ k1 => ?_
 have H := HA.out
 clear HA
 simp only [wordbookref15_Put.l0] at H
 by_cases c3 : aa < (l0.length : Int)
 ·
  rw [if_pos c3] at H
  have ax : decide (aa < (l0.length : Int)) = true := decide_eq_true c3
  clear c3
  have c4 : 0 ≤ aa := Classical.byContradiction fun c_ => by rw [if_neg c_] at H; exact absurd H (by simp)
  rw [if_pos c4] at H
  have aE : decide (0 ≤ aa) = true := decide_eq_true c4
  clear c4
  replace H := Option.bind_eq_some_iff.mp H
  obtain ⟨t124, A50, H⟩ := H
  replace H : (if ae = true then (wordbookref15_Put.j1 k1 l0 l1 ad ae aa t124 false) else (wordbookref15_Put.j1 k1 l0 l1 ad ae aa t124 (decide (t124 ≥ 0)))) = some r := H
  have A5 := Aside0.mk A50
  clear A50
  have HC6 := Aside0.mk H
  clear H
  have p123 : 0 ≤ (aa : Int) := of_decide_eq_true (by first | (with_reducible assumption) | assumption)
  have q123 : aa < (l0.length : Int) := of_decide_eq_true (by first | (with_reducible assumption) | assumption)
  obtain ⟨ad123, A123_0, c123_0, e123, am, hl123_0, hi123_0⟩ := at_L2 (Kd.V_reads' ab.out).2.2 aa p123 q123
  cases e123
  obtain ⟨ce123, hce123, hMe123, hcc123⟩ := Kd.V_get ab.out [] aa p123 (by first | exact q123 | exact of_decide_eq_true (by first | (with_reducible assumption) | assumption) | (have e_ := (Kd.V_reads' ab.out).1; omega))
  obtain ⟨ua123_0, uc123_0, rfl, ul123_0, ge123_0⟩ := Kd.FK_slice_open hMe123
  have hv123_0 := hcc123 0 _ rfl
  rw [Nat.add_zero, show ((Kd.slice 3 (Kd.int .i64))).sz = 1 from rfl, Nat.mul_one] at hv123_0
  replace hv123_0 := Option.some.inj (hv123_0.symm.trans am)
  injection hv123_0 with hva_ hvn_ hvc_
  rw [hva_] at ge123_0
  rw [hvc_] at ul123_0
  have HL123_0 := Aside0.mk (show Kd.V (Kd.int .i64) 3 _ w.heap.size _ _ (rd_L2 l0 aa) from Kd.V_mk ul123_0 ge123_0)
  clear hva_ hvn_ hvc_ ge123_0 ul123_0
  clear hcc123 hce123
  have HR123_0 := Aside0.mk hi123_0
  have HC123_0 := Aside0.mk hl123_0
  clear hi123_0 hl123_0
  replace p123 := eq_true p123
  replace q123 := eq_true q123
  go_upto_region 7 with (first | ((with_reducible refine gate_callee (f := 37) rfl ?_); refine goesL_ (some 20) rfl rfl Try.func37 (by kernel_rfl) rfl #[.slice A123_0 (rd_L2 l0 aa).length c123_0, .slice A1 l1.length c1] rfl (by (try simp only [List.map_toArray, List.map_cons, List.map_nil]); first | done | rfl | (simp only [List.length_drop, List.length_take]; rfl)) ?_; (with_reducible refine (wordbookref06_Order.calls k1 _ _ (rd_L2 l0 aa) _ _ l1 t124 _ ?side1 ?side2 ?side3 ?side4 A5.out).mono ?_); (case side1 => repeat (first | exact (by repeat (first | (with_reducible exact HR123_0.out) | (with_reducible refine Kd.C_alloc ?_ _) | (with_reducible refine Kd.C_drewN ?_ _) | (with_reducible refine Kd.C_drew ?_) | exact HR123_0.out)) | (with_reducible refine Kd.C_alloc ?_ _) | (with_reducible refine Kd.C_drewN ?_ _) | (with_reducible refine Kd.C_drew ?_))); (case side2 => exact HC123_0.out); (case side3 => repeat (first | exact (Kd.V_reads' ac.out).2.2 | (with_reducible refine Kd.C_alloc ?_ _) | (with_reducible refine Kd.C_drewN ?_ _) | (with_reducible refine Kd.C_drew ?_))); (case side4 => exact (Kd.V_reads' ac.out).2.1); rintro e w' ⟨rfl, ⟨nd, rfl⟩⟩; refine ⟨_, rfl, ?_⟩))
  (try simp only [Act.put, List.setIfInBounds_toArray, List.set_cons_zero, List.set_cons_succ])
  go_cut [26] (fun v26 wc => ∃ (kq : Nat) (ah : Bool), v26 = .bool ah ∧ Aside0 (wordbookref15_Put.j1 kq l0 l1 ad ae aa t124 ah = some r) ∧ Aside0 (kq ≤ k1) ∧ Aside0 (Kd.V (Kd.slice 3 (Kd.int .i64)) 22 wc w.heap.size (fun k_ => ((P0_ k_ ∨ P1_ k_) ∨ w.heap.size ≤ k_) ∧ some k_ ≠ (u5 : Value).ownBlock) (.slice (some ad123) l0.length c0) l0) ∧ Aside0 (Kd.V (Kd.int .i64) 3 wc w.heap.size (fun k_ => ((P0_ k_ ∨ P1_ k_) ∨ w.heap.size ≤ k_) ∧ some k_ ≠ (u5 : Value).ownBlock) (.slice A1 l1.length c1) l1) ∧ Aside0 (Kd.N (Kd.slice 3 (Kd.int .i64)) 22 wc w.heap.size (fun k_ => ((P0_ k_ ∨ P1_ k_) ∨ w.heap.size ≤ k_)) u5 ad) ∧ Aside0 (Kd.C (Kd.int .i64) wc A123_0 (rd_L2 l0 aa).length (rd_L2 l0 aa)) ∧ Aside0 (Below w.heap.size w wc))
  case first =>
   have H := HC6.out
   clear HC6
   by_cases c7 : ae = true
   ·
    subst c7
    have H1 : (wordbookref15_Put.j1 k1 l0 l1 ad true aa t124 false) = some r := by rw [if_pos rfl] at H; exact H
    clear H
    have H := H1
    clear H1
    have H' := Aside0.mk H
    clear H
    go_wp2
    go_meet
    case rel => exact ⟨_, (false), (by first | rfl | (simp; done) | (simp [*]; done)), H', ⟨by have := ao.out; first | omega | exact Nat.le_refl _⟩, ⟨by (with_reducible repeat (first | apply Kd.V_alloc | apply Kd.V_drewN | apply Kd.V_drew)); exact ab.out⟩, ⟨by (with_reducible repeat (first | apply Kd.V_alloc | apply Kd.V_drewN | apply Kd.V_drew)); exact ac.out⟩, ⟨by (with_reducible repeat (first | apply Kd.N_alloc | apply Kd.N_drewN | apply Kd.N_drew)); exact af.out⟩, ⟨by repeat (first | (with_reducible exact HR123_0.out) | (with_reducible refine Kd.C_alloc ?_ _) | (with_reducible refine Kd.C_drewN ?_ _) | (with_reducible refine Kd.C_drew ?_) | exact HR123_0.out)⟩, ⟨by repeat (first | (with_reducible first | exact HB.out | apply below_alloc | apply pw_below_drewN | apply below_drew1) | exact HB.out)⟩⟩
   replace c7 := Bool.eq_false_iff.mpr c7
   subst c7
   have H1 : (wordbookref15_Put.j1 k1 l0 l1 ad false aa t124 (decide (t124 ≥ 0))) = some r := by rw [if_neg (show ¬ (false = true) by decide)] at H; exact H
   clear H
   have H := H1
   clear H1
   have H' := Aside0.mk H
   clear H
   go_wp2
   go_meet
   case rel => exact ⟨_, (decide (t124 ≥ 0)), (by first | rfl | (simp; done) | (simp [*]; done)), H', ⟨by have := ao.out; first | omega | exact Nat.le_refl _⟩, ⟨by (with_reducible repeat (first | apply Kd.V_alloc | apply Kd.V_drewN | apply Kd.V_drew)); exact ab.out⟩, ⟨by (with_reducible repeat (first | apply Kd.V_alloc | apply Kd.V_drewN | apply Kd.V_drew)); exact ac.out⟩, ⟨by (with_reducible repeat (first | apply Kd.N_alloc | apply Kd.N_drewN | apply Kd.N_drew)); exact af.out⟩, ⟨by repeat (first | (with_reducible exact HR123_0.out) | (with_reducible refine Kd.C_alloc ?_ _) | (with_reducible refine Kd.C_drewN ?_ _) | (with_reducible refine Kd.C_drew ?_) | exact HR123_0.out)⟩, ⟨by repeat (first | (with_reducible first | exact HB.out | apply below_alloc | apply pw_below_drewN | apply below_drew1) | exact HB.out)⟩⟩
  clear HC6
  (try clear c1); (try clear p1); (try clear q1); (try clear hx1); (try clear p2); (try clear c3); (try clear ax); (try clear c4); (try clear aE); (try clear c7); (try clear am); (try clear p123); (try clear p2); (try clear q123)
  obtain ⟨kq, ah, rfl, HA, ar, ab, ac, af, HR123_0, HB⟩ := hcut
  cases kq with
  | zero => exact absurd HA.out (by simp [wordbookref15_Put.j1])
  | succ an => ?_
  have H := HA.out
  clear HA
  simp only [wordbookref15_Put.j1] at H
  by_cases c8 : ah = true
  ·
   subst c8
   have H1 : (if ad.length < 5864062014805 then ((some (ad ++ [l1] : List (List Int))).bind fun ag => (if t124 = 0 then (wordbookref15_Put.l0 an l0 l1 ag true (wrap64 (aa + 1))) else (if 0 ≤ aa then (if aa < (l0.length : Int) then (if ag.length < 5864062014805 then (wordbookref15_Put.l0 an l0 l1 (ag ++ [rd_L2 l0 aa]) true (wrap64 (aa + 1))) else (none)) else (none)) else (none)))) else (none)) = some r := by rw [if_pos rfl] at H; exact H
   clear H
   have H := H1
   clear H1
   have c9 : ad.length < 5864062014805 := Classical.byContradiction fun c_ => by rw [if_neg c_] at H; exact absurd H (by simp)
   rw [if_pos c9] at H
   have LMc9 := Aside0.mk c9
   clear c9
   obtain ⟨ag, hy125⟩ : ∃ y_ : List (List Int), y_ = (ad ++ [l1]) := ⟨_, rfl⟩
   replace H : (if t124 = 0 then (wordbookref15_Put.l0 an l0 l1 ag true (wrap64 (aa + 1))) else (if 0 ≤ aa then (if aa < (l0.length : Int) then (if ag.length < 5864062014805 then (wordbookref15_Put.l0 an l0 l1 (ag ++ [rd_L2 l0 aa]) true (wrap64 (aa + 1))) else (none)) else (none)) else (none))) = some r := by (have H2_ := (Option.bind_some _ _).symm.trans H; rw [hy125]; with_reducible exact H2_)
   have Ny125 := Aside0.mk hy125
   clear hy125
   by_cases c10 : t124 = 0
   ·
    rw [if_pos c10] at H
    have aC : (t124 == 0) = true := beq_iff_eq.mpr c10
    have aA : (t124 != 0) = false := bne_eq_false_iff_eq.mpr c10
    clear c10
    have H' := Aside0.mk H
    clear H
    go_wp2_with (first | ((with_reducible refine gate_builtin (b := .append) (xs := #[.tmp 27, .tmp 29]) rfl ?_); at_builtin; refine Kd.N_append (Kd.slice 3 (Kd.int .i64)) (w0 := w) w.heap.size rfl (.tmp 27) (.tmp 29) 23 22 (.slice none 0 0) 24 rfl Try.underlying23 info22 rfl (by decide) (by omega) u5 ad l1 [.slice A1 l1.length c1] (fun k_ => ((P0_ k_ ∨ P1_ k_) ∨ w.heap.size ≤ k_)) (fun k_ => ((fun k_ => ((P0_ k_ ∨ P1_ k_) ∨ w.heap.size ≤ k_))) k_ ∧ some k_ ≠ (u5 : Value).ownBlock) rfl rfl ?aP (fun _ hk => hk) ?aF ?aO ?aB ?aS ?aL ?_; (case aP => exact (Kd.FK_slice_mk (Kd.V_reads' (Kd.V_mono (ok' := (fun k_ => ((fun k_ => ((P0_ k_ ∨ P1_ k_) ∨ w.heap.size ≤ k_))) k_ ∧ some k_ ≠ (u5 : Value).ownBlock)) (ac.out) (fun k_ hk => ⟨hk.1, hk.2⟩))).2.1 (Kd.V_F (Kd.V_mono (ok' := (fun k_ => ((fun k_ => ((P0_ k_ ∨ P1_ k_) ∨ w.heap.size ≤ k_))) k_ ∧ some k_ ≠ (u5 : Value).ownBlock)) (ac.out) (fun k_ hk => ⟨hk.1, hk.2⟩))))); (case aB => exact HB.out); (case aF => exact (fun k_ hk => (.inr (Nat.le_trans (below_size HB.out) hk)))); (case aO => exact af.out); (case aS => exact (below_size HB.out)); (case aL => have := LMc9.out; omega); intro v126 w11 ho hb hg hat; rw [← Ny125.out] at ho; have al := Aside0.mk (Kd.V_afterv (ok := (fun k_ => ((P0_ k_ ∨ P1_ k_) ∨ w.heap.size ≤ k_))) ab.out hg hat); have ak := Aside0.mk (Kd.V_afterv (ok := (fun k_ => ((P0_ k_ ∨ P1_ k_) ∨ w.heap.size ≤ k_))) ac.out hg hat); have aj := Aside0.mk (hb); have ai := Aside0.mk (ho); clear ab; clear ac; clear HB; clear af; have ab := al; have ac := ak; have HB := aj; have HO127 := ai; clear al ak aj ai; clear ho hb hg hat))
    go_roundg an
    case measure => have := ao.out; have := ar.out; omega
    case rel => exact ⟨(ag), (true), (wrap64 (aa + 1)), (by first | rfl | (simp; done) | (simp [*]; done)), (by first | rfl | (simp; done) | (simp [*]; done)), H', ⟨by have := ao.out; have := ar.out; omega⟩, ⟨ab.out⟩, ⟨ac.out⟩, ⟨HO127.out⟩, ⟨HB.out⟩⟩
   rw [if_neg c10] at H
   have aC : (t124 == 0) = false := beq_eq_false_iff_ne.mpr c10
   have aA : (t124 != 0) = true := bne_iff_ne.mpr c10
   have c12 : 0 ≤ aa := Classical.byContradiction fun c_ => by rw [if_neg c_] at H; exact absurd H (by simp)
   rw [if_pos c12] at H
   have aJ : decide (0 ≤ aa) = true := decide_eq_true c12
   clear c12
   have c13 : aa < (l0.length : Int) := Classical.byContradiction fun c_ => by rw [if_neg c_] at H; exact absurd H (by simp)
   rw [if_pos c13] at H
   have aI : decide (aa < (l0.length : Int)) = true := decide_eq_true c13
   clear c13
   have c14 : ag.length < 5864062014805 := Classical.byContradiction fun c_ => by rw [if_neg c_] at H; exact absurd H (by simp)
   rw [if_pos c14] at H
   have LMc14 := Aside0.mk c14
   clear c14
   obtain ⟨av, hy129⟩ : ∃ y_ : List (List Int), y_ = (ag ++ [rd_L2 l0 aa]) := ⟨_, rfl⟩
   replace H : (wordbookref15_Put.l0 an l0 l1 av true (wrap64 (aa + 1))) = some r := by (rw [hy129]; with_reducible exact H)
   have Ny129 := Aside0.mk hy129
   clear hy129
   have H' := Aside0.mk H
   clear H
   go_wp2_with (first | ((with_reducible refine gate_builtin (b := .append) (xs := #[.tmp 27, .tmp 29]) rfl ?_); at_builtin; refine Kd.N_append (Kd.slice 3 (Kd.int .i64)) (w0 := w) w.heap.size rfl (.tmp 27) (.tmp 29) 23 22 (.slice none 0 0) 24 rfl Try.underlying23 info22 rfl (by decide) (by omega) u5 ad l1 [.slice A1 l1.length c1] (fun k_ => ((P0_ k_ ∨ P1_ k_) ∨ w.heap.size ≤ k_)) (fun k_ => ((fun k_ => ((P0_ k_ ∨ P1_ k_) ∨ w.heap.size ≤ k_))) k_ ∧ some k_ ≠ (u5 : Value).ownBlock) rfl rfl ?aP (fun _ hk => hk) ?aF ?aO ?aB ?aS ?aL ?_; (case aP => exact (Kd.FK_slice_mk (Kd.V_reads' (Kd.V_mono (ok' := (fun k_ => ((fun k_ => ((P0_ k_ ∨ P1_ k_) ∨ w.heap.size ≤ k_))) k_ ∧ some k_ ≠ (u5 : Value).ownBlock)) (ac.out) (fun k_ hk => ⟨hk.1, hk.2⟩))).2.1 (Kd.V_F (Kd.V_mono (ok' := (fun k_ => ((fun k_ => ((P0_ k_ ∨ P1_ k_) ∨ w.heap.size ≤ k_))) k_ ∧ some k_ ≠ (u5 : Value).ownBlock)) (ac.out) (fun k_ hk => ⟨hk.1, hk.2⟩))))); (case aB => exact HB.out); (case aF => exact (fun k_ hk => (.inr (Nat.le_trans (below_size HB.out) hk)))); (case aO => exact af.out); (case aS => exact (below_size HB.out)); (case aL => have := LMc9.out; omega); intro v126 w15 ho hb hg hat; rw [← Ny125.out] at ho; have al := Aside0.mk (Kd.V_afterv (ok := (fun k_ => ((P0_ k_ ∨ P1_ k_) ∨ w.heap.size ≤ k_))) ab.out hg hat); have ak := Aside0.mk (Kd.V_afterv (ok := (fun k_ => ((P0_ k_ ∨ P1_ k_) ∨ w.heap.size ≤ k_))) ac.out hg hat); have aj := Aside0.mk (hb); have ai := Aside0.mk (ho); clear ab; clear ac; clear HB; clear af; have ab := al; have ac := ak; have HB := aj; have HO127 := ai; clear al ak aj ai; clear ho hb hg hat; have p128 : 0 ≤ (aa : Int) := of_decide_eq_true (by first | (with_reducible assumption) | assumption); have q128 : aa < (l0.length : Int) := of_decide_eq_true (by first | (with_reducible assumption) | assumption); obtain ⟨ad128, A128_0, c128_0, e128, aq, hl128_0, hi128_0⟩ := at_L2 (Kd.V_reads' ab.out).2.2 aa p128 q128; obtain rfl : ad123 = ad128 := (by injection e128); obtain ⟨ce128, hce128, hMe128, hcc128⟩ := Kd.V_get ab.out [] aa p128 (by first | exact q128 | exact of_decide_eq_true (by first | (with_reducible assumption) | assumption) | (have e_ := (Kd.V_reads' ab.out).1; omega)); obtain ⟨ua128_0, uc128_0, rfl, ul128_0, ge128_0⟩ := Kd.FK_slice_open hMe128; have hv128_0 := hcc128 0 _ rfl; rw [Nat.add_zero, show ((Kd.slice 3 (Kd.int .i64))).sz = 1 from rfl, Nat.mul_one] at hv128_0; replace hv128_0 := Option.some.inj (hv128_0.symm.trans aq); injection hv128_0 with hva_ hvn_ hvc_; rw [hva_] at ge128_0; rw [hvc_] at ul128_0; have HL128_0 := Aside0.mk (show Kd.V (Kd.int .i64) 3 _ w.heap.size _ _ (rd_L2 l0 aa) from Kd.V_mk ul128_0 ge128_0); clear hva_ hvn_ hvc_ ge128_0 ul128_0; clear hcc128 hce128; have HR128_0 := Aside0.mk hi128_0; have HC128_0 := Aside0.mk hl128_0; clear hi128_0 hl128_0; replace p128 := eq_true p128; replace q128 := eq_true q128) | ((with_reducible refine gate_builtin (b := .append) (xs := #[.tmp 33, .tmp 38]) rfl ?_); at_builtin; refine Kd.N_append (Kd.slice 3 (Kd.int .i64)) (w0 := w) w.heap.size rfl (.tmp 33) (.tmp 38) 23 22 (.slice none 0 0) 24 rfl Try.underlying23 info22 rfl (by decide) (by omega) v126 ag (rd_L2 l0 aa) [.slice A128_0 (rd_L2 l0 aa).length c128_0] (fun k_ => ((P0_ k_ ∨ P1_ k_) ∨ w.heap.size ≤ k_)) (fun k_ => ((fun k_ => ((P0_ k_ ∨ P1_ k_) ∨ w.heap.size ≤ k_))) k_ ∧ some k_ ≠ (v126 : Value).ownBlock) rfl rfl ?aP (fun _ hk => hk) ?aF ?aO ?aB ?aS ?aL ?_; (case aP => exact (Kd.FK_slice_mk (Kd.V_reads' (Kd.V_mono (ok' := (fun k_ => ((fun k_ => ((P0_ k_ ∨ P1_ k_) ∨ w.heap.size ≤ k_))) k_ ∧ some k_ ≠ (v126 : Value).ownBlock)) (HL128_0.out) (fun k_ hk => ⟨hk.1, hk.2⟩))).2.1 (Kd.V_F (Kd.V_mono (ok' := (fun k_ => ((fun k_ => ((P0_ k_ ∨ P1_ k_) ∨ w.heap.size ≤ k_))) k_ ∧ some k_ ≠ (v126 : Value).ownBlock)) (HL128_0.out) (fun k_ hk => ⟨hk.1, hk.2⟩))))); (case aB => exact HB.out); (case aF => exact (fun k_ hk => (.inr (Nat.le_trans (below_size HB.out) hk)))); (case aO => exact HO127.out); (case aS => exact (below_size HB.out)); (case aL => have := LMc14.out; omega); intro v130 w16 ho hb hg hat; rw [← Ny129.out] at ho; have al := Aside0.mk (Kd.V_afterv (ok := (fun k_ => ((P0_ k_ ∨ P1_ k_) ∨ w.heap.size ≤ k_))) ab.out hg hat); have ak := Aside0.mk (Kd.V_afterv (ok := (fun k_ => ((P0_ k_ ∨ P1_ k_) ∨ w.heap.size ≤ k_))) ac.out hg hat); have aj := Aside0.mk (Kd.V_afterv (ok := (fun k_ => ((P0_ k_ ∨ P1_ k_) ∨ w.heap.size ≤ k_))) HL128_0.out hg hat); have ai := Aside0.mk (hb); have aw := Aside0.mk (ho); clear ab; clear ac; clear HL128_0; clear HB; clear HO127; have ab := al; have ac := ak; have HL128_0 := aj; have HB := ai; have HO131 := aw; clear al ak aj ai aw; clear ho hb hg hat))
   go_roundg an
   case measure => have := ao.out; have := ar.out; omega
   case rel => exact ⟨(av), (true), (wrap64 (aa + 1)), (by first | rfl | (simp; done) | (simp [*]; done)), (by first | rfl | (simp; done) | (simp [*]; done)), H', ⟨by have := ao.out; have := ar.out; omega⟩, ⟨ab.out⟩, ⟨ac.out⟩, ⟨HO131.out⟩, ⟨HB.out⟩⟩
  replace c8 := Bool.eq_false_iff.mpr c8
  subst c8
  have H1 : (if t124 = 0 then (wordbookref15_Put.l0 an l0 l1 ad ae (wrap64 (aa + 1))) else (if 0 ≤ aa then (if aa < (l0.length : Int) then (if ad.length < 5864062014805 then (wordbookref15_Put.l0 an l0 l1 (ad ++ [rd_L2 l0 aa]) ae (wrap64 (aa + 1))) else (none)) else (none)) else (none))) = some r := by rw [if_neg (show ¬ (false = true) by decide)] at H; exact H
  clear H
  have H := H1
  clear H1
  by_cases c17 : t124 = 0
  ·
   rw [if_pos c17] at H
   have az : (t124 == 0) = true := beq_iff_eq.mpr c17
   have ay : (t124 != 0) = false := bne_eq_false_iff_eq.mpr c17
   clear c17
   have H' := Aside0.mk H
   clear H
   go_wp2
   go_roundg an
   case measure => have := ao.out; have := ar.out; omega
   case rel => exact ⟨(ad), (ae), (wrap64 (aa + 1)), (by first | rfl | (simp; done) | (simp [*]; done)), (by first | rfl | (simp; done) | (simp [*]; done)), H', ⟨by have := ao.out; have := ar.out; omega⟩, ⟨ab.out⟩, ⟨ac.out⟩, ⟨af.out⟩, ⟨HB.out⟩⟩
  rw [if_neg c17] at H
  have az : (t124 == 0) = false := beq_eq_false_iff_ne.mpr c17
  have ay : (t124 != 0) = true := bne_iff_ne.mpr c17
  have c18 : 0 ≤ aa := Classical.byContradiction fun c_ => by rw [if_neg c_] at H; exact absurd H (by simp)
  rw [if_pos c18] at H
  have aH : decide (0 ≤ aa) = true := decide_eq_true c18
  clear c18
  have c19 : aa < (l0.length : Int) := Classical.byContradiction fun c_ => by rw [if_neg c_] at H; exact absurd H (by simp)
  rw [if_pos c19] at H
  have aG : decide (aa < (l0.length : Int)) = true := decide_eq_true c19
  clear c19
  have c20 : ad.length < 5864062014805 := Classical.byContradiction fun c_ => by rw [if_neg c_] at H; exact absurd H (by simp)
  rw [if_pos c20] at H
  have LMc20 := Aside0.mk c20
  clear c20
  obtain ⟨au, hy133⟩ : ∃ y_ : List (List Int), y_ = (ad ++ [rd_L2 l0 aa]) := ⟨_, rfl⟩
  replace H : (wordbookref15_Put.l0 an l0 l1 au ae (wrap64 (aa + 1))) = some r := by (rw [hy133]; with_reducible exact H)
  have Ny133 := Aside0.mk hy133
  clear hy133
  have H' := Aside0.mk H
  clear H
  have p132 : 0 ≤ (aa : Int) := of_decide_eq_true (by first | (with_reducible assumption) | assumption)
  have q132 : aa < (l0.length : Int) := of_decide_eq_true (by first | (with_reducible assumption) | assumption)
  obtain ⟨ad132, A132_0, c132_0, e132, ap, hl132_0, hi132_0⟩ := at_L2 (Kd.V_reads' ab.out).2.2 aa p132 q132
  obtain rfl : ad123 = ad132 := (by injection e132)
  obtain ⟨ce132, hce132, hMe132, hcc132⟩ := Kd.V_get ab.out [] aa p132 (by first | exact q132 | exact of_decide_eq_true (by first | (with_reducible assumption) | assumption) | (have e_ := (Kd.V_reads' ab.out).1; omega))
  obtain ⟨ua132_0, uc132_0, rfl, ul132_0, ge132_0⟩ := Kd.FK_slice_open hMe132
  have hv132_0 := hcc132 0 _ rfl
  rw [Nat.add_zero, show ((Kd.slice 3 (Kd.int .i64))).sz = 1 from rfl, Nat.mul_one] at hv132_0
  replace hv132_0 := Option.some.inj (hv132_0.symm.trans ap)
  injection hv132_0 with hva_ hvn_ hvc_
  rw [hva_] at ge132_0
  rw [hvc_] at ul132_0
  have HL132_0 := Aside0.mk (show Kd.V (Kd.int .i64) 3 _ w.heap.size _ _ (rd_L2 l0 aa) from Kd.V_mk ul132_0 ge132_0)
  clear hva_ hvn_ hvc_ ge132_0 ul132_0
  clear hcc132 hce132
  have HR132_0 := Aside0.mk hi132_0
  have HC132_0 := Aside0.mk hl132_0
  clear hi132_0 hl132_0
  replace p132 := eq_true p132
  replace q132 := eq_true q132
  go_wp2_with (first | ((with_reducible refine gate_builtin (b := .append) (xs := #[.tmp 33, .tmp 38]) rfl ?_); at_builtin; refine Kd.N_append (Kd.slice 3 (Kd.int .i64)) (w0 := w) w.heap.size rfl (.tmp 33) (.tmp 38) 23 22 (.slice none 0 0) 24 rfl Try.underlying23 info22 rfl (by decide) (by omega) u5 ad (rd_L2 l0 aa) [.slice A132_0 (rd_L2 l0 aa).length c132_0] (fun k_ => ((P0_ k_ ∨ P1_ k_) ∨ w.heap.size ≤ k_)) (fun k_ => ((fun k_ => ((P0_ k_ ∨ P1_ k_) ∨ w.heap.size ≤ k_))) k_ ∧ some k_ ≠ (u5 : Value).ownBlock) rfl rfl ?aP (fun _ hk => hk) ?aF ?aO ?aB ?aS ?aL ?_; (case aP => exact (Kd.FK_slice_mk (Kd.V_reads' (Kd.V_mono (ok' := (fun k_ => ((fun k_ => ((P0_ k_ ∨ P1_ k_) ∨ w.heap.size ≤ k_))) k_ ∧ some k_ ≠ (u5 : Value).ownBlock)) (HL132_0.out) (fun k_ hk => ⟨hk.1, hk.2⟩))).2.1 (Kd.V_F (Kd.V_mono (ok' := (fun k_ => ((fun k_ => ((P0_ k_ ∨ P1_ k_) ∨ w.heap.size ≤ k_))) k_ ∧ some k_ ≠ (u5 : Value).ownBlock)) (HL132_0.out) (fun k_ hk => ⟨hk.1, hk.2⟩))))); (case aB => exact HB.out); (case aF => exact (fun k_ hk => (.inr (Nat.le_trans (below_size HB.out) hk)))); (case aO => exact af.out); (case aS => exact (below_size HB.out)); (case aL => have := LMc20.out; omega); intro v134 w21 ho hb hg hat; rw [← Ny133.out] at ho; have al := Aside0.mk (Kd.V_afterv (ok := (fun k_ => ((P0_ k_ ∨ P1_ k_) ∨ w.heap.size ≤ k_))) ab.out hg hat); have ak := Aside0.mk (Kd.V_afterv (ok := (fun k_ => ((P0_ k_ ∨ P1_ k_) ∨ w.heap.size ≤ k_))) ac.out hg hat); have aj := Aside0.mk (Kd.V_afterv (ok := (fun k_ => ((P0_ k_ ∨ P1_ k_) ∨ w.heap.size ≤ k_))) HL132_0.out hg hat); have ai := Aside0.mk (hb); have aw := Aside0.mk (ho); clear ab; clear ac; clear HL132_0; clear HB; clear af; have ab := al; have ac := ak; have HL132_0 := aj; have HB := ai; have HO135 := aw; clear al ak aj ai aw; clear ho hb hg hat))
  go_roundg an
  case measure => have := ao.out; have := ar.out; omega
  case rel => exact ⟨(au), (ae), (wrap64 (aa + 1)), (by first | rfl | (simp; done) | (simp [*]; done)), (by first | rfl | (simp; done) | (simp [*]; done)), H', ⟨by have := ao.out; have := ar.out; omega⟩, ⟨ab.out⟩, ⟨ac.out⟩, ⟨HO135.out⟩, ⟨HB.out⟩⟩
 rw [if_neg c3] at H
 have ax : decide (aa < (l0.length : Int)) = false := decide_eq_false c3
 clear c3
 by_cases c22 : ae = true
 ·
  subst c22
  have H1 : (some ad) = some r := by rw [if_pos rfl] at H; exact H
  clear H
  have H := H1
  clear H1
  obtain rfl := Option.some.inj H
  go_wp2
  go_ret
  exact ⟨_, by first | rfl | (simp [errW_none, errW_some] <;> rfl) | (simp [*, errW_none, errW_some] <;> rfl), by exact af.out, by exact HB.out⟩
 replace c22 := Bool.eq_false_iff.mpr c22
 subst c22
 have H1 : (if ad.length < 5864062014805 then (some (ad ++ [l1])) else (none)) = some r := by rw [if_neg (show ¬ (false = true) by decide)] at H; exact H
 clear H
 have H := H1
 clear H1
 have c23 : ad.length < 5864062014805 := Classical.byContradiction fun c_ => by rw [if_neg c_] at H; exact absurd H (by simp)
 rw [if_pos c23] at H
 have LMc23 := Aside0.mk c23
 clear c23
 obtain ⟨aD, hy120⟩ : ∃ y_ : List (List Int), y_ = (ad ++ [l1]) := ⟨_, rfl⟩
 replace H : (some aD) = some r := by (rw [hy120]; with_reducible exact H)
 have Ny120 := Aside0.mk hy120
 clear hy120
 obtain rfl := Option.some.inj H
 go_wp2_with (first | ((with_reducible refine gate_builtin (b := .append) (xs := #[.tmp 42, .tmp 44]) rfl ?_); at_builtin; refine Kd.N_append (Kd.slice 3 (Kd.int .i64)) (w0 := w) w.heap.size rfl (.tmp 42) (.tmp 44) 23 22 (.slice none 0 0) 24 rfl Try.underlying23 info22 rfl (by decide) (by omega) u5 ad l1 [.slice A1 l1.length c1] (fun k_ => ((P0_ k_ ∨ P1_ k_) ∨ w.heap.size ≤ k_)) (fun k_ => ((fun k_ => ((P0_ k_ ∨ P1_ k_) ∨ w.heap.size ≤ k_))) k_ ∧ some k_ ≠ (u5 : Value).ownBlock) rfl rfl ?aP (fun _ hk => hk) ?aF ?aO ?aB ?aS ?aL ?_; (case aP => exact (Kd.FK_slice_mk (Kd.V_reads' (Kd.V_mono (ok' := (fun k_ => ((fun k_ => ((P0_ k_ ∨ P1_ k_) ∨ w.heap.size ≤ k_))) k_ ∧ some k_ ≠ (u5 : Value).ownBlock)) (ac.out) (fun k_ hk => ⟨hk.1, hk.2⟩))).2.1 (Kd.V_F (Kd.V_mono (ok' := (fun k_ => ((fun k_ => ((P0_ k_ ∨ P1_ k_) ∨ w.heap.size ≤ k_))) k_ ∧ some k_ ≠ (u5 : Value).ownBlock)) (ac.out) (fun k_ hk => ⟨hk.1, hk.2⟩))))); (case aB => exact HB.out); (case aF => exact (fun k_ hk => (.inr (Nat.le_trans (below_size HB.out) hk)))); (case aO => exact af.out); (case aS => exact (below_size HB.out)); (case aL => have := LMc23.out; omega); intro v121 w24 ho hb hg hat; rw [← Ny120.out] at ho; have al := Aside0.mk (Kd.V_afterv (ok := (fun k_ => ((P0_ k_ ∨ P1_ k_) ∨ w.heap.size ≤ k_))) ab.out hg hat); have ak := Aside0.mk (Kd.V_afterv (ok := (fun k_ => ((P0_ k_ ∨ P1_ k_) ∨ w.heap.size ≤ k_))) ac.out hg hat); have aj := Aside0.mk (hb); have ai := Aside0.mk (ho); clear ab; clear ac; clear HB; clear af; have ab := al; have ac := ak; have HB := aj; have HO122 := ai; clear al ak aj ai; clear ho hb hg hat))
 go_ret
 exact ⟨_, by first | rfl | (simp [errW_none, errW_some] <;> rfl) | (simp [*, errW_none, errW_some] <;> rfl), by exact HO122.out, by exact HB.out⟩
def wordbookref15_num.f (l0 : List Int) (a1 : Int) : Option (Int) := if (l0.length : Int) = 0 then (some 0) else (if 0 ≤ (Int.tmod a1 (l0.length : Int)) then (if (Int.tmod a1 (l0.length : Int)) < (l0.length : Int) then (if (Int.tmod (rd l0 (Int.tmod a1 (l0.length : Int))) 1048576) < 0 then (some (wrap64 ((wrap64 (-(Int.tmod (rd l0 (Int.tmod a1 (l0.length : Int))) 1048576))) + (wrap64 (17 * (wrap64 (Int.tdiv a1 (l0.length : Int)))))))) else (some (wrap64 ((Int.tmod (rd l0 (Int.tmod a1 (l0.length : Int))) 1048576) + (wrap64 (17 * (wrap64 (Int.tdiv a1 (l0.length : Int))))))))) else (none)) else (none))
set_option maxHeartbeats 8000000 in
set_option maxRecDepth 100000 in
theorem wordbookref15_num.calls (A0 : Option Addr) (c0 : Nat) (l0 : List Int) (a1 : Int) (r : Int) (w : World) (hr0 : Kd.C (Kd.int .i64) w A0 l0.length l0) (hc0 : l0.length ≤ c0) (h : wordbookref15_num.f l0 a1 = some r) :
    Calls Try.prog 65 #[.slice A0 l0.length c0, .int .i64 a1] w fun e w' => e = .returned (.int .i64 r) ∧ Drawn0 w w' := by
 have HR0 := Aside0.mk hr0
 have HC0 := Aside0.mk hc0
 clear hr0 hc0
 have H : (if (l0.length : Int) = 0 then (some 0) else (if 0 ≤ (Int.tmod a1 (l0.length : Int)) then (if (Int.tmod a1 (l0.length : Int)) < (l0.length : Int) then (if (Int.tmod (rd l0 (Int.tmod a1 (l0.length : Int))) 1048576) < 0 then (some (wrap64 ((wrap64 (-(Int.tmod (rd l0 (Int.tmod a1 (l0.length : Int))) 1048576))) + (wrap64 (17 * (wrap64 (Int.tdiv a1 (l0.length : Int)))))))) else (some (wrap64 ((Int.tmod (rd l0 (Int.tmod a1 (l0.length : Int))) 1048576) + (wrap64 (17 * (wrap64 (Int.tdiv a1 (l0.length : Int))))))))) else (none)) else (none))) = some r := h
 clear h
 by_cases c3 : (l0.length : Int) = 0
 ·
  rw [if_pos c3] at H
  have ad : ((l0.length : Int) == 0) = true := beq_iff_eq.mpr c3
  have ac : ((l0.length : Int) != 0) = false := bne_eq_false_iff_eq.mpr c3
  clear c3
  obtain rfl := Option.some.inj H
  go_enter Try.func65, Try.ntmps65
  go_wp2
  go_ret
  exact ⟨by first | rfl | (simp; done) | (simp [*]; done), by repeat (first | exact Drawn0.refl _ | apply Drawn0.step)⟩
 rw [if_neg c3] at H
 have ad : ((l0.length : Int) == 0) = false := beq_eq_false_iff_ne.mpr c3
 have ac : ((l0.length : Int) != 0) = true := bne_iff_ne.mpr c3
 have ag : ¬ (l0 = []) := fun h_ => c3 (by rw [h_]; rfl)
 obtain ⟨ji4, hji4⟩ : ∃ j_ : Int, (Int.tmod a1 (l0.length : Int)) = j_ := ⟨_, rfl⟩
 replace H : (if 0 ≤ (ji4) then (if (ji4) < (l0.length : Int) then (if (Int.tmod (rd l0 (ji4)) 1048576) < 0 then (some (wrap64 ((wrap64 (-(Int.tmod (rd l0 (ji4)) 1048576))) + (wrap64 (17 * (wrap64 (Int.tdiv a1 (l0.length : Int)))))))) else (some (wrap64 ((Int.tmod (rd l0 (ji4)) 1048576) + (wrap64 (17 * (wrap64 (Int.tdiv a1 (l0.length : Int))))))))) else (none)) else (none)) = some r := by first | (rw [hji4] at H; exact H) | (simp only [hji4] at H ⊢; exact H)
 have c5 : 0 ≤ (ji4) := Classical.byContradiction fun c_ => by rw [if_neg c_] at H; exact absurd H (by simp)
 rw [if_pos c5] at H
 have af : decide (0 ≤ (ji4)) = true := decide_eq_true c5
 clear c5
 have c6 : (ji4) < (l0.length : Int) := Classical.byContradiction fun c_ => by rw [if_neg c_] at H; exact absurd H (by simp)
 rw [if_pos c6] at H
 have ae : decide ((ji4) < (l0.length : Int)) = true := decide_eq_true c6
 clear c6
 by_cases c7 : (Int.tmod (rd l0 (ji4)) 1048576) < 0
 ·
  rw [if_pos c7] at H
  have ab : decide ((Int.tmod (rd l0 (ji4)) 1048576) < 0) = true := decide_eq_true c7
  clear c7
  obtain rfl := Option.some.inj H
  have p136 : 0 ≤ ((ji4) : Int) := of_decide_eq_true (by first | (with_reducible assumption) | assumption)
  have q136 : (ji4) < (l0.length : Int) := of_decide_eq_true (by first | (with_reducible assumption) | assumption)
  obtain ⟨ad136, e136, aa⟩ := Kd.at_int HR0.out (ji4) p136 q136
  cases e136
  replace p136 := eq_true p136
  replace q136 := eq_true q136
  go_enter Try.func65, Try.ntmps65
  go_wp2
  go_ret
  exact ⟨by first | rfl | (simp; done) | (simp only [← hji4] <;> (first | rfl | simp)) | (simp [*]; done), by repeat (first | exact Drawn0.refl _ | apply Drawn0.step)⟩
 rw [if_neg c7] at H
 have ab : decide ((Int.tmod (rd l0 (ji4)) 1048576) < 0) = false := decide_eq_false c7
 clear c7
 obtain rfl := Option.some.inj H
 have p136 : 0 ≤ ((ji4) : Int) := of_decide_eq_true (by first | (with_reducible assumption) | assumption)
 have q136 : (ji4) < (l0.length : Int) := of_decide_eq_true (by first | (with_reducible assumption) | assumption)
 obtain ⟨ad136, e136, aa⟩ := Kd.at_int HR0.out (ji4) p136 q136
 cases e136
 replace p136 := eq_true p136
 replace q136 := eq_true q136
 go_enter Try.func65, Try.ntmps65
 go_wp2
 go_ret
 exact ⟨by first | rfl | (simp; done) | (simp only [← hji4] <;> (first | rfl | simp)) | (simp [*]; done), by repeat (first | exact Drawn0.refl _ | apply Drawn0.step)⟩
mutual
def wordbookref15_Words.l0 : Nat → List Int → Int → List (List Int) → Int → Option ((List (List Int)))
  | 0, _, _, _, _ => none
  | k + 1, x0, x1, x5, x6 => if x6 < x1 then ((wordbookref15_num.f x0 (wrap64 (3 * x6))).bind fun t137 => (wordbookref15_Words.l1 k x0 x1 x5 x6 ([] : List Int) t137 0)) else (some x5)
def wordbookref15_Words.l1 : Nat → List Int → Int → List (List Int) → Int → List Int → Int → Int → Option ((List (List Int)))
  | 0, _, _, _, _, _, _, _ => none
  | k + 1, x0, x1, x5, x6, x7, x8, x9 => if x9 < (Int.tmod x8 4) then ((wordbookref15_num.f x0 (wrap64 ((Int.tmod x8 7) + x9))).bind fun t138 => (if x7.length < 17592186044416 then (wordbookref15_Words.l1 k x0 x1 x5 x6 (x7 ++ [Int.tmod t138 3]) x8 (wrap64 (x9 + 1))) else (none))) else ((wordbookref15_num.f x0 (wrap64 ((wrap64 (3 * x6)) + 1))).bind fun t142 => (wordbookref15_Words.l2 k x0 x1 x5 x6 x7 t142 0))
def wordbookref15_Words.l2 : Nat → List Int → Int → List (List Int) → Int → List Int → Int → Int → Option ((List (List Int)))
  | 0, _, _, _, _, _, _, _ => none
  | k + 1, x0, x1, x5, x6, x7, x10, x11 => if x11 < (Int.tmod x10 3) then ((wordbookref15_num.f x0 (wrap64 ((wrap64 (5 * x6)) + x11))).bind fun t143 => (if (Int.tmod t143 4) = 3 then (if x7.length < 17592186044416 then (wordbookref15_Words.l2 k x0 x1 x5 x6 (x7 ++ [wrap64 (63 - (Int.tmod x10 2))]) x10 (wrap64 (x11 + 1))) else (none)) else (if x7.length < 17592186044416 then (wordbookref15_Words.l2 k x0 x1 x5 x6 (x7 ++ [Int.tmod t143 4]) x10 (wrap64 (x11 + 1))) else (none)))) else ((wordbookref15_num.f x0 (wrap64 ((wrap64 (3 * x6)) + 2))).bind fun t150 => (wordbookref15_Words.l3 k x0 x1 x5 x6 x7 t150 0))
def wordbookref15_Words.l3 : Nat → List Int → Int → List (List Int) → Int → List Int → Int → Int → Option ((List (List Int)))
  | 0, _, _, _, _, _, _, _ => none
  | k + 1, x0, x1, x5, x6, x7, x13, x14 => if x14 < (Int.tmod x13 3) then (if x7.length < 17592186044416 then (wordbookref15_Words.l3 k x0 x1 x5 x6 (x7 ++ [wrap64 ((wrap64 (4 + x14)) + (Int.tmod (wrap64 (Int.tdiv x13 3)) 2))]) x13 (wrap64 (x14 + 1))) else (none)) else ((wordbookref15_Put.f k x5 x7).bind fun t154 => (wordbookref15_Words.l0 k x0 x1 t154 (wrap64 (x6 + 1))))
end
def wordbookref15_Words.f (k : Nat) (l0 : List Int) (a1 : Int) : Option ((List (List Int))) := wordbookref15_Words.l0 k l0 a1 ([] : List (List Int)) 0
set_option maxHeartbeats 8000000 in
set_option maxRecDepth 100000 in
theorem wordbookref15_Words.calls (k : Nat) (A0 : Option Addr) (c0 : Nat) (l0 : List Int) (a1 : Int) (r : List (List Int)) (w : World) (hr0 : Kd.C (Kd.int .i64) w A0 l0.length l0) (hc0 : l0.length ≤ c0) (h : wordbookref15_Words.f k l0 a1 = some r) :
    Calls Try.prog 17 #[.slice A0 l0.length c0, .int .i64 a1] w fun e w' => ∃ v0_ : Value, e = .returned (v0_) ∧ Kd.N (Kd.slice 3 (Kd.int .i64)) 22 w' w.heap.size (fun k_ => (w.heap.size ≤ k_)) v0_ r ∧ Below w.heap.size w w' := by
 have HR0 := Aside0.mk hr0
 have HC0 := Aside0.mk hc0
 clear hr0 hc0
 have HB := Aside0.mk (Below.refl w.heap.size w)
 have H : (wordbookref15_Words.l0 k l0 a1 ([] : List (List Int)) 0) = some r := h
 clear h
 have H' := Aside0.mk H
 clear H
 go_enter Try.func17, Try.ntmps17
 go_wp2
 go_loopg [5, 6] k (fun kq v5 v6 w' => ∃ (ad : List (List Int)) (aa : Int), v6 = .int .i64 aa ∧ Aside0 (wordbookref15_Words.l0 kq l0 a1 ad aa = some r) ∧ Aside0 (kq ≤ k) ∧ Aside0 (Kd.N (Kd.slice 3 (Kd.int .i64)) 22 w' w.heap.size (fun k_ => (w.heap.size ≤ k_)) v5 ad) ∧ Aside0 (Below w.heap.size w w'))
 case atStart => exact ⟨(([] : List (List Int))), (0), (by first | rfl | (simp; done) | (simp [*]; done)), H', ⟨Nat.le_refl _⟩, ⟨by first | exact Kd.S_nil _ _ _ _ _ | exact Kd.N_nil _ _ _ _ _ | exact Kd.V_nil _ _ _ _ _ | exact Kd.Q_nil _ _ _ _ _ | exact Kd.R_nil _ _ _ _ _⟩, ⟨HB.out⟩⟩
 clear H'
 (try clear c1); (try clear p2)
 obtain ⟨ad, aa, rfl, HA, ao, ab, HB⟩ := hrel
 cases gk with
 | zero => exact absurd HA.out (by simp [wordbookref15_Words.l0])
 | succ k1 => ?_
 have H := HA.out
 clear HA
 simp only [wordbookref15_Words.l0] at H
 by_cases c3 : aa < a1
 ·
  rw [if_pos c3] at H
  have ap : decide (aa < a1) = true := decide_eq_true c3
  clear c3
  replace H := Option.bind_eq_some_iff.mp H
  obtain ⟨t137, A40, H⟩ := H
  replace H : (wordbookref15_Words.l1 k1 l0 a1 ad aa ([] : List Int) t137 0) = some r := H
  have A4 := Aside0.mk A40
  clear A40
  have H' := Aside0.mk H
  clear H
  go_wp2_with (first | ((with_reducible refine gate_callee (f := 65) rfl ?_); refine goesL_ (some 23) rfl rfl Try.func65 (by kernel_rfl) rfl #[.slice A0 l0.length c0, .int .i64 (wrap64 (3 * aa))] rfl (by (try simp only [List.map_toArray, List.map_cons, List.map_nil]); first | done | rfl | (simp only [List.length_drop, List.length_take]; rfl)) ?_; (with_reducible refine (wordbookref15_num.calls _ _ l0 (wrap64 (3 * aa)) t137 _ ?side1 ?side2 A4.out).mono ?_); (case side1 => repeat (first | exact (Kd.C_below HR0.out HB.out) | (with_reducible refine Kd.C_alloc ?_ _) | (with_reducible refine Kd.C_drewN ?_ _) | (with_reducible refine Kd.C_drew ?_))); (case side2 => exact HC0.out); rintro e w' ⟨rfl, ⟨nd, rfl⟩⟩; refine ⟨_, rfl, ?_⟩))
  go_loopg [7, 9] k1 (fun kq v7 v9 w' => ∃ (aj : List Int) (ah : Int), v9 = .int .i64 ah ∧ Aside0 (wordbookref15_Words.l1 kq l0 a1 ad aa aj t137 ah = some r) ∧ Aside0 (kq ≤ k1) ∧ Aside0 (Kd.N (Kd.slice 3 (Kd.int .i64)) 22 w' w.heap.size (fun k_ => (w.heap.size ≤ k_) ∧ some k_ ≠ (v7 : Value).ownBlock) u5 ad) ∧ Aside0 (Kd.R (Kd.int .i64) 3 w' w.heap.size (fun k_ => (w.heap.size ≤ k_)) v7 aj) ∧ Aside0 (Below w.heap.size w w'))
  case atStart => exact ⟨(([] : List Int)), (0), (by first | rfl | (simp; done) | (simp [*]; done)), H', ⟨Nat.le_refl _⟩, ⟨by (with_reducible repeat (first | apply Kd.N_alloc | apply Kd.N_drewN | apply Kd.N_drew)); exact Kd.N_mono ab.out (fun _ hk => ⟨hk, (by simp [Value.ownBlock])⟩)⟩, ⟨by first | exact Kd.R_nil _ _ _ _ _ | exact Kd.N_nil _ _ _ _ _ | exact Kd.V_nil _ _ _ _ _ | exact Kd.Q_nil _ _ _ _ _ | exact Kd.S_nil _ _ _ _ _⟩, ⟨by repeat (first | (with_reducible first | exact HB.out | apply below_alloc | apply pw_below_drewN | apply below_drew1) | exact HB.out)⟩⟩
  clear H'
  (try clear c1); (try clear p2); (try clear c3); (try clear ap); (try clear p2)
  obtain ⟨aj, ah, rfl, HA, an, ab, ae, HB⟩ := hrel
  cases gk with
  | zero => exact absurd HA.out (by simp [wordbookref15_Words.l1])
  | succ k2 => ?_
  have H := HA.out
  clear HA
  simp only [wordbookref15_Words.l1] at H
  by_cases c5 : ah < (Int.tmod t137 4)
  ·
   rw [if_pos c5] at H
   have ax : decide (ah < (Int.tmod t137 4)) = true := decide_eq_true c5
   clear c5
   replace H := Option.bind_eq_some_iff.mp H
   obtain ⟨t138, A60, H⟩ := H
   replace H : (if aj.length < 17592186044416 then (wordbookref15_Words.l1 k2 l0 a1 ad aa (aj ++ [Int.tmod t138 3]) t137 (wrap64 (ah + 1))) else (none)) = some r := H
   have A6 := Aside0.mk A60
   clear A60
   have c7 : aj.length < 17592186044416 := Classical.byContradiction fun c_ => by rw [if_neg c_] at H; exact absurd H (by simp)
   rw [if_pos c7] at H
   have LMc7 := Aside0.mk c7
   clear c7
   obtain ⟨aD, hy139⟩ : ∃ y_ : List Int, y_ = (aj ++ [Int.tmod t138 3]) := ⟨_, rfl⟩
   replace H : (wordbookref15_Words.l1 k2 l0 a1 ad aa aD t137 (wrap64 (ah + 1))) = some r := by (rw [hy139]; with_reducible exact H)
   have Ny139 := Aside0.mk hy139
   clear hy139
   have H' := Aside0.mk H
   clear H
   go_wp2_with (first | ((with_reducible refine gate_callee (f := 65) rfl ?_); refine goesL_ (some 36) rfl rfl Try.func65 (by kernel_rfl) rfl #[.slice A0 l0.length c0, .int .i64 (wrap64 ((Int.tmod t137 7) + ah))] rfl (by (try simp only [List.map_toArray, List.map_cons, List.map_nil]); first | done | rfl | (simp only [List.length_drop, List.length_take]; rfl)) ?_; (with_reducible refine (wordbookref15_num.calls _ _ l0 (wrap64 ((Int.tmod t137 7) + ah)) t138 _ ?side1 ?side2 A6.out).mono ?_); (case side1 => repeat (first | exact (Kd.C_below HR0.out HB.out) | (with_reducible refine Kd.C_alloc ?_ _) | (with_reducible refine Kd.C_drewN ?_ _) | (with_reducible refine Kd.C_drew ?_))); (case side2 => exact HC0.out); rintro e w' ⟨rfl, ⟨nd, rfl⟩⟩; refine ⟨_, rfl, ?_⟩) | ((with_reducible refine gate_builtin (b := .append) (xs := #[.tmp 30, .tmp 38]) rfl ?_); at_builtin; refine Kd.R_append (Kd.int .i64) (w0 := w) w.heap.size rfl (.tmp 30) (.tmp 38) 22 3 (.int .i64 0) 8 rfl Try.underlying22 info3 rfl (by decide) (by omega) u7 aj (Int.tmod t138 3) [.int .i64 (Int.tmod t138 3)] (fun k_ => (w.heap.size ≤ k_)) (fun _ => False) rfl rfl ?aP (fun _ hk => hk.elim) ?aF ?aO ?aB ?aS ?aL ?_; (case aP => exact rfl); (case aB => exact (by repeat (first | (with_reducible first | exact HB.out | apply below_alloc | apply pw_below_drewN | apply below_drew1) | exact HB.out))); (case aF => exact (fun k_ hk => (Nat.le_trans (below_size (by repeat (first | (with_reducible first | exact HB.out | apply below_alloc | apply pw_below_drewN | apply below_drew1) | exact HB.out))) hk))); (case aO => exact (by (with_reducible repeat (first | apply Kd.R_alloc | apply Kd.R_drewN | apply Kd.R_drew)); exact ae.out)); (case aS => exact (below_size (by repeat (first | (with_reducible first | exact HB.out | apply below_alloc | apply pw_below_drewN | apply below_drew1) | exact HB.out)))); (case aL => have := LMc7.out; omega); intro v140 w8 ho hb hg hat; rw [← Ny139.out] at ho; have am := Aside0.mk (Kd.N_afterv (ok := (fun k_ => (w.heap.size ≤ k_))) (by (with_reducible repeat (first | apply Kd.N_alloc | apply Kd.N_drewN | apply Kd.N_drew)); exact ab.out) hg hat); have al := Aside0.mk (hb); have ak := Aside0.mk (ho); clear ab; clear HB; clear ae; have ab := am; have HB := al; have HO141 := ak; clear am al ak; clear ho hb hg hat))
   go_roundg k2
   case measure => have := ao.out; have := an.out; omega
   case rel => exact ⟨(aD), (wrap64 (ah + 1)), (by first | rfl | (simp; done) | (simp [*]; done)), H', ⟨by have := ao.out; have := an.out; omega⟩, ⟨ab.out⟩, ⟨HO141.out⟩, ⟨HB.out⟩⟩
  rw [if_neg c5] at H
  have ax : decide (ah < (Int.tmod t137 4)) = false := decide_eq_false c5
  clear c5
  replace H := Option.bind_eq_some_iff.mp H
  obtain ⟨t142, A90, H⟩ := H
  replace H : (wordbookref15_Words.l2 k2 l0 a1 ad aa aj t142 0) = some r := H
  have A9 := Aside0.mk A90
  clear A90
  have H' := Aside0.mk H
  clear H
  go_wp2_with (first | ((with_reducible refine gate_callee (f := 65) rfl ?_); refine goesL_ (some 44) rfl rfl Try.func65 (by kernel_rfl) rfl #[.slice A0 l0.length c0, .int .i64 (wrap64 ((wrap64 (3 * aa)) + 1))] rfl (by (try simp only [List.map_toArray, List.map_cons, List.map_nil]); first | done | rfl | (simp only [List.length_drop, List.length_take]; rfl)) ?_; (with_reducible refine (wordbookref15_num.calls _ _ l0 (wrap64 ((wrap64 (3 * aa)) + 1)) t142 _ ?side1 ?side2 A9.out).mono ?_); (case side1 => repeat (first | exact (Kd.C_below HR0.out HB.out) | (with_reducible refine Kd.C_alloc ?_ _) | (with_reducible refine Kd.C_drewN ?_ _) | (with_reducible refine Kd.C_drew ?_))); (case side2 => exact HC0.out); rintro e w' ⟨rfl, ⟨nd, rfl⟩⟩; refine ⟨_, rfl, ?_⟩))
  go_loopg [7, 11] k2 (fun kq v7 v11 w' => ∃ (ag : List Int) (ac : Int), v11 = .int .i64 ac ∧ Aside0 (wordbookref15_Words.l2 kq l0 a1 ad aa ag t142 ac = some r) ∧ Aside0 (kq ≤ k2) ∧ Aside0 (Kd.N (Kd.slice 3 (Kd.int .i64)) 22 w' w.heap.size (fun k_ => (w.heap.size ≤ k_) ∧ some k_ ≠ (v7 : Value).ownBlock) u5 ad) ∧ Aside0 (Kd.R (Kd.int .i64) 3 w' w.heap.size (fun k_ => (w.heap.size ≤ k_)) v7 ag) ∧ Aside0 (Below w.heap.size w w'))
  case atStart => exact ⟨(aj), (0), (by first | rfl | (simp; done) | (simp [*]; done)), H', ⟨Nat.le_refl _⟩, ⟨by (with_reducible repeat (first | apply Kd.N_alloc | apply Kd.N_drewN | apply Kd.N_drew)); exact ab.out⟩, ⟨by (with_reducible repeat (first | apply Kd.R_alloc | apply Kd.R_drewN | apply Kd.R_drew)); exact ae.out⟩, ⟨by repeat (first | (with_reducible first | exact HB.out | apply below_alloc | apply pw_below_drewN | apply below_drew1) | exact HB.out)⟩⟩
  clear H'
  (try clear c1); (try clear p2); (try clear c3); (try clear ap); (try clear c5); (try clear ax); (try clear c6); (try clear p6); (try clear c7); (try clear p2)
  obtain ⟨ag, ac, rfl, HA, av, ab, ae, HB⟩ := hrel
  cases gk with
  | zero => exact absurd HA.out (by simp [wordbookref15_Words.l2])
  | succ k3 => ?_
  have H := HA.out
  clear HA
  simp only [wordbookref15_Words.l2] at H
  by_cases c10 : ac < (Int.tmod t142 3)
  ·
   rw [if_pos c10] at H
   have au : decide (ac < (Int.tmod t142 3)) = true := decide_eq_true c10
   clear c10
   replace H := Option.bind_eq_some_iff.mp H
   obtain ⟨t143, A110, H⟩ := H
   replace H : (if (Int.tmod t143 4) = 3 then (if ag.length < 17592186044416 then (wordbookref15_Words.l2 k3 l0 a1 ad aa (ag ++ [wrap64 (63 - (Int.tmod t142 2))]) t142 (wrap64 (ac + 1))) else (none)) else (if ag.length < 17592186044416 then (wordbookref15_Words.l2 k3 l0 a1 ad aa (ag ++ [Int.tmod t143 4]) t142 (wrap64 (ac + 1))) else (none))) = some r := H
   have A11 := Aside0.mk A110
   clear A110
   by_cases c12 : (Int.tmod t143 4) = 3
   ·
    rw [if_pos c12] at H
    have ar : ((Int.tmod t143 4) == 3) = true := beq_iff_eq.mpr c12
    have aq : ((Int.tmod t143 4) != 3) = false := bne_eq_false_iff_eq.mpr c12
    clear c12
    have c13 : ag.length < 17592186044416 := Classical.byContradiction fun c_ => by rw [if_neg c_] at H; exact absurd H (by simp)
    rw [if_pos c13] at H
    have LMc13 := Aside0.mk c13
    clear c13
    obtain ⟨aC, hy144⟩ : ∃ y_ : List Int, y_ = (ag ++ [wrap64 (63 - (Int.tmod t142 2))]) := ⟨_, rfl⟩
    replace H : (wordbookref15_Words.l2 k3 l0 a1 ad aa aC t142 (wrap64 (ac + 1))) = some r := by (rw [hy144]; with_reducible exact H)
    have Ny144 := Aside0.mk hy144
    clear hy144
    have H' := Aside0.mk H
    clear H
    go_wp2_with (first | ((with_reducible refine gate_callee (f := 65) rfl ?_); refine goesL_ (some 56) rfl rfl Try.func65 (by kernel_rfl) rfl #[.slice A0 l0.length c0, .int .i64 (wrap64 ((wrap64 (5 * aa)) + ac))] rfl (by (try simp only [List.map_toArray, List.map_cons, List.map_nil]); first | done | rfl | (simp only [List.length_drop, List.length_take]; rfl)) ?_; (with_reducible refine (wordbookref15_num.calls _ _ l0 (wrap64 ((wrap64 (5 * aa)) + ac)) t143 _ ?side1 ?side2 A11.out).mono ?_); (case side1 => repeat (first | exact (Kd.C_below HR0.out HB.out) | (with_reducible refine Kd.C_alloc ?_ _) | (with_reducible refine Kd.C_drewN ?_ _) | (with_reducible refine Kd.C_drew ?_))); (case side2 => exact HC0.out); rintro e w' ⟨rfl, ⟨nd, rfl⟩⟩; refine ⟨_, rfl, ?_⟩) | ((with_reducible refine gate_builtin (b := .append) (xs := #[.tmp 63, .tmp 65]) rfl ?_); at_builtin; refine Kd.R_append (Kd.int .i64) (w0 := w) w.heap.size rfl (.tmp 63) (.tmp 65) 22 3 (.int .i64 0) 8 rfl Try.underlying22 info3 rfl (by decide) (by omega) u7 ag (wrap64 (63 - (Int.tmod t142 2))) [.int .i64 (wrap64 (63 - (Int.tmod t142 2)))] (fun k_ => (w.heap.size ≤ k_)) (fun _ => False) rfl rfl ?aP (fun _ hk => hk.elim) ?aF ?aO ?aB ?aS ?aL ?_; (case aP => exact rfl); (case aB => exact (by repeat (first | (with_reducible first | exact HB.out | apply below_alloc | apply pw_below_drewN | apply below_drew1) | exact HB.out))); (case aF => exact (fun k_ hk => (Nat.le_trans (below_size (by repeat (first | (with_reducible first | exact HB.out | apply below_alloc | apply pw_below_drewN | apply below_drew1) | exact HB.out))) hk))); (case aO => exact (by (with_reducible repeat (first | apply Kd.R_alloc | apply Kd.R_drewN | apply Kd.R_drew)); exact ae.out)); (case aS => exact (below_size (by repeat (first | (with_reducible first | exact HB.out | apply below_alloc | apply pw_below_drewN | apply below_drew1) | exact HB.out)))); (case aL => have := LMc13.out; omega); intro v145 w14 ho hb hg hat; rw [← Ny144.out] at ho; have am := Aside0.mk (Kd.N_afterv (ok := (fun k_ => (w.heap.size ≤ k_))) (by (with_reducible repeat (first | apply Kd.N_alloc | apply Kd.N_drewN | apply Kd.N_drew)); exact ab.out) hg hat); have al := Aside0.mk (hb); have ak := Aside0.mk (ho); clear ab; clear HB; clear ae; have ab := am; have HB := al; have HO146 := ak; clear am al ak; clear ho hb hg hat))
    go_roundg k3
    case measure => have := ao.out; have := an.out; have := av.out; omega
    case rel => exact ⟨(aC), (wrap64 (ac + 1)), (by first | rfl | (simp; done) | (simp [*]; done)), H', ⟨by have := ao.out; have := an.out; have := av.out; omega⟩, ⟨ab.out⟩, ⟨HO146.out⟩, ⟨HB.out⟩⟩
   rw [if_neg c12] at H
   have ar : ((Int.tmod t143 4) == 3) = false := beq_eq_false_iff_ne.mpr c12
   have aq : ((Int.tmod t143 4) != 3) = true := bne_iff_ne.mpr c12
   have c15 : ag.length < 17592186044416 := Classical.byContradiction fun c_ => by rw [if_neg c_] at H; exact absurd H (by simp)
   rw [if_pos c15] at H
   have LMc15 := Aside0.mk c15
   clear c15
   obtain ⟨aA, hy147⟩ : ∃ y_ : List Int, y_ = (ag ++ [Int.tmod t143 4]) := ⟨_, rfl⟩
   replace H : (wordbookref15_Words.l2 k3 l0 a1 ad aa aA t142 (wrap64 (ac + 1))) = some r := by (rw [hy147]; with_reducible exact H)
   have Ny147 := Aside0.mk hy147
   clear hy147
   have H' := Aside0.mk H
   clear H
   go_wp2_with (first | ((with_reducible refine gate_callee (f := 65) rfl ?_); refine goesL_ (some 56) rfl rfl Try.func65 (by kernel_rfl) rfl #[.slice A0 l0.length c0, .int .i64 (wrap64 ((wrap64 (5 * aa)) + ac))] rfl (by (try simp only [List.map_toArray, List.map_cons, List.map_nil]); first | done | rfl | (simp only [List.length_drop, List.length_take]; rfl)) ?_; (with_reducible refine (wordbookref15_num.calls _ _ l0 (wrap64 ((wrap64 (5 * aa)) + ac)) t143 _ ?side1 ?side2 A11.out).mono ?_); (case side1 => repeat (first | exact (Kd.C_below HR0.out HB.out) | (with_reducible refine Kd.C_alloc ?_ _) | (with_reducible refine Kd.C_drewN ?_ _) | (with_reducible refine Kd.C_drew ?_))); (case side2 => exact HC0.out); rintro e w' ⟨rfl, ⟨nd, rfl⟩⟩; refine ⟨_, rfl, ?_⟩) | ((with_reducible refine gate_builtin (b := .append) (xs := #[.tmp 63, .tmp 65]) rfl ?_); at_builtin; refine Kd.R_append (Kd.int .i64) (w0 := w) w.heap.size rfl (.tmp 63) (.tmp 65) 22 3 (.int .i64 0) 8 rfl Try.underlying22 info3 rfl (by decide) (by omega) u7 ag (Int.tmod t143 4) [.int .i64 (Int.tmod t143 4)] (fun k_ => (w.heap.size ≤ k_)) (fun _ => False) rfl rfl ?aP (fun _ hk => hk.elim) ?aF ?aO ?aB ?aS ?aL ?_; (case aP => exact rfl); (case aB => exact (by repeat (first | (with_reducible first | exact HB.out | apply below_alloc | apply pw_below_drewN | apply below_drew1) | exact HB.out))); (case aF => exact (fun k_ hk => (Nat.le_trans (below_size (by repeat (first | (with_reducible first | exact HB.out | apply below_alloc | apply pw_below_drewN | apply below_drew1) | exact HB.out))) hk))); (case aO => exact (by (with_reducible repeat (first | apply Kd.R_alloc | apply Kd.R_drewN | apply Kd.R_drew)); exact ae.out)); (case aS => exact (below_size (by repeat (first | (with_reducible first | exact HB.out | apply below_alloc | apply pw_below_drewN | apply below_drew1) | exact HB.out)))); (case aL => have := LMc15.out; omega); intro v148 w16 ho hb hg hat; rw [← Ny147.out] at ho; have am := Aside0.mk (Kd.N_afterv (ok := (fun k_ => (w.heap.size ≤ k_))) (by (with_reducible repeat (first | apply Kd.N_alloc | apply Kd.N_drewN | apply Kd.N_drew)); exact ab.out) hg hat); have al := Aside0.mk (hb); have ak := Aside0.mk (ho); clear ab; clear HB; clear ae; have ab := am; have HB := al; have HO149 := ak; clear am al ak; clear ho hb hg hat))
   go_roundg k3
   case measure => have := ao.out; have := an.out; have := av.out; omega
   case rel => exact ⟨(aA), (wrap64 (ac + 1)), (by first | rfl | (simp; done) | (simp [*]; done)), H', ⟨by have := ao.out; have := an.out; have := av.out; omega⟩, ⟨ab.out⟩, ⟨HO149.out⟩, ⟨HB.out⟩⟩
  rw [if_neg c10] at H
  have au : decide (ac < (Int.tmod t142 3)) = false := decide_eq_false c10
  clear c10
  replace H := Option.bind_eq_some_iff.mp H
  obtain ⟨t150, A170, H⟩ := H
  replace H : (wordbookref15_Words.l3 k3 l0 a1 ad aa ag t150 0) = some r := H
  have A17 := Aside0.mk A170
  clear A170
  have H' := Aside0.mk H
  clear H
  go_wp2_with (first | ((with_reducible refine gate_callee (f := 65) rfl ?_); refine goesL_ (some 71) rfl rfl Try.func65 (by kernel_rfl) rfl #[.slice A0 l0.length c0, .int .i64 (wrap64 ((wrap64 (3 * aa)) + 2))] rfl (by (try simp only [List.map_toArray, List.map_cons, List.map_nil]); first | done | rfl | (simp only [List.length_drop, List.length_take]; rfl)) ?_; (with_reducible refine (wordbookref15_num.calls _ _ l0 (wrap64 ((wrap64 (3 * aa)) + 2)) t150 _ ?side1 ?side2 A17.out).mono ?_); (case side1 => repeat (first | exact (Kd.C_below HR0.out HB.out) | (with_reducible refine Kd.C_alloc ?_ _) | (with_reducible refine Kd.C_drewN ?_ _) | (with_reducible refine Kd.C_drew ?_))); (case side2 => exact HC0.out); rintro e w' ⟨rfl, ⟨nd, rfl⟩⟩; refine ⟨_, rfl, ?_⟩))
  go_loopg [7, 14] k3 (fun kq v7 v14 w' => ∃ (ai : List Int) (af : Int), v14 = .int .i64 af ∧ Aside0 (wordbookref15_Words.l3 kq l0 a1 ad aa ai t150 af = some r) ∧ Aside0 (kq ≤ k3) ∧ Aside0 (Kd.N (Kd.slice 3 (Kd.int .i64)) 22 w' w.heap.size (fun k_ => (w.heap.size ≤ k_) ∧ some k_ ≠ (v7 : Value).ownBlock) u5 ad) ∧ Aside0 (Kd.R (Kd.int .i64) 3 w' w.heap.size (fun k_ => (w.heap.size ≤ k_)) v7 ai) ∧ Aside0 (Below w.heap.size w w'))
  case atStart => exact ⟨(ag), (0), (by first | rfl | (simp; done) | (simp [*]; done)), H', ⟨Nat.le_refl _⟩, ⟨by (with_reducible repeat (first | apply Kd.N_alloc | apply Kd.N_drewN | apply Kd.N_drew)); exact ab.out⟩, ⟨by (with_reducible repeat (first | apply Kd.R_alloc | apply Kd.R_drewN | apply Kd.R_drew)); exact ae.out⟩, ⟨by repeat (first | (with_reducible first | exact HB.out | apply below_alloc | apply pw_below_drewN | apply below_drew1) | exact HB.out)⟩⟩
  clear H'
  (try clear c1); (try clear p2); (try clear c3); (try clear ap); (try clear c5); (try clear ax); (try clear c6); (try clear p6); (try clear c7); (try clear c10); (try clear au); (try clear c12); (try clear ar); (try clear aq); (try clear c13); (try clear c15); (try clear c17); (try clear p2); (try clear p6)
  obtain ⟨ai, af, rfl, HA, aG, ab, ae, HB⟩ := hrel
  cases gk with
  | zero => exact absurd HA.out (by simp [wordbookref15_Words.l3])
  | succ k4 => ?_
  have H := HA.out
  clear HA
  simp only [wordbookref15_Words.l3] at H
  by_cases c18 : af < (Int.tmod t150 3)
  ·
   rw [if_pos c18] at H
   have aE : decide (af < (Int.tmod t150 3)) = true := decide_eq_true c18
   clear c18
   have c19 : ai.length < 17592186044416 := Classical.byContradiction fun c_ => by rw [if_neg c_] at H; exact absurd H (by simp)
   rw [if_pos c19] at H
   have LMc19 := Aside0.mk c19
   clear c19
   obtain ⟨az, hy151⟩ : ∃ y_ : List Int, y_ = (ai ++ [wrap64 ((wrap64 (4 + af)) + (Int.tmod (wrap64 (Int.tdiv t150 3)) 2))]) := ⟨_, rfl⟩
   replace H : (wordbookref15_Words.l3 k4 l0 a1 ad aa az t150 (wrap64 (af + 1))) = some r := by (rw [hy151]; with_reducible exact H)
   have Ny151 := Aside0.mk hy151
   clear hy151
   have H' := Aside0.mk H
   clear H
   go_wp2_with (first | ((with_reducible refine gate_builtin (b := .append) (xs := #[.tmp 78, .tmp 85]) rfl ?_); at_builtin; refine Kd.R_append (Kd.int .i64) (w0 := w) w.heap.size rfl (.tmp 78) (.tmp 85) 22 3 (.int .i64 0) 8 rfl Try.underlying22 info3 rfl (by decide) (by omega) u7 ai (wrap64 ((wrap64 (4 + af)) + (Int.tmod (wrap64 (Int.tdiv t150 3)) 2))) [.int .i64 (wrap64 ((wrap64 (4 + af)) + (Int.tmod (wrap64 (Int.tdiv t150 3)) 2)))] (fun k_ => (w.heap.size ≤ k_)) (fun _ => False) rfl rfl ?aP (fun _ hk => hk.elim) ?aF ?aO ?aB ?aS ?aL ?_; (case aP => exact rfl); (case aB => exact HB.out); (case aF => exact (fun k_ hk => (Nat.le_trans (below_size HB.out) hk))); (case aO => exact ae.out); (case aS => exact (below_size HB.out)); (case aL => have := LMc19.out; omega); intro v152 w20 ho hb hg hat; rw [← Ny151.out] at ho; have am := Aside0.mk (Kd.N_afterv (ok := (fun k_ => (w.heap.size ≤ k_))) ab.out hg hat); have al := Aside0.mk (hb); have ak := Aside0.mk (ho); clear ab; clear HB; clear ae; have ab := am; have HB := al; have HO153 := ak; clear am al ak; clear ho hb hg hat))
   go_roundg k4
   case measure => have := ao.out; have := an.out; have := av.out; have := aG.out; omega
   case rel => exact ⟨(az), (wrap64 (af + 1)), (by first | rfl | (simp; done) | (simp [*]; done)), H', ⟨by have := ao.out; have := an.out; have := av.out; have := aG.out; omega⟩, ⟨ab.out⟩, ⟨HO153.out⟩, ⟨HB.out⟩⟩
  rw [if_neg c18] at H
  have aE : decide (af < (Int.tmod t150 3)) = false := decide_eq_false c18
  clear c18
  replace H := Option.bind_eq_some_iff.mp H
  obtain ⟨t154, A210, H⟩ := H
  replace H : (wordbookref15_Words.l0 k4 l0 a1 t154 (wrap64 (aa + 1))) = some r := H
  have A21 := Aside0.mk A210
  clear A210
  have H' := Aside0.mk H
  clear H
  obtain ⟨aI, aH, eo22⟩ := Kd.N_slice ab.out
  subst eo22
  obtain ⟨ay, aw, eo23⟩ := Kd.R_slice ae.out
  subst eo23
  go_wp2_with (first | ((with_reducible refine gate_callee (f := 34) rfl ?_); refine goesL_ (some 89) rfl rfl Try.func34 (by kernel_rfl) rfl #[.slice aI ad.length aH, .slice ay ai.length aw] rfl (by (try simp only [List.map_toArray, List.map_cons, List.map_nil]); first | done | rfl | (simp only [List.length_drop, List.length_take]; rfl)) ?_; (with_reducible refine (wordbookref15_Put.calls k4 (fun k_ => ((w.heap.size ≤ k_) ∧ some k_ ≠ (.slice ay ai.length aw : Value).ownBlock)) _ _ ad (fun k_ => some k_ = (.slice ay ai.length aw : Value).ownBlock) _ _ ai t154 _ ?side1 ?side2 A21.out).mono ?_); (case side1 => exact Kd.N_V (ab.out)); (case side2 => exact Kd.R_V (Kd.R_tight rfl (Kd.R_apart' (ae.out) (Kd.N_typed ab.out) (by decide)))); rintro e w24 ⟨v155, rfl, ho0, hb⟩; refine ⟨_, rfl, ?_⟩; have am := Aside0.mk (Kd.N_elder' ab.out (Kd.N_base ho0) hb); have al := Aside0.mk (Kd.R_below ae.out hb); have ak := Aside0.mk (Kd.N_lower (Kd.N_mono (ok' := fun k_ => (w.heap.size ≤ k_)) ho0 (fun k_ hk_ => Or.elim hk_ (fun hs_ => Or.elim hs_ (fun hs_ => hs_.1) (fun hs_ => ((Kd.R_apart' (ae.out) (Kd.N_typed ab.out) (by decide)).1 k_ hs_.symm).1)) (fun hn_ => (Nat.le_trans (below_size HB.out) hn_)))) (below_size HB.out)); have aJ := Aside0.mk (below_step HB.out hb); clear ab; clear ae; clear HB; have ab := am; have ae := al; have HO156 := ak; have HB := aJ; clear am al ak aJ; clear hb ho0))
  go_roundg k4
  case measure => have := ao.out; have := an.out; have := av.out; have := aG.out; omega
  case rel => exact ⟨(t154), (wrap64 (aa + 1)), (by first | rfl | (simp; done) | (simp [*]; done)), H', ⟨by have := ao.out; have := an.out; have := av.out; have := aG.out; omega⟩, ⟨HO156.out⟩, ⟨HB.out⟩⟩
 rw [if_neg c3] at H
 have ap : decide (aa < a1) = false := decide_eq_false c3
 clear c3
 obtain rfl := Option.some.inj H
 go_wp2
 go_ret
 exact ⟨_, by first | rfl | (simp [errW_none, errW_some] <;> rfl) | (simp [*, errW_none, errW_some] <;> rfl), by exact ab.out, by exact HB.out⟩
def wordbookref01_Around.f (a0 : Int) (a1 : Int) : Option (Int) := if a0 < 0 then (if a1 = 0 then (none) else (some (Int.tmod (wrap64 (-(wrap64 (a0 + 1)))) a1))) else (if a1 = 0 then (none) else (some (Int.tmod a0 a1)))
set_option maxHeartbeats 8000000 in
set_option maxRecDepth 100000 in
theorem wordbookref01_Around.calls (a0 : Int) (a1 : Int) (r : Int) (w : World) (h : wordbookref01_Around.f a0 a1 = some r) :
    Calls Try.prog 18 #[.int .i64 a0, .int .i64 a1] w fun e w' => e = .returned (.int .i64 r) ∧ Drawn0 w w' := by
 have H : (if a0 < 0 then (if a1 = 0 then (none) else (some (Int.tmod (wrap64 (-(wrap64 (a0 + 1)))) a1))) else (if a1 = 0 then (none) else (some (Int.tmod a0 a1)))) = some r := h
 clear h
 by_cases c3 : a0 < 0
 ·
  rw [if_pos c3] at H
  have aa : decide (a0 < 0) = true := decide_eq_true c3
  clear c3
  by_cases c4 : a1 = 0
  ·
   rw [if_pos c4] at H
   exact absurd H (by simp)
  rw [if_neg c4] at H
  have ae : (a1 == 0) = false := beq_eq_false_iff_ne.mpr c4
  have ad : (a1 != 0) = true := bne_iff_ne.mpr c4
  obtain rfl := Option.some.inj H
  go_enter Try.func18, Try.ntmps18
  go_wp2
  go_ret
  exact ⟨by first | rfl | (simp; done) | (simp [*]; done), by repeat (first | exact Drawn0.refl _ | apply Drawn0.step)⟩
 rw [if_neg c3] at H
 have aa : decide (a0 < 0) = false := decide_eq_false c3
 clear c3
 by_cases c5 : a1 = 0
 ·
  rw [if_pos c5] at H
  exact absurd H (by simp)
 rw [if_neg c5] at H
 have ac : (a1 == 0) = false := beq_eq_false_iff_ne.mpr c5
 have ab : (a1 != 0) = true := bne_iff_ne.mpr c5
 obtain rfl := Option.some.inj H
 go_enter Try.func18, Try.ntmps18
 go_wp2
 go_ret
 exact ⟨by first | rfl | (simp; done) | (simp [*]; done), by repeat (first | exact Drawn0.refl _ | apply Drawn0.step)⟩
def cmp_isNaN_int.f (a0 : Int) : Option (Bool) := some (a0 != a0)
set_option maxHeartbeats 8000000 in
set_option maxRecDepth 100000 in
theorem cmp_isNaN_int.calls (a0 : Int) (r : Bool) (w : World) (h : cmp_isNaN_int.f a0 = some r) :
    Calls Try.prog 125 #[.int .i64 a0] w fun e w' => e = .returned (.bool r) ∧ Drawn0 w w' := by
 have H : (some (a0 != a0)) = some r := h
 clear h
 obtain rfl := Option.some.inj H
 go_enter Try.func125, Try.ntmps125
 go_wp2
 go_ret
 exact ⟨by first | rfl | (simp; done) | (simp [*]; done), by repeat (first | exact Drawn0.refl _ | apply Drawn0.step)⟩
end Go.Proofs.Ytcdjeimjbbknjaa.PAll
namespace Go.Proofs.Ytcdjeimjbbknjaa.PAll
open Go.RowKit Go.Proofs.YtcdjeimjbbknjaaW.PrintWords Go.Proofs.YtcdjeimjbbknjaaW.PrintLast Go.Proofs.YtcdjeimjbbknjaaW.PrintMore
attribute [local go_sem] max2_int min2_int max_two min_two max_three min_three max_four min_four   -- for this text's walks alone
set_option linter.unusedVariables false
set_option linter.unusedSimpArgs false

def cmp_Compare_int.f (a0 : Int) (a1 : Int) : Option (Int) := (cmp_isNaN_int.f a0).bind fun t157 => ((cmp_isNaN_int.f a1).bind fun t158 => (if t157 = true then (if t158 = true then (some 0) else (some (-1))) else (if t158 = true then (some 1) else (if a0 < a1 then (some (-1)) else (if a0 > a1 then (some 1) else (some 0))))))
set_option maxHeartbeats 8000000 in
set_option maxRecDepth 100000 in
theorem cmp_Compare_int.calls (a0 : Int) (a1 : Int) (r : Int) (w : World) (h : cmp_Compare_int.f a0 a1 = some r) :
    Calls Try.prog 122 #[.int .i64 a0, .int .i64 a1] w fun e w' => e = .returned (.int .i64 r) ∧ Drawn0 w w' := by
 have H : ((cmp_isNaN_int.f a0).bind fun t157 => ((cmp_isNaN_int.f a1).bind fun t158 => (if t157 = true then (if t158 = true then (some 0) else (some (-1))) else (if t158 = true then (some 1) else (if a0 < a1 then (some (-1)) else (if a0 > a1 then (some 1) else (some 0))))))) = some r := h
 clear h
 replace H := Option.bind_eq_some_iff.mp H
 obtain ⟨t157, A30, H⟩ := H
 replace H : ((cmp_isNaN_int.f a1).bind fun t158 => (if t157 = true then (if t158 = true then (some 0) else (some (-1))) else (if t158 = true then (some 1) else (if a0 < a1 then (some (-1)) else (if a0 > a1 then (some 1) else (some 0)))))) = some r := H
 have A3 := Aside0.mk A30
 clear A30
 replace H := Option.bind_eq_some_iff.mp H
 obtain ⟨t158, A40, H⟩ := H
 replace H : (if t157 = true then (if t158 = true then (some 0) else (some (-1))) else (if t158 = true then (some 1) else (if a0 < a1 then (some (-1)) else (if a0 > a1 then (some 1) else (some 0))))) = some r := H
 have A4 := Aside0.mk A40
 clear A40
 by_cases c5 : t157 = true
 ·
  subst c5
  have H1 : (if t158 = true then (some 0) else (some (-1))) = some r := by rw [if_pos rfl] at H; exact H
  clear H
  have H := H1
  clear H1
  by_cases c6 : t158 = true
  ·
   subst c6
   have H1 : (some 0) = some r := by rw [if_pos rfl] at H; exact H
   clear H
   have H := H1
   clear H1
   obtain rfl := Option.some.inj H
   go_enter Try.func122, Try.ntmps122
   go_wp2_with (first | ((with_reducible refine gate_callee (f := 125) rfl ?_); refine goesL_ (some 8) rfl rfl Try.func125 (by kernel_rfl) rfl #[.int .i64 a0] rfl (by (try simp only [List.map_toArray, List.map_cons, List.map_nil]); first | done | rfl | (simp only [List.length_drop, List.length_take]; rfl)) ?_; (with_reducible refine (cmp_isNaN_int.calls a0 true _ A3.out).mono ?_); rintro e w' ⟨rfl, ⟨nd, rfl⟩⟩; refine ⟨_, rfl, ?_⟩) | ((with_reducible refine gate_callee (f := 125) rfl ?_); refine goesL_ (some 10) rfl rfl Try.func125 (by kernel_rfl) rfl #[.int .i64 a1] rfl (by (try simp only [List.map_toArray, List.map_cons, List.map_nil]); first | done | rfl | (simp only [List.length_drop, List.length_take]; rfl)) ?_; (with_reducible refine (cmp_isNaN_int.calls a1 true _ A4.out).mono ?_); rintro e w' ⟨rfl, ⟨nd, rfl⟩⟩; refine ⟨_, rfl, ?_⟩))
   go_ret
   exact ⟨by first | rfl | (simp; done) | (simp [*]; done), by repeat (first | exact Drawn0.refl _ | apply Drawn0.step)⟩
  replace c6 := Bool.eq_false_iff.mpr c6
  subst c6
  have H1 : (some (-1)) = some r := by rw [if_neg (show ¬ (false = true) by decide)] at H; exact H
  clear H
  have H := H1
  clear H1
  obtain rfl := Option.some.inj H
  go_enter Try.func122, Try.ntmps122
  go_wp2_with (first | ((with_reducible refine gate_callee (f := 125) rfl ?_); refine goesL_ (some 8) rfl rfl Try.func125 (by kernel_rfl) rfl #[.int .i64 a0] rfl (by (try simp only [List.map_toArray, List.map_cons, List.map_nil]); first | done | rfl | (simp only [List.length_drop, List.length_take]; rfl)) ?_; (with_reducible refine (cmp_isNaN_int.calls a0 true _ A3.out).mono ?_); rintro e w' ⟨rfl, ⟨nd, rfl⟩⟩; refine ⟨_, rfl, ?_⟩) | ((with_reducible refine gate_callee (f := 125) rfl ?_); refine goesL_ (some 10) rfl rfl Try.func125 (by kernel_rfl) rfl #[.int .i64 a1] rfl (by (try simp only [List.map_toArray, List.map_cons, List.map_nil]); first | done | rfl | (simp only [List.length_drop, List.length_take]; rfl)) ?_; (with_reducible refine (cmp_isNaN_int.calls a1 false _ A4.out).mono ?_); rintro e w' ⟨rfl, ⟨nd, rfl⟩⟩; refine ⟨_, rfl, ?_⟩))
  go_ret
  exact ⟨by first | rfl | (simp; done) | (simp [*]; done), by repeat (first | exact Drawn0.refl _ | apply Drawn0.step)⟩
 replace c5 := Bool.eq_false_iff.mpr c5
 subst c5
 have H1 : (if t158 = true then (some 1) else (if a0 < a1 then (some (-1)) else (if a0 > a1 then (some 1) else (some 0)))) = some r := by rw [if_neg (show ¬ (false = true) by decide)] at H; exact H
 clear H
 have H := H1
 clear H1
 by_cases c7 : t158 = true
 ·
  subst c7
  have H1 : (some 1) = some r := by rw [if_pos rfl] at H; exact H
  clear H
  have H := H1
  clear H1
  obtain rfl := Option.some.inj H
  go_enter Try.func122, Try.ntmps122
  go_wp2_with (first | ((with_reducible refine gate_callee (f := 125) rfl ?_); refine goesL_ (some 8) rfl rfl Try.func125 (by kernel_rfl) rfl #[.int .i64 a0] rfl (by (try simp only [List.map_toArray, List.map_cons, List.map_nil]); first | done | rfl | (simp only [List.length_drop, List.length_take]; rfl)) ?_; (with_reducible refine (cmp_isNaN_int.calls a0 false _ A3.out).mono ?_); rintro e w' ⟨rfl, ⟨nd, rfl⟩⟩; refine ⟨_, rfl, ?_⟩) | ((with_reducible refine gate_callee (f := 125) rfl ?_); refine goesL_ (some 10) rfl rfl Try.func125 (by kernel_rfl) rfl #[.int .i64 a1] rfl (by (try simp only [List.map_toArray, List.map_cons, List.map_nil]); first | done | rfl | (simp only [List.length_drop, List.length_take]; rfl)) ?_; (with_reducible refine (cmp_isNaN_int.calls a1 true _ A4.out).mono ?_); rintro e w' ⟨rfl, ⟨nd, rfl⟩⟩; refine ⟨_, rfl, ?_⟩))
  go_ret
  exact ⟨by first | rfl | (simp; done) | (simp [*]; done), by repeat (first | exact Drawn0.refl _ | apply Drawn0.step)⟩
 replace c7 := Bool.eq_false_iff.mpr c7
 subst c7
 have H1 : (if a0 < a1 then (some (-1)) else (if a0 > a1 then (some 1) else (some 0))) = some r := by rw [if_neg (show ¬ (false = true) by decide)] at H; exact H
 clear H
 have H := H1
 clear H1
 by_cases c8 : a0 < a1
 ·
  rw [if_pos c8] at H
  have ab : decide (a0 < a1) = true := decide_eq_true c8
  clear c8
  obtain rfl := Option.some.inj H
  go_enter Try.func122, Try.ntmps122
  go_wp2_with (first | ((with_reducible refine gate_callee (f := 125) rfl ?_); refine goesL_ (some 8) rfl rfl Try.func125 (by kernel_rfl) rfl #[.int .i64 a0] rfl (by (try simp only [List.map_toArray, List.map_cons, List.map_nil]); first | done | rfl | (simp only [List.length_drop, List.length_take]; rfl)) ?_; (with_reducible refine (cmp_isNaN_int.calls a0 false _ A3.out).mono ?_); rintro e w' ⟨rfl, ⟨nd, rfl⟩⟩; refine ⟨_, rfl, ?_⟩) | ((with_reducible refine gate_callee (f := 125) rfl ?_); refine goesL_ (some 10) rfl rfl Try.func125 (by kernel_rfl) rfl #[.int .i64 a1] rfl (by (try simp only [List.map_toArray, List.map_cons, List.map_nil]); first | done | rfl | (simp only [List.length_drop, List.length_take]; rfl)) ?_; (with_reducible refine (cmp_isNaN_int.calls a1 false _ A4.out).mono ?_); rintro e w' ⟨rfl, ⟨nd, rfl⟩⟩; refine ⟨_, rfl, ?_⟩))
  go_ret
  exact ⟨by first | rfl | (simp; done) | (simp [*]; done), by repeat (first | exact Drawn0.refl _ | apply Drawn0.step)⟩
 rw [if_neg c8] at H
 have ab : decide (a0 < a1) = false := decide_eq_false c8
 clear c8
 by_cases c9 : a0 > a1
 ·
  rw [if_pos c9] at H
  have aa : decide (a1 < a0) = true := decide_eq_true c9
  clear c9
  obtain rfl := Option.some.inj H
  go_enter Try.func122, Try.ntmps122
  go_wp2_with (first | ((with_reducible refine gate_callee (f := 125) rfl ?_); refine goesL_ (some 8) rfl rfl Try.func125 (by kernel_rfl) rfl #[.int .i64 a0] rfl (by (try simp only [List.map_toArray, List.map_cons, List.map_nil]); first | done | rfl | (simp only [List.length_drop, List.length_take]; rfl)) ?_; (with_reducible refine (cmp_isNaN_int.calls a0 false _ A3.out).mono ?_); rintro e w' ⟨rfl, ⟨nd, rfl⟩⟩; refine ⟨_, rfl, ?_⟩) | ((with_reducible refine gate_callee (f := 125) rfl ?_); refine goesL_ (some 10) rfl rfl Try.func125 (by kernel_rfl) rfl #[.int .i64 a1] rfl (by (try simp only [List.map_toArray, List.map_cons, List.map_nil]); first | done | rfl | (simp only [List.length_drop, List.length_take]; rfl)) ?_; (with_reducible refine (cmp_isNaN_int.calls a1 false _ A4.out).mono ?_); rintro e w' ⟨rfl, ⟨nd, rfl⟩⟩; refine ⟨_, rfl, ?_⟩))
  go_ret
  exact ⟨by first | rfl | (simp; done) | (simp [*]; done), by repeat (first | exact Drawn0.refl _ | apply Drawn0.step)⟩
 rw [if_neg c9] at H
 have aa : decide (a1 < a0) = false := decide_eq_false c9
 clear c9
 obtain rfl := Option.some.inj H
 go_enter Try.func122, Try.ntmps122
 go_wp2_with (first | ((with_reducible refine gate_callee (f := 125) rfl ?_); refine goesL_ (some 8) rfl rfl Try.func125 (by kernel_rfl) rfl #[.int .i64 a0] rfl (by (try simp only [List.map_toArray, List.map_cons, List.map_nil]); first | done | rfl | (simp only [List.length_drop, List.length_take]; rfl)) ?_; (with_reducible refine (cmp_isNaN_int.calls a0 false _ A3.out).mono ?_); rintro e w' ⟨rfl, ⟨nd, rfl⟩⟩; refine ⟨_, rfl, ?_⟩) | ((with_reducible refine gate_callee (f := 125) rfl ?_); refine goesL_ (some 10) rfl rfl Try.func125 (by kernel_rfl) rfl #[.int .i64 a1] rfl (by (try simp only [List.map_toArray, List.map_cons, List.map_nil]); first | done | rfl | (simp only [List.length_drop, List.length_take]; rfl)) ?_; (with_reducible refine (cmp_isNaN_int.calls a1 false _ A4.out).mono ?_); rintro e w' ⟨rfl, ⟨nd, rfl⟩⟩; refine ⟨_, rfl, ?_⟩))
 go_ret
 exact ⟨by first | rfl | (simp; done) | (simp [*]; done), by repeat (first | exact Drawn0.refl _ | apply Drawn0.step)⟩
def slices_Compare_int_int.l0 : Nat → List Int → List Int → List Int → Int → Int → Option (Int)
  | 0, _, _, _, _, _ => none
  | k + 1, x0, x1, x9, x10, x11 => if x11 < x10 then (if 0 ≤ x11 then (if x11 < (x9.length : Int) then (if x11 ≥ (x1.length : Int) then (some 1) else (if x11 < (x1.length : Int) then ((cmp_Compare_int.f (rd x9 x11) (rd x1 x11)).bind fun t161 => (if t161 = 0 then (slices_Compare_int_int.l0 k x0 x1 x9 x10 (wrap64 (x11 + 1))) else (some t161))) else (none))) else (none)) else (none)) else (if (x0.length : Int) < (x1.length : Int) then (some (-1)) else (some 0))
def slices_Compare_int_int.f (k : Nat) (l0 : List Int) (l1 : List Int) : Option (Int) := slices_Compare_int_int.l0 k l0 l1 l0 (l0.length : Int) 0
set_option maxHeartbeats 8000000 in
set_option maxRecDepth 100000 in
theorem slices_Compare_int_int.calls (k : Nat) (A0 : Option Addr) (c0 : Nat) (l0 : List Int) (A1 : Option Addr) (c1 : Nat) (l1 : List Int) (r : Int) (w : World) (hr0 : Kd.C (Kd.int .i64) w A0 l0.length l0) (hc0 : l0.length ≤ c0) (hr1 : Kd.C (Kd.int .i64) w A1 l1.length l1) (hc1 : l1.length ≤ c1) (h : slices_Compare_int_int.f k l0 l1 = some r) :
    Calls Try.prog 107 #[.slice A0 l0.length c0, .slice A1 l1.length c1] w fun e w' => e = .returned (.int .i64 r) ∧ Drawn0 w w' := by
 have HR0 := Aside0.mk hr0
 have HC0 := Aside0.mk hc0
 clear hr0 hc0
 have HR1 := Aside0.mk hr1
 have HC1 := Aside0.mk hc1
 clear hr1 hc1
 have H : (slices_Compare_int_int.l0 k l0 l1 l0 (l0.length : Int) 0) = some r := h
 clear h
 have H' := Aside0.mk H
 clear H
 go_enter Try.func107, Try.ntmps107
 go_wp2
 go_loopg [11] k (fun kq v11 w' => ∃ (aa : Int), v11 = .int .i64 aa ∧ Aside0 (slices_Compare_int_int.l0 kq l0 l1 l0 (l0.length : Int) aa = some r) ∧ Aside0 (kq ≤ k) ∧ Drawn0 w w')
 case atStart => exact ⟨(0), (by first | rfl | (simp; done) | (simp [*]; done)), H', ⟨Nat.le_refl _⟩, by repeat (first | exact Drawn0.refl _ | apply Drawn0.step)⟩
 clear H'
 (try clear c1); (try clear p2)
 obtain ⟨aa, rfl, HA, aj, ⟨m1, rfl⟩⟩ := hrel
 cases gk with
 | zero => exact absurd HA.out (by simp [slices_Compare_int_int.l0])
 | succ k1 => ?_
 have H := HA.out
 clear HA
 simp only [slices_Compare_int_int.l0] at H
 by_cases c3 : aa < (l0.length : Int)
 ·
  rw [if_pos c3] at H
  have ai : decide (aa < (l0.length : Int)) = true := decide_eq_true c3
  clear c3
  have c4 : 0 ≤ aa := Classical.byContradiction fun c_ => by rw [if_neg c_] at H; exact absurd H (by simp)
  rw [if_pos c4] at H
  have am : decide (0 ≤ aa) = true := decide_eq_true c4
  clear c4
  have c5 : aa < (l0.length : Int) := Classical.byContradiction fun c_ => by rw [if_neg c_] at H; exact absurd H (by simp)
  rw [if_pos c5] at H
  have al : decide (aa < (l0.length : Int)) = true := decide_eq_true c5
  clear c5
  by_cases c6 : aa ≥ (l1.length : Int)
  ·
   rw [if_pos c6] at H
   have ah : decide ((l1.length : Int) ≤ aa) = true := decide_eq_true c6
   clear c6
   obtain rfl := Option.some.inj H
   have p159 : 0 ≤ (aa : Int) := of_decide_eq_true (by first | (with_reducible assumption) | assumption)
   have q159 : aa < (l0.length : Int) := of_decide_eq_true (by first | (with_reducible assumption) | assumption)
   obtain ⟨ad159, e159, ab⟩ := Kd.at_int HR0.out aa p159 q159
   cases e159
   replace p159 := eq_true p159
   replace q159 := eq_true q159
   go_wp2
   go_ret
   exact ⟨by first | rfl | (simp; done) | (simp [*]; done), by repeat (first | exact Drawn0.refl _ | apply Drawn0.step)⟩
  rw [if_neg c6] at H
  have ah : decide ((l1.length : Int) ≤ aa) = false := decide_eq_false c6
  clear c6
  have c7 : aa < (l1.length : Int) := Classical.byContradiction fun c_ => by rw [if_neg c_] at H; exact absurd H (by simp)
  rw [if_pos c7] at H
  have ak : decide (aa < (l1.length : Int)) = true := decide_eq_true c7
  clear c7
  replace H := Option.bind_eq_some_iff.mp H
  obtain ⟨t161, A80, H⟩ := H
  replace H : (if t161 = 0 then (slices_Compare_int_int.l0 k1 l0 l1 l0 (l0.length : Int) (wrap64 (aa + 1))) else (some t161)) = some r := H
  have A8 := Aside0.mk A80
  clear A80
  by_cases c9 : t161 = 0
  ·
   rw [if_pos c9] at H
   have ag : (t161 == 0) = true := beq_iff_eq.mpr c9
   have af : (t161 != 0) = false := bne_eq_false_iff_eq.mpr c9
   clear c9
   have H' := Aside0.mk H
   clear H
   have p159 : 0 ≤ (aa : Int) := of_decide_eq_true (by first | (with_reducible assumption) | assumption)
   have q159 : aa < (l0.length : Int) := of_decide_eq_true (by first | (with_reducible assumption) | assumption)
   obtain ⟨ad159, e159, ab⟩ := Kd.at_int HR0.out aa p159 q159
   cases e159
   replace p159 := eq_true p159
   replace q159 := eq_true q159
   have p160 : 0 ≤ (aa : Int) := of_decide_eq_true (by first | (with_reducible assumption) | assumption)
   have q160 : aa < (l1.length : Int) := of_decide_eq_true (by first | (with_reducible assumption) | assumption)
   obtain ⟨ad160, e160, ac⟩ := Kd.at_int HR1.out aa p160 q160
   cases e160
   replace p160 := eq_true p160
   replace q160 := eq_true q160
   go_wp2_with (first | ((with_reducible refine gate_callee (f := 122) rfl ?_); refine goesL_ (some 26) rfl rfl Try.func122 (by kernel_rfl) rfl #[.int .i64 (rd l0 aa), .int .i64 (rd l1 aa)] rfl (by (try simp only [List.map_toArray, List.map_cons, List.map_nil]); first | done | rfl | (simp only [List.length_drop, List.length_take]; rfl)) ?_; (with_reducible refine (cmp_Compare_int.calls (rd l0 aa) (rd l1 aa) t161 _ A8.out).mono ?_); rintro e w' ⟨rfl, ⟨nd, rfl⟩⟩; refine ⟨_, rfl, ?_⟩))
   go_roundg k1
   case measure => have := aj.out; omega
   case rel => exact ⟨(wrap64 (aa + 1)), (by first | rfl | (simp; done) | (simp [*]; done)), H', ⟨by have := aj.out; omega⟩, by repeat (first | exact Drawn0.refl _ | apply Drawn0.step)⟩
  rw [if_neg c9] at H
  have ag : (t161 == 0) = false := beq_eq_false_iff_ne.mpr c9
  have af : (t161 != 0) = true := bne_iff_ne.mpr c9
  obtain rfl := Option.some.inj H
  have p159 : 0 ≤ (aa : Int) := of_decide_eq_true (by first | (with_reducible assumption) | assumption)
  have q159 : aa < (l0.length : Int) := of_decide_eq_true (by first | (with_reducible assumption) | assumption)
  obtain ⟨ad159, e159, ab⟩ := Kd.at_int HR0.out aa p159 q159
  cases e159
  replace p159 := eq_true p159
  replace q159 := eq_true q159
  have p160 : 0 ≤ (aa : Int) := of_decide_eq_true (by first | (with_reducible assumption) | assumption)
  have q160 : aa < (l1.length : Int) := of_decide_eq_true (by first | (with_reducible assumption) | assumption)
  obtain ⟨ad160, e160, ac⟩ := Kd.at_int HR1.out aa p160 q160
  cases e160
  replace p160 := eq_true p160
  replace q160 := eq_true q160
  go_wp2_with (first | ((with_reducible refine gate_callee (f := 122) rfl ?_); refine goesL_ (some 26) rfl rfl Try.func122 (by kernel_rfl) rfl #[.int .i64 (rd l0 aa), .int .i64 (rd l1 aa)] rfl (by (try simp only [List.map_toArray, List.map_cons, List.map_nil]); first | done | rfl | (simp only [List.length_drop, List.length_take]; rfl)) ?_; (with_reducible refine (cmp_Compare_int.calls (rd l0 aa) (rd l1 aa) t161 _ A8.out).mono ?_); rintro e w' ⟨rfl, ⟨nd, rfl⟩⟩; refine ⟨_, rfl, ?_⟩))
  go_ret
  exact ⟨by first | rfl | (simp; done) | (simp [*]; done), by repeat (first | exact Drawn0.refl _ | apply Drawn0.step)⟩
 rw [if_neg c3] at H
 have ai : decide (aa < (l0.length : Int)) = false := decide_eq_false c3
 clear c3
 by_cases c10 : (l0.length : Int) < (l1.length : Int)
 ·
  rw [if_pos c10] at H
  have ae : decide ((l0.length : Int) < (l1.length : Int)) = true := decide_eq_true c10
  have ad : decide (l0.length < l1.length) = true := decide_eq_true (Int.ofNat_lt.mp c10)
  clear c10
  obtain rfl := Option.some.inj H
  go_wp2
  go_ret
  exact ⟨by first | rfl | (simp; done) | (simp [*]; done), by repeat (first | exact Drawn0.refl _ | apply Drawn0.step)⟩
 rw [if_neg c10] at H
 have ae : decide ((l0.length : Int) < (l1.length : Int)) = false := decide_eq_false c10
 have ad : decide (l0.length < l1.length) = false := decide_eq_false (fun h => c10 (Int.ofNat_lt.mpr h))
 clear c10
 obtain rfl := Option.some.inj H
 go_wp2
 go_ret
 exact ⟨by first | rfl | (simp; done) | (simp [*]; done), by repeat (first | exact Drawn0.refl _ | apply Drawn0.step)⟩
end Go.Proofs.Ytcdjeimjbbknjaa.PAll
namespace Go.Proofs.Ytcdjeimjbbknjaa.PAll
open Go.RowKit Go.Proofs.YtcdjeimjbbknjaaW.PrintWords Go.Proofs.YtcdjeimjbbknjaaW.PrintLast Go.Proofs.YtcdjeimjbbknjaaW.PrintMore
set_option linter.unusedVariables false
set_option linter.unusedSimpArgs false
attribute [local go_sem] max2_int min2_int max_two min_two max_three min_three max_four min_four

def slices_Clone_int_int.f (l0 : List Int) : Option (List Int) := if l0.length < 17592186044416 then some l0 else none
theorem clone_nil (n c0 : Nat) (w : World) :
    Calls Try.prog 75 #[.slice none n c0] w fun e w' => ∃ v0_ : Value, e = .returned (v0_) ∧ Kd.R (Kd.int .i64) 3 w' w.heap.size (fun _ => True) v0_ [] ∧ Below w.heap.size w w' := by
 have heq := fun W => Lib.run_eql_slice_nil (P := Try.prog) W 22 3 none n c0 0 0 Try.underlying22
 simp only [Option.isNone_none] at heq
 go_enter Try.func75, Try.ntmps75
 go_wp2
 go_ret
 exact ⟨_, rfl, Kd.R_nil _ _ _ _ _, Below.refl _ _⟩
theorem clone_some (ad : Addr) (l0 : List Int) (c0 : Nat) (hlim : l0.length < 17592186044416) (w : World) (hr0 : Kd.C (Kd.int .i64) w (some ad) l0.length l0) :
    Calls Try.prog 75 #[.slice (some ad) l0.length c0] w fun e w' => ∃ v0_ : Value, e = .returned (v0_) ∧ Kd.R (Kd.int .i64) 3 w' w.heap.size (fun _ => True) v0_ l0 ∧ Below w.heap.size w w' := by
 have heq := fun W => Lib.run_eql_slice_nil (P := Try.prog) W 22 3 (some ad) l0.length c0 0 0 Try.underlying22
 simp only [Option.isNone_some] at heq
 have HR := Aside0.mk (Kd.C_below hr0 (below_alloc (Below.refl _ w) (.cells #[] 3)))
 clear hr0
 have HO := Aside0.mk (Kd.R_of_own (h1 := fun _ => rfl) (own_lit_of (enc := Value.int .i64) w w.heap.size 3 [] (Nat.le_refl _) (by simp)) (fun _ _ => trivial : ∀ k, _ → True))
 have HL := Aside0.mk hlim
 clear hlim
 go_enter Try.func75, Try.ntmps75
 go_wp2_with (at_builtin; refine Kd.R_append_rows (Kd.int .i64) (w0 := w) w.heap.size rfl (.tmp 5) (.tmp 6) 22 3 (.int .i64 0) 8 rfl Try.underlying22 info3 rfl (by decide) (by omega) (.slice (some ⟨w.heap.size, 0, none⟩) 0 0) ([] : List Int) l0 (some ad) l0.length c0 (fun _ => True) (fun _ => False) rfl rfl HO.out HR.out (fun _ _ h => h) (fun _ h => h.elim) (fun _ _ => trivial) (below_alloc (Below.refl _ _) _) (by simp) (by have := HL.out; simp only [List.length_nil]; omega) ?_; intro v1 w1 HO1 HB1 _ _)
 go_ret
 exact ⟨_, rfl, by simpa using HO1, HB1⟩
theorem slices_Clone_int_int.calls (A0 : Option Addr) (c0 : Nat) (l0 : List Int) (r : List Int) (w : World) (hr0 : Kd.C (Kd.int .i64) w A0 l0.length l0) (hc0 : l0.length ≤ c0) (h : slices_Clone_int_int.f l0 = some r) :
    Calls Try.prog 75 #[.slice A0 l0.length c0] w fun e w' => ∃ v0_ : Value, e = .returned (v0_) ∧ Kd.R (Kd.int .i64) 3 w' w.heap.size (fun _ => True) v0_ r ∧ Below w.heap.size w w' := by
 unfold slices_Clone_int_int.f at h
 split at h
 case isFalse => cases h
 case isTrue hh =>
 obtain rfl := Option.some.inj h
 rcases A0 with _ | ad
 ·
  have h0 : l0 = [] := by
   rcases Nat.eq_zero_or_pos l0.length with h0 | h0
   ·
    exact List.eq_nil_of_length_eq_zero h0
   ·
    obtain ⟨ad, h', _⟩ := hr0.2.2 h0
    cases h'
  subst h0
  exact clone_nil _ c0 w
 ·
  exact clone_some ad l0 c0 hh w hr0
end Go.Proofs.Ytcdjeimjbbknjaa.PAll
namespace Go.Proofs.Ytcdjeimjbbknjaa.PAll
open Go.RowKit Go.Proofs.YtcdjeimjbbknjaaW.PrintWords Go.Proofs.YtcdjeimjbbknjaaW.PrintLast Go.Proofs.YtcdjeimjbbknjaaW.PrintMore
attribute [local go_sem] max2_int min2_int max_two min_two max_three min_three max_four min_four   -- for this text's walks alone
set_option linter.unusedVariables false
set_option linter.unusedSimpArgs false

def wordbookref01_SameInts.l0 : Nat → List Int → List Int → Int → Option (Bool)
  | 0, _, _, _ => none
  | k + 1, x0, x1, x5 => if x5 < (x0.length : Int) then (if 0 ≤ x5 then (if x5 < (x1.length : Int) then (if (rd x0 x5) = (rd x1 x5) then (wordbookref01_SameInts.l0 k x0 x1 (wrap64 (x5 + 1))) else (some false)) else (none)) else (none)) else (some true)
def wordbookref01_SameInts.f (k : Nat) (l0 : List Int) (l1 : List Int) : Option (Bool) := if (l0.length : Int) = (l1.length : Int) then (wordbookref01_SameInts.l0 k l0 l1 0) else (some false)
set_option maxHeartbeats 8000000 in
set_option maxRecDepth 100000 in
theorem wordbookref01_SameInts.calls (k : Nat) (A0 : Option Addr) (c0 : Nat) (l0 : List Int) (A1 : Option Addr) (c1 : Nat) (l1 : List Int) (r : Bool) (w : World) (hr0 : Kd.C (Kd.int .i64) w A0 l0.length l0) (hc0 : l0.length ≤ c0) (hr1 : Kd.C (Kd.int .i64) w A1 l1.length l1) (hc1 : l1.length ≤ c1) (h : wordbookref01_SameInts.f k l0 l1 = some r) :
    Calls Try.prog 27 #[.slice A0 l0.length c0, .slice A1 l1.length c1] w fun e w' => e = .returned (.bool r) ∧ Drawn0 w w' := by
 have HR0 := Aside0.mk hr0
 have HC0 := Aside0.mk hc0
 clear hr0 hc0
 have HR1 := Aside0.mk hr1
 have HC1 := Aside0.mk hc1
 clear hr1 hc1
 have H : (if (l0.length : Int) = (l1.length : Int) then (wordbookref01_SameInts.l0 k l0 l1 0) else (some false)) = some r := h
 clear h
 by_cases c3 : (l0.length : Int) = (l1.length : Int)
 ·
  rw [if_pos c3] at H
  have af : ((l0.length : Int) == (l1.length : Int)) = true := beq_iff_eq.mpr c3
  have ae : ((l0.length : Int) != (l1.length : Int)) = false := bne_eq_false_iff_eq.mpr c3
  have ad : (l0.length == l1.length) = true := by first | simpa using c3 | (simp at c3 ⊢; omega)
  clear c3
  have H' := Aside0.mk H
  clear H
  go_enter Try.func27, Try.ntmps27
  go_wp2
  repeat (go_quiet (fail); try go_wp2)
  go_loopg [5] k (fun kq v5 w' => ∃ (aa : Int), v5 = .int .i64 aa ∧ Aside0 (wordbookref01_SameInts.l0 kq l0 l1 aa = some r) ∧ Aside0 (kq ≤ k) ∧ Drawn0 w w')
  case atStart => exact ⟨(0), (by first | rfl | (simp; done) | (simp [*]; done)), H', ⟨Nat.le_refl _⟩, by repeat (first | exact Drawn0.refl _ | apply Drawn0.step)⟩
  clear H'
  (try clear c1); (try clear c2); (try clear p2); (try clear c3); (try clear af); (try clear ae); (try clear ad)
  obtain ⟨aa, rfl, HA, aj, ⟨m1, rfl⟩⟩ := hrel
  cases gk with
  | zero => exact absurd HA.out (by simp [wordbookref01_SameInts.l0])
  | succ k1 => ?_
  have H := HA.out
  clear HA
  simp only [wordbookref01_SameInts.l0] at H
  by_cases c4 : aa < (l0.length : Int)
  ·
   rw [if_pos c4] at H
   have ai : decide (aa < (l0.length : Int)) = true := decide_eq_true c4
   clear c4
   have c5 : 0 ≤ aa := Classical.byContradiction fun c_ => by rw [if_neg c_] at H; exact absurd H (by simp)
   rw [if_pos c5] at H
   have al : decide (0 ≤ aa) = true := decide_eq_true c5
   clear c5
   have c6 : aa < (l1.length : Int) := Classical.byContradiction fun c_ => by rw [if_neg c_] at H; exact absurd H (by simp)
   rw [if_pos c6] at H
   have ak : decide (aa < (l1.length : Int)) = true := decide_eq_true c6
   clear c6
   by_cases c7 : (rd l0 aa) = (rd l1 aa)
   ·
    rw [if_pos c7] at H
    have ah : ((rd l0 aa) == (rd l1 aa)) = true := beq_iff_eq.mpr c7
    have ag : ((rd l0 aa) != (rd l1 aa)) = false := bne_eq_false_iff_eq.mpr c7
    clear c7
    have H' := Aside0.mk H
    clear H
    have p175 : 0 ≤ (aa : Int) := of_decide_eq_true (by first | (with_reducible assumption) | assumption)
    have q175 : aa < (l0.length : Int) := of_decide_eq_true (by first | (with_reducible assumption) | assumption)
    obtain ⟨ad175, e175, ac⟩ := Kd.at_int HR0.out aa p175 q175
    cases e175
    replace p175 := eq_true p175
    replace q175 := eq_true q175
    have p176 : 0 ≤ (aa : Int) := of_decide_eq_true (by first | (with_reducible assumption) | assumption)
    have q176 : aa < (l1.length : Int) := of_decide_eq_true (by first | (with_reducible assumption) | assumption)
    obtain ⟨ad176, e176, ab⟩ := Kd.at_int HR1.out aa p176 q176
    cases e176
    replace p176 := eq_true p176
    replace q176 := eq_true q176
    go_wp2
    repeat (go_quiet (fail); try go_wp2)
    go_roundg k1
    case measure => have := aj.out; omega
    case rel => exact ⟨(wrap64 (aa + 1)), (by first | rfl | (simp; done) | (simp [*]; done)), H', ⟨by have := aj.out; omega⟩, by repeat (first | exact Drawn0.refl _ | apply Drawn0.step)⟩
   rw [if_neg c7] at H
   have ah : ((rd l0 aa) == (rd l1 aa)) = false := beq_eq_false_iff_ne.mpr c7
   have ag : ((rd l0 aa) != (rd l1 aa)) = true := bne_iff_ne.mpr c7
   obtain rfl := Option.some.inj H
   have p175 : 0 ≤ (aa : Int) := of_decide_eq_true (by first | (with_reducible assumption) | assumption)
   have q175 : aa < (l0.length : Int) := of_decide_eq_true (by first | (with_reducible assumption) | assumption)
   obtain ⟨ad175, e175, ac⟩ := Kd.at_int HR0.out aa p175 q175
   cases e175
   replace p175 := eq_true p175
   replace q175 := eq_true q175
   have p176 : 0 ≤ (aa : Int) := of_decide_eq_true (by first | (with_reducible assumption) | assumption)
   have q176 : aa < (l1.length : Int) := of_decide_eq_true (by first | (with_reducible assumption) | assumption)
   obtain ⟨ad176, e176, ab⟩ := Kd.at_int HR1.out aa p176 q176
   cases e176
   replace p176 := eq_true p176
   replace q176 := eq_true q176
   go_wp2
   repeat (go_quiet (fail); try go_wp2)
   go_ret
   exact ⟨by first | rfl | (simp; done) | (simp [*]; done), by repeat (first | exact Drawn0.refl _ | apply Drawn0.step)⟩
  rw [if_neg c4] at H
  have ai : decide (aa < (l0.length : Int)) = false := decide_eq_false c4
  clear c4
  obtain rfl := Option.some.inj H
  go_wp2
  repeat (go_quiet (fail); try go_wp2)
  go_ret
  exact ⟨by first | rfl | (simp; done) | (simp [*]; done), by repeat (first | exact Drawn0.refl _ | apply Drawn0.step)⟩
 rw [if_neg c3] at H
 have af : ((l0.length : Int) == (l1.length : Int)) = false := beq_eq_false_iff_ne.mpr c3
 have ae : ((l0.length : Int) != (l1.length : Int)) = true := bne_iff_ne.mpr c3
 have ad : (l0.length == l1.length) = false := by first | simpa using c3 | (simp at c3 ⊢; omega)
 obtain rfl := Option.some.inj H
 go_enter Try.func27, Try.ntmps27
 go_wp2
 repeat (go_quiet (fail); try go_wp2)
 go_ret
 exact ⟨by first | rfl | (simp; done) | (simp [*]; done), by repeat (first | exact Drawn0.refl _ | apply Drawn0.step)⟩
def cmp_Less_int.f (a0 : Int) (a1 : Int) : Option (Bool) := (cmp_isNaN_int.f a0).bind fun t208 => (if t208 = true then ((cmp_isNaN_int.f a1).bind fun t209 => (if t209 = true then (some (decide (a0 < a1))) else (some true))) else (some (decide (a0 < a1))))
set_option maxHeartbeats 8000000 in
set_option maxRecDepth 100000 in
theorem cmp_Less_int.calls (a0 : Int) (a1 : Int) (r : Bool) (w : World) (h : cmp_Less_int.f a0 a1 = some r) :
    Calls Try.prog 108 #[.int .i64 a0, .int .i64 a1] w fun e w' => e = .returned (.bool r) ∧ Drawn0 w w' := by
 have H : ((cmp_isNaN_int.f a0).bind fun t208 => (if t208 = true then ((cmp_isNaN_int.f a1).bind fun t209 => (if t209 = true then (some (decide (a0 < a1))) else (some true))) else (some (decide (a0 < a1))))) = some r := h
 clear h
 replace H := Option.bind_eq_some_iff.mp H
 obtain ⟨t208, A30, H⟩ := H
 replace H : (if t208 = true then ((cmp_isNaN_int.f a1).bind fun t209 => (if t209 = true then (some (decide (a0 < a1))) else (some true))) else (some (decide (a0 < a1)))) = some r := H
 have A3 := Aside0.mk A30
 clear A30
 by_cases c4 : t208 = true
 ·
  subst c4
  have H1 : ((cmp_isNaN_int.f a1).bind fun t209 => (if t209 = true then (some (decide (a0 < a1))) else (some true))) = some r := by rw [if_pos rfl] at H; exact H
  clear H
  have H := H1
  clear H1
  replace H := Option.bind_eq_some_iff.mp H
  obtain ⟨t209, A50, H⟩ := H
  replace H : (if t209 = true then (some (decide (a0 < a1))) else (some true)) = some r := H
  have A5 := Aside0.mk A50
  clear A50
  by_cases c6 : t209 = true
  ·
   subst c6
   have H1 : (some (decide (a0 < a1))) = some r := by rw [if_pos rfl] at H; exact H
   clear H
   have H := H1
   clear H1
   obtain rfl := Option.some.inj H
   go_enter Try.func108, Try.ntmps108
   go_wp2_with (first | ((with_reducible refine gate_callee (f := 125) rfl ?_); refine goesL_ (some 6) rfl rfl Try.func125 (by kernel_rfl) rfl #[.int .i64 a0] rfl (by (try simp only [List.map_toArray, List.map_cons, List.map_nil]); first | done | rfl | (simp only [List.length_drop, List.length_take]; rfl)) ?_; (with_reducible refine (cmp_isNaN_int.calls a0 true _ A3.out).mono ?_); rintro e w' ⟨rfl, ⟨nd, rfl⟩⟩; refine ⟨_, rfl, ?_⟩) | (go_at_call 125; (with_reducible refine (cmp_isNaN_int.calls a1 true _ A5.out).mono ?_); rintro e w' ⟨rfl, ⟨nd, rfl⟩⟩))
   go_ret
   exact ⟨by first | rfl | (simp; done) | (simp [*]; done), by repeat (first | exact Drawn0.refl _ | apply Drawn0.step)⟩
  replace c6 := Bool.eq_false_iff.mpr c6
  subst c6
  have H1 : (some true) = some r := by rw [if_neg (show ¬ (false = true) by decide)] at H; exact H
  clear H
  have H := H1
  clear H1
  obtain rfl := Option.some.inj H
  go_enter Try.func108, Try.ntmps108
  go_wp2_with (first | ((with_reducible refine gate_callee (f := 125) rfl ?_); refine goesL_ (some 6) rfl rfl Try.func125 (by kernel_rfl) rfl #[.int .i64 a0] rfl (by (try simp only [List.map_toArray, List.map_cons, List.map_nil]); first | done | rfl | (simp only [List.length_drop, List.length_take]; rfl)) ?_; (with_reducible refine (cmp_isNaN_int.calls a0 true _ A3.out).mono ?_); rintro e w' ⟨rfl, ⟨nd, rfl⟩⟩; refine ⟨_, rfl, ?_⟩) | (go_at_call 125; (with_reducible refine (cmp_isNaN_int.calls a1 false _ A5.out).mono ?_); rintro e w' ⟨rfl, ⟨nd, rfl⟩⟩))
  go_ret
  exact ⟨by first | rfl | (simp; done) | (simp [*]; done), by repeat (first | exact Drawn0.refl _ | apply Drawn0.step)⟩
 replace c4 := Bool.eq_false_iff.mpr c4
 subst c4
 have H1 : (some (decide (a0 < a1))) = some r := by rw [if_neg (show ¬ (false = true) by decide)] at H; exact H
 clear H
 have H := H1
 clear H1
 obtain rfl := Option.some.inj H
 go_enter Try.func108, Try.ntmps108
 go_wp2_with (first | ((with_reducible refine gate_callee (f := 125) rfl ?_); refine goesL_ (some 6) rfl rfl Try.func125 (by kernel_rfl) rfl #[.int .i64 a0] rfl (by (try simp only [List.map_toArray, List.map_cons, List.map_nil]); first | done | rfl | (simp only [List.length_drop, List.length_take]; rfl)) ?_; (with_reducible refine (cmp_isNaN_int.calls a0 false _ A3.out).mono ?_); rintro e w' ⟨rfl, ⟨nd, rfl⟩⟩; refine ⟨_, rfl, ?_⟩))
 go_ret
 exact ⟨by first | rfl | (simp; done) | (simp [*]; done), by repeat (first | exact Drawn0.refl _ | apply Drawn0.step)⟩
def slices_isNaN_int.f (a0 : Int) : Option (Bool) := some (a0 != a0)
set_option maxHeartbeats 8000000 in
set_option maxRecDepth 100000 in
theorem slices_isNaN_int.calls (a0 : Int) (r : Bool) (w : World) (h : slices_isNaN_int.f a0 = some r) :
    Calls Try.prog 109 #[.int .i64 a0] w fun e w' => e = .returned (.bool r) ∧ Drawn0 w w' := by
 have H : (some (a0 != a0)) = some r := h
 clear h
 obtain rfl := Option.some.inj H
 go_enter Try.func109, Try.ntmps109
 go_wp2
 go_ret
 exact ⟨by first | rfl | (simp; done) | (simp [*]; done), by repeat (first | exact Drawn0.refl _ | apply Drawn0.step)⟩
def slices_BinarySearch_int_int.l0 : Nat → List Int → Int → Int → Int → Int → Option (Int × Bool)
  | 0, _, _, _, _, _ => none
  | k + 1, x0, x1, x6, x7, x8 => if x7 < x8 then (if 0 ≤ (wrap64 ((IntKind.u64.wrap (wrap64 (x7 + x8))) / 2)) then (if (wrap64 ((IntKind.u64.wrap (wrap64 (x7 + x8))) / 2)) < (x0.length : Int) then ((cmp_Less_int.f (rd x0 (wrap64 ((IntKind.u64.wrap (wrap64 (x7 + x8))) / 2))) x1).bind fun t211 => (if t211 = true then (slices_BinarySearch_int_int.l0 k x0 x1 x6 (wrap64 ((wrap64 ((IntKind.u64.wrap (wrap64 (x7 + x8))) / 2)) + 1)) x8) else (slices_BinarySearch_int_int.l0 k x0 x1 x6 x7 (wrap64 ((IntKind.u64.wrap (wrap64 (x7 + x8))) / 2))))) else (none)) else (none)) else (if x7 < x6 then (if 0 ≤ x7 then (if x7 < (x0.length : Int) then (if (rd x0 x7) = x1 then (some (x7, true)) else ((slices_isNaN_int.f (rd x0 x7)).bind fun t214 => (if t214 = true then ((slices_isNaN_int.f x1).bind fun t215 => (some (x7, t215))) else (some (x7, false))))) else (none)) else (none)) else (some (x7, false)))
def slices_BinarySearch_int_int.f (k : Nat) (l0 : List Int) (a1 : Int) : Option (Int × Bool) := slices_BinarySearch_int_int.l0 k l0 a1 (l0.length : Int) 0 (l0.length : Int)
set_option maxHeartbeats 8000000 in
set_option maxRecDepth 100000 in
theorem slices_BinarySearch_int_int.calls (k : Nat) (A0 : Option Addr) (c0 : Nat) (l0 : List Int) (a1 : Int) (r1 : Int) (r2 : Bool) (w : World) (hr0 : Kd.C (Kd.int .i64) w A0 l0.length l0) (hc0 : l0.length ≤ c0) (h : slices_BinarySearch_int_int.f k l0 a1 = some (r1, r2)) :
    Calls Try.prog 76 #[.slice A0 l0.length c0, .int .i64 a1] w fun e w' => e = .returned (.tuple #[.int .i64 r1, .bool r2]) ∧ Drawn0 w w' := by
 have HR0 := Aside0.mk hr0
 have HC0 := Aside0.mk hc0
 clear hr0 hc0
 have H : (slices_BinarySearch_int_int.l0 k l0 a1 (l0.length : Int) 0 (l0.length : Int)) = some (r1, r2) := h
 clear h
 have H' := Aside0.mk H
 clear H
 go_enter Try.func76, Try.ntmps76
 go_wp2
 go_loopg [7, 8] k (fun kq v7 v8 w' => ∃ (aa : Int) (ab : Int), v7 = .int .i64 aa ∧ v8 = .int .i64 ab ∧ Aside0 (slices_BinarySearch_int_int.l0 kq l0 a1 (l0.length : Int) aa ab = some (r1, r2)) ∧ Aside0 (kq ≤ k) ∧ Drawn0 w w')
 case atStart => exact ⟨(0), ((l0.length : Int)), (by first | rfl | (simp; done) | (simp [*]; done)), (by first | rfl | (simp; done) | (simp [*]; done)), H', ⟨Nat.le_refl _⟩, by repeat (first | exact Drawn0.refl _ | apply Drawn0.step)⟩
 clear H'
 (try clear p2)
 obtain ⟨aa, ab, rfl, rfl, HA, ah, ⟨m1, rfl⟩⟩ := hrel
 cases gk with
 | zero => exact absurd HA.out (by simp [slices_BinarySearch_int_int.l0])
 | succ k1 => ?_
 have H := HA.out
 clear HA
 simp only [slices_BinarySearch_int_int.l0] at H
 by_cases c3 : aa < ab
 ·
  rw [if_pos c3] at H
  have aj : decide (aa < ab) = true := decide_eq_true c3
  clear c3
  obtain ⟨ji4, hji4⟩ : ∃ j_ : Int, (wrap64 ((IntKind.u64.wrap (wrap64 (aa + ab))) / 2)) = j_ := ⟨_, rfl⟩
  replace H : (if 0 ≤ (ji4) then (if (ji4) < (l0.length : Int) then ((cmp_Less_int.f (rd l0 (ji4)) a1).bind fun t211 => (if t211 = true then (slices_BinarySearch_int_int.l0 k1 l0 a1 (l0.length : Int) (wrap64 ((ji4) + 1)) ab) else (slices_BinarySearch_int_int.l0 k1 l0 a1 (l0.length : Int) aa ji4))) else (none)) else (none)) = some (r1, r2) := by first | (rw [hji4] at H; exact H) | (simp only [hji4] at H ⊢; exact H)
  have hji4w : (IntKind.i64.wrap ((IntKind.u64.wrap (wrap64 (aa + ab))) / 2)) = ji4 := (i64_w _).trans hji4
  have c5 : 0 ≤ (ji4) := Classical.byContradiction fun c_ => by rw [if_neg c_] at H; exact absurd H (by simp)
  rw [if_pos c5] at H
  have an : decide (0 ≤ (ji4)) = true := decide_eq_true c5
  clear c5
  have c6 : (ji4) < (l0.length : Int) := Classical.byContradiction fun c_ => by rw [if_neg c_] at H; exact absurd H (by simp)
  rw [if_pos c6] at H
  have am : decide ((ji4) < (l0.length : Int)) = true := decide_eq_true c6
  clear c6
  replace H := Option.bind_eq_some_iff.mp H
  obtain ⟨t211, A70, H⟩ := H
  replace H : (if t211 = true then (slices_BinarySearch_int_int.l0 k1 l0 a1 (l0.length : Int) (wrap64 ((ji4) + 1)) ab) else (slices_BinarySearch_int_int.l0 k1 l0 a1 (l0.length : Int) aa ji4)) = some (r1, r2) := H
  have A7 := Aside0.mk A70
  clear A70
  by_cases c8 : t211 = true
  ·
   subst c8
   have H1 : (slices_BinarySearch_int_int.l0 k1 l0 a1 (l0.length : Int) (wrap64 ((ji4) + 1)) ab) = some (r1, r2) := by rw [if_pos rfl] at H; exact H
   clear H
   have H := H1
   clear H1
   have H' := Aside0.mk H
   clear H
   have p210 : 0 ≤ ((ji4) : Int) := of_decide_eq_true (by first | (with_reducible assumption) | assumption)
   have q210 : (ji4) < (l0.length : Int) := of_decide_eq_true (by first | (with_reducible assumption) | assumption)
   obtain ⟨ad210, e210, ae⟩ := Kd.at_int HR0.out (ji4) p210 q210
   cases e210
   replace p210 := eq_true p210
   replace q210 := eq_true q210
   go_wp2_with (first | ((with_reducible refine gate_callee (f := 108) rfl ?_); refine goesL_ (some 27) rfl rfl Try.func108 (by kernel_rfl) rfl #[.int .i64 (rd l0 (ji4)), .int .i64 a1] rfl (by (try simp only [List.map_toArray, List.map_cons, List.map_nil]); first | done | (simp only [hji4]; rfl) | rfl | (simp only [List.length_drop, List.length_take]; rfl)) ?_; (with_reducible refine (cmp_Less_int.calls (rd l0 (ji4)) a1 true _ A7.out).mono ?_); rintro e w' ⟨rfl, ⟨nd, rfl⟩⟩; refine ⟨_, rfl, ?_⟩))
   go_roundg k1
   case measure => have := ah.out; omega
   case rel => exact ⟨(wrap64 ((ji4) + 1)), (ab), (by first | rfl | (simp; done) | (simp only [← hji4] <;> (first | rfl | simp)) | (simp [*]; done)), (by first | rfl | (simp; done) | (simp [*]; done)), H', ⟨by have := ah.out; omega⟩, by repeat (first | exact Drawn0.refl _ | apply Drawn0.step)⟩
  replace c8 := Bool.eq_false_iff.mpr c8
  subst c8
  have H1 : (slices_BinarySearch_int_int.l0 k1 l0 a1 (l0.length : Int) aa ji4) = some (r1, r2) := by rw [if_neg (show ¬ (false = true) by decide)] at H; exact H
  clear H
  have H := H1
  clear H1
  have H' := Aside0.mk H
  clear H
  have p210 : 0 ≤ ((ji4) : Int) := of_decide_eq_true (by first | (with_reducible assumption) | assumption)
  have q210 : (ji4) < (l0.length : Int) := of_decide_eq_true (by first | (with_reducible assumption) | assumption)
  obtain ⟨ad210, e210, ae⟩ := Kd.at_int HR0.out (ji4) p210 q210
  cases e210
  replace p210 := eq_true p210
  replace q210 := eq_true q210
  go_wp2_with (first | ((with_reducible refine gate_callee (f := 108) rfl ?_); refine goesL_ (some 27) rfl rfl Try.func108 (by kernel_rfl) rfl #[.int .i64 (rd l0 (ji4)), .int .i64 a1] rfl (by (try simp only [List.map_toArray, List.map_cons, List.map_nil]); first | done | (simp only [hji4]; rfl) | rfl | (simp only [List.length_drop, List.length_take]; rfl)) ?_; (with_reducible refine (cmp_Less_int.calls (rd l0 (ji4)) a1 false _ A7.out).mono ?_); rintro e w' ⟨rfl, ⟨nd, rfl⟩⟩; refine ⟨_, rfl, ?_⟩))
  go_roundg k1
  case measure => have := ah.out; omega
  case rel => exact ⟨(aa), (ji4), (by first | rfl | (simp; done) | (simp [*]; done)), (by first | rfl | (simp; done) | (simp only [← hji4] <;> (first | rfl | simp)) | (simp [*]; done)), H', ⟨by have := ah.out; omega⟩, by repeat (first | exact Drawn0.refl _ | apply Drawn0.step)⟩
 rw [if_neg c3] at H
 have aj : decide (aa < ab) = false := decide_eq_false c3
 clear c3
 by_cases c9 : aa < (l0.length : Int)
 ·
  rw [if_pos c9] at H
  have ai : decide (aa < (l0.length : Int)) = true := decide_eq_true c9
  clear c9
  have c10 : 0 ≤ aa := Classical.byContradiction fun c_ => by rw [if_neg c_] at H; exact absurd H (by simp)
  rw [if_pos c10] at H
  have al : decide (0 ≤ aa) = true := decide_eq_true c10
  clear c10
  have c11 : aa < (l0.length : Int) := Classical.byContradiction fun c_ => by rw [if_neg c_] at H; exact absurd H (by simp)
  rw [if_pos c11] at H
  have ak : decide (aa < (l0.length : Int)) = true := decide_eq_true c11
  clear c11
  by_cases c12 : (rd l0 aa) = a1
  ·
   rw [if_pos c12] at H
   have ag : ((rd l0 aa) == a1) = true := beq_iff_eq.mpr c12
   have af : ((rd l0 aa) != a1) = false := bne_eq_false_iff_eq.mpr c12
   clear c12
   simp only [Option.some.injEq, Prod.mk.injEq] at H
   obtain ⟨rfl, rfl⟩ := H
   have p212 : 0 ≤ (aa : Int) := of_decide_eq_true (by first | (with_reducible assumption) | assumption)
   have q212 : aa < (l0.length : Int) := of_decide_eq_true (by first | (with_reducible assumption) | assumption)
   obtain ⟨ad212, e212, ac⟩ := Kd.at_int HR0.out aa p212 q212
   cases e212
   replace p212 := eq_true p212
   replace q212 := eq_true q212
   go_wp2
   go_ret2
   exact ⟨by first | rfl | (simp; done) | (simp [*]; done), by repeat (first | exact Drawn0.refl _ | apply Drawn0.step)⟩
  rw [if_neg c12] at H
  have ag : ((rd l0 aa) == a1) = false := beq_eq_false_iff_ne.mpr c12
  have af : ((rd l0 aa) != a1) = true := bne_iff_ne.mpr c12
  replace H := Option.bind_eq_some_iff.mp H
  obtain ⟨t214, A130, H⟩ := H
  replace H : (if t214 = true then ((slices_isNaN_int.f a1).bind fun t215 => (some (aa, t215))) else (some (aa, false))) = some (r1, r2) := H
  have A13 := Aside0.mk A130
  clear A130
  by_cases c14 : t214 = true
  ·
   subst c14
   have H1 : ((slices_isNaN_int.f a1).bind fun t215 => (some (aa, t215))) = some (r1, r2) := by rw [if_pos rfl] at H; exact H
   clear H
   have H := H1
   clear H1
   replace H := Option.bind_eq_some_iff.mp H
   obtain ⟨t215, A150, H⟩ := H
   replace H : (some (aa, t215)) = some (r1, r2) := H
   have A15 := Aside0.mk A150
   clear A150
   simp only [Option.some.injEq, Prod.mk.injEq] at H
   obtain ⟨rfl, rfl⟩ := H
   have p212 : 0 ≤ (aa : Int) := of_decide_eq_true (by first | (with_reducible assumption) | assumption)
   have q212 : aa < (l0.length : Int) := of_decide_eq_true (by first | (with_reducible assumption) | assumption)
   obtain ⟨ad212, e212, ac⟩ := Kd.at_int HR0.out aa p212 q212
   cases e212
   replace p212 := eq_true p212
   replace q212 := eq_true q212
   have p213 : 0 ≤ (aa : Int) := of_decide_eq_true (by first | (with_reducible assumption) | assumption)
   have q213 : aa < (l0.length : Int) := of_decide_eq_true (by first | (with_reducible assumption) | assumption)
   obtain ⟨ad213, e213, ad⟩ := Kd.at_int HR0.out aa p213 q213
   obtain rfl : ad212 = ad213 := (by injection e213)
   replace p213 := eq_true p213
   replace q213 := eq_true q213
   go_wp2_with (first | (go_at_call 109; (with_reducible refine (slices_isNaN_int.calls (rd l0 aa) true _ A13.out).mono ?_); rintro e w' ⟨rfl, ⟨nd, rfl⟩⟩) | (go_at_call 109; (with_reducible refine (slices_isNaN_int.calls a1 t215 _ A15.out).mono ?_); rintro e w' ⟨rfl, ⟨nd, rfl⟩⟩))
   go_ret2
   exact ⟨by first | rfl | (simp; done) | (simp [*]; done), by repeat (first | exact Drawn0.refl _ | apply Drawn0.step)⟩
  replace c14 := Bool.eq_false_iff.mpr c14
  subst c14
  have H1 : (some (aa, false)) = some (r1, r2) := by rw [if_neg (show ¬ (false = true) by decide)] at H; exact H
  clear H
  have H := H1
  clear H1
  simp only [Option.some.injEq, Prod.mk.injEq] at H
  obtain ⟨rfl, rfl⟩ := H
  have p212 : 0 ≤ (aa : Int) := of_decide_eq_true (by first | (with_reducible assumption) | assumption)
  have q212 : aa < (l0.length : Int) := of_decide_eq_true (by first | (with_reducible assumption) | assumption)
  obtain ⟨ad212, e212, ac⟩ := Kd.at_int HR0.out aa p212 q212
  cases e212
  replace p212 := eq_true p212
  replace q212 := eq_true q212
  have p213 : 0 ≤ (aa : Int) := of_decide_eq_true (by first | (with_reducible assumption) | assumption)
  have q213 : aa < (l0.length : Int) := of_decide_eq_true (by first | (with_reducible assumption) | assumption)
  obtain ⟨ad213, e213, ad⟩ := Kd.at_int HR0.out aa p213 q213
  obtain rfl : ad212 = ad213 := (by injection e213)
  replace p213 := eq_true p213
  replace q213 := eq_true q213
  go_wp2_with (first | (go_at_call 109; (with_reducible refine (slices_isNaN_int.calls (rd l0 aa) false _ A13.out).mono ?_); rintro e w' ⟨rfl, ⟨nd, rfl⟩⟩))
  go_ret2
  exact ⟨by first | rfl | (simp; done) | (simp [*]; done), by repeat (first | exact Drawn0.refl _ | apply Drawn0.step)⟩
 rw [if_neg c9] at H
 have ai : decide (aa < (l0.length : Int)) = false := decide_eq_false c9
 clear c9
 simp only [Option.some.injEq, Prod.mk.injEq] at H
 obtain ⟨rfl, rfl⟩ := H
 go_wp2
 go_ret2
 exact ⟨by first | rfl | (simp; done) | (simp [*]; done), by repeat (first | exact Drawn0.refl _ | apply Drawn0.step)⟩
end Go.Proofs.Ytcdjeimjbbknjaa.PAll
namespace Go.Proofs.Ytcdjeimjbbknjaa.PAll
open Go.RowKit Go.Proofs.YtcdjeimjbbknjaaW.PrintWords Go.Proofs.YtcdjeimjbbknjaaW.PrintLast Go.Proofs.YtcdjeimjbbknjaaW.PrintMore
set_option linter.unusedVariables false
set_option linter.unusedSimpArgs false

def cmpL : List Int → List Int → Int
  | [], [] => 0
  | [], _ :: _ => -1
  | _ :: _, [] => 1
  | a :: u, b :: v => if a < b then -1 else if b < a then 1 else cmpL u v

theorem wrap_succ {i : Int} (h0 : 0 ≤ i) (h : i < 9223372036854775807) : wrap64 (i + 1) = i + 1 := by unfold wrap64; omega
theorem rd_drop {xs : List Int} {i : Nat} (h : i < xs.length) : xs.drop i = rd xs i :: xs.drop (i + 1) := by
 rw [List.drop_eq_getElem_cons h]
 simp [rd, List.getD_eq_getElem?_getD, List.getElem?_eq_getElem h]

theorem compare_int (a b : Int) : cmp_Compare_int.f a b = some (if a < b then -1 else if b < a then 1 else 0) := by
 unfold cmp_Compare_int.f cmp_isNaN_int.f
 simp
 split
 ·
  rfl
 ·
  split <;> rfl

theorem slices_Compare_tells (a b : List Int) (ha : a.length ≤ 9223372036854775807) (d : Nat) : ∀ (k i : Nat), a.length - i = d → i ≤ a.length → i ≤ b.length → d < k →
    slices_Compare_int_int.l0 k a b a (a.length : Int) (i : Int) = some (cmpL (a.drop i) (b.drop i)) := by
 induction d with
 | zero =>
  intro k i hd hi hib hk
  obtain ⟨k, rfl⟩ : ∃ m, k = m + 1 := ⟨k - 1, by omega⟩
  simp only [slices_Compare_int_int.l0]
  rw [if_neg (by omega), List.drop_of_length_le (by omega : a.length ≤ i)]
  by_cases hb : i < b.length
  ·
   rw [if_pos (by omega), rd_drop hb]; rfl
  ·
   rw [if_neg (by omega), List.drop_of_length_le (by omega : b.length ≤ i)]; rfl
 | succ d ih =>
  intro k i hd hi hib hk
  obtain ⟨k, rfl⟩ : ∃ m, k = m + 1 := ⟨k - 1, by omega⟩
  simp only [slices_Compare_int_int.l0]
  rw [if_pos (by omega), if_pos (by omega), if_pos (by omega), rd_drop (by omega : i < a.length)]
  by_cases hb : i < b.length
  ·
   rw [if_neg (by omega), if_pos (by omega), compare_int, rd_drop hb]
   simp only [Option.bind_some, cmpL]
   by_cases h1 : rd a i < rd b i
   ·
    rw [if_pos h1, if_neg (by omega), if_pos h1]
   ·
    rw [if_neg h1, if_neg h1]
    by_cases h2 : rd b i < rd a i
    ·
     rw [if_pos h2, if_neg (by omega), if_pos h2]
    ·
     rw [if_neg h2, if_pos rfl, if_neg h2, wrap_succ (by omega) (by omega)]
     have := ih k (i + 1) (by omega) (by omega) (by omega) (by omega)
     rwa [show (((i + 1 : Nat) : Int)) = (i : Int) + 1 from by omega] at this
  ·
   rw [if_pos (by omega), List.drop_of_length_le (by omega : b.length ≤ i)]; rfl
theorem slices_Compare_is (a b : List Int) (ha : a.length ≤ 9223372036854775807) (k : Nat) (hk : a.length < k) : slices_Compare_int_int.f k a b = some (cmpL a b) := by
 have := slices_Compare_tells a b ha a.length k 0 (by omega) (by omega) (by omega) hk
 simpa [slices_Compare_int_int.f] using this

theorem order_tells (a b : List Int) (ha : a.length ≤ 9223372036854775807) (d : Nat) : ∀ (k i : Nat), a.length - i = d → i ≤ a.length → i ≤ b.length → 2 * d + 1 < k →
    wordbookref06_Order.l0 k a b (i : Int) = some (cmpL (a.drop i) (b.drop i)) := by
 induction d with
 | zero =>
  intro k i hd hi hib hk
  obtain ⟨k, rfl⟩ : ∃ m, k = m + 1 + 1 := ⟨k - 2, by omega⟩
  simp only [wordbookref06_Order.l0]
  rw [if_neg (by omega)]
  simp only [wordbookref06_Order.j1]
  rw [if_neg (by simp), List.drop_of_length_le (by omega : a.length ≤ i)]
  by_cases hb : i < b.length
  ·
   rw [if_pos (by omega), rd_drop hb]; rfl
  ·
   rw [if_neg (by omega), if_neg (by omega), List.drop_of_length_le (by omega : b.length ≤ i)]; rfl
 | succ d ih =>
  intro k i hd hi hib hk
  obtain ⟨k, rfl⟩ : ∃ m, k = m + 1 + 1 := ⟨k - 2, by omega⟩
  simp only [wordbookref06_Order.l0]
  rw [if_pos (by omega)]
  simp only [wordbookref06_Order.j1]
  by_cases hb : i < b.length
  ·
   rw [if_pos (by simp; omega), if_pos (by omega), if_pos (by omega), if_pos (by omega), rd_drop (by omega : i < a.length), rd_drop hb]
   simp only [cmpL]
   by_cases h1 : rd a i < rd b i
   ·
    rw [if_pos h1, if_pos h1]
   ·
    rw [if_neg h1, if_neg h1]
    by_cases h2 : rd b i < rd a i
    ·
     rw [if_pos h2, if_pos h2]
    ·
     rw [if_neg (by omega), if_neg h2, wrap_succ (by omega) (by omega)]
     have := ih k (i + 1) (by omega) (by omega) (by omega) (by omega)
     rwa [show (((i + 1 : Nat) : Int)) = (i : Int) + 1 from by omega] at this
  ·
   rw [if_neg (by simp; omega), if_neg (by omega), if_pos (by omega), List.drop_of_length_le (by omega : b.length ≤ i), rd_drop (by omega : i < a.length)]; rfl
theorem order_is (a b : List Int) (ha : a.length ≤ 9223372036854775807) (k : Nat) (hk : 2 * a.length + 1 < k) : wordbookref06_Order.f k a b = some (cmpL a b) := by
 have := order_tells a b ha a.length k 0 (by omega) (by omega) (by omega) hk
 simpa [wordbookref06_Order.f] using this

theorem sameInts_tells (a b : List Int) (ha : a.length ≤ 9223372036854775807) (hl : a.length = b.length) (d : Nat) : ∀ (k i : Nat), a.length - i = d → i ≤ a.length → d < k →
    wordbookref01_SameInts.l0 k a b (i : Int) = some (decide (a.drop i = b.drop i)) := by
 induction d with
 | zero =>
  intro k i hd hi hk
  obtain ⟨k, rfl⟩ : ∃ m, k = m + 1 := ⟨k - 1, by omega⟩
  simp only [wordbookref01_SameInts.l0]
  rw [if_neg (by omega), List.drop_of_length_le (by omega : a.length ≤ i), List.drop_of_length_le (by omega : b.length ≤ i)]; rfl
 | succ d ih =>
  intro k i hd hi hk
  obtain ⟨k, rfl⟩ : ∃ m, k = m + 1 := ⟨k - 1, by omega⟩
  simp only [wordbookref01_SameInts.l0]
  rw [if_pos (by omega), if_pos (by omega), if_pos (by omega), rd_drop (by omega : i < a.length), rd_drop (by omega : i < b.length)]
  by_cases h1 : rd a i = rd b i
  ·
   rw [if_pos h1, wrap_succ (by omega) (by omega)]
   have := ih k (i + 1) (by omega) (by omega) (by omega)
   rw [show (((i + 1 : Nat) : Int)) = (i : Int) + 1 from by omega] at this
   rw [this]
   simp [h1]
  ·
   rw [if_neg h1]; simp [h1]
theorem sameInts_is (a b : List Int) (ha : a.length ≤ 9223372036854775807) (k : Nat) (hk : a.length < k) : wordbookref01_SameInts.f k a b = some (decide (a = b)) := by
 unfold wordbookref01_SameInts.f
 by_cases hl : a.length = b.length
 ·
  rw [if_pos (by omega)]
  have := sameInts_tells a b ha hl a.length k 0 (by omega) (by omega) (by omega)
  simpa using this
 ·
  rw [if_neg (by omega)]
  have : a ≠ b := fun h => hl (by rw [h])
  simp [this]
end Go.Proofs.Ytcdjeimjbbknjaa.PAll
namespace Go.Proofs.Ytcdjeimjbbknjaa.PAll
open Go.RowKit Go.Proofs.YtcdjeimjbbknjaaW.PrintWords Go.Proofs.YtcdjeimjbbknjaaW.PrintLast Go.Proofs.YtcdjeimjbbknjaaW.PrintMore
set_option linter.unusedVariables false
set_option linter.unusedSimpArgs false

abbrev Nd := S102
def rdN (N : List Nd) (i : Int) : Nd := rd_T102 N i
def pairKey (s t : Int) : List Int := [s % 256, t % 256, (t / 256) % 256, (t / 65536) % 256]
def restKey : List Int → List Int → List Int
  | s :: ss, t :: ts => pairKey s t ++ restKey ss ts
  | _, _ => []
def keyN (x : Nd) : List Int := (if x.f0 then 1 else 0) :: restKey x.f1 x.f2
def keyOf (x : Nd) : ByteArray := strOfNums (keyN x)
theorem restKey_length : ∀ ss ts : List Int, ss.length = ts.length → (restKey ss ts).length = 4 * ss.length
  | [], _, _ => rfl
  | s :: ss, [], h => by simp at h
  | s :: ss, t :: ts, h => by simp only [restKey, List.length_append, pairKey, List.length_cons, List.length_nil]; rw [restKey_length ss ts (by simpa using h)]; omega
theorem key_tells (f0 : Bool) (f3 : Int) (ss ts : List Int) (hl : ss.length = ts.length) (hb : ss.length < 1000000000000) (d : Nat) : ∀ (k i : Nat) (pre : List Int), ss.length - i = d → i ≤ ss.length → d < k → pre.length + 4 * d < 140737488355328 →
    dawg_node_key.l0 k pre ss (ss.length : Int) (i : Int) f0 ss ts f3 = some (strOfNums (pre ++ restKey (ss.drop i) (ts.drop i))) := by
 induction d with
 | zero =>
  intro k i pre hd hi hk hp
  obtain ⟨k, rfl⟩ : ∃ m, k = m + 1 := ⟨k - 1, by omega⟩
  simp only [dawg_node_key.l0]
  rw [if_neg (by omega), List.drop_of_length_le (by omega : ss.length ≤ i)]
  simp [restKey]
 | succ d ih =>
  intro k i pre hd hi hk hp
  obtain ⟨k, rfl⟩ : ∃ m, k = m + 1 := ⟨k - 1, by omega⟩
  simp only [dawg_node_key.l0]
  rw [if_pos (by omega), if_pos (by omega), if_pos (by omega), if_pos (by omega)]
  simp only [Option.bind_some]
  rw [if_pos (by simp only [List.length_cons, List.length_nil]; omega), wrap_succ (by omega) (by omega)]
  have := ih k (i + 1) (pre ++ [rd ss i % 256, rd ts i % 256, (rd ts i / 256) % 256, (rd ts i / 65536) % 256]) (by omega) (by omega) (by omega) (by simp only [List.length_append, List.length_cons, List.length_nil]; omega)
  rw [show (((i + 1 : Nat) : Int)) = (i : Int) + 1 from by omega] at this
  rw [this, rd_drop (by omega : i < ss.length), rd_drop (by omega : i < ts.length)]
  simp only [restKey, pairKey, List.append_assoc]
theorem key_is (x : Nd) (hl : x.f1.length = x.f2.length) (hb : x.f1.length < 1000000000000) (k : Nat) (hk : x.f1.length + 1 < k) : dawg_node_key.f k x.f0 x.f1 x.f2 x.f3 = some (keyOf x) := by
 obtain ⟨k, rfl⟩ : ∃ m, k = m + 1 := ⟨k - 1, by omega⟩
 obtain ⟨f0, ss, ts, f3⟩ := x
 dsimp only at hl hb hk ⊢
 unfold dawg_node_key.f keyOf keyN
 simp only [Option.bind_some]
 cases f0 with
 | true =>
  simp only [if_true]
  rw [if_pos (by simp)]
  simp only [dawg_node_key.j0]
  have := key_tells true f3 ss ts hl hb ss.length k 0 [1] (by omega) (by omega) (by omega) (by simp; omega)
  simpa using this
 | false =>
  simp only [Bool.false_eq_true, if_false]
  simp only [dawg_node_key.j0]
  have := key_tells false f3 ss ts hl hb ss.length k 0 [0] (by omega) (by omega) (by omega) (by simp; omega)
  simpa using this

def knownF (N : List Nd) (s : ByteArray) : Option Int := (N.findIdx? (fun y => decide (keyOf y = s))).map fun i : Nat => (i : Int)
def putN (N : List Nd) (x : Nd) : Int × List Nd :=
  match knownF N (keyOf x) with
  | some k => (k, N)
  | none => ((N.length : Int), N ++ [x])
def grpLen (at_ : Nat) (w : List Int) (l : List (List Int)) : Nat := (l.takeWhile fun v => rd v at_ == rd w at_).length
def kids (rec_ : List (List Int) → List Nd → Int × List Nd) (at_ : Nat) : Nat → List (List Int) → Nd → List Nd → Nd × List Nd
  | 0, _, x, N => (x, N)
  | _ + 1, [], x, N => (x, N)
  | n + 1, w :: l, x, N =>
    kids rec_ at_ n (l.drop (grpLen at_ w l))
      ⟨x.f0, x.f1 ++ [rd w at_], x.f2 ++ [(rec_ (w :: l.take (grpLen at_ w l)) N).1], wrap64 (x.f3 + (rdN (rec_ (w :: l.take (grpLen at_ w l)) N).2 (rec_ (w :: l.take (grpLen at_ w l)) N).1).f3)⟩
      (rec_ (w :: l.take (grpLen at_ w l)) N).2
def finB (l : List (List Int)) (at_ : Nat) : Bool := match l with | [] => false | w :: _ => w.length == at_
def startNd (l : List (List Int)) (at_ : Nat) : Nd := ⟨finB l at_, [], [], if finB l at_ then 1 else 0⟩
def restL (l : List (List Int)) (at_ : Nat) : List (List Int) := if finB l at_ then l.tail else l
def bld : Nat → List (List Int) → Nat → List Nd → Int × List Nd
  | 0, _, _, N => (0, N)
  | d + 1, l, at_, N => putN (kids (fun l N => bld d l (at_ + 1) N) at_ (restL l at_).length (restL l at_) (startNd l at_) N).2 (kids (fun l N => bld d l (at_ + 1) N) at_ (restL l at_).length (restL l at_) (startNd l at_) N).1

theorem knownF_snoc (N : List Nd) (x : Nd) (h : knownF N (keyOf x) = none) (s : ByteArray) : knownF (N ++ [x]) s = if s = keyOf x then some (N.length : Int) else knownF N s := by
 unfold knownF at h ⊢
 rw [List.findIdx?_append]
 by_cases hs : s = keyOf x
 ·
  subst hs
  rw [if_pos rfl]
  have h2 : N.findIdx? (fun y => decide (keyOf y = keyOf x)) = none := by simpa using h
  rw [h2]
  simp
 ·
  rw [if_neg hs]
  have h3 : List.findIdx? (fun y => decide (keyOf y = s)) [x] = none := by
   simp; exact fun e => hs e.symm
  rw [h3]
  simp
theorem knownF_lt (N : List Nd) (s : ByteArray) (k : Int) (h : knownF N s = some k) : 0 ≤ k ∧ k < N.length := by
 unfold knownF at h
 obtain ⟨i, hi, rfl⟩ := Option.map_eq_some_iff.1 h
 have := List.findIdx?_eq_some_iff_getElem.1 hi
 obtain ⟨h1, _⟩ := this
 omega
theorem putN_lt (N : List Nd) (x : Nd) : 0 ≤ (putN N x).1 ∧ (putN N x).1 < (putN N x).2.length ∧ (putN N x).2.length ≤ N.length + 1 := by
 unfold putN
 split
 ·
  rename_i k hk
  have := knownF_lt N _ k hk
  exact ⟨this.1, this.2, by simp⟩
 ·
  simp; omega

def Pre (l : List (List Int)) (at_ : Nat) : Prop := (∀ w ∈ l, at_ ≤ w.length) ∧ l.Pairwise fun u v => u.take at_ = v.take at_ ∧ cmpL u v = -1
theorem cmpL_prefix (p a b : List Int) : cmpL (p ++ a) (p ++ b) = cmpL a b := by
 induction p with
 | nil => rfl
 | cons x p ih => simp only [List.cons_append, cmpL, Int.lt_irrefl, if_false]; exact ih
theorem pre_head {w : List Int} {l : List (List Int)} {at_ : Nat} (h : Pre (w :: l) at_) : ∀ v ∈ l, at_ < v.length := by
 intro v hv
 have h1 := h.1 v (List.mem_cons_of_mem _ hv)
 obtain ⟨h2, h3⟩ := (List.pairwise_cons.1 h.2).1 v hv
 rcases Nat.lt_or_ge at_ v.length with hlt | hge
 ·
  exact hlt
 ·
  exfalso
  have hv' : v = w.take at_ := by rw [h2, List.take_of_length_le hge]
  have hw : w = v ++ w.drop at_ := by rw [hv', List.take_append_drop]
  rw [hw] at h3
  have h4 := cmpL_prefix v (w.drop at_) []
  rw [List.append_nil] at h4
  rw [h4] at h3
  cases hd : w.drop at_ with
  | nil => rw [hd] at h3; simp [cmpL] at h3
  | cons a b => rw [hd] at h3; simp [cmpL] at h3
theorem pre_tail {w : List Int} {l : List (List Int)} {at_ : Nat} (h : Pre (w :: l) at_) : Pre l at_ :=
  ⟨fun v hv => h.1 v (List.mem_cons_of_mem _ hv), (List.pairwise_cons.1 h.2).2⟩
theorem pre_drop {l : List (List Int)} {at_ : Nat} (h : Pre l at_) (n : Nat) : Pre (l.drop n) at_ :=
  ⟨fun v hv => h.1 v (List.mem_of_mem_drop hv), h.2.drop⟩
theorem restL_pre {l : List (List Int)} {at_ : Nat} (h : Pre l at_) : Pre (restL l at_) at_ ∧ ∀ v ∈ restL l at_, at_ < v.length := by
 cases l with
 | nil => exact ⟨by simpa [restL, finB] using h, by simp [restL, finB]⟩
 | cons w l =>
  by_cases hf : w.length = at_
  ·
   have : restL (w :: l) at_ = l := by simp [restL, finB, hf]
   rw [this]
   exact ⟨pre_tail h, pre_head h⟩
  ·
   have : restL (w :: l) at_ = w :: l := by simp [restL, finB, hf]
   rw [this]
   refine ⟨h, fun v hv => ?_⟩
   rcases List.mem_cons.1 hv with rfl | hv
   ·
    have := h.1 v List.mem_cons_self; omega
   ·
    exact pre_head h v hv
theorem take_succ_rd {w : List Int} {n : Nat} (h : n < w.length) : w.take (n + 1) = w.take n ++ [rd w n] := by
 rw [List.take_succ_eq_append_getElem h, rd_nat, List.getD_eq_getElem?_getD, List.getElem?_eq_getElem h]; rfl
theorem take_tw {α : Type} (p : α → Bool) : ∀ l : List α, l.take (l.takeWhile p).length = l.takeWhile p
  | [] => rfl
  | a :: l => by
    by_cases ha : p a = true
    · rw [List.takeWhile_cons_of_pos ha, List.length_cons, List.take_succ_cons, take_tw p l]
    · rw [List.takeWhile_cons_of_neg ha]; rfl
theorem mem_tw {α : Type} (p : α → Bool) : ∀ (l : List α) (v : α), v ∈ l.takeWhile p → p v = true
  | [], v, h => by simp at h
  | a :: l, v, h => by
    by_cases ha : p a = true
    · rw [List.takeWhile_cons_of_pos ha] at h
      rcases List.mem_cons.1 h with rfl | h
      · exact ha
      · exact mem_tw p l v h
    · rw [List.takeWhile_cons_of_neg ha] at h
      simp at h
theorem grp_mem {at_ : Nat} {w : List Int} {l : List (List Int)} {v : List Int} (h : v ∈ l.take (grpLen at_ w l)) : rd v at_ = rd w at_ := by
 unfold grpLen at h
 rw [take_tw] at h
 exact beq_iff_eq.1 (mem_tw _ l v h)
theorem grp_pre {at_ : Nat} {w : List Int} {l : List (List Int)} (h : Pre (w :: l) at_) (hlen : ∀ v ∈ w :: l, at_ < v.length) : Pre (w :: l.take (grpLen at_ w l)) (at_ + 1) := by
 have hrd : ∀ v ∈ w :: l.take (grpLen at_ w l), rd v at_ = rd w at_ := by
  intro v hv
  rcases List.mem_cons.1 hv with rfl | hv
  ·
   rfl
  ·
   exact grp_mem hv
 have hsub : ∀ v ∈ w :: l.take (grpLen at_ w l), v ∈ w :: l := by
  intro v hv
  rcases List.mem_cons.1 hv with rfl | hv
  ·
   exact List.mem_cons_self
  ·
   exact List.mem_cons_of_mem _ (List.mem_of_mem_take hv)
 refine ⟨fun v hv => hlen v (hsub v hv), ?_⟩
 have hp : (w :: l.take (grpLen at_ w l)).Pairwise fun u v => u.take at_ = v.take at_ ∧ cmpL u v = -1 := by
  refine List.Pairwise.sublist ?_ h.2
  exact List.Sublist.cons_cons w (List.take_sublist _ _)
 refine List.Pairwise.imp_of_mem (fun {u v} hu hv huv => ⟨?_, huv.2⟩) hp
 rw [take_succ_rd (hlen u (hsub u hu)), take_succ_rd (hlen v (hsub v hv)), huv.1, hrd u hu, hrd v hv]

def cost (l : List (List Int)) (at_ : Nat) : Nat := (l.map fun w => w.length - at_).sum
theorem cost_append (a b : List (List Int)) (at_ : Nat) : cost (a ++ b) at_ = cost a at_ + cost b at_ := by simp [cost]
theorem cost_cons (w : List Int) (l : List (List Int)) (at_ : Nat) : cost (w :: l) at_ = (w.length - at_) + cost l at_ := by simp [cost]
theorem cost_split (l : List (List Int)) (n at_ : Nat) : cost (l.take n) at_ + cost (l.drop n) at_ = cost l at_ := by rw [← cost_append, List.take_append_drop]
theorem cost_succ (l : List (List Int)) (at_ : Nat) (h : ∀ v ∈ l, at_ < v.length) : cost l (at_ + 1) + l.length = cost l at_ := by
 induction l with
 | nil => rfl
 | cons w l ih =>
  rw [cost_cons, cost_cons, List.length_cons, ← ih (fun v hv => h v (List.mem_cons_of_mem _ hv))]
  have := h w List.mem_cons_self
  omega
theorem restL_cost (l : List (List Int)) (at_ : Nat) : cost (restL l at_) at_ ≤ cost l at_ := by
 unfold restL
 split
 ·
  cases l with
  | nil => exact Nat.le_refl _
  | cons w l => rw [cost_cons]; simp
 ·
  exact Nat.le_refl _
theorem kids_length (rec_ : List (List Int) → List Nd → Int × List Nd) (at_ : Nat) (hrec : ∀ l N, Pre l (at_ + 1) → (rec_ l N).2.length ≤ N.length + 1 + cost l (at_ + 1)) : ∀ (n : Nat) (l : List (List Int)) (x : Nd) (N : List Nd), Pre l at_ → (∀ v ∈ l, at_ < v.length) →
    (kids rec_ at_ n l x N).2.length ≤ N.length + cost l at_
  | 0, l, x, N, _, _ => by simp [kids]
  | n + 1, [], x, N, _, _ => by simp [kids]
  | n + 1, w :: l, x, N, hp, h => by
    simp only [kids]
    refine Nat.le_trans (kids_length rec_ at_ hrec n _ _ _ (pre_drop (pre_tail hp) _) (fun v hv => h v (List.mem_cons_of_mem _ (List.mem_of_mem_drop hv)))) ?_
    have h1 := hrec (w :: l.take (grpLen at_ w l)) N (grp_pre hp h)
    have h2 := cost_succ (w :: l.take (grpLen at_ w l)) at_ (fun v hv => by
      rcases List.mem_cons.1 hv with rfl | hv
      · exact h v List.mem_cons_self
      · exact h v (List.mem_cons_of_mem _ (List.mem_of_mem_take hv)))
    have h3 := cost_split l (grpLen at_ w l) at_
    simp only [cost_cons, List.length_cons] at h1 h2 ⊢
    omega
theorem bld_length : ∀ (d : Nat) (l : List (List Int)) (at_ : Nat) (N : List Nd), Pre l at_ → (bld d l at_ N).2.length ≤ N.length + 1 + cost l at_ := by
 intro d
 induction d with
 | zero => intro l at_ N _; simp [bld]; omega
 | succ d ih =>
  intro l at_ N h
  obtain ⟨h1, h2⟩ := restL_pre h
  have h3 := kids_length (fun l N => bld d l (at_ + 1) N) at_ (fun l N hp => ih l (at_ + 1) N hp) (restL l at_).length (restL l at_) (startNd l at_) N h1 h2
  have h4 := restL_cost l at_
  have h5 := (putN_lt (kids (fun l N => bld d l (at_ + 1) N) at_ (restL l at_).length (restL l at_) (startNd l at_) N).2 (kids (fun l N => bld d l (at_ + 1) N) at_ (restL l at_).length (restL l at_) (startNd l at_) N).1).2.2
  simp only [bld]
  omega
theorem bld_lt (d : Nat) (l : List (List Int)) (at_ : Nat) (N : List Nd) : 0 ≤ (bld (d + 1) l at_ N).1 ∧ (bld (d + 1) l at_ N).1 < (bld (d + 1) l at_ N).2.length := by
 have := putN_lt (kids (fun l N => bld d l (at_ + 1) N) at_ (restL l at_).length (restL l at_) (startNd l at_) N).2 (kids (fun l N => bld d l (at_ + 1) N) at_ (restL l at_).length (restL l at_) (startNd l at_) N).1
 exact ⟨this.1, this.2.1⟩
end Go.Proofs.Ytcdjeimjbbknjaa.PAll
namespace Go.Proofs.Ytcdjeimjbbknjaa.PAll
open Go.RowKit Go.Maps Go.Proofs.YtcdjeimjbbknjaaW.PrintWords Go.Proofs.YtcdjeimjbbknjaaW.PrintLast Go.Proofs.YtcdjeimjbbknjaaW.PrintMore
set_option linter.unusedVariables false
set_option linter.unusedSimpArgs false

theorem law_str : Keyed Try.prog 9 := string_keyed Try.underlying9
theorem law_int : Keyed Try.prog 3 := int_keyed Try.underlying3
theorem zero_int (w : World) : (zeroValue 3).run Try.prog w = .ok (.int .i64 0) w := by kernel_rfl

def MapHas {α : Type} (K : Nat) (lit : α → Lit) (w : World) (b n : Nat) (f : α → Option Int) : Prop :=
  ∃ D : DataW Unit, w.ownsMap Try.prog K (plainElem Try.prog 3) b n D ∧ ∀ x, has D (lit x) = (f x).isSome ∧ D.atKey (lit x) (.lit (.int .i64 0)) = .lit (.int .i64 ((f x).getD 0))
section
variable {α : Type} {K : Nat} {lit : α → Lit} {w : World} {b n : Nat} {f : α → Option Int}
theorem MapHas.lt (h : MapHas K lit w b n f) : b < w.heap.size := by obtain ⟨D, h, _⟩ := h; exact h.lt
theorem MapHas.kept {w' : World} {row : Option Nat} (h : MapHas K lit w b n f) (hg : w.grownBy w' row) (hne : some b ≠ row) : MapHas K lit w' b n f := by
 obtain ⟨D, h, hf⟩ := h
 exact ⟨D, h.kept hg hne, hf⟩
theorem MapHas.below {w' : World} (h : MapHas K lit w b n f) (hb : Below w.heap.size w w') : MapHas K lit w' b n f := h.kept (grown_of_below hb none) (by simp)
theorem MapHas.of_block {w' : World} (h : MapHas K lit w b n f) (hb : w'.heap[b]? = w.heap[b]?) : MapHas K lit w' b n f := by
 obtain ⟨D, ⟨es, clock, h1, h2⟩, hf⟩ := h
 exact ⟨D, ⟨es, clock, hb.trans h1, h2⟩, hf⟩
theorem MapHas.not_cells (h : MapHas K lit w b n f) {g : Nat} {cs : Array Value} {t : TypeId} {fr : Nat × Nat} (hb : w.heap[g]? = some (.cells cs t fr)) : g ≠ b := by
 obtain ⟨D, ⟨es, clock, h1, _⟩, _⟩ := h
 rintro rfl
 rw [h1] at hb
 cases hb
theorem MapHas.made (w : World) (hlit : ∀ x : α, WideAt.IsKeyLit (lit x)) : MapHas K lit (w.alloc (.map #[] 0)) w.heap.size 0 (fun _ : α => none) :=
  ⟨.map [], World.ownsMap_made _ _ _ _, fun x => ⟨by simp [has_eq], by rw [atKey_of_not_has (by simp [has_eq])]; rfl⟩⟩
theorem MapHas.lookup {t : TypeId} (h : MapHas K lit w b n f) (law : Keyed Try.prog K) (ht : Try.prog.underlying t = some (.map K 3)) (x : α) (key : Value) (hkey : Go.keyOf Try.prog K key = some (lit x)) :
    (Instr.lookup t (.map (some b)) key true).run Try.prog w = .ok (.tuple #[.int .i64 ((f x).getD 0), .bool (f x).isSome]) w := by
 obtain ⟨D, h, hf⟩ := h
 obtain ⟨v, ps, hrun, hv⟩ := h.look_ok law ht (zero_int w) (plainElem_int Try.underlying3 (by decide)) hkey
 obtain ⟨c, rfl, hc, _⟩ := plainElem_int_inv Try.underlying3 hv
 simp only [Prod.mk.injEq] at hc
 obtain ⟨h1, h2⟩ := hf x
 rw [h2] at hc
 have hc1 : (f x).getD 0 = c := (Lit.int.inj (DataW.lit.inj hc.1)).2
 rw [hrun, h1, hc1]
theorem MapHas.update {t : TypeId} (h : MapHas K lit w b n f) (law : Keyed Try.prog K) (ht : Try.prog.underlying t = some (.map K 3)) (hn : n < maxLen) (x : α) (key : Value) (hkey : Go.keyOf Try.prog K key = some (lit x))
    (hlit : ∀ x : α, WideAt.IsKeyLit (lit x)) (hinj : ∀ x y : α, lit x = lit y → x = y) (c : Int) (hc : (Lit.int .i64 c).wf = true) [DecidableEq α] :
    ∃ w', (Instr.mapUpdate t (.map (some b)) key (.int .i64 c)).run Try.prog w = .ok () w' ∧ MapHas K lit w' b (n + 1) (fun y => if y = x then some c else f y) ∧ w.grownBy w' (some b) := by
 obtain ⟨D, h, hf⟩ := h
 obtain ⟨w', hrun, hown, hg⟩ := h.update law ht hn hkey (plainElem_int Try.underlying3 hc)
 refine ⟨w', hrun, ⟨_, hown, fun y => ?_⟩, hg⟩
 by_cases hy : y = x
 ·
  subst hy
  dsimp only
  rw [if_pos rfl]
  exact ⟨has_put_same h.isMap (hlit y) _, atKey_put_same h.isMap (hlit y) _ _⟩
 ·
  dsimp only
  rw [if_neg hy]
  have hne : lit y ≠ lit x := fun e => hy (hinj _ _ e)
  rw [has_put_other hne, atKey_put_other hne]
  exact hf y
end
def litS (s : ByteArray) : Lit := .string s.data.toList
theorem litS_key (s : ByteArray) : WideAt.IsKeyLit (litS s) := trivial
theorem litS_inj (s t : ByteArray) (h : litS s = litS t) : s = t := by
 unfold litS at h
 injection h with h
 cases s; cases t
 simp only [ByteArray.mk.injEq]
 exact Array.toList_inj.1 h
end Go.Proofs.Ytcdjeimjbbknjaa.PAll
namespace Go.Proofs.Ytcdjeimjbbknjaa.PAll
open Go.RowKit Go.Proofs.YtcdjeimjbbknjaaW.PrintWords Go.Proofs.YtcdjeimjbbknjaaW.PrintLast Go.Proofs.YtcdjeimjbbknjaaW.PrintMore
set_option linter.unusedVariables false
set_option linter.unusedSimpArgs false

def GraphAt (w : World) (g : Nat) (ns : List S102) : Prop :=
  ∃ A c, w.heap[g]? = some (.cells #[.slice A ns.length c] 110 (0, 0)) ∧ ns.length ≤ c ∧ Kd.C k102 w A ns.length ns
theorem GraphAt.below {w w1 : World} {g : Nat} {ns : List S102} (h : GraphAt w g ns) (hb : Below w.heap.size w w1) : GraphAt w1 g ns := by
 obtain ⟨A, c, hg, hc, hr⟩ := h
 exact ⟨A, c, (hb.block g (blk_lt hg)).trans hg, hc, Kd.C_below hr hb⟩
theorem GraphAt.drawn {w w1 : World} {g : Nat} {ns : List S102} (h : GraphAt w g ns) (hb : Drawn0 w w1) : GraphAt w1 g ns := h.below hb.below
theorem GraphAt.cell {w : World} {g : Nat} {ns : List S102} (h : GraphAt w g ns) : ∃ A c, w.cell? ⟨g, 0, none⟩ = some (.slice A ns.length c) ∧ ns.length ≤ c ∧ Kd.C k102 w A ns.length ns := by
 obtain ⟨A, c, hg, hc, hr⟩ := h
 exact ⟨A, c, by rw [blk_cell hg]; rfl, hc, hr⟩

theorem GraphAt.node {w : World} {g : Nat} {ns : List S102} (h : GraphAt w g ns) (i : Int) (h0 : 0 ≤ i) (h1 : i < (ns.length : Int)) :
    ∃ ad A1 c1 A2 c2 c, w.cell? ⟨g, 0, none⟩ = some (.slice (some ad) ns.length c) ∧ ns.length ≤ c ∧ w.cell? (ad.add (i.toNat * 4)) = some (.bool (rd_T102 ns i).f0) ∧
      w.cell? ⟨(ad.add (i.toNat * 4)).block, (ad.add (i.toNat * 4)).off + 1, none⟩ = some (.slice A1 (rd_T102 ns i).f1.length c1) ∧
      w.cell? ⟨(ad.add (i.toNat * 4)).block, (ad.add (i.toNat * 4)).off + 2, none⟩ = some (.slice A2 (rd_T102 ns i).f2.length c2) ∧
      w.cell? ⟨(ad.add (i.toNat * 4)).block, (ad.add (i.toNat * 4)).off + 3, none⟩ = some (.int .i64 (rd_T102 ns i).f3) ∧
      (rd_T102 ns i).f1.length ≤ c1 ∧ (Kd.int .i64).C w A1 (rd_T102 ns i).f1.length (rd_T102 ns i).f1 ∧ (rd_T102 ns i).f2.length ≤ c2 ∧ (Kd.int .i64).C w A2 (rd_T102 ns i).f2.length (rd_T102 ns i).f2 := by
 obtain ⟨A, c, hc, hl, hr⟩ := h.cell
 obtain ⟨ad, A1, c1, A2, c2, rfl, x0, x1, x2, x3, y1, y2, y3, y4⟩ := at_T102 hr i h0 h1
 exact ⟨ad, A1, c1, A2, c2, c, hc, hl, x0, x1, x2, x3, y1, y2, y3, y4⟩

set_option maxHeartbeats 400000 in
theorem len_any (g : Nat) (ns : List S102) (w : World) (hg : GraphAt w g ns) (hn : 0 < ns.length) :
    Calls Try.prog 30 #[.pointer (some ⟨g, 0, none⟩)] w fun e w' => e = .returned (.int .i64 (rd_T102 ns 0).f3) ∧ w = w' := by
 obtain ⟨ad, A1, c1, A2, c2, c, h0, hc, x0, x1, x2, x3, _, _, _, _⟩ := hg.node 0 (by omega) (by omega)
 simp only [show (0 : Int).toNat = 0 from rfl, Nat.zero_mul, Addr.add, if_true, ↓reduceIte] at x3
 clear hg x0 x1 x2
 have hn' : (0 : Int) < (ns.length : Int) := by omega
 go_enter Try.func30, Try.ntmps30
 go_wp2
 go_ret
 exact ⟨rfl, rfl⟩
theorem states_any (g : Nat) (ns : List S102) (w : World) (hg : GraphAt w g ns) :
    Calls Try.prog 42 #[.pointer (some ⟨g, 0, none⟩)] w fun e w' => e = .returned (.int .i64 (ns.length : Int)) ∧ w = w' := by
 obtain ⟨A, c, h0, hc, hr⟩ := hg.cell
 clear hg hr
 go_enter Try.func42, Try.ntmps42
 go_wp2
 go_ret
 exact ⟨rfl, rfl⟩
def hasB (n : Nat) (i : Int) : Bool := decide (0 ≤ i) && decide (i < (n : Int))
theorem has_any (g : Nat) (ns : List S102) (i : Int) (w : World) (hg : GraphAt w g ns) :
    Calls Try.prog 74 #[.pointer (some ⟨g, 0, none⟩), .int .i64 i] w fun e w' => e = .returned (.bool (hasB ns.length i)) ∧ w = w' := by
 by_cases h0 : 0 ≤ i
 ·
  go_enter Try.func74, Try.ntmps74
  go_wp2_with (go_at_call 42; refine (states_any g ns _ hg).mono ?_; rintro e w' ⟨rfl, rfl⟩)
  go_ret
  exact ⟨by simp [hasB, h0], rfl⟩
 ·
  go_enter Try.func74, Try.ntmps74
  go_wp2
  go_ret
  exact ⟨by simp [hasB]; omega, rfl⟩
def finalB (ns : List S102) (i : Int) : Bool := hasB ns.length i && (rd_T102 ns i).f0
theorem final_any (g : Nat) (ns : List S102) (i : Int) (w : World) (hg : GraphAt w g ns) :
    Calls Try.prog 31 #[.pointer (some ⟨g, 0, none⟩), .int .i64 i] w fun e w' => e = .returned (.bool (finalB ns i)) ∧ w = w' := by
 have hh := has_any g ns i w hg
 cases hb : hasB ns.length i with
 | true =>
  have hb' := hb
  simp only [hasB, Bool.and_eq_true, decide_eq_true_eq] at hb'
  obtain ⟨h0, h1⟩ := hb'
  obtain ⟨ad, A1, c1, A2, c2, c, hcell, hc, x0, _, _, _, _, _, _, _⟩ := hg.node i h0 h1
  clear hg
  rw [hb] at hh
  have hf : finalB ns i = (rd_T102 ns i).f0 := by simp [finalB, hb]
  have HF := Aside0.mk hf
  clear hf
  have HB := Aside0.mk hb
  clear hb
  have HH := Aside0.mk hh
  clear hh
  go_enter Try.func31, Try.ntmps31
  go_wp2_with (go_at_call 74; refine HH.out.mono ?_; rintro e w' ⟨rfl, rfl⟩)
  go_ret
  exact ⟨by rw [HF.out]; rfl, rfl⟩
 | false =>
  clear hg
  rw [hb] at hh
  have hf : finalB ns i = false := by simp [finalB, hb]
  have HF := Aside0.mk hf
  clear hf
  have HB := Aside0.mk hb
  clear hb
  have HH := Aside0.mk hh
  clear hh
  go_enter Try.func31, Try.ntmps31
  go_wp2_with (go_at_call 74; refine HH.out.mono ?_; rintro e w' ⟨rfl, rfl⟩)
  go_ret
  exact ⟨by rw [HF.out]; rfl, rfl⟩
end Go.Proofs.Ytcdjeimjbbknjaa.PAll
namespace Go.Proofs.Ytcdjeimjbbknjaa.PAll
open Go.RowKit Go.Maps Go.Proofs.YtcdjeimjbbknjaaW.PrintWords Go.Proofs.YtcdjeimjbbknjaaW.PrintLast Go.Proofs.YtcdjeimjbbknjaaW.PrintMore
set_option linter.unusedVariables false
set_option linter.unusedSimpArgs false

def posF (o : List Int) (k : Int) : Option Int := (o.findIdx? (fun y => decide (y = k))).map fun i : Nat => (i : Int)
theorem posF_snoc (o : List Int) (k : Int) (h : posF o k = none) (y : Int) : posF (o ++ [k]) y = if y = k then some (o.length : Int) else posF o y := by
 unfold posF at h ⊢
 rw [List.findIdx?_append]
 by_cases hs : y = k
 ·
  subst hs
  rw [if_pos rfl]
  have h2 : o.findIdx? (fun z => decide (z = y)) = none := by simpa using h
  rw [h2]
  simp
 ·
  rw [if_neg hs]
  have h3 : List.findIdx? (fun z => decide (z = y)) [k] = none := by
   simp; exact fun e => hs e.symm
  rw [h3]
  simp
theorem posF_none {o : List Int} {k : Int} (h : posF o k = none) : k ∉ o := by
 unfold posF at h
 rw [Option.map_eq_none_iff, List.findIdx?_eq_none_iff] at h
 intro hk
 simpa using h k hk
theorem posF_some {o : List Int} {k i : Int} (h : posF o k = some i) : 0 ≤ i ∧ i < o.length ∧ rd o i = k := by
 unfold posF at h
 obtain ⟨j, hj, rfl⟩ := Option.map_eq_some_iff.1 h
 obtain ⟨h1, h2, _⟩ := List.findIdx?_eq_some_iff_getElem.1 hj
 refine ⟨by omega, by omega, ?_⟩
 rw [rd_nat, List.getD_eq_getElem?_getD, List.getElem?_eq_getElem h1, Option.getD_some]
 exact of_decide_eq_true h2
def ord1 (o : List Int) (k : Int) : List Int := if (posF o k).isSome then o else o ++ [k]
def numTo : List Int → List Int → List Int → List Int × List Int
  | [], o, ts => (o, ts)
  | k :: ks, o, ts => numTo ks (ord1 o k) (ts ++ [(posF (ord1 o k) k).getD 0])
def numG (N : List Nd) : Nat → List Int → Nat → List Nd → List Int × List Nd
  | 0, o, _, G => (o, G)
  | f + 1, o, i, G => if i < o.length then numG N f (numTo (rdN N (rd o i)).f2 o []).1 (i + 1) (G ++ [⟨(rdN N (rd o i)).f0, (rdN N (rd o i)).f1, (numTo (rdN N (rd o i)).f2 o []).2, (rdN N (rd o i)).f3⟩]) else (o, G)
def numN (N : List Nd) (start : Int) : List Nd := (numG N (N.length + 1) [start] 0 []).2

structure NumOk (N : List Nd) : Prop where
  lead : ∀ x ∈ N, ∀ k ∈ x.f2, 0 ≤ k ∧ k < (N.length : Int)
  few : N.length ≤ 1000000000
  rows : ∀ x ∈ N, x.f2.length ≤ 100000000000
structure OrdOk (n : Nat) (o : List Int) : Prop where
  nodup : o.Nodup
  lead : ∀ k ∈ o, 0 ≤ k ∧ k < (n : Int)
theorem nodup_le : ∀ (n : Nat) (o : List Int), o.Nodup → (∀ k ∈ o, 0 ≤ k ∧ k < (n : Int)) → o.length ≤ n
  | 0, o, _, h => by
    cases o with
    | nil => simp
    | cons k o => have := h k List.mem_cons_self; omega
  | n + 1, o, hd, h => by
    have h1 := nodup_le n (o.erase (n : Int)) (hd.erase _) (fun k hk => by
      have h2 := (List.Nodup.mem_erase_iff hd).1 hk
      have := h k h2.2
      have h3 := h2.1
      omega)
    by_cases hm : (n : Int) ∈ o
    · have := List.length_erase_of_mem hm; omega
    · rw [List.erase_of_not_mem hm] at h1; omega
theorem OrdOk.le {n : Nat} {o : List Int} (h : OrdOk n o) : o.length ≤ n := nodup_le n o h.nodup h.lead
theorem OrdOk.ord1 {n : Nat} {o : List Int} (h : OrdOk n o) {k : Int} (hk : 0 ≤ k ∧ k < (n : Int)) : OrdOk n (ord1 o k) := by
 unfold PAll.ord1
 split
 ·
  exact h
 ·
  rename_i hn
  have hn' : posF o k = none := by simpa using hn
  refine ⟨List.nodup_append.2 ⟨h.nodup, by simp, ?_⟩, fun j hj => ?_⟩
  ·
   intro a ha b hb
   obtain rfl := List.mem_singleton.1 hb
   rintro rfl
   exact posF_none hn' ha
  ·
   rcases List.mem_append.1 hj with hj | hj
   ·
    exact h.lead j hj
   ·
    obtain rfl := List.mem_singleton.1 hj; exact hk
theorem OrdOk.numTo {n : Nat} : ∀ (ks o ts : List Int), OrdOk n o → (∀ k ∈ ks, 0 ≤ k ∧ k < (n : Int)) → OrdOk n (numTo ks o ts).1
  | [], o, ts, h, _ => h
  | k :: ks, o, ts, h, hk => OrdOk.numTo ks _ _ (h.ord1 (hk k List.mem_cons_self)) (fun j hj => hk j (List.mem_cons_of_mem _ hj))
theorem numTo_pre : ∀ (ks o ts : List Int), ∃ r, (numTo ks o ts).1 = o ++ r
  | [], o, ts => ⟨[], by simp [numTo]⟩
  | k :: ks, o, ts => by
    obtain ⟨r, hr⟩ := numTo_pre ks (ord1 o k) (ts ++ [(posF (ord1 o k) k).getD 0])
    unfold numTo
    rw [hr]
    unfold ord1
    split
    · exact ⟨r, rfl⟩
    · exact ⟨k :: r, by simp⟩
def litI (k : Int) : Lit := .int .i64 k
theorem litI_key (k : Int) : WideAt.IsKeyLit (litI k) := trivial
theorem litI_inj (a b : Int) (h : litI a = litI b) : a = b := by injection h
theorem wfI {k : Int} (h0 : -9223372036854775808 ≤ k) (h1 : k ≤ 9223372036854775807) : (Lit.int .i64 k).wf = true := by
 simp only [Lit.wf, Bool.and_eq_true, decide_eq_true_eq]
 exact ⟨h0, h1⟩
theorem keyI {k : Int} (h0 : -9223372036854775808 ≤ k) (h1 : k ≤ 9223372036854775807) : Go.keyOf Try.prog 3 (.int .i64 k) = some (litI k) := keyOf_int_mk Try.underlying3 (wfI h0 h1)
theorem MapHas.look {α : Type} {K : Nat} {lit : α → Lit} {w : World} {b n : Nat} {f : α → Option Int} {t : TypeId} (h : MapHas K lit w b n f) (law : Keyed Try.prog K) (ht : Try.prog.underlying t = some (.map K 3)) (x : α) (key : Value) (hkey : Go.keyOf Try.prog K key = some (lit x)) :
    (Instr.lookup t (.map (some b)) key false).run Try.prog w = .ok (.int .i64 ((f x).getD 0)) w := by
 obtain ⟨D, h, hf⟩ := h
 obtain ⟨c, hrun, hat, _⟩ := h.lookup_int law ht Try.underlying3 (zero_int w) hkey
 rw [(hf x).2] at hat
 rw [hrun, (Lit.int.inj (DataW.lit.inj hat)).2]

structure Num (w wr : World) (Q : Nat → Prop) (bm bg : Nat) (vo vg : Value) (o : List Int) (G : List Nd) : Prop where
  row : Kd.R (Kd.int .i64) 3 wr w.heap.size (fun _ => True) vo o
  map : MapHas 3 litI wr bm o.length (posF o)
  box : wr.heap[bg]? = some (.cells #[vg] 110 (0, 0))
  gs : Kd.N k102 102 wr w.heap.size (fun k => (k ≠ bg ∧ k ≠ bm ∧ Q k) ∧ some k ≠ vo.ownBlock) vg G
  below : Below w.heap.size w wr
  lbm : w.heap.size ≤ bm
  lbg : w.heap.size ≤ bg
section
variable {w wr W w1 w3 : World} {Q Q' : Nat → Prop} {bm bg : Nat} {vo vg v1 : Value} {o : List Int} {G : List Nd}
theorem Num.weak (h : Num w wr Q bm bg vo vg o G) (hq : ∀ k, Q k → Q' k) : Num w wr Q' bm bg vo vg o G :=
  ⟨h.row, h.map, h.box, Kd.N_mono h.gs fun k hk => ⟨⟨hk.1.1, hk.1.2.1, hq k hk.1.2.2⟩, hk.2⟩, h.below, h.lbm, h.lbg⟩
theorem Num.bound (h : Num w wr Q bm bg vo vg o G) : Num w wr (fun k => Q k ∧ k < wr.heap.size) bm bg vo vg o G :=
  ⟨h.row, h.map, h.box, Kd.N_mono (Kd.N_bound h.gs) fun k hk => ⟨⟨hk.1.1.1, hk.1.1.2.1, hk.1.1.2.2, hk.2⟩, hk.1.2⟩, h.below, h.lbm, h.lbg⟩
theorem Num.keep (h : Num w wr Q bm bg vo vg o G) (hb : Below w.heap.size w w1) (r : Nat) (hs : ∀ k, k < wr.heap.size → k ≠ r → w1.heap[k]? = wr.heap[k]?) (h1 : some r ≠ vo.ownBlock) (h2 : bm ≠ r) (h3 : bg ≠ r) (h4 : ¬ Q r) : Num w w1 Q bm bg vo vg o G :=
  ⟨Kd.R_mono (Kd.R_step (Kd.R_tight rfl h.row) fun k hk hlt => hs k hlt fun e => h1 (e ▸ hk)) (fun _ _ => trivial), h.map.of_block (hs bm h.map.lt h2), (hs bg (blk_lt h.box) h3).trans h.box,
    Kd.N_step h.gs (fun k hk hlt => hs k hlt fun e => h4 (e ▸ hk.1.2.2)), hb, h.lbm, h.lbg⟩
theorem Num.step (h : Num w wr Q bm bg vo vg o G) (hb : Below wr.heap.size wr W) : Num w W Q bm bg vo vg o G :=
  ⟨Kd.R_below h.row hb, h.map.below hb, (hb.block _ (blk_lt h.box)).trans h.box, Kd.N_below h.gs hb, h.below.trans (hb.mono h.below.size), h.lbm, h.lbg⟩
theorem Num.typed (h : Num w wr Q bm bg vo vg o G) {g : Nat} {cs : Array Value} {t : TypeId} {fr : Nat × Nat} (hg : wr.heap[g]? = some (.cells cs t fr)) (ht : t ≠ 3) : some g ≠ vo.ownBlock := by
 intro he
 obtain ⟨cells, hc⟩ := Kd.R_typed h.row g he.symm
 rw [hg] at hc
 injection hc with hc
 injection hc with _ e
 exact ht e
theorem Num.omap (h : Num w wr Q bm bg vo vg o G) : some bm ≠ vo.ownBlock := by
 intro he
 obtain ⟨cells, hc⟩ := Kd.R_typed h.row bm he.symm
 exact h.map.not_cells hc rfl
theorem Num.gmap (h : Num w wr Q bm bg vo vg o G) : bg ≠ bm := h.map.not_cells h.box
theorem Num.push (h : Num w wr Q bm bg vo vg o G) (k : Int) (hk : posF o k = none) (hg : wr.grownBy W (some bm)) (hm : MapHas 3 litI W bm (o.length + 1) (fun y => if y = k then some (o.length : Int) else posF o y))
    (HO : Kd.R (Kd.int .i64) 3 w3 w.heap.size (fun _ => True) v1 (o ++ [k])) (HB : Below w.heap.size w w3) (HG : W.grownBy w3 vo.ownBlock) (hown : v1.ownBlock = vo.ownBlock ∨ ∃ b, v1.ownBlock = some b ∧ W.heap.size ≤ b) : Num w w3 Q bm bg v1 vg (o ++ [k]) G := by
 have h2 : ∀ g, g < wr.heap.size → g ≠ bm → some g ≠ vo.ownBlock → w3.heap[g]? = wr.heap[g]? := fun g hlt hne ho =>
  (HG.block g (Nat.lt_of_lt_of_le hlt hg.size) ho).trans (hg.block g hlt fun e => hne (Option.some.inj e))
 refine ⟨HO, ?_, (h2 bg (blk_lt h.box) h.gmap (h.typed h.box (by decide))).trans h.box, ?_, HB, h.lbm, h.lbg⟩
 ·
  have h3 := hm.of_block (HG.block bm hm.lt h.omap)
  obtain ⟨D, h4, h5⟩ := h3
  exact ⟨D, by rw [List.length_append]; exact h4, fun y => by rw [posF_snoc o k hk y]; exact h5 y⟩
 ·
  refine Kd.N_mono (Kd.N_step (Kd.N_bound h.gs) fun g hg' hlt => h2 g hlt hg'.1.1.2.1 hg'.1.2) fun g hg' => ⟨hg'.1.1, fun e => ?_⟩
  rcases hown with he | ⟨b, he, hb⟩
  ·
   rw [he] at e; exact hg'.1.2 e
  ·
   rw [he] at e
   obtain rfl := Option.some.inj e
   have := hg'.2
   have := hg.size
   omega
end
end Go.Proofs.Ytcdjeimjbbknjaa.PAll
namespace Go.Proofs.Ytcdjeimjbbknjaa.PAll
open Go.RowKit Go.Proofs.YtcdjeimjbbknjaaW.PrintWords Go.Proofs.YtcdjeimjbbknjaaW.PrintLast Go.Proofs.YtcdjeimjbbknjaaW.PrintMore
set_option linter.unusedVariables false
set_option linter.unusedSimpArgs false

def okUpto (ws : List (List Int)) : Nat → Bool
  | 0 => true
  | k + 1 => okUpto ws k && (!(rdR ws k).any badSym && (k == 0 || decide (cmpL (rdR ws ((k - 1 : Nat) : Int)) (rdR ws k) < 0)))
def sumUpto (ws : List (List Int)) : Nat → Nat
  | 0 => 0
  | k + 1 => sumUpto ws k + (rdR ws k).length
def longUpto (ws : List (List Int)) : Nat → Bool
  | 0 => false
  | k + 1 => longUpto ws k || decide ((64 : Int) < ((rdR ws k).length : Int))
theorem sumUpto_le (ws : List (List Int)) : ∀ (n k : Nat), k ≤ n → sumUpto ws k ≤ sumUpto ws n := by
 intro n
 induction n with
 | zero =>
  intro k h
  obtain rfl : k = 0 := by omega
  exact Nat.le_refl _
 | succ n ih =>
  intro k h
  rcases Nat.lt_or_ge k (n + 1) with h1 | h1
  ·
   have := ih k (by omega); simp only [sumUpto]; omega
  ·
   obtain rfl : k = n + 1 := by omega
   exact Nat.le_refl _
theorem okUpto_le (ws : List (List Int)) : ∀ (n k : Nat), k ≤ n → okUpto ws n = true → okUpto ws k = true := by
 intro n
 induction n with
 | zero =>
  intro k h hn
  obtain rfl : k = 0 := by omega
  exact hn
 | succ n ih =>
  intro k h hn
  rcases Nat.lt_or_ge k (n + 1) with h1 | h1
  ·
   simp only [okUpto, Bool.and_eq_true] at hn; exact ih k (by omega) hn.1
  ·
   obtain rfl : k = n + 1 := by omega
   exact hn
def checkL (ws : List (List Int)) : Int :=
  if okUpto ws ws.length = true then (if longUpto ws ws.length = true ∨ (4096 : Int) < (ws.length : Int) ∨ (65536 : Int) < (sumUpto ws ws.length : Int) then 4 else 0) else 1
theorem checkL_bad (ws : List (List Int)) (k : Nat) (hk : k ≤ ws.length) (h : okUpto ws k = false) : checkL ws = 1 := by
 unfold checkL
 rw [if_neg]
 intro hn
 rw [okUpto_le ws _ k hk hn] at h
 cases h
theorem compare_calls (A0 : Option Addr) (c0 : Nat) (l0 : List Int) (A1 : Option Addr) (c1 : Nat) (l1 : List Int) (w : World) (hr0 : Kd.C (Kd.int .i64) w A0 l0.length l0) (hc0 : l0.length ≤ c0) (hr1 : Kd.C (Kd.int .i64) w A1 l1.length l1) (hc1 : l1.length ≤ c1) :
    Calls Try.prog 107 #[.slice A0 l0.length c0, .slice A1 l1.length c1] w fun e w' => e = .returned (.int .i64 (cmpL l0 l1)) ∧ Drawn0 w w' :=
  slices_Compare_int_int.calls _ A0 c0 l0 A1 c1 l1 _ w hr0 hc0 hr1 hc1 (slices_Compare_is l0 l1 (Kd.C_max hr0) (l0.length + 1) (by omega))

set_option maxHeartbeats 4000000 in
set_option maxRecDepth 100000 in
theorem check_any (A0 : Option Addr) (c0 : Nat) (ws : List (List Int)) (w : World) (hr0 : Kd.C (Kd.slice 3 (Kd.int .i64)) w A0 ws.length ws) (hc0 : ws.length ≤ c0) (hsum : sumUpto ws ws.length ≤ 4611686018427387904) :
    Calls Try.prog 66 #[.slice A0 ws.length c0] w fun e w' => e = .returned (.int .i64 (checkL ws)) ∧ Drawn0 w w' := by
 have hmax := Kd.C_max hr0
 have HR := Aside0.mk hr0
 have HS := Aside0.mk hsum
 clear hr0 hsum
 go_enter Try.func66, Try.ntmps66
 go_wp2
 go_loopw [3, 4, 9] (fun t l i wr => ∃ k : Nat, k ≤ ws.length ∧ i = .int .i64 k ∧ t = .int .i64 (sumUpto ws k : Nat) ∧ l = .bool (longUpto ws k) ∧ Aside0 (okUpto ws k = true) ∧ Drawn0 w wr) (fun _ _ i _ => ws.length - (intOf i).toNat)
 case atStart => exact ⟨0, Nat.zero_le _, rfl, rfl, rfl, ⟨rfl⟩, Drawn0.refl _⟩
 case round =>
  obtain ⟨k, hk, rfl, rfl, rfl, hok, ⟨nd, rfl⟩⟩ := hrel
  by_cases hlt : k < ws.length
  ·
   have hD : Below w.heap.size w (w.drewN nd) := pw_below_drewN (Below.refl _ _) nd
   have HCw := Kd.C_below HR.out hD
   obtain ⟨ad, A', c', rfl, hx, hlc, hCk⟩ := at_rows HCw (k : Int) (by omega) (by omega)
   rw [Int.toNat_natCast] at hx
   have hsum1 := sumUpto_le ws ws.length (k + 1) (by omega)
   have hS := HS.out
   have hb1 : sumUpto ws (k + 1) = sumUpto ws k + (rdR ws k).length := rfl
   have HC1 := Aside0.mk (containsFunc_check A' c' (rdR ws k) (w.drewN nd) hCk)
   have HOK : Aside0 (okUpto ws (k + 1) = (okUpto ws k && (!(rdR ws k).any badSym && (k == 0 || decide (cmpL (rdR ws ((k - 1 : Nat) : Int)) (rdR ws k) < 0))))) := ⟨rfl⟩
   have HLG : Aside0 (longUpto ws (k + 1) = (longUpto ws k || decide ((64 : Int) < ((rdR ws k).length : Int)))) := ⟨rfl⟩
   cases hbad : (rdR ws k).any badSym with
   | true =>
    rw [hbad] at HC1 HOK
    clear hbad
    have HE := Aside0.mk (checkL_bad ws (k + 1) (by omega) (by rw [HOK.out]; simp))
    clear hb1
    go_wp2_with (go_at_call 88; refine HC1.out.mono ?_; rintro e w' ⟨rfl, rfl⟩)
    go_ret
    exact ⟨by rw [HE.out]; rfl, ⟨⟨nd, rfl⟩⟩⟩
   | false =>
    rw [hbad] at HC1 HOK
    clear hbad
    rcases Nat.eq_zero_or_pos k with rfl | hk0
    ·
     have HOK1 : Aside0 (okUpto ws (0 + 1) = true) := ⟨by rw [HOK.out]; rfl⟩
     have hx0 : (w.drewN nd).cell? ad = some (.slice A' (rdR ws ((0 : Nat) : Int)).length c') := by simpa [Addr.add] using hx
     have hl0 : Aside0 ((rdR ws 0).length ≤ 4611686018427387904) := ⟨by have h1 : sumUpto ws (0 + 1) = 0 + (rdR ws 0).length := rfl; omega⟩
     cases hlg : longUpto ws 0 with
     | true => cases hlg
     | false =>
      go_wp2_with (go_at_call 88; refine HC1.out.mono ?_; rintro e w' ⟨rfl, rfl⟩)
      go_roundw
      case rel => exact ⟨0 + 1, by omega, by go_num, by rw [hb1, show sumUpto ws 0 = 0 from rfl]; simp only [Nat.zero_add, Int.natCast_zero, Int.zero_add]; exact congrArg (Value.int .i64) (by unfold wrap64; have := hl0.out; omega), by rw [HLG.out, hlg]; rfl, HOK1, ⟨⟨nd, rfl⟩⟩⟩
      case measure =>
       show ws.length - ((0 : Int) + 1).toNat < ws.length - (0 : Int).toNat
       omega
    ·
     obtain ⟨j, hj⟩ : ∃ j, k = j + 1 := ⟨k - 1, by omega⟩
     obtain ⟨ad2, A2, c2, hA2, hy, hlc2, hC2⟩ := at_rows HCw (j : Int) (by omega) (by omega)
     injection hA2 with hA2
     subst hA2
     rw [Int.toNat_natCast] at hy
     have HC2 := Aside0.mk (compare_calls A2 c2 (rdR ws j) A' c' (rdR ws k) (w.drewN nd) hC2 hlc2 hCk hlc)
     have HOKj : Aside0 (okUpto ws (k + 1) = decide (cmpL (rdR ws j) (rdR ws k) < 0)) := ⟨by rw [HOK.out, hok.out, show k - 1 = j from by omega]; simp; omega⟩
     clear HOK hCk hC2
     have e1 : (k : Int) - 1 = (j : Int) := by omega
     have e2 : (0 : Int) < (k : Int) := by omega
     have e3 : (j : Int) < (ws.length : Int) := by omega
     have e4 : (0 : Int) ≤ (j : Int) := by omega
     clear hj
     generalize hcm : cmpL (rdR ws j) (rdR ws k) = cm at *
     by_cases hc : cm < 0
     ·
      have hc' : ¬ (0 ≤ cm) := by omega
      have HOK1 : Aside0 (okUpto ws (k + 1) = true) := ⟨by rw [HOKj.out]; simpa using hc⟩
      clear HOKj hcm
      cases hlg : longUpto ws k with
      | true =>
       rw [hlg] at HLG
       have HG := Aside0.mk hlg
       clear hlg
       go_wp2_with (first | (go_at_call 88; refine HC1.out.mono ?_; rintro e w' ⟨rfl, rfl⟩) | (go_at_call 107; refine HC2.out.mono ?_; rintro e w' ⟨rfl, ⟨nd2, rfl⟩⟩))
       go_roundw
       case rel => exact ⟨k + 1, by omega, by go_num, by rw [hb1]; go_num, by rw [HLG.out]; rfl, HOK1, ⟨⟨_, rfl⟩⟩⟩
       case measure => simp [intOf]; omega
      | false =>
       rw [hlg] at HLG
       have HG := Aside0.mk hlg
       clear hlg
       go_wp2_with (first | (go_at_call 88; refine HC1.out.mono ?_; rintro e w' ⟨rfl, rfl⟩) | (go_at_call 107; refine HC2.out.mono ?_; rintro e w' ⟨rfl, ⟨nd2, rfl⟩⟩))
       go_roundw
       case rel => exact ⟨k + 1, by omega, by go_num, by rw [hb1]; go_num, by rw [HLG.out]; rfl, HOK1, ⟨⟨_, rfl⟩⟩⟩
       case measure => simp [intOf]; omega
     ·
      have hc' : 0 ≤ cm := by omega
      have HE := Aside0.mk (checkL_bad ws (k + 1) (by omega) (by rw [HOKj.out]; simpa using hc'))
      clear HOKj hcm hb1
      go_wp2_with (first | (go_at_call 88; refine HC1.out.mono ?_; rintro e w' ⟨rfl, rfl⟩) | (go_at_call 107; refine HC2.out.mono ?_; rintro e w' ⟨rfl, ⟨nd2, rfl⟩⟩))
      go_ret
      exact ⟨by rw [HE.out]; rfl, ⟨⟨_, rfl⟩⟩⟩
  ·
   obtain rfl : k = ws.length := by omega
   have HE : Aside0 (checkL ws = if longUpto ws ws.length = true ∨ (4096 : Int) < (ws.length : Int) ∨ (65536 : Int) < (sumUpto ws ws.length : Int) then 4 else 0) := ⟨by unfold checkL; rw [if_pos hok.out]⟩
   cases hlg : longUpto ws ws.length with
   | true =>
    have HE1 : Aside0 (checkL ws = 4) := ⟨by rw [HE.out, if_pos (.inl hlg)]⟩
    clear HE
    go_wp2
    go_ret
    exact ⟨by rw [HE1.out]; rfl, ⟨⟨nd, rfl⟩⟩⟩
   | false =>
    by_cases h1 : (4096 : Int) < (ws.length : Int)
    ·
     have HE1 : Aside0 (checkL ws = 4) := ⟨by rw [HE.out, if_pos (.inr (.inl h1))]⟩
     clear HE
     go_wp2
     go_ret
     exact ⟨by rw [HE1.out]; rfl, ⟨⟨nd, rfl⟩⟩⟩
    ·
     by_cases h2 : (65536 : Int) < (sumUpto ws ws.length : Int)
     ·
      have HE1 : Aside0 (checkL ws = 4) := ⟨by rw [HE.out, if_pos (.inr (.inr h2))]⟩
      clear HE
      go_wp2
      go_ret
      exact ⟨by rw [HE1.out]; rfl, ⟨⟨nd, rfl⟩⟩⟩
     ·
      have HE1 : Aside0 (checkL ws = 0) := ⟨by rw [HE.out, if_neg (by rw [hlg]; rintro (h | h | h); exact absurd h (by simp); exact h1 h; exact h2 h)]⟩
      clear HE
      go_wp2
      go_ret
      exact ⟨by rw [HE1.out]; rfl, ⟨⟨nd, rfl⟩⟩⟩
end Go.Proofs.Ytcdjeimjbbknjaa.PAll
namespace Go.Proofs.Ytcdjeimjbbknjaa.PAll
open Go.RowKit Go.Proofs.YtcdjeimjbbknjaaW.PrintWords Go.Proofs.YtcdjeimjbbknjaaW.PrintLast Go.Proofs.YtcdjeimjbbknjaaW.PrintMore
set_option linter.unusedVariables false
set_option linter.unusedSimpArgs false

theorem cutR_take (A : Option Addr) (c : Nat) (xs : List (List Int)) (m : Nat) (hm : m ≤ xs.length) (hc : xs.length ≤ c) :
    (∀ W : World, (Instr.slice 23 (.slice A xs.length c) none (some (.int .i64 (m : Int))) none).run Try.prog W = .ok (.slice A m c) W) ∧ ∀ w : World, Kd.C (Kd.slice 3 (Kd.int .i64)) w A xs.length xs → Kd.C (Kd.slice 3 (Kd.int .i64)) w A m (xs.take m) := by
 obtain ⟨i0, hi, _, hsz, _⟩ := info_parts info22
 have hrun := cut_to (P := Try.prog) 23 22 .i64 Try.underlying23 hi A xs.length c (m : Int) (by omega) (by omega) hc
 refine ⟨fun W => by have := hrun W; simpa using this, fun w h => ?_⟩
 have h2 := Kd.C_take h hm
 rwa [show (xs.take m).length = m from by rw [List.length_take]; omega] at h2
end Go.Proofs.Ytcdjeimjbbknjaa.PAll
namespace Go.Proofs.Ytcdjeimjbbknjaa.PAll
open Go.RowKit Go.Maps Go.Proofs.YtcdjeimjbbknjaaW.PrintWords Go.Proofs.YtcdjeimjbbknjaaW.PrintLast Go.Proofs.YtcdjeimjbbknjaaW.PrintMore
set_option linter.unusedVariables false
set_option linter.unusedSimpArgs false

structure Inner (w : World) (B : Nat) (P : Nat → Prop) (bb bn bk bm : Nat) (v : Value) (N : List Nd) : Prop where
  hbb : w.heap[bb]? = some (.cells #[.func (.func 67) #[] #[.pointer (some ⟨bb, 0, none⟩), .pointer (some ⟨bn, 0, none⟩), .pointer (some ⟨bk, 0, none⟩)]] 100 (0, 0))
  hbk : w.heap[bk]? = some (.cells #[.map (some bm)] 98 (0, 0))
  hbn : w.heap[bn]? = some (.cells #[v] 99 (0, 0))
  row : Kd.R k102 102 w B P v N
  map : MapHas 9 litS w bm N.length (knownF N)
  lbn : B ≤ bn
  lbm : B ≤ bm
def mayTurn (bn bm : Nat) (v : Value) (k : Nat) : Prop := k = bn ∨ k = bm ∨ some k = v.ownBlock
section
variable {w w1 : World} {B bb bn bk bm : Nat} {P Q : Nat → Prop} {v : Value} {N : List Nd}
theorem Inner.mono (h : Inner w B P bb bn bk bm v N) (hq : ∀ k, P k → Q k) : Inner w B Q bb bn bk bm v N := ⟨h.hbb, h.hbk, h.hbn, Kd.R_mono h.row hq, h.map, h.lbn, h.lbm⟩
theorem Inner.step (h : Inner w B P bb bn bk bm v N) (hs : ∀ k, k < w.heap.size → (k = bb ∨ k = bk ∨ k = bn ∨ k = bm ∨ P k) → w1.heap[k]? = w.heap[k]?) : Inner w1 B P bb bn bk bm v N :=
  ⟨(hs bb (blk_lt h.hbb) (.inl rfl)).trans h.hbb, (hs bk (blk_lt h.hbk) (.inr (.inl rfl))).trans h.hbk, (hs bn (blk_lt h.hbn) (.inr (.inr (.inl rfl)))).trans h.hbn,
    Kd.R_step h.row (fun k hk hlt => hs k hlt (.inr (.inr (.inr (.inr hk))))), h.map.of_block (hs bm h.map.lt (.inr (.inr (.inr (.inl rfl))))), h.lbn, h.lbm⟩
theorem Inner.below (h : Inner w B P bb bn bk bm v N) (hb : Below w.heap.size w w1) : Inner w1 B P bb bn bk bm v N := h.step fun k hk _ => hb.block k hk
theorem Inner.bound (h : Inner w B P bb bn bk bm v N) : Inner w B (fun k => P k ∧ k < w.heap.size) bb bn bk bm v N :=
  ⟨h.hbb, h.hbk, h.hbn, Kd.R_mono (Kd.R_bound h.row) (fun k hk => ⟨hk.1, hk.2.2.1⟩), h.map, h.lbn, h.lbm⟩
theorem Inner.grown (h : Inner w B P bb bn bk bm v N) {row : Option Nat} (hg : w.grownBy w1 row) (hP : ∀ k, P k → some k ≠ row) (h1 : some bb ≠ row) (h2 : some bk ≠ row) (h3 : some bn ≠ row) (h4 : some bm ≠ row) : Inner w1 B P bb bn bk bm v N :=
  h.step fun k hk hor => hg.block k hk (hor.elim (fun e => e ▸ h1) (fun h => h.elim (fun e => e ▸ h2) (fun h => h.elim (fun e => e ▸ h3) (fun h => h.elim (fun e => e ▸ h4) (fun hp => hP k hp)))))
theorem Inner.setCell (h : Inner w B P bb bn bk bm v N) {p : Addr} (hP : ∀ k, P k → k ≠ p.block) (h1 : bb ≠ p.block) (h2 : bk ≠ p.block) (h3 : bn ≠ p.block) (h4 : bm ≠ p.block) (u : Value) : Inner (w.setCell p u) B P bb bn bk bm v N :=
  h.step fun k hk hor => Below.heap_setCell w p u k (hor.elim (fun e => e ▸ h1) (fun h => h.elim (fun e => e ▸ h2) (fun h => h.elim (fun e => e ▸ h3) (fun h => h.elim (fun e => e ▸ h4) (fun hp => hP k hp)))))
theorem Inner.drewN (h : Inner w B P bb bn bk bm v N) (n : Nat) : Inner (w.drewN n) B P bb bn bk bm v N := h.below (pw_below_drewN (Below.refl _ _) n)
theorem Inner.alloc (h : Inner w B P bb bn bk bm v N) (o : Obj) : Inner (w.alloc o) B P bb bn bk bm v N := h.below (below_alloc (Below.refl _ _) o)
end
theorem blk_ne {w : World} {a b : Nat} {ca cb : Array Value} {ta tb : TypeId} {fa fb : Nat × Nat} (h : w.heap[a]? = some (.cells ca ta fa)) (h' : w.heap[b]? = some (.cells cb tb fb)) (hne : ta ≠ tb) : a ≠ b := by
 rintro rfl
 rw [h] at h'
 injection h' with h'
 injection h' with _ ht
 exact hne ht
theorem grpLen_le (at_ : Nat) (w : List Int) (l : List (List Int)) : grpLen at_ w l ≤ l.length := (List.takeWhile_prefix _).length_le
theorem grp_at (at_ : Nat) (w : List Int) : ∀ (l : List (List Int)) (j : Nat), j < grpLen at_ w l → rd (rdR l j) at_ = rd w at_ := by
 intro l j hj
 have h : rdR l j ∈ l.take (grpLen at_ w l) := by
  have hl := grpLen_le at_ w l
  rw [rdR_nat, List.getD_eq_getElem?_getD, List.getElem?_eq_getElem (by omega : j < l.length), Option.getD_some]
  exact List.mem_take_iff_getElem.2 ⟨j, by omega, rfl⟩
 exact grp_mem h
theorem grp_end (at_ : Nat) (w : List Int) : ∀ (l : List (List Int)), grpLen at_ w l < l.length → rd (rdR l (grpLen at_ w l)) at_ ≠ rd w at_
  | [], h => by simp at h
  | v :: l, h => by
    by_cases hv : (rd v at_ == rd w at_) = true
    · have e : grpLen at_ w (v :: l) = grpLen at_ w l + 1 := by unfold grpLen; rw [List.takeWhile_cons_of_pos (p := fun v => rd v at_ == rd w at_) hv]; rfl
      rw [e] at h ⊢
      have := grp_end at_ w l (by simpa using h)
      rwa [rdR_nat, List.getD_cons_succ, ← rdR_nat]
    · have e : grpLen at_ w (v :: l) = 0 := by unfold grpLen; rw [List.takeWhile_cons_of_neg (p := fun v => rd v at_ == rd w at_) hv]; rfl
      rw [e, rdR_nat]
      intro h2
      exact hv (beq_iff_eq.2 h2)
theorem grp_stop (at_ : Nat) (w : List Int) (l : List (List Int)) (j : Nat) (hj : j ≤ grpLen at_ w l) (h : j = l.length ∨ rd (rdR l j) at_ ≠ rd w at_) : j = grpLen at_ w l := by
  rcases Nat.lt_or_ge j (grpLen at_ w l) with hlt | hge
  · rcases h with rfl | h
    · have := grpLen_le at_ w l; omega
    · exact absurd (grp_at at_ w l j hlt) h
  · omega
theorem kids_fuel (rec_ : List (List Int) → List Nd → Int × List Nd) (at_ : Nat) : ∀ (n m : Nat) (l : List (List Int)) (x : Nd) (N : List Nd), l.length ≤ n → l.length ≤ m → kids rec_ at_ n l x N = kids rec_ at_ m l x N
  | 0, 0, _, _, _, _, _ => rfl
  | 0, m + 1, l, x, N, h, _ => by
    obtain rfl := List.eq_nil_of_length_eq_zero (Nat.le_zero.1 h); rfl
  | n + 1, 0, l, x, N, _, h => by
    obtain rfl := List.eq_nil_of_length_eq_zero (Nat.le_zero.1 h); rfl
  | n + 1, m + 1, [], x, N, _, _ => rfl
  | n + 1, m + 1, w :: l, x, N, h1, h2 => by
    simp only [kids]
    simp only [List.length_cons] at h1 h2
    exact kids_fuel rec_ at_ n m _ _ _ (by rw [List.length_drop]; omega) (by rw [List.length_drop]; omega)
def roundX (rec_ : List (List Int) → List Nd → Int × List Nd) (at_ : Nat) (w : List Int) (l : List (List Int)) (x : Nd) (N : List Nd) : Nd :=
  ⟨x.f0, x.f1 ++ [rd w at_], x.f2 ++ [(rec_ (w :: l.take (grpLen at_ w l)) N).1], wrap64 (x.f3 + (rdN (rec_ (w :: l.take (grpLen at_ w l)) N).2 (rec_ (w :: l.take (grpLen at_ w l)) N).1).f3)⟩
theorem kids_round (rec_ : List (List Int) → List Nd → Int × List Nd) (at_ : Nat) (w : List Int) (l : List (List Int)) (x : Nd) (N : List Nd) :
    kids rec_ at_ (w :: l).length (w :: l) x N = kids rec_ at_ (l.drop (grpLen at_ w l)).length (l.drop (grpLen at_ w l)) (roundX rec_ at_ w l x N) (rec_ (w :: l.take (grpLen at_ w l)) N).2 := by
 simp only [List.length_cons, kids, roundX]
 exact kids_fuel rec_ at_ _ _ _ _ _ (by rw [List.length_drop]; omega) (by omega)
end Go.Proofs.Ytcdjeimjbbknjaa.PAll
namespace Go.Proofs.Ytcdjeimjbbknjaa.PAll
open Go.RowKit Go.Proofs.YtcdjeimjbbknjaaW.PrintWords Go.Proofs.YtcdjeimjbbknjaaW.PrintLast Go.Proofs.YtcdjeimjbbknjaaW.PrintMore
set_option linter.unusedVariables false
set_option linter.unusedSimpArgs false

theorem cmpL_values : ∀ a b : List Int, cmpL a b = -1 ∨ cmpL a b = 0 ∨ cmpL a b = 1 := by
 intro a
 induction a with
 | nil => intro b; cases b <;> simp [cmpL]
 | cons x a ih =>
  intro b
  cases b with
  | nil => simp [cmpL]
  | cons y b =>
   simp only [cmpL]
   split
   ·
    exact .inl rfl
   ·
    split
    ·
     exact .inr (.inr rfl)
    ·
     exact ih b
theorem cmpL_lt_iff (a b : List Int) : cmpL a b < 0 ↔ cmpL a b = -1 := by
 rcases cmpL_values a b with h | h | h <;> rw [h] <;> decide
theorem cmpL_trans : ∀ a b c : List Int, cmpL a b = -1 → cmpL b c = -1 → cmpL a c = -1 := by
 intro a
 induction a with
 | nil =>
  intro b c h1 h2
  cases c with
  | nil => cases b <;> simp [cmpL] at h1 h2
  | cons z c => simp [cmpL]
 | cons x a ih =>
  intro b c h1 h2
  cases b with
  | nil => simp [cmpL] at h1
  | cons y b =>
   cases c with
   | nil => simp [cmpL] at h2
   | cons z c =>
    simp only [cmpL] at h1 h2 ⊢
    by_cases hxy : x < y
    ·
     by_cases hyz : y < z
     ·
      rw [if_pos (by omega)]
     ·
      rw [if_neg hyz] at h2
      by_cases hzy : z < y
      ·
       rw [if_pos hzy] at h2; simp at h2
      ·
       rw [if_pos (by omega)]
    ·
     rw [if_neg hxy] at h1
     by_cases hyx : y < x
     ·
      rw [if_pos hyx] at h1; simp at h1
     ·
      rw [if_neg hyx] at h1
      have : x = y := by omega
      subst this
      by_cases hyz : x < z
      ·
       rw [if_pos hyz]
      ·
       rw [if_neg hyz] at h2 ⊢
       by_cases hzy : z < x
       ·
        rw [if_pos hzy] at h2; simp at h2
       ·
        rw [if_neg hzy] at h2 ⊢
        exact ih b c h1 h2
structure Good (ws : List (List Int)) : Prop where
  syms : ∀ w ∈ ws, ∀ s ∈ w, 0 ≤ s ∧ s < 64
  sorted : ws.Pairwise fun u v => cmpL u v = -1
  short : ∀ w ∈ ws, w.length ≤ 64
  few : ws.length ≤ 4096
  sum : (ws.map List.length).sum ≤ 65536
theorem okUpto_iff (ws : List (List Int)) : ∀ n, okUpto ws n = true ↔ ∀ k, k < n → (rdR ws k).any badSym = false ∧ (k = 0 ∨ cmpL (rdR ws ((k - 1 : Nat) : Int)) (rdR ws k) < 0)
  | 0 => by simp [okUpto]
  | n + 1 => by
    simp only [okUpto, Bool.and_eq_true, Bool.or_eq_true, Bool.not_eq_true', beq_iff_eq, decide_eq_true_eq]
    rw [okUpto_iff ws n]
    constructor
    · rintro ⟨h1, h2⟩ k hk
      rcases Nat.lt_or_ge k n with h | h
      · exact h1 k h
      · obtain rfl : k = n := by omega
        exact h2
    · intro h
      exact ⟨fun k hk => h k (by omega), h n (by omega)⟩
theorem longUpto_iff (ws : List (List Int)) : ∀ n, longUpto ws n = false ↔ ∀ k, k < n → (rdR ws k).length ≤ 64
  | 0 => by simp [longUpto]
  | n + 1 => by
    simp only [longUpto, Bool.or_eq_false_iff, decide_eq_false_iff_not]
    rw [longUpto_iff ws n]
    constructor
    · rintro ⟨h1, h2⟩ k hk
      rcases Nat.lt_or_ge k n with h | h
      · exact h1 k h
      · obtain rfl : k = n := by omega
        omega
    · intro h
      exact ⟨fun k hk => h k (by omega), by have := h n (by omega); omega⟩
theorem rdR_get {ws : List (List Int)} {k : Nat} (h : k < ws.length) : rdR ws k = ws[k] := by
 rw [rdR_nat, List.getD_eq_getElem?_getD, List.getElem?_eq_getElem h, Option.getD_some]
theorem sumUpto_is (ws : List (List Int)) : ∀ n, n ≤ ws.length → sumUpto ws n = ((ws.take n).map List.length).sum
  | 0, _ => by simp [sumUpto]
  | n + 1, h => by
    rw [sumUpto, sumUpto_is ws n (by omega), List.take_succ_eq_append_getElem (by omega : n < ws.length), List.map_append, List.sum_append, rdR_get (by omega : n < ws.length)]
    simp
theorem any_bad (w : List Int) : w.any badSym = false ↔ ∀ s ∈ w, 0 ≤ s ∧ s < 64 := by
 rw [List.any_eq_false]
 simp only [badSym, Bool.or_eq_true, decide_eq_true_eq]
 exact ⟨fun h s hs => by have := h s hs; omega, fun h s hs => by have := h s hs; omega⟩
theorem sorted_of_adj (ws : List (List Int)) (h : ∀ k (hk : k + 1 < ws.length), cmpL ws[k] ws[k + 1] = -1) : ws.Pairwise fun u v => cmpL u v = -1 := by
 rw [List.pairwise_iff_getElem]
 intro i j hi hj hij
 induction j with
 | zero => omega
 | succ j ih =>
  rcases Nat.lt_or_ge i j with h1 | h1
  ·
   exact cmpL_trans _ _ _ (ih (by omega) h1) (h j hj)
  ·
   obtain rfl : i = j := by omega
   exact h i hj
theorem checkL_good {ws : List (List Int)} (h : checkL ws = 0) : Good ws := by
 unfold checkL at h
 split at h
 case isFalse => simp at h
 case isTrue hok =>
 split at h
 case isTrue => simp at h
 case isFalse hlim =>
 rw [okUpto_iff] at hok
 have h1 : longUpto ws ws.length = false := by
  cases hl : longUpto ws ws.length with
  | true => exact absurd (.inl hl) hlim
  | false => rfl
 rw [longUpto_iff] at h1
 have hs : sumUpto ws ws.length ≤ 65536 := by
  rcases Nat.lt_or_ge 65536 (sumUpto ws ws.length) with h2 | h2
  ·
   exact absurd (.inr (.inr (by omega))) hlim
  ·
   exact h2
 have hf : ws.length ≤ 4096 := by
  rcases Nat.lt_or_ge 4096 ws.length with h2 | h2
  ·
   exact absurd (.inr (.inl (by omega))) hlim
  ·
   exact h2
 rw [sumUpto_is ws _ (Nat.le_refl _), List.take_length] at hs
 refine ⟨fun w hw => ?_, sorted_of_adj ws fun k hk => ?_, fun w hw => ?_, hf, hs⟩
 ·
  obtain ⟨k, hk, rfl⟩ := List.getElem_of_mem hw
  rw [← any_bad, ← rdR_get hk]
  exact (hok k hk).1
 ·
  have h2 := (hok (k + 1) hk).2
  rw [rdR_get hk, show ((k + 1 - 1 : Nat) : Int) = (k : Int) from by omega, rdR_get (by omega : k < ws.length)] at h2
  exact (cmpL_lt_iff _ _).1 (h2.resolve_left (by omega))
 ·
  obtain ⟨k, hk, rfl⟩ := List.getElem_of_mem hw
  rw [← rdR_get hk]
  exact h1 k hk
theorem good_check {ws : List (List Int)} (h : Good ws) : checkL ws = 0 := by
 unfold checkL
 rw [if_pos, if_neg]
 ·
  rintro (h1 | h1 | h1)
  ·
   have : longUpto ws ws.length = false := (longUpto_iff ws _).2 fun k hk => by rw [rdR_get hk]; exact h.short _ (List.getElem_mem hk)
   rw [this] at h1; cases h1
  ·
   have := h.few; omega
  ·
   rw [sumUpto_is ws _ (Nat.le_refl _), List.take_length] at h1
   have := h.sum; omega
 ·
  refine (okUpto_iff ws _).2 fun k hk => ⟨?_, ?_⟩
  ·
   rw [rdR_get hk, any_bad]; exact h.syms _ (List.getElem_mem hk)
  ·
   rcases Nat.eq_zero_or_pos k with h0 | h0
   ·
    exact .inl h0
   ·
    refine .inr ?_
    rw [rdR_get hk, rdR_get (by omega : k - 1 < ws.length), cmpL_lt_iff]
    exact (List.pairwise_iff_getElem.1 h.sorted) (k - 1) k (by omega) hk (by omega)
theorem good_pre {ws : List (List Int)} (h : Good ws) : Pre ws 0 := ⟨fun _ _ => Nat.zero_le _, h.sorted.imp fun h => ⟨by simp, h⟩⟩
theorem good_cost {ws : List (List Int)} (h : Good ws) : cost ws 0 ≤ 65536 := by
 have : cost ws 0 = (ws.map List.length).sum := by simp [cost]
 rw [this]; exact h.sum

structure Closed (M : Nat) (N : List Nd) : Prop where
  lead : ∀ x ∈ N, ∀ k ∈ x.f2, 0 ≤ k ∧ k < (N.length : Int)
  rows : ∀ x ∈ N, x.f2.length ≤ M
theorem closed_putN {M : Nat} {N : List Nd} {x : Nd} (h : Closed M N) (h1 : ∀ k ∈ x.f2, 0 ≤ k ∧ k < (N.length : Int)) (h2 : x.f2.length ≤ M) : Closed M (putN N x).2 ∧ N.length ≤ (putN N x).2.length := by
 unfold putN
 split
 ·
  exact ⟨h, Nat.le_refl _⟩
 ·
  refine ⟨⟨fun y hy k hk => ?_, fun y hy => ?_⟩, by simp⟩
  ·
   rw [List.length_append, List.length_singleton]
   rcases List.mem_append.1 hy with hy | hy
   ·
    have := h.lead y hy k hk; omega
   ·
    obtain rfl := List.mem_singleton.1 hy
    have := h1 k hk; omega
  ·
   rcases List.mem_append.1 hy with hy | hy
   ·
    exact h.rows y hy
   ·
    obtain rfl := List.mem_singleton.1 hy; exact h2
theorem closed_kids {M : Nat} (rec_ : List (List Int) → List Nd → Int × List Nd) (at_ : Nat) (ok : List (List Int) → Prop) (hok : ∀ w l, ok (w :: l) → ok (l.drop (grpLen at_ w l)))
    (hrec : ∀ w l N, ok (w :: l) → Closed M N → Closed M (rec_ (w :: l.take (grpLen at_ w l)) N).2 ∧ N.length ≤ (rec_ (w :: l.take (grpLen at_ w l)) N).2.length ∧ 0 ≤ (rec_ (w :: l.take (grpLen at_ w l)) N).1 ∧ (rec_ (w :: l.take (grpLen at_ w l)) N).1 < ((rec_ (w :: l.take (grpLen at_ w l)) N).2.length : Int)) :
    ∀ (n : Nat) (l : List (List Int)) (x : Nd) (N : List Nd), ok l → Closed M N → (∀ k ∈ x.f2, 0 ≤ k ∧ k < (N.length : Int)) → x.f2.length + l.length ≤ M →
      Closed M (kids rec_ at_ n l x N).2 ∧ N.length ≤ (kids rec_ at_ n l x N).2.length ∧ (∀ k ∈ (kids rec_ at_ n l x N).1.f2, 0 ≤ k ∧ k < ((kids rec_ at_ n l x N).2.length : Int)) ∧ (kids rec_ at_ n l x N).1.f2.length ≤ M
  | 0, l, x, N, _, hc, hx, hm => ⟨hc, Nat.le_refl _, hx, by simp only [kids]; omega⟩
  | n + 1, [], x, N, _, hc, hx, hm => ⟨hc, Nat.le_refl _, hx, by simp only [kids]; simpa using hm⟩
  | n + 1, w :: l, x, N, ho, hc, hx, hm => by
    obtain ⟨h1, h2, h3, h4⟩ := hrec w l N ho hc
    simp only [kids]
    have := closed_kids rec_ at_ ok hok hrec n (l.drop (grpLen at_ w l)) (N := (rec_ (w :: l.take (grpLen at_ w l)) N).2) (hok w l ho) h1 (x := ⟨x.f0, x.f1 ++ [rd w at_], x.f2 ++ [(rec_ (w :: l.take (grpLen at_ w l)) N).1], wrap64 (x.f3 + (rdN (rec_ (w :: l.take (grpLen at_ w l)) N).2 (rec_ (w :: l.take (grpLen at_ w l)) N).1).f3)⟩) (fun k hk => by
      rcases List.mem_append.1 hk with hk | hk
      · have := hx k hk; omega
      · obtain rfl := List.mem_singleton.1 hk; exact ⟨h3, h4⟩) (by
      simp only [List.length_append, List.length_singleton, List.length_drop, List.length_cons, List.length_nil] at hm ⊢
      omega)
    exact ⟨this.1, by have := this.2.1; omega, this.2.2⟩
theorem bld_succ (d : Nat) (l : List (List Int)) (at_ : Nat) (N : List Nd) : bld (d + 1) l at_ N = putN (kids (fun l N => bld d l (at_ + 1) N) at_ (restL l at_).length (restL l at_) (startNd l at_) N).2 (kids (fun l N => bld d l (at_ + 1) N) at_ (restL l at_).length (restL l at_) (startNd l at_) N).1 := rfl
theorem closed_bld {M : Nat} : ∀ (d : Nat) (l : List (List Int)) (at_ : Nat) (N : List Nd), Pre l at_ → (∀ w ∈ l, w.length < at_ + (d + 1)) → l.length ≤ M → Closed M N → Closed M (bld (d + 1) l at_ N).2 ∧ N.length ≤ (bld (d + 1) l at_ N).2.length := by
 intro d
 induction d with
 | zero =>
  intro l at_ N hp hl hM hc
  have hr : restL l at_ = [] := by
   obtain ⟨h1, h2⟩ := restL_pre hp
   cases hrl : restL l at_ with
   | nil => rfl
   | cons w r =>
    exfalso
    have h3 : w ∈ restL l at_ := by rw [hrl]; exact List.mem_cons_self
    have h4 := h2 w h3
    have h5 : w ∈ l := by
     unfold restL at h3
     split at h3
     ·
      exact List.mem_of_mem_tail h3
     ·
      exact h3
    have := hl w h5
    omega
  simp only [bld, hr, List.length_nil, kids]
  exact closed_putN hc (by simp [startNd]) (by simp [startNd])
 | succ d ih =>
  intro l at_ N hp hl hM hc
  obtain ⟨h1, h2⟩ := restL_pre hp
  have hsub : ∀ w ∈ restL l at_, w ∈ l := by
   intro w hw
   unfold restL at hw
   split at hw
   ·
    exact List.mem_of_mem_tail hw
   ·
    exact hw
  have hlen : (restL l at_).length ≤ l.length := by unfold restL; split <;> simp
  have hk := closed_kids (M := M) (fun l N => bld (d + 1) l (at_ + 1) N) at_ (fun l => Pre l at_ ∧ (∀ w ∈ l, at_ < w.length) ∧ (∀ w ∈ l, w.length < at_ + (d + 1 + 1)) ∧ l.length ≤ M)
   (fun w l h => ⟨pre_drop (pre_tail h.1) _, fun v hv => h.2.1 v (List.mem_cons_of_mem _ (List.mem_of_mem_drop hv)), fun v hv => h.2.2.1 v (List.mem_cons_of_mem _ (List.mem_of_mem_drop hv)), by have := h.2.2.2; simp only [List.length_cons, List.length_drop] at this ⊢; omega⟩)
   (fun w l N h hc => by
    have hsub' : ∀ v ∈ w :: l.take (grpLen at_ w l), v ∈ w :: l := by
     intro v hv
     rcases List.mem_cons.1 hv with rfl | hv
     ·
      exact List.mem_cons_self
     ·
      exact List.mem_cons_of_mem _ (List.mem_of_mem_take hv)
    have h3 := ih (w :: l.take (grpLen at_ w l)) (at_ + 1) N (grp_pre h.1 h.2.1) (fun v hv => by have := h.2.2.1 v (hsub' v hv); omega) (by have := h.2.2.2; simp only [List.length_cons, List.length_take] at this ⊢; omega) hc
    have h4 := bld_lt d (w :: l.take (grpLen at_ w l)) (at_ + 1) N
    exact ⟨h3.1, h3.2, h4.1, h4.2⟩)
   (restL l at_).length (restL l at_) (startNd l at_) N ⟨h1, h2, fun w hw => hl w (hsub w hw), by omega⟩ hc (by simp [startNd]) (by simp [startNd]; omega)
  rw [bld_succ]
  have := closed_putN hk.1 hk.2.2.1 hk.2.2.2
  exact ⟨this.1, by have := this.2; have := hk.2.1; omega⟩

def nodesOf (ws : List (List Int)) : Int × List Nd := bld 65 ws 0 []
def graphOf (ws : List (List Int)) : List Nd := numN (nodesOf ws).2 (nodesOf ws).1
theorem nodesOf_ok {ws : List (List Int)} (h : Good ws) : NumOk (nodesOf ws).2 ∧ 0 ≤ (nodesOf ws).1 ∧ (nodesOf ws).1 < ((nodesOf ws).2.length : Int) := by
 have h1 := closed_bld (M := 4096) 64 ws 0 [] (good_pre h) (fun w hw => by have := h.short w hw; omega) h.few ⟨by simp, by simp⟩
 have h2 := bld_length 65 ws 0 [] (good_pre h)
 have h3 := good_cost h
 have h4 := bld_lt 64 ws 0 []
 refine ⟨⟨h1.1.lead, ?_, fun x hx => Nat.le_trans (h1.1.rows x hx) (by omega)⟩, h4.1, h4.2⟩
 simp only [List.length_nil] at h2
 unfold nodesOf
 omega
end Go.Proofs.Ytcdjeimjbbknjaa.PAll
namespace Go.Proofs.Ytcdjeimjbbknjaa.Res
open Go.Proofs.Ytcdjeimjbbknjaa.PAll
set_option linter.unusedVariables false
set_option linter.unusedSimpArgs false

def Srt (r : List (List Int)) : Prop := r.Pairwise fun u v => cmpL u v = -1
def hd (w : List Int) : Int := w.headD 0
def finR (r : List (List Int)) : Bool := match r with | [] => false | w :: _ => w.isEmpty
def restR (r : List (List Int)) : List (List Int) := if finR r then r.tail else r
def gsz (w : List Int) (l : List (List Int)) : Nat := (l.takeWhile fun v => hd v == hd w).length
def grps : Nat → List (List Int) → List (Int × List (List Int))
  | 0, _ => []
  | _ + 1, [] => []
  | n + 1, w :: l => (hd w, (w :: l.take (gsz w l)).map List.tail) :: grps n (l.drop (gsz w l))
def groups (r : List (List Int)) : List (Int × List (List Int)) := grps (restR r).length (restR r)
def flat (gs : List (Int × List (List Int))) : List (List Int) := gs.flatMap fun g => g.2.map (g.1 :: ·)

theorem cmpL_cons (a b : Int) (u v : List Int) : cmpL (a :: u) (b :: v) = -1 ↔ a < b ∨ a = b ∧ cmpL u v = -1 := by
 simp only [cmpL]
 by_cases h1 : a < b
 ·
  rw [if_pos h1]; simp [h1]
 ·
  rw [if_neg h1]
  by_cases h2 : b < a
  ·
   rw [if_pos h2]; simp; omega
  ·
   rw [if_neg h2]
   have : a = b := by omega
   simp [this]
theorem cmpL_nil_right (u : List Int) : cmpL u [] ≠ -1 := by cases u <;> simp [cmpL]
theorem srt_tail {w : List Int} {l : List (List Int)} (h : Srt (w :: l)) : Srt l := (List.pairwise_cons.1 h).2
theorem srt_ne {w : List Int} {l : List (List Int)} (h : Srt (w :: l)) : ∀ v ∈ l, v ≠ [] := by
 rintro v hv rfl
 exact cmpL_nil_right w ((List.pairwise_cons.1 h).1 _ hv)
theorem restR_ok {r : List (List Int)} (h : Srt r) : Srt (restR r) ∧ ∀ v ∈ restR r, v ≠ [] := by
 cases r with
 | nil => exact ⟨by simpa [restR, finR] using h, by simp [restR, finR]⟩
 | cons w l =>
  cases w with
  | nil =>
   have : restR ([] :: l) = l := by simp [restR, finR]
   rw [this]
   exact ⟨srt_tail h, srt_ne h⟩
  | cons a w =>
   have : restR ((a :: w) :: l) = (a :: w) :: l := by simp [restR, finR]
   rw [this]
   refine ⟨h, fun v hv => ?_⟩
   rcases List.mem_cons.1 hv with rfl | hv
   ·
    simp
   ·
    exact srt_ne h v hv
theorem rest_back {r : List (List Int)} (h : Srt r) : r = (if finR r then [[]] else []) ++ restR r := by
 cases r with
 | nil => simp [restR, finR]
 | cons w l =>
  cases w with
  | nil => simp [restR, finR]
  | cons a w => simp [restR, finR]
theorem tw_len_take {α : Type} (p : α → Bool) : ∀ l : List α, l.take (l.takeWhile p).length = l.takeWhile p
  | [] => rfl
  | a :: l => by
    by_cases ha : p a = true
    · rw [List.takeWhile_cons_of_pos ha, List.length_cons, List.take_succ_cons, tw_len_take p l]
    · rw [List.takeWhile_cons_of_neg ha]; rfl
theorem tw_all {α : Type} (p : α → Bool) : ∀ (l : List α) (v : α), v ∈ l.takeWhile p → p v = true
  | [], v, h => by simp at h
  | a :: l, v, h => by
    by_cases ha : p a = true
    · rw [List.takeWhile_cons_of_pos ha] at h
      rcases List.mem_cons.1 h with rfl | h
      · exact ha
      · exact tw_all p l v h
    · rw [List.takeWhile_cons_of_neg ha] at h
      simp at h
theorem gsz_hd {w : List Int} {l : List (List Int)} : ∀ v ∈ l.take (gsz w l), hd v = hd w := by
 intro v hv
 unfold gsz at hv
 rw [tw_len_take] at hv
 exact beq_iff_eq.1 (tw_all _ l v hv)
theorem hd_tail {v : List Int} (h : v ≠ []) : hd v :: v.tail = v := by cases v with
  | nil => exact absurd rfl h
  | cons a v => rfl
theorem grp_back {w : List Int} {l : List (List Int)} (h : ∀ v ∈ w :: l, v ≠ []) : ((w :: l.take (gsz w l)).map List.tail).map (hd w :: ·) = w :: l.take (gsz w l) := by
 rw [List.map_map]
 conv => rhs; rw [← List.map_id (w :: l.take (gsz w l))]
 refine List.map_congr_left fun v hv => ?_
 have h1 : hd v = hd w := by
  rcases List.mem_cons.1 hv with rfl | hv
  ·
   rfl
  ·
   exact gsz_hd v hv
 have h2 : v ≠ [] := by
  rcases List.mem_cons.1 hv with rfl | hv
  ·
   exact h _ List.mem_cons_self
  ·
   exact h v (List.mem_cons_of_mem _ (List.mem_of_mem_take hv))
 show hd w :: v.tail = v
 rw [← h1, hd_tail h2]
theorem grps_back : ∀ (n : Nat) (l : List (List Int)), l.length ≤ n → (∀ v ∈ l, v ≠ []) → flat (grps n l) = l
  | 0, l, hn, _ => by
    obtain rfl : l = [] := List.eq_nil_of_length_eq_zero (by omega)
    rfl
  | n + 1, [], _, _ => rfl
  | n + 1, w :: l, hn, h => by
    have := grps_back n (l.drop (gsz w l)) (by rw [List.length_drop]; simp at hn; omega) (fun v hv => h v (List.mem_cons_of_mem _ (List.mem_of_mem_drop hv)))
    unfold flat at this ⊢
    rw [grps, List.flatMap_cons, this, grp_back h, List.cons_append, List.take_append_drop]
theorem groups_back {r : List (List Int)} (h : Srt r) : flat (groups r) = restR r := grps_back _ _ (Nat.le_refl _) (restR_ok h).2
theorem res_ext {r r' : List (List Int)} (h : Srt r) (h' : Srt r') (hf : finR r = finR r') (hg : groups r = groups r') : r = r' := by
 rw [rest_back h, rest_back h', hf, ← groups_back h, ← groups_back h', hg]
theorem srt_tails {s : Int} {l : List (List Int)} (h : Srt l) (hs : ∀ v ∈ l, v ≠ [] ∧ hd v = s) : Srt (l.map List.tail) := by
 unfold Srt at *
 rw [List.pairwise_map]
 refine h.imp_of_mem fun {u v} hu hv huv => ?_
 obtain ⟨h1, h2⟩ := hs u hu
 obtain ⟨h3, h4⟩ := hs v hv
 rw [← hd_tail h1, ← hd_tail h3, cmpL_cons] at huv
 rcases huv with h | h
 ·
  omega
 ·
  exact h.2
theorem grps_ok : ∀ (n : Nat) (l : List (List Int)), Srt l → (∀ v ∈ l, v ≠ []) → ∀ g ∈ grps n l, Srt g.2 ∧ g.2 ≠ [] ∧ ∀ u ∈ g.2, (g.1 :: u) ∈ l
  | 0, l, _, _, g, hg => by simp [grps] at hg
  | n + 1, [], _, _, g, hg => by simp [grps] at hg
  | n + 1, w :: l, h, hn, g, hg => by
    rw [grps] at hg
    rcases List.mem_cons.1 hg with rfl | hg
    · refine ⟨srt_tails (s := hd w) ?_ ?_, by simp, ?_⟩
      · exact h.sublist (List.Sublist.cons_cons w (List.take_sublist _ _))
      · intro v hv
        rcases List.mem_cons.1 hv with rfl | hv
        · exact ⟨hn _ List.mem_cons_self, rfl⟩
        · exact ⟨hn v (List.mem_cons_of_mem _ (List.mem_of_mem_take hv)), gsz_hd v hv⟩
      · intro u hu
        have h1 : (hd w :: u) ∈ ((w :: l.take (gsz w l)).map List.tail).map (hd w :: ·) := List.mem_map_of_mem hu
        rw [grp_back hn] at h1
        rcases List.mem_cons.1 h1 with h1 | h1
        · show (hd w :: u) ∈ w :: l
          rw [h1]; exact List.mem_cons_self
        · exact List.mem_cons_of_mem _ (List.mem_of_mem_take h1)
    · have := grps_ok n (l.drop (gsz w l)) ((srt_tail h).sublist (List.drop_sublist _ _)) (fun v hv => hn v (List.mem_cons_of_mem _ (List.mem_of_mem_drop hv))) g hg
      exact ⟨this.1, this.2.1, fun u hu => List.mem_cons_of_mem _ (List.mem_of_mem_drop (this.2.2 u hu))⟩
theorem groups_ok {r : List (List Int)} (h : Srt r) : ∀ g ∈ groups r, Srt g.2 ∧ g.2 ≠ [] ∧ ∀ u ∈ g.2, (g.1 :: u) ∈ r := by
 intro g hg
 have := grps_ok _ _ (restR_ok h).1 (restR_ok h).2 g hg
 refine ⟨this.1, this.2.1, fun u hu => ?_⟩
 rw [rest_back h]
 exact List.mem_append_right _ (this.2.2 u hu)
theorem dropWhile_gt (w : List Int) : ∀ l : List (List Int), Srt (w :: l) → (∀ v ∈ w :: l, v ≠ []) → ∀ v ∈ l.drop (gsz w l), hd w < hd v
  | [], _, _, v, hv => by simp at hv
  | u :: l, h, hn, v, hv => by
    have hw := hn w List.mem_cons_self
    have hu := hn u (by simp)
    have h1 := (List.pairwise_cons.1 h).1 u List.mem_cons_self
    rw [← hd_tail hw, ← hd_tail hu, cmpL_cons] at h1
    by_cases he : hd u = hd w
    · have e : gsz w (u :: l) = gsz w l + 1 := by unfold gsz; rw [List.takeWhile_cons_of_pos (by simpa using he)]; rfl
      rw [e, List.drop_succ_cons] at hv
      refine dropWhile_gt w l ?_ ?_ v hv
      · exact h.sublist (List.Sublist.cons_cons w (List.sublist_cons_self _ _))
      · intro x hx
        rcases List.mem_cons.1 hx with rfl | hx
        · exact hw
        · exact hn x (by simp [hx])
    · have e : gsz w (u :: l) = 0 := by unfold gsz; rw [List.takeWhile_cons_of_neg (by simpa using he)]; rfl
      rw [e, List.drop_zero] at hv
      have hlt : hd w < hd u := by rcases h1 with h1 | h1; exact h1; exact absurd h1.1.symm he
      rcases List.mem_cons.1 hv with rfl | hv
      · exact hlt
      · have hv' := hn v (by simp [hv])
        have h2 := (List.pairwise_cons.1 (srt_tail h)).1 v hv
        rw [← hd_tail hu, ← hd_tail hv', cmpL_cons] at h2
        omega
theorem grps_hd : ∀ (n : Nat) (l : List (List Int)), Srt l → (∀ v ∈ l, v ≠ []) → ∀ g ∈ grps n l, ∃ v ∈ l, hd v = g.1
  | 0, l, _, _, g, hg => by simp [grps] at hg
  | n + 1, [], _, _, g, hg => by simp [grps] at hg
  | n + 1, w :: l, h, hn, g, hg => by
    rw [grps] at hg
    rcases List.mem_cons.1 hg with rfl | hg
    · exact ⟨w, List.mem_cons_self, rfl⟩
    · obtain ⟨v, hv, e⟩ := grps_hd n (l.drop (gsz w l)) ((srt_tail h).sublist (List.drop_sublist _ _)) (fun v hv => hn v (List.mem_cons_of_mem _ (List.mem_of_mem_drop hv))) g hg
      exact ⟨v, List.mem_cons_of_mem _ (List.mem_of_mem_drop hv), e⟩
theorem grps_inc : ∀ (n : Nat) (l : List (List Int)), Srt l → (∀ v ∈ l, v ≠ []) → (grps n l).Pairwise fun a b => a.1 < b.1
  | 0, l, _, _ => by simp [grps]
  | n + 1, [], _, _ => by simp [grps]
  | n + 1, w :: l, h, hn => by
    rw [grps]
    have hs : Srt (l.drop (gsz w l)) := (srt_tail h).sublist (List.drop_sublist _ _)
    have hne : ∀ v ∈ l.drop (gsz w l), v ≠ [] := fun v hv => hn v (List.mem_cons_of_mem _ (List.mem_of_mem_drop hv))
    refine List.pairwise_cons.2 ⟨fun g hg => ?_, grps_inc n _ hs hne⟩
    obtain ⟨v, hv, e⟩ := grps_hd n _ hs hne g hg
    show hd w < g.1
    rw [← e]
    exact dropWhile_gt w l h hn v hv
theorem groups_inc {r : List (List Int)} (h : Srt r) : (groups r).Pairwise fun a b => a.1 < b.1 := grps_inc _ _ (restR_ok h).1 (restR_ok h).2
theorem flat_length (gs : List (Int × List (List Int))) : (flat gs).length = (gs.map fun g => g.2.length).sum := by
 induction gs with
 | nil => rfl
 | cons g gs ih =>
  unfold flat at ih ⊢
  rw [List.flatMap_cons, List.length_append, ih, List.length_map]; simp
theorem res_length {r : List (List Int)} (h : Srt r) : r.length = (if finR r then 1 else 0) + ((groups r).map fun g => g.2.length).sum := by
 conv => lhs; rw [rest_back h, ← groups_back h]
 rw [List.length_append, flat_length]
 split <;> simp

def addP (P : List (List (List Int))) (r : List (List Int)) : List (List (List Int)) := if r ∈ P then P else P ++ [r]
def toR : List (List (List Int)) → List (List (List Int)) → List Int → List (List (List Int)) × List Int
  | [], P, ts => (P, ts)
  | r :: rs, P, ts => toR rs (addP P r) (ts ++ [(((addP P r).idxOf r : Nat) : Int)])
end Go.Proofs.Ytcdjeimjbbknjaa.Res
