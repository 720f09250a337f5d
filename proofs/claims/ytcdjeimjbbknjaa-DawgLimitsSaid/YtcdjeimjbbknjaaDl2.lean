import Derived.Test.YtcdjeimjbbknjaaProg
import Derived.Below
import Derived.Deep.Draws
import Derived.Deep.AppendLies
import Derived.Maps.AppendAt
import Derived.OwnWalk
import Derived.Laws.BytesArg
import Derived.Laws.MakeOwn
import Derived.Laws.OwnMore
import Derived.Deep.OwnRows
import Derived.Tactics
import Derived.Lib.ConvBytes
import Derived.Laws.Slices
import Derived.WalkKit
import Derived.KernelRfl
import Derived.RowKit3
import Derived.Deep.LoopGhost
import Derived.Deep.QuietTactic
import Derived.BigQuiet
import Derived.WideLaws
import Derived.Deep.DeepCutAuto
import Derived.Deep.CutBlock
import Derived.Deep.RegionHeld3
import Derived.Laws.Rows
import Derived.Lib.AppendStr
import Derived.ArgAppend
import Derived.Laws.IdiomCopy
import Derived.OrdersHeld
import Derived.Laws.BitsLemmas
import Derived.RowKit
import Derived.WalkSpells
import Derived.Maps.OwnSet
import Derived.StillTailTactics
import Derived.IntWalk
import Derived.Test.YtcdjeimjbbknjaaDl1
namespace Go.Proofs.Ytcdjeimjbbknjaa.PAll
open Go.RowKit Go.Proofs.YtcdjeimjbbknjaaW.PrintWords Go.Proofs.YtcdjeimjbbknjaaW.PrintLast Go.Proofs.YtcdjeimjbbknjaaW.PrintMore
attribute [local go_sem] max2_int min2_int max_two min_two max_three min_three max_four min_four   -- for this text's walks alone
set_option linter.unusedVariables false
set_option linter.unusedSimpArgs false



def errW : Option Int → Value
  | none => .nilIface
  | some c => .iface 0 (.int .i64 c)
theorem errW_none : errW none = .nilIface := rfl
theorem errW_some (c : Int) : errW (some c) = .iface 0 (.int .i64 c) := rfl

theorem info3 : (Try.prog.info? 3).map (fun i => (i.zero, i.size, i.bytes)) = some (some (.int .i64 0), 1, 8) := by kernel_rfl
theorem info5 : (Try.prog.info? 5).map (fun i => (i.zero, i.size, i.bytes)) = some (some (.int .u8 0), 1, 1) := by kernel_rfl
theorem info22 : (Try.prog.info? 22).map (fun i => (i.zero, i.size, i.bytes)) = some (some (.slice none 0 0), 1, 24) := by kernel_rfl
theorem info102 : (Try.prog.info? 102).map (fun i => (i.zero, i.size, i.bytes)) = some (some (.agg #[(.bool false), (.slice none 0 0), (.slice none 0 0), (.int .i64 0)]), 4, 64) := by kernel_rfl
/-! #### struct type 106 -/
structure S106 where
  f0 : Int
  f1 : Int
  f2 : Int
/-! #### struct type 102 -/
structure S102 where
  f0 : Bool
  f1 : (List Int)
  f2 : (List Int)
  f3 : Int
def z102 : S102 := ⟨false, ([] : List Int), ([] : List Int), (0 : Int)⟩
def k102 : Kd S102 := Kd.iso (Kd.pair Kd.bool (Kd.pair (Kd.slice 3 (Kd.int .i64)) (Kd.pair (Kd.slice 3 (Kd.int .i64)) (Kd.int .i64)))) (fun x : S102 => (x.f0, x.f1, x.f2, x.f3))
theorem k102_open {w : World} {x : S102} {cs : List Value} (h : k102.K w x cs) : ∃ A1 c1 A2 c2, cs = [.bool x.f0, .slice A1 x.f1.length c1, .slice A2 x.f2.length c2, .int .i64 x.f3] ∧ x.f1.length ≤ c1 ∧ (Kd.int .i64).C w A1 x.f1.length x.f1 ∧ x.f2.length ≤ c2 ∧ (Kd.int .i64).C w A2 x.f2.length x.f2 := by
  obtain ⟨_, _, rfl, rfl, ⟨_, _, rfl, ⟨A1, c1, rfl, l1, g1⟩, ⟨_, _, rfl, ⟨A2, c2, rfl, l2, g2⟩, rfl⟩⟩⟩ := h
  exact ⟨A1, c1, A2, c2, rfl, l1, g1, l2, g2⟩
theorem k102_mk (w : World) (x : S102) {A1 : Option Addr} {c1 : Nat} (l1 : x.f1.length ≤ c1) (g1 : (Kd.int .i64).C w A1 x.f1.length x.f1) {A2 : Option Addr} {c2 : Nat} (l2 : x.f2.length ≤ c2) (g2 : (Kd.int .i64).C w A2 x.f2.length x.f2) : k102.K w x [.bool x.f0, .slice A1 x.f1.length c1, .slice A2 x.f2.length c2, .int .i64 x.f3] := ⟨[.bool x.f0], [.slice A1 x.f1.length c1, .slice A2 x.f2.length c2, .int .i64 x.f3], rfl, rfl, ⟨[.slice A1 x.f1.length c1], [.slice A2 x.f2.length c2, .int .i64 x.f3], rfl, ⟨A1, c1, rfl, l1, g1⟩, ⟨[.slice A2 x.f2.length c2], [.int .i64 x.f3], rfl, ⟨A2, c2, rfl, l2, g2⟩, rfl⟩⟩⟩
theorem k102_mkM (w : World) (base : Nat) (ok : Nat → Prop) (x : S102) {v1 : Value} (g1 : (Kd.int .i64).R 3 w base ok v1 x.f1) {v2 : Value} (g2 : (Kd.int .i64).R 3 w base ok v2 x.f2) : k102.M w base ok x [.bool x.f0, v1, v2, .int .i64 x.f3] := ⟨[.bool x.f0], [v1, v2, .int .i64 x.f3], rfl, rfl, ⟨[v1], [v2, .int .i64 x.f3], rfl, ⟨v1, rfl, g1⟩, ⟨[v2], [.int .i64 x.f3], rfl, ⟨v2, rfl, g2⟩, rfl⟩⟩⟩
theorem k102_mkF (W : World) (ok : Nat → Prop) (x : S102) {A1 : Option Addr} {c1 : Nat} (l1 : x.f1.length ≤ c1) (g1 : Kd.F (Kd.int .i64) W ok A1 x.f1.length x.f1) {A2 : Option Addr} {c2 : Nat} (l2 : x.f2.length ≤ c2) (g2 : Kd.F (Kd.int .i64) W ok A2 x.f2.length x.f2) : Kd.FK k102 W ok x [.bool x.f0, .slice A1 x.f1.length c1, .slice A2 x.f2.length c2, .int .i64 x.f3] := fun W2 hW => k102_mk W2 x l1 (g1 W2 hW) l2 (g2 W2 hW)
def rd_T102 (xs : List S102) (i : Int) : S102 := xs.getD i.toNat z102
theorem at_T102 {w : World} {A : Option Addr} {n : Nat} {xs : List S102} (h : Kd.C k102 w A n xs) (i : Int) (h0 : 0 ≤ i) (h1 : i < n) : ∃ ad A1 c1 A2 c2, A = some ad ∧ w.cell? (ad.add (i.toNat * 4)) = some (.bool (rd_T102 xs i).f0) ∧ w.cell? ⟨(ad.add (i.toNat * 4)).block, (ad.add (i.toNat * 4)).off + 1, none⟩ = some (.slice A1 (rd_T102 xs i).f1.length c1) ∧ w.cell? ⟨(ad.add (i.toNat * 4)).block, (ad.add (i.toNat * 4)).off + 2, none⟩ = some (.slice A2 (rd_T102 xs i).f2.length c2) ∧ w.cell? ⟨(ad.add (i.toNat * 4)).block, (ad.add (i.toNat * 4)).off + 3, none⟩ = some (.int .i64 (rd_T102 xs i).f3) ∧ (rd_T102 xs i).f1.length ≤ c1 ∧ (Kd.int .i64).C w A1 (rd_T102 xs i).f1.length (rd_T102 xs i).f1 ∧ (rd_T102 xs i).f2.length ≤ c2 ∧ (Kd.int .i64).C w A2 (rd_T102 xs i).f2.length (rd_T102 xs i).f2 := by
  obtain ⟨ad, c, e, _, hK, hc0⟩ := Kd.C_get h z102 i h0 h1
  have hc : ∀ j u, c[j]? = some u → w.cell? (ad.add (i.toNat * 4 + j)) = some u := hc0
  obtain ⟨A1, c1, A2, c2, rfl, l1, g1, l2, g2⟩ := k102_open hK
  exact ⟨ad, A1, c1, A2, c2, e, hc 0 _ rfl, by rw [← add_field _ _ 1 (by omega)]; exact hc 1 _ rfl, by rw [← add_field _ _ 2 (by omega)]; exact hc 2 _ rfl, by rw [← add_field _ _ 3 (by omega)]; exact hc 3 _ rfl, l1, g1, l2, g2⟩

/-! #### struct type 86 -/
structure S86 where
  f0 : Int
  f1 : Int
/-! #### struct type 139 -/
structure S139 where
  f0 : ByteArray
  f1 : Int
  f2 : Int
  f3 : Int
  f4 : Int
end Go.Proofs.Ytcdjeimjbbknjaa.PAll
namespace Go.Proofs.Ytcdjeimjbbknjaa.PAll
open Go.RowKit Go.Proofs.YtcdjeimjbbknjaaW.PrintWords Go.Proofs.YtcdjeimjbbknjaaW.PrintLast Go.Proofs.YtcdjeimjbbknjaaW.PrintMore
set_option linter.unusedVariables false
set_option linter.unusedSimpArgs false

/-- The graph behind block g: its nodes, read. -/
def GraphAt (w : World) (g : Nat) (ns : List S102) : Prop :=
  ∃ A c, w.heap[g]? = some (.cells #[.slice A ns.length c] 110 (0, 0)) ∧ ns.length ≤ c ∧ Kd.C k102 w A ns.length ns
theorem GraphAt.below {w w1 : World} {g : Nat} {ns : List S102} (h : GraphAt w g ns) (hb : Below w.heap.size w w1) : GraphAt w1 g ns := by
  obtain ⟨A, c, hg, hc, hr⟩ := h
  exact ⟨A, c, (hb.block g (blk_lt hg)).trans hg, hc, Kd.C_below hr hb⟩
theorem GraphAt.drawn {w w1 : World} {g : Nat} {ns : List S102} (h : GraphAt w g ns) (hb : Drawn0 w w1) : GraphAt w1 g ns := h.below hb.below
theorem GraphAt.cell {w : World} {g : Nat} {ns : List S102} (h : GraphAt w g ns) : ∃ A c, w.cell? ⟨g, 0, none⟩ = some (.slice A ns.length c) ∧ ns.length ≤ c ∧ Kd.C k102 w A ns.length ns := by
  obtain ⟨A, c, hg, hc, hr⟩ := h
  exact ⟨A, c, by rw [blk_cell hg]; rfl, hc, hr⟩

/-- Node i of a graph, as the walk reads it. -/
theorem GraphAt.node {w : World} {g : Nat} {ns : List S102} (h : GraphAt w g ns) (i : Int) (h0 : 0 ≤ i) (h1 : i < (ns.length : Int)) :
    ∃ ad A1 c1 A2 c2 c, w.cell? ⟨g, 0, none⟩ = some (.slice (some ad) ns.length c) ∧ ns.length ≤ c ∧ w.cell? (ad.add (i.toNat * 4)) = some (.bool (rd_T102 ns i).f0) ∧
      w.cell? ⟨(ad.add (i.toNat * 4)).block, (ad.add (i.toNat * 4)).off + 1, none⟩ = some (.slice A1 (rd_T102 ns i).f1.length c1) ∧
      w.cell? ⟨(ad.add (i.toNat * 4)).block, (ad.add (i.toNat * 4)).off + 2, none⟩ = some (.slice A2 (rd_T102 ns i).f2.length c2) ∧
      w.cell? ⟨(ad.add (i.toNat * 4)).block, (ad.add (i.toNat * 4)).off + 3, none⟩ = some (.int .i64 (rd_T102 ns i).f3) ∧
      (rd_T102 ns i).f1.length ≤ c1 ∧ (Kd.int .i64).C w A1 (rd_T102 ns i).f1.length (rd_T102 ns i).f1 ∧ (rd_T102 ns i).f2.length ≤ c2 ∧ (Kd.int .i64).C w A2 (rd_T102 ns i).f2.length (rd_T102 ns i).f2 := by
  obtain ⟨A, c, hc, hl, hr⟩ := h.cell
  obtain ⟨ad, A1, c1, A2, c2, rfl, x0, x1, x2, x3, y1, y2, y3, y4⟩ := at_T102 hr i h0 h1
  exact ⟨ad, A1, c1, A2, c2, c, hc, hl, x0, x1, x2, x3, y1, y2, y3, y4⟩

/-! ### Len, States -/
set_option maxHeartbeats 400000 in
theorem len_any (g : Nat) (ns : List S102) (w : World) (hg : GraphAt w g ns) (hn : 0 < ns.length) :
    Calls Try.prog 30 #[.pointer (some ⟨g, 0, none⟩)] w fun e w' => e = .returned (.int .i64 (rd_T102 ns 0).f3) ∧ w = w' := by
  obtain ⟨ad, A1, c1, A2, c2, c, h0, hc, x0, x1, x2, x3, _, _, _, _⟩ := hg.node 0 (by omega) (by omega)
  simp only [show (0 : Int).toNat = 0 from rfl, Nat.zero_mul, Addr.add, if_true, ↓reduceIte] at x3
  clear hg x0 x1 x2
  have hn' : (0 : Int) < (ns.length : Int) := by omega
  go_enter Try.func30, Try.ntmps30
  go_wp2
  go_ret
  exact ⟨rfl, rfl⟩
theorem len_nil (w : World) : Calls Try.prog 30 #[.pointer none] w fun e w' => e = .returned (.int .i64 0) ∧ w = w' := by
  go_enter Try.func30, Try.ntmps30
  go_wp2
  go_ret
  exact ⟨rfl, rfl⟩
theorem states_any (g : Nat) (ns : List S102) (w : World) (hg : GraphAt w g ns) :
    Calls Try.prog 42 #[.pointer (some ⟨g, 0, none⟩)] w fun e w' => e = .returned (.int .i64 (ns.length : Int)) ∧ w = w' := by
  obtain ⟨A, c, h0, hc, hr⟩ := hg.cell
  clear hg hr
  go_enter Try.func42, Try.ntmps42
  go_wp2
  go_ret
  exact ⟨rfl, rfl⟩
theorem states_nil (w : World) : Calls Try.prog 42 #[.pointer none] w fun e w' => e = .returned (.int .i64 0) ∧ w = w' := by
  go_enter Try.func42, Try.ntmps42
  go_wp2
  go_ret
  exact ⟨rfl, rfl⟩

/-! ### has -/
def hasB (n : Nat) (i : Int) : Bool := decide (0 ≤ i) && decide (i < (n : Int))
theorem has_nil (i : Int) (w : World) : Calls Try.prog 74 #[.pointer none, .int .i64 i] w fun e w' => e = .returned (.bool false) ∧ w = w' := by
  by_cases h0 : 0 ≤ i
  · have h1 : ¬ (i < 0) := by omega
    go_enter Try.func74, Try.ntmps74
    go_wp2_with (go_at_call 42; refine (states_nil _).mono ?_; rintro e w' ⟨rfl, rfl⟩)
    go_ret
    exact ⟨by show Ending.returned (.bool (decide (i < 0))) = _; rw [decide_eq_false (by omega)], rfl⟩
  · go_enter Try.func74, Try.ntmps74
    go_wp2
    go_ret
    exact ⟨rfl, rfl⟩
/-! ### Final -/
def finalB (ns : List S102) (i : Int) : Bool := hasB ns.length i && (rd_T102 ns i).f0
theorem final_nil (i : Int) (w : World) : Calls Try.prog 31 #[.pointer none, .int .i64 i] w fun e w' => e = .returned (.bool false) ∧ w = w' := by
  go_enter Try.func31, Try.ntmps31
  go_wp2_with (go_at_call 74; refine (has_nil i _).mono ?_; rintro e w' ⟨rfl, rfl⟩)
  go_ret
  exact ⟨rfl, rfl⟩
end Go.Proofs.Ytcdjeimjbbknjaa.PAll
namespace Go.Proofs.Ytcdjeimjbbknjaa.PAll
open Go.RowKit Go.Proofs.YtcdjeimjbbknjaaW.PrintWords Go.Proofs.YtcdjeimjbbknjaaW.PrintLast Go.Proofs.YtcdjeimjbbknjaaW.PrintMore
attribute [local go_sem] max2_int min2_int max_two min_two max_three min_three max_four min_four   -- for this text's walks alone
set_option linter.unusedVariables false
set_option linter.unusedSimpArgs false

/-! ### dawg_node_key: function 68 -/
mutual
def dawg_node_key.j0 : Nat → List Int → Bool → List Int → List Int → Int → Option (ByteArray)
  | 0, _, _, _, _, _ => none
  | k + 1, x3, x102000, x102001, x102002, x102003 => dawg_node_key.l0 k x3 x102001 (x102001.length : Int) 0 x102000 x102001 x102002 x102003
def dawg_node_key.l0 : Nat → List Int → List Int → Int → Int → Bool → List Int → List Int → Int → Option (ByteArray)
  | 0, _, _, _, _, _, _, _, _ => none
  | k + 1, x3, x12, x13, x14, x102000, x102001, x102002, x102003 => if x14 < x13 then (if 0 ≤ x14 then (if x14 < (x12.length : Int) then (if x14 < (x102002.length : Int) then ((some (([(rd x12 x14) % 256, (rd x102002 x14) % 256, ((rd x102002 x14) / 256) % 256, ((rd x102002 x14) / 65536) % 256] : List Int) : List Int)).bind fun y110 => (if x3.length + y110.length < 140737488355328 then (dawg_node_key.l0 k (x3 ++ y110) x12 x13 (wrap64 (x14 + 1)) x102000 x102001 x102002 x102003) else (none))) else (none)) else (none)) else (none)) else (some (strOfNums x3))
end
def dawg_node_key.f (k : Nat) (a0_0 : Bool) (l0_1 : List Int) (l0_2 : List Int) (a0_3 : Int) : Option (ByteArray) := (some (([0] : List Int) : List Int)).bind fun y102 => (if a0_0 = true then (if 0 < (y102.length : Int) then (dawg_node_key.j0 k (y102.set (0 : Int).toNat 1) a0_0 l0_1 l0_2 a0_3) else (none)) else (dawg_node_key.j0 k y102 a0_0 l0_1 l0_2 a0_3))
theorem dawg_node_key.mono_l : ∀ k, (∀ y0 y1 y2 y3 y4, LeO (dawg_node_key.j0 k y0 y1 y2 y3 y4) (dawg_node_key.j0 (k + 1) y0 y1 y2 y3 y4)) ∧ (∀ y0 y1 y2 y3 y4 y5 y6 y7, LeO (dawg_node_key.l0 k y0 y1 y2 y3 y4 y5 y6 y7) (dawg_node_key.l0 (k + 1) y0 y1 y2 y3 y4 y5 y6 y7))
  | 0 => ⟨fun _ _ _ _ _ r h => by simp [dawg_node_key.j0] at h, fun _ _ _ _ _ _ _ _ r h => by simp [dawg_node_key.l0] at h⟩
  | k + 1 => by
    obtain ⟨ih0, ih1⟩ := dawg_node_key.mono_l k
    refine ⟨?_, ?_⟩
    · intro y0 y1 y2 y3 y4
      unfold dawg_node_key.j0
      repeat' first
      | (with_reducible exact ih0 _ _ _ _ _)
      | (with_reducible exact ih1 _ _ _ _ _ _ _ _)
      | (with_reducible exact LeO.refl _)
      | (with_reducible exact LeO.none _)
      | (with_reducible refine LeO.ite ?_ ?_)
      | (with_reducible refine LeO.bind ?_ (fun _ => ?_))
      | exact ih0 _ _ _ _ _
      | exact ih1 _ _ _ _ _ _ _ _
      | exact LeO.none _
      | refine LeO.ite ?_ ?_
      | refine LeO.bind ?_ (fun _ => ?_)
    · intro y0 y1 y2 y3 y4 y5 y6 y7
      unfold dawg_node_key.l0
      repeat' first
      | (with_reducible exact ih0 _ _ _ _ _)
      | (with_reducible exact ih1 _ _ _ _ _ _ _ _)
      | (with_reducible exact LeO.refl _)
      | (with_reducible exact LeO.none _)
      | (with_reducible refine LeO.ite ?_ ?_)
      | (with_reducible refine LeO.bind ?_ (fun _ => ?_))
      | exact ih0 _ _ _ _ _
      | exact ih1 _ _ _ _ _ _ _ _
      | exact LeO.none _
      | refine LeO.ite ?_ ?_
      | refine LeO.bind ?_ (fun _ => ?_)
theorem dawg_node_key.mono : ∀ a0 a1 a2 a3 k, LeO (dawg_node_key.f k a0 a1 a2 a3) (dawg_node_key.f (k + 1) a0 a1 a2 a3) := by
  intro a0 a1 a2 a3 k
  obtain ⟨ih0, ih1⟩ := dawg_node_key.mono_l k
  unfold dawg_node_key.f
  repeat' first
      | (with_reducible exact ih0 _ _ _ _ _)
      | (with_reducible exact ih1 _ _ _ _ _ _ _ _)
      | (with_reducible exact LeO.refl _)
      | (with_reducible exact LeO.none _)
      | (with_reducible refine LeO.ite ?_ ?_)
      | (with_reducible refine LeO.bind ?_ (fun _ => ?_))
      | exact ih0 _ _ _ _ _
      | exact ih1 _ _ _ _ _ _ _ _
      | exact LeO.none _
      | refine LeO.ite ?_ ?_
      | refine LeO.bind ?_ (fun _ => ?_)
def dawg_node_key.T7 : Bool × List (List Nat × List Nat) := (true, [([], []), ([], []), ([1], [1]), ([], []), ([3], [3]), ([], []), ([4, 5], [4, 5]), ([6], [6]), ([7], [7]), ([], []), ([9], [9]), ([], []), ([10, 11], [10, 11]), ([12], [12]), ([13], [13]), ([14], [14]), ([], []), ([16], [16]), ([], []), ([17, 18], [17, 18]), ([19], [19]), ([20], [20]), ([21], [21]), ([2, 8, 15, 22], [2, 8, 15, 22]), ([0, 23], [0, 23]), ([24, 24, 0, 1, 2, 3, 4, 5, 6, 7, 8, 9, 10, 11, 12, 13, 14, 15, 16, 17, 18, 19, 20, 21, 22, 23, 24], [0, 24])])
def dawg_node_key.B7 : List Nat := [0, 0, 2, 0, 8, 0, 56, 120, 248, 0, 512, 0, 3584, 7680, 15872, 32256, 0, 65536, 0, 458752, 983040, 2031616, 4128768, 8388606, 16777215, 33554431]
theorem dawg_node_key.tab7 : rtab .any (opsOf Try.f68 7) = dawg_node_key.T7 := by kernel_rfl
theorem dawg_node_key.bits7 : waitsOk dawg_node_key.T7.2 dawg_node_key.B7 = true := by kernel_rfl
set_option maxHeartbeats 8000000 in
set_option maxRecDepth 100000 in
theorem dawg_node_key.calls (k : Nat) (a0_0 : Bool) (A0_1 : Option Addr) (c0_1 : Nat) (l0_1 : List Int) (A0_2 : Option Addr) (c0_2 : Nat) (l0_2 : List Int) (a0_3 : Int) (r : ByteArray) (w : World) (hr0_1 : Kd.C (Kd.int .i64) w A0_1 l0_1.length l0_1) (hc0_1 : l0_1.length ≤ c0_1) (hr0_2 : Kd.C (Kd.int .i64) w A0_2 l0_2.length l0_2) (hc0_2 : l0_2.length ≤ c0_2) (h : dawg_node_key.f k a0_0 l0_1 l0_2 a0_3 = some r) :
    Calls Try.prog 68 #[.agg #[.bool a0_0, .slice A0_1 l0_1.length c0_1, .slice A0_2 l0_2.length c0_2, .int .i64 a0_3]] w fun e w' => e = .returned (.string r) ∧ Below w.heap.size w w' := by
  have hu102 := Try.underlying102
  have HR0_1 := Aside0.mk hr0_1
  have HC0_1 := Aside0.mk hc0_1
  clear hr0_1 hc0_1
  have HR0_2 := Aside0.mk hr0_2
  have HC0_2 := Aside0.mk hc0_2
  clear hr0_2 hc0_2
  have HB := Aside0.mk (Below.refl w.heap.size w)
  have H : ((some (([0] : List Int) : List Int)).bind fun y102 => (if a0_0 = true then (if 0 < (y102.length : Int) then (dawg_node_key.j0 k (y102.set (0 : Int).toNat 1) a0_0 l0_1 l0_2 a0_3) else (none)) else (dawg_node_key.j0 k y102 a0_0 l0_1 l0_2 a0_3))) = some r := h
  clear h
  obtain ⟨y102, hy102⟩ : ∃ y_ : List Int, y_ = (([0] : List Int)) := ⟨_, rfl⟩
  replace H : (if a0_0 = true then (if 0 < (y102.length : Int) then (dawg_node_key.j0 k (y102.set (0 : Int).toNat 1) a0_0 l0_1 l0_2 a0_3) else (none)) else (dawg_node_key.j0 k y102 a0_0 l0_1 l0_2 a0_3)) = some r := by first | (rw [hy102]; with_reducible exact H) | (have H2_ := (Option.bind_some _ _).symm.trans H; rw [hy102]; with_reducible exact H2_) | (have H2_ := (Option.bind_some _ _).symm.trans H; with_reducible exact H2_) | with_reducible exact H | (rw [hy102]; exact H) | exact H
  have Ny102 := Aside0.mk hy102
  clear hy102
  have HC2 := Aside0.mk H
  clear H
  go_enter Try.func68, Try.ntmps68
  go_upto_if 8 with (first | ((with_reducible refine gate_dst (N := 1) rfl ?_); refine box_event ?hg (N := 1) ?hd (cs := #[.bool a0_0, .slice A0_1 l0_1.length c0_1, .slice A0_2 l0_2.length c0_2, .int .i64 a0_3]) (t := 102) ?hr ?_; (case hd => rfl); (case hg => rfl); (case hr => first | (go_simp; done) | (go_simp; rfl)); intro gb101 hg w3 hbox hb; have n0_ := Aside0.mk (below_step (by repeat (first | (with_reducible first | exact HB.out | apply below_alloc | apply pw_below_drewN | apply below_drew1) | exact HB.out)) hb); have n1_ := Aside0.mk (hbox); have n2_ := Aside0.mk ((by rw [hg]; exact (below_size (by repeat (first | (with_reducible first | exact HB.out | apply below_alloc | apply pw_below_drewN | apply below_drew1) | exact HB.out))) : w.heap.size ≤ gb101)); have n3_ := Aside0.mk ((by rw [hg]; exact (below_size (by repeat (first | (with_reducible first | exact HB.out | apply below_alloc | apply pw_below_drewN | apply below_drew1) | exact HB.out))) : w.heap.size ≤ gb101)); clear HB; have HB := n0_; have BK101 := n1_; have GW101 := n2_; have GE101 := n3_; clear n0_ n1_ n2_ n3_; clear hb hbox hg) | ((with_reducible refine gate_dst (N := 6) rfl ?_); refine Kd.R_lit (Kd.int .u8) _ 5 ?hg (N := 6) ?hd (xs := ([0] : List Int)) (inner := [.int .u8 0]) (ok := fun _ => True) (okp := fun _ => True) ?hr ?hp (fun _ hk => hk) trivial (Below.refl _ _) (Nat.le_refl _) (by simp) ?_; (case hd => rfl); (case hg => rfl); (case hr => first | (go_simp; done) | (go_simp; rfl)); (case hp => exact (Reps.one (show Kd.M (Kd.int .u8) _ _ _ 0 [.int .u8 0] from rfl) (Reps.none _ _))); intro v103 w4 ho5 hb hg_ hnew_; clear hg_ hnew_; (first | rw [← Ny102.out] at ho5 | (simp only [Int.reduceToNat] at ho5; rw [← Ny102.out] at ho5)); have n0_ := Aside0.mk (Kd.R_lower ho5 (below_size (by repeat (first | (with_reducible first | exact HB.out | apply below_alloc | apply pw_below_drewN | apply below_drew1 | refine below_set ?_ GE101.out) | exact HB.out)))); have n1_ := Aside0.mk (blk_below (g := gb101) (o := .cells #[.bool a0_0, .slice A0_1 l0_1.length c0_1, .slice A0_2 l0_2.length c0_2, .int .i64 a0_3] 102 (0, 0)) (by (with_reducible repeat (first | refine blk_drewN ?_ _ | refine blk_drew ?_ | refine blk_alloc ?_ _)); exact BK101.out) hb); have n2_ := Aside0.mk (below_step (by repeat (first | (with_reducible first | exact HB.out | apply below_alloc | apply pw_below_drewN | apply below_drew1 | refine below_set ?_ GE101.out) | exact HB.out)) hb); clear BK101; clear HB; have HO104 := n0_; have BK101 := n1_; have HB := n2_; clear n0_ n1_ n2_; clear hb ho5; have hcz6_0 : w4.cell? ⟨gb101, 0, none⟩ = some (.bool a0_0) := (blk_cell BK101.out 0).trans rfl; have hcz6_1 : w4.cell? ⟨gb101, 1, none⟩ = some (.slice A0_1 l0_1.length c0_1) := (blk_cell BK101.out 1).trans rfl; have hcz6_2 : w4.cell? ⟨gb101, 2, none⟩ = some (.slice A0_2 l0_2.length c0_2) := (blk_cell BK101.out 2).trans rfl; have hcz6_3 : w4.cell? ⟨gb101, 3, none⟩ = some (.int .i64 a0_3) := (blk_cell BK101.out 3).trans rfl; have hfz6_0 := blk_frozen BK101.out 0; have hfz6_1 := blk_frozen BK101.out 1; have hfz6_2 := blk_frozen BK101.out 2; have hfz6_3 := blk_frozen BK101.out 3))
  (try simp only [Act.put, List.setIfInBounds_toArray, List.set_cons_zero, List.set_cons_succ])
  go_cut [] (fun wc => ∃ (kq : Nat) (x3_1 : List Int), Aside0 (dawg_node_key.j0 kq x3_1 a0_0 l0_1 l0_2 a0_3 = some r) ∧ Aside0 (kq ≤ k) ∧ Aside0 (Kd.R (Kd.int .u8) 5 wc w.heap.size (fun _ => True) v103 x3_1) ∧ Aside0 (wc.heap[gb101]? = some (.cells #[.bool a0_0, (.slice A0_1 l0_1.length c0_1), (.slice A0_2 l0_2.length c0_2), .int .i64 a0_3] 102 (0, 0))) ∧ Aside0 (Below w.heap.size w wc))
  case first =>
    have H := HC2.out
    clear HC2
    by_cases c7 : a0_0 = true
    · subst c7
      have H1 : (if 0 < (y102.length : Int) then (dawg_node_key.j0 k (y102.set (0 : Int).toNat 1) true l0_1 l0_2 a0_3) else (none)) = some r := by rw [if_pos rfl] at H; exact H
      clear H
      have H := H1
      clear H1
      by_cases c8 : 0 < (y102.length : Int)
      · rw [if_pos c8] at H
        have c8b0 : decide (0 < (y102.length : Int)) = true := decide_eq_true c8
        have c8b1 : decide (0 < y102.length) = true := decide_eq_true (by omega)
        clear c8
        (first | rw [c8b0] | (simp only [i64_w, i32_w]; rw [c8b0]) | skip)
        obtain ⟨y105, hy105⟩ : ∃ y_ : List Int, y_ = (y102.set (0 : Int).toNat 1) := ⟨_, rfl⟩
        replace H : (dawg_node_key.j0 k y105 true l0_1 l0_2 a0_3) = some r := by first | (rw [hy105]; with_reducible exact H) | (have H2_ := (Option.bind_some _ _).symm.trans H; rw [hy105]; with_reducible exact H2_) | (have H2_ := (Option.bind_some _ _).symm.trans H; with_reducible exact H2_) | with_reducible exact H | (rw [hy105]; exact H) | exact H
        have Ny105 := Aside0.mk hy105
        clear hy105
        have H' := Aside0.mk H
        clear H
        have p9 : 0 ≤ (0 : Int) := (by omega)
        have q9 : (0 : Int) < ((y102.length : Int) : Int) := of_decide_eq_true (by first | (with_reducible assumption) | assumption)
        have qi9 : (0 < y102.length) = True := eq_true (by omega)
        obtain ⟨go9, co9, eo9, gb9, gl9, cl9, HG9⟩ := Kd.R_form HO104.out (by omega)
        (first | cases eo9 | (injection eo9 with ea_ en_ ec_; (first | subst ea_ | (injection ea_ with ea_; subst ea_)); subst ec_; clear en_))
        have GB9 := Aside0.mk gb9
        have GG9 := Aside0.mk HG9
        clear gb9 gl9 HG9
        obtain ⟨hx9_0, hf9_0⟩ := Kd.R_celln 0 HO104.out (0 : Int) p9 q9
        (try rw [show ((0 : Int)).toNat = 0 from rfl] at hx9_0)
        (try simp only [Nat.reduceMul, Nat.zero_mul, Nat.zero_add, Nat.reduceAdd] at hx9_0)
        (try rw [show ((0 : Int)).toNat = 0 from rfl] at hf9_0)
        (try simp only [Nat.reduceMul, Nat.zero_mul, Nat.zero_add, Nat.reduceAdd] at hf9_0)
        replace p9 := eq_true p9
        replace q9 := eq_true q9
        have HP10 := Kd.R_putg HO104.out (0 : Int) 1
        go_wp2_with (first | ((with_reducible refine gate_store (t := 5) (p := 10) rfl ?_); refine store_event (t := 5) (p := 10) (v := ?vo_w11) (w1 := (w4.setCell ⟨go9, (0 : Int).toNat, none⟩ (.int .u8 1))) ?hg ?ho ?hn ?hr ?_; (case ho => rfl); (case hg => rfl); (case hn => rfl); (case hr => first | (go_simp; done) | (go_simp; rfl)); intro w11 hw; have hg : w4.grownBy w11 (some go9) := (by rw [hw]; exact HP10.2); have hp_ : Kd.R (Kd.int .u8) 5 w11 w.heap.size (fun _ => True) (.slice (some ⟨go9, 0, none⟩) y102.length co9) y105 := (by rw [hw, Ny105.out]; exact HP10.1); clear HP10; have n0_ := Aside0.mk (blk_grown (g := gb101) (o := .cells #[.bool true, .slice A0_1 l0_1.length c0_1, .slice A0_2 l0_2.length c0_2, .int .i64 a0_3] 102 (0, 0)) (by (with_reducible repeat (first | refine blk_drewN ?_ _ | refine blk_drew ?_ | refine blk_alloc ?_ _)); exact BK101.out) hg (Kd.R_ne HO104.out BK101.out (by decide))); have n1_ := Aside0.mk (hp_); have n2_ := Aside0.mk ((by rw [hw]; exact below_set (HB.out) GB9.out : Below w.heap.size w w11)); clear BK101; clear HO104; clear HB; have BK101 := n0_; have HO104 := n1_; have HB := n2_; clear n0_ n1_ n2_; clear hg hw hp_))
        go_meet
        case rel => exact ⟨_, (y105), H', ⟨by first | omega | exact Nat.le_refl _⟩, ⟨by (with_reducible repeat (first | apply Kd.R_alloc | apply Kd.R_drewN | apply Kd.R_drew)); exact HO104.out⟩, ⟨by (with_reducible repeat (first | refine blk_drewN ?_ _ | refine blk_drew ?_ | refine blk_alloc ?_ _)); exact BK101.out⟩, ⟨by repeat (first | (with_reducible first | exact HB.out | apply below_alloc | apply pw_below_drewN | apply below_drew1 | refine below_set ?_ GE101.out) | exact HB.out)⟩⟩
      · rw [if_neg c8] at H
        exact absurd H (by simp)
    · replace c7 := Bool.eq_false_iff.mpr c7
      subst c7
      have H1 : (dawg_node_key.j0 k y102 false l0_1 l0_2 a0_3) = some r := by rw [if_neg (show ¬ (false = true) by decide)] at H; exact H
      clear H
      have H := H1
      clear H1
      have H' := Aside0.mk H
      clear H
      go_wp2
      go_meet
      case rel => exact ⟨_, (y102), H', ⟨by first | omega | exact Nat.le_refl _⟩, ⟨by (with_reducible repeat (first | apply Kd.R_alloc | apply Kd.R_drewN | apply Kd.R_drew)); exact HO104.out⟩, ⟨by (with_reducible repeat (first | refine blk_drewN ?_ _ | refine blk_drew ?_ | refine blk_alloc ?_ _)); exact BK101.out⟩, ⟨by repeat (first | (with_reducible first | exact HB.out | apply below_alloc | apply pw_below_drewN | apply below_drew1 | refine below_set ?_ GE101.out) | exact HB.out)⟩⟩
  case rest =>
    clear HC2
    try clear p2
    try clear c6
    try clear c7
    try clear c8
    try clear c8b0
    try clear c8b1
    try clear p9
    try clear q9
    try clear hx9
    try clear qi9
    try clear hf9
    try clear hcz6_0
    try clear hcz6_1
    try clear hcz6_2
    try clear hcz6_3
    try clear hfz6_0
    try clear hfz6_1
    try clear hfz6_2
    try clear hfz6_3
    try clear hx9_0
    try clear p9
    try clear q9
    obtain ⟨kq, x3_1, HA, HJ1, HO_3, BK101, HB⟩ := hcut
    cases kq with
    | zero => exact absurd HA.out (by simp [dawg_node_key.j0])
    | succ kj1 =>
      have H := HA.out
      clear HA
      simp only [dawg_node_key.j0] at H
      have H' := Aside0.mk H
      clear H
      have hcz12_0 : wc.cell? ⟨gb101, 0, none⟩ = some (.bool a0_0) := (blk_cell BK101.out 0).trans rfl
      have hcz12_1 : wc.cell? ⟨gb101, 1, none⟩ = some (.slice A0_1 l0_1.length c0_1) := (blk_cell BK101.out 1).trans rfl
      have hcz12_2 : wc.cell? ⟨gb101, 2, none⟩ = some (.slice A0_2 l0_2.length c0_2) := (blk_cell BK101.out 2).trans rfl
      have hcz12_3 : wc.cell? ⟨gb101, 3, none⟩ = some (.int .i64 a0_3) := (blk_cell BK101.out 3).trans rfl
      have hfz12_0 := blk_frozen BK101.out 0
      have hfz12_1 := blk_frozen BK101.out 1
      have hfz12_2 := blk_frozen BK101.out 2
      have hfz12_3 := blk_frozen BK101.out 3
      go_wp2
      go_loopg [3, 14] kj1 (fun kq v3 v14 w' => ∃ (x3_2 : List Int) (x14_2 : Int), v14 = .int .i64 x14_2 ∧ Aside0 (dawg_node_key.l0 kq x3_2 l0_1 (l0_1.length : Int) x14_2 a0_0 l0_1 l0_2 a0_3 = some r) ∧ Aside0 (kq ≤ kj1) ∧ Aside0 (Kd.R (Kd.int .u8) 5 w' w.heap.size (fun _ => True) v3 x3_2) ∧ Aside0 (w'.heap[gb101]? = some (.cells #[.bool a0_0, (.slice A0_1 l0_1.length c0_1), (.slice A0_2 l0_2.length c0_2), .int .i64 a0_3] 102 (0, 0))) ∧ Aside0 (Below w.heap.size w w'))
      case atStart => exact ⟨(x3_1), (0), (by first | rfl | (simp; done) | (simp [*]; done)), H', ⟨Nat.le_refl _⟩, ⟨by (with_reducible repeat (first | apply Kd.R_alloc | apply Kd.R_drewN | apply Kd.R_drew)); exact HO_3.out⟩, ⟨by (with_reducible repeat (first | refine blk_drewN ?_ _ | refine blk_drew ?_ | refine blk_alloc ?_ _)); exact BK101.out⟩, ⟨by repeat (first | (with_reducible first | exact HB.out | apply below_alloc | apply pw_below_drewN | apply below_drew1 | refine below_set ?_ GE101.out) | exact HB.out)⟩⟩
      case round =>
        clear H'
        try clear p2
        try clear c6
        try clear c7
        try clear c8
        try clear c8b0
        try clear c8b1
        try clear p9
        try clear q9
        try clear hx9
        try clear qi9
        try clear hf9
        try clear hcz12_0
        try clear hcz12_1
        try clear hcz12_2
        try clear hcz12_3
        try clear hcz6_0
        try clear hcz6_1
        try clear hcz6_2
        try clear hcz6_3
        try clear hfz12_0
        try clear hfz12_1
        try clear hfz12_2
        try clear hfz12_3
        try clear hfz6_0
        try clear hfz6_1
        try clear hfz6_2
        try clear hfz6_3
        try clear hx9_0
        try clear p2
        try clear p9
        try clear q9
        obtain ⟨x3_2, x14_2, rfl, HA, HK2, HO_3, BK101, HB⟩ := hrel
        cases gk with
        | zero => exact absurd HA.out (by simp [dawg_node_key.l0])
        | succ k2 =>
          have H := HA.out
          clear HA
          simp only [dawg_node_key.l0] at H
          by_cases c13 : x14_2 < (l0_1.length : Int)
          · rw [if_pos c13] at H
            have c13b0 : decide (x14_2 < (l0_1.length : Int)) = true := decide_eq_true c13
            clear c13
            by_cases c14 : 0 ≤ x14_2
            · rw [if_pos c14] at H
              have c14b0 : decide (0 ≤ x14_2) = true := decide_eq_true c14
              clear c14
              by_cases c15 : x14_2 < (l0_1.length : Int)
              · rw [if_pos c15] at H
                have c15b0 : decide (x14_2 < (l0_1.length : Int)) = true := decide_eq_true c15
                clear c15
                by_cases c16 : x14_2 < (l0_2.length : Int)
                · rw [if_pos c16] at H
                  have c16b0 : decide (x14_2 < (l0_2.length : Int)) = true := decide_eq_true c16
                  clear c16
                  obtain ⟨y110, hy110⟩ : ∃ y_ : List Int, y_ = (([(rd l0_1 x14_2) % 256, (rd l0_2 x14_2) % 256, ((rd l0_2 x14_2) / 256) % 256, ((rd l0_2 x14_2) / 65536) % 256] : List Int)) := ⟨_, rfl⟩
                  replace H : (if x3_2.length + y110.length < 140737488355328 then (dawg_node_key.l0 k2 (x3_2 ++ y110) l0_1 (l0_1.length : Int) (wrap64 (x14_2 + 1)) a0_0 l0_1 l0_2 a0_3) else (none)) = some r := by first | (rw [hy110]; with_reducible exact H) | (have H2_ := (Option.bind_some _ _).symm.trans H; rw [hy110]; with_reducible exact H2_) | (have H2_ := (Option.bind_some _ _).symm.trans H; with_reducible exact H2_) | with_reducible exact H | (rw [hy110]; exact H) | exact H
                  have Ny110 := Aside0.mk hy110
                  clear hy110
                  by_cases c17 : x3_2.length + y110.length < 140737488355328
                  · rw [if_pos c17] at H
                    have LMc17 := Aside0.mk c17
                    clear c17
                    obtain ⟨y113, hy113⟩ : ∃ y_ : List Int, y_ = (x3_2 ++ y110) := ⟨_, rfl⟩
                    replace H : (dawg_node_key.l0 k2 y113 l0_1 (l0_1.length : Int) (wrap64 (x14_2 + 1)) a0_0 l0_1 l0_2 a0_3) = some r := by first | (rw [hy113]; with_reducible exact H) | (have H2_ := (Option.bind_some _ _).symm.trans H; rw [hy113]; with_reducible exact H2_) | (have H2_ := (Option.bind_some _ _).symm.trans H; with_reducible exact H2_) | with_reducible exact H | (rw [hy113]; exact H) | exact H
                    have Ny113 := Aside0.mk hy113
                    clear hy113
                    have H' := Aside0.mk H
                    clear H
                    have p106 : 0 ≤ (x14_2 : Int) := of_decide_eq_true (by first | (with_reducible assumption) | assumption)
                    have q106 : x14_2 < (l0_1.length : Int) := of_decide_eq_true (by first | (with_reducible assumption) | assumption)
                    obtain ⟨ad106, e106, hx106_0⟩ := Kd.at_int HR0_1.out x14_2 p106 q106
                    cases e106
                    replace hx106_0 := (HB.out.cell (World.block_lt_of_cell? w _ hx106_0)).trans hx106_0
                    replace p106 := eq_true p106
                    replace q106 := eq_true q106
                    try go_wp2
                    have n0_ := Aside0.mk (Kd.R_drew HO_3.out)
                    have n1_ := Aside0.mk (blk_drew BK101.out)
                    have n2_ := Aside0.mk (below_drew1 HB.out)
                    clear HO_3
                    clear BK101
                    clear HB
                    have HO_3 := n0_
                    have BK101 := n1_
                    have HB := n2_
                    clear n0_ n1_ n2_
                    have p107 : 0 ≤ (x14_2 : Int) := of_decide_eq_true (by first | (with_reducible assumption) | assumption)
                    have q107 : x14_2 < (l0_2.length : Int) := of_decide_eq_true (by first | (with_reducible assumption) | assumption)
                    obtain ⟨ad107, e107, hx107_0⟩ := Kd.at_int HR0_2.out x14_2 p107 q107
                    have hw107_0 := hx107_0
                    cases e107
                    replace hx107_0 := (HB.out.cell (World.block_lt_of_cell? w _ hx107_0)).trans hx107_0
                    replace p107 := eq_true p107
                    replace q107 := eq_true q107
                    have p108 : 0 ≤ (x14_2 : Int) := of_decide_eq_true (by first | (with_reducible assumption) | assumption)
                    have q108 : x14_2 < (l0_2.length : Int) := of_decide_eq_true (by first | (with_reducible assumption) | assumption)
                    obtain ⟨ad108, e108, hx108_0⟩ := Kd.at_int HR0_2.out x14_2 p108 q108
                    have hw108_0 := hx108_0
                    obtain rfl : ad107 = ad108 := (by injection e108)
                    replace hx108_0 := (HB.out.cell (World.block_lt_of_cell? w _ hx108_0)).trans hx108_0
                    replace p108 := eq_true p108
                    replace q108 := eq_true q108
                    have p109 : 0 ≤ (x14_2 : Int) := of_decide_eq_true (by first | (with_reducible assumption) | assumption)
                    have q109 : x14_2 < (l0_2.length : Int) := of_decide_eq_true (by first | (with_reducible assumption) | assumption)
                    obtain ⟨ad109, e109, hx109_0⟩ := Kd.at_int HR0_2.out x14_2 p109 q109
                    have hw109_0 := hx109_0
                    obtain rfl : ad107 = ad109 := (by injection e109)
                    replace hx109_0 := (HB.out.cell (World.block_lt_of_cell? w _ hx109_0)).trans hx109_0
                    replace p109 := eq_true p109
                    replace q109 := eq_true q109
                    refine start_ (n := 26) (S := fun w' => w'.cell? ⟨gb101, 0, none⟩ = some (.bool a0_0) ∧ w'.cell? ⟨gb101, 1, none⟩ = some (.slice (some ad106) l0_1.length c0_1) ∧ w'.cell? ⟨gb101, 2, none⟩ = some (.slice (some ad107) l0_2.length c0_2) ∧ w'.cell? ⟨gb101, 3, none⟩ = some (.int .i64 a0_3) ∧ w'.cell? (ad107.add (x14_2).toNat) = some (.int .i64 (rd l0_2 x14_2)) ∧ w'.cell? (ad107.add (x14_2).toNat) = some (.int .i64 (rd l0_2 x14_2)) ∧ w'.cell? (ad107.add (x14_2).toNat) = some (.int .i64 (rd l0_2 x14_2))) (ds := []) #[false, false, false, false, false, false, false, false, false, false, false, false, false, false, false, false, false, false, false, false, false, false, false, false, false, false] (by kernel_rfl) rfl rfl ⟨(blk_cell BK101.out 0).trans rfl, (blk_cell BK101.out 1).trans rfl, (blk_cell BK101.out 2).trans rfl, (blk_cell BK101.out 3).trans rfl, ((HB.out.cell (World.block_lt_of_cell? w _ hw107_0)).trans hw107_0), ((HB.out.cell (World.block_lt_of_cell? w _ hw108_0)).trans hw108_0), ((HB.out.cell (World.block_lt_of_cell? w _ hw109_0)).trans hw109_0)⟩ (fun hHeld => ?_); refine with_tabW dawg_node_key.tab7 dawg_node_key.bits7 (fun HT_ HW_ => ?_)
                    generalize wr.drew = w18 at HO_3 BK101 HB hx107_0 hx108_0 hx109_0 hHeld ⊢
                    refine pure_ (i := 0) (N := some 19) (v := ?_) (a' := ?_) #[true, false, false, false, false, false, false, false, false, false, false, false, false, false, false, false, false, false, false, false, false, false, false, false, false, false] rfl rfl (any_of HT_.out (by kernel_rfl)) (fun _ _ _ h => h) (Or.inl ⟨by rfl, ?_⟩) ?_ ?_
                    rotate_left
                    · intro w'
                      go_simp
                      with_reducible rfl
                    rotate_left
                    · simp only [Act.put, List.setIfInBounds_toArray, List.set_cons_zero, List.set_cons_succ, i64_w, i32_w]
                      rfl
                    refine pure_ (i := 1) (N := some 20) (v := ?_) (a' := ?_) #[true, true, false, false, false, false, false, false, false, false, false, false, false, false, false, false, false, false, false, false, false, false, false, false, false, false] rfl rfl (any_of HT_.out (by kernel_rfl)) (fun _ _ _ h => h) (Or.inl ⟨by rfl, ?_⟩) ?_ ?_
                    rotate_left
                    · intro w'
                      go_simp
                      with_reducible rfl
                    rotate_left
                    · simp only [Act.put, List.setIfInBounds_toArray, List.set_cons_zero, List.set_cons_succ, i64_w, i32_w]
                      rfl
                    refine pure_ (i := 2) (N := some 21) (v := ?_) (a' := ?_) #[true, true, true, false, false, false, false, false, false, false, false, false, false, false, false, false, false, false, false, false, false, false, false, false, false, false] rfl rfl (any_of HT_.out (by kernel_rfl)) (fun _ _ _ h => h) (Or.inl ⟨by rfl, ?_⟩) ?_ ?_
                    rotate_left
                    · intro w'
                      go_simp
                      with_reducible rfl
                    rotate_left
                    · simp only [Act.put, List.setIfInBounds_toArray, List.set_cons_zero, List.set_cons_succ, i64_w, i32_w]
                      rfl
                    refine pure_ (i := 3) (N := some 22) (v := ?_) (a' := ?_) #[true, true, true, true, false, false, false, false, false, false, false, false, false, false, false, false, false, false, false, false, false, false, false, false, false, false] rfl rfl (any_of HT_.out (by kernel_rfl)) (fun _ _ _ h => h) (Or.inl ⟨by rfl, ?_⟩) ?_ ?_
                    rotate_left
                    · intro w'
                      go_simp
                      with_reducible rfl
                    rotate_left
                    · simp only [Act.put, List.setIfInBounds_toArray, List.set_cons_zero, List.set_cons_succ, i64_w, i32_w]
                      rfl
                    refine pure_ (i := 5) (N := some 24) (v := ?_) (a' := ?_) #[true, true, true, true, false, true, false, false, false, false, false, false, false, false, false, false, false, false, false, false, false, false, false, false, false, false] rfl rfl (any_of HT_.out (by kernel_rfl)) (fun _ _ _ h => h) (Or.inl ⟨by rfl, ?_⟩) ?_ ?_
                    rotate_left
                    · intro w'
                      go_simp
                      with_reducible rfl
                    rotate_left
                    · simp only [Act.put, List.setIfInBounds_toArray, List.set_cons_zero, List.set_cons_succ, i64_w, i32_w]
                      rfl
                    refine pure_ (i := 9) (N := some 28) (v := ?_) (a' := ?_) #[true, true, true, true, false, true, false, false, false, true, false, false, false, false, false, false, false, false, false, false, false, false, false, false, false, false] rfl rfl (any_of HT_.out (by kernel_rfl)) (fun _ _ _ h => h) (Or.inl ⟨by rfl, ?_⟩) ?_ ?_
                    rotate_left
                    · intro w'
                      go_simp
                      with_reducible rfl
                    rotate_left
                    · simp only [Act.put, List.setIfInBounds_toArray, List.set_cons_zero, List.set_cons_succ, i64_w, i32_w]
                      rfl
                    refine pure_ (i := 11) (N := some 30) (v := ?_) (a' := ?_) #[true, true, true, true, false, true, false, false, false, true, false, true, false, false, false, false, false, false, false, false, false, false, false, false, false, false] rfl rfl (any_of HT_.out (by kernel_rfl)) (fun _ _ _ h => h) (Or.inl ⟨by rfl, ?_⟩) ?_ ?_
                    rotate_left
                    · intro w'
                      go_simp
                      with_reducible rfl
                    rotate_left
                    · simp only [Act.put, List.setIfInBounds_toArray, List.set_cons_zero, List.set_cons_succ, i64_w, i32_w]
                      rfl
                    refine pure_ (i := 16) (N := some 35) (v := ?_) (a' := ?_) #[true, true, true, true, false, true, false, false, false, true, false, true, false, false, false, false, true, false, false, false, false, false, false, false, false, false] rfl rfl (any_of HT_.out (by kernel_rfl)) (fun _ _ _ h => h) (Or.inl ⟨by rfl, ?_⟩) ?_ ?_
                    rotate_left
                    · intro w'
                      go_simp
                      with_reducible rfl
                    rotate_left
                    · simp only [Act.put, List.setIfInBounds_toArray, List.set_cons_zero, List.set_cons_succ, i64_w, i32_w]
                      rfl
                    refine pure_ (i := 18) (N := some 37) (v := ?_) (a' := ?_) #[true, true, true, true, false, true, false, false, false, true, false, true, false, false, false, false, true, false, true, false, false, false, false, false, false, false] rfl rfl (any_of HT_.out (by kernel_rfl)) (fun _ _ _ h => h) (Or.inl ⟨by rfl, ?_⟩) ?_ ?_
                    rotate_left
                    · intro w'
                      go_simp
                      with_reducible rfl
                    rotate_left
                    · simp only [Act.put, List.setIfInBounds_toArray, List.set_cons_zero, List.set_cons_succ, i64_w, i32_w]
                      rfl
                    refine take_ (i := 4) (N := some 23) (v := ?_) (a' := ?_) #[true, true, true, true, true, true, false, false, false, true, false, true, false, false, false, false, true, false, true, false, false, false, false, false, false, false] rfl rfl (take_ofW HT_.out HW_.out (by kernel_rfl)) (fun _ _ _ h => h) (Or.inl ⟨by rfl, ?_⟩) hHeld ?_ ?_
                    rotate_left
                    · rintro w' ⟨s0, s1, s2, s3, s4, s5, s6⟩
                      go_simp
                      with_reducible rfl
                    rotate_left
                    · simp only [Act.put, List.setIfInBounds_toArray, List.set_cons_zero, List.set_cons_succ, i64_w, i32_w]
                      rfl
                    refine pure_ (i := 6) (N := some 25) (v := ?_) (a' := ?_) #[true, true, true, true, true, true, true, false, false, true, false, true, false, false, false, false, true, false, true, false, false, false, false, false, false, false] rfl rfl (any_of HT_.out (by kernel_rfl)) (fun _ _ _ h => h) (Or.inl ⟨by rfl, ?_⟩) ?_ ?_
                    rotate_left
                    · intro w'
                      go_simp
                      with_reducible rfl
                    rotate_left
                    · simp only [Act.put, List.setIfInBounds_toArray, List.set_cons_zero, List.set_cons_succ, i64_w, i32_w]
                      rfl
                    refine take_ (i := 7) (N := some 26) (v := ?_) (a' := ?_) #[true, true, true, true, true, true, true, true, false, true, false, true, false, false, false, false, true, false, true, false, false, false, false, false, false, false] rfl rfl (take_ofW HT_.out HW_.out (by kernel_rfl)) (fun _ _ _ h => h) (Or.inl ⟨by rfl, ?_⟩) hHeld ?_ ?_
                    rotate_left
                    · rintro w' ⟨s0, s1, s2, s3, s4, s5, s6⟩
                      go_simp
                      with_reducible rfl
                    rotate_left
                    · simp only [Act.put, List.setIfInBounds_toArray, List.set_cons_zero, List.set_cons_succ, i64_w, i32_w]
                      rfl
                    refine pure_ (i := 8) (N := some 27) (v := ?_) (a' := ?_) #[true, true, true, true, true, true, true, true, true, true, false, true, false, false, false, false, true, false, true, false, false, false, false, false, false, false] rfl rfl (any_of HT_.out (by kernel_rfl)) (fun _ _ _ h => h) (Or.inl ⟨by rfl, ?_⟩) ?_ ?_
                    rotate_left
                    · intro w'
                      go_simp
                      with_reducible rfl
                    rotate_left
                    · simp only [Act.put, List.setIfInBounds_toArray, List.set_cons_zero, List.set_cons_succ, i64_w, i32_w]
                      rfl
                    refine take_ (i := 10) (N := some 29) (v := ?_) (a' := ?_) #[true, true, true, true, true, true, true, true, true, true, true, true, false, false, false, false, true, false, true, false, false, false, false, false, false, false] rfl rfl (take_ofW HT_.out HW_.out (by kernel_rfl)) (fun _ _ _ h => h) (Or.inl ⟨by rfl, ?_⟩) hHeld ?_ ?_
                    rotate_left
                    · rintro w' ⟨s0, s1, s2, s3, s4, s5, s6⟩
                      go_simp
                      with_reducible rfl
                    rotate_left
                    · simp only [Act.put, List.setIfInBounds_toArray, List.set_cons_zero, List.set_cons_succ, i64_w, i32_w]
                      rfl
                    refine pure_ (i := 12) (N := some 31) (v := ?_) (a' := ?_) #[true, true, true, true, true, true, true, true, true, true, true, true, true, false, false, false, true, false, true, false, false, false, false, false, false, false] rfl rfl (any_of HT_.out (by kernel_rfl)) (fun _ _ _ h => h) (Or.inl ⟨by rfl, ?_⟩) ?_ ?_
                    rotate_left
                    · intro w'
                      go_simp
                      with_reducible rfl
                    rotate_left
                    · simp only [Act.put, List.setIfInBounds_toArray, List.set_cons_zero, List.set_cons_succ, i64_w, i32_w]
                      rfl
                    refine take_ (i := 13) (N := some 32) (v := ?_) (a' := ?_) #[true, true, true, true, true, true, true, true, true, true, true, true, true, true, false, false, true, false, true, false, false, false, false, false, false, false] rfl rfl (take_ofW HT_.out HW_.out (by kernel_rfl)) (fun _ _ _ h => h) (Or.inl ⟨by rfl, ?_⟩) hHeld ?_ ?_
                    rotate_left
                    · rintro w' ⟨s0, s1, s2, s3, s4, s5, s6⟩
                      go_simp
                      with_reducible rfl
                    rotate_left
                    · simp only [Act.put, List.setIfInBounds_toArray, List.set_cons_zero, List.set_cons_succ, i64_w, i32_w]
                      rfl
                    refine pure_ (i := 14) (N := some 33) (v := ?_) (a' := ?_) #[true, true, true, true, true, true, true, true, true, true, true, true, true, true, true, false, true, false, true, false, false, false, false, false, false, false] rfl rfl (any_of HT_.out (by kernel_rfl)) (fun _ _ _ h => h) (Or.inl ⟨by rfl, ?_⟩) ?_ ?_
                    rotate_left
                    · intro w'
                      go_simp
                      with_reducible rfl
                    rotate_left
                    · simp only [Act.put, List.setIfInBounds_toArray, List.set_cons_zero, List.set_cons_succ, i64_w, i32_w]
                      rfl
                    refine pure_ (i := 15) (N := some 34) (v := ?_) (a' := ?_) #[true, true, true, true, true, true, true, true, true, true, true, true, true, true, true, true, true, false, true, false, false, false, false, false, false, false] rfl rfl (any_of HT_.out (by kernel_rfl)) (fun _ _ _ h => h) (Or.inl ⟨by rfl, ?_⟩) ?_ ?_
                    rotate_left
                    · intro w'
                      go_simp
                      with_reducible rfl
                    rotate_left
                    · simp only [Act.put, List.setIfInBounds_toArray, List.set_cons_zero, List.set_cons_succ, i64_w, i32_w]
                      rfl
                    refine take_ (i := 17) (N := some 36) (v := ?_) (a' := ?_) #[true, true, true, true, true, true, true, true, true, true, true, true, true, true, true, true, true, true, true, false, false, false, false, false, false, false] rfl rfl (take_ofW HT_.out HW_.out (by kernel_rfl)) (fun _ _ _ h => h) (Or.inl ⟨by rfl, ?_⟩) hHeld ?_ ?_
                    rotate_left
                    · rintro w' ⟨s0, s1, s2, s3, s4, s5, s6⟩
                      go_simp
                      with_reducible rfl
                    rotate_left
                    · simp only [Act.put, List.setIfInBounds_toArray, List.set_cons_zero, List.set_cons_succ, i64_w, i32_w]
                      rfl
                    refine pure_ (i := 19) (N := some 38) (v := ?_) (a' := ?_) #[true, true, true, true, true, true, true, true, true, true, true, true, true, true, true, true, true, true, true, true, false, false, false, false, false, false] rfl rfl (any_of HT_.out (by kernel_rfl)) (fun _ _ _ h => h) (Or.inl ⟨by rfl, ?_⟩) ?_ ?_
                    rotate_left
                    · intro w'
                      go_simp
                      with_reducible rfl
                    rotate_left
                    · simp only [Act.put, List.setIfInBounds_toArray, List.set_cons_zero, List.set_cons_succ, i64_w, i32_w]
                      rfl
                    refine take_ (i := 20) (N := some 39) (v := ?_) (a' := ?_) #[true, true, true, true, true, true, true, true, true, true, true, true, true, true, true, true, true, true, true, true, true, false, false, false, false, false] rfl rfl (take_ofW HT_.out HW_.out (by kernel_rfl)) (fun _ _ _ h => h) (Or.inl ⟨by rfl, ?_⟩) hHeld ?_ ?_
                    rotate_left
                    · rintro w' ⟨s0, s1, s2, s3, s4, s5, s6⟩
                      go_simp
                      with_reducible rfl
                    rotate_left
                    · simp only [Act.put, List.setIfInBounds_toArray, List.set_cons_zero, List.set_cons_succ, i64_w, i32_w]
                      rfl
                    refine pure_ (i := 21) (N := some 40) (v := ?_) (a' := ?_) #[true, true, true, true, true, true, true, true, true, true, true, true, true, true, true, true, true, true, true, true, true, true, false, false, false, false] rfl rfl (any_of HT_.out (by kernel_rfl)) (fun _ _ _ h => h) (Or.inl ⟨by rfl, ?_⟩) ?_ ?_
                    rotate_left
                    · intro w'
                      go_simp
                      with_reducible rfl
                    rotate_left
                    · simp only [Act.put, List.setIfInBounds_toArray, List.set_cons_zero, List.set_cons_succ, i64_w, i32_w]
                      rfl
                    refine pure_ (i := 22) (N := some 41) (v := ?_) (a' := ?_) #[true, true, true, true, true, true, true, true, true, true, true, true, true, true, true, true, true, true, true, true, true, true, true, false, false, false] rfl rfl (any_of HT_.out (by kernel_rfl)) (fun _ _ _ h => h) (Or.inl ⟨by rfl, ?_⟩) ?_ ?_
                    rotate_left
                    · intro w'
                      go_simp
                      with_reducible rfl
                    rotate_left
                    · simp only [Act.put, List.setIfInBounds_toArray, List.set_cons_zero, List.set_cons_succ, i64_w, i32_w]
                      rfl
                    refine one_ (i := 23) (N := some 42) #[true, true, true, true, true, true, true, true, true, true, true, true, true, true, true, true, true, true, true, true, true, true, true, true, false, false] rfl rfl (one_of HT_.out (by kernel_rfl)) (by decide) (fun K hK => ?_)
                    refine Kd.R_lit_step (Kd.int .u8) _ 5 ?hg (N := 42) ?hd (xs := ([(rd l0_1 x14_2) % 256, (rd l0_2 x14_2) % 256, ((rd l0_2 x14_2) / 256) % 256, ((rd l0_2 x14_2) / 65536) % 256] : List Int)) (inner := [.int .u8 ((rd l0_1 x14_2) % 256), .int .u8 ((rd l0_2 x14_2) % 256), .int .u8 (((rd l0_2 x14_2) / 256) % 256), .int .u8 (((rd l0_2 x14_2) / 65536) % 256)]) (ok := fun _ => True) (okp := fun _ => True) ?hr ?hp (fun _ hk => hk) trivial (Below.refl _ _) (Nat.le_refl _) (by simp) ?_; (case hd => rfl); (case hg => rfl); (case hr => first | (go_simp; done) | (go_simp; rfl)); (case hp => exact (Reps.one (show Kd.M (Kd.int .u8) _ _ _ ((rd l0_1 x14_2) % 256) [.int .u8 ((rd l0_1 x14_2) % 256)] from rfl) (Reps.one (show Kd.M (Kd.int .u8) _ _ _ ((rd l0_2 x14_2) % 256) [.int .u8 ((rd l0_2 x14_2) % 256)] from rfl) (Reps.one (show Kd.M (Kd.int .u8) _ _ _ (((rd l0_2 x14_2) / 256) % 256) [.int .u8 (((rd l0_2 x14_2) / 256) % 256)] from rfl) (Reps.one (show Kd.M (Kd.int .u8) _ _ _ (((rd l0_2 x14_2) / 65536) % 256) [.int .u8 (((rd l0_2 x14_2) / 65536) % 256)] from rfl) (Reps.none _ _))))))
                    intro v111 w19 ho20 hb hg_ hnew_
                    clear hg_ hnew_
                    (first | rw [← Ny110.out] at ho20 | (simp only [Int.reduceToNat] at ho20; rw [← Ny110.out] at ho20))
                    have n0_ := Aside0.mk (Kd.R_elder' (by (with_reducible repeat (first | apply Kd.R_alloc | apply Kd.R_drewN | apply Kd.R_drew)); exact HO_3.out) (Kd.R_base ho20) hb)
                    have n1_ := Aside0.mk (Kd.R_lower (Kd.R_new' ho20 (Kd.R_lt (by (with_reducible repeat (first | apply Kd.R_alloc | apply Kd.R_drewN | apply Kd.R_drew)); exact HO_3.out))) (below_size (by repeat (first | (with_reducible first | exact HB.out | apply below_alloc | apply pw_below_drewN | apply below_drew1 | refine below_set ?_ GE101.out) | exact HB.out))))
                    have n2_ := Aside0.mk (blk_below (g := gb101) (o := .cells #[.bool a0_0, .slice (some ad106) l0_1.length c0_1, .slice (some ad107) l0_2.length c0_2, .int .i64 a0_3] 102 (0, 0)) (by (with_reducible repeat (first | refine blk_drewN ?_ _ | refine blk_drew ?_ | refine blk_alloc ?_ _)); exact BK101.out) hb)
                    have n3_ := Aside0.mk (below_step (by repeat (first | (with_reducible first | exact HB.out | apply below_alloc | apply pw_below_drewN | apply below_drew1 | refine below_set ?_ GE101.out) | exact HB.out)) hb)
                    clear HO_3
                    clear BK101
                    clear HB
                    have HO_3 := n0_
                    have HO112 := n1_
                    have BK101 := n2_
                    have HB := n3_
                    clear n0_ n1_ n2_ n3_
                    clear hb ho20
                    obtain ⟨Ao22, co22, eo22⟩ := Kd.R_slice HO112.out
                    (first | subst eo22 | (injection eo22 with f1_ f2_ f3_; have f4_ := f1_.symm; have f5_ := f3_.symm; clear f1_ f2_ f3_; subst f4_; subst f5_))
                    refine hK.out _ _ ⟨(blk_cell BK101.out 0).trans rfl, (blk_cell BK101.out 1).trans rfl, (blk_cell BK101.out 2).trans rfl, (blk_cell BK101.out 3).trans rfl, ((HB.out.cell (World.block_lt_of_cell? w _ hw107_0)).trans hw107_0), ((HB.out.cell (World.block_lt_of_cell? w _ hw108_0)).trans hw108_0), ((HB.out.cell (World.block_lt_of_cell? w _ hw109_0)).trans hw109_0)⟩ (fun hHeld => ?_)
                    clear hK K
                    refine norm_ (a' := ?_) ?_ ?_
                    rotate_left
                    · show Act.put _ (some 42) _ = _
                      simp only [Act.put, List.setIfInBounds_toArray, List.set_cons_zero, List.set_cons_succ, i64_w, i32_w]
                      rfl
                    refine one_ (i := 24) (N := some 43) #[true, true, true, true, true, true, true, true, true, true, true, true, true, true, true, true, true, true, true, true, true, true, true, true, true, false] rfl rfl (one_of HT_.out (by kernel_rfl)) (by decide) (fun K hK => ?_)
                    refine Kd.R_append_rows_step (Kd.int .u8) (w0 := w) w.heap.size (by rfl) (.tmp 19) (.tmp 42) 55 5 (.int .u8 0) 1 rfl Try.underlying55 info5 rfl (by decide) (by omega) u3 x3_2 y110 _ _ _ (fun k_ => some k_ ≠ (.slice Ao22 y110.length co22 : Value).ownBlock) (fun _ => False) rfl rfl ?aO ?aR (fun _ _ h => h) (fun _ h => h.elim) ?aF ?aB ?aS ?aL ?_
                    (case aR => repeat (first | exact (Kd.R_reads' HO112.out).2.2 | (with_reducible refine Kd.C_alloc ?_ _) | (with_reducible refine Kd.C_drewN ?_ _) | (with_reducible refine Kd.C_drew ?_)))
                    (case aB => exact (by repeat (first | (with_reducible first | exact HB.out | apply below_alloc | apply pw_below_drewN | apply below_drew1 | refine below_set ?_ GE101.out) | exact HB.out)))
                    (case aF => exact (fun k_ hk => Kd.fresh' (Kd.R_lt (by (with_reducible repeat (first | apply Kd.R_alloc | apply Kd.R_drewN | apply Kd.R_drew)); exact HO112.out)) k_ hk))
                    (case aO => exact (by (with_reducible repeat (first | apply Kd.R_alloc | apply Kd.R_drewN | apply Kd.R_drew)); exact Kd.R_mono HO_3.out (fun _ hk => hk.2)))
                    (case aS => exact (below_size (by repeat (first | (with_reducible first | exact HB.out | apply below_alloc | apply pw_below_drewN | apply below_drew1 | refine below_set ?_ GE101.out) | exact HB.out))))
                    (case aL => have := LMc17.out; omega)
                    intro v114 w21 ho hb hg hat
                    rw [← Ny113.out] at ho
                    have n0_ := Aside0.mk (blk_grown (g := gb101) (o := .cells #[.bool a0_0, .slice (some ad106) l0_1.length c0_1, .slice (some ad107) l0_2.length c0_2, .int .i64 a0_3] 102 (0, 0)) (by (with_reducible repeat (first | refine blk_drewN ?_ _ | refine blk_drew ?_ | refine blk_alloc ?_ _)); exact BK101.out) hg (Kd.R_ne HO_3.out BK101.out (by decide)))
                    have n1_ := Aside0.mk (Kd.R_after (ok := (fun _ => True)) (by (with_reducible repeat (first | apply Kd.R_alloc | apply Kd.R_drewN | apply Kd.R_drew)); exact HO112.out) hg hat)
                    have n2_ := Aside0.mk (hb)
                    have n3_ := Aside0.mk (ho)
                    clear BK101
                    clear HO112
                    clear HB
                    clear HO_3
                    have BK101 := n0_
                    have HO112 := n1_
                    have HB := n2_
                    have HO115 := n3_
                    clear n0_ n1_ n2_ n3_
                    clear ho hb hg hat
                    refine hK.out _ _ ⟨(blk_cell BK101.out 0).trans rfl, (blk_cell BK101.out 1).trans rfl, (blk_cell BK101.out 2).trans rfl, (blk_cell BK101.out 3).trans rfl, ((HB.out.cell (World.block_lt_of_cell? w _ hw107_0)).trans hw107_0), ((HB.out.cell (World.block_lt_of_cell? w _ hw108_0)).trans hw108_0), ((HB.out.cell (World.block_lt_of_cell? w _ hw109_0)).trans hw109_0)⟩ (fun hHeld => ?_)
                    clear hK K
                    refine norm_ (a' := ?_) ?_ ?_
                    rotate_left
                    · show Act.put _ (some 43) _ = _
                      simp only [Act.put, List.setIfInBounds_toArray, List.set_cons_zero, List.set_cons_succ, i64_w, i32_w]
                      rfl
                    refine pure_ (i := 25) (N := some 3) (v := ?_) (a' := ?_) #[true, true, true, true, true, true, true, true, true, true, true, true, true, true, true, true, true, true, true, true, true, true, true, true, true, true] rfl rfl (any_of HT_.out (by kernel_rfl)) (fun _ _ _ h => h) (Or.inl ⟨by rfl, ?_⟩) ?_ ?_
                    rotate_left
                    · intro w'
                      go_simp
                      with_reducible rfl
                    rotate_left
                    · simp only [Act.put, List.setIfInBounds_toArray, List.set_cons_zero, List.set_cons_succ, i64_w, i32_w]
                      rfl
                    refine done_ (done_of HT_.out (by kernel_rfl)) ?_
                    try go_wp2
                    go_roundg k2
                    case measure => have := HJ1.out; have := HK2.out; omega
                    case rel => exact ⟨(y113), (wrap64 (x14_2 + 1)), (by first | rfl | (simp; done) | (simp [*]; done)), H', ⟨by have := HJ1.out; have := HK2.out; omega⟩, ⟨by (with_reducible repeat (first | apply Kd.R_alloc | apply Kd.R_drewN | apply Kd.R_drew)); exact Kd.R_mono HO115.out (fun _ hk => trivial)⟩, ⟨by (with_reducible repeat (first | refine blk_drewN ?_ _ | refine blk_drew ?_ | refine blk_alloc ?_ _)); exact BK101.out⟩, ⟨by repeat (first | (with_reducible first | exact HB.out | apply below_alloc | apply pw_below_drewN | apply below_drew1 | refine below_set ?_ GE101.out) | exact HB.out)⟩⟩
                  · rw [if_neg c17] at H
                    exact absurd H (by simp)
                · rw [if_neg c16] at H
                  exact absurd H (by simp)
              · rw [if_neg c15] at H
                exact absurd H (by simp)
            · rw [if_neg c14] at H
              exact absurd H (by simp)
          · rw [if_neg c13] at H
            have c13b0 : decide (x14_2 < (l0_1.length : Int)) = false := decide_eq_false c13
            clear c13
            obtain rfl := Option.some.inj H
            have hcv23 := own_string (P := Try.prog) Try.underlying55 Try.underlying5 Try.underlying9 (Kd.own_of_R HO_3.out)
            go_wp2
            go_ret
            exact ⟨by first | rfl | (simp [errW_none, errW_some] <;> rfl) | (simp [*, errW_none, errW_some] <;> rfl), by repeat (first | (with_reducible first | exact HB.out | apply below_alloc | apply pw_below_drewN | apply below_drew1 | refine below_set ?_ GE101.out) | exact HB.out)⟩

end Go.Proofs.Ytcdjeimjbbknjaa.PAll
namespace Go.Proofs.Ytcdjeimjbbknjaa.PAll
open Go.RowKit Go.Proofs.YtcdjeimjbbknjaaW.PrintWords Go.Proofs.YtcdjeimjbbknjaaW.PrintLast Go.Proofs.YtcdjeimjbbknjaaW.PrintMore
attribute [local go_sem] max2_int min2_int max_two min_two max_three min_three max_four min_four   -- for this text's walks alone
set_option linter.unusedVariables false
set_option linter.unusedSimpArgs false

/-! ### wordbookref01_Around: function 18 -/
def wordbookref01_Around.f (a0 : Int) (a1 : Int) : Option (Int) := if a0 < 0 then (if a1 = 0 then (none) else (some (Int.tmod (wrap64 (-(wrap64 (a0 + 1)))) a1))) else (if a1 = 0 then (none) else (some (Int.tmod a0 a1)))
set_option maxHeartbeats 8000000 in
set_option maxRecDepth 100000 in
theorem wordbookref01_Around.calls (a0 : Int) (a1 : Int) (r : Int) (w : World) (h : wordbookref01_Around.f a0 a1 = some r) :
    Calls Try.prog 18 #[.int .i64 a0, .int .i64 a1] w fun e w' => e = .returned (.int .i64 r) ∧ Drawn0 w w' := by
  have H : (if a0 < 0 then (if a1 = 0 then (none) else (some (Int.tmod (wrap64 (-(wrap64 (a0 + 1)))) a1))) else (if a1 = 0 then (none) else (some (Int.tmod a0 a1)))) = some r := h
  clear h
  by_cases c3 : a0 < 0
  · rw [if_pos c3] at H
    have c3b0 : decide (a0 < 0) = true := decide_eq_true c3
    clear c3
    by_cases c4 : a1 = 0
    · rw [if_pos c4] at H
      exact absurd H (by simp)
    · rw [if_neg c4] at H
      have c4b0 : (a1 == 0) = false := beq_eq_false_iff_ne.mpr c4
      have c4b1 : (a1 != 0) = true := bne_iff_ne.mpr c4
      obtain rfl := Option.some.inj H
      go_enter Try.func18, Try.ntmps18
      go_wp2
      go_ret
      exact ⟨by first | rfl | (simp; done) | (simp [*]; done), by repeat (first | exact Drawn0.refl _ | apply Drawn0.step)⟩
  · rw [if_neg c3] at H
    have c3b0 : decide (a0 < 0) = false := decide_eq_false c3
    clear c3
    by_cases c5 : a1 = 0
    · rw [if_pos c5] at H
      exact absurd H (by simp)
    · rw [if_neg c5] at H
      have c5b0 : (a1 == 0) = false := beq_eq_false_iff_ne.mpr c5
      have c5b1 : (a1 != 0) = true := bne_iff_ne.mpr c5
      obtain rfl := Option.some.inj H
      go_enter Try.func18, Try.ntmps18
      go_wp2
      go_ret
      exact ⟨by first | rfl | (simp; done) | (simp [*]; done), by repeat (first | exact Drawn0.refl _ | apply Drawn0.step)⟩



/-! ### cmp_isNaN_int: function 125 -/
def cmp_isNaN_int.f (a0 : Int) : Option (Bool) := some (a0 != a0)
set_option maxHeartbeats 8000000 in
set_option maxRecDepth 100000 in
theorem cmp_isNaN_int.calls (a0 : Int) (r : Bool) (w : World) (h : cmp_isNaN_int.f a0 = some r) :
    Calls Try.prog 125 #[.int .i64 a0] w fun e w' => e = .returned (.bool r) ∧ Drawn0 w w' := by
  have H : (some (a0 != a0)) = some r := h
  clear h
  obtain rfl := Option.some.inj H
  go_enter Try.func125, Try.ntmps125
  go_wp2
  go_ret
  exact ⟨by first | rfl | (simp; done) | (simp [*]; done), by repeat (first | exact Drawn0.refl _ | apply Drawn0.step)⟩

end Go.Proofs.Ytcdjeimjbbknjaa.PAll
namespace Go.Proofs.Ytcdjeimjbbknjaa.PAll
open Go.RowKit Go.Proofs.YtcdjeimjbbknjaaW.PrintWords Go.Proofs.YtcdjeimjbbknjaaW.PrintLast Go.Proofs.YtcdjeimjbbknjaaW.PrintMore
attribute [local go_sem] max2_int min2_int max_two min_two max_three min_three max_four min_four   -- for this text's walks alone
set_option linter.unusedVariables false
set_option linter.unusedSimpArgs false

/-! ### cmp_Compare_int: function 122 -/
def cmp_Compare_int.f (a0 : Int) (a1 : Int) : Option (Int) := (cmp_isNaN_int.f a0).bind fun t157 => ((cmp_isNaN_int.f a1).bind fun t158 => (if t157 = true then (if t158 = true then (some 0) else (some (-1))) else (if t158 = true then (some 1) else (if a0 < a1 then (some (-1)) else (if a0 > a1 then (some 1) else (some 0))))))
set_option maxHeartbeats 8000000 in
set_option maxRecDepth 100000 in
theorem cmp_Compare_int.calls (a0 : Int) (a1 : Int) (r : Int) (w : World) (h : cmp_Compare_int.f a0 a1 = some r) :
    Calls Try.prog 122 #[.int .i64 a0, .int .i64 a1] w fun e w' => e = .returned (.int .i64 r) ∧ Drawn0 w w' := by
  have H : ((cmp_isNaN_int.f a0).bind fun t157 => ((cmp_isNaN_int.f a1).bind fun t158 => (if t157 = true then (if t158 = true then (some 0) else (some (-1))) else (if t158 = true then (some 1) else (if a0 < a1 then (some (-1)) else (if a0 > a1 then (some 1) else (some 0))))))) = some r := h
  clear h
  replace H := Option.bind_eq_some_iff.mp H
  obtain ⟨t157, A30, H⟩ := H
  replace H : ((cmp_isNaN_int.f a1).bind fun t158 => (if t157 = true then (if t158 = true then (some 0) else (some (-1))) else (if t158 = true then (some 1) else (if a0 < a1 then (some (-1)) else (if a0 > a1 then (some 1) else (some 0)))))) = some r := H
  have A3 := Aside0.mk A30
  clear A30
  replace H := Option.bind_eq_some_iff.mp H
  obtain ⟨t158, A40, H⟩ := H
  replace H : (if t157 = true then (if t158 = true then (some 0) else (some (-1))) else (if t158 = true then (some 1) else (if a0 < a1 then (some (-1)) else (if a0 > a1 then (some 1) else (some 0))))) = some r := H
  have A4 := Aside0.mk A40
  clear A40
  by_cases c5 : t157 = true
  · subst c5
    have H1 : (if t158 = true then (some 0) else (some (-1))) = some r := by rw [if_pos rfl] at H; exact H
    clear H
    have H := H1
    clear H1
    by_cases c6 : t158 = true
    · subst c6
      have H1 : (some 0) = some r := by rw [if_pos rfl] at H; exact H
      clear H
      have H := H1
      clear H1
      obtain rfl := Option.some.inj H
      go_enter Try.func122, Try.ntmps122
      go_wp2_with (first | ((with_reducible refine gate_callee (f := 125) rfl ?_); refine goesL_ (some 8) rfl rfl Try.func125 (by kernel_rfl) rfl #[.int .i64 a0] rfl (by (try simp only [List.map_toArray, List.map_cons, List.map_nil]); first | done | rfl | (simp only [List.length_drop, List.length_take]; rfl)) ?_; (with_reducible refine (cmp_isNaN_int.calls a0 true _ A3.out).mono ?_); rintro e w' ⟨rfl, ⟨nd, rfl⟩⟩; refine ⟨_, rfl, ?_⟩) | ((with_reducible refine gate_callee (f := 125) rfl ?_); refine goesL_ (some 10) rfl rfl Try.func125 (by kernel_rfl) rfl #[.int .i64 a1] rfl (by (try simp only [List.map_toArray, List.map_cons, List.map_nil]); first | done | rfl | (simp only [List.length_drop, List.length_take]; rfl)) ?_; (with_reducible refine (cmp_isNaN_int.calls a1 true _ A4.out).mono ?_); rintro e w' ⟨rfl, ⟨nd, rfl⟩⟩; refine ⟨_, rfl, ?_⟩))
      go_ret
      exact ⟨by first | rfl | (simp; done) | (simp [*]; done), by repeat (first | exact Drawn0.refl _ | apply Drawn0.step)⟩
    · replace c6 := Bool.eq_false_iff.mpr c6
      subst c6
      have H1 : (some (-1)) = some r := by rw [if_neg (show ¬ (false = true) by decide)] at H; exact H
      clear H
      have H := H1
      clear H1
      obtain rfl := Option.some.inj H
      go_enter Try.func122, Try.ntmps122
      go_wp2_with (first | ((with_reducible refine gate_callee (f := 125) rfl ?_); refine goesL_ (some 8) rfl rfl Try.func125 (by kernel_rfl) rfl #[.int .i64 a0] rfl (by (try simp only [List.map_toArray, List.map_cons, List.map_nil]); first | done | rfl | (simp only [List.length_drop, List.length_take]; rfl)) ?_; (with_reducible refine (cmp_isNaN_int.calls a0 true _ A3.out).mono ?_); rintro e w' ⟨rfl, ⟨nd, rfl⟩⟩; refine ⟨_, rfl, ?_⟩) | ((with_reducible refine gate_callee (f := 125) rfl ?_); refine goesL_ (some 10) rfl rfl Try.func125 (by kernel_rfl) rfl #[.int .i64 a1] rfl (by (try simp only [List.map_toArray, List.map_cons, List.map_nil]); first | done | rfl | (simp only [List.length_drop, List.length_take]; rfl)) ?_; (with_reducible refine (cmp_isNaN_int.calls a1 false _ A4.out).mono ?_); rintro e w' ⟨rfl, ⟨nd, rfl⟩⟩; refine ⟨_, rfl, ?_⟩))
      go_ret
      exact ⟨by first | rfl | (simp; done) | (simp [*]; done), by repeat (first | exact Drawn0.refl _ | apply Drawn0.step)⟩
  · replace c5 := Bool.eq_false_iff.mpr c5
    subst c5
    have H1 : (if t158 = true then (some 1) else (if a0 < a1 then (some (-1)) else (if a0 > a1 then (some 1) else (some 0)))) = some r := by rw [if_neg (show ¬ (false = true) by decide)] at H; exact H
    clear H
    have H := H1
    clear H1
    by_cases c7 : t158 = true
    · subst c7
      have H1 : (some 1) = some r := by rw [if_pos rfl] at H; exact H
      clear H
      have H := H1
      clear H1
      obtain rfl := Option.some.inj H
      go_enter Try.func122, Try.ntmps122
      go_wp2_with (first | ((with_reducible refine gate_callee (f := 125) rfl ?_); refine goesL_ (some 8) rfl rfl Try.func125 (by kernel_rfl) rfl #[.int .i64 a0] rfl (by (try simp only [List.map_toArray, List.map_cons, List.map_nil]); first | done | rfl | (simp only [List.length_drop, List.length_take]; rfl)) ?_; (with_reducible refine (cmp_isNaN_int.calls a0 false _ A3.out).mono ?_); rintro e w' ⟨rfl, ⟨nd, rfl⟩⟩; refine ⟨_, rfl, ?_⟩) | ((with_reducible refine gate_callee (f := 125) rfl ?_); refine goesL_ (some 10) rfl rfl Try.func125 (by kernel_rfl) rfl #[.int .i64 a1] rfl (by (try simp only [List.map_toArray, List.map_cons, List.map_nil]); first | done | rfl | (simp only [List.length_drop, List.length_take]; rfl)) ?_; (with_reducible refine (cmp_isNaN_int.calls a1 true _ A4.out).mono ?_); rintro e w' ⟨rfl, ⟨nd, rfl⟩⟩; refine ⟨_, rfl, ?_⟩))
      go_ret
      exact ⟨by first | rfl | (simp; done) | (simp [*]; done), by repeat (first | exact Drawn0.refl _ | apply Drawn0.step)⟩
    · replace c7 := Bool.eq_false_iff.mpr c7
      subst c7
      have H1 : (if a0 < a1 then (some (-1)) else (if a0 > a1 then (some 1) else (some 0))) = some r := by rw [if_neg (show ¬ (false = true) by decide)] at H; exact H
      clear H
      have H := H1
      clear H1
      by_cases c8 : a0 < a1
      · rw [if_pos c8] at H
        have c8b0 : decide (a0 < a1) = true := decide_eq_true c8
        clear c8
        obtain rfl := Option.some.inj H
        go_enter Try.func122, Try.ntmps122
        go_wp2_with (first | ((with_reducible refine gate_callee (f := 125) rfl ?_); refine goesL_ (some 8) rfl rfl Try.func125 (by kernel_rfl) rfl #[.int .i64 a0] rfl (by (try simp only [List.map_toArray, List.map_cons, List.map_nil]); first | done | rfl | (simp only [List.length_drop, List.length_take]; rfl)) ?_; (with_reducible refine (cmp_isNaN_int.calls a0 false _ A3.out).mono ?_); rintro e w' ⟨rfl, ⟨nd, rfl⟩⟩; refine ⟨_, rfl, ?_⟩) | ((with_reducible refine gate_callee (f := 125) rfl ?_); refine goesL_ (some 10) rfl rfl Try.func125 (by kernel_rfl) rfl #[.int .i64 a1] rfl (by (try simp only [List.map_toArray, List.map_cons, List.map_nil]); first | done | rfl | (simp only [List.length_drop, List.length_take]; rfl)) ?_; (with_reducible refine (cmp_isNaN_int.calls a1 false _ A4.out).mono ?_); rintro e w' ⟨rfl, ⟨nd, rfl⟩⟩; refine ⟨_, rfl, ?_⟩))
        go_ret
        exact ⟨by first | rfl | (simp; done) | (simp [*]; done), by repeat (first | exact Drawn0.refl _ | apply Drawn0.step)⟩
      · rw [if_neg c8] at H
        have c8b0 : decide (a0 < a1) = false := decide_eq_false c8
        clear c8
        by_cases c9 : a0 > a1
        · rw [if_pos c9] at H
          have c9b0 : decide (a1 < a0) = true := decide_eq_true c9
          clear c9
          obtain rfl := Option.some.inj H
          go_enter Try.func122, Try.ntmps122
          go_wp2_with (first | ((with_reducible refine gate_callee (f := 125) rfl ?_); refine goesL_ (some 8) rfl rfl Try.func125 (by kernel_rfl) rfl #[.int .i64 a0] rfl (by (try simp only [List.map_toArray, List.map_cons, List.map_nil]); first | done | rfl | (simp only [List.length_drop, List.length_take]; rfl)) ?_; (with_reducible refine (cmp_isNaN_int.calls a0 false _ A3.out).mono ?_); rintro e w' ⟨rfl, ⟨nd, rfl⟩⟩; refine ⟨_, rfl, ?_⟩) | ((with_reducible refine gate_callee (f := 125) rfl ?_); refine goesL_ (some 10) rfl rfl Try.func125 (by kernel_rfl) rfl #[.int .i64 a1] rfl (by (try simp only [List.map_toArray, List.map_cons, List.map_nil]); first | done | rfl | (simp only [List.length_drop, List.length_take]; rfl)) ?_; (with_reducible refine (cmp_isNaN_int.calls a1 false _ A4.out).mono ?_); rintro e w' ⟨rfl, ⟨nd, rfl⟩⟩; refine ⟨_, rfl, ?_⟩))
          go_ret
          exact ⟨by first | rfl | (simp; done) | (simp [*]; done), by repeat (first | exact Drawn0.refl _ | apply Drawn0.step)⟩
        · rw [if_neg c9] at H
          have c9b0 : decide (a1 < a0) = false := decide_eq_false c9
          clear c9
          obtain rfl := Option.some.inj H
          go_enter Try.func122, Try.ntmps122
          go_wp2_with (first | ((with_reducible refine gate_callee (f := 125) rfl ?_); refine goesL_ (some 8) rfl rfl Try.func125 (by kernel_rfl) rfl #[.int .i64 a0] rfl (by (try simp only [List.map_toArray, List.map_cons, List.map_nil]); first | done | rfl | (simp only [List.length_drop, List.length_take]; rfl)) ?_; (with_reducible refine (cmp_isNaN_int.calls a0 false _ A3.out).mono ?_); rintro e w' ⟨rfl, ⟨nd, rfl⟩⟩; refine ⟨_, rfl, ?_⟩) | ((with_reducible refine gate_callee (f := 125) rfl ?_); refine goesL_ (some 10) rfl rfl Try.func125 (by kernel_rfl) rfl #[.int .i64 a1] rfl (by (try simp only [List.map_toArray, List.map_cons, List.map_nil]); first | done | rfl | (simp only [List.length_drop, List.length_take]; rfl)) ?_; (with_reducible refine (cmp_isNaN_int.calls a1 false _ A4.out).mono ?_); rintro e w' ⟨rfl, ⟨nd, rfl⟩⟩; refine ⟨_, rfl, ?_⟩))
          go_ret
          exact ⟨by first | rfl | (simp; done) | (simp [*]; done), by repeat (first | exact Drawn0.refl _ | apply Drawn0.step)⟩

/-! ### slices_Compare_int_int: function 107 -/
def slices_Compare_int_int.l0 : Nat → List Int → List Int → List Int → Int → Int → Option (Int)
  | 0, _, _, _, _, _ => none
  | k + 1, x0, x1, x9, x10, x11 => if x11 < x10 then (if 0 ≤ x11 then (if x11 < (x9.length : Int) then (if x11 ≥ (x1.length : Int) then (some 1) else (if x11 < (x1.length : Int) then ((cmp_Compare_int.f (rd x9 x11) (rd x1 x11)).bind fun t161 => (if t161 = 0 then (slices_Compare_int_int.l0 k x0 x1 x9 x10 (wrap64 (x11 + 1))) else (some t161))) else (none))) else (none)) else (none)) else (if (x0.length : Int) < (x1.length : Int) then (some (-1)) else (some 0))
def slices_Compare_int_int.f (k : Nat) (l0 : List Int) (l1 : List Int) : Option (Int) := slices_Compare_int_int.l0 k l0 l1 l0 (l0.length : Int) 0
theorem slices_Compare_int_int.mono_l : ∀ k, (∀ y0 y1 y2 y3 y4, LeO (slices_Compare_int_int.l0 k y0 y1 y2 y3 y4) (slices_Compare_int_int.l0 (k + 1) y0 y1 y2 y3 y4))
  | 0 => fun _ _ _ _ _ r h => by simp [slices_Compare_int_int.l0] at h
  | k + 1 => by
    have ih0 := slices_Compare_int_int.mono_l k
    · intro y0 y1 y2 y3 y4
      unfold slices_Compare_int_int.l0
      repeat' first
      | (with_reducible exact ih0 _ _ _ _ _)
      | (with_reducible exact LeO.refl _)
      | (with_reducible exact LeO.none _)
      | (with_reducible refine LeO.ite ?_ ?_)
      | (with_reducible refine LeO.bind ?_ (fun _ => ?_))
      | exact ih0 _ _ _ _ _
      | exact LeO.none _
      | refine LeO.ite ?_ ?_
      | refine LeO.bind ?_ (fun _ => ?_)
theorem slices_Compare_int_int.mono : ∀ a0 a1 k, LeO (slices_Compare_int_int.f k a0 a1) (slices_Compare_int_int.f (k + 1) a0 a1) := by
  intro a0 a1 k
  have ih0 := slices_Compare_int_int.mono_l k
  unfold slices_Compare_int_int.f
  repeat' first
      | (with_reducible exact ih0 _ _ _ _ _)
      | (with_reducible exact LeO.refl _)
      | (with_reducible exact LeO.none _)
      | (with_reducible refine LeO.ite ?_ ?_)
      | (with_reducible refine LeO.bind ?_ (fun _ => ?_))
      | exact ih0 _ _ _ _ _
      | exact LeO.none _
      | refine LeO.ite ?_ ?_
      | refine LeO.bind ?_ (fun _ => ?_)
set_option maxHeartbeats 8000000 in
set_option maxRecDepth 100000 in
theorem slices_Compare_int_int.calls (k : Nat) (A0 : Option Addr) (c0 : Nat) (l0 : List Int) (A1 : Option Addr) (c1 : Nat) (l1 : List Int) (r : Int) (w : World) (hr0 : Kd.C (Kd.int .i64) w A0 l0.length l0) (hc0 : l0.length ≤ c0) (hr1 : Kd.C (Kd.int .i64) w A1 l1.length l1) (hc1 : l1.length ≤ c1) (h : slices_Compare_int_int.f k l0 l1 = some r) :
    Calls Try.prog 107 #[.slice A0 l0.length c0, .slice A1 l1.length c1] w fun e w' => e = .returned (.int .i64 r) ∧ Drawn0 w w' := by
  have HR0 := Aside0.mk hr0
  have HC0 := Aside0.mk hc0
  clear hr0 hc0
  have HR1 := Aside0.mk hr1
  have HC1 := Aside0.mk hc1
  clear hr1 hc1
  have H : (slices_Compare_int_int.l0 k l0 l1 l0 (l0.length : Int) 0) = some r := h
  clear h
  have H' := Aside0.mk H
  clear H
  go_enter Try.func107, Try.ntmps107
  go_wp2
  go_loopg [11] k (fun kq v11 w' => ∃ (x11_1 : Int), v11 = .int .i64 x11_1 ∧ Aside0 (slices_Compare_int_int.l0 kq l0 l1 l0 (l0.length : Int) x11_1 = some r) ∧ Aside0 (kq ≤ k) ∧ Drawn0 w w')
  case atStart => exact ⟨(0), (by first | rfl | (simp; done) | (simp [*]; done)), H', ⟨Nat.le_refl _⟩, by repeat (first | exact Drawn0.refl _ | apply Drawn0.step)⟩
  case round =>
    clear H'
    try clear c1
    try clear p2
    obtain ⟨x11_1, rfl, HA, HK1, ⟨m1, rfl⟩⟩ := hrel
    cases gk with
    | zero => exact absurd HA.out (by simp [slices_Compare_int_int.l0])
    | succ k1 =>
      have H := HA.out
      clear HA
      simp only [slices_Compare_int_int.l0] at H
      by_cases c3 : x11_1 < (l0.length : Int)
      · rw [if_pos c3] at H
        have c3b0 : decide (x11_1 < (l0.length : Int)) = true := decide_eq_true c3
        clear c3
        by_cases c4 : 0 ≤ x11_1
        · rw [if_pos c4] at H
          have c4b0 : decide (0 ≤ x11_1) = true := decide_eq_true c4
          clear c4
          by_cases c5 : x11_1 < (l0.length : Int)
          · rw [if_pos c5] at H
            have c5b0 : decide (x11_1 < (l0.length : Int)) = true := decide_eq_true c5
            clear c5
            by_cases c6 : x11_1 ≥ (l1.length : Int)
            · rw [if_pos c6] at H
              have c6b0 : decide ((l1.length : Int) ≤ x11_1) = true := decide_eq_true c6
              clear c6
              obtain rfl := Option.some.inj H
              have p159 : 0 ≤ (x11_1 : Int) := of_decide_eq_true (by first | (with_reducible assumption) | assumption)
              have q159 : x11_1 < (l0.length : Int) := of_decide_eq_true (by first | (with_reducible assumption) | assumption)
              obtain ⟨ad159, e159, hx159_0⟩ := Kd.at_int HR0.out x11_1 p159 q159
              cases e159
              replace p159 := eq_true p159
              replace q159 := eq_true q159
              go_wp2
              go_ret
              exact ⟨by first | rfl | (simp; done) | (simp [*]; done), by repeat (first | exact Drawn0.refl _ | apply Drawn0.step)⟩
            · rw [if_neg c6] at H
              have c6b0 : decide ((l1.length : Int) ≤ x11_1) = false := decide_eq_false c6
              clear c6
              by_cases c7 : x11_1 < (l1.length : Int)
              · rw [if_pos c7] at H
                have c7b0 : decide (x11_1 < (l1.length : Int)) = true := decide_eq_true c7
                clear c7
                replace H := Option.bind_eq_some_iff.mp H
                obtain ⟨t161, A80, H⟩ := H
                replace H : (if t161 = 0 then (slices_Compare_int_int.l0 k1 l0 l1 l0 (l0.length : Int) (wrap64 (x11_1 + 1))) else (some t161)) = some r := H
                have A8 := Aside0.mk A80
                clear A80
                by_cases c9 : t161 = 0
                · rw [if_pos c9] at H
                  have c9b0 : (t161 == 0) = true := beq_iff_eq.mpr c9
                  have c9b1 : (t161 != 0) = false := bne_eq_false_iff_eq.mpr c9
                  clear c9
                  have H' := Aside0.mk H
                  clear H
                  have p159 : 0 ≤ (x11_1 : Int) := of_decide_eq_true (by first | (with_reducible assumption) | assumption)
                  have q159 : x11_1 < (l0.length : Int) := of_decide_eq_true (by first | (with_reducible assumption) | assumption)
                  obtain ⟨ad159, e159, hx159_0⟩ := Kd.at_int HR0.out x11_1 p159 q159
                  cases e159
                  replace p159 := eq_true p159
                  replace q159 := eq_true q159
                  have p160 : 0 ≤ (x11_1 : Int) := of_decide_eq_true (by first | (with_reducible assumption) | assumption)
                  have q160 : x11_1 < (l1.length : Int) := of_decide_eq_true (by first | (with_reducible assumption) | assumption)
                  obtain ⟨ad160, e160, hx160_0⟩ := Kd.at_int HR1.out x11_1 p160 q160
                  cases e160
                  replace p160 := eq_true p160
                  replace q160 := eq_true q160
                  go_wp2_with (first | ((with_reducible refine gate_callee (f := 122) rfl ?_); refine goesL_ (some 26) rfl rfl Try.func122 (by kernel_rfl) rfl #[.int .i64 (rd l0 x11_1), .int .i64 (rd l1 x11_1)] rfl (by (try simp only [List.map_toArray, List.map_cons, List.map_nil]); first | done | rfl | (simp only [List.length_drop, List.length_take]; rfl)) ?_; (with_reducible refine (cmp_Compare_int.calls (rd l0 x11_1) (rd l1 x11_1) t161 _ A8.out).mono ?_); rintro e w' ⟨rfl, ⟨nd, rfl⟩⟩; refine ⟨_, rfl, ?_⟩))
                  go_roundg k1
                  case measure => have := HK1.out; omega
                  case rel => exact ⟨(wrap64 (x11_1 + 1)), (by first | rfl | (simp; done) | (simp [*]; done)), H', ⟨by have := HK1.out; omega⟩, by repeat (first | exact Drawn0.refl _ | apply Drawn0.step)⟩
                · rw [if_neg c9] at H
                  have c9b0 : (t161 == 0) = false := beq_eq_false_iff_ne.mpr c9
                  have c9b1 : (t161 != 0) = true := bne_iff_ne.mpr c9
                  obtain rfl := Option.some.inj H
                  have p159 : 0 ≤ (x11_1 : Int) := of_decide_eq_true (by first | (with_reducible assumption) | assumption)
                  have q159 : x11_1 < (l0.length : Int) := of_decide_eq_true (by first | (with_reducible assumption) | assumption)
                  obtain ⟨ad159, e159, hx159_0⟩ := Kd.at_int HR0.out x11_1 p159 q159
                  cases e159
                  replace p159 := eq_true p159
                  replace q159 := eq_true q159
                  have p160 : 0 ≤ (x11_1 : Int) := of_decide_eq_true (by first | (with_reducible assumption) | assumption)
                  have q160 : x11_1 < (l1.length : Int) := of_decide_eq_true (by first | (with_reducible assumption) | assumption)
                  obtain ⟨ad160, e160, hx160_0⟩ := Kd.at_int HR1.out x11_1 p160 q160
                  cases e160
                  replace p160 := eq_true p160
                  replace q160 := eq_true q160
                  go_wp2_with (first | ((with_reducible refine gate_callee (f := 122) rfl ?_); refine goesL_ (some 26) rfl rfl Try.func122 (by kernel_rfl) rfl #[.int .i64 (rd l0 x11_1), .int .i64 (rd l1 x11_1)] rfl (by (try simp only [List.map_toArray, List.map_cons, List.map_nil]); first | done | rfl | (simp only [List.length_drop, List.length_take]; rfl)) ?_; (with_reducible refine (cmp_Compare_int.calls (rd l0 x11_1) (rd l1 x11_1) t161 _ A8.out).mono ?_); rintro e w' ⟨rfl, ⟨nd, rfl⟩⟩; refine ⟨_, rfl, ?_⟩))
                  go_ret
                  exact ⟨by first | rfl | (simp; done) | (simp [*]; done), by repeat (first | exact Drawn0.refl _ | apply Drawn0.step)⟩
              · rw [if_neg c7] at H
                exact absurd H (by simp)
          · rw [if_neg c5] at H
            exact absurd H (by simp)
        · rw [if_neg c4] at H
          exact absurd H (by simp)
      · rw [if_neg c3] at H
        have c3b0 : decide (x11_1 < (l0.length : Int)) = false := decide_eq_false c3
        clear c3
        by_cases c10 : (l0.length : Int) < (l1.length : Int)
        · rw [if_pos c10] at H
          have c10b0 : decide ((l0.length : Int) < (l1.length : Int)) = true := decide_eq_true c10
          have c10b1 : decide (l0.length < l1.length) = true := decide_eq_true (Int.ofNat_lt.mp c10)
          clear c10
          obtain rfl := Option.some.inj H
          go_wp2
          go_ret
          exact ⟨by first | rfl | (simp; done) | (simp [*]; done), by repeat (first | exact Drawn0.refl _ | apply Drawn0.step)⟩
        · rw [if_neg c10] at H
          have c10b0 : decide ((l0.length : Int) < (l1.length : Int)) = false := decide_eq_false c10
          have c10b1 : decide (l0.length < l1.length) = false := decide_eq_false (fun h => c10 (Int.ofNat_lt.mpr h))
          clear c10
          obtain rfl := Option.some.inj H
          go_wp2
          go_ret
          exact ⟨by first | rfl | (simp; done) | (simp [*]; done), by repeat (first | exact Drawn0.refl _ | apply Drawn0.step)⟩




end Go.Proofs.Ytcdjeimjbbknjaa.PAll
namespace Go.Proofs.Ytcdjeimjbbknjaa.PAll
open Go.RowKit Go.Proofs.YtcdjeimjbbknjaaW.PrintWords Go.Proofs.YtcdjeimjbbknjaaW.PrintLast Go.Proofs.YtcdjeimjbbknjaaW.PrintMore
set_option linter.unusedVariables false
set_option linter.unusedSimpArgs false
attribute [local go_sem] max2_int min2_int max_two min_two max_three min_three max_four min_four

/-- 'xs[:m]' of a slice that is read. -/
theorem cut_take {k : IntKind} {t e : TypeId} {b : Nat} (ht : Try.prog.underlying t = some (.slice e)) (hinfo : (Try.prog.info? e).map (fun i => (i.zero, i.size, i.bytes)) = some (some (Value.int k 0), 1, b)) (A : Option Addr) (c : Nat) (xs : List Int) (m : Nat) (hm : m ≤ xs.length) (hc : xs.length ≤ c) :
    (∀ W : World, (Instr.slice t (.slice A xs.length c) none (some (.int .i64 (m : Int))) none).run Try.prog W = .ok (.slice A m c) W) ∧ ∀ w : World, Kd.C (Kd.int k) w A xs.length xs → Kd.C (Kd.int k) w A m (xs.take m) := by
  obtain ⟨i0, hi, _, hsz, _⟩ := info_parts hinfo
  obtain ⟨hcut, hA, hC⟩ := print_take_of (P := Try.prog) (Value.int k) 0 t e .i64 ht hi hsz A c xs (m : Int) (by omega) (by omega) hc
  have hl : (xs.take (m : Int).toNat).length = m := by rw [List.length_take]; omega
  rw [hl] at hcut hA
  exact ⟨hcut, fun w h => Kd.C_of_reads (hA w (Kd.reads_of_C h))⟩

def wordbookref01_Take.f (l0 : List Int) (a1 : Int) : Option (List Int) := if 0 ≤ a1 ∧ (l0.take a1.toNat).length < 17592186044416 then some (l0.take a1.toNat) else none
theorem take_at (A0 : Option Addr) (c0 : Nat) (l0 : List Int) (a1 : Int) (m : Nat) (w : World) (hr0 : Kd.C (Kd.int .i64) w A0 l0.length l0) (hc0 : l0.length ≤ c0)
    (hm : (if a1 < (l0.length : Int) then a1 else (l0.length : Int)) = (m : Int)) (hml : m ≤ l0.length) (hlim : m < 17592186044416) :
    Calls Try.prog 46 #[.slice A0 l0.length c0, .int .i64 a1] w fun e w' => ∃ v0_ : Value, e = .returned (v0_) ∧ Kd.R (Kd.int .i64) 3 w' w.heap.size (fun _ => True) v0_ (l0.take m) ∧ Below w.heap.size w w' := by
  obtain ⟨hcut, hA⟩ := cut_take (k := .i64) Try.underlying22 info3 A0 c0 l0 m hml hc0
  have HR := Aside0.mk (hA _ hr0)
  clear hA hr0
  have hml' : (m : Int) ≤ (l0.length : Int) := by omega
  go_enter Try.func46, Try.ntmps46
  go_wp2_with (at_builtin; refine Kd.R_append_rows (Kd.int .i64) (w0 := w) w.heap.size rfl (.tmp 6) (.tmp 12) 22 3 (.int .i64 0) 8 rfl Try.underlying22 info3 rfl (by decide) (by omega) (.slice none 0 0) ([] : List Int) (l0.take m) A0 m c0 (fun _ => True) (fun _ => False) rfl rfl (Kd.R_nil _ _ _ _ _) HR.out (fun _ _ h => h) (fun _ h => h.elim) (fun _ _ => trivial) (Below.refl _ _) (Nat.le_refl _) (by simp only [List.length_nil]; omega) ?_; intro v1 w1 HO HB _ _)
  go_ret
  exact ⟨_, rfl, by simpa using HO, HB⟩
theorem wordbookref01_Take.calls (A0 : Option Addr) (c0 : Nat) (l0 : List Int) (a1 : Int) (r : List Int) (w : World) (hr0 : Kd.C (Kd.int .i64) w A0 l0.length l0) (hc0 : l0.length ≤ c0) (h : wordbookref01_Take.f l0 a1 = some r) :
    Calls Try.prog 46 #[.slice A0 l0.length c0, .int .i64 a1] w fun e w' => ∃ v0_ : Value, e = .returned (v0_) ∧ Kd.R (Kd.int .i64) 3 w' w.heap.size (fun _ => True) v0_ r ∧ Below w.heap.size w w' := by
  unfold wordbookref01_Take.f at h
  split at h
  case isFalse => cases h
  case isTrue hh =>
  obtain ⟨h0, hlim⟩ := hh
  obtain rfl := Option.some.inj h
  rw [List.length_take] at hlim
  have h2 := take_at A0 c0 l0 a1 (min a1.toNat l0.length) w hr0 hc0 (by split <;> omega) (by omega) hlim
  rwa [← List.take_eq_take_min] at h2

def wordbookref01_Few.f (l0 : List Int) (a1 : Int) : Option (List Int) := if 0 ≤ a1 ∧ (l0.take a1.toNat).length < 140737488355328 then some (l0.take a1.toNat) else none
theorem few_at (A0 : Option Addr) (c0 : Nat) (l0 : List Int) (a1 : Int) (m : Nat) (w : World) (hr0 : Kd.C (Kd.int .u8) w A0 l0.length l0) (hc0 : l0.length ≤ c0)
    (hm : (if a1 < (l0.length : Int) then a1 else (l0.length : Int)) = (m : Int)) (hml : m ≤ l0.length) (hlim : m < 140737488355328) :
    Calls Try.prog 40 #[.slice A0 l0.length c0, .int .i64 a1] w fun e w' => ∃ v0_ : Value, e = .returned (v0_) ∧ Kd.R (Kd.int .u8) 5 w' w.heap.size (fun _ => True) v0_ (l0.take m) ∧ Below w.heap.size w w' := by
  obtain ⟨hcut, hA⟩ := cut_take (k := .u8) Try.underlying55 info5 A0 c0 l0 m hml hc0
  have HR := Aside0.mk (hA _ hr0)
  clear hA hr0
  have hml' : (m : Int) ≤ (l0.length : Int) := by omega
  go_enter Try.func40, Try.ntmps40
  go_wp2_with (at_builtin; refine Kd.R_append_rows (Kd.int .u8) (w0 := w) w.heap.size rfl (.tmp 6) (.tmp 12) 55 5 (.int .u8 0) 1 rfl Try.underlying55 info5 rfl (by decide) (by omega) (.slice none 0 0) ([] : List Int) (l0.take m) A0 m c0 (fun _ => True) (fun _ => False) rfl rfl (Kd.R_nil _ _ _ _ _) HR.out (fun _ _ h => h) (fun _ h => h.elim) (fun _ _ => trivial) (Below.refl _ _) (Nat.le_refl _) (by simp only [List.length_nil]; omega) ?_; intro v1 w1 HO HB _ _)
  go_ret
  exact ⟨_, rfl, by simpa using HO, HB⟩
theorem wordbookref01_Few.calls (A0 : Option Addr) (c0 : Nat) (l0 : List Int) (a1 : Int) (r : List Int) (w : World) (hr0 : Kd.C (Kd.int .u8) w A0 l0.length l0) (hc0 : l0.length ≤ c0) (h : wordbookref01_Few.f l0 a1 = some r) :
    Calls Try.prog 40 #[.slice A0 l0.length c0, .int .i64 a1] w fun e w' => ∃ v0_ : Value, e = .returned (v0_) ∧ Kd.R (Kd.int .u8) 5 w' w.heap.size (fun _ => True) v0_ r ∧ Below w.heap.size w w' := by
  unfold wordbookref01_Few.f at h
  split at h
  case isFalse => cases h
  case isTrue hh =>
  obtain ⟨h0, hlim⟩ := hh
  obtain rfl := Option.some.inj h
  rw [List.length_take] at hlim
  have h2 := few_at A0 c0 l0 a1 (min a1.toNat l0.length) w hr0 hc0 (by split <;> omega) (by omega) hlim
  rwa [← List.take_eq_take_min] at h2

/-! ### slices.Clone -/
def slices_Clone_int_int.f (l0 : List Int) : Option (List Int) := if l0.length < 17592186044416 then some l0 else none
theorem clone_nil (n c0 : Nat) (w : World) :
    Calls Try.prog 75 #[.slice none n c0] w fun e w' => ∃ v0_ : Value, e = .returned (v0_) ∧ Kd.R (Kd.int .i64) 3 w' w.heap.size (fun _ => True) v0_ [] ∧ Below w.heap.size w w' := by
  have heq := fun W => Lib.run_eql_slice_nil (P := Try.prog) W 22 3 none n c0 0 0 Try.underlying22
  simp only [Option.isNone_none] at heq
  go_enter Try.func75, Try.ntmps75
  go_wp2
  go_ret
  exact ⟨_, rfl, Kd.R_nil _ _ _ _ _, Below.refl _ _⟩
theorem clone_some (ad : Addr) (l0 : List Int) (c0 : Nat) (hlim : l0.length < 17592186044416) (w : World) (hr0 : Kd.C (Kd.int .i64) w (some ad) l0.length l0) :
    Calls Try.prog 75 #[.slice (some ad) l0.length c0] w fun e w' => ∃ v0_ : Value, e = .returned (v0_) ∧ Kd.R (Kd.int .i64) 3 w' w.heap.size (fun _ => True) v0_ l0 ∧ Below w.heap.size w w' := by
  have heq := fun W => Lib.run_eql_slice_nil (P := Try.prog) W 22 3 (some ad) l0.length c0 0 0 Try.underlying22
  simp only [Option.isNone_some] at heq
  have HR := Aside0.mk (Kd.C_below hr0 (below_alloc (Below.refl _ w) (.cells #[] 3)))
  clear hr0
  have HO := Aside0.mk (Kd.R_of_own (h1 := fun _ => rfl) (own_lit_of (enc := Value.int .i64) w w.heap.size 3 [] (Nat.le_refl _) (by simp)) (fun _ _ => trivial : ∀ k, _ → True))
  have HL := Aside0.mk hlim
  clear hlim
  go_enter Try.func75, Try.ntmps75
  go_wp2_with (at_builtin; refine Kd.R_append_rows (Kd.int .i64) (w0 := w) w.heap.size rfl (.tmp 5) (.tmp 6) 22 3 (.int .i64 0) 8 rfl Try.underlying22 info3 rfl (by decide) (by omega) (.slice (some ⟨w.heap.size, 0, none⟩) 0 0) ([] : List Int) l0 (some ad) l0.length c0 (fun _ => True) (fun _ => False) rfl rfl HO.out HR.out (fun _ _ h => h) (fun _ h => h.elim) (fun _ _ => trivial) (below_alloc (Below.refl _ _) _) (by simp) (by have := HL.out; simp only [List.length_nil]; omega) ?_; intro v1 w1 HO1 HB1 _ _)
  go_ret
  exact ⟨_, rfl, by simpa using HO1, HB1⟩
theorem slices_Clone_int_int.calls (A0 : Option Addr) (c0 : Nat) (l0 : List Int) (r : List Int) (w : World) (hr0 : Kd.C (Kd.int .i64) w A0 l0.length l0) (hc0 : l0.length ≤ c0) (h : slices_Clone_int_int.f l0 = some r) :
    Calls Try.prog 75 #[.slice A0 l0.length c0] w fun e w' => ∃ v0_ : Value, e = .returned (v0_) ∧ Kd.R (Kd.int .i64) 3 w' w.heap.size (fun _ => True) v0_ r ∧ Below w.heap.size w w' := by
  unfold slices_Clone_int_int.f at h
  split at h
  case isFalse => cases h
  case isTrue hh =>
  obtain rfl := Option.some.inj h
  rcases A0 with _ | ad
  · have h0 : l0 = [] := by
      rcases Nat.eq_zero_or_pos l0.length with h0 | h0
      · exact List.eq_nil_of_length_eq_zero h0
      · obtain ⟨ad, h', _⟩ := hr0.2.2 h0
        cases h'
    subst h0
    exact clone_nil _ c0 w
  · exact clone_some ad l0 c0 hh w hr0
end Go.Proofs.Ytcdjeimjbbknjaa.PAll
namespace Go.Proofs.Ytcdjeimjbbknjaa.PAll
open Go.RowKit Go.Proofs.YtcdjeimjbbknjaaW.PrintWords Go.Proofs.YtcdjeimjbbknjaaW.PrintLast Go.Proofs.YtcdjeimjbbknjaaW.PrintMore
attribute [local go_sem] max2_int min2_int max_two min_two max_three min_three max_four min_four   -- for this text's walks alone
set_option linter.unusedVariables false
set_option linter.unusedSimpArgs false

/-! ### wordbookref01_SameInts: function 27 -/
def wordbookref01_SameInts.l0 : Nat → List Int → List Int → Int → Option (Bool)
  | 0, _, _, _ => none
  | k + 1, x0, x1, x5 => if x5 < (x0.length : Int) then (if 0 ≤ x5 then (if x5 < (x1.length : Int) then (if (rd x0 x5) = (rd x1 x5) then (wordbookref01_SameInts.l0 k x0 x1 (wrap64 (x5 + 1))) else (some false)) else (none)) else (none)) else (some true)
def wordbookref01_SameInts.f (k : Nat) (l0 : List Int) (l1 : List Int) : Option (Bool) := if (l0.length : Int) = (l1.length : Int) then (wordbookref01_SameInts.l0 k l0 l1 0) else (some false)
theorem wordbookref01_SameInts.mono_l : ∀ k, (∀ y0 y1 y2, LeO (wordbookref01_SameInts.l0 k y0 y1 y2) (wordbookref01_SameInts.l0 (k + 1) y0 y1 y2))
  | 0 => fun _ _ _ r h => by simp [wordbookref01_SameInts.l0] at h
  | k + 1 => by
    have ih0 := wordbookref01_SameInts.mono_l k
    · intro y0 y1 y2
      unfold wordbookref01_SameInts.l0
      repeat' first
      | (with_reducible exact ih0 _ _ _)
      | (with_reducible exact LeO.refl _)
      | (with_reducible exact LeO.none _)
      | (with_reducible refine LeO.ite ?_ ?_)
      | (with_reducible refine LeO.bind ?_ (fun _ => ?_))
      | exact ih0 _ _ _
      | exact LeO.none _
      | refine LeO.ite ?_ ?_
      | refine LeO.bind ?_ (fun _ => ?_)
theorem wordbookref01_SameInts.mono : ∀ a0 a1 k, LeO (wordbookref01_SameInts.f k a0 a1) (wordbookref01_SameInts.f (k + 1) a0 a1) := by
  intro a0 a1 k
  have ih0 := wordbookref01_SameInts.mono_l k
  unfold wordbookref01_SameInts.f
  repeat' first
      | (with_reducible exact ih0 _ _ _)
      | (with_reducible exact LeO.refl _)
      | (with_reducible exact LeO.none _)
      | (with_reducible refine LeO.ite ?_ ?_)
      | (with_reducible refine LeO.bind ?_ (fun _ => ?_))
      | exact ih0 _ _ _
      | exact LeO.none _
      | refine LeO.ite ?_ ?_
      | refine LeO.bind ?_ (fun _ => ?_)
set_option maxHeartbeats 8000000 in
set_option maxRecDepth 100000 in
theorem wordbookref01_SameInts.calls (k : Nat) (A0 : Option Addr) (c0 : Nat) (l0 : List Int) (A1 : Option Addr) (c1 : Nat) (l1 : List Int) (r : Bool) (w : World) (hr0 : Kd.C (Kd.int .i64) w A0 l0.length l0) (hc0 : l0.length ≤ c0) (hr1 : Kd.C (Kd.int .i64) w A1 l1.length l1) (hc1 : l1.length ≤ c1) (h : wordbookref01_SameInts.f k l0 l1 = some r) :
    Calls Try.prog 27 #[.slice A0 l0.length c0, .slice A1 l1.length c1] w fun e w' => e = .returned (.bool r) ∧ Drawn0 w w' := by
  have HR0 := Aside0.mk hr0
  have HC0 := Aside0.mk hc0
  clear hr0 hc0
  have HR1 := Aside0.mk hr1
  have HC1 := Aside0.mk hc1
  clear hr1 hc1
  have H : (if (l0.length : Int) = (l1.length : Int) then (wordbookref01_SameInts.l0 k l0 l1 0) else (some false)) = some r := h
  clear h
  by_cases c3 : (l0.length : Int) = (l1.length : Int)
  · rw [if_pos c3] at H
    have c3b0 : ((l0.length : Int) == (l1.length : Int)) = true := beq_iff_eq.mpr c3
    have c3b1 : ((l0.length : Int) != (l1.length : Int)) = false := bne_eq_false_iff_eq.mpr c3
    have c3b2 : (l0.length == l1.length) = true := by first | simpa using c3 | (simp at c3 ⊢; omega)
    clear c3
    have H' := Aside0.mk H
    clear H
    go_enter Try.func27, Try.ntmps27
    go_wp2
    repeat (go_quiet (fail); try go_wp2)
    go_loopg [5] k (fun kq v5 w' => ∃ (x5_1 : Int), v5 = .int .i64 x5_1 ∧ Aside0 (wordbookref01_SameInts.l0 kq l0 l1 x5_1 = some r) ∧ Aside0 (kq ≤ k) ∧ Drawn0 w w')
    case atStart => exact ⟨(0), (by first | rfl | (simp; done) | (simp [*]; done)), H', ⟨Nat.le_refl _⟩, by repeat (first | exact Drawn0.refl _ | apply Drawn0.step)⟩
    case round =>
      clear H'
      try clear c1
      try clear c2
      try clear p2
      try clear c3
      try clear c3b0
      try clear c3b1
      try clear c3b2
      obtain ⟨x5_1, rfl, HA, HK1, ⟨m1, rfl⟩⟩ := hrel
      cases gk with
      | zero => exact absurd HA.out (by simp [wordbookref01_SameInts.l0])
      | succ k1 =>
        have H := HA.out
        clear HA
        simp only [wordbookref01_SameInts.l0] at H
        by_cases c4 : x5_1 < (l0.length : Int)
        · rw [if_pos c4] at H
          have c4b0 : decide (x5_1 < (l0.length : Int)) = true := decide_eq_true c4
          clear c4
          by_cases c5 : 0 ≤ x5_1
          · rw [if_pos c5] at H
            have c5b0 : decide (0 ≤ x5_1) = true := decide_eq_true c5
            clear c5
            by_cases c6 : x5_1 < (l1.length : Int)
            · rw [if_pos c6] at H
              have c6b0 : decide (x5_1 < (l1.length : Int)) = true := decide_eq_true c6
              clear c6
              by_cases c7 : (rd l0 x5_1) = (rd l1 x5_1)
              · rw [if_pos c7] at H
                have c7b0 : ((rd l0 x5_1) == (rd l1 x5_1)) = true := beq_iff_eq.mpr c7
                have c7b1 : ((rd l0 x5_1) != (rd l1 x5_1)) = false := bne_eq_false_iff_eq.mpr c7
                clear c7
                have H' := Aside0.mk H
                clear H
                have p175 : 0 ≤ (x5_1 : Int) := of_decide_eq_true (by first | (with_reducible assumption) | assumption)
                have q175 : x5_1 < (l0.length : Int) := of_decide_eq_true (by first | (with_reducible assumption) | assumption)
                obtain ⟨ad175, e175, hx175_0⟩ := Kd.at_int HR0.out x5_1 p175 q175
                cases e175
                replace p175 := eq_true p175
                replace q175 := eq_true q175
                have p176 : 0 ≤ (x5_1 : Int) := of_decide_eq_true (by first | (with_reducible assumption) | assumption)
                have q176 : x5_1 < (l1.length : Int) := of_decide_eq_true (by first | (with_reducible assumption) | assumption)
                obtain ⟨ad176, e176, hx176_0⟩ := Kd.at_int HR1.out x5_1 p176 q176
                cases e176
                replace p176 := eq_true p176
                replace q176 := eq_true q176
                go_wp2
                repeat (go_quiet (fail); try go_wp2)
                go_roundg k1
                case measure => have := HK1.out; omega
                case rel => exact ⟨(wrap64 (x5_1 + 1)), (by first | rfl | (simp; done) | (simp [*]; done)), H', ⟨by have := HK1.out; omega⟩, by repeat (first | exact Drawn0.refl _ | apply Drawn0.step)⟩
              · rw [if_neg c7] at H
                have c7b0 : ((rd l0 x5_1) == (rd l1 x5_1)) = false := beq_eq_false_iff_ne.mpr c7
                have c7b1 : ((rd l0 x5_1) != (rd l1 x5_1)) = true := bne_iff_ne.mpr c7
                obtain rfl := Option.some.inj H
                have p175 : 0 ≤ (x5_1 : Int) := of_decide_eq_true (by first | (with_reducible assumption) | assumption)
                have q175 : x5_1 < (l0.length : Int) := of_decide_eq_true (by first | (with_reducible assumption) | assumption)
                obtain ⟨ad175, e175, hx175_0⟩ := Kd.at_int HR0.out x5_1 p175 q175
                cases e175
                replace p175 := eq_true p175
                replace q175 := eq_true q175
                have p176 : 0 ≤ (x5_1 : Int) := of_decide_eq_true (by first | (with_reducible assumption) | assumption)
                have q176 : x5_1 < (l1.length : Int) := of_decide_eq_true (by first | (with_reducible assumption) | assumption)
                obtain ⟨ad176, e176, hx176_0⟩ := Kd.at_int HR1.out x5_1 p176 q176
                cases e176
                replace p176 := eq_true p176
                replace q176 := eq_true q176
                go_wp2
                repeat (go_quiet (fail); try go_wp2)
                go_ret
                exact ⟨by first | rfl | (simp; done) | (simp [*]; done), by repeat (first | exact Drawn0.refl _ | apply Drawn0.step)⟩
            · rw [if_neg c6] at H
              exact absurd H (by simp)
          · rw [if_neg c5] at H
            exact absurd H (by simp)
        · rw [if_neg c4] at H
          have c4b0 : decide (x5_1 < (l0.length : Int)) = false := decide_eq_false c4
          clear c4
          obtain rfl := Option.some.inj H
          go_wp2
          repeat (go_quiet (fail); try go_wp2)
          go_ret
          exact ⟨by first | rfl | (simp; done) | (simp [*]; done), by repeat (first | exact Drawn0.refl _ | apply Drawn0.step)⟩
  · rw [if_neg c3] at H
    have c3b0 : ((l0.length : Int) == (l1.length : Int)) = false := beq_eq_false_iff_ne.mpr c3
    have c3b1 : ((l0.length : Int) != (l1.length : Int)) = true := bne_iff_ne.mpr c3
    have c3b2 : (l0.length == l1.length) = false := by first | simpa using c3 | (simp at c3 ⊢; omega)
    obtain rfl := Option.some.inj H
    go_enter Try.func27, Try.ntmps27
    go_wp2
    repeat (go_quiet (fail); try go_wp2)
    go_ret
    exact ⟨by first | rfl | (simp; done) | (simp [*]; done), by repeat (first | exact Drawn0.refl _ | apply Drawn0.step)⟩



/-! ### cmp_Less_int: function 108 -/
def cmp_Less_int.f (a0 : Int) (a1 : Int) : Option (Bool) := (cmp_isNaN_int.f a0).bind fun t208 => (if t208 = true then ((cmp_isNaN_int.f a1).bind fun t209 => (if t209 = true then (some (decide (a0 < a1))) else (some true))) else (some (decide (a0 < a1))))
set_option maxHeartbeats 8000000 in
set_option maxRecDepth 100000 in
theorem cmp_Less_int.calls (a0 : Int) (a1 : Int) (r : Bool) (w : World) (h : cmp_Less_int.f a0 a1 = some r) :
    Calls Try.prog 108 #[.int .i64 a0, .int .i64 a1] w fun e w' => e = .returned (.bool r) ∧ Drawn0 w w' := by
  have H : ((cmp_isNaN_int.f a0).bind fun t208 => (if t208 = true then ((cmp_isNaN_int.f a1).bind fun t209 => (if t209 = true then (some (decide (a0 < a1))) else (some true))) else (some (decide (a0 < a1))))) = some r := h
  clear h
  replace H := Option.bind_eq_some_iff.mp H
  obtain ⟨t208, A30, H⟩ := H
  replace H : (if t208 = true then ((cmp_isNaN_int.f a1).bind fun t209 => (if t209 = true then (some (decide (a0 < a1))) else (some true))) else (some (decide (a0 < a1)))) = some r := H
  have A3 := Aside0.mk A30
  clear A30
  by_cases c4 : t208 = true
  · subst c4
    have H1 : ((cmp_isNaN_int.f a1).bind fun t209 => (if t209 = true then (some (decide (a0 < a1))) else (some true))) = some r := by rw [if_pos rfl] at H; exact H
    clear H
    have H := H1
    clear H1
    replace H := Option.bind_eq_some_iff.mp H
    obtain ⟨t209, A50, H⟩ := H
    replace H : (if t209 = true then (some (decide (a0 < a1))) else (some true)) = some r := H
    have A5 := Aside0.mk A50
    clear A50
    by_cases c6 : t209 = true
    · subst c6
      have H1 : (some (decide (a0 < a1))) = some r := by rw [if_pos rfl] at H; exact H
      clear H
      have H := H1
      clear H1
      obtain rfl := Option.some.inj H
      go_enter Try.func108, Try.ntmps108
      go_wp2_with (first | ((with_reducible refine gate_callee (f := 125) rfl ?_); refine goesL_ (some 6) rfl rfl Try.func125 (by kernel_rfl) rfl #[.int .i64 a0] rfl (by (try simp only [List.map_toArray, List.map_cons, List.map_nil]); first | done | rfl | (simp only [List.length_drop, List.length_take]; rfl)) ?_; (with_reducible refine (cmp_isNaN_int.calls a0 true _ A3.out).mono ?_); rintro e w' ⟨rfl, ⟨nd, rfl⟩⟩; refine ⟨_, rfl, ?_⟩) | (go_at_call 125; (with_reducible refine (cmp_isNaN_int.calls a1 true _ A5.out).mono ?_); rintro e w' ⟨rfl, ⟨nd, rfl⟩⟩))
      go_ret
      exact ⟨by first | rfl | (simp; done) | (simp [*]; done), by repeat (first | exact Drawn0.refl _ | apply Drawn0.step)⟩
    · replace c6 := Bool.eq_false_iff.mpr c6
      subst c6
      have H1 : (some true) = some r := by rw [if_neg (show ¬ (false = true) by decide)] at H; exact H
      clear H
      have H := H1
      clear H1
      obtain rfl := Option.some.inj H
      go_enter Try.func108, Try.ntmps108
      go_wp2_with (first | ((with_reducible refine gate_callee (f := 125) rfl ?_); refine goesL_ (some 6) rfl rfl Try.func125 (by kernel_rfl) rfl #[.int .i64 a0] rfl (by (try simp only [List.map_toArray, List.map_cons, List.map_nil]); first | done | rfl | (simp only [List.length_drop, List.length_take]; rfl)) ?_; (with_reducible refine (cmp_isNaN_int.calls a0 true _ A3.out).mono ?_); rintro e w' ⟨rfl, ⟨nd, rfl⟩⟩; refine ⟨_, rfl, ?_⟩) | (go_at_call 125; (with_reducible refine (cmp_isNaN_int.calls a1 false _ A5.out).mono ?_); rintro e w' ⟨rfl, ⟨nd, rfl⟩⟩))
      go_ret
      exact ⟨by first | rfl | (simp; done) | (simp [*]; done), by repeat (first | exact Drawn0.refl _ | apply Drawn0.step)⟩
  · replace c4 := Bool.eq_false_iff.mpr c4
    subst c4
    have H1 : (some (decide (a0 < a1))) = some r := by rw [if_neg (show ¬ (false = true) by decide)] at H; exact H
    clear H
    have H := H1
    clear H1
    obtain rfl := Option.some.inj H
    go_enter Try.func108, Try.ntmps108
    go_wp2_with (first | ((with_reducible refine gate_callee (f := 125) rfl ?_); refine goesL_ (some 6) rfl rfl Try.func125 (by kernel_rfl) rfl #[.int .i64 a0] rfl (by (try simp only [List.map_toArray, List.map_cons, List.map_nil]); first | done | rfl | (simp only [List.length_drop, List.length_take]; rfl)) ?_; (with_reducible refine (cmp_isNaN_int.calls a0 false _ A3.out).mono ?_); rintro e w' ⟨rfl, ⟨nd, rfl⟩⟩; refine ⟨_, rfl, ?_⟩))
    go_ret
    exact ⟨by first | rfl | (simp; done) | (simp [*]; done), by repeat (first | exact Drawn0.refl _ | apply Drawn0.step)⟩

/-! ### slices_isNaN_int: function 109 -/
def slices_isNaN_int.f (a0 : Int) : Option (Bool) := some (a0 != a0)
set_option maxHeartbeats 8000000 in
set_option maxRecDepth 100000 in
theorem slices_isNaN_int.calls (a0 : Int) (r : Bool) (w : World) (h : slices_isNaN_int.f a0 = some r) :
    Calls Try.prog 109 #[.int .i64 a0] w fun e w' => e = .returned (.bool r) ∧ Drawn0 w w' := by
  have H : (some (a0 != a0)) = some r := h
  clear h
  obtain rfl := Option.some.inj H
  go_enter Try.func109, Try.ntmps109
  go_wp2
  go_ret
  exact ⟨by first | rfl | (simp; done) | (simp [*]; done), by repeat (first | exact Drawn0.refl _ | apply Drawn0.step)⟩

/-! ### slices_BinarySearch_int_int: function 76 -/
def slices_BinarySearch_int_int.l0 : Nat → List Int → Int → Int → Int → Int → Option (Int × Bool)
  | 0, _, _, _, _, _ => none
  | k + 1, x0, x1, x6, x7, x8 => if x7 < x8 then (if 0 ≤ (wrap64 ((IntKind.u64.wrap (wrap64 (x7 + x8))) / 2)) then (if (wrap64 ((IntKind.u64.wrap (wrap64 (x7 + x8))) / 2)) < (x0.length : Int) then ((cmp_Less_int.f (rd x0 (wrap64 ((IntKind.u64.wrap (wrap64 (x7 + x8))) / 2))) x1).bind fun t211 => (if t211 = true then (slices_BinarySearch_int_int.l0 k x0 x1 x6 (wrap64 ((wrap64 ((IntKind.u64.wrap (wrap64 (x7 + x8))) / 2)) + 1)) x8) else (slices_BinarySearch_int_int.l0 k x0 x1 x6 x7 (wrap64 ((IntKind.u64.wrap (wrap64 (x7 + x8))) / 2))))) else (none)) else (none)) else (if x7 < x6 then (if 0 ≤ x7 then (if x7 < (x0.length : Int) then (if (rd x0 x7) = x1 then (some (x7, true)) else ((slices_isNaN_int.f (rd x0 x7)).bind fun t214 => (if t214 = true then ((slices_isNaN_int.f x1).bind fun t215 => (some (x7, t215))) else (some (x7, false))))) else (none)) else (none)) else (some (x7, false)))
def slices_BinarySearch_int_int.f (k : Nat) (l0 : List Int) (a1 : Int) : Option (Int × Bool) := slices_BinarySearch_int_int.l0 k l0 a1 (l0.length : Int) 0 (l0.length : Int)
theorem slices_BinarySearch_int_int.mono_l : ∀ k, (∀ y0 y1 y2 y3 y4, LeO (slices_BinarySearch_int_int.l0 k y0 y1 y2 y3 y4) (slices_BinarySearch_int_int.l0 (k + 1) y0 y1 y2 y3 y4))
  | 0 => fun _ _ _ _ _ r h => by simp [slices_BinarySearch_int_int.l0] at h
  | k + 1 => by
    have ih0 := slices_BinarySearch_int_int.mono_l k
    · intro y0 y1 y2 y3 y4
      unfold slices_BinarySearch_int_int.l0
      repeat' first
      | (with_reducible exact ih0 _ _ _ _ _)
      | (with_reducible exact LeO.refl _)
      | (with_reducible exact LeO.none _)
      | (with_reducible refine LeO.ite ?_ ?_)
      | (with_reducible refine LeO.bind ?_ (fun _ => ?_))
      | exact ih0 _ _ _ _ _
      | exact LeO.none _
      | refine LeO.ite ?_ ?_
      | refine LeO.bind ?_ (fun _ => ?_)
theorem slices_BinarySearch_int_int.mono : ∀ a0 a1 k, LeO (slices_BinarySearch_int_int.f k a0 a1) (slices_BinarySearch_int_int.f (k + 1) a0 a1) := by
  intro a0 a1 k
  have ih0 := slices_BinarySearch_int_int.mono_l k
  unfold slices_BinarySearch_int_int.f
  repeat' first
      | (with_reducible exact ih0 _ _ _ _ _)
      | (with_reducible exact LeO.refl _)
      | (with_reducible exact LeO.none _)
      | (with_reducible refine LeO.ite ?_ ?_)
      | (with_reducible refine LeO.bind ?_ (fun _ => ?_))
      | exact ih0 _ _ _ _ _
      | exact LeO.none _
      | refine LeO.ite ?_ ?_
      | refine LeO.bind ?_ (fun _ => ?_)
set_option maxHeartbeats 8000000 in
set_option maxRecDepth 100000 in
theorem slices_BinarySearch_int_int.calls (k : Nat) (A0 : Option Addr) (c0 : Nat) (l0 : List Int) (a1 : Int) (r1 : Int) (r2 : Bool) (w : World) (hr0 : Kd.C (Kd.int .i64) w A0 l0.length l0) (hc0 : l0.length ≤ c0) (h : slices_BinarySearch_int_int.f k l0 a1 = some (r1, r2)) :
    Calls Try.prog 76 #[.slice A0 l0.length c0, .int .i64 a1] w fun e w' => e = .returned (.tuple #[.int .i64 r1, .bool r2]) ∧ Drawn0 w w' := by
  have HR0 := Aside0.mk hr0
  have HC0 := Aside0.mk hc0
  clear hr0 hc0
  have H : (slices_BinarySearch_int_int.l0 k l0 a1 (l0.length : Int) 0 (l0.length : Int)) = some (r1, r2) := h
  clear h
  have H' := Aside0.mk H
  clear H
  go_enter Try.func76, Try.ntmps76
  go_wp2
  go_loopg [7, 8] k (fun kq v7 v8 w' => ∃ (x7_1 : Int) (x8_1 : Int), v7 = .int .i64 x7_1 ∧ v8 = .int .i64 x8_1 ∧ Aside0 (slices_BinarySearch_int_int.l0 kq l0 a1 (l0.length : Int) x7_1 x8_1 = some (r1, r2)) ∧ Aside0 (kq ≤ k) ∧ Drawn0 w w')
  case atStart => exact ⟨(0), ((l0.length : Int)), (by first | rfl | (simp; done) | (simp [*]; done)), (by first | rfl | (simp; done) | (simp [*]; done)), H', ⟨Nat.le_refl _⟩, by repeat (first | exact Drawn0.refl _ | apply Drawn0.step)⟩
  case round =>
    clear H'
    try clear p2
    obtain ⟨x7_1, x8_1, rfl, rfl, HA, HK1, ⟨m1, rfl⟩⟩ := hrel
    cases gk with
    | zero => exact absurd HA.out (by simp [slices_BinarySearch_int_int.l0])
    | succ k1 =>
      have H := HA.out
      clear HA
      simp only [slices_BinarySearch_int_int.l0] at H
      by_cases c3 : x7_1 < x8_1
      · rw [if_pos c3] at H
        have c3b0 : decide (x7_1 < x8_1) = true := decide_eq_true c3
        clear c3
        obtain ⟨ji4, hji4⟩ : ∃ j_ : Int, (wrap64 ((IntKind.u64.wrap (wrap64 (x7_1 + x8_1))) / 2)) = j_ := ⟨_, rfl⟩
        replace H : (if 0 ≤ (ji4) then (if (ji4) < (l0.length : Int) then ((cmp_Less_int.f (rd l0 (ji4)) a1).bind fun t211 => (if t211 = true then (slices_BinarySearch_int_int.l0 k1 l0 a1 (l0.length : Int) (wrap64 ((ji4) + 1)) x8_1) else (slices_BinarySearch_int_int.l0 k1 l0 a1 (l0.length : Int) x7_1 ji4))) else (none)) else (none)) = some (r1, r2) := by first | (rw [hji4] at H; exact H) | (simp only [hji4] at H ⊢; exact H)
        have hji4w : (IntKind.i64.wrap ((IntKind.u64.wrap (wrap64 (x7_1 + x8_1))) / 2)) = ji4 := (i64_w _).trans hji4
        by_cases c5 : 0 ≤ (ji4)
        · rw [if_pos c5] at H
          have c5b0 : decide (0 ≤ (ji4)) = true := decide_eq_true c5
          clear c5
          by_cases c6 : (ji4) < (l0.length : Int)
          · rw [if_pos c6] at H
            have c6b0 : decide ((ji4) < (l0.length : Int)) = true := decide_eq_true c6
            clear c6
            replace H := Option.bind_eq_some_iff.mp H
            obtain ⟨t211, A70, H⟩ := H
            replace H : (if t211 = true then (slices_BinarySearch_int_int.l0 k1 l0 a1 (l0.length : Int) (wrap64 ((ji4) + 1)) x8_1) else (slices_BinarySearch_int_int.l0 k1 l0 a1 (l0.length : Int) x7_1 ji4)) = some (r1, r2) := H
            have A7 := Aside0.mk A70
            clear A70
            by_cases c8 : t211 = true
            · subst c8
              have H1 : (slices_BinarySearch_int_int.l0 k1 l0 a1 (l0.length : Int) (wrap64 ((ji4) + 1)) x8_1) = some (r1, r2) := by rw [if_pos rfl] at H; exact H
              clear H
              have H := H1
              clear H1
              have H' := Aside0.mk H
              clear H
              have p210 : 0 ≤ ((ji4) : Int) := of_decide_eq_true (by first | (with_reducible assumption) | assumption)
              have q210 : (ji4) < (l0.length : Int) := of_decide_eq_true (by first | (with_reducible assumption) | assumption)
              obtain ⟨ad210, e210, hx210_0⟩ := Kd.at_int HR0.out (ji4) p210 q210
              cases e210
              replace p210 := eq_true p210
              replace q210 := eq_true q210
              go_wp2_with (first | ((with_reducible refine gate_callee (f := 108) rfl ?_); refine goesL_ (some 27) rfl rfl Try.func108 (by kernel_rfl) rfl #[.int .i64 (rd l0 (ji4)), .int .i64 a1] rfl (by (try simp only [List.map_toArray, List.map_cons, List.map_nil]); first | done | (simp only [hji4]; rfl) | rfl | (simp only [List.length_drop, List.length_take]; rfl)) ?_; (with_reducible refine (cmp_Less_int.calls (rd l0 (ji4)) a1 true _ A7.out).mono ?_); rintro e w' ⟨rfl, ⟨nd, rfl⟩⟩; refine ⟨_, rfl, ?_⟩))
              go_roundg k1
              case measure => have := HK1.out; omega
              case rel => exact ⟨(wrap64 ((ji4) + 1)), (x8_1), (by first | rfl | (simp; done) | (simp only [← hji4] <;> (first | rfl | simp)) | (simp [*]; done)), (by first | rfl | (simp; done) | (simp [*]; done)), H', ⟨by have := HK1.out; omega⟩, by repeat (first | exact Drawn0.refl _ | apply Drawn0.step)⟩
            · replace c8 := Bool.eq_false_iff.mpr c8
              subst c8
              have H1 : (slices_BinarySearch_int_int.l0 k1 l0 a1 (l0.length : Int) x7_1 ji4) = some (r1, r2) := by rw [if_neg (show ¬ (false = true) by decide)] at H; exact H
              clear H
              have H := H1
              clear H1
              have H' := Aside0.mk H
              clear H
              have p210 : 0 ≤ ((ji4) : Int) := of_decide_eq_true (by first | (with_reducible assumption) | assumption)
              have q210 : (ji4) < (l0.length : Int) := of_decide_eq_true (by first | (with_reducible assumption) | assumption)
              obtain ⟨ad210, e210, hx210_0⟩ := Kd.at_int HR0.out (ji4) p210 q210
              cases e210
              replace p210 := eq_true p210
              replace q210 := eq_true q210
              go_wp2_with (first | ((with_reducible refine gate_callee (f := 108) rfl ?_); refine goesL_ (some 27) rfl rfl Try.func108 (by kernel_rfl) rfl #[.int .i64 (rd l0 (ji4)), .int .i64 a1] rfl (by (try simp only [List.map_toArray, List.map_cons, List.map_nil]); first | done | (simp only [hji4]; rfl) | rfl | (simp only [List.length_drop, List.length_take]; rfl)) ?_; (with_reducible refine (cmp_Less_int.calls (rd l0 (ji4)) a1 false _ A7.out).mono ?_); rintro e w' ⟨rfl, ⟨nd, rfl⟩⟩; refine ⟨_, rfl, ?_⟩))
              go_roundg k1
              case measure => have := HK1.out; omega
              case rel => exact ⟨(x7_1), (ji4), (by first | rfl | (simp; done) | (simp [*]; done)), (by first | rfl | (simp; done) | (simp only [← hji4] <;> (first | rfl | simp)) | (simp [*]; done)), H', ⟨by have := HK1.out; omega⟩, by repeat (first | exact Drawn0.refl _ | apply Drawn0.step)⟩
          · rw [if_neg c6] at H
            exact absurd H (by simp)
        · rw [if_neg c5] at H
          exact absurd H (by simp)
      · rw [if_neg c3] at H
        have c3b0 : decide (x7_1 < x8_1) = false := decide_eq_false c3
        clear c3
        by_cases c9 : x7_1 < (l0.length : Int)
        · rw [if_pos c9] at H
          have c9b0 : decide (x7_1 < (l0.length : Int)) = true := decide_eq_true c9
          clear c9
          by_cases c10 : 0 ≤ x7_1
          · rw [if_pos c10] at H
            have c10b0 : decide (0 ≤ x7_1) = true := decide_eq_true c10
            clear c10
            by_cases c11 : x7_1 < (l0.length : Int)
            · rw [if_pos c11] at H
              have c11b0 : decide (x7_1 < (l0.length : Int)) = true := decide_eq_true c11
              clear c11
              by_cases c12 : (rd l0 x7_1) = a1
              · rw [if_pos c12] at H
                have c12b0 : ((rd l0 x7_1) == a1) = true := beq_iff_eq.mpr c12
                have c12b1 : ((rd l0 x7_1) != a1) = false := bne_eq_false_iff_eq.mpr c12
                clear c12
                simp only [Option.some.injEq, Prod.mk.injEq] at H
                obtain ⟨rfl, rfl⟩ := H
                have p212 : 0 ≤ (x7_1 : Int) := of_decide_eq_true (by first | (with_reducible assumption) | assumption)
                have q212 : x7_1 < (l0.length : Int) := of_decide_eq_true (by first | (with_reducible assumption) | assumption)
                obtain ⟨ad212, e212, hx212_0⟩ := Kd.at_int HR0.out x7_1 p212 q212
                cases e212
                replace p212 := eq_true p212
                replace q212 := eq_true q212
                go_wp2
                go_ret2
                exact ⟨by first | rfl | (simp; done) | (simp [*]; done), by repeat (first | exact Drawn0.refl _ | apply Drawn0.step)⟩
              · rw [if_neg c12] at H
                have c12b0 : ((rd l0 x7_1) == a1) = false := beq_eq_false_iff_ne.mpr c12
                have c12b1 : ((rd l0 x7_1) != a1) = true := bne_iff_ne.mpr c12
                replace H := Option.bind_eq_some_iff.mp H
                obtain ⟨t214, A130, H⟩ := H
                replace H : (if t214 = true then ((slices_isNaN_int.f a1).bind fun t215 => (some (x7_1, t215))) else (some (x7_1, false))) = some (r1, r2) := H
                have A13 := Aside0.mk A130
                clear A130
                by_cases c14 : t214 = true
                · subst c14
                  have H1 : ((slices_isNaN_int.f a1).bind fun t215 => (some (x7_1, t215))) = some (r1, r2) := by rw [if_pos rfl] at H; exact H
                  clear H
                  have H := H1
                  clear H1
                  replace H := Option.bind_eq_some_iff.mp H
                  obtain ⟨t215, A150, H⟩ := H
                  replace H : (some (x7_1, t215)) = some (r1, r2) := H
                  have A15 := Aside0.mk A150
                  clear A150
                  simp only [Option.some.injEq, Prod.mk.injEq] at H
                  obtain ⟨rfl, rfl⟩ := H
                  have p212 : 0 ≤ (x7_1 : Int) := of_decide_eq_true (by first | (with_reducible assumption) | assumption)
                  have q212 : x7_1 < (l0.length : Int) := of_decide_eq_true (by first | (with_reducible assumption) | assumption)
                  obtain ⟨ad212, e212, hx212_0⟩ := Kd.at_int HR0.out x7_1 p212 q212
                  cases e212
                  replace p212 := eq_true p212
                  replace q212 := eq_true q212
                  have p213 : 0 ≤ (x7_1 : Int) := of_decide_eq_true (by first | (with_reducible assumption) | assumption)
                  have q213 : x7_1 < (l0.length : Int) := of_decide_eq_true (by first | (with_reducible assumption) | assumption)
                  obtain ⟨ad213, e213, hx213_0⟩ := Kd.at_int HR0.out x7_1 p213 q213
                  obtain rfl : ad212 = ad213 := (by injection e213)
                  replace p213 := eq_true p213
                  replace q213 := eq_true q213
                  go_wp2_with (first | (go_at_call 109; (with_reducible refine (slices_isNaN_int.calls (rd l0 x7_1) true _ A13.out).mono ?_); rintro e w' ⟨rfl, ⟨nd, rfl⟩⟩) | (go_at_call 109; (with_reducible refine (slices_isNaN_int.calls a1 t215 _ A15.out).mono ?_); rintro e w' ⟨rfl, ⟨nd, rfl⟩⟩))
                  go_ret2
                  exact ⟨by first | rfl | (simp; done) | (simp [*]; done), by repeat (first | exact Drawn0.refl _ | apply Drawn0.step)⟩
                · replace c14 := Bool.eq_false_iff.mpr c14
                  subst c14
                  have H1 : (some (x7_1, false)) = some (r1, r2) := by rw [if_neg (show ¬ (false = true) by decide)] at H; exact H
                  clear H
                  have H := H1
                  clear H1
                  simp only [Option.some.injEq, Prod.mk.injEq] at H
                  obtain ⟨rfl, rfl⟩ := H
                  have p212 : 0 ≤ (x7_1 : Int) := of_decide_eq_true (by first | (with_reducible assumption) | assumption)
                  have q212 : x7_1 < (l0.length : Int) := of_decide_eq_true (by first | (with_reducible assumption) | assumption)
                  obtain ⟨ad212, e212, hx212_0⟩ := Kd.at_int HR0.out x7_1 p212 q212
                  cases e212
                  replace p212 := eq_true p212
                  replace q212 := eq_true q212
                  have p213 : 0 ≤ (x7_1 : Int) := of_decide_eq_true (by first | (with_reducible assumption) | assumption)
                  have q213 : x7_1 < (l0.length : Int) := of_decide_eq_true (by first | (with_reducible assumption) | assumption)
                  obtain ⟨ad213, e213, hx213_0⟩ := Kd.at_int HR0.out x7_1 p213 q213
                  obtain rfl : ad212 = ad213 := (by injection e213)
                  replace p213 := eq_true p213
                  replace q213 := eq_true q213
                  go_wp2_with (first | (go_at_call 109; (with_reducible refine (slices_isNaN_int.calls (rd l0 x7_1) false _ A13.out).mono ?_); rintro e w' ⟨rfl, ⟨nd, rfl⟩⟩))
                  go_ret2
                  exact ⟨by first | rfl | (simp; done) | (simp [*]; done), by repeat (first | exact Drawn0.refl _ | apply Drawn0.step)⟩
            · rw [if_neg c11] at H
              exact absurd H (by simp)
          · rw [if_neg c10] at H
            exact absurd H (by simp)
        · rw [if_neg c9] at H
          have c9b0 : decide (x7_1 < (l0.length : Int)) = false := decide_eq_false c9
          clear c9
          simp only [Option.some.injEq, Prod.mk.injEq] at H
          obtain ⟨rfl, rfl⟩ := H
          go_wp2
          go_ret2
          exact ⟨by first | rfl | (simp; done) | (simp [*]; done), by repeat (first | exact Drawn0.refl _ | apply Drawn0.step)⟩



end Go.Proofs.Ytcdjeimjbbknjaa.PAll
namespace Go.Proofs.Ytcdjeimjbbknjaa.PAll
open Go.RowKit Go.Proofs.YtcdjeimjbbknjaaW.PrintWords Go.Proofs.YtcdjeimjbbknjaaW.PrintLast Go.Proofs.YtcdjeimjbbknjaaW.PrintMore
set_option linter.unusedVariables false
set_option linter.unusedSimpArgs false

/-- The lexicographic order of two words: -1, 0, 1. -/
def cmpL : List Int → List Int → Int
  | [], [] => 0
  | [], _ :: _ => -1
  | _ :: _, [] => 1
  | a :: u, b :: v => if a < b then -1 else if b < a then 1 else cmpL u v

theorem wrap_succ {i : Int} (h0 : 0 ≤ i) (h : i < 9223372036854775807) : wrap64 (i + 1) = i + 1 := by unfold wrap64; omega
theorem rd_drop {xs : List Int} {i : Nat} (h : i < xs.length) : xs.drop i = rd xs i :: xs.drop (i + 1) := by
  rw [List.drop_eq_getElem_cons h]
  simp [rd, List.getD_eq_getElem?_getD, List.getElem?_eq_getElem h]

theorem compare_int (a b : Int) : cmp_Compare_int.f a b = some (if a < b then -1 else if b < a then 1 else 0) := by
  unfold cmp_Compare_int.f cmp_isNaN_int.f
  simp
  split
  · rfl
  · split <;> rfl

theorem slices_Compare_tells (a b : List Int) (ha : a.length ≤ 9223372036854775807) (d : Nat) : ∀ (k i : Nat), a.length - i = d → i ≤ a.length → i ≤ b.length → d < k →
    slices_Compare_int_int.l0 k a b a (a.length : Int) (i : Int) = some (cmpL (a.drop i) (b.drop i)) := by
  induction d with
  | zero =>
    intro k i hd hi hib hk
    obtain ⟨k, rfl⟩ : ∃ m, k = m + 1 := ⟨k - 1, by omega⟩
    simp only [slices_Compare_int_int.l0]
    rw [if_neg (by omega), List.drop_of_length_le (by omega : a.length ≤ i)]
    by_cases hb : i < b.length
    · rw [if_pos (by omega), rd_drop hb]; rfl
    · rw [if_neg (by omega), List.drop_of_length_le (by omega : b.length ≤ i)]; rfl
  | succ d ih =>
    intro k i hd hi hib hk
    obtain ⟨k, rfl⟩ : ∃ m, k = m + 1 := ⟨k - 1, by omega⟩
    simp only [slices_Compare_int_int.l0]
    rw [if_pos (by omega), if_pos (by omega), if_pos (by omega), rd_drop (by omega : i < a.length)]
    by_cases hb : i < b.length
    · rw [if_neg (by omega), if_pos (by omega), compare_int, rd_drop hb]
      simp only [Option.bind_some, cmpL]
      by_cases h1 : rd a i < rd b i
      · rw [if_pos h1, if_neg (by omega), if_pos h1]
      · rw [if_neg h1, if_neg h1]
        by_cases h2 : rd b i < rd a i
        · rw [if_pos h2, if_neg (by omega), if_pos h2]
        · rw [if_neg h2, if_pos rfl, if_neg h2, wrap_succ (by omega) (by omega)]
          have := ih k (i + 1) (by omega) (by omega) (by omega) (by omega)
          rwa [show (((i + 1 : Nat) : Int)) = (i : Int) + 1 from by omega] at this
    · rw [if_pos (by omega), List.drop_of_length_le (by omega : b.length ≤ i)]; rfl
theorem slices_Compare_is (a b : List Int) (ha : a.length ≤ 9223372036854775807) (k : Nat) (hk : a.length < k) : slices_Compare_int_int.f k a b = some (cmpL a b) := by
  have := slices_Compare_tells a b ha a.length k 0 (by omega) (by omega) (by omega) hk
  simpa [slices_Compare_int_int.f] using this

theorem sameInts_tells (a b : List Int) (ha : a.length ≤ 9223372036854775807) (hl : a.length = b.length) (d : Nat) : ∀ (k i : Nat), a.length - i = d → i ≤ a.length → d < k →
    wordbookref01_SameInts.l0 k a b (i : Int) = some (decide (a.drop i = b.drop i)) := by
  induction d with
  | zero =>
    intro k i hd hi hk
    obtain ⟨k, rfl⟩ : ∃ m, k = m + 1 := ⟨k - 1, by omega⟩
    simp only [wordbookref01_SameInts.l0]
    rw [if_neg (by omega), List.drop_of_length_le (by omega : a.length ≤ i), List.drop_of_length_le (by omega : b.length ≤ i)]; rfl
  | succ d ih =>
    intro k i hd hi hk
    obtain ⟨k, rfl⟩ : ∃ m, k = m + 1 := ⟨k - 1, by omega⟩
    simp only [wordbookref01_SameInts.l0]
    rw [if_pos (by omega), if_pos (by omega), if_pos (by omega), rd_drop (by omega : i < a.length), rd_drop (by omega : i < b.length)]
    by_cases h1 : rd a i = rd b i
    · rw [if_pos h1, wrap_succ (by omega) (by omega)]
      have := ih k (i + 1) (by omega) (by omega) (by omega)
      rw [show (((i + 1 : Nat) : Int)) = (i : Int) + 1 from by omega] at this
      rw [this]
      simp [h1]
    · rw [if_neg h1]; simp [h1]
theorem sameInts_is (a b : List Int) (ha : a.length ≤ 9223372036854775807) (k : Nat) (hk : a.length < k) : wordbookref01_SameInts.f k a b = some (decide (a = b)) := by
  unfold wordbookref01_SameInts.f
  by_cases hl : a.length = b.length
  · rw [if_pos (by omega)]
    have := sameInts_tells a b ha hl a.length k 0 (by omega) (by omega) (by omega)
    simpa using this
  · rw [if_neg (by omega)]
    have : a ≠ b := fun h => hl (by rw [h])
    simp [this]
end Go.Proofs.Ytcdjeimjbbknjaa.PAll
namespace Go.Proofs.Ytcdjeimjbbknjaa.PAll
open Go.RowKit Go.Proofs.YtcdjeimjbbknjaaW.PrintWords Go.Proofs.YtcdjeimjbbknjaaW.PrintLast Go.Proofs.YtcdjeimjbbknjaaW.PrintMore
set_option linter.unusedVariables false
set_option linter.unusedSimpArgs false

def rdR (xs : List (List Int)) (i : Int) : List Int := xs.getD i.toNat []
theorem at_rows {w : World} {A : Option Addr} {n : Nat} {xs : List (List Int)} (h : Kd.C (Kd.slice 3 (Kd.int .i64)) w A n xs) (i : Int) (h0 : 0 ≤ i) (h1 : i < n) :
    ∃ ad A0 c0, A = some ad ∧ w.cell? (ad.add i.toNat) = some (.slice A0 (rdR xs i).length c0) ∧ (rdR xs i).length ≤ c0 ∧ (Kd.int .i64).C w A0 (rdR xs i).length (rdR xs i) := by
  obtain ⟨ad, c, e, _, hK, hc0⟩ := Kd.C_get h ([] : List Int) i h0 h1
  have hc : ∀ j u, c[j]? = some u → w.cell? (ad.add (i.toNat * 1 + j)) = some u := hc0
  obtain ⟨A0, c0, rfl, l0, g0⟩ := hK
  exact ⟨ad, A0, c0, e, by have hq := hc 0 _ rfl; rwa [Nat.mul_one, Nat.add_zero] at hq, l0, g0⟩
theorem rdR_nat (xs : List (List Int)) (i : Nat) : rdR xs (i : Int) = xs.getD i [] := by rw [rdR, Int.toNat_natCast]
theorem rd_nat (xs : List Int) (i : Nat) : rd xs (i : Int) = xs.getD i 0 := by rw [rd, Int.toNat_natCast]
theorem wrap_in {i : Int} (h0 : -9223372036854775808 ≤ i) (h : i ≤ 9223372036854775807) : IntKind.i64.wrap i = i := by rw [IntKind.wrap_i64]; omega
theorem cell_add {w : World} {ad : Addr} {k : Nat} {v : Value} (h : w.cell? (ad.add (k + 1)) = some v) : w.cell? { block := ad.block, off := ad.off + (k + 1) } = some v := by simpa [Addr.add] using h
end Go.Proofs.Ytcdjeimjbbknjaa.PAll
namespace Go.Proofs.Ytcdjeimjbbknjaa.PAll
open Go.RowKit Go.Proofs.YtcdjeimjbbknjaaW.PrintWords Go.Proofs.YtcdjeimjbbknjaaW.PrintLast Go.Proofs.YtcdjeimjbbknjaaW.PrintMore
set_option linter.unusedVariables false
set_option linter.unusedSimpArgs false

abbrev Nd := S102
def rdN (N : List Nd) (i : Int) : Nd := rd_T102 N i
/-- A node's key, as numbers of bytes. -/
def pairKey (s t : Int) : List Int := [s % 256, t % 256, (t / 256) % 256, (t / 65536) % 256]
def restKey : List Int → List Int → List Int
  | s :: ss, t :: ts => pairKey s t ++ restKey ss ts
  | _, _ => []
def keyN (x : Nd) : List Int := (if x.f0 then 1 else 0) :: restKey x.f1 x.f2
def keyOf (x : Nd) : ByteArray := strOfNums (keyN x)
theorem restKey_length : ∀ ss ts : List Int, ss.length = ts.length → (restKey ss ts).length = 4 * ss.length
  | [], _, _ => rfl
  | s :: ss, [], h => by simp at h
  | s :: ss, t :: ts, h => by simp only [restKey, List.length_append, pairKey, List.length_cons, List.length_nil]; rw [restKey_length ss ts (by simpa using h)]; omega
theorem key_tells (f0 : Bool) (f3 : Int) (ss ts : List Int) (hl : ss.length = ts.length) (hb : ss.length < 1000000000000) (d : Nat) : ∀ (k i : Nat) (pre : List Int), ss.length - i = d → i ≤ ss.length → d < k → pre.length + 4 * d < 140737488355328 →
    dawg_node_key.l0 k pre ss (ss.length : Int) (i : Int) f0 ss ts f3 = some (strOfNums (pre ++ restKey (ss.drop i) (ts.drop i))) := by
  induction d with
  | zero =>
    intro k i pre hd hi hk hp
    obtain ⟨k, rfl⟩ : ∃ m, k = m + 1 := ⟨k - 1, by omega⟩
    simp only [dawg_node_key.l0]
    rw [if_neg (by omega), List.drop_of_length_le (by omega : ss.length ≤ i)]
    simp [restKey]
  | succ d ih =>
    intro k i pre hd hi hk hp
    obtain ⟨k, rfl⟩ : ∃ m, k = m + 1 := ⟨k - 1, by omega⟩
    simp only [dawg_node_key.l0]
    rw [if_pos (by omega), if_pos (by omega), if_pos (by omega), if_pos (by omega)]
    simp only [Option.bind_some]
    rw [if_pos (by simp only [List.length_cons, List.length_nil]; omega), wrap_succ (by omega) (by omega)]
    have := ih k (i + 1) (pre ++ [rd ss i % 256, rd ts i % 256, (rd ts i / 256) % 256, (rd ts i / 65536) % 256]) (by omega) (by omega) (by omega) (by simp only [List.length_append, List.length_cons, List.length_nil]; omega)
    rw [show (((i + 1 : Nat) : Int)) = (i : Int) + 1 from by omega] at this
    rw [this, rd_drop (by omega : i < ss.length), rd_drop (by omega : i < ts.length)]
    simp only [restKey, pairKey, List.append_assoc]
theorem key_is (x : Nd) (hl : x.f1.length = x.f2.length) (hb : x.f1.length < 1000000000000) (k : Nat) (hk : x.f1.length + 1 < k) : dawg_node_key.f k x.f0 x.f1 x.f2 x.f3 = some (keyOf x) := by
  obtain ⟨k, rfl⟩ : ∃ m, k = m + 1 := ⟨k - 1, by omega⟩
  obtain ⟨f0, ss, ts, f3⟩ := x
  dsimp only at hl hb hk ⊢
  unfold dawg_node_key.f keyOf keyN
  simp only [Option.bind_some]
  cases f0 with
  | true =>
    simp only [if_true]
    rw [if_pos (by simp)]
    simp only [dawg_node_key.j0]
    have := key_tells true f3 ss ts hl hb ss.length k 0 [1] (by omega) (by omega) (by omega) (by simp; omega)
    simpa using this
  | false =>
    simp only [Bool.false_eq_true, if_false]
    simp only [dawg_node_key.j0]
    have := key_tells false f3 ss ts hl hb ss.length k 0 [0] (by omega) (by omega) (by omega) (by simp; omega)
    simpa using this

/-! ### The mirror of the inner function -/
def knownF (N : List Nd) (s : ByteArray) : Option Int := (N.findIdx? (fun y => decide (keyOf y = s))).map fun i : Nat => (i : Int)
def putN (N : List Nd) (x : Nd) : Int × List Nd :=
  match knownF N (keyOf x) with
  | some k => (k, N)
  | none => ((N.length : Int), N ++ [x])
def grpLen (at_ : Nat) (w : List Int) (l : List (List Int)) : Nat := (l.takeWhile fun v => rd v at_ == rd w at_).length
def kids (rec_ : List (List Int) → List Nd → Int × List Nd) (at_ : Nat) : Nat → List (List Int) → Nd → List Nd → Nd × List Nd
  | 0, _, x, N => (x, N)
  | _ + 1, [], x, N => (x, N)
  | n + 1, w :: l, x, N =>
    kids rec_ at_ n (l.drop (grpLen at_ w l))
      ⟨x.f0, x.f1 ++ [rd w at_], x.f2 ++ [(rec_ (w :: l.take (grpLen at_ w l)) N).1], wrap64 (x.f3 + (rdN (rec_ (w :: l.take (grpLen at_ w l)) N).2 (rec_ (w :: l.take (grpLen at_ w l)) N).1).f3)⟩
      (rec_ (w :: l.take (grpLen at_ w l)) N).2
def finB (l : List (List Int)) (at_ : Nat) : Bool := match l with | [] => false | w :: _ => w.length == at_
def startNd (l : List (List Int)) (at_ : Nat) : Nd := ⟨finB l at_, [], [], if finB l at_ then 1 else 0⟩
def restL (l : List (List Int)) (at_ : Nat) : List (List Int) := if finB l at_ then l.tail else l
def bld : Nat → List (List Int) → Nat → List Nd → Int × List Nd
  | 0, _, _, N => (0, N)
  | d + 1, l, at_, N => putN (kids (fun l N => bld d l (at_ + 1) N) at_ (restL l at_).length (restL l at_) (startNd l at_) N).2 (kids (fun l N => bld d l (at_ + 1) N) at_ (restL l at_).length (restL l at_) (startNd l at_) N).1

theorem knownF_snoc (N : List Nd) (x : Nd) (h : knownF N (keyOf x) = none) (s : ByteArray) : knownF (N ++ [x]) s = if s = keyOf x then some (N.length : Int) else knownF N s := by
  unfold knownF at h ⊢
  rw [List.findIdx?_append]
  by_cases hs : s = keyOf x
  · subst hs
    rw [if_pos rfl]
    have h2 : N.findIdx? (fun y => decide (keyOf y = keyOf x)) = none := by simpa using h
    rw [h2]
    simp
  · rw [if_neg hs]
    have h3 : List.findIdx? (fun y => decide (keyOf y = s)) [x] = none := by
      simp; exact fun e => hs e.symm
    rw [h3]
    simp
theorem knownF_lt (N : List Nd) (s : ByteArray) (k : Int) (h : knownF N s = some k) : 0 ≤ k ∧ k < N.length := by
  unfold knownF at h
  obtain ⟨i, hi, rfl⟩ := Option.map_eq_some_iff.1 h
  have := List.findIdx?_eq_some_iff_getElem.1 hi
  obtain ⟨h1, _⟩ := this
  omega
theorem putN_lt (N : List Nd) (x : Nd) : 0 ≤ (putN N x).1 ∧ (putN N x).1 < (putN N x).2.length ∧ (putN N x).2.length ≤ N.length + 1 := by
  unfold putN
  split
  · rename_i k hk
    have := knownF_lt N _ k hk
    exact ⟨this.1, this.2, by simp⟩
  · simp; omega

/-! ### When it is defined: words that increase and begin alike -/
def Pre (l : List (List Int)) (at_ : Nat) : Prop := (∀ w ∈ l, at_ ≤ w.length) ∧ l.Pairwise fun u v => u.take at_ = v.take at_ ∧ cmpL u v = -1
theorem cmpL_prefix (p a b : List Int) : cmpL (p ++ a) (p ++ b) = cmpL a b := by
  induction p with
  | nil => rfl
  | cons x p ih => simp only [List.cons_append, cmpL, Int.lt_irrefl, if_false]; exact ih
theorem pre_head {w : List Int} {l : List (List Int)} {at_ : Nat} (h : Pre (w :: l) at_) : ∀ v ∈ l, at_ < v.length := by
  intro v hv
  have h1 := h.1 v (List.mem_cons_of_mem _ hv)
  obtain ⟨h2, h3⟩ := (List.pairwise_cons.1 h.2).1 v hv
  rcases Nat.lt_or_ge at_ v.length with hlt | hge
  · exact hlt
  · exfalso
    have hv' : v = w.take at_ := by rw [h2, List.take_of_length_le hge]
    have hw : w = v ++ w.drop at_ := by rw [hv', List.take_append_drop]
    rw [hw] at h3
    have h4 := cmpL_prefix v (w.drop at_) []
    rw [List.append_nil] at h4
    rw [h4] at h3
    cases hd : w.drop at_ with
    | nil => rw [hd] at h3; simp [cmpL] at h3
    | cons a b => rw [hd] at h3; simp [cmpL] at h3
theorem pre_tail {w : List Int} {l : List (List Int)} {at_ : Nat} (h : Pre (w :: l) at_) : Pre l at_ :=
  ⟨fun v hv => h.1 v (List.mem_cons_of_mem _ hv), (List.pairwise_cons.1 h.2).2⟩
theorem pre_drop {l : List (List Int)} {at_ : Nat} (h : Pre l at_) (n : Nat) : Pre (l.drop n) at_ :=
  ⟨fun v hv => h.1 v (List.mem_of_mem_drop hv), h.2.drop⟩
theorem restL_pre {l : List (List Int)} {at_ : Nat} (h : Pre l at_) : Pre (restL l at_) at_ ∧ ∀ v ∈ restL l at_, at_ < v.length := by
  cases l with
  | nil => exact ⟨by simpa [restL, finB] using h, by simp [restL, finB]⟩
  | cons w l =>
    by_cases hf : w.length = at_
    · have : restL (w :: l) at_ = l := by simp [restL, finB, hf]
      rw [this]
      exact ⟨pre_tail h, pre_head h⟩
    · have : restL (w :: l) at_ = w :: l := by simp [restL, finB, hf]
      rw [this]
      refine ⟨h, fun v hv => ?_⟩
      rcases List.mem_cons.1 hv with rfl | hv
      · have := h.1 v List.mem_cons_self; omega
      · exact pre_head h v hv
theorem take_succ_rd {w : List Int} {n : Nat} (h : n < w.length) : w.take (n + 1) = w.take n ++ [rd w n] := by
  rw [List.take_succ_eq_append_getElem h, rd_nat, List.getD_eq_getElem?_getD, List.getElem?_eq_getElem h]; rfl
theorem take_tw {α : Type} (p : α → Bool) : ∀ l : List α, l.take (l.takeWhile p).length = l.takeWhile p
  | [] => rfl
  | a :: l => by
    by_cases ha : p a = true
    · rw [List.takeWhile_cons_of_pos ha, List.length_cons, List.take_succ_cons, take_tw p l]
    · rw [List.takeWhile_cons_of_neg ha]; rfl
theorem mem_tw {α : Type} (p : α → Bool) : ∀ (l : List α) (v : α), v ∈ l.takeWhile p → p v = true
  | [], v, h => by simp at h
  | a :: l, v, h => by
    by_cases ha : p a = true
    · rw [List.takeWhile_cons_of_pos ha] at h
      rcases List.mem_cons.1 h with rfl | h
      · exact ha
      · exact mem_tw p l v h
    · rw [List.takeWhile_cons_of_neg ha] at h
      simp at h
theorem grp_mem {at_ : Nat} {w : List Int} {l : List (List Int)} {v : List Int} (h : v ∈ l.take (grpLen at_ w l)) : rd v at_ = rd w at_ := by
  unfold grpLen at h
  rw [take_tw] at h
  exact beq_iff_eq.1 (mem_tw _ l v h)
theorem grp_pre {at_ : Nat} {w : List Int} {l : List (List Int)} (h : Pre (w :: l) at_) (hlen : ∀ v ∈ w :: l, at_ < v.length) : Pre (w :: l.take (grpLen at_ w l)) (at_ + 1) := by
  have hrd : ∀ v ∈ w :: l.take (grpLen at_ w l), rd v at_ = rd w at_ := by
    intro v hv
    rcases List.mem_cons.1 hv with rfl | hv
    · rfl
    · exact grp_mem hv
  have hsub : ∀ v ∈ w :: l.take (grpLen at_ w l), v ∈ w :: l := by
    intro v hv
    rcases List.mem_cons.1 hv with rfl | hv
    · exact List.mem_cons_self
    · exact List.mem_cons_of_mem _ (List.mem_of_mem_take hv)
  refine ⟨fun v hv => hlen v (hsub v hv), ?_⟩
  have hp : (w :: l.take (grpLen at_ w l)).Pairwise fun u v => u.take at_ = v.take at_ ∧ cmpL u v = -1 := by
    refine List.Pairwise.sublist ?_ h.2
    exact List.Sublist.cons_cons w (List.take_sublist _ _)
  refine List.Pairwise.imp_of_mem (fun {u v} hu hv huv => ⟨?_, huv.2⟩) hp
  rw [take_succ_rd (hlen u (hsub u hu)), take_succ_rd (hlen v (hsub v hv)), huv.1, hrd u hu, hrd v hv]

/-! ### How many nodes it adds -/
def cost (l : List (List Int)) (at_ : Nat) : Nat := (l.map fun w => w.length - at_).sum
theorem cost_append (a b : List (List Int)) (at_ : Nat) : cost (a ++ b) at_ = cost a at_ + cost b at_ := by simp [cost]
theorem cost_cons (w : List Int) (l : List (List Int)) (at_ : Nat) : cost (w :: l) at_ = (w.length - at_) + cost l at_ := by simp [cost]
theorem cost_split (l : List (List Int)) (n at_ : Nat) : cost (l.take n) at_ + cost (l.drop n) at_ = cost l at_ := by rw [← cost_append, List.take_append_drop]
theorem cost_succ (l : List (List Int)) (at_ : Nat) (h : ∀ v ∈ l, at_ < v.length) : cost l (at_ + 1) + l.length = cost l at_ := by
  induction l with
  | nil => rfl
  | cons w l ih =>
    rw [cost_cons, cost_cons, List.length_cons, ← ih (fun v hv => h v (List.mem_cons_of_mem _ hv))]
    have := h w List.mem_cons_self
    omega
theorem restL_cost (l : List (List Int)) (at_ : Nat) : cost (restL l at_) at_ ≤ cost l at_ := by
  unfold restL
  split
  · cases l with
    | nil => exact Nat.le_refl _
    | cons w l => rw [cost_cons]; simp
  · exact Nat.le_refl _
theorem kids_length (rec_ : List (List Int) → List Nd → Int × List Nd) (at_ : Nat) (hrec : ∀ l N, Pre l (at_ + 1) → (rec_ l N).2.length ≤ N.length + 1 + cost l (at_ + 1)) : ∀ (n : Nat) (l : List (List Int)) (x : Nd) (N : List Nd), Pre l at_ → (∀ v ∈ l, at_ < v.length) →
    (kids rec_ at_ n l x N).2.length ≤ N.length + cost l at_
  | 0, l, x, N, _, _ => by simp [kids]
  | n + 1, [], x, N, _, _ => by simp [kids]
  | n + 1, w :: l, x, N, hp, h => by
    simp only [kids]
    refine Nat.le_trans (kids_length rec_ at_ hrec n _ _ _ (pre_drop (pre_tail hp) _) (fun v hv => h v (List.mem_cons_of_mem _ (List.mem_of_mem_drop hv)))) ?_
    have h1 := hrec (w :: l.take (grpLen at_ w l)) N (grp_pre hp h)
    have h2 := cost_succ (w :: l.take (grpLen at_ w l)) at_ (fun v hv => by
      rcases List.mem_cons.1 hv with rfl | hv
      · exact h v List.mem_cons_self
      · exact h v (List.mem_cons_of_mem _ (List.mem_of_mem_take hv)))
    have h3 := cost_split l (grpLen at_ w l) at_
    simp only [cost_cons, List.length_cons] at h1 h2 ⊢
    omega
theorem bld_length : ∀ (d : Nat) (l : List (List Int)) (at_ : Nat) (N : List Nd), Pre l at_ → (bld d l at_ N).2.length ≤ N.length + 1 + cost l at_ := by
  intro d
  induction d with
  | zero => intro l at_ N _; simp [bld]; omega
  | succ d ih =>
    intro l at_ N h
    obtain ⟨h1, h2⟩ := restL_pre h
    have h3 := kids_length (fun l N => bld d l (at_ + 1) N) at_ (fun l N hp => ih l (at_ + 1) N hp) (restL l at_).length (restL l at_) (startNd l at_) N h1 h2
    have h4 := restL_cost l at_
    have h5 := (putN_lt (kids (fun l N => bld d l (at_ + 1) N) at_ (restL l at_).length (restL l at_) (startNd l at_) N).2 (kids (fun l N => bld d l (at_ + 1) N) at_ (restL l at_).length (restL l at_) (startNd l at_) N).1).2.2
    simp only [bld]
    omega
theorem bld_lt (d : Nat) (l : List (List Int)) (at_ : Nat) (N : List Nd) : 0 ≤ (bld (d + 1) l at_ N).1 ∧ (bld (d + 1) l at_ N).1 < (bld (d + 1) l at_ N).2.length := by
  have := putN_lt (kids (fun l N => bld d l (at_ + 1) N) at_ (restL l at_).length (restL l at_) (startNd l at_) N).2 (kids (fun l N => bld d l (at_ + 1) N) at_ (restL l at_).length (restL l at_) (startNd l at_) N).1
  exact ⟨this.1, this.2.1⟩
end Go.Proofs.Ytcdjeimjbbknjaa.PAll
namespace Go.Proofs.Ytcdjeimjbbknjaa.PAll
open Go.RowKit Go.Maps Go.Proofs.YtcdjeimjbbknjaaW.PrintWords Go.Proofs.YtcdjeimjbbknjaaW.PrintLast Go.Proofs.YtcdjeimjbbknjaaW.PrintMore
set_option linter.unusedVariables false
set_option linter.unusedSimpArgs false

theorem law_str : Keyed Try.prog 9 := string_keyed Try.underlying9
theorem law_int : Keyed Try.prog 3 := int_keyed Try.underlying3
theorem zero_int (w : World) : (zeroValue 3).run Try.prog w = .ok (.int .i64 0) w := by kernel_rfl

/-- The map in block b (of at most n entries) holds f: keys are K's literals, told by 'lit'. -/
def MapHas {α : Type} (K : Nat) (lit : α → Lit) (w : World) (b n : Nat) (f : α → Option Int) : Prop :=
  ∃ D : DataW Unit, w.ownsMap Try.prog K (plainElem Try.prog 3) b n D ∧ ∀ x, has D (lit x) = (f x).isSome ∧ D.atKey (lit x) (.lit (.int .i64 0)) = .lit (.int .i64 ((f x).getD 0))
section
variable {α : Type} {K : Nat} {lit : α → Lit} {w : World} {b n : Nat} {f : α → Option Int}
theorem MapHas.lt (h : MapHas K lit w b n f) : b < w.heap.size := by obtain ⟨D, h, _⟩ := h; exact h.lt
theorem MapHas.kept {w' : World} {row : Option Nat} (h : MapHas K lit w b n f) (hg : w.grownBy w' row) (hne : some b ≠ row) : MapHas K lit w' b n f := by
  obtain ⟨D, h, hf⟩ := h
  exact ⟨D, h.kept hg hne, hf⟩
theorem MapHas.below {w' : World} (h : MapHas K lit w b n f) (hb : Below w.heap.size w w') : MapHas K lit w' b n f := h.kept (grown_of_below hb none) (by simp)
theorem MapHas.of_block {w' : World} (h : MapHas K lit w b n f) (hb : w'.heap[b]? = w.heap[b]?) : MapHas K lit w' b n f := by
  obtain ⟨D, ⟨es, clock, h1, h2⟩, hf⟩ := h
  exact ⟨D, ⟨es, clock, hb.trans h1, h2⟩, hf⟩
theorem MapHas.not_cells (h : MapHas K lit w b n f) {g : Nat} {cs : Array Value} {t : TypeId} {fr : Nat × Nat} (hb : w.heap[g]? = some (.cells cs t fr)) : g ≠ b := by
  obtain ⟨D, ⟨es, clock, h1, _⟩, _⟩ := h
  rintro rfl
  rw [h1] at hb
  cases hb
theorem MapHas.made (w : World) (hlit : ∀ x : α, WideAt.IsKeyLit (lit x)) : MapHas K lit (w.alloc (.map #[] 0)) w.heap.size 0 (fun _ : α => none) :=
  ⟨.map [], World.ownsMap_made _ _ _ _, fun x => ⟨by simp [has_eq], by rw [atKey_of_not_has (by simp [has_eq])]; rfl⟩⟩
theorem MapHas.lookup {t : TypeId} (h : MapHas K lit w b n f) (law : Keyed Try.prog K) (ht : Try.prog.underlying t = some (.map K 3)) (x : α) (key : Value) (hkey : Go.keyOf Try.prog K key = some (lit x)) :
    (Instr.lookup t (.map (some b)) key true).run Try.prog w = .ok (.tuple #[.int .i64 ((f x).getD 0), .bool (f x).isSome]) w := by
  obtain ⟨D, h, hf⟩ := h
  obtain ⟨v, ps, hrun, hv⟩ := h.look_ok law ht (zero_int w) (plainElem_int Try.underlying3 (by decide)) hkey
  obtain ⟨c, rfl, hc, _⟩ := plainElem_int_inv Try.underlying3 hv
  simp only [Prod.mk.injEq] at hc
  obtain ⟨h1, h2⟩ := hf x
  rw [h2] at hc
  have hc1 : (f x).getD 0 = c := (Lit.int.inj (DataW.lit.inj hc.1)).2
  rw [hrun, h1, hc1]
theorem MapHas.update {t : TypeId} (h : MapHas K lit w b n f) (law : Keyed Try.prog K) (ht : Try.prog.underlying t = some (.map K 3)) (hn : n < maxLen) (x : α) (key : Value) (hkey : Go.keyOf Try.prog K key = some (lit x))
    (hlit : ∀ x : α, WideAt.IsKeyLit (lit x)) (hinj : ∀ x y : α, lit x = lit y → x = y) (c : Int) (hc : (Lit.int .i64 c).wf = true) [DecidableEq α] :
    ∃ w', (Instr.mapUpdate t (.map (some b)) key (.int .i64 c)).run Try.prog w = .ok () w' ∧ MapHas K lit w' b (n + 1) (fun y => if y = x then some c else f y) ∧ w.grownBy w' (some b) := by
  obtain ⟨D, h, hf⟩ := h
  obtain ⟨w', hrun, hown, hg⟩ := h.update law ht hn hkey (plainElem_int Try.underlying3 hc)
  refine ⟨w', hrun, ⟨_, hown, fun y => ?_⟩, hg⟩
  by_cases hy : y = x
  · subst hy
    dsimp only
    rw [if_pos rfl]
    exact ⟨has_put_same h.isMap (hlit y) _, atKey_put_same h.isMap (hlit y) _ _⟩
  · dsimp only
    rw [if_neg hy]
    have hne : lit y ≠ lit x := fun e => hy (hinj _ _ e)
    rw [has_put_other hne, atKey_put_other hne]
    exact hf y
end
def litS (s : ByteArray) : Lit := .string s.data.toList
theorem litS_key (s : ByteArray) : WideAt.IsKeyLit (litS s) := trivial
theorem litS_inj (s t : ByteArray) (h : litS s = litS t) : s = t := by
  unfold litS at h
  injection h with h
  cases s; cases t
  simp only [ByteArray.mk.injEq]
  exact Array.toList_inj.1 h
end Go.Proofs.Ytcdjeimjbbknjaa.PAll
namespace Go.Proofs.Ytcdjeimjbbknjaa.PAll
open Go.RowKit Go.Proofs.YtcdjeimjbbknjaaW.PrintWords Go.Proofs.YtcdjeimjbbknjaaW.PrintLast Go.Proofs.YtcdjeimjbbknjaaW.PrintMore
set_option linter.unusedVariables false
set_option linter.unusedSimpArgs false

theorem cutR_take (A : Option Addr) (c : Nat) (xs : List (List Int)) (m : Nat) (hm : m ≤ xs.length) (hc : xs.length ≤ c) :
    (∀ W : World, (Instr.slice 23 (.slice A xs.length c) none (some (.int .i64 (m : Int))) none).run Try.prog W = .ok (.slice A m c) W) ∧ ∀ w : World, Kd.C (Kd.slice 3 (Kd.int .i64)) w A xs.length xs → Kd.C (Kd.slice 3 (Kd.int .i64)) w A m (xs.take m) := by
  obtain ⟨i0, hi, _, hsz, _⟩ := info_parts info22
  have hrun := cut_to (P := Try.prog) 23 22 .i64 Try.underlying23 hi A xs.length c (m : Int) (by omega) (by omega) hc
  refine ⟨fun W => by have := hrun W; simpa using this, fun w h => ?_⟩
  have h2 := Kd.C_take h hm
  rwa [show (xs.take m).length = m from by rw [List.length_take]; omega] at h2
end Go.Proofs.Ytcdjeimjbbknjaa.PAll
namespace Go.Proofs.Ytcdjeimjbbknjaa.PAll
open Go.RowKit Go.Maps Go.Proofs.YtcdjeimjbbknjaaW.PrintWords Go.Proofs.YtcdjeimjbbknjaaW.PrintLast Go.Proofs.YtcdjeimjbbknjaaW.PrintMore
set_option linter.unusedVariables false
set_option linter.unusedSimpArgs false

/-- The variables that the inner function captures: itself (bb), the nodes (bn: v, reading as N), the map (bk: block bm). -/
structure Inner (w : World) (B : Nat) (P : Nat → Prop) (bb bn bk bm : Nat) (v : Value) (N : List Nd) : Prop where
  hbb : w.heap[bb]? = some (.cells #[.func (.func 67) #[] #[.pointer (some ⟨bb, 0, none⟩), .pointer (some ⟨bn, 0, none⟩), .pointer (some ⟨bk, 0, none⟩)]] 100 (0, 0))
  hbk : w.heap[bk]? = some (.cells #[.map (some bm)] 98 (0, 0))
  hbn : w.heap[bn]? = some (.cells #[v] 99 (0, 0))
  row : Kd.R k102 102 w B P v N
  map : MapHas 9 litS w bm N.length (knownF N)
  lbn : B ≤ bn
  lbm : B ≤ bm
/-- What the inner function may turn. -/
def mayTurn (bn bm : Nat) (v : Value) (k : Nat) : Prop := k = bn ∨ k = bm ∨ some k = v.ownBlock
section
variable {w w1 : World} {B bb bn bk bm : Nat} {P Q : Nat → Prop} {v : Value} {N : List Nd}
theorem Inner.mono (h : Inner w B P bb bn bk bm v N) (hq : ∀ k, P k → Q k) : Inner w B Q bb bn bk bm v N := ⟨h.hbb, h.hbk, h.hbn, Kd.R_mono h.row hq, h.map, h.lbn, h.lbm⟩
/-- Something else was written: none of its blocks. -/
theorem Inner.step (h : Inner w B P bb bn bk bm v N) (hs : ∀ k, k < w.heap.size → (k = bb ∨ k = bk ∨ k = bn ∨ k = bm ∨ P k) → w1.heap[k]? = w.heap[k]?) : Inner w1 B P bb bn bk bm v N :=
  ⟨(hs bb (blk_lt h.hbb) (.inl rfl)).trans h.hbb, (hs bk (blk_lt h.hbk) (.inr (.inl rfl))).trans h.hbk, (hs bn (blk_lt h.hbn) (.inr (.inr (.inl rfl)))).trans h.hbn,
    Kd.R_step h.row (fun k hk hlt => hs k hlt (.inr (.inr (.inr (.inr hk))))), h.map.of_block (hs bm h.map.lt (.inr (.inr (.inr (.inl rfl))))), h.lbn, h.lbm⟩
theorem Inner.below (h : Inner w B P bb bn bk bm v N) (hb : Below w.heap.size w w1) : Inner w1 B P bb bn bk bm v N := h.step fun k hk _ => hb.block k hk
theorem Inner.bound (h : Inner w B P bb bn bk bm v N) : Inner w B (fun k => P k ∧ k < w.heap.size) bb bn bk bm v N :=
  ⟨h.hbb, h.hbk, h.hbn, Kd.R_mono (Kd.R_bound h.row) (fun k hk => ⟨hk.1, hk.2.2.1⟩), h.map, h.lbn, h.lbm⟩
/-- A store or an append into a row of another type. -/
theorem Inner.grown (h : Inner w B P bb bn bk bm v N) {row : Option Nat} (hg : w.grownBy w1 row) (hP : ∀ k, P k → some k ≠ row) (h1 : some bb ≠ row) (h2 : some bk ≠ row) (h3 : some bn ≠ row) (h4 : some bm ≠ row) : Inner w1 B P bb bn bk bm v N :=
  h.step fun k hk hor => hg.block k hk (hor.elim (fun e => e ▸ h1) (fun h => h.elim (fun e => e ▸ h2) (fun h => h.elim (fun e => e ▸ h3) (fun h => h.elim (fun e => e ▸ h4) (fun hp => hP k hp)))))
theorem Inner.setCell (h : Inner w B P bb bn bk bm v N) {p : Addr} (hP : ∀ k, P k → k ≠ p.block) (h1 : bb ≠ p.block) (h2 : bk ≠ p.block) (h3 : bn ≠ p.block) (h4 : bm ≠ p.block) (u : Value) : Inner (w.setCell p u) B P bb bn bk bm v N :=
  h.step fun k hk hor => Below.heap_setCell w p u k (hor.elim (fun e => e ▸ h1) (fun h => h.elim (fun e => e ▸ h2) (fun h => h.elim (fun e => e ▸ h3) (fun h => h.elim (fun e => e ▸ h4) (fun hp => hP k hp)))))
theorem Inner.drewN (h : Inner w B P bb bn bk bm v N) (n : Nat) : Inner (w.drewN n) B P bb bn bk bm v N := h.below (pw_below_drewN (Below.refl _ _) n)
theorem Inner.alloc (h : Inner w B P bb bn bk bm v N) (o : Obj) : Inner (w.alloc o) B P bb bn bk bm v N := h.below (below_alloc (Below.refl _ _) o)
end
theorem blk_ne {w : World} {a b : Nat} {ca cb : Array Value} {ta tb : TypeId} {fa fb : Nat × Nat} (h : w.heap[a]? = some (.cells ca ta fa)) (h' : w.heap[b]? = some (.cells cb tb fb)) (hne : ta ≠ tb) : a ≠ b := by
  rintro rfl
  rw [h] at h'
  injection h' with h'
  injection h' with _ ht
  exact hne ht
/-- How the group's end is found. -/
theorem grpLen_le (at_ : Nat) (w : List Int) (l : List (List Int)) : grpLen at_ w l ≤ l.length := (List.takeWhile_prefix _).length_le
theorem grp_at (at_ : Nat) (w : List Int) : ∀ (l : List (List Int)) (j : Nat), j < grpLen at_ w l → rd (rdR l j) at_ = rd w at_ := by
  intro l j hj
  have h : rdR l j ∈ l.take (grpLen at_ w l) := by
    have hl := grpLen_le at_ w l
    rw [rdR_nat, List.getD_eq_getElem?_getD, List.getElem?_eq_getElem (by omega : j < l.length), Option.getD_some]
    exact List.mem_take_iff_getElem.2 ⟨j, by omega, rfl⟩
  exact grp_mem h
theorem grp_end (at_ : Nat) (w : List Int) : ∀ (l : List (List Int)), grpLen at_ w l < l.length → rd (rdR l (grpLen at_ w l)) at_ ≠ rd w at_
  | [], h => by simp at h
  | v :: l, h => by
    by_cases hv : (rd v at_ == rd w at_) = true
    · have e : grpLen at_ w (v :: l) = grpLen at_ w l + 1 := by unfold grpLen; rw [List.takeWhile_cons_of_pos (p := fun v => rd v at_ == rd w at_) hv]; rfl
      rw [e] at h ⊢
      have := grp_end at_ w l (by simpa using h)
      rwa [rdR_nat, List.getD_cons_succ, ← rdR_nat]
    · have e : grpLen at_ w (v :: l) = 0 := by unfold grpLen; rw [List.takeWhile_cons_of_neg (p := fun v => rd v at_ == rd w at_) hv]; rfl
      rw [e, rdR_nat]
      intro h2
      exact hv (beq_iff_eq.2 h2)
theorem grp_stop (at_ : Nat) (w : List Int) (l : List (List Int)) (j : Nat) (hj : j ≤ grpLen at_ w l) (h : j = l.length ∨ rd (rdR l j) at_ ≠ rd w at_) : j = grpLen at_ w l := by
  rcases Nat.lt_or_ge j (grpLen at_ w l) with hlt | hge
  · rcases h with rfl | h
    · have := grpLen_le at_ w l; omega
    · exact absurd (grp_at at_ w l j hlt) h
  · omega
theorem kids_fuel (rec_ : List (List Int) → List Nd → Int × List Nd) (at_ : Nat) : ∀ (n m : Nat) (l : List (List Int)) (x : Nd) (N : List Nd), l.length ≤ n → l.length ≤ m → kids rec_ at_ n l x N = kids rec_ at_ m l x N
  | 0, 0, _, _, _, _, _ => rfl
  | 0, m + 1, l, x, N, h, _ => by
    obtain rfl := List.eq_nil_of_length_eq_zero (Nat.le_zero.1 h); rfl
  | n + 1, 0, l, x, N, _, h => by
    obtain rfl := List.eq_nil_of_length_eq_zero (Nat.le_zero.1 h); rfl
  | n + 1, m + 1, [], x, N, _, _ => rfl
  | n + 1, m + 1, w :: l, x, N, h1, h2 => by
    simp only [kids]
    simp only [List.length_cons] at h1 h2
    exact kids_fuel rec_ at_ n m _ _ _ (by rw [List.length_drop]; omega) (by rw [List.length_drop]; omega)
/-- The round of the outer loop. -/
def roundX (rec_ : List (List Int) → List Nd → Int × List Nd) (at_ : Nat) (w : List Int) (l : List (List Int)) (x : Nd) (N : List Nd) : Nd :=
  ⟨x.f0, x.f1 ++ [rd w at_], x.f2 ++ [(rec_ (w :: l.take (grpLen at_ w l)) N).1], wrap64 (x.f3 + (rdN (rec_ (w :: l.take (grpLen at_ w l)) N).2 (rec_ (w :: l.take (grpLen at_ w l)) N).1).f3)⟩
theorem kids_round (rec_ : List (List Int) → List Nd → Int × List Nd) (at_ : Nat) (w : List Int) (l : List (List Int)) (x : Nd) (N : List Nd) :
    kids rec_ at_ (w :: l).length (w :: l) x N = kids rec_ at_ (l.drop (grpLen at_ w l)).length (l.drop (grpLen at_ w l)) (roundX rec_ at_ w l x N) (rec_ (w :: l.take (grpLen at_ w l)) N).2 := by
  simp only [List.length_cons, kids, roundX]
  exact kids_fuel rec_ at_ _ _ _ _ _ (by rw [List.length_drop]; omega) (by omega)
end Go.Proofs.Ytcdjeimjbbknjaa.PAll
namespace Go.Proofs.Ytcdjeimjbbknjaa.Lev
set_option linter.unusedVariables false
set_option linter.unusedSimpArgs false

/-- An alignment of two lists and its cost. -/
inductive Al : List Int → List Int → Nat → Prop
  | nil : Al [] [] 0
  | del {v w : List Int} {n : Nat} (a : Int) : Al v w n → Al (a :: v) w (n + 1)
  | ins {v w : List Int} {n : Nat} (b : Int) : Al v w n → Al v (b :: w) (n + 1)
  | sub {v w : List Int} {n : Nat} (a b : Int) : Al v w n → Al (a :: v) (b :: w) (n + if a = b then 0 else 1)

theorem Al.symm {v w : List Int} {n : Nat} (h : Al v w n) : Al w v n := by
  induction h with
  | nil => exact .nil
  | del a _ ih => exact .ins a ih
  | ins b _ ih => exact .del b ih
  | sub a b _ ih =>
    have := Al.sub b a ih
    rwa [show (if b = a then 0 else 1) = (if a = b then 0 else 1) from by by_cases h : a = b <;> simp [h, eq_comm]] at this
theorem Al.append {v w v' w' : List Int} {n n' : Nat} (h : Al v w n) (h' : Al v' w' n') : Al (v ++ v') (w ++ w') (n + n') := by
  induction h with
  | nil => simpa using h'
  | del a _ ih => have := Al.del a ih; rw [List.cons_append]; rwa [show ∀ x, x + n' + 1 = x + 1 + n' from fun x => by omega] at this
  | ins b _ ih => have := Al.ins b ih; rw [List.cons_append]; rwa [show ∀ x, x + n' + 1 = x + 1 + n' from fun x => by omega] at this
  | sub a b _ ih => have := Al.sub a b ih; rw [List.cons_append, List.cons_append]; rwa [Nat.add_right_comm] at this
/-! ### Edits -/
def put_ (w : List Int) (k : Nat) (x : Int) : List Int := w.take k ++ x :: w.drop k
def cut_ (w : List Int) (k : Nat) : List Int := w.take k ++ w.drop (k + 1)
def set_ (w : List Int) (k : Nat) (x : Int) : List Int := w.take k ++ x :: w.drop (k + 1)
end Go.Proofs.Ytcdjeimjbbknjaa.Lev
namespace Go.Proofs.Ytcdjeimjbbknjaa.Lev
set_option linter.unusedVariables false
set_option linter.unusedSimpArgs false

/-- The lesser one, as the walk spells it. -/
def mi (a b : Int) : Int := if b < a then b else a
theorem mi_eq (a b : Int) : mi a b = min a b := by unfold mi; split <;> omega
def rowGo (left : Int) : List Int → List Int → Int → List Int
  | a :: b :: last, y :: w, x => mi (mi (left + 1) (b + 1)) (a + if y = x then 0 else 1) :: rowGo (mi (mi (left + 1) (b + 1)) (a + if y = x then 0 else 1)) (b :: last) w x
  | _, _, _ => []
/-- The row behind one more symbol. -/
def nextRow (last w : List Int) (x : Int) : List Int := (last.headD 0 + 1) :: rowGo (last.headD 0 + 1) last w x
theorem rowGo_length (x : Int) : ∀ (w : List Int) (left : Int) (last : List Int), last.length = w.length + 1 → (rowGo left last w x).length = w.length
  | [], left, last, h => by
    match last, h with
    | [a], _ => rfl
  | y :: w, left, last, h => by
    match last, h with
    | a :: b :: last, h => simp only [rowGo, List.length_cons]; rw [rowGo_length x w _ (b :: last) (by simpa using h)]
theorem nextRow_length (last w : List Int) (x : Int) (h : last.length = w.length + 1) : (nextRow last w x).length = w.length + 1 := by
  rw [nextRow, List.length_cons, rowGo_length x w _ last h]
theorem go_at (x : Int) : ∀ (w : List Int) (left : Int) (last : List Int) (i : Nat), last.length = w.length + 1 → i < w.length →
    (left :: rowGo left last w x).getD (i + 1) 0 = mi (mi ((left :: rowGo left last w x).getD i 0 + 1) (last.getD (i + 1) 0 + 1)) (last.getD i 0 + if w.getD i 0 = x then 0 else 1)
  | [], _, _, _, _, hi => by simp at hi
  | y :: w, left, last, i, h, hi => by
    match last, h with
    | a :: b :: last, h =>
      cases i with
      | zero => simp [rowGo]
      | succ i =>
        have := go_at x w (mi (mi (left + 1) (b + 1)) (a + if y = x then 0 else 1)) (b :: last) i (by simpa using h) (by simpa using hi)
        simpa [rowGo] using this
theorem nextRow_at (last w : List Int) (x : Int) (i : Nat) (h : last.length = w.length + 1) (hi : i < w.length) :
    (nextRow last w x).getD (i + 1) 0 = mi (mi ((nextRow last w x).getD i 0 + 1) (last.getD (i + 1) 0 + 1)) (last.getD i 0 + if w.getD i 0 = x then 0 else 1) := go_at x w _ last i h hi
theorem nextRow_zero (last w : List Int) (x : Int) (h : last.length = w.length + 1) : (nextRow last w x).getD 0 0 = last.getD 0 0 + 1 := by
  match last, h with
  | a :: last, _ => rfl

/-- The row behind a word, from the first one on. -/
def rows (w : List Int) : List Int → List Int → List Int
  | last, [] => last
  | last, x :: v => rows w (nextRow last w x) v
end Go.Proofs.Ytcdjeimjbbknjaa.Lev
namespace Go.Proofs.Ytcdjeimjbbknjaa.PAll
open Go.RowKit Go.Proofs.YtcdjeimjbbknjaaW.PrintWords Go.Proofs.YtcdjeimjbbknjaaW.PrintLast Go.Proofs.YtcdjeimjbbknjaaW.PrintMore Go.Proofs.Ytcdjeimjbbknjaa.Lev
set_option linter.unusedVariables false
set_option linter.unusedSimpArgs false
attribute [local go_sem] max2_int min2_int max_two min_two max_three min_three max_four min_four

/-- The first k of N, then zeros, n altogether. -/
def partOf (N : List Int) (n k : Nat) : List Int := N.take k ++ List.replicate (n - k) 0
theorem partOf_set (N : List Int) (n k : Nat) (h : k < n) (hN : N.length = n) : (partOf N n k).set k (N.getD k 0) = partOf N n (k + 1) := by
  have h1 : List.replicate (n - k) (0 : Int) = 0 :: List.replicate (n - (k + 1)) 0 := by
    rw [show n - k = (n - (k + 1)) + 1 from by omega]; rfl
  have hl : (N.take k).length = k := by rw [List.length_take]; omega
  unfold partOf
  rw [h1, List.set_append_right _ _ (by omega), hl, Nat.sub_self, List.take_succ_eq_append_getElem (by omega : k < N.length)]
  simp only [List.getD_eq_getElem?_getD, List.getElem?_eq_getElem (by omega : k < N.length), Option.getD_some, List.append_assoc, List.set_cons_zero, List.singleton_append]
theorem partOf_rd (N : List Int) (n k i : Nat) (h : i < k) (hN : k ≤ N.length) : rd (partOf N n k) (i : Int) = N.getD i 0 := by
  unfold rd partOf
  rw [Int.toNat_natCast, List.getD_eq_getElem?_getD, List.getElem?_append_left (by rw [List.length_take]; omega), List.getElem?_take_of_lt h, List.getD_eq_getElem?_getD]
theorem partOf_all (N : List Int) (n : Nat) (hN : N.length = n) : partOf N n n = N := by simp [partOf, ← hN]

def rowOk (l0 l1 : List Int) : Prop := l0.length = l1.length + 1 ∧ l0.length < 17592186044416 ∧ ∀ x ∈ l0, 0 ≤ x ∧ x ≤ 1152921504606846976
instance (l0 l1 : List Int) : Decidable (rowOk l0 l1) := by unfold rowOk; infer_instance
theorem nextRow_bound (last w : List Int) (x : Int) (h : rowOk last w) : ∀ i, i ≤ w.length → 0 ≤ (nextRow last w x).getD i 0 ∧ (nextRow last w x).getD i 0 ≤ 1152921504606846977 := by
  obtain ⟨h1, h2, h3⟩ := h
  have hg : ∀ i, i ≤ w.length → 0 ≤ last.getD i 0 ∧ last.getD i 0 ≤ 1152921504606846976 := by
    intro i hi
    have hi' : i < last.length := by omega
    rw [List.getD_eq_getElem?_getD, List.getElem?_eq_getElem hi']
    exact h3 _ (List.getElem_mem hi')
  intro i
  induction i with
  | zero => intro _; rw [nextRow_zero _ _ _ h1]; have := hg 0 (Nat.zero_le _); omega
  | succ i ih =>
    intro hi
    have ihh := ih (by omega)
    have hg1 := hg (i + 1) hi
    have hg2 := hg i (by omega)
    rw [nextRow_at _ _ _ _ h1 (by omega), mi_eq, mi_eq]
    split <;> omega
def fuzzy_row.f (l0 : List Int) (l1 : List Int) (a2 : Int) : Option (List Int) := if rowOk l0 l1 then some (nextRow l0 l1 a2) else none
set_option maxHeartbeats 4000000 in
set_option maxRecDepth 100000 in
theorem fuzzy_row.calls (A0 : Option Addr) (c0 : Nat) (l0 : List Int) (A1 : Option Addr) (c1 : Nat) (l1 : List Int) (a2 : Int) (r : List Int) (w : World) (hr0 : Kd.C (Kd.int .i64) w A0 l0.length l0) (hc0 : l0.length ≤ c0) (hr1 : Kd.C (Kd.int .i64) w A1 l1.length l1) (hc1 : l1.length ≤ c1) (h : fuzzy_row.f l0 l1 a2 = some r) :
    Calls Try.prog 95 #[.slice A0 l0.length c0, .slice A1 l1.length c1, .int .i64 a2] w fun e w' => ∃ v0_ : Value, e = .returned (v0_) ∧ Kd.R (Kd.int .i64) 3 w' w.heap.size (fun _ => True) v0_ r ∧ Below w.heap.size w w' := by
  unfold fuzzy_row.f at h
  split at h
  case isFalse => cases h
  case isTrue hok =>
  obtain rfl := Option.some.inj h
  clear h
  have hbd := nextRow_bound l0 l1 a2 hok
  obtain ⟨hl, hlim, hle⟩ := hok
  have hN := nextRow_length l0 l1 a2 hl
  have hAt := nextRow_at l0 l1 a2
  have h0 := nextRow_zero l0 l1 a2 hl
  generalize hNN : nextRow l0 l1 a2 = N at *
  clear hNN
  obtain ⟨n, hn⟩ : ∃ n, n = l0.length := ⟨_, rfl⟩
  have hn1 : l1.length + 1 = n := by omega
  have hNn : N.length = n := by omega
  have hg : ∀ i, i ≤ l1.length → 0 ≤ rd l0 (i : Int) ∧ rd l0 (i : Int) ≤ 1152921504606846976 := by
    intro i hi
    have hi' : i < l0.length := by omega
    rw [rd, Int.toNat_natCast, List.getD_eq_getElem?_getD, List.getElem?_eq_getElem hi']
    exact hle _ (List.getElem_mem hi')
  have HG := Aside0.mk hg
  have hmk := print_make_of (P := Try.prog) 22 3 (.int .i64 0) 8 Try.underlying22 info3 rfl (by omega) n (by omega)
  have HM := Aside0.mk (own_made_of (enc := Value.int .i64) (d := 0) w w.heap.size 3 n (Nat.le_refl _) (by omega))
  obtain ⟨hcz, hfz⟩ := own_at_of (d := (0 : Int)) HM.out 0 (by omega) (by omega)
  have HP0 := own_store_of HM.out 0 (rd l0 0 + 1)
  have e0 : (List.replicate n (0 : Int)).set (0 : Int).toNat (rd l0 0 + 1) = partOf N n 1 := by
    have := partOf_set N n 0 (by omega) hNn
    rw [h0] at this
    simpa [partOf, rd] using this
  rw [e0] at HP0
  obtain ⟨ad0, hA0, hx0⟩ := Kd.at_int hr0 0 (by omega) (by omega)
  subst hA0
  simp only [show (0 : Int).toNat = 0 from rfl] at hcz hfz hx0 HP0
  rw [show ad0.add 0 = ad0 from by unfold Addr.add; simp] at hx0
  have hx0' := pw_cell_below (below_alloc (Below.refl _ w) (.cells (madeCells #[.int .i64 0] n) 3)) hx0
  rw [World.setCell_alloc_at _ _ _ _ _ rfl] at HP0
  have HP := Aside0.mk HP0.1
  have b0 : 0 ≤ rd l0 0 := (hg 0 (by omega)).1
  have b1 : rd l0 0 ≤ 1152921504606846976 := (hg 0 (by omega)).2
  have hn' : (0 : Int) < (n : Int) := by omega
  have HR0 := Aside0.mk hr0
  have HR1 := Aside0.mk hr1
  have HAt := Aside0.mk hAt
  have HBd := Aside0.mk hbd
  have HN := Aside0.mk hNn
  have HN1 := Aside0.mk hn1
  have HL := Aside0.mk hl
  have HE := Aside0.mk hn
  clear hr0 hr1 hAt hbd hNn hN e0 HP0 hg hle hl h0 hx0 HM
  rw [← hn] at hlim hc0
  rw [← hn]
  clear hn hn1
  go_enter Try.func95, Try.ntmps95
  go_wp2
  go_loopw [22] (fun i wr => ∃ k : Nat, k ≤ l1.length ∧ i = .int .i64 k ∧ wr.ownsRow w.heap.size 3 1 (.slice (some ⟨w.heap.size, 0, none⟩) n n) n (encs (Value.int .i64) (partOf N n (k + 1))) ∧ Below w.heap.size w wr) (fun i _ => l1.length - (intOf i).toNat)
  case atStart => exact ⟨0, Nat.zero_le _, rfl, HP.out, below_alloc (Below.refl _ _) _⟩
  case round =>
    obtain ⟨k, hk, rfl, ho, hB⟩ := hrel
    have HO := Aside0.mk ho
    have HB := Aside0.mk hB
    clear ho hB
    have hN1 := HN1.out
    have hNn := HN.out
    by_cases hlt : k < l1.length
    · obtain ⟨ad1, rfl, hx1⟩ := Kd.at_int HR1.out (k : Int) (by omega) (by omega)
      have hr0 := HR0.out
      rw [← HE.out] at hr0
      obtain ⟨ad, hA, hy0⟩ := Kd.at_int hr0 (k : Int) (by omega) (by omega)
      injection hA with hA
      subst hA
      obtain ⟨ad, hA, hy1⟩ := Kd.at_int hr0 ((k + 1 : Nat) : Int) (by omega) (by omega)
      injection hA with hA
      subst hA
      rw [Int.toNat_natCast] at hx1 hy0 hy1
      have hx1' := pw_cell_below HB.out hx1
      have hy0' := pw_cell_below HB.out hy0
      have hy1' := pw_cell_below HB.out hy1
      obtain ⟨hz0, hz1⟩ := own_at_of (d := (0 : Int)) HO.out (k : Int) (by omega) (by omega)
      obtain ⟨hz2, hz3⟩ := own_at_of (d := (0 : Int)) HO.out ((k + 1 : Nat) : Int) (by omega) (by omega)
      rw [Int.toNat_natCast] at hz0 hz1 hz2 hz3
      have hv : rdOf (0 : Int) (partOf N n (k + 1)) (k : Int) = N.getD k 0 := partOf_rd N n (k + 1) k (by omega) (by omega)
      rw [hv] at hz0
      have bN := HBd.out k (by omega)
      have bl0 := HG.out k (by omega)
      have bl1 := HG.out (k + 1) (by omega)
      have hat := HAt.out k HL.out hlt
      have HS := own_store_of HO.out ((k + 1 : Nat) : Int) (N.getD (k + 1) 0)
      rw [Int.toNat_natCast, partOf_set N n (k + 1) (by omega) hNn] at HS
      have hvy0 : rd l0 (k : Int) = l0.getD k 0 := by rw [rd, Int.toNat_natCast]
      have hvy1 : rd l0 ((k + 1 : Nat) : Int) = l0.getD (k + 1) 0 := by rw [rd, Int.toNat_natCast]
      have hvx : rd l1 (k : Int) = l1.getD k 0 := by rw [rd, Int.toNat_natCast]
      rw [hvy0] at hy0' bl0
      rw [hvy1] at hy1' bl1
      rw [hvx] at hx1'
      clear hvy0 hvy1 hvx hv hy0 hy1 hx1 hr0 hN1 hNn
      generalize N.getD k 0 = X at *
      generalize l0.getD k 0 = Z at *
      generalize l0.getD (k + 1) 0 = Y at *
      generalize l1.getD k 0 = s at *
      generalize N.getD (k + 1) 0 = M at *
      have e2 : (((k + 1 : Nat) : Int)) = (k : Int) + 1 := by omega
      obtain ⟨bX, bX'⟩ := bN
      obtain ⟨bZ, bZ'⟩ := bl0
      obtain ⟨bY, bY'⟩ := bl1
      have hkn : (k : Int) + 1 < (n : Int) := by have := HN1.out; omega
      have HS1 := Aside0.mk HS.1
      clear HS e2
      rw [mi_eq, mi_eq] at hat
      by_cases hx : s = a2
      · have hb : (s == a2) = true := beq_iff_eq.2 hx
        rw [if_pos hx] at hat
        clear hx
        have w1 : IntKind.i64.wrap ((k : Int) + 1) = (k : Int) + 1 := IntWalk.i64_in _ (by omega)
        have w2 : IntKind.i64.wrap (X + 1) = X + 1 := IntWalk.i64_in _ (by omega)
        have w3 : IntKind.i64.wrap (Y + 1) = Y + 1 := IntWalk.i64_in _ (by omega)
        have w4 : IntKind.i64.wrap Z = Z := IntWalk.i64_in _ (by omega)
        have w5 : (0 : Int) ≤ (k : Int) + 1 := by omega
        have w6 : ((k : Int) + 1).toNat = k + 1 := by omega
        have w7 : (0 : Int) ≤ (k : Int) := by omega
        have w8 : (k : Int) < (n : Int) := by omega
        have w9 : k < n := by omega
        have hy1'' : wr.cell? { block := ad0.block, off := ad0.off + (k + 1) } = some (.int .i64 Y) := by simpa [Addr.add] using hy1'
        have HM := Aside0.mk hat
        clear hat
        go_wp2
        go_still_tail 22, (by kernel_rfl)
        change wpList _ _ _ _ _ wr.drew
        go_wp2
        go_roundw
        case rel =>
          have hat := HM.out
          refine ⟨k + 1, by omega, by go_num, ?_, ?_⟩
          · have h2 := HS1.out
            rw [hat] at h2
            have key : ∀ q : Int, q = min (min (X + 1) (Y + 1)) (Z + 0) → ((wr.setCell ⟨w.heap.size, k + 1, none⟩ (.int .i64 q)).drew).ownsRow w.heap.size 3 1 (.slice (some ⟨w.heap.size, 0, none⟩) n n) n (encs (Value.int .i64) (partOf N n (k + 1 + 1))) := by
              rintro q rfl
              exact h2.drew
            exact key _ (by (repeat' split) <;> omega)
          · exact (HB.out.setCell (Nat.le_refl _) _).drew
        case measure => simp [intOf]; omega
      · have hb : (s == a2) = false := beq_eq_false_iff_ne.2 hx
        rw [if_neg hx] at hat
        clear hx
        have w1 : IntKind.i64.wrap ((k : Int) + 1) = (k : Int) + 1 := IntWalk.i64_in _ (by omega)
        have w2 : IntKind.i64.wrap (X + 1) = X + 1 := IntWalk.i64_in _ (by omega)
        have w3 : IntKind.i64.wrap (Y + 1) = Y + 1 := IntWalk.i64_in _ (by omega)
        have w4 : IntKind.i64.wrap (Z + 1) = Z + 1 := IntWalk.i64_in _ (by omega)
        have w5 : (0 : Int) ≤ (k : Int) + 1 := by omega
        have w6 : ((k : Int) + 1).toNat = k + 1 := by omega
        have w7 : (0 : Int) ≤ (k : Int) := by omega
        have w8 : (k : Int) < (n : Int) := by omega
        have w9 : k < n := by omega
        have hy1'' : wr.cell? { block := ad0.block, off := ad0.off + (k + 1) } = some (.int .i64 Y) := by simpa [Addr.add] using hy1'
        have HM := Aside0.mk hat
        clear hat
        go_wp2
        go_still_tail 22, (by kernel_rfl)
        change wpList _ _ _ _ _ wr.drew
        go_wp2
        go_roundw
        case rel =>
          have hat := HM.out
          refine ⟨k + 1, by omega, by go_num, ?_, ?_⟩
          · have h2 := HS1.out
            rw [hat] at h2
            have key : ∀ q : Int, q = min (min (X + 1) (Y + 1)) (Z + 1) → ((wr.setCell ⟨w.heap.size, k + 1, none⟩ (.int .i64 q)).drew).ownsRow w.heap.size 3 1 (.slice (some ⟨w.heap.size, 0, none⟩) n n) n (encs (Value.int .i64) (partOf N n (k + 1 + 1))) := by
              rintro q rfl
              exact h2.drew
            exact key _ (by (repeat' split) <;> omega)
          · exact (HB.out.setCell (Nat.le_refl _) _).drew
        case measure => simp [intOf]; omega
    · obtain rfl : k = l1.length := by omega
      go_wp2
      go_ret
      have ho := HO.out
      rw [HN1.out, partOf_all N n HN.out, ← HN.out] at ho
      exact ⟨_, rfl, Kd.R_of_own (h1 := fun _ => rfl) (by rw [HN.out] at ho ⊢; exact ho) (fun _ _ => trivial), HB.out⟩
end Go.Proofs.Ytcdjeimjbbknjaa.PAll
namespace Go.Proofs.Ytcdjeimjbbknjaa.PAll
open Go.RowKit Go.Proofs.YtcdjeimjbbknjaaW.PrintWords Go.Proofs.YtcdjeimjbbknjaaW.PrintLast Go.Proofs.YtcdjeimjbbknjaaW.PrintMore
set_option linter.unusedVariables false
set_option linter.unusedSimpArgs false

/-- The numbers below n. -/
def upTo (n : Nat) : List Int := (List.range n).map fun i : Nat => (i : Int)
theorem upTo_length (n : Nat) : (upTo n).length = n := by simp [upTo]
/-- The row after k rounds. -/
def filled (n k : Nat) : List Int := upTo k ++ List.replicate (n - k) 0
theorem filled_zero (n : Nat) : filled n 0 = List.replicate n 0 := by simp [filled, upTo]
theorem filled_all (n : Nat) : filled n n = upTo n := by simp [filled]
theorem filled_succ (n k : Nat) (h : k < n) : (filled n k).set k (k : Int) = filled n (k + 1) := by
  have h1 : List.replicate (n - k) (0 : Int) = 0 :: List.replicate (n - (k + 1)) 0 := by
    rw [show n - k = (n - (k + 1)) + 1 from by omega]; rfl
  have h2 : upTo (k + 1) = upTo k ++ [(k : Int)] := by simp [upTo, List.range_succ]
  unfold filled
  rw [h1, h2, List.set_append_right _ _ (by rw [upTo_length]; omega), upTo_length, Nat.sub_self]
  simp

def fuzzy_first.f (l0 : List Int) : Option (List Int) := if l0.length < 17592186044416 then some (upTo (l0.length + 1)) else none
set_option maxHeartbeats 800000 in
theorem fuzzy_first.calls (A0 : Option Addr) (c0 : Nat) (l0 : List Int) (r : List Int) (w : World) (hr0 : Kd.C (Kd.int .i64) w A0 l0.length l0) (hc0 : l0.length ≤ c0) (h : fuzzy_first.f l0 = some r) :
    Calls Try.prog 94 #[.slice A0 l0.length c0] w fun e w' => ∃ v0_ : Value, e = .returned (v0_) ∧ Kd.R (Kd.int .i64) 3 w' w.heap.size (fun _ => True) v0_ r ∧ Below w.heap.size w w' := by
  unfold fuzzy_first.f at h
  split at h
  case isFalse => cases h
  case isTrue hh =>
  obtain rfl := Option.some.inj h
  clear h hr0
  have hmk := print_make_of (P := Try.prog) 22 3 (.int .i64 0) 8 Try.underlying22 info3 rfl (by omega) (l0.length + 1) (by omega)
  have e1 : (((l0.length + 1 : Nat) : Int)) = (l0.length : Int) + 1 := by omega
  rw [e1] at hmk
  clear e1
  have HM := Aside0.mk (own_made_of (enc := Value.int .i64) (d := 0) w w.heap.size 3 (l0.length + 1) (Nat.le_refl _) (by omega))
  go_enter Try.func94, Try.ntmps94
  go_wp2
  go_loopw [11] (fun i wr => ∃ k : Nat, k ≤ l0.length + 1 ∧ i = .int .i64 k ∧ wr.ownsRow w.heap.size 3 1 (.slice (some ⟨w.heap.size, 0, none⟩) (l0.length + 1) (l0.length + 1)) (l0.length + 1) (encs (Value.int .i64) (filled (l0.length + 1) k)) ∧ Below w.heap.size w wr) (fun i _ => l0.length + 1 - (intOf i).toNat)
  case atStart => exact ⟨0, by omega, rfl, by rw [filled_zero]; exact HM.out, below_alloc (Below.refl _ _) _⟩
  case round =>
    obtain ⟨k, hk, rfl, ho, hB⟩ := hrel
    have HO := Aside0.mk ho
    have HB := Aside0.mk hB
    clear ho hB
    by_cases hlt : k < l0.length + 1
    · obtain ⟨hc, hf⟩ := own_at_of (d := (0 : Int)) HO.out (k : Int) (by omega) (by omega)
      have HS := own_store_of HO.out (k : Int) (k : Int)
      rw [Int.toNat_natCast] at hc hf HS
      rw [filled_succ _ _ hlt] at HS
      have HS := Aside0.mk HS
      go_wp2
      go_roundw
      case rel => exact ⟨k + 1, by omega, by go_num, HS.out.1, HB.out.setCell (Nat.le_refl _) _⟩
      case measure => simp [intOf]; omega
    · obtain rfl : k = l0.length + 1 := by omega
      go_wp2
      go_ret
      rw [filled_all] at HO
      exact ⟨_, rfl, Kd.R_of_own (h1 := fun _ => rfl) (by rw [upTo_length]; exact HO.out) (fun _ _ => trivial), HB.out⟩
end Go.Proofs.Ytcdjeimjbbknjaa.PAll
namespace Go.Proofs.Ytcdjeimjbbknjaa.PAll
open Go.RowKit Go.Proofs.YtcdjeimjbbknjaaW.PrintWords Go.Proofs.YtcdjeimjbbknjaaW.PrintLast Go.Proofs.YtcdjeimjbbknjaaW.PrintMore
set_option linter.unusedVariables false
set_option linter.unusedSimpArgs false

def Inc (xs : List Int) : Prop := xs.Pairwise (· < ·)
/-- How many of them are less. -/
def posL (xs : List Int) (s : Int) : Nat := (xs.takeWhile fun y => decide (y < s)).length
theorem posL_le (xs : List Int) (s : Int) : posL xs s ≤ xs.length := (List.takeWhile_prefix _).length_le
theorem posL_lt {xs : List Int} {s : Int} (h : Inc xs) : ∀ i, i < xs.length → (rd xs i < s ↔ i < posL xs s) := by
  induction xs with
  | nil => intro i hi; simp at hi
  | cons x xs ih =>
    intro i hi
    have h1 := List.pairwise_cons.1 h
    by_cases hx : x < s
    · have e : posL (x :: xs) s = posL xs s + 1 := by unfold posL; rw [List.takeWhile_cons_of_pos (p := fun y => decide (y < s)) (by simpa using hx)]; rfl
      rw [e]
      cases i with
      | zero => simp [rd, hx]
      | succ i =>
        have := ih h1.2 i (by simpa using hi)
        rw [rd_nat, List.getD_cons_succ, ← rd_nat, this]
        omega
    · have e : posL (x :: xs) s = 0 := by unfold posL; rw [List.takeWhile_cons_of_neg (p := fun y => decide (y < s)) (by simpa using hx)]; rfl
      rw [e]
      cases i with
      | zero => simp [rd, hx]
      | succ i =>
        have hi' : i < xs.length := by simpa using hi
        have h2 := h1.1 xs[i] (List.getElem_mem hi')
        rw [rd_nat, List.getD_cons_succ, List.getD_eq_getElem?_getD, List.getElem?_eq_getElem hi', Option.getD_some]
        omega
theorem posL_mem {xs : List Int} {s : Int} (h : Inc xs) : s ∈ xs ↔ posL xs s < xs.length ∧ rd xs (posL xs s) = s := by
  constructor
  · intro hs
    obtain ⟨i, hi, e⟩ := List.getElem_of_mem hs
    have hri : rd xs i = s := by rw [rd_nat, List.getD_eq_getElem?_getD, List.getElem?_eq_getElem hi, Option.getD_some, e]
    have h1 := posL_lt (s := s) h i hi
    have h2 : ¬ i < posL xs s := fun h3 => by have := h1.2 h3; omega
    have h3 : posL xs s = i := by
      rcases Nat.lt_or_ge (posL xs s) i with h4 | h4
      · exfalso
        have h5 := posL_lt (s := s) h (posL xs s) (by omega)
        have h6 : ¬ rd xs (posL xs s) < s := fun h7 => by have := h5.1 h7; omega
        have h7 := (List.pairwise_iff_getElem.1 h) (posL xs s) i (by omega) hi h4
        rw [rd_nat, List.getD_eq_getElem?_getD, List.getElem?_eq_getElem (by omega : posL xs s < xs.length), Option.getD_some] at h6
        omega
      · omega
    rw [h3]
    exact ⟨hi, hri⟩
  · rintro ⟨h1, h2⟩
    rw [← h2, rd_nat, List.getD_eq_getElem?_getD, List.getElem?_eq_getElem h1, Option.getD_some]
    exact List.getElem_mem h1
theorem less_int (a b : Int) : cmp_Less_int.f a b = some (decide (a < b)) := by
  unfold cmp_Less_int.f cmp_isNaN_int.f
  simp
theorem mid_int {lo hi : Nat} (h : lo ≤ hi) (hb : hi ≤ 2305843009213693951) : wrap64 ((IntKind.u64.wrap (wrap64 ((lo : Int) + (hi : Int)))) / 2) = (((lo + hi) / 2 : Nat) : Int) := by
  have h1 : wrap64 ((lo : Int) + (hi : Int)) = ((lo + hi : Nat) : Int) := by unfold wrap64; omega
  rw [h1]
  have h2 : IntKind.u64.wrap ((lo + hi : Nat) : Int) = ((lo + hi : Nat) : Int) := by
    rw [IntKind.wrap_u64]; omega
  rw [h2]
  unfold wrap64
  omega
theorem bs_tells (xs : List Int) (s : Int) (h : Inc xs) (hb : xs.length ≤ 2305843009213693951) (d : Nat) : ∀ (k lo hi : Nat), hi - lo ≤ d → lo ≤ posL xs s → posL xs s ≤ hi → hi ≤ xs.length → d < k →
    slices_BinarySearch_int_int.l0 k xs s (xs.length : Int) (lo : Int) (hi : Int) = some ((posL xs s : Int), decide (s ∈ xs)) := by
  induction d with
  | zero =>
    intro k lo hi hd h1 h2 h3 hk
    obtain ⟨k, rfl⟩ : ∃ m, k = m + 1 := ⟨k - 1, by omega⟩
    obtain rfl : lo = hi := by omega
    obtain rfl : lo = posL xs s := by omega
    simp only [slices_BinarySearch_int_int.l0]
    rw [if_neg (by omega)]
    have hm := posL_mem (s := s) h
    by_cases hl : posL xs s < xs.length
    · rw [if_pos (by omega), if_pos (by omega), if_pos (by omega)]
      by_cases he : rd xs (posL xs s) = s
      · rw [if_pos he, decide_eq_true (hm.2 ⟨hl, he⟩)]
      · rw [if_neg he, decide_eq_false (fun hx => he (hm.1 hx).2)]
        simp [slices_isNaN_int.f]
    · rw [if_neg (by omega), decide_eq_false (fun hx => hl (hm.1 hx).1)]
  | succ d ih =>
    intro k lo hi hd h1 h2 h3 hk
    rcases Nat.lt_or_ge lo hi with hlt | hge
    · obtain ⟨k, rfl⟩ : ∃ m, k = m + 1 := ⟨k - 1, by omega⟩
      simp only [slices_BinarySearch_int_int.l0]
      rw [if_pos (by omega), mid_int (by omega) (by omega), if_pos (by omega), if_pos (by omega), less_int]
      simp only [Option.bind_some, decide_eq_true_eq]
      have hm := posL_lt (s := s) h ((lo + hi) / 2) (by omega)
      by_cases hx : rd xs (((lo + hi) / 2 : Nat) : Int) < s
      · rw [if_pos hx]
        have := ih k ((lo + hi) / 2 + 1) hi (by omega) (by have := hm.1 hx; omega) h2 h3 (by omega)
        rwa [show wrap64 ((((lo + hi) / 2 : Nat) : Int) + 1) = (((lo + hi) / 2 + 1 : Nat) : Int) from by rw [wrap_succ (by omega) (by omega)]; omega]
      · rw [if_neg hx]
        exact ih k lo ((lo + hi) / 2) (by omega) h1 (by rcases Nat.lt_or_ge ((lo + hi) / 2) (posL xs s) with h4 | h4; exact absurd (hm.2 h4) hx; exact h4) (by omega) (by omega)
    · have := ih k lo hi (by omega) h1 h2 h3 (by omega)
      exact this
theorem bs_is (xs : List Int) (s : Int) (h : Inc xs) (hb : xs.length ≤ 2305843009213693951) (k : Nat) (hk : xs.length < k) : slices_BinarySearch_int_int.f k xs s = some ((posL xs s : Int), decide (s ∈ xs)) := by
  have := bs_tells xs s h hb xs.length k 0 xs.length (by omega) (Nat.zero_le _) (posL_le xs s) (Nat.le_refl _) hk
  simpa [slices_BinarySearch_int_int.f] using this
theorem bs_calls (A0 : Option Addr) (c0 : Nat) (xs : List Int) (s : Int) (w : World) (h : Inc xs) (hb : xs.length ≤ 2305843009213693951) (hr0 : Kd.C (Kd.int .i64) w A0 xs.length xs) (hc0 : xs.length ≤ c0) :
    Calls Try.prog 76 #[.slice A0 xs.length c0, .int .i64 s] w fun e w' => e = .returned (.tuple #[.int .i64 (posL xs s : Int), .bool (decide (s ∈ xs))]) ∧ Drawn0 w w' :=
  slices_BinarySearch_int_int.calls (xs.length + 1) A0 c0 xs s _ _ w hr0 hc0 (bs_is xs s h hb _ (by omega))
end Go.Proofs.Ytcdjeimjbbknjaa.PAll
namespace Go.Proofs.Ytcdjeimjbbknjaa.PAll
open Go.RowKit Go.Proofs.YtcdjeimjbbknjaaW.PrintWords Go.Proofs.YtcdjeimjbbknjaaW.PrintLast Go.Proofs.YtcdjeimjbbknjaaW.PrintMore
set_option linter.unusedVariables false
set_option linter.unusedSimpArgs false

/-- What the methods ask of a graph. -/
structure GOk (ns : List Nd) : Prop where
  inc : ∀ x ∈ ns, Inc x.f1
  even : ∀ x ∈ ns, x.f1.length = x.f2.length
  lead : ∀ x ∈ ns, ∀ k ∈ x.f2, 0 ≤ k ∧ k < (ns.length : Int)
  short : ∀ x ∈ ns, x.f1.length ≤ 1000000000
  pos : 0 < ns.length
theorem rdN_mem' {N : List Nd} {k : Int} (h0 : 0 ≤ k) (h : k < (N.length : Int)) : rdN N k ∈ N := by
  rw [rdN, rd_T102, List.getD_eq_getElem?_getD, List.getElem?_eq_getElem (by omega : k.toNat < N.length)]; exact List.getElem_mem _
theorem rd_mem' {l : List Int} {i : Nat} (h : i < l.length) : rd l i ∈ l := by
  rw [rd_nat, List.getD_eq_getElem?_getD, List.getElem?_eq_getElem h]; exact List.getElem_mem h

/-! ### Step -/
def stepN (ns : List Nd) (i s : Int) : Int := if hasB ns.length i = true ∧ s ∈ (rdN ns i).f1 then rd (rdN ns i).f2 (posL (rdN ns i).f1 s) else -1
/-! ### walk -/
def sumTo (ns : List Nd) (f2 : List Int) : Nat → Int → Int
  | 0, less => less
  | k + 1, less => wrap64 (sumTo ns f2 k less + (rdN ns (rd f2 k)).f3)
def lessN (ns : List Nd) (at_ s less : Int) : Int := sumTo ns (rdN ns at_).f2 (posL (rdN ns at_).f1 s) (if (rdN ns at_).f0 then wrap64 (less + 1) else less)
def walkN (ns : List Nd) : List Int → Int → Int → Int × Int
  | [], less, at_ => (less, at_)
  | s :: w, less, at_ => if s ∈ (rdN ns at_).f1 then walkN ns w (lessN ns at_ s less) (rd (rdN ns at_).f2 (posL (rdN ns at_).f1 s)) else (lessN ns at_ s less, -1)
end Go.Proofs.Ytcdjeimjbbknjaa.PAll
namespace Go.Proofs.Ytcdjeimjbbknjaa.PAll
open Go.RowKit Go.Proofs.YtcdjeimjbbknjaaW.PrintWords Go.Proofs.YtcdjeimjbbknjaaW.PrintLast Go.Proofs.YtcdjeimjbbknjaaW.PrintMore
set_option linter.unusedVariables false
set_option linter.unusedSimpArgs false

set_option maxHeartbeats 4000000 in
set_option maxRecDepth 100000 in
theorem walk_any (g : Nat) (ns : List Nd) (A0 : Option Addr) (c0 : Nat) (ws : List Int) (w : World) (hg : GraphAt w g ns) (hk : GOk ns) (hr : Kd.C (Kd.int .i64) w A0 ws.length ws) (hc : ws.length ≤ c0) :
    Calls Try.prog 72 #[.pointer (some ⟨g, 0, none⟩), .slice A0 ws.length c0] w fun e w' => e = .returned (.tuple #[.int .i64 (walkN ns ws 0 0).1, .int .i64 (walkN ns ws 0 0).2]) ∧ Below w.heap.size w w' := by
  have HG := Aside0.mk hg
  have HK := Aside0.mk hk
  have HR := Aside0.mk hr
  have hmax := Kd.C_max hr
  clear hg hk hr
  go_enter Try.func72, Try.ntmps72
  go_wp2
  go_loopw [6, 7, 17] (fun sl sa si wr => ∃ (i : Nat) (less at_ : Int), sl = .int .i64 less ∧ sa = .int .i64 at_ ∧ si = .int .i64 (i : Int) ∧ i ≤ ws.length ∧ Aside0 (0 ≤ at_ ∧ at_ < (ns.length : Int) ∧ walkN ns (ws.drop i) less at_ = walkN ns ws 0 0 ∧ Below w.heap.size w wr)) (fun _ _ si _ => ws.length - (intOf si).toNat)
  case atStart => exact ⟨0, 0, 0, rfl, rfl, rfl, Nat.zero_le _, ⟨Int.le_refl _, by have := HK.out.pos; omega, by simp, Below.refl _ _⟩⟩
  case round =>
    obtain ⟨i, less, at_, rfl, rfl, rfl, hi, hH⟩ := hrel
    by_cases hlt : i < ws.length
    · obtain ⟨h0, h1, heq, hB⟩ := hH.out
      obtain ⟨ad0, rfl, hx⟩ := Kd.at_int (Kd.C_below HR.out hB) (i : Int) (by omega) (by omega)
      rw [Int.toNat_natCast] at hx
      have hgr := HG.out.below hB
      obtain ⟨ad, A1, c1, A2, c2, c, hcell, hcc, x0, x1, x2, x3, l1, g1, l2, g2⟩ := hgr.node at_ h0 h1
      have hmem := rdN_mem' h0 h1
      have hsh := HK.out.short _ hmem
      have hinc := HK.out.inc _ hmem
      have hev := HK.out.even _ hmem
      have hld := HK.out.lead _ hmem
      rw [rd_drop hlt, walkN] at heq
      have hless : lessN ns at_ (rd ws i) less = sumTo ns (rdN ns at_).f2 (posL (rdN ns at_).f1 (rd ws i)) (if (rdN ns at_).f0 then wrap64 (less + 1) else less) := rfl
      rw [hless] at heq
      clear hless
      change Kd.C (Kd.int .i64) wr A1 (rdN ns at_).f1.length (rdN ns at_).f1 at g1
      change Kd.C (Kd.int .i64) wr A2 (rdN ns at_).f2.length (rdN ns at_).f2 at g2
      change (rdN ns at_).f1.length ≤ c1 at l1
      change (rdN ns at_).f2.length ≤ c2 at l2
      rw [show rd_T102 ns at_ = rdN ns at_ from rfl] at x0 x1 x2 x3
      generalize rdN ns at_ = nd at *
      generalize rd ws i = s at *
      obtain ⟨f0, f1, f2, f3⟩ := nd
      dsimp only at *
      have HGr := Aside0.mk hgr
      have hpl := posL_le f1 s
      have HBS := Aside0.mk (fun (W : World) (hb : Below wr.heap.size wr W) => bs_calls A1 c1 f1 s W hinc (by omega) (Kd.C_below g1 hb) l1)
      have HMem := Aside0.mk (posL_mem (s := s) hinc)
      have HEq := Aside0.mk heq
      have HB := Aside0.mk hB
      have HG2 := Aside0.mk g2
      have HLd := Aside0.mk hld
      have HEv := Aside0.mk hev
      have hk2 : posL f1 s ≤ f2.length := by omega
      clear hgr hmem hinc hld heq hB g1 g2 hev
      generalize hl1 : (if f0 = true then wrap64 (less + 1) else less) = less1 at *
      generalize hkk : posL f1 s = k at *
      clear hkk
      go_upto_if 29 with fail
      go_cut [6] from 18 to 67 (fun s6 wx => s6 = .int .i64 less1 ∧ wx = wr.alloc (.cells #[.bool f0, .slice A1 f1.length c1, .slice A2 f2.length c2, .int .i64 f3] 102))
      case first =>
        cases f0 with
        | true =>
          rw [if_pos rfl] at hl1
          subst hl1
          go_wp2
          go_meet
          exact ⟨rfl, rfl⟩
        | false =>
          rw [if_neg (by decide)] at hl1
          subst hl1
          go_wp2
          go_meet
          exact ⟨rfl, rfl⟩
      case rest =>
        obtain ⟨rfl, rfl⟩ := hcut
        have hk3 : (k : Int) ≤ (c2 : Int) := by omega
        have hk4 : (0 : Int) ≤ (k : Int) := by omega
        have hBd : ∀ nd, Below wr.heap.size wr ((wr.alloc (.cells #[.bool f0, .slice A1 f1.length c1, .slice A2 f2.length c2, .int .i64 f3] 102)).drewN nd) := fun nd => pw_below_drewN (below_alloc (Below.refl _ wr) _) nd
        have HBd := Aside0.mk hBd
        have HGd := Aside0.mk (fun nd => HG.out.below (HB.out.trans ((hBd nd).mono HB.out.size)))
        clear hBd hcell x0 x1 x2 x3 hx
        go_wp2_with (go_at_call 76; refine (HBS.out _ (below_alloc (Below.refl _ wr) _)).mono ?_; rintro e wd ⟨rfl, ⟨nd, rfl⟩⟩)
        go_loop [6, 44] (fun sl sj => ∃ j : Nat, j ≤ k ∧ sj = .int .i64 (j : Int) ∧ sl = .int .i64 (sumTo ns f2 j less1)) (fun _ sj => k - (intOf sj).toNat)
        case atStart => exact ⟨0, Nat.zero_le _, rfl, rfl⟩
        case round =>
          obtain ⟨j, hj, rfl, rfl⟩ := hrel
          by_cases hjk : j < k
          · obtain ⟨ad2, rfl, hy⟩ := Kd.at_int (Kd.C_below HG2.out (HBd.out nd)) (j : Int) (by omega) (by omega)
            rw [Int.toNat_natCast] at hy
            obtain ⟨q0, q1⟩ := HLd.out _ (rd_mem' (by omega : j < f2.length))
            obtain ⟨adq, _, _, _, _, cq, hcq, hlq, _, _, _, hyq, _⟩ := (HGd.out nd).node (rd f2 j) q0 q1
            have hst : Aside0 (sumTo ns f2 (j + 1) less1 = wrap64 (sumTo ns f2 j less1 + (rd_T102 ns (rd f2 j)).f3)) := ⟨rfl⟩
            go_wp2
            go_round
            case rel => exact ⟨j + 1, by omega, by go_num, by rw [hst.out]⟩
            case measure => simp [intOf]; omega
          · obtain rfl : j = k := by omega
            by_cases hs : s ∈ f1
            · have hd : decide (s ∈ f1) = true := decide_eq_true hs
              obtain ⟨m1, m2⟩ := HMem.out.1 hs
              have hk5 : j < f2.length := by have := HEv.out; omega
              obtain ⟨ad2, rfl, hy⟩ := Kd.at_int (Kd.C_below HG2.out (HBd.out nd)) (j : Int) (by omega) (by omega)
              rw [Int.toNat_natCast] at hy
              obtain ⟨q0, q1⟩ := HLd.out _ (rd_mem' hk5)
              have heq := HEq.out
              rw [if_pos hs] at heq
              have HE2 := Aside0.mk heq
              clear heq m2 hs
              go_wp2
              go_roundw
              case rel => exact ⟨i + 1, _, _, rfl, rfl, by go_num, by omega, ⟨q0, q1, HE2.out, HB.out.trans ((HBd.out nd).mono HB.out.size)⟩⟩
              case measure => simp [intOf]; omega
            · have hd : decide (s ∈ f1) = false := decide_eq_false hs
              have heq := HEq.out
              rw [if_neg hs] at heq
              have HE2 := Aside0.mk heq
              clear heq hs
              go_wp2
              go_ret2
              exact ⟨by rw [← HE2.out]; rfl, HB.out.trans ((HBd.out nd).mono HB.out.size)⟩
    · obtain rfl : i = ws.length := by omega
      obtain ⟨_, _, heq, hB⟩ := hH.out
      rw [List.drop_length, walkN] at heq
      go_wp2
      go_ret2
      exact ⟨by rw [← heq]; rfl, hB⟩
/-! ### Index, Begins -/
/-- The state that walk ends in is one, or -1. -/
theorem walkN_state (ns : List Nd) (hk : GOk ns) : ∀ (ws : List Int) (less at_ : Int), 0 ≤ at_ → at_ < (ns.length : Int) → (walkN ns ws less at_).2 = -1 ∨ 0 ≤ (walkN ns ws less at_).2 ∧ (walkN ns ws less at_).2 < (ns.length : Int)
  | [], less, at_, h0, h1 => .inr ⟨h0, h1⟩
  | s :: ws, less, at_, h0, h1 => by
    rw [walkN]
    split
    · rename_i hs
      have hm := rdN_mem' h0 h1
      have h2 := (posL_mem (hk.inc _ hm)).1 hs
      have h3 := hk.even _ hm
      have h4 := hk.lead _ hm _ (rd_mem' (by omega : posL (rdN ns at_).f1 s < (rdN ns at_).f2.length))
      exact walkN_state ns hk ws _ _ h4.1 h4.2
    · exact .inl rfl
def indexN (ns : List Nd) (ws : List Int) : Int × Bool := if 0 ≤ (walkN ns ws 0 0).2 ∧ (rdN ns (walkN ns ws 0 0).2).f0 = true then ((walkN ns ws 0 0).1, true) else (0, false)
theorem index_any (g : Nat) (ns : List Nd) (A0 : Option Addr) (c0 : Nat) (ws : List Int) (w : World) (hg : GraphAt w g ns) (hk : GOk ns) (hr : Kd.C (Kd.int .i64) w A0 ws.length ws) (hc : ws.length ≤ c0) :
    Calls Try.prog 22 #[.pointer (some ⟨g, 0, none⟩), .slice A0 ws.length c0] w fun e w' => e = .returned (.tuple #[.int .i64 (indexN ns ws).1, .bool (indexN ns ws).2]) ∧ Below w.heap.size w w' := by
  have HW := Aside0.mk (walk_any g ns A0 c0 ws w hg hk hr hc)
  have hst := walkN_state ns hk ws 0 0 (Int.le_refl _) (by have := hk.pos; omega)
  have hix : indexN ns ws = if 0 ≤ (walkN ns ws 0 0).2 ∧ (rdN ns (walkN ns ws 0 0).2).f0 = true then ((walkN ns ws 0 0).1, true) else (0, false) := rfl
  generalize walkN ns ws 0 0 = r at *
  obtain ⟨less, at_⟩ := r
  dsimp only at *
  have HG := Aside0.mk hg
  have HI := Aside0.mk hix
  clear hg hk hr hix
  by_cases h0 : 0 ≤ at_
  · have h1 : at_ < (ns.length : Int) := by omega
    have hlt : at_.toNat < ns.length := by omega
    cases hf : (rdN ns at_).f0 with
    | true =>
      have HI2 : Aside0 (indexN ns ws = (less, true)) := ⟨by rw [HI.out, if_pos ⟨h0, hf⟩]⟩
      have HF := Aside0.mk hf
      clear hf HI hst
      go_enter Try.func22, Try.ntmps22
      go_wp2_with (go_at_call 72; refine HW.out.mono ?_; rintro e w1 ⟨rfl, hb⟩; obtain ⟨ad, A1, c1, A2, c2, c, hcell, hcc, x0, _, _, _, _, _, _, _⟩ := (HG.out.below hb).node at_ h0 h1; rw [show (rd_T102 ns at_).f0 = true from HF.out] at x0)
      go_ret2
      exact ⟨by rw [HI2.out]; rfl, hb⟩
    | false =>
      have HI2 : Aside0 (indexN ns ws = (0, false)) := ⟨by rw [HI.out, if_neg (by rw [hf]; simp)]⟩
      have HF := Aside0.mk hf
      clear hf HI hst
      go_enter Try.func22, Try.ntmps22
      go_wp2_with (go_at_call 72; refine HW.out.mono ?_; rintro e w1 ⟨rfl, hb⟩; obtain ⟨ad, A1, c1, A2, c2, c, hcell, hcc, x0, _, _, _, _, _, _, _⟩ := (HG.out.below hb).node at_ h0 h1; rw [show (rd_T102 ns at_).f0 = false from HF.out] at x0)
      go_ret2
      exact ⟨by rw [HI2.out]; rfl, hb⟩
  · have HI2 : Aside0 (indexN ns ws = (0, false)) := ⟨by rw [HI.out, if_neg (fun h => h0 h.1)]⟩
    clear HI hst
    go_enter Try.func22, Try.ntmps22
    go_wp2_with (go_at_call 72; refine HW.out.mono ?_; rintro e w1 ⟨rfl, hb⟩)
    go_ret2
    exact ⟨by rw [HI2.out]; rfl, hb⟩
theorem index_nil (A0 : Option Addr) (c0 n : Nat) (w : World) : Calls Try.prog 22 #[.pointer none, .slice A0 n c0] w fun e w' => e = .returned (.tuple #[.int .i64 0, .bool false]) ∧ w = w' := by
  go_enter Try.func22, Try.ntmps22
  go_wp2
  go_ret2
  exact ⟨rfl, rfl⟩
def beginsN (ns : List Nd) (ws : List Int) : Int × Int := if (walkN ns ws 0 0).2 < 0 then ((walkN ns ws 0 0).1, (walkN ns ws 0 0).1) else ((walkN ns ws 0 0).1, wrap64 ((walkN ns ws 0 0).1 + (rdN ns (walkN ns ws 0 0).2).f3))
theorem begins_any (g : Nat) (ns : List Nd) (A0 : Option Addr) (c0 : Nat) (ws : List Int) (w : World) (hg : GraphAt w g ns) (hk : GOk ns) (hr : Kd.C (Kd.int .i64) w A0 ws.length ws) (hc : ws.length ≤ c0) :
    Calls Try.prog 24 #[.pointer (some ⟨g, 0, none⟩), .slice A0 ws.length c0] w fun e w' => e = .returned (.tuple #[.int .i64 (beginsN ns ws).1, .int .i64 (beginsN ns ws).2]) ∧ Below w.heap.size w w' := by
  have HW := Aside0.mk (walk_any g ns A0 c0 ws w hg hk hr hc)
  have hst := walkN_state ns hk ws 0 0 (Int.le_refl _) (by have := hk.pos; omega)
  have hix : beginsN ns ws = if (walkN ns ws 0 0).2 < 0 then ((walkN ns ws 0 0).1, (walkN ns ws 0 0).1) else ((walkN ns ws 0 0).1, wrap64 ((walkN ns ws 0 0).1 + (rdN ns (walkN ns ws 0 0).2).f3)) := rfl
  generalize walkN ns ws 0 0 = r at *
  obtain ⟨less, at_⟩ := r
  dsimp only at *
  have HG := Aside0.mk hg
  have HI := Aside0.mk hix
  clear hg hk hr hix
  by_cases h0 : 0 ≤ at_
  · have h1 : at_ < (ns.length : Int) := by omega
    have hlt : at_.toNat < ns.length := by omega
    have hn : ¬ at_ < 0 := by omega
    have HI2 : Aside0 (beginsN ns ws = (less, wrap64 (less + (rdN ns at_).f3))) := ⟨by rw [HI.out, if_neg hn]⟩
    clear HI hst
    go_enter Try.func24, Try.ntmps24
    go_wp2_with (go_at_call 72; refine HW.out.mono ?_; rintro e w1 ⟨rfl, hb⟩; obtain ⟨ad, A1, c1, A2, c2, c, hcell, hcc, _, _, _, x3, _, _, _, _⟩ := (HG.out.below hb).node at_ h0 h1)
    go_quiet (fail)
    go_wp2
    go_ret2
    exact ⟨by rw [HI2.out]; rfl, pw_below_drewN hb _⟩
  · have hn : at_ < 0 := by omega
    have HI2 : Aside0 (beginsN ns ws = (less, less)) := ⟨by rw [HI.out, if_pos hn]⟩
    clear HI hst
    go_enter Try.func24, Try.ntmps24
    go_wp2_with (go_at_call 72; refine HW.out.mono ?_; rintro e w1 ⟨rfl, hb⟩)
    go_ret2
    exact ⟨by rw [HI2.out]; rfl, hb⟩
end Go.Proofs.Ytcdjeimjbbknjaa.PAll
namespace Go.Proofs.Ytcdjeimjbbknjaa.PAll
open Go.RowKit Go.Proofs.YtcdjeimjbbknjaaW.PrintWords Go.Proofs.YtcdjeimjbbknjaaW.PrintLast Go.Proofs.YtcdjeimjbbknjaaW.PrintMore Go.Proofs.Ytcdjeimjbbknjaa.Lev
set_option linter.unusedVariables false
set_option linter.unusedSimpArgs false

/-! ### Rows with a bound -/
def RowB (last w : List Int) (b : Int) : Prop := last.length = w.length + 1 ∧ ∀ i, i ≤ w.length → 0 ≤ last.getD i 0 ∧ last.getD i 0 ≤ b
theorem RowB.ok {last w : List Int} {b : Int} (h : RowB last w b) (hw : w.length < 17592186044415) (hb : b ≤ 1152921504606846976) : rowOk last w := by
  refine ⟨h.1, by have := h.1; omega, fun x hx => ?_⟩
  obtain ⟨i, hi, rfl⟩ := List.getElem_of_mem hx
  have := h.2 i (by have := h.1; omega)
  rw [List.getD_eq_getElem?_getD, List.getElem?_eq_getElem hi, Option.getD_some] at this
  omega
def kHit : Kd (Int × Int) := Kd.pair (Kd.int .i64) (Kd.int .i64)
end Go.Proofs.Ytcdjeimjbbknjaa.PAll
namespace Go.Proofs.Ytcdjeimjbbknjaa.PAll
open Go.RowKit Go.Proofs.YtcdjeimjbbknjaaW.PrintWords Go.Proofs.YtcdjeimjbbknjaaW.PrintLast Go.Proofs.YtcdjeimjbbknjaaW.PrintMore
set_option linter.unusedVariables false
set_option linter.unusedSimpArgs false

def badSym (x : Int) : Bool := decide (x < 0) || decide (64 ≤ x)
theorem check1_any (x : Int) (w : World) : Calls Try.prog 106 #[.int .i64 x] w fun e w' => e = .returned (.bool (badSym x)) ∧ w = w' := by
  by_cases h0 : x < 0
  · go_enter Try.func106, Try.ntmps106
    go_wp2
    go_ret
    exact ⟨by simp [badSym, h0], rfl⟩
  · go_enter Try.func106, Try.ntmps106
    go_wp2
    go_ret
    exact ⟨by simp [badSym]; omega, rfl⟩

/-- Where the first element for which p holds stands, from k on; -1. -/
def firstAt (p : Int → Bool) : List Int → Nat → Int
  | [], _ => -1
  | x :: xs, k => if p x then (k : Int) else firstAt p xs (k + 1)
theorem firstAt_none (p : Int → Bool) : ∀ (xs : List Int) (k : Nat), xs.any p = false → firstAt p xs k = -1
  | [], _, _ => rfl
  | x :: xs, k, h => by
    simp only [List.any_cons, Bool.or_eq_false_iff] at h
    simp only [firstAt, h.1]
    exact firstAt_none p xs (k + 1) h.2
theorem firstAt_some (p : Int → Bool) : ∀ (xs : List Int) (k : Nat), xs.any p = true → 0 ≤ firstAt p xs k
  | [], _, h => by simp at h
  | x :: xs, k, h => by
    by_cases hx : p x = true
    · simp only [firstAt, hx, if_true]; omega
    · simp only [List.any_cons, Bool.or_eq_true] at h
      have hx' : p x = false := by simpa using hx
      simp only [firstAt, hx']
      exact firstAt_some p xs (k + 1) (h.resolve_left hx)
theorem firstAt_sign (p : Int → Bool) (xs : List Int) (k : Nat) : decide (0 ≤ firstAt p xs k) = xs.any p := by
  cases h : xs.any p with
  | true => simpa using firstAt_some p xs k h
  | false => rw [firstAt_none p xs k h]; rfl
theorem firstAt_drop (p : Int → Bool) (xs : List Int) (k : Nat) (h : k < xs.length) : firstAt p (xs.drop k) k = if p (rd xs k) then (k : Int) else firstAt p (xs.drop (k + 1)) (k + 1) := by
  rw [List.drop_eq_getElem_cons h]
  simp only [firstAt, rd, Int.toNat_natCast, List.getD_eq_getElem?_getD, List.getElem?_eq_getElem h, Option.getD_some]

set_option maxHeartbeats 800000 in
theorem indexFunc_check (A0 : Option Addr) (c0 : Nat) (l0 : List Int) (w : World) (hr0 : Kd.C (Kd.int .i64) w A0 l0.length l0) (hl : l0.length ≤ 9223372036854775807) :
    Calls Try.prog 117 #[.slice A0 l0.length c0, .func (.func 106) #[] #[]] w fun e w' => e = .returned (.int .i64 (firstAt badSym l0 0)) ∧ w = w' := by
  have HR := Aside0.mk hr0
  clear hr0
  go_enter Try.func117, Try.ntmps117
  go_wp2
  go_loop [8] (fun i => ∃ k : Nat, k ≤ l0.length ∧ i = .int .i64 k ∧ Aside0 (firstAt badSym l0 0 = firstAt badSym (l0.drop k) k)) (fun i => l0.length - (intOf i).toNat)
  case atStart => exact ⟨0, Nat.zero_le _, rfl, ⟨by simp⟩⟩
  case round =>
    obtain ⟨k, hk, rfl, hs⟩ := hrel
    by_cases hlt : k < l0.length
    · obtain ⟨ad, rfl, hc⟩ := Kd.at_int HR.out (k : Int) (by omega) (by omega)
      rw [Int.toNat_natCast] at hc
      have hstep := firstAt_drop badSym l0 k hlt
      cases hb : badSym (rd l0 k) with
      | true =>
        rw [hb] at hstep
        have HS := Aside0.mk hstep
        have HB := Aside0.mk (hb ▸ check1_any (rd l0 k) w)
        clear hstep hb
        go_wp2_with (go_at_call 106; refine HB.out.mono ?_; rintro e w' ⟨rfl, rfl⟩)
        go_ret
        exact ⟨by rw [hs.out, HS.out]; rfl, rfl⟩
      | false =>
        rw [hb] at hstep
        have HS := Aside0.mk hstep
        have HB := Aside0.mk (hb ▸ check1_any (rd l0 k) w)
        clear hstep hb
        go_wp2_with (go_at_call 106; refine HB.out.mono ?_; rintro e w' ⟨rfl, rfl⟩)
        go_round
        case rel => exact ⟨k + 1, by omega, by go_num, ⟨by rw [hs.out, HS.out]; rfl⟩⟩
        case measure => simp [intOf]; omega
    · obtain rfl : k = l0.length := by omega
      go_wp2
      go_ret
      exact ⟨by rw [hs.out]; simp [firstAt], rfl⟩
theorem containsFunc_check (A0 : Option Addr) (c0 : Nat) (l0 : List Int) (w : World) (hr0 : Kd.C (Kd.int .i64) w A0 l0.length l0) :
    Calls Try.prog 88 #[.slice A0 l0.length c0, .func (.func 106) #[] #[]] w fun e w' => e = .returned (.bool (l0.any badSym)) ∧ w = w' := by
  have HI := Aside0.mk (indexFunc_check A0 c0 l0 w hr0 (Kd.C_max hr0))
  clear hr0
  go_enter Try.func88, Try.ntmps88
  go_wp2_with (go_at_call 117; refine HI.out.mono ?_; rintro e w' ⟨rfl, rfl⟩)
  go_ret
  exact ⟨by rw [← firstAt_sign badSym l0 0]; rfl, rfl⟩
end Go.Proofs.Ytcdjeimjbbknjaa.PAll
namespace Go.Proofs.Ytcdjeimjbbknjaa.PAll
open Go.RowKit Go.Proofs.YtcdjeimjbbknjaaW.PrintWords Go.Proofs.YtcdjeimjbbknjaaW.PrintLast Go.Proofs.YtcdjeimjbbknjaaW.PrintMore
set_option linter.unusedVariables false
set_option linter.unusedSimpArgs false

/-- The first k words are of good symbols and increase. -/
def okUpto (ws : List (List Int)) : Nat → Bool
  | 0 => true
  | k + 1 => okUpto ws k && (!(rdR ws k).any badSym && (k == 0 || decide (cmpL (rdR ws ((k - 1 : Nat) : Int)) (rdR ws k) < 0)))
def sumUpto (ws : List (List Int)) : Nat → Nat
  | 0 => 0
  | k + 1 => sumUpto ws k + (rdR ws k).length
def longUpto (ws : List (List Int)) : Nat → Bool
  | 0 => false
  | k + 1 => longUpto ws k || decide ((64 : Int) < ((rdR ws k).length : Int))
theorem sumUpto_le (ws : List (List Int)) : ∀ (n k : Nat), k ≤ n → sumUpto ws k ≤ sumUpto ws n := by
  intro n
  induction n with
  | zero =>
    intro k h
    obtain rfl : k = 0 := by omega
    exact Nat.le_refl _
  | succ n ih =>
    intro k h
    rcases Nat.lt_or_ge k (n + 1) with h1 | h1
    · have := ih k (by omega); simp only [sumUpto]; omega
    · obtain rfl : k = n + 1 := by omega
      exact Nat.le_refl _
theorem okUpto_le (ws : List (List Int)) : ∀ (n k : Nat), k ≤ n → okUpto ws n = true → okUpto ws k = true := by
  intro n
  induction n with
  | zero =>
    intro k h hn
    obtain rfl : k = 0 := by omega
    exact hn
  | succ n ih =>
    intro k h hn
    rcases Nat.lt_or_ge k (n + 1) with h1 | h1
    · simp only [okUpto, Bool.and_eq_true] at hn; exact ih k (by omega) hn.1
    · obtain rfl : k = n + 1 := by omega
      exact hn
def checkL (ws : List (List Int)) : Int :=
  if okUpto ws ws.length = true then (if longUpto ws ws.length = true ∨ (4096 : Int) < (ws.length : Int) ∨ (65536 : Int) < (sumUpto ws ws.length : Int) then 4 else 0) else 1
theorem checkL_bad (ws : List (List Int)) (k : Nat) (hk : k ≤ ws.length) (h : okUpto ws k = false) : checkL ws = 1 := by
  unfold checkL
  rw [if_neg]
  intro hn
  rw [okUpto_le ws _ k hk hn] at h
  cases h
theorem compare_calls (A0 : Option Addr) (c0 : Nat) (l0 : List Int) (A1 : Option Addr) (c1 : Nat) (l1 : List Int) (w : World) (hr0 : Kd.C (Kd.int .i64) w A0 l0.length l0) (hc0 : l0.length ≤ c0) (hr1 : Kd.C (Kd.int .i64) w A1 l1.length l1) (hc1 : l1.length ≤ c1) :
    Calls Try.prog 107 #[.slice A0 l0.length c0, .slice A1 l1.length c1] w fun e w' => e = .returned (.int .i64 (cmpL l0 l1)) ∧ Drawn0 w w' :=
  slices_Compare_int_int.calls _ A0 c0 l0 A1 c1 l1 _ w hr0 hc0 hr1 hc1 (slices_Compare_is l0 l1 (Kd.C_max hr0) (l0.length + 1) (by omega))

set_option maxHeartbeats 4000000 in
set_option maxRecDepth 100000 in
theorem check_any (A0 : Option Addr) (c0 : Nat) (ws : List (List Int)) (w : World) (hr0 : Kd.C (Kd.slice 3 (Kd.int .i64)) w A0 ws.length ws) (hc0 : ws.length ≤ c0) (hsum : sumUpto ws ws.length ≤ 4611686018427387904) :
    Calls Try.prog 66 #[.slice A0 ws.length c0] w fun e w' => e = .returned (.int .i64 (checkL ws)) ∧ Drawn0 w w' := by
  have hmax := Kd.C_max hr0
  have HR := Aside0.mk hr0
  have HS := Aside0.mk hsum
  clear hr0 hsum
  go_enter Try.func66, Try.ntmps66
  go_wp2
  go_loopw [3, 4, 9] (fun t l i wr => ∃ k : Nat, k ≤ ws.length ∧ i = .int .i64 k ∧ t = .int .i64 (sumUpto ws k : Nat) ∧ l = .bool (longUpto ws k) ∧ Aside0 (okUpto ws k = true) ∧ Drawn0 w wr) (fun _ _ i _ => ws.length - (intOf i).toNat)
  case atStart => exact ⟨0, Nat.zero_le _, rfl, rfl, rfl, ⟨rfl⟩, Drawn0.refl _⟩
  case round =>
    obtain ⟨k, hk, rfl, rfl, rfl, hok, ⟨nd, rfl⟩⟩ := hrel
    by_cases hlt : k < ws.length
    · have hD : Below w.heap.size w (w.drewN nd) := pw_below_drewN (Below.refl _ _) nd
      have HCw := Kd.C_below HR.out hD
      obtain ⟨ad, A', c', rfl, hx, hlc, hCk⟩ := at_rows HCw (k : Int) (by omega) (by omega)
      rw [Int.toNat_natCast] at hx
      have hsum1 := sumUpto_le ws ws.length (k + 1) (by omega)
      have hS := HS.out
      have hb1 : sumUpto ws (k + 1) = sumUpto ws k + (rdR ws k).length := rfl
      have HC1 := Aside0.mk (containsFunc_check A' c' (rdR ws k) (w.drewN nd) hCk)
      have HOK : Aside0 (okUpto ws (k + 1) = (okUpto ws k && (!(rdR ws k).any badSym && (k == 0 || decide (cmpL (rdR ws ((k - 1 : Nat) : Int)) (rdR ws k) < 0))))) := ⟨rfl⟩
      have HLG : Aside0 (longUpto ws (k + 1) = (longUpto ws k || decide ((64 : Int) < ((rdR ws k).length : Int)))) := ⟨rfl⟩
      cases hbad : (rdR ws k).any badSym with
      | true =>
        rw [hbad] at HC1 HOK
        clear hbad
        have HE := Aside0.mk (checkL_bad ws (k + 1) (by omega) (by rw [HOK.out]; simp))
        clear hb1
        go_wp2_with (go_at_call 88; refine HC1.out.mono ?_; rintro e w' ⟨rfl, rfl⟩)
        go_ret
        exact ⟨by rw [HE.out]; rfl, ⟨⟨nd, rfl⟩⟩⟩
      | false =>
        rw [hbad] at HC1 HOK
        clear hbad
        rcases Nat.eq_zero_or_pos k with rfl | hk0
        · have HOK1 : Aside0 (okUpto ws (0 + 1) = true) := ⟨by rw [HOK.out]; rfl⟩
          have hx0 : (w.drewN nd).cell? ad = some (.slice A' (rdR ws ((0 : Nat) : Int)).length c') := by simpa [Addr.add] using hx
          have hl0 : Aside0 ((rdR ws 0).length ≤ 4611686018427387904) := ⟨by have h1 : sumUpto ws (0 + 1) = 0 + (rdR ws 0).length := rfl; omega⟩
          cases hlg : longUpto ws 0 with
          | true => cases hlg
          | false =>
            go_wp2_with (go_at_call 88; refine HC1.out.mono ?_; rintro e w' ⟨rfl, rfl⟩)
            go_roundw
            case rel => exact ⟨0 + 1, by omega, by go_num, by rw [hb1, show sumUpto ws 0 = 0 from rfl]; simp only [Nat.zero_add, Int.natCast_zero, Int.zero_add]; exact congrArg (Value.int .i64) (by unfold wrap64; have := hl0.out; omega), by rw [HLG.out, hlg]; rfl, HOK1, ⟨⟨nd, rfl⟩⟩⟩
            case measure =>
              show ws.length - ((0 : Int) + 1).toNat < ws.length - (0 : Int).toNat
              omega
        · obtain ⟨j, hj⟩ : ∃ j, k = j + 1 := ⟨k - 1, by omega⟩
          obtain ⟨ad2, A2, c2, hA2, hy, hlc2, hC2⟩ := at_rows HCw (j : Int) (by omega) (by omega)
          injection hA2 with hA2
          subst hA2
          rw [Int.toNat_natCast] at hy
          have HC2 := Aside0.mk (compare_calls A2 c2 (rdR ws j) A' c' (rdR ws k) (w.drewN nd) hC2 hlc2 hCk hlc)
          have HOKj : Aside0 (okUpto ws (k + 1) = decide (cmpL (rdR ws j) (rdR ws k) < 0)) := ⟨by rw [HOK.out, hok.out, show k - 1 = j from by omega]; simp; omega⟩
          clear HOK hCk hC2
          have e1 : (k : Int) - 1 = (j : Int) := by omega
          have e2 : (0 : Int) < (k : Int) := by omega
          have e3 : (j : Int) < (ws.length : Int) := by omega
          have e4 : (0 : Int) ≤ (j : Int) := by omega
          clear hj
          generalize hcm : cmpL (rdR ws j) (rdR ws k) = cm at *
          by_cases hc : cm < 0
          · have hc' : ¬ (0 ≤ cm) := by omega
            have HOK1 : Aside0 (okUpto ws (k + 1) = true) := ⟨by rw [HOKj.out]; simpa using hc⟩
            clear HOKj hcm
            cases hlg : longUpto ws k with
            | true =>
              rw [hlg] at HLG
              have HG := Aside0.mk hlg
              clear hlg
              go_wp2_with (first | (go_at_call 88; refine HC1.out.mono ?_; rintro e w' ⟨rfl, rfl⟩) | (go_at_call 107; refine HC2.out.mono ?_; rintro e w' ⟨rfl, ⟨nd2, rfl⟩⟩))
              go_roundw
              case rel => exact ⟨k + 1, by omega, by go_num, by rw [hb1]; go_num, by rw [HLG.out]; rfl, HOK1, ⟨⟨_, rfl⟩⟩⟩
              case measure => simp [intOf]; omega
            | false =>
              rw [hlg] at HLG
              have HG := Aside0.mk hlg
              clear hlg
              go_wp2_with (first | (go_at_call 88; refine HC1.out.mono ?_; rintro e w' ⟨rfl, rfl⟩) | (go_at_call 107; refine HC2.out.mono ?_; rintro e w' ⟨rfl, ⟨nd2, rfl⟩⟩))
              go_roundw
              case rel => exact ⟨k + 1, by omega, by go_num, by rw [hb1]; go_num, by rw [HLG.out]; rfl, HOK1, ⟨⟨_, rfl⟩⟩⟩
              case measure => simp [intOf]; omega
          · have hc' : 0 ≤ cm := by omega
            have HE := Aside0.mk (checkL_bad ws (k + 1) (by omega) (by rw [HOKj.out]; simpa using hc'))
            clear HOKj hcm hb1
            go_wp2_with (first | (go_at_call 88; refine HC1.out.mono ?_; rintro e w' ⟨rfl, rfl⟩) | (go_at_call 107; refine HC2.out.mono ?_; rintro e w' ⟨rfl, ⟨nd2, rfl⟩⟩))
            go_ret
            exact ⟨by rw [HE.out]; rfl, ⟨⟨_, rfl⟩⟩⟩
    · obtain rfl : k = ws.length := by omega
      have HE : Aside0 (checkL ws = if longUpto ws ws.length = true ∨ (4096 : Int) < (ws.length : Int) ∨ (65536 : Int) < (sumUpto ws ws.length : Int) then 4 else 0) := ⟨by unfold checkL; rw [if_pos hok.out]⟩
      cases hlg : longUpto ws ws.length with
      | true =>
        have HE1 : Aside0 (checkL ws = 4) := ⟨by rw [HE.out, if_pos (.inl hlg)]⟩
        clear HE
        go_wp2
        go_ret
        exact ⟨by rw [HE1.out]; rfl, ⟨⟨nd, rfl⟩⟩⟩
      | false =>
        by_cases h1 : (4096 : Int) < (ws.length : Int)
        · have HE1 : Aside0 (checkL ws = 4) := ⟨by rw [HE.out, if_pos (.inr (.inl h1))]⟩
          clear HE
          go_wp2
          go_ret
          exact ⟨by rw [HE1.out]; rfl, ⟨⟨nd, rfl⟩⟩⟩
        · by_cases h2 : (65536 : Int) < (sumUpto ws ws.length : Int)
          · have HE1 : Aside0 (checkL ws = 4) := ⟨by rw [HE.out, if_pos (.inr (.inr h2))]⟩
            clear HE
            go_wp2
            go_ret
            exact ⟨by rw [HE1.out]; rfl, ⟨⟨nd, rfl⟩⟩⟩
          · have HE1 : Aside0 (checkL ws = 0) := ⟨by rw [HE.out, if_neg (by rw [hlg]; rintro (h | h | h); exact absurd h (by simp); exact h1 h; exact h2 h)]⟩
            clear HE
            go_wp2
            go_ret
            exact ⟨by rw [HE1.out]; rfl, ⟨⟨nd, rfl⟩⟩⟩
end Go.Proofs.Ytcdjeimjbbknjaa.PAll
namespace Go.Proofs.Ytcdjeimjbbknjaa.PAll
open Go.RowKit Go.Maps Go.Proofs.YtcdjeimjbbknjaaW.PrintWords Go.Proofs.YtcdjeimjbbknjaaW.PrintLast Go.Proofs.YtcdjeimjbbknjaaW.PrintMore
set_option linter.unusedVariables false
set_option linter.unusedSimpArgs false

/-! ### The mirror -/
def posF (o : List Int) (k : Int) : Option Int := (o.findIdx? (fun y => decide (y = k))).map fun i : Nat => (i : Int)
theorem posF_snoc (o : List Int) (k : Int) (h : posF o k = none) (y : Int) : posF (o ++ [k]) y = if y = k then some (o.length : Int) else posF o y := by
  unfold posF at h ⊢
  rw [List.findIdx?_append]
  by_cases hs : y = k
  · subst hs
    rw [if_pos rfl]
    have h2 : o.findIdx? (fun z => decide (z = y)) = none := by simpa using h
    rw [h2]
    simp
  · rw [if_neg hs]
    have h3 : List.findIdx? (fun z => decide (z = y)) [k] = none := by
      simp; exact fun e => hs e.symm
    rw [h3]
    simp
theorem posF_none {o : List Int} {k : Int} (h : posF o k = none) : k ∉ o := by
  unfold posF at h
  rw [Option.map_eq_none_iff, List.findIdx?_eq_none_iff] at h
  intro hk
  simpa using h k hk
theorem posF_some {o : List Int} {k i : Int} (h : posF o k = some i) : 0 ≤ i ∧ i < o.length ∧ rd o i = k := by
  unfold posF at h
  obtain ⟨j, hj, rfl⟩ := Option.map_eq_some_iff.1 h
  obtain ⟨h1, h2, _⟩ := List.findIdx?_eq_some_iff_getElem.1 hj
  refine ⟨by omega, by omega, ?_⟩
  rw [rd_nat, List.getD_eq_getElem?_getD, List.getElem?_eq_getElem h1, Option.getD_some]
  exact of_decide_eq_true h2
def ord1 (o : List Int) (k : Int) : List Int := if (posF o k).isSome then o else o ++ [k]
def numTo : List Int → List Int → List Int → List Int × List Int
  | [], o, ts => (o, ts)
  | k :: ks, o, ts => numTo ks (ord1 o k) (ts ++ [(posF (ord1 o k) k).getD 0])
def numG (N : List Nd) : Nat → List Int → Nat → List Nd → List Int × List Nd
  | 0, o, _, G => (o, G)
  | f + 1, o, i, G => if i < o.length then numG N f (numTo (rdN N (rd o i)).f2 o []).1 (i + 1) (G ++ [⟨(rdN N (rd o i)).f0, (rdN N (rd o i)).f1, (numTo (rdN N (rd o i)).f2 o []).2, (rdN N (rd o i)).f3⟩]) else (o, G)
def numN (N : List Nd) (start : Int) : List Nd := (numG N (N.length + 1) [start] 0 []).2

/-- What it is called with: all numbers of states are in range. -/
structure NumOk (N : List Nd) : Prop where
  lead : ∀ x ∈ N, ∀ k ∈ x.f2, 0 ≤ k ∧ k < (N.length : Int)
  few : N.length ≤ 1000000000
  rows : ∀ x ∈ N, x.f2.length ≤ 100000000000
structure OrdOk (n : Nat) (o : List Int) : Prop where
  nodup : o.Nodup
  lead : ∀ k ∈ o, 0 ≤ k ∧ k < (n : Int)
theorem nodup_le : ∀ (n : Nat) (o : List Int), o.Nodup → (∀ k ∈ o, 0 ≤ k ∧ k < (n : Int)) → o.length ≤ n
  | 0, o, _, h => by
    cases o with
    | nil => simp
    | cons k o => have := h k List.mem_cons_self; omega
  | n + 1, o, hd, h => by
    have h1 := nodup_le n (o.erase (n : Int)) (hd.erase _) (fun k hk => by
      have h2 := (List.Nodup.mem_erase_iff hd).1 hk
      have := h k h2.2
      have h3 := h2.1
      omega)
    by_cases hm : (n : Int) ∈ o
    · have := List.length_erase_of_mem hm; omega
    · rw [List.erase_of_not_mem hm] at h1; omega
theorem OrdOk.le {n : Nat} {o : List Int} (h : OrdOk n o) : o.length ≤ n := nodup_le n o h.nodup h.lead
theorem OrdOk.ord1 {n : Nat} {o : List Int} (h : OrdOk n o) {k : Int} (hk : 0 ≤ k ∧ k < (n : Int)) : OrdOk n (ord1 o k) := by
  unfold PAll.ord1
  split
  · exact h
  · rename_i hn
    have hn' : posF o k = none := by simpa using hn
    refine ⟨List.nodup_append.2 ⟨h.nodup, by simp, ?_⟩, fun j hj => ?_⟩
    · intro a ha b hb
      obtain rfl := List.mem_singleton.1 hb
      rintro rfl
      exact posF_none hn' ha
    · rcases List.mem_append.1 hj with hj | hj
      · exact h.lead j hj
      · obtain rfl := List.mem_singleton.1 hj; exact hk
theorem OrdOk.numTo {n : Nat} : ∀ (ks o ts : List Int), OrdOk n o → (∀ k ∈ ks, 0 ≤ k ∧ k < (n : Int)) → OrdOk n (numTo ks o ts).1
  | [], o, ts, h, _ => h
  | k :: ks, o, ts, h, hk => OrdOk.numTo ks _ _ (h.ord1 (hk k List.mem_cons_self)) (fun j hj => hk j (List.mem_cons_of_mem _ hj))
theorem numTo_pre : ∀ (ks o ts : List Int), ∃ r, (numTo ks o ts).1 = o ++ r
  | [], o, ts => ⟨[], by simp [numTo]⟩
  | k :: ks, o, ts => by
    obtain ⟨r, hr⟩ := numTo_pre ks (ord1 o k) (ts ++ [(posF (ord1 o k) k).getD 0])
    unfold numTo
    rw [hr]
    unfold ord1
    split
    · exact ⟨r, rfl⟩
    · exact ⟨k :: r, by simp⟩
/-! ### The map of places -/
def litI (k : Int) : Lit := .int .i64 k
theorem litI_key (k : Int) : WideAt.IsKeyLit (litI k) := trivial
theorem litI_inj (a b : Int) (h : litI a = litI b) : a = b := by injection h
theorem wfI {k : Int} (h0 : -9223372036854775808 ≤ k) (h1 : k ≤ 9223372036854775807) : (Lit.int .i64 k).wf = true := by
  simp only [Lit.wf, Bool.and_eq_true, decide_eq_true_eq]
  exact ⟨h0, h1⟩
theorem keyI {k : Int} (h0 : -9223372036854775808 ≤ k) (h1 : k ≤ 9223372036854775807) : Go.keyOf Try.prog 3 (.int .i64 k) = some (litI k) := keyOf_int_mk Try.underlying3 (wfI h0 h1)
theorem MapHas.look {α : Type} {K : Nat} {lit : α → Lit} {w : World} {b n : Nat} {f : α → Option Int} {t : TypeId} (h : MapHas K lit w b n f) (law : Keyed Try.prog K) (ht : Try.prog.underlying t = some (.map K 3)) (x : α) (key : Value) (hkey : Go.keyOf Try.prog K key = some (lit x)) :
    (Instr.lookup t (.map (some b)) key false).run Try.prog w = .ok (.int .i64 ((f x).getD 0)) w := by
  obtain ⟨D, h, hf⟩ := h
  obtain ⟨c, hrun, hat, _⟩ := h.lookup_int law ht Try.underlying3 (zero_int w) hkey
  rw [(hf x).2] at hat
  rw [hrun, (Lit.int.inj (DataW.lit.inj hat)).2]

/-! ### The state -/
structure Num (w wr : World) (Q : Nat → Prop) (bm bg : Nat) (vo vg : Value) (o : List Int) (G : List Nd) : Prop where
  row : Kd.R (Kd.int .i64) 3 wr w.heap.size (fun _ => True) vo o
  map : MapHas 3 litI wr bm o.length (posF o)
  box : wr.heap[bg]? = some (.cells #[vg] 110 (0, 0))
  gs : Kd.N k102 102 wr w.heap.size (fun k => (k ≠ bg ∧ k ≠ bm ∧ Q k) ∧ some k ≠ vo.ownBlock) vg G
  below : Below w.heap.size w wr
  lbm : w.heap.size ≤ bm
  lbg : w.heap.size ≤ bg
section
variable {w wr W w1 w3 : World} {Q Q' : Nat → Prop} {bm bg : Nat} {vo vg v1 : Value} {o : List Int} {G : List Nd}
theorem Num.weak (h : Num w wr Q bm bg vo vg o G) (hq : ∀ k, Q k → Q' k) : Num w wr Q' bm bg vo vg o G :=
  ⟨h.row, h.map, h.box, Kd.N_mono h.gs fun k hk => ⟨⟨hk.1.1, hk.1.2.1, hq k hk.1.2.2⟩, hk.2⟩, h.below, h.lbm, h.lbg⟩
theorem Num.bound (h : Num w wr Q bm bg vo vg o G) : Num w wr (fun k => Q k ∧ k < wr.heap.size) bm bg vo vg o G :=
  ⟨h.row, h.map, h.box, Kd.N_mono (Kd.N_bound h.gs) fun k hk => ⟨⟨hk.1.1.1, hk.1.1.2.1, hk.1.1.2.2, hk.2⟩, hk.1.2⟩, h.below, h.lbm, h.lbg⟩
/-- One other block was written. -/
theorem Num.keep (h : Num w wr Q bm bg vo vg o G) (hb : Below w.heap.size w w1) (r : Nat) (hs : ∀ k, k < wr.heap.size → k ≠ r → w1.heap[k]? = wr.heap[k]?) (h1 : some r ≠ vo.ownBlock) (h2 : bm ≠ r) (h3 : bg ≠ r) (h4 : ¬ Q r) : Num w w1 Q bm bg vo vg o G :=
  ⟨Kd.R_mono (Kd.R_step (Kd.R_tight rfl h.row) fun k hk hlt => hs k hlt fun e => h1 (e ▸ hk)) (fun _ _ => trivial), h.map.of_block (hs bm h.map.lt h2), (hs bg (blk_lt h.box) h3).trans h.box,
    Kd.N_step h.gs (fun k hk hlt => hs k hlt fun e => h4 (e ▸ hk.1.2.2)), hb, h.lbm, h.lbg⟩
theorem Num.step (h : Num w wr Q bm bg vo vg o G) (hb : Below wr.heap.size wr W) : Num w W Q bm bg vo vg o G :=
  ⟨Kd.R_below h.row hb, h.map.below hb, (hb.block _ (blk_lt h.box)).trans h.box, Kd.N_below h.gs hb, h.below.trans (hb.mono h.below.size), h.lbm, h.lbg⟩
theorem Num.typed (h : Num w wr Q bm bg vo vg o G) {g : Nat} {cs : Array Value} {t : TypeId} {fr : Nat × Nat} (hg : wr.heap[g]? = some (.cells cs t fr)) (ht : t ≠ 3) : some g ≠ vo.ownBlock := by
  intro he
  obtain ⟨cells, hc⟩ := Kd.R_typed h.row g he.symm
  rw [hg] at hc
  injection hc with hc
  injection hc with _ e
  exact ht e
theorem Num.omap (h : Num w wr Q bm bg vo vg o G) : some bm ≠ vo.ownBlock := by
  intro he
  obtain ⟨cells, hc⟩ := Kd.R_typed h.row bm he.symm
  exact h.map.not_cells hc rfl
theorem Num.gmap (h : Num w wr Q bm bg vo vg o G) : bg ≠ bm := h.map.not_cells h.box
/-- A new state: in the map, in the row. -/
theorem Num.push (h : Num w wr Q bm bg vo vg o G) (k : Int) (hk : posF o k = none) (hg : wr.grownBy W (some bm)) (hm : MapHas 3 litI W bm (o.length + 1) (fun y => if y = k then some (o.length : Int) else posF o y))
    (HO : Kd.R (Kd.int .i64) 3 w3 w.heap.size (fun _ => True) v1 (o ++ [k])) (HB : Below w.heap.size w w3) (HG : W.grownBy w3 vo.ownBlock) (hown : v1.ownBlock = vo.ownBlock ∨ ∃ b, v1.ownBlock = some b ∧ W.heap.size ≤ b) : Num w w3 Q bm bg v1 vg (o ++ [k]) G := by
  have h2 : ∀ g, g < wr.heap.size → g ≠ bm → some g ≠ vo.ownBlock → w3.heap[g]? = wr.heap[g]? := fun g hlt hne ho =>
    (HG.block g (Nat.lt_of_lt_of_le hlt hg.size) ho).trans (hg.block g hlt fun e => hne (Option.some.inj e))
  refine ⟨HO, ?_, (h2 bg (blk_lt h.box) h.gmap (h.typed h.box (by decide))).trans h.box, ?_, HB, h.lbm, h.lbg⟩
  · have h3 := hm.of_block (HG.block bm hm.lt h.omap)
    obtain ⟨D, h4, h5⟩ := h3
    exact ⟨D, by rw [List.length_append]; exact h4, fun y => by rw [posF_snoc o k hk y]; exact h5 y⟩
  · refine Kd.N_mono (Kd.N_step (Kd.N_bound h.gs) fun g hg' hlt => h2 g hlt hg'.1.1.2.1 hg'.1.2) fun g hg' => ⟨hg'.1.1, fun e => ?_⟩
    rcases hown with he | ⟨b, he, hb⟩
    · rw [he] at e; exact hg'.1.2 e
    · rw [he] at e
      obtain rfl := Option.some.inj e
      have := hg'.2
      have := hg.size
      omega
end
end Go.Proofs.Ytcdjeimjbbknjaa.PAll
namespace Go.Proofs.Ytcdjeimjbbknjaa.PAll
open Go.RowKit Go.Proofs.YtcdjeimjbbknjaaW.PrintWords Go.Proofs.YtcdjeimjbbknjaaW.PrintLast Go.Proofs.YtcdjeimjbbknjaaW.PrintMore
set_option linter.unusedVariables false
set_option linter.unusedSimpArgs false

theorem cmpL_values : ∀ a b : List Int, cmpL a b = -1 ∨ cmpL a b = 0 ∨ cmpL a b = 1 := by
  intro a
  induction a with
  | nil => intro b; cases b <;> simp [cmpL]
  | cons x a ih =>
    intro b
    cases b with
    | nil => simp [cmpL]
    | cons y b =>
      simp only [cmpL]
      split
      · exact .inl rfl
      · split
        · exact .inr (.inr rfl)
        · exact ih b
theorem cmpL_lt_iff (a b : List Int) : cmpL a b < 0 ↔ cmpL a b = -1 := by
  rcases cmpL_values a b with h | h | h <;> rw [h] <;> decide
theorem cmpL_trans : ∀ a b c : List Int, cmpL a b = -1 → cmpL b c = -1 → cmpL a c = -1 := by
  intro a
  induction a with
  | nil =>
    intro b c h1 h2
    cases c with
    | nil => cases b <;> simp [cmpL] at h1 h2
    | cons z c => simp [cmpL]
  | cons x a ih =>
    intro b c h1 h2
    cases b with
    | nil => simp [cmpL] at h1
    | cons y b =>
      cases c with
      | nil => simp [cmpL] at h2
      | cons z c =>
        simp only [cmpL] at h1 h2 ⊢
        by_cases hxy : x < y
        · by_cases hyz : y < z
          · rw [if_pos (by omega)]
          · rw [if_neg hyz] at h2
            by_cases hzy : z < y
            · rw [if_pos hzy] at h2; simp at h2
            · rw [if_pos (by omega)]
        · rw [if_neg hxy] at h1
          by_cases hyx : y < x
          · rw [if_pos hyx] at h1; simp at h1
          · rw [if_neg hyx] at h1
            have : x = y := by omega
            subst this
            by_cases hyz : x < z
            · rw [if_pos hyz]
            · rw [if_neg hyz] at h2 ⊢
              by_cases hzy : z < x
              · rw [if_pos hzy] at h2; simp at h2
              · rw [if_neg hzy] at h2 ⊢
                exact ih b c h1 h2
/-- The lists of words that have a graph. -/
structure Good (ws : List (List Int)) : Prop where
  syms : ∀ w ∈ ws, ∀ s ∈ w, 0 ≤ s ∧ s < 64
  sorted : ws.Pairwise fun u v => cmpL u v = -1
  short : ∀ w ∈ ws, w.length ≤ 64
  few : ws.length ≤ 4096
  sum : (ws.map List.length).sum ≤ 65536
theorem okUpto_iff (ws : List (List Int)) : ∀ n, okUpto ws n = true ↔ ∀ k, k < n → (rdR ws k).any badSym = false ∧ (k = 0 ∨ cmpL (rdR ws ((k - 1 : Nat) : Int)) (rdR ws k) < 0)
  | 0 => by simp [okUpto]
  | n + 1 => by
    simp only [okUpto, Bool.and_eq_true, Bool.or_eq_true, Bool.not_eq_true', beq_iff_eq, decide_eq_true_eq]
    rw [okUpto_iff ws n]
    constructor
    · rintro ⟨h1, h2⟩ k hk
      rcases Nat.lt_or_ge k n with h | h
      · exact h1 k h
      · obtain rfl : k = n := by omega
        exact h2
    · intro h
      exact ⟨fun k hk => h k (by omega), h n (by omega)⟩
theorem longUpto_iff (ws : List (List Int)) : ∀ n, longUpto ws n = false ↔ ∀ k, k < n → (rdR ws k).length ≤ 64
  | 0 => by simp [longUpto]
  | n + 1 => by
    simp only [longUpto, Bool.or_eq_false_iff, decide_eq_false_iff_not]
    rw [longUpto_iff ws n]
    constructor
    · rintro ⟨h1, h2⟩ k hk
      rcases Nat.lt_or_ge k n with h | h
      · exact h1 k h
      · obtain rfl : k = n := by omega
        omega
    · intro h
      exact ⟨fun k hk => h k (by omega), by have := h n (by omega); omega⟩
theorem rdR_get {ws : List (List Int)} {k : Nat} (h : k < ws.length) : rdR ws k = ws[k] := by
  rw [rdR_nat, List.getD_eq_getElem?_getD, List.getElem?_eq_getElem h, Option.getD_some]
theorem sumUpto_is (ws : List (List Int)) : ∀ n, n ≤ ws.length → sumUpto ws n = ((ws.take n).map List.length).sum
  | 0, _ => by simp [sumUpto]
  | n + 1, h => by
    rw [sumUpto, sumUpto_is ws n (by omega), List.take_succ_eq_append_getElem (by omega : n < ws.length), List.map_append, List.sum_append, rdR_get (by omega : n < ws.length)]
    simp
theorem any_bad (w : List Int) : w.any badSym = false ↔ ∀ s ∈ w, 0 ≤ s ∧ s < 64 := by
  rw [List.any_eq_false]
  simp only [badSym, Bool.or_eq_true, decide_eq_true_eq]
  exact ⟨fun h s hs => by have := h s hs; omega, fun h s hs => by have := h s hs; omega⟩
theorem sorted_of_adj (ws : List (List Int)) (h : ∀ k (hk : k + 1 < ws.length), cmpL ws[k] ws[k + 1] = -1) : ws.Pairwise fun u v => cmpL u v = -1 := by
  rw [List.pairwise_iff_getElem]
  intro i j hi hj hij
  induction j with
  | zero => omega
  | succ j ih =>
    rcases Nat.lt_or_ge i j with h1 | h1
    · exact cmpL_trans _ _ _ (ih (by omega) h1) (h j hj)
    · obtain rfl : i = j := by omega
      exact h i hj
theorem checkL_good {ws : List (List Int)} (h : checkL ws = 0) : Good ws := by
  unfold checkL at h
  split at h
  case isFalse => simp at h
  case isTrue hok =>
  split at h
  case isTrue => simp at h
  case isFalse hlim =>
  rw [okUpto_iff] at hok
  have h1 : longUpto ws ws.length = false := by
    cases hl : longUpto ws ws.length with
    | true => exact absurd (.inl hl) hlim
    | false => rfl
  rw [longUpto_iff] at h1
  have hs : sumUpto ws ws.length ≤ 65536 := by
    rcases Nat.lt_or_ge 65536 (sumUpto ws ws.length) with h2 | h2
    · exact absurd (.inr (.inr (by omega))) hlim
    · exact h2
  have hf : ws.length ≤ 4096 := by
    rcases Nat.lt_or_ge 4096 ws.length with h2 | h2
    · exact absurd (.inr (.inl (by omega))) hlim
    · exact h2
  rw [sumUpto_is ws _ (Nat.le_refl _), List.take_length] at hs
  refine ⟨fun w hw => ?_, sorted_of_adj ws fun k hk => ?_, fun w hw => ?_, hf, hs⟩
  · obtain ⟨k, hk, rfl⟩ := List.getElem_of_mem hw
    rw [← any_bad, ← rdR_get hk]
    exact (hok k hk).1
  · have h2 := (hok (k + 1) hk).2
    rw [rdR_get hk, show ((k + 1 - 1 : Nat) : Int) = (k : Int) from by omega, rdR_get (by omega : k < ws.length)] at h2
    exact (cmpL_lt_iff _ _).1 (h2.resolve_left (by omega))
  · obtain ⟨k, hk, rfl⟩ := List.getElem_of_mem hw
    rw [← rdR_get hk]
    exact h1 k hk
theorem good_check {ws : List (List Int)} (h : Good ws) : checkL ws = 0 := by
  unfold checkL
  rw [if_pos, if_neg]
  · rintro (h1 | h1 | h1)
    · have : longUpto ws ws.length = false := (longUpto_iff ws _).2 fun k hk => by rw [rdR_get hk]; exact h.short _ (List.getElem_mem hk)
      rw [this] at h1; cases h1
    · have := h.few; omega
    · rw [sumUpto_is ws _ (Nat.le_refl _), List.take_length] at h1
      have := h.sum; omega
  · refine (okUpto_iff ws _).2 fun k hk => ⟨?_, ?_⟩
    · rw [rdR_get hk, any_bad]; exact h.syms _ (List.getElem_mem hk)
    · rcases Nat.eq_zero_or_pos k with h0 | h0
      · exact .inl h0
      · refine .inr ?_
        rw [rdR_get hk, rdR_get (by omega : k - 1 < ws.length), cmpL_lt_iff]
        exact (List.pairwise_iff_getElem.1 h.sorted) (k - 1) k (by omega) hk (by omega)
theorem good_pre {ws : List (List Int)} (h : Good ws) : Pre ws 0 := ⟨fun _ _ => Nat.zero_le _, h.sorted.imp fun h => ⟨by simp, h⟩⟩
theorem good_cost {ws : List (List Int)} (h : Good ws) : cost ws 0 ≤ 65536 := by
  have : cost ws 0 = (ws.map List.length).sum := by simp [cost]
  rw [this]; exact h.sum

/-! ### All numbers of states are in range -/
structure Closed (M : Nat) (N : List Nd) : Prop where
  lead : ∀ x ∈ N, ∀ k ∈ x.f2, 0 ≤ k ∧ k < (N.length : Int)
  rows : ∀ x ∈ N, x.f2.length ≤ M
theorem closed_putN {M : Nat} {N : List Nd} {x : Nd} (h : Closed M N) (h1 : ∀ k ∈ x.f2, 0 ≤ k ∧ k < (N.length : Int)) (h2 : x.f2.length ≤ M) : Closed M (putN N x).2 ∧ N.length ≤ (putN N x).2.length := by
  unfold putN
  split
  · exact ⟨h, Nat.le_refl _⟩
  · refine ⟨⟨fun y hy k hk => ?_, fun y hy => ?_⟩, by simp⟩
    · rw [List.length_append, List.length_singleton]
      rcases List.mem_append.1 hy with hy | hy
      · have := h.lead y hy k hk; omega
      · obtain rfl := List.mem_singleton.1 hy
        have := h1 k hk; omega
    · rcases List.mem_append.1 hy with hy | hy
      · exact h.rows y hy
      · obtain rfl := List.mem_singleton.1 hy; exact h2
theorem closed_kids {M : Nat} (rec_ : List (List Int) → List Nd → Int × List Nd) (at_ : Nat) (ok : List (List Int) → Prop) (hok : ∀ w l, ok (w :: l) → ok (l.drop (grpLen at_ w l)))
    (hrec : ∀ w l N, ok (w :: l) → Closed M N → Closed M (rec_ (w :: l.take (grpLen at_ w l)) N).2 ∧ N.length ≤ (rec_ (w :: l.take (grpLen at_ w l)) N).2.length ∧ 0 ≤ (rec_ (w :: l.take (grpLen at_ w l)) N).1 ∧ (rec_ (w :: l.take (grpLen at_ w l)) N).1 < ((rec_ (w :: l.take (grpLen at_ w l)) N).2.length : Int)) :
    ∀ (n : Nat) (l : List (List Int)) (x : Nd) (N : List Nd), ok l → Closed M N → (∀ k ∈ x.f2, 0 ≤ k ∧ k < (N.length : Int)) → x.f2.length + l.length ≤ M →
      Closed M (kids rec_ at_ n l x N).2 ∧ N.length ≤ (kids rec_ at_ n l x N).2.length ∧ (∀ k ∈ (kids rec_ at_ n l x N).1.f2, 0 ≤ k ∧ k < ((kids rec_ at_ n l x N).2.length : Int)) ∧ (kids rec_ at_ n l x N).1.f2.length ≤ M
  | 0, l, x, N, _, hc, hx, hm => ⟨hc, Nat.le_refl _, hx, by simp only [kids]; omega⟩
  | n + 1, [], x, N, _, hc, hx, hm => ⟨hc, Nat.le_refl _, hx, by simp only [kids]; simpa using hm⟩
  | n + 1, w :: l, x, N, ho, hc, hx, hm => by
    obtain ⟨h1, h2, h3, h4⟩ := hrec w l N ho hc
    simp only [kids]
    have := closed_kids rec_ at_ ok hok hrec n (l.drop (grpLen at_ w l)) (N := (rec_ (w :: l.take (grpLen at_ w l)) N).2) (hok w l ho) h1 (x := ⟨x.f0, x.f1 ++ [rd w at_], x.f2 ++ [(rec_ (w :: l.take (grpLen at_ w l)) N).1], wrap64 (x.f3 + (rdN (rec_ (w :: l.take (grpLen at_ w l)) N).2 (rec_ (w :: l.take (grpLen at_ w l)) N).1).f3)⟩) (fun k hk => by
      rcases List.mem_append.1 hk with hk | hk
      · have := hx k hk; omega
      · obtain rfl := List.mem_singleton.1 hk; exact ⟨h3, h4⟩) (by
      simp only [List.length_append, List.length_singleton, List.length_drop, List.length_cons, List.length_nil] at hm ⊢
      omega)
    exact ⟨this.1, by have := this.2.1; omega, this.2.2⟩
theorem bld_succ (d : Nat) (l : List (List Int)) (at_ : Nat) (N : List Nd) : bld (d + 1) l at_ N = putN (kids (fun l N => bld d l (at_ + 1) N) at_ (restL l at_).length (restL l at_) (startNd l at_) N).2 (kids (fun l N => bld d l (at_ + 1) N) at_ (restL l at_).length (restL l at_) (startNd l at_) N).1 := rfl
theorem closed_bld {M : Nat} : ∀ (d : Nat) (l : List (List Int)) (at_ : Nat) (N : List Nd), Pre l at_ → (∀ w ∈ l, w.length < at_ + (d + 1)) → l.length ≤ M → Closed M N → Closed M (bld (d + 1) l at_ N).2 ∧ N.length ≤ (bld (d + 1) l at_ N).2.length := by
  intro d
  induction d with
  | zero =>
    intro l at_ N hp hl hM hc
    have hr : restL l at_ = [] := by
      obtain ⟨h1, h2⟩ := restL_pre hp
      cases hrl : restL l at_ with
      | nil => rfl
      | cons w r =>
        exfalso
        have h3 : w ∈ restL l at_ := by rw [hrl]; exact List.mem_cons_self
        have h4 := h2 w h3
        have h5 : w ∈ l := by
          unfold restL at h3
          split at h3
          · exact List.mem_of_mem_tail h3
          · exact h3
        have := hl w h5
        omega
    simp only [bld, hr, List.length_nil, kids]
    exact closed_putN hc (by simp [startNd]) (by simp [startNd])
  | succ d ih =>
    intro l at_ N hp hl hM hc
    obtain ⟨h1, h2⟩ := restL_pre hp
    have hsub : ∀ w ∈ restL l at_, w ∈ l := by
      intro w hw
      unfold restL at hw
      split at hw
      · exact List.mem_of_mem_tail hw
      · exact hw
    have hlen : (restL l at_).length ≤ l.length := by unfold restL; split <;> simp
    have hk := closed_kids (M := M) (fun l N => bld (d + 1) l (at_ + 1) N) at_ (fun l => Pre l at_ ∧ (∀ w ∈ l, at_ < w.length) ∧ (∀ w ∈ l, w.length < at_ + (d + 1 + 1)) ∧ l.length ≤ M)
      (fun w l h => ⟨pre_drop (pre_tail h.1) _, fun v hv => h.2.1 v (List.mem_cons_of_mem _ (List.mem_of_mem_drop hv)), fun v hv => h.2.2.1 v (List.mem_cons_of_mem _ (List.mem_of_mem_drop hv)), by have := h.2.2.2; simp only [List.length_cons, List.length_drop] at this ⊢; omega⟩)
      (fun w l N h hc => by
        have hsub' : ∀ v ∈ w :: l.take (grpLen at_ w l), v ∈ w :: l := by
          intro v hv
          rcases List.mem_cons.1 hv with rfl | hv
          · exact List.mem_cons_self
          · exact List.mem_cons_of_mem _ (List.mem_of_mem_take hv)
        have h3 := ih (w :: l.take (grpLen at_ w l)) (at_ + 1) N (grp_pre h.1 h.2.1) (fun v hv => by have := h.2.2.1 v (hsub' v hv); omega) (by have := h.2.2.2; simp only [List.length_cons, List.length_take] at this ⊢; omega) hc
        have h4 := bld_lt d (w :: l.take (grpLen at_ w l)) (at_ + 1) N
        exact ⟨h3.1, h3.2, h4.1, h4.2⟩)
      (restL l at_).length (restL l at_) (startNd l at_) N ⟨h1, h2, fun w hw => hl w (hsub w hw), by omega⟩ hc (by simp [startNd]) (by simp [startNd]; omega)
    rw [bld_succ]
    have := closed_putN hk.1 hk.2.2.1 hk.2.2.2
    exact ⟨this.1, by have := this.2; have := hk.2.1; omega⟩

/-- The nodes of a good list, the first one's number, the graph. -/
def nodesOf (ws : List (List Int)) : Int × List Nd := bld 65 ws 0 []
def graphOf (ws : List (List Int)) : List Nd := numN (nodesOf ws).2 (nodesOf ws).1
theorem nodesOf_ok {ws : List (List Int)} (h : Good ws) : NumOk (nodesOf ws).2 ∧ 0 ≤ (nodesOf ws).1 ∧ (nodesOf ws).1 < ((nodesOf ws).2.length : Int) := by
  have h1 := closed_bld (M := 4096) 64 ws 0 [] (good_pre h) (fun w hw => by have := h.short w hw; omega) h.few ⟨by simp, by simp⟩
  have h2 := bld_length 65 ws 0 [] (good_pre h)
  have h3 := good_cost h
  have h4 := bld_lt 64 ws 0 []
  refine ⟨⟨h1.1.lead, ?_, fun x hx => Nat.le_trans (h1.1.rows x hx) (by omega)⟩, h4.1, h4.2⟩
  simp only [List.length_nil] at h2
  unfold nodesOf
  omega
end Go.Proofs.Ytcdjeimjbbknjaa.PAll
namespace Go.Proofs.Ytcdjeimjbbknjaa.PAll
open Go.RowKit Go.Maps Go.Proofs.YtcdjeimjbbknjaaW.PrintWords Go.Proofs.YtcdjeimjbbknjaaW.PrintLast Go.Proofs.YtcdjeimjbbknjaaW.PrintMore
set_option linter.unusedVariables false
set_option linter.unusedSimpArgs false

def InPost (w0 w : World) (P : Nat → Prop) (bb bn bk bm : Nat) (v : Value) (r : Int × List Nd) (e : Ending) (w' : World) : Prop :=
  ∃ v', e = .returned (.int .i64 r.1) ∧ Inner w' w0.heap.size (fun k => P k ∨ w.heap.size ≤ k) bb bn bk bm v' r.2 ∧ (v'.ownBlock = v.ownBlock ∨ ∃ b, v'.ownBlock = some b ∧ w.heap.size ≤ b) ∧ Kept w w' (mayTurn bn bm v) ∧ Below w0.heap.size w0 w'
def InnerSpec (d : Nat) : Prop := ∀ (w0 w : World) (A : Option Addr) (c : Nat) (l : List (List Int)) (at_ : Nat) (P : Nat → Prop) (bb bn bk bm : Nat) (v : Value) (N : List Nd),
  Kd.C (Kd.slice 3 (Kd.int .i64)) w0 A l.length l → l.length ≤ c → Pre l at_ → (∀ x ∈ l, x.length < at_ + d) → Inner w w0.heap.size P bb bn bk bm v N → Below w0.heap.size w0 w → N.length + 1 + cost l at_ ≤ 1000000000 → at_ + d ≤ 1000000 →
  Calls Try.prog 67 #[.slice A l.length c, .int .i64 (at_ : Int), .pointer (some ⟨bb, 0, none⟩), .pointer (some ⟨bn, 0, none⟩), .pointer (some ⟨bk, 0, none⟩)] w (InPost w0 w P bb bn bk bm v (bld d l at_ N))

/-- The state of the struct x and of the captured variables. -/
structure Mid (w0 w wr : World) (P : Nat → Prop) (bb bn bk bm : Nat) (v0 : Value) (x : Nd) (vs vt v : Value) (N : List Nd) : Prop where
  hx : wr.heap[w.heap.size]? = some (.cells #[.bool x.f0, vs, vt, .int .i64 x.f3] 102 (0, 0))
  hs : Kd.R (Kd.int .i64) 3 wr w.heap.size (fun k => some k ≠ vt.ownBlock) vs x.f1
  ht : Kd.R (Kd.int .i64) 3 wr w.heap.size (fun k => some k ≠ vs.ownBlock) vt x.f2
  inner : Inner wr w0.heap.size (fun k => (P k ∨ w.heap.size ≤ k) ∧ k ≠ w.heap.size ∧ some k ≠ vs.ownBlock ∧ some k ≠ vt.ownBlock) bb bn bk bm v N
  hv : v.ownBlock = v0.ownBlock ∨ ∃ b, v.ownBlock = some b ∧ w.heap.size ≤ b
  kept : Kept w wr (mayTurn bn bm v0)
  below : Below w0.heap.size w0 wr
  le : w0.heap.size ≤ w.heap.size
/-- The state at the head of the outer loop. -/
structure LoopSt (w0 w wr : World) (P : Nat → Prop) (bb bn bk bm : Nat) (v0 : Value) (at_ d : Nat) (lr : List (List Int)) (Ar : Option Addr) (cr : Nat) (x : Nd) (vs vt v : Value) (N : List Nd) : Prop extends Mid w0 w wr P bb bn bk bm v0 x vs vt v N where
  hC : Kd.C (Kd.slice 3 (Kd.int .i64)) w0 Ar lr.length lr
  hc : lr.length ≤ cr
  pre : Pre lr at_
  long : ∀ u ∈ lr, at_ < u.length
  short : ∀ u ∈ lr, u.length < at_ + (d + 1)
  even : x.f1.length = x.f2.length
  room : N.length + 1 + cost lr at_ ≤ 1000000000
  few : x.f1.length + lr.length ≤ 100000000000

def lenV : Value → Nat
  | .slice _ n _ => n
  | _ => 0
theorem key_calls {x : Nd} {vs vt : Value} {W : World} {b1 b2 : Nat} {o1 o2 : Nat → Prop} (hs : Kd.R (Kd.int .i64) 3 W b1 o1 vs x.f1) (ht : Kd.R (Kd.int .i64) 3 W b2 o2 vt x.f2) (he : x.f1.length = x.f2.length) (hf : x.f1.length ≤ 100000000000) :
    Calls Try.prog 68 #[.agg #[.bool x.f0, vs, vt, .int .i64 x.f3]] W fun e w' => e = .returned (.string (keyOf x)) ∧ Below W.heap.size W w' := by
  obtain ⟨A1, c1, rfl, l1, g1⟩ := Kd.R_reads hs
  obtain ⟨A2, c2, rfl, l2, g2⟩ := Kd.R_reads ht
  exact dawg_node_key.calls (x.f1.length + 2) x.f0 A1 c1 x.f1 A2 c2 x.f2 x.f3 _ W g1 l1 g2 l2 (key_is x he (by omega) _ (by omega))
theorem rows_tail {w : World} {A : Option Addr} {c : Nat} {u : List Int} {l : List (List Int)} (h : Kd.C (Kd.slice 3 (Kd.int .i64)) w A (u :: l).length (u :: l)) (hc : (u :: l).length ≤ c) :
    Kd.C (Kd.slice 3 (Kd.int .i64)) w (if c = 1 then A else A.map (·.add 1)) l.length l := by
  have h2 := Kd.C_drop h (m := 1) (by simp) hc
  have e : 1 * (Kd.slice 3 (Kd.int .i64)).sz = 1 := rfl
  rw [e] at h2
  simpa using h2
theorem restL_sub (l : List (List Int)) (at_ : Nat) : ∀ u ∈ restL l at_, u ∈ l := by
  intro u hu
  unfold restL at hu
  split at hu
  · exact List.mem_of_mem_tail hu
  · exact hu
theorem loop_start {w0 w wx : World} {P : Nat → Prop} {bb bn bk bm : Nat} {v : Value} {N : List Nd} {at_ d : Nat} {l : List (List Int)} {Ar : Option Addr} {cr : Nat}
    (hin : Inner w w0.heap.size P bb bn bk bm v N) (hB : Below w0.heap.size w0 w) (hpre : Pre l at_) (hshort : ∀ x ∈ l, x.length < at_ + (d + 1)) (hroom : N.length + 1 + cost l at_ ≤ 1000000000)
    (hC : Kd.C (Kd.slice 3 (Kd.int .i64)) w0 Ar (restL l at_).length (restL l at_)) (hc : (restL l at_).length ≤ cr) (hb : Below w.heap.size w wx)
    (hx : wx.heap[w.heap.size]? = some (.cells #[.bool (finB l at_), .slice none 0 0, .slice none 0 0, .int .i64 (if finB l at_ then 1 else 0)] 102 (0, 0))) :
    LoopSt w0 w wx P bb bn bk bm v at_ d (restL l at_) Ar cr (startNd l at_) (.slice none 0 0) (.slice none 0 0) v N := by
  obtain ⟨hp, hl⟩ := restL_pre hpre
  have hcost := restL_cost l at_
  have hfew := cost_succ (restL l at_) at_ hl
  refine ⟨⟨hx, Kd.R_nil _ _ _ _ _, Kd.R_nil _ _ _ _ _, ?_, .inl rfl, Kept.of_below hb _, Below.trans hB (hb.mono hB.size), hB.size⟩, hC, hc, hp, hl, fun u hu => hshort u (restL_sub l at_ u hu), rfl, by omega, by simp [startNd]; omega⟩
  exact (hin.bound.below hb).mono fun k hk => ⟨.inl hk.1, by omega, by simp [Value.ownBlock], by simp [Value.ownBlock]⟩
theorem HCof {w0 w : World} {A : Option Addr} {n : Nat} {l : List (List Int)} (h : Kd.C (Kd.slice 3 (Kd.int .i64)) w0 A n l) (hB : Below w0.heap.size w0 w) : Kd.C (Kd.slice 3 (Kd.int .i64)) w A n l := Kd.C_below h hB

theorem keyS (s : ByteArray) (hs : s.size ≤ maxLen) : Go.keyOf Try.prog 9 (.string s) = some (litS s) := by
  simp [Go.keyOf, mapKey, Try.underlying9, litS, hs]
theorem strOfNums_size (xs : List Int) : (strOfNums xs).size = xs.length := by
  simp [strOfNums, ByteArray.size]
theorem keyOf_size (x : Nd) (he : x.f1.length = x.f2.length) (hf : x.f1.length ≤ 100000000000) : (keyOf x).size ≤ maxLen := by
  unfold keyOf
  rw [strOfNums_size, keyN, List.length_cons, restKey_length _ _ he, maxLen]
  omega
section
variable {w0 w wr W wA : World} {P : Nat → Prop} {bb bn bk bm : Nat} {v0 : Value} {x : Nd} {vs vt v v1 : Value} {N : List Nd}
theorem Mid.step (h : Mid w0 w wr P bb bn bk bm v0 x vs vt v N) (hb : Below wr.heap.size wr W) : Mid w0 w W P bb bn bk bm v0 x vs vt v N :=
  ⟨(hb.block _ (blk_lt h.hx)).trans h.hx, Kd.R_below h.hs hb, Kd.R_below h.ht hb, h.inner.below hb, h.hv, h.kept.below hb, h.below.trans (hb.mono h.below.size), h.le⟩
theorem Mid.call (h : Mid w0 w wr P bb bn bk bm v0 x vs vt v N) {r : Int × List Nd} {e : Ending}
    (hp : InPost w0 wr (fun k => (P k ∨ w.heap.size ≤ k) ∧ k ≠ w.heap.size ∧ some k ≠ vs.ownBlock ∧ some k ≠ vt.ownBlock) bb bn bk bm v r e W) :
    ∃ v', e = .returned (.int .i64 r.1) ∧ Mid w0 w W P bb bn bk bm v0 x vs vt v' r.2 := by
  obtain ⟨v', he, hin, hown, hk, hb⟩ := hp
  have hlt := blk_lt h.hx
  have hxv : some w.heap.size ≠ v.ownBlock := fun e => (h.inner.row.1 _ e.symm).2.1 rfl
  have hnt : ∀ {g : Nat} {cs : Array Value} {t : TypeId} {fr : Nat × Nat}, wr.heap[g]? = some (.cells cs t fr) → t ≠ 99 → some g ≠ v.ownBlock → ¬ mayTurn bn bm v g := by
    intro g cs t fr hg ht hne hm
    rcases hm with rfl | rfl | hm
    · exact blk_ne hg h.inner.hbn ht rfl
    · exact h.inner.map.not_cells hg rfl
    · exact hne hm
  have hrow : ∀ {u : Value} {o : Nat → Prop} {xs : List Int}, Kd.R (Kd.int .i64) 3 wr w.heap.size o u xs → (∀ k, some k = u.ownBlock → some k ≠ v.ownBlock) → Kd.R (Kd.int .i64) 3 W w.heap.size o u xs := by
    intro u o xs hu hne
    have h1 := Kd.R_bound (Kd.R_tight2 rfl hu)
    refine Kd.R_mono (Kd.R_kept h1 hk fun k hk' => ?_) fun k hk' => hk'.1.2
    obtain ⟨⟨hk1, _⟩, _, _, q, hq, cells, hc⟩ := hk'
    have hq' : q = 3 := by have h3 : q ∈ [3] := hq; simpa using h3
    subst hq'
    exact hnt hc (by decide) (hne k hk1)
  have hsz := hk.1
  refine ⟨v', he, (hk.2 _ hlt (hnt h.hx (by decide) hxv)).trans h.hx, hrow h.hs (fun k e e2 => (h.inner.row.1 k e2.symm).2.2.1 e), hrow h.ht (fun k e e2 => (h.inner.row.1 k e2.symm).2.2.2 e), hin.mono fun k hk' => ?_, ?_, ?_, hb, h.le⟩
  · rcases hk' with h1 | h1
    · exact h1
    · refine ⟨.inr (by have := h.kept.1; omega), by omega, fun e => ?_, fun e => ?_⟩
      · have := (Kd.R_bound h.hs).1 k e.symm; omega
      · have := (Kd.R_bound h.ht).1 k e.symm; omega
  · rcases hown with h1 | ⟨b, h1, h2⟩
    · rw [h1]; exact h.hv
    · exact .inr ⟨b, h1, by have := h.kept.1; omega⟩
  · refine h.kept.then_ hk fun k hm => ?_
    rcases hm with rfl | rfl | hm
    · exact .inl (.inl rfl)
    · exact .inl (.inr (.inl rfl))
    · rcases h.hv with h1 | ⟨b, h1, h2⟩
      · exact .inl (.inr (.inr (hm.trans h1)))
      · rw [h1] at hm
        obtain rfl := Option.some.inj hm
        exact .inr h2
theorem Mid.app1 (h : Mid w0 w W P bb bn bk bm v0 x vs vt v N) (s : Int) (HO : Kd.R (Kd.int .i64) 3 wA w.heap.size (fun k => some k ≠ vt.ownBlock) v1 (x.f1 ++ [s])) (HG : W.grownBy wA vs.ownBlock) (hown : v1.ownBlock = vs.ownBlock ∨ ∃ b, v1.ownBlock = some b ∧ W.heap.size ≤ b) :
    Mid w0 w (wA.setCell ⟨w.heap.size, 1, none⟩ v1) P bb bn bk bm v0 ⟨x.f0, x.f1 ++ [s], x.f2, x.f3⟩ v1 vt v N := by
  have hsa := h.hs
  have hsb := h.ht
  have hne : ∀ {g : Nat} {cs : Array Value} {t : TypeId} {fr : Nat × Nat}, W.heap[g]? = some (.cells cs t fr) → t ≠ 3 → some g ≠ vs.ownBlock := by
    intro g cs t fr hg ht he
    obtain ⟨cells, hc⟩ := Kd.R_typed hsa g he.symm
    rw [hg] at hc
    injection hc with hc
    injection hc with _ e
    exact ht e
  have hmap : some bm ≠ vs.ownBlock := by
    intro e
    obtain ⟨cells, hc⟩ := Kd.R_typed hsa bm e.symm
    exact h.inner.map.not_cells hc rfl
  have hXA : wA.heap[w.heap.size]? = some (.cells #[.bool x.f0, vs, vt, .int .i64 x.f3] 102 (0, 0)) := (HG.block _ (blk_lt h.hx) (hne h.hx (by decide))).trans h.hx
  have hfr : ∀ k, k < W.heap.size → some k ≠ vs.ownBlock → some k ≠ v1.ownBlock := by
    intro k hk hk2 e
    rcases hown with h1 | ⟨b, h1, h2⟩
    · rw [h1] at e; exact hk2 e
    · rw [h1] at e
      obtain rfl := Option.some.inj e
      omega
  have hA : Kd.R (Kd.int .i64) 3 (wA.setCell ⟨w.heap.size, 1, none⟩ v1) w.heap.size (fun k => some k ≠ vt.ownBlock) v1 (x.f1 ++ [s]) := Kd.R_set HO hXA (by decide) 1 v1
  have hB : Kd.R (Kd.int .i64) 3 (wA.setCell ⟨w.heap.size, 1, none⟩ v1) w.heap.size (fun k => some k ≠ v1.ownBlock) vt x.f2 :=
    Kd.R_mono (Kd.R_set (Kd.R_grown (Kd.R_bound hsb) HG fun k hk => hk.1) hXA (by decide) 1 v1) fun k hk => hfr k hk.2.2.1 hk.1
  have hle : w.heap.size ≤ W.heap.size := h.kept.1
  have hbase : ∀ k, vs.ownBlock = some k → w.heap.size ≤ k := fun k e => ((Kd.R_bound hsa).1 k e).2.1
  refine ⟨blk_put hXA 1 v1 rfl, hA, hB, ?_, h.hv, Kept.setCell (Kept.of_grown HG h.kept fun k e => .inr (hbase k e)) (.inr (Nat.le_refl _)) v1, (h.below.grown HG (Nat.le_trans h.le hle) fun k e => Nat.le_trans h.le (hbase k e)).setCell h.le v1, h.le⟩
  refine ((h.inner.bound.grown HG (fun k hk => hk.1.2.2.1) (hne h.inner.hbb (by decide)) (hne h.inner.hbk (by decide)) (hne h.inner.hbn (by decide)) hmap).setCell (p := ⟨w.heap.size, 1, none⟩) (fun k hk => hk.1.2.1) ?_ ?_ ?_ ?_ v1).mono fun k hk => ?_
  · exact blk_ne h.inner.hbb h.hx (by decide)
  · exact blk_ne h.inner.hbk h.hx (by decide)
  · exact blk_ne h.inner.hbn h.hx (by decide)
  · exact fun e => h.inner.map.not_cells h.hx e.symm
  · exact ⟨hk.1.1, hk.1.2.1, hfr k hk.2 hk.1.2.2.1, hk.1.2.2.2⟩
theorem Mid.app2 (h : Mid w0 w W P bb bn bk bm v0 x vs vt v N) (s : Int) (HO : Kd.R (Kd.int .i64) 3 wA w.heap.size (fun k => some k ≠ vs.ownBlock) v1 (x.f2 ++ [s])) (HG : W.grownBy wA vt.ownBlock) (hown : v1.ownBlock = vt.ownBlock ∨ ∃ b, v1.ownBlock = some b ∧ W.heap.size ≤ b) :
    Mid w0 w (wA.setCell ⟨w.heap.size, 2, none⟩ v1) P bb bn bk bm v0 ⟨x.f0, x.f1, x.f2 ++ [s], x.f3⟩ vs v1 v N := by
  have hsa := h.ht
  have hsb := h.hs
  have hne : ∀ {g : Nat} {cs : Array Value} {t : TypeId} {fr : Nat × Nat}, W.heap[g]? = some (.cells cs t fr) → t ≠ 3 → some g ≠ vt.ownBlock := by
    intro g cs t fr hg ht he
    obtain ⟨cells, hc⟩ := Kd.R_typed hsa g he.symm
    rw [hg] at hc
    injection hc with hc
    injection hc with _ e
    exact ht e
  have hmap : some bm ≠ vt.ownBlock := by
    intro e
    obtain ⟨cells, hc⟩ := Kd.R_typed hsa bm e.symm
    exact h.inner.map.not_cells hc rfl
  have hXA : wA.heap[w.heap.size]? = some (.cells #[.bool x.f0, vs, vt, .int .i64 x.f3] 102 (0, 0)) := (HG.block _ (blk_lt h.hx) (hne h.hx (by decide))).trans h.hx
  have hfr : ∀ k, k < W.heap.size → some k ≠ vt.ownBlock → some k ≠ v1.ownBlock := by
    intro k hk hk2 e
    rcases hown with h1 | ⟨b, h1, h2⟩
    · rw [h1] at e; exact hk2 e
    · rw [h1] at e
      obtain rfl := Option.some.inj e
      omega
  have hA : Kd.R (Kd.int .i64) 3 (wA.setCell ⟨w.heap.size, 2, none⟩ v1) w.heap.size (fun k => some k ≠ vs.ownBlock) v1 (x.f2 ++ [s]) := Kd.R_set HO hXA (by decide) 2 v1
  have hB : Kd.R (Kd.int .i64) 3 (wA.setCell ⟨w.heap.size, 2, none⟩ v1) w.heap.size (fun k => some k ≠ v1.ownBlock) vs x.f1 :=
    Kd.R_mono (Kd.R_set (Kd.R_grown (Kd.R_bound hsb) HG fun k hk => hk.1) hXA (by decide) 2 v1) fun k hk => hfr k hk.2.2.1 hk.1
  have hle : w.heap.size ≤ W.heap.size := h.kept.1
  have hbase : ∀ k, vt.ownBlock = some k → w.heap.size ≤ k := fun k e => ((Kd.R_bound hsa).1 k e).2.1
  refine ⟨blk_put hXA 2 v1 rfl, hB, hA, ?_, h.hv, Kept.setCell (Kept.of_grown HG h.kept fun k e => .inr (hbase k e)) (.inr (Nat.le_refl _)) v1, (h.below.grown HG (Nat.le_trans h.le hle) fun k e => Nat.le_trans h.le (hbase k e)).setCell h.le v1, h.le⟩
  refine ((h.inner.bound.grown HG (fun k hk => hk.1.2.2.2) (hne h.inner.hbb (by decide)) (hne h.inner.hbk (by decide)) (hne h.inner.hbn (by decide)) hmap).setCell (p := ⟨w.heap.size, 2, none⟩) (fun k hk => hk.1.2.1) ?_ ?_ ?_ ?_ v1).mono fun k hk => ?_
  · exact blk_ne h.inner.hbb h.hx (by decide)
  · exact blk_ne h.inner.hbk h.hx (by decide)
  · exact blk_ne h.inner.hbn h.hx (by decide)
  · exact fun e => h.inner.map.not_cells h.hx e.symm
  · exact ⟨hk.1.1, hk.1.2.1, hk.1.2.2.1, hfr k hk.2 hk.1.2.2.2⟩
theorem Mid.cnt (h : Mid w0 w W P bb bn bk bm v0 x vs vt v N) (s : Int) : Mid w0 w (W.setCell ⟨w.heap.size, 3, none⟩ (.int .i64 s)) P bb bn bk bm v0 ⟨x.f0, x.f1, x.f2, s⟩ vs vt v N := by
  refine ⟨blk_put h.hx 3 _ rfl, Kd.R_set h.hs h.hx (by decide) 3 _, Kd.R_set h.ht h.hx (by decide) 3 _, h.inner.setCell (p := ⟨w.heap.size, 3, none⟩) (fun k hk => hk.2.1) ?_ ?_ ?_ ?_ _, h.hv, h.kept.setCell (.inr (Nat.le_refl _)) _, h.below.setCell h.le _, h.le⟩
  · exact blk_ne h.inner.hbb h.hx (by decide)
  · exact blk_ne h.inner.hbk h.hx (by decide)
  · exact blk_ne h.inner.hbn h.hx (by decide)
  · exact fun e => h.inner.map.not_cells h.hx e.symm
end
section
variable {w0 w wr W W2 w3 : World} {P : Nat → Prop} {bb bn bk bm : Nat} {v0 : Value} {at_ d : Nat} {Ar : Option Addr} {cr : Nat} {x : Nd} {vs vt v v1 : Value} {N : List Nd}
/-- It is known. -/
theorem known_post (hL : LoopSt w0 w wr P bb bn bk bm v0 at_ d [] Ar cr x vs vt v N) (hb : Below wr.heap.size wr W) (k : Int) : InPost w0 w P bb bn bk bm v0 (k, N) (.returned (.int .i64 k)) W :=
  ⟨v, rfl, (hL.inner.below hb).mono fun k hk => hk.1, hL.hv, hL.kept.below hb, hL.below.trans (hb.mono hL.below.size)⟩
theorem push_room (hL : LoopSt w0 w wr P bb bn bk bm v0 at_ d [] Ar cr x vs vt v N) : (N.length + 1) * 64 ≤ 140737488355328 := by have := hL.room; omega
/-- The row of nodes as append wants it. -/
theorem push_row (hL : LoopSt w0 w wr P bb bn bk bm v0 at_ d [] Ar cr x vs vt v N) (hb : Below wr.heap.size wr W) (hg : W.grownBy W2 (some bm)) : Kd.R k102 102 W2 w0.heap.size (fun k => P k ∨ w.heap.size ≤ k) v N := by
  have hi := hL.inner.below hb
  refine Kd.R_mono (Kd.R_grown (Kd.R_bound hi.row) hg fun k hk => ?_) fun k hk => hk.1.1
  obtain ⟨_, _, _, q, _, cells, hc⟩ := hk
  intro e
  exact hi.map.not_cells hc (Option.some.inj e)
theorem push_elem (hL : LoopSt w0 w wr P bb bn bk bm v0 at_ d [] Ar cr x vs vt v N) (hb : Below wr.heap.size wr W) (hg : W.grownBy W2 (some bm)) :
    k102.M W2 w0.heap.size (fun k => w.heap.size ≤ k ∧ (some k = vs.ownBlock ∨ some k = vt.ownBlock)) x [.bool x.f0, vs, vt, .int .i64 x.f3] := by
  have hi := hL.inner.below hb
  have key : ∀ {u : Value} {o : Nat → Prop} {xs : List Int}, Kd.R (Kd.int .i64) 3 wr w.heap.size o u xs → (u = vs ∨ u = vt) → Kd.R (Kd.int .i64) 3 W2 w0.heap.size (fun k => w.heap.size ≤ k ∧ (some k = vs.ownBlock ∨ some k = vt.ownBlock)) u xs := by
    intro u o xs h hu
    have h1 := Kd.R_bound (Kd.R_tight rfl (Kd.R_below h hb))
    refine Kd.R_lower (Kd.R_mono (Kd.R_grown h1 hg fun k hk => ?_) fun k hk => ⟨hk.2.1, ?_⟩) hL.le
    · obtain ⟨_, _, _, q, _, cells, hc⟩ := hk
      intro e
      exact hi.map.not_cells hc (Option.some.inj e)
    · rcases hu with rfl | rfl
      · exact .inl hk.1
      · exact .inr hk.1
  exact k102_mkM W2 _ _ x (key hL.hs (.inl rfl)) (key hL.ht (.inr rfl))
theorem push_apart (hL : LoopSt w0 w wr P bb bn bk bm v0 at_ d [] Ar cr x vs vt v N) : ∀ k, (w.heap.size ≤ k ∧ (some k = vs.ownBlock ∨ some k = vt.ownBlock)) → (P k ∨ w.heap.size ≤ k) ∧ some k ≠ v.ownBlock := by
  intro k hk
  refine ⟨.inr hk.1, fun e => ?_⟩
  have := hL.inner.row.1 k e.symm
  rcases hk.2 with h | h
  · exact this.2.2.1 h
  · exact this.2.2.2 h
theorem push_box (hL : LoopSt w0 w wr P bb bn bk bm v0 at_ d [] Ar cr x vs vt v N) (hb : Below wr.heap.size wr W) (hg2 : W.grownBy W2 (some bm)) (HG : W2.grownBy w3 v.ownBlock) : w3.heap[bn]? = some (.cells #[v] 99 (0, 0)) := by
  have hi := hL.inner.below hb
  have h2 : W2.heap[bn]? = some (.cells #[v] 99 (0, 0)) := (hg2.block bn (blk_lt hi.hbn) (by intro e; exact hi.map.not_cells hi.hbn (Option.some.inj e))).trans hi.hbn
  refine (HG.block bn (blk_lt h2) ?_).trans h2
  intro e
  obtain ⟨cells, hc⟩ := Kd.R_typed hi.row bn e.symm
  rw [hi.hbn] at hc
  injection hc with hc
  injection hc with _ e2
  exact absurd e2 (by decide)
theorem push_post (hL : LoopSt w0 w wr P bb bn bk bm v0 at_ d [] Ar cr x vs vt v N) (hkn : knownF N (keyOf x) = none) (hb : Below wr.heap.size wr W) (hg2 : W.grownBy W2 (some bm))
    (hm2 : MapHas 9 litS W2 bm (N.length + 1) (fun y => if y = keyOf x then some (N.length : Int) else knownF N y)) (HO : Kd.R k102 102 w3 w0.heap.size (fun k => P k ∨ w.heap.size ≤ k) v1 (N ++ [x]))
    (HG : W2.grownBy w3 v.ownBlock) (hown : v1.ownBlock = v.ownBlock ∨ ∃ b, v1.ownBlock = some b ∧ W2.heap.size ≤ b) (HB3 : Below w0.heap.size w0 w3) :
    InPost w0 w P bb bn bk bm v0 ((N.length : Int), N ++ [x]) (.returned (.int .i64 (N.length : Int))) (w3.setCell ⟨bn, 0, none⟩ v1) := by
  have hi := hL.inner.below hb
  have hty : ∀ k, v.ownBlock = some k → ∃ cells, W.heap[k]? = some (.cells cells 102 (0, 0)) := Kd.R_typed hi.row
  have hne : ∀ {g : Nat} {cs : Array Value} {t : TypeId} {fr : Nat × Nat}, W.heap[g]? = some (.cells cs t fr) → t ≠ 102 → some g ≠ v.ownBlock := by
    intro g cs t fr hg ht he
    obtain ⟨cells, hc⟩ := hty g he.symm
    rw [hg] at hc
    injection hc with hc
    injection hc with _ e
    exact ht e
  have hcar : ∀ {g : Nat} {cs : Array Value} {t : TypeId} {fr : Nat × Nat}, W.heap[g]? = some (.cells cs t fr) → t ≠ 102 → w3.heap[g]? = some (.cells cs t fr) := by
    intro g cs t fr hg ht
    have h2 : W2.heap[g]? = some (.cells cs t fr) := (hg2.block g (blk_lt hg) (by intro e; exact hi.map.not_cells hg (Option.some.inj e))).trans hg
    exact (HG.block g (blk_lt h2) (hne hg ht)).trans h2
  have h3bb := hcar hi.hbb (by decide)
  have h3bk := hcar hi.hbk (by decide)
  have h3bn := hcar hi.hbn (by decide)
  have hbm3 : w3.heap[bm]? = W2.heap[bm]? := HG.block bm hm2.lt (by
    intro e
    obtain ⟨cells, hc⟩ := hty bm e.symm
    exact hi.map.not_cells hc rfl)
  have hm3 := hm2.of_block hbm3
  refine ⟨v1, rfl, ⟨?_, ?_, ?_, ?_, ?_, hi.lbn, hi.lbm⟩, ?_, ?_, ?_⟩
  · exact (Below.heap_setCell w3 _ v1 bb (blk_ne h3bb h3bn (by decide))).trans h3bb
  · exact (Below.heap_setCell w3 _ v1 bk (blk_ne h3bk h3bn (by decide))).trans h3bk
  · exact one_setCell h3bn
  · exact Kd.R_set HO h3bn (by decide) 0 v1
  · rw [List.length_append]
    have := hm3.of_block (w' := w3.setCell ⟨bn, 0, none⟩ v1) (Below.heap_setCell w3 _ v1 bm (fun e => hm3.not_cells h3bn e.symm))
    obtain ⟨D, h1, h2⟩ := this
    exact ⟨D, h1, fun y => by rw [knownF_snoc N x hkn y]; exact h2 y⟩
  · rcases hown with h | ⟨b, h, hb'⟩
    · rw [h]; exact hL.hv
    · refine .inr ⟨b, h, ?_⟩
      have h1 := hL.kept.1
      have h2 := hb.size
      have h3 := hg2.size
      omega
  · refine Kept.setCell (Kept.of_grown HG (Kept.of_grown hg2 (hL.kept.below hb) ?_) ?_) (.inl (.inl rfl)) v1
    · intro k e
      obtain rfl := Option.some.inj e
      exact .inl (.inr (.inl rfl))
    · intro k e
      rcases hL.hv with h | ⟨b, h, hb'⟩
      · exact .inl (.inr (.inr (e.symm.trans h)))
      · rw [h] at e
        obtain rfl := Option.some.inj e
        exact .inr hb'
  · exact HB3.setCell hi.lbn v1
end

end Go.Proofs.Ytcdjeimjbbknjaa.PAll
