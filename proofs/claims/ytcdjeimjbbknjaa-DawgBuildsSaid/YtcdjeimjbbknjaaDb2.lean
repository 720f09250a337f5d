import Derived.Test.YtcdjeimjbbknjaaProg
import Derived.Below
import Derived.Deep.Draws
import Derived.Deep.AppendLies
import Derived.Maps.AppendAt
import Derived.OwnWalk
import Derived.Laws.BytesArg
import Derived.Laws.MakeOwn
import Derived.Laws.OwnMore
import Derived.Deep.OwnRows
import Derived.Tactics
import Derived.Lib.ConvBytes
import Derived.Laws.Slices
import Derived.WalkKit
import Derived.KernelRfl
import Derived.RowKit3
import Derived.Deep.LoopGhost
import Derived.Deep.QuietTactic
import Derived.BigQuiet
import Derived.WideLaws
import Derived.Deep.DeepCutAuto
import Derived.Deep.CutBlock
import Derived.Deep.RegionHeld3
import Derived.Laws.Rows
import Derived.Lib.AppendStr
import Derived.ArgAppend
import Derived.Laws.IdiomCopy
import Derived.OrdersHeld
import Derived.Laws.BitsLemmas
import Derived.RowKit
import Derived.WalkSpells
import Derived.Maps.OwnSet
import Derived.StillTailTactics
import Derived.IntWalk
import Derived.Test.YtcdjeimjbbknjaaDb1
namespace Go.Proofs.Ytcdjeimjbbknjaa.PAll
open Go.RowKit Go.Proofs.YtcdjeimjbbknjaaW.PrintWords Go.Proofs.YtcdjeimjbbknjaaW.PrintLast Go.Proofs.YtcdjeimjbbknjaaW.PrintMore
attribute [local go_sem] max2_int min2_int max_two min_two max_three min_three max_four min_four   -- for this text's walks alone
set_option linter.unusedVariables false
set_option linter.unusedSimpArgs false



def errW : Option Int → Value
  | none => .nilIface
  | some c => .iface 0 (.int .i64 c)
theorem errW_none : errW none = .nilIface := rfl
theorem errW_some (c : Int) : errW (some c) = .iface 0 (.int .i64 c) := rfl

theorem info3 : (Try.prog.info? 3).map (fun i => (i.zero, i.size, i.bytes)) = some (some (.int .i64 0), 1, 8) := by kernel_rfl
theorem info4 : (Try.prog.info? 4).map (fun i => (i.zero, i.size, i.bytes)) = some (some (.bool false), 1, 1) := by kernel_rfl
theorem info5 : (Try.prog.info? 5).map (fun i => (i.zero, i.size, i.bytes)) = some (some (.int .u8 0), 1, 1) := by kernel_rfl
theorem info22 : (Try.prog.info? 22).map (fun i => (i.zero, i.size, i.bytes)) = some (some (.slice none 0 0), 1, 24) := by kernel_rfl
theorem info102 : (Try.prog.info? 102).map (fun i => (i.zero, i.size, i.bytes)) = some (some (.agg #[(.bool false), (.slice none 0 0), (.slice none 0 0), (.int .i64 0)]), 4, 64) := by kernel_rfl
def rd_L2 (xs : List (List Int)) (i : Int) : (List Int) := xs.getD i.toNat ([] : List Int)
theorem at_L2 {w : World} {A : Option Addr} {n : Nat} {xs : List (List Int)} (h : Kd.C (Kd.slice 3 (Kd.int .i64)) w A n xs) (i : Int) (h0 : 0 ≤ i) (h1 : i < n) : ∃ ad A0 c0, A = some ad ∧ w.cell? (ad.add i.toNat) = some (.slice A0 (rd_L2 xs i).length c0) ∧ (rd_L2 xs i).length ≤ c0 ∧ (Kd.int .i64).C w A0 (rd_L2 xs i).length (rd_L2 xs i) := by
 obtain ⟨ad, c, e, _, hK, hc0⟩ := Kd.C_get h ([] : List Int) i h0 h1
 have hc : ∀ j u, c[j]? = some u → w.cell? (ad.add (i.toNat * 1 + j)) = some u := hc0
 obtain ⟨A0, c0, rfl, l0, g0⟩ := hK
 exact ⟨ad, A0, c0, e, by have hq := hc 0 _ rfl; rwa [Nat.mul_one, Nat.add_zero] at hq, l0, g0⟩

structure S106 where
  f0 : Int
  f1 : Int
  f2 : Int
def z106 : S106 := ⟨(0 : Int), (0 : Int), (0 : Int)⟩
def k106 : Kd S106 := Kd.iso (Kd.pair (Kd.int .i64) (Kd.pair (Kd.int .i64) (Kd.int .i64))) (fun x : S106 => (x.f0, x.f1, x.f2))
theorem k106_open {w : World} {x : S106} {cs : List Value} (h : k106.K w x cs) : cs = [.int .i64 x.f0, .int .i64 x.f1, .int .i64 x.f2] := by
 obtain ⟨_, _, rfl, rfl, ⟨_, _, rfl, rfl, rfl⟩⟩ := h
 exact rfl
theorem k106_mkM (w : World) (base : Nat) (ok : Nat → Prop) (x : S106)  : k106.M w base ok x [.int .i64 x.f0, .int .i64 x.f1, .int .i64 x.f2] := ⟨[.int .i64 x.f0], [.int .i64 x.f1, .int .i64 x.f2], rfl, rfl, ⟨[.int .i64 x.f1], [.int .i64 x.f2], rfl, rfl, rfl⟩⟩
def rd_T106 (xs : List S106) (i : Int) : S106 := xs.getD i.toNat z106
theorem at_T106 {w : World} {A : Option Addr} {n : Nat} {xs : List S106} (h : Kd.C k106 w A n xs) (i : Int) (h0 : 0 ≤ i) (h1 : i < n) : ∃ ad , A = some ad ∧ w.cell? (ad.add (i.toNat * 3)) = some (.int .i64 (rd_T106 xs i).f0) ∧ w.cell? ⟨(ad.add (i.toNat * 3)).block, (ad.add (i.toNat * 3)).off + 1, none⟩ = some (.int .i64 (rd_T106 xs i).f1) ∧ w.cell? ⟨(ad.add (i.toNat * 3)).block, (ad.add (i.toNat * 3)).off + 2, none⟩ = some (.int .i64 (rd_T106 xs i).f2) := by
 obtain ⟨ad, c, e, _, hK, hc0⟩ := Kd.C_get h z106 i h0 h1
 have hc : ∀ j u, c[j]? = some u → w.cell? (ad.add (i.toNat * 3 + j)) = some u := hc0
 obtain rfl := k106_open hK
 exact ⟨ad, e, hc 0 _ rfl, by rw [← add_field _ _ 1 (by omega)]; exact hc 1 _ rfl, by rw [← add_field _ _ 2 (by omega)]; exact hc 2 _ rfl⟩

structure S102 where
  f0 : Bool
  f1 : (List Int)
  f2 : (List Int)
  f3 : Int
def z102 : S102 := ⟨false, ([] : List Int), ([] : List Int), (0 : Int)⟩
def k102 : Kd S102 := Kd.iso (Kd.pair Kd.bool (Kd.pair (Kd.slice 3 (Kd.int .i64)) (Kd.pair (Kd.slice 3 (Kd.int .i64)) (Kd.int .i64)))) (fun x : S102 => (x.f0, x.f1, x.f2, x.f3))
theorem k102_open {w : World} {x : S102} {cs : List Value} (h : k102.K w x cs) : ∃ A1 c1 A2 c2, cs = [.bool x.f0, .slice A1 x.f1.length c1, .slice A2 x.f2.length c2, .int .i64 x.f3] ∧ x.f1.length ≤ c1 ∧ (Kd.int .i64).C w A1 x.f1.length x.f1 ∧ x.f2.length ≤ c2 ∧ (Kd.int .i64).C w A2 x.f2.length x.f2 := by
 obtain ⟨_, _, rfl, rfl, ⟨_, _, rfl, ⟨A1, c1, rfl, l1, g1⟩, ⟨_, _, rfl, ⟨A2, c2, rfl, l2, g2⟩, rfl⟩⟩⟩ := h
 exact ⟨A1, c1, A2, c2, rfl, l1, g1, l2, g2⟩
theorem k102_mk (w : World) (x : S102) {A1 : Option Addr} {c1 : Nat} (l1 : x.f1.length ≤ c1) (g1 : (Kd.int .i64).C w A1 x.f1.length x.f1) {A2 : Option Addr} {c2 : Nat} (l2 : x.f2.length ≤ c2) (g2 : (Kd.int .i64).C w A2 x.f2.length x.f2) : k102.K w x [.bool x.f0, .slice A1 x.f1.length c1, .slice A2 x.f2.length c2, .int .i64 x.f3] := ⟨[.bool x.f0], [.slice A1 x.f1.length c1, .slice A2 x.f2.length c2, .int .i64 x.f3], rfl, rfl, ⟨[.slice A1 x.f1.length c1], [.slice A2 x.f2.length c2, .int .i64 x.f3], rfl, ⟨A1, c1, rfl, l1, g1⟩, ⟨[.slice A2 x.f2.length c2], [.int .i64 x.f3], rfl, ⟨A2, c2, rfl, l2, g2⟩, rfl⟩⟩⟩
theorem k102_mkM (w : World) (base : Nat) (ok : Nat → Prop) (x : S102) {v1 : Value} (g1 : (Kd.int .i64).R 3 w base ok v1 x.f1) {v2 : Value} (g2 : (Kd.int .i64).R 3 w base ok v2 x.f2) : k102.M w base ok x [.bool x.f0, v1, v2, .int .i64 x.f3] := ⟨[.bool x.f0], [v1, v2, .int .i64 x.f3], rfl, rfl, ⟨[v1], [v2, .int .i64 x.f3], rfl, ⟨v1, rfl, g1⟩, ⟨[v2], [.int .i64 x.f3], rfl, ⟨v2, rfl, g2⟩, rfl⟩⟩⟩
theorem k102_mkF (W : World) (ok : Nat → Prop) (x : S102) {A1 : Option Addr} {c1 : Nat} (l1 : x.f1.length ≤ c1) (g1 : Kd.F (Kd.int .i64) W ok A1 x.f1.length x.f1) {A2 : Option Addr} {c2 : Nat} (l2 : x.f2.length ≤ c2) (g2 : Kd.F (Kd.int .i64) W ok A2 x.f2.length x.f2) : Kd.FK k102 W ok x [.bool x.f0, .slice A1 x.f1.length c1, .slice A2 x.f2.length c2, .int .i64 x.f3] := fun W2 hW => k102_mk W2 x l1 (g1 W2 hW) l2 (g2 W2 hW)
def rd_T102 (xs : List S102) (i : Int) : S102 := xs.getD i.toNat z102
theorem at_T102 {w : World} {A : Option Addr} {n : Nat} {xs : List S102} (h : Kd.C k102 w A n xs) (i : Int) (h0 : 0 ≤ i) (h1 : i < n) : ∃ ad A1 c1 A2 c2, A = some ad ∧ w.cell? (ad.add (i.toNat * 4)) = some (.bool (rd_T102 xs i).f0) ∧ w.cell? ⟨(ad.add (i.toNat * 4)).block, (ad.add (i.toNat * 4)).off + 1, none⟩ = some (.slice A1 (rd_T102 xs i).f1.length c1) ∧ w.cell? ⟨(ad.add (i.toNat * 4)).block, (ad.add (i.toNat * 4)).off + 2, none⟩ = some (.slice A2 (rd_T102 xs i).f2.length c2) ∧ w.cell? ⟨(ad.add (i.toNat * 4)).block, (ad.add (i.toNat * 4)).off + 3, none⟩ = some (.int .i64 (rd_T102 xs i).f3) ∧ (rd_T102 xs i).f1.length ≤ c1 ∧ (Kd.int .i64).C w A1 (rd_T102 xs i).f1.length (rd_T102 xs i).f1 ∧ (rd_T102 xs i).f2.length ≤ c2 ∧ (Kd.int .i64).C w A2 (rd_T102 xs i).f2.length (rd_T102 xs i).f2 := by
 obtain ⟨ad, c, e, _, hK, hc0⟩ := Kd.C_get h z102 i h0 h1
 have hc : ∀ j u, c[j]? = some u → w.cell? (ad.add (i.toNat * 4 + j)) = some u := hc0
 obtain ⟨A1, c1, A2, c2, rfl, l1, g1, l2, g2⟩ := k102_open hK
 exact ⟨ad, A1, c1, A2, c2, e, hc 0 _ rfl, by rw [← add_field _ _ 1 (by omega)]; exact hc 1 _ rfl, by rw [← add_field _ _ 2 (by omega)]; exact hc 2 _ rfl, by rw [← add_field _ _ 3 (by omega)]; exact hc 3 _ rfl, l1, g1, l2, g2⟩

structure S86 where
  f0 : Int
  f1 : Int
structure S139 where
  f0 : ByteArray
  f1 : Int
  f2 : Int
  f3 : Int
  f4 : Int
end Go.Proofs.Ytcdjeimjbbknjaa.PAll
namespace Go.Proofs.Ytcdjeimjbbknjaa.PAll
open Go.RowKit Go.Proofs.YtcdjeimjbbknjaaW.PrintWords Go.Proofs.YtcdjeimjbbknjaaW.PrintLast Go.Proofs.YtcdjeimjbbknjaaW.PrintMore
attribute [local go_sem] max2_int min2_int max_two min_two max_three min_three max_four min_four   -- for this text's walks alone
set_option linter.unusedVariables false
set_option linter.unusedSimpArgs false

mutual
def dawg_node_key.j0 : Nat → List Int → Bool → List Int → List Int → Int → Option (ByteArray)
  | 0, _, _, _, _, _ => none
  | k + 1, x3, x102000, x102001, x102002, x102003 => dawg_node_key.l0 k x3 x102001 (x102001.length : Int) 0 x102000 x102001 x102002 x102003
def dawg_node_key.l0 : Nat → List Int → List Int → Int → Int → Bool → List Int → List Int → Int → Option (ByteArray)
  | 0, _, _, _, _, _, _, _, _ => none
  | k + 1, x3, x12, x13, x14, x102000, x102001, x102002, x102003 => if x14 < x13 then (if 0 ≤ x14 then (if x14 < (x12.length : Int) then (if x14 < (x102002.length : Int) then ((some (([(rd x12 x14) % 256, (rd x102002 x14) % 256, ((rd x102002 x14) / 256) % 256, ((rd x102002 x14) / 65536) % 256] : List Int) : List Int)).bind fun y110 => (if x3.length + y110.length < 140737488355328 then (dawg_node_key.l0 k (x3 ++ y110) x12 x13 (wrap64 (x14 + 1)) x102000 x102001 x102002 x102003) else (none))) else (none)) else (none)) else (none)) else (some (strOfNums x3))
end
def dawg_node_key.f (k : Nat) (a0_0 : Bool) (l0_1 : List Int) (l0_2 : List Int) (a0_3 : Int) : Option (ByteArray) := (some (([0] : List Int) : List Int)).bind fun y102 => (if a0_0 = true then (if 0 < (y102.length : Int) then (dawg_node_key.j0 k (y102.set (0 : Int).toNat 1) a0_0 l0_1 l0_2 a0_3) else (none)) else (dawg_node_key.j0 k y102 a0_0 l0_1 l0_2 a0_3))
def dawg_node_key.T7 : Bool × List (List Nat × List Nat) := (true, [([], []), ([], []), ([1], [1]), ([], []), ([3], [3]), ([], []), ([4, 5], [4, 5]), ([6], [6]), ([7], [7]), ([], []), ([9], [9]), ([], []), ([10, 11], [10, 11]), ([12], [12]), ([13], [13]), ([14], [14]), ([], []), ([16], [16]), ([], []), ([17, 18], [17, 18]), ([19], [19]), ([20], [20]), ([21], [21]), ([2, 8, 15, 22], [2, 8, 15, 22]), ([0, 23], [0, 23]), ([24, 24, 0, 1, 2, 3, 4, 5, 6, 7, 8, 9, 10, 11, 12, 13, 14, 15, 16, 17, 18, 19, 20, 21, 22, 23, 24], [0, 24])])
def dawg_node_key.B7 : List Nat := [0, 0, 2, 0, 8, 0, 56, 120, 248, 0, 512, 0, 3584, 7680, 15872, 32256, 0, 65536, 0, 458752, 983040, 2031616, 4128768, 8388606, 16777215, 33554431]
theorem dawg_node_key.tab7 : rtab .any (opsOf Try.f68 7) = dawg_node_key.T7 := by kernel_rfl
theorem dawg_node_key.bits7 : waitsOk dawg_node_key.T7.2 dawg_node_key.B7 = true := by kernel_rfl
set_option maxHeartbeats 8000000 in
set_option maxRecDepth 100000 in
theorem dawg_node_key.calls (k : Nat) (a0_0 : Bool) (A0_1 : Option Addr) (c0_1 : Nat) (l0_1 : List Int) (A0_2 : Option Addr) (c0_2 : Nat) (l0_2 : List Int) (a0_3 : Int) (r : ByteArray) (w : World) (hr0_1 : Kd.C (Kd.int .i64) w A0_1 l0_1.length l0_1) (hc0_1 : l0_1.length ≤ c0_1) (hr0_2 : Kd.C (Kd.int .i64) w A0_2 l0_2.length l0_2) (hc0_2 : l0_2.length ≤ c0_2) (h : dawg_node_key.f k a0_0 l0_1 l0_2 a0_3 = some r) :
    Calls Try.prog 68 #[.agg #[.bool a0_0, .slice A0_1 l0_1.length c0_1, .slice A0_2 l0_2.length c0_2, .int .i64 a0_3]] w fun e w' => e = .returned (.string r) ∧ Below w.heap.size w w' := by
 have hu102 := Try.underlying102
 have HR0_1 := Aside0.mk hr0_1
 have HC0_1 := Aside0.mk hc0_1
 clear hr0_1 hc0_1
 have HR0_2 := Aside0.mk hr0_2
 have HC0_2 := Aside0.mk hc0_2
 clear hr0_2 hc0_2
 have HB := Aside0.mk (Below.refl w.heap.size w)
 have H : ((some (([0] : List Int) : List Int)).bind fun ad => (if a0_0 = true then (if 0 < (ad.length : Int) then (dawg_node_key.j0 k (ad.set (0 : Int).toNat 1) a0_0 l0_1 l0_2 a0_3) else (none)) else (dawg_node_key.j0 k ad a0_0 l0_1 l0_2 a0_3))) = some r := h
 clear h
 obtain ⟨ad, hy102⟩ : ∃ y_ : List Int, y_ = (([0] : List Int)) := ⟨_, rfl⟩
 replace H : (if a0_0 = true then (if 0 < (ad.length : Int) then (dawg_node_key.j0 k (ad.set (0 : Int).toNat 1) a0_0 l0_1 l0_2 a0_3) else (none)) else (dawg_node_key.j0 k ad a0_0 l0_1 l0_2 a0_3)) = some r := by (have H2_ := (Option.bind_some _ _).symm.trans H; rw [hy102]; with_reducible exact H2_)
 have Ny102 := Aside0.mk hy102
 clear hy102
 have HC2 := Aside0.mk H
 clear H
 go_enter Try.func68, Try.ntmps68
 go_upto_if 8 with (first | ((with_reducible refine gate_dst (N := 1) rfl ?_); refine box_event ?hg (N := 1) ?hd (cs := #[.bool a0_0, .slice A0_1 l0_1.length c0_1, .slice A0_2 l0_2.length c0_2, .int .i64 a0_3]) (t := 102) ?hr ?_; (case hd => rfl); (case hg => rfl); (case hr => first | (go_simp; done) | (go_simp; rfl)); intro ac hg w3 hbox hb; have am := Aside0.mk (below_step HB.out hb); have al := Aside0.mk (hbox); have ak := Aside0.mk ((by rw [hg]; exact (below_size HB.out) : w.heap.size ≤ ac)); have aM := Aside0.mk ((by rw [hg]; exact (below_size HB.out) : w.heap.size ≤ ac)); clear HB; have HB := am; have ab := al; have bd := ak; have be := aM; clear am al ak aM; clear hb hbox hg) | ((with_reducible refine gate_dst (N := 6) rfl ?_); refine Kd.R_lit (Kd.int .u8) _ 5 ?hg (N := 6) ?hd (xs := ([0] : List Int)) (inner := [.int .u8 0]) (ok := fun _ => True) (okp := fun _ => True) ?hr ?hp (fun _ hk => hk) trivial (Below.refl _ _) (Nat.le_refl _) (by simp) ?_; (case hd => rfl); (case hg => rfl); (case hr => first | (go_simp; done) | (go_simp; rfl)); (case hp => exact (Reps.one (show Kd.M (Kd.int .u8) _ _ _ 0 [.int .u8 0] from rfl) (Reps.none _ _))); intro v103 w4 ho5 hb hg_ hnew_; clear hg_ hnew_; (first | rw [← Ny102.out] at ho5 | (simp only [Int.reduceToNat] at ho5; rw [← Ny102.out] at ho5)); have am := Aside0.mk (Kd.R_lower ho5 (below_size HB.out)); have al := Aside0.mk (blk_below (g := ac) (o := .cells #[.bool a0_0, .slice A0_1 l0_1.length c0_1, .slice A0_2 l0_2.length c0_2, .int .i64 a0_3] 102 (0, 0)) ab.out hb); have ak := Aside0.mk (below_step HB.out hb); clear ab; clear HB; have HO104 := am; have ab := al; have HB := ak; clear am al ak; clear hb ho5; have ay : w4.cell? ⟨ac, 0, none⟩ = some (.bool a0_0) := (blk_cell ab.out 0).trans rfl; have ax : w4.cell? ⟨ac, 1, none⟩ = some (.slice A0_1 l0_1.length c0_1) := (blk_cell ab.out 1).trans rfl; have aw : w4.cell? ⟨ac, 2, none⟩ = some (.slice A0_2 l0_2.length c0_2) := (blk_cell ab.out 2).trans rfl; have av : w4.cell? ⟨ac, 3, none⟩ = some (.int .i64 a0_3) := (blk_cell ab.out 3).trans rfl; have au := blk_frozen ab.out 0; have ar := blk_frozen ab.out 1; have aq := blk_frozen ab.out 2; have ap := blk_frozen ab.out 3))
 (try simp only [Act.put, List.setIfInBounds_toArray, List.set_cons_zero, List.set_cons_succ])
 go_cut [] (fun wc => ∃ (kq : Nat) (az : List Int), Aside0 (dawg_node_key.j0 kq az a0_0 l0_1 l0_2 a0_3 = some r) ∧ Aside0 (kq ≤ k) ∧ Aside0 (Kd.R (Kd.int .u8) 5 wc w.heap.size (fun _ => True) v103 az) ∧ Aside0 (wc.heap[ac]? = some (.cells #[.bool a0_0, (.slice A0_1 l0_1.length c0_1), (.slice A0_2 l0_2.length c0_2), .int .i64 a0_3] 102 (0, 0))) ∧ Aside0 (Below w.heap.size w wc))
 case first =>
  have H := HC2.out
  clear HC2
  by_cases c7 : a0_0 = true
  ·
   subst c7
   have H1 : (if 0 < (ad.length : Int) then (dawg_node_key.j0 k (ad.set (0 : Int).toNat 1) true l0_1 l0_2 a0_3) else (none)) = some r := by rw [if_pos rfl] at H; exact H
   clear H
   have H := H1
   clear H1
   have c8 : 0 < (ad.length : Int) := Classical.byContradiction fun c_ => by rw [if_neg c_] at H; exact absurd H (by simp)
   rw [if_pos c8] at H
   have aK : decide (0 < (ad.length : Int)) = true := decide_eq_true c8
   have aQ : decide (0 < ad.length) = true := decide_eq_true (by omega)
   clear c8
   (first | rw [aK] | (simp only [i64_w, i32_w]; rw [aK]) | skip)
   obtain ⟨aN, hy105⟩ : ∃ y_ : List Int, y_ = (ad.set (0 : Int).toNat 1) := ⟨_, rfl⟩
   replace H : (dawg_node_key.j0 k aN true l0_1 l0_2 a0_3) = some r := by (rw [hy105]; with_reducible exact H)
   have Ny105 := Aside0.mk hy105
   clear hy105
   have H' := Aside0.mk H
   clear H
   have p9 : 0 ≤ (0 : Int) := (by omega)
   have q9 : (0 : Int) < ((ad.length : Int) : Int) := of_decide_eq_true (by first | (with_reducible assumption) | assumption)
   have qi9 : (0 < ad.length) = True := eq_true (by omega)
   obtain ⟨go9, bf, eo9, aX, gl9, cl9, HG9⟩ := Kd.R_form HO104.out (by omega)
   (first | cases eo9 | (injection eo9 with ea_ en_ ec_; (first | subst ea_ | (injection ea_ with ea_; subst ea_)); subst ec_; clear en_))
   have GB9 := Aside0.mk aX
   have GG9 := Aside0.mk HG9
   clear aX gl9 HG9
   obtain ⟨an, hf9_0⟩ := Kd.R_celln 0 HO104.out (0 : Int) p9 q9
   (try rw [show ((0 : Int)).toNat = 0 from rfl] at an)
   (try simp only [Nat.reduceMul, Nat.zero_mul, Nat.zero_add, Nat.reduceAdd] at an)
   (try rw [show ((0 : Int)).toNat = 0 from rfl] at hf9_0)
   (try simp only [Nat.reduceMul, Nat.zero_mul, Nat.zero_add, Nat.reduceAdd] at hf9_0)
   replace p9 := eq_true p9
   replace q9 := eq_true q9
   have HP10 := Kd.R_putg HO104.out (0 : Int) 1
   go_wp2_with (first | ((with_reducible refine gate_store (t := 5) (p := 10) rfl ?_); refine store_event (t := 5) (p := 10) (v := ?vo_w11) (w1 := (w4.setCell ⟨go9, (0 : Int).toNat, none⟩ (.int .u8 1))) ?hg ?ho ?hn ?hr ?_; (case ho => rfl); (case hg => rfl); (case hn => rfl); (case hr => first | (go_simp; done) | (go_simp; rfl)); intro w11 hw; have hg : w4.grownBy w11 (some go9) := (by rw [hw]; exact HP10.2); have hp_ : Kd.R (Kd.int .u8) 5 w11 w.heap.size (fun _ => True) (.slice (some ⟨go9, 0, none⟩) ad.length bf) aN := (by rw [hw, Ny105.out]; exact HP10.1); clear HP10; have am := Aside0.mk (blk_grown (g := ac) (o := .cells #[.bool true, .slice A0_1 l0_1.length c0_1, .slice A0_2 l0_2.length c0_2, .int .i64 a0_3] 102 (0, 0)) ab.out hg (Kd.R_ne HO104.out ab.out (by decide))); have al := Aside0.mk (hp_); have ak := Aside0.mk ((by rw [hw]; exact below_set (HB.out) GB9.out : Below w.heap.size w w11)); clear ab; clear HO104; clear HB; have ab := am; have HO104 := al; have HB := ak; clear am al ak; clear hg hw hp_))
   go_meet
   case rel => exact ⟨_, (aN), H', ⟨by first | omega | exact Nat.le_refl _⟩, ⟨HO104.out⟩, ⟨ab.out⟩, ⟨HB.out⟩⟩
  replace c7 := Bool.eq_false_iff.mpr c7
  subst c7
  have H1 : (dawg_node_key.j0 k ad false l0_1 l0_2 a0_3) = some r := by rw [if_neg (show ¬ (false = true) by decide)] at H; exact H
  clear H
  have H := H1
  clear H1
  have H' := Aside0.mk H
  clear H
  go_wp2
  go_meet
  case rel => exact ⟨_, (ad), H', ⟨by first | omega | exact Nat.le_refl _⟩, ⟨HO104.out⟩, ⟨ab.out⟩, ⟨HB.out⟩⟩
 clear HC2
 (try clear p2); (try clear c6); (try clear c7); (try clear c8); (try clear aK); (try clear aQ); (try clear p9); (try clear q9); (try clear hx9); (try clear qi9); (try clear hf9); (try clear ay); (try clear ax); (try clear aw); (try clear av); (try clear au); (try clear ar); (try clear aq); (try clear ap); (try clear an); (try clear p9); (try clear q9)
 obtain ⟨kq, az, HA, bc, ah, ab, HB⟩ := hcut
 cases kq with
 | zero => exact absurd HA.out (by simp [dawg_node_key.j0])
 | succ aW => ?_
 have H := HA.out
 clear HA
 simp only [dawg_node_key.j0] at H
 have H' := Aside0.mk H
 clear H
 have aJ : wc.cell? ⟨ac, 0, none⟩ = some (.bool a0_0) := (blk_cell ab.out 0).trans rfl
 have aI : wc.cell? ⟨ac, 1, none⟩ = some (.slice A0_1 l0_1.length c0_1) := (blk_cell ab.out 1).trans rfl
 have aH : wc.cell? ⟨ac, 2, none⟩ = some (.slice A0_2 l0_2.length c0_2) := (blk_cell ab.out 2).trans rfl
 have aG : wc.cell? ⟨ac, 3, none⟩ = some (.int .i64 a0_3) := (blk_cell ab.out 3).trans rfl
 have aE := blk_frozen ab.out 0
 have aD := blk_frozen ab.out 1
 have aC := blk_frozen ab.out 2
 have aA := blk_frozen ab.out 3
 go_wp2
 go_loopg [3, 14] aW (fun kq v3 v14 w' => ∃ (aj : List Int) (aa : Int), v14 = .int .i64 aa ∧ Aside0 (dawg_node_key.l0 kq aj l0_1 (l0_1.length : Int) aa a0_0 l0_1 l0_2 a0_3 = some r) ∧ Aside0 (kq ≤ aW) ∧ Aside0 (Kd.R (Kd.int .u8) 5 w' w.heap.size (fun _ => True) v3 aj) ∧ Aside0 (w'.heap[ac]? = some (.cells #[.bool a0_0, (.slice A0_1 l0_1.length c0_1), (.slice A0_2 l0_2.length c0_2), .int .i64 a0_3] 102 (0, 0))) ∧ Aside0 (Below w.heap.size w w'))
 case atStart => exact ⟨(az), (0), (by first | rfl | (simp; done) | (simp [*]; done)), H', ⟨Nat.le_refl _⟩, ⟨ah.out⟩, ⟨ab.out⟩, ⟨HB.out⟩⟩
 clear H'
 (try clear p2); (try clear c6); (try clear c7); (try clear c8); (try clear aK); (try clear aQ); (try clear p9); (try clear q9); (try clear hx9); (try clear qi9); (try clear hf9); (try clear aJ); (try clear aI); (try clear aH); (try clear aG); (try clear ay); (try clear ax); (try clear aw); (try clear av); (try clear aE); (try clear aD); (try clear aC); (try clear aA); (try clear au); (try clear ar); (try clear aq); (try clear ap); (try clear an); (try clear p2); (try clear p9); (try clear q9)
 obtain ⟨aj, aa, rfl, HA, bb, ah, ab, HB⟩ := hrel
 cases gk with
 | zero => exact absurd HA.out (by simp [dawg_node_key.l0])
 | succ k2 => ?_
 have H := HA.out
 clear HA
 simp only [dawg_node_key.l0] at H
 by_cases c13 : aa < (l0_1.length : Int)
 ·
  rw [if_pos c13] at H
  have aT : decide (aa < (l0_1.length : Int)) = true := decide_eq_true c13
  clear c13
  have c14 : 0 ≤ aa := Classical.byContradiction fun c_ => by rw [if_neg c_] at H; exact absurd H (by simp)
  rw [if_pos c14] at H
  have ba : decide (0 ≤ aa) = true := decide_eq_true c14
  clear c14
  have c15 : aa < (l0_1.length : Int) := Classical.byContradiction fun c_ => by rw [if_neg c_] at H; exact absurd H (by simp)
  rw [if_pos c15] at H
  have aZ : decide (aa < (l0_1.length : Int)) = true := decide_eq_true c15
  clear c15
  have c16 : aa < (l0_2.length : Int) := Classical.byContradiction fun c_ => by rw [if_neg c_] at H; exact absurd H (by simp)
  rw [if_pos c16] at H
  have aY : decide (aa < (l0_2.length : Int)) = true := decide_eq_true c16
  clear c16
  obtain ⟨ao, hy110⟩ : ∃ y_ : List Int, y_ = (([(rd l0_1 aa) % 256, (rd l0_2 aa) % 256, ((rd l0_2 aa) / 256) % 256, ((rd l0_2 aa) / 65536) % 256] : List Int)) := ⟨_, rfl⟩
  replace H : (if aj.length + ao.length < 140737488355328 then (dawg_node_key.l0 k2 (aj ++ ao) l0_1 (l0_1.length : Int) (wrap64 (aa + 1)) a0_0 l0_1 l0_2 a0_3) else (none)) = some r := by (have H2_ := (Option.bind_some _ _).symm.trans H; rw [hy110]; with_reducible exact H2_)
  have Ny110 := Aside0.mk hy110
  clear hy110
  have c17 : aj.length + ao.length < 140737488355328 := Classical.byContradiction fun c_ => by rw [if_neg c_] at H; exact absurd H (by simp)
  rw [if_pos c17] at H
  have LMc17 := Aside0.mk c17
  clear c17
  obtain ⟨aP, hy113⟩ : ∃ y_ : List Int, y_ = (aj ++ ao) := ⟨_, rfl⟩
  replace H : (dawg_node_key.l0 k2 aP l0_1 (l0_1.length : Int) (wrap64 (aa + 1)) a0_0 l0_1 l0_2 a0_3) = some r := by (rw [hy113]; with_reducible exact H)
  have Ny113 := Aside0.mk hy113
  clear hy113
  have H' := Aside0.mk H
  clear H
  have p106 : 0 ≤ (aa : Int) := of_decide_eq_true (by first | (with_reducible assumption) | assumption)
  have q106 : aa < (l0_1.length : Int) := of_decide_eq_true (by first | (with_reducible assumption) | assumption)
  obtain ⟨ad106, e106, ai⟩ := Kd.at_int HR0_1.out aa p106 q106
  cases e106
  replace ai := (HB.out.cell (World.block_lt_of_cell? w _ ai)).trans ai
  replace p106 := eq_true p106
  replace q106 := eq_true q106
  try go_wp2
  have am := Aside0.mk (Kd.R_drew ah.out)
  have al := Aside0.mk (blk_drew ab.out)
  have ak := Aside0.mk (below_drew1 HB.out)
  clear ah
  clear ab
  clear HB
  have ah := am
  have ab := al
  have HB := ak
  clear am al ak
  have p107 : 0 ≤ (aa : Int) := of_decide_eq_true (by first | (with_reducible assumption) | assumption)
  have q107 : aa < (l0_2.length : Int) := of_decide_eq_true (by first | (with_reducible assumption) | assumption)
  obtain ⟨ad107, e107, ag⟩ := Kd.at_int HR0_2.out aa p107 q107
  have hw107_0 := ag
  cases e107
  replace ag := (HB.out.cell (World.block_lt_of_cell? w _ ag)).trans ag
  replace p107 := eq_true p107
  replace q107 := eq_true q107
  have p108 : 0 ≤ (aa : Int) := of_decide_eq_true (by first | (with_reducible assumption) | assumption)
  have q108 : aa < (l0_2.length : Int) := of_decide_eq_true (by first | (with_reducible assumption) | assumption)
  obtain ⟨ad108, e108, af⟩ := Kd.at_int HR0_2.out aa p108 q108
  have hw108_0 := af
  obtain rfl : ad107 = ad108 := (by injection e108)
  replace af := (HB.out.cell (World.block_lt_of_cell? w _ af)).trans af
  replace p108 := eq_true p108
  replace q108 := eq_true q108
  have p109 : 0 ≤ (aa : Int) := of_decide_eq_true (by first | (with_reducible assumption) | assumption)
  have q109 : aa < (l0_2.length : Int) := of_decide_eq_true (by first | (with_reducible assumption) | assumption)
  obtain ⟨ad109, e109, ae⟩ := Kd.at_int HR0_2.out aa p109 q109
  have hw109_0 := ae
  obtain rfl : ad107 = ad109 := (by injection e109)
  replace ae := (HB.out.cell (World.block_lt_of_cell? w _ ae)).trans ae
  replace p109 := eq_true p109
  replace q109 := eq_true q109
  refine start_ (n := 26) (S := fun w' => w'.cell? ⟨ac, 0, none⟩ = some (.bool a0_0) ∧ w'.cell? ⟨ac, 1, none⟩ = some (.slice (some ad106) l0_1.length c0_1) ∧ w'.cell? ⟨ac, 2, none⟩ = some (.slice (some ad107) l0_2.length c0_2) ∧ w'.cell? ⟨ac, 3, none⟩ = some (.int .i64 a0_3) ∧ w'.cell? (ad107.add (aa).toNat) = some (.int .i64 (rd l0_2 aa)) ∧ w'.cell? (ad107.add (aa).toNat) = some (.int .i64 (rd l0_2 aa)) ∧ w'.cell? (ad107.add (aa).toNat) = some (.int .i64 (rd l0_2 aa))) (ds := []) #[false, false, false, false, false, false, false, false, false, false, false, false, false, false, false, false, false, false, false, false, false, false, false, false, false, false] (by kernel_rfl) rfl rfl ⟨(blk_cell ab.out 0).trans rfl, (blk_cell ab.out 1).trans rfl, (blk_cell ab.out 2).trans rfl, (blk_cell ab.out 3).trans rfl, ((HB.out.cell (World.block_lt_of_cell? w _ hw107_0)).trans hw107_0), ((HB.out.cell (World.block_lt_of_cell? w _ hw108_0)).trans hw108_0), ((HB.out.cell (World.block_lt_of_cell? w _ hw109_0)).trans hw109_0)⟩ (fun hHeld => ?_); refine with_tabW dawg_node_key.tab7 dawg_node_key.bits7 (fun HT_ HW_ => ?_)
  generalize wr.drew = w18 at ah ab HB ag af ae hHeld ⊢
  refine pure_ (i := 0) (N := some 19) (v := ?_) (a' := ?_) #[true, false, false, false, false, false, false, false, false, false, false, false, false, false, false, false, false, false, false, false, false, false, false, false, false, false] rfl rfl (any_of HT_.out (by kernel_rfl)) (fun _ _ _ h => h) (Or.inl ⟨by rfl, ?_⟩) ?_ ?_
  rotate_left
  ·
   intro w'
   go_simp
   with_reducible rfl
  rotate_left
  ·
   simp only [Act.put, List.setIfInBounds_toArray, List.set_cons_zero, List.set_cons_succ, i64_w, i32_w]
   rfl
  refine pure_ (i := 1) (N := some 20) (v := ?_) (a' := ?_) #[true, true, false, false, false, false, false, false, false, false, false, false, false, false, false, false, false, false, false, false, false, false, false, false, false, false] rfl rfl (any_of HT_.out (by kernel_rfl)) (fun _ _ _ h => h) (Or.inl ⟨by rfl, ?_⟩) ?_ ?_
  rotate_left
  ·
   intro w'
   go_simp
   with_reducible rfl
  rotate_left
  ·
   simp only [Act.put, List.setIfInBounds_toArray, List.set_cons_zero, List.set_cons_succ, i64_w, i32_w]
   rfl
  refine pure_ (i := 2) (N := some 21) (v := ?_) (a' := ?_) #[true, true, true, false, false, false, false, false, false, false, false, false, false, false, false, false, false, false, false, false, false, false, false, false, false, false] rfl rfl (any_of HT_.out (by kernel_rfl)) (fun _ _ _ h => h) (Or.inl ⟨by rfl, ?_⟩) ?_ ?_
  rotate_left
  ·
   intro w'
   go_simp
   with_reducible rfl
  rotate_left
  ·
   simp only [Act.put, List.setIfInBounds_toArray, List.set_cons_zero, List.set_cons_succ, i64_w, i32_w]
   rfl
  refine pure_ (i := 3) (N := some 22) (v := ?_) (a' := ?_) #[true, true, true, true, false, false, false, false, false, false, false, false, false, false, false, false, false, false, false, false, false, false, false, false, false, false] rfl rfl (any_of HT_.out (by kernel_rfl)) (fun _ _ _ h => h) (Or.inl ⟨by rfl, ?_⟩) ?_ ?_
  rotate_left
  ·
   intro w'
   go_simp
   with_reducible rfl
  rotate_left
  ·
   simp only [Act.put, List.setIfInBounds_toArray, List.set_cons_zero, List.set_cons_succ, i64_w, i32_w]
   rfl
  refine pure_ (i := 5) (N := some 24) (v := ?_) (a' := ?_) #[true, true, true, true, false, true, false, false, false, false, false, false, false, false, false, false, false, false, false, false, false, false, false, false, false, false] rfl rfl (any_of HT_.out (by kernel_rfl)) (fun _ _ _ h => h) (Or.inl ⟨by rfl, ?_⟩) ?_ ?_
  rotate_left
  ·
   intro w'
   go_simp
   with_reducible rfl
  rotate_left
  ·
   simp only [Act.put, List.setIfInBounds_toArray, List.set_cons_zero, List.set_cons_succ, i64_w, i32_w]
   rfl
  refine pure_ (i := 9) (N := some 28) (v := ?_) (a' := ?_) #[true, true, true, true, false, true, false, false, false, true, false, false, false, false, false, false, false, false, false, false, false, false, false, false, false, false] rfl rfl (any_of HT_.out (by kernel_rfl)) (fun _ _ _ h => h) (Or.inl ⟨by rfl, ?_⟩) ?_ ?_
  rotate_left
  ·
   intro w'
   go_simp
   with_reducible rfl
  rotate_left
  ·
   simp only [Act.put, List.setIfInBounds_toArray, List.set_cons_zero, List.set_cons_succ, i64_w, i32_w]
   rfl
  refine pure_ (i := 11) (N := some 30) (v := ?_) (a' := ?_) #[true, true, true, true, false, true, false, false, false, true, false, true, false, false, false, false, false, false, false, false, false, false, false, false, false, false] rfl rfl (any_of HT_.out (by kernel_rfl)) (fun _ _ _ h => h) (Or.inl ⟨by rfl, ?_⟩) ?_ ?_
  rotate_left
  ·
   intro w'
   go_simp
   with_reducible rfl
  rotate_left
  ·
   simp only [Act.put, List.setIfInBounds_toArray, List.set_cons_zero, List.set_cons_succ, i64_w, i32_w]
   rfl
  refine pure_ (i := 16) (N := some 35) (v := ?_) (a' := ?_) #[true, true, true, true, false, true, false, false, false, true, false, true, false, false, false, false, true, false, false, false, false, false, false, false, false, false] rfl rfl (any_of HT_.out (by kernel_rfl)) (fun _ _ _ h => h) (Or.inl ⟨by rfl, ?_⟩) ?_ ?_
  rotate_left
  ·
   intro w'
   go_simp
   with_reducible rfl
  rotate_left
  ·
   simp only [Act.put, List.setIfInBounds_toArray, List.set_cons_zero, List.set_cons_succ, i64_w, i32_w]
   rfl
  refine pure_ (i := 18) (N := some 37) (v := ?_) (a' := ?_) #[true, true, true, true, false, true, false, false, false, true, false, true, false, false, false, false, true, false, true, false, false, false, false, false, false, false] rfl rfl (any_of HT_.out (by kernel_rfl)) (fun _ _ _ h => h) (Or.inl ⟨by rfl, ?_⟩) ?_ ?_
  rotate_left
  ·
   intro w'
   go_simp
   with_reducible rfl
  rotate_left
  ·
   simp only [Act.put, List.setIfInBounds_toArray, List.set_cons_zero, List.set_cons_succ, i64_w, i32_w]
   rfl
  refine take_ (i := 4) (N := some 23) (v := ?_) (a' := ?_) #[true, true, true, true, true, true, false, false, false, true, false, true, false, false, false, false, true, false, true, false, false, false, false, false, false, false] rfl rfl (take_ofW HT_.out HW_.out (by kernel_rfl)) (fun _ _ _ h => h) (Or.inl ⟨by rfl, ?_⟩) hHeld ?_ ?_
  rotate_left
  ·
   rintro w' ⟨s0, s1, s2, s3, s4, s5, s6⟩
   go_simp
   with_reducible rfl
  rotate_left
  ·
   simp only [Act.put, List.setIfInBounds_toArray, List.set_cons_zero, List.set_cons_succ, i64_w, i32_w]
   rfl
  refine pure_ (i := 6) (N := some 25) (v := ?_) (a' := ?_) #[true, true, true, true, true, true, true, false, false, true, false, true, false, false, false, false, true, false, true, false, false, false, false, false, false, false] rfl rfl (any_of HT_.out (by kernel_rfl)) (fun _ _ _ h => h) (Or.inl ⟨by rfl, ?_⟩) ?_ ?_
  rotate_left
  ·
   intro w'
   go_simp
   with_reducible rfl
  rotate_left
  ·
   simp only [Act.put, List.setIfInBounds_toArray, List.set_cons_zero, List.set_cons_succ, i64_w, i32_w]
   rfl
  refine take_ (i := 7) (N := some 26) (v := ?_) (a' := ?_) #[true, true, true, true, true, true, true, true, false, true, false, true, false, false, false, false, true, false, true, false, false, false, false, false, false, false] rfl rfl (take_ofW HT_.out HW_.out (by kernel_rfl)) (fun _ _ _ h => h) (Or.inl ⟨by rfl, ?_⟩) hHeld ?_ ?_
  rotate_left
  ·
   rintro w' ⟨s0, s1, s2, s3, s4, s5, s6⟩
   go_simp
   with_reducible rfl
  rotate_left
  ·
   simp only [Act.put, List.setIfInBounds_toArray, List.set_cons_zero, List.set_cons_succ, i64_w, i32_w]
   rfl
  refine pure_ (i := 8) (N := some 27) (v := ?_) (a' := ?_) #[true, true, true, true, true, true, true, true, true, true, false, true, false, false, false, false, true, false, true, false, false, false, false, false, false, false] rfl rfl (any_of HT_.out (by kernel_rfl)) (fun _ _ _ h => h) (Or.inl ⟨by rfl, ?_⟩) ?_ ?_
  rotate_left
  ·
   intro w'
   go_simp
   with_reducible rfl
  rotate_left
  ·
   simp only [Act.put, List.setIfInBounds_toArray, List.set_cons_zero, List.set_cons_succ, i64_w, i32_w]
   rfl
  refine take_ (i := 10) (N := some 29) (v := ?_) (a' := ?_) #[true, true, true, true, true, true, true, true, true, true, true, true, false, false, false, false, true, false, true, false, false, false, false, false, false, false] rfl rfl (take_ofW HT_.out HW_.out (by kernel_rfl)) (fun _ _ _ h => h) (Or.inl ⟨by rfl, ?_⟩) hHeld ?_ ?_
  rotate_left
  ·
   rintro w' ⟨s0, s1, s2, s3, s4, s5, s6⟩
   go_simp
   with_reducible rfl
  rotate_left
  ·
   simp only [Act.put, List.setIfInBounds_toArray, List.set_cons_zero, List.set_cons_succ, i64_w, i32_w]
   rfl
  refine pure_ (i := 12) (N := some 31) (v := ?_) (a' := ?_) #[true, true, true, true, true, true, true, true, true, true, true, true, true, false, false, false, true, false, true, false, false, false, false, false, false, false] rfl rfl (any_of HT_.out (by kernel_rfl)) (fun _ _ _ h => h) (Or.inl ⟨by rfl, ?_⟩) ?_ ?_
  rotate_left
  ·
   intro w'
   go_simp
   with_reducible rfl
  rotate_left
  ·
   simp only [Act.put, List.setIfInBounds_toArray, List.set_cons_zero, List.set_cons_succ, i64_w, i32_w]
   rfl
  refine take_ (i := 13) (N := some 32) (v := ?_) (a' := ?_) #[true, true, true, true, true, true, true, true, true, true, true, true, true, true, false, false, true, false, true, false, false, false, false, false, false, false] rfl rfl (take_ofW HT_.out HW_.out (by kernel_rfl)) (fun _ _ _ h => h) (Or.inl ⟨by rfl, ?_⟩) hHeld ?_ ?_
  rotate_left
  ·
   rintro w' ⟨s0, s1, s2, s3, s4, s5, s6⟩
   go_simp
   with_reducible rfl
  rotate_left
  ·
   simp only [Act.put, List.setIfInBounds_toArray, List.set_cons_zero, List.set_cons_succ, i64_w, i32_w]
   rfl
  refine pure_ (i := 14) (N := some 33) (v := ?_) (a' := ?_) #[true, true, true, true, true, true, true, true, true, true, true, true, true, true, true, false, true, false, true, false, false, false, false, false, false, false] rfl rfl (any_of HT_.out (by kernel_rfl)) (fun _ _ _ h => h) (Or.inl ⟨by rfl, ?_⟩) ?_ ?_
  rotate_left
  ·
   intro w'
   go_simp
   with_reducible rfl
  rotate_left
  ·
   simp only [Act.put, List.setIfInBounds_toArray, List.set_cons_zero, List.set_cons_succ, i64_w, i32_w]
   rfl
  refine pure_ (i := 15) (N := some 34) (v := ?_) (a' := ?_) #[true, true, true, true, true, true, true, true, true, true, true, true, true, true, true, true, true, false, true, false, false, false, false, false, false, false] rfl rfl (any_of HT_.out (by kernel_rfl)) (fun _ _ _ h => h) (Or.inl ⟨by rfl, ?_⟩) ?_ ?_
  rotate_left
  ·
   intro w'
   go_simp
   with_reducible rfl
  rotate_left
  ·
   simp only [Act.put, List.setIfInBounds_toArray, List.set_cons_zero, List.set_cons_succ, i64_w, i32_w]
   rfl
  refine take_ (i := 17) (N := some 36) (v := ?_) (a' := ?_) #[true, true, true, true, true, true, true, true, true, true, true, true, true, true, true, true, true, true, true, false, false, false, false, false, false, false] rfl rfl (take_ofW HT_.out HW_.out (by kernel_rfl)) (fun _ _ _ h => h) (Or.inl ⟨by rfl, ?_⟩) hHeld ?_ ?_
  rotate_left
  ·
   rintro w' ⟨s0, s1, s2, s3, s4, s5, s6⟩
   go_simp
   with_reducible rfl
  rotate_left
  ·
   simp only [Act.put, List.setIfInBounds_toArray, List.set_cons_zero, List.set_cons_succ, i64_w, i32_w]
   rfl
  refine pure_ (i := 19) (N := some 38) (v := ?_) (a' := ?_) #[true, true, true, true, true, true, true, true, true, true, true, true, true, true, true, true, true, true, true, true, false, false, false, false, false, false] rfl rfl (any_of HT_.out (by kernel_rfl)) (fun _ _ _ h => h) (Or.inl ⟨by rfl, ?_⟩) ?_ ?_
  rotate_left
  ·
   intro w'
   go_simp
   with_reducible rfl
  rotate_left
  ·
   simp only [Act.put, List.setIfInBounds_toArray, List.set_cons_zero, List.set_cons_succ, i64_w, i32_w]
   rfl
  refine take_ (i := 20) (N := some 39) (v := ?_) (a' := ?_) #[true, true, true, true, true, true, true, true, true, true, true, true, true, true, true, true, true, true, true, true, true, false, false, false, false, false] rfl rfl (take_ofW HT_.out HW_.out (by kernel_rfl)) (fun _ _ _ h => h) (Or.inl ⟨by rfl, ?_⟩) hHeld ?_ ?_
  rotate_left
  ·
   rintro w' ⟨s0, s1, s2, s3, s4, s5, s6⟩
   go_simp
   with_reducible rfl
  rotate_left
  ·
   simp only [Act.put, List.setIfInBounds_toArray, List.set_cons_zero, List.set_cons_succ, i64_w, i32_w]
   rfl
  refine pure_ (i := 21) (N := some 40) (v := ?_) (a' := ?_) #[true, true, true, true, true, true, true, true, true, true, true, true, true, true, true, true, true, true, true, true, true, true, false, false, false, false] rfl rfl (any_of HT_.out (by kernel_rfl)) (fun _ _ _ h => h) (Or.inl ⟨by rfl, ?_⟩) ?_ ?_
  rotate_left
  ·
   intro w'
   go_simp
   with_reducible rfl
  rotate_left
  ·
   simp only [Act.put, List.setIfInBounds_toArray, List.set_cons_zero, List.set_cons_succ, i64_w, i32_w]
   rfl
  refine pure_ (i := 22) (N := some 41) (v := ?_) (a' := ?_) #[true, true, true, true, true, true, true, true, true, true, true, true, true, true, true, true, true, true, true, true, true, true, true, false, false, false] rfl rfl (any_of HT_.out (by kernel_rfl)) (fun _ _ _ h => h) (Or.inl ⟨by rfl, ?_⟩) ?_ ?_
  rotate_left
  ·
   intro w'
   go_simp
   with_reducible rfl
  rotate_left
  ·
   simp only [Act.put, List.setIfInBounds_toArray, List.set_cons_zero, List.set_cons_succ, i64_w, i32_w]
   rfl
  refine one_ (i := 23) (N := some 42) #[true, true, true, true, true, true, true, true, true, true, true, true, true, true, true, true, true, true, true, true, true, true, true, true, false, false] rfl rfl (one_of HT_.out (by kernel_rfl)) (by decide) (fun K hK => ?_)
  refine Kd.R_lit_step (Kd.int .u8) _ 5 ?hg (N := 42) ?hd (xs := ([(rd l0_1 aa) % 256, (rd l0_2 aa) % 256, ((rd l0_2 aa) / 256) % 256, ((rd l0_2 aa) / 65536) % 256] : List Int)) (inner := [.int .u8 ((rd l0_1 aa) % 256), .int .u8 ((rd l0_2 aa) % 256), .int .u8 (((rd l0_2 aa) / 256) % 256), .int .u8 (((rd l0_2 aa) / 65536) % 256)]) (ok := fun _ => True) (okp := fun _ => True) ?hr ?hp (fun _ hk => hk) trivial (Below.refl _ _) (Nat.le_refl _) (by simp) ?_; (case hd => rfl); (case hg => rfl); (case hr => first | (go_simp; done) | (go_simp; rfl)); (case hp => exact (Reps.one (show Kd.M (Kd.int .u8) _ _ _ ((rd l0_1 aa) % 256) [.int .u8 ((rd l0_1 aa) % 256)] from rfl) (Reps.one (show Kd.M (Kd.int .u8) _ _ _ ((rd l0_2 aa) % 256) [.int .u8 ((rd l0_2 aa) % 256)] from rfl) (Reps.one (show Kd.M (Kd.int .u8) _ _ _ (((rd l0_2 aa) / 256) % 256) [.int .u8 (((rd l0_2 aa) / 256) % 256)] from rfl) (Reps.one (show Kd.M (Kd.int .u8) _ _ _ (((rd l0_2 aa) / 65536) % 256) [.int .u8 (((rd l0_2 aa) / 65536) % 256)] from rfl) (Reps.none _ _))))))
  intro v111 w19 ho20 hb hg_ hnew_
  clear hg_ hnew_
  (first | rw [← Ny110.out] at ho20 | (simp only [Int.reduceToNat] at ho20; rw [← Ny110.out] at ho20))
  have am := Aside0.mk (Kd.R_elder' ah.out (Kd.R_base ho20) hb)
  have al := Aside0.mk (Kd.R_lower (Kd.R_new' ho20 (Kd.R_lt ah.out)) (below_size HB.out))
  have ak := Aside0.mk (blk_below (g := ac) (o := .cells #[.bool a0_0, .slice (some ad106) l0_1.length c0_1, .slice (some ad107) l0_2.length c0_2, .int .i64 a0_3] 102 (0, 0)) ab.out hb)
  have aM := Aside0.mk (below_step HB.out hb)
  clear ah
  clear ab
  clear HB
  have ah := am
  have HO112 := al
  have ab := ak
  have HB := aM
  clear am al ak aM
  clear hb ho20
  obtain ⟨aV, aU, eo22⟩ := Kd.R_slice HO112.out
  (first | subst eo22 | (injection eo22 with f1_ f2_ f3_; have f4_ := f1_.symm; have f5_ := f3_.symm; clear f1_ f2_ f3_; subst f4_; subst f5_))
  refine hK.out _ _ ⟨(blk_cell ab.out 0).trans rfl, (blk_cell ab.out 1).trans rfl, (blk_cell ab.out 2).trans rfl, (blk_cell ab.out 3).trans rfl, ((HB.out.cell (World.block_lt_of_cell? w _ hw107_0)).trans hw107_0), ((HB.out.cell (World.block_lt_of_cell? w _ hw108_0)).trans hw108_0), ((HB.out.cell (World.block_lt_of_cell? w _ hw109_0)).trans hw109_0)⟩ (fun hHeld => ?_)
  clear hK K
  refine norm_ (a' := ?_) ?_ ?_
  rotate_left
  ·
   show Act.put _ (some 42) _ = _
   simp only [Act.put, List.setIfInBounds_toArray, List.set_cons_zero, List.set_cons_succ, i64_w, i32_w]
   rfl
  refine one_ (i := 24) (N := some 43) #[true, true, true, true, true, true, true, true, true, true, true, true, true, true, true, true, true, true, true, true, true, true, true, true, true, false] rfl rfl (one_of HT_.out (by kernel_rfl)) (by decide) (fun K hK => ?_)
  refine Kd.R_append_rows_step (Kd.int .u8) (w0 := w) w.heap.size (by rfl) (.tmp 19) (.tmp 42) 55 5 (.int .u8 0) 1 rfl Try.underlying55 info5 rfl (by decide) (by omega) u3 aj ao _ _ _ (fun k_ => some k_ ≠ (.slice aV ao.length aU : Value).ownBlock) (fun _ => False) rfl rfl ?aO ?aR (fun _ _ h => h) (fun _ h => h.elim) ?aF ?aB ?aS ?aL ?_
  (case aR => repeat (first | exact (Kd.R_reads' HO112.out).2.2 | (with_reducible refine Kd.C_alloc ?_ _) | (with_reducible refine Kd.C_drewN ?_ _) | (with_reducible refine Kd.C_drew ?_)))
  (case aB => exact HB.out)
  (case aF => exact (fun k_ hk => Kd.fresh' (Kd.R_lt HO112.out) k_ hk))
  (case aO => exact (by exact Kd.R_mono ah.out (fun _ hk => hk.2)))
  (case aS => exact (below_size HB.out))
  (case aL => have := LMc17.out; omega)
  intro v114 w21 ho hb hg hat
  rw [← Ny113.out] at ho
  have am := Aside0.mk (blk_grown (g := ac) (o := .cells #[.bool a0_0, .slice (some ad106) l0_1.length c0_1, .slice (some ad107) l0_2.length c0_2, .int .i64 a0_3] 102 (0, 0)) ab.out hg (Kd.R_ne ah.out ab.out (by decide)))
  have al := Aside0.mk (Kd.R_after (ok := (fun _ => True)) HO112.out hg hat)
  have ak := Aside0.mk (hb)
  have aM := Aside0.mk (ho)
  clear ab
  clear HO112
  clear HB
  clear ah
  have ab := am
  have HO112 := al
  have HB := ak
  have HO115 := aM
  clear am al ak aM
  clear ho hb hg hat
  refine hK.out _ _ ⟨(blk_cell ab.out 0).trans rfl, (blk_cell ab.out 1).trans rfl, (blk_cell ab.out 2).trans rfl, (blk_cell ab.out 3).trans rfl, ((HB.out.cell (World.block_lt_of_cell? w _ hw107_0)).trans hw107_0), ((HB.out.cell (World.block_lt_of_cell? w _ hw108_0)).trans hw108_0), ((HB.out.cell (World.block_lt_of_cell? w _ hw109_0)).trans hw109_0)⟩ (fun hHeld => ?_)
  clear hK K
  refine norm_ (a' := ?_) ?_ ?_
  rotate_left
  ·
   show Act.put _ (some 43) _ = _
   simp only [Act.put, List.setIfInBounds_toArray, List.set_cons_zero, List.set_cons_succ, i64_w, i32_w]
   rfl
  refine pure_ (i := 25) (N := some 3) (v := ?_) (a' := ?_) #[true, true, true, true, true, true, true, true, true, true, true, true, true, true, true, true, true, true, true, true, true, true, true, true, true, true] rfl rfl (any_of HT_.out (by kernel_rfl)) (fun _ _ _ h => h) (Or.inl ⟨by rfl, ?_⟩) ?_ ?_
  rotate_left
  ·
   intro w'
   go_simp
   with_reducible rfl
  rotate_left
  ·
   simp only [Act.put, List.setIfInBounds_toArray, List.set_cons_zero, List.set_cons_succ, i64_w, i32_w]
   rfl
  refine done_ (done_of HT_.out (by kernel_rfl)) ?_
  try go_wp2
  go_roundg k2
  case measure => have := bc.out; have := bb.out; omega
  case rel => exact ⟨(aP), (wrap64 (aa + 1)), (by first | rfl | (simp; done) | (simp [*]; done)), H', ⟨by have := bc.out; have := bb.out; omega⟩, ⟨by exact Kd.R_mono HO115.out (fun _ hk => trivial)⟩, ⟨ab.out⟩, ⟨HB.out⟩⟩
 rw [if_neg c13] at H
 have aT : decide (aa < (l0_1.length : Int)) = false := decide_eq_false c13
 clear c13
 obtain rfl := Option.some.inj H
 have hcv23 := own_string (P := Try.prog) Try.underlying55 Try.underlying5 Try.underlying9 (Kd.own_of_R ah.out)
 go_wp2
 go_ret
 exact ⟨by first | rfl | (simp [errW_none, errW_some] <;> rfl) | (simp [*, errW_none, errW_some] <;> rfl), by exact HB.out⟩
mutual
def wordbookref06_Order.l0 : Nat → List Int → List Int → Int → Option (Int)
  | 0, _, _, _ => none
  | k + 1, x0, x1, x5 => if x5 < (x0.length : Int) then (wordbookref06_Order.j1 k x0 x1 x5 (decide (x5 < (x1.length : Int)))) else (wordbookref06_Order.j1 k x0 x1 x5 false)
def wordbookref06_Order.j1 : Nat → List Int → List Int → Int → Bool → Option (Int)
  | 0, _, _, _, _ => none
  | k + 1, x0, x1, x5, x15 => if x15 = true then (if 0 ≤ x5 then (if x5 < (x0.length : Int) then (if x5 < (x1.length : Int) then (if (rd x0 x5) < (rd x1 x5) then (some (-1)) else (if (rd x0 x5) > (rd x1 x5) then (some 1) else (wordbookref06_Order.l0 k x0 x1 (wrap64 (x5 + 1))))) else (none)) else (none)) else (none)) else (if (x0.length : Int) < (x1.length : Int) then (some (-1)) else (if (x0.length : Int) > (x1.length : Int) then (some 1) else (some 0)))
end
def wordbookref06_Order.f (k : Nat) (l0 : List Int) (l1 : List Int) : Option (Int) := wordbookref06_Order.l0 k l0 l1 0
theorem wordbookref06_Order.mono_l : ∀ k, (∀ y0 y1 y2, LeO (wordbookref06_Order.l0 k y0 y1 y2) (wordbookref06_Order.l0 (k + 1) y0 y1 y2)) ∧ (∀ y0 y1 y2 y3, LeO (wordbookref06_Order.j1 k y0 y1 y2 y3) (wordbookref06_Order.j1 (k + 1) y0 y1 y2 y3))
  | 0 => ⟨fun _ _ _ r h => by simp [wordbookref06_Order.l0] at h, fun _ _ _ _ r h => by simp [wordbookref06_Order.j1] at h⟩
  | k + 1 => by
    obtain ⟨ih0, ih1⟩ := wordbookref06_Order.mono_l k
    refine ⟨?_, ?_⟩
    · intro y0 y1 y2
      unfold wordbookref06_Order.l0
      repeat' first
      | (with_reducible exact ih0 _ _ _)
      | (with_reducible exact ih1 _ _ _ _)
      | (with_reducible exact LeO.refl _)
      | (with_reducible exact LeO.none _)
      | (with_reducible refine LeO.ite ?_ ?_)
      | (with_reducible refine LeO.bind ?_ (fun _ => ?_))
      | exact ih0 _ _ _
      | exact ih1 _ _ _ _
      | exact LeO.none _
      | refine LeO.ite ?_ ?_
      | refine LeO.bind ?_ (fun _ => ?_)
    · intro y0 y1 y2 y3
      unfold wordbookref06_Order.j1
      repeat' first
      | (with_reducible exact ih0 _ _ _)
      | (with_reducible exact ih1 _ _ _ _)
      | (with_reducible exact LeO.refl _)
      | (with_reducible exact LeO.none _)
      | (with_reducible refine LeO.ite ?_ ?_)
      | (with_reducible refine LeO.bind ?_ (fun _ => ?_))
      | exact ih0 _ _ _
      | exact ih1 _ _ _ _
      | exact LeO.none _
      | refine LeO.ite ?_ ?_
      | refine LeO.bind ?_ (fun _ => ?_)
theorem wordbookref06_Order.mono : ∀ a0 a1 k, LeO (wordbookref06_Order.f k a0 a1) (wordbookref06_Order.f (k + 1) a0 a1) := by
  intro a0 a1 k
  obtain ⟨ih0, ih1⟩ := wordbookref06_Order.mono_l k
  unfold wordbookref06_Order.f
  repeat' first
      | (with_reducible exact ih0 _ _ _)
      | (with_reducible exact ih1 _ _ _ _)
      | (with_reducible exact LeO.refl _)
      | (with_reducible exact LeO.none _)
      | (with_reducible refine LeO.ite ?_ ?_)
      | (with_reducible refine LeO.bind ?_ (fun _ => ?_))
      | exact ih0 _ _ _
      | exact ih1 _ _ _ _
      | exact LeO.none _
      | refine LeO.ite ?_ ?_
      | refine LeO.bind ?_ (fun _ => ?_)
set_option maxHeartbeats 8000000 in
set_option maxRecDepth 100000 in
theorem wordbookref06_Order.calls (k : Nat) (A0 : Option Addr) (c0 : Nat) (l0 : List Int) (A1 : Option Addr) (c1 : Nat) (l1 : List Int) (r : Int) (w : World) (hr0 : Kd.C (Kd.int .i64) w A0 l0.length l0) (hc0 : l0.length ≤ c0) (hr1 : Kd.C (Kd.int .i64) w A1 l1.length l1) (hc1 : l1.length ≤ c1) (h : wordbookref06_Order.f k l0 l1 = some r) :
    Calls Try.prog 37 #[.slice A0 l0.length c0, .slice A1 l1.length c1] w fun e w' => e = .returned (.int .i64 r) ∧ Drawn0 w w' := by
 have HR0 := Aside0.mk hr0
 have HC0 := Aside0.mk hc0
 clear hr0 hc0
 have HR1 := Aside0.mk hr1
 have HC1 := Aside0.mk hc1
 clear hr1 hc1
 have H : (wordbookref06_Order.l0 k l0 l1 0) = some r := h
 clear h
 have H' := Aside0.mk H
 clear H
 go_enter Try.func37, Try.ntmps37
 go_wp2
 repeat (go_quiet (fail); try go_wp2)
 go_loopg [5] k (fun kq v5 w' => ∃ (aa : Int), v5 = .int .i64 aa ∧ Aside0 (wordbookref06_Order.l0 kq l0 l1 aa = some r) ∧ Aside0 (kq ≤ k) ∧ Drawn0 w w')
 case atStart => exact ⟨(0), (by first | rfl | (simp; done) | (simp [*]; done)), H', ⟨Nat.le_refl _⟩, by repeat (first | exact Drawn0.refl _ | apply Drawn0.step)⟩
 clear H'
 (try clear c1); (try clear p2)
 obtain ⟨aa, rfl, HA, am, ⟨m1, rfl⟩⟩ := hrel
 cases gk with
 | zero => exact absurd HA.out (by simp [wordbookref06_Order.l0])
 | succ k1 => ?_
 have H := HA.out
 clear HA
 simp only [wordbookref06_Order.l0] at H
 have HC3 := Aside0.mk H
 clear H
 go_upto_region 2 with (fail)
 repeat (go_quiet (fail); go_upto_region 2 with (fail))
 go_cut [15] (fun v15 wc => ∃ (kq : Nat) (ab : Bool), v15 = .bool ab ∧ Aside0 (wordbookref06_Order.j1 kq l0 l1 aa ab = some r) ∧ Aside0 (kq ≤ k1) ∧ Drawn0 w wc)
 case first =>
  have H := HC3.out
  clear HC3
  by_cases c4 : aa < (l0.length : Int)
  ·
   rw [if_pos c4] at H
   have ae : decide (aa < (l0.length : Int)) = true := decide_eq_true c4
   clear c4
   (first | rw [ae] | (simp only [i64_w, i32_w]; rw [ae]) | skip)
   have H' := Aside0.mk H
   clear H
   go_wp2
   repeat (go_quiet (fail); try go_wp2)
   go_meet
   case rel => exact ⟨_, (decide (aa < (l1.length : Int))), (by first | rfl | (simp; done) | (simp [*]; done)), H', ⟨by have := am.out; first | omega | exact Nat.le_refl _⟩, by repeat (first | exact Drawn0.refl _ | apply Drawn0.step)⟩
  rw [if_neg c4] at H
  have ae : decide (aa < (l0.length : Int)) = false := decide_eq_false c4
  clear c4
  (first | rw [ae] | (simp only [i64_w, i32_w]; rw [ae]) | skip)
  have H' := Aside0.mk H
  clear H
  go_wp2
  repeat (go_quiet (fail); try go_wp2)
  go_meet
  case rel => exact ⟨_, (false), (by first | rfl | (simp; done) | (simp [*]; done)), H', ⟨by have := am.out; first | omega | exact Nat.le_refl _⟩, by repeat (first | exact Drawn0.refl _ | apply Drawn0.step)⟩
 clear HC3
 (try clear c1); (try clear p2); (try clear c3); (try clear c4); (try clear ae); (try clear p2)
 obtain ⟨kq, ab, rfl, HA, ap, ⟨mc2, rfl⟩⟩ := hcut
 cases kq with
 | zero => exact absurd HA.out (by simp [wordbookref06_Order.j1])
 | succ ao => ?_
 have H := HA.out
 clear HA
 simp only [wordbookref06_Order.j1] at H
 by_cases c5 : ab = true
 ·
  subst c5
  have H1 : (if 0 ≤ aa then (if aa < (l0.length : Int) then (if aa < (l1.length : Int) then (if (rd l0 aa) < (rd l1 aa) then (some (-1)) else (if (rd l0 aa) > (rd l1 aa) then (some 1) else (wordbookref06_Order.l0 ao l0 l1 (wrap64 (aa + 1))))) else (none)) else (none)) else (none)) = some r := by rw [if_pos rfl] at H; exact H
  clear H
  have H := H1
  clear H1
  have c6 : 0 ≤ aa := Classical.byContradiction fun c_ => by rw [if_neg c_] at H; exact absurd H (by simp)
  rw [if_pos c6] at H
  have au : decide (0 ≤ aa) = true := decide_eq_true c6
  clear c6
  have c7 : aa < (l0.length : Int) := Classical.byContradiction fun c_ => by rw [if_neg c_] at H; exact absurd H (by simp)
  rw [if_pos c7] at H
  have ar : decide (aa < (l0.length : Int)) = true := decide_eq_true c7
  clear c7
  have c8 : aa < (l1.length : Int) := Classical.byContradiction fun c_ => by rw [if_neg c_] at H; exact absurd H (by simp)
  rw [if_pos c8] at H
  have aq : decide (aa < (l1.length : Int)) = true := decide_eq_true c8
  clear c8
  by_cases c9 : (rd l0 aa) < (rd l1 aa)
  ·
   rw [if_pos c9] at H
   have an : decide ((rd l0 aa) < (rd l1 aa)) = true := decide_eq_true c9
   clear c9
   obtain rfl := Option.some.inj H
   have p116 : 0 ≤ (aa : Int) := of_decide_eq_true (by first | (with_reducible assumption) | assumption)
   have q116 : aa < (l0.length : Int) := of_decide_eq_true (by first | (with_reducible assumption) | assumption)
   obtain ⟨ad116, e116, ad⟩ := Kd.at_int HR0.out aa p116 q116
   cases e116
   replace p116 := eq_true p116
   replace q116 := eq_true q116
   have p117 : 0 ≤ (aa : Int) := of_decide_eq_true (by first | (with_reducible assumption) | assumption)
   have q117 : aa < (l1.length : Int) := of_decide_eq_true (by first | (with_reducible assumption) | assumption)
   obtain ⟨ad117, e117, ac⟩ := Kd.at_int HR1.out aa p117 q117
   cases e117
   replace p117 := eq_true p117
   replace q117 := eq_true q117
   go_wp2
   repeat (go_quiet (fail); try go_wp2)
   go_ret
   exact ⟨by first | rfl | (simp; done) | (simp [*]; done), by repeat (first | exact Drawn0.refl _ | apply Drawn0.step)⟩
  rw [if_neg c9] at H
  have an : decide ((rd l0 aa) < (rd l1 aa)) = false := decide_eq_false c9
  clear c9
  by_cases c10 : (rd l0 aa) > (rd l1 aa)
  ·
   rw [if_pos c10] at H
   have al : decide ((rd l1 aa) < (rd l0 aa)) = true := decide_eq_true c10
   clear c10
   obtain rfl := Option.some.inj H
   have p116 : 0 ≤ (aa : Int) := of_decide_eq_true (by first | (with_reducible assumption) | assumption)
   have q116 : aa < (l0.length : Int) := of_decide_eq_true (by first | (with_reducible assumption) | assumption)
   obtain ⟨ad116, e116, ad⟩ := Kd.at_int HR0.out aa p116 q116
   cases e116
   replace p116 := eq_true p116
   replace q116 := eq_true q116
   have p117 : 0 ≤ (aa : Int) := of_decide_eq_true (by first | (with_reducible assumption) | assumption)
   have q117 : aa < (l1.length : Int) := of_decide_eq_true (by first | (with_reducible assumption) | assumption)
   obtain ⟨ad117, e117, ac⟩ := Kd.at_int HR1.out aa p117 q117
   cases e117
   replace p117 := eq_true p117
   replace q117 := eq_true q117
   have p118 : 0 ≤ (aa : Int) := of_decide_eq_true (by first | (with_reducible assumption) | assumption)
   have q118 : aa < (l0.length : Int) := of_decide_eq_true (by first | (with_reducible assumption) | assumption)
   obtain ⟨ad118, e118, ag⟩ := Kd.at_int HR0.out aa p118 q118
   obtain rfl : ad116 = ad118 := (by injection e118)
   replace p118 := eq_true p118
   replace q118 := eq_true q118
   have p119 : 0 ≤ (aa : Int) := of_decide_eq_true (by first | (with_reducible assumption) | assumption)
   have q119 : aa < (l1.length : Int) := of_decide_eq_true (by first | (with_reducible assumption) | assumption)
   obtain ⟨ad119, e119, af⟩ := Kd.at_int HR1.out aa p119 q119
   obtain rfl : ad117 = ad119 := (by injection e119)
   replace p119 := eq_true p119
   replace q119 := eq_true q119
   go_wp2
   repeat (go_quiet (fail); try go_wp2)
   go_ret
   exact ⟨by first | rfl | (simp; done) | (simp [*]; done), by repeat (first | exact Drawn0.refl _ | apply Drawn0.step)⟩
  rw [if_neg c10] at H
  have al : decide ((rd l1 aa) < (rd l0 aa)) = false := decide_eq_false c10
  clear c10
  have H' := Aside0.mk H
  clear H
  have p116 : 0 ≤ (aa : Int) := of_decide_eq_true (by first | (with_reducible assumption) | assumption)
  have q116 : aa < (l0.length : Int) := of_decide_eq_true (by first | (with_reducible assumption) | assumption)
  obtain ⟨ad116, e116, ad⟩ := Kd.at_int HR0.out aa p116 q116
  cases e116
  replace p116 := eq_true p116
  replace q116 := eq_true q116
  have p117 : 0 ≤ (aa : Int) := of_decide_eq_true (by first | (with_reducible assumption) | assumption)
  have q117 : aa < (l1.length : Int) := of_decide_eq_true (by first | (with_reducible assumption) | assumption)
  obtain ⟨ad117, e117, ac⟩ := Kd.at_int HR1.out aa p117 q117
  cases e117
  replace p117 := eq_true p117
  replace q117 := eq_true q117
  have p118 : 0 ≤ (aa : Int) := of_decide_eq_true (by first | (with_reducible assumption) | assumption)
  have q118 : aa < (l0.length : Int) := of_decide_eq_true (by first | (with_reducible assumption) | assumption)
  obtain ⟨ad118, e118, ag⟩ := Kd.at_int HR0.out aa p118 q118
  obtain rfl : ad116 = ad118 := (by injection e118)
  replace p118 := eq_true p118
  replace q118 := eq_true q118
  have p119 : 0 ≤ (aa : Int) := of_decide_eq_true (by first | (with_reducible assumption) | assumption)
  have q119 : aa < (l1.length : Int) := of_decide_eq_true (by first | (with_reducible assumption) | assumption)
  obtain ⟨ad119, e119, af⟩ := Kd.at_int HR1.out aa p119 q119
  obtain rfl : ad117 = ad119 := (by injection e119)
  replace p119 := eq_true p119
  replace q119 := eq_true q119
  go_wp2
  repeat (go_quiet (fail); try go_wp2)
  go_roundg ao
  case measure => have := am.out; have := ap.out; omega
  case rel => exact ⟨(wrap64 (aa + 1)), (by first | rfl | (simp; done) | (simp [*]; done)), H', ⟨by have := am.out; have := ap.out; omega⟩, by repeat (first | exact Drawn0.refl _ | apply Drawn0.step)⟩
 replace c5 := Bool.eq_false_iff.mpr c5
 subst c5
 have H1 : (if (l0.length : Int) < (l1.length : Int) then (some (-1)) else (if (l0.length : Int) > (l1.length : Int) then (some 1) else (some 0))) = some r := by rw [if_neg (show ¬ (false = true) by decide)] at H; exact H
 clear H
 have H := H1
 clear H1
 by_cases c11 : (l0.length : Int) < (l1.length : Int)
 ·
  rw [if_pos c11] at H
  have ak : decide ((l0.length : Int) < (l1.length : Int)) = true := decide_eq_true c11
  have aj : decide (l0.length < l1.length) = true := decide_eq_true (Int.ofNat_lt.mp c11)
  clear c11
  obtain rfl := Option.some.inj H
  go_wp2
  repeat (go_quiet (fail); try go_wp2)
  go_ret
  exact ⟨by first | rfl | (simp; done) | (simp [*]; done), by repeat (first | exact Drawn0.refl _ | apply Drawn0.step)⟩
 rw [if_neg c11] at H
 have ak : decide ((l0.length : Int) < (l1.length : Int)) = false := decide_eq_false c11
 have aj : decide (l0.length < l1.length) = false := decide_eq_false (fun h => c11 (Int.ofNat_lt.mpr h))
 clear c11
 by_cases c12 : (l0.length : Int) > (l1.length : Int)
 ·
  rw [if_pos c12] at H
  have ai : decide ((l1.length : Int) < (l0.length : Int)) = true := decide_eq_true c12
  have ah : decide (l1.length < l0.length) = true := decide_eq_true (Int.ofNat_lt.mp c12)
  clear c12
  obtain rfl := Option.some.inj H
  go_wp2
  repeat (go_quiet (fail); try go_wp2)
  go_ret
  exact ⟨by first | rfl | (simp; done) | (simp [*]; done), by repeat (first | exact Drawn0.refl _ | apply Drawn0.step)⟩
 rw [if_neg c12] at H
 have ai : decide ((l1.length : Int) < (l0.length : Int)) = false := decide_eq_false c12
 have ah : decide (l1.length < l0.length) = false := decide_eq_false (fun h => c12 (Int.ofNat_lt.mpr h))
 clear c12
 obtain rfl := Option.some.inj H
 go_wp2
 repeat (go_quiet (fail); try go_wp2)
 go_ret
 exact ⟨by first | rfl | (simp; done) | (simp [*]; done), by repeat (first | exact Drawn0.refl _ | apply Drawn0.step)⟩
end Go.Proofs.Ytcdjeimjbbknjaa.PAll
namespace Go.Proofs.Ytcdjeimjbbknjaa.PAll
open Go.RowKit Go.Proofs.YtcdjeimjbbknjaaW.PrintWords Go.Proofs.YtcdjeimjbbknjaaW.PrintLast Go.Proofs.YtcdjeimjbbknjaaW.PrintMore
attribute [local go_sem] max2_int min2_int max_two min_two max_three min_three max_four min_four   -- for this text's walks alone
set_option linter.unusedVariables false
set_option linter.unusedSimpArgs false

mutual
def wordbookref15_Put.l0 : Nat → List (List Int) → List Int → List (List Int) → Bool → Int → Option ((List (List Int)))
  | 0, _, _, _, _, _ => none
  | k + 1, x0, x1, x5, x6, x7 => if x7 < (x0.length : Int) then (if 0 ≤ x7 then ((wordbookref06_Order.f k (rd_L2 x0 x7) x1).bind fun t124 => (if x6 = true then (wordbookref15_Put.j1 k x0 x1 x5 x6 x7 t124 false) else (wordbookref15_Put.j1 k x0 x1 x5 x6 x7 t124 (decide (t124 ≥ 0))))) else (none)) else (if x6 = true then (some x5) else (if x5.length < 5864062014805 then (some (x5 ++ [x1])) else (none)))
def wordbookref15_Put.j1 : Nat → List (List Int) → List Int → List (List Int) → Bool → Int → Int → Bool → Option ((List (List Int)))
  | 0, _, _, _, _, _, _, _ => none
  | k + 1, x0, x1, x5, x6, x7, x8, x26 => if x26 = true then (if x5.length < 5864062014805 then ((some (x5 ++ [x1] : List (List Int))).bind fun y125 => (if x8 = 0 then (wordbookref15_Put.l0 k x0 x1 y125 true (wrap64 (x7 + 1))) else (if 0 ≤ x7 then (if x7 < (x0.length : Int) then (if y125.length < 5864062014805 then (wordbookref15_Put.l0 k x0 x1 (y125 ++ [rd_L2 x0 x7]) true (wrap64 (x7 + 1))) else (none)) else (none)) else (none)))) else (none)) else (if x8 = 0 then (wordbookref15_Put.l0 k x0 x1 x5 x6 (wrap64 (x7 + 1))) else (if 0 ≤ x7 then (if x7 < (x0.length : Int) then (if x5.length < 5864062014805 then (wordbookref15_Put.l0 k x0 x1 (x5 ++ [rd_L2 x0 x7]) x6 (wrap64 (x7 + 1))) else (none)) else (none)) else (none)))
end
def wordbookref15_Put.f (k : Nat) (l0 : List (List Int)) (l1 : List Int) : Option ((List (List Int))) := wordbookref15_Put.l0 k l0 l1 ([] : List (List Int)) false 0
set_option maxHeartbeats 8000000 in
set_option maxRecDepth 100000 in
theorem wordbookref15_Put.calls (k : Nat) (P0_ : Nat → Prop) (A0 : Option Addr) (c0 : Nat) (l0 : List (List Int)) (P1_ : Nat → Prop) (A1 : Option Addr) (c1 : Nat) (l1 : List Int) (r : List (List Int)) (w : World) (hs0 : Kd.V (Kd.slice 3 (Kd.int .i64)) 22 w w.heap.size (fun k_ => P0_ k_) (.slice A0 l0.length c0) l0) (hs1 : Kd.V (Kd.int .i64) 3 w w.heap.size (fun k_ => P1_ k_) (.slice A1 l1.length c1) l1) (h : wordbookref15_Put.f k l0 l1 = some r) :
    Calls Try.prog 34 #[.slice A0 l0.length c0, .slice A1 l1.length c1] w fun e w' => ∃ v0_ : Value, e = .returned (v0_) ∧ Kd.N (Kd.slice 3 (Kd.int .i64)) 22 w' w.heap.size (fun k_ => ((P0_ k_ ∨ P1_ k_) ∨ w.heap.size ≤ k_)) v0_ r ∧ Below w.heap.size w w' := by
 have HO0 := Aside0.mk (show Kd.V (Kd.slice 3 (Kd.int .i64)) 22 w w.heap.size (fun k_ => ((P0_ k_ ∨ P1_ k_) ∨ w.heap.size ≤ k_)) (.slice A0 l0.length c0) l0 from Kd.V_mono hs0 (fun k_ hk => .inl (.inl hk)))
 have HO1 := Aside0.mk (show Kd.V (Kd.int .i64) 3 w w.heap.size (fun k_ => ((P0_ k_ ∨ P1_ k_) ∨ w.heap.size ≤ k_)) (.slice A1 l1.length c1) l1 from Kd.V_mono hs1 (fun k_ hk => .inl (.inr hk)))
 have HB := Aside0.mk (Below.refl w.heap.size w)
 have H : (wordbookref15_Put.l0 k l0 l1 ([] : List (List Int)) false 0) = some r := h
 clear h
 have H' := Aside0.mk H
 clear H
 go_enter Try.func34, Try.ntmps34
 go_wp2
 go_loopg [5, 6, 7] k (fun kq v5 v6 v7 w' => ∃ (ad : List (List Int)) (ae : Bool) (aa : Int), v6 = .bool ae ∧ v7 = .int .i64 aa ∧ Aside0 (wordbookref15_Put.l0 kq l0 l1 ad ae aa = some r) ∧ Aside0 (kq ≤ k) ∧ Aside0 (Kd.V (Kd.slice 3 (Kd.int .i64)) 22 w' w.heap.size (fun k_ => ((P0_ k_ ∨ P1_ k_) ∨ w.heap.size ≤ k_) ∧ some k_ ≠ (v5 : Value).ownBlock) (.slice A0 l0.length c0) l0) ∧ Aside0 (Kd.V (Kd.int .i64) 3 w' w.heap.size (fun k_ => ((P0_ k_ ∨ P1_ k_) ∨ w.heap.size ≤ k_) ∧ some k_ ≠ (v5 : Value).ownBlock) (.slice A1 l1.length c1) l1) ∧ Aside0 (Kd.N (Kd.slice 3 (Kd.int .i64)) 22 w' w.heap.size (fun k_ => ((P0_ k_ ∨ P1_ k_) ∨ w.heap.size ≤ k_)) v5 ad) ∧ Aside0 (Below w.heap.size w w'))
 case atStart => exact ⟨(([] : List (List Int))), (false), (0), (by first | rfl | (simp; done) | (simp [*]; done)), (by first | rfl | (simp; done) | (simp [*]; done)), H', ⟨Nat.le_refl _⟩, ⟨by exact Kd.V_mono HO0.out (fun _ hk => ⟨hk, (by simp [Value.ownBlock])⟩)⟩, ⟨by exact Kd.V_mono HO1.out (fun _ hk => ⟨hk, (by simp [Value.ownBlock])⟩)⟩, ⟨by first | exact Kd.S_nil _ _ _ _ _ | exact Kd.N_nil _ _ _ _ _ | exact Kd.V_nil _ _ _ _ _ | exact Kd.Q_nil _ _ _ _ _ | exact Kd.R_nil _ _ _ _ _⟩, ⟨HB.out⟩⟩
 clear H'
 (try clear c1); (try clear p2)
 obtain ⟨ad, ae, aa, rfl, rfl, HA, ao, ab, ac, af, HB⟩ := hrel
 cases gk with
 | zero => exact absurd HA.out (by simp [wordbookref15_Put.l0])
 | succ k1 => ?_
 have H := HA.out
 clear HA
 simp only [wordbookref15_Put.l0] at H
 by_cases c3 : aa < (l0.length : Int)
 ·
  rw [if_pos c3] at H
  have ax : decide (aa < (l0.length : Int)) = true := decide_eq_true c3
  clear c3
  have c4 : 0 ≤ aa := Classical.byContradiction fun c_ => by rw [if_neg c_] at H; exact absurd H (by simp)
  rw [if_pos c4] at H
  have aE : decide (0 ≤ aa) = true := decide_eq_true c4
  clear c4
  replace H := Option.bind_eq_some_iff.mp H
  obtain ⟨t124, A50, H⟩ := H
  replace H : (if ae = true then (wordbookref15_Put.j1 k1 l0 l1 ad ae aa t124 false) else (wordbookref15_Put.j1 k1 l0 l1 ad ae aa t124 (decide (t124 ≥ 0)))) = some r := H
  have A5 := Aside0.mk A50
  clear A50
  have HC6 := Aside0.mk H
  clear H
  have p123 : 0 ≤ (aa : Int) := of_decide_eq_true (by first | (with_reducible assumption) | assumption)
  have q123 : aa < (l0.length : Int) := of_decide_eq_true (by first | (with_reducible assumption) | assumption)
  obtain ⟨ad123, A123_0, c123_0, e123, am, hl123_0, hi123_0⟩ := at_L2 (Kd.V_reads' ab.out).2.2 aa p123 q123
  cases e123
  obtain ⟨ce123, hce123, hMe123, hcc123⟩ := Kd.V_get ab.out [] aa p123 (by first | exact q123 | exact of_decide_eq_true (by first | (with_reducible assumption) | assumption) | (have e_ := (Kd.V_reads' ab.out).1; omega))
  obtain ⟨ua123_0, uc123_0, rfl, ul123_0, ge123_0⟩ := Kd.FK_slice_open hMe123
  have hv123_0 := hcc123 0 _ rfl
  rw [Nat.add_zero, show ((Kd.slice 3 (Kd.int .i64))).sz = 1 from rfl, Nat.mul_one] at hv123_0
  replace hv123_0 := Option.some.inj (hv123_0.symm.trans am)
  injection hv123_0 with hva_ hvn_ hvc_
  rw [hva_] at ge123_0
  rw [hvc_] at ul123_0
  have HL123_0 := Aside0.mk (show Kd.V (Kd.int .i64) 3 _ w.heap.size _ _ (rd_L2 l0 aa) from Kd.V_mk ul123_0 ge123_0)
  clear hva_ hvn_ hvc_ ge123_0 ul123_0
  clear hcc123 hce123
  have HR123_0 := Aside0.mk hi123_0
  have HC123_0 := Aside0.mk hl123_0
  clear hi123_0 hl123_0
  replace p123 := eq_true p123
  replace q123 := eq_true q123
  go_upto_region 7 with (first | ((with_reducible refine gate_callee (f := 37) rfl ?_); refine goesL_ (some 20) rfl rfl Try.func37 (by kernel_rfl) rfl #[.slice A123_0 (rd_L2 l0 aa).length c123_0, .slice A1 l1.length c1] rfl (by (try simp only [List.map_toArray, List.map_cons, List.map_nil]); first | done | rfl | (simp only [List.length_drop, List.length_take]; rfl)) ?_; (with_reducible refine (wordbookref06_Order.calls k1 _ _ (rd_L2 l0 aa) _ _ l1 t124 _ ?side1 ?side2 ?side3 ?side4 A5.out).mono ?_); (case side1 => repeat (first | exact (by repeat (first | (with_reducible exact HR123_0.out) | (with_reducible refine Kd.C_alloc ?_ _) | (with_reducible refine Kd.C_drewN ?_ _) | (with_reducible refine Kd.C_drew ?_) | exact HR123_0.out)) | (with_reducible refine Kd.C_alloc ?_ _) | (with_reducible refine Kd.C_drewN ?_ _) | (with_reducible refine Kd.C_drew ?_))); (case side2 => exact HC123_0.out); (case side3 => repeat (first | exact (Kd.V_reads' ac.out).2.2 | (with_reducible refine Kd.C_alloc ?_ _) | (with_reducible refine Kd.C_drewN ?_ _) | (with_reducible refine Kd.C_drew ?_))); (case side4 => exact (Kd.V_reads' ac.out).2.1); rintro e w' ⟨rfl, ⟨nd, rfl⟩⟩; refine ⟨_, rfl, ?_⟩))
  (try simp only [Act.put, List.setIfInBounds_toArray, List.set_cons_zero, List.set_cons_succ])
  go_cut [26] (fun v26 wc => ∃ (kq : Nat) (ah : Bool), v26 = .bool ah ∧ Aside0 (wordbookref15_Put.j1 kq l0 l1 ad ae aa t124 ah = some r) ∧ Aside0 (kq ≤ k1) ∧ Aside0 (Kd.V (Kd.slice 3 (Kd.int .i64)) 22 wc w.heap.size (fun k_ => ((P0_ k_ ∨ P1_ k_) ∨ w.heap.size ≤ k_) ∧ some k_ ≠ (u5 : Value).ownBlock) (.slice (some ad123) l0.length c0) l0) ∧ Aside0 (Kd.V (Kd.int .i64) 3 wc w.heap.size (fun k_ => ((P0_ k_ ∨ P1_ k_) ∨ w.heap.size ≤ k_) ∧ some k_ ≠ (u5 : Value).ownBlock) (.slice A1 l1.length c1) l1) ∧ Aside0 (Kd.N (Kd.slice 3 (Kd.int .i64)) 22 wc w.heap.size (fun k_ => ((P0_ k_ ∨ P1_ k_) ∨ w.heap.size ≤ k_)) u5 ad) ∧ Aside0 (Kd.C (Kd.int .i64) wc A123_0 (rd_L2 l0 aa).length (rd_L2 l0 aa)) ∧ Aside0 (Below w.heap.size w wc))
  case first =>
   have H := HC6.out
   clear HC6
   by_cases c7 : ae = true
   ·
    subst c7
    have H1 : (wordbookref15_Put.j1 k1 l0 l1 ad true aa t124 false) = some r := by rw [if_pos rfl] at H; exact H
    clear H
    have H := H1
    clear H1
    have H' := Aside0.mk H
    clear H
    go_wp2
    go_meet
    case rel => exact ⟨_, (false), (by first | rfl | (simp; done) | (simp [*]; done)), H', ⟨by have := ao.out; first | omega | exact Nat.le_refl _⟩, ⟨by (with_reducible repeat (first | apply Kd.V_alloc | apply Kd.V_drewN | apply Kd.V_drew)); exact ab.out⟩, ⟨by (with_reducible repeat (first | apply Kd.V_alloc | apply Kd.V_drewN | apply Kd.V_drew)); exact ac.out⟩, ⟨by (with_reducible repeat (first | apply Kd.N_alloc | apply Kd.N_drewN | apply Kd.N_drew)); exact af.out⟩, ⟨by repeat (first | (with_reducible exact HR123_0.out) | (with_reducible refine Kd.C_alloc ?_ _) | (with_reducible refine Kd.C_drewN ?_ _) | (with_reducible refine Kd.C_drew ?_) | exact HR123_0.out)⟩, ⟨by repeat (first | (with_reducible first | exact HB.out | apply below_alloc | apply pw_below_drewN | apply below_drew1) | exact HB.out)⟩⟩
   replace c7 := Bool.eq_false_iff.mpr c7
   subst c7
   have H1 : (wordbookref15_Put.j1 k1 l0 l1 ad false aa t124 (decide (t124 ≥ 0))) = some r := by rw [if_neg (show ¬ (false = true) by decide)] at H; exact H
   clear H
   have H := H1
   clear H1
   have H' := Aside0.mk H
   clear H
   go_wp2
   go_meet
   case rel => exact ⟨_, (decide (t124 ≥ 0)), (by first | rfl | (simp; done) | (simp [*]; done)), H', ⟨by have := ao.out; first | omega | exact Nat.le_refl _⟩, ⟨by (with_reducible repeat (first | apply Kd.V_alloc | apply Kd.V_drewN | apply Kd.V_drew)); exact ab.out⟩, ⟨by (with_reducible repeat (first | apply Kd.V_alloc | apply Kd.V_drewN | apply Kd.V_drew)); exact ac.out⟩, ⟨by (with_reducible repeat (first | apply Kd.N_alloc | apply Kd.N_drewN | apply Kd.N_drew)); exact af.out⟩, ⟨by repeat (first | (with_reducible exact HR123_0.out) | (with_reducible refine Kd.C_alloc ?_ _) | (with_reducible refine Kd.C_drewN ?_ _) | (with_reducible refine Kd.C_drew ?_) | exact HR123_0.out)⟩, ⟨by repeat (first | (with_reducible first | exact HB.out | apply below_alloc | apply pw_below_drewN | apply below_drew1) | exact HB.out)⟩⟩
  clear HC6
  (try clear c1); (try clear p1); (try clear q1); (try clear hx1); (try clear p2); (try clear c3); (try clear ax); (try clear c4); (try clear aE); (try clear c7); (try clear am); (try clear p123); (try clear p2); (try clear q123)
  obtain ⟨kq, ah, rfl, HA, ar, ab, ac, af, HR123_0, HB⟩ := hcut
  cases kq with
  | zero => exact absurd HA.out (by simp [wordbookref15_Put.j1])
  | succ an => ?_
  have H := HA.out
  clear HA
  simp only [wordbookref15_Put.j1] at H
  by_cases c8 : ah = true
  ·
   subst c8
   have H1 : (if ad.length < 5864062014805 then ((some (ad ++ [l1] : List (List Int))).bind fun ag => (if t124 = 0 then (wordbookref15_Put.l0 an l0 l1 ag true (wrap64 (aa + 1))) else (if 0 ≤ aa then (if aa < (l0.length : Int) then (if ag.length < 5864062014805 then (wordbookref15_Put.l0 an l0 l1 (ag ++ [rd_L2 l0 aa]) true (wrap64 (aa + 1))) else (none)) else (none)) else (none)))) else (none)) = some r := by rw [if_pos rfl] at H; exact H
   clear H
   have H := H1
   clear H1
   have c9 : ad.length < 5864062014805 := Classical.byContradiction fun c_ => by rw [if_neg c_] at H; exact absurd H (by simp)
   rw [if_pos c9] at H
   have LMc9 := Aside0.mk c9
   clear c9
   obtain ⟨ag, hy125⟩ : ∃ y_ : List (List Int), y_ = (ad ++ [l1]) := ⟨_, rfl⟩
   replace H : (if t124 = 0 then (wordbookref15_Put.l0 an l0 l1 ag true (wrap64 (aa + 1))) else (if 0 ≤ aa then (if aa < (l0.length : Int) then (if ag.length < 5864062014805 then (wordbookref15_Put.l0 an l0 l1 (ag ++ [rd_L2 l0 aa]) true (wrap64 (aa + 1))) else (none)) else (none)) else (none))) = some r := by (have H2_ := (Option.bind_some _ _).symm.trans H; rw [hy125]; with_reducible exact H2_)
   have Ny125 := Aside0.mk hy125
   clear hy125
   by_cases c10 : t124 = 0
   ·
    rw [if_pos c10] at H
    have aC : (t124 == 0) = true := beq_iff_eq.mpr c10
    have aA : (t124 != 0) = false := bne_eq_false_iff_eq.mpr c10
    clear c10
    have H' := Aside0.mk H
    clear H
    go_wp2_with (first | ((with_reducible refine gate_builtin (b := .append) (xs := #[.tmp 27, .tmp 29]) rfl ?_); at_builtin; refine Kd.N_append (Kd.slice 3 (Kd.int .i64)) (w0 := w) w.heap.size rfl (.tmp 27) (.tmp 29) 23 22 (.slice none 0 0) 24 rfl Try.underlying23 info22 rfl (by decide) (by omega) u5 ad l1 [.slice A1 l1.length c1] (fun k_ => ((P0_ k_ ∨ P1_ k_) ∨ w.heap.size ≤ k_)) (fun k_ => ((fun k_ => ((P0_ k_ ∨ P1_ k_) ∨ w.heap.size ≤ k_))) k_ ∧ some k_ ≠ (u5 : Value).ownBlock) rfl rfl ?aP (fun _ hk => hk) ?aF ?aO ?aB ?aS ?aL ?_; (case aP => exact (Kd.FK_slice_mk (Kd.V_reads' (Kd.V_mono (ok' := (fun k_ => ((fun k_ => ((P0_ k_ ∨ P1_ k_) ∨ w.heap.size ≤ k_))) k_ ∧ some k_ ≠ (u5 : Value).ownBlock)) (ac.out) (fun k_ hk => ⟨hk.1, hk.2⟩))).2.1 (Kd.V_F (Kd.V_mono (ok' := (fun k_ => ((fun k_ => ((P0_ k_ ∨ P1_ k_) ∨ w.heap.size ≤ k_))) k_ ∧ some k_ ≠ (u5 : Value).ownBlock)) (ac.out) (fun k_ hk => ⟨hk.1, hk.2⟩))))); (case aB => exact HB.out); (case aF => exact (fun k_ hk => (.inr (Nat.le_trans (below_size HB.out) hk)))); (case aO => exact af.out); (case aS => exact (below_size HB.out)); (case aL => have := LMc9.out; omega); intro v126 w11 ho hb hg hat; rw [← Ny125.out] at ho; have al := Aside0.mk (Kd.V_afterv (ok := (fun k_ => ((P0_ k_ ∨ P1_ k_) ∨ w.heap.size ≤ k_))) ab.out hg hat); have ak := Aside0.mk (Kd.V_afterv (ok := (fun k_ => ((P0_ k_ ∨ P1_ k_) ∨ w.heap.size ≤ k_))) ac.out hg hat); have aj := Aside0.mk (hb); have ai := Aside0.mk (ho); clear ab; clear ac; clear HB; clear af; have ab := al; have ac := ak; have HB := aj; have HO127 := ai; clear al ak aj ai; clear ho hb hg hat))
    go_roundg an
    case measure => have := ao.out; have := ar.out; omega
    case rel => exact ⟨(ag), (true), (wrap64 (aa + 1)), (by first | rfl | (simp; done) | (simp [*]; done)), (by first | rfl | (simp; done) | (simp [*]; done)), H', ⟨by have := ao.out; have := ar.out; omega⟩, ⟨ab.out⟩, ⟨ac.out⟩, ⟨HO127.out⟩, ⟨HB.out⟩⟩
   rw [if_neg c10] at H
   have aC : (t124 == 0) = false := beq_eq_false_iff_ne.mpr c10
   have aA : (t124 != 0) = true := bne_iff_ne.mpr c10
   have c12 : 0 ≤ aa := Classical.byContradiction fun c_ => by rw [if_neg c_] at H; exact absurd H (by simp)
   rw [if_pos c12] at H
   have aJ : decide (0 ≤ aa) = true := decide_eq_true c12
   clear c12
   have c13 : aa < (l0.length : Int) := Classical.byContradiction fun c_ => by rw [if_neg c_] at H; exact absurd H (by simp)
   rw [if_pos c13] at H
   have aI : decide (aa < (l0.length : Int)) = true := decide_eq_true c13
   clear c13
   have c14 : ag.length < 5864062014805 := Classical.byContradiction fun c_ => by rw [if_neg c_] at H; exact absurd H (by simp)
   rw [if_pos c14] at H
   have LMc14 := Aside0.mk c14
   clear c14
   obtain ⟨av, hy129⟩ : ∃ y_ : List (List Int), y_ = (ag ++ [rd_L2 l0 aa]) := ⟨_, rfl⟩
   replace H : (wordbookref15_Put.l0 an l0 l1 av true (wrap64 (aa + 1))) = some r := by (rw [hy129]; with_reducible exact H)
   have Ny129 := Aside0.mk hy129
   clear hy129
   have H' := Aside0.mk H
   clear H
   go_wp2_with (first | ((with_reducible refine gate_builtin (b := .append) (xs := #[.tmp 27, .tmp 29]) rfl ?_); at_builtin; refine Kd.N_append (Kd.slice 3 (Kd.int .i64)) (w0 := w) w.heap.size rfl (.tmp 27) (.tmp 29) 23 22 (.slice none 0 0) 24 rfl Try.underlying23 info22 rfl (by decide) (by omega) u5 ad l1 [.slice A1 l1.length c1] (fun k_ => ((P0_ k_ ∨ P1_ k_) ∨ w.heap.size ≤ k_)) (fun k_ => ((fun k_ => ((P0_ k_ ∨ P1_ k_) ∨ w.heap.size ≤ k_))) k_ ∧ some k_ ≠ (u5 : Value).ownBlock) rfl rfl ?aP (fun _ hk => hk) ?aF ?aO ?aB ?aS ?aL ?_; (case aP => exact (Kd.FK_slice_mk (Kd.V_reads' (Kd.V_mono (ok' := (fun k_ => ((fun k_ => ((P0_ k_ ∨ P1_ k_) ∨ w.heap.size ≤ k_))) k_ ∧ some k_ ≠ (u5 : Value).ownBlock)) (ac.out) (fun k_ hk => ⟨hk.1, hk.2⟩))).2.1 (Kd.V_F (Kd.V_mono (ok' := (fun k_ => ((fun k_ => ((P0_ k_ ∨ P1_ k_) ∨ w.heap.size ≤ k_))) k_ ∧ some k_ ≠ (u5 : Value).ownBlock)) (ac.out) (fun k_ hk => ⟨hk.1, hk.2⟩))))); (case aB => exact HB.out); (case aF => exact (fun k_ hk => (.inr (Nat.le_trans (below_size HB.out) hk)))); (case aO => exact af.out); (case aS => exact (below_size HB.out)); (case aL => have := LMc9.out; omega); intro v126 w15 ho hb hg hat; rw [← Ny125.out] at ho; have al := Aside0.mk (Kd.V_afterv (ok := (fun k_ => ((P0_ k_ ∨ P1_ k_) ∨ w.heap.size ≤ k_))) ab.out hg hat); have ak := Aside0.mk (Kd.V_afterv (ok := (fun k_ => ((P0_ k_ ∨ P1_ k_) ∨ w.heap.size ≤ k_))) ac.out hg hat); have aj := Aside0.mk (hb); have ai := Aside0.mk (ho); clear ab; clear ac; clear HB; clear af; have ab := al; have ac := ak; have HB := aj; have HO127 := ai; clear al ak aj ai; clear ho hb hg hat; have p128 : 0 ≤ (aa : Int) := of_decide_eq_true (by first | (with_reducible assumption) | assumption); have q128 : aa < (l0.length : Int) := of_decide_eq_true (by first | (with_reducible assumption) | assumption); obtain ⟨ad128, A128_0, c128_0, e128, aq, hl128_0, hi128_0⟩ := at_L2 (Kd.V_reads' ab.out).2.2 aa p128 q128; obtain rfl : ad123 = ad128 := (by injection e128); obtain ⟨ce128, hce128, hMe128, hcc128⟩ := Kd.V_get ab.out [] aa p128 (by first | exact q128 | exact of_decide_eq_true (by first | (with_reducible assumption) | assumption) | (have e_ := (Kd.V_reads' ab.out).1; omega)); obtain ⟨ua128_0, uc128_0, rfl, ul128_0, ge128_0⟩ := Kd.FK_slice_open hMe128; have hv128_0 := hcc128 0 _ rfl; rw [Nat.add_zero, show ((Kd.slice 3 (Kd.int .i64))).sz = 1 from rfl, Nat.mul_one] at hv128_0; replace hv128_0 := Option.some.inj (hv128_0.symm.trans aq); injection hv128_0 with hva_ hvn_ hvc_; rw [hva_] at ge128_0; rw [hvc_] at ul128_0; have HL128_0 := Aside0.mk (show Kd.V (Kd.int .i64) 3 _ w.heap.size _ _ (rd_L2 l0 aa) from Kd.V_mk ul128_0 ge128_0); clear hva_ hvn_ hvc_ ge128_0 ul128_0; clear hcc128 hce128; have HR128_0 := Aside0.mk hi128_0; have HC128_0 := Aside0.mk hl128_0; clear hi128_0 hl128_0; replace p128 := eq_true p128; replace q128 := eq_true q128) | ((with_reducible refine gate_builtin (b := .append) (xs := #[.tmp 33, .tmp 38]) rfl ?_); at_builtin; refine Kd.N_append (Kd.slice 3 (Kd.int .i64)) (w0 := w) w.heap.size rfl (.tmp 33) (.tmp 38) 23 22 (.slice none 0 0) 24 rfl Try.underlying23 info22 rfl (by decide) (by omega) v126 ag (rd_L2 l0 aa) [.slice A128_0 (rd_L2 l0 aa).length c128_0] (fun k_ => ((P0_ k_ ∨ P1_ k_) ∨ w.heap.size ≤ k_)) (fun k_ => ((fun k_ => ((P0_ k_ ∨ P1_ k_) ∨ w.heap.size ≤ k_))) k_ ∧ some k_ ≠ (v126 : Value).ownBlock) rfl rfl ?aP (fun _ hk => hk) ?aF ?aO ?aB ?aS ?aL ?_; (case aP => exact (Kd.FK_slice_mk (Kd.V_reads' (Kd.V_mono (ok' := (fun k_ => ((fun k_ => ((P0_ k_ ∨ P1_ k_) ∨ w.heap.size ≤ k_))) k_ ∧ some k_ ≠ (v126 : Value).ownBlock)) (HL128_0.out) (fun k_ hk => ⟨hk.1, hk.2⟩))).2.1 (Kd.V_F (Kd.V_mono (ok' := (fun k_ => ((fun k_ => ((P0_ k_ ∨ P1_ k_) ∨ w.heap.size ≤ k_))) k_ ∧ some k_ ≠ (v126 : Value).ownBlock)) (HL128_0.out) (fun k_ hk => ⟨hk.1, hk.2⟩))))); (case aB => exact HB.out); (case aF => exact (fun k_ hk => (.inr (Nat.le_trans (below_size HB.out) hk)))); (case aO => exact HO127.out); (case aS => exact (below_size HB.out)); (case aL => have := LMc14.out; omega); intro v130 w16 ho hb hg hat; rw [← Ny129.out] at ho; have al := Aside0.mk (Kd.V_afterv (ok := (fun k_ => ((P0_ k_ ∨ P1_ k_) ∨ w.heap.size ≤ k_))) ab.out hg hat); have ak := Aside0.mk (Kd.V_afterv (ok := (fun k_ => ((P0_ k_ ∨ P1_ k_) ∨ w.heap.size ≤ k_))) ac.out hg hat); have aj := Aside0.mk (Kd.V_afterv (ok := (fun k_ => ((P0_ k_ ∨ P1_ k_) ∨ w.heap.size ≤ k_))) HL128_0.out hg hat); have ai := Aside0.mk (hb); have aw := Aside0.mk (ho); clear ab; clear ac; clear HL128_0; clear HB; clear HO127; have ab := al; have ac := ak; have HL128_0 := aj; have HB := ai; have HO131 := aw; clear al ak aj ai aw; clear ho hb hg hat))
   go_roundg an
   case measure => have := ao.out; have := ar.out; omega
   case rel => exact ⟨(av), (true), (wrap64 (aa + 1)), (by first | rfl | (simp; done) | (simp [*]; done)), (by first | rfl | (simp; done) | (simp [*]; done)), H', ⟨by have := ao.out; have := ar.out; omega⟩, ⟨ab.out⟩, ⟨ac.out⟩, ⟨HO131.out⟩, ⟨HB.out⟩⟩
  replace c8 := Bool.eq_false_iff.mpr c8
  subst c8
  have H1 : (if t124 = 0 then (wordbookref15_Put.l0 an l0 l1 ad ae (wrap64 (aa + 1))) else (if 0 ≤ aa then (if aa < (l0.length : Int) then (if ad.length < 5864062014805 then (wordbookref15_Put.l0 an l0 l1 (ad ++ [rd_L2 l0 aa]) ae (wrap64 (aa + 1))) else (none)) else (none)) else (none))) = some r := by rw [if_neg (show ¬ (false = true) by decide)] at H; exact H
  clear H
  have H := H1
  clear H1
  by_cases c17 : t124 = 0
  ·
   rw [if_pos c17] at H
   have az : (t124 == 0) = true := beq_iff_eq.mpr c17
   have ay : (t124 != 0) = false := bne_eq_false_iff_eq.mpr c17
   clear c17
   have H' := Aside0.mk H
   clear H
   go_wp2
   go_roundg an
   case measure => have := ao.out; have := ar.out; omega
   case rel => exact ⟨(ad), (ae), (wrap64 (aa + 1)), (by first | rfl | (simp; done) | (simp [*]; done)), (by first | rfl | (simp; done) | (simp [*]; done)), H', ⟨by have := ao.out; have := ar.out; omega⟩, ⟨ab.out⟩, ⟨ac.out⟩, ⟨af.out⟩, ⟨HB.out⟩⟩
  rw [if_neg c17] at H
  have az : (t124 == 0) = false := beq_eq_false_iff_ne.mpr c17
  have ay : (t124 != 0) = true := bne_iff_ne.mpr c17
  have c18 : 0 ≤ aa := Classical.byContradiction fun c_ => by rw [if_neg c_] at H; exact absurd H (by simp)
  rw [if_pos c18] at H
  have aH : decide (0 ≤ aa) = true := decide_eq_true c18
  clear c18
  have c19 : aa < (l0.length : Int) := Classical.byContradiction fun c_ => by rw [if_neg c_] at H; exact absurd H (by simp)
  rw [if_pos c19] at H
  have aG : decide (aa < (l0.length : Int)) = true := decide_eq_true c19
  clear c19
  have c20 : ad.length < 5864062014805 := Classical.byContradiction fun c_ => by rw [if_neg c_] at H; exact absurd H (by simp)
  rw [if_pos c20] at H
  have LMc20 := Aside0.mk c20
  clear c20
  obtain ⟨au, hy133⟩ : ∃ y_ : List (List Int), y_ = (ad ++ [rd_L2 l0 aa]) := ⟨_, rfl⟩
  replace H : (wordbookref15_Put.l0 an l0 l1 au ae (wrap64 (aa + 1))) = some r := by (rw [hy133]; with_reducible exact H)
  have Ny133 := Aside0.mk hy133
  clear hy133
  have H' := Aside0.mk H
  clear H
  have p132 : 0 ≤ (aa : Int) := of_decide_eq_true (by first | (with_reducible assumption) | assumption)
  have q132 : aa < (l0.length : Int) := of_decide_eq_true (by first | (with_reducible assumption) | assumption)
  obtain ⟨ad132, A132_0, c132_0, e132, ap, hl132_0, hi132_0⟩ := at_L2 (Kd.V_reads' ab.out).2.2 aa p132 q132
  obtain rfl : ad123 = ad132 := (by injection e132)
  obtain ⟨ce132, hce132, hMe132, hcc132⟩ := Kd.V_get ab.out [] aa p132 (by first | exact q132 | exact of_decide_eq_true (by first | (with_reducible assumption) | assumption) | (have e_ := (Kd.V_reads' ab.out).1; omega))
  obtain ⟨ua132_0, uc132_0, rfl, ul132_0, ge132_0⟩ := Kd.FK_slice_open hMe132
  have hv132_0 := hcc132 0 _ rfl
  rw [Nat.add_zero, show ((Kd.slice 3 (Kd.int .i64))).sz = 1 from rfl, Nat.mul_one] at hv132_0
  replace hv132_0 := Option.some.inj (hv132_0.symm.trans ap)
  injection hv132_0 with hva_ hvn_ hvc_
  rw [hva_] at ge132_0
  rw [hvc_] at ul132_0
  have HL132_0 := Aside0.mk (show Kd.V (Kd.int .i64) 3 _ w.heap.size _ _ (rd_L2 l0 aa) from Kd.V_mk ul132_0 ge132_0)
  clear hva_ hvn_ hvc_ ge132_0 ul132_0
  clear hcc132 hce132
  have HR132_0 := Aside0.mk hi132_0
  have HC132_0 := Aside0.mk hl132_0
  clear hi132_0 hl132_0
  replace p132 := eq_true p132
  replace q132 := eq_true q132
  go_wp2_with (first | ((with_reducible refine gate_builtin (b := .append) (xs := #[.tmp 33, .tmp 38]) rfl ?_); at_builtin; refine Kd.N_append (Kd.slice 3 (Kd.int .i64)) (w0 := w) w.heap.size rfl (.tmp 33) (.tmp 38) 23 22 (.slice none 0 0) 24 rfl Try.underlying23 info22 rfl (by decide) (by omega) u5 ad (rd_L2 l0 aa) [.slice A132_0 (rd_L2 l0 aa).length c132_0] (fun k_ => ((P0_ k_ ∨ P1_ k_) ∨ w.heap.size ≤ k_)) (fun k_ => ((fun k_ => ((P0_ k_ ∨ P1_ k_) ∨ w.heap.size ≤ k_))) k_ ∧ some k_ ≠ (u5 : Value).ownBlock) rfl rfl ?aP (fun _ hk => hk) ?aF ?aO ?aB ?aS ?aL ?_; (case aP => exact (Kd.FK_slice_mk (Kd.V_reads' (Kd.V_mono (ok' := (fun k_ => ((fun k_ => ((P0_ k_ ∨ P1_ k_) ∨ w.heap.size ≤ k_))) k_ ∧ some k_ ≠ (u5 : Value).ownBlock)) (HL132_0.out) (fun k_ hk => ⟨hk.1, hk.2⟩))).2.1 (Kd.V_F (Kd.V_mono (ok' := (fun k_ => ((fun k_ => ((P0_ k_ ∨ P1_ k_) ∨ w.heap.size ≤ k_))) k_ ∧ some k_ ≠ (u5 : Value).ownBlock)) (HL132_0.out) (fun k_ hk => ⟨hk.1, hk.2⟩))))); (case aB => exact HB.out); (case aF => exact (fun k_ hk => (.inr (Nat.le_trans (below_size HB.out) hk)))); (case aO => exact af.out); (case aS => exact (below_size HB.out)); (case aL => have := LMc20.out; omega); intro v134 w21 ho hb hg hat; rw [← Ny133.out] at ho; have al := Aside0.mk (Kd.V_afterv (ok := (fun k_ => ((P0_ k_ ∨ P1_ k_) ∨ w.heap.size ≤ k_))) ab.out hg hat); have ak := Aside0.mk (Kd.V_afterv (ok := (fun k_ => ((P0_ k_ ∨ P1_ k_) ∨ w.heap.size ≤ k_))) ac.out hg hat); have aj := Aside0.mk (Kd.V_afterv (ok := (fun k_ => ((P0_ k_ ∨ P1_ k_) ∨ w.heap.size ≤ k_))) HL132_0.out hg hat); have ai := Aside0.mk (hb); have aw := Aside0.mk (ho); clear ab; clear ac; clear HL132_0; clear HB; clear af; have ab := al; have ac := ak; have HL132_0 := aj; have HB := ai; have HO135 := aw; clear al ak aj ai aw; clear ho hb hg hat))
  go_roundg an
  case measure => have := ao.out; have := ar.out; omega
  case rel => exact ⟨(au), (ae), (wrap64 (aa + 1)), (by first | rfl | (simp; done) | (simp [*]; done)), (by first | rfl | (simp; done) | (simp [*]; done)), H', ⟨by have := ao.out; have := ar.out; omega⟩, ⟨ab.out⟩, ⟨ac.out⟩, ⟨HO135.out⟩, ⟨HB.out⟩⟩
 rw [if_neg c3] at H
 have ax : decide (aa < (l0.length : Int)) = false := decide_eq_false c3
 clear c3
 by_cases c22 : ae = true
 ·
  subst c22
  have H1 : (some ad) = some r := by rw [if_pos rfl] at H; exact H
  clear H
  have H := H1
  clear H1
  obtain rfl := Option.some.inj H
  go_wp2
  go_ret
  exact ⟨_, by first | rfl | (simp [errW_none, errW_some] <;> rfl) | (simp [*, errW_none, errW_some] <;> rfl), by exact af.out, by exact HB.out⟩
 replace c22 := Bool.eq_false_iff.mpr c22
 subst c22
 have H1 : (if ad.length < 5864062014805 then (some (ad ++ [l1])) else (none)) = some r := by rw [if_neg (show ¬ (false = true) by decide)] at H; exact H
 clear H
 have H := H1
 clear H1
 have c23 : ad.length < 5864062014805 := Classical.byContradiction fun c_ => by rw [if_neg c_] at H; exact absurd H (by simp)
 rw [if_pos c23] at H
 have LMc23 := Aside0.mk c23
 clear c23
 obtain ⟨aD, hy120⟩ : ∃ y_ : List (List Int), y_ = (ad ++ [l1]) := ⟨_, rfl⟩
 replace H : (some aD) = some r := by (rw [hy120]; with_reducible exact H)
 have Ny120 := Aside0.mk hy120
 clear hy120
 obtain rfl := Option.some.inj H
 go_wp2_with (first | ((with_reducible refine gate_builtin (b := .append) (xs := #[.tmp 42, .tmp 44]) rfl ?_); at_builtin; refine Kd.N_append (Kd.slice 3 (Kd.int .i64)) (w0 := w) w.heap.size rfl (.tmp 42) (.tmp 44) 23 22 (.slice none 0 0) 24 rfl Try.underlying23 info22 rfl (by decide) (by omega) u5 ad l1 [.slice A1 l1.length c1] (fun k_ => ((P0_ k_ ∨ P1_ k_) ∨ w.heap.size ≤ k_)) (fun k_ => ((fun k_ => ((P0_ k_ ∨ P1_ k_) ∨ w.heap.size ≤ k_))) k_ ∧ some k_ ≠ (u5 : Value).ownBlock) rfl rfl ?aP (fun _ hk => hk) ?aF ?aO ?aB ?aS ?aL ?_; (case aP => exact (Kd.FK_slice_mk (Kd.V_reads' (Kd.V_mono (ok' := (fun k_ => ((fun k_ => ((P0_ k_ ∨ P1_ k_) ∨ w.heap.size ≤ k_))) k_ ∧ some k_ ≠ (u5 : Value).ownBlock)) (ac.out) (fun k_ hk => ⟨hk.1, hk.2⟩))).2.1 (Kd.V_F (Kd.V_mono (ok' := (fun k_ => ((fun k_ => ((P0_ k_ ∨ P1_ k_) ∨ w.heap.size ≤ k_))) k_ ∧ some k_ ≠ (u5 : Value).ownBlock)) (ac.out) (fun k_ hk => ⟨hk.1, hk.2⟩))))); (case aB => exact HB.out); (case aF => exact (fun k_ hk => (.inr (Nat.le_trans (below_size HB.out) hk)))); (case aO => exact af.out); (case aS => exact (below_size HB.out)); (case aL => have := LMc23.out; omega); intro v121 w24 ho hb hg hat; rw [← Ny120.out] at ho; have al := Aside0.mk (Kd.V_afterv (ok := (fun k_ => ((P0_ k_ ∨ P1_ k_) ∨ w.heap.size ≤ k_))) ab.out hg hat); have ak := Aside0.mk (Kd.V_afterv (ok := (fun k_ => ((P0_ k_ ∨ P1_ k_) ∨ w.heap.size ≤ k_))) ac.out hg hat); have aj := Aside0.mk (hb); have ai := Aside0.mk (ho); clear ab; clear ac; clear HB; clear af; have ab := al; have ac := ak; have HB := aj; have HO122 := ai; clear al ak aj ai; clear ho hb hg hat))
 go_ret
 exact ⟨_, by first | rfl | (simp [errW_none, errW_some] <;> rfl) | (simp [*, errW_none, errW_some] <;> rfl), by exact HO122.out, by exact HB.out⟩
def wordbookref15_num.f (l0 : List Int) (a1 : Int) : Option (Int) := if (l0.length : Int) = 0 then (some 0) else (if 0 ≤ (Int.tmod a1 (l0.length : Int)) then (if (Int.tmod a1 (l0.length : Int)) < (l0.length : Int) then (if (Int.tmod (rd l0 (Int.tmod a1 (l0.length : Int))) 1048576) < 0 then (some (wrap64 ((wrap64 (-(Int.tmod (rd l0 (Int.tmod a1 (l0.length : Int))) 1048576))) + (wrap64 (17 * (wrap64 (Int.tdiv a1 (l0.length : Int)))))))) else (some (wrap64 ((Int.tmod (rd l0 (Int.tmod a1 (l0.length : Int))) 1048576) + (wrap64 (17 * (wrap64 (Int.tdiv a1 (l0.length : Int))))))))) else (none)) else (none))
set_option maxHeartbeats 8000000 in
set_option maxRecDepth 100000 in
theorem wordbookref15_num.calls (A0 : Option Addr) (c0 : Nat) (l0 : List Int) (a1 : Int) (r : Int) (w : World) (hr0 : Kd.C (Kd.int .i64) w A0 l0.length l0) (hc0 : l0.length ≤ c0) (h : wordbookref15_num.f l0 a1 = some r) :
    Calls Try.prog 65 #[.slice A0 l0.length c0, .int .i64 a1] w fun e w' => e = .returned (.int .i64 r) ∧ Drawn0 w w' := by
 have HR0 := Aside0.mk hr0
 have HC0 := Aside0.mk hc0
 clear hr0 hc0
 have H : (if (l0.length : Int) = 0 then (some 0) else (if 0 ≤ (Int.tmod a1 (l0.length : Int)) then (if (Int.tmod a1 (l0.length : Int)) < (l0.length : Int) then (if (Int.tmod (rd l0 (Int.tmod a1 (l0.length : Int))) 1048576) < 0 then (some (wrap64 ((wrap64 (-(Int.tmod (rd l0 (Int.tmod a1 (l0.length : Int))) 1048576))) + (wrap64 (17 * (wrap64 (Int.tdiv a1 (l0.length : Int)))))))) else (some (wrap64 ((Int.tmod (rd l0 (Int.tmod a1 (l0.length : Int))) 1048576) + (wrap64 (17 * (wrap64 (Int.tdiv a1 (l0.length : Int))))))))) else (none)) else (none))) = some r := h
 clear h
 by_cases c3 : (l0.length : Int) = 0
 ·
  rw [if_pos c3] at H
  have ad : ((l0.length : Int) == 0) = true := beq_iff_eq.mpr c3
  have ac : ((l0.length : Int) != 0) = false := bne_eq_false_iff_eq.mpr c3
  clear c3
  obtain rfl := Option.some.inj H
  go_enter Try.func65, Try.ntmps65
  go_wp2
  go_ret
  exact ⟨by first | rfl | (simp; done) | (simp [*]; done), by repeat (first | exact Drawn0.refl _ | apply Drawn0.step)⟩
 rw [if_neg c3] at H
 have ad : ((l0.length : Int) == 0) = false := beq_eq_false_iff_ne.mpr c3
 have ac : ((l0.length : Int) != 0) = true := bne_iff_ne.mpr c3
 have ag : ¬ (l0 = []) := fun h_ => c3 (by rw [h_]; rfl)
 obtain ⟨ji4, hji4⟩ : ∃ j_ : Int, (Int.tmod a1 (l0.length : Int)) = j_ := ⟨_, rfl⟩
 replace H : (if 0 ≤ (ji4) then (if (ji4) < (l0.length : Int) then (if (Int.tmod (rd l0 (ji4)) 1048576) < 0 then (some (wrap64 ((wrap64 (-(Int.tmod (rd l0 (ji4)) 1048576))) + (wrap64 (17 * (wrap64 (Int.tdiv a1 (l0.length : Int)))))))) else (some (wrap64 ((Int.tmod (rd l0 (ji4)) 1048576) + (wrap64 (17 * (wrap64 (Int.tdiv a1 (l0.length : Int))))))))) else (none)) else (none)) = some r := by first | (rw [hji4] at H; exact H) | (simp only [hji4] at H ⊢; exact H)
 have c5 : 0 ≤ (ji4) := Classical.byContradiction fun c_ => by rw [if_neg c_] at H; exact absurd H (by simp)
 rw [if_pos c5] at H
 have af : decide (0 ≤ (ji4)) = true := decide_eq_true c5
 clear c5
 have c6 : (ji4) < (l0.length : Int) := Classical.byContradiction fun c_ => by rw [if_neg c_] at H; exact absurd H (by simp)
 rw [if_pos c6] at H
 have ae : decide ((ji4) < (l0.length : Int)) = true := decide_eq_true c6
 clear c6
 by_cases c7 : (Int.tmod (rd l0 (ji4)) 1048576) < 0
 ·
  rw [if_pos c7] at H
  have ab : decide ((Int.tmod (rd l0 (ji4)) 1048576) < 0) = true := decide_eq_true c7
  clear c7
  obtain rfl := Option.some.inj H
  have p136 : 0 ≤ ((ji4) : Int) := of_decide_eq_true (by first | (with_reducible assumption) | assumption)
  have q136 : (ji4) < (l0.length : Int) := of_decide_eq_true (by first | (with_reducible assumption) | assumption)
  obtain ⟨ad136, e136, aa⟩ := Kd.at_int HR0.out (ji4) p136 q136
  cases e136
  replace p136 := eq_true p136
  replace q136 := eq_true q136
  go_enter Try.func65, Try.ntmps65
  go_wp2
  go_ret
  exact ⟨by first | rfl | (simp; done) | (simp only [← hji4] <;> (first | rfl | simp)) | (simp [*]; done), by repeat (first | exact Drawn0.refl _ | apply Drawn0.step)⟩
 rw [if_neg c7] at H
 have ab : decide ((Int.tmod (rd l0 (ji4)) 1048576) < 0) = false := decide_eq_false c7
 clear c7
 obtain rfl := Option.some.inj H
 have p136 : 0 ≤ ((ji4) : Int) := of_decide_eq_true (by first | (with_reducible assumption) | assumption)
 have q136 : (ji4) < (l0.length : Int) := of_decide_eq_true (by first | (with_reducible assumption) | assumption)
 obtain ⟨ad136, e136, aa⟩ := Kd.at_int HR0.out (ji4) p136 q136
 cases e136
 replace p136 := eq_true p136
 replace q136 := eq_true q136
 go_enter Try.func65, Try.ntmps65
 go_wp2
 go_ret
 exact ⟨by first | rfl | (simp; done) | (simp only [← hji4] <;> (first | rfl | simp)) | (simp [*]; done), by repeat (first | exact Drawn0.refl _ | apply Drawn0.step)⟩
mutual
def wordbookref15_Words.l0 : Nat → List Int → Int → List (List Int) → Int → Option ((List (List Int)))
  | 0, _, _, _, _ => none
  | k + 1, x0, x1, x5, x6 => if x6 < x1 then ((wordbookref15_num.f x0 (wrap64 (3 * x6))).bind fun t137 => (wordbookref15_Words.l1 k x0 x1 x5 x6 ([] : List Int) t137 0)) else (some x5)
def wordbookref15_Words.l1 : Nat → List Int → Int → List (List Int) → Int → List Int → Int → Int → Option ((List (List Int)))
  | 0, _, _, _, _, _, _, _ => none
  | k + 1, x0, x1, x5, x6, x7, x8, x9 => if x9 < (Int.tmod x8 4) then ((wordbookref15_num.f x0 (wrap64 ((Int.tmod x8 7) + x9))).bind fun t138 => (if x7.length < 17592186044416 then (wordbookref15_Words.l1 k x0 x1 x5 x6 (x7 ++ [Int.tmod t138 3]) x8 (wrap64 (x9 + 1))) else (none))) else ((wordbookref15_num.f x0 (wrap64 ((wrap64 (3 * x6)) + 1))).bind fun t142 => (wordbookref15_Words.l2 k x0 x1 x5 x6 x7 t142 0))
def wordbookref15_Words.l2 : Nat → List Int → Int → List (List Int) → Int → List Int → Int → Int → Option ((List (List Int)))
  | 0, _, _, _, _, _, _, _ => none
  | k + 1, x0, x1, x5, x6, x7, x10, x11 => if x11 < (Int.tmod x10 3) then ((wordbookref15_num.f x0 (wrap64 ((wrap64 (5 * x6)) + x11))).bind fun t143 => (if (Int.tmod t143 4) = 3 then (if x7.length < 17592186044416 then (wordbookref15_Words.l2 k x0 x1 x5 x6 (x7 ++ [wrap64 (63 - (Int.tmod x10 2))]) x10 (wrap64 (x11 + 1))) else (none)) else (if x7.length < 17592186044416 then (wordbookref15_Words.l2 k x0 x1 x5 x6 (x7 ++ [Int.tmod t143 4]) x10 (wrap64 (x11 + 1))) else (none)))) else ((wordbookref15_num.f x0 (wrap64 ((wrap64 (3 * x6)) + 2))).bind fun t150 => (wordbookref15_Words.l3 k x0 x1 x5 x6 x7 t150 0))
def wordbookref15_Words.l3 : Nat → List Int → Int → List (List Int) → Int → List Int → Int → Int → Option ((List (List Int)))
  | 0, _, _, _, _, _, _, _ => none
  | k + 1, x0, x1, x5, x6, x7, x13, x14 => if x14 < (Int.tmod x13 3) then (if x7.length < 17592186044416 then (wordbookref15_Words.l3 k x0 x1 x5 x6 (x7 ++ [wrap64 ((wrap64 (4 + x14)) + (Int.tmod (wrap64 (Int.tdiv x13 3)) 2))]) x13 (wrap64 (x14 + 1))) else (none)) else ((wordbookref15_Put.f k x5 x7).bind fun t154 => (wordbookref15_Words.l0 k x0 x1 t154 (wrap64 (x6 + 1))))
end
def wordbookref15_Words.f (k : Nat) (l0 : List Int) (a1 : Int) : Option ((List (List Int))) := wordbookref15_Words.l0 k l0 a1 ([] : List (List Int)) 0
set_option maxHeartbeats 8000000 in
set_option maxRecDepth 100000 in
theorem wordbookref15_Words.calls (k : Nat) (A0 : Option Addr) (c0 : Nat) (l0 : List Int) (a1 : Int) (r : List (List Int)) (w : World) (hr0 : Kd.C (Kd.int .i64) w A0 l0.length l0) (hc0 : l0.length ≤ c0) (h : wordbookref15_Words.f k l0 a1 = some r) :
    Calls Try.prog 17 #[.slice A0 l0.length c0, .int .i64 a1] w fun e w' => ∃ v0_ : Value, e = .returned (v0_) ∧ Kd.N (Kd.slice 3 (Kd.int .i64)) 22 w' w.heap.size (fun k_ => (w.heap.size ≤ k_)) v0_ r ∧ Below w.heap.size w w' := by
 have HR0 := Aside0.mk hr0
 have HC0 := Aside0.mk hc0
 clear hr0 hc0
 have HB := Aside0.mk (Below.refl w.heap.size w)
 have H : (wordbookref15_Words.l0 k l0 a1 ([] : List (List Int)) 0) = some r := h
 clear h
 have H' := Aside0.mk H
 clear H
 go_enter Try.func17, Try.ntmps17
 go_wp2
 go_loopg [5, 6] k (fun kq v5 v6 w' => ∃ (ad : List (List Int)) (aa : Int), v6 = .int .i64 aa ∧ Aside0 (wordbookref15_Words.l0 kq l0 a1 ad aa = some r) ∧ Aside0 (kq ≤ k) ∧ Aside0 (Kd.N (Kd.slice 3 (Kd.int .i64)) 22 w' w.heap.size (fun k_ => (w.heap.size ≤ k_)) v5 ad) ∧ Aside0 (Below w.heap.size w w'))
 case atStart => exact ⟨(([] : List (List Int))), (0), (by first | rfl | (simp; done) | (simp [*]; done)), H', ⟨Nat.le_refl _⟩, ⟨by first | exact Kd.S_nil _ _ _ _ _ | exact Kd.N_nil _ _ _ _ _ | exact Kd.V_nil _ _ _ _ _ | exact Kd.Q_nil _ _ _ _ _ | exact Kd.R_nil _ _ _ _ _⟩, ⟨HB.out⟩⟩
 clear H'
 (try clear c1); (try clear p2)
 obtain ⟨ad, aa, rfl, HA, ao, ab, HB⟩ := hrel
 cases gk with
 | zero => exact absurd HA.out (by simp [wordbookref15_Words.l0])
 | succ k1 => ?_
 have H := HA.out
 clear HA
 simp only [wordbookref15_Words.l0] at H
 by_cases c3 : aa < a1
 ·
  rw [if_pos c3] at H
  have ap : decide (aa < a1) = true := decide_eq_true c3
  clear c3
  replace H := Option.bind_eq_some_iff.mp H
  obtain ⟨t137, A40, H⟩ := H
  replace H : (wordbookref15_Words.l1 k1 l0 a1 ad aa ([] : List Int) t137 0) = some r := H
  have A4 := Aside0.mk A40
  clear A40
  have H' := Aside0.mk H
  clear H
  go_wp2_with (first | ((with_reducible refine gate_callee (f := 65) rfl ?_); refine goesL_ (some 23) rfl rfl Try.func65 (by kernel_rfl) rfl #[.slice A0 l0.length c0, .int .i64 (wrap64 (3 * aa))] rfl (by (try simp only [List.map_toArray, List.map_cons, List.map_nil]); first | done | rfl | (simp only [List.length_drop, List.length_take]; rfl)) ?_; (with_reducible refine (wordbookref15_num.calls _ _ l0 (wrap64 (3 * aa)) t137 _ ?side1 ?side2 A4.out).mono ?_); (case side1 => repeat (first | exact (Kd.C_below HR0.out HB.out) | (with_reducible refine Kd.C_alloc ?_ _) | (with_reducible refine Kd.C_drewN ?_ _) | (with_reducible refine Kd.C_drew ?_))); (case side2 => exact HC0.out); rintro e w' ⟨rfl, ⟨nd, rfl⟩⟩; refine ⟨_, rfl, ?_⟩))
  go_loopg [7, 9] k1 (fun kq v7 v9 w' => ∃ (aj : List Int) (ah : Int), v9 = .int .i64 ah ∧ Aside0 (wordbookref15_Words.l1 kq l0 a1 ad aa aj t137 ah = some r) ∧ Aside0 (kq ≤ k1) ∧ Aside0 (Kd.N (Kd.slice 3 (Kd.int .i64)) 22 w' w.heap.size (fun k_ => (w.heap.size ≤ k_) ∧ some k_ ≠ (v7 : Value).ownBlock) u5 ad) ∧ Aside0 (Kd.R (Kd.int .i64) 3 w' w.heap.size (fun k_ => (w.heap.size ≤ k_)) v7 aj) ∧ Aside0 (Below w.heap.size w w'))
  case atStart => exact ⟨(([] : List Int)), (0), (by first | rfl | (simp; done) | (simp [*]; done)), H', ⟨Nat.le_refl _⟩, ⟨by (with_reducible repeat (first | apply Kd.N_alloc | apply Kd.N_drewN | apply Kd.N_drew)); exact Kd.N_mono ab.out (fun _ hk => ⟨hk, (by simp [Value.ownBlock])⟩)⟩, ⟨by first | exact Kd.R_nil _ _ _ _ _ | exact Kd.N_nil _ _ _ _ _ | exact Kd.V_nil _ _ _ _ _ | exact Kd.Q_nil _ _ _ _ _ | exact Kd.S_nil _ _ _ _ _⟩, ⟨by repeat (first | (with_reducible first | exact HB.out | apply below_alloc | apply pw_below_drewN | apply below_drew1) | exact HB.out)⟩⟩
  clear H'
  (try clear c1); (try clear p2); (try clear c3); (try clear ap); (try clear p2)
  obtain ⟨aj, ah, rfl, HA, an, ab, ae, HB⟩ := hrel
  cases gk with
  | zero => exact absurd HA.out (by simp [wordbookref15_Words.l1])
  | succ k2 => ?_
  have H := HA.out
  clear HA
  simp only [wordbookref15_Words.l1] at H
  by_cases c5 : ah < (Int.tmod t137 4)
  ·
   rw [if_pos c5] at H
   have ax : decide (ah < (Int.tmod t137 4)) = true := decide_eq_true c5
   clear c5
   replace H := Option.bind_eq_some_iff.mp H
   obtain ⟨t138, A60, H⟩ := H
   replace H : (if aj.length < 17592186044416 then (wordbookref15_Words.l1 k2 l0 a1 ad aa (aj ++ [Int.tmod t138 3]) t137 (wrap64 (ah + 1))) else (none)) = some r := H
   have A6 := Aside0.mk A60
   clear A60
   have c7 : aj.length < 17592186044416 := Classical.byContradiction fun c_ => by rw [if_neg c_] at H; exact absurd H (by simp)
   rw [if_pos c7] at H
   have LMc7 := Aside0.mk c7
   clear c7
   obtain ⟨aD, hy139⟩ : ∃ y_ : List Int, y_ = (aj ++ [Int.tmod t138 3]) := ⟨_, rfl⟩
   replace H : (wordbookref15_Words.l1 k2 l0 a1 ad aa aD t137 (wrap64 (ah + 1))) = some r := by (rw [hy139]; with_reducible exact H)
   have Ny139 := Aside0.mk hy139
   clear hy139
   have H' := Aside0.mk H
   clear H
   go_wp2_with (first | ((with_reducible refine gate_callee (f := 65) rfl ?_); refine goesL_ (some 36) rfl rfl Try.func65 (by kernel_rfl) rfl #[.slice A0 l0.length c0, .int .i64 (wrap64 ((Int.tmod t137 7) + ah))] rfl (by (try simp only [List.map_toArray, List.map_cons, List.map_nil]); first | done | rfl | (simp only [List.length_drop, List.length_take]; rfl)) ?_; (with_reducible refine (wordbookref15_num.calls _ _ l0 (wrap64 ((Int.tmod t137 7) + ah)) t138 _ ?side1 ?side2 A6.out).mono ?_); (case side1 => repeat (first | exact (Kd.C_below HR0.out HB.out) | (with_reducible refine Kd.C_alloc ?_ _) | (with_reducible refine Kd.C_drewN ?_ _) | (with_reducible refine Kd.C_drew ?_))); (case side2 => exact HC0.out); rintro e w' ⟨rfl, ⟨nd, rfl⟩⟩; refine ⟨_, rfl, ?_⟩) | ((with_reducible refine gate_builtin (b := .append) (xs := #[.tmp 30, .tmp 38]) rfl ?_); at_builtin; refine Kd.R_append (Kd.int .i64) (w0 := w) w.heap.size rfl (.tmp 30) (.tmp 38) 22 3 (.int .i64 0) 8 rfl Try.underlying22 info3 rfl (by decide) (by omega) u7 aj (Int.tmod t138 3) [.int .i64 (Int.tmod t138 3)] (fun k_ => (w.heap.size ≤ k_)) (fun _ => False) rfl rfl ?aP (fun _ hk => hk.elim) ?aF ?aO ?aB ?aS ?aL ?_; (case aP => exact rfl); (case aB => exact (by repeat (first | (with_reducible first | exact HB.out | apply below_alloc | apply pw_below_drewN | apply below_drew1) | exact HB.out))); (case aF => exact (fun k_ hk => (Nat.le_trans (below_size (by repeat (first | (with_reducible first | exact HB.out | apply below_alloc | apply pw_below_drewN | apply below_drew1) | exact HB.out))) hk))); (case aO => exact (by (with_reducible repeat (first | apply Kd.R_alloc | apply Kd.R_drewN | apply Kd.R_drew)); exact ae.out)); (case aS => exact (below_size (by repeat (first | (with_reducible first | exact HB.out | apply below_alloc | apply pw_below_drewN | apply below_drew1) | exact HB.out)))); (case aL => have := LMc7.out; omega); intro v140 w8 ho hb hg hat; rw [← Ny139.out] at ho; have am := Aside0.mk (Kd.N_afterv (ok := (fun k_ => (w.heap.size ≤ k_))) (by (with_reducible repeat (first | apply Kd.N_alloc | apply Kd.N_drewN | apply Kd.N_drew)); exact ab.out) hg hat); have al := Aside0.mk (hb); have ak := Aside0.mk (ho); clear ab; clear HB; clear ae; have ab := am; have HB := al; have HO141 := ak; clear am al ak; clear ho hb hg hat))
   go_roundg k2
   case measure => have := ao.out; have := an.out; omega
   case rel => exact ⟨(aD), (wrap64 (ah + 1)), (by first | rfl | (simp; done) | (simp [*]; done)), H', ⟨by have := ao.out; have := an.out; omega⟩, ⟨ab.out⟩, ⟨HO141.out⟩, ⟨HB.out⟩⟩
  rw [if_neg c5] at H
  have ax : decide (ah < (Int.tmod t137 4)) = false := decide_eq_false c5
  clear c5
  replace H := Option.bind_eq_some_iff.mp H
  obtain ⟨t142, A90, H⟩ := H
  replace H : (wordbookref15_Words.l2 k2 l0 a1 ad aa aj t142 0) = some r := H
  have A9 := Aside0.mk A90
  clear A90
  have H' := Aside0.mk H
  clear H
  go_wp2_with (first | ((with_reducible refine gate_callee (f := 65) rfl ?_); refine goesL_ (some 44) rfl rfl Try.func65 (by kernel_rfl) rfl #[.slice A0 l0.length c0, .int .i64 (wrap64 ((wrap64 (3 * aa)) + 1))] rfl (by (try simp only [List.map_toArray, List.map_cons, List.map_nil]); first | done | rfl | (simp only [List.length_drop, List.length_take]; rfl)) ?_; (with_reducible refine (wordbookref15_num.calls _ _ l0 (wrap64 ((wrap64 (3 * aa)) + 1)) t142 _ ?side1 ?side2 A9.out).mono ?_); (case side1 => repeat (first | exact (Kd.C_below HR0.out HB.out) | (with_reducible refine Kd.C_alloc ?_ _) | (with_reducible refine Kd.C_drewN ?_ _) | (with_reducible refine Kd.C_drew ?_))); (case side2 => exact HC0.out); rintro e w' ⟨rfl, ⟨nd, rfl⟩⟩; refine ⟨_, rfl, ?_⟩))
  go_loopg [7, 11] k2 (fun kq v7 v11 w' => ∃ (ag : List Int) (ac : Int), v11 = .int .i64 ac ∧ Aside0 (wordbookref15_Words.l2 kq l0 a1 ad aa ag t142 ac = some r) ∧ Aside0 (kq ≤ k2) ∧ Aside0 (Kd.N (Kd.slice 3 (Kd.int .i64)) 22 w' w.heap.size (fun k_ => (w.heap.size ≤ k_) ∧ some k_ ≠ (v7 : Value).ownBlock) u5 ad) ∧ Aside0 (Kd.R (Kd.int .i64) 3 w' w.heap.size (fun k_ => (w.heap.size ≤ k_)) v7 ag) ∧ Aside0 (Below w.heap.size w w'))
  case atStart => exact ⟨(aj), (0), (by first | rfl | (simp; done) | (simp [*]; done)), H', ⟨Nat.le_refl _⟩, ⟨by (with_reducible repeat (first | apply Kd.N_alloc | apply Kd.N_drewN | apply Kd.N_drew)); exact ab.out⟩, ⟨by (with_reducible repeat (first | apply Kd.R_alloc | apply Kd.R_drewN | apply Kd.R_drew)); exact ae.out⟩, ⟨by repeat (first | (with_reducible first | exact HB.out | apply below_alloc | apply pw_below_drewN | apply below_drew1) | exact HB.out)⟩⟩
  clear H'
  (try clear c1); (try clear p2); (try clear c3); (try clear ap); (try clear c5); (try clear ax); (try clear c6); (try clear p6); (try clear c7); (try clear p2)
  obtain ⟨ag, ac, rfl, HA, av, ab, ae, HB⟩ := hrel
  cases gk with
  | zero => exact absurd HA.out (by simp [wordbookref15_Words.l2])
  | succ k3 => ?_
  have H := HA.out
  clear HA
  simp only [wordbookref15_Words.l2] at H
  by_cases c10 : ac < (Int.tmod t142 3)
  ·
   rw [if_pos c10] at H
   have au : decide (ac < (Int.tmod t142 3)) = true := decide_eq_true c10
   clear c10
   replace H := Option.bind_eq_some_iff.mp H
   obtain ⟨t143, A110, H⟩ := H
   replace H : (if (Int.tmod t143 4) = 3 then (if ag.length < 17592186044416 then (wordbookref15_Words.l2 k3 l0 a1 ad aa (ag ++ [wrap64 (63 - (Int.tmod t142 2))]) t142 (wrap64 (ac + 1))) else (none)) else (if ag.length < 17592186044416 then (wordbookref15_Words.l2 k3 l0 a1 ad aa (ag ++ [Int.tmod t143 4]) t142 (wrap64 (ac + 1))) else (none))) = some r := H
   have A11 := Aside0.mk A110
   clear A110
   by_cases c12 : (Int.tmod t143 4) = 3
   ·
    rw [if_pos c12] at H
    have ar : ((Int.tmod t143 4) == 3) = true := beq_iff_eq.mpr c12
    have aq : ((Int.tmod t143 4) != 3) = false := bne_eq_false_iff_eq.mpr c12
    clear c12
    have c13 : ag.length < 17592186044416 := Classical.byContradiction fun c_ => by rw [if_neg c_] at H; exact absurd H (by simp)
    rw [if_pos c13] at H
    have LMc13 := Aside0.mk c13
    clear c13
    obtain ⟨aC, hy144⟩ : ∃ y_ : List Int, y_ = (ag ++ [wrap64 (63 - (Int.tmod t142 2))]) := ⟨_, rfl⟩
    replace H : (wordbookref15_Words.l2 k3 l0 a1 ad aa aC t142 (wrap64 (ac + 1))) = some r := by (rw [hy144]; with_reducible exact H)
    have Ny144 := Aside0.mk hy144
    clear hy144
    have H' := Aside0.mk H
    clear H
    go_wp2_with (first | ((with_reducible refine gate_callee (f := 65) rfl ?_); refine goesL_ (some 56) rfl rfl Try.func65 (by kernel_rfl) rfl #[.slice A0 l0.length c0, .int .i64 (wrap64 ((wrap64 (5 * aa)) + ac))] rfl (by (try simp only [List.map_toArray, List.map_cons, List.map_nil]); first | done | rfl | (simp only [List.length_drop, List.length_take]; rfl)) ?_; (with_reducible refine (wordbookref15_num.calls _ _ l0 (wrap64 ((wrap64 (5 * aa)) + ac)) t143 _ ?side1 ?side2 A11.out).mono ?_); (case side1 => repeat (first | exact (Kd.C_below HR0.out HB.out) | (with_reducible refine Kd.C_alloc ?_ _) | (with_reducible refine Kd.C_drewN ?_ _) | (with_reducible refine Kd.C_drew ?_))); (case side2 => exact HC0.out); rintro e w' ⟨rfl, ⟨nd, rfl⟩⟩; refine ⟨_, rfl, ?_⟩) | ((with_reducible refine gate_builtin (b := .append) (xs := #[.tmp 63, .tmp 65]) rfl ?_); at_builtin; refine Kd.R_append (Kd.int .i64) (w0 := w) w.heap.size rfl (.tmp 63) (.tmp 65) 22 3 (.int .i64 0) 8 rfl Try.underlying22 info3 rfl (by decide) (by omega) u7 ag (wrap64 (63 - (Int.tmod t142 2))) [.int .i64 (wrap64 (63 - (Int.tmod t142 2)))] (fun k_ => (w.heap.size ≤ k_)) (fun _ => False) rfl rfl ?aP (fun _ hk => hk.elim) ?aF ?aO ?aB ?aS ?aL ?_; (case aP => exact rfl); (case aB => exact (by repeat (first | (with_reducible first | exact HB.out | apply below_alloc | apply pw_below_drewN | apply below_drew1) | exact HB.out))); (case aF => exact (fun k_ hk => (Nat.le_trans (below_size (by repeat (first | (with_reducible first | exact HB.out | apply below_alloc | apply pw_below_drewN | apply below_drew1) | exact HB.out))) hk))); (case aO => exact (by (with_reducible repeat (first | apply Kd.R_alloc | apply Kd.R_drewN | apply Kd.R_drew)); exact ae.out)); (case aS => exact (below_size (by repeat (first | (with_reducible first | exact HB.out | apply below_alloc | apply pw_below_drewN | apply below_drew1) | exact HB.out)))); (case aL => have := LMc13.out; omega); intro v145 w14 ho hb hg hat; rw [← Ny144.out] at ho; have am := Aside0.mk (Kd.N_afterv (ok := (fun k_ => (w.heap.size ≤ k_))) (by (with_reducible repeat (first | apply Kd.N_alloc | apply Kd.N_drewN | apply Kd.N_drew)); exact ab.out) hg hat); have al := Aside0.mk (hb); have ak := Aside0.mk (ho); clear ab; clear HB; clear ae; have ab := am; have HB := al; have HO146 := ak; clear am al ak; clear ho hb hg hat))
    go_roundg k3
    case measure => have := ao.out; have := an.out; have := av.out; omega
    case rel => exact ⟨(aC), (wrap64 (ac + 1)), (by first | rfl | (simp; done) | (simp [*]; done)), H', ⟨by have := ao.out; have := an.out; have := av.out; omega⟩, ⟨ab.out⟩, ⟨HO146.out⟩, ⟨HB.out⟩⟩
   rw [if_neg c12] at H
   have ar : ((Int.tmod t143 4) == 3) = false := beq_eq_false_iff_ne.mpr c12
   have aq : ((Int.tmod t143 4) != 3) = true := bne_iff_ne.mpr c12
   have c15 : ag.length < 17592186044416 := Classical.byContradiction fun c_ => by rw [if_neg c_] at H; exact absurd H (by simp)
   rw [if_pos c15] at H
   have LMc15 := Aside0.mk c15
   clear c15
   obtain ⟨aA, hy147⟩ : ∃ y_ : List Int, y_ = (ag ++ [Int.tmod t143 4]) := ⟨_, rfl⟩
   replace H : (wordbookref15_Words.l2 k3 l0 a1 ad aa aA t142 (wrap64 (ac + 1))) = some r := by (rw [hy147]; with_reducible exact H)
   have Ny147 := Aside0.mk hy147
   clear hy147
   have H' := Aside0.mk H
   clear H
   go_wp2_with (first | ((with_reducible refine gate_callee (f := 65) rfl ?_); refine goesL_ (some 56) rfl rfl Try.func65 (by kernel_rfl) rfl #[.slice A0 l0.length c0, .int .i64 (wrap64 ((wrap64 (5 * aa)) + ac))] rfl (by (try simp only [List.map_toArray, List.map_cons, List.map_nil]); first | done | rfl | (simp only [List.length_drop, List.length_take]; rfl)) ?_; (with_reducible refine (wordbookref15_num.calls _ _ l0 (wrap64 ((wrap64 (5 * aa)) + ac)) t143 _ ?side1 ?side2 A11.out).mono ?_); (case side1 => repeat (first | exact (Kd.C_below HR0.out HB.out) | (with_reducible refine Kd.C_alloc ?_ _) | (with_reducible refine Kd.C_drewN ?_ _) | (with_reducible refine Kd.C_drew ?_))); (case side2 => exact HC0.out); rintro e w' ⟨rfl, ⟨nd, rfl⟩⟩; refine ⟨_, rfl, ?_⟩) | ((with_reducible refine gate_builtin (b := .append) (xs := #[.tmp 63, .tmp 65]) rfl ?_); at_builtin; refine Kd.R_append (Kd.int .i64) (w0 := w) w.heap.size rfl (.tmp 63) (.tmp 65) 22 3 (.int .i64 0) 8 rfl Try.underlying22 info3 rfl (by decide) (by omega) u7 ag (Int.tmod t143 4) [.int .i64 (Int.tmod t143 4)] (fun k_ => (w.heap.size ≤ k_)) (fun _ => False) rfl rfl ?aP (fun _ hk => hk.elim) ?aF ?aO ?aB ?aS ?aL ?_; (case aP => exact rfl); (case aB => exact (by repeat (first | (with_reducible first | exact HB.out | apply below_alloc | apply pw_below_drewN | apply below_drew1) | exact HB.out))); (case aF => exact (fun k_ hk => (Nat.le_trans (below_size (by repeat (first | (with_reducible first | exact HB.out | apply below_alloc | apply pw_below_drewN | apply below_drew1) | exact HB.out))) hk))); (case aO => exact (by (with_reducible repeat (first | apply Kd.R_alloc | apply Kd.R_drewN | apply Kd.R_drew)); exact ae.out)); (case aS => exact (below_size (by repeat (first | (with_reducible first | exact HB.out | apply below_alloc | apply pw_below_drewN | apply below_drew1) | exact HB.out)))); (case aL => have := LMc15.out; omega); intro v148 w16 ho hb hg hat; rw [← Ny147.out] at ho; have am := Aside0.mk (Kd.N_afterv (ok := (fun k_ => (w.heap.size ≤ k_))) (by (with_reducible repeat (first | apply Kd.N_alloc | apply Kd.N_drewN | apply Kd.N_drew)); exact ab.out) hg hat); have al := Aside0.mk (hb); have ak := Aside0.mk (ho); clear ab; clear HB; clear ae; have ab := am; have HB := al; have HO149 := ak; clear am al ak; clear ho hb hg hat))
   go_roundg k3
   case measure => have := ao.out; have := an.out; have := av.out; omega
   case rel => exact ⟨(aA), (wrap64 (ac + 1)), (by first | rfl | (simp; done) | (simp [*]; done)), H', ⟨by have := ao.out; have := an.out; have := av.out; omega⟩, ⟨ab.out⟩, ⟨HO149.out⟩, ⟨HB.out⟩⟩
  rw [if_neg c10] at H
  have au : decide (ac < (Int.tmod t142 3)) = false := decide_eq_false c10
  clear c10
  replace H := Option.bind_eq_some_iff.mp H
  obtain ⟨t150, A170, H⟩ := H
  replace H : (wordbookref15_Words.l3 k3 l0 a1 ad aa ag t150 0) = some r := H
  have A17 := Aside0.mk A170
  clear A170
  have H' := Aside0.mk H
  clear H
  go_wp2_with (first | ((with_reducible refine gate_callee (f := 65) rfl ?_); refine goesL_ (some 71) rfl rfl Try.func65 (by kernel_rfl) rfl #[.slice A0 l0.length c0, .int .i64 (wrap64 ((wrap64 (3 * aa)) + 2))] rfl (by (try simp only [List.map_toArray, List.map_cons, List.map_nil]); first | done | rfl | (simp only [List.length_drop, List.length_take]; rfl)) ?_; (with_reducible refine (wordbookref15_num.calls _ _ l0 (wrap64 ((wrap64 (3 * aa)) + 2)) t150 _ ?side1 ?side2 A17.out).mono ?_); (case side1 => repeat (first | exact (Kd.C_below HR0.out HB.out) | (with_reducible refine Kd.C_alloc ?_ _) | (with_reducible refine Kd.C_drewN ?_ _) | (with_reducible refine Kd.C_drew ?_))); (case side2 => exact HC0.out); rintro e w' ⟨rfl, ⟨nd, rfl⟩⟩; refine ⟨_, rfl, ?_⟩))
  go_loopg [7, 14] k3 (fun kq v7 v14 w' => ∃ (ai : List Int) (af : Int), v14 = .int .i64 af ∧ Aside0 (wordbookref15_Words.l3 kq l0 a1 ad aa ai t150 af = some r) ∧ Aside0 (kq ≤ k3) ∧ Aside0 (Kd.N (Kd.slice 3 (Kd.int .i64)) 22 w' w.heap.size (fun k_ => (w.heap.size ≤ k_) ∧ some k_ ≠ (v7 : Value).ownBlock) u5 ad) ∧ Aside0 (Kd.R (Kd.int .i64) 3 w' w.heap.size (fun k_ => (w.heap.size ≤ k_)) v7 ai) ∧ Aside0 (Below w.heap.size w w'))
  case atStart => exact ⟨(ag), (0), (by first | rfl | (simp; done) | (simp [*]; done)), H', ⟨Nat.le_refl _⟩, ⟨by (with_reducible repeat (first | apply Kd.N_alloc | apply Kd.N_drewN | apply Kd.N_drew)); exact ab.out⟩, ⟨by (with_reducible repeat (first | apply Kd.R_alloc | apply Kd.R_drewN | apply Kd.R_drew)); exact ae.out⟩, ⟨by repeat (first | (with_reducible first | exact HB.out | apply below_alloc | apply pw_below_drewN | apply below_drew1) | exact HB.out)⟩⟩
  clear H'
  (try clear c1); (try clear p2); (try clear c3); (try clear ap); (try clear c5); (try clear ax); (try clear c6); (try clear p6); (try clear c7); (try clear c10); (try clear au); (try clear c12); (try clear ar); (try clear aq); (try clear c13); (try clear c15); (try clear c17); (try clear p2); (try clear p6)
  obtain ⟨ai, af, rfl, HA, aG, ab, ae, HB⟩ := hrel
  cases gk with
  | zero => exact absurd HA.out (by simp [wordbookref15_Words.l3])
  | succ k4 => ?_
  have H := HA.out
  clear HA
  simp only [wordbookref15_Words.l3] at H
  by_cases c18 : af < (Int.tmod t150 3)
  ·
   rw [if_pos c18] at H
   have aE : decide (af < (Int.tmod t150 3)) = true := decide_eq_true c18
   clear c18
   have c19 : ai.length < 17592186044416 := Classical.byContradiction fun c_ => by rw [if_neg c_] at H; exact absurd H (by simp)
   rw [if_pos c19] at H
   have LMc19 := Aside0.mk c19
   clear c19
   obtain ⟨az, hy151⟩ : ∃ y_ : List Int, y_ = (ai ++ [wrap64 ((wrap64 (4 + af)) + (Int.tmod (wrap64 (Int.tdiv t150 3)) 2))]) := ⟨_, rfl⟩
   replace H : (wordbookref15_Words.l3 k4 l0 a1 ad aa az t150 (wrap64 (af + 1))) = some r := by (rw [hy151]; with_reducible exact H)
   have Ny151 := Aside0.mk hy151
   clear hy151
   have H' := Aside0.mk H
   clear H
   go_wp2_with (first | ((with_reducible refine gate_builtin (b := .append) (xs := #[.tmp 78, .tmp 85]) rfl ?_); at_builtin; refine Kd.R_append (Kd.int .i64) (w0 := w) w.heap.size rfl (.tmp 78) (.tmp 85) 22 3 (.int .i64 0) 8 rfl Try.underlying22 info3 rfl (by decide) (by omega) u7 ai (wrap64 ((wrap64 (4 + af)) + (Int.tmod (wrap64 (Int.tdiv t150 3)) 2))) [.int .i64 (wrap64 ((wrap64 (4 + af)) + (Int.tmod (wrap64 (Int.tdiv t150 3)) 2)))] (fun k_ => (w.heap.size ≤ k_)) (fun _ => False) rfl rfl ?aP (fun _ hk => hk.elim) ?aF ?aO ?aB ?aS ?aL ?_; (case aP => exact rfl); (case aB => exact HB.out); (case aF => exact (fun k_ hk => (Nat.le_trans (below_size HB.out) hk))); (case aO => exact ae.out); (case aS => exact (below_size HB.out)); (case aL => have := LMc19.out; omega); intro v152 w20 ho hb hg hat; rw [← Ny151.out] at ho; have am := Aside0.mk (Kd.N_afterv (ok := (fun k_ => (w.heap.size ≤ k_))) ab.out hg hat); have al := Aside0.mk (hb); have ak := Aside0.mk (ho); clear ab; clear HB; clear ae; have ab := am; have HB := al; have HO153 := ak; clear am al ak; clear ho hb hg hat))
   go_roundg k4
   case measure => have := ao.out; have := an.out; have := av.out; have := aG.out; omega
   case rel => exact ⟨(az), (wrap64 (af + 1)), (by first | rfl | (simp; done) | (simp [*]; done)), H', ⟨by have := ao.out; have := an.out; have := av.out; have := aG.out; omega⟩, ⟨ab.out⟩, ⟨HO153.out⟩, ⟨HB.out⟩⟩
  rw [if_neg c18] at H
  have aE : decide (af < (Int.tmod t150 3)) = false := decide_eq_false c18
  clear c18
  replace H := Option.bind_eq_some_iff.mp H
  obtain ⟨t154, A210, H⟩ := H
  replace H : (wordbookref15_Words.l0 k4 l0 a1 t154 (wrap64 (aa + 1))) = some r := H
  have A21 := Aside0.mk A210
  clear A210
  have H' := Aside0.mk H
  clear H
  obtain ⟨aI, aH, eo22⟩ := Kd.N_slice ab.out
  subst eo22
  obtain ⟨ay, aw, eo23⟩ := Kd.R_slice ae.out
  subst eo23
  go_wp2_with (first | ((with_reducible refine gate_callee (f := 34) rfl ?_); refine goesL_ (some 89) rfl rfl Try.func34 (by kernel_rfl) rfl #[.slice aI ad.length aH, .slice ay ai.length aw] rfl (by (try simp only [List.map_toArray, List.map_cons, List.map_nil]); first | done | rfl | (simp only [List.length_drop, List.length_take]; rfl)) ?_; (with_reducible refine (wordbookref15_Put.calls k4 (fun k_ => ((w.heap.size ≤ k_) ∧ some k_ ≠ (.slice ay ai.length aw : Value).ownBlock)) _ _ ad (fun k_ => some k_ = (.slice ay ai.length aw : Value).ownBlock) _ _ ai t154 _ ?side1 ?side2 A21.out).mono ?_); (case side1 => exact Kd.N_V (ab.out)); (case side2 => exact Kd.R_V (Kd.R_tight rfl (Kd.R_apart' (ae.out) (Kd.N_typed ab.out) (by decide)))); rintro e w24 ⟨v155, rfl, ho0, hb⟩; refine ⟨_, rfl, ?_⟩; have am := Aside0.mk (Kd.N_elder' ab.out (Kd.N_base ho0) hb); have al := Aside0.mk (Kd.R_below ae.out hb); have ak := Aside0.mk (Kd.N_lower (Kd.N_mono (ok' := fun k_ => (w.heap.size ≤ k_)) ho0 (fun k_ hk_ => Or.elim hk_ (fun hs_ => Or.elim hs_ (fun hs_ => hs_.1) (fun hs_ => ((Kd.R_apart' (ae.out) (Kd.N_typed ab.out) (by decide)).1 k_ hs_.symm).1)) (fun hn_ => (Nat.le_trans (below_size HB.out) hn_)))) (below_size HB.out)); have aJ := Aside0.mk (below_step HB.out hb); clear ab; clear ae; clear HB; have ab := am; have ae := al; have HO156 := ak; have HB := aJ; clear am al ak aJ; clear hb ho0))
  go_roundg k4
  case measure => have := ao.out; have := an.out; have := av.out; have := aG.out; omega
  case rel => exact ⟨(t154), (wrap64 (aa + 1)), (by first | rfl | (simp; done) | (simp [*]; done)), H', ⟨by have := ao.out; have := an.out; have := av.out; have := aG.out; omega⟩, ⟨HO156.out⟩, ⟨HB.out⟩⟩
 rw [if_neg c3] at H
 have ap : decide (aa < a1) = false := decide_eq_false c3
 clear c3
 obtain rfl := Option.some.inj H
 go_wp2
 go_ret
 exact ⟨_, by first | rfl | (simp [errW_none, errW_some] <;> rfl) | (simp [*, errW_none, errW_some] <;> rfl), by exact ab.out, by exact HB.out⟩
def wordbookref01_Around.f (a0 : Int) (a1 : Int) : Option (Int) := if a0 < 0 then (if a1 = 0 then (none) else (some (Int.tmod (wrap64 (-(wrap64 (a0 + 1)))) a1))) else (if a1 = 0 then (none) else (some (Int.tmod a0 a1)))
set_option maxHeartbeats 8000000 in
set_option maxRecDepth 100000 in
theorem wordbookref01_Around.calls (a0 : Int) (a1 : Int) (r : Int) (w : World) (h : wordbookref01_Around.f a0 a1 = some r) :
    Calls Try.prog 18 #[.int .i64 a0, .int .i64 a1] w fun e w' => e = .returned (.int .i64 r) ∧ Drawn0 w w' := by
 have H : (if a0 < 0 then (if a1 = 0 then (none) else (some (Int.tmod (wrap64 (-(wrap64 (a0 + 1)))) a1))) else (if a1 = 0 then (none) else (some (Int.tmod a0 a1)))) = some r := h
 clear h
 by_cases c3 : a0 < 0
 ·
  rw [if_pos c3] at H
  have aa : decide (a0 < 0) = true := decide_eq_true c3
  clear c3
  by_cases c4 : a1 = 0
  ·
   rw [if_pos c4] at H
   exact absurd H (by simp)
  rw [if_neg c4] at H
  have ae : (a1 == 0) = false := beq_eq_false_iff_ne.mpr c4
  have ad : (a1 != 0) = true := bne_iff_ne.mpr c4
  obtain rfl := Option.some.inj H
  go_enter Try.func18, Try.ntmps18
  go_wp2
  go_ret
  exact ⟨by first | rfl | (simp; done) | (simp [*]; done), by repeat (first | exact Drawn0.refl _ | apply Drawn0.step)⟩
 rw [if_neg c3] at H
 have aa : decide (a0 < 0) = false := decide_eq_false c3
 clear c3
 by_cases c5 : a1 = 0
 ·
  rw [if_pos c5] at H
  exact absurd H (by simp)
 rw [if_neg c5] at H
 have ac : (a1 == 0) = false := beq_eq_false_iff_ne.mpr c5
 have ab : (a1 != 0) = true := bne_iff_ne.mpr c5
 obtain rfl := Option.some.inj H
 go_enter Try.func18, Try.ntmps18
 go_wp2
 go_ret
 exact ⟨by first | rfl | (simp; done) | (simp [*]; done), by repeat (first | exact Drawn0.refl _ | apply Drawn0.step)⟩
def cmp_isNaN_int.f (a0 : Int) : Option (Bool) := some (a0 != a0)
set_option maxHeartbeats 8000000 in
set_option maxRecDepth 100000 in
theorem cmp_isNaN_int.calls (a0 : Int) (r : Bool) (w : World) (h : cmp_isNaN_int.f a0 = some r) :
    Calls Try.prog 125 #[.int .i64 a0] w fun e w' => e = .returned (.bool r) ∧ Drawn0 w w' := by
 have H : (some (a0 != a0)) = some r := h
 clear h
 obtain rfl := Option.some.inj H
 go_enter Try.func125, Try.ntmps125
 go_wp2
 go_ret
 exact ⟨by first | rfl | (simp; done) | (simp [*]; done), by repeat (first | exact Drawn0.refl _ | apply Drawn0.step)⟩
end Go.Proofs.Ytcdjeimjbbknjaa.PAll
namespace Go.Proofs.Ytcdjeimjbbknjaa.PAll
open Go.RowKit Go.Proofs.YtcdjeimjbbknjaaW.PrintWords Go.Proofs.YtcdjeimjbbknjaaW.PrintLast Go.Proofs.YtcdjeimjbbknjaaW.PrintMore
attribute [local go_sem] max2_int min2_int max_two min_two max_three min_three max_four min_four   -- for this text's walks alone
set_option linter.unusedVariables false
set_option linter.unusedSimpArgs false

def cmp_Compare_int.f (a0 : Int) (a1 : Int) : Option (Int) := (cmp_isNaN_int.f a0).bind fun t157 => ((cmp_isNaN_int.f a1).bind fun t158 => (if t157 = true then (if t158 = true then (some 0) else (some (-1))) else (if t158 = true then (some 1) else (if a0 < a1 then (some (-1)) else (if a0 > a1 then (some 1) else (some 0))))))
set_option maxHeartbeats 8000000 in
set_option maxRecDepth 100000 in
theorem cmp_Compare_int.calls (a0 : Int) (a1 : Int) (r : Int) (w : World) (h : cmp_Compare_int.f a0 a1 = some r) :
    Calls Try.prog 122 #[.int .i64 a0, .int .i64 a1] w fun e w' => e = .returned (.int .i64 r) ∧ Drawn0 w w' := by
 have H : ((cmp_isNaN_int.f a0).bind fun t157 => ((cmp_isNaN_int.f a1).bind fun t158 => (if t157 = true then (if t158 = true then (some 0) else (some (-1))) else (if t158 = true then (some 1) else (if a0 < a1 then (some (-1)) else (if a0 > a1 then (some 1) else (some 0))))))) = some r := h
 clear h
 replace H := Option.bind_eq_some_iff.mp H
 obtain ⟨t157, A30, H⟩ := H
 replace H : ((cmp_isNaN_int.f a1).bind fun t158 => (if t157 = true then (if t158 = true then (some 0) else (some (-1))) else (if t158 = true then (some 1) else (if a0 < a1 then (some (-1)) else (if a0 > a1 then (some 1) else (some 0)))))) = some r := H
 have A3 := Aside0.mk A30
 clear A30
 replace H := Option.bind_eq_some_iff.mp H
 obtain ⟨t158, A40, H⟩ := H
 replace H : (if t157 = true then (if t158 = true then (some 0) else (some (-1))) else (if t158 = true then (some 1) else (if a0 < a1 then (some (-1)) else (if a0 > a1 then (some 1) else (some 0))))) = some r := H
 have A4 := Aside0.mk A40
 clear A40
 by_cases c5 : t157 = true
 ·
  subst c5
  have H1 : (if t158 = true then (some 0) else (some (-1))) = some r := by rw [if_pos rfl] at H; exact H
  clear H
  have H := H1
  clear H1
  by_cases c6 : t158 = true
  ·
   subst c6
   have H1 : (some 0) = some r := by rw [if_pos rfl] at H; exact H
   clear H
   have H := H1
   clear H1
   obtain rfl := Option.some.inj H
   go_enter Try.func122, Try.ntmps122
   go_wp2_with (first | ((with_reducible refine gate_callee (f := 125) rfl ?_); refine goesL_ (some 8) rfl rfl Try.func125 (by kernel_rfl) rfl #[.int .i64 a0] rfl (by (try simp only [List.map_toArray, List.map_cons, List.map_nil]); first | done | rfl | (simp only [List.length_drop, List.length_take]; rfl)) ?_; (with_reducible refine (cmp_isNaN_int.calls a0 true _ A3.out).mono ?_); rintro e w' ⟨rfl, ⟨nd, rfl⟩⟩; refine ⟨_, rfl, ?_⟩) | ((with_reducible refine gate_callee (f := 125) rfl ?_); refine goesL_ (some 10) rfl rfl Try.func125 (by kernel_rfl) rfl #[.int .i64 a1] rfl (by (try simp only [List.map_toArray, List.map_cons, List.map_nil]); first | done | rfl | (simp only [List.length_drop, List.length_take]; rfl)) ?_; (with_reducible refine (cmp_isNaN_int.calls a1 true _ A4.out).mono ?_); rintro e w' ⟨rfl, ⟨nd, rfl⟩⟩; refine ⟨_, rfl, ?_⟩))
   go_ret
   exact ⟨by first | rfl | (simp; done) | (simp [*]; done), by repeat (first | exact Drawn0.refl _ | apply Drawn0.step)⟩
  replace c6 := Bool.eq_false_iff.mpr c6
  subst c6
  have H1 : (some (-1)) = some r := by rw [if_neg (show ¬ (false = true) by decide)] at H; exact H
  clear H
  have H := H1
  clear H1
  obtain rfl := Option.some.inj H
  go_enter Try.func122, Try.ntmps122
  go_wp2_with (first | ((with_reducible refine gate_callee (f := 125) rfl ?_); refine goesL_ (some 8) rfl rfl Try.func125 (by kernel_rfl) rfl #[.int .i64 a0] rfl (by (try simp only [List.map_toArray, List.map_cons, List.map_nil]); first | done | rfl | (simp only [List.length_drop, List.length_take]; rfl)) ?_; (with_reducible refine (cmp_isNaN_int.calls a0 true _ A3.out).mono ?_); rintro e w' ⟨rfl, ⟨nd, rfl⟩⟩; refine ⟨_, rfl, ?_⟩) | ((with_reducible refine gate_callee (f := 125) rfl ?_); refine goesL_ (some 10) rfl rfl Try.func125 (by kernel_rfl) rfl #[.int .i64 a1] rfl (by (try simp only [List.map_toArray, List.map_cons, List.map_nil]); first | done | rfl | (simp only [List.length_drop, List.length_take]; rfl)) ?_; (with_reducible refine (cmp_isNaN_int.calls a1 false _ A4.out).mono ?_); rintro e w' ⟨rfl, ⟨nd, rfl⟩⟩; refine ⟨_, rfl, ?_⟩))
  go_ret
  exact ⟨by first | rfl | (simp; done) | (simp [*]; done), by repeat (first | exact Drawn0.refl _ | apply Drawn0.step)⟩
 replace c5 := Bool.eq_false_iff.mpr c5
 subst c5
 have H1 : (if t158 = true then (some 1) else (if a0 < a1 then (some (-1)) else (if a0 > a1 then (some 1) else (some 0)))) = some r := by rw [if_neg (show ¬ (false = true) by decide)] at H; exact H
 clear H
 have H := H1
 clear H1
 by_cases c7 : t158 = true
 ·
  subst c7
  have H1 : (some 1) = some r := by rw [if_pos rfl] at H; exact H
  clear H
  have H := H1
  clear H1
  obtain rfl := Option.some.inj H
  go_enter Try.func122, Try.ntmps122
  go_wp2_with (first | ((with_reducible refine gate_callee (f := 125) rfl ?_); refine goesL_ (some 8) rfl rfl Try.func125 (by kernel_rfl) rfl #[.int .i64 a0] rfl (by (try simp only [List.map_toArray, List.map_cons, List.map_nil]); first | done | rfl | (simp only [List.length_drop, List.length_take]; rfl)) ?_; (with_reducible refine (cmp_isNaN_int.calls a0 false _ A3.out).mono ?_); rintro e w' ⟨rfl, ⟨nd, rfl⟩⟩; refine ⟨_, rfl, ?_⟩) | ((with_reducible refine gate_callee (f := 125) rfl ?_); refine goesL_ (some 10) rfl rfl Try.func125 (by kernel_rfl) rfl #[.int .i64 a1] rfl (by (try simp only [List.map_toArray, List.map_cons, List.map_nil]); first | done | rfl | (simp only [List.length_drop, List.length_take]; rfl)) ?_; (with_reducible refine (cmp_isNaN_int.calls a1 true _ A4.out).mono ?_); rintro e w' ⟨rfl, ⟨nd, rfl⟩⟩; refine ⟨_, rfl, ?_⟩))
  go_ret
  exact ⟨by first | rfl | (simp; done) | (simp [*]; done), by repeat (first | exact Drawn0.refl _ | apply Drawn0.step)⟩
 replace c7 := Bool.eq_false_iff.mpr c7
 subst c7
 have H1 : (if a0 < a1 then (some (-1)) else (if a0 > a1 then (some 1) else (some 0))) = some r := by rw [if_neg (show ¬ (false = true) by decide)] at H; exact H
 clear H
 have H := H1
 clear H1
 by_cases c8 : a0 < a1
 ·
  rw [if_pos c8] at H
  have ab : decide (a0 < a1) = true := decide_eq_true c8
  clear c8
  obtain rfl := Option.some.inj H
  go_enter Try.func122, Try.ntmps122
  go_wp2_with (first | ((with_reducible refine gate_callee (f := 125) rfl ?_); refine goesL_ (some 8) rfl rfl Try.func125 (by kernel_rfl) rfl #[.int .i64 a0] rfl (by (try simp only [List.map_toArray, List.map_cons, List.map_nil]); first | done | rfl | (simp only [List.length_drop, List.length_take]; rfl)) ?_; (with_reducible refine (cmp_isNaN_int.calls a0 false _ A3.out).mono ?_); rintro e w' ⟨rfl, ⟨nd, rfl⟩⟩; refine ⟨_, rfl, ?_⟩) | ((with_reducible refine gate_callee (f := 125) rfl ?_); refine goesL_ (some 10) rfl rfl Try.func125 (by kernel_rfl) rfl #[.int .i64 a1] rfl (by (try simp only [List.map_toArray, List.map_cons, List.map_nil]); first | done | rfl | (simp only [List.length_drop, List.length_take]; rfl)) ?_; (with_reducible refine (cmp_isNaN_int.calls a1 false _ A4.out).mono ?_); rintro e w' ⟨rfl, ⟨nd, rfl⟩⟩; refine ⟨_, rfl, ?_⟩))
  go_ret
  exact ⟨by first | rfl | (simp; done) | (simp [*]; done), by repeat (first | exact Drawn0.refl _ | apply Drawn0.step)⟩
 rw [if_neg c8] at H
 have ab : decide (a0 < a1) = false := decide_eq_false c8
 clear c8
 by_cases c9 : a0 > a1
 ·
  rw [if_pos c9] at H
  have aa : decide (a1 < a0) = true := decide_eq_true c9
  clear c9
  obtain rfl := Option.some.inj H
  go_enter Try.func122, Try.ntmps122
  go_wp2_with (first | ((with_reducible refine gate_callee (f := 125) rfl ?_); refine goesL_ (some 8) rfl rfl Try.func125 (by kernel_rfl) rfl #[.int .i64 a0] rfl (by (try simp only [List.map_toArray, List.map_cons, List.map_nil]); first | done | rfl | (simp only [List.length_drop, List.length_take]; rfl)) ?_; (with_reducible refine (cmp_isNaN_int.calls a0 false _ A3.out).mono ?_); rintro e w' ⟨rfl, ⟨nd, rfl⟩⟩; refine ⟨_, rfl, ?_⟩) | ((with_reducible refine gate_callee (f := 125) rfl ?_); refine goesL_ (some 10) rfl rfl Try.func125 (by kernel_rfl) rfl #[.int .i64 a1] rfl (by (try simp only [List.map_toArray, List.map_cons, List.map_nil]); first | done | rfl | (simp only [List.length_drop, List.length_take]; rfl)) ?_; (with_reducible refine (cmp_isNaN_int.calls a1 false _ A4.out).mono ?_); rintro e w' ⟨rfl, ⟨nd, rfl⟩⟩; refine ⟨_, rfl, ?_⟩))
  go_ret
  exact ⟨by first | rfl | (simp; done) | (simp [*]; done), by repeat (first | exact Drawn0.refl _ | apply Drawn0.step)⟩
 rw [if_neg c9] at H
 have aa : decide (a1 < a0) = false := decide_eq_false c9
 clear c9
 obtain rfl := Option.some.inj H
 go_enter Try.func122, Try.ntmps122
 go_wp2_with (first | ((with_reducible refine gate_callee (f := 125) rfl ?_); refine goesL_ (some 8) rfl rfl Try.func125 (by kernel_rfl) rfl #[.int .i64 a0] rfl (by (try simp only [List.map_toArray, List.map_cons, List.map_nil]); first | done | rfl | (simp only [List.length_drop, List.length_take]; rfl)) ?_; (with_reducible refine (cmp_isNaN_int.calls a0 false _ A3.out).mono ?_); rintro e w' ⟨rfl, ⟨nd, rfl⟩⟩; refine ⟨_, rfl, ?_⟩) | ((with_reducible refine gate_callee (f := 125) rfl ?_); refine goesL_ (some 10) rfl rfl Try.func125 (by kernel_rfl) rfl #[.int .i64 a1] rfl (by (try simp only [List.map_toArray, List.map_cons, List.map_nil]); first | done | rfl | (simp only [List.length_drop, List.length_take]; rfl)) ?_; (with_reducible refine (cmp_isNaN_int.calls a1 false _ A4.out).mono ?_); rintro e w' ⟨rfl, ⟨nd, rfl⟩⟩; refine ⟨_, rfl, ?_⟩))
 go_ret
 exact ⟨by first | rfl | (simp; done) | (simp [*]; done), by repeat (first | exact Drawn0.refl _ | apply Drawn0.step)⟩
def slices_Compare_int_int.l0 : Nat → List Int → List Int → List Int → Int → Int → Option (Int)
  | 0, _, _, _, _, _ => none
  | k + 1, x0, x1, x9, x10, x11 => if x11 < x10 then (if 0 ≤ x11 then (if x11 < (x9.length : Int) then (if x11 ≥ (x1.length : Int) then (some 1) else (if x11 < (x1.length : Int) then ((cmp_Compare_int.f (rd x9 x11) (rd x1 x11)).bind fun t161 => (if t161 = 0 then (slices_Compare_int_int.l0 k x0 x1 x9 x10 (wrap64 (x11 + 1))) else (some t161))) else (none))) else (none)) else (none)) else (if (x0.length : Int) < (x1.length : Int) then (some (-1)) else (some 0))
def slices_Compare_int_int.f (k : Nat) (l0 : List Int) (l1 : List Int) : Option (Int) := slices_Compare_int_int.l0 k l0 l1 l0 (l0.length : Int) 0
set_option maxHeartbeats 8000000 in
set_option maxRecDepth 100000 in
theorem slices_Compare_int_int.calls (k : Nat) (A0 : Option Addr) (c0 : Nat) (l0 : List Int) (A1 : Option Addr) (c1 : Nat) (l1 : List Int) (r : Int) (w : World) (hr0 : Kd.C (Kd.int .i64) w A0 l0.length l0) (hc0 : l0.length ≤ c0) (hr1 : Kd.C (Kd.int .i64) w A1 l1.length l1) (hc1 : l1.length ≤ c1) (h : slices_Compare_int_int.f k l0 l1 = some r) :
    Calls Try.prog 107 #[.slice A0 l0.length c0, .slice A1 l1.length c1] w fun e w' => e = .returned (.int .i64 r) ∧ Drawn0 w w' := by
 have HR0 := Aside0.mk hr0
 have HC0 := Aside0.mk hc0
 clear hr0 hc0
 have HR1 := Aside0.mk hr1
 have HC1 := Aside0.mk hc1
 clear hr1 hc1
 have H : (slices_Compare_int_int.l0 k l0 l1 l0 (l0.length : Int) 0) = some r := h
 clear h
 have H' := Aside0.mk H
 clear H
 go_enter Try.func107, Try.ntmps107
 go_wp2
 go_loopg [11] k (fun kq v11 w' => ∃ (aa : Int), v11 = .int .i64 aa ∧ Aside0 (slices_Compare_int_int.l0 kq l0 l1 l0 (l0.length : Int) aa = some r) ∧ Aside0 (kq ≤ k) ∧ Drawn0 w w')
 case atStart => exact ⟨(0), (by first | rfl | (simp; done) | (simp [*]; done)), H', ⟨Nat.le_refl _⟩, by repeat (first | exact Drawn0.refl _ | apply Drawn0.step)⟩
 clear H'
 (try clear c1); (try clear p2)
 obtain ⟨aa, rfl, HA, aj, ⟨m1, rfl⟩⟩ := hrel
 cases gk with
 | zero => exact absurd HA.out (by simp [slices_Compare_int_int.l0])
 | succ k1 => ?_
 have H := HA.out
 clear HA
 simp only [slices_Compare_int_int.l0] at H
 by_cases c3 : aa < (l0.length : Int)
 ·
  rw [if_pos c3] at H
  have ai : decide (aa < (l0.length : Int)) = true := decide_eq_true c3
  clear c3
  have c4 : 0 ≤ aa := Classical.byContradiction fun c_ => by rw [if_neg c_] at H; exact absurd H (by simp)
  rw [if_pos c4] at H
  have am : decide (0 ≤ aa) = true := decide_eq_true c4
  clear c4
  have c5 : aa < (l0.length : Int) := Classical.byContradiction fun c_ => by rw [if_neg c_] at H; exact absurd H (by simp)
  rw [if_pos c5] at H
  have al : decide (aa < (l0.length : Int)) = true := decide_eq_true c5
  clear c5
  by_cases c6 : aa ≥ (l1.length : Int)
  ·
   rw [if_pos c6] at H
   have ah : decide ((l1.length : Int) ≤ aa) = true := decide_eq_true c6
   clear c6
   obtain rfl := Option.some.inj H
   have p159 : 0 ≤ (aa : Int) := of_decide_eq_true (by first | (with_reducible assumption) | assumption)
   have q159 : aa < (l0.length : Int) := of_decide_eq_true (by first | (with_reducible assumption) | assumption)
   obtain ⟨ad159, e159, ab⟩ := Kd.at_int HR0.out aa p159 q159
   cases e159
   replace p159 := eq_true p159
   replace q159 := eq_true q159
   go_wp2
   go_ret
   exact ⟨by first | rfl | (simp; done) | (simp [*]; done), by repeat (first | exact Drawn0.refl _ | apply Drawn0.step)⟩
  rw [if_neg c6] at H
  have ah : decide ((l1.length : Int) ≤ aa) = false := decide_eq_false c6
  clear c6
  have c7 : aa < (l1.length : Int) := Classical.byContradiction fun c_ => by rw [if_neg c_] at H; exact absurd H (by simp)
  rw [if_pos c7] at H
  have ak : decide (aa < (l1.length : Int)) = true := decide_eq_true c7
  clear c7
  replace H := Option.bind_eq_some_iff.mp H
  obtain ⟨t161, A80, H⟩ := H
  replace H : (if t161 = 0 then (slices_Compare_int_int.l0 k1 l0 l1 l0 (l0.length : Int) (wrap64 (aa + 1))) else (some t161)) = some r := H
  have A8 := Aside0.mk A80
  clear A80
  by_cases c9 : t161 = 0
  ·
   rw [if_pos c9] at H
   have ag : (t161 == 0) = true := beq_iff_eq.mpr c9
   have af : (t161 != 0) = false := bne_eq_false_iff_eq.mpr c9
   clear c9
   have H' := Aside0.mk H
   clear H
   have p159 : 0 ≤ (aa : Int) := of_decide_eq_true (by first | (with_reducible assumption) | assumption)
   have q159 : aa < (l0.length : Int) := of_decide_eq_true (by first | (with_reducible assumption) | assumption)
   obtain ⟨ad159, e159, ab⟩ := Kd.at_int HR0.out aa p159 q159
   cases e159
   replace p159 := eq_true p159
   replace q159 := eq_true q159
   have p160 : 0 ≤ (aa : Int) := of_decide_eq_true (by first | (with_reducible assumption) | assumption)
   have q160 : aa < (l1.length : Int) := of_decide_eq_true (by first | (with_reducible assumption) | assumption)
   obtain ⟨ad160, e160, ac⟩ := Kd.at_int HR1.out aa p160 q160
   cases e160
   replace p160 := eq_true p160
   replace q160 := eq_true q160
   go_wp2_with (first | ((with_reducible refine gate_callee (f := 122) rfl ?_); refine goesL_ (some 26) rfl rfl Try.func122 (by kernel_rfl) rfl #[.int .i64 (rd l0 aa), .int .i64 (rd l1 aa)] rfl (by (try simp only [List.map_toArray, List.map_cons, List.map_nil]); first | done | rfl | (simp only [List.length_drop, List.length_take]; rfl)) ?_; (with_reducible refine (cmp_Compare_int.calls (rd l0 aa) (rd l1 aa) t161 _ A8.out).mono ?_); rintro e w' ⟨rfl, ⟨nd, rfl⟩⟩; refine ⟨_, rfl, ?_⟩))
   go_roundg k1
   case measure => have := aj.out; omega
   case rel => exact ⟨(wrap64 (aa + 1)), (by first | rfl | (simp; done) | (simp [*]; done)), H', ⟨by have := aj.out; omega⟩, by repeat (first | exact Drawn0.refl _ | apply Drawn0.step)⟩
  rw [if_neg c9] at H
  have ag : (t161 == 0) = false := beq_eq_false_iff_ne.mpr c9
  have af : (t161 != 0) = true := bne_iff_ne.mpr c9
  obtain rfl := Option.some.inj H
  have p159 : 0 ≤ (aa : Int) := of_decide_eq_true (by first | (with_reducible assumption) | assumption)
  have q159 : aa < (l0.length : Int) := of_decide_eq_true (by first | (with_reducible assumption) | assumption)
  obtain ⟨ad159, e159, ab⟩ := Kd.at_int HR0.out aa p159 q159
  cases e159
  replace p159 := eq_true p159
  replace q159 := eq_true q159
  have p160 : 0 ≤ (aa : Int) := of_decide_eq_true (by first | (with_reducible assumption) | assumption)
  have q160 : aa < (l1.length : Int) := of_decide_eq_true (by first | (with_reducible assumption) | assumption)
  obtain ⟨ad160, e160, ac⟩ := Kd.at_int HR1.out aa p160 q160
  cases e160
  replace p160 := eq_true p160
  replace q160 := eq_true q160
  go_wp2_with (first | ((with_reducible refine gate_callee (f := 122) rfl ?_); refine goesL_ (some 26) rfl rfl Try.func122 (by kernel_rfl) rfl #[.int .i64 (rd l0 aa), .int .i64 (rd l1 aa)] rfl (by (try simp only [List.map_toArray, List.map_cons, List.map_nil]); first | done | rfl | (simp only [List.length_drop, List.length_take]; rfl)) ?_; (with_reducible refine (cmp_Compare_int.calls (rd l0 aa) (rd l1 aa) t161 _ A8.out).mono ?_); rintro e w' ⟨rfl, ⟨nd, rfl⟩⟩; refine ⟨_, rfl, ?_⟩))
  go_ret
  exact ⟨by first | rfl | (simp; done) | (simp [*]; done), by repeat (first | exact Drawn0.refl _ | apply Drawn0.step)⟩
 rw [if_neg c3] at H
 have ai : decide (aa < (l0.length : Int)) = false := decide_eq_false c3
 clear c3
 by_cases c10 : (l0.length : Int) < (l1.length : Int)
 ·
  rw [if_pos c10] at H
  have ae : decide ((l0.length : Int) < (l1.length : Int)) = true := decide_eq_true c10
  have ad : decide (l0.length < l1.length) = true := decide_eq_true (Int.ofNat_lt.mp c10)
  clear c10
  obtain rfl := Option.some.inj H
  go_wp2
  go_ret
  exact ⟨by first | rfl | (simp; done) | (simp [*]; done), by repeat (first | exact Drawn0.refl _ | apply Drawn0.step)⟩
 rw [if_neg c10] at H
 have ae : decide ((l0.length : Int) < (l1.length : Int)) = false := decide_eq_false c10
 have ad : decide (l0.length < l1.length) = false := decide_eq_false (fun h => c10 (Int.ofNat_lt.mpr h))
 clear c10
 obtain rfl := Option.some.inj H
 go_wp2
 go_ret
 exact ⟨by first | rfl | (simp; done) | (simp [*]; done), by repeat (first | exact Drawn0.refl _ | apply Drawn0.step)⟩
mutual
def wordbookref15_Errors.l0 : Nat → List (List Int) → Int → Bool → Int → Option (Int)
  | 0, _, _, _, _ => none
  | k + 1, x0, x3, x4, x5 => if x5 < (x0.length : Int) then (wordbookref15_Errors.l1 k x0 x3 x4 x5 0) else (if x4 = true then (some 4) else (if (x0.length : Int) > 4096 then (some 4) else (if x3 > 65536 then (some 4) else (some 0))))
def wordbookref15_Errors.l1 : Nat → List (List Int) → Int → Bool → Int → Int → Option (Int)
  | 0, _, _, _, _, _ => none
  | k + 1, x0, x3, x4, x5, x6 => if 0 ≤ x5 then (if x5 < (x0.length : Int) then (if x6 < ((rd_L2 x0 x5).length : Int) then (if 0 ≤ x6 then (if (rd (rd_L2 x0 x5) x6) < 0 then (some 1) else (if (rd (rd_L2 x0 x5) x6) > 63 then (some 1) else (wordbookref15_Errors.l1 k x0 x3 x4 x5 (wrap64 (x6 + 1))))) else (none)) else (if x5 > 0 then (if 0 ≤ (wrap64 (x5 - 1)) then (if (wrap64 (x5 - 1)) < (x0.length : Int) then ((wordbookref06_Order.f k (rd_L2 x0 (wrap64 (x5 - 1))) (rd_L2 x0 x5)).bind fun t170 => (if t170 ≥ 0 then (some 1) else (if x4 = true then (wordbookref15_Errors.l0 k x0 (wrap64 (x3 + ((rd_L2 x0 x5).length : Int))) true (wrap64 (x5 + 1))) else (wordbookref15_Errors.l0 k x0 (wrap64 (x3 + ((rd_L2 x0 x5).length : Int))) (decide (((rd_L2 x0 x5).length : Int) > 64)) (wrap64 (x5 + 1)))))) else (none)) else (none)) else (if x4 = true then (wordbookref15_Errors.l0 k x0 (wrap64 (x3 + ((rd_L2 x0 x5).length : Int))) true (wrap64 (x5 + 1))) else (wordbookref15_Errors.l0 k x0 (wrap64 (x3 + ((rd_L2 x0 x5).length : Int))) (decide (((rd_L2 x0 x5).length : Int) > 64)) (wrap64 (x5 + 1)))))) else (none)) else (none)
end
def wordbookref15_Errors.f (k : Nat) (l0 : List (List Int)) : Option (Int) := wordbookref15_Errors.l0 k l0 0 false 0
theorem wordbookref15_Errors.mono_l : ∀ k, (∀ y0 y1 y2 y3, LeO (wordbookref15_Errors.l0 k y0 y1 y2 y3) (wordbookref15_Errors.l0 (k + 1) y0 y1 y2 y3)) ∧ (∀ y0 y1 y2 y3 y4, LeO (wordbookref15_Errors.l1 k y0 y1 y2 y3 y4) (wordbookref15_Errors.l1 (k + 1) y0 y1 y2 y3 y4))
  | 0 => ⟨fun _ _ _ _ r h => by simp [wordbookref15_Errors.l0] at h, fun _ _ _ _ _ r h => by simp [wordbookref15_Errors.l1] at h⟩
  | k + 1 => by
    obtain ⟨ih0, ih1⟩ := wordbookref15_Errors.mono_l k
    refine ⟨?_, ?_⟩
    · intro y0 y1 y2 y3
      unfold wordbookref15_Errors.l0
      repeat' first
      | (with_reducible exact ih0 _ _ _ _)
      | (with_reducible exact ih1 _ _ _ _ _)
      | (with_reducible exact wordbookref06_Order.mono _ _ _)
      | (with_reducible exact LeO.refl _)
      | (with_reducible exact LeO.none _)
      | (with_reducible refine LeO.ite ?_ ?_)
      | (with_reducible refine LeO.bind ?_ (fun _ => ?_))
      | exact ih0 _ _ _ _
      | exact ih1 _ _ _ _ _
      | exact wordbookref06_Order.mono _ _ _
      | exact LeO.none _
      | refine LeO.ite ?_ ?_
      | refine LeO.bind ?_ (fun _ => ?_)
    · intro y0 y1 y2 y3 y4
      unfold wordbookref15_Errors.l1
      repeat' first
      | (with_reducible exact ih0 _ _ _ _)
      | (with_reducible exact ih1 _ _ _ _ _)
      | (with_reducible exact wordbookref06_Order.mono _ _ _)
      | (with_reducible exact LeO.refl _)
      | (with_reducible exact LeO.none _)
      | (with_reducible refine LeO.ite ?_ ?_)
      | (with_reducible refine LeO.bind ?_ (fun _ => ?_))
      | exact ih0 _ _ _ _
      | exact ih1 _ _ _ _ _
      | exact wordbookref06_Order.mono _ _ _
      | exact LeO.none _
      | refine LeO.ite ?_ ?_
      | refine LeO.bind ?_ (fun _ => ?_)
theorem wordbookref15_Errors.mono : ∀ a0 k, LeO (wordbookref15_Errors.f k a0) (wordbookref15_Errors.f (k + 1) a0) := by
  intro a0 k
  obtain ⟨ih0, ih1⟩ := wordbookref15_Errors.mono_l k
  unfold wordbookref15_Errors.f
  repeat' first
      | (with_reducible exact ih0 _ _ _ _)
      | (with_reducible exact ih1 _ _ _ _ _)
      | (with_reducible exact wordbookref06_Order.mono _ _ _)
      | (with_reducible exact LeO.refl _)
      | (with_reducible exact LeO.none _)
      | (with_reducible refine LeO.ite ?_ ?_)
      | (with_reducible refine LeO.bind ?_ (fun _ => ?_))
      | exact ih0 _ _ _ _
      | exact ih1 _ _ _ _ _
      | exact wordbookref06_Order.mono _ _ _
      | exact LeO.none _
      | refine LeO.ite ?_ ?_
      | refine LeO.bind ?_ (fun _ => ?_)
set_option maxHeartbeats 8000000 in
set_option maxRecDepth 100000 in
theorem wordbookref15_Errors.calls (k : Nat) (A0 : Option Addr) (c0 : Nat) (l0 : List (List Int)) (r : Int) (w : World) (hr0 : Kd.C (Kd.slice 3 (Kd.int .i64)) w A0 l0.length l0) (hc0 : l0.length ≤ c0) (h : wordbookref15_Errors.f k l0 = some r) :
    Calls Try.prog 70 #[.slice A0 l0.length c0] w fun e w' => e = .returned (.int .i64 r) ∧ Drawn0 w w' := by
 have HR0 := Aside0.mk hr0
 have HC0 := Aside0.mk hc0
 clear hr0 hc0
 have H : (wordbookref15_Errors.l0 k l0 0 false 0) = some r := h
 clear h
 have H' := Aside0.mk H
 clear H
 go_enter Try.func70, Try.ntmps70
 go_wp2
 repeat (go_quiet (fail); try go_wp2)
 go_loopg [3, 4, 5] k (fun kq v3 v4 v5 w' => ∃ (ae : Int) (ai : Bool) (aa : Int), v3 = .int .i64 ae ∧ v4 = .bool ai ∧ v5 = .int .i64 aa ∧ Aside0 (wordbookref15_Errors.l0 kq l0 ae ai aa = some r) ∧ Aside0 (kq ≤ k) ∧ Drawn0 w w')
 case atStart => exact ⟨(0), (false), (0), (by first | rfl | (simp; done) | (simp [*]; done)), (by first | rfl | (simp; done) | (simp [*]; done)), (by first | rfl | (simp; done) | (simp [*]; done)), H', ⟨Nat.le_refl _⟩, by repeat (first | exact Drawn0.refl _ | apply Drawn0.step)⟩
 clear H'
 obtain ⟨ae, ai, aa, rfl, rfl, rfl, HA, ao, ⟨m1, rfl⟩⟩ := hrel
 cases gk with
 | zero => exact absurd HA.out (by simp [wordbookref15_Errors.l0])
 | succ k1 => ?_
 have H := HA.out
 clear HA
 simp only [wordbookref15_Errors.l0] at H
 by_cases c2 : aa < (l0.length : Int)
 ·
  rw [if_pos c2] at H
  have ar : decide (aa < (l0.length : Int)) = true := decide_eq_true c2
  clear c2
  have H' := Aside0.mk H
  clear H
  go_wp2
  repeat (go_quiet (fail); try go_wp2)
  go_loopg [6] k1 (fun kq v6 w' => ∃ (ac : Int), v6 = .int .i64 ac ∧ Aside0 (wordbookref15_Errors.l1 kq l0 ae ai aa ac = some r) ∧ Aside0 (kq ≤ k1) ∧ Drawn0 w w')
  case atStart => exact ⟨(0), (by first | rfl | (simp; done) | (simp [*]; done)), H', ⟨Nat.le_refl _⟩, by repeat (first | exact Drawn0.refl _ | apply Drawn0.step)⟩
  clear H'
  (try clear c2); (try clear ar); (try clear p2)
  obtain ⟨ac, rfl, HA, an, ⟨m2, rfl⟩⟩ := hrel
  cases gk with
  | zero => exact absurd HA.out (by simp [wordbookref15_Errors.l1])
  | succ k2 => ?_
  have H := HA.out
  clear HA
  simp only [wordbookref15_Errors.l1] at H
  have c3 : 0 ≤ aa := Classical.byContradiction fun c_ => by rw [if_neg c_] at H; exact absurd H (by simp)
  rw [if_pos c3] at H
  have aG : decide (0 ≤ aa) = true := decide_eq_true c3
  clear c3
  have c4 : aa < (l0.length : Int) := Classical.byContradiction fun c_ => by rw [if_neg c_] at H; exact absurd H (by simp)
  rw [if_pos c4] at H
  have aF : decide (aa < (l0.length : Int)) = true := decide_eq_true c4
  clear c4
  by_cases c5 : ac < ((rd_L2 l0 aa).length : Int)
  ·
   rw [if_pos c5] at H
   have aB : decide (ac < ((rd_L2 l0 aa).length : Int)) = true := decide_eq_true c5
   clear c5
   have c6 : 0 ≤ ac := Classical.byContradiction fun c_ => by rw [if_neg c_] at H; exact absurd H (by simp)
   rw [if_pos c6] at H
   have aE : decide (0 ≤ ac) = true := decide_eq_true c6
   clear c6
   by_cases c7 : (rd (rd_L2 l0 aa) ac) < 0
   ·
    rw [if_pos c7] at H
    have aA : decide ((rd (rd_L2 l0 aa) ac) < 0) = true := decide_eq_true c7
    clear c7
    obtain rfl := Option.some.inj H
    have p163 : 0 ≤ (aa : Int) := of_decide_eq_true (by first | (with_reducible assumption) | assumption)
    have q163 : aa < (l0.length : Int) := of_decide_eq_true (by first | (with_reducible assumption) | assumption)
    obtain ⟨ad163, A163_0, c163_0, e163, ab, hl163_0, hi163_0⟩ := at_L2 HR0.out aa p163 q163
    cases e163
    have HR163_0 := Aside0.mk hi163_0
    have HC163_0 := Aside0.mk hl163_0
    clear hi163_0 hl163_0
    replace p163 := eq_true p163
    replace q163 := eq_true q163
    have p164 : 0 ≤ (aa : Int) := of_decide_eq_true (by first | (with_reducible assumption) | assumption)
    have q164 : aa < (l0.length : Int) := of_decide_eq_true (by first | (with_reducible assumption) | assumption)
    obtain ⟨ad164, A164_0, c164_0, e164, ah, hl164_0, hi164_0⟩ := at_L2 HR0.out aa p164 q164
    obtain rfl : ad163 = ad164 := (by injection e164)
    have HR164_0 := Aside0.mk hi164_0
    have HC164_0 := Aside0.mk hl164_0
    clear hi164_0 hl164_0
    replace p164 := eq_true p164
    replace q164 := eq_true q164
    have ea_ := Option.some.inj (ab.symm.trans ah)
    injection ea_ with ea_ en_ ec_
    subst ea_
    subst ec_
    clear en_
    have p165 : 0 ≤ (ac : Int) := of_decide_eq_true (by first | (with_reducible assumption) | assumption)
    have q165 : ac < ((rd_L2 l0 aa).length : Int) := of_decide_eq_true (by first | (with_reducible assumption) | assumption)
    obtain ⟨ad165, e165, am⟩ := Kd.at_int HR164_0.out ac p165 q165
    cases e165
    replace p165 := eq_true p165
    replace q165 := eq_true q165
    go_wp2
    repeat (go_quiet (fail); try go_wp2)
    go_ret
    exact ⟨by first | rfl | (simp; done) | (simp [*]; done), by repeat (first | exact Drawn0.refl _ | apply Drawn0.step)⟩
   rw [if_neg c7] at H
   have aA : decide ((rd (rd_L2 l0 aa) ac) < 0) = false := decide_eq_false c7
   clear c7
   by_cases c8 : (rd (rd_L2 l0 aa) ac) > 63
   ·
    rw [if_pos c8] at H
    have az : decide (63 < (rd (rd_L2 l0 aa) ac)) = true := decide_eq_true c8
    clear c8
    obtain rfl := Option.some.inj H
    have p163 : 0 ≤ (aa : Int) := of_decide_eq_true (by first | (with_reducible assumption) | assumption)
    have q163 : aa < (l0.length : Int) := of_decide_eq_true (by first | (with_reducible assumption) | assumption)
    obtain ⟨ad163, A163_0, c163_0, e163, ab, hl163_0, hi163_0⟩ := at_L2 HR0.out aa p163 q163
    cases e163
    have HR163_0 := Aside0.mk hi163_0
    have HC163_0 := Aside0.mk hl163_0
    clear hi163_0 hl163_0
    replace p163 := eq_true p163
    replace q163 := eq_true q163
    have p164 : 0 ≤ (aa : Int) := of_decide_eq_true (by first | (with_reducible assumption) | assumption)
    have q164 : aa < (l0.length : Int) := of_decide_eq_true (by first | (with_reducible assumption) | assumption)
    obtain ⟨ad164, A164_0, c164_0, e164, ah, hl164_0, hi164_0⟩ := at_L2 HR0.out aa p164 q164
    obtain rfl : ad163 = ad164 := (by injection e164)
    have HR164_0 := Aside0.mk hi164_0
    have HC164_0 := Aside0.mk hl164_0
    clear hi164_0 hl164_0
    replace p164 := eq_true p164
    replace q164 := eq_true q164
    have ea_ := Option.some.inj (ab.symm.trans ah)
    injection ea_ with ea_ en_ ec_
    subst ea_
    subst ec_
    clear en_
    have p165 : 0 ≤ (ac : Int) := of_decide_eq_true (by first | (with_reducible assumption) | assumption)
    have q165 : ac < ((rd_L2 l0 aa).length : Int) := of_decide_eq_true (by first | (with_reducible assumption) | assumption)
    obtain ⟨ad165, e165, am⟩ := Kd.at_int HR164_0.out ac p165 q165
    cases e165
    replace p165 := eq_true p165
    replace q165 := eq_true q165
    have p166 : 0 ≤ (aa : Int) := of_decide_eq_true (by first | (with_reducible assumption) | assumption)
    have q166 : aa < (l0.length : Int) := of_decide_eq_true (by first | (with_reducible assumption) | assumption)
    obtain ⟨ad166, A166_0, c166_0, e166, ak, hl166_0, hi166_0⟩ := at_L2 HR0.out aa p166 q166
    obtain rfl : ad163 = ad166 := (by injection e166)
    have HR166_0 := Aside0.mk hi166_0
    have HC166_0 := Aside0.mk hl166_0
    clear hi166_0 hl166_0
    replace p166 := eq_true p166
    replace q166 := eq_true q166
    have ea_ := Option.some.inj (ab.symm.trans ak)
    injection ea_ with ea_ en_ ec_
    subst ea_
    subst ec_
    clear en_
    have p167 : 0 ≤ (ac : Int) := of_decide_eq_true (by first | (with_reducible assumption) | assumption)
    have q167 : ac < ((rd_L2 l0 aa).length : Int) := of_decide_eq_true (by first | (with_reducible assumption) | assumption)
    obtain ⟨ad167, e167, aq⟩ := Kd.at_int HR166_0.out ac p167 q167
    cases e167
    replace p167 := eq_true p167
    replace q167 := eq_true q167
    go_wp2
    repeat (go_quiet (fail); try go_wp2)
    go_ret
    exact ⟨by first | rfl | (simp; done) | (simp [*]; done), by repeat (first | exact Drawn0.refl _ | apply Drawn0.step)⟩
   rw [if_neg c8] at H
   have az : decide (63 < (rd (rd_L2 l0 aa) ac)) = false := decide_eq_false c8
   clear c8
   have H' := Aside0.mk H
   clear H
   have p163 : 0 ≤ (aa : Int) := of_decide_eq_true (by first | (with_reducible assumption) | assumption)
   have q163 : aa < (l0.length : Int) := of_decide_eq_true (by first | (with_reducible assumption) | assumption)
   obtain ⟨ad163, A163_0, c163_0, e163, ab, hl163_0, hi163_0⟩ := at_L2 HR0.out aa p163 q163
   cases e163
   have HR163_0 := Aside0.mk hi163_0
   have HC163_0 := Aside0.mk hl163_0
   clear hi163_0 hl163_0
   replace p163 := eq_true p163
   replace q163 := eq_true q163
   have p164 : 0 ≤ (aa : Int) := of_decide_eq_true (by first | (with_reducible assumption) | assumption)
   have q164 : aa < (l0.length : Int) := of_decide_eq_true (by first | (with_reducible assumption) | assumption)
   obtain ⟨ad164, A164_0, c164_0, e164, ah, hl164_0, hi164_0⟩ := at_L2 HR0.out aa p164 q164
   obtain rfl : ad163 = ad164 := (by injection e164)
   have HR164_0 := Aside0.mk hi164_0
   have HC164_0 := Aside0.mk hl164_0
   clear hi164_0 hl164_0
   replace p164 := eq_true p164
   replace q164 := eq_true q164
   have ea_ := Option.some.inj (ab.symm.trans ah)
   injection ea_ with ea_ en_ ec_
   subst ea_
   subst ec_
   clear en_
   have p165 : 0 ≤ (ac : Int) := of_decide_eq_true (by first | (with_reducible assumption) | assumption)
   have q165 : ac < ((rd_L2 l0 aa).length : Int) := of_decide_eq_true (by first | (with_reducible assumption) | assumption)
   obtain ⟨ad165, e165, am⟩ := Kd.at_int HR164_0.out ac p165 q165
   cases e165
   replace p165 := eq_true p165
   replace q165 := eq_true q165
   have p166 : 0 ≤ (aa : Int) := of_decide_eq_true (by first | (with_reducible assumption) | assumption)
   have q166 : aa < (l0.length : Int) := of_decide_eq_true (by first | (with_reducible assumption) | assumption)
   obtain ⟨ad166, A166_0, c166_0, e166, ak, hl166_0, hi166_0⟩ := at_L2 HR0.out aa p166 q166
   obtain rfl : ad163 = ad166 := (by injection e166)
   have HR166_0 := Aside0.mk hi166_0
   have HC166_0 := Aside0.mk hl166_0
   clear hi166_0 hl166_0
   replace p166 := eq_true p166
   replace q166 := eq_true q166
   have ea_ := Option.some.inj (ab.symm.trans ak)
   injection ea_ with ea_ en_ ec_
   subst ea_
   subst ec_
   clear en_
   have p167 : 0 ≤ (ac : Int) := of_decide_eq_true (by first | (with_reducible assumption) | assumption)
   have q167 : ac < ((rd_L2 l0 aa).length : Int) := of_decide_eq_true (by first | (with_reducible assumption) | assumption)
   obtain ⟨ad167, e167, aq⟩ := Kd.at_int HR166_0.out ac p167 q167
   cases e167
   replace p167 := eq_true p167
   replace q167 := eq_true q167
   go_wp2
   repeat (go_quiet (fail); try go_wp2)
   go_roundg k2
   case measure => have := ao.out; have := an.out; omega
   case rel => exact ⟨(wrap64 (ac + 1)), (by first | rfl | (simp; done) | (simp [*]; done)), H', ⟨by have := ao.out; have := an.out; omega⟩, by repeat (first | exact Drawn0.refl _ | apply Drawn0.step)⟩
  rw [if_neg c5] at H
  have aB : decide (ac < ((rd_L2 l0 aa).length : Int)) = false := decide_eq_false c5
  clear c5
  by_cases c9 : aa > 0
  ·
   rw [if_pos c9] at H
   have ay : decide (0 < aa) = true := decide_eq_true c9
   clear c9
   obtain ⟨ji10, hji10⟩ : ∃ j_ : Int, (wrap64 (aa - 1)) = j_ := ⟨_, rfl⟩
   replace H : (if 0 ≤ (ji10) then (if (ji10) < (l0.length : Int) then ((wordbookref06_Order.f k2 (rd_L2 l0 (ji10)) (rd_L2 l0 aa)).bind fun t170 => (if t170 ≥ 0 then (some 1) else (if ai = true then (wordbookref15_Errors.l0 k2 l0 (wrap64 (ae + ((rd_L2 l0 aa).length : Int))) true (wrap64 (aa + 1))) else (wordbookref15_Errors.l0 k2 l0 (wrap64 (ae + ((rd_L2 l0 aa).length : Int))) (decide (((rd_L2 l0 aa).length : Int) > 64)) (wrap64 (aa + 1)))))) else (none)) else (none)) = some r := by first | (rw [hji10] at H; exact H) | (simp only [hji10] at H ⊢; exact H)
   have hji10w : (IntKind.i64.wrap (aa - 1)) = ji10 := (i64_w _).trans hji10
   have c11 : 0 ≤ (ji10) := Classical.byContradiction fun c_ => by rw [if_neg c_] at H; exact absurd H (by simp)
   rw [if_pos c11] at H
   have aD : decide (0 ≤ (ji10)) = true := decide_eq_true c11
   clear c11
   have c12 : (ji10) < (l0.length : Int) := Classical.byContradiction fun c_ => by rw [if_neg c_] at H; exact absurd H (by simp)
   rw [if_pos c12] at H
   have aC : decide ((ji10) < (l0.length : Int)) = true := decide_eq_true c12
   clear c12
   replace H := Option.bind_eq_some_iff.mp H
   obtain ⟨t170, A130, H⟩ := H
   replace H : (if t170 ≥ 0 then (some 1) else (if ai = true then (wordbookref15_Errors.l0 k2 l0 (wrap64 (ae + ((rd_L2 l0 aa).length : Int))) true (wrap64 (aa + 1))) else (wordbookref15_Errors.l0 k2 l0 (wrap64 (ae + ((rd_L2 l0 aa).length : Int))) (decide (((rd_L2 l0 aa).length : Int) > 64)) (wrap64 (aa + 1))))) = some r := H
   have A13 := Aside0.mk A130
   clear A130
   by_cases c14 : t170 ≥ 0
   ·
    rw [if_pos c14] at H
    have ax : decide (0 ≤ t170) = true := decide_eq_true c14
    clear c14
    obtain rfl := Option.some.inj H
    have p163 : 0 ≤ (aa : Int) := of_decide_eq_true (by first | (with_reducible assumption) | assumption)
    have q163 : aa < (l0.length : Int) := of_decide_eq_true (by first | (with_reducible assumption) | assumption)
    obtain ⟨ad163, A163_0, c163_0, e163, ab, hl163_0, hi163_0⟩ := at_L2 HR0.out aa p163 q163
    cases e163
    have HR163_0 := Aside0.mk hi163_0
    have HC163_0 := Aside0.mk hl163_0
    clear hi163_0 hl163_0
    replace p163 := eq_true p163
    replace q163 := eq_true q163
    have p168 : 0 ≤ ((ji10) : Int) := of_decide_eq_true (by first | (with_reducible assumption) | assumption)
    have q168 : (ji10) < (l0.length : Int) := of_decide_eq_true (by first | (with_reducible assumption) | assumption)
    obtain ⟨ad168, A168_0, c168_0, e168, al, hl168_0, hi168_0⟩ := at_L2 HR0.out (ji10) p168 q168
    obtain rfl : ad163 = ad168 := (by injection e168)
    have HR168_0 := Aside0.mk hi168_0
    have HC168_0 := Aside0.mk hl168_0
    clear hi168_0 hl168_0
    replace p168 := eq_true p168
    replace q168 := eq_true q168
    have p169 : 0 ≤ (aa : Int) := of_decide_eq_true (by first | (with_reducible assumption) | assumption)
    have q169 : aa < (l0.length : Int) := of_decide_eq_true (by first | (with_reducible assumption) | assumption)
    obtain ⟨ad169, A169_0, c169_0, e169, ag, hl169_0, hi169_0⟩ := at_L2 HR0.out aa p169 q169
    obtain rfl : ad163 = ad169 := (by injection e169)
    have HR169_0 := Aside0.mk hi169_0
    have HC169_0 := Aside0.mk hl169_0
    clear hi169_0 hl169_0
    replace p169 := eq_true p169
    replace q169 := eq_true q169
    have ea_ := Option.some.inj (ab.symm.trans ag)
    injection ea_ with ea_ en_ ec_
    subst ea_
    subst ec_
    clear en_
    go_wp2_with (first | (go_at_call 37; (with_reducible refine (wordbookref06_Order.calls k2 _ _ (rd_L2 l0 (ji10)) _ _ (rd_L2 l0 aa) t170 _ ?side1 ?side2 ?side3 ?side4 A13.out).mono ?_); (case side1 => repeat (first | exact HR168_0.out | (with_reducible refine Kd.C_alloc ?_ _) | (with_reducible refine Kd.C_drewN ?_ _) | (with_reducible refine Kd.C_drew ?_))); (case side2 => exact HC168_0.out); (case side3 => repeat (first | exact HR169_0.out | (with_reducible refine Kd.C_alloc ?_ _) | (with_reducible refine Kd.C_drewN ?_ _) | (with_reducible refine Kd.C_drew ?_))); (case side4 => exact HC169_0.out); rintro e w' ⟨rfl, ⟨nd, rfl⟩⟩; (try first | exact ⟨rfl, _, World.drewN_drewN _ _ _⟩ | exact ⟨rfl, _, Eq.trans (World.drewN_drewN _ _ _) (congrArg (World.drewN _) (Nat.add_assoc _ _ _))⟩)))
    repeat (go_quiet (first | (go_at_call 37; (with_reducible refine (wordbookref06_Order.calls k2 _ _ (rd_L2 l0 (ji10)) _ _ (rd_L2 l0 aa) t170 _ ?side1 ?side2 ?side3 ?side4 A13.out).mono ?_); (case side1 => repeat (first | exact HR168_0.out | (with_reducible refine Kd.C_alloc ?_ _) | (with_reducible refine Kd.C_drewN ?_ _) | (with_reducible refine Kd.C_drew ?_))); (case side2 => exact HC168_0.out); (case side3 => repeat (first | exact HR169_0.out | (with_reducible refine Kd.C_alloc ?_ _) | (with_reducible refine Kd.C_drewN ?_ _) | (with_reducible refine Kd.C_drew ?_))); (case side4 => exact HC169_0.out); rintro e w' ⟨rfl, ⟨nd, rfl⟩⟩; (try first | exact ⟨rfl, _, World.drewN_drewN _ _ _⟩ | exact ⟨rfl, _, Eq.trans (World.drewN_drewN _ _ _) (congrArg (World.drewN _) (Nat.add_assoc _ _ _))⟩))); try go_wp2_with (first | (go_at_call 37; (with_reducible refine (wordbookref06_Order.calls k2 _ _ (rd_L2 l0 (ji10)) _ _ (rd_L2 l0 aa) t170 _ ?side1 ?side2 ?side3 ?side4 A13.out).mono ?_); (case side1 => repeat (first | exact HR168_0.out | (with_reducible refine Kd.C_alloc ?_ _) | (with_reducible refine Kd.C_drewN ?_ _) | (with_reducible refine Kd.C_drew ?_))); (case side2 => exact HC168_0.out); (case side3 => repeat (first | exact HR169_0.out | (with_reducible refine Kd.C_alloc ?_ _) | (with_reducible refine Kd.C_drewN ?_ _) | (with_reducible refine Kd.C_drew ?_))); (case side4 => exact HC169_0.out); rintro e w' ⟨rfl, ⟨nd, rfl⟩⟩; (try first | exact ⟨rfl, _, World.drewN_drewN _ _ _⟩ | exact ⟨rfl, _, Eq.trans (World.drewN_drewN _ _ _) (congrArg (World.drewN _) (Nat.add_assoc _ _ _))⟩))))
    go_ret
    exact ⟨by first | rfl | (simp; done) | (simp only [← hji10] <;> (first | rfl | simp)) | (simp [*]; done), by repeat (first | exact Drawn0.refl _ | apply Drawn0.step)⟩
   rw [if_neg c14] at H
   have ax : decide (0 ≤ t170) = false := decide_eq_false c14
   clear c14
   by_cases c15 : ai = true
   ·
    subst c15
    have H1 : (wordbookref15_Errors.l0 k2 l0 (wrap64 (ae + ((rd_L2 l0 aa).length : Int))) true (wrap64 (aa + 1))) = some r := by rw [if_pos rfl] at H; exact H
    clear H
    have H := H1
    clear H1
    have H' := Aside0.mk H
    clear H
    have p163 : 0 ≤ (aa : Int) := of_decide_eq_true (by first | (with_reducible assumption) | assumption)
    have q163 : aa < (l0.length : Int) := of_decide_eq_true (by first | (with_reducible assumption) | assumption)
    obtain ⟨ad163, A163_0, c163_0, e163, ab, hl163_0, hi163_0⟩ := at_L2 HR0.out aa p163 q163
    cases e163
    have HR163_0 := Aside0.mk hi163_0
    have HC163_0 := Aside0.mk hl163_0
    clear hi163_0 hl163_0
    replace p163 := eq_true p163
    replace q163 := eq_true q163
    have p168 : 0 ≤ ((ji10) : Int) := of_decide_eq_true (by first | (with_reducible assumption) | assumption)
    have q168 : (ji10) < (l0.length : Int) := of_decide_eq_true (by first | (with_reducible assumption) | assumption)
    obtain ⟨ad168, A168_0, c168_0, e168, al, hl168_0, hi168_0⟩ := at_L2 HR0.out (ji10) p168 q168
    obtain rfl : ad163 = ad168 := (by injection e168)
    have HR168_0 := Aside0.mk hi168_0
    have HC168_0 := Aside0.mk hl168_0
    clear hi168_0 hl168_0
    replace p168 := eq_true p168
    replace q168 := eq_true q168
    have p169 : 0 ≤ (aa : Int) := of_decide_eq_true (by first | (with_reducible assumption) | assumption)
    have q169 : aa < (l0.length : Int) := of_decide_eq_true (by first | (with_reducible assumption) | assumption)
    obtain ⟨ad169, A169_0, c169_0, e169, ag, hl169_0, hi169_0⟩ := at_L2 HR0.out aa p169 q169
    obtain rfl : ad163 = ad169 := (by injection e169)
    have HR169_0 := Aside0.mk hi169_0
    have HC169_0 := Aside0.mk hl169_0
    clear hi169_0 hl169_0
    replace p169 := eq_true p169
    replace q169 := eq_true q169
    have ea_ := Option.some.inj (ab.symm.trans ag)
    injection ea_ with ea_ en_ ec_
    subst ea_
    subst ec_
    clear en_
    go_wp2_with (first | (go_at_call 37; (with_reducible refine (wordbookref06_Order.calls k2 _ _ (rd_L2 l0 (ji10)) _ _ (rd_L2 l0 aa) t170 _ ?side1 ?side2 ?side3 ?side4 A13.out).mono ?_); (case side1 => repeat (first | exact HR168_0.out | (with_reducible refine Kd.C_alloc ?_ _) | (with_reducible refine Kd.C_drewN ?_ _) | (with_reducible refine Kd.C_drew ?_))); (case side2 => exact HC168_0.out); (case side3 => repeat (first | exact HR169_0.out | (with_reducible refine Kd.C_alloc ?_ _) | (with_reducible refine Kd.C_drewN ?_ _) | (with_reducible refine Kd.C_drew ?_))); (case side4 => exact HC169_0.out); rintro e w' ⟨rfl, ⟨nd, rfl⟩⟩; (try first | exact ⟨rfl, _, World.drewN_drewN _ _ _⟩ | exact ⟨rfl, _, Eq.trans (World.drewN_drewN _ _ _) (congrArg (World.drewN _) (Nat.add_assoc _ _ _))⟩); have p171 : 0 ≤ (aa : Int) := of_decide_eq_true (by first | (with_reducible assumption) | assumption); have q171 : aa < (l0.length : Int) := of_decide_eq_true (by first | (with_reducible assumption) | assumption); obtain ⟨ad171, A171_0, c171_0, e171, ad, hl171_0, hi171_0⟩ := at_L2 HR0.out aa p171 q171; obtain rfl : ad163 = ad171 := (by injection e171); have HR171_0 := Aside0.mk hi171_0; have HC171_0 := Aside0.mk hl171_0; clear hi171_0 hl171_0; replace p171 := eq_true p171; replace q171 := eq_true q171; have ea_ := Option.some.inj (ab.symm.trans ad); injection ea_ with ea_ en_ ec_; subst ea_; subst ec_; clear en_))
    repeat (go_quiet (first | (go_at_call 37; (with_reducible refine (wordbookref06_Order.calls k2 _ _ (rd_L2 l0 (ji10)) _ _ (rd_L2 l0 aa) t170 _ ?side1 ?side2 ?side3 ?side4 A13.out).mono ?_); (case side1 => repeat (first | exact HR168_0.out | (with_reducible refine Kd.C_alloc ?_ _) | (with_reducible refine Kd.C_drewN ?_ _) | (with_reducible refine Kd.C_drew ?_))); (case side2 => exact HC168_0.out); (case side3 => repeat (first | exact HR169_0.out | (with_reducible refine Kd.C_alloc ?_ _) | (with_reducible refine Kd.C_drewN ?_ _) | (with_reducible refine Kd.C_drew ?_))); (case side4 => exact HC169_0.out); rintro e w' ⟨rfl, ⟨nd, rfl⟩⟩; (try first | exact ⟨rfl, _, World.drewN_drewN _ _ _⟩ | exact ⟨rfl, _, Eq.trans (World.drewN_drewN _ _ _) (congrArg (World.drewN _) (Nat.add_assoc _ _ _))⟩); have p171 : 0 ≤ (aa : Int) := of_decide_eq_true (by first | (with_reducible assumption) | assumption); have q171 : aa < (l0.length : Int) := of_decide_eq_true (by first | (with_reducible assumption) | assumption); obtain ⟨ad171, A171_0, c171_0, e171, ad, hl171_0, hi171_0⟩ := at_L2 HR0.out aa p171 q171; obtain rfl : ad163 = ad171 := (by injection e171); have HR171_0 := Aside0.mk hi171_0; have HC171_0 := Aside0.mk hl171_0; clear hi171_0 hl171_0; replace p171 := eq_true p171; replace q171 := eq_true q171; have ea_ := Option.some.inj (ab.symm.trans ad); injection ea_ with ea_ en_ ec_; subst ea_; subst ec_; clear en_)); try go_wp2_with (first | (go_at_call 37; (with_reducible refine (wordbookref06_Order.calls k2 _ _ (rd_L2 l0 (ji10)) _ _ (rd_L2 l0 aa) t170 _ ?side1 ?side2 ?side3 ?side4 A13.out).mono ?_); (case side1 => repeat (first | exact HR168_0.out | (with_reducible refine Kd.C_alloc ?_ _) | (with_reducible refine Kd.C_drewN ?_ _) | (with_reducible refine Kd.C_drew ?_))); (case side2 => exact HC168_0.out); (case side3 => repeat (first | exact HR169_0.out | (with_reducible refine Kd.C_alloc ?_ _) | (with_reducible refine Kd.C_drewN ?_ _) | (with_reducible refine Kd.C_drew ?_))); (case side4 => exact HC169_0.out); rintro e w' ⟨rfl, ⟨nd, rfl⟩⟩; (try first | exact ⟨rfl, _, World.drewN_drewN _ _ _⟩ | exact ⟨rfl, _, Eq.trans (World.drewN_drewN _ _ _) (congrArg (World.drewN _) (Nat.add_assoc _ _ _))⟩); have p171 : 0 ≤ (aa : Int) := of_decide_eq_true (by first | (with_reducible assumption) | assumption); have q171 : aa < (l0.length : Int) := of_decide_eq_true (by first | (with_reducible assumption) | assumption); obtain ⟨ad171, A171_0, c171_0, e171, ad, hl171_0, hi171_0⟩ := at_L2 HR0.out aa p171 q171; obtain rfl : ad163 = ad171 := (by injection e171); have HR171_0 := Aside0.mk hi171_0; have HC171_0 := Aside0.mk hl171_0; clear hi171_0 hl171_0; replace p171 := eq_true p171; replace q171 := eq_true q171; have ea_ := Option.some.inj (ab.symm.trans ad); injection ea_ with ea_ en_ ec_; subst ea_; subst ec_; clear en_)))
    go_roundg k2
    case measure => have := ao.out; have := an.out; omega
    case rel => exact ⟨(wrap64 (ae + ((rd_L2 l0 aa).length : Int))), (true), (wrap64 (aa + 1)), (by first | rfl | (simp; done) | (simp [*]; done)), (by first | rfl | (simp; done) | (simp [*]; done)), (by first | rfl | (simp; done) | (simp [*]; done)), H', ⟨by have := ao.out; have := an.out; omega⟩, by repeat (first | exact Drawn0.refl _ | apply Drawn0.step)⟩
   replace c15 := Bool.eq_false_iff.mpr c15
   subst c15
   have H1 : (wordbookref15_Errors.l0 k2 l0 (wrap64 (ae + ((rd_L2 l0 aa).length : Int))) (decide (((rd_L2 l0 aa).length : Int) > 64)) (wrap64 (aa + 1))) = some r := by rw [if_neg (show ¬ (false = true) by decide)] at H; exact H
   clear H
   have H := H1
   clear H1
   have H' := Aside0.mk H
   clear H
   have p163 : 0 ≤ (aa : Int) := of_decide_eq_true (by first | (with_reducible assumption) | assumption)
   have q163 : aa < (l0.length : Int) := of_decide_eq_true (by first | (with_reducible assumption) | assumption)
   obtain ⟨ad163, A163_0, c163_0, e163, ab, hl163_0, hi163_0⟩ := at_L2 HR0.out aa p163 q163
   cases e163
   have HR163_0 := Aside0.mk hi163_0
   have HC163_0 := Aside0.mk hl163_0
   clear hi163_0 hl163_0
   replace p163 := eq_true p163
   replace q163 := eq_true q163
   have p168 : 0 ≤ ((ji10) : Int) := of_decide_eq_true (by first | (with_reducible assumption) | assumption)
   have q168 : (ji10) < (l0.length : Int) := of_decide_eq_true (by first | (with_reducible assumption) | assumption)
   obtain ⟨ad168, A168_0, c168_0, e168, al, hl168_0, hi168_0⟩ := at_L2 HR0.out (ji10) p168 q168
   obtain rfl : ad163 = ad168 := (by injection e168)
   have HR168_0 := Aside0.mk hi168_0
   have HC168_0 := Aside0.mk hl168_0
   clear hi168_0 hl168_0
   replace p168 := eq_true p168
   replace q168 := eq_true q168
   have p169 : 0 ≤ (aa : Int) := of_decide_eq_true (by first | (with_reducible assumption) | assumption)
   have q169 : aa < (l0.length : Int) := of_decide_eq_true (by first | (with_reducible assumption) | assumption)
   obtain ⟨ad169, A169_0, c169_0, e169, ag, hl169_0, hi169_0⟩ := at_L2 HR0.out aa p169 q169
   obtain rfl : ad163 = ad169 := (by injection e169)
   have HR169_0 := Aside0.mk hi169_0
   have HC169_0 := Aside0.mk hl169_0
   clear hi169_0 hl169_0
   replace p169 := eq_true p169
   replace q169 := eq_true q169
   have ea_ := Option.some.inj (ab.symm.trans ag)
   injection ea_ with ea_ en_ ec_
   subst ea_
   subst ec_
   clear en_
   go_wp2_with (first | (go_at_call 37; (with_reducible refine (wordbookref06_Order.calls k2 _ _ (rd_L2 l0 (ji10)) _ _ (rd_L2 l0 aa) t170 _ ?side1 ?side2 ?side3 ?side4 A13.out).mono ?_); (case side1 => repeat (first | exact HR168_0.out | (with_reducible refine Kd.C_alloc ?_ _) | (with_reducible refine Kd.C_drewN ?_ _) | (with_reducible refine Kd.C_drew ?_))); (case side2 => exact HC168_0.out); (case side3 => repeat (first | exact HR169_0.out | (with_reducible refine Kd.C_alloc ?_ _) | (with_reducible refine Kd.C_drewN ?_ _) | (with_reducible refine Kd.C_drew ?_))); (case side4 => exact HC169_0.out); rintro e w' ⟨rfl, ⟨nd, rfl⟩⟩; (try first | exact ⟨rfl, _, World.drewN_drewN _ _ _⟩ | exact ⟨rfl, _, Eq.trans (World.drewN_drewN _ _ _) (congrArg (World.drewN _) (Nat.add_assoc _ _ _))⟩); have p171 : 0 ≤ (aa : Int) := of_decide_eq_true (by first | (with_reducible assumption) | assumption); have q171 : aa < (l0.length : Int) := of_decide_eq_true (by first | (with_reducible assumption) | assumption); obtain ⟨ad171, A171_0, c171_0, e171, ad, hl171_0, hi171_0⟩ := at_L2 HR0.out aa p171 q171; obtain rfl : ad163 = ad171 := (by injection e171); have HR171_0 := Aside0.mk hi171_0; have HC171_0 := Aside0.mk hl171_0; clear hi171_0 hl171_0; replace p171 := eq_true p171; replace q171 := eq_true q171; have ea_ := Option.some.inj (ab.symm.trans ad); injection ea_ with ea_ en_ ec_; subst ea_; subst ec_; clear en_; have p172 : 0 ≤ (aa : Int) := of_decide_eq_true (by first | (with_reducible assumption) | assumption); have q172 : aa < (l0.length : Int) := of_decide_eq_true (by first | (with_reducible assumption) | assumption); obtain ⟨ad172, A172_0, c172_0, e172, af, hl172_0, hi172_0⟩ := at_L2 HR0.out aa p172 q172; obtain rfl : ad163 = ad172 := (by injection e172); have HR172_0 := Aside0.mk hi172_0; have HC172_0 := Aside0.mk hl172_0; clear hi172_0 hl172_0; replace p172 := eq_true p172; replace q172 := eq_true q172; have ea_ := Option.some.inj (ab.symm.trans af); injection ea_ with ea_ en_ ec_; subst ea_; subst ec_; clear en_))
   repeat (go_quiet (first | (go_at_call 37; (with_reducible refine (wordbookref06_Order.calls k2 _ _ (rd_L2 l0 (ji10)) _ _ (rd_L2 l0 aa) t170 _ ?side1 ?side2 ?side3 ?side4 A13.out).mono ?_); (case side1 => repeat (first | exact HR168_0.out | (with_reducible refine Kd.C_alloc ?_ _) | (with_reducible refine Kd.C_drewN ?_ _) | (with_reducible refine Kd.C_drew ?_))); (case side2 => exact HC168_0.out); (case side3 => repeat (first | exact HR169_0.out | (with_reducible refine Kd.C_alloc ?_ _) | (with_reducible refine Kd.C_drewN ?_ _) | (with_reducible refine Kd.C_drew ?_))); (case side4 => exact HC169_0.out); rintro e w' ⟨rfl, ⟨nd, rfl⟩⟩; (try first | exact ⟨rfl, _, World.drewN_drewN _ _ _⟩ | exact ⟨rfl, _, Eq.trans (World.drewN_drewN _ _ _) (congrArg (World.drewN _) (Nat.add_assoc _ _ _))⟩); have p171 : 0 ≤ (aa : Int) := of_decide_eq_true (by first | (with_reducible assumption) | assumption); have q171 : aa < (l0.length : Int) := of_decide_eq_true (by first | (with_reducible assumption) | assumption); obtain ⟨ad171, A171_0, c171_0, e171, ad, hl171_0, hi171_0⟩ := at_L2 HR0.out aa p171 q171; obtain rfl : ad163 = ad171 := (by injection e171); have HR171_0 := Aside0.mk hi171_0; have HC171_0 := Aside0.mk hl171_0; clear hi171_0 hl171_0; replace p171 := eq_true p171; replace q171 := eq_true q171; have ea_ := Option.some.inj (ab.symm.trans ad); injection ea_ with ea_ en_ ec_; subst ea_; subst ec_; clear en_; have p172 : 0 ≤ (aa : Int) := of_decide_eq_true (by first | (with_reducible assumption) | assumption); have q172 : aa < (l0.length : Int) := of_decide_eq_true (by first | (with_reducible assumption) | assumption); obtain ⟨ad172, A172_0, c172_0, e172, af, hl172_0, hi172_0⟩ := at_L2 HR0.out aa p172 q172; obtain rfl : ad163 = ad172 := (by injection e172); have HR172_0 := Aside0.mk hi172_0; have HC172_0 := Aside0.mk hl172_0; clear hi172_0 hl172_0; replace p172 := eq_true p172; replace q172 := eq_true q172; have ea_ := Option.some.inj (ab.symm.trans af); injection ea_ with ea_ en_ ec_; subst ea_; subst ec_; clear en_)); try go_wp2_with (first | (go_at_call 37; (with_reducible refine (wordbookref06_Order.calls k2 _ _ (rd_L2 l0 (ji10)) _ _ (rd_L2 l0 aa) t170 _ ?side1 ?side2 ?side3 ?side4 A13.out).mono ?_); (case side1 => repeat (first | exact HR168_0.out | (with_reducible refine Kd.C_alloc ?_ _) | (with_reducible refine Kd.C_drewN ?_ _) | (with_reducible refine Kd.C_drew ?_))); (case side2 => exact HC168_0.out); (case side3 => repeat (first | exact HR169_0.out | (with_reducible refine Kd.C_alloc ?_ _) | (with_reducible refine Kd.C_drewN ?_ _) | (with_reducible refine Kd.C_drew ?_))); (case side4 => exact HC169_0.out); rintro e w' ⟨rfl, ⟨nd, rfl⟩⟩; (try first | exact ⟨rfl, _, World.drewN_drewN _ _ _⟩ | exact ⟨rfl, _, Eq.trans (World.drewN_drewN _ _ _) (congrArg (World.drewN _) (Nat.add_assoc _ _ _))⟩); have p171 : 0 ≤ (aa : Int) := of_decide_eq_true (by first | (with_reducible assumption) | assumption); have q171 : aa < (l0.length : Int) := of_decide_eq_true (by first | (with_reducible assumption) | assumption); obtain ⟨ad171, A171_0, c171_0, e171, ad, hl171_0, hi171_0⟩ := at_L2 HR0.out aa p171 q171; obtain rfl : ad163 = ad171 := (by injection e171); have HR171_0 := Aside0.mk hi171_0; have HC171_0 := Aside0.mk hl171_0; clear hi171_0 hl171_0; replace p171 := eq_true p171; replace q171 := eq_true q171; have ea_ := Option.some.inj (ab.symm.trans ad); injection ea_ with ea_ en_ ec_; subst ea_; subst ec_; clear en_; have p172 : 0 ≤ (aa : Int) := of_decide_eq_true (by first | (with_reducible assumption) | assumption); have q172 : aa < (l0.length : Int) := of_decide_eq_true (by first | (with_reducible assumption) | assumption); obtain ⟨ad172, A172_0, c172_0, e172, af, hl172_0, hi172_0⟩ := at_L2 HR0.out aa p172 q172; obtain rfl : ad163 = ad172 := (by injection e172); have HR172_0 := Aside0.mk hi172_0; have HC172_0 := Aside0.mk hl172_0; clear hi172_0 hl172_0; replace p172 := eq_true p172; replace q172 := eq_true q172; have ea_ := Option.some.inj (ab.symm.trans af); injection ea_ with ea_ en_ ec_; subst ea_; subst ec_; clear en_)))
   go_roundg k2
   case measure => have := ao.out; have := an.out; omega
   case rel => exact ⟨(wrap64 (ae + ((rd_L2 l0 aa).length : Int))), (decide (((rd_L2 l0 aa).length : Int) > 64)), (wrap64 (aa + 1)), (by first | rfl | (simp; done) | (simp [*]; done)), (by first | rfl | (simp; done) | (simp [*]; done)), (by first | rfl | (simp; done) | (simp [*]; done)), H', ⟨by have := ao.out; have := an.out; omega⟩, by repeat (first | exact Drawn0.refl _ | apply Drawn0.step)⟩
  rw [if_neg c9] at H
  have ay : decide (0 < aa) = false := decide_eq_false c9
  clear c9
  by_cases c16 : ai = true
  ·
   subst c16
   have H1 : (wordbookref15_Errors.l0 k2 l0 (wrap64 (ae + ((rd_L2 l0 aa).length : Int))) true (wrap64 (aa + 1))) = some r := by rw [if_pos rfl] at H; exact H
   clear H
   have H := H1
   clear H1
   have H' := Aside0.mk H
   clear H
   have p163 : 0 ≤ (aa : Int) := of_decide_eq_true (by first | (with_reducible assumption) | assumption)
   have q163 : aa < (l0.length : Int) := of_decide_eq_true (by first | (with_reducible assumption) | assumption)
   obtain ⟨ad163, A163_0, c163_0, e163, ab, hl163_0, hi163_0⟩ := at_L2 HR0.out aa p163 q163
   cases e163
   have HR163_0 := Aside0.mk hi163_0
   have HC163_0 := Aside0.mk hl163_0
   clear hi163_0 hl163_0
   replace p163 := eq_true p163
   replace q163 := eq_true q163
   have p173 : 0 ≤ (aa : Int) := of_decide_eq_true (by first | (with_reducible assumption) | assumption)
   have q173 : aa < (l0.length : Int) := of_decide_eq_true (by first | (with_reducible assumption) | assumption)
   obtain ⟨ad173, A173_0, c173_0, e173, aj, hl173_0, hi173_0⟩ := at_L2 HR0.out aa p173 q173
   obtain rfl : ad163 = ad173 := (by injection e173)
   have HR173_0 := Aside0.mk hi173_0
   have HC173_0 := Aside0.mk hl173_0
   clear hi173_0 hl173_0
   replace p173 := eq_true p173
   replace q173 := eq_true q173
   have ea_ := Option.some.inj (ab.symm.trans aj)
   injection ea_ with ea_ en_ ec_
   subst ea_
   subst ec_
   clear en_
   go_wp2
   repeat (go_quiet (fail); try go_wp2)
   go_roundg k2
   case measure => have := ao.out; have := an.out; omega
   case rel => exact ⟨(wrap64 (ae + ((rd_L2 l0 aa).length : Int))), (true), (wrap64 (aa + 1)), (by first | rfl | (simp; done) | (simp [*]; done)), (by first | rfl | (simp; done) | (simp [*]; done)), (by first | rfl | (simp; done) | (simp [*]; done)), H', ⟨by have := ao.out; have := an.out; omega⟩, by repeat (first | exact Drawn0.refl _ | apply Drawn0.step)⟩
  replace c16 := Bool.eq_false_iff.mpr c16
  subst c16
  have H1 : (wordbookref15_Errors.l0 k2 l0 (wrap64 (ae + ((rd_L2 l0 aa).length : Int))) (decide (((rd_L2 l0 aa).length : Int) > 64)) (wrap64 (aa + 1))) = some r := by rw [if_neg (show ¬ (false = true) by decide)] at H; exact H
  clear H
  have H := H1
  clear H1
  have H' := Aside0.mk H
  clear H
  have p163 : 0 ≤ (aa : Int) := of_decide_eq_true (by first | (with_reducible assumption) | assumption)
  have q163 : aa < (l0.length : Int) := of_decide_eq_true (by first | (with_reducible assumption) | assumption)
  obtain ⟨ad163, A163_0, c163_0, e163, ab, hl163_0, hi163_0⟩ := at_L2 HR0.out aa p163 q163
  cases e163
  have HR163_0 := Aside0.mk hi163_0
  have HC163_0 := Aside0.mk hl163_0
  clear hi163_0 hl163_0
  replace p163 := eq_true p163
  replace q163 := eq_true q163
  have p173 : 0 ≤ (aa : Int) := of_decide_eq_true (by first | (with_reducible assumption) | assumption)
  have q173 : aa < (l0.length : Int) := of_decide_eq_true (by first | (with_reducible assumption) | assumption)
  obtain ⟨ad173, A173_0, c173_0, e173, aj, hl173_0, hi173_0⟩ := at_L2 HR0.out aa p173 q173
  obtain rfl : ad163 = ad173 := (by injection e173)
  have HR173_0 := Aside0.mk hi173_0
  have HC173_0 := Aside0.mk hl173_0
  clear hi173_0 hl173_0
  replace p173 := eq_true p173
  replace q173 := eq_true q173
  have ea_ := Option.some.inj (ab.symm.trans aj)
  injection ea_ with ea_ en_ ec_
  subst ea_
  subst ec_
  clear en_
  have p174 : 0 ≤ (aa : Int) := of_decide_eq_true (by first | (with_reducible assumption) | assumption)
  have q174 : aa < (l0.length : Int) := of_decide_eq_true (by first | (with_reducible assumption) | assumption)
  obtain ⟨ad174, A174_0, c174_0, e174, ap, hl174_0, hi174_0⟩ := at_L2 HR0.out aa p174 q174
  obtain rfl : ad163 = ad174 := (by injection e174)
  have HR174_0 := Aside0.mk hi174_0
  have HC174_0 := Aside0.mk hl174_0
  clear hi174_0 hl174_0
  replace p174 := eq_true p174
  replace q174 := eq_true q174
  have ea_ := Option.some.inj (ab.symm.trans ap)
  injection ea_ with ea_ en_ ec_
  subst ea_
  subst ec_
  clear en_
  go_wp2
  repeat (go_quiet (fail); try go_wp2)
  go_roundg k2
  case measure => have := ao.out; have := an.out; omega
  case rel => exact ⟨(wrap64 (ae + ((rd_L2 l0 aa).length : Int))), (decide (((rd_L2 l0 aa).length : Int) > 64)), (wrap64 (aa + 1)), (by first | rfl | (simp; done) | (simp [*]; done)), (by first | rfl | (simp; done) | (simp [*]; done)), (by first | rfl | (simp; done) | (simp [*]; done)), H', ⟨by have := ao.out; have := an.out; omega⟩, by repeat (first | exact Drawn0.refl _ | apply Drawn0.step)⟩
 rw [if_neg c2] at H
 have ar : decide (aa < (l0.length : Int)) = false := decide_eq_false c2
 clear c2
 by_cases c17 : ai = true
 ·
  subst c17
  have H1 : (some 4) = some r := by rw [if_pos rfl] at H; exact H
  clear H
  have H := H1
  clear H1
  obtain rfl := Option.some.inj H
  go_wp2
  repeat (go_quiet (fail); try go_wp2)
  go_ret
  exact ⟨by first | rfl | (simp; done) | (simp [*]; done), by repeat (first | exact Drawn0.refl _ | apply Drawn0.step)⟩
 replace c17 := Bool.eq_false_iff.mpr c17
 subst c17
 have H1 : (if (l0.length : Int) > 4096 then (some 4) else (if ae > 65536 then (some 4) else (some 0))) = some r := by rw [if_neg (show ¬ (false = true) by decide)] at H; exact H
 clear H
 have H := H1
 clear H1
 by_cases c18 : (l0.length : Int) > 4096
 ·
  rw [if_pos c18] at H
  have aw : decide (4096 < (l0.length : Int)) = true := decide_eq_true c18
  have av : decide (4096 < l0.length) = true := decide_eq_true (by omega)
  clear c18
  obtain rfl := Option.some.inj H
  go_wp2
  repeat (go_quiet (fail); try go_wp2)
  go_ret
  exact ⟨by first | rfl | (simp; done) | (simp [*]; done), by repeat (first | exact Drawn0.refl _ | apply Drawn0.step)⟩
 rw [if_neg c18] at H
 have aw : decide (4096 < (l0.length : Int)) = false := decide_eq_false c18
 have av : decide (4096 < l0.length) = false := decide_eq_false (by omega)
 clear c18
 by_cases c19 : ae > 65536
 ·
  rw [if_pos c19] at H
  have au : decide (65536 < ae) = true := decide_eq_true c19
  clear c19
  obtain rfl := Option.some.inj H
  go_wp2
  repeat (go_quiet (fail); try go_wp2)
  go_ret
  exact ⟨by first | rfl | (simp; done) | (simp [*]; done), by repeat (first | exact Drawn0.refl _ | apply Drawn0.step)⟩
 rw [if_neg c19] at H
 have au : decide (65536 < ae) = false := decide_eq_false c19
 clear c19
 obtain rfl := Option.some.inj H
 go_wp2
 repeat (go_quiet (fail); try go_wp2)
 go_ret
 exact ⟨by first | rfl | (simp; done) | (simp [*]; done), by repeat (first | exact Drawn0.refl _ | apply Drawn0.step)⟩
end Go.Proofs.Ytcdjeimjbbknjaa.PAll
namespace Go.Proofs.Ytcdjeimjbbknjaa.PAll
open Go.RowKit Go.Proofs.YtcdjeimjbbknjaaW.PrintWords Go.Proofs.YtcdjeimjbbknjaaW.PrintLast Go.Proofs.YtcdjeimjbbknjaaW.PrintMore
set_option linter.unusedVariables false
set_option linter.unusedSimpArgs false
attribute [local go_sem] max2_int min2_int max_two min_two max_three min_three max_four min_four

theorem cut_take {k : IntKind} {t e : TypeId} {b : Nat} (ht : Try.prog.underlying t = some (.slice e)) (hinfo : (Try.prog.info? e).map (fun i => (i.zero, i.size, i.bytes)) = some (some (Value.int k 0), 1, b)) (A : Option Addr) (c : Nat) (xs : List Int) (m : Nat) (hm : m ≤ xs.length) (hc : xs.length ≤ c) :
    (∀ W : World, (Instr.slice t (.slice A xs.length c) none (some (.int .i64 (m : Int))) none).run Try.prog W = .ok (.slice A m c) W) ∧ ∀ w : World, Kd.C (Kd.int k) w A xs.length xs → Kd.C (Kd.int k) w A m (xs.take m) := by
 obtain ⟨i0, hi, _, hsz, _⟩ := info_parts hinfo
 obtain ⟨hcut, hA, hC⟩ := print_take_of (P := Try.prog) (Value.int k) 0 t e .i64 ht hi hsz A c xs (m : Int) (by omega) (by omega) hc
 have hl : (xs.take (m : Int).toNat).length = m := by rw [List.length_take]; omega
 rw [hl] at hcut hA
 exact ⟨hcut, fun w h => Kd.C_of_reads (hA w (Kd.reads_of_C h))⟩

def wordbookref01_Take.f (l0 : List Int) (a1 : Int) : Option (List Int) := if 0 ≤ a1 ∧ (l0.take a1.toNat).length < 17592186044416 then some (l0.take a1.toNat) else none
theorem take_at (A0 : Option Addr) (c0 : Nat) (l0 : List Int) (a1 : Int) (m : Nat) (w : World) (hr0 : Kd.C (Kd.int .i64) w A0 l0.length l0) (hc0 : l0.length ≤ c0)
    (hm : (if a1 < (l0.length : Int) then a1 else (l0.length : Int)) = (m : Int)) (hml : m ≤ l0.length) (hlim : m < 17592186044416) :
    Calls Try.prog 46 #[.slice A0 l0.length c0, .int .i64 a1] w fun e w' => ∃ v0_ : Value, e = .returned (v0_) ∧ Kd.R (Kd.int .i64) 3 w' w.heap.size (fun _ => True) v0_ (l0.take m) ∧ Below w.heap.size w w' := by
 obtain ⟨hcut, hA⟩ := cut_take (k := .i64) Try.underlying22 info3 A0 c0 l0 m hml hc0
 have HR := Aside0.mk (hA _ hr0)
 clear hA hr0
 have hml' : (m : Int) ≤ (l0.length : Int) := by omega
 go_enter Try.func46, Try.ntmps46
 go_wp2_with (at_builtin; refine Kd.R_append_rows (Kd.int .i64) (w0 := w) w.heap.size rfl (.tmp 6) (.tmp 12) 22 3 (.int .i64 0) 8 rfl Try.underlying22 info3 rfl (by decide) (by omega) (.slice none 0 0) ([] : List Int) (l0.take m) A0 m c0 (fun _ => True) (fun _ => False) rfl rfl (Kd.R_nil _ _ _ _ _) HR.out (fun _ _ h => h) (fun _ h => h.elim) (fun _ _ => trivial) (Below.refl _ _) (Nat.le_refl _) (by simp only [List.length_nil]; omega) ?_; intro v1 w1 HO HB _ _)
 go_ret
 exact ⟨_, rfl, by simpa using HO, HB⟩
theorem wordbookref01_Take.calls (A0 : Option Addr) (c0 : Nat) (l0 : List Int) (a1 : Int) (r : List Int) (w : World) (hr0 : Kd.C (Kd.int .i64) w A0 l0.length l0) (hc0 : l0.length ≤ c0) (h : wordbookref01_Take.f l0 a1 = some r) :
    Calls Try.prog 46 #[.slice A0 l0.length c0, .int .i64 a1] w fun e w' => ∃ v0_ : Value, e = .returned (v0_) ∧ Kd.R (Kd.int .i64) 3 w' w.heap.size (fun _ => True) v0_ r ∧ Below w.heap.size w w' := by
 unfold wordbookref01_Take.f at h
 split at h
 case isFalse => cases h
 case isTrue hh =>
 obtain ⟨h0, hlim⟩ := hh
 obtain rfl := Option.some.inj h
 rw [List.length_take] at hlim
 have h2 := take_at A0 c0 l0 a1 (min a1.toNat l0.length) w hr0 hc0 (by split <;> omega) (by omega) hlim
 rwa [← List.take_eq_take_min] at h2

def slices_Clone_int_int.f (l0 : List Int) : Option (List Int) := if l0.length < 17592186044416 then some l0 else none
theorem clone_nil (n c0 : Nat) (w : World) :
    Calls Try.prog 75 #[.slice none n c0] w fun e w' => ∃ v0_ : Value, e = .returned (v0_) ∧ Kd.R (Kd.int .i64) 3 w' w.heap.size (fun _ => True) v0_ [] ∧ Below w.heap.size w w' := by
 have heq := fun W => Lib.run_eql_slice_nil (P := Try.prog) W 22 3 none n c0 0 0 Try.underlying22
 simp only [Option.isNone_none] at heq
 go_enter Try.func75, Try.ntmps75
 go_wp2
 go_ret
 exact ⟨_, rfl, Kd.R_nil _ _ _ _ _, Below.refl _ _⟩
theorem clone_some (ad : Addr) (l0 : List Int) (c0 : Nat) (hlim : l0.length < 17592186044416) (w : World) (hr0 : Kd.C (Kd.int .i64) w (some ad) l0.length l0) :
    Calls Try.prog 75 #[.slice (some ad) l0.length c0] w fun e w' => ∃ v0_ : Value, e = .returned (v0_) ∧ Kd.R (Kd.int .i64) 3 w' w.heap.size (fun _ => True) v0_ l0 ∧ Below w.heap.size w w' := by
 have heq := fun W => Lib.run_eql_slice_nil (P := Try.prog) W 22 3 (some ad) l0.length c0 0 0 Try.underlying22
 simp only [Option.isNone_some] at heq
 have HR := Aside0.mk (Kd.C_below hr0 (below_alloc (Below.refl _ w) (.cells #[] 3)))
 clear hr0
 have HO := Aside0.mk (Kd.R_of_own (h1 := fun _ => rfl) (own_lit_of (enc := Value.int .i64) w w.heap.size 3 [] (Nat.le_refl _) (by simp)) (fun _ _ => trivial : ∀ k, _ → True))
 have HL := Aside0.mk hlim
 clear hlim
 go_enter Try.func75, Try.ntmps75
 go_wp2_with (at_builtin; refine Kd.R_append_rows (Kd.int .i64) (w0 := w) w.heap.size rfl (.tmp 5) (.tmp 6) 22 3 (.int .i64 0) 8 rfl Try.underlying22 info3 rfl (by decide) (by omega) (.slice (some ⟨w.heap.size, 0, none⟩) 0 0) ([] : List Int) l0 (some ad) l0.length c0 (fun _ => True) (fun _ => False) rfl rfl HO.out HR.out (fun _ _ h => h) (fun _ h => h.elim) (fun _ _ => trivial) (below_alloc (Below.refl _ _) _) (by simp) (by have := HL.out; simp only [List.length_nil]; omega) ?_; intro v1 w1 HO1 HB1 _ _)
 go_ret
 exact ⟨_, rfl, by simpa using HO1, HB1⟩
theorem slices_Clone_int_int.calls (A0 : Option Addr) (c0 : Nat) (l0 : List Int) (r : List Int) (w : World) (hr0 : Kd.C (Kd.int .i64) w A0 l0.length l0) (hc0 : l0.length ≤ c0) (h : slices_Clone_int_int.f l0 = some r) :
    Calls Try.prog 75 #[.slice A0 l0.length c0] w fun e w' => ∃ v0_ : Value, e = .returned (v0_) ∧ Kd.R (Kd.int .i64) 3 w' w.heap.size (fun _ => True) v0_ r ∧ Below w.heap.size w w' := by
 unfold slices_Clone_int_int.f at h
 split at h
 case isFalse => cases h
 case isTrue hh =>
 obtain rfl := Option.some.inj h
 rcases A0 with _ | ad
 ·
  have h0 : l0 = [] := by
   rcases Nat.eq_zero_or_pos l0.length with h0 | h0
   ·
    exact List.eq_nil_of_length_eq_zero h0
   ·
    obtain ⟨ad, h', _⟩ := hr0.2.2 h0
    cases h'
  subst h0
  exact clone_nil _ c0 w
 ·
  exact clone_some ad l0 c0 hh w hr0
end Go.Proofs.Ytcdjeimjbbknjaa.PAll
namespace Go.Proofs.Ytcdjeimjbbknjaa.PAll
open Go.RowKit Go.Proofs.YtcdjeimjbbknjaaW.PrintWords Go.Proofs.YtcdjeimjbbknjaaW.PrintLast Go.Proofs.YtcdjeimjbbknjaaW.PrintMore
attribute [local go_sem] max2_int min2_int max_two min_two max_three min_three max_four min_four   -- for this text's walks alone
set_option linter.unusedVariables false
set_option linter.unusedSimpArgs false

def wordbookref01_SameInts.l0 : Nat → List Int → List Int → Int → Option (Bool)
  | 0, _, _, _ => none
  | k + 1, x0, x1, x5 => if x5 < (x0.length : Int) then (if 0 ≤ x5 then (if x5 < (x1.length : Int) then (if (rd x0 x5) = (rd x1 x5) then (wordbookref01_SameInts.l0 k x0 x1 (wrap64 (x5 + 1))) else (some false)) else (none)) else (none)) else (some true)
def wordbookref01_SameInts.f (k : Nat) (l0 : List Int) (l1 : List Int) : Option (Bool) := if (l0.length : Int) = (l1.length : Int) then (wordbookref01_SameInts.l0 k l0 l1 0) else (some false)
set_option maxHeartbeats 8000000 in
set_option maxRecDepth 100000 in
theorem wordbookref01_SameInts.calls (k : Nat) (A0 : Option Addr) (c0 : Nat) (l0 : List Int) (A1 : Option Addr) (c1 : Nat) (l1 : List Int) (r : Bool) (w : World) (hr0 : Kd.C (Kd.int .i64) w A0 l0.length l0) (hc0 : l0.length ≤ c0) (hr1 : Kd.C (Kd.int .i64) w A1 l1.length l1) (hc1 : l1.length ≤ c1) (h : wordbookref01_SameInts.f k l0 l1 = some r) :
    Calls Try.prog 27 #[.slice A0 l0.length c0, .slice A1 l1.length c1] w fun e w' => e = .returned (.bool r) ∧ Drawn0 w w' := by
 have HR0 := Aside0.mk hr0
 have HC0 := Aside0.mk hc0
 clear hr0 hc0
 have HR1 := Aside0.mk hr1
 have HC1 := Aside0.mk hc1
 clear hr1 hc1
 have H : (if (l0.length : Int) = (l1.length : Int) then (wordbookref01_SameInts.l0 k l0 l1 0) else (some false)) = some r := h
 clear h
 by_cases c3 : (l0.length : Int) = (l1.length : Int)
 ·
  rw [if_pos c3] at H
  have af : ((l0.length : Int) == (l1.length : Int)) = true := beq_iff_eq.mpr c3
  have ae : ((l0.length : Int) != (l1.length : Int)) = false := bne_eq_false_iff_eq.mpr c3
  have ad : (l0.length == l1.length) = true := by first | simpa using c3 | (simp at c3 ⊢; omega)
  clear c3
  have H' := Aside0.mk H
  clear H
  go_enter Try.func27, Try.ntmps27
  go_wp2
  repeat (go_quiet (fail); try go_wp2)
  go_loopg [5] k (fun kq v5 w' => ∃ (aa : Int), v5 = .int .i64 aa ∧ Aside0 (wordbookref01_SameInts.l0 kq l0 l1 aa = some r) ∧ Aside0 (kq ≤ k) ∧ Drawn0 w w')
  case atStart => exact ⟨(0), (by first | rfl | (simp; done) | (simp [*]; done)), H', ⟨Nat.le_refl _⟩, by repeat (first | exact Drawn0.refl _ | apply Drawn0.step)⟩
  clear H'
  (try clear c1); (try clear c2); (try clear p2); (try clear c3); (try clear af); (try clear ae); (try clear ad)
  obtain ⟨aa, rfl, HA, aj, ⟨m1, rfl⟩⟩ := hrel
  cases gk with
  | zero => exact absurd HA.out (by simp [wordbookref01_SameInts.l0])
  | succ k1 => ?_
  have H := HA.out
  clear HA
  simp only [wordbookref01_SameInts.l0] at H
  by_cases c4 : aa < (l0.length : Int)
  ·
   rw [if_pos c4] at H
   have ai : decide (aa < (l0.length : Int)) = true := decide_eq_true c4
   clear c4
   have c5 : 0 ≤ aa := Classical.byContradiction fun c_ => by rw [if_neg c_] at H; exact absurd H (by simp)
   rw [if_pos c5] at H
   have al : decide (0 ≤ aa) = true := decide_eq_true c5
   clear c5
   have c6 : aa < (l1.length : Int) := Classical.byContradiction fun c_ => by rw [if_neg c_] at H; exact absurd H (by simp)
   rw [if_pos c6] at H
   have ak : decide (aa < (l1.length : Int)) = true := decide_eq_true c6
   clear c6
   by_cases c7 : (rd l0 aa) = (rd l1 aa)
   ·
    rw [if_pos c7] at H
    have ah : ((rd l0 aa) == (rd l1 aa)) = true := beq_iff_eq.mpr c7
    have ag : ((rd l0 aa) != (rd l1 aa)) = false := bne_eq_false_iff_eq.mpr c7
    clear c7
    have H' := Aside0.mk H
    clear H
    have p175 : 0 ≤ (aa : Int) := of_decide_eq_true (by first | (with_reducible assumption) | assumption)
    have q175 : aa < (l0.length : Int) := of_decide_eq_true (by first | (with_reducible assumption) | assumption)
    obtain ⟨ad175, e175, ac⟩ := Kd.at_int HR0.out aa p175 q175
    cases e175
    replace p175 := eq_true p175
    replace q175 := eq_true q175
    have p176 : 0 ≤ (aa : Int) := of_decide_eq_true (by first | (with_reducible assumption) | assumption)
    have q176 : aa < (l1.length : Int) := of_decide_eq_true (by first | (with_reducible assumption) | assumption)
    obtain ⟨ad176, e176, ab⟩ := Kd.at_int HR1.out aa p176 q176
    cases e176
    replace p176 := eq_true p176
    replace q176 := eq_true q176
    go_wp2
    repeat (go_quiet (fail); try go_wp2)
    go_roundg k1
    case measure => have := aj.out; omega
    case rel => exact ⟨(wrap64 (aa + 1)), (by first | rfl | (simp; done) | (simp [*]; done)), H', ⟨by have := aj.out; omega⟩, by repeat (first | exact Drawn0.refl _ | apply Drawn0.step)⟩
   rw [if_neg c7] at H
   have ah : ((rd l0 aa) == (rd l1 aa)) = false := beq_eq_false_iff_ne.mpr c7
   have ag : ((rd l0 aa) != (rd l1 aa)) = true := bne_iff_ne.mpr c7
   obtain rfl := Option.some.inj H
   have p175 : 0 ≤ (aa : Int) := of_decide_eq_true (by first | (with_reducible assumption) | assumption)
   have q175 : aa < (l0.length : Int) := of_decide_eq_true (by first | (with_reducible assumption) | assumption)
   obtain ⟨ad175, e175, ac⟩ := Kd.at_int HR0.out aa p175 q175
   cases e175
   replace p175 := eq_true p175
   replace q175 := eq_true q175
   have p176 : 0 ≤ (aa : Int) := of_decide_eq_true (by first | (with_reducible assumption) | assumption)
   have q176 : aa < (l1.length : Int) := of_decide_eq_true (by first | (with_reducible assumption) | assumption)
   obtain ⟨ad176, e176, ab⟩ := Kd.at_int HR1.out aa p176 q176
   cases e176
   replace p176 := eq_true p176
   replace q176 := eq_true q176
   go_wp2
   repeat (go_quiet (fail); try go_wp2)
   go_ret
   exact ⟨by first | rfl | (simp; done) | (simp [*]; done), by repeat (first | exact Drawn0.refl _ | apply Drawn0.step)⟩
  rw [if_neg c4] at H
  have ai : decide (aa < (l0.length : Int)) = false := decide_eq_false c4
  clear c4
  obtain rfl := Option.some.inj H
  go_wp2
  repeat (go_quiet (fail); try go_wp2)
  go_ret
  exact ⟨by first | rfl | (simp; done) | (simp [*]; done), by repeat (first | exact Drawn0.refl _ | apply Drawn0.step)⟩
 rw [if_neg c3] at H
 have af : ((l0.length : Int) == (l1.length : Int)) = false := beq_eq_false_iff_ne.mpr c3
 have ae : ((l0.length : Int) != (l1.length : Int)) = true := bne_iff_ne.mpr c3
 have ad : (l0.length == l1.length) = false := by first | simpa using c3 | (simp at c3 ⊢; omega)
 obtain rfl := Option.some.inj H
 go_enter Try.func27, Try.ntmps27
 go_wp2
 repeat (go_quiet (fail); try go_wp2)
 go_ret
 exact ⟨by first | rfl | (simp; done) | (simp [*]; done), by repeat (first | exact Drawn0.refl _ | apply Drawn0.step)⟩
def wordbooklaw15_raw.l0 : Nat → List (List Int) → List (List Int) → Int → Option ((List (List Int)))
  | 0, _, _, _ => none
  | k + 1, x0, x3, x4 => if x4 < (x0.length : Int) then (if x4 < 20 then (if 0 ≤ x4 then ((wordbookref01_Take.f (rd_L2 x0 x4) 10).bind fun t202 => (if x3.length < 5864062014805 then (wordbooklaw15_raw.l0 k x0 (x3 ++ [t202]) (wrap64 (x4 + 1))) else (none))) else (none)) else (some x3)) else (some x3)
def wordbooklaw15_raw.f (k : Nat) (l0 : List (List Int)) : Option ((List (List Int))) := wordbooklaw15_raw.l0 k l0 ([] : List (List Int)) 0
set_option maxHeartbeats 8000000 in
set_option maxRecDepth 100000 in
theorem wordbooklaw15_raw.calls (k : Nat) (A0 : Option Addr) (c0 : Nat) (l0 : List (List Int)) (r : List (List Int)) (w : World) (hr0 : Kd.C (Kd.slice 3 (Kd.int .i64)) w A0 l0.length l0) (hc0 : l0.length ≤ c0) (h : wordbooklaw15_raw.f k l0 = some r) :
    Calls Try.prog 21 #[.slice A0 l0.length c0] w fun e w' => ∃ v0_ : Value, e = .returned (v0_) ∧ Kd.S (Kd.slice 3 (Kd.int .i64)) 22 w' w.heap.size (fun _ => True) v0_ r ∧ Below w.heap.size w w' := by
 have HR0 := Aside0.mk hr0
 have HC0 := Aside0.mk hc0
 clear hr0 hc0
 have HB := Aside0.mk (Below.refl w.heap.size w)
 have H : (wordbooklaw15_raw.l0 k l0 ([] : List (List Int)) 0) = some r := h
 clear h
 have H' := Aside0.mk H
 clear H
 go_enter Try.func21, Try.ntmps21
 go_wp2
 go_loopg [3, 4] k (fun kq v3 v4 w' => ∃ (ad : List (List Int)) (aa : Int), v4 = .int .i64 aa ∧ Aside0 (wordbooklaw15_raw.l0 kq l0 ad aa = some r) ∧ Aside0 (kq ≤ k) ∧ Aside0 (Kd.S (Kd.slice 3 (Kd.int .i64)) 22 w' w.heap.size (fun _ => True) v3 ad) ∧ Aside0 (Below w.heap.size w w'))
 case atStart => exact ⟨(([] : List (List Int))), (0), (by first | rfl | (simp; done) | (simp [*]; done)), H', ⟨Nat.le_refl _⟩, ⟨by first | exact Kd.S_nil _ _ _ _ _ | exact Kd.N_nil _ _ _ _ _ | exact Kd.V_nil _ _ _ _ _ | exact Kd.Q_nil _ _ _ _ _ | exact Kd.R_nil _ _ _ _ _⟩, ⟨by repeat (first | (with_reducible first | exact HB.out | apply below_alloc | apply pw_below_drewN | apply below_drew1) | exact HB.out)⟩⟩
 clear H'
 obtain ⟨ad, aa, rfl, HA, al, ac, HB⟩ := hrel
 cases gk with
 | zero => exact absurd HA.out (by simp [wordbooklaw15_raw.l0])
 | succ k1 => ?_
 have H := HA.out
 clear HA
 simp only [wordbooklaw15_raw.l0] at H
 by_cases c2 : aa < (l0.length : Int)
 ·
  rw [if_pos c2] at H
  have ai : decide (aa < (l0.length : Int)) = true := decide_eq_true c2
  clear c2
  by_cases c3 : aa < 20
  ·
   rw [if_pos c3] at H
   have ah : decide (aa < 20) = true := decide_eq_true c3
   clear c3
   have c4 : 0 ≤ aa := Classical.byContradiction fun c_ => by rw [if_neg c_] at H; exact absurd H (by simp)
   rw [if_pos c4] at H
   have an : decide (0 ≤ aa) = true := decide_eq_true c4
   clear c4
   replace H := Option.bind_eq_some_iff.mp H
   obtain ⟨t202, A50, H⟩ := H
   replace H : (if ad.length < 5864062014805 then (wordbooklaw15_raw.l0 k1 l0 (ad ++ [t202]) (wrap64 (aa + 1))) else (none)) = some r := H
   have A5 := Aside0.mk A50
   clear A50
   have c6 : ad.length < 5864062014805 := Classical.byContradiction fun c_ => by rw [if_neg c_] at H; exact absurd H (by simp)
   rw [if_pos c6] at H
   have LMc6 := Aside0.mk c6
   clear c6
   obtain ⟨ae, hy205⟩ : ∃ y_ : List (List Int), y_ = (ad ++ [t202]) := ⟨_, rfl⟩
   replace H : (wordbooklaw15_raw.l0 k1 l0 ae (wrap64 (aa + 1))) = some r := by first | (rw [hy205]; with_reducible exact H) | (have H2_ := (Option.bind_some _ _).symm.trans H; rw [hy205]; with_reducible exact H2_) | (have H2_ := (Option.bind_some _ _).symm.trans H; with_reducible exact H2_) | with_reducible exact H | (rw [hy205]; exact H) | exact H
   have Ny205 := Aside0.mk hy205
   clear hy205
   have H' := Aside0.mk H
   clear H
   have p201 : 0 ≤ (aa : Int) := of_decide_eq_true (by first | (with_reducible assumption) | assumption)
   have q201 : aa < (l0.length : Int) := of_decide_eq_true (by first | (with_reducible assumption) | assumption)
   obtain ⟨ad201, A201_0, c201_0, e201, ab, hl201_0, hi201_0⟩ := at_L2 HR0.out aa p201 q201
   cases e201
   replace ab := (HB.out.cell (World.block_lt_of_cell? w _ ab)).trans ab
   have HR201_0 := Aside0.mk hi201_0
   have HC201_0 := Aside0.mk hl201_0
   clear hi201_0 hl201_0
   replace p201 := eq_true p201
   replace q201 := eq_true q201
   go_wp2_with (first | ((with_reducible refine gate_callee (f := 46) rfl ?_); refine goesL_ (some 20) rfl rfl Try.func46 (by kernel_rfl) rfl #[.slice A201_0 (rd_L2 l0 aa).length c201_0, .int .i64 10] rfl (by (try simp only [List.map_toArray, List.map_cons, List.map_nil]); first | done | rfl | (simp only [List.length_drop, List.length_take]; rfl)) ?_; (with_reducible refine (wordbookref01_Take.calls _ _ (rd_L2 l0 aa) 10 t202 _ ?side1 ?side2 A5.out).mono ?_); (case side1 => repeat (first | exact (Kd.C_below HR201_0.out HB.out) | (with_reducible refine Kd.C_alloc ?_ _) | (with_reducible refine Kd.C_drewN ?_ _) | (with_reducible refine Kd.C_drew ?_))); (case side2 => exact HC201_0.out); rintro e w7 ⟨v203, rfl, ho0, hb⟩; refine ⟨_, rfl, ?_⟩; have ag := Aside0.mk (Kd.S_elder' (by (with_reducible repeat (first | apply Kd.S_alloc | apply Kd.S_drewN | apply Kd.S_drew)); exact ac.out) (Kd.R_base ho0) hb); have af := Aside0.mk (Kd.R_lower ho0 (below_size (by repeat (first | (with_reducible first | exact HB.out | apply below_alloc | apply pw_below_drewN | apply below_drew1) | exact HB.out)))); have aj := Aside0.mk (below_step (by repeat (first | (with_reducible first | exact HB.out | apply below_alloc | apply pw_below_drewN | apply below_drew1) | exact HB.out)) hb); clear ac; clear HB; have ac := ag; have HO204 := af; have HB := aj; clear ag af aj; (try clear hb); (try clear hb2); (try clear hk); (try clear hi); (try clear ho0); obtain ⟨am, ak, eo9⟩ := Kd.R_slice HO204.out; subst eo9) | ((with_reducible refine gate_builtin (b := .append) (xs := #[.tmp 15, .tmp 21]) rfl ?_); at_builtin; refine Kd.S_append (Kd.slice 3 (Kd.int .i64)) (w0 := w) w.heap.size rfl (.tmp 15) (.tmp 21) 23 22 (.slice none 0 0) 24 rfl Try.underlying23 info22 rfl (by decide) (by omega) u3 ad t202 [.slice am t202.length ak] (fun _ => True) (fun k_ => some k_ = (.slice am t202.length ak : Value).ownBlock) rfl rfl ?aP (fun k_ hk_ => ((Kd.R_mono (ok' := fun k_ => ((fun _ => True)) k_ ∧ some k_ ≠ (u3 : Value).ownBlock) (Kd.R_apart' (HO204.out) (Kd.S_typed ac.out) (by decide)) (fun k_ hk => ⟨trivial, hk.2⟩))).1 k_ hk_.symm) ?aF ?aO ?aB ?aS ?aL ?_; (case aP => exact Kd.M_row (Kd.R_mono (Kd.R_tight rfl (Kd.R_mono (ok' := fun k_ => ((fun _ => True)) k_ ∧ some k_ ≠ (u3 : Value).ownBlock) (Kd.R_apart' (HO204.out) (Kd.S_typed ac.out) (by decide)) (fun k_ hk => ⟨trivial, hk.2⟩))) (fun _ h_ => h_))); (case aB => exact (by repeat (first | (with_reducible first | exact HB.out | apply below_alloc | apply pw_below_drewN | apply below_drew1) | exact HB.out))); (case aF => exact (fun _ _ => trivial)); (case aO => exact (by (with_reducible repeat (first | apply Kd.S_alloc | apply Kd.S_drewN | apply Kd.S_drew)); exact Kd.S_mono ac.out (fun k_ hk => ⟨trivial, fun e_ => hk.2 e_⟩))); (case aS => exact (below_size (by repeat (first | (with_reducible first | exact HB.out | apply below_alloc | apply pw_below_drewN | apply below_drew1) | exact HB.out)))); (case aL => have := LMc6.out; omega); intro v206 w8 ho hb hg hat; rw [← Ny205.out] at ho; have ag := Aside0.mk (hb); have af := Aside0.mk (ho); clear HB; clear ac; clear HO204; have HB := ag; have HO207 := af; clear ag af; clear ho hb hg hat))
   go_roundg k1
   case measure => have := al.out; omega
   case rel => exact ⟨(ae), (wrap64 (aa + 1)), (by first | rfl | (simp; done) | (simp [*]; done)), H', ⟨by have := al.out; omega⟩, ⟨by (with_reducible repeat (first | apply Kd.S_alloc | apply Kd.S_drewN | apply Kd.S_drew)); exact HO207.out⟩, ⟨by repeat (first | (with_reducible first | exact HB.out | apply below_alloc | apply pw_below_drewN | apply below_drew1) | exact HB.out)⟩⟩
  rw [if_neg c3] at H
  have ah : decide (aa < 20) = false := decide_eq_false c3
  clear c3
  obtain rfl := Option.some.inj H
  go_wp2
  go_ret
  exact ⟨_, by first | rfl | (simp [errW_none, errW_some] <;> rfl) | (simp [*, errW_none, errW_some] <;> rfl), by (with_reducible repeat (first | apply Kd.S_alloc | apply Kd.S_drewN | apply Kd.S_drew)); exact ac.out, by repeat (first | (with_reducible first | exact HB.out | apply below_alloc | apply pw_below_drewN | apply below_drew1) | exact HB.out)⟩
 rw [if_neg c2] at H
 have ai : decide (aa < (l0.length : Int)) = false := decide_eq_false c2
 clear c2
 obtain rfl := Option.some.inj H
 go_wp2
 go_ret
 exact ⟨_, by first | rfl | (simp [errW_none, errW_some] <;> rfl) | (simp [*, errW_none, errW_some] <;> rfl), by (with_reducible repeat (first | apply Kd.S_alloc | apply Kd.S_drewN | apply Kd.S_drew)); exact ac.out, by repeat (first | (with_reducible first | exact HB.out | apply below_alloc | apply pw_below_drewN | apply below_drew1) | exact HB.out)⟩
def cmp_Less_int.f (a0 : Int) (a1 : Int) : Option (Bool) := (cmp_isNaN_int.f a0).bind fun t208 => (if t208 = true then ((cmp_isNaN_int.f a1).bind fun t209 => (if t209 = true then (some (decide (a0 < a1))) else (some true))) else (some (decide (a0 < a1))))
set_option maxHeartbeats 8000000 in
set_option maxRecDepth 100000 in
theorem cmp_Less_int.calls (a0 : Int) (a1 : Int) (r : Bool) (w : World) (h : cmp_Less_int.f a0 a1 = some r) :
    Calls Try.prog 108 #[.int .i64 a0, .int .i64 a1] w fun e w' => e = .returned (.bool r) ∧ Drawn0 w w' := by
 have H : ((cmp_isNaN_int.f a0).bind fun t208 => (if t208 = true then ((cmp_isNaN_int.f a1).bind fun t209 => (if t209 = true then (some (decide (a0 < a1))) else (some true))) else (some (decide (a0 < a1))))) = some r := h
 clear h
 replace H := Option.bind_eq_some_iff.mp H
 obtain ⟨t208, A30, H⟩ := H
 replace H : (if t208 = true then ((cmp_isNaN_int.f a1).bind fun t209 => (if t209 = true then (some (decide (a0 < a1))) else (some true))) else (some (decide (a0 < a1)))) = some r := H
 have A3 := Aside0.mk A30
 clear A30
 by_cases c4 : t208 = true
 ·
  subst c4
  have H1 : ((cmp_isNaN_int.f a1).bind fun t209 => (if t209 = true then (some (decide (a0 < a1))) else (some true))) = some r := by rw [if_pos rfl] at H; exact H
  clear H
  have H := H1
  clear H1
  replace H := Option.bind_eq_some_iff.mp H
  obtain ⟨t209, A50, H⟩ := H
  replace H : (if t209 = true then (some (decide (a0 < a1))) else (some true)) = some r := H
  have A5 := Aside0.mk A50
  clear A50
  by_cases c6 : t209 = true
  ·
   subst c6
   have H1 : (some (decide (a0 < a1))) = some r := by rw [if_pos rfl] at H; exact H
   clear H
   have H := H1
   clear H1
   obtain rfl := Option.some.inj H
   go_enter Try.func108, Try.ntmps108
   go_wp2_with (first | ((with_reducible refine gate_callee (f := 125) rfl ?_); refine goesL_ (some 6) rfl rfl Try.func125 (by kernel_rfl) rfl #[.int .i64 a0] rfl (by (try simp only [List.map_toArray, List.map_cons, List.map_nil]); first | done | rfl | (simp only [List.length_drop, List.length_take]; rfl)) ?_; (with_reducible refine (cmp_isNaN_int.calls a0 true _ A3.out).mono ?_); rintro e w' ⟨rfl, ⟨nd, rfl⟩⟩; refine ⟨_, rfl, ?_⟩) | (go_at_call 125; (with_reducible refine (cmp_isNaN_int.calls a1 true _ A5.out).mono ?_); rintro e w' ⟨rfl, ⟨nd, rfl⟩⟩))
   go_ret
   exact ⟨by first | rfl | (simp; done) | (simp [*]; done), by repeat (first | exact Drawn0.refl _ | apply Drawn0.step)⟩
  replace c6 := Bool.eq_false_iff.mpr c6
  subst c6
  have H1 : (some true) = some r := by rw [if_neg (show ¬ (false = true) by decide)] at H; exact H
  clear H
  have H := H1
  clear H1
  obtain rfl := Option.some.inj H
  go_enter Try.func108, Try.ntmps108
  go_wp2_with (first | ((with_reducible refine gate_callee (f := 125) rfl ?_); refine goesL_ (some 6) rfl rfl Try.func125 (by kernel_rfl) rfl #[.int .i64 a0] rfl (by (try simp only [List.map_toArray, List.map_cons, List.map_nil]); first | done | rfl | (simp only [List.length_drop, List.length_take]; rfl)) ?_; (with_reducible refine (cmp_isNaN_int.calls a0 true _ A3.out).mono ?_); rintro e w' ⟨rfl, ⟨nd, rfl⟩⟩; refine ⟨_, rfl, ?_⟩) | (go_at_call 125; (with_reducible refine (cmp_isNaN_int.calls a1 false _ A5.out).mono ?_); rintro e w' ⟨rfl, ⟨nd, rfl⟩⟩))
  go_ret
  exact ⟨by first | rfl | (simp; done) | (simp [*]; done), by repeat (first | exact Drawn0.refl _ | apply Drawn0.step)⟩
 replace c4 := Bool.eq_false_iff.mpr c4
 subst c4
 have H1 : (some (decide (a0 < a1))) = some r := by rw [if_neg (show ¬ (false = true) by decide)] at H; exact H
 clear H
 have H := H1
 clear H1
 obtain rfl := Option.some.inj H
 go_enter Try.func108, Try.ntmps108
 go_wp2_with (first | ((with_reducible refine gate_callee (f := 125) rfl ?_); refine goesL_ (some 6) rfl rfl Try.func125 (by kernel_rfl) rfl #[.int .i64 a0] rfl (by (try simp only [List.map_toArray, List.map_cons, List.map_nil]); first | done | rfl | (simp only [List.length_drop, List.length_take]; rfl)) ?_; (with_reducible refine (cmp_isNaN_int.calls a0 false _ A3.out).mono ?_); rintro e w' ⟨rfl, ⟨nd, rfl⟩⟩; refine ⟨_, rfl, ?_⟩))
 go_ret
 exact ⟨by first | rfl | (simp; done) | (simp [*]; done), by repeat (first | exact Drawn0.refl _ | apply Drawn0.step)⟩
def slices_isNaN_int.f (a0 : Int) : Option (Bool) := some (a0 != a0)
set_option maxHeartbeats 8000000 in
set_option maxRecDepth 100000 in
theorem slices_isNaN_int.calls (a0 : Int) (r : Bool) (w : World) (h : slices_isNaN_int.f a0 = some r) :
    Calls Try.prog 109 #[.int .i64 a0] w fun e w' => e = .returned (.bool r) ∧ Drawn0 w w' := by
 have H : (some (a0 != a0)) = some r := h
 clear h
 obtain rfl := Option.some.inj H
 go_enter Try.func109, Try.ntmps109
 go_wp2
 go_ret
 exact ⟨by first | rfl | (simp; done) | (simp [*]; done), by repeat (first | exact Drawn0.refl _ | apply Drawn0.step)⟩
def slices_BinarySearch_int_int.l0 : Nat → List Int → Int → Int → Int → Int → Option (Int × Bool)
  | 0, _, _, _, _, _ => none
  | k + 1, x0, x1, x6, x7, x8 => if x7 < x8 then (if 0 ≤ (wrap64 ((IntKind.u64.wrap (wrap64 (x7 + x8))) / 2)) then (if (wrap64 ((IntKind.u64.wrap (wrap64 (x7 + x8))) / 2)) < (x0.length : Int) then ((cmp_Less_int.f (rd x0 (wrap64 ((IntKind.u64.wrap (wrap64 (x7 + x8))) / 2))) x1).bind fun t211 => (if t211 = true then (slices_BinarySearch_int_int.l0 k x0 x1 x6 (wrap64 ((wrap64 ((IntKind.u64.wrap (wrap64 (x7 + x8))) / 2)) + 1)) x8) else (slices_BinarySearch_int_int.l0 k x0 x1 x6 x7 (wrap64 ((IntKind.u64.wrap (wrap64 (x7 + x8))) / 2))))) else (none)) else (none)) else (if x7 < x6 then (if 0 ≤ x7 then (if x7 < (x0.length : Int) then (if (rd x0 x7) = x1 then (some (x7, true)) else ((slices_isNaN_int.f (rd x0 x7)).bind fun t214 => (if t214 = true then ((slices_isNaN_int.f x1).bind fun t215 => (some (x7, t215))) else (some (x7, false))))) else (none)) else (none)) else (some (x7, false)))
def slices_BinarySearch_int_int.f (k : Nat) (l0 : List Int) (a1 : Int) : Option (Int × Bool) := slices_BinarySearch_int_int.l0 k l0 a1 (l0.length : Int) 0 (l0.length : Int)
set_option maxHeartbeats 8000000 in
set_option maxRecDepth 100000 in
theorem slices_BinarySearch_int_int.calls (k : Nat) (A0 : Option Addr) (c0 : Nat) (l0 : List Int) (a1 : Int) (r1 : Int) (r2 : Bool) (w : World) (hr0 : Kd.C (Kd.int .i64) w A0 l0.length l0) (hc0 : l0.length ≤ c0) (h : slices_BinarySearch_int_int.f k l0 a1 = some (r1, r2)) :
    Calls Try.prog 76 #[.slice A0 l0.length c0, .int .i64 a1] w fun e w' => e = .returned (.tuple #[.int .i64 r1, .bool r2]) ∧ Drawn0 w w' := by
 have HR0 := Aside0.mk hr0
 have HC0 := Aside0.mk hc0
 clear hr0 hc0
 have H : (slices_BinarySearch_int_int.l0 k l0 a1 (l0.length : Int) 0 (l0.length : Int)) = some (r1, r2) := h
 clear h
 have H' := Aside0.mk H
 clear H
 go_enter Try.func76, Try.ntmps76
 go_wp2
 go_loopg [7, 8] k (fun kq v7 v8 w' => ∃ (aa : Int) (ab : Int), v7 = .int .i64 aa ∧ v8 = .int .i64 ab ∧ Aside0 (slices_BinarySearch_int_int.l0 kq l0 a1 (l0.length : Int) aa ab = some (r1, r2)) ∧ Aside0 (kq ≤ k) ∧ Drawn0 w w')
 case atStart => exact ⟨(0), ((l0.length : Int)), (by first | rfl | (simp; done) | (simp [*]; done)), (by first | rfl | (simp; done) | (simp [*]; done)), H', ⟨Nat.le_refl _⟩, by repeat (first | exact Drawn0.refl _ | apply Drawn0.step)⟩
 clear H'
 (try clear p2)
 obtain ⟨aa, ab, rfl, rfl, HA, ah, ⟨m1, rfl⟩⟩ := hrel
 cases gk with
 | zero => exact absurd HA.out (by simp [slices_BinarySearch_int_int.l0])
 | succ k1 => ?_
 have H := HA.out
 clear HA
 simp only [slices_BinarySearch_int_int.l0] at H
 by_cases c3 : aa < ab
 ·
  rw [if_pos c3] at H
  have aj : decide (aa < ab) = true := decide_eq_true c3
  clear c3
  obtain ⟨ji4, hji4⟩ : ∃ j_ : Int, (wrap64 ((IntKind.u64.wrap (wrap64 (aa + ab))) / 2)) = j_ := ⟨_, rfl⟩
  replace H : (if 0 ≤ (ji4) then (if (ji4) < (l0.length : Int) then ((cmp_Less_int.f (rd l0 (ji4)) a1).bind fun t211 => (if t211 = true then (slices_BinarySearch_int_int.l0 k1 l0 a1 (l0.length : Int) (wrap64 ((ji4) + 1)) ab) else (slices_BinarySearch_int_int.l0 k1 l0 a1 (l0.length : Int) aa ji4))) else (none)) else (none)) = some (r1, r2) := by first | (rw [hji4] at H; exact H) | (simp only [hji4] at H ⊢; exact H)
  have hji4w : (IntKind.i64.wrap ((IntKind.u64.wrap (wrap64 (aa + ab))) / 2)) = ji4 := (i64_w _).trans hji4
  have c5 : 0 ≤ (ji4) := Classical.byContradiction fun c_ => by rw [if_neg c_] at H; exact absurd H (by simp)
  rw [if_pos c5] at H
  have an : decide (0 ≤ (ji4)) = true := decide_eq_true c5
  clear c5
  have c6 : (ji4) < (l0.length : Int) := Classical.byContradiction fun c_ => by rw [if_neg c_] at H; exact absurd H (by simp)
  rw [if_pos c6] at H
  have am : decide ((ji4) < (l0.length : Int)) = true := decide_eq_true c6
  clear c6
  replace H := Option.bind_eq_some_iff.mp H
  obtain ⟨t211, A70, H⟩ := H
  replace H : (if t211 = true then (slices_BinarySearch_int_int.l0 k1 l0 a1 (l0.length : Int) (wrap64 ((ji4) + 1)) ab) else (slices_BinarySearch_int_int.l0 k1 l0 a1 (l0.length : Int) aa ji4)) = some (r1, r2) := H
  have A7 := Aside0.mk A70
  clear A70
  by_cases c8 : t211 = true
  ·
   subst c8
   have H1 : (slices_BinarySearch_int_int.l0 k1 l0 a1 (l0.length : Int) (wrap64 ((ji4) + 1)) ab) = some (r1, r2) := by rw [if_pos rfl] at H; exact H
   clear H
   have H := H1
   clear H1
   have H' := Aside0.mk H
   clear H
   have p210 : 0 ≤ ((ji4) : Int) := of_decide_eq_true (by first | (with_reducible assumption) | assumption)
   have q210 : (ji4) < (l0.length : Int) := of_decide_eq_true (by first | (with_reducible assumption) | assumption)
   obtain ⟨ad210, e210, ae⟩ := Kd.at_int HR0.out (ji4) p210 q210
   cases e210
   replace p210 := eq_true p210
   replace q210 := eq_true q210
   go_wp2_with (first | ((with_reducible refine gate_callee (f := 108) rfl ?_); refine goesL_ (some 27) rfl rfl Try.func108 (by kernel_rfl) rfl #[.int .i64 (rd l0 (ji4)), .int .i64 a1] rfl (by (try simp only [List.map_toArray, List.map_cons, List.map_nil]); first | done | (simp only [hji4]; rfl) | rfl | (simp only [List.length_drop, List.length_take]; rfl)) ?_; (with_reducible refine (cmp_Less_int.calls (rd l0 (ji4)) a1 true _ A7.out).mono ?_); rintro e w' ⟨rfl, ⟨nd, rfl⟩⟩; refine ⟨_, rfl, ?_⟩))
   go_roundg k1
   case measure => have := ah.out; omega
   case rel => exact ⟨(wrap64 ((ji4) + 1)), (ab), (by first | rfl | (simp; done) | (simp only [← hji4] <;> (first | rfl | simp)) | (simp [*]; done)), (by first | rfl | (simp; done) | (simp [*]; done)), H', ⟨by have := ah.out; omega⟩, by repeat (first | exact Drawn0.refl _ | apply Drawn0.step)⟩
  replace c8 := Bool.eq_false_iff.mpr c8
  subst c8
  have H1 : (slices_BinarySearch_int_int.l0 k1 l0 a1 (l0.length : Int) aa ji4) = some (r1, r2) := by rw [if_neg (show ¬ (false = true) by decide)] at H; exact H
  clear H
  have H := H1
  clear H1
  have H' := Aside0.mk H
  clear H
  have p210 : 0 ≤ ((ji4) : Int) := of_decide_eq_true (by first | (with_reducible assumption) | assumption)
  have q210 : (ji4) < (l0.length : Int) := of_decide_eq_true (by first | (with_reducible assumption) | assumption)
  obtain ⟨ad210, e210, ae⟩ := Kd.at_int HR0.out (ji4) p210 q210
  cases e210
  replace p210 := eq_true p210
  replace q210 := eq_true q210
  go_wp2_with (first | ((with_reducible refine gate_callee (f := 108) rfl ?_); refine goesL_ (some 27) rfl rfl Try.func108 (by kernel_rfl) rfl #[.int .i64 (rd l0 (ji4)), .int .i64 a1] rfl (by (try simp only [List.map_toArray, List.map_cons, List.map_nil]); first | done | (simp only [hji4]; rfl) | rfl | (simp only [List.length_drop, List.length_take]; rfl)) ?_; (with_reducible refine (cmp_Less_int.calls (rd l0 (ji4)) a1 false _ A7.out).mono ?_); rintro e w' ⟨rfl, ⟨nd, rfl⟩⟩; refine ⟨_, rfl, ?_⟩))
  go_roundg k1
  case measure => have := ah.out; omega
  case rel => exact ⟨(aa), (ji4), (by first | rfl | (simp; done) | (simp [*]; done)), (by first | rfl | (simp; done) | (simp only [← hji4] <;> (first | rfl | simp)) | (simp [*]; done)), H', ⟨by have := ah.out; omega⟩, by repeat (first | exact Drawn0.refl _ | apply Drawn0.step)⟩
 rw [if_neg c3] at H
 have aj : decide (aa < ab) = false := decide_eq_false c3
 clear c3
 by_cases c9 : aa < (l0.length : Int)
 ·
  rw [if_pos c9] at H
  have ai : decide (aa < (l0.length : Int)) = true := decide_eq_true c9
  clear c9
  have c10 : 0 ≤ aa := Classical.byContradiction fun c_ => by rw [if_neg c_] at H; exact absurd H (by simp)
  rw [if_pos c10] at H
  have al : decide (0 ≤ aa) = true := decide_eq_true c10
  clear c10
  have c11 : aa < (l0.length : Int) := Classical.byContradiction fun c_ => by rw [if_neg c_] at H; exact absurd H (by simp)
  rw [if_pos c11] at H
  have ak : decide (aa < (l0.length : Int)) = true := decide_eq_true c11
  clear c11
  by_cases c12 : (rd l0 aa) = a1
  ·
   rw [if_pos c12] at H
   have ag : ((rd l0 aa) == a1) = true := beq_iff_eq.mpr c12
   have af : ((rd l0 aa) != a1) = false := bne_eq_false_iff_eq.mpr c12
   clear c12
   simp only [Option.some.injEq, Prod.mk.injEq] at H
   obtain ⟨rfl, rfl⟩ := H
   have p212 : 0 ≤ (aa : Int) := of_decide_eq_true (by first | (with_reducible assumption) | assumption)
   have q212 : aa < (l0.length : Int) := of_decide_eq_true (by first | (with_reducible assumption) | assumption)
   obtain ⟨ad212, e212, ac⟩ := Kd.at_int HR0.out aa p212 q212
   cases e212
   replace p212 := eq_true p212
   replace q212 := eq_true q212
   go_wp2
   go_ret2
   exact ⟨by first | rfl | (simp; done) | (simp [*]; done), by repeat (first | exact Drawn0.refl _ | apply Drawn0.step)⟩
  rw [if_neg c12] at H
  have ag : ((rd l0 aa) == a1) = false := beq_eq_false_iff_ne.mpr c12
  have af : ((rd l0 aa) != a1) = true := bne_iff_ne.mpr c12
  replace H := Option.bind_eq_some_iff.mp H
  obtain ⟨t214, A130, H⟩ := H
  replace H : (if t214 = true then ((slices_isNaN_int.f a1).bind fun t215 => (some (aa, t215))) else (some (aa, false))) = some (r1, r2) := H
  have A13 := Aside0.mk A130
  clear A130
  by_cases c14 : t214 = true
  ·
   subst c14
   have H1 : ((slices_isNaN_int.f a1).bind fun t215 => (some (aa, t215))) = some (r1, r2) := by rw [if_pos rfl] at H; exact H
   clear H
   have H := H1
   clear H1
   replace H := Option.bind_eq_some_iff.mp H
   obtain ⟨t215, A150, H⟩ := H
   replace H : (some (aa, t215)) = some (r1, r2) := H
   have A15 := Aside0.mk A150
   clear A150
   simp only [Option.some.injEq, Prod.mk.injEq] at H
   obtain ⟨rfl, rfl⟩ := H
   have p212 : 0 ≤ (aa : Int) := of_decide_eq_true (by first | (with_reducible assumption) | assumption)
   have q212 : aa < (l0.length : Int) := of_decide_eq_true (by first | (with_reducible assumption) | assumption)
   obtain ⟨ad212, e212, ac⟩ := Kd.at_int HR0.out aa p212 q212
   cases e212
   replace p212 := eq_true p212
   replace q212 := eq_true q212
   have p213 : 0 ≤ (aa : Int) := of_decide_eq_true (by first | (with_reducible assumption) | assumption)
   have q213 : aa < (l0.length : Int) := of_decide_eq_true (by first | (with_reducible assumption) | assumption)
   obtain ⟨ad213, e213, ad⟩ := Kd.at_int HR0.out aa p213 q213
   obtain rfl : ad212 = ad213 := (by injection e213)
   replace p213 := eq_true p213
   replace q213 := eq_true q213
   go_wp2_with (first | (go_at_call 109; (with_reducible refine (slices_isNaN_int.calls (rd l0 aa) true _ A13.out).mono ?_); rintro e w' ⟨rfl, ⟨nd, rfl⟩⟩) | (go_at_call 109; (with_reducible refine (slices_isNaN_int.calls a1 t215 _ A15.out).mono ?_); rintro e w' ⟨rfl, ⟨nd, rfl⟩⟩))
   go_ret2
   exact ⟨by first | rfl | (simp; done) | (simp [*]; done), by repeat (first | exact Drawn0.refl _ | apply Drawn0.step)⟩
  replace c14 := Bool.eq_false_iff.mpr c14
  subst c14
  have H1 : (some (aa, false)) = some (r1, r2) := by rw [if_neg (show ¬ (false = true) by decide)] at H; exact H
  clear H
  have H := H1
  clear H1
  simp only [Option.some.injEq, Prod.mk.injEq] at H
  obtain ⟨rfl, rfl⟩ := H
  have p212 : 0 ≤ (aa : Int) := of_decide_eq_true (by first | (with_reducible assumption) | assumption)
  have q212 : aa < (l0.length : Int) := of_decide_eq_true (by first | (with_reducible assumption) | assumption)
  obtain ⟨ad212, e212, ac⟩ := Kd.at_int HR0.out aa p212 q212
  cases e212
  replace p212 := eq_true p212
  replace q212 := eq_true q212
  have p213 : 0 ≤ (aa : Int) := of_decide_eq_true (by first | (with_reducible assumption) | assumption)
  have q213 : aa < (l0.length : Int) := of_decide_eq_true (by first | (with_reducible assumption) | assumption)
  obtain ⟨ad213, e213, ad⟩ := Kd.at_int HR0.out aa p213 q213
  obtain rfl : ad212 = ad213 := (by injection e213)
  replace p213 := eq_true p213
  replace q213 := eq_true q213
  go_wp2_with (first | (go_at_call 109; (with_reducible refine (slices_isNaN_int.calls (rd l0 aa) false _ A13.out).mono ?_); rintro e w' ⟨rfl, ⟨nd, rfl⟩⟩))
  go_ret2
  exact ⟨by first | rfl | (simp; done) | (simp [*]; done), by repeat (first | exact Drawn0.refl _ | apply Drawn0.step)⟩
 rw [if_neg c9] at H
 have ai : decide (aa < (l0.length : Int)) = false := decide_eq_false c9
 clear c9
 simp only [Option.some.injEq, Prod.mk.injEq] at H
 obtain ⟨rfl, rfl⟩ := H
 go_wp2
 go_ret2
 exact ⟨by first | rfl | (simp; done) | (simp [*]; done), by repeat (first | exact Drawn0.refl _ | apply Drawn0.step)⟩
end Go.Proofs.Ytcdjeimjbbknjaa.PAll
namespace Go.Proofs.Ytcdjeimjbbknjaa.PAll
open Go.RowKit Go.Proofs.YtcdjeimjbbknjaaW.PrintWords Go.Proofs.YtcdjeimjbbknjaaW.PrintLast Go.Proofs.YtcdjeimjbbknjaaW.PrintMore
set_option linter.unusedVariables false
set_option linter.unusedSimpArgs false

def cmpL : List Int → List Int → Int
  | [], [] => 0
  | [], _ :: _ => -1
  | _ :: _, [] => 1
  | a :: u, b :: v => if a < b then -1 else if b < a then 1 else cmpL u v

theorem wrap_succ {i : Int} (h0 : 0 ≤ i) (h : i < 9223372036854775807) : wrap64 (i + 1) = i + 1 := by unfold wrap64; omega
theorem rd_drop {xs : List Int} {i : Nat} (h : i < xs.length) : xs.drop i = rd xs i :: xs.drop (i + 1) := by
 rw [List.drop_eq_getElem_cons h]
 simp [rd, List.getD_eq_getElem?_getD, List.getElem?_eq_getElem h]

theorem compare_int (a b : Int) : cmp_Compare_int.f a b = some (if a < b then -1 else if b < a then 1 else 0) := by
 unfold cmp_Compare_int.f cmp_isNaN_int.f
 simp
 split
 ·
  rfl
 ·
  split <;> rfl

theorem slices_Compare_tells (a b : List Int) (ha : a.length ≤ 9223372036854775807) (d : Nat) : ∀ (k i : Nat), a.length - i = d → i ≤ a.length → i ≤ b.length → d < k →
    slices_Compare_int_int.l0 k a b a (a.length : Int) (i : Int) = some (cmpL (a.drop i) (b.drop i)) := by
 induction d with
 | zero =>
  intro k i hd hi hib hk
  obtain ⟨k, rfl⟩ : ∃ m, k = m + 1 := ⟨k - 1, by omega⟩
  simp only [slices_Compare_int_int.l0]
  rw [if_neg (by omega), List.drop_of_length_le (by omega : a.length ≤ i)]
  by_cases hb : i < b.length
  ·
   rw [if_pos (by omega), rd_drop hb]; rfl
  ·
   rw [if_neg (by omega), List.drop_of_length_le (by omega : b.length ≤ i)]; rfl
 | succ d ih =>
  intro k i hd hi hib hk
  obtain ⟨k, rfl⟩ : ∃ m, k = m + 1 := ⟨k - 1, by omega⟩
  simp only [slices_Compare_int_int.l0]
  rw [if_pos (by omega), if_pos (by omega), if_pos (by omega), rd_drop (by omega : i < a.length)]
  by_cases hb : i < b.length
  ·
   rw [if_neg (by omega), if_pos (by omega), compare_int, rd_drop hb]
   simp only [Option.bind_some, cmpL]
   by_cases h1 : rd a i < rd b i
   ·
    rw [if_pos h1, if_neg (by omega), if_pos h1]
   ·
    rw [if_neg h1, if_neg h1]
    by_cases h2 : rd b i < rd a i
    ·
     rw [if_pos h2, if_neg (by omega), if_pos h2]
    ·
     rw [if_neg h2, if_pos rfl, if_neg h2, wrap_succ (by omega) (by omega)]
     have := ih k (i + 1) (by omega) (by omega) (by omega) (by omega)
     rwa [show (((i + 1 : Nat) : Int)) = (i : Int) + 1 from by omega] at this
  ·
   rw [if_pos (by omega), List.drop_of_length_le (by omega : b.length ≤ i)]; rfl
theorem slices_Compare_is (a b : List Int) (ha : a.length ≤ 9223372036854775807) (k : Nat) (hk : a.length < k) : slices_Compare_int_int.f k a b = some (cmpL a b) := by
 have := slices_Compare_tells a b ha a.length k 0 (by omega) (by omega) (by omega) hk
 simpa [slices_Compare_int_int.f] using this

theorem order_tells (a b : List Int) (ha : a.length ≤ 9223372036854775807) (d : Nat) : ∀ (k i : Nat), a.length - i = d → i ≤ a.length → i ≤ b.length → 2 * d + 1 < k →
    wordbookref06_Order.l0 k a b (i : Int) = some (cmpL (a.drop i) (b.drop i)) := by
 induction d with
 | zero =>
  intro k i hd hi hib hk
  obtain ⟨k, rfl⟩ : ∃ m, k = m + 1 + 1 := ⟨k - 2, by omega⟩
  simp only [wordbookref06_Order.l0]
  rw [if_neg (by omega)]
  simp only [wordbookref06_Order.j1]
  rw [if_neg (by simp), List.drop_of_length_le (by omega : a.length ≤ i)]
  by_cases hb : i < b.length
  ·
   rw [if_pos (by omega), rd_drop hb]; rfl
  ·
   rw [if_neg (by omega), if_neg (by omega), List.drop_of_length_le (by omega : b.length ≤ i)]; rfl
 | succ d ih =>
  intro k i hd hi hib hk
  obtain ⟨k, rfl⟩ : ∃ m, k = m + 1 + 1 := ⟨k - 2, by omega⟩
  simp only [wordbookref06_Order.l0]
  rw [if_pos (by omega)]
  simp only [wordbookref06_Order.j1]
  by_cases hb : i < b.length
  ·
   rw [if_pos (by simp; omega), if_pos (by omega), if_pos (by omega), if_pos (by omega), rd_drop (by omega : i < a.length), rd_drop hb]
   simp only [cmpL]
   by_cases h1 : rd a i < rd b i
   ·
    rw [if_pos h1, if_pos h1]
   ·
    rw [if_neg h1, if_neg h1]
    by_cases h2 : rd b i < rd a i
    ·
     rw [if_pos h2, if_pos h2]
    ·
     rw [if_neg (by omega), if_neg h2, wrap_succ (by omega) (by omega)]
     have := ih k (i + 1) (by omega) (by omega) (by omega) (by omega)
     rwa [show (((i + 1 : Nat) : Int)) = (i : Int) + 1 from by omega] at this
  ·
   rw [if_neg (by simp; omega), if_neg (by omega), if_pos (by omega), List.drop_of_length_le (by omega : b.length ≤ i), rd_drop (by omega : i < a.length)]; rfl
theorem order_is (a b : List Int) (ha : a.length ≤ 9223372036854775807) (k : Nat) (hk : 2 * a.length + 1 < k) : wordbookref06_Order.f k a b = some (cmpL a b) := by
 have := order_tells a b ha a.length k 0 (by omega) (by omega) (by omega) hk
 simpa [wordbookref06_Order.f] using this

theorem sameInts_tells (a b : List Int) (ha : a.length ≤ 9223372036854775807) (hl : a.length = b.length) (d : Nat) : ∀ (k i : Nat), a.length - i = d → i ≤ a.length → d < k →
    wordbookref01_SameInts.l0 k a b (i : Int) = some (decide (a.drop i = b.drop i)) := by
 induction d with
 | zero =>
  intro k i hd hi hk
  obtain ⟨k, rfl⟩ : ∃ m, k = m + 1 := ⟨k - 1, by omega⟩
  simp only [wordbookref01_SameInts.l0]
  rw [if_neg (by omega), List.drop_of_length_le (by omega : a.length ≤ i), List.drop_of_length_le (by omega : b.length ≤ i)]; rfl
 | succ d ih =>
  intro k i hd hi hk
  obtain ⟨k, rfl⟩ : ∃ m, k = m + 1 := ⟨k - 1, by omega⟩
  simp only [wordbookref01_SameInts.l0]
  rw [if_pos (by omega), if_pos (by omega), if_pos (by omega), rd_drop (by omega : i < a.length), rd_drop (by omega : i < b.length)]
  by_cases h1 : rd a i = rd b i
  ·
   rw [if_pos h1, wrap_succ (by omega) (by omega)]
   have := ih k (i + 1) (by omega) (by omega) (by omega)
   rw [show (((i + 1 : Nat) : Int)) = (i : Int) + 1 from by omega] at this
   rw [this]
   simp [h1]
  ·
   rw [if_neg h1]; simp [h1]
theorem sameInts_is (a b : List Int) (ha : a.length ≤ 9223372036854775807) (k : Nat) (hk : a.length < k) : wordbookref01_SameInts.f k a b = some (decide (a = b)) := by
 unfold wordbookref01_SameInts.f
 by_cases hl : a.length = b.length
 ·
  rw [if_pos (by omega)]
  have := sameInts_tells a b ha hl a.length k 0 (by omega) (by omega) (by omega)
  simpa using this
 ·
  rw [if_neg (by omega)]
  have : a ≠ b := fun h => hl (by rw [h])
  simp [this]
end Go.Proofs.Ytcdjeimjbbknjaa.PAll
namespace Go.Proofs.Ytcdjeimjbbknjaa.PAll
open Go.RowKit Go.Proofs.YtcdjeimjbbknjaaW.PrintWords Go.Proofs.YtcdjeimjbbknjaaW.PrintLast Go.Proofs.YtcdjeimjbbknjaaW.PrintMore
set_option linter.unusedVariables false
set_option linter.unusedSimpArgs false

def rdR (xs : List (List Int)) (i : Int) : List Int := xs.getD i.toNat []
theorem at_rows {w : World} {A : Option Addr} {n : Nat} {xs : List (List Int)} (h : Kd.C (Kd.slice 3 (Kd.int .i64)) w A n xs) (i : Int) (h0 : 0 ≤ i) (h1 : i < n) :
    ∃ ad A0 c0, A = some ad ∧ w.cell? (ad.add i.toNat) = some (.slice A0 (rdR xs i).length c0) ∧ (rdR xs i).length ≤ c0 ∧ (Kd.int .i64).C w A0 (rdR xs i).length (rdR xs i) := by
 obtain ⟨ad, c, e, _, hK, hc0⟩ := Kd.C_get h ([] : List Int) i h0 h1
 have hc : ∀ j u, c[j]? = some u → w.cell? (ad.add (i.toNat * 1 + j)) = some u := hc0
 obtain ⟨A0, c0, rfl, l0, g0⟩ := hK
 exact ⟨ad, A0, c0, e, by have hq := hc 0 _ rfl; rwa [Nat.mul_one, Nat.add_zero] at hq, l0, g0⟩
theorem rdR_nat (xs : List (List Int)) (i : Nat) : rdR xs (i : Int) = xs.getD i [] := by rw [rdR, Int.toNat_natCast]
theorem rd_nat (xs : List Int) (i : Nat) : rd xs (i : Int) = xs.getD i 0 := by rw [rd, Int.toNat_natCast]
theorem wrap_in {i : Int} (h0 : -9223372036854775808 ≤ i) (h : i ≤ 9223372036854775807) : IntKind.i64.wrap i = i := by rw [IntKind.wrap_i64]; omega
theorem cell_add {w : World} {ad : Addr} {k : Nat} {v : Value} (h : w.cell? (ad.add (k + 1)) = some v) : w.cell? { block := ad.block, off := ad.off + (k + 1) } = some v := by simpa [Addr.add] using h
end Go.Proofs.Ytcdjeimjbbknjaa.PAll
namespace Go.Proofs.Ytcdjeimjbbknjaa.Lev
set_option linter.unusedVariables false
set_option linter.unusedSimpArgs false

def lev : List Int → List Int → Nat
  | [], w => w.length
  | _ :: v, [] => v.length + 1
  | a :: v, b :: w => min (min (lev (a :: v) w + 1) (lev v (b :: w) + 1)) (lev v w + if a = b then 0 else 1)
termination_by v w => v.length + w.length

theorem lev_nil_left (w : List Int) : lev [] w = w.length := by rw [lev]
theorem lev_nil_right (v : List Int) : lev v [] = v.length := by
 cases v with
 | nil => rw [lev]
 | cons a v => rw [lev]; rfl
theorem lev_cons (a : Int) (v : List Int) (b : Int) (w : List Int) : lev (a :: v) (b :: w) = min (min (lev (a :: v) w + 1) (lev v (b :: w) + 1)) (lev v w + if a = b then 0 else 1) := by rw [lev]

inductive Al : List Int → List Int → Nat → Prop
  | nil : Al [] [] 0
  | del {v w : List Int} {n : Nat} (a : Int) : Al v w n → Al (a :: v) w (n + 1)
  | ins {v w : List Int} {n : Nat} (b : Int) : Al v w n → Al v (b :: w) (n + 1)
  | sub {v w : List Int} {n : Nat} (a b : Int) : Al v w n → Al (a :: v) (b :: w) (n + if a = b then 0 else 1)

theorem al_left : ∀ w : List Int, Al [] w w.length
  | [] => .nil
  | b :: w => .ins b (al_left w)
theorem al_right : ∀ v : List Int, Al v [] v.length
  | [] => .nil
  | a :: v => .del a (al_right v)
theorem al_lev (m : Nat) : ∀ v w : List Int, v.length + w.length ≤ m → Al v w (lev v w) := by
 induction m with
 | zero =>
  intro v w h
  obtain rfl : v = [] := List.eq_nil_of_length_eq_zero (by omega)
  obtain rfl : w = [] := List.eq_nil_of_length_eq_zero (by omega)
  rw [lev_nil_left]; exact .nil
 | succ m ih =>
  intro v w h
  cases v with
  | nil => rw [lev_nil_left]; exact al_left w
  | cons a v =>
   cases w with
   | nil => rw [lev_nil_right]; exact al_right _
   | cons b w =>
    simp only [List.length_cons] at h
    have h1 := ih (a :: v) w (by simp only [List.length_cons]; omega)
    have h2 := ih v (b :: w) (by simp only [List.length_cons]; omega)
    have h3 := ih v w (by omega)
    have c1 := Al.ins b h1
    have c2 := Al.del a h2
    have c3 := Al.sub a b h3
    rw [lev_cons]
    rcases Nat.le_total (min (lev (a :: v) w + 1) (lev v (b :: w) + 1)) (lev v w + if a = b then 0 else 1) with hl | hl
    ·
     rw [Nat.min_eq_left hl]
     rcases Nat.le_total (lev (a :: v) w + 1) (lev v (b :: w) + 1) with hk | hk
     ·
      rw [Nat.min_eq_left hk]; exact c1
     ·
      rw [Nat.min_eq_right hk]; exact c2
    ·
     rw [Nat.min_eq_right hl]; exact c3
theorem al (v w : List Int) : Al v w (lev v w) := al_lev _ v w (Nat.le_refl _)
theorem Al.symm {v w : List Int} {n : Nat} (h : Al v w n) : Al w v n := by
 induction h with
 | nil => exact .nil
 | del a _ ih => exact .ins a ih
 | ins b _ ih => exact .del b ih
 | sub a b _ ih =>
  have := Al.sub b a ih
  rwa [show (if b = a then 0 else 1) = (if a = b then 0 else 1) from by by_cases h : a = b <;> simp [h, eq_comm]] at this
theorem Al.append {v w v' w' : List Int} {n n' : Nat} (h : Al v w n) (h' : Al v' w' n') : Al (v ++ v') (w ++ w') (n + n') := by
 induction h with
 | nil => simpa using h'
 | del a _ ih => have := Al.del a ih; rw [List.cons_append]; rwa [show ∀ x, x + n' + 1 = x + 1 + n' from fun x => by omega] at this
 | ins b _ ih => have := Al.ins b ih; rw [List.cons_append]; rwa [show ∀ x, x + n' + 1 = x + 1 + n' from fun x => by omega] at this
 | sub a b _ ih => have := Al.sub a b ih; rw [List.cons_append, List.cons_append]; rwa [Nat.add_right_comm] at this
end Go.Proofs.Ytcdjeimjbbknjaa.Lev
namespace Go.Proofs.Ytcdjeimjbbknjaa.PAll
open Go.RowKit Go.Proofs.YtcdjeimjbbknjaaW.PrintWords Go.Proofs.YtcdjeimjbbknjaaW.PrintLast Go.Proofs.YtcdjeimjbbknjaaW.PrintMore Go.Proofs.Ytcdjeimjbbknjaa.Lev
set_option linter.unusedVariables false
set_option linter.unusedSimpArgs false

theorem cut_drop {k : IntKind} {t e : TypeId} {b : Nat} (ht : Try.prog.underlying t = some (.slice e)) (hinfo : (Try.prog.info? e).map (fun i => (i.zero, i.size, i.bytes)) = some (some (Value.int k 0), 1, b)) (A : Option Addr) (c : Nat) (xs : List Int) (m : Nat) (hm : m ≤ xs.length) (hc : xs.length ≤ c) :
    ∃ A' : Option Addr, (∀ W : World, (Instr.slice t (.slice A xs.length c) (some (.int .i64 (m : Int))) none none).run Try.prog W = .ok (.slice A' (xs.length - m) (c - m)) W) ∧ (∀ w : World, Kd.C (Kd.int k) w A xs.length xs → Kd.C (Kd.int k) w A' (xs.length - m) (xs.drop m)) ∧ xs.length - m ≤ c - m := by
 obtain ⟨i0, hi, _, hsz, _⟩ := info_parts hinfo
 obtain ⟨A', hcut, hA, hC⟩ := print_drop_of (P := Try.prog) (Value.int k) 0 t e .i64 ht hi hsz A c xs (m : Int) (by omega) (by omega) hc
 have hl : (xs.drop (m : Int).toNat).length = xs.length - m := by rw [List.length_drop]; omega
 rw [hl] at hcut hA
 exact ⟨A', by simpa using hcut, fun w h => by have h2 : (Kd.int k).C w A' (xs.length - m) (xs.drop (m : Int).toNat) := Kd.C_of_reads (hA w (Kd.reads_of_C h)); rwa [Int.toNat_natCast] at h2, by omega⟩

def around (n most : Int) : Int := Int.tmod (if n < 0 then -(n + 1) else n) most
theorem around_is (n most : Int) (h0 : 0 < most) (hn : -9223372036854775808 ≤ n ∧ n ≤ 9223372036854775807) : wordbookref01_Around.f n most = some (around n most) := by
 unfold wordbookref01_Around.f around
 by_cases h : n < 0
 ·
  rw [if_pos h, if_neg (by omega), if_pos h]
  have e1 : wrap64 (n + 1) = n + 1 := by unfold wrap64; omega
  have e2 : wrap64 (-(n + 1)) = -(n + 1) := by unfold wrap64; omega
  rw [e1, e2]
 ·
  rw [if_neg h, if_neg (by omega), if_neg h]
theorem around_range (n most : Int) (h0 : 0 < most) : 0 ≤ around n most ∧ around n most < most := by
 unfold around
 have h : 0 ≤ (if n < 0 then -(n + 1) else n) := by split <;> omega
 generalize (if n < 0 then -(n + 1) else n) = q at *
 rw [Int.tmod_eq_emod_of_nonneg h]
 exact ⟨Int.emod_nonneg _ (by omega), Int.emod_lt_of_pos _ h0⟩
theorem around_calls (n most : Int) (w : World) (h0 : 0 < most) (hn : -9223372036854775808 ≤ n ∧ n ≤ 9223372036854775807) :
    Calls Try.prog 18 #[.int .i64 n, .int .i64 most] w fun e w' => e = .returned (.int .i64 (around n most)) ∧ Drawn0 w w' :=
  wordbookref01_Around.calls n most _ w (around_is n most h0 hn)

def editOk (l0 : List Int) (a2 : Int) : Prop := l0.length ≤ 1000000000000 ∧ -9223372036854775808 ≤ a2 ∧ a2 ≤ 9223372036854775807
instance (l0 : List Int) (a2 : Int) : Decidable (editOk l0 a2) := by unfold editOk; infer_instance
end Go.Proofs.Ytcdjeimjbbknjaa.PAll
namespace Go.Proofs.Ytcdjeimjbbknjaa.PAll
open Go.RowKit Go.Proofs.YtcdjeimjbbknjaaW.PrintWords Go.Proofs.YtcdjeimjbbknjaaW.PrintLast Go.Proofs.YtcdjeimjbbknjaaW.PrintMore
set_option linter.unusedVariables false
set_option linter.unusedSimpArgs false

def resP (l : List (List Int)) (f t a : Int) : List (List Int) := ((l.take t.toNat).drop f.toNat).map (List.drop a.toNat)
def partOk (l : List (List Int)) (f t a : Int) : Prop := 0 ≤ f ∧ f ≤ t ∧ t ≤ (l.length : Int) ∧ 0 ≤ a ∧ ∀ v ∈ (l.take t.toNat).drop f.toNat, a ≤ (v.length : Int)
instance (l : List (List Int)) (f t a : Int) : Decidable (partOk l f t a) := by unfold partOk; infer_instance
def sameOk (l : List (List Int)) (f1 t1 a1 f2 t2 a2 : Int) : Prop := partOk l f1 t1 a1 ∧ partOk l f2 t2 a2 ∧ l.length ≤ 1000000000 ∧ ∀ v ∈ l, v.length ≤ 1000000000
instance (l : List (List Int)) (f1 t1 a1 f2 t2 a2 : Int) : Decidable (sameOk l f1 t1 a1 f2 t2 a2) := by unfold sameOk; infer_instance
def wordbookref15_same.f (l0 : List (List Int)) (a1_0 a1_1 a1_2 a2_0 a2_1 a2_2 : Int) : Option Bool := if sameOk l0 a1_0 a1_1 a1_2 a2_0 a2_1 a2_2 then some (decide (resP l0 a1_0 a1_1 a1_2 = resP l0 a2_0 a2_1 a2_2)) else none
theorem resP_length (l : List (List Int)) (f t a : Nat) (ht : t ≤ l.length) : (resP l (f : Int) (t : Int) (a : Int)).length = t - f := by
 simp only [resP, List.length_map, List.length_drop, List.length_take, Int.toNat_natCast]; omega
theorem resP_get (l : List (List Int)) (f t a i : Nat) (ht : t ≤ l.length) (hi : i < t - f) : (resP l (f : Int) (t : Int) (a : Int))[i]? = some ((rdR l ((f + i : Nat) : Int)).drop a) := by
 have h1 : f + i < l.length := by omega
 simp only [resP, Int.toNat_natCast, List.getElem?_map, List.getElem?_drop]
 rw [List.getElem?_take_of_lt (by omega), List.getElem?_eq_getElem h1, Option.map_some]
 rw [rdR_nat, List.getD_eq_getElem?_getD, List.getElem?_eq_getElem h1, Option.getD_some]
theorem partOk_at {l : List (List Int)} {f t a : Nat} (h : partOk l (f : Int) (t : Int) (a : Int)) {i : Nat} (hi : i < t - f) : a ≤ (rdR l ((f + i : Nat) : Int)).length := by
 obtain ⟨h0, h1, h2, h3, h4⟩ := h
 have hl : f + i < l.length := by omega
 have := h4 (l[f + i]) (by
  simp only [Int.toNat_natCast]
  refine List.mem_iff_getElem?.2 ⟨i, ?_⟩
  rw [List.getElem?_drop, List.getElem?_take_of_lt (by omega), List.getElem?_eq_getElem hl])
 rw [rdR_nat, List.getD_eq_getElem?_getD, List.getElem?_eq_getElem hl, Option.getD_some]
 omega
theorem rdR_in {l : List (List Int)} {j : Nat} (h : j < l.length) : rdR l ((j : Nat) : Int) ∈ l := by
 rw [rdR_nat, List.getD_eq_getElem?_getD, List.getElem?_eq_getElem h]; exact List.getElem_mem h
theorem take_more {α : Type} {l m : List α} {i : Nat} {x y : α} (h : l.take i = m.take i) (hx : l[i]? = some x) (hy : m[i]? = some y) : (x = y → l.take (i + 1) = m.take (i + 1)) ∧ (x ≠ y → l ≠ m) := by
  refine ⟨fun e => ?_, fun hn e => ?_⟩
  · rw [List.take_add_one, List.take_add_one, h, hx, hy, e]
  · rw [e] at hx; exact hn (Option.some.inj (hx.symm.trans hy))
theorem same_ints {B : World} (a b : List Int) (n m ca cb : Nat) (Aa Ab : Option Addr) (hn : n = a.length) (hm : m = b.length) (ha : Kd.C (Kd.int .i64) B Aa n a) (hb : Kd.C (Kd.int .i64) B Ab m b) (hca : n ≤ ca) (hcb : m ≤ cb) (hl : a.length ≤ 1000000000) (v : Bool) (hv : decide (a = b) = v) (nd k : Nat) :
    Calls Try.prog 27 #[.slice Aa n ca, .slice Ab m cb] (B.drewN (nd + k)) fun e w' => e = .returned (.bool v) ∧ ∃ q, w' = B.drewN (nd + q) := by
 subst hn hm hv
 refine (wordbookref01_SameInts.calls (a.length + 1) Aa ca a Ab cb b _ _ (Kd.C_drewN ha _) hca (Kd.C_drewN hb _) hcb (sameInts_is a b (by omega) _ (by omega))).mono ?_
 rintro e w' ⟨rfl, ⟨m, rfl⟩⟩
 exact ⟨rfl, k + m, by rw [← Nat.add_assoc]; simp⟩
set_option maxHeartbeats 4000000 in
set_option maxRecDepth 100000 in
theorem same_any (A0 : Option Addr) (c0 : Nat) (l : List (List Int)) (f1 t1 k1 f2 t2 k2 : Nat) (w : World) (hr0 : Kd.C (Kd.slice 3 (Kd.int .i64)) w A0 l.length l) (hc0 : l.length ≤ c0) (h1 : partOk l (f1 : Int) (t1 : Int) (k1 : Int)) (h2 : partOk l (f2 : Int) (t2 : Int) (k2 : Int)) (hl : l.length ≤ 1000000000) (hs : ∀ v ∈ l, v.length ≤ 1000000000) :
    Calls Try.prog 71 #[.slice A0 l.length c0, .agg #[.int .i64 (f1 : Int), .int .i64 (t1 : Int), .int .i64 (k1 : Int)], .agg #[.int .i64 (f2 : Int), .int .i64 (t2 : Int), .int .i64 (k2 : Int)]] w fun e w' => e = .returned (.bool (decide (resP l f1 t1 k1 = resP l f2 t2 k2))) ∧ Below w.heap.size w w' := by
 have g1 : f1 ≤ t1 ∧ t1 ≤ l.length := ⟨by have := h1.2.1; omega, by have := h1.2.2.1; omega⟩
 have g2 : f2 ≤ t2 ∧ t2 ≤ l.length := ⟨by have := h2.2.1; omega, by have := h2.2.2.1; omega⟩
 obtain ⟨n1, hn1⟩ : ∃ n1, n1 = t1 - f1 := ⟨_, rfl⟩
 obtain ⟨n2, hn2⟩ : ∃ n2, n2 = t2 - f2 := ⟨_, rfl⟩
 have p1 : IntKind.i64.wrap ((t1 : Int) - (f1 : Int)) = (n1 : Int) := (wrap_in (by omega) (by omega)).trans (by omega)
 have p2 : IntKind.i64.wrap ((t2 : Int) - (f2 : Int)) = (n2 : Int) := (wrap_in (by omega) (by omega)).trans (by omega)
 have HP1 := Aside0.mk h1
 have HP2 := Aside0.mk h2
 have HS := Aside0.mk hs
 have hB0 := Below.refl w.heap.size w
 obtain ⟨W1, hW1⟩ : ∃ W1, W1 = w.alloc (.cells #[.int .i64 (f1 : Int), .int .i64 (t1 : Int), .int .i64 (k1 : Int)] 106) := ⟨_, rfl⟩
 obtain ⟨W2, hW2⟩ : ∃ W2, W2 = W1.alloc (.cells #[.int .i64 (f2 : Int), .int .i64 (t2 : Int), .int .i64 (k2 : Int)] 106) := ⟨_, rfl⟩
 have s1 : W1.heap.size = w.heap.size + 1 := by rw [hW1]; simp
 have b1 : W1.heap[w.heap.size]? = some (.cells #[.int .i64 (f1 : Int), .int .i64 (t1 : Int), .int .i64 (k1 : Int)] 106 (0, 0)) := by rw [hW1]; exact blk_new _ _
 have b2 : W2.heap[W1.heap.size]? = some (.cells #[.int .i64 (f2 : Int), .int .i64 (t2 : Int), .int .i64 (k2 : Int)] 106 (0, 0)) := by rw [hW2]; exact blk_new _ _
 have hB1 : Below w.heap.size w W1 := by rw [hW1]; exact below_alloc hB0 _
 have hB2 : Below W1.heap.size W1 W2 := by rw [hW2]; exact below_alloc (Below.refl _ _) _
 have b1' := (hB2.block w.heap.size (by omega)).trans b1
 have HB := Aside0.mk (hB1.trans (hB2.mono hB1.size))
 have HR := Aside0.mk (Kd.C_below hr0 (HB.out))
 rw [s1] at b2
 have x0 : W2.cell? ⟨w.heap.size, 0, none⟩ = some (.int .i64 (f1 : Int)) := (blk_cell b1' 0).trans rfl
 have x1 : W2.cell? ⟨w.heap.size, 1, none⟩ = some (.int .i64 (t1 : Int)) := (blk_cell b1' 1).trans rfl
 have x2 : W2.cell? ⟨w.heap.size, 2, none⟩ = some (.int .i64 (k1 : Int)) := (blk_cell b1' 2).trans rfl
 have y0 : W2.cell? ⟨w.heap.size + 1, 0, none⟩ = some (.int .i64 (f2 : Int)) := (blk_cell b2 0).trans rfl
 have y1 : W2.cell? ⟨w.heap.size + 1, 1, none⟩ = some (.int .i64 (t2 : Int)) := (blk_cell b2 1).trans rfl
 have y2 : W2.cell? ⟨w.heap.size + 1, 2, none⟩ = some (.int .i64 (k2 : Int)) := (blk_cell b2 2).trans rfl
 have HW1 := Aside0.mk hW1
 have HW2 := Aside0.mk hW2
 clear h1 h2 hs hr0 hB0 b1 b2 hB1 hB2 b1' hW1 hW2 s1
 go_enter Try.func71, Try.ntmps71
 go_upto_region 1 with fail
 rw [← HW1.out, ← HW2.out]
 clear HW1 HW2
 by_cases hn : n1 = n2
 ·
  have hd : ((n1 : Int) != (n2 : Int)) = false := by rw [hn]; simp
  have HE1 := Aside0.mk hn1
  have HE2 := Aside0.mk hn2
  have HN := Aside0.mk hn
  clear hn hn1 hn2
  go_wp2
  go_loopw [7] (fun s7 wr => ∃ i nd : Nat, s7 = .int .i64 (i : Int) ∧ Aside0 (i ≤ n1 ∧ (resP l f1 t1 k1).take i = (resP l f2 t2 k2).take i) ∧ wr = W2.drewN nd) (fun s7 _ => n1 - (intOf s7).toNat)
  case atStart => exact ⟨0, 0, rfl, ⟨Nat.zero_le _, rfl⟩, rfl⟩
  case round =>
   obtain ⟨i, nd, rfl, hi, rfl⟩ := hrel
   have hj := hi.out.1
   have HN' := HN.out
   have HE1' := HE1.out
   have HE2' := HE2.out
   by_cases hin : i < n1
   ·
    obtain ⟨ad1, A1, c1, hA1, hx1, hl1, hR1⟩ := at_rows HR.out ((f1 + i : Nat) : Int) (by omega) (by omega)
    obtain ⟨ad2, A2, c2, hA2, hx2, hl2, hR2⟩ := at_rows HR.out ((f2 + i : Nat) : Int) (by omega) (by omega)
    have hq1 := partOk_at HP1.out (show i < t1 - f1 by omega)
    have hq2 := partOk_at HP2.out (show i < t2 - f2 by omega)
    have hs1 := HS.out _ (rdR_in (show f1 + i < l.length by omega))
    have hm := take_more hi.out.2 (resP_get l f1 t1 k1 i g1.2 (by omega)) (resP_get l f2 t2 k2 i g2.2 (by omega))
    generalize rdR l ((f1 + i : Nat) : Int) = u1 at *
    generalize rdR l ((f2 + i : Nat) : Int) = u2 at *
    subst hA1
    obtain rfl : ad1 = ad2 := by injection hA2
    obtain ⟨B1, cut1, D1, e1⟩ := cut_drop Try.underlying22 info3 A1 c1 u1 k1 hq1 hl1
    obtain ⟨B2, cut2, D2, e2⟩ := cut_drop Try.underlying22 info3 A2 c2 u2 k2 hq2 hl2
    rw [Int.toNat_natCast] at hx1 hx2
    have hC := fun v hv k => same_ints (u1.drop k1) (u2.drop k2) (u1.length - k1) (u2.length - k2) (c1 - k1) (c2 - k2) B1 B2 (by rw [List.length_drop]) (by rw [List.length_drop]) (D1 W2 hR1) (D2 W2 hR2) e1 e2 (by rw [List.length_drop]; omega) v hv nd k
    have q1 : IntKind.i64.wrap ((f1 : Int) + (i : Int)) = ((f1 + i : Nat) : Int) := (wrap_in (by omega) (by omega)).trans (by omega)
    have q2 : IntKind.i64.wrap ((f2 : Int) + (i : Int)) = ((f2 + i : Nat) : Int) := (wrap_in (by omega) (by omega)).trans (by omega)
    have q3 : IntKind.i64.wrap ((i : Int) + 1) = (i : Int) + 1 := wrap_in (by omega) (by omega)
    have hf1 : ((f1 + i : Nat) : Int) < (l.length : Int) := by omega
    have hf2 : ((f2 + i : Nat) : Int) < (l.length : Int) := by omega
    have hz1 : 0 ≤ ((f1 + i : Nat) : Int) := by omega
    have hz2 : 0 ≤ ((f2 + i : Nat) : Int) := by omega
    have hlt : (i : Int) < (n1 : Int) := by omega
    have HI : Aside0 (i < n1) := ⟨hin⟩
    generalize f1 + i = fa at *
    generalize f2 + i = fb at *
    by_cases he : u1.drop k1 = u2.drop k2
    ·
     have HC := Aside0.mk (hC true (by simpa using he))
     have HM := Aside0.mk (hm.1 he)
     clear hC hm he HN' HE1' HE2' hin hi D1 D2 hR1 hR2 hs1 hq1 hq2
     go_wp2
     go_quiet (first | (go_at_call 27; go_loud (with_reducible exact HC.out _)))
     go_wp2
     go_roundw
     case rel => first | exact ⟨i + 1, nd + nq, by go_num, ⟨HI.out, HM.out⟩, by simp⟩ | ((repeat apply Exists.intro); refine ⟨?_, rfl⟩; exact ⟨i + 1, nd + nq, by go_num, ⟨HI.out, HM.out⟩, by simp⟩)
     case measure => have := HI.out; simp [intOf]; omega
    ·
     have HC := Aside0.mk (hC false (by simpa using he))
     have HM := Aside0.mk (hm.2 he)
     clear hC hm he HN' HE1' HE2' hin hi D1 D2 hR1 hR2 hs1 hq1 hq2
     go_wp2
     go_quiet (first | (go_at_call 27; go_loud (with_reducible exact HC.out _)))
     go_wp2
     go_ret
     exact ⟨by rw [decide_eq_false HM.out]; rfl, pw_below_drewN (pw_below_drewN HB.out _) _⟩
   ·
    have hlt : ¬ (i : Int) < (n1 : Int) := by omega
    have HQ : Aside0 (resP l f1 t1 k1 = resP l f2 t2 k2) := ⟨by
     have h := hi.out.2
     rwa [List.take_of_length_le (by rw [resP_length _ _ _ _ g1.2]; omega), List.take_of_length_le (by rw [resP_length _ _ _ _ g2.2]; omega)] at h⟩
    clear HN' HE1' HE2' hi
    go_wp2
    go_ret
    exact ⟨by rw [decide_eq_true HQ.out]; rfl, pw_below_drewN HB.out _⟩
 ·
  have hd : ((n1 : Int) != (n2 : Int)) = true := by exact bne_iff_ne.2 (by omega)
  have HQ : Aside0 (¬ resP l f1 t1 k1 = resP l f2 t2 k2) := ⟨fun e => by have := congrArg List.length e; rw [resP_length _ _ _ _ g1.2, resP_length _ _ _ _ g2.2] at this; omega⟩
  clear hn hn1 hn2
  go_wp2
  go_ret
  exact ⟨by rw [decide_eq_false HQ.out]; rfl, HB.out⟩
theorem wordbookref15_same.calls (A0 : Option Addr) (c0 : Nat) (l0 : List (List Int)) (a1_0 : Int) (a1_1 : Int) (a1_2 : Int) (a2_0 : Int) (a2_1 : Int) (a2_2 : Int) (r : Bool) (w : World) (hr0 : Kd.C (Kd.slice 3 (Kd.int .i64)) w A0 l0.length l0) (hc0 : l0.length ≤ c0) (h : wordbookref15_same.f l0 a1_0 a1_1 a1_2 a2_0 a2_1 a2_2 = some r) :
    Calls Try.prog 71 #[.slice A0 l0.length c0, .agg #[.int .i64 a1_0, .int .i64 a1_1, .int .i64 a1_2], .agg #[.int .i64 a2_0, .int .i64 a2_1, .int .i64 a2_2]] w fun e w' => e = .returned (.bool r) ∧ Below w.heap.size w w' := by
 unfold wordbookref15_same.f at h
 by_cases hok : sameOk l0 a1_0 a1_1 a1_2 a2_0 a2_1 a2_2
 case neg => rw [if_neg hok] at h; exact absurd h (by simp)
 rw [if_pos hok] at h
 obtain rfl := Option.some.inj h
 obtain ⟨h1, h2, h3, h4⟩ := hok
 obtain ⟨f1, rfl⟩ := Int.eq_ofNat_of_zero_le h1.1
 obtain ⟨f2, rfl⟩ := Int.eq_ofNat_of_zero_le h2.1
 obtain ⟨t1, rfl⟩ := Int.eq_ofNat_of_zero_le (Int.le_trans h1.1 h1.2.1)
 obtain ⟨t2, rfl⟩ := Int.eq_ofNat_of_zero_le (Int.le_trans h2.1 h2.2.1)
 obtain ⟨k1, rfl⟩ := Int.eq_ofNat_of_zero_le h1.2.2.2.1
 obtain ⟨k2, rfl⟩ := Int.eq_ofNat_of_zero_le h2.2.2.2.1
 exact same_any A0 c0 l0 f1 t1 k1 f2 t2 k2 w hr0 hc0 h1 h2 h3 h4
end Go.Proofs.Ytcdjeimjbbknjaa.PAll
namespace Go.Proofs.Ytcdjeimjbbknjaa.PAll
open Go.RowKit Go.Proofs.YtcdjeimjbbknjaaW.PrintWords Go.Proofs.YtcdjeimjbbknjaaW.PrintLast Go.Proofs.YtcdjeimjbbknjaaW.PrintMore
set_option linter.unusedVariables false
set_option linter.unusedSimpArgs false

def GraphAt (w : World) (g : Nat) (ns : List S102) : Prop :=
  ∃ A c, w.heap[g]? = some (.cells #[.slice A ns.length c] 110 (0, 0)) ∧ ns.length ≤ c ∧ Kd.C k102 w A ns.length ns
theorem GraphAt.below {w w1 : World} {g : Nat} {ns : List S102} (h : GraphAt w g ns) (hb : Below w.heap.size w w1) : GraphAt w1 g ns := by
 obtain ⟨A, c, hg, hc, hr⟩ := h
 exact ⟨A, c, (hb.block g (blk_lt hg)).trans hg, hc, Kd.C_below hr hb⟩
theorem GraphAt.drawn {w w1 : World} {g : Nat} {ns : List S102} (h : GraphAt w g ns) (hb : Drawn0 w w1) : GraphAt w1 g ns := h.below hb.below
theorem GraphAt.cell {w : World} {g : Nat} {ns : List S102} (h : GraphAt w g ns) : ∃ A c, w.cell? ⟨g, 0, none⟩ = some (.slice A ns.length c) ∧ ns.length ≤ c ∧ Kd.C k102 w A ns.length ns := by
 obtain ⟨A, c, hg, hc, hr⟩ := h
 exact ⟨A, c, by rw [blk_cell hg]; rfl, hc, hr⟩

theorem GraphAt.node {w : World} {g : Nat} {ns : List S102} (h : GraphAt w g ns) (i : Int) (h0 : 0 ≤ i) (h1 : i < (ns.length : Int)) :
    ∃ ad A1 c1 A2 c2 c, w.cell? ⟨g, 0, none⟩ = some (.slice (some ad) ns.length c) ∧ ns.length ≤ c ∧ w.cell? (ad.add (i.toNat * 4)) = some (.bool (rd_T102 ns i).f0) ∧
      w.cell? ⟨(ad.add (i.toNat * 4)).block, (ad.add (i.toNat * 4)).off + 1, none⟩ = some (.slice A1 (rd_T102 ns i).f1.length c1) ∧
      w.cell? ⟨(ad.add (i.toNat * 4)).block, (ad.add (i.toNat * 4)).off + 2, none⟩ = some (.slice A2 (rd_T102 ns i).f2.length c2) ∧
      w.cell? ⟨(ad.add (i.toNat * 4)).block, (ad.add (i.toNat * 4)).off + 3, none⟩ = some (.int .i64 (rd_T102 ns i).f3) ∧
      (rd_T102 ns i).f1.length ≤ c1 ∧ (Kd.int .i64).C w A1 (rd_T102 ns i).f1.length (rd_T102 ns i).f1 ∧ (rd_T102 ns i).f2.length ≤ c2 ∧ (Kd.int .i64).C w A2 (rd_T102 ns i).f2.length (rd_T102 ns i).f2 := by
 obtain ⟨A, c, hc, hl, hr⟩ := h.cell
 obtain ⟨ad, A1, c1, A2, c2, rfl, x0, x1, x2, x3, y1, y2, y3, y4⟩ := at_T102 hr i h0 h1
 exact ⟨ad, A1, c1, A2, c2, c, hc, hl, x0, x1, x2, x3, y1, y2, y3, y4⟩

set_option maxHeartbeats 400000 in
theorem len_any (g : Nat) (ns : List S102) (w : World) (hg : GraphAt w g ns) (hn : 0 < ns.length) :
    Calls Try.prog 30 #[.pointer (some ⟨g, 0, none⟩)] w fun e w' => e = .returned (.int .i64 (rd_T102 ns 0).f3) ∧ w = w' := by
 obtain ⟨ad, A1, c1, A2, c2, c, h0, hc, x0, x1, x2, x3, _, _, _, _⟩ := hg.node 0 (by omega) (by omega)
 simp only [show (0 : Int).toNat = 0 from rfl, Nat.zero_mul, Addr.add, if_true, ↓reduceIte] at x3
 clear hg x0 x1 x2
 have hn' : (0 : Int) < (ns.length : Int) := by omega
 go_enter Try.func30, Try.ntmps30
 go_wp2
 go_ret
 exact ⟨rfl, rfl⟩
theorem states_any (g : Nat) (ns : List S102) (w : World) (hg : GraphAt w g ns) :
    Calls Try.prog 42 #[.pointer (some ⟨g, 0, none⟩)] w fun e w' => e = .returned (.int .i64 (ns.length : Int)) ∧ w = w' := by
 obtain ⟨A, c, h0, hc, hr⟩ := hg.cell
 clear hg hr
 go_enter Try.func42, Try.ntmps42
 go_wp2
 go_ret
 exact ⟨rfl, rfl⟩
def hasB (n : Nat) (i : Int) : Bool := decide (0 ≤ i) && decide (i < (n : Int))
theorem has_any (g : Nat) (ns : List S102) (i : Int) (w : World) (hg : GraphAt w g ns) :
    Calls Try.prog 74 #[.pointer (some ⟨g, 0, none⟩), .int .i64 i] w fun e w' => e = .returned (.bool (hasB ns.length i)) ∧ w = w' := by
 by_cases h0 : 0 ≤ i
 ·
  go_enter Try.func74, Try.ntmps74
  go_wp2_with (go_at_call 42; refine (states_any g ns _ hg).mono ?_; rintro e w' ⟨rfl, rfl⟩)
  go_ret
  exact ⟨by simp [hasB, h0], rfl⟩
 ·
  go_enter Try.func74, Try.ntmps74
  go_wp2
  go_ret
  exact ⟨by simp [hasB]; omega, rfl⟩
def finalB (ns : List S102) (i : Int) : Bool := hasB ns.length i && (rd_T102 ns i).f0
theorem final_any (g : Nat) (ns : List S102) (i : Int) (w : World) (hg : GraphAt w g ns) :
    Calls Try.prog 31 #[.pointer (some ⟨g, 0, none⟩), .int .i64 i] w fun e w' => e = .returned (.bool (finalB ns i)) ∧ w = w' := by
 have hh := has_any g ns i w hg
 cases hb : hasB ns.length i with
 | true =>
  have hb' := hb
  simp only [hasB, Bool.and_eq_true, decide_eq_true_eq] at hb'
  obtain ⟨h0, h1⟩ := hb'
  obtain ⟨ad, A1, c1, A2, c2, c, hcell, hc, x0, _, _, _, _, _, _, _⟩ := hg.node i h0 h1
  clear hg
  rw [hb] at hh
  have hf : finalB ns i = (rd_T102 ns i).f0 := by simp [finalB, hb]
  have HF := Aside0.mk hf
  clear hf
  have HB := Aside0.mk hb
  clear hb
  have HH := Aside0.mk hh
  clear hh
  go_enter Try.func31, Try.ntmps31
  go_wp2_with (go_at_call 74; refine HH.out.mono ?_; rintro e w' ⟨rfl, rfl⟩)
  go_ret
  exact ⟨by rw [HF.out]; rfl, rfl⟩
 | false =>
  clear hg
  rw [hb] at hh
  have hf : finalB ns i = false := by simp [finalB, hb]
  have HF := Aside0.mk hf
  clear hf
  have HB := Aside0.mk hb
  clear hb
  have HH := Aside0.mk hh
  clear hh
  go_enter Try.func31, Try.ntmps31
  go_wp2_with (go_at_call 74; refine HH.out.mono ?_; rintro e w' ⟨rfl, rfl⟩)
  go_ret
  exact ⟨by rw [HF.out]; rfl, rfl⟩
end Go.Proofs.Ytcdjeimjbbknjaa.PAll
namespace Go.Proofs.Ytcdjeimjbbknjaa.PAll
open Go.RowKit Go.Proofs.YtcdjeimjbbknjaaW.PrintWords Go.Proofs.YtcdjeimjbbknjaaW.PrintLast Go.Proofs.YtcdjeimjbbknjaaW.PrintMore
set_option linter.unusedVariables false
set_option linter.unusedSimpArgs false

abbrev Nd := S102
def rdN (N : List Nd) (i : Int) : Nd := rd_T102 N i
def pairKey (s t : Int) : List Int := [s % 256, t % 256, (t / 256) % 256, (t / 65536) % 256]
def restKey : List Int → List Int → List Int
  | s :: ss, t :: ts => pairKey s t ++ restKey ss ts
  | _, _ => []
def keyN (x : Nd) : List Int := (if x.f0 then 1 else 0) :: restKey x.f1 x.f2
def keyOf (x : Nd) : ByteArray := strOfNums (keyN x)
theorem restKey_length : ∀ ss ts : List Int, ss.length = ts.length → (restKey ss ts).length = 4 * ss.length
  | [], _, _ => rfl
  | s :: ss, [], h => by simp at h
  | s :: ss, t :: ts, h => by simp only [restKey, List.length_append, pairKey, List.length_cons, List.length_nil]; rw [restKey_length ss ts (by simpa using h)]; omega
theorem key_tells (f0 : Bool) (f3 : Int) (ss ts : List Int) (hl : ss.length = ts.length) (hb : ss.length < 1000000000000) (d : Nat) : ∀ (k i : Nat) (pre : List Int), ss.length - i = d → i ≤ ss.length → d < k → pre.length + 4 * d < 140737488355328 →
    dawg_node_key.l0 k pre ss (ss.length : Int) (i : Int) f0 ss ts f3 = some (strOfNums (pre ++ restKey (ss.drop i) (ts.drop i))) := by
 induction d with
 | zero =>
  intro k i pre hd hi hk hp
  obtain ⟨k, rfl⟩ : ∃ m, k = m + 1 := ⟨k - 1, by omega⟩
  simp only [dawg_node_key.l0]
  rw [if_neg (by omega), List.drop_of_length_le (by omega : ss.length ≤ i)]
  simp [restKey]
 | succ d ih =>
  intro k i pre hd hi hk hp
  obtain ⟨k, rfl⟩ : ∃ m, k = m + 1 := ⟨k - 1, by omega⟩
  simp only [dawg_node_key.l0]
  rw [if_pos (by omega), if_pos (by omega), if_pos (by omega), if_pos (by omega)]
  simp only [Option.bind_some]
  rw [if_pos (by simp only [List.length_cons, List.length_nil]; omega), wrap_succ (by omega) (by omega)]
  have := ih k (i + 1) (pre ++ [rd ss i % 256, rd ts i % 256, (rd ts i / 256) % 256, (rd ts i / 65536) % 256]) (by omega) (by omega) (by omega) (by simp only [List.length_append, List.length_cons, List.length_nil]; omega)
  rw [show (((i + 1 : Nat) : Int)) = (i : Int) + 1 from by omega] at this
  rw [this, rd_drop (by omega : i < ss.length), rd_drop (by omega : i < ts.length)]
  simp only [restKey, pairKey, List.append_assoc]
theorem key_is (x : Nd) (hl : x.f1.length = x.f2.length) (hb : x.f1.length < 1000000000000) (k : Nat) (hk : x.f1.length + 1 < k) : dawg_node_key.f k x.f0 x.f1 x.f2 x.f3 = some (keyOf x) := by
 obtain ⟨k, rfl⟩ : ∃ m, k = m + 1 := ⟨k - 1, by omega⟩
 obtain ⟨f0, ss, ts, f3⟩ := x
 dsimp only at hl hb hk ⊢
 unfold dawg_node_key.f keyOf keyN
 simp only [Option.bind_some]
 cases f0 with
 | true =>
  simp only [if_true]
  rw [if_pos (by simp)]
  simp only [dawg_node_key.j0]
  have := key_tells true f3 ss ts hl hb ss.length k 0 [1] (by omega) (by omega) (by omega) (by simp; omega)
  simpa using this
 | false =>
  simp only [Bool.false_eq_true, if_false]
  simp only [dawg_node_key.j0]
  have := key_tells false f3 ss ts hl hb ss.length k 0 [0] (by omega) (by omega) (by omega) (by simp; omega)
  simpa using this

def knownF (N : List Nd) (s : ByteArray) : Option Int := (N.findIdx? (fun y => decide (keyOf y = s))).map fun i : Nat => (i : Int)
def putN (N : List Nd) (x : Nd) : Int × List Nd :=
  match knownF N (keyOf x) with
  | some k => (k, N)
  | none => ((N.length : Int), N ++ [x])
def grpLen (at_ : Nat) (w : List Int) (l : List (List Int)) : Nat := (l.takeWhile fun v => rd v at_ == rd w at_).length
def kids (rec_ : List (List Int) → List Nd → Int × List Nd) (at_ : Nat) : Nat → List (List Int) → Nd → List Nd → Nd × List Nd
  | 0, _, x, N => (x, N)
  | _ + 1, [], x, N => (x, N)
  | n + 1, w :: l, x, N =>
    kids rec_ at_ n (l.drop (grpLen at_ w l))
      ⟨x.f0, x.f1 ++ [rd w at_], x.f2 ++ [(rec_ (w :: l.take (grpLen at_ w l)) N).1], wrap64 (x.f3 + (rdN (rec_ (w :: l.take (grpLen at_ w l)) N).2 (rec_ (w :: l.take (grpLen at_ w l)) N).1).f3)⟩
      (rec_ (w :: l.take (grpLen at_ w l)) N).2
def finB (l : List (List Int)) (at_ : Nat) : Bool := match l with | [] => false | w :: _ => w.length == at_
def startNd (l : List (List Int)) (at_ : Nat) : Nd := ⟨finB l at_, [], [], if finB l at_ then 1 else 0⟩
def restL (l : List (List Int)) (at_ : Nat) : List (List Int) := if finB l at_ then l.tail else l
def bld : Nat → List (List Int) → Nat → List Nd → Int × List Nd
  | 0, _, _, N => (0, N)
  | d + 1, l, at_, N => putN (kids (fun l N => bld d l (at_ + 1) N) at_ (restL l at_).length (restL l at_) (startNd l at_) N).2 (kids (fun l N => bld d l (at_ + 1) N) at_ (restL l at_).length (restL l at_) (startNd l at_) N).1

theorem knownF_snoc (N : List Nd) (x : Nd) (h : knownF N (keyOf x) = none) (s : ByteArray) : knownF (N ++ [x]) s = if s = keyOf x then some (N.length : Int) else knownF N s := by
 unfold knownF at h ⊢
 rw [List.findIdx?_append]
 by_cases hs : s = keyOf x
 ·
  subst hs
  rw [if_pos rfl]
  have h2 : N.findIdx? (fun y => decide (keyOf y = keyOf x)) = none := by simpa using h
  rw [h2]
  simp
 ·
  rw [if_neg hs]
  have h3 : List.findIdx? (fun y => decide (keyOf y = s)) [x] = none := by
   simp; exact fun e => hs e.symm
  rw [h3]
  simp
theorem knownF_lt (N : List Nd) (s : ByteArray) (k : Int) (h : knownF N s = some k) : 0 ≤ k ∧ k < N.length := by
 unfold knownF at h
 obtain ⟨i, hi, rfl⟩ := Option.map_eq_some_iff.1 h
 have := List.findIdx?_eq_some_iff_getElem.1 hi
 obtain ⟨h1, _⟩ := this
 omega
theorem putN_lt (N : List Nd) (x : Nd) : 0 ≤ (putN N x).1 ∧ (putN N x).1 < (putN N x).2.length ∧ (putN N x).2.length ≤ N.length + 1 := by
 unfold putN
 split
 ·
  rename_i k hk
  have := knownF_lt N _ k hk
  exact ⟨this.1, this.2, by simp⟩
 ·
  simp; omega

def Pre (l : List (List Int)) (at_ : Nat) : Prop := (∀ w ∈ l, at_ ≤ w.length) ∧ l.Pairwise fun u v => u.take at_ = v.take at_ ∧ cmpL u v = -1
theorem cmpL_prefix (p a b : List Int) : cmpL (p ++ a) (p ++ b) = cmpL a b := by
 induction p with
 | nil => rfl
 | cons x p ih => simp only [List.cons_append, cmpL, Int.lt_irrefl, if_false]; exact ih
theorem pre_head {w : List Int} {l : List (List Int)} {at_ : Nat} (h : Pre (w :: l) at_) : ∀ v ∈ l, at_ < v.length := by
 intro v hv
 have h1 := h.1 v (List.mem_cons_of_mem _ hv)
 obtain ⟨h2, h3⟩ := (List.pairwise_cons.1 h.2).1 v hv
 rcases Nat.lt_or_ge at_ v.length with hlt | hge
 ·
  exact hlt
 ·
  exfalso
  have hv' : v = w.take at_ := by rw [h2, List.take_of_length_le hge]
  have hw : w = v ++ w.drop at_ := by rw [hv', List.take_append_drop]
  rw [hw] at h3
  have h4 := cmpL_prefix v (w.drop at_) []
  rw [List.append_nil] at h4
  rw [h4] at h3
  cases hd : w.drop at_ with
  | nil => rw [hd] at h3; simp [cmpL] at h3
  | cons a b => rw [hd] at h3; simp [cmpL] at h3
theorem pre_tail {w : List Int} {l : List (List Int)} {at_ : Nat} (h : Pre (w :: l) at_) : Pre l at_ :=
  ⟨fun v hv => h.1 v (List.mem_cons_of_mem _ hv), (List.pairwise_cons.1 h.2).2⟩
theorem pre_drop {l : List (List Int)} {at_ : Nat} (h : Pre l at_) (n : Nat) : Pre (l.drop n) at_ :=
  ⟨fun v hv => h.1 v (List.mem_of_mem_drop hv), h.2.drop⟩
theorem restL_pre {l : List (List Int)} {at_ : Nat} (h : Pre l at_) : Pre (restL l at_) at_ ∧ ∀ v ∈ restL l at_, at_ < v.length := by
 cases l with
 | nil => exact ⟨by simpa [restL, finB] using h, by simp [restL, finB]⟩
 | cons w l =>
  by_cases hf : w.length = at_
  ·
   have : restL (w :: l) at_ = l := by simp [restL, finB, hf]
   rw [this]
   exact ⟨pre_tail h, pre_head h⟩
  ·
   have : restL (w :: l) at_ = w :: l := by simp [restL, finB, hf]
   rw [this]
   refine ⟨h, fun v hv => ?_⟩
   rcases List.mem_cons.1 hv with rfl | hv
   ·
    have := h.1 v List.mem_cons_self; omega
   ·
    exact pre_head h v hv
theorem take_succ_rd {w : List Int} {n : Nat} (h : n < w.length) : w.take (n + 1) = w.take n ++ [rd w n] := by
 rw [List.take_succ_eq_append_getElem h, rd_nat, List.getD_eq_getElem?_getD, List.getElem?_eq_getElem h]; rfl
theorem take_tw {α : Type} (p : α → Bool) : ∀ l : List α, l.take (l.takeWhile p).length = l.takeWhile p
  | [] => rfl
  | a :: l => by
    by_cases ha : p a = true
    · rw [List.takeWhile_cons_of_pos ha, List.length_cons, List.take_succ_cons, take_tw p l]
    · rw [List.takeWhile_cons_of_neg ha]; rfl
theorem mem_tw {α : Type} (p : α → Bool) : ∀ (l : List α) (v : α), v ∈ l.takeWhile p → p v = true
  | [], v, h => by simp at h
  | a :: l, v, h => by
    by_cases ha : p a = true
    · rw [List.takeWhile_cons_of_pos ha] at h
      rcases List.mem_cons.1 h with rfl | h
      · exact ha
      · exact mem_tw p l v h
    · rw [List.takeWhile_cons_of_neg ha] at h
      simp at h
theorem grp_mem {at_ : Nat} {w : List Int} {l : List (List Int)} {v : List Int} (h : v ∈ l.take (grpLen at_ w l)) : rd v at_ = rd w at_ := by
 unfold grpLen at h
 rw [take_tw] at h
 exact beq_iff_eq.1 (mem_tw _ l v h)
theorem grp_pre {at_ : Nat} {w : List Int} {l : List (List Int)} (h : Pre (w :: l) at_) (hlen : ∀ v ∈ w :: l, at_ < v.length) : Pre (w :: l.take (grpLen at_ w l)) (at_ + 1) := by
 have hrd : ∀ v ∈ w :: l.take (grpLen at_ w l), rd v at_ = rd w at_ := by
  intro v hv
  rcases List.mem_cons.1 hv with rfl | hv
  ·
   rfl
  ·
   exact grp_mem hv
 have hsub : ∀ v ∈ w :: l.take (grpLen at_ w l), v ∈ w :: l := by
  intro v hv
  rcases List.mem_cons.1 hv with rfl | hv
  ·
   exact List.mem_cons_self
  ·
   exact List.mem_cons_of_mem _ (List.mem_of_mem_take hv)
 refine ⟨fun v hv => hlen v (hsub v hv), ?_⟩
 have hp : (w :: l.take (grpLen at_ w l)).Pairwise fun u v => u.take at_ = v.take at_ ∧ cmpL u v = -1 := by
  refine List.Pairwise.sublist ?_ h.2
  exact List.Sublist.cons_cons w (List.take_sublist _ _)
 refine List.Pairwise.imp_of_mem (fun {u v} hu hv huv => ⟨?_, huv.2⟩) hp
 rw [take_succ_rd (hlen u (hsub u hu)), take_succ_rd (hlen v (hsub v hv)), huv.1, hrd u hu, hrd v hv]

def cost (l : List (List Int)) (at_ : Nat) : Nat := (l.map fun w => w.length - at_).sum
theorem cost_append (a b : List (List Int)) (at_ : Nat) : cost (a ++ b) at_ = cost a at_ + cost b at_ := by simp [cost]
theorem cost_cons (w : List Int) (l : List (List Int)) (at_ : Nat) : cost (w :: l) at_ = (w.length - at_) + cost l at_ := by simp [cost]
theorem cost_split (l : List (List Int)) (n at_ : Nat) : cost (l.take n) at_ + cost (l.drop n) at_ = cost l at_ := by rw [← cost_append, List.take_append_drop]
theorem cost_succ (l : List (List Int)) (at_ : Nat) (h : ∀ v ∈ l, at_ < v.length) : cost l (at_ + 1) + l.length = cost l at_ := by
 induction l with
 | nil => rfl
 | cons w l ih =>
  rw [cost_cons, cost_cons, List.length_cons, ← ih (fun v hv => h v (List.mem_cons_of_mem _ hv))]
  have := h w List.mem_cons_self
  omega
theorem restL_cost (l : List (List Int)) (at_ : Nat) : cost (restL l at_) at_ ≤ cost l at_ := by
 unfold restL
 split
 ·
  cases l with
  | nil => exact Nat.le_refl _
  | cons w l => rw [cost_cons]; simp
 ·
  exact Nat.le_refl _
theorem kids_length (rec_ : List (List Int) → List Nd → Int × List Nd) (at_ : Nat) (hrec : ∀ l N, Pre l (at_ + 1) → (rec_ l N).2.length ≤ N.length + 1 + cost l (at_ + 1)) : ∀ (n : Nat) (l : List (List Int)) (x : Nd) (N : List Nd), Pre l at_ → (∀ v ∈ l, at_ < v.length) →
    (kids rec_ at_ n l x N).2.length ≤ N.length + cost l at_
  | 0, l, x, N, _, _ => by simp [kids]
  | n + 1, [], x, N, _, _ => by simp [kids]
  | n + 1, w :: l, x, N, hp, h => by
    simp only [kids]
    refine Nat.le_trans (kids_length rec_ at_ hrec n _ _ _ (pre_drop (pre_tail hp) _) (fun v hv => h v (List.mem_cons_of_mem _ (List.mem_of_mem_drop hv)))) ?_
    have h1 := hrec (w :: l.take (grpLen at_ w l)) N (grp_pre hp h)
    have h2 := cost_succ (w :: l.take (grpLen at_ w l)) at_ (fun v hv => by
      rcases List.mem_cons.1 hv with rfl | hv
      · exact h v List.mem_cons_self
      · exact h v (List.mem_cons_of_mem _ (List.mem_of_mem_take hv)))
    have h3 := cost_split l (grpLen at_ w l) at_
    simp only [cost_cons, List.length_cons] at h1 h2 ⊢
    omega
theorem bld_length : ∀ (d : Nat) (l : List (List Int)) (at_ : Nat) (N : List Nd), Pre l at_ → (bld d l at_ N).2.length ≤ N.length + 1 + cost l at_ := by
 intro d
 induction d with
 | zero => intro l at_ N _; simp [bld]; omega
 | succ d ih =>
  intro l at_ N h
  obtain ⟨h1, h2⟩ := restL_pre h
  have h3 := kids_length (fun l N => bld d l (at_ + 1) N) at_ (fun l N hp => ih l (at_ + 1) N hp) (restL l at_).length (restL l at_) (startNd l at_) N h1 h2
  have h4 := restL_cost l at_
  have h5 := (putN_lt (kids (fun l N => bld d l (at_ + 1) N) at_ (restL l at_).length (restL l at_) (startNd l at_) N).2 (kids (fun l N => bld d l (at_ + 1) N) at_ (restL l at_).length (restL l at_) (startNd l at_) N).1).2.2
  simp only [bld]
  omega
theorem bld_lt (d : Nat) (l : List (List Int)) (at_ : Nat) (N : List Nd) : 0 ≤ (bld (d + 1) l at_ N).1 ∧ (bld (d + 1) l at_ N).1 < (bld (d + 1) l at_ N).2.length := by
 have := putN_lt (kids (fun l N => bld d l (at_ + 1) N) at_ (restL l at_).length (restL l at_) (startNd l at_) N).2 (kids (fun l N => bld d l (at_ + 1) N) at_ (restL l at_).length (restL l at_) (startNd l at_) N).1
 exact ⟨this.1, this.2.1⟩
end Go.Proofs.Ytcdjeimjbbknjaa.PAll
namespace Go.Proofs.Ytcdjeimjbbknjaa.PAll
open Go.RowKit Go.Maps Go.Proofs.YtcdjeimjbbknjaaW.PrintWords Go.Proofs.YtcdjeimjbbknjaaW.PrintLast Go.Proofs.YtcdjeimjbbknjaaW.PrintMore
set_option linter.unusedVariables false
set_option linter.unusedSimpArgs false

theorem law_str : Keyed Try.prog 9 := string_keyed Try.underlying9
theorem law_int : Keyed Try.prog 3 := int_keyed Try.underlying3
theorem zero_int (w : World) : (zeroValue 3).run Try.prog w = .ok (.int .i64 0) w := by kernel_rfl

def MapHas {α : Type} (K : Nat) (lit : α → Lit) (w : World) (b n : Nat) (f : α → Option Int) : Prop :=
  ∃ D : DataW Unit, w.ownsMap Try.prog K (plainElem Try.prog 3) b n D ∧ ∀ x, has D (lit x) = (f x).isSome ∧ D.atKey (lit x) (.lit (.int .i64 0)) = .lit (.int .i64 ((f x).getD 0))
section
variable {α : Type} {K : Nat} {lit : α → Lit} {w : World} {b n : Nat} {f : α → Option Int}
theorem MapHas.lt (h : MapHas K lit w b n f) : b < w.heap.size := by obtain ⟨D, h, _⟩ := h; exact h.lt
theorem MapHas.kept {w' : World} {row : Option Nat} (h : MapHas K lit w b n f) (hg : w.grownBy w' row) (hne : some b ≠ row) : MapHas K lit w' b n f := by
 obtain ⟨D, h, hf⟩ := h
 exact ⟨D, h.kept hg hne, hf⟩
theorem MapHas.below {w' : World} (h : MapHas K lit w b n f) (hb : Below w.heap.size w w') : MapHas K lit w' b n f := h.kept (grown_of_below hb none) (by simp)
theorem MapHas.of_block {w' : World} (h : MapHas K lit w b n f) (hb : w'.heap[b]? = w.heap[b]?) : MapHas K lit w' b n f := by
 obtain ⟨D, ⟨es, clock, h1, h2⟩, hf⟩ := h
 exact ⟨D, ⟨es, clock, hb.trans h1, h2⟩, hf⟩
theorem MapHas.not_cells (h : MapHas K lit w b n f) {g : Nat} {cs : Array Value} {t : TypeId} {fr : Nat × Nat} (hb : w.heap[g]? = some (.cells cs t fr)) : g ≠ b := by
 obtain ⟨D, ⟨es, clock, h1, _⟩, _⟩ := h
 rintro rfl
 rw [h1] at hb
 cases hb
theorem MapHas.made (w : World) (hlit : ∀ x : α, WideAt.IsKeyLit (lit x)) : MapHas K lit (w.alloc (.map #[] 0)) w.heap.size 0 (fun _ : α => none) :=
  ⟨.map [], World.ownsMap_made _ _ _ _, fun x => ⟨by simp [has_eq], by rw [atKey_of_not_has (by simp [has_eq])]; rfl⟩⟩
theorem MapHas.lookup {t : TypeId} (h : MapHas K lit w b n f) (law : Keyed Try.prog K) (ht : Try.prog.underlying t = some (.map K 3)) (x : α) (key : Value) (hkey : Go.keyOf Try.prog K key = some (lit x)) :
    (Instr.lookup t (.map (some b)) key true).run Try.prog w = .ok (.tuple #[.int .i64 ((f x).getD 0), .bool (f x).isSome]) w := by
 obtain ⟨D, h, hf⟩ := h
 obtain ⟨v, ps, hrun, hv⟩ := h.look_ok law ht (zero_int w) (plainElem_int Try.underlying3 (by decide)) hkey
 obtain ⟨c, rfl, hc, _⟩ := plainElem_int_inv Try.underlying3 hv
 simp only [Prod.mk.injEq] at hc
 obtain ⟨h1, h2⟩ := hf x
 rw [h2] at hc
 have hc1 : (f x).getD 0 = c := (Lit.int.inj (DataW.lit.inj hc.1)).2
 rw [hrun, h1, hc1]
theorem MapHas.update {t : TypeId} (h : MapHas K lit w b n f) (law : Keyed Try.prog K) (ht : Try.prog.underlying t = some (.map K 3)) (hn : n < maxLen) (x : α) (key : Value) (hkey : Go.keyOf Try.prog K key = some (lit x))
    (hlit : ∀ x : α, WideAt.IsKeyLit (lit x)) (hinj : ∀ x y : α, lit x = lit y → x = y) (c : Int) (hc : (Lit.int .i64 c).wf = true) [DecidableEq α] :
    ∃ w', (Instr.mapUpdate t (.map (some b)) key (.int .i64 c)).run Try.prog w = .ok () w' ∧ MapHas K lit w' b (n + 1) (fun y => if y = x then some c else f y) ∧ w.grownBy w' (some b) := by
 obtain ⟨D, h, hf⟩ := h
 obtain ⟨w', hrun, hown, hg⟩ := h.update law ht hn hkey (plainElem_int Try.underlying3 hc)
 refine ⟨w', hrun, ⟨_, hown, fun y => ?_⟩, hg⟩
 by_cases hy : y = x
 ·
  subst hy
  dsimp only
  rw [if_pos rfl]
  exact ⟨has_put_same h.isMap (hlit y) _, atKey_put_same h.isMap (hlit y) _ _⟩
 ·
  dsimp only
  rw [if_neg hy]
  have hne : lit y ≠ lit x := fun e => hy (hinj _ _ e)
  rw [has_put_other hne, atKey_put_other hne]
  exact hf y
end
def litS (s : ByteArray) : Lit := .string s.data.toList
theorem litS_key (s : ByteArray) : WideAt.IsKeyLit (litS s) := trivial
theorem litS_inj (s t : ByteArray) (h : litS s = litS t) : s = t := by
 unfold litS at h
 injection h with h
 cases s; cases t
 simp only [ByteArray.mk.injEq]
 exact Array.toList_inj.1 h
end Go.Proofs.Ytcdjeimjbbknjaa.PAll
namespace Go.Proofs.Ytcdjeimjbbknjaa.PAll
open Go.RowKit Go.Proofs.YtcdjeimjbbknjaaW.PrintWords Go.Proofs.YtcdjeimjbbknjaaW.PrintLast Go.Proofs.YtcdjeimjbbknjaaW.PrintMore
set_option linter.unusedVariables false
set_option linter.unusedSimpArgs false

theorem cutR_take (A : Option Addr) (c : Nat) (xs : List (List Int)) (m : Nat) (hm : m ≤ xs.length) (hc : xs.length ≤ c) :
    (∀ W : World, (Instr.slice 23 (.slice A xs.length c) none (some (.int .i64 (m : Int))) none).run Try.prog W = .ok (.slice A m c) W) ∧ ∀ w : World, Kd.C (Kd.slice 3 (Kd.int .i64)) w A xs.length xs → Kd.C (Kd.slice 3 (Kd.int .i64)) w A m (xs.take m) := by
 obtain ⟨i0, hi, _, hsz, _⟩ := info_parts info22
 have hrun := cut_to (P := Try.prog) 23 22 .i64 Try.underlying23 hi A xs.length c (m : Int) (by omega) (by omega) hc
 refine ⟨fun W => by have := hrun W; simpa using this, fun w h => ?_⟩
 have h2 := Kd.C_take h hm
 rwa [show (xs.take m).length = m from by rw [List.length_take]; omega] at h2
end Go.Proofs.Ytcdjeimjbbknjaa.PAll
namespace Go.Proofs.Ytcdjeimjbbknjaa.PAll
open Go.RowKit Go.Maps Go.Proofs.YtcdjeimjbbknjaaW.PrintWords Go.Proofs.YtcdjeimjbbknjaaW.PrintLast Go.Proofs.YtcdjeimjbbknjaaW.PrintMore
set_option linter.unusedVariables false
set_option linter.unusedSimpArgs false

structure Inner (w : World) (B : Nat) (P : Nat → Prop) (bb bn bk bm : Nat) (v : Value) (N : List Nd) : Prop where
  hbb : w.heap[bb]? = some (.cells #[.func (.func 67) #[] #[.pointer (some ⟨bb, 0, none⟩), .pointer (some ⟨bn, 0, none⟩), .pointer (some ⟨bk, 0, none⟩)]] 100 (0, 0))
  hbk : w.heap[bk]? = some (.cells #[.map (some bm)] 98 (0, 0))
  hbn : w.heap[bn]? = some (.cells #[v] 99 (0, 0))
  row : Kd.R k102 102 w B P v N
  map : MapHas 9 litS w bm N.length (knownF N)
  lbn : B ≤ bn
  lbm : B ≤ bm
def mayTurn (bn bm : Nat) (v : Value) (k : Nat) : Prop := k = bn ∨ k = bm ∨ some k = v.ownBlock
section
variable {w w1 : World} {B bb bn bk bm : Nat} {P Q : Nat → Prop} {v : Value} {N : List Nd}
theorem Inner.mono (h : Inner w B P bb bn bk bm v N) (hq : ∀ k, P k → Q k) : Inner w B Q bb bn bk bm v N := ⟨h.hbb, h.hbk, h.hbn, Kd.R_mono h.row hq, h.map, h.lbn, h.lbm⟩
theorem Inner.step (h : Inner w B P bb bn bk bm v N) (hs : ∀ k, k < w.heap.size → (k = bb ∨ k = bk ∨ k = bn ∨ k = bm ∨ P k) → w1.heap[k]? = w.heap[k]?) : Inner w1 B P bb bn bk bm v N :=
  ⟨(hs bb (blk_lt h.hbb) (.inl rfl)).trans h.hbb, (hs bk (blk_lt h.hbk) (.inr (.inl rfl))).trans h.hbk, (hs bn (blk_lt h.hbn) (.inr (.inr (.inl rfl)))).trans h.hbn,
    Kd.R_step h.row (fun k hk hlt => hs k hlt (.inr (.inr (.inr (.inr hk))))), h.map.of_block (hs bm h.map.lt (.inr (.inr (.inr (.inl rfl))))), h.lbn, h.lbm⟩
theorem Inner.below (h : Inner w B P bb bn bk bm v N) (hb : Below w.heap.size w w1) : Inner w1 B P bb bn bk bm v N := h.step fun k hk _ => hb.block k hk
theorem Inner.bound (h : Inner w B P bb bn bk bm v N) : Inner w B (fun k => P k ∧ k < w.heap.size) bb bn bk bm v N :=
  ⟨h.hbb, h.hbk, h.hbn, Kd.R_mono (Kd.R_bound h.row) (fun k hk => ⟨hk.1, hk.2.2.1⟩), h.map, h.lbn, h.lbm⟩
theorem Inner.grown (h : Inner w B P bb bn bk bm v N) {row : Option Nat} (hg : w.grownBy w1 row) (hP : ∀ k, P k → some k ≠ row) (h1 : some bb ≠ row) (h2 : some bk ≠ row) (h3 : some bn ≠ row) (h4 : some bm ≠ row) : Inner w1 B P bb bn bk bm v N :=
  h.step fun k hk hor => hg.block k hk (hor.elim (fun e => e ▸ h1) (fun h => h.elim (fun e => e ▸ h2) (fun h => h.elim (fun e => e ▸ h3) (fun h => h.elim (fun e => e ▸ h4) (fun hp => hP k hp)))))
theorem Inner.setCell (h : Inner w B P bb bn bk bm v N) {p : Addr} (hP : ∀ k, P k → k ≠ p.block) (h1 : bb ≠ p.block) (h2 : bk ≠ p.block) (h3 : bn ≠ p.block) (h4 : bm ≠ p.block) (u : Value) : Inner (w.setCell p u) B P bb bn bk bm v N :=
  h.step fun k hk hor => Below.heap_setCell w p u k (hor.elim (fun e => e ▸ h1) (fun h => h.elim (fun e => e ▸ h2) (fun h => h.elim (fun e => e ▸ h3) (fun h => h.elim (fun e => e ▸ h4) (fun hp => hP k hp)))))
theorem Inner.drewN (h : Inner w B P bb bn bk bm v N) (n : Nat) : Inner (w.drewN n) B P bb bn bk bm v N := h.below (pw_below_drewN (Below.refl _ _) n)
theorem Inner.alloc (h : Inner w B P bb bn bk bm v N) (o : Obj) : Inner (w.alloc o) B P bb bn bk bm v N := h.below (below_alloc (Below.refl _ _) o)
end
theorem blk_ne {w : World} {a b : Nat} {ca cb : Array Value} {ta tb : TypeId} {fa fb : Nat × Nat} (h : w.heap[a]? = some (.cells ca ta fa)) (h' : w.heap[b]? = some (.cells cb tb fb)) (hne : ta ≠ tb) : a ≠ b := by
 rintro rfl
 rw [h] at h'
 injection h' with h'
 injection h' with _ ht
 exact hne ht
theorem grpLen_le (at_ : Nat) (w : List Int) (l : List (List Int)) : grpLen at_ w l ≤ l.length := (List.takeWhile_prefix _).length_le
theorem grp_at (at_ : Nat) (w : List Int) : ∀ (l : List (List Int)) (j : Nat), j < grpLen at_ w l → rd (rdR l j) at_ = rd w at_ := by
 intro l j hj
 have h : rdR l j ∈ l.take (grpLen at_ w l) := by
  have hl := grpLen_le at_ w l
  rw [rdR_nat, List.getD_eq_getElem?_getD, List.getElem?_eq_getElem (by omega : j < l.length), Option.getD_some]
  exact List.mem_take_iff_getElem.2 ⟨j, by omega, rfl⟩
 exact grp_mem h
theorem grp_end (at_ : Nat) (w : List Int) : ∀ (l : List (List Int)), grpLen at_ w l < l.length → rd (rdR l (grpLen at_ w l)) at_ ≠ rd w at_
  | [], h => by simp at h
  | v :: l, h => by
    by_cases hv : (rd v at_ == rd w at_) = true
    · have e : grpLen at_ w (v :: l) = grpLen at_ w l + 1 := by unfold grpLen; rw [List.takeWhile_cons_of_pos (p := fun v => rd v at_ == rd w at_) hv]; rfl
      rw [e] at h ⊢
      have := grp_end at_ w l (by simpa using h)
      rwa [rdR_nat, List.getD_cons_succ, ← rdR_nat]
    · have e : grpLen at_ w (v :: l) = 0 := by unfold grpLen; rw [List.takeWhile_cons_of_neg (p := fun v => rd v at_ == rd w at_) hv]; rfl
      rw [e, rdR_nat]
      intro h2
      exact hv (beq_iff_eq.2 h2)
theorem grp_stop (at_ : Nat) (w : List Int) (l : List (List Int)) (j : Nat) (hj : j ≤ grpLen at_ w l) (h : j = l.length ∨ rd (rdR l j) at_ ≠ rd w at_) : j = grpLen at_ w l := by
  rcases Nat.lt_or_ge j (grpLen at_ w l) with hlt | hge
  · rcases h with rfl | h
    · have := grpLen_le at_ w l; omega
    · exact absurd (grp_at at_ w l j hlt) h
  · omega
theorem kids_fuel (rec_ : List (List Int) → List Nd → Int × List Nd) (at_ : Nat) : ∀ (n m : Nat) (l : List (List Int)) (x : Nd) (N : List Nd), l.length ≤ n → l.length ≤ m → kids rec_ at_ n l x N = kids rec_ at_ m l x N
  | 0, 0, _, _, _, _, _ => rfl
  | 0, m + 1, l, x, N, h, _ => by
    obtain rfl := List.eq_nil_of_length_eq_zero (Nat.le_zero.1 h); rfl
  | n + 1, 0, l, x, N, _, h => by
    obtain rfl := List.eq_nil_of_length_eq_zero (Nat.le_zero.1 h); rfl
  | n + 1, m + 1, [], x, N, _, _ => rfl
  | n + 1, m + 1, w :: l, x, N, h1, h2 => by
    simp only [kids]
    simp only [List.length_cons] at h1 h2
    exact kids_fuel rec_ at_ n m _ _ _ (by rw [List.length_drop]; omega) (by rw [List.length_drop]; omega)
def roundX (rec_ : List (List Int) → List Nd → Int × List Nd) (at_ : Nat) (w : List Int) (l : List (List Int)) (x : Nd) (N : List Nd) : Nd :=
  ⟨x.f0, x.f1 ++ [rd w at_], x.f2 ++ [(rec_ (w :: l.take (grpLen at_ w l)) N).1], wrap64 (x.f3 + (rdN (rec_ (w :: l.take (grpLen at_ w l)) N).2 (rec_ (w :: l.take (grpLen at_ w l)) N).1).f3)⟩
theorem kids_round (rec_ : List (List Int) → List Nd → Int × List Nd) (at_ : Nat) (w : List Int) (l : List (List Int)) (x : Nd) (N : List Nd) :
    kids rec_ at_ (w :: l).length (w :: l) x N = kids rec_ at_ (l.drop (grpLen at_ w l)).length (l.drop (grpLen at_ w l)) (roundX rec_ at_ w l x N) (rec_ (w :: l.take (grpLen at_ w l)) N).2 := by
 simp only [List.length_cons, kids, roundX]
 exact kids_fuel rec_ at_ _ _ _ _ _ (by rw [List.length_drop]; omega) (by omega)
end Go.Proofs.Ytcdjeimjbbknjaa.PAll
namespace Go.Proofs.Ytcdjeimjbbknjaa.Lev
set_option linter.unusedVariables false
set_option linter.unusedSimpArgs false

def mi (a b : Int) : Int := if b < a then b else a
def rowGo (left : Int) : List Int → List Int → Int → List Int
  | a :: b :: last, y :: w, x => mi (mi (left + 1) (b + 1)) (a + if y = x then 0 else 1) :: rowGo (mi (mi (left + 1) (b + 1)) (a + if y = x then 0 else 1)) (b :: last) w x
  | _, _, _ => []
def nextRow (last w : List Int) (x : Int) : List Int := (last.headD 0 + 1) :: rowGo (last.headD 0 + 1) last w x
def rows (w : List Int) : List Int → List Int → List Int
  | last, [] => last
  | last, x :: v => rows w (nextRow last w x) v
end Go.Proofs.Ytcdjeimjbbknjaa.Lev
namespace Go.Proofs.Ytcdjeimjbbknjaa.PAll
open Go.RowKit Go.Proofs.YtcdjeimjbbknjaaW.PrintWords Go.Proofs.YtcdjeimjbbknjaaW.PrintLast Go.Proofs.YtcdjeimjbbknjaaW.PrintMore Go.Proofs.Ytcdjeimjbbknjaa.Lev
set_option linter.unusedVariables false
set_option linter.unusedSimpArgs false
attribute [local go_sem] max2_int min2_int max_two min_two max_three min_three max_four min_four

def rowOk (l0 l1 : List Int) : Prop := l0.length = l1.length + 1 ∧ l0.length < 17592186044416 ∧ ∀ x ∈ l0, 0 ≤ x ∧ x ≤ 1152921504606846976
instance (l0 l1 : List Int) : Decidable (rowOk l0 l1) := by unfold rowOk; infer_instance
end Go.Proofs.Ytcdjeimjbbknjaa.PAll
