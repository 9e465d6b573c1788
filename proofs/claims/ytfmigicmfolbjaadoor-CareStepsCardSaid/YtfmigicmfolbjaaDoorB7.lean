/-
  Texts F1 of this claim, one behind the other.
-/
import Derived.Test.YtfmigicmfolbjaaDoorB6
namespace Go.Proofs.YtfmigicmfolbjaaDoor
set_option linter.all false
set_option linter.unusedSimpArgs false
set_option linter.unusedVariables false
open Go.RowKit

attribute [local go_sem ↓ high] run_min_ run_max_ run_min2 run_max2
theorem run_store_fn {P : Program} (a : Addr) (fn : Fn) (first captured : Array Value) (m : Mode) (w : World) : (store a (.func fn first captured) m).run P w = stored P w a (.func fn first captured) m := run_store P w a _ m rfl
attribute [local go_sem] run_store_fn
theorem mulb {x y m n : Int} (hx : -m ≤ x ∧ x ≤ m) (hy : -n ≤ y ∧ y ≤ n) : -(m * n) ≤ x * y ∧ x * y ≤ m * n := by
  have h1 : x.natAbs ≤ m.toNat := by omega
  have h2 : y.natAbs ≤ n.toNat := by omega
  have h3 := Nat.mul_le_mul h1 h2
  have h4 : (x * y).natAbs = x.natAbs * y.natAbs := Int.natAbs_mul x y
  have h5 : ((m.toNat * n.toNat : Nat) : Int) = m * n := by
    rw [Int.natCast_mul, Int.toNat_of_nonneg (by omega), Int.toNat_of_nonneg (by omega)]
  omega
def Gr.cells (g : Gr) : List Value := [.int .i64 g.draught, .int .i64 g.depth, .int .i64 g.tpc, .int .i64 g.pull, .int .i64 g.fric]
theorem info52 : (Tryd.prog.info? 52).map (fun i => i.size) = some 5 := by kernel_rfl
theorem info61 : (Tryd.prog.info? 61).map (fun i => i.size) = some 2 := by kernel_rfl
def tpC (p : Int × Int) : List Value := [.int .i64 p.1, .int .i64 p.2]
theorem load_gr {g : Gr} {w : World} {b : Nat} (h : Blk w b 52 g.cells) : (loadVar 52 ⟨b, 0, none⟩).run Tryd.prog w = .ok (.agg g.cells.toArray) w := loadVarB h Tryd.underlying52 rfl info52
theorem load_tp {p : Int × Int} {w : World} {b : Nat} (h : Blk w b 61 (tpC p)) : (loadVar 61 ⟨b, 0, none⟩).run Tryd.prog w = .ok (.agg (tpC p).toArray) w := loadVarB h Tryd.underlying61 rfl info61
structure GrOK (g : Gr) : Prop where
  draught : 0 ≤ g.draught ∧ g.draught ≤ 100000
  depth : -100000 ≤ g.depth ∧ g.depth ≤ 100000
  tpc : 1 ≤ g.tpc ∧ g.tpc ≤ 1000
  pull : 0 ≤ g.pull ∧ g.pull ≤ 1000000
  fric : 0 ≤ g.fric ∧ g.fric ≤ 1000
structure TpOK (p : Int × Int) : Prop where
  time : 0 ≤ p.1 ∧ p.1 ≤ 10000000
  height : -100000 ≤ p.2 ∧ p.2 ≤ 100000
def offT (g : Gr) (a b : Int × Int) (t : Int) : Bool := offP g a.1 a.2 b.1 b.2 t
theorem offT_line (g : Gr) (a b : Int × Int) : Line (offT g a b) := ⟨offP_line g a.1 a.2 b.1 b.2⟩
set_option maxRecDepth 100000 in
set_option maxHeartbeats 8000000 in
theorem off_any (g : Gr) (hg : GrOK g) (a b : Int × Int) (ha : TpOK a) (hb : TpOK b) (t : Int) (ht : 0 ≤ t ∧ t ≤ 10000000) (w : World) :
    Calls Tryd.prog 97 #[.agg g.cells.toArray, .agg (tpC a).toArray, .agg (tpC b).toArray, .int .i64 t] w fun e w' => e = .returned (.bool (offT g a b t)) ∧ Frm w.heap.size [] w w' := by
  have hf0 := Tryd.func97
  obtain ⟨ta, h1⟩ := a
  obtain ⟨tb, h2⟩ := b
  have i1 := hg.draught
  have i2 := hg.depth
  have i3 := hg.tpc
  have i4 := hg.pull
  have i5 := hg.fric
  have i6 := ha.time
  have i7 := ha.height
  have i8 := hb.time
  have i9 := hb.height
  dsimp only at i6 i7 i8 i9
  obtain ⟨m, hm⟩ : ∃ m, m = max 1 (tb - ta) := ⟨_, rfl⟩
  have em := hm.symm
  have im : 1 ≤ m ∧ m ≤ 10000000 := by omega
  have hd : offT g (ta, h1) (tb, h2) t = decide (((g.draught - g.depth - h1) * m - (h2 - h1) * (t - ta)) * g.tpc * g.fric ≤ 10000 * g.pull * m) := by
    show offP g ta h1 tb h2 t = _
    unfold offP
    rw [em]
  have b1 := mulb (x := g.draught - g.depth - h1) (y := m) (m := 300000) (n := 10000000) (by omega) (by omega)
  have b2 := mulb (x := h2 - h1) (y := t - ta) (m := 200000) (n := 10000000) (by omega) (by omega)
  obtain ⟨ms, hms⟩ : ∃ z, z = (g.draught - g.depth - h1) * m - (h2 - h1) * (t - ta) := ⟨_, rfl⟩
  have bm : -5000000000000 ≤ ms ∧ ms ≤ 5000000000000 := by omega
  have b3 := mulb (x := ms) (y := g.tpc) (m := 5000000000000) (n := 1000) bm (by omega)
  have b4 := mulb (x := ms * g.tpc) (y := g.fric) (m := 5000000000000 * 1000) (n := 1000) b3 (by omega)
  have b5 := mulb (x := 10000 * g.pull) (y := m) (m := 10000000000) (n := 10000000) (by omega) (by omega)
  rw [← hms] at hd
  have xa0 : wrap64 (tb - ta) = tb - ta := IntWalk.wrap64_in _ (by omega)
  have ya0 : IntKind.i64.wrap (tb - ta) = tb - ta := IntWalk.i64_in _ (by omega)
  have xa1 : wrap64 (g.draught - g.depth) = g.draught - g.depth := IntWalk.wrap64_in _ (by omega)
  have ya1 : IntKind.i64.wrap (g.draught - g.depth) = g.draught - g.depth := IntWalk.i64_in _ (by omega)
  have xa2 : wrap64 (g.draught - g.depth - h1) = g.draught - g.depth - h1 := IntWalk.wrap64_in _ (by omega)
  have ya2 : IntKind.i64.wrap (g.draught - g.depth - h1) = g.draught - g.depth - h1 := IntWalk.i64_in _ (by omega)
  have xa3 : wrap64 ((g.draught - g.depth - h1) * m) = (g.draught - g.depth - h1) * m := IntWalk.wrap64_in _ (by omega)
  have ya3 : IntKind.i64.wrap ((g.draught - g.depth - h1) * m) = (g.draught - g.depth - h1) * m := IntWalk.i64_in _ (by omega)
  have xa4 : wrap64 (h2 - h1) = h2 - h1 := IntWalk.wrap64_in _ (by omega)
  have ya4 : IntKind.i64.wrap (h2 - h1) = h2 - h1 := IntWalk.i64_in _ (by omega)
  have xa5 : wrap64 (t - ta) = t - ta := IntWalk.wrap64_in _ (by omega)
  have ya5 : IntKind.i64.wrap (t - ta) = t - ta := IntWalk.i64_in _ (by omega)
  have xa6 : wrap64 ((h2 - h1) * (t - ta)) = (h2 - h1) * (t - ta) := IntWalk.wrap64_in _ (by omega)
  have ya6 : IntKind.i64.wrap ((h2 - h1) * (t - ta)) = (h2 - h1) * (t - ta) := IntWalk.i64_in _ (by omega)
  have xa7 : wrap64 (ms * g.tpc) = ms * g.tpc := IntWalk.wrap64_in _ (by omega)
  have ya7 : IntKind.i64.wrap (ms * g.tpc) = ms * g.tpc := IntWalk.i64_in _ (by omega)
  have xa8 : wrap64 (ms * g.tpc * g.fric) = ms * g.tpc * g.fric := IntWalk.wrap64_in _ (by omega)
  have ya8 : IntKind.i64.wrap (ms * g.tpc * g.fric) = ms * g.tpc * g.fric := IntWalk.i64_in _ (by omega)
  have xa9 : wrap64 (10000 * g.pull) = 10000 * g.pull := IntWalk.wrap64_in _ (by omega)
  have ya9 : IntKind.i64.wrap (10000 * g.pull) = 10000 * g.pull := IntWalk.i64_in _ (by omega)
  have xa10 : wrap64 (10000 * g.pull * m) = 10000 * g.pull * m := IntWalk.wrap64_in _ (by omega)
  have ya10 : IntKind.i64.wrap (10000 * g.pull * m) = 10000 * g.pull * m := IntWalk.i64_in _ (by omega)
  have xms : wrap64 ((g.draught - g.depth - h1) * m - (h2 - h1) * (t - ta)) = ms := by rw [← hms]; exact IntWalk.wrap64_in _ (by omega)
  have yms : IntKind.i64.wrap ((g.draught - g.depth - h1) * m - (h2 - h1) * (t - ta)) = ms := by rw [← hms]; exact IntWalk.i64_in _ (by omega)
  rw [hd]
  clear i1 i2 i3 i4 i5 i6 i7 i8 i9 hm im hd b1 b2 hms bm b3 b4 b5 ha hb hg ht
  go_enter Tryd.func97, Tryd.ntmps97
  go_upto_region 1 with fail
  refine namedC ?_; intro W hW
  obtain ⟨c, hc⟩ : ∃ c, c = w.heap.size := ⟨_, rfl⟩
  have k0 : Blk W c 52 g.cells := by rw [hW, hc]; repeat (first | exact Blk.new w 52 g.cells | refine Blk.alloc' ?_)
  have k1 : Blk W (c + 1) 61 (tpC (ta, h1)) := by rw [hW, hc]; repeat (first | exact Blk.new' _ 61 (tpC (ta, h1)) (by simp) | refine Blk.alloc' ?_)
  have k2 : Blk W (c + 1 + 1) 61 (tpC (tb, h2)) := by rw [hW, hc]; exact Blk.new' _ 61 (tpC (tb, h2)) (by simp)
  have hf : Frm w.heap.size [] w W := by rw [hW]; repeat (first | with_reducible exact Frm.refl _ _ _ | with_reducible refine Frm.drewN ?_ | with_reducible refine Frm.drew ?_ | ((with_reducible refine Frm.setCell' ?_ ?_); · first | (left; simp; done) | (right; simp; done) | (right; simp; omega)) | ((with_reducible refine Frm.alloc' ?_ ?_); · first | exact Nat.le_refl _ | (simp; done) | (simp; omega)))
  clear hW hf0
  rw [← hc]
  have c0 : W.cell? ⟨c, 0, none⟩ = some (.int .i64 g.draught) := k0.cell 0
  have c1 : W.cell? ⟨c, 1, none⟩ = some (.int .i64 g.depth) := k0.cell 1
  have c2 : W.cell? ⟨c, 2, none⟩ = some (.int .i64 g.tpc) := k0.cell 2
  have c3 : W.cell? ⟨c, 3, none⟩ = some (.int .i64 g.pull) := k0.cell 3
  have c4 : W.cell? ⟨c, 4, none⟩ = some (.int .i64 g.fric) := k0.cell 4
  have d0 : W.cell? ⟨c + 1, 0, none⟩ = some (.int .i64 ta) := k1.cell 0
  have d1 : W.cell? ⟨c + 1, 1, none⟩ = some (.int .i64 h1) := k1.cell 1
  have e0 : W.cell? ⟨c + 1 + 1, 0, none⟩ = some (.int .i64 tb) := k2.cell 0
  have e1 : W.cell? ⟨c + 1 + 1, 1, none⟩ = some (.int .i64 h2) := k2.cell 1
  clear k0 k1 k2
  have HF := Lib.hid hf
  have HC := Lib.hid hc
  clear hc hf
  go_wp2_with fail
  go_ret
  exact ⟨rfl, HF.out⟩
set_option maxRecDepth 100000 in
set_option maxHeartbeats 4000000 in
theorem is_any (g : Gr) (hg : GrOK g) (a b : Int × Int) (ha : TpOK a) (hb : TpOK b) (t : Int) (ht : 0 ≤ t ∧ t ≤ 10000000) (p q r : Nat) (w : World) (kp : Blk w p 52 g.cells) (kq : Blk w q 61 (tpC a)) (kr : Blk w r 61 (tpC b)) :
    Calls Tryd.prog 96 #[.int .i64 t, .pointer (some ⟨p, 0, none⟩), .pointer (some ⟨q, 0, none⟩), .pointer (some ⟨r, 0, none⟩)] w fun e w' => e = .returned (.bool (offT g a b t)) ∧ Frm w.heap.size [] w w' := by
  have hin := off_any g hg a b ha hb t ht w
  have HIN := Lib.hid hin
  have KP := Lib.hid kp
  have KQ := Lib.hid kq
  have KR := Lib.hid kr
  clear kr kq kp hin
  go_enter Tryd.func96, Tryd.ntmps96
  go_wp2_with (first | (with_reducible refine atLoad 52 rfl ?_; refine wpList_loadE rfl rfl rfl (load_gr KP.out) ?_) | (with_reducible refine atLoad 61 rfl ?_; first | refine wpList_loadE rfl rfl rfl (load_tp KQ.out) ?_ | refine wpList_loadE rfl rfl rfl (load_tp KR.out) ?_))
  refine HIN.out.mono ?_; rintro e w1 ⟨rfl, hf1⟩
  have HF := Lib.hid hf1
  clear hf1
  go_wp2_with fail
  go_ret
  exact ⟨rfl, HF.out⟩
set_option maxRecDepth 100000 in
set_option maxHeartbeats 4000000 in
theorem not_any (caps : Array Value) (o : Int → Bool) (t : Int) (p : Nat) (w : World) (kp : Blk w p 87 [.func (.func 96) #[] caps]) (hin : Calls Tryd.prog 96 (#[.int .i64 t] ++ caps) w fun e w' => e = .returned (.bool (o t)) ∧ Frm w.heap.size [] w w') :
    Calls Tryd.prog 98 #[.int .i64 t, .pointer (some ⟨p, 0, none⟩)] w fun e w' => e = .returned (.bool (!o t)) ∧ Frm w.heap.size [] w w' := by
  have e96 := (enters Tryd.func96 (by kernel_rfl) (by kernel_rfl)).out
  have c0 : w.cell? ⟨p, 0, none⟩ = some (.func (.func 96) #[] caps) := kp.cell 0
  clear kp
  have HIN := Lib.hid hin
  clear hin
  go_enter Tryd.func98, Tryd.ntmps98
  go_wp2_with fail
  refine HIN.out.mono ?_; rintro e w1 ⟨rfl, hf1⟩
  have HF := Lib.hid hf1
  clear hf1
  go_wp2_with fail
  go_ret
  exact ⟨rfl, HF.out⟩
def WindowIs (o : Int → Bool) (s b : Int) (e : Ending) : Prop := (∃ f l : Int, Span o s b f l ∧ e = .returned (.tuple #[.int .i64 f, .int .i64 l, .bool true])) ∨ (Never o s b ∧ e = .returned (.tuple #[.int .i64 0, .int .i64 0, .bool false]))
set_option maxRecDepth 100000 in
set_option maxHeartbeats 8000000 in
theorem window_any (g : Gr) (hg : GrOK g) (a b : Int × Int) (ha : TpOK a) (hb : TpOK b) (s : Int) (hs : 0 ≤ s ∧ s ≤ b.1) (w : World) :
    Calls Tryd.prog 63 #[.agg g.cells.toArray, .agg (tpC a).toArray, .agg (tpC b).toArray, .int .i64 s] w fun e w' => WindowIs (offT g a b) s b.1 e ∧ Frm w.heap.size [] w w' := by
  have hf0 := Tryd.func63
  have i8 := hb.time
  obtain ⟨tb, htb⟩ : ∃ x, x = b.1 := ⟨_, rfl⟩
  obtain ⟨o, ho⟩ : ∃ o, o = offT g a b := ⟨_, rfl⟩
  have hline : Line o := by rw [ho]; exact offT_line g a b
  rw [← htb] at hs i8
  rw [← htb, ← ho]
  go_enter Tryd.func63, Tryd.ntmps63
  go_upto_region 2 with fail
  refine namedC ?_; intro W hW
  obtain ⟨c, hc⟩ : ∃ c, c = w.heap.size := ⟨_, rfl⟩
  have k0 : Blk W c 52 g.cells := by rw [hW, hc]; repeat (first | exact Blk.new w 52 g.cells | refine Blk.alloc' ?_)
  have k1 : Blk W (c + 1) 61 (tpC a) := by rw [hW, hc]; repeat (first | exact Blk.new' _ 61 (tpC a) (by simp) | refine Blk.alloc' ?_)
  have k2 : Blk W (c + 1 + 1) 61 (tpC b) := by rw [hW, hc]; repeat (first | exact Blk.new' _ 61 (tpC b) (by simp) | refine Blk.alloc' ?_)
  have k3 : Blk W (c + 1 + 1 + 1) 87 [.func (.func 96) #[] #[.pointer (some ⟨c, 0, none⟩), .pointer (some ⟨c + 1, 0, none⟩), .pointer (some ⟨c + 1 + 1, 0, none⟩)]] := by rw [hW, hc]; exact Blk.new' _ 87 [.func (.func 96) #[] #[.pointer (some ⟨w.heap.size, 0, none⟩), .pointer (some ⟨w.heap.size + 1, 0, none⟩), .pointer (some ⟨w.heap.size + 1 + 1, 0, none⟩)]] (by simp)
  have hf : Frm w.heap.size [] w W := by rw [hW]; repeat (first | with_reducible exact Frm.refl _ _ _ | with_reducible refine Frm.drewN ?_ | with_reducible refine Frm.drew ?_ | ((with_reducible refine Frm.setCell' ?_ ?_); · first | (left; simp; done) | (right; simp; done) | (right; simp; omega)) | ((with_reducible refine Frm.alloc' ?_ ?_); · first | exact Nat.le_refl _ | (simp; done) | (simp; omega)))
  clear hW hf0
  rw [← hc]
  have e96 := (enters Tryd.func96 (by kernel_rfl) (by kernel_rfl)).out
  have hi : ∀ V, Frm W.heap.size [] W V → ∀ t, s ≤ t → t ≤ tb → Calls Tryd.prog 96 (#[.int .i64 t] ++ #[.pointer (some ⟨c, 0, none⟩), .pointer (some ⟨c + 1, 0, none⟩), .pointer (some ⟨c + 1 + 1, 0, none⟩)]) V fun e w' => e = .returned (.bool (o t)) ∧ Frm V.heap.size [] V w' := fun V hV t h1 h2 => by
    rw [ho]
    exact is_any g hg a b ha hb t (by omega) _ _ _ V (hV.blk k0 k0.lt (by simp)) (hV.blk k1 k1.lt (by simp)) (hV.blk k2 k2.lt (by simp))
  have hn : ∀ V, Frm W.heap.size [] W V → ∀ t, s ≤ t → t ≤ tb → Calls Tryd.prog 98 (#[.int .i64 t] ++ #[.pointer (some ⟨c + 1 + 1 + 1, 0, none⟩)]) V fun e w' => e = .returned (.bool (!o t)) ∧ Frm V.heap.size [] V w' := fun V hV t h1 h2 =>
    not_any _ o t _ V (hV.blk k3 k3.lt (by simp)) (hi V hV t h1 h2)
  have hfx : ∀ V, Frm W.heap.size [] W V → V.cell? ⟨c + 1 + 1, 0, none⟩ = some (.int .i64 tb) ∧ V.cell? ⟨c + 1 + 1 + 1, 0, none⟩ = some (.func (.func 96) #[] #[.pointer (some ⟨c, 0, none⟩), .pointer (some ⟨c + 1, 0, none⟩), .pointer (some ⟨c + 1 + 1, 0, none⟩)]) := fun V hV => by
    refine ⟨?_, (hV.blk k3 k3.lt (by simp)).cell 0⟩
    rw [htb]; exact (hV.blk k2 k2.lt (by simp)).cell 0
  have hen96 : Enters 96 := enters Tryd.func96 (by kernel_rfl) (by kernel_rfl)
  have hen98 : Enters 98 := enters Tryd.func98 (by kernel_rfl) (by kernel_rfl)
  obtain ⟨g0, g1⟩ := hfx W (Frm.refl _ _ _)
  clear k0 k1 k2 k3 ho htb
  have HF := Lib.hid hf
  have HC := Lib.hid hc
  have HI := Lib.hid hi
  have HN := Lib.hid hn
  have HFX := Lib.hid hfx
  have HL := Lib.hid hline
  have HS0 := Lib.hid hs
  have I8 := Lib.hid i8
  have HE96 := Lib.hid hen96
  have HE98 := Lib.hid hen98
  clear hen98 hen96 i8 hs hline hfx hn hi hc hf
  go_wp2_with fail
  refine (HI.out W (Frm.refl _ _ _) s (Int.le_refl _) HS0.out.2).mono ?_; rintro e w1 ⟨rfl, hf1⟩
  clear g0 g1
  obtain ⟨g0, g1⟩ := HFX.out w1 hf1
  cases hos : o s
  · -- not at the start
    have HF1 := Lib.hid hf1
    have HOS := Lib.hid hos
    clear hos hf1
    go_wp2_with fail
    refine (HI.out w1 HF1.out s (Int.le_refl _) HS0.out.2).mono ?_; rintro e w2 ⟨rfl, hf2⟩
    rw [HOS.out]
    have hfn := HF1.out.call hf2 HF1.out.size (by simp)
    clear hf2 g0 g1 HF1
    obtain ⟨g0, g1⟩ := HFX.out w2 hfn
    have HF1 := Lib.hid hfn
    clear hfn
    go_wp2_with fail
    refine (HI.out w2 HF1.out tb HS0.out.2 (Int.le_refl _)).mono ?_; rintro e w3 ⟨rfl, hf2⟩
    have hfn := HF1.out.call hf2 HF1.out.size (by simp)
    clear hf2 g0 g1 HF1
    cases hob : o tb
    · have hnev : Never o s tb := fun t h1 h2 => HL.out.none h1 h2 HOS.out hob
      have HF1 := Lib.hid hfn
      have HNEV := Lib.hid hnev
      clear hnev hfn
      go_wp2_with fail
      refine bodyPost_ret (v := .tuple #[.int .i64 0, .int .i64 0, .bool false]) (by simp [results, Tryd.results63, go_sem]) rfl ?_
      exact ⟨.inr ⟨HNEV.out, rfl⟩, HF.out.call HF1.out HF.out.size (by simp)⟩
    · have hla := fun (V : World) (hV : Frm W.heap.size [] W V) => last_any 98 #[.pointer (some ⟨c + 1 + 1 + 1, 0, none⟩)] HE98.out s tb (fun t => !o t) V HS0.out.2 (by have := HS0.out; omega) (by have := I8.out; omega) (by simp [HOS.out])
        (fun x y h1 h2 h3 h4 => by
          cases hx : o x
          · rfl
          · have := HL.out.up HS0.out.2 HOS.out hob x y h2 hx
            rw [this] at h4
            cases h4)
        (fun V2 hV2 m h1 h2 => HN.out V2 (hV.call hV2 hV.size (by simp)) m h1 h2)
      have hfx2 : ∀ V, Frm w3.heap.size [] w3 V → V.cell? ⟨c + 1 + 1, 0, none⟩ = some (.int .i64 tb) ∧ True := fun V hV => ⟨(HFX.out V (hfn.call hV hfn.size (by simp))).1, trivial⟩
      have hla2 := fun V (hV : Frm w3.heap.size [] w3 V) => hla V (hfn.call hV hfn.size (by simp))
      clear hla HFX
      have HF1 := Lib.hid hfn
      have HOB := Lib.hid hob
      have HLA := Lib.hid hla2
      have HFX := Lib.hid hfx2
      clear hfx2 hla2 hob hfn
      go_upto_region 8 with fail
      refine wp_region_leftL (fun V => Frm w3.heap.size [] w3 V) 1000 (by kernel_rfl) ?_
      have hS : Frm w3.heap.size [] w3 w3.drew := (Frm.refl _ _ w3).drew
      have HS := Lib.hid hS
      clear hS
      first | ((first | refine LeftL.tkF (v := ?_) 0 rfl HS.out ?_ ?_ | refine LeftL.tkG (v := ?_) 0 rfl HS.out ?_ ?_); rotate_left; (· intro V hV; obtain ⟨q0, q1⟩ := HFX.out V hV; clear hV; go_simp; rfl)) | refine LeftL.tkN 0 rfl HS.out ?_
      (intro K' hK'; go_simp; refine hK' _ ?_; clear hK' K')
      first | ((first | refine LeftL.tkF (v := ?_) 1 rfl HS.out ?_ ?_ | refine LeftL.tkG (v := ?_) 1 rfl HS.out ?_ ?_); rotate_left; (· intro V hV; obtain ⟨q0, q1⟩ := HFX.out V hV; clear hV; go_simp; rfl)) | refine LeftL.tkN 1 rfl HS.out ?_
      (intro K' hK'; go_simp; refine hK' _ ?_; clear hK' K')
      first | ((first | refine LeftL.tkF (v := ?_) 2 rfl HS.out ?_ ?_ | refine LeftL.tkG (v := ?_) 2 rfl HS.out ?_ ?_); rotate_left; (· intro V hV; obtain ⟨q0, q1⟩ := HFX.out V hV; clear hV; go_simp; rfl)) | refine LeftL.tkN 2 rfl HS.out ?_
      (intro K' hK'; go_simp; refine hK' _ ?_; clear hK' K')
      first | ((first | refine LeftL.tkF (v := ?_) 3 rfl HS.out ?_ ?_ | refine LeftL.tkG (v := ?_) 3 rfl HS.out ?_ ?_); rotate_left; (· intro V hV; obtain ⟨q0, q1⟩ := HFX.out V hV; clear hV; go_simp; rfl)) | refine LeftL.tkN 3 rfl HS.out ?_
      (intro K' hK'; go_simp; refine hK' _ ?_; clear hK' K')
      first | ((first | refine LeftL.tkF (v := ?_) 6 rfl HS.out ?_ ?_ | refine LeftL.tkG (v := ?_) 6 rfl HS.out ?_ ?_); rotate_left; (· intro V hV; obtain ⟨q0, q1⟩ := HFX.out V hV; clear hV; go_simp; rfl)) | refine LeftL.tkN 6 rfl HS.out ?_
      (intro K' hK'; go_simp; refine hK' _ ?_; clear hK' K')
      first | ((first | refine LeftL.tkF (v := ?_) 7 rfl HS.out ?_ ?_ | refine LeftL.tkG (v := ?_) 7 rfl HS.out ?_ ?_); rotate_left; (· intro V hV; obtain ⟨q0, q1⟩ := HFX.out V hV; clear hV; go_simp; rfl)) | refine LeftL.tkN 7 rfl HS.out ?_
      (intro K' hK'; go_simp; refine hK' _ ?_; clear hK' K')
      refine LeftL.one 4 rfl (by kernel_rfl) ?_
      go_wp2_with fail
      refine (HLA.out _ HS.out).mono ?_; rintro e w4 ⟨⟨r, rfl, hr⟩, hf4⟩
      have hS1 := HS.out.call hf4 HS.out.size (by simp)
      have hsp := span_up HL.out HS0.out.2 HOS.out HOB.out hr
      have hr1 := hr.lo
      have hr2 := hr.hi
      have xr : wrap64 (r + 1) = r + 1 := IntWalk.wrap64_in _ (by have := HS0.out; have := I8.out; omega)
      have yr : IntKind.i64.wrap (r + 1) = r + 1 := IntWalk.i64_in _ (by have := HS0.out; have := I8.out; omega)
      clear HS hf4 hr hr1 hr2
      have HS := Lib.hid hS1
      have HSP := Lib.hid hsp
      clear hsp hS1
      go_wp2_with fail
      first | refine ⟨fun _ => HS.out, ?_⟩ | refine ⟨HS.out, ?_⟩
      first | ((first | refine LeftL.tkF (v := ?_) 5 rfl HS.out ?_ ?_ | refine LeftL.tkG (v := ?_) 5 rfl HS.out ?_ ?_); rotate_left; (· intro V hV; obtain ⟨q0, q1⟩ := HFX.out V hV; clear hV; go_simp; rfl)) | refine LeftL.tkN 5 rfl HS.out ?_
      (intro K' hK'; go_simp; refine hK' _ ?_; clear hK' K')
      first | ((first | refine LeftL.tkF (v := ?_) 8 rfl HS.out ?_ ?_ | refine LeftL.tkG (v := ?_) 8 rfl HS.out ?_ ?_); rotate_left; (· intro V hV; obtain ⟨q0, q1⟩ := HFX.out V hV; clear hV; go_simp; rfl)) | refine LeftL.tkN 8 rfl HS.out ?_
      (intro K' hK'; go_simp; refine hK' _ ?_; clear hK' K')
      first | ((first | refine LeftL.tkF (v := ?_) 9 rfl HS.out ?_ ?_ | refine LeftL.tkG (v := ?_) 9 rfl HS.out ?_ ?_); rotate_left; (· intro V hV; obtain ⟨q0, q1⟩ := HFX.out V hV; clear hV; go_simp; rfl)) | refine LeftL.tkN 9 rfl HS.out ?_
      (intro K' hK'; go_simp; refine hK' _ ?_; clear hK' K')
      first | ((first | refine LeftL.tkF (v := ?_) 10 rfl HS.out ?_ ?_ | refine LeftL.tkG (v := ?_) 10 rfl HS.out ?_ ?_); rotate_left; (· intro V hV; obtain ⟨q0, q1⟩ := HFX.out V hV; clear hV; go_simp; rfl)) | refine LeftL.tkN 10 rfl HS.out ?_
      (intro K' hK'; go_simp; refine hK' _ ?_; clear hK' K')
      refine LeftL.done (by kernel_rfl) ?_
      go_wp2_with fail
      refine bodyPost_ret (v := .tuple #[.int .i64 (r + 1), .int .i64 tb, .bool true]) (by simp [results, Tryd.results63, go_sem]) rfl ?_
      exact ⟨.inl ⟨_, _, HSP.out, rfl⟩, HF.out.call (HF1.out.call HS.out HF1.out.size (by simp)) HF.out.size (by simp)⟩
  · have HF1 := Lib.hid hf1
    have HOS := Lib.hid hos
    clear hos hf1
    go_wp2_with fail
    refine (HI.out w1 HF1.out tb HS0.out.2 (Int.le_refl _)).mono ?_; rintro e w2 ⟨rfl, hf2⟩
    have hfn := HF1.out.call hf2 HF1.out.size (by simp)
    clear hf2 g0 g1 HF1
    cases hob : o tb
    · obtain ⟨g0, g1⟩ := HFX.out w2 hfn
      have HF1 := Lib.hid hfn
      have HOB := Lib.hid hob
      clear hob hfn
      go_wp2_with fail
      refine (HI.out w2 HF1.out s (Int.le_refl _) HS0.out.2).mono ?_; rintro e w3 ⟨rfl, hf2⟩
      rw [HOS.out]
      have hfn := HF1.out.call hf2 HF1.out.size (by simp)
      clear hf2 g0 g1 HF1
      obtain ⟨g0, g1⟩ := HFX.out w3 hfn
      have hla := last_any 96 #[.pointer (some ⟨c, 0, none⟩), .pointer (some ⟨c + 1, 0, none⟩), .pointer (some ⟨c + 1 + 1, 0, none⟩)] HE96.out s tb o w3 HS0.out.2 (by have := HS0.out; omega) (by have := I8.out; omega) HOS.out
        (fun x y h1 h2 h3 h4 => HL.out.down HS0.out.2 HOS.out HOB.out x y h2 h4) (fun V2 hV2 m h1 h2 => HI.out V2 (hfn.call hV2 hfn.size (by simp)) m h1 h2)
      have HF1 := Lib.hid hfn
      have HLA := Lib.hid hla
      clear hla hfn
      go_wp2_with fail
      refine HLA.out.mono ?_; rintro e w4 ⟨⟨r, rfl, hr⟩, hf4⟩
      have hsp := span_down HL.out HS0.out.2 HOS.out HOB.out hr
      have hfn := HF1.out.call hf4 HF1.out.size (by simp)
      clear hf4 hr g0 g1 HF1
      have HF1 := Lib.hid hfn
      have HSP := Lib.hid hsp
      clear hsp hfn
      go_wp2_with fail
      refine bodyPost_ret (v := .tuple #[.int .i64 s, .int .i64 r, .bool true]) (by simp [results, Tryd.results63, go_sem]) rfl ?_
      exact ⟨.inl ⟨_, _, HSP.out, rfl⟩, HF.out.call HF1.out HF.out.size (by simp)⟩
    · have hsp := span_both HL.out HS0.out.2 HOS.out hob
      have hfx2 : ∀ V, Frm w2.heap.size [] w2 V → V.cell? ⟨c + 1 + 1, 0, none⟩ = some (.int .i64 tb) ∧ True := fun V hV => ⟨(HFX.out V (hfn.call hV hfn.size (by simp))).1, trivial⟩
      clear HFX
      have HF1 := Lib.hid hfn
      have HSP := Lib.hid hsp
      have HFX := Lib.hid hfx2
      clear hfx2 hsp hfn
      go_upto_region 4 with fail
      refine wp_region_leftL (fun V => Frm w2.heap.size [] w2 V) 1000 (by kernel_rfl) ?_
      have hS : Frm w2.heap.size [] w2 w2.drew := (Frm.refl _ _ w2).drew
      have HS := Lib.hid hS
      clear hS
      first | ((first | refine LeftL.tkF (v := ?_) 0 rfl HS.out ?_ ?_ | refine LeftL.tkG (v := ?_) 0 rfl HS.out ?_ ?_); rotate_left; (· intro V hV; obtain ⟨q0, q1⟩ := HFX.out V hV; clear hV; go_simp; rfl)) | refine LeftL.tkN 0 rfl HS.out ?_
      (intro K' hK'; go_simp; refine hK' _ ?_; clear hK' K')
      first | ((first | refine LeftL.tkF (v := ?_) 1 rfl HS.out ?_ ?_ | refine LeftL.tkG (v := ?_) 1 rfl HS.out ?_ ?_); rotate_left; (· intro V hV; obtain ⟨q0, q1⟩ := HFX.out V hV; clear hV; go_simp; rfl)) | refine LeftL.tkN 1 rfl HS.out ?_
      (intro K' hK'; go_simp; refine hK' _ ?_; clear hK' K')
      first | ((first | refine LeftL.tkF (v := ?_) 2 rfl HS.out ?_ ?_ | refine LeftL.tkG (v := ?_) 2 rfl HS.out ?_ ?_); rotate_left; (· intro V hV; obtain ⟨q0, q1⟩ := HFX.out V hV; clear hV; go_simp; rfl)) | refine LeftL.tkN 2 rfl HS.out ?_
      (intro K' hK'; go_simp; refine hK' _ ?_; clear hK' K')
      first | ((first | refine LeftL.tkF (v := ?_) 3 rfl HS.out ?_ ?_ | refine LeftL.tkG (v := ?_) 3 rfl HS.out ?_ ?_); rotate_left; (· intro V hV; obtain ⟨q0, q1⟩ := HFX.out V hV; clear hV; go_simp; rfl)) | refine LeftL.tkN 3 rfl HS.out ?_
      (intro K' hK'; go_simp; refine hK' _ ?_; clear hK' K')
      first | ((first | refine LeftL.tkF (v := ?_) 4 rfl HS.out ?_ ?_ | refine LeftL.tkG (v := ?_) 4 rfl HS.out ?_ ?_); rotate_left; (· intro V hV; obtain ⟨q0, q1⟩ := HFX.out V hV; clear hV; go_simp; rfl)) | refine LeftL.tkN 4 rfl HS.out ?_
      (intro K' hK'; go_simp; refine hK' _ ?_; clear hK' K')
      first | ((first | refine LeftL.tkF (v := ?_) 5 rfl HS.out ?_ ?_ | refine LeftL.tkG (v := ?_) 5 rfl HS.out ?_ ?_); rotate_left; (· intro V hV; obtain ⟨q0, q1⟩ := HFX.out V hV; clear hV; go_simp; rfl)) | refine LeftL.tkN 5 rfl HS.out ?_
      (intro K' hK'; go_simp; refine hK' _ ?_; clear hK' K')
      refine LeftL.done (by kernel_rfl) ?_
      go_wp2_with fail
      refine bodyPost_ret (v := .tuple #[.int .i64 s, .int .i64 tb, .bool true]) (by simp [results, Tryd.results63, go_sem]) rfl ?_
      exact ⟨.inl ⟨_, _, HSP.out, rfl⟩, HF.out.call (HF1.out.call HS.out HF1.out.size (by simp)) HF.out.size (by simp)⟩
end Go.Proofs.YtfmigicmfolbjaaDoor
