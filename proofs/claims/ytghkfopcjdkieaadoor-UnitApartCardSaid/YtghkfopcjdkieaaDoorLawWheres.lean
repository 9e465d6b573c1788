/-
  Where any unit is on any legs, and what fuel is left, are the document's.
-/
import Derived.Test.YtghkfopcjdkieaaDoorLawChecks
import Derived.Test.YtghkfopcjdkieaaDoorOpenL
import Derived.Test.YtghkfopcjdkieaaDoorR3
namespace Go.Proofs.YtghkfopcjdkieaaDoor
open Go.ChangeShapes Go.WideShapes Go.ChangeAt Go.RowKit

set_option maxRecDepth 100000 in
set_option maxHeartbeats 4000000 in
theorem wheres_walk (u : UC) (s : ByteArray) (hnm : u.name = .string s) (ad : Option Addr) (b off n cap : Nat) (L : Nat → LC) (t : Int) (w : World) (hr : Rw w 8 ad b off n fun i => (L i).cells) (hgl : Glob w) :
    Calls Tryd.prog 5 #[.agg u.cells.toArray, .slice ad n cap, .int .i64 t] w fun e w' => e = .returned (.bool true) ∧ Frm w.heap.size [] w w' := by
  have hf0 := Tryd.func5
  have HR := Lib.hid hr
  have HGL := Lib.hid hgl
  have HNM := Lib.hid hnm
  clear hnm hgl hr
  go_enter Tryd.func5, Tryd.ntmps5
  go_upto_region 1 with fail
  refine namedC ?_; intro W hW
  have hb : Blk W w.heap.size 25 u.cells := by rw [hW]; exact Blk.new w 25 u.cells
  have hf : Frm w.heap.size [] w W := by rw [hW]; repeat (first | with_reducible exact Frm.refl _ _ _ | with_reducible refine Frm.drewN ?_ | with_reducible refine Frm.drew ?_ | ((with_reducible refine Frm.setCell' ?_ ?_); · first | (left; simp; done) | (right; simp; done) | (right; simp; omega)) | ((with_reducible refine Frm.alloc' ?_ ?_); · first | exact Nat.le_refl _ | (simp; done) | (simp; omega)))
  clear hW hf0
  have HX := Lib.hid (And.intro hb hf)
  clear hb hf
  have hsi := UC.info u
  have HSI := Lib.hid hsi
  clear hsi
  by_cases hg : 100 < s.size
  · have hgd : decide (100 < s.size) = true := by simp [hg]
    have HGD := Lib.hid hgd
    clear hgd
    go_wp2_with (first | (with_reducible refine atLoad 25 rfl ?_; refine wpList_loadB (ty := 25) rfl rfl HX.out.1 rfl Tryd.underlying25 rfl HSI.out ?_) | (go_at_call 15; refine (great_any u s HNM.out _).mono ?_; rintro e w1 ⟨rfl, hf1⟩; rw [HGD.out]; replace HX := Lib.hid (boxNext HX.out hf1); clear hf1) | (go_at_call 16; refine (awake_any _ (HGL.out.frm HX.out.2 (Nat.le_refl _))).mono ?_; rintro e w1 ⟨rfl, hf1⟩; replace HX := Lib.hid (boxNext HX.out hf1); clear hf1))
    go_ret
    exact ⟨rfl, HX.out.2⟩
  have hgd : decide (100 < s.size) = false := by simp [hg]
  have HGD := Lib.hid hgd
  clear hgd
  by_cases hn : 60 < n
  · have hn' : (60 : Int) < (n : Int) := by omega
    go_wp2_with (first | (with_reducible refine atLoad 25 rfl ?_; refine wpList_loadB (ty := 25) rfl rfl HX.out.1 rfl Tryd.underlying25 rfl HSI.out ?_) | (go_at_call 15; refine (great_any u s HNM.out _).mono ?_; rintro e w1 ⟨rfl, hf1⟩; rw [HGD.out]; replace HX := Lib.hid (boxNext HX.out hf1); clear hf1) | (go_at_call 16; refine (awake_any _ (HGL.out.frm HX.out.2 (Nat.le_refl _))).mono ?_; rintro e w1 ⟨rfl, hf1⟩; replace HX := Lib.hid (boxNext HX.out hf1); clear hf1))
    go_ret
    exact ⟨rfl, HX.out.2⟩
  have hn' : ¬ (60 : Int) < (n : Int) := by omega
  go_upto_region 3 with (first | (with_reducible refine atLoad 25 rfl ?_; refine wpList_loadB (ty := 25) rfl rfl HX.out.1 rfl Tryd.underlying25 rfl HSI.out ?_) | (go_at_call 15; refine (great_any u s HNM.out _).mono ?_; rintro e w1 ⟨rfl, hf1⟩; rw [HGD.out]; replace HX := Lib.hid (boxNext HX.out hf1); clear hf1) | (go_at_call 16; refine (awake_any _ (HGL.out.frm HX.out.2 (Nat.le_refl _))).mono ?_; rintro e w1 ⟨rfl, hf1⟩; replace HX := Lib.hid (boxNext HX.out hf1); clear hf1))
  obtain ⟨ax, hax⟩ : ∃ x, x = (whereZ n L t).1.1 := ⟨_, rfl⟩
  obtain ⟨ay, hay⟩ : ∃ x, x = (whereZ n L t).1.2 := ⟨_, rfl⟩
  obtain ⟨bx, hbx⟩ : ∃ x, x = (whereZ n L t).2.1.1 := ⟨_, rfl⟩
  obtain ⟨bz, hby⟩ : ∃ x, x = (whereZ n L t).2.1.2 := ⟨_, rfl⟩
  obtain ⟨er, her⟩ : ∃ x, x = (whereZ n L t).2.2 := ⟨_, rfl⟩
  have HAX := Lib.hid hax
  have HAY := Lib.hid hay
  have HBX := Lib.hid hbx
  have HBY := Lib.hid hby
  have HER := Lib.hid her
  clear her hby hbx hay hax
  go_wp2_with fail
  refine (where_any ad b off n cap L t _ (HR.out.frm HX.out.2 (Nat.le_refl _))).mono ?_; rintro e w2 ⟨rfl, hf1⟩
  rw [← HAX.out, ← HAY.out, ← HBX.out, ← HBY.out, ← HER.out]
  replace HX := Lib.hid (boxNext HX.out hf1)
  clear hf1
  go_wp2_with (with_reducible refine atStore 23 rfl ?_; refine stop_ ?_)
  refine go_on ?_
  obtain ⟨p2, hp2⟩ : ∃ p, p = w2.heap.size := ⟨_, rfl⟩
  refine wpList_storeNew2 (zs := [.int .i64 0, .int .i64 0]) (cs := [.int .i64 ax, .int .i64 ay]) (ds := [.int .i64 bx, .int .i64 bz]) rfl rfl rfl rfl rfl rfl rfl rfl rfl rfl rfl rfl (by kernel_rfl) (by simp [Value.oneCell']) (by simp [Value.oneCell']) ?_
  intro V2 hf1 g2 f2
  rw [← hp2] at g2 f2 ⊢
  clear hp2
  replace HX := Lib.hid (boxNext HX.out hf1)
  clear hf1
  have G2 := Lib.hid g2
  have F2 := Lib.hid f2
  clear f2 g2
  go_wp2_with fail
  refine (refWhere_any ad b off n cap L t _ (HR.out.frm HX.out.2 (Nat.le_refl _))).mono ?_; rintro e w3 ⟨rfl, hf1⟩
  rw [← HAX.out, ← HAY.out, ← HBX.out, ← HBY.out, ← HER.out]
  replace HX := Lib.hid (boxNext HX.out hf1)
  replace G2 := Lib.hid (hf1.blk G2.out G2.out.lt (by simp))
  replace F2 := Lib.hid (hf1.blk F2.out F2.out.lt (by simp))
  clear hf1
  go_wp2_with (with_reducible refine atStore 23 rfl ?_; refine stop_ ?_)
  refine go_on ?_
  obtain ⟨p3, hp3⟩ : ∃ p, p = w3.heap.size := ⟨_, rfl⟩
  refine wpList_storeNew2 (zs := [.int .i64 0, .int .i64 0]) (cs := [.int .i64 ax, .int .i64 ay]) (ds := [.int .i64 bx, .int .i64 bz]) rfl rfl rfl rfl rfl rfl rfl rfl rfl rfl rfl rfl (by kernel_rfl) (by simp [Value.oneCell']) (by simp [Value.oneCell']) ?_
  intro V3 hf1 g3 f3
  rw [← hp3] at g3 f3 ⊢
  clear hp3
  replace HX := Lib.hid (boxNext HX.out hf1)
  replace G2 := Lib.hid (hf1.blk G2.out G2.out.lt (by simp))
  replace F2 := Lib.hid (hf1.blk F2.out F2.out.lt (by simp))
  clear hf1
  have G3 := Lib.hid g3
  have F3 := Lib.hid f3
  clear f3 g3
  obtain ⟨fu, hfu⟩ : ∃ x, x = (leftR u s n L t).1 := ⟨_, rfl⟩
  obtain ⟨fe, hfe⟩ : ∃ x, x = (leftR u s n L t).2 := ⟨_, rfl⟩
  have HFU := Lib.hid hfu
  have HFE := Lib.hid hfe
  clear hfe hfu
  go_wp2_with (with_reducible refine atLoad 25 rfl ?_; refine wpList_loadB (ty := 25) rfl rfl HX.out.1 rfl Tryd.underlying25 rfl HSI.out ?_)
  refine (left_any u s HNM.out ad b off n cap L t _ (HR.out.frm HX.out.2 (Nat.le_refl _))).mono ?_; rintro e w4 ⟨rfl, hf1⟩
  rw [← HFU.out, ← HFE.out]
  replace HX := Lib.hid (boxNext HX.out hf1)
  replace G2 := Lib.hid (hf1.blk G2.out G2.out.lt (by simp))
  replace F2 := Lib.hid (hf1.blk F2.out F2.out.lt (by simp))
  replace G3 := Lib.hid (hf1.blk G3.out G3.out.lt (by simp))
  replace F3 := Lib.hid (hf1.blk F3.out F3.out.lt (by simp))
  clear hf1
  go_wp2_with (with_reducible refine atLoad 25 rfl ?_; refine wpList_loadB (ty := 25) rfl rfl HX.out.1 rfl Tryd.underlying25 rfl HSI.out ?_)
  refine (refLeft_any u s HNM.out ad b off n cap L t _ (HR.out.frm HX.out.2 (Nat.le_refl _))).mono ?_; rintro e w5 ⟨rfl, hf1⟩
  rw [← HFU.out, ← HFE.out]
  replace HX := Lib.hid (boxNext HX.out hf1)
  replace G2 := Lib.hid (hf1.blk G2.out G2.out.lt (by simp))
  replace F2 := Lib.hid (hf1.blk F2.out F2.out.lt (by simp))
  replace G3 := Lib.hid (hf1.blk G3.out G3.out.lt (by simp))
  replace F3 := Lib.hid (hf1.blk F3.out F3.out.lt (by simp))
  clear hf1
  have c0 : w5.cell? ⟨p2, 0, none⟩ = some (.int .i64 ax) := G2.out.cell 0
  have c1 : w5.cell? ⟨p2, 1, none⟩ = some (.int .i64 ay) := G2.out.cell 1
  have c2 : w5.cell? ⟨p2 + 1, 0, none⟩ = some (.int .i64 bx) := F2.out.cell 0
  have c3 : w5.cell? ⟨p2 + 1, 1, none⟩ = some (.int .i64 bz) := F2.out.cell 1
  have c4 : w5.cell? ⟨p3, 0, none⟩ = some (.int .i64 ax) := G3.out.cell 0
  have c5 : w5.cell? ⟨p3, 1, none⟩ = some (.int .i64 ay) := G3.out.cell 1
  have c6 : w5.cell? ⟨p3 + 1, 0, none⟩ = some (.int .i64 bx) := F3.out.cell 0
  have c7 : w5.cell? ⟨p3 + 1, 1, none⟩ = some (.int .i64 bz) := F3.out.cell 1
  go_wp2_with (go_at_call 16; refine (awake_any _ (HGL.out.frm HX.out.2 (Nat.le_refl _))).mono ?_; rintro e w6 ⟨rfl, hf1⟩; replace HX := Lib.hid (boxNext HX.out hf1); clear hf1)
  go_ret
  exact ⟨rfl, HX.out.2⟩

set_option maxRecDepth 100000 in
theorem unitWheres_lifted (os : Os) (started : os.Started) (H : Type) (enc : TypeId × Value → H) :
    ReturnsInHanded {} Tryd.checked os 5 .any (fun w args => (Rows.unitWheresSpec.pre enc Tryd.prog Tryd.f5 [] false w args ∧ laidMetH Tryd.prog laidR w) ∧ sizedMet enc Tryd.prog Tryd.f5 (OpenSpec.ofChange Rows.unitWheresSpec) false w args) (Rows.unitWheresSpec.post enc Tryd.prog Tryd.f5 false true false false) := by
  refine law_liftL (fn := Tryd.f5) (s := Rows.unitWheresSpec) started 3 (by kernel_rfl) Tryd.func5
      (ChangeSpec.witness_shaped (enc := enc) (C := Tryd.checked) (os := os) (X := fun w _ => laidMetH Tryd.prog laidR w) false (World.doorLaid Tryd.prog 400 os)
        #[.agg #[.string ByteArray.empty, .int .i64 0, .int .i64 0, .int .i64 0, .int .i64 0, .int .i64 0, .int .i64 0, .int .i64 0, .int .i64 0, .int .i64 0, .int .i64 0, .int .i64 0], .slice none 0 0, .int .i64 0] 8 rfl
        (World.shaped_of_RefB (by kernel_rfl) (by kernel_rfl)) (by kernel_rfl) (by kernel_rfl) (by kernel_rfl) (door_met os _))
      (by rw [Tryd.params5]; decide +kernel) (by rw [Tryd.params5]; rfl) (by kernel_rfl) rfl (fun ds h => by match ds, h with | [d1, d2, d3], _ => rfl) ?_
  intro W base args ds ps hval hA hgl
  rw [Tryd.params5] at hA hval
  obtain ⟨v0, vs0, d0, ds0, p0, q0, hargs, rfl, rfl, h0, r0⟩ := trodAll_cons hA
  obtain ⟨v1, vs1, d1, ds1, p1, q1, rfl, rfl, rfl, h1, r1⟩ := trodAll_cons r0
  obtain ⟨v2, vs2, d2, ds2, p2, q2, rfl, rfl, rfl, h2, r2⟩ := trodAll_cons r1
  obtain ⟨rfl, rfl, rfl⟩ := trodAll_nil r2
  obtain rfl : args = #[v0, v1, v2] := by cases args; simp_all
  obtain ⟨u, s, rfl, hnm⟩ := open_unit (hval 0 25 v0 rfl rfl)
  obtain ⟨ad, len, cap, b, off, L, rfl, hr⟩ := open_legs (hval 1 39 v1 rfl rfl) h1
  obtain ⟨t, rfl⟩ := okWide_int Tryd.underlying3 (hval 2 3 v2 rfl rfl)
  exact wheres_walk u s hnm ad b off len cap L t W hr hgl

theorem unitWheres_over : Rows.UnitWheresSaid :=
  OpenClaim.holds_of_wide 5 Tryd.f5 rfl rfl rfl rfl rfl rfl rfl ⟨rfl, rfl, rfl, rfl, rfl⟩ rfl rfl rfl rfl rfl (by kernel_rfl) Tryd.func5 (by kernel_rfl)
    (of_decide_eq_true (by kernel_rfl)) (by unfold Func.isWrapper; first | (rw [if_pos (by decide +kernel)]; kernel_rfl) | (rw [if_neg (by decide +kernel)]; exact ⟨rfl, rfl⟩))
    (fun os started H enc _ => unitWheres_lifted os started H enc)
end Go.Proofs.YtghkfopcjdkieaaDoor
