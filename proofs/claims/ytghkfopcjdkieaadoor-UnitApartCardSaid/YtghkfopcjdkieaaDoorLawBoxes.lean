/-
  The space that any legs take is the document's.
-/
import Derived.Test.YtghkfopcjdkieaaDoorLawWheres
import Derived.Test.YtghkfopcjdkieaaDoorR8
namespace Go.Proofs.YtghkfopcjdkieaaDoor
open Go.ChangeShapes Go.WideShapes Go.ChangeAt Go.RowKit

def boxAt (l : List BC) (i : Nat) : BC := (l[i]?).getD ⟨0, 0, 0, 0, 0, 0, 0⟩
theorem boxC_range (l : List BC) : boxC l = (List.range l.length).flatMap fun i => (boxAt l i).cells := by
  have h : l = (List.range l.length).map (boxAt l) := by
    apply List.ext_getElem?
    intro i
    rw [List.getElem?_map]
    by_cases hi : i < l.length
    · rw [List.getElem?_range hi, List.getElem?_eq_getElem hi]
      simp [boxAt, List.getElem?_eq_getElem hi]
    · rw [List.getElem?_eq_none (by omega), List.getElem?_eq_none (by simp; omega)]
      rfl
  unfold boxC
  rw [List.flatMap_def, List.flatMap_def]
  congr 1
  conv => lhs; rw [h]
  rw [List.map_map]
  rfl
/-- What 'Boxes' says: an error, or the boxes. -/
def boxesO (u : UC) (s : ByteArray) (n : Nat) (L : Nat → LC) (p : Int) : Option Int := if (unitB u s && legsB n L) = false then some 2 else if inB p 1 20 = false then some 4 else none
def BoxesIs (u : UC) (n : Nat) (L : Nat → LC) (p : Int) (o : Option Int) (w w' : World) (e : Ending) : Prop :=
  Frm w.heap.size [] w w' ∧ match o with
    | some z => e = .returned (.tuple #[.slice none 0 0, .int .i64 z])
    | none => ∃ v own, e = .returned (.tuple #[v, .int .i64 0]) ∧ Sl w' 87 7 v (boxesOf u L p.toNat n).length ((List.range (boxesOf u L p.toNat n).length).flatMap fun i => (boxAt (boxesOf u L p.toNat n) i).cells) own ∧ (∀ b, own = some b → w.heap.size ≤ b)
theorem boxesIs_of {u : UC} {s : ByteArray} {n : Nat} {L : Nat → LC} {p : Int} {w w' : World} {e : Ending}
    (h : Frm w.heap.size [] w w' ∧
      (((unitB u s && legsB n L) = false ∧ e = .returned (.tuple #[.slice none 0 0, .int .i64 2])) ∨
       ((unitB u s && legsB n L) = true ∧ inB p 1 20 = false ∧ e = .returned (.tuple #[.slice none 0 0, .int .i64 4])) ∨
       ((unitB u s && legsB n L) = true ∧ inB p 1 20 = true ∧ ∃ v own, e = .returned (.tuple #[v, .int .i64 0]) ∧ Sl w' 87 7 v (boxesOf u L p.toNat n).length (boxC (boxesOf u L p.toNat n)) own ∧ (∀ b, own = some b → w.heap.size ≤ b)))) : BoxesIs u n L p (boxesO u s n L p) w w' e := by
  refine ⟨h.1, ?_⟩
  rcases h.2 with ⟨h1, h2⟩ | ⟨h1, h2, h3⟩ | ⟨h1, h2, v, own, h3, h4, h5⟩
  · have : boxesO u s n L p = some 2 := by unfold boxesO; rw [if_pos h1]
    rw [this]; exact h2
  · have : boxesO u s n L p = some 4 := by unfold boxesO; rw [if_neg (by rw [h1]; simp), if_pos h2]
    rw [this]; exact h3
  · have : boxesO u s n L p = none := by unfold boxesO; rw [if_neg (by rw [h1]; simp), if_neg (by rw [h2]; simp)]
    rw [this]
    exact ⟨v, own, h3, by rw [← boxC_range]; exact h4, h5⟩

set_option maxRecDepth 100000 in
set_option maxHeartbeats 4000000 in
theorem boxes_walk (u : UC) (s : ByteArray) (hnm : u.name = .string s) (ad : Option Addr) (b off n cap : Nat) (L : Nat → LC) (p : Int) (w : World) (hr : Rw w 8 ad b off n fun i => (L i).cells) (hgl : Glob w) :
    Calls Tryd.prog 8 #[.agg u.cells.toArray, .slice ad n cap, .int .i64 p] w fun e w' => e = .returned (.bool true) ∧ Frm w.heap.size [] w w' := by
  have hf0 := Tryd.func8
  have HR := Lib.hid hr
  have HGL := Lib.hid hgl
  have HNM := Lib.hid hnm
  clear hnm hgl hr
  go_enter Tryd.func8, Tryd.ntmps8
  go_upto_region 1 with fail
  refine namedC ?_; intro W hW
  have hb : Blk W w.heap.size 25 u.cells := by rw [hW]; exact Blk.new w 25 u.cells
  have hf : Frm w.heap.size [] w W := by rw [hW]; repeat (first | with_reducible exact Frm.refl _ _ _ | with_reducible refine Frm.drewN ?_ | with_reducible refine Frm.drew ?_ | ((with_reducible refine Frm.setCell' ?_ ?_); · first | (left; simp; done) | (right; simp; done) | (right; simp; omega)) | ((with_reducible refine Frm.alloc' ?_ ?_); · first | exact Nat.le_refl _ | (simp; done) | (simp; omega)))
  clear hW hf0
  have HX := Lib.hid (And.intro hb hf)
  clear hb hf
  have hsi := UC.info u
  have HSI := Lib.hid hsi
  clear hsi
  by_cases hg : 100 < s.size
  · have hgd : decide (100 < s.size) = true := by simp [hg]
    have HGD := Lib.hid hgd
    clear hgd
    go_wp2_with (first | (with_reducible refine atLoad 25 rfl ?_; refine wpList_loadB (ty := 25) rfl rfl HX.out.1 rfl Tryd.underlying25 rfl HSI.out ?_) | (go_at_call 15; refine (great_any u s HNM.out _).mono ?_; rintro e w1 ⟨rfl, hf1⟩; rw [HGD.out]; replace HX := Lib.hid (boxNext HX.out hf1); clear hf1) | (go_at_call 16; refine (awake_any _ (HGL.out.frm HX.out.2 (Nat.le_refl _))).mono ?_; rintro e w1 ⟨rfl, hf1⟩; replace HX := Lib.hid (boxNext HX.out hf1); clear hf1))
    go_ret
    exact ⟨rfl, HX.out.2⟩
  have hgd : decide (100 < s.size) = false := by simp [hg]
  have HGD := Lib.hid hgd
  clear hgd
  by_cases hn : 60 < n
  · have hn' : (60 : Int) < (n : Int) := by omega
    go_wp2_with (first | (with_reducible refine atLoad 25 rfl ?_; refine wpList_loadB (ty := 25) rfl rfl HX.out.1 rfl Tryd.underlying25 rfl HSI.out ?_) | (go_at_call 15; refine (great_any u s HNM.out _).mono ?_; rintro e w1 ⟨rfl, hf1⟩; rw [HGD.out]; replace HX := Lib.hid (boxNext HX.out hf1); clear hf1) | (go_at_call 16; refine (awake_any _ (HGL.out.frm HX.out.2 (Nat.le_refl _))).mono ?_; rintro e w1 ⟨rfl, hf1⟩; replace HX := Lib.hid (boxNext HX.out hf1); clear hf1))
    go_ret
    exact ⟨rfl, HX.out.2⟩
  have hn' : ¬ (60 : Int) < (n : Int) := by omega
  go_upto_region 3 with (first | (with_reducible refine atLoad 25 rfl ?_; refine wpList_loadB (ty := 25) rfl rfl HX.out.1 rfl Tryd.underlying25 rfl HSI.out ?_) | (go_at_call 15; refine (great_any u s HNM.out _).mono ?_; rintro e w1 ⟨rfl, hf1⟩; rw [HGD.out]; replace HX := Lib.hid (boxNext HX.out hf1); clear hf1) | (go_at_call 16; refine (awake_any _ (HGL.out.frm HX.out.2 (Nat.le_refl _))).mono ?_; rintro e w1 ⟨rfl, hf1⟩; replace HX := Lib.hid (boxNext HX.out hf1); clear hf1))
  obtain ⟨o, ho⟩ : ∃ o, o = boxesO u s n L p := ⟨_, rfl⟩
  have hn1 : n ≤ 1000 := by omega
  have HO := Lib.hid ho
  have HN1 := Lib.hid hn1
  clear hn1 ho
  go_wp2_with (with_reducible refine atLoad 25 rfl ?_; refine wpList_loadB (ty := 25) rfl rfl HX.out.1 rfl Tryd.underlying25 rfl HSI.out ?_)
  refine (boxes_any u s HNM.out ad b off n cap L p _ (HR.out.frm HX.out.2 (Nat.le_refl _)) HN1.out).mono ?_
  intro e w3 hp1
  have hp1 := boxesIs_of hp1
  rw [← HO.out] at hp1
  obtain ⟨hf3, hp1⟩ := hp1
  replace HX := Lib.hid (boxNext HX.out hf3)
  clear hf3
  cases o with
  | some z =>
    dsimp only at hp1
    subst hp1
    go_wp2_with (with_reducible refine atLoad 25 rfl ?_; refine wpList_loadB (ty := 25) rfl rfl HX.out.1 rfl Tryd.underlying25 rfl HSI.out ?_)
    refine (refBoxes_any u s HNM.out ad b off n cap L p _ (HR.out.frm HX.out.2 (Nat.le_refl _)) HN1.out).mono ?_
    intro e w4 hp2
    have hp2 := boxesIs_of hp2
    rw [← HO.out] at hp2
    obtain ⟨hf4, hp2⟩ := hp2
    dsimp only at hp2
    subst hp2
    replace HX := Lib.hid (boxNext HX.out hf4)
    clear hf4
    go_wp2_with (first | (go_at_call 35; refine (sameBoxes_any none 0 0 0 0 (fun _ => ⟨0, 0, 0, 0, 0, 0, 0⟩) none 0 0 0 0 (fun _ => ⟨0, 0, 0, 0, 0, 0, 0⟩) _ ⟨fun h => absurd h (by omega), Nat.zero_le _, fun i hi => absurd hi (by omega)⟩ ⟨fun h => absurd h (by omega), Nat.zero_le _, fun i hi => absurd hi (by omega)⟩ rfl (fun i hi => absurd hi (by omega))).mono ?_; rintro e w5 ⟨rfl, hf1⟩; replace HX := Lib.hid (boxNext HX.out hf1); clear hf1) | (go_at_call 16; refine (awake_any _ (HGL.out.frm HX.out.2 (Nat.le_refl _))).mono ?_; rintro e w6 ⟨rfl, hf1⟩; replace HX := Lib.hid (boxNext HX.out hf1); clear hf1))
    go_ret
    exact ⟨rfl, HX.out.2⟩
  | none =>
    dsimp only at hp1
    obtain ⟨N, hN⟩ : ∃ N, N = (boxesOf u L p.toNat n).length := ⟨_, rfl⟩
    obtain ⟨F, hF⟩ : ∃ F, F = boxAt (boxesOf u L p.toNat n) := ⟨_, rfl⟩
    rw [← hN, ← hF] at hp1
    obtain ⟨ov, own, rfl, hsl, hown⟩ := hp1
    obtain ⟨oa, ob, oo, ocap, rfl, hrw⟩ := hsl.rw (fun i => rfl)
    clear hsl hown
    have HRW := Lib.hid hrw
    have HN := Lib.hid hN
    have HFF := Lib.hid hF
    clear hF hN hrw
    go_wp2_with (with_reducible refine atLoad 25 rfl ?_; refine wpList_loadB (ty := 25) rfl rfl HX.out.1 rfl Tryd.underlying25 rfl HSI.out ?_)
    refine (refBoxes_any u s HNM.out ad b off n cap L p _ (HR.out.frm HX.out.2 (Nat.le_refl _)) HN1.out).mono ?_
    intro e w4 hp2
    have hp2 := boxesIs_of hp2
    rw [← HO.out] at hp2
    obtain ⟨hf4, hp2⟩ := hp2
    dsimp only at hp2
    rw [← HN.out, ← HFF.out] at hp2
    obtain ⟨ov2, own2, rfl, hsl2, hown2⟩ := hp2
    obtain ⟨oa2, ob2, oo2, ocap2, rfl, hrw2⟩ := hsl2.rw (fun i => rfl)
    have hrw := HRW.out.frm hf4 (Nat.le_refl _)
    clear hsl2 hown2 HRW
    replace HX := Lib.hid (boxNext HX.out hf4)
    clear hf4
    have HRW := Lib.hid hrw
    have HRW2 := Lib.hid hrw2
    clear hrw2 hrw
    go_wp2_with (first | (go_at_call 35; refine (sameBoxes_any oa ob oo N ocap F oa2 ob2 oo2 N ocap2 F _ HRW.out HRW2.out rfl (fun i hi => rfl)).mono ?_; rintro e w5 ⟨rfl, hf1⟩; replace HX := Lib.hid (boxNext HX.out hf1); clear hf1) | (go_at_call 16; refine (awake_any _ (HGL.out.frm HX.out.2 (Nat.le_refl _))).mono ?_; rintro e w6 ⟨rfl, hf1⟩; replace HX := Lib.hid (boxNext HX.out hf1); clear hf1))
    go_ret
    exact ⟨rfl, HX.out.2⟩

set_option maxRecDepth 100000 in
theorem unitBoxes_lifted (os : Os) (started : os.Started) (H : Type) (enc : TypeId × Value → H) :
    ReturnsInHanded {} Tryd.checked os 8 .any (fun w args => (Rows.unitBoxesSpec.pre enc Tryd.prog Tryd.f8 [] false w args ∧ laidMetH Tryd.prog laidR w) ∧ sizedMet enc Tryd.prog Tryd.f8 (OpenSpec.ofChange Rows.unitBoxesSpec) false w args) (Rows.unitBoxesSpec.post enc Tryd.prog Tryd.f8 false true false false) := by
  refine law_liftL (fn := Tryd.f8) (s := Rows.unitBoxesSpec) started 3 (by kernel_rfl) Tryd.func8
      (ChangeSpec.witness_shaped (enc := enc) (C := Tryd.checked) (os := os) (X := fun w _ => laidMetH Tryd.prog laidR w) false (World.doorLaid Tryd.prog 400 os)
        #[.agg #[.string ByteArray.empty, .int .i64 0, .int .i64 0, .int .i64 0, .int .i64 0, .int .i64 0, .int .i64 0, .int .i64 0, .int .i64 0, .int .i64 0, .int .i64 0, .int .i64 0], .slice none 0 0, .int .i64 0] 8 rfl
        (World.shaped_of_RefB (by kernel_rfl) (by kernel_rfl)) (by kernel_rfl) (by kernel_rfl) (by kernel_rfl) (door_met os _))
      (by rw [Tryd.params8]; decide +kernel) (by rw [Tryd.params8]; rfl) (by kernel_rfl) rfl (fun ds h => by match ds, h with | [d1, d2, d3], _ => rfl) ?_
  intro W base args ds ps hval hA hgl
  rw [Tryd.params8] at hA hval
  obtain ⟨v0, vs0, d0, ds0, p0, q0, hargs, rfl, rfl, h0, r0⟩ := trodAll_cons hA
  obtain ⟨v1, vs1, d1, ds1, p1, q1, rfl, rfl, rfl, h1, r1⟩ := trodAll_cons r0
  obtain ⟨v2, vs2, d2, ds2, p2, q2, rfl, rfl, rfl, h2, r2⟩ := trodAll_cons r1
  obtain ⟨rfl, rfl, rfl⟩ := trodAll_nil r2
  obtain rfl : args = #[v0, v1, v2] := by cases args; simp_all
  obtain ⟨u, s, rfl, hnm⟩ := open_unit (hval 0 25 v0 rfl rfl)
  obtain ⟨ad, len, cap, b, off, L, rfl, hr⟩ := open_legs (hval 1 39 v1 rfl rfl) h1
  obtain ⟨t, rfl⟩ := okWide_int Tryd.underlying3 (hval 2 3 v2 rfl rfl)
  exact boxes_walk u s hnm ad b off len cap L t W hr hgl

theorem unitBoxes_over : Rows.UnitBoxesSaid :=
  OpenClaim.holds_of_wide 8 Tryd.f8 rfl rfl rfl rfl rfl rfl rfl ⟨rfl, rfl, rfl, rfl, rfl⟩ rfl rfl rfl rfl rfl (by kernel_rfl) Tryd.func8 (by kernel_rfl)
    (of_decide_eq_true (by kernel_rfl)) (by unfold Func.isWrapper; first | (rw [if_pos (by decide +kernel)]; kernel_rfl) | (rw [if_neg (by decide +kernel)]; exact ⟨rfl, rfl⟩))
    (fun os started H enc _ => unitBoxes_lifted os started H enc)
end Go.Proofs.YtghkfopcjdkieaaDoor
