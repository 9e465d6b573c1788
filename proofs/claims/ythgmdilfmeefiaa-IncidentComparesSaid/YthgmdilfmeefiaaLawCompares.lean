/-
  IncidentCompares: what any two reports are to each other is the document's; both orders agree.
-/
import Derived.Test.YthgmdilfmeefiaaBF
namespace Go.Proofs.Ythgmdilfmeefiaa
set_option linter.all false
set_option linter.unusedSimpArgs false
set_option linter.unusedVariables false
open Go.ChangeShapes Go.WideShapes Go.ChangeAt Go.RowKit

theorem cmpA_symm (r1 r2 : Rep) (wd dr : Int) : cmpA r2 r1 wd dr = cmpA r1 r2 wd dr := by
  unfold cmpA
  rw [Bool.and_comm, cmp_symm]
set_option maxRecDepth 100000 in
set_option maxHeartbeats 16000000 in
theorem compares_walk (wd dr : Int) (r1 r2 : Rep) (ad1 ad2 : Option Addr) (cap1 cap2 : Nat) (w : World) (b1 o1 b2 o2 : Nat) (hr1 : RwP w ad1 b1 o1 r1.wh.length r1.wh) (hr2 : RwP w ad2 b2 o2 r2.wh.length r2.wh) :
    Calls Try.prog 3 #[.agg (repC r1 ad1 cap1).toArray, .agg (repC r2 ad2 cap2).toArray, .int .i64 wd, .int .i64 dr] w fun e w' => e = .returned (.bool true) ∧ Frm w.heap.size [] w w' := by
  have hf0 := Try.func3
  obtain ⟨C1, hC1⟩ : ∃ c, c = repC r1 ad1 cap1 := ⟨_, rfl⟩
  obtain ⟨C2, hC2⟩ : ∃ c, c = repC r2 ad2 cap2 := ⟨_, rfl⟩
  obtain ⟨a1, ha1⟩ : ∃ c, c = (cmpA r1 r2 wd dr).1 := ⟨_, rfl⟩
  obtain ⟨a2, ha2⟩ : ∃ c, c = (cmpA r1 r2 wd dr).2 := ⟨_, rfl⟩
  obtain ⟨g1, hg1⟩ : ∃ c, c = greatB r1 := ⟨_, rfl⟩
  obtain ⟨g2, hg2⟩ : ∃ c, c = greatB r2 := ⟨_, rfl⟩
  have hz1 : C1.length = 7 := by rw [hC1]; rfl
  have hz2 : C2.length = 7 := by rw [hC2]; rfl
  have hG1 : ∀ V, Calls Try.prog 9 #[.agg C1.toArray] V fun e w' => e = .returned (.bool g1) ∧ Frm V.heap.size [] V w' := fun V => by rw [hC1, hg1]; exact great_any r1 ad1 cap1 V
  have hG2 : ∀ V, Calls Try.prog 9 #[.agg C2.toArray] V fun e w' => e = .returned (.bool g2) ∧ Frm V.heap.size [] V w' := fun V => by rw [hC2, hg2]; exact great_any r2 ad2 cap2 V
  have hcA : ∀ V, Frm w.heap.size [] w V → Calls Try.prog 11 #[.agg C1.toArray, .agg C2.toArray, .int .i64 wd, .int .i64 dr] V fun e w' => e = .returned (.tuple #[.int .i64 a1, .int .i64 a2]) ∧ Frm V.heap.size [] V w' := fun V hV => by
    rw [hC1, hC2, ha1, ha2]; exact compare_any wd dr r1 r2 ad1 ad2 cap1 cap2 V b1 o1 b2 o2 (hr1.frm hV (Nat.le_refl _)) (hr2.frm hV (Nat.le_refl _))
  have hcB : ∀ V, Frm w.heap.size [] w V → Calls Try.prog 12 #[.agg C1.toArray, .agg C2.toArray, .int .i64 wd, .int .i64 dr] V fun e w' => e = .returned (.tuple #[.int .i64 a1, .int .i64 a2]) ∧ Frm V.heap.size [] V w' := fun V hV => by
    rw [hC1, hC2, ha1, ha2]; exact refCompare_any wd dr r1 r2 ad1 ad2 cap1 cap2 V b1 o1 b2 o2 (hr1.frm hV (Nat.le_refl _)) (hr2.frm hV (Nat.le_refl _))
  have hcC : ∀ V, Frm w.heap.size [] w V → Calls Try.prog 11 #[.agg C2.toArray, .agg C1.toArray, .int .i64 wd, .int .i64 dr] V fun e w' => e = .returned (.tuple #[.int .i64 a1, .int .i64 a2]) ∧ Frm V.heap.size [] V w' := fun V hV => by
    rw [hC1, hC2, ha1, ha2, ← cmpA_symm r1 r2]; exact compare_any wd dr r2 r1 ad2 ad1 cap2 cap1 V b2 o2 b1 o1 (hr2.frm hV (Nat.le_refl _)) (hr1.frm hV (Nat.le_refl _))
  rw [← hC1, ← hC2]
  clear hC1 hC2 ha1 ha2 hg1 hg2 hr1 hr2
  have HZ1 := Lib.hid hz1
  have HZ2 := Lib.hid hz2
  have HG1 := Lib.hid hG1
  have HG2 := Lib.hid hG2
  have HCA := Lib.hid hcA
  have HCB := Lib.hid hcB
  have HCC := Lib.hid hcC
  clear hcC hcB hcA hG2 hG1 hz2 hz1
  go_enter Try.func3, Try.ntmps3
  go_upto_region 1 with fail
  refine namedC ?_; intro W hW
  have k1 : Blk W w.heap.size 24 C1 := by rw [hW]; refine Blk.alloc' ?_; exact Blk.new w 24 C1
  have k2 : Blk W (w.heap.size + 1) 24 C2 := by rw [hW]; exact Blk.new' _ 24 C2 (by simp)
  have hf : Frm w.heap.size [] w W := by rw [hW]; repeat (first | with_reducible exact Frm.refl _ _ _ | with_reducible refine Frm.drewN ?_ | with_reducible refine Frm.drew ?_ | ((with_reducible refine Frm.setCell' ?_ ?_); · first | (left; simp; done) | (right; simp; done) | (right; simp; omega)) | ((with_reducible refine Frm.alloc' ?_ ?_); · first | exact Nat.le_refl _ | (simp; done) | (simp; omega)))
  clear hW hf0
  have HF := Lib.hid hf
  have K1 := Lib.hid k1
  have K2 := Lib.hid k2
  clear k2 k1 hf
  go_wp2_with (with_reducible refine atLoad 24 rfl ?_; first | refine wpList_loadE rfl rfl rfl (load24 K1.out HZ1.out) ?_ | refine wpList_loadE rfl rfl rfl (load24 K2.out HZ2.out) ?_)
  refine (HG1.out W).mono ?_; rintro e w1 ⟨rfl, hf1⟩
  have hf := HF.out.call hf1 HF.out.size (by simp)
  have k1 := hf1.blk K1.out K1.out.lt (by simp)
  have k2 := hf1.blk K2.out K2.out.lt (by simp)
  clear hf1 HF K1 K2
  have HF := Lib.hid hf
  have K1 := Lib.hid k1
  have K2 := Lib.hid k2
  clear k2 k1 hf
  cases g1
  rotate_left
  · go_wp2_with fail
    refine (awake_any w1).mono ?_; rintro e w2 ⟨rfl, hf1⟩
    have hf := HF.out.call hf1 HF.out.size (by simp)
    clear hf1 HF
    have HF := Lib.hid hf
    clear hf
    go_wp2_with fail
    go_ret
    exact ⟨rfl, HF.out⟩
  go_wp2_with (with_reducible refine atLoad 24 rfl ?_; first | refine wpList_loadGE rfl rfl rfl (load24 K1.out HZ1.out) ?_ | refine wpList_loadGE rfl rfl rfl (load24 K2.out HZ2.out) ?_)
  refine (HG2.out w1).mono ?_; rintro e w2 ⟨rfl, hf1⟩
  have hf := HF.out.call hf1 HF.out.size (by simp)
  have k1 := hf1.blk K1.out K1.out.lt (by simp)
  have k2 := hf1.blk K2.out K2.out.lt (by simp)
  clear hf1 HF K1 K2
  have HF := Lib.hid hf
  have K1 := Lib.hid k1
  have K2 := Lib.hid k2
  clear k2 k1 hf
  cases g2
  rotate_left
  · go_wp2_with fail
    refine (awake_any w2).mono ?_; rintro e w3 ⟨rfl, hf1⟩
    have hf := HF.out.call hf1 HF.out.size (by simp)
    clear hf1 HF
    have HF := Lib.hid hf
    clear hf
    go_wp2_with fail
    go_ret
    exact ⟨rfl, HF.out⟩
  go_wp2_with (with_reducible refine atLoad 24 rfl ?_; first | refine wpList_loadE rfl rfl rfl (load24 K1.out HZ1.out) ?_ | refine wpList_loadE rfl rfl rfl (load24 K2.out HZ2.out) ?_)
  refine (HCA.out w2 HF.out).mono ?_; rintro e w3 ⟨rfl, hf1⟩
  have hf := HF.out.call hf1 HF.out.size (by simp)
  have k1 := hf1.blk K1.out K1.out.lt (by simp)
  have k2 := hf1.blk K2.out K2.out.lt (by simp)
  clear hf1 HF K1 K2
  have HF := Lib.hid hf
  have K1 := Lib.hid k1
  have K2 := Lib.hid k2
  clear k2 k1 hf
  go_wp2_with (with_reducible refine atLoad 24 rfl ?_; first | refine wpList_loadE rfl rfl rfl (load24 K1.out HZ1.out) ?_ | refine wpList_loadE rfl rfl rfl (load24 K2.out HZ2.out) ?_)
  refine (HCB.out w3 HF.out).mono ?_; rintro e w4 ⟨rfl, hf1⟩
  have hf := HF.out.call hf1 HF.out.size (by simp)
  have k1 := hf1.blk K1.out K1.out.lt (by simp)
  have k2 := hf1.blk K2.out K2.out.lt (by simp)
  clear hf1 HF K1 K2
  have HF := Lib.hid hf
  have K1 := Lib.hid k1
  have K2 := Lib.hid k2
  clear k2 k1 hf
  go_wp2_with (with_reducible refine atLoad 24 rfl ?_; first | refine wpList_loadE rfl rfl rfl (load24 K1.out HZ1.out) ?_ | refine wpList_loadE rfl rfl rfl (load24 K2.out HZ2.out) ?_)
  refine (HCC.out w4 HF.out).mono ?_; rintro e w5 ⟨rfl, hf1⟩
  have hf := HF.out.call hf1 HF.out.size (by simp)
  have k1 := hf1.blk K1.out K1.out.lt (by simp)
  have k2 := hf1.blk K2.out K2.out.lt (by simp)
  clear hf1 HF K1 K2
  have HF := Lib.hid hf
  have K1 := Lib.hid k1
  have K2 := Lib.hid k2
  clear k2 k1 hf
  go_wp2_with fail
  refine (awake_any w5).mono ?_; rintro e w6 ⟨rfl, hf1⟩
  have hf := HF.out.call hf1 HF.out.size (by simp)
  clear hf1 HF
  have HF := Lib.hid hf
  clear hf
  go_wp2_with fail
  go_ret
  exact ⟨rfl, HF.out⟩
set_option maxRecDepth 100000 in
theorem incidentCompares_lifted (os : Os) (started : os.Started) (H : Type) (enc : TypeId × Value → H) :
    ReturnsInHanded {} Try.checked os 3 .any (Rows.incidentComparesSpec.pre6 enc Try.prog Try.f3 Rows.incidentComparesRow.domain false) (Rows.incidentComparesSpec.post enc Try.prog Try.f3 false true false false) := by
  refine law_lift (fn := Try.f3) (s := Rows.incidentComparesSpec) (conds := Rows.incidentComparesRow.domain) started 4 (by kernel_rfl) Try.func3
      (ChangeSpec.witness6 (enc := enc) (C := Try.checked) false ⟨#[], #[.agg #[.int .i64 0, .int .i64 0, .string ⟨#[]⟩, .string ⟨#[]⟩, .slice none 0 0, .int .i64 0, .int .i64 0], .agg #[.int .i64 0, .int .i64 0, .string ⟨#[]⟩, .string ⟨#[]⟩, .slice none 0 0, .int .i64 0, .int .i64 0], .int .i64 0, .int .i64 0], []⟩ 8 (by kernel_rfl) (by kernel_rfl) (by kernel_rfl) (by kernel_rfl))
      (by rw [Try.params3]; decide +kernel) (by rw [Try.params3]; rfl) (by kernel_rfl) rfl (fun ds h => by match ds, h with | [d1, d2, d3, d4], _ => rfl) ?_
  intro W base args ds ps hval hA
  rw [Try.params3] at hA hval
  obtain ⟨v0, vs0, d0, ds0, p0, q0, hargs, rfl, rfl, h0, r0⟩ := trodAll_cons hA
  obtain ⟨v1, vs1, d1, ds1, p1, q1, rfl, rfl, rfl, h1, r1⟩ := trodAll_cons r0
  obtain ⟨v2, vs2, d2, ds2, p2, q2, rfl, rfl, rfl, h2, r2⟩ := trodAll_cons r1
  obtain ⟨v3, vs3, d3, ds3, p3, q3, rfl, rfl, rfl, h3, r3⟩ := trodAll_cons r2
  obtain ⟨rfl, rfl, rfl⟩ := trodAll_nil r3
  obtain rfl : args = #[v0, v1, v2, v3] := by cases args; simp_all
  obtain ⟨ra, ad1, b1, o1, cap1, rfl, hr1⟩ := open_rep (hval 0 24 v0 rfl rfl) h0
  obtain ⟨rb, ad2, b2, o2, cap2, rfl, hr2⟩ := open_rep (hval 1 24 v1 rfl rfl) h1
  obtain ⟨wd, rfl⟩ := okWide_int Try.underlying3 (hval 2 3 v2 rfl rfl)
  obtain ⟨dr, rfl⟩ := okWide_int Try.underlying3 (hval 3 3 v3 rfl rfl)
  exact compares_walk wd dr ra rb ad1 ad2 cap1 cap2 W b1 o1 b2 o2 hr1 hr2

theorem incidentCompares_over : Rows.incidentComparesRow.holds Try.pinned (OpenSpec.ofChange Rows.incidentComparesSpec) :=
  OpenClaim.holds_of_wide 3 Try.f3 rfl rfl rfl rfl rfl rfl rfl ⟨rfl, rfl, rfl, rfl, rfl⟩ rfl rfl rfl rfl rfl (by kernel_rfl) Try.func3 (by kernel_rfl)
    (of_decide_eq_true (by kernel_rfl)) (by unfold Func.isWrapper; first | (rw [if_pos (by decide +kernel)]; kernel_rfl) | (rw [if_neg (by decide +kernel)]; exact ⟨rfl, rfl⟩))
    (fun os started H enc _ => incidentCompares_lifted os started H enc)

/-- The statement. -/
theorem incidentCompares_proved : Rows.IncidentComparesSaid := incidentCompares_over
end Go.Proofs.Ythgmdilfmeefiaa
