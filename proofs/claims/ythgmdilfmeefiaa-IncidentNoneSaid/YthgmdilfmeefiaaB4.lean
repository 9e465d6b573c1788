/-
  Texts J9, J10 of this claim, one behind the other.
-/
import Derived.Test.YthgmdilfmeefiaaB3
namespace Go.Proofs.Ythgmdilfmeefiaa
set_option linter.all false
set_option linter.unusedSimpArgs false
set_option linter.unusedVariables false
open Go.RowKit

def repC (r : Rep) (ad : Option Addr) (cap : Nat) : List Value := [.int .i64 r.kind, .int .i64 r.time, .string r.src, .string r.abt, .slice ad r.wh.length cap, .int .i64 r.souls, .int .i64 r.trust]
theorem str_nil {s : ByteArray} (h : s.size = 0) : s = { data := #[] } := by
  obtain ⟨⟨l⟩⟩ := s
  have h1 : l.length = 0 := h
  rw [List.length_eq_zero_iff] at h1
  rw [h1]
theorem nil_name {s : ByteArray} (h : s.size = 0) : nameB s = false := by unfold nameB; rw [h]; rfl
theorem lst_not {s : ByteArray} (h : ¬ s.size = 0) : ¬ s.toList = [] := by
  rw [Lib.toList_data]
  intro e
  have h1 : s.size = s.data.toList.length := rfl
  rw [e] at h1
  exact h h1
theorem str_not {s : ByteArray} (h : ¬ s.size = 0) : ¬ s = { data := #[] } := fun e => h (by rw [e]; rfl)
set_option maxRecDepth 100000 in
set_option maxHeartbeats 8000000 in
theorem check_any (r : Rep) (ad : Option Addr) (b off cap : Nat) (w : World) (hr : RwP w ad b off r.wh.length r.wh) :
    Calls Try.prog 29 #[.agg (repC r ad cap).toArray] w fun e w' => e = .returned (.bool (repB r)) ∧ Frm w.heap.size [] w w' := by
  have hf0 := Try.func29
  obtain ⟨kind, time, src, abt, wh, souls, trust⟩ := r
  dsimp only at hr
  obtain ⟨n, hn⟩ : ∃ n, n = wh.length := ⟨_, rfl⟩
  show Calls Try.prog 29 #[.agg #[.int .i64 kind, .int .i64 time, .string src, .string abt, .slice ad wh.length cap, .int .i64 souls, .int .i64 trust]] w _
  have hd : repB ⟨kind, time, src, abt, wh, souls, trust⟩ = (inB kind 1 4 && inB time 0 1073741824 && nameB src && ((decide (abt.size = 0) && decide (kind ≠ 1) && decide (kind ≠ 4)) || nameB abt) && areaB wh && inB souls (-1) 10000 && inB trust 0 1000) := rfl
  rw [← hn] at hr ⊢
  have HN := Lib.hid hn
  have HD := Lib.hid hd
  clear hd hn
  go_enter Try.func29, Try.ntmps29
  go_upto_region 1 with fail
  refine namedC ?_; intro W hW
  have k0 : Blk W w.heap.size 24 [.int .i64 kind, .int .i64 time, .string src, .string abt, .slice ad n cap, .int .i64 souls, .int .i64 trust] := by rw [hW]; exact Blk.new w 24 [.int .i64 kind, .int .i64 time, .string src, .string abt, .slice ad n cap, .int .i64 souls, .int .i64 trust]
  have hf : Frm w.heap.size [] w W := by rw [hW]; repeat (first | with_reducible exact Frm.refl _ _ _ | with_reducible refine Frm.drewN ?_ | with_reducible refine Frm.drew ?_ | ((with_reducible refine Frm.setCell' ?_ ?_); · first | (left; simp; done) | (right; simp; done) | (right; simp; omega)) | ((with_reducible refine Frm.alloc' ?_ ?_); · first | exact Nat.le_refl _ | (simp; done) | (simp; omega)))
  have hr1 := hr.frm hf (Nat.le_refl _)
  have c0 : W.cell? ⟨w.heap.size, 0, none⟩ = some (.int .i64 kind) := k0.cell 0
  have c1 : W.cell? ⟨w.heap.size, 1, none⟩ = some (.int .i64 time) := k0.cell 1
  have c2 : W.cell? ⟨w.heap.size, 2, none⟩ = some (.string src) := k0.cell 2
  have c3 : W.cell? ⟨w.heap.size, 3, none⟩ = some (.string abt) := k0.cell 3
  have c4 : W.cell? ⟨w.heap.size, 4, none⟩ = some (.slice ad n cap) := k0.cell 4
  have c5 : W.cell? ⟨w.heap.size, 5, none⟩ = some (.int .i64 souls) := k0.cell 5
  have c6 : W.cell? ⟨w.heap.size, 6, none⟩ = some (.int .i64 trust) := k0.cell 6
  clear hW hf0 hr
  have HF := Lib.hid hf
  have K0 := Lib.hid k0
  have HR := Lib.hid hr1
  clear hr1 k0 hf
  cases h1 : inB kind 1 4
  · have H1 := Lib.hid h1
    clear h1
    go_wp2_with (go_at_call 54; refine (withinR_any _ _ _ _).mono ?_; rintro e w' ⟨rfl, rfl⟩; rw [H1.out])
    go_ret
    exact ⟨by rw [HD.out, H1.out]; rfl, HF.out⟩
  have hk := inB_iff.1 h1
  have H1 := Lib.hid h1
  clear h1
  cases h2 : inB time 0 1073741824
  · have H2 := Lib.hid h2
    clear h2
    go_wp2_with (go_at_call 54; refine (withinR_any _ _ _ _).mono ?_; rintro e w' ⟨rfl, rfl⟩; first | rw [H1.out] | rw [H2.out])
    go_ret
    exact ⟨by rw [HD.out, H1.out, H2.out]; rfl, HF.out⟩
  have H2 := Lib.hid h2
  clear h2
  go_wp2_with (go_at_call 54; refine (withinR_any _ _ _ _).mono ?_; rintro e w' ⟨rfl, rfl⟩; first | rw [H1.out] | rw [H2.out])
  refine (named_any src W).mono ?_; rintro e w1 ⟨rfl, hf1⟩
  have hf := HF.out.call hf1 HF.out.size (by simp)
  have k0 := hf1.blk K0.out K0.out.lt (by simp)
  have hr1 := HR.out.frm hf1 (Nat.le_refl _)
  clear hf1 HF K0 HR c0 c1 c2 c3 c4 c5 c6
  have c0 : w1.cell? ⟨w.heap.size, 0, none⟩ = some (.int .i64 kind) := k0.cell 0
  have c1 : w1.cell? ⟨w.heap.size, 1, none⟩ = some (.int .i64 time) := k0.cell 1
  have c2 : w1.cell? ⟨w.heap.size, 2, none⟩ = some (.string src) := k0.cell 2
  have c3 : w1.cell? ⟨w.heap.size, 3, none⟩ = some (.string abt) := k0.cell 3
  have c4 : w1.cell? ⟨w.heap.size, 4, none⟩ = some (.slice ad n cap) := k0.cell 4
  have c5 : w1.cell? ⟨w.heap.size, 5, none⟩ = some (.int .i64 souls) := k0.cell 5
  have c6 : w1.cell? ⟨w.heap.size, 6, none⟩ = some (.int .i64 trust) := k0.cell 6
  have HF := Lib.hid hf
  have K0 := Lib.hid k0
  have HR := Lib.hid hr1
  clear hr1 k0 hf
  cases h3 : nameB src
  · have H3 := Lib.hid h3
    clear h3
    go_wp2_with fail
    go_ret
    exact ⟨by rw [HD.out, H1.out, H2.out, H3.out]; rfl, HF.out⟩
  have H3 := Lib.hid h3
  clear h3
  go_upto_region 5 with fail
  by_cases h0 : abt.size = 0
  · have hl : abt.toList = [] := by rw [str_nil h0, Lib.toList_data]
    have hl2 : abt.toList.isEmpty = true := by rw [hl]; rfl
    by_cases h5 : kind = 1
    · subst h5
      go_wp2_with fail
      go_ret
      exact ⟨by rw [HD.out, H1.out, H2.out, H3.out, nil_name h0]; simp, HF.out⟩
    by_cases h6 : kind = 4
    · subst h6
      go_wp2_with fail
      go_ret
      exact ⟨by rw [HD.out, H1.out, H2.out, H3.out, nil_name h0]; simp, HF.out⟩
    have hd : repB ⟨kind, time, src, abt, wh, souls, trust⟩ = (areaB wh && inB souls (-1) 10000 && inB trust 0 1000) := by
      rw [HD.out, H1.out, H2.out, H3.out, decide_eq_true h5, decide_eq_true h6, decide_eq_true h0]
      simp
    clear HD
    have x5 : (kind == 1) = false := by simp [h5]
    have x6 : (kind == 4) = false := by simp [h6]
    have HD := Lib.hid hd
    clear hd
    go_wp2_with fail
    refine (area_any ad b off n cap wh HN.out w1 HR.out).mono ?_; rintro e w2 ⟨rfl, hf2⟩
    have hf := HF.out.call hf2 HF.out.size (by simp)
    have k0 := hf2.blk K0.out K0.out.lt (by simp)
    have hr1 := HR.out.frm hf2 (Nat.le_refl _)
    clear hf2 HF K0 HR c0 c1 c2 c3 c4 c5 c6
    have c0 : w2.cell? ⟨w.heap.size, 0, none⟩ = some (.int .i64 kind) := k0.cell 0
    have c1 : w2.cell? ⟨w.heap.size, 1, none⟩ = some (.int .i64 time) := k0.cell 1
    have c2 : w2.cell? ⟨w.heap.size, 2, none⟩ = some (.string src) := k0.cell 2
    have c3 : w2.cell? ⟨w.heap.size, 3, none⟩ = some (.string abt) := k0.cell 3
    have c4 : w2.cell? ⟨w.heap.size, 4, none⟩ = some (.slice ad n cap) := k0.cell 4
    have c5 : w2.cell? ⟨w.heap.size, 5, none⟩ = some (.int .i64 souls) := k0.cell 5
    have c6 : w2.cell? ⟨w.heap.size, 6, none⟩ = some (.int .i64 trust) := k0.cell 6
    have HF := Lib.hid hf
    have K0 := Lib.hid k0
    have HR := Lib.hid hr1
    clear hr1 k0 hf
    cases h5 : areaB wh
    · have H5 := Lib.hid h5
      clear h5
      go_wp2_with fail
      go_ret
      exact ⟨by rw [HD.out, H5.out]; rfl, HF.out⟩
    have H5 := Lib.hid h5
    clear h5
    cases h6 : inB souls (-1) 10000
    · have H6 := Lib.hid h6
      clear h6
      go_wp2_with (go_at_call 54; refine (withinR_any _ _ _ _).mono ?_; rintro e w' ⟨rfl, rfl⟩; rw [H6.out])
      go_ret
      exact ⟨by rw [HD.out, H5.out, H6.out]; rfl, HF.out⟩
    have H6 := Lib.hid h6
    clear h6
    obtain ⟨b7, h7⟩ : ∃ b, b = inB trust 0 1000 := ⟨_, rfl⟩
    have h7' := h7.symm
    have H7 := Lib.hid h7
    have H7' := Lib.hid h7'
    clear h7' h7
    go_wp2_with (go_at_call 54; refine (withinR_any _ _ _ _).mono ?_; rintro e w' ⟨rfl, rfl⟩; first | rw [H6.out] | rw [H7'.out])
    go_ret
    exact ⟨by rw [HD.out, H5.out, H6.out, ← H7.out]; rfl, HF.out⟩
  have hl : ¬ abt.toList = [] := lst_not h0
  have hl2 : abt.toList.isEmpty = false := by simp [hl]
  go_wp2_with fail
  refine (named_any abt w1).mono ?_; rintro e w2 ⟨rfl, hf2⟩
  have hf := HF.out.call hf2 HF.out.size (by simp)
  have k0 := hf2.blk K0.out K0.out.lt (by simp)
  have hr1 := HR.out.frm hf2 (Nat.le_refl _)
  clear hf2 HF K0 HR c0 c1 c2 c3 c4 c5 c6
  have c0 : w2.cell? ⟨w.heap.size, 0, none⟩ = some (.int .i64 kind) := k0.cell 0
  have c1 : w2.cell? ⟨w.heap.size, 1, none⟩ = some (.int .i64 time) := k0.cell 1
  have c2 : w2.cell? ⟨w.heap.size, 2, none⟩ = some (.string src) := k0.cell 2
  have c3 : w2.cell? ⟨w.heap.size, 3, none⟩ = some (.string abt) := k0.cell 3
  have c4 : w2.cell? ⟨w.heap.size, 4, none⟩ = some (.slice ad n cap) := k0.cell 4
  have c5 : w2.cell? ⟨w.heap.size, 5, none⟩ = some (.int .i64 souls) := k0.cell 5
  have c6 : w2.cell? ⟨w.heap.size, 6, none⟩ = some (.int .i64 trust) := k0.cell 6
  have HF := Lib.hid hf
  have K0 := Lib.hid k0
  have HR := Lib.hid hr1
  clear hr1 k0 hf
  cases h4 : nameB abt
  · have H4 := Lib.hid h4
    clear h4
    go_wp2_with fail
    go_ret
    exact ⟨by rw [HD.out, H1.out, H2.out, H3.out, H4.out, decide_eq_false h0]; simp, HF.out⟩
  have hd : repB ⟨kind, time, src, abt, wh, souls, trust⟩ = (areaB wh && inB souls (-1) 10000 && inB trust 0 1000) := by
    rw [HD.out, H1.out, H2.out, H3.out, h4]
    simp
  clear HD h4
  have HD := Lib.hid hd
  clear hd
  go_wp2_with fail
  refine (area_any ad b off n cap wh HN.out w2 HR.out).mono ?_; rintro e w3 ⟨rfl, hf3⟩
  have hf := HF.out.call hf3 HF.out.size (by simp)
  have k0 := hf3.blk K0.out K0.out.lt (by simp)
  have hr1 := HR.out.frm hf3 (Nat.le_refl _)
  clear hf3 HF K0 HR c0 c1 c2 c3 c4 c5 c6
  have c0 : w3.cell? ⟨w.heap.size, 0, none⟩ = some (.int .i64 kind) := k0.cell 0
  have c1 : w3.cell? ⟨w.heap.size, 1, none⟩ = some (.int .i64 time) := k0.cell 1
  have c2 : w3.cell? ⟨w.heap.size, 2, none⟩ = some (.string src) := k0.cell 2
  have c3 : w3.cell? ⟨w.heap.size, 3, none⟩ = some (.string abt) := k0.cell 3
  have c4 : w3.cell? ⟨w.heap.size, 4, none⟩ = some (.slice ad n cap) := k0.cell 4
  have c5 : w3.cell? ⟨w.heap.size, 5, none⟩ = some (.int .i64 souls) := k0.cell 5
  have c6 : w3.cell? ⟨w.heap.size, 6, none⟩ = some (.int .i64 trust) := k0.cell 6
  have HF := Lib.hid hf
  have K0 := Lib.hid k0
  have HR := Lib.hid hr1
  clear hr1 k0 hf
  cases h5 : areaB wh
  · have H5 := Lib.hid h5
    clear h5
    go_wp2_with fail
    go_ret
    exact ⟨by rw [HD.out, H5.out]; rfl, HF.out⟩
  have H5 := Lib.hid h5
  clear h5
  cases h6 : inB souls (-1) 10000
  · have H6 := Lib.hid h6
    clear h6
    go_wp2_with (go_at_call 54; refine (withinR_any _ _ _ _).mono ?_; rintro e w' ⟨rfl, rfl⟩; rw [H6.out])
    go_ret
    exact ⟨by rw [HD.out, H5.out, H6.out]; rfl, HF.out⟩
  have H6 := Lib.hid h6
  clear h6
  obtain ⟨b7, h7⟩ : ∃ b, b = inB trust 0 1000 := ⟨_, rfl⟩
  have h7' := h7.symm
  have H7 := Lib.hid h7
  have H7' := Lib.hid h7'
  clear h7' h7
  go_wp2_with (go_at_call 54; refine (withinR_any _ _ _ _).mono ?_; rintro e w' ⟨rfl, rfl⟩; first | rw [H6.out] | rw [H7'.out])
  go_ret
  exact ⟨by rw [HD.out, H5.out, H6.out, ← H7.out]; rfl, HF.out⟩
set_option maxRecDepth 100000 in
set_option maxHeartbeats 8000000 in
theorem refCheck_any (r : Rep) (ad : Option Addr) (b off cap : Nat) (w : World) (hr : RwP w ad b off r.wh.length r.wh) :
    Calls Try.prog 32 #[.agg (repC r ad cap).toArray] w fun e w' => e = .returned (.bool (repB r)) ∧ Frm w.heap.size [] w w' := by
  have hf0 := Try.func32
  obtain ⟨kind, time, src, abt, wh, souls, trust⟩ := r
  dsimp only at hr
  obtain ⟨n, hn⟩ : ∃ n, n = wh.length := ⟨_, rfl⟩
  show Calls Try.prog 32 #[.agg #[.int .i64 kind, .int .i64 time, .string src, .string abt, .slice ad wh.length cap, .int .i64 souls, .int .i64 trust]] w _
  have hd : repB ⟨kind, time, src, abt, wh, souls, trust⟩ = (inB kind 1 4 && inB time 0 1073741824 && nameB src && ((decide (abt.size = 0) && decide (kind ≠ 1) && decide (kind ≠ 4)) || nameB abt) && areaB wh && inB souls (-1) 10000 && inB trust 0 1000) := rfl
  rw [← hn] at hr ⊢
  obtain ⟨ab, hab⟩ : ∃ ab, ab = ((decide (abt.size = 0) && decide (kind ≠ 1) && decide (kind ≠ 4)) || nameB abt) := ⟨_, rfl⟩
  rw [← hab] at hd
  have HN := Lib.hid hn
  have HD := Lib.hid hd
  have HAB := Lib.hid hab
  clear hab hd hn
  go_enter Try.func32, Try.ntmps32
  go_upto_region 1 with fail
  refine namedC ?_; intro W hW
  have k0 : Blk W w.heap.size 24 [.int .i64 kind, .int .i64 time, .string src, .string abt, .slice ad n cap, .int .i64 souls, .int .i64 trust] := by rw [hW]; exact Blk.new w 24 [.int .i64 kind, .int .i64 time, .string src, .string abt, .slice ad n cap, .int .i64 souls, .int .i64 trust]
  have hf : Frm w.heap.size [] w W := by rw [hW]; repeat (first | with_reducible exact Frm.refl _ _ _ | with_reducible refine Frm.drewN ?_ | with_reducible refine Frm.drew ?_ | ((with_reducible refine Frm.setCell' ?_ ?_); · first | (left; simp; done) | (right; simp; done) | (right; simp; omega)) | ((with_reducible refine Frm.alloc' ?_ ?_); · first | exact Nat.le_refl _ | (simp; done) | (simp; omega)))
  have hr1 := hr.frm hf (Nat.le_refl _)
  have c0 : W.cell? ⟨w.heap.size, 0, none⟩ = some (.int .i64 kind) := k0.cell 0
  have c1 : W.cell? ⟨w.heap.size, 1, none⟩ = some (.int .i64 time) := k0.cell 1
  have c2 : W.cell? ⟨w.heap.size, 2, none⟩ = some (.string src) := k0.cell 2
  have c3 : W.cell? ⟨w.heap.size, 3, none⟩ = some (.string abt) := k0.cell 3
  have c4 : W.cell? ⟨w.heap.size, 4, none⟩ = some (.slice ad n cap) := k0.cell 4
  have c5 : W.cell? ⟨w.heap.size, 5, none⟩ = some (.int .i64 souls) := k0.cell 5
  have c6 : W.cell? ⟨w.heap.size, 6, none⟩ = some (.int .i64 trust) := k0.cell 6
  clear hW hf0 hr
  have HF := Lib.hid hf
  have K0 := Lib.hid k0
  have HR := Lib.hid hr1
  clear hr1 k0 hf
  go_cut [3] from 4 to 22 (fun s3 w' => s3 = .bool ab ∧ Frm W.heap.size [] W w')
  case first =>
    by_cases h0 : abt.size = 0
    · have hl : abt.toList = [] := by rw [str_nil h0, Lib.toList_data]
      have hl2 : abt.toList.isEmpty = true := by rw [hl]; rfl
      by_cases h5 : kind = 1
      · subst h5
        have hb : ab = nameB abt := by rw [HAB.out]; simp
        have HB := Lib.hid hb
        clear hb
        go_wp2_with fail
        refine (refName_any abt W).mono ?_; rintro e w1 ⟨rfl, hf1⟩
        have HF1 := Lib.hid hf1
        clear hf1
        go_wp2_with fail
        go_meet
        case rel => exact ⟨by rw [HB.out], HF1.out⟩
      by_cases h6 : kind = 4
      · subst h6
        have hb : ab = nameB abt := by rw [HAB.out]; simp
        have HB := Lib.hid hb
        clear hb
        go_wp2_with fail
        refine (refName_any abt W).mono ?_; rintro e w1 ⟨rfl, hf1⟩
        have HF1 := Lib.hid hf1
        clear hf1
        go_wp2_with fail
        go_meet
        case rel => exact ⟨by rw [HB.out], HF1.out⟩
      have x5 : (kind == 1) = false := by simp [h5]
      have x6 : (kind == 4) = false := by simp [h6]
      have x7 : (kind != 1) = true := by simp [h5]
      have x8 : (kind != 4) = true := by simp [h6]
      have hb : ab = true := by rw [HAB.out]; simp [h0, h5, h6]
      have HB := Lib.hid hb
      clear hb
      go_wp2_with fail
      go_meet
      case rel => exact ⟨by rw [HB.out], Frm.refl _ _ _⟩
    · have hl : ¬ abt.toList = [] := lst_not h0
      have hl2 : abt.toList.isEmpty = false := by simp [hl]
      have hb : ab = nameB abt := by rw [HAB.out, decide_eq_false h0]; simp
      have HB := Lib.hid hb
      clear hb
      go_wp2_with fail
      refine (refName_any abt W).mono ?_; rintro e w1 ⟨rfl, hf1⟩
      have HF1 := Lib.hid hf1
      clear hf1
      go_wp2_with fail
      go_meet
      case rel => exact ⟨by rw [HB.out], HF1.out⟩
  obtain ⟨rfl, hf1⟩ := hcut
  obtain ⟨w1, hw1⟩ : ∃ V, V = wc := ⟨_, rfl⟩
  rw [← hw1] at hf1 ⊢
  clear hw1
  have hf := HF.out.call hf1 HF.out.size (by simp)
  have k0 := hf1.blk K0.out K0.out.lt (by simp)
  have hr1 := HR.out.frm hf1 (Nat.le_refl _)
  clear hf1 HF K0 HR c0 c1 c2 c3 c4 c5 c6
  have c0 : w1.cell? ⟨w.heap.size, 0, none⟩ = some (.int .i64 kind) := k0.cell 0
  have c1 : w1.cell? ⟨w.heap.size, 1, none⟩ = some (.int .i64 time) := k0.cell 1
  have c2 : w1.cell? ⟨w.heap.size, 2, none⟩ = some (.string src) := k0.cell 2
  have c3 : w1.cell? ⟨w.heap.size, 3, none⟩ = some (.string abt) := k0.cell 3
  have c4 : w1.cell? ⟨w.heap.size, 4, none⟩ = some (.slice ad n cap) := k0.cell 4
  have c5 : w1.cell? ⟨w.heap.size, 5, none⟩ = some (.int .i64 souls) := k0.cell 5
  have c6 : w1.cell? ⟨w.heap.size, 6, none⟩ = some (.int .i64 trust) := k0.cell 6
  have HF := Lib.hid hf
  have K0 := Lib.hid k0
  have HR := Lib.hid hr1
  clear hr1 k0 hf
  cases h1 : inB kind 1 4
  · have H1 := Lib.hid h1
    clear h1
    go_wp2_with (go_at_call 41; refine (refIn_any _ _ _ _).mono ?_; rintro e w' ⟨rfl, rfl⟩; rw [H1.out])
    go_ret
    exact ⟨by rw [HD.out, H1.out]; rfl, HF.out⟩
  have H1 := Lib.hid h1
  clear h1
  cases h2 : inB time 0 1073741824
  · have H2 := Lib.hid h2
    clear h2
    go_wp2_with (first | (go_at_call 41; refine (refIn_any _ _ _ _).mono ?_; rintro e w' ⟨rfl, rfl⟩; rw [H1.out]) | (go_at_call 59; refine (refTime_any _ _).mono ?_; rintro e w' ⟨rfl, rfl⟩; rw [H2.out]))
    go_ret
    exact ⟨by rw [HD.out, H1.out, H2.out]; rfl, HF.out⟩
  have H2 := Lib.hid h2
  clear h2
  go_wp2_with (first | (go_at_call 41; refine (refIn_any _ _ _ _).mono ?_; rintro e w' ⟨rfl, rfl⟩; rw [H1.out]) | (go_at_call 59; refine (refTime_any _ _).mono ?_; rintro e w' ⟨rfl, rfl⟩; rw [H2.out]))
  refine (refName_any src w1).mono ?_; rintro e w2 ⟨rfl, hf2⟩
  have hf := HF.out.call hf2 HF.out.size (by simp)
  have k0 := hf2.blk K0.out K0.out.lt (by simp)
  have hr1 := HR.out.frm hf2 (Nat.le_refl _)
  clear hf2 HF K0 HR c0 c1 c2 c3 c4 c5 c6
  have c0 : w2.cell? ⟨w.heap.size, 0, none⟩ = some (.int .i64 kind) := k0.cell 0
  have c1 : w2.cell? ⟨w.heap.size, 1, none⟩ = some (.int .i64 time) := k0.cell 1
  have c2 : w2.cell? ⟨w.heap.size, 2, none⟩ = some (.string src) := k0.cell 2
  have c3 : w2.cell? ⟨w.heap.size, 3, none⟩ = some (.string abt) := k0.cell 3
  have c4 : w2.cell? ⟨w.heap.size, 4, none⟩ = some (.slice ad n cap) := k0.cell 4
  have c5 : w2.cell? ⟨w.heap.size, 5, none⟩ = some (.int .i64 souls) := k0.cell 5
  have c6 : w2.cell? ⟨w.heap.size, 6, none⟩ = some (.int .i64 trust) := k0.cell 6
  have HF := Lib.hid hf
  have K0 := Lib.hid k0
  have HR := Lib.hid hr1
  clear hr1 k0 hf
  cases h3 : nameB src
  · have H3 := Lib.hid h3
    clear h3
    go_wp2_with fail
    go_ret
    exact ⟨by rw [HD.out, H1.out, H2.out, H3.out]; rfl, HF.out⟩
  cases ab
  · have H3 := Lib.hid h3
    clear h3
    go_wp2_with fail
    go_ret
    exact ⟨by rw [HD.out, H1.out, H2.out, H3.out]; rfl, HF.out⟩
  have hd : repB ⟨kind, time, src, abt, wh, souls, trust⟩ = (areaB wh && inB souls (-1) 10000 && inB trust 0 1000) := by
    rw [HD.out, H1.out, H2.out, h3]
    simp
  clear HD h3
  have HD := Lib.hid hd
  clear hd
  go_wp2_with fail
  refine (refArea_any ad b off n cap wh HN.out w2 HR.out).mono ?_; rintro e w3 ⟨rfl, hf3⟩
  have hf := HF.out.call hf3 HF.out.size (by simp)
  have k0 := hf3.blk K0.out K0.out.lt (by simp)
  have hr1 := HR.out.frm hf3 (Nat.le_refl _)
  clear hf3 HF K0 HR c0 c1 c2 c3 c4 c5 c6
  have c0 : w3.cell? ⟨w.heap.size, 0, none⟩ = some (.int .i64 kind) := k0.cell 0
  have c1 : w3.cell? ⟨w.heap.size, 1, none⟩ = some (.int .i64 time) := k0.cell 1
  have c2 : w3.cell? ⟨w.heap.size, 2, none⟩ = some (.string src) := k0.cell 2
  have c3 : w3.cell? ⟨w.heap.size, 3, none⟩ = some (.string abt) := k0.cell 3
  have c4 : w3.cell? ⟨w.heap.size, 4, none⟩ = some (.slice ad n cap) := k0.cell 4
  have c5 : w3.cell? ⟨w.heap.size, 5, none⟩ = some (.int .i64 souls) := k0.cell 5
  have c6 : w3.cell? ⟨w.heap.size, 6, none⟩ = some (.int .i64 trust) := k0.cell 6
  have HF := Lib.hid hf
  have K0 := Lib.hid k0
  have HR := Lib.hid hr1
  clear hr1 k0 hf
  cases h5 : areaB wh
  · have H5 := Lib.hid h5
    clear h5
    go_wp2_with fail
    go_ret
    exact ⟨by rw [HD.out, H5.out]; rfl, HF.out⟩
  have H5 := Lib.hid h5
  clear h5
  cases h6 : inB souls (-1) 10000
  · have H6 := Lib.hid h6
    clear h6
    go_wp2_with (go_at_call 41; refine (refIn_any _ _ _ _).mono ?_; rintro e w' ⟨rfl, rfl⟩; rw [H6.out])
    go_ret
    exact ⟨by rw [HD.out, H5.out, H6.out]; rfl, HF.out⟩
  have H6 := Lib.hid h6
  clear h6
  obtain ⟨b7, h7⟩ : ∃ b, b = inB trust 0 1000 := ⟨_, rfl⟩
  have h7' := h7.symm
  have H7 := Lib.hid h7
  have H7' := Lib.hid h7'
  clear h7' h7
  go_wp2_with (go_at_call 41; refine (refIn_any _ _ _ _).mono ?_; rintro e w' ⟨rfl, rfl⟩; first | rw [H6.out] | rw [H7'.out])
  go_ret
  exact ⟨by rw [HD.out, H5.out, H6.out, ← H7.out]; rfl, HF.out⟩
def greatB (r : Rep) : Bool := decide (100 < r.src.size) || decide (100 < r.abt.size) || decide (30 < r.wh.length)
set_option maxRecDepth 100000 in
set_option maxHeartbeats 8000000 in
theorem great_any (r : Rep) (ad : Option Addr) (cap : Nat) (w : World) :
    Calls Try.prog 9 #[.agg (repC r ad cap).toArray] w fun e w' => e = .returned (.bool (greatB r)) ∧ Frm w.heap.size [] w w' := by
  have hf0 := Try.func9
  obtain ⟨kind, time, src, abt, wh, souls, trust⟩ := r
  obtain ⟨n, hn⟩ : ∃ n, n = wh.length := ⟨_, rfl⟩
  show Calls Try.prog 9 #[.agg #[.int .i64 kind, .int .i64 time, .string src, .string abt, .slice ad wh.length cap, .int .i64 souls, .int .i64 trust]] w _
  have hd : greatB ⟨kind, time, src, abt, wh, souls, trust⟩ = (decide (100 < src.size) || decide (100 < abt.size) || decide (30 < wh.length)) := rfl
  rw [← hn] at hd ⊢
  have HN := Lib.hid hn
  have HD := Lib.hid hd
  clear hd hn
  go_enter Try.func9, Try.ntmps9
  go_upto_region 1 with fail
  refine namedC ?_; intro W hW
  have k0 : Blk W w.heap.size 24 [.int .i64 kind, .int .i64 time, .string src, .string abt, .slice ad n cap, .int .i64 souls, .int .i64 trust] := by rw [hW]; exact Blk.new w 24 [.int .i64 kind, .int .i64 time, .string src, .string abt, .slice ad n cap, .int .i64 souls, .int .i64 trust]
  have hf : Frm w.heap.size [] w W := by rw [hW]; repeat (first | with_reducible exact Frm.refl _ _ _ | with_reducible refine Frm.drewN ?_ | with_reducible refine Frm.drew ?_ | ((with_reducible refine Frm.setCell' ?_ ?_); · first | (left; simp; done) | (right; simp; done) | (right; simp; omega)) | ((with_reducible refine Frm.alloc' ?_ ?_); · first | exact Nat.le_refl _ | (simp; done) | (simp; omega)))
  have c0 : W.cell? ⟨w.heap.size, 0, none⟩ = some (.int .i64 kind) := k0.cell 0
  have c1 : W.cell? ⟨w.heap.size, 1, none⟩ = some (.int .i64 time) := k0.cell 1
  have c2 : W.cell? ⟨w.heap.size, 2, none⟩ = some (.string src) := k0.cell 2
  have c3 : W.cell? ⟨w.heap.size, 3, none⟩ = some (.string abt) := k0.cell 3
  have c4 : W.cell? ⟨w.heap.size, 4, none⟩ = some (.slice ad n cap) := k0.cell 4
  have c5 : W.cell? ⟨w.heap.size, 5, none⟩ = some (.int .i64 souls) := k0.cell 5
  have c6 : W.cell? ⟨w.heap.size, 6, none⟩ = some (.int .i64 trust) := k0.cell 6
  clear hW hf0 k0
  have HF := Lib.hid hf
  clear hf
  by_cases h1 : 100 < src.size
  · have h1' : (100 : Int) < (src.size : Int) := by omega
    go_wp2_with fail
    go_ret
    exact ⟨by rw [HD.out, decide_eq_true h1]; rfl, HF.out⟩
  have h1' : ¬ (100 : Int) < (src.size : Int) := by omega
  by_cases h2 : 100 < abt.size
  · have h2' : (100 : Int) < (abt.size : Int) := by omega
    go_wp2_with fail
    go_ret
    exact ⟨by rw [HD.out, decide_eq_true h2, Bool.or_true]; rfl, HF.out⟩
  have h2' : ¬ (100 : Int) < (abt.size : Int) := by omega
  by_cases h3 : 30 < n
  · have h3' : (30 : Int) < (n : Int) := by omega
    go_wp2_with fail
    go_ret
    exact ⟨by rw [HD.out, decide_eq_true h3, Bool.or_true]; rfl, HF.out⟩
  have h3' : ¬ (30 : Int) < (n : Int) := by omega
  go_wp2_with fail
  go_ret
  exact ⟨by rw [HD.out, decide_eq_false h1, decide_eq_false h2, decide_eq_false h3]; rfl, HF.out⟩
end Go.Proofs.Ythgmdilfmeefiaa

namespace Go.Proofs.Ythgmdilfmeefiaa
set_option linter.all false
set_option linter.unusedSimpArgs false
set_option linter.unusedVariables false
open Go.RowKit

section
variable {P : Program} {ops : Array Oper} {Q : Exit → Act → World → Prop} {S : World → Prop} {ts : List Nat} {Sa : Nat → World → Prop}

def Helds (S : World → Prop) (ts : List Nat) (Sa : Nat → World → Prop) (listed : Array Bool) (w : World) : Prop := S w ∧ ∀ t ∈ ts, listed.getD t true = false → Sa t w

def wpAnyS (P : Program) (ops : Array Oper) (Q : Exit → Act → World → Prop) (S : World → Prop) (ts : List Nat) (Sa : Nat → World → Prop) : Nat → Array Bool → Act → World → Prop
  | 0, listed, a, w => Region.ready .any ops listed = [] ∧ Q .normal a w
  | n + 1, listed, a, w =>
    (Region.ready .any ops listed = [] → Q .normal a w) ∧
    ∀ i ∈ Region.ready .any ops listed, wpOp P ops Q i (fun a' w' => Helds S ts Sa (listed.setIfInBounds i true) w' ∧ wpAnyS P ops Q S ts Sa n (listed.setIfInBounds i true) a' w') a w

theorem wpAny_ofS : ∀ (n : Nat) (listed : Array Bool) (a : Act) (w : World), wpAnyS P ops Q S ts Sa n listed a w → wpAny P .any ops Q n listed a w
  | 0, _, _, _, h => h
  | n + 1, _, _, _, h => ⟨h.1, fun i hi => wpOp_mono (fun a' w' h' => wpAny_ofS n _ a' w' h'.2) (h.2 i hi)⟩

/-- What operation i may lean on. -/
def forI (ops : Array Oper) (S : World → Prop) (ts : List Nat) (Sa : Nat → World → Prop) (i : Nat) (w : World) : Prop := S w ∧ ∀ t ∈ ts, waitsB ops t i = true → Sa t w

theorem getD_set_mono {a : Array Bool} {i k : Nat} (h : (a.setIfInBounds i true).getD k true = false) : a.getD k true = false := by
  by_cases e : i = k
  · subst e
    exfalso
    by_cases hs : i < a.size <;> simp [hs] at h
  · rwa [getD_set_ne true e] at h
theorem Helds.set {listed : Array Bool} {w : World} (i : Nat) (h : Helds S ts Sa listed w) : Helds S ts Sa (listed.setIfInBounds i true) w := ⟨h.1, fun t ht hn => h.2 t ht (getD_set_mono hn)⟩

theorem wpAnyS_first {i : Nat} {x : Oper} {v : Value} (hi : ops[i]? = some x) (hni : ∀ t ∈ ts, t ≠ i) (hsel : Region.noSelect ops = true) (hQ : ∀ c a w, Q (.panic c) (a.put x.dst v) w → Q (.panic c) a w) :
    ∀ (n : Nat) (listed : Array Bool) (a : Act) (w : World),
      (∀ j y, ops[j]? = some y → j ≠ i → listed.getD j true = false → (∀ e ∈ y.after, Region.binds .any e = true → e.on ≠ i) → x.apart ops y = true) →
      i ∈ Region.ready .any ops listed → YieldsIf P ops (forI ops S ts Sa i) x v a → (∀ t ∈ ts, waitsB ops t i = true → listed.getD t true = false) → Helds S ts Sa listed w → wpAnyS P ops Q S ts Sa n (listed.setIfInBounds i true) (a.put x.dst v) w → wpAnyS P ops Q S ts Sa (n + 1) listed a w := by
  intro n
  induction n with
  | zero =>
    intro listed a w _ hr hy hnl hS H
    have hfor : forI ops S ts Sa i w := ⟨hS.1, fun t ht hw => hS.2 t ht (hnl t ht hw)⟩
    refine ⟨fun h0 => (by rw [h0] at hr; cases hr), fun j hj => ?_⟩
    by_cases e : j = i
    · subst e; exact hy.wpOp hi hfor ⟨hS.set _, H⟩
    · have h1 := ready_mono hj e
      rw [H.1] at h1
      cases h1
  | succ n ih =>
    intro listed a w hfree hr hy hnl hS H
    have hfor : forI ops S ts Sa i w := ⟨hS.1, fun t ht hw => hS.2 t ht (hnl t ht hw)⟩
    refine ⟨fun h0 => (by rw [h0] at hr; cases hr), fun j hj => ?_⟩
    by_cases e : j = i
    · subst e; exact hy.wpOp hi hfor ⟨hS.set _, H⟩
    · obtain ⟨hun, y, hy0, hall⟩ := mem_ready.1 hj
      have away : ∀ e ∈ y.after, Region.binds .any e = true → e.on ≠ i := fun e' he hb heq => by
        have h1 := hall e' he hb
        rw [heq, getD_both (mem_ready.1 hr).1] at h1
        cases h1
      have hjt : ∀ t ∈ ts, waitsB ops t i = true → j ≠ t := by
        rintro t htm ht rfl
        unfold waitsB at ht
        rw [hy0] at ht
        obtain ⟨e', he, hb⟩ := Array.any_eq_true'.1 (show (y.after.any fun e => Region.binds .any e && e.on == i) = true from ht)
        simp only [Bool.and_eq_true, beq_iff_eq] at hb
        exact away e' he hb.1 hb.2
      have step := wpOp_putIf hy0 (hfree j y hy0 e hun away) (fun cs b => Region.noSelect_spec hsel i x cs b hi) (fun cs b => Region.noSelect_spec hsel j y cs b hy0) hQ hy (H.2 j (ready_mono hj e))
      refine wpOp_mono (fun a' w' h3 => ?_) step
      have hH : Helds S ts Sa (listed.setIfInBounds j true) w' := by
        refine ⟨h3.2.1.1, fun t ht hn => h3.2.1.2 t ht ?_⟩
        rw [Array.setIfInBounds_comm _ _ (Ne.symm e), getD_set_ne true (Ne.symm (hni t ht))]
        exact hn
      refine ⟨hH, ih (listed.setIfInBounds j true) a' w' (fun k z hz hki hk hno => ?_) (ready_mono hr (Ne.symm e)) h3.1 (fun t ht hw => ?_) hH ?_⟩
      · refine hfree k z hz hki ?_ hno
        by_cases hjk : j = k
        · subst hjk; exact hun
        · rwa [getD_set_ne true hjk] at hk
      · rw [getD_set_ne true (hjt t ht hw)]
        exact hnl t ht hw
      · rw [Array.setIfInBounds_comm _ _ e]
        exact h3.2.2
end

section
variable {P : Program}
def LeftS (P : Program) (l : List Oper) (Q : Exit → Act → World → Prop) (S : World → Prop) (ts : List Nat) (Sa : Nat → World → Prop) (done : List Nat) (a : Act) (w : World) : Prop :=
  wpAnyS P l.toArray Q S ts Sa (l.length - done.length) (doneOf l done) a w

theorem wp_region_leftS {id : Nat} {Q : Exit → Act → World → Prop} {a : Act} {w : World} {l : List Oper} (S : World → Prop) (ts : List Nat) (Sa : Nat → World → Prop) (hm : P.follows .mixedOrders = true) (h : LeftS P l Q S ts Sa [] a w.drew) : (Code.region id l.toArray true).wp P Q a w :=
  wp_region_any hm (wpAny_ofS _ _ _ _ (by simpa [LeftS, doneOf] using h))

def takeS (l : List Oper) (ts : List Nat) (done : List Nat) (i : Nat) : Bool :=
  ts.all (fun t => t != i && (!waitsB l.toArray t i || !(doneOf l done).getD t true)) && Region.noSelect l.toArray && decide (done.length < l.length) && Region.free .any l.toArray (doneOf l done) i && (Region.ready .any l.toArray (doneOf l done)).contains i

theorem LeftS.take {l : List Oper} {Q : Exit → Act → World → Prop} {S : World → Prop} {ts : List Nat} {Sa : Nat → World → Prop} {done : List Nat} {a : Act} {w : World} (i : Nat) {o : Oper} {v : Value} (ho : l[i]? = some o) (hB : takeS l ts done i = true)
    (hQ : ∀ c a d v w, Q (.panic c) (a.put d v) w → Q (.panic c) a w) (hy : YieldsIf P l.toArray (forI l.toArray S ts Sa i) o v a) (hS : Helds S ts Sa (doneOf l done) w)
    (h : ∀ K' : Act → Prop, (∀ a, LeftS P l Q S ts Sa (done ++ [i]) a w → K' a) → K' (a.put o.dst v)) : LeftS P l Q S ts Sa done a w := by
  simp only [takeS, Bool.and_eq_true, decide_eq_true_eq, List.all_eq_true, bne_iff_ne, Bool.or_eq_true, Bool.not_eq_true'] at hB
  obtain ⟨⟨⟨⟨hw, hs⟩, hn⟩, hf⟩, hr⟩ := hB
  unfold LeftS
  rw [show l.length - done.length = (l.length - (done ++ [i]).length) + 1 by simp; omega]
  have ho' : l.toArray[i]? = some o := by simpa using ho
  refine wpAnyS_first ho' (fun t ht => (hw t ht).1) hs (fun c a w => hQ c a _ _ w) _ _ _ _ (Region.free_spec ho' hf) (by simpa using hr) hy (fun t ht hwt => ?_) hS ?_
  · rcases (hw t ht).2 with h1 | h1
    · rw [hwt] at h1; cases h1
    · exact h1
  · rw [← doneOf_snoc]
    exact h _ (fun _ h => h)
theorem Helds.snoc {l : List Oper} {S : World → Prop} {ts : List Nat} {Sa : Nat → World → Prop} {done : List Nat} {w : World} (i : Nat) (h : Helds S ts Sa (doneOf l done) w) : Helds S ts Sa (doneOf l (done ++ [i])) w := by
  rw [doneOf_snoc]; exact h.set i
theorem LeftS.op {l : List Oper} {Q : Exit → Act → World → Prop} {S : World → Prop} {ts : List Nat} {Sa : Nat → World → Prop} {done : List Nat} {a : Act} {w : World} {i : Nat} {o : Oper} (ho : l[i]? = some o) (hn : done.length < l.length)
    (h : wpList P l.toArray (Exit.then (fun a' w' => Helds S ts Sa (doneOf l (done ++ [i])) w' ∧ LeftS P l Q S ts Sa (done ++ [i]) a' w') Q) [o] a w) :
    wpOp P l.toArray Q i (fun a' w' => Helds S ts Sa ((doneOf l done).setIfInBounds i true) w' ∧ wpAnyS P l.toArray Q S ts Sa (l.length - (done.length + 1)) ((doneOf l done).setIfInBounds i true) a' w') a w := by
  have e : ∀ a' w', LeftS P l Q S ts Sa (done ++ [i]) a' w' ↔ wpAnyS P l.toArray Q S ts Sa (l.length - (done.length + 1)) ((doneOf l done).setIfInBounds i true) a' w' := fun a' w' => by
    unfold LeftS
    rw [doneOf_snoc, List.length_append]
    exact Iff.rfl
  simp only [e, doneOf_snoc] at h
  have h0 : l.toArray[i]? = some o := by simpa using ho
  unfold wpOp
  simp only [h0]
  unfold wpList at h
  split
  · rename_i hw
    simp only [hw, if_true] at h
    rcases h with h | ⟨h1, a₀, w₀, h2⟩
    · left
      unfold Oper.wp at h ⊢
      generalize (execOp a.eval o).run P w = r at *
      cases r with
      | ok x w' =>
        cases x <;> simp only [Oper.upon] at h ⊢ <;> first | exact h | exact h.mono (fun e w'' he => by cases e <;> exact he)
      | halt x w' => cases x <;> simp only [Oper.upon] at h ⊢ <;> exact h
    · exact .inr ⟨h1, a₀, w₀, h2⟩
  · rename_i hw
    simp only [hw, if_false, Bool.false_eq_true] at h
    exact h
theorem LeftS.one {l : List Oper} {Q : Exit → Act → World → Prop} {S : World → Prop} {ts : List Nat} {Sa : Nat → World → Prop} {done : List Nat} {a : Act} {w : World} (i : Nat) {o : Oper} (ho : l[i]? = some o) (hB : (decide (done.length < l.length) && decide (Region.ready .any l.toArray (doneOf l done) = [i])) = true)
    (h : wpList P l.toArray (Exit.then (fun a' w' => Helds S ts Sa (doneOf l (done ++ [i])) w' ∧ LeftS P l Q S ts Sa (done ++ [i]) a' w') Q) [o] a w) : LeftS P l Q S ts Sa done a w := by
  simp only [Bool.and_eq_true, decide_eq_true_eq] at hB
  unfold LeftS
  rw [show l.length - done.length = (l.length - (done.length + 1)) + 1 by omega]
  refine ⟨fun h0 => (by rw [hB.2] at h0; cases h0), fun j hj => ?_⟩
  rw [hB.2] at hj
  obtain rfl : j = i := by simpa using hj
  exact LeftS.op ho hB.1 h
theorem LeftS.done {l : List Oper} {Q : Exit → Act → World → Prop} {S : World → Prop} {ts : List Nat} {Sa : Nat → World → Prop} {done : List Nat} {a : Act} {w : World} (hB : (decide (l.length = done.length) && decide (Region.ready .any l.toArray (doneOf l done) = [])) = true) (h : Q .normal a w) : LeftS P l Q S ts Sa done a w := by
  simp only [Bool.and_eq_true, decide_eq_true_eq] at hB
  unfold LeftS
  rw [hB.1, Nat.sub_self]
  exact ⟨hB.2, h⟩
end
end Go.Proofs.Ythgmdilfmeefiaa
