/-
  Names.
-/
import Derived.Test.YtghkfopcjdkieaaDoorU6
import Derived.Lib.ConvBytes
namespace Go.Proofs.YtghkfopcjdkieaaDoor
set_option linter.all false
set_option linter.unusedSimpArgs false
set_option linter.unusedVariables false
open Go.RowKit

def letterB (c : Nat) : Bool := decide (97 ≤ c) && decide (c ≤ 122)
def charB (c : Nat) : Bool := letterB c || (decide (48 ≤ c) && decide (c ≤ 57)) || decide (c = 45)
def byteAt (s : ByteArray) (i : Nat) : Nat := (s.data.toList.getD i 0).toNat
def nameB (s : ByteArray) : Bool := inB s.size 1 32 && letterB (byteAt s 0) && (List.range s.size).all fun i => charB (byteAt s i)

set_option maxHeartbeats 1000000 in
theorem char_any (c : Nat) (w : World) : Calls Tryd.prog 87 #[.int .u8 c] w fun e w' => e = .returned (.bool (charB c)) ∧ Frm w.heap.size [] w w' := by
  go_enter Tryd.func87, Tryd.ntmps87
  go_wp2_with fail
  all_goals go_ret
  all_goals refine ⟨?_, by repeat (first | with_reducible exact Frm.refl _ _ _ | with_reducible refine Frm.drewN ?_ | with_reducible refine Frm.drew ?_ | ((with_reducible refine Frm.setCell' ?_ ?_); · first | (left; simp; done) | (right; simp; done) | (right; simp; omega)) | ((with_reducible refine Frm.alloc' ?_ ?_); · first | exact Nat.le_refl _ | (simp; done) | (simp; omega)))⟩
  all_goals (change Ending.returned (Value.bool _) = _; congr 2; rw [Bool.eq_iff_iff]; simp only [charB, letterB, Bool.or_eq_true, Bool.and_eq_true, decide_eq_true_eq, beq_iff_eq, true_iff, iff_true]; omega)

set_option maxRecDepth 100000 in
set_option maxHeartbeats 4000000 in
theorem name_len_no (s : ByteArray) (w : World) (h : inB s.size 1 32 = false) : Calls Tryd.prog 51 #[.string s] w fun e w' => e = .returned (.bool (nameB s)) ∧ Frm w.heap.size [] w w' := by
  have HH := Lib.hid h
  clear h
  go_enter Tryd.func51, Tryd.ntmps51
  go_wp2_with (go_at_call 55; refine (within_any _ _ _ _).mono ?_; rintro e w' ⟨rfl, rfl⟩; rw [HH.out])
  go_ret
  exact ⟨by unfold nameB; rw [HH.out]; rfl, by repeat (first | with_reducible exact Frm.refl _ _ _ | with_reducible refine Frm.drewN ?_ | with_reducible refine Frm.drew ?_ | ((with_reducible refine Frm.setCell' ?_ ?_); · first | (left; simp; done) | (right; simp; done) | (right; simp; omega)) | ((with_reducible refine Frm.alloc' ?_ ?_); · first | exact Nat.le_refl _ | (simp; done) | (simp; omega)))⟩
theorem loadVar1 {P : Program} {w : World} {a : Addr} {ty : TypeId} {d : TypeDesc} {v : Value} (hu : P.underlying ty = some d) (hd : rowB d = false) (hc : w.cell? a = some v) : (loadVar ty a).run P w = .ok v w := by
  have hagg : (isAgg ty).run P w = .ok false w := by
    unfold isAgg
    rw [Sem.run_bind, run_underlying hu w]
    cases d <;> simp_all [rowB]
  simp [loadVar, Sem.run_bind, hagg, hc]
theorem bytes_frm (w : World) (s : ByteArray) : Frm w.heap.size [] w (Lib.bytesWorld w 5 s) :=
  ⟨rfl, rfl, rfl, by rw [Lib.bytesWorld_size]; omega, fun k hk _ => Lib.bytesWorld_at_old w 5 s k hk⟩
theorem nameB_ok {s : ByteArray} (h : inB s.size 1 32 = true) (hl : letterB (byteAt s 0) = true) {r : Bool} (hr : r = true ↔ ∀ i, i < s.size → charB (byteAt s i) = true) : nameB s = r := by
  unfold nameB
  rw [h, hl, Bool.true_and, Bool.true_and, Bool.eq_iff_iff, hr, List.all_eq_true]
  simp
theorem nameB_no {s : ByteArray} (hl : letterB (byteAt s 0) = false) : nameB s = false := by
  unfold nameB
  rw [hl, Bool.and_false, Bool.false_and]
set_option maxRecDepth 100000 in
set_option maxHeartbeats 4000000 in
theorem name_ok (s : ByteArray) (w : World) (h : inB s.size 1 32 = true) : Calls Tryd.prog 51 #[.string s] w fun e w' => e = .returned (.bool (nameB s)) ∧ Frm w.heap.size [] w w' := by
  obtain ⟨h1, h2⟩ := inB_iff.1 h
  have hcv : ∀ W : World, (convert 9 82 (.string s)).run Tryd.prog W = .ok (.slice (some ⟨W.heap.size, 0, none⟩) s.size (grownCap W s.size 0 5)) (Lib.bytesWorld W 5 s) := fun W => Lib.run_convert_string_bytes W 9 82 5 s Tryd.underlying9 Tryd.underlying82 Tryd.underlying5
  have h0 : byteAt s 0 = s[0].toNat := by
    unfold byteAt
    have hs : 0 < s.data.size := by have : s.size = s.data.size := rfl; omega
    simp only [List.getD, Array.getElem?_toList, Array.getElem?_eq_getElem hs, Option.getD_some]
    rfl
  have hfb := bytes_frm w s
  have hal := allBy 87 #[] (enters Tryd.func87 (by kernel_rfl) (by kernel_rfl)) (some ⟨w.heap.size, 0, none⟩) w.heap.size 0 s.size (grownCap w s.size 0 5) (Lib.bytesWorld w 5 s) (fun _ => rfl) (by unfold maxLen; omega) (fun i => .int .u8 (byteAt s i)) (fun i => charB (byteAt s i))
    (fun W hW i hi => loadVar1 Tryd.underlying5 rfl (by
      have h1 := hW.cell (p := ⟨w.heap.size, 0 + i, none⟩) (by rw [Lib.bytesWorld_size]; simp) (by simp)
      refine h1.trans ?_
      rw [Nat.zero_add]
      exact Lib.bytesWorld_cell w 5 s i hi)) (fun W hW i hi => char_any (byteAt s i) W)
  by_cases ha : 97 ≤ s[0].toNat
  · by_cases hb : s[0].toNat ≤ 122
    · have hl : letterB (byteAt s 0) = true := by rw [h0]; simp [letterB, ha, hb]
      have ha' : ¬ ((s[0].toNat : Nat) : Int) < 97 := by omega
      have hb' : ¬ (122 : Int) < ((s[0].toNat : Nat) : Int) := by omega
      have HH := Lib.hid h
      have HAL := Lib.hid hal
      have HFB := Lib.hid hfb
      have HL := Lib.hid hl
      have H0 := Lib.hid h0
      clear h0 hl hfb hal h
      go_enter Tryd.func51, Tryd.ntmps51
      go_wp2_with (go_at_call 55; refine (within_any _ _ _ _).mono ?_; rintro e w' ⟨rfl, rfl⟩; rw [HH.out])
      refine HAL.out.mono ?_; rintro e w1 ⟨⟨r, rfl, hr⟩, hf1⟩
      have hfin := HFB.out.call hf1 HFB.out.size (by simp)
      clear hcv hf1
      have HR := Lib.hid hr
      have HFIN := Lib.hid hfin
      clear hfin hr
      go_wp2_with fail
      go_ret
      exact ⟨by rw [nameB_ok HH.out HL.out HR.out]; rfl, HFIN.out⟩
    · have hl : letterB (byteAt s 0) = false := by rw [h0]; simp [letterB]; omega
      have ha' : ¬ ((s[0].toNat : Nat) : Int) < 97 := by omega
      have hb' : (122 : Int) < ((s[0].toNat : Nat) : Int) := by omega
      have HH := Lib.hid h
      have HAL := Lib.hid hal
      have HFB := Lib.hid hfb
      have HL := Lib.hid hl
      have H0 := Lib.hid h0
      clear h0 hl hfb hal h
      clear hcv
      go_enter Tryd.func51, Tryd.ntmps51
      go_wp2_with (go_at_call 55; refine (within_any _ _ _ _).mono ?_; rintro e w' ⟨rfl, rfl⟩; rw [HH.out])
      go_ret
      exact ⟨by rw [nameB_no HL.out]; rfl, by repeat (first | with_reducible exact Frm.refl _ _ _ | with_reducible refine Frm.drewN ?_ | with_reducible refine Frm.drew ?_ | ((with_reducible refine Frm.setCell' ?_ ?_); · first | (left; simp; done) | (right; simp; done) | (right; simp; omega)) | ((with_reducible refine Frm.alloc' ?_ ?_); · first | exact Nat.le_refl _ | (simp; done) | (simp; omega)))⟩
  · have hl : letterB (byteAt s 0) = false := by rw [h0]; simp [letterB]; omega
    have ha' : ((s[0].toNat : Nat) : Int) < 97 := by omega
    have HH := Lib.hid h
    have HAL := Lib.hid hal
    have HFB := Lib.hid hfb
    have HL := Lib.hid hl
    have H0 := Lib.hid h0
    clear h0 hl hfb hal h
    clear hcv
    go_enter Tryd.func51, Tryd.ntmps51
    go_wp2_with (go_at_call 55; refine (within_any _ _ _ _).mono ?_; rintro e w' ⟨rfl, rfl⟩; rw [HH.out])
    go_ret
    exact ⟨by rw [nameB_no HL.out]; rfl, by repeat (first | with_reducible exact Frm.refl _ _ _ | with_reducible refine Frm.drewN ?_ | with_reducible refine Frm.drew ?_ | ((with_reducible refine Frm.setCell' ?_ ?_); · first | (left; simp; done) | (right; simp; done) | (right; simp; omega)) | ((with_reducible refine Frm.alloc' ?_ ?_); · first | exact Nat.le_refl _ | (simp; done) | (simp; omega)))⟩
theorem name_any (s : ByteArray) (w : World) : Calls Tryd.prog 51 #[.string s] w fun e w' => e = .returned (.bool (nameB s)) ∧ Frm w.heap.size [] w w' := by
  cases h : inB s.size 1 32
  · exact name_len_no s w h
  · exact name_ok s w h

theorem byteAt_at {s : ByteArray} {j : Nat} (hj : j < s.size) : byteAt s j = s[j].toNat := by
  unfold byteAt
  have hs : j < s.data.size := hj
  simp only [List.getD, Array.getElem?_toList, Array.getElem?_eq_getElem hs, Option.getD_some]
  rfl
theorem nameB_bad {s : ByteArray} {j : Nat} (hj : j < s.size) (hc : charB (byteAt s j) = false) : nameB s = false := by
  unfold nameB
  have : ((List.range s.size).all fun i => charB (byteAt s i)) = false := by
    rw [← Bool.not_eq_true, List.all_eq_true]
    intro h
    have := h j (by simpa using hj)
    rw [hc] at this
    cases this
  rw [this, Bool.and_false]
set_option maxRecDepth 100000 in
set_option maxHeartbeats 4000000 in
theorem refName_any (s : ByteArray) (w : World) : Calls Tryd.prog 57 #[.string s] w fun e w' => e = .returned (.bool (nameB s)) ∧ Frm w.heap.size [] w w' := by
  cases h : inB s.size 1 32
  · have HH := Lib.hid h
    clear h
    go_enter Tryd.func57, Tryd.ntmps57
    go_wp2_with (go_at_call 69; refine (refIn_any _ _ _ _).mono ?_; rintro e w' ⟨rfl, rfl⟩; rw [HH.out])
    go_ret
    exact ⟨by unfold nameB; rw [HH.out]; rfl, by repeat (first | with_reducible exact Frm.refl _ _ _ | with_reducible refine Frm.drewN ?_ | with_reducible refine Frm.drew ?_ | ((with_reducible refine Frm.setCell' ?_ ?_); · first | (left; simp; done) | (right; simp; done) | (right; simp; omega)) | ((with_reducible refine Frm.alloc' ?_ ?_); · first | exact Nat.le_refl _ | (simp; done) | (simp; omega)))⟩
  · obtain ⟨h1, h2⟩ := inB_iff.1 h
    have h0 : byteAt s 0 = s[0].toNat := by
      unfold byteAt
      have hs : 0 < s.data.size := by have : s.size = s.data.size := rfl; omega
      simp only [List.getD, Array.getElem?_toList, Array.getElem?_eq_getElem hs, Option.getD_some]
      rfl
    by_cases ha : 97 ≤ s[0].toNat
    · by_cases hb : s[0].toNat ≤ 122
      · have hl : letterB (byteAt s 0) = true := by rw [h0]; simp [letterB, ha, hb]
        have ha' : ¬ ((s[0].toNat : Nat) : Int) < 97 := by omega
        have hb' : ¬ (122 : Int) < ((s[0].toNat : Nat) : Int) := by omega
        have HH := Lib.hid h
        have HL := Lib.hid hl
        have H0 := Lib.hid h0
        clear h0 hl h
        go_enter Tryd.func57, Tryd.ntmps57
        go_wp2_with (go_at_call 69; refine (refIn_any _ _ _ _).mono ?_; rintro e w' ⟨rfl, rfl⟩; rw [HH.out])
        go_loopw [3] (fun i3 wr => ∃ j : Nat, i3 = .int .i64 j ∧ j ≤ s.size ∧ (∀ k, k < j → charB (byteAt s k) = true) ∧ Frm w.heap.size [] w wr) (fun i3 _ => s.size - (intOf i3).toNat)
        case atStart => exact ⟨0, rfl, Nat.zero_le _, fun k hk => by omega, by repeat (first | with_reducible exact Frm.refl _ _ _ | with_reducible refine Frm.drewN ?_ | with_reducible refine Frm.drew ?_ | ((with_reducible refine Frm.setCell' ?_ ?_); · first | (left; simp; done) | (right; simp; done) | (right; simp; omega)) | ((with_reducible refine Frm.alloc' ?_ ?_); · first | exact Nat.le_refl _ | (simp; done) | (simp; omega)))⟩
        case round =>
          obtain ⟨j, rfl, hj, hall, hfr⟩ := hrel
          by_cases hjl : j < s.size
          · have hjl' : (j : Int) < (s.size : Int) := by omega
            have hbj : byteAt s j = s[j].toNat := byteAt_at hjl
            have hyes : charB s[j].toNat = true → ∀ k, k < j + 1 → charB (byteAt s k) = true := fun hc k hk => by
              rcases Nat.lt_or_ge k j with e | e
              · exact hall k e
              · obtain rfl : k = j := by omega
                rw [hbj]; exact hc
            have hno : charB s[j].toNat = false → nameB s = false := fun hc => nameB_bad hjl (by rw [hbj]; exact hc)
            have HJL := Lib.hid hjl
            have HALL := Lib.hid hall
            have HFR := Lib.hid hfr
            have HBJ := Lib.hid hbj
            have HYES := Lib.hid hyes
            have HNO := Lib.hid hno
            clear hno hyes hbj hfr hall
            go_wp2_with fail
            all_goals try simp only [Bool.not_eq_eq_eq_not, Bool.not_true, Bool.not_false, decide_eq_false_iff_not, decide_eq_true_eq, bne_iff_ne, ne_eq, bne_eq_false_iff_eq] at *
            all_goals first
              | (refine ⟨⟨j + 1, by simp, HJL.out, HYES.out (by simp only [charB, letterB, Bool.or_eq_true, Bool.and_eq_true, decide_eq_true_eq]; omega), HFR.out⟩, by have := HJL.out; simp [intOf]; omega⟩)
              | (go_ret; exact ⟨by rw [HNO.out (by rw [← Bool.not_eq_true]; simp only [charB, letterB, Bool.or_eq_true, Bool.and_eq_true, decide_eq_true_eq]; omega)]; rfl, HFR.out⟩)
          · have hjl' : ¬ (j : Int) < (s.size : Int) := by omega
            obtain rfl : j = s.size := by omega
            have HALL := Lib.hid hall
            have HFR := Lib.hid hfr
            clear hfr hall
            go_wp2_with fail
            go_ret
            exact ⟨by rw [nameB_ok (r := true) HH.out HL.out (by simpa using HALL.out)]; rfl, HFR.out⟩
      · have hl : letterB (byteAt s 0) = false := by rw [h0]; simp [letterB]; omega
        have ha' : ¬ ((s[0].toNat : Nat) : Int) < 97 := by omega
        have hb' : (122 : Int) < ((s[0].toNat : Nat) : Int) := by omega
        have HH := Lib.hid h
        have HL := Lib.hid hl
        have H0 := Lib.hid h0
        clear h0 hl h
        go_enter Tryd.func57, Tryd.ntmps57
        go_wp2_with (go_at_call 69; refine (refIn_any _ _ _ _).mono ?_; rintro e w' ⟨rfl, rfl⟩; rw [HH.out])
        go_ret
        exact ⟨by rw [nameB_no HL.out]; rfl, by repeat (first | with_reducible exact Frm.refl _ _ _ | with_reducible refine Frm.drewN ?_ | with_reducible refine Frm.drew ?_ | ((with_reducible refine Frm.setCell' ?_ ?_); · first | (left; simp; done) | (right; simp; done) | (right; simp; omega)) | ((with_reducible refine Frm.alloc' ?_ ?_); · first | exact Nat.le_refl _ | (simp; done) | (simp; omega)))⟩
    · have hl : letterB (byteAt s 0) = false := by rw [h0]; simp [letterB]; omega
      have ha' : ((s[0].toNat : Nat) : Int) < 97 := by omega
      have HH := Lib.hid h
      have HL := Lib.hid hl
      have H0 := Lib.hid h0
      clear h0 hl h
      go_enter Tryd.func57, Tryd.ntmps57
      go_wp2_with (go_at_call 69; refine (refIn_any _ _ _ _).mono ?_; rintro e w' ⟨rfl, rfl⟩; rw [HH.out])
      go_ret
      exact ⟨by rw [nameB_no HL.out]; rfl, by repeat (first | with_reducible exact Frm.refl _ _ _ | with_reducible refine Frm.drewN ?_ | with_reducible refine Frm.drew ?_ | ((with_reducible refine Frm.setCell' ?_ ?_); · first | (left; simp; done) | (right; simp; done) | (right; simp; omega)) | ((with_reducible refine Frm.alloc' ?_ ?_); · first | exact Nat.le_refl _ | (simp; done) | (simp; omega)))⟩
end Go.Proofs.YtghkfopcjdkieaaDoor
