/-
  Texts S8, S11, S12, S13, S9, S14 of this claim, one behind the other.
-/
import Derived.Test.YtfmigicmfolbjaaDoorB8
namespace Go.Proofs.YtfmigicmfolbjaaDoor
set_option linter.all false
set_option linter.unusedSimpArgs false
set_option linter.unusedVariables false
open Go.RowKit

def upd (a : Nat → Nat) (i v : Nat) : Nat → Nat := fun j => if j = i then v else a j
def closeI (k : Nat) (a : Nat → Nat) : Nat → Nat → Nat
  | 0 => a
  | i + 1 => if (closeI k a i i).testBit k = true then upd (closeI k a i) i (closeI k a i i ||| closeI k a i k) else closeI k a i
def closeK (n : Nat) (a : Nat → Nat) : Nat → Nat → Nat
  | 0 => a
  | k + 1 => closeI k (closeK n a k) n
theorem closeI_lt {m k n : Nat} {a : Nat → Nat} (hk : k < n) (h : ∀ j, j < n → a j < 2 ^ m) : ∀ i, i ≤ n → ∀ j, j < n → closeI k a i j < 2 ^ m
  | 0, _, j, hj => h j hj
  | i + 1, hi, j, hj => by
    have ih := closeI_lt hk h i (by omega)
    unfold closeI
    split
    · unfold upd
      split
      · exact Nat.or_lt_two_pow (ih i (by omega)) (ih k hk)
      · exact ih j hj
    · exact ih j hj
theorem closeK_lt {m n : Nat} {a : Nat → Nat} (h : ∀ j, j < n → a j < 2 ^ m) : ∀ k, k ≤ n → ∀ j, j < n → closeK n a k j < 2 ^ m
  | 0, _, j, hj => h j hj
  | k + 1, hk, j, hj => closeI_lt (by omega) (closeK_lt h k (by omega)) n (Nat.le_refl _) j hj
def setsC (n : Nat) (a : Nat → Nat) : List Value := (List.range n).map fun i => Value.int .u32 (a i : Int)
theorem setsC_len (n : Nat) (a : Nat → Nat) : (setsC n a).length = n := by simp [setsC]
theorem setsC_at {n i : Nat} (a : Nat → Nat) (hi : i < n) : (setsC n a)[i]? = some (.int .u32 (a i : Int)) := by simp [setsC, hi]
theorem setsC_set {n i : Nat} (a : Nat → Nat) (v : Nat) : (setsC n a).set i (.int .u32 (v : Int)) = setsC n (upd a i v) := by
  apply List.ext_getElem?
  intro j
  rw [List.getElem?_set]
  simp only [setsC, List.length_map, List.length_range, List.getElem?_map, upd]
  by_cases hj : j < n
  · by_cases h : i = j
    · subst h; simp [hj]
    · simp [hj, h, Ne.symm h]
  · by_cases h : i = j
    · subst h; simp [hj]
    · simp [hj, h]
theorem sets_cell {w : World} {b T n i : Nat} {a : Nat → Nat} (h : Blk w b T (setsC n a)) (hi : i < n) : w.cell? ⟨b, i, none⟩ = some (.int .u32 (a i : Int)) := by
  rw [h.cell i]; exact setsC_at a hi
set_option maxRecDepth 100000 in
set_option maxHeartbeats 8000000 in
theorem close_any (pb b3 T3 c3 : Nat) (s0 s1 s2 : Value) (n : Nat) (hn : n ≤ 12) (a : Nat → Nat) (ha : ∀ j, j < n → a j < 2 ^ 12) (w : World) (hp : Blk w pb 116 [s0, s1, s2, .slice (some ⟨b3, 0, none⟩) n c3]) (hb : Blk w b3 T3 (setsC n a)) (hne : pb ≠ b3) :
    Calls Tryd.prog 100 #[.pointer (some ⟨pb, 0, none⟩)] w fun e w' => (∃ v, e = .returned v) ∧ Blk w' b3 T3 (setsC n (closeK n a n)) ∧ Frm w.heap.size [b3] w w' := by
  have hf0 := Tryd.func100
  have hpc : ∀ V, Frm w.heap.size [b3] w V → V.cell? ⟨pb, 3, none⟩ = some (.slice (some ⟨b3, 0, none⟩) n c3) := fun V hV => (hV.blk hp hp.lt (by simpa using hne)).cell 3
  have c0 := hpc w (Frm.refl _ _ _)
  have hlt := hb.lt
  have hlen : n ≤ maxLen := by unfold maxLen; omega
  have HP := Lib.hid hp
  have HB := Lib.hid hb
  have HPC := Lib.hid hpc
  have HA := Lib.hid ha
  have HLT := Lib.hid hlt
  have HN := Lib.hid hn
  clear hn hlt ha hpc hb hp
  go_enter Tryd.func100, Tryd.ntmps100
  go_wp2_with fail
  go_loopw [9] (fun s9 wr => ∃ k : Nat, s9 = .int .i64 k ∧ k ≤ n ∧ Blk wr b3 T3 (setsC n (closeK n a k)) ∧ Frm w.heap.size [b3] w wr) (fun s9 _ => n - (intOf s9).toNat)
  case atStart => exact ⟨0, rfl, Nat.zero_le _, HB.out, by repeat (first | with_reducible exact Frm.refl _ _ _ | with_reducible refine Frm.drewN ?_ | with_reducible refine Frm.drew ?_ | ((with_reducible refine Frm.setCell' ?_ ?_); · first | (left; simp; done) | (right; simp; done) | (right; simp; omega)) | ((with_reducible refine Frm.alloc' ?_ ?_); · first | exact Nat.le_refl _ | (simp; done) | (simp; omega)))⟩
  case round =>
    obtain ⟨k, rfl, hk, hbr, hfr⟩ := hrel
    by_cases hkn : k < n
    · have hkn' : (k : Int) < (n : Int) := by omega
      obtain ⟨w4x, w5x⟩ := wrapUp hkn hlen
      have hms := meas_up hkn
      have c0 := HPC.out wr hfr
      obtain ⟨a1, ha1⟩ : ∃ x, x = closeK n a k := ⟨_, rfl⟩
      have hab : ∀ j, j < n → a1 j < 2 ^ 12 := by rw [ha1]; exact closeK_lt HA.out k hk
      rw [← ha1] at hbr
      have hnx : closeK n a (k + 1) = closeI k a1 n := by rw [ha1]; rfl
      have HBR := Lib.hid hbr
      have HFR := Lib.hid hfr
      have HKN := Lib.hid hkn
      have HMS := Lib.hid hms
      have HA1 := Lib.hid ha1
      have HAB := Lib.hid hab
      have HNX := Lib.hid hnx
      clear hnx hab ha1 hms hkn hfr hbr
      go_wp2_with fail
      go_loopw [17] (fun s17 wr => ∃ i : Nat, s17 = .int .i64 i ∧ i ≤ n ∧ Blk wr b3 T3 (setsC n (closeI k a1 i)) ∧ Frm w.heap.size [b3] w wr) (fun s17 _ => n - (intOf s17).toNat)
      case atStart => exact ⟨0, rfl, Nat.zero_le _, HBR.out, HFR.out⟩
      case round =>
        obtain ⟨i, rfl, hi, hbq, hfq⟩ := hrel
        by_cases hin : i < n
        · have hin' : (i : Int) < (n : Int) := by omega
          obtain ⟨x4x, x5x⟩ := wrapUp hin hlen
          have hms2 := meas_up hin
          have c0 := HPC.out wr hfq
          obtain ⟨a2, ha2⟩ : ∃ x, x = closeI k a1 i := ⟨_, rfl⟩
          have hab2 : ∀ j, j < n → a2 j < 2 ^ 12 := by rw [ha2]; exact closeI_lt HKN.out HAB.out i hi
          rw [← ha2] at hbq
          have hny : closeI k a1 (i + 1) = if (a2 i).testBit k = true then upd a2 i (a2 i ||| a2 k) else a2 := by rw [ha2]; rfl
          obtain ⟨x, hx⟩ : ∃ x, x = a2 i := ⟨_, rfl⟩
          obtain ⟨y, hy⟩ : ∃ y, y = a2 k := ⟨_, rfl⟩
          have cx : wr.cell? ⟨b3, i, none⟩ = some (.int .u32 (x : Int)) := by rw [hx]; exact sets_cell hbq hin
          have hx12 := hab2 i hin
          have hy12 := hab2 k HKN.out
          rw [← hx] at hx12 hny
          rw [← hy] at hy12 hny
          cases ht : x.testBit k
          · rw [ht, if_neg (by simp)] at hny
            have HBQ := Lib.hid hbq
            have HFQ := Lib.hid hfq
            have HIN := Lib.hid hin
            have HMS2 := Lib.hid hms2
            have HA2 := Lib.hid ha2
            have HAB2 := Lib.hid hab2
            have HNY := Lib.hid hny
            have HX := Lib.hid hx
            have HY := Lib.hid hy
            have HX12 := Lib.hid hx12
            have HY12 := Lib.hid hy12
            have HT := Lib.hid ht
            clear ht hy12 hx12 hy hx hny hab2 ha2 hms2 hin hfq hbq
            go_wp2_with (go_at_call 73; refine (hasS_any x k (by have := HX12.out; omega) (by have := HKN.out; have := HN.out; omega) _).mono ?_; rintro e w' ⟨rfl, rfl⟩; rw [HT.out])
            (try simp only [x4x, x5x])
            exact ⟨⟨i + 1, by simp, HIN.out, by rw [HNY.out]; exact HBQ.out, HFQ.out⟩, HMS2.out⟩
          · rw [ht, if_pos rfl] at hny
            have hor : bits BinOp.or IntKind.u32 (x : Int) (y : Int) = ((x ||| y : Nat) : Int) := or_u32 (by omega) (by omega)
            have hfx : ∀ V, Frm wr.heap.size [] wr V → V.cell? ⟨pb, 3, none⟩ = some (.slice (some ⟨b3, 0, none⟩) n c3) ∧ V.cell? ⟨b3, i, none⟩ = some (.int .u32 (x : Int)) ∧ V.cell? ⟨b3, k, none⟩ = some (.int .u32 (y : Int)) ∧ V.frozen? ⟨b3, i, none⟩ = false := fun V hV => by
              have hbv := hV.blk hbq hbq.lt (by simp)
              exact ⟨HPC.out V (hfq.call hV hfq.size (by simp)), by rw [hx]; exact sets_cell hbv hin, by rw [hy]; exact sets_cell hbv HKN.out, hbv.free i⟩
            have HBQ := Lib.hid hbq
            have HFQ := Lib.hid hfq
            have HIN := Lib.hid hin
            have HMS2 := Lib.hid hms2
            have HA2 := Lib.hid ha2
            have HAB2 := Lib.hid hab2
            have HNY := Lib.hid hny
            have HX := Lib.hid hx
            have HY := Lib.hid hy
            have HX12 := Lib.hid hx12
            have HY12 := Lib.hid hy12
            have HT := Lib.hid ht
            have HFX := Lib.hid hfx
            clear hfx ht hy12 hx12 hy hx hny hab2 ha2 hms2 hin hfq hbq
            go_wp2_with (go_at_call 73; refine (hasS_any x k (by have := HX12.out; omega) (by have := HKN.out; have := HN.out; omega) _).mono ?_; rintro e w' ⟨rfl, rfl⟩; rw [HT.out])
            obtain ⟨w5, hw5⟩ : ∃ v, v = wr := ⟨_, rfl⟩
            refine wp_region_leftL (fun V => Frm wr.heap.size [] wr V) 16 (by kernel_rfl) ?_
            have hS : Frm wr.heap.size [] wr wr.drew := (Frm.refl _ _ wr).drew
            have HS := Lib.hid hS
            clear hS
            first | ((first | refine LeftL.tkF (v := ?_) 0 rfl HS.out ?_ ?_ | refine LeftL.tkG (v := ?_) 0 rfl HS.out ?_ ?_); rotate_left; (· intro V hV; obtain ⟨q0, q1, q2, q3⟩ := HFX.out V hV; clear hV; go_simp; rfl)) | refine LeftL.tkN 0 rfl HS.out ?_
            (intro K' hK'; go_simp; refine hK' _ ?_; clear hK' K')
            first | ((first | refine LeftL.tkF (v := ?_) 1 rfl HS.out ?_ ?_ | refine LeftL.tkG (v := ?_) 1 rfl HS.out ?_ ?_); rotate_left; (· intro V hV; obtain ⟨q0, q1, q2, q3⟩ := HFX.out V hV; clear hV; go_simp; rfl)) | refine LeftL.tkN 1 rfl HS.out ?_
            (intro K' hK'; go_simp; refine hK' _ ?_; clear hK' K')
            first | ((first | refine LeftL.tkF (v := ?_) 2 rfl HS.out ?_ ?_ | refine LeftL.tkG (v := ?_) 2 rfl HS.out ?_ ?_); rotate_left; (· intro V hV; obtain ⟨q0, q1, q2, q3⟩ := HFX.out V hV; clear hV; go_simp; rfl)) | refine LeftL.tkN 2 rfl HS.out ?_
            (intro K' hK'; go_simp; refine hK' _ ?_; clear hK' K')
            first | ((first | refine LeftL.tkF (v := ?_) 3 rfl HS.out ?_ ?_ | refine LeftL.tkG (v := ?_) 3 rfl HS.out ?_ ?_); rotate_left; (· intro V hV; obtain ⟨q0, q1, q2, q3⟩ := HFX.out V hV; clear hV; go_simp; rfl)) | refine LeftL.tkN 3 rfl HS.out ?_
            (intro K' hK'; go_simp; refine hK' _ ?_; clear hK' K')
            first | ((first | refine LeftL.tkF (v := ?_) 4 rfl HS.out ?_ ?_ | refine LeftL.tkG (v := ?_) 4 rfl HS.out ?_ ?_); rotate_left; (· intro V hV; obtain ⟨q0, q1, q2, q3⟩ := HFX.out V hV; clear hV; go_simp; rfl)) | refine LeftL.tkN 4 rfl HS.out ?_
            (intro K' hK'; go_simp; refine hK' _ ?_; clear hK' K')
            first | ((first | refine LeftL.tkF (v := ?_) 5 rfl HS.out ?_ ?_ | refine LeftL.tkG (v := ?_) 5 rfl HS.out ?_ ?_); rotate_left; (· intro V hV; obtain ⟨q0, q1, q2, q3⟩ := HFX.out V hV; clear hV; go_simp; rfl)) | refine LeftL.tkN 5 rfl HS.out ?_
            (intro K' hK'; go_simp; refine hK' _ ?_; clear hK' K')
            first | ((first | refine LeftL.tkF (v := ?_) 6 rfl HS.out ?_ ?_ | refine LeftL.tkG (v := ?_) 6 rfl HS.out ?_ ?_); rotate_left; (· intro V hV; obtain ⟨q0, q1, q2, q3⟩ := HFX.out V hV; clear hV; go_simp; rfl)) | refine LeftL.tkN 6 rfl HS.out ?_
            (intro K' hK'; go_simp; refine hK' _ ?_; clear hK' K')
            first | ((first | refine LeftL.tkF (v := ?_) 7 rfl HS.out ?_ ?_ | refine LeftL.tkG (v := ?_) 7 rfl HS.out ?_ ?_); rotate_left; (· intro V hV; obtain ⟨q0, q1, q2, q3⟩ := HFX.out V hV; clear hV; go_simp; rfl)) | refine LeftL.tkN 7 rfl HS.out ?_
            (intro K' hK'; go_simp; refine hK' _ ?_; clear hK' K')
            first | ((first | refine LeftL.tkF (v := ?_) 8 rfl HS.out ?_ ?_ | refine LeftL.tkG (v := ?_) 8 rfl HS.out ?_ ?_); rotate_left; (· intro V hV; obtain ⟨q0, q1, q2, q3⟩ := HFX.out V hV; clear hV; go_simp; rfl)) | refine LeftL.tkN 8 rfl HS.out ?_
            (intro K' hK'; go_simp; refine hK' _ ?_; clear hK' K')
            first | ((first | refine LeftL.tkF (v := ?_) 9 rfl HS.out ?_ ?_ | refine LeftL.tkG (v := ?_) 9 rfl HS.out ?_ ?_); rotate_left; (· intro V hV; obtain ⟨q0, q1, q2, q3⟩ := HFX.out V hV; clear hV; go_simp; rfl)) | refine LeftL.tkN 9 rfl HS.out ?_
            (intro K' hK'; go_simp; refine hK' _ ?_; clear hK' K')
            first | ((first | refine LeftL.tkF (v := ?_) 10 rfl HS.out ?_ ?_ | refine LeftL.tkG (v := ?_) 10 rfl HS.out ?_ ?_); rotate_left; (· intro V hV; obtain ⟨q0, q1, q2, q3⟩ := HFX.out V hV; clear hV; go_simp; rfl)) | refine LeftL.tkN 10 rfl HS.out ?_
            (intro K' hK'; go_simp; refine hK' _ ?_; clear hK' K')
            first | ((first | refine LeftL.tkF (v := ?_) 11 rfl HS.out ?_ ?_ | refine LeftL.tkG (v := ?_) 11 rfl HS.out ?_ ?_); rotate_left; (· intro V hV; obtain ⟨q0, q1, q2, q3⟩ := HFX.out V hV; clear hV; go_simp; rfl)) | refine LeftL.tkN 11 rfl HS.out ?_
            (intro K' hK'; go_simp; refine hK' _ ?_; clear hK' K')
            first | ((first | refine LeftL.tkF (v := ?_) 12 rfl HS.out ?_ ?_ | refine LeftL.tkG (v := ?_) 12 rfl HS.out ?_ ?_); rotate_left; (· intro V hV; obtain ⟨q0, q1, q2, q3⟩ := HFX.out V hV; clear hV; go_simp; rfl)) | refine LeftL.tkN 12 rfl HS.out ?_
            (intro K' hK'; go_simp; refine hK' _ ?_; clear hK' K')
            first | ((first | refine LeftL.tkF (v := ?_) 13 rfl HS.out ?_ ?_ | refine LeftL.tkG (v := ?_) 13 rfl HS.out ?_ ?_); rotate_left; (· intro V hV; obtain ⟨q0, q1, q2, q3⟩ := HFX.out V hV; clear hV; go_simp; rfl)) | refine LeftL.tkN 13 rfl HS.out ?_
            (intro K' hK'; go_simp; refine hK' _ ?_; clear hK' K')
            first | ((first | refine LeftL.tkF (v := ?_) 14 rfl HS.out ?_ ?_ | refine LeftL.tkG (v := ?_) 14 rfl HS.out ?_ ?_); rotate_left; (· intro V hV; obtain ⟨q0, q1, q2, q3⟩ := HFX.out V hV; clear hV; go_simp; rfl)) | refine LeftL.tkN 14 rfl HS.out ?_
            (intro K' hK'; go_simp; refine hK' _ ?_; clear hK' K')
            first | ((first | refine LeftL.tkF (v := ?_) 15 rfl HS.out ?_ ?_ | refine LeftL.tkG (v := ?_) 15 rfl HS.out ?_ ?_); rotate_left; (· intro V hV; obtain ⟨q0, q1, q2, q3⟩ := HFX.out V hV; clear hV; go_simp; rfl)) | refine LeftL.tkN 15 rfl HS.out ?_
            (intro K' hK'; go_simp; refine hK' _ ?_; clear hK' K')
            have hbd := HS.out.blk HBQ.out HBQ.out.lt (by simp)
            have hff := HFQ.out.call HS.out HFQ.out.size (by simp)
            obtain ⟨q0, q1, q2, q3⟩ := HFX.out _ HS.out
            have HBD := Lib.hid hbd
            have HFF := Lib.hid hff
            clear hff hbd
            refine LeftL.one 16 rfl (by kernel_rfl) ?_
            go_wp2_with fail
            refine ⟨fun h => absurd rfl h, ?_⟩
            have hb6 := HBQ.out.set i (.int .u32 ((x ||| y : Nat) : Int))
            rw [setsC_set] at hb6
            have hb7 := Blk.drew hb6
            have hf7 : Frm w.heap.size [b3] w (wr.setCell ⟨b3, i, none⟩ (.int .u32 ((x ||| y : Nat) : Int))).drew := (HFQ.out.setCell (p := ⟨b3, i, none⟩) (.inl (by simp)) _).drew
            clear hb6 HS HBD HFF HFX
            generalize (wr.setCell ⟨b3, i, none⟩ (.int .u32 ((x ||| y : Nat) : Int))).drew = w8 at hb7 hf7 ⊢
            have HB7 := Lib.hid hb7
            have HF7 := Lib.hid hf7
            clear hf7 hb7
            refine LeftL.done (by kernel_rfl) ?_
            go_wp2_with fail
            (try simp only [x4x, x5x])
            exact ⟨⟨i + 1, by simp, HIN.out, by rw [HNY.out]; exact HB7.out, HF7.out⟩, HMS2.out⟩
        · have hin' : ¬ (i : Int) < (n : Int) := by omega
          obtain rfl : i = n := by omega
          have HBQ := Lib.hid hbq
          have HFQ := Lib.hid hfq
          clear hfq hbq
          go_wp2_with fail
          (try simp only [w4x, w5x])
          exact ⟨⟨k + 1, by simp, HKN.out, by rw [HNX.out]; exact HBQ.out, HFQ.out⟩, HMS.out⟩
    · have hkn' : ¬ (k : Int) < (n : Int) := by omega
      obtain rfl : k = n := by omega
      have HBR := Lib.hid hbr
      have HFR := Lib.hid hfr
      clear hfr hbr
      go_wp2_with fail
      go_end0
      exact ⟨⟨_, rfl⟩, HBR.out, HFR.out⟩
end Go.Proofs.YtfmigicmfolbjaaDoor

namespace Go.Proofs.YtfmigicmfolbjaaDoor
set_option linter.all false
set_option linter.unusedSimpArgs false
set_option linter.unusedVariables false

theorem closeI_eq (k : Nat) (a : Nat → Nat) : ∀ i j, closeI k a i j = if j < i ∧ (a j).testBit k = true then a j ||| a k else a j
  | 0, j => by
    rw [if_neg (by omega)]
    rfl
  | i + 1, j => by
    have ih := closeI_eq k a i
    have hi : closeI k a i i = a i := by rw [ih i, if_neg (by omega)]
    have hk : closeI k a i k = a k := by
      rw [ih k]
      split
      · exact Nat.or_self _
      · rfl
    unfold closeI
    rw [hi, hk]
    by_cases ht : (a i).testBit k = true
    · rw [if_pos ht]
      unfold upd
      by_cases hj : j = i
      · subst hj
        rw [if_pos rfl, if_pos ⟨by omega, ht⟩]
      · rw [if_neg hj, ih j]
        by_cases h2 : j < i ∧ (a j).testBit k = true
        · rw [if_pos h2, if_pos ⟨by omega, h2.2⟩]
        · rw [if_neg h2, if_neg (fun h => h2 ⟨by omega, h.2⟩)]
    · rw [if_neg ht, ih j]
      by_cases h2 : j < i ∧ (a j).testBit k = true
      · rw [if_pos h2, if_pos ⟨by omega, h2.2⟩]
      · rw [if_neg h2, if_neg (fun h => h2 ⟨by
          rcases Nat.lt_or_ge j i with h1 | h1
          · exact h1
          · exfalso
            have : j = i := by omega
            subst this
            exact ht h.2, h.2⟩)]
/-- One round more. -/
theorem closeK_bit {n : Nat} {a : Nat → Nat} {k i j : Nat} (hi : i < n) : (closeK n a (k + 1) i).testBit j = ((closeK n a k i).testBit j || ((closeK n a k i).testBit k && (closeK n a k k).testBit j)) := by
  show (closeI k (closeK n a k) n i).testBit j = _
  rw [closeI_eq]
  cases h : (closeK n a k i).testBit k
  · rw [if_neg (by simp)]
    simp
  · rw [if_pos ⟨hi, rfl⟩, Nat.testBit_or]
    simp
/-- Behind k rounds: what goes through a number below k goes. -/
theorem closeK_tr {n : Nat} {a : Nat → Nat} : ∀ (k : Nat), k ≤ n → ∀ i m j, i < n → m < k → (closeK n a k i).testBit m = true → (closeK n a k m).testBit j = true → (closeK n a k i).testBit j = true
  | 0, _, i, m, j, _, hm, _, _ => absurd hm (by omega)
  | k + 1, hk, i, m, j, hi, hm, h1, h2 => by
    have ih := closeK_tr (n := n) (a := a) k (by omega)
    rw [closeK_bit hi] at h1 ⊢
    rw [closeK_bit (show m < n by omega)] at h2
    simp only [Bool.or_eq_true, Bool.and_eq_true] at h1 h2 ⊢
    rcases Nat.lt_or_ge m k with hmk | hmk
    · rcases h1 with h1 | ⟨h1, h3⟩
      · rcases h2 with h2 | ⟨h2, h4⟩
        · exact .inl (ih i m j hi hmk h1 h2)
        · exact .inr ⟨ih i m k hi hmk h1 h2, h4⟩
      · rcases h2 with h2 | ⟨h2, h4⟩
        · exact .inr ⟨h1, ih k m j (by omega) hmk h3 h2⟩
        · exact .inr ⟨h1, h4⟩
    · obtain rfl : m = k := by omega
      have q1 : (closeK n a m i).testBit m = true := by rcases h1 with h1 | ⟨h1, _⟩ <;> exact h1
      have q2 : (closeK n a m m).testBit j = true := by
        rcases h2 with h2 | ⟨_, h2⟩ <;> exact h2
      exact .inr ⟨q1, q2⟩
/-- Closed. -/
theorem close_tr {n : Nat} {a : Nat → Nat} {i m j : Nat} (hi : i < n) (hm : m < n) (h1 : (closeK n a n i).testBit m = true) (h2 : (closeK n a n m).testBit j = true) : (closeK n a n i).testBit j = true := closeK_tr n (Nat.le_refl _) i m j hi hm h1 h2
theorem closeK_ge {n : Nat} {a : Nat → Nat} {i j : Nat} (hi : i < n) (h : (a i).testBit j = true) : ∀ k, (closeK n a k i).testBit j = true
  | 0 => h
  | k + 1 => by rw [closeK_bit hi, closeK_ge hi h k]; rfl
/-- No more than what goes through. -/
theorem closeK_le {n : Nat} {a : Nat → Nat} {T : Nat → Nat → Prop} (htr : ∀ i m j, T i m → T m j → T i j) (h0 : ∀ i j, i < n → (a i).testBit j = true → T i j) : ∀ k, k ≤ n → ∀ i j, i < n → (closeK n a k i).testBit j = true → T i j
  | 0, _, i, j, hi, h => h0 i j hi h
  | k + 1, hk, i, j, hi, h => by
    have ih := closeK_le htr h0 k (by omega)
    rw [closeK_bit hi] at h
    simp only [Bool.or_eq_true, Bool.and_eq_true] at h
    rcases h with h | ⟨h1, h2⟩
    · exact ih i j hi h
    · exact htr i k j (ih i k hi h1) (ih k j (by omega) h2)
end Go.Proofs.YtfmigicmfolbjaaDoor

namespace Go.Proofs.YtfmigicmfolbjaaDoor
set_option linter.all false
set_option linter.unusedSimpArgs false
set_option linter.unusedVariables false

/-- What is given of a step: what it needs, makes, ends. -/
structure RS where
  need : List Int
  add : List Int
  ends : List Int
structure Raw where
  starts : List Int
  steps : List RS
  edges : List (Int × Int)
def numL (l : List Int) : Option Nat := (numF (fun i => l.getD i 0) l.length).map (·.1)
theorem numL_lt {l : List Int} {s : Nat} (h : numL l = some s) : s < 2 ^ 16 := by
  unfold numL at h
  rw [Option.map_eq_some_iff] at h
  obtain ⟨⟨s0, l0⟩, h1, rfl⟩ := h
  exact (numF_ok h1).1
def stepO (r : RS) : Option (Nat × Nat × Nat) := match numL r.need, numL r.add, numL r.ends with
  | some a, some b, some c => if b &&& c = 0 then some (a, b, c) else none
  | _, _, _ => none
def stepsO : List RS → Option (List (Nat × Nat × Nat))
  | [] => some []
  | r :: rs => match stepO r, stepsO rs with
    | some x, some xs => some (x :: xs)
    | _, _ => none
def edgeO (n : Nat) (o : Option (Nat → Nat)) (e : Int × Int) : Option (Nat → Nat) := match o with
  | none => none
  | some a => if (inB e.1 0 ((n : Int) - 1) && inB e.2 0 ((n : Int) - 1)) = true then some (upd a e.1.toNat (a e.1.toNat ||| 1 <<< e.2.toNat)) else none
def edgesO (n : Nat) (es : List (Int × Int)) : Option (Nat → Nat) := es.foldl (edgeO n) (some fun _ => 0)
/-- The steps of which one lies behind. -/
def beforeS (n : Nat) (a : Nat → Nat) (i : Nat) : Nat := (List.range n).foldl (fun s j => if (a j).testBit i = true then s ||| 1 <<< j else s) 0
def plannedO (R : Raw) : Option PL := match numL R.starts with
  | none => none
  | some st => if 12 < R.steps.length ∨ 100 < R.edges.length then none else match stepsO R.steps with
    | none => none
    | some xs => match edgesO R.steps.length R.edges with
      | none => none
      | some a => if ((List.range R.steps.length).all fun i => !(closeK R.steps.length a R.steps.length i).testBit i) = true then
          some ⟨st, R.steps.length, fun i => (xs.getD i (0, 0, 0)).1, fun i => (xs.getD i (0, 0, 0)).2.1, fun i => (xs.getD i (0, 0, 0)).2.2, beforeS R.steps.length (closeK R.steps.length a R.steps.length), closeK R.steps.length a R.steps.length⟩
        else none
theorem edgeO_none (n : Nat) : ∀ es : List (Int × Int), es.foldl (edgeO n) none = none
  | [] => rfl
  | _ :: es => edgeO_none n es
theorem edges_lt {n : Nat} : ∀ (es : List (Int × Int)) (a b : Nat → Nat), (∀ j, j < n → a j < 2 ^ n) → es.foldl (edgeO n) (some a) = some b → ∀ j, j < n → b j < 2 ^ n
  | [], a, b, ha, h, j, hj => by
    have h : some a = some b := h
    cases h
    exact ha j hj
  | e :: es, a, b, ha, h, j, hj => by
    have h : es.foldl (edgeO n) (edgeO n (some a) e) = some b := h
    by_cases hin : (inB e.1 0 ((n : Int) - 1) && inB e.2 0 ((n : Int) - 1)) = true
    · have he : edgeO n (some a) e = some (upd a e.1.toNat (a e.1.toNat ||| 1 <<< e.2.toNat)) := by unfold edgeO; exact if_pos hin
      rw [he] at h
      rw [Bool.and_eq_true] at hin
      have h1 := inB_iff.1 hin.1
      have h2 := inB_iff.1 hin.2
      refine edges_lt es _ b (fun k hk => ?_) h j hj
      unfold upd
      split
      · refine Nat.or_lt_two_pow (ha _ (by omega)) ?_
        rw [Nat.shiftLeft_eq, Nat.one_mul]
        exact Nat.pow_lt_pow_right (by omega) (by omega)
      · exact ha k hk
    · have he : edgeO n (some a) e = none := by unfold edgeO; exact if_neg hin
      rw [he, edgeO_none] at h
      cases h
theorem beforeS_lt (n : Nat) (a : Nat → Nat) (i : Nat) : beforeS n a i < 2 ^ n := by
  unfold beforeS
  have key : ∀ (l : List Nat) (s : Nat), (∀ j, j ∈ l → j < n) → s < 2 ^ n → l.foldl (fun s j => if (a j).testBit i = true then s ||| 1 <<< j else s) s < 2 ^ n := by
    intro l
    induction l with
    | nil => intro s _ h; exact h
    | cons j l ih =>
      intro s hl h
      refine ih _ (fun k hk => hl k (by simp [hk])) ?_
      show (if (a j).testBit i = true then s ||| 1 <<< j else s) < 2 ^ n
      split
      · refine Nat.or_lt_two_pow h ?_
        rw [Nat.shiftLeft_eq, Nat.one_mul]
        exact Nat.pow_lt_pow_right (by omega) (hl j (by simp))
      · exact h
  exact key _ 0 (fun j hj => by simpa using hj) (Nat.pow_pos (by omega))
end Go.Proofs.YtfmigicmfolbjaaDoor

namespace Go.Proofs.YtfmigicmfolbjaaDoor
set_option linter.all false
set_option linter.unusedSimpArgs false
set_option linter.unusedVariables false

theorem stepO_lt {r : RS} {x : Nat × Nat × Nat} (h : stepO r = some x) : x.1 < 2 ^ 16 ∧ x.2.1 < 2 ^ 16 ∧ x.2.2 < 2 ^ 16 ∧ x.2.1 &&& x.2.2 = 0 := by
  unfold stepO at h
  split at h
  · rename_i a b c h1 h2 h3
    split at h
    · rename_i h0
      cases h
      exact ⟨numL_lt h1, numL_lt h2, numL_lt h3, h0⟩
    · cases h
  · cases h
theorem stepsO_all : ∀ {rs : List RS} {xs : List (Nat × Nat × Nat)}, stepsO rs = some xs → xs.length = rs.length ∧ ∀ x, x ∈ xs → x.1 < 2 ^ 16 ∧ x.2.1 < 2 ^ 16 ∧ x.2.2 < 2 ^ 16 ∧ x.2.1 &&& x.2.2 = 0
  | [], xs, h => by
    have h : some [] = some xs := h
    cases h
    exact ⟨rfl, fun x hx => by cases hx⟩
  | r :: rs, xs, h => by
    unfold stepsO at h
    split at h
    · rename_i x ys h1 h2
      have ih := stepsO_all h2
      cases h
      refine ⟨by simp [ih.1], fun y hy => ?_⟩
      rcases List.mem_cons.1 hy with rfl | hy
      · exact stepO_lt h1
      · exact ih.2 y hy
    · cases h
theorem planned_ok {R : Raw} {P : PL} (h : plannedO R = some P) : PLOK P := by
  unfold plannedO at h
  split at h
  · cases h
  rename_i st hst
  split at h
  · cases h
  rename_i hn
  split at h
  · cases h
  rename_i xs hxs
  split at h
  · cases h
  rename_i a ha
  split at h
  · cases h
    have hx := stepsO_all hxs
    have hm : ∀ i, i < R.steps.length → xs.getD i (0, 0, 0) ∈ xs := fun i hi => by
      have : i < xs.length := by omega
      simp [List.getD_eq_getElem?_getD, this]
    have hal := edges_lt R.edges _ a (fun j _ => Nat.pow_pos (by omega)) ha
    exact ⟨by dsimp only; omega, numL_lt hst, fun i hi => (hx.2 _ (hm i hi)).1, fun i hi => (hx.2 _ (hm i hi)).2.1, fun i hi => (hx.2 _ (hm i hi)).2.2.1, fun i _ => beforeS_lt _ _ i, fun i hi => closeK_lt hal _ (Nat.le_refl _) i hi⟩
  · cases h
end Go.Proofs.YtfmigicmfolbjaaDoor

namespace Go.Proofs.YtfmigicmfolbjaaDoor
set_option linter.all false
set_option linter.unusedSimpArgs false
set_option linter.unusedVariables false

theorem anyA_iff {P : PL} {f s n : Nat} : anyA P f (bitsOf n s) = true ↔ ∃ d, d < n ∧ s.testBit d = true ∧ (P.add d).testBit f = true := by
  unfold anyA
  rw [List.any_eq_true]
  constructor
  · rintro ⟨d, hd, h⟩
    have := bitsOf_mem.1 hd
    exact ⟨d, this.1, this.2, h⟩
  · rintro ⟨d, h1, h2, h3⟩
    exact ⟨d, bitsOf_mem.2 ⟨h1, h2⟩, h3⟩
theorem surelyB_iff (P : PL) (f B M : Nat) : surelyB P f B M = true ↔ surelyP P.n (fun i j => (P.after i).testBit j) (P.start.testBit f) (fun d => (P.add d).testBit f) (fun c => (P.ends c).testBit f) (fun i => B.testBit i) (fun i => M.testBit i) := by
  unfold surelyB surelyP
  rw [Bool.and_eq_true, Bool.or_eq_true, anyA_iff, List.all_eq_true]
  refine and_congr Iff.rfl ?_
  constructor
  · intro h c hc hm ht
    have ht : (P.ends c).testBit f = true := ht
    have := h c (bitsOf_mem.2 ⟨hc, hm⟩)
    rw [ht, Bool.not_true, Bool.false_or, anyA_iff] at this
    obtain ⟨d, h1, h2, h3⟩ := this
    rw [Nat.testBit_and, Bool.and_eq_true] at h2
    exact ⟨d, h1, h2.1, h2.2, h3⟩
  · intro h c hc
    have hc := bitsOf_mem.1 hc
    cases ht : (P.ends c).testBit f
    · rfl
    · rw [Bool.not_true, Bool.false_or, anyA_iff]
      obtain ⟨d, h1, h2, h3, h4⟩ := h c hc.1 hc.2 ht
      have h2 : (P.after c).testBit d = true := h2
      have h3 : B.testBit d = true := h3
      exact ⟨d, h1, by rw [Nat.testBit_and, h2, h3]; rfl, h4⟩
end Go.Proofs.YtfmigicmfolbjaaDoor

namespace Go.Proofs.YtfmigicmfolbjaaDoor
set_option linter.all false
set_option linter.unusedSimpArgs false
set_option linter.unusedVariables false

def PL.behind (P : PL) (i j : Nat) : Bool := decide (i < P.n) && (P.after i).testBit j
theorem planned_ord {R : Raw} {P : PL} (h : plannedO R = some P) : Ord P.n P.behind := by
  have hok := planned_ok h
  unfold plannedO at h
  split at h
  · cases h
  split at h
  · cases h
  split at h
  · cases h
  split at h
  · cases h
  split at h
  · rename_i a ha hall
    cases h
    rw [List.all_eq_true] at hall
    refine ⟨fun i hi => ?_, fun i j k h1 h2 => ?_, fun i j h1 => ?_⟩
    · have := hall i (by simpa using hi)
      unfold PL.behind
      simp at this ⊢
      intro _
      exact this
    · unfold PL.behind at h1 h2 ⊢
      rw [Bool.and_eq_true] at h1 h2 ⊢
      exact ⟨h1.1, close_tr (of_decide_eq_true h1.1) (of_decide_eq_true h2.1) h1.2 h2.2⟩
    · unfold PL.behind at h1
      rw [Bool.and_eq_true] at h1
      have hi := of_decide_eq_true h1.1
      refine ⟨hi, ?_⟩
      refine Classical.byContradiction fun hj => ?_
      have hlt := hok.after i hi
      have := Nat.testBit_lt_two_pow (Nat.lt_of_lt_of_le hlt (Nat.pow_le_pow_right (by omega) (Nat.le_of_not_lt hj)))
      rw [h1.2] at this
      cases this
  · cases h
end Go.Proofs.YtfmigicmfolbjaaDoor
