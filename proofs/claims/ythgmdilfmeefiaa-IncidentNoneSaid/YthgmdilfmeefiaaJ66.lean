/-
  Calls of a list: great; no list has more than 30 corners.
-/
import Derived.Test.YthgmdilfmeefiaaBI
namespace Go.Proofs.Ythgmdilfmeefiaa
set_option linter.all false
set_option linter.unusedSimpArgs false
set_option linter.unusedVariables false
open Go.RowKit

set_option maxRecDepth 100000 in
set_option maxHeartbeats 8000000 in
theorem greats2_any (ad : Option Addr) (b off len cap : Nat) (A : Nat → Act_ × APos) (w : World) (hr : RwA w ad b off len A) :
    Calls Try.prog 13 #[.slice ad len cap] w fun e w' => (e = .returned (.bool true) ∨ e = .returned (.bool false) ∧ ∀ j, j < len → (A j).1.r.wh.length ≤ 30 ∧ (A j).1.p.wh.length ≤ 30) ∧ Frm w.heap.size [] w w' := by
  have hf0 := Try.func13
  have hlen := hr.len
  have had := hr.ad
  by_cases h60 : 60 < len
  · have h60' : (60 : Int) < (len : Int) := by omega
    go_enter Try.func13, Try.ntmps13
    go_wp2_with fail
    go_ret
    exact ⟨.inl rfl, Frm.refl _ _ _⟩
  have h60' : ¬ (60 : Int) < (len : Int) := by omega
  have HR := Lib.hid hr
  have HAD := Lib.hid had
  have HLEN := Lib.hid hlen
  have H60 := Lib.hid h60
  clear h60 hlen had hr
  go_enter Try.func13, Try.ntmps13
  go_wp2_with fail
  go_loopw [3] (fun s3 wr => ∃ i : Nat, s3 = .int .i64 i ∧ i ≤ len ∧ (∀ j, j < i → (A j).1.r.wh.length ≤ 30 ∧ (A j).1.p.wh.length ≤ 30) ∧ Frm w.heap.size [] w wr) (fun s3 _ => len - (intOf s3).toNat)
  case atStart => exact ⟨0, rfl, Nat.zero_le _, fun j hj => absurd hj (Nat.not_lt_zero j), Frm.refl _ _ _⟩
  case round =>
    obtain ⟨i, rfl, hi, hall, hf⟩ := hrel
    by_cases hil : i < len
    rotate_left
    · have hil' : ¬ (i : Int) < (len : Int) := by omega
      obtain rfl : i = len := by omega
      have HF := Lib.hid hf
      have HALL := Lib.hid hall
      clear hall hf
      go_wp2_with fail
      go_ret
      exact ⟨.inr ⟨rfl, HALL.out⟩, HF.out⟩
    have hil' : (i : Int) < (len : Int) := by omega
    have had := HAD.out (by omega)
    subst had
    obtain ⟨y4, y5⟩ := wrapUp hil HLEN.out
    have hms := meas_up hil
    have hrw := HR.out.frm hf (Nat.le_refl _)
    have hlo := RwA.rep hrw hil
    have hat := hrw.at_ i hil
    have c13 : wr.cell? ⟨b, off + i * 16 + 10 + 3, none⟩ = some (.string (A i).1.p.by_) := by have := hat 13 _ (act_prf _ _ 3 _ rfl); exact this
    have c14 : wr.cell? ⟨b, off + i * 16 + 10 + 4, none⟩ = some (.slice (A i).2.pa (A i).1.p.wh.length (A i).2.pc) := by have := hat 14 _ (act_prf _ _ 4 _ rfl); exact this
    obtain ⟨R, hR⟩ : ∃ R, R = repC (A i).1.r (A i).2.ra (A i).2.rc := ⟨_, rfl⟩
    have hgc : ∀ V, Calls Try.prog 9 #[.agg R.toArray] V fun e w' => e = .returned (.bool (greatB (A i).1.r)) ∧ Frm V.heap.size [] V w' := fun V => by rw [hR]; exact great_any _ _ _ V
    obtain ⟨g, hg⟩ : ∃ g, g = greatB (A i).1.r := ⟨_, rfl⟩
    obtain ⟨by_, hby⟩ : ∃ g, g = (A i).1.p.by_ := ⟨_, rfl⟩
    obtain ⟨pl, hpl⟩ : ∃ g, g = (A i).1.p.wh.length := ⟨_, rfl⟩
    obtain ⟨pa, hpa⟩ : ∃ g, g = (A i).2.pa := ⟨_, rfl⟩
    obtain ⟨pc, hpc⟩ : ∃ g, g = (A i).2.pc := ⟨_, rfl⟩
    rw [← hR] at hlo
    simp only [← hg] at hgc
    rw [← hby] at c13
    rw [← hpl, ← hpa, ← hpc] at c14
    have c13' := fun (V : World) (hV : Frm wr.heap.size [] wr V) => (hV.cell (cell_lt c13) (by simp)).trans c13
    have c14' := fun (V : World) (hV : Frm wr.heap.size [] wr V) => (hV.cell (cell_lt c14) (by simp)).trans c14
    have hnx : g = false → ¬ 30 < pl → ∀ j, j < i + 1 → (A j).1.r.wh.length ≤ 30 ∧ (A j).1.p.wh.length ≤ 30 := fun h1 h2 j hj => by
      rcases Nat.lt_or_ge j i with h | h
      · exact hall j h
      · obtain rfl : j = i := by omega
        refine ⟨?_, by rw [← hpl]; omega⟩
        rw [hg] at h1
        unfold greatB at h1
        simp only [Bool.or_eq_false_iff, decide_eq_false_iff_not] at h1
        omega
    clear hR hg hby hpl hpa hpc hat hrw c13 c14 hall
    have HF := Lib.hid hf
    have HLO := Lib.hid hlo
    have HGC := Lib.hid hgc
    have C13 := Lib.hid c13'
    have C14 := Lib.hid c14'
    have HMS := Lib.hid hms
    have HIL := Lib.hid hil
    have HNX := Lib.hid hnx
    clear hnx hil hms c14' c13' hgc hlo hf
    go_wp2_with (with_reducible refine atLoad 24 rfl ?_; refine wpList_loadE rfl rfl rfl HLO.out ?_)
    refine (HGC.out wr).mono ?_; rintro e w1 ⟨rfl, hf1⟩
    have c13 := C13.out w1 hf1
    have c14 := C14.out w1 hf1
    have hf := HF.out.call hf1 HF.out.size (by simp)
    clear hf1 HF HLO HGC C13 C14
    have HF := Lib.hid hf
    clear hf
    cases g
    rotate_left
    · go_wp2_with fail
      go_ret
      exact ⟨.inl rfl, HF.out⟩
    by_cases hs : 100 < by_.size
    · have hs' : (100 : Int) < (by_.size : Int) := by omega
      go_wp2_with fail
      go_ret
      exact ⟨.inl rfl, HF.out⟩
    have hs' : ¬ (100 : Int) < (by_.size : Int) := by omega
    by_cases hp : 30 < pl
    · have hp' : (30 : Int) < (pl : Int) := by omega
      go_wp2_with fail
      go_ret
      exact ⟨.inl rfl, HF.out⟩
    have hp' : ¬ (30 : Int) < (pl : Int) := by omega
    have hall := HNX.out rfl hp
    have HALL := Lib.hid hall
    clear hall
    go_wp2_with fail
    exact ⟨⟨i + 1, by simp [y4, y5], HIL.out, HALL.out, HF.out⟩, by have := HMS.out; simpa [intOf, y4, y5] using this⟩
end Go.Proofs.Ythgmdilfmeefiaa
