/-
  Boxes that have something in common.
-/
import Derived.Test.YtghkfopcjdkieaaDoorU23
namespace Go.Proofs.YtghkfopcjdkieaaDoor
set_option linter.all false
set_option linter.unusedSimpArgs false
set_option linter.unusedVariables false
open Go.RowKit

def meetB (a b : BC) : Bool := decide (a.level = b.level) && overB a.from_ a.to_ b.from_ b.to_ && overB a.lx a.hx b.lx b.hx && overB a.ly a.hy b.ly b.hy

set_option maxRecDepth 100000 in
set_option maxHeartbeats 4000000 in
theorem meet_any (a b : BC) (w : World) : Calls Tryd.prog 76 #[.agg a.cells.toArray, .agg b.cells.toArray] w fun e w' => e = .returned (.bool (meetB a b)) ∧ Frm w.heap.size [] w w' := by
  have hf0 := Tryd.func76
  go_enter Tryd.func76, Tryd.ntmps76
  go_upto_region 1 with fail
  refine namedC ?_; intro W hW
  have ha : Blk W w.heap.size 87 a.cells := by rw [hW]; exact (Blk.new w 87 a.cells).alloc _
  have hb : Blk W (w.heap.size + 1) 87 b.cells := by rw [hW]; exact Blk.new' _ 87 b.cells (by simp)
  have hf : Frm w.heap.size [] w W := by rw [hW]; repeat (first | with_reducible exact Frm.refl _ _ _ | with_reducible refine Frm.drewN ?_ | with_reducible refine Frm.drew ?_ | ((with_reducible refine Frm.setCell' ?_ ?_); · first | (left; simp; done) | (right; simp; done) | (right; simp; omega)) | ((with_reducible refine Frm.alloc' ?_ ?_); · first | exact Nat.le_refl _ | (simp; done) | (simp; omega)))
  clear hW hf0
  have a0 : W.cell? ⟨w.heap.size, 0, none⟩ = some (.int .i64 a.lx) := ha.cell 0
  have a1 : W.cell? ⟨w.heap.size, 1, none⟩ = some (.int .i64 a.ly) := ha.cell 1
  have a2 : W.cell? ⟨w.heap.size, 2, none⟩ = some (.int .i64 a.hx) := ha.cell 2
  have a3 : W.cell? ⟨w.heap.size, 3, none⟩ = some (.int .i64 a.hy) := ha.cell 3
  have a4 : W.cell? ⟨w.heap.size, 4, none⟩ = some (.int .i64 a.from_) := ha.cell 4
  have a5 : W.cell? ⟨w.heap.size, 5, none⟩ = some (.int .i64 a.to_) := ha.cell 5
  have a6 : W.cell? ⟨w.heap.size, 6, none⟩ = some (.int .i64 a.level) := ha.cell 6
  have b0 : W.cell? ⟨w.heap.size + 1, 0, none⟩ = some (.int .i64 b.lx) := hb.cell 0
  have b1 : W.cell? ⟨w.heap.size + 1, 1, none⟩ = some (.int .i64 b.ly) := hb.cell 1
  have b2 : W.cell? ⟨w.heap.size + 1, 2, none⟩ = some (.int .i64 b.hx) := hb.cell 2
  have b3 : W.cell? ⟨w.heap.size + 1, 3, none⟩ = some (.int .i64 b.hy) := hb.cell 3
  have b4 : W.cell? ⟨w.heap.size + 1, 4, none⟩ = some (.int .i64 b.from_) := hb.cell 4
  have b5 : W.cell? ⟨w.heap.size + 1, 5, none⟩ = some (.int .i64 b.to_) := hb.cell 5
  have b6 : W.cell? ⟨w.heap.size + 1, 6, none⟩ = some (.int .i64 b.level) := hb.cell 6
  clear ha hb
  have HF := Lib.hid hf
  clear hf
  by_cases hl : a.level = b.level
  · have hl' := decide_eq_true hl
    have HLL := Lib.hid hl'
    clear hl'
    cases hc0 : overB a.from_ a.to_ b.from_ b.to_
    · have HC0 := Lib.hid hc0; clear hc0
      go_wp2_with (go_at_call 100; refine (overlap_any _ _ _ _ _).mono ?_; rintro e w' ⟨rfl, rfl⟩; simp only [HC0.out])
      go_ret
      exact ⟨by unfold meetB; simp [HC0.out, hl], HF.out⟩
    · have HC0 := Lib.hid hc0; clear hc0
      cases hc1 : overB a.lx a.hx b.lx b.hx
      · have HC1 := Lib.hid hc1; clear hc1
        go_wp2_with (go_at_call 100; refine (overlap_any _ _ _ _ _).mono ?_; rintro e w' ⟨rfl, rfl⟩; simp only [HC0.out, HC1.out])
        go_ret
        exact ⟨by unfold meetB; simp [HC0.out, HC1.out, hl], HF.out⟩
      · have HC1 := Lib.hid hc1; clear hc1
        cases hc2 : overB a.ly a.hy b.ly b.hy
        · have HC2 := Lib.hid hc2; clear hc2
          go_wp2_with (go_at_call 100; refine (overlap_any _ _ _ _ _).mono ?_; rintro e w' ⟨rfl, rfl⟩; simp only [HC0.out, HC1.out, HC2.out])
          go_ret
          exact ⟨by unfold meetB; simp [HC0.out, HC1.out, HC2.out, hl], HF.out⟩
        · have HC2 := Lib.hid hc2; clear hc2
          go_wp2_with (go_at_call 100; refine (overlap_any _ _ _ _ _).mono ?_; rintro e w' ⟨rfl, rfl⟩; simp only [HC0.out, HC1.out, HC2.out])
          go_ret
          exact ⟨by unfold meetB; simp [HC0.out, HC1.out, HC2.out, hl], HF.out⟩
  · go_wp2_with fail
    go_ret
    exact ⟨by unfold meetB; simp [hl], HF.out⟩

set_option maxRecDepth 100000 in
set_option maxHeartbeats 4000000 in
theorem clash1_any (p7 : Nat) (x y : BC) (w : World) (hx : Blk w p7 87 x.cells) : Calls Tryd.prog 75 #[.agg y.cells.toArray, .pointer (some ⟨p7, 0, none⟩)] w fun e w' => e = .returned (.bool (meetB x y)) ∧ Frm w.heap.size [] w w' := by
  have hf0 := Tryd.func75
  go_enter Tryd.func75, Tryd.ntmps75
  go_upto_region 1 with fail
  refine namedC ?_; intro W hW
  have hb : Blk W w.heap.size 87 y.cells := by rw [hW]; exact Blk.new w 87 y.cells
  have hf : Frm w.heap.size [] w W := by rw [hW]; repeat (first | with_reducible exact Frm.refl _ _ _ | with_reducible refine Frm.drewN ?_ | with_reducible refine Frm.drew ?_ | ((with_reducible refine Frm.setCell' ?_ ?_); · first | (left; simp; done) | (right; simp; done) | (right; simp; omega)) | ((with_reducible refine Frm.alloc' ?_ ?_); · first | exact Nat.le_refl _ | (simp; done) | (simp; omega)))
  clear hW hf0
  have h1 := loadVarB (hf.blk hx hx.lt (by simp)) (P := Tryd.prog) Tryd.underlying87 rfl info87
  have h2 := loadVarB hb (P := Tryd.prog) Tryd.underlying87 rfl info87
  clear hb
  have HF := Lib.hid hf
  have HL1 := Lib.hid h1
  have HL2 := Lib.hid h2
  clear h2 h1 hf
  go_wp2_with (with_reducible refine atLoad 87 rfl ?_; first | refine wpList_loadE rfl rfl rfl HL1.out ?_ | refine wpList_loadE rfl rfl rfl HL2.out ?_)
  refine (meet_any x y W).mono ?_; rintro e w1 ⟨rfl, hf1⟩
  have hf2 := HF.out.call hf1 HF.out.size (by simp)
  clear hf1
  have HF2 := Lib.hid hf2
  clear hf2
  go_wp2_with fail
  go_ret
  exact ⟨rfl, HF2.out⟩

set_option maxRecDepth 100000 in
set_option maxHeartbeats 4000000 in
theorem index_any (p7 : Nat) (x : BC) (ad : Option Addr) (b off n cap : Nat) (B : Nat → BC) (w : World) (hx : Blk w p7 87 x.cells) (hr : Rw w 7 ad b off n fun i => (B i).cells) :
    Calls Tryd.prog 74 #[.slice ad n cap, .func (.func 75) #[] #[.pointer (some ⟨p7, 0, none⟩)]] w fun e w' => (∃ r : Int, e = .returned (.int .i64 r) ∧
      ((r = -1 ∧ ∀ k, k < n → meetB x (B k) = false) ∨ ∃ k : Nat, k < n ∧ r = k ∧ meetB x (B k) = true ∧ ∀ i, i < k → meetB x (B i) = false)) ∧ Frm w.heap.size [] w w' := by
  have hf0 := Tryd.func74
  have hlen := hr.len
  have HR := Lib.hid hr
  have HX := Lib.hid hx
  clear hx hr
  go_enter Tryd.func74, Tryd.ntmps74
  go_wp2_with fail
  go_loopw [8] (fun i8 wr => ∃ j : Nat, i8 = .int .i64 j ∧ j ≤ n ∧ (∀ k, k < j → meetB x (B k) = false) ∧ Frm w.heap.size [] w wr) (fun i8 _ => n - (intOf i8).toNat)
  case atStart => exact ⟨0, rfl, Nat.zero_le _, fun k hk => by omega, by repeat (first | with_reducible exact Frm.refl _ _ _ | with_reducible refine Frm.drewN ?_ | with_reducible refine Frm.drew ?_ | ((with_reducible refine Frm.setCell' ?_ ?_); · first | (left; simp; done) | (right; simp; done) | (right; simp; omega)) | ((with_reducible refine Frm.alloc' ?_ ?_); · first | exact Nat.le_refl _ | (simp; done) | (simp; omega)))⟩
  case round =>
    obtain ⟨j, rfl, hj, hno, hfr⟩ := hrel
    by_cases hjl : j < n
    · have hjl' : (j : Int) < (n : Int) := by omega
      have had := HR.out.ad (by omega)
      subst had
      have hlo := (HR.out.frm hfr (Nat.le_refl _)).load (P := Tryd.prog) Tryd.underlying87 rfl hjl info87
      have hxw := hfr.blk HX.out HX.out.lt (by simp)
      have HNO := Lib.hid hno
      have HFR := Lib.hid hfr
      have HLO := Lib.hid hlo
      have HXW := Lib.hid hxw
      clear hxw hlo hfr hno
      cases hm : meetB x (B j)
      · have hnx : ∀ k, k < j + 1 → meetB x (B k) = false := fun k hk => by
          rcases Nat.lt_or_ge k j with e | e
          · exact HNO.out k e
          · obtain rfl : k = j := by omega
            exact hm
        have HM := Lib.hid hm
        have HNX := Lib.hid hnx
        clear hnx hm
        go_wp2_with (with_reducible refine atLoad 87 rfl ?_; refine wpList_loadE rfl rfl rfl HLO.out ?_)
        refine (clash1_any p7 x (B j) wr HXW.out).mono ?_; rintro e w1 ⟨rfl, hf1⟩
        rw [HM.out]
        have hf2 := HFR.out.call hf1 HFR.out.size (by simp)
        clear hf1
        have HF2 := Lib.hid hf2
        clear hf2
        go_wp2_with fail
        have hwr : wrap64 ((j : Int) + 1) = (j : Int) + 1 := IntWalk.wrap64_in _ (by have : n ≤ 9223372036854775807 := hlen; omega)
        exact ⟨⟨j + 1, by rw [hwr]; simp, hjl, HNX.out, HF2.out⟩, by rw [hwr]; simp [intOf]; omega⟩
      · have HM := Lib.hid hm
        clear hm
        go_wp2_with (with_reducible refine atLoad 87 rfl ?_; refine wpList_loadE rfl rfl rfl HLO.out ?_)
        refine (clash1_any p7 x (B j) wr HXW.out).mono ?_; rintro e w1 ⟨rfl, hf1⟩
        rw [HM.out]
        have hf2 := HFR.out.call hf1 HFR.out.size (by simp)
        clear hf1
        have HF2 := Lib.hid hf2
        clear hf2
        go_wp2_with fail
        go_ret
        exact ⟨⟨_, rfl, .inr ⟨j, hjl, rfl, HM.out, HNO.out⟩⟩, HF2.out⟩
    · have hjl' : ¬ (j : Int) < (n : Int) := by omega
      obtain rfl : j = n := by omega
      have HNO := Lib.hid hno
      have HFR := Lib.hid hfr
      clear hfr hno
      go_wp2_with fail
      go_ret
      exact ⟨⟨_, rfl, .inl ⟨rfl, HNO.out⟩⟩, HFR.out⟩

set_option maxRecDepth 100000 in
set_option maxHeartbeats 4000000 in
theorem clash_any (ad : Option Addr) (b off n cap : Nat) (A : Nat → BC) (ad2 : Option Addr) (b2 off2 n2 cap2 : Nat) (B : Nat → BC) (w : World) (hr : Rw w 7 ad b off n fun i => (A i).cells) (hr2 : Rw w 7 ad2 b2 off2 n2 fun i => (B i).cells) :
    Calls Tryd.prog 37 #[.slice ad n cap, .slice ad2 n2 cap2] w fun e w' => (∃ r q : Int, e = .returned (.tuple #[.int .i64 r, .int .i64 q]) ∧
      ((r = -1 ∧ q = -1 ∧ ∀ i, i < n → ∀ k, k < n2 → meetB (A i) (B k) = false) ∨
       ∃ i k : Nat, i < n ∧ k < n2 ∧ r = i ∧ q = k ∧ meetB (A i) (B k) = true ∧ (∀ k', k' < k → meetB (A i) (B k') = false) ∧ ∀ i', i' < i → ∀ k', k' < n2 → meetB (A i') (B k') = false)) ∧ Frm w.heap.size [] w w' := by
  have hf0 := Tryd.func37
  have hlen := hr.len
  have HR := Lib.hid hr
  have HR2 := Lib.hid hr2
  clear hr2 hr
  go_enter Tryd.func37, Tryd.ntmps37
  go_wp2_with fail
  go_loopw [11] (fun i11 wr => ∃ j : Nat, i11 = .int .i64 j ∧ j ≤ n ∧ (∀ i, i < j → ∀ k, k < n2 → meetB (A i) (B k) = false) ∧ Frm w.heap.size [] w wr) (fun i11 _ => n - (intOf i11).toNat)
  case atStart => exact ⟨0, rfl, Nat.zero_le _, fun k hk => by omega, by repeat (first | with_reducible exact Frm.refl _ _ _ | with_reducible refine Frm.drewN ?_ | with_reducible refine Frm.drew ?_ | ((with_reducible refine Frm.setCell' ?_ ?_); · first | (left; simp; done) | (right; simp; done) | (right; simp; omega)) | ((with_reducible refine Frm.alloc' ?_ ?_); · first | exact Nat.le_refl _ | (simp; done) | (simp; omega)))⟩
  case round =>
    obtain ⟨j, rfl, hj, hno, hfr⟩ := hrel
    by_cases hjl : j < n
    · have hjl' : (j : Int) < (n : Int) := by omega
      have had := HR.out.ad (by omega)
      subst had
      obtain ⟨f, hf⟩ : ∃ f, f = A j := ⟨_, rfl⟩
      have hlo := (HR.out.frm hfr (Nat.le_refl _)).load (P := Tryd.prog) Tryd.underlying87 rfl hjl info87
      rw [← hf] at hlo
      have HNO := Lib.hid hno
      have HFR := Lib.hid hfr
      have HLO := Lib.hid hlo
      have HFF := Lib.hid hf
      clear hf hlo hfr hno
      go_wp2_with (first | (with_reducible refine atLoad 87 rfl ?_; refine wpList_loadE rfl rfl rfl HLO.out ?_) | (with_reducible refine atStore 87 rfl ?_; refine stop_ ?_))
      refine go_on ?_
      refine wpList_storeNew (P := Tryd.prog) (cs := f.cells) rfl rfl rfl rfl rfl info87 (by simp [BC.cells, Value.oneCell']) ?_
      intro W1 hfW1 hbW1 hsz
      have hf1 := HFR.out.call hfW1 HFR.out.size (by simp)
      clear hfW1 hsz
      have HF1 := Lib.hid hf1
      have HB1 := Lib.hid hbW1
      clear hbW1 hf1
      go_wp2_with fail
      refine (index_any wr.heap.size f ad2 b2 off2 n2 cap2 B W1 HB1.out (HR2.out.frm HF1.out (Nat.le_refl _))).mono ?_; rintro e w2 ⟨⟨r, rfl, hrr⟩, hf2⟩
      have hf3 := HF1.out.call hf2 HF1.out.size (by simp)
      clear hf2
      have HF3 := Lib.hid hf3
      clear hf3
      rcases hrr with ⟨rfl, hnn⟩ | ⟨k, hk, rfl, hm, hnk⟩
      · have hnx : ∀ i, i < j + 1 → ∀ k, k < n2 → meetB (A i) (B k) = false := fun i hi k hk => by
          rcases Nat.lt_or_ge i j with e | e
          · exact HNO.out i e k hk
          · obtain rfl : i = j := by omega
            rw [← HFF.out]; exact hnn k hk
        clear hnn
        have HNX := Lib.hid hnx
        clear hnx
        go_wp2_with fail
        have hwr : wrap64 ((j : Int) + 1) = (j : Int) + 1 := IntWalk.wrap64_in _ (by have : n ≤ 9223372036854775807 := hlen; omega)
        exact ⟨⟨j + 1, by rw [hwr]; simp, hjl, HNX.out, HF3.out⟩, by rw [hwr]; simp [intOf]; omega⟩
      · have hk0 : ¬ (k : Int) < 0 := by omega
        have hk1 : (0 : Int) ≤ (k : Int) := by omega
        have HM := Lib.hid hm
        have HNK := Lib.hid hnk
        clear hnk hm
        go_wp2_with fail
        refine bodyPost_ret (v := .tuple #[.int .i64 j, .int .i64 k]) (by simp [results, Tryd.results37, go_sem]) rfl ?_
        exact ⟨⟨_, _, rfl, .inr ⟨j, k, hjl, hk, rfl, rfl, by rw [← HFF.out]; exact HM.out, by rw [← HFF.out]; exact HNK.out, HNO.out⟩⟩, HF3.out⟩
    · have hjl' : ¬ (j : Int) < (n : Int) := by omega
      obtain rfl : j = n := by omega
      have HNO := Lib.hid hno
      have HFR := Lib.hid hfr
      clear hfr hno
      go_wp2_with fail
      refine bodyPost_ret (v := .tuple #[.int .i64 (-1), .int .i64 (-1)]) (by simp [results, Tryd.results37, go_sem]) rfl ?_
      exact ⟨⟨_, _, rfl, .inl ⟨rfl, rfl, HNO.out⟩⟩, HFR.out⟩
end Go.Proofs.YtghkfopcjdkieaaDoor
