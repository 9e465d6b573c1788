/-
  The leg at a time; where a unit is on a leg.
-/
import Derived.Test.YtghkfopcjdkieaaDoorU18
namespace Go.Proofs.YtghkfopcjdkieaaDoor
set_option linter.all false
set_option linter.unusedSimpArgs false
set_option linter.unusedVariables false
open Go.RowKit

theorem floor_neg {n b : Int} (hb : 1 ≤ b) (h : n.tmod b < 0) : n.tdiv b - 1 = n / b := by
  have h1 := Int.tmod_eq_emod (a := n) (b := b)
  have h2 := Int.tdiv_eq_ediv (a := n) (b := b)
  have h3 := Int.emod_nonneg n (show b ≠ 0 by omega)
  by_cases hc : 0 ≤ n ∨ b ∣ n
  · rw [if_pos hc] at h1; omega
  · rw [if_neg hc, Int.sign_eq_one_of_pos (by omega)] at h2; omega
theorem floor_pos {n b : Int} (hb : 1 ≤ b) (h : ¬ n.tmod b < 0) : n.tdiv b = n / b := by
  have h1 := Int.tmod_eq_emod (a := n) (b := b)
  have h2 := Int.tdiv_eq_ediv (a := n) (b := b)
  have h3 := Int.emod_lt_of_pos n (show 0 < b by omega)
  by_cases hc : 0 ≤ n ∨ b ∣ n
  · rw [if_pos hc] at h2; omega
  · rw [if_neg hc] at h1; omega
theorem floor_in {n b : Int} (h0 : -4611686018427387904 ≤ n ∧ n ≤ 4611686018427387904) (b0 : 1 ≤ b) : -4611686018427387904 ≤ n / b ∧ n / b ≤ 4611686018427387904 := by
  constructor
  · have := Int.ediv_le_ediv (show 0 < b by omega) h0.1
    have h2 : (-4611686018427387904 : Int) ≤ -4611686018427387904 / b := by
      rw [Int.le_ediv_iff_mul_le (by omega)]
      omega
    omega
  · have := Int.ediv_le_self (a := 4611686018427387904) b (by omega)
    have h3 := Int.ediv_le_ediv (show 0 < b by omega) h0.2
    omega
set_option maxHeartbeats 4000000 in
/-- floor -/
theorem floor_any (n b : Int) (w : World) (h0 : -4611686018427387904 ≤ n ∧ n ≤ 4611686018427387904) (b0 : 1 ≤ b) (b1 : b ≤ 4611686018427387904) :
    Calls Tryd.prog 98 #[.int .i64 n, .int .i64 b] w fun e w' => e = .returned (.int .i64 (n / b)) ∧ w = w' := by
  have hf0 := Tryd.func98
  have hb : b ≠ 0 := by omega
  have hin := floor_in (b := b) h0 b0
  by_cases hn : n.tmod b < 0
  · go_enter Tryd.func98, Tryd.ntmps98
    go_wp2_with fail
    go_ret
    exact ⟨by simp [floor_neg b0 hn, IntWalk.wrap64_in _ (show -9223372036854775808 ≤ n / b ∧ n / b ≤ 9223372036854775807 by omega)], rfl⟩
  · have hn' := floor_pos b0 hn
    go_enter Tryd.func98, Tryd.ntmps98
    go_wp2_with fail
    go_ret
    exact ⟨by simp [hn'], rfl⟩

/-- The leg at a time. -/
def atF (L : Nat → LC) (t : Int) : Nat → Nat → Option Nat
  | _, 0 => none
  | i, k + 1 => if t < (L i).start then none else if t ≤ (L i).leave then some i else atF L t (i + 1) k
def atI (n : Nat) (L : Nat → LC) (t : Int) : Option Nat := atF L t 0 n
def atL (n : Nat) (L : Nat → LC) (t : Int) : LC := match atI n L t with
  | none => ⟨0, 0, 0, 0, 0, 0, 0, 0⟩
  | some i => L i

set_option maxRecDepth 100000 in
set_option maxHeartbeats 4000000 in
theorem at_any (ad : Option Addr) (b off n cap : Nat) (L : Nat → LC) (t : Int) (w : World) (hr : Rw w 8 ad b off n fun i => (L i).cells) :
    Calls Tryd.prog 65 #[.slice ad n cap, .int .i64 t] w fun e w' => e = .returned (.tuple #[.agg (atL n L t).cells.toArray, .bool (atI n L t).isSome]) ∧ Frm w.heap.size [] w w' := by
  have hf0 := Tryd.func65
  have hlen := hr.len
  go_enter Tryd.func65, Tryd.ntmps65
  go_upto_region 1 with fail
  refine namedC ?_; intro W hW
  have hb : Blk W w.heap.size 49 [.int .i64 0, .int .i64 0, .int .i64 0, .int .i64 0, .int .i64 0, .int .i64 0, .int .i64 0, .int .i64 0] := by rw [hW]; repeat (first | exact Blk.new w 49 [.int .i64 0, .int .i64 0, .int .i64 0, .int .i64 0, .int .i64 0, .int .i64 0, .int .i64 0, .int .i64 0] | refine Blk.alloc' ?_)
  have hf : Frm w.heap.size [] w W := by rw [hW]; repeat (first | with_reducible exact Frm.refl _ _ _ | with_reducible refine Frm.drewN ?_ | with_reducible refine Frm.drew ?_ | ((with_reducible refine Frm.setCell' ?_ ?_); · first | (left; simp; done) | (right; simp; done) | (right; simp; omega)) | ((with_reducible refine Frm.alloc' ?_ ?_); · first | exact Nat.le_refl _ | (simp; done) | (simp; omega)))
  clear hW
  obtain ⟨c, hc⟩ : ∃ c, c = w.heap.size := ⟨_, rfl⟩
  rw [← hc] at hb ⊢
  have HR := Lib.hid hr
  have HB := Lib.hid hb
  have HF := Lib.hid hf
  have HC := Lib.hid hc
  clear hc hf hb hr
  go_wp2_with fail
  go_loopw [10] (fun i10 wr => ∃ j : Nat, i10 = .int .i64 j ∧ j ≤ n ∧ atI n L t = atF L t j (n - j) ∧ Blk wr c 49 [.int .i64 0, .int .i64 0, .int .i64 0, .int .i64 0, .int .i64 0, .int .i64 0, .int .i64 0, .int .i64 0] ∧ Frm w.heap.size [] w wr) (fun i10 _ => n - (intOf i10).toNat)
  case atStart => exact ⟨0, rfl, Nat.zero_le _, rfl, HB.out, HF.out⟩
  case round =>
    obtain ⟨j, rfl, hj, hat, hbc, hfr⟩ := hrel
    by_cases hjl : j < n
    · have hjl' : (j : Int) < (n : Int) := by omega
      have had := HR.out.ad (by omega)
      subst had
      have hrw := HR.out.frm hfr (Nat.le_refl _)
      obtain ⟨f, hf⟩ : ∃ f, f = L j := ⟨_, rfl⟩
      have hlo := hrw.load (P := Tryd.prog) Tryd.underlying49 rfl hjl info49
      rw [← hf] at hlo
      obtain ⟨k, hk⟩ : ∃ k, n - j = k + 1 := ⟨n - j - 1, by omega⟩
      rw [hk] at hat
      have hat2 : atI n L t = if t < f.start then none else if t ≤ f.leave then some j else atF L t (j + 1) k := by rw [hat, hf]; rfl
      have hk2 : k = n - (j + 1) := by omega
      have hcl : c ≠ wr.heap.size := by have := hbc.lt; omega
      clear hat
      have HLO := Lib.hid hlo
      have HRW := Lib.hid hrw
      have HFR := Lib.hid hfr
      have HFF := Lib.hid hf
      have HAT := Lib.hid hat2
      have HBC0 := Lib.hid hbc
      have HK := Lib.hid hk
      have HK2 := Lib.hid hk2
      have HCL := Lib.hid hcl
      clear hcl hk2 hk hbc hat2 hf hfr hrw hlo
      go_wp2_with (first | (with_reducible refine atLoad 49 rfl ?_; refine wpList_loadE rfl rfl rfl HLO.out ?_) | (with_reducible refine atStore 49 rfl ?_; refine stop_ ?_))
      refine go_on ?_
      refine wpList_storeNew (P := Tryd.prog) (cs := f.cells) rfl rfl rfl rfl rfl info49 (by simp [LC.cells, Value.oneCell']) ?_
      intro W1 hfW1 hbW1 hsz
      have hfc : Frm w.heap.size [] w W1 := HFR.out.call hfW1 HFR.out.size (by simp)
      have hbc : Blk W1 c 49 [.int .i64 0, .int .i64 0, .int .i64 0, .int .i64 0, .int .i64 0, .int .i64 0, .int .i64 0, .int .i64 0] := hfW1.blk HBC0.out HBC0.out.lt (by simp)
      have k4 : W1.cell? ⟨wr.heap.size, 4, none⟩ = some (.int .i64 f.start) := hbW1.cell 4
      have k6 : W1.cell? ⟨wr.heap.size, 6, none⟩ = some (.int .i64 f.leave) := hbW1.cell 6
      have hlo7 : (loadVar 49 ⟨wr.heap.size, 0, none⟩).run Tryd.prog W1 = .ok (.agg f.cells.toArray) W1 := loadVarB hbW1 (P := Tryd.prog) Tryd.underlying49 rfl info49
      clear hfW1 hbW1 hsz HFR HBC0 HRW HLO
      have HFC := Lib.hid hfc
      have HBC := Lib.hid hbc
      have HLO7 := Lib.hid hlo7
      clear hlo7 hbc hfc
      by_cases h1 : t < f.start
      · skip
        go_wp2_with (with_reducible refine atStore 49 rfl ?_; refine stop_ ?_)
        refine go_on ?_
        refine wpList_storeB (P := Tryd.prog) (ty := 49) (cs := [.int .i64 0, .int .i64 0, .int .i64 0, .int .i64 0, .int .i64 0, .int .i64 0, .int .i64 0, .int .i64 0]) rfl rfl HBC.out rfl rfl rfl info49 (by simp [Value.oneCell']) ?_
        have hz := HBC.out.row [.int .i64 0, .int .i64 0, .int .i64 0, .int .i64 0, .int .i64 0, .int .i64 0, .int .i64 0, .int .i64 0]
        have hfz := HFC.out.setRow (g := c) (.inr (Nat.le_of_eq HC.out.symm)) #[.int .i64 0, .int .i64 0, .int .i64 0, .int .i64 0, .int .i64 0, .int .i64 0, .int .i64 0, .int .i64 0]
        have HZ := Lib.hid hz
        have HFZ := Lib.hid hfz
        clear hfz hz
        go_wp2_with fail
        refine bodyPost_ret (results_ct Tryd.results65 HZ.out rfl Tryd.underlying49 rfl info49) rfl ?_
        have hno : atI n L t = none := by rw [HAT.out, if_pos (by omega)]
        exact ⟨by unfold atL; rw [hno]; rfl, HFZ.out⟩
      · by_cases h2 : t ≤ f.leave
        · go_wp2_with (first | (with_reducible refine atLoad 49 rfl ?_; refine wpList_loadE rfl rfl rfl HLO7.out ?_) | (with_reducible refine atStore 49 rfl ?_; refine stop_ ?_))
          refine go_on ?_
          refine wpList_storeB (P := Tryd.prog) (ty := 49) (cs := f.cells) rfl rfl HBC.out rfl rfl rfl info49 (by simp [LC.cells, Value.oneCell']) ?_
          have hz := HBC.out.row f.cells
          have hfz := HFC.out.setRow (g := c) (.inr (Nat.le_of_eq HC.out.symm)) f.cells.toArray
          have HZ := Lib.hid hz
          have HFZ := Lib.hid hfz
          clear hfz hz
          go_wp2_with fail
          refine bodyPost_ret (results_ct Tryd.results65 HZ.out rfl Tryd.underlying49 rfl info49) rfl ?_
          have hno : atI n L t = some j := by rw [HAT.out, if_neg (by omega), if_pos (by omega)]
          exact ⟨by unfold atL; rw [hno, HFF.out]; rfl, HFZ.out⟩
        · go_wp2_with fail
          have hwr : wrap64 ((j : Int) + 1) = (j : Int) + 1 := IntWalk.wrap64_in _ (by have : n ≤ 9223372036854775807 := hlen; omega)
          exact ⟨⟨j + 1, by rw [hwr]; simp, hjl, by rw [HAT.out, if_neg (by omega), if_neg (by omega), HK2.out], HBC.out, HFC.out⟩, by rw [hwr]; simp [intOf]; omega⟩
    · have hjl' : ¬ (j : Int) < (n : Int) := by omega
      obtain rfl : j = n := by omega
      have HAT := Lib.hid hat
      have HBC := Lib.hid hbc
      have HFC := Lib.hid hfr
      clear hfr hbc hat
      go_wp2_with (with_reducible refine atStore 49 rfl ?_; refine stop_ ?_)
      refine go_on ?_
      refine wpList_storeB (P := Tryd.prog) (ty := 49) (cs := [.int .i64 0, .int .i64 0, .int .i64 0, .int .i64 0, .int .i64 0, .int .i64 0, .int .i64 0, .int .i64 0]) rfl rfl HBC.out rfl rfl rfl info49 (by simp [Value.oneCell']) ?_
      have hz := HBC.out.row [.int .i64 0, .int .i64 0, .int .i64 0, .int .i64 0, .int .i64 0, .int .i64 0, .int .i64 0, .int .i64 0]
      have hfz := HFC.out.setRow (g := c) (.inr (Nat.le_of_eq HC.out.symm)) #[.int .i64 0, .int .i64 0, .int .i64 0, .int .i64 0, .int .i64 0, .int .i64 0, .int .i64 0, .int .i64 0]
      have HZ := Lib.hid hz
      have HFZ := Lib.hid hfz
      clear hfz hz
      go_wp2_with fail
      refine bodyPost_ret (results_ct Tryd.results65 HZ.out rfl Tryd.underlying49 rfl info49) rfl ?_
      have hno : atI j L t = none := by rw [HAT.out, Nat.sub_self]; rfl
      exact ⟨by unfold atL; rw [hno]; rfl, HFZ.out⟩
end Go.Proofs.YtghkfopcjdkieaaDoor
