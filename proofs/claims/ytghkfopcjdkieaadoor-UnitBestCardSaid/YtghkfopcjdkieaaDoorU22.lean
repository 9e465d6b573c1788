/-
  Where a unit is; what fuel is left.
-/
import Derived.Test.YtghkfopcjdkieaaDoorU21
namespace Go.Proofs.YtghkfopcjdkieaaDoor
set_option linter.all false
set_option linter.unusedSimpArgs false
set_option linter.unusedVariables false
open Go.RowKit

theorem atF_some {L : Nat → LC} {t : Int} : ∀ (k i j : Nat), atF L t i k = some j → i ≤ j ∧ j < i + k ∧ (L j).start ≤ t ∧ t ≤ (L j).leave
  | 0, _, _, h => by cases h
  | k + 1, i, j, h => by
    unfold atF at h
    by_cases h1 : t < (L i).start
    · rw [if_pos h1] at h; cases h
    · rw [if_neg h1] at h
      by_cases h2 : t ≤ (L i).leave
      · rw [if_pos h2] at h
        cases h
        exact ⟨Nat.le_refl _, by omega, by omega, h2⟩
      · rw [if_neg h2] at h
        have := atF_some k (i + 1) j h
        exact ⟨by omega, by omega, this.2.2⟩
theorem atI_some {n : Nat} {L : Nat → LC} {t : Int} {j : Nat} (h : atI n L t = some j) : j < n ∧ (L j).start ≤ t ∧ t ≤ (L j).leave := by
  have := atF_some n 0 j h
  exact ⟨by omega, this.2.2⟩
theorem legs_ok {n : Nat} {L : Nat → LC} (h : legsB n L = true) {i : Nat} (hi : i < n) : LegOK (L i) := by
  unfold legsB at h
  simp only [Bool.and_eq_true, List.all_eq_true, List.mem_range] at h
  exact legOK_of (h.2 i hi).1
/-- What 'Where' answers. -/
def whereZ (n : Nat) (L : Nat → LC) (t : Int) : (Int × Int) × (Int × Int) × Int :=
  if legsB n L = true then match atI n L t with
    | none => ((0, 0), (0, 0), 7)
    | some i => (lowZ (L i) t, highZ (L i) t, 0)
  else ((0, 0), (0, 0), 2)
theorem results_27 {w : World} {tmps : Array Value} {p4 p5 : Nat} {x y u v z : Int} (h4 : tmps.getD 4 undef = .pointer (some ⟨p4, 0, none⟩)) (h5 : tmps.getD 5 undef = .pointer (some ⟨p5, 0, none⟩)) (h6 : tmps.getD 6 undef = .int .i64 z)
    (b4 : Blk w p4 23 [.int .i64 x, .int .i64 y]) (b5 : Blk w p5 23 [.int .i64 u, .int .i64 v]) : (results Tryd.f27 tmps).run Tryd.prog w = .ok (.tuple #[.agg #[.int .i64 x, .int .i64 y], .agg #[.int .i64 u, .int .i64 v], .int .i64 z]) w := by
  have l4 := loadVarB b4 (P := Tryd.prog) Tryd.underlying23 rfl (by kernel_rfl)
  have l5 := loadVarB b5 (P := Tryd.prog) Tryd.underlying23 rfl (by kernel_rfl)
  have e4 : tmps[4]?.getD undef = .pointer (some ⟨p4, 0, none⟩) := by simpa using h4
  have e5 : tmps[5]?.getD undef = .pointer (some ⟨p5, 0, none⟩) := by simpa using h5
  have e6 : tmps[6]?.getD undef = .int .i64 z := by simpa using h6
  simp [results, Tryd.results27, e4, e5, e6, asAddr, l4, l5]

set_option maxRecDepth 100000 in
set_option maxHeartbeats 4000000 in
theorem where_any (ad : Option Addr) (b off n cap : Nat) (L : Nat → LC) (t : Int) (w : World) (hr : Rw w 8 ad b off n fun i => (L i).cells) :
    Calls Tryd.prog 27 #[.slice ad n cap, .int .i64 t] w fun e w' =>
      e = .returned (.tuple #[.agg #[.int .i64 (whereZ n L t).1.1, .int .i64 (whereZ n L t).1.2], .agg #[.int .i64 (whereZ n L t).2.1.1, .int .i64 (whereZ n L t).2.1.2], .int .i64 (whereZ n L t).2.2]) ∧ Frm w.heap.size [] w w' := by
  have hf0 := Tryd.func27
  have i23 : (Tryd.prog.info? 23).map (fun i => i.size) = some 2 := by kernel_rfl
  go_enter Tryd.func27, Tryd.ntmps27
  go_upto_region 1 with fail
  refine namedC ?_; intro W hW
  have hb4 : Blk W w.heap.size 23 [.int .i64 0, .int .i64 0] := by rw [hW]; exact (Blk.new w 23 [.int .i64 0, .int .i64 0]).alloc _
  have hb5 : Blk W (w.heap.size + 1) 23 [.int .i64 0, .int .i64 0] := by rw [hW]; exact Blk.new' _ 23 [.int .i64 0, .int .i64 0] (by simp)
  have hf : Frm w.heap.size [] w W := by rw [hW]; repeat (first | with_reducible exact Frm.refl _ _ _ | with_reducible refine Frm.drewN ?_ | with_reducible refine Frm.drew ?_ | ((with_reducible refine Frm.setCell' ?_ ?_); · first | (left; simp; done) | (right; simp; done) | (right; simp; omega)) | ((with_reducible refine Frm.alloc' ?_ ?_); · first | exact Nat.le_refl _ | (simp; done) | (simp; omega)))
  clear hW hf0
  obtain ⟨c, hc⟩ : ∃ c, c = w.heap.size := ⟨_, rfl⟩
  rw [← hc] at hb4 hb5 ⊢
  have hrW := hr.frm hf (Nat.le_refl _)
  have HR := Lib.hid hr
  have HB4 := Lib.hid hb4
  have HB5 := Lib.hid hb5
  have HF := Lib.hid hf
  have HC := Lib.hid hc
  have I23 := Lib.hid i23
  have HRW := Lib.hid hrW
  clear hrW i23 hc hf hb5 hb4 hr
  go_wp2_with fail
  refine (valid_any ad b off n cap L W HRW.out).mono ?_; rintro e w1 ⟨rfl, hf1⟩
  have hfa := HF.out.call hf1 HF.out.size (by simp)
  have d4 := hf1.blk HB4.out HB4.out.lt (by simp)
  have d5 := hf1.blk HB5.out HB5.out.lt (by simp)
  clear hf1
  have HFA := Lib.hid hfa
  have D4 := Lib.hid d4
  have D5 := Lib.hid d5
  clear d5 d4 hfa
  cases hlb : legsB n L
  · have e0 : whereZ n L t = ((0, 0), (0, 0), 2) := by unfold whereZ; rw [hlb]; rfl
    have HLB := Lib.hid hlb
    have E0 := Lib.hid e0
    clear e0 hlb
    go_wp2_with (with_reducible refine atStore 23 rfl ?_; refine stop_ ?_)
    refine go_on ?_
    refine wpList_storeB (P := Tryd.prog) (ty := 23) (cs := [.int .i64 0, .int .i64 0]) rfl rfl D4.out rfl rfl rfl I23.out (by simp [Value.oneCell']) ?_
    have m4 := D4.out.row [.int .i64 0, .int .i64 0]
    have m5 := D5.out.rowO (g := c) (cs := #[.int .i64 0, .int .i64 0]) (by omega)
    refine wpList_storeB (P := Tryd.prog) (ty := 23) (cs := [.int .i64 0, .int .i64 0]) rfl rfl m5 rfl rfl rfl I23.out (by simp [Value.oneCell']) ?_
    have z4 := m4.rowO (g := c + 1) (cs := #[.int .i64 0, .int .i64 0]) (by omega)
    have z5 := m5.row [.int .i64 0, .int .i64 0]
    have hzf := (HFA.out.setRow (g := c) (.inr (by have := HC.out; omega)) #[.int .i64 0, .int .i64 0]).setRow (g := c + 1) (.inr (by have := HC.out; omega)) #[.int .i64 0, .int .i64 0]
    clear m4 m5
    have Z4 := Lib.hid z4
    have Z5 := Lib.hid z5
    have HZF := Lib.hid hzf
    clear hzf z5 z4
    simp only [Act.put]
    go_wp2_with fail
    refine bodyPost_ret (results_27 (p4 := c) (p5 := c + 1) rfl rfl rfl Z4.out Z5.out) rfl ?_
    exact ⟨by rw [E0.out], HZF.out⟩
  · have HLB := Lib.hid hlb
    clear hlb
    go_wp2_with fail
    refine (at_any ad b off n cap L t w1 (HR.out.frm HFA.out (Nat.le_refl _))).mono ?_; rintro e w2 ⟨rfl, hf2⟩
    have hfb := HFA.out.call hf2 HFA.out.size (by simp)
    have x4 := hf2.blk D4.out D4.out.lt (by simp)
    have x5 := hf2.blk D5.out D5.out.lt (by simp)
    obtain ⟨f, hfe⟩ : ∃ f, f = atL n L t := ⟨_, rfl⟩
    rw [← hfe]
    clear hf2 HFA D4 D5
    have HFA := Lib.hid hfb
    have D4 := Lib.hid x4
    have D5 := Lib.hid x5
    have HFE := Lib.hid hfe
    clear hfe x5 x4 hfb
    cases hat : atI n L t with
    | none =>
      have e0 : whereZ n L t = ((0, 0), (0, 0), 7) := by unfold whereZ; rw [HLB.out, hat]; rfl
      have HAT := Lib.hid hat
      have E0 := Lib.hid e0
      clear e0 hat
      go_wp2_with (with_reducible refine atStore 49 rfl ?_; refine stop_ ?_)
      refine go_on ?_
      refine wpList_storeNew (P := Tryd.prog) (cs := f.cells) rfl rfl rfl rfl rfl info49 (by simp [LC.cells, Value.oneCell']) ?_
      intro w3 hf3 hb3 hz3
      have hfc := HFA.out.call hf3 HFA.out.size (by simp)
      have y4 := hf3.blk D4.out D4.out.lt (by simp)
      have y5 := hf3.blk D5.out D5.out.lt (by simp)
      clear hf3 hb3 hz3 HFA D4 D5
      have HFA := Lib.hid hfc
      have D4 := Lib.hid y4
      have D5 := Lib.hid y5
      clear y5 y4 hfc
      go_wp2_with (with_reducible refine atStore 23 rfl ?_; refine stop_ ?_)
      refine go_on ?_
      refine wpList_storeB (P := Tryd.prog) (ty := 23) (cs := [.int .i64 0, .int .i64 0]) rfl rfl D4.out rfl rfl rfl I23.out (by simp [Value.oneCell']) ?_
      have m4 := D4.out.row [.int .i64 0, .int .i64 0]
      have m5 := D5.out.rowO (g := c) (cs := #[.int .i64 0, .int .i64 0]) (by omega)
      refine wpList_storeB (P := Tryd.prog) (ty := 23) (cs := [.int .i64 0, .int .i64 0]) rfl rfl m5 rfl rfl rfl I23.out (by simp [Value.oneCell']) ?_
      have z4 := m4.rowO (g := c + 1) (cs := #[.int .i64 0, .int .i64 0]) (by omega)
      have z5 := m5.row [.int .i64 0, .int .i64 0]
      have hzf := (HFA.out.setRow (g := c) (.inr (by have := HC.out; omega)) #[.int .i64 0, .int .i64 0]).setRow (g := c + 1) (.inr (by have := HC.out; omega)) #[.int .i64 0, .int .i64 0]
      clear m4 m5
      have Z4 := Lib.hid z4
      have Z5 := Lib.hid z5
      have HZF := Lib.hid hzf
      clear hzf z5 z4
      simp only [Act.put]
      go_wp2_with fail
      refine bodyPost_ret (results_27 (p4 := c) (p5 := c + 1) rfl rfl rfl Z4.out Z5.out) rfl ?_
      exact ⟨by rw [E0.out], HZF.out⟩
    | some i =>
      have hin := atI_some hat
      have hlg : f = L i := by rw [HFE.out]; unfold atL; rw [hat]
      have e0 : whereZ n L t = (lowZ f t, highZ f t, 0) := by unfold whereZ; rw [HLB.out, hat, hlg]; rfl
      have hok : LegOK f := by rw [hlg]; exact legs_ok HLB.out hin.1
      have hst : f.start ≤ t := by rw [hlg]; exact hin.2.1
      clear hin
      have HAT := Lib.hid hat
      have E0 := Lib.hid e0
      have HOK := Lib.hid hok
      have HST := Lib.hid hst
      have HLG := Lib.hid hlg
      clear hlg hst hok e0 hat
      go_wp2_with (with_reducible refine atStore 49 rfl ?_; refine stop_ ?_)
      refine go_on ?_
      refine wpList_storeNew (P := Tryd.prog) (cs := f.cells) rfl rfl rfl rfl rfl info49 (by simp [LC.cells, Value.oneCell']) ?_
      intro w3 hf3 hb3 hz3
      have hfc := HFA.out.call hf3 HFA.out.size (by simp)
      have y4 := hf3.blk D4.out D4.out.lt (by simp)
      have y5 := hf3.blk D5.out D5.out.lt (by simp)
      have hlo := loadVarB hb3 (P := Tryd.prog) Tryd.underlying49 rfl info49
      clear hf3 hb3 hz3 HFA D4 D5
      have HFA := Lib.hid hfc
      have D4 := Lib.hid y4
      have D5 := Lib.hid y5
      have HLO := Lib.hid hlo
      clear hlo y5 y4 hfc
      go_wp2_with (with_reducible refine atLoad 49 rfl ?_; refine wpList_loadE rfl rfl rfl HLO.out ?_)
      refine (place_any f t w3 HOK.out HST.out).mono ?_; rintro e w4 ⟨rfl, hf4⟩
      have hfd := HFA.out.call hf4 HFA.out.size (by simp)
      have u4 := hf4.blk D4.out D4.out.lt (by simp)
      have u5 := hf4.blk D5.out D5.out.lt (by simp)
      obtain ⟨lx, hlx⟩ : ∃ lx, lx = (lowZ f t).1 := ⟨_, rfl⟩
      obtain ⟨ly, hly⟩ : ∃ ly, ly = (lowZ f t).2 := ⟨_, rfl⟩
      obtain ⟨hx, hhx⟩ : ∃ hx, hx = (highZ f t).1 := ⟨_, rfl⟩
      obtain ⟨hy, hhy⟩ : ∃ hy, hy = (highZ f t).2 := ⟨_, rfl⟩
      rw [← hlx, ← hly, ← hhx, ← hhy]
      clear hf4 HFA D4 D5
      have HFA := Lib.hid hfd
      have D4 := Lib.hid u4
      have D5 := Lib.hid u5
      have HLX := Lib.hid hlx
      have HLY := Lib.hid hly
      have HHX := Lib.hid hhx
      have HHY := Lib.hid hhy
      clear hhy hhx hly hlx u5 u4 hfd
      go_wp2_with (with_reducible refine atStore 23 rfl ?_; refine stop_ ?_)
      refine go_on ?_
      refine wpList_storeB (P := Tryd.prog) (ty := 23) (cs := [.int .i64 lx, .int .i64 ly]) rfl rfl D4.out rfl rfl rfl I23.out (by simp [Value.oneCell']) ?_
      have m4 := D4.out.row [.int .i64 lx, .int .i64 ly]
      have m5 := D5.out.rowO (g := c) (cs := #[.int .i64 lx, .int .i64 ly]) (by omega)
      refine wpList_storeB (P := Tryd.prog) (ty := 23) (cs := [.int .i64 hx, .int .i64 hy]) rfl rfl m5 rfl rfl rfl I23.out (by simp [Value.oneCell']) ?_
      have z4 := m4.rowO (g := c + 1) (cs := #[.int .i64 hx, .int .i64 hy]) (by omega)
      have z5 := m5.row [.int .i64 hx, .int .i64 hy]
      have hzf := (HFA.out.setRow (g := c) (.inr (by have := HC.out; omega)) #[.int .i64 lx, .int .i64 ly]).setRow (g := c + 1) (.inr (by have := HC.out; omega)) #[.int .i64 hx, .int .i64 hy]
      clear m4 m5
      have Z4 := Lib.hid z4
      have Z5 := Lib.hid z5
      have HZF := Lib.hid hzf
      clear hzf z5 z4
      simp only [Act.put]
      go_upto_region 7 with fail
      refine namedC ?_; intro W7 hW7
      rw [← hW7] at HZF Z4 Z5
      clear hW7
      have hfx : ∀ V, (Frm w.heap.size [] w V ∧ Blk V c 23 [.int .i64 lx, .int .i64 ly] ∧ Blk V (c + 1) 23 [.int .i64 hx, .int .i64 hy]) → V.cell? ⟨c, 0, none⟩ = some (.int .i64 lx) ∧ V.cell? ⟨c, 1, none⟩ = some (.int .i64 ly) ∧ V.cell? ⟨c + 1, 0, none⟩ = some (.int .i64 hx) ∧ V.cell? ⟨c + 1, 1, none⟩ = some (.int .i64 hy) := fun V hV => ⟨hV.2.1.cell 0, hV.2.1.cell 1, hV.2.2.cell 0, hV.2.2.cell 1⟩
      have HFX := Lib.hid hfx
      clear hfx
      refine wp_region_leftL (fun V => Frm w.heap.size [] w V ∧ Blk V c 23 [.int .i64 lx, .int .i64 ly] ∧ Blk V (c + 1) 23 [.int .i64 hx, .int .i64 hy]) 1000 (by kernel_rfl) ?_
      have HS := Lib.hid (show Frm w.heap.size [] w W7.drew ∧ Blk W7.drew c 23 [.int .i64 lx, .int .i64 ly] ∧ Blk W7.drew (c + 1) 23 [.int .i64 hx, .int .i64 hy] from ⟨HZF.out.drew, Z4.out.drew, Z5.out.drew⟩)
      refine LeftL.run (v := ?_) 0 rfl (by kernel_rfl) rfl (fun _ _ d _ _ h => by cases d <;> exact h) ?_ HS.out ?_; rotate_left; (· intro V hV; obtain ⟨q0, q1, q2, q3⟩ := HFX.out V hV; clear hV; go_simp; rfl); (intro K' hK'; go_simp; refine hK' _ ?_; clear hK' K')
      refine LeftL.run (v := ?_) 1 rfl (by kernel_rfl) rfl (fun _ _ d _ _ h => by cases d <;> exact h) ?_ HS.out ?_; rotate_left; (· intro V hV; obtain ⟨q0, q1, q2, q3⟩ := HFX.out V hV; clear hV; go_simp; rfl); (intro K' hK'; go_simp; refine hK' _ ?_; clear hK' K')
      refine LeftL.one 2 rfl (by kernel_rfl) ?_
      refine wpList_storeB (P := Tryd.prog) (ty := 23) (cs := [.int .i64 lx, .int .i64 ly]) rfl rfl HS.out.2.1 rfl rfl rfl I23.out (by simp [Value.oneCell']) ?_
      refine wpList_nil ?_
      have hs1 : Frm w.heap.size [] w _ ∧ Blk _ c 23 [.int .i64 lx, .int .i64 ly] ∧ Blk _ (c + 1) 23 [.int .i64 hx, .int .i64 hy] := ⟨HS.out.1.setRow (g := c) (.inr (by have := HC.out; omega)) #[.int .i64 lx, .int .i64 ly], HS.out.2.1.row [.int .i64 lx, .int .i64 ly], HS.out.2.2.rowO (g := c) (cs := #[.int .i64 lx, .int .i64 ly]) (by omega)⟩
      clear HS
      have HS := Lib.hid hs1
      clear hs1
      refine ⟨fun _ => HS.out, ?_⟩
      refine LeftL.one 3 rfl (by kernel_rfl) ?_
      refine wpList_storeB (P := Tryd.prog) (ty := 23) (cs := [.int .i64 hx, .int .i64 hy]) rfl rfl HS.out.2.2 rfl rfl rfl I23.out (by simp [Value.oneCell']) ?_
      refine wpList_nil ?_
      have hs1 : Frm w.heap.size [] w _ ∧ Blk _ c 23 [.int .i64 lx, .int .i64 ly] ∧ Blk _ (c + 1) 23 [.int .i64 hx, .int .i64 hy] := ⟨HS.out.1.setRow (g := c + 1) (.inr (by have := HC.out; omega)) #[.int .i64 hx, .int .i64 hy], HS.out.2.1.rowO (g := c + 1) (cs := #[.int .i64 hx, .int .i64 hy]) (by omega), HS.out.2.2.row [.int .i64 hx, .int .i64 hy]⟩
      clear HS
      have HS := Lib.hid hs1
      clear hs1
      refine ⟨fun _ => HS.out, ?_⟩
      simp only [Act.put]
      refine LeftL.one 4 rfl (by kernel_rfl) ?_
      go_wp2_with fail
      first | refine ⟨fun _ => HS.out, ?_⟩ | refine ⟨HS.out, ?_⟩
      refine LeftL.done (by kernel_rfl) ?_
      go_wp2_with fail
      refine bodyPost_ret (results_27 (p4 := c) (p5 := c + 1) rfl rfl rfl HS.out.2.1 HS.out.2.2) rfl ?_
      exact ⟨by rw [E0.out, HLX.out, HLY.out, HHX.out, HHY.out], HS.out.1⟩
end Go.Proofs.YtghkfopcjdkieaaDoor
