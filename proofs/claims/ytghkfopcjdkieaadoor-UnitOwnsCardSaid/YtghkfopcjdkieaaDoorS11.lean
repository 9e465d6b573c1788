/-
  Which unit goes where is the document's.
-/
import Derived.Test.YtghkfopcjdkieaaDoorS10
import Derived.Test.YtghkfopcjdkieaaDoorLawChecks
namespace Go.Proofs.YtghkfopcjdkieaaDoor
set_option linter.all false
set_option linter.unusedSimpArgs false
set_option linter.unusedVariables false
open Go.ChangeShapes Go.WideShapes Go.ChangeAt Go.RowKit

theorem load_team {w : World} {b : Nat} {ua : Option Addr} {N ucap : Nat} {sa : Option Addr} {M scap : Nat} {ga : Option Addr} {G gcap : Nat} (h : Blk w b 77 (teamC ua N ucap sa M scap ga G gcap)) : (loadVar 77 ⟨b, 0, none⟩).run Tryd.prog w = .ok (.agg (teamC ua N ucap sa M scap ga G gcap).toArray) w :=
  loadVarB h Tryd.underlying77 rfl info77
def VastIs (N M G : Nat) (w w' : World) (en : Ending) : Prop := (∃ r : Bool, en = .returned (.bool r) ∧ (r = false → N ≤ 8 ∧ M ≤ 8 ∧ G ≤ 8)) ∧ Frm w.heap.size [] w w'
set_option maxRecDepth 100000 in
set_option maxHeartbeats 8000000 in
theorem vast_any (ua : Option Addr) (ub uo N ucap : Nat) (U : Nat → UC) (Sn : Nat → ByteArray) (hnm : ∀ i, i < N → (U i).name = .string (Sn i)) (sa : Option Addr) (sb so M scap : Nat) (T : Nat → Int) (ga : Option Addr) (gb go_ G gcap : Nat) (Q : Nat → Int × Int)
    (w : World) (tw : TeamW w ua ub uo N U sa sb so M T ga gb go_ G Q) :
    Calls Tryd.prog 41 #[.agg (teamC ua N ucap sa M scap ga G gcap).toArray] w fun en w' => VastIs N M G w w' en := by
  have hf0 := Tryd.func41
  go_enter Tryd.func41, Tryd.ntmps41
  go_upto_region 1 with fail
  refine namedC ?_; intro W hW
  obtain ⟨c, hcc⟩ : ∃ c, c = w.heap.size := ⟨_, rfl⟩
  have b0 : Blk W c 77 (teamC ua N ucap sa M scap ga G gcap) := by rw [hW, hcc]; exact Blk.new w 77 (teamC ua N ucap sa M scap ga G gcap)
  have hf : Frm w.heap.size [] w W := by rw [hW]; repeat (first | with_reducible exact Frm.refl _ _ _ | with_reducible refine Frm.drewN ?_ | with_reducible refine Frm.drew ?_ | ((with_reducible refine Frm.setCell' ?_ ?_); · first | (left; simp; done) | (right; simp; done) | (right; simp; omega)) | ((with_reducible refine Frm.alloc' ?_ ?_); · first | exact Nat.le_refl _ | (simp; done) | (simp; omega)))
  clear hW hf0
  rw [← hcc]
  have k0 : W.cell? ⟨c, 0, none⟩ = some (.slice ua N ucap) := b0.cell 0
  have k1 : W.cell? ⟨c, 1, none⟩ = some (.slice sa M scap) := b0.cell 1
  have k2 : W.cell? ⟨c, 2, none⟩ = some (.slice ga G gcap) := b0.cell 2
  have B0 := Lib.hid b0
  have HF := Lib.hid hf
  have HCC := Lib.hid hcc
  have HTW := Lib.hid tw
  have HNM := Lib.hid hnm
  clear hnm tw hcc hf b0
  by_cases h1 : 8 < N
  · have h1' : (8 : Int) < (N : Int) := by omega
    go_wp2_with fail
    go_ret
    exact ⟨⟨_, rfl, fun h => by cases h⟩, HF.out⟩
  have h1' : ¬ (8 : Int) < (N : Int) := by omega
  by_cases h2 : 8 < M
  · have h2' : (8 : Int) < (M : Int) := by omega
    go_wp2_with fail
    go_ret
    exact ⟨⟨_, rfl, fun h => by cases h⟩, HF.out⟩
  have h2' : ¬ (8 : Int) < (M : Int) := by omega
  by_cases h3 : 8 < G
  · have h3' : (8 : Int) < (G : Int) := by omega
    go_wp2_with fail
    go_ret
    exact ⟨⟨_, rfl, fun h => by cases h⟩, HF.out⟩
  have h3' : ¬ (8 : Int) < (G : Int) := by omega
  have hall : N ≤ 8 ∧ M ≤ 8 ∧ G ≤ 8 := by omega
  go_wp2_with fail
  clear h1' h2' h3' h1 h2 h3 k0 k1 k2
  have HALL := Lib.hid hall
  clear hall
  go_loopw [3] (fun i3 wr => ∃ j : Nat, i3 = .int .i64 j ∧ j ≤ N ∧ Frm W.heap.size [] W wr) (fun i3 _ => N - (intOf i3).toNat)
  case atStart => exact ⟨0, rfl, Nat.zero_le _, by repeat (first | with_reducible exact Frm.refl _ _ _ | with_reducible refine Frm.drewN ?_ | with_reducible refine Frm.drew ?_ | ((with_reducible refine Frm.setCell' ?_ ?_); · first | (left; simp; done) | (right; simp; done) | (right; simp; omega)) | ((with_reducible refine Frm.alloc' ?_ ?_); · first | exact Nat.le_refl _ | (simp; done) | (simp; omega)))⟩
  case round =>
    obtain ⟨j, rfl, hj, hfr⟩ := hrel
    have k0 : wr.cell? ⟨c, 0, none⟩ = some (.slice ua N ucap) := (hfr.blk B0.out B0.out.lt (by simp)).cell 0
    by_cases hjl : j < N
    · have hjl' : (j : Int) < (N : Int) := by omega
      have hua := HTW.out.u.ad (by omega)
      subst hua
      have hlo : (loadVar 25 ⟨ub, uo + j * 12, none⟩).run Tryd.prog wr = .ok (.agg (U j).cells.toArray) wr := (HTW.out.frm (HF.out.call hfr HF.out.size (by simp)) (Nat.le_refl _)).u.load (P := Tryd.prog) Tryd.underlying25 rfl hjl (UC.info _)
      obtain ⟨w4, w5⟩ := wrapUp hjl HTW.out.u.len
      have HLO := Lib.hid hlo
      have HFR := Lib.hid hfr
      have HJL := Lib.hid hjl
      clear hjl hfr hlo
      go_wp2_with (with_reducible refine atLoad 25 rfl ?_; refine wpList_loadE rfl rfl rfl HLO.out ?_)
      refine (great_any (U j) (Sn j) (HNM.out j HJL.out) _).mono ?_; rintro en v1 ⟨rfl, hf1⟩
      have hfr := HFR.out.call hf1 HFR.out.size (by simp)
      clear hf1 HFR HLO k0
      have HFR := Lib.hid hfr
      clear hfr
      by_cases hg : 100 < (Sn j).size
      · have hgd : decide (100 < (Sn j).size) = true := by simp [hg]
        rw [hgd]
        go_wp2_with fail
        go_ret
        exact ⟨⟨_, rfl, fun h => by cases h⟩, HF.out.call HFR.out HF.out.size (by simp)⟩
      · have hgd : decide (100 < (Sn j).size) = false := by simp [hg]
        rw [hgd]
        go_wp2_with fail
        (try simp only [w4, w5])
        exact ⟨⟨j + 1, by simp, HJL.out, HFR.out⟩, meas_up HJL.out⟩
    · have hjl' : ¬ (j : Int) < (N : Int) := by omega
      have HFR := Lib.hid hfr
      clear hfr
      go_wp2_with fail
      go_ret
      exact ⟨⟨_, rfl, fun _ => HALL.out⟩, HF.out.call HFR.out HF.out.size (by simp)⟩

set_option maxRecDepth 100000 in
set_option maxHeartbeats 8000000 in
theorem assigns_walk (ua : Option Addr) (ub uo N ucap : Nat) (U : Nat → UC) (Sn : Nat → ByteArray) (hnm : ∀ i, i < N → (U i).name = .string (Sn i)) (sa : Option Addr) (sb so M scap : Nat) (T : Nat → Int) (ga : Option Addr) (gb go_ G gcap : Nat) (Q : Nat → Int × Int)
    (w : World) (tw : TeamW w ua ub uo N U sa sb so M T ga gb go_ G Q) (hgl : Glob w) :
    Calls Tryd.prog 12 #[.agg (teamC ua N ucap sa M scap ga G gcap).toArray] w fun en w' => en = .returned (.bool true) ∧ Frm w.heap.size [] w w' := by
  have hf0 := Tryd.func12
  go_enter Tryd.func12, Tryd.ntmps12
  go_upto_region 1 with fail
  refine namedC ?_; intro W hW
  obtain ⟨c, hcc⟩ : ∃ c, c = w.heap.size := ⟨_, rfl⟩
  have b0 : Blk W c 77 (teamC ua N ucap sa M scap ga G gcap) := by rw [hW, hcc]; exact Blk.new w 77 (teamC ua N ucap sa M scap ga G gcap)
  have hf : Frm w.heap.size [] w W := by rw [hW]; repeat (first | with_reducible exact Frm.refl _ _ _ | with_reducible refine Frm.drewN ?_ | with_reducible refine Frm.drew ?_ | ((with_reducible refine Frm.setCell' ?_ ?_); · first | (left; simp; done) | (right; simp; done) | (right; simp; omega)) | ((with_reducible refine Frm.alloc' ?_ ?_); · first | exact Nat.le_refl _ | (simp; done) | (simp; omega)))
  clear hW hf0
  rw [← hcc]
  have B0 := Lib.hid b0
  have HF := Lib.hid hf
  have HCC := Lib.hid hcc
  have HTW := Lib.hid tw
  have HNM := Lib.hid hnm
  have HGL := Lib.hid hgl
  clear hgl hnm tw hcc hf b0
  go_wp2_with (with_reducible refine atLoad 77 rfl ?_; refine wpList_loadE rfl rfl rfl (load_team B0.out) ?_)
  refine (vast_any ua ub uo N ucap U Sn HNM.out sa sb so M scap T ga gb go_ G gcap Q W (HTW.out.frm HF.out (Nat.le_refl _))).mono ?_; rintro en w1 ⟨⟨r, rfl, _⟩, hf1⟩
  have b0 := hf1.blk B0.out B0.out.lt (by simp)
  have hf := HF.out.call hf1 HF.out.size (by simp)
  clear hf1 B0 HF
  have k0 : w1.cell? ⟨c, 0, none⟩ = some (.slice ua N ucap) := b0.cell 0
  have k1 : w1.cell? ⟨c, 1, none⟩ = some (.slice sa M scap) := b0.cell 1
  have k2 : w1.cell? ⟨c, 2, none⟩ = some (.slice ga G gcap) := b0.cell 2
  have B0 := Lib.hid b0
  have HF := Lib.hid hf
  clear hf b0
  cases r
  rotate_left
  · go_wp2_with (go_at_call 16; refine (awake_any _ (HGL.out.frm HF.out (Nat.le_refl _))).mono ?_; rintro e w6 ⟨rfl, hf1⟩; replace HF := Lib.hid (HF.out.call hf1 HF.out.size (by simp)); clear hf1)
    go_ret
    exact ⟨rfl, HF.out⟩
  go_wp2_with fail
  refine (assign_any ua ub uo N ucap U Sn HNM.out sa sb so M scap T ga gb go_ G gcap Q w1 (HTW.out.frm HF.out (Nat.le_refl _))).mono ?_; rintro en w2 ⟨hf1, ha⟩
  have b0 := hf1.blk B0.out B0.out.lt (by simp)
  have hf := HF.out.call hf1 HF.out.size (by simp)
  clear hf1 B0 HF k0 k1 k2
  have k0 : w2.cell? ⟨c, 0, none⟩ = some (.slice ua N ucap) := b0.cell 0
  have k1 : w2.cell? ⟨c, 1, none⟩ = some (.slice sa M scap) := b0.cell 1
  have k2 : w2.cell? ⟨c, 2, none⟩ = some (.slice ga G gcap) := b0.cell 2
  obtain ⟨E, hE⟩ : ∃ E, E = teamE N U Sn M T G Q := ⟨_, rfl⟩
  rw [← hE] at ha
  have B0 := Lib.hid b0
  have HF := Lib.hid hf
  have HE := Lib.hid hE
  clear hE hf b0
  rcases ha with ⟨hz, rfl⟩ | ⟨hz, v, own, rfl, hsl, _⟩
  · go_wp2_with fail
    refine (refAssign_any ua ub uo N ucap U Sn HNM.out sa sb so M scap T ga gb go_ G gcap Q w2 (HTW.out.frm HF.out (Nat.le_refl _))).mono ?_; rintro en w3 ⟨hf1, hb⟩
    rw [← HE.out] at hb
    have hf := HF.out.call hf1 HF.out.size (by simp)
    clear hf1 HF k0 k1 k2
    rcases hb with ⟨_, rfl⟩ | ⟨hz2, _⟩
    rotate_left
    · exact absurd hz2 hz
    have HF := Lib.hid hf
    clear hf
    have heq : (E == E) = true := by simp
    go_wp2_with (first | (go_at_call 44; refine (sameI_any none 0 0 0 0 (fun _ => 0) none 0 0 0 0 (fun _ => 0) _ ⟨fun h => absurd h (by omega), Nat.zero_le _, fun i hi => absurd hi (by omega)⟩ ⟨fun h => absurd h (by omega), Nat.zero_le _, fun i hi => absurd hi (by omega)⟩ rfl (fun i hi => rfl)).mono ?_; rintro e w5 ⟨rfl, hf1⟩; replace HF := Lib.hid (HF.out.call hf1 HF.out.size (by simp)); clear hf1) | (go_at_call 16; refine (awake_any _ (HGL.out.frm HF.out (Nat.le_refl _))).mono ?_; rintro e w6 ⟨rfl, hf1⟩; replace HF := Lib.hid (HF.out.call hf1 HF.out.size (by simp)); clear hf1))
    go_ret
    exact ⟨rfl, HF.out⟩
  · subst hz
    obtain ⟨B, hB⟩ : ∃ B, B = bestOf N U T G Q := ⟨_, rfl⟩
    rw [← hB] at hsl
    obtain ⟨oa, ob, oo, ocap, rfl, hrw⟩ := ints_at0 hsl
    clear hsl
    have HRW := Lib.hid hrw
    have HB := Lib.hid hB
    clear hB hrw
    go_wp2_with fail
    refine (refAssign_any ua ub uo N ucap U Sn HNM.out sa sb so M scap T ga gb go_ G gcap Q w2 (HTW.out.frm HF.out (Nat.le_refl _))).mono ?_; rintro en w3 ⟨hf1, hb⟩
    rw [← HE.out, best_same, ← HB.out] at hb
    have hf := HF.out.call hf1 HF.out.size (by simp)
    have hrw := HRW.out.frm hf1 (Nat.le_refl _)
    clear hf1 HF k0 k1 k2 HRW
    rcases hb with ⟨hz2, _⟩ | ⟨_, v2, own2, rfl, hsl2⟩
    · exact absurd rfl hz2
    obtain ⟨oa2, ob2, oo2, ocap2, rfl, hrw2⟩ := ints_at0 hsl2
    clear hsl2
    have HF := Lib.hid hf
    have HRW := Lib.hid hrw
    have HRW2 := Lib.hid hrw2
    clear hrw2 hrw hf
    go_wp2_with (first | (go_at_call 44; refine (sameI_any oa ob oo B.which.length ocap (at0 B.which) oa2 ob2 oo2 B.which.length ocap2 (at0 B.which) _ HRW.out HRW2.out rfl (fun i hi => rfl)).mono ?_; rintro e w5 ⟨rfl, hf1⟩; replace HF := Lib.hid (HF.out.call hf1 HF.out.size (by simp)); clear hf1) | (go_at_call 16; refine (awake_any _ (HGL.out.frm HF.out (Nat.le_refl _))).mono ?_; rintro e w6 ⟨rfl, hf1⟩; replace HF := Lib.hid (HF.out.call hf1 HF.out.size (by simp)); clear hf1))
    go_ret
    exact ⟨rfl, HF.out⟩
end Go.Proofs.YtghkfopcjdkieaaDoor
