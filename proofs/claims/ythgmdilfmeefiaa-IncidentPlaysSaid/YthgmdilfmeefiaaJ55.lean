/-
  The document: does a proof fit a report.
-/
import Derived.Test.YthgmdilfmeefiaaJ54
namespace Go.Proofs.Ythgmdilfmeefiaa
set_option linter.all false
set_option linter.unusedSimpArgs false
set_option linter.unusedVariables false
open Go.RowKit

set_option maxRecDepth 100000 in
set_option maxHeartbeats 16000000 in
theorem refFits_any (s : BS) (m : RMem) (p : Prf) (pad : Option Addr) (pb po pcap : Nat) (r : Rep) (ad : Option Addr) (b o cap : Nat) (w : World) (hp : RwP w pad pb po p.wh.length p.wh) (hr : RwP w ad b o r.wh.length r.wh) (hok : repB r = true) (hright : rightB p r = true) :
    Calls Try.prog 69 #[.agg (refC s m).toArray, .agg (prfA p pad pcap).toArray, .agg (repC r ad cap).toArray] w fun e w' => e = .returned (.bool (fitsB s p r)) ∧ Frm w.heap.size [] w w' := by
  have hf0 := Try.func69
  have has : repB (asR p) = true := by
    have h := hright
    rw [right_eq] at h
    simp only [Bool.and_eq_true] at h
    exact h.1.1.2
  have x1 := rep_ok has
  have x2 := rep_ok hok
  have hfo : ∀ V, Calls Try.prog 97 #[.agg (prfA p pad pcap).toArray, .agg (repC r ad cap).toArray] V fun e w' => e = .returned (.bool (foundB p.count r)) ∧ Frm V.heap.size [] V w' := fun V => refFound_any p pad pcap r ad cap V
  obtain ⟨pn, hpn⟩ : ∃ c, c = p.wh.length := ⟨_, rfl⟩
  obtain ⟨rn, hrn⟩ : ∃ c, c = r.wh.length := ⟨_, rfl⟩
  obtain ⟨v, hv⟩ : ∃ c, c = meetB r.wh p.wh 0 := ⟨_, rfl⟩
  obtain ⟨d, hd⟩ : ∃ c, c = distZ r.time p.time := ⟨_, rfl⟩
  obtain ⟨fo, hfov⟩ : ∃ c, c = foundB p.count r := ⟨_, rfl⟩
  have hcm : ∀ V, Frm w.heap.size [] w V → Calls Try.prog 62 #[.slice ad rn cap, .slice pad pn pcap, .int .i64 0] V fun e w' => e = .returned (.bool v) ∧ Frm V.heap.size [] V w' := fun V hV => by
    rw [hv, ← close_meet r.wh p.wh (by decide)]
    exact close_any ad b o rn cap r.wh hrn (by rw [hrn]; exact x2.2.1) (fun i hi => x2.2.2 i (by omega)) pad pb po pn pcap p.wh hpn (by rw [hpn]; exact x1.2.1) (fun i hi => x1.2.2 i (by rw [hpn] at hi; exact hi)) 0 (by decide) V (by rw [hrn]; exact hr.frm hV (Nat.le_refl _)) (by rw [hpn]; exact hp.frm hV (Nat.le_refl _))
  have hcd : ∀ V, Calls Try.prog 61 #[.int .i64 r.time, .int .i64 p.time] V fun e w' => e = .returned (.int .i64 d) ∧ Frm V.heap.size [] V w' := fun V => by
    rw [hd]
    exact (apart_any r.time p.time x2.1 x1.1 V).mono fun e w' ⟨h1, h2⟩ => ⟨h1, by rw [← h2]; exact Frm.refl _ _ _⟩
  obtain ⟨res, hres⟩ : ∃ c, c = fitsB s p r := ⟨_, rfl⟩
  have hrv := hres
  unfold fitsB at hrv
  rw [← hv, ← hd, ← hfov] at hrv
  rw [← hfov] at hfo
  rw [← hres]
  obtain ⟨C, hC⟩ : ∃ C, C = refC s m := ⟨_, rfl⟩
  have hc0 : C[0]? = some (.int .i64 s.window) := by rw [hC]; rfl
  obtain ⟨wd, hwd⟩ : ∃ c, c = s.window := ⟨_, rfl⟩
  rw [← hwd] at hc0 hrv
  obtain ⟨P, hP⟩ : ∃ C, C = prfA p pad pcap := ⟨_, rfl⟩
  have p6 : P.length = 6 := by rw [hP]; rfl
  have hp0 : P[0]? = some (.int .i64 p.kind) := by rw [hP]; rfl
  have hp2 : P[2]? = some (.int .i64 p.time) := by rw [hP]; rfl
  have hp3 : P[3]? = some (.string p.by_) := by rw [hP]; rfl
  have hp4 : P[4]? = some (.slice pad pn pcap) := by rw [hP, hpn]; rfl
  obtain ⟨R, hR⟩ : ∃ C, C = repC r ad cap := ⟨_, rfl⟩
  have r7 : R.length = 7 := by rw [hR]; rfl
  have hr0 : R[0]? = some (.int .i64 r.kind) := by rw [hR]; rfl
  have hr1 : R[1]? = some (.int .i64 r.time) := by rw [hR]; rfl
  have hr2 : R[2]? = some (.string r.src) := by rw [hR]; rfl
  have hr3 : R[3]? = some (.string r.abt) := by rw [hR]; rfl
  have hr4 : R[4]? = some (.slice ad rn cap) := by rw [hR, hrn]; rfl
  rw [← hP, ← hR] at hfo
  rw [← hC, ← hP, ← hR]
  obtain ⟨pkind, prep, ptime, by_, pwh, pcount⟩ := p
  obtain ⟨kind, time, src, abt, wh, souls, trust⟩ := r
  dsimp only at hcd hp0 hp2 hp3 hr0 hr1 hr2 hr3 hrv
  clear has x1 x2 hv hd hfov hpn hrn hres hC hwd hP hR hp hr hok hright
  have HCM := Lib.hid hcm
  have HCD := Lib.hid hcd
  have HFO := Lib.hid hfo
  have HRV := Lib.hid hrv
  have HC0 := Lib.hid hc0
  have P6 := Lib.hid p6
  have R7 := Lib.hid r7
  have HP0 := Lib.hid hp0
  have HP2 := Lib.hid hp2
  have HP3 := Lib.hid hp3
  have HP4 := Lib.hid hp4
  have HR0 := Lib.hid hr0
  have HR1 := Lib.hid hr1
  have HR2 := Lib.hid hr2
  have HR3 := Lib.hid hr3
  have HR4 := Lib.hid hr4
  clear hr4 hr3 hr2 hr1 hr0 hp4 hp3 hp2 hp0 r7 p6 hc0 hrv hfo hcd hcm
  go_enter Try.func69, Try.ntmps69
  go_upto_region 1 with fail
  refine namedC ?_; intro W hW
  have k3 : Blk W w.heap.size 55 C := by rw [hW]; refine Blk.alloc' ?_; refine Blk.alloc' ?_; exact Blk.new w 55 C
  have k4 : Blk W (w.heap.size + 1) 39 P := by rw [hW]; refine Blk.alloc' ?_; exact Blk.new' _ 39 P (by simp)
  have k5 : Blk W (w.heap.size + 1 + 1) 24 R := by rw [hW]; exact Blk.new' _ 24 R (by simp)
  have hf : Frm w.heap.size [] w W := by rw [hW]; repeat (first | with_reducible exact Frm.refl _ _ _ | with_reducible refine Frm.drewN ?_ | with_reducible refine Frm.drew ?_ | ((with_reducible refine Frm.setCell' ?_ ?_); · first | (left; simp; done) | (right; simp; done) | (right; simp; omega)) | ((with_reducible refine Frm.alloc' ?_ ?_); · first | exact Nat.le_refl _ | (simp; done) | (simp; omega)))
  clear hW hf0
  have c0 : W.cell? ⟨w.heap.size + 1, 0, none⟩ = some (.int .i64 pkind) := (k4.cell 0).trans HP0.out
  have c3 : W.cell? ⟨w.heap.size + 1, 3, none⟩ = some (.string by_) := (k4.cell 3).trans HP3.out
  have d0 : W.cell? ⟨w.heap.size + 1 + 1, 0, none⟩ = some (.int .i64 kind) := (k5.cell 0).trans HR0.out
  have d2 : W.cell? ⟨w.heap.size + 1 + 1, 2, none⟩ = some (.string src) := (k5.cell 2).trans HR2.out
  have d3 : W.cell? ⟨w.heap.size + 1 + 1, 3, none⟩ = some (.string abt) := (k5.cell 3).trans HR3.out
  have hfx : ∀ V, Frm W.heap.size [] W V → V.cell? ⟨w.heap.size + 1, 4, none⟩ = some (.slice pad pn pcap) ∧ V.cell? ⟨w.heap.size + 1, 2, none⟩ = some (.int .i64 ptime) ∧ V.cell? ⟨w.heap.size, 0, none⟩ = some (.int .i64 wd) ∧ V.cell? ⟨w.heap.size + 1 + 1, 0, none⟩ = some (.int .i64 kind) ∧ V.cell? ⟨w.heap.size + 1 + 1, 1, none⟩ = some (.int .i64 time) ∧ V.cell? ⟨w.heap.size + 1 + 1, 4, none⟩ = some (.slice ad rn cap) := fun V hV => by
    have g3 := hV.blk k3 k3.lt (by simp)
    have g4 := hV.blk k4 k4.lt (by simp)
    have g5 := hV.blk k5 k5.lt (by simp)
    exact ⟨(g4.cell 4).trans HP4.out, (g4.cell 2).trans HP2.out, (g3.cell 0).trans HC0.out, (g5.cell 0).trans HR0.out, (g5.cell 1).trans HR1.out, (g5.cell 4).trans HR4.out⟩
  have HF := Lib.hid hf
  have HFX := Lib.hid hfx
  have K4 := Lib.hid k4
  have K5 := Lib.hid k5
  clear k5 k4 hfx hf
  by_cases q1 : pkind = 1
  · subst q1
    go_wp2_with (first | (with_reducible refine atLoad 24 rfl ?_; refine wpList_loadE rfl rfl rfl (load24 K5.out R7.out) ?_) | (with_reducible refine atLoad 39 rfl ?_; refine wpList_loadE rfl rfl rfl (load39 K4.out P6.out) ?_))
    refine (HFO.out W).mono ?_; rintro e w1 ⟨rfl, hf1⟩
    have hf := HF.out.call hf1 HF.out.size (by simp)
    clear hf1 HF HFX
    have HF := Lib.hid hf
    clear hf
    go_wp2_with fail
    go_ret
    exact ⟨by rw [HRV.out]; simp, HF.out⟩
  have q1b : (pkind == 1) = false := by simp [q1]
  by_cases q2 : pkind = 2
  · subst q2
    by_cases h1 : kind = 1
    rotate_left
    · have h1b : (kind == 1) = false := by simp [h1]
      clear HFX HFO HCM HCD
      go_wp2_with fail
      go_ret
      exact ⟨by rw [HRV.out]; simp [h1], HF.out⟩
    subst h1
    by_cases hs : abt = by_
    · subst hs
      clear HFX HFO HCM HCD
      go_wp2_with fail
      go_ret
      exact ⟨by rw [HRV.out]; simp, HF.out⟩
    have hs1 : ¬ abt.toList = by_.toList := fun h => hs (lst_inj h)
    have hs2 : (abt.toList == by_.toList) = false := by simp [hs1]
    have hs3 : ¬ by_ = abt := fun h => hs h.symm
    clear HFX HFO HCM HCD
    go_wp2_with fail
    go_ret
    exact ⟨by rw [HRV.out]; simp [hs, hs3], HF.out⟩
  have q2b : (pkind == 2) = false := by simp [q2]
  by_cases q3 : pkind = 3
  · subst q3
    by_cases h4 : kind = 4
    rotate_left
    · have h4b : (kind == 4) = false := by simp [h4]
      clear HFX HFO HCM HCD
      go_wp2_with fail
      go_ret
      exact ⟨by rw [HRV.out]; simp [h4], HF.out⟩
    subst h4
    by_cases ha : abt.size = 0
    · have hl : abt.toList = [] := by rw [str_nil ha, Lib.toList_data]
      have hl2 : abt.toList.isEmpty = true := by rw [hl]; rfl
      by_cases hs : by_ = src
      · subst hs
        clear HFX HFO HCM HCD
        go_wp2_with fail
        go_ret
        exact ⟨by rw [HRV.out]; simp [ha], HF.out⟩
      have hs1 : ¬ by_.toList = src.toList := fun h => hs (lst_inj h)
      have hs2 : (by_.toList == src.toList) = false := by simp [hs1]
      have hs3 : ¬ src = by_ := fun h => hs h.symm
      clear HFX HFO HCM HCD
      go_wp2_with fail
      go_ret
      exact ⟨by rw [HRV.out]; simp [ha, hs, hs3], HF.out⟩
    have hl : ¬ abt.toList = [] := lst_not ha
    have hl2 : abt.toList.isEmpty = false := by simp [hl]
    by_cases hs : by_ = src
    · subst hs
      clear HFX HFO HCM HCD
      go_wp2_with fail
      go_ret
      exact ⟨by rw [HRV.out]; simp [ha], HF.out⟩
    have hs1 : ¬ by_.toList = src.toList := fun h => hs (lst_inj h)
    have hs2 : (by_.toList == src.toList) = false := by simp [hs1]
    have hs3 : ¬ src = by_ := fun h => hs h.symm
    clear HFX HFO HCM HCD
    go_wp2_with fail
    go_ret
    exact ⟨by rw [HRV.out]; simp [ha, hs, hs3], HF.out⟩
  have q3b : (pkind == 3) = false := by simp [q3]
  by_cases q4 : pkind = 4
  · subst q4
    have hk : kind = 2 ∨ kind = 3 ∨ (kind ≠ 2 ∧ kind ≠ 3) := by omega
    rcases hk with rfl | rfl | ⟨h2, h3⟩
    rotate_left 2
    · have h2b : (kind == 2) = false := by simp [h2]
      have h3b : (kind == 3) = false := by simp [h3]
      clear HFX HFO HCM HCD
      go_wp2_with fail
      go_ret
      exact ⟨by rw [HRV.out]; simp [h2, h3], HF.out⟩
    all_goals (
      by_cases hs : by_ = src)
    · subst hs
      clear HFX HFO HCM HCD
      go_wp2_with fail
      go_ret
      exact ⟨by rw [HRV.out]; simp, HF.out⟩
    rotate_left
    · subst hs
      clear HFX HFO HCM HCD
      go_wp2_with fail
      go_ret
      exact ⟨by rw [HRV.out]; simp, HF.out⟩
    all_goals (
      have hs1 : ¬ by_.toList = src.toList := fun h => hs (lst_inj h)
      have hs2 : (by_.toList == src.toList) = false := by simp [hs1]
      have hs3 : ¬ src = by_ := fun h => hs h.symm
      clear HFX HFO HCM HCD)
    · go_wp2_with fail
      go_ret
      exact ⟨by rw [HRV.out]; simp [hs, hs3], HF.out⟩
    · go_wp2_with fail
      go_ret
      exact ⟨by rw [HRV.out]; simp [hs, hs3], HF.out⟩
  have q4b : (pkind == 4) = false := by simp [q4]
  go_upto_region 10 with fail
  clear c0 c3 d0 d2 d3
  by_cases h3 : kind = 3
  rotate_left
  · have h3b : (kind == 3) = false := by simp [h3]
    refine wp_region_leftL (fun V => Frm W.heap.size [] W V) 1000 (by kernel_rfl) ?_
    have hS : Frm W.heap.size [] W W.drew := (Frm.refl _ _ W).drew
    have HS := Lib.hid hS
    clear hS
    first | (refine LeftL.tkG (v := ?_) 0 rfl HS.out ?_ ?_; rotate_left; · intro V hV; obtain ⟨z1, z2, z3, z4, z5, z6⟩ := HFX.out V hV; clear hV; go_simp; rfl) | refine LeftL.tkN 0 rfl HS.out ?_
    (intro K h; go_simp; refine h _ ?_; clear h K)
    first | (refine LeftL.tkG (v := ?_) 1 rfl HS.out ?_ ?_; rotate_left; · intro V hV; obtain ⟨z1, z2, z3, z4, z5, z6⟩ := HFX.out V hV; clear hV; go_simp; rfl) | refine LeftL.tkN 1 rfl HS.out ?_
    (intro K h; go_simp; refine h _ ?_; clear h K)
    first | (refine LeftL.tkG (v := ?_) 2 rfl HS.out ?_ ?_; rotate_left; · intro V hV; obtain ⟨z1, z2, z3, z4, z5, z6⟩ := HFX.out V hV; clear hV; go_simp; rfl) | refine LeftL.tkN 2 rfl HS.out ?_
    (intro K h; go_simp; refine h _ ?_; clear h K)
    first | (refine LeftL.tkG (v := ?_) 3 rfl HS.out ?_ ?_; rotate_left; · intro V hV; obtain ⟨z1, z2, z3, z4, z5, z6⟩ := HFX.out V hV; clear hV; go_simp; rfl) | refine LeftL.tkN 3 rfl HS.out ?_
    (intro K h; go_simp; refine h _ ?_; clear h K)
    first | (refine LeftL.tkG (v := ?_) 4 rfl HS.out ?_ ?_; rotate_left; · intro V hV; obtain ⟨z1, z2, z3, z4, z5, z6⟩ := HFX.out V hV; clear hV; go_simp; rfl) | refine LeftL.tkN 4 rfl HS.out ?_
    (intro K h; go_simp; refine h _ ?_; clear h K)
    first | (refine LeftL.tkG (v := ?_) 5 rfl HS.out ?_ ?_; rotate_left; · intro V hV; obtain ⟨z1, z2, z3, z4, z5, z6⟩ := HFX.out V hV; clear hV; go_simp; rfl) | refine LeftL.tkN 5 rfl HS.out ?_
    (intro K h; go_simp; refine h _ ?_; clear h K)
    first | (refine LeftL.tkG (v := ?_) 6 rfl HS.out ?_ ?_; rotate_left; · intro V hV; obtain ⟨z1, z2, z3, z4, z5, z6⟩ := HFX.out V hV; clear hV; go_simp; rfl) | refine LeftL.tkN 6 rfl HS.out ?_
    (intro K h; go_simp; refine h _ ?_; clear h K)
    first | (refine LeftL.tkG (v := ?_) 7 rfl HS.out ?_ ?_; rotate_left; · intro V hV; obtain ⟨z1, z2, z3, z4, z5, z6⟩ := HFX.out V hV; clear hV; go_simp; rfl) | refine LeftL.tkN 7 rfl HS.out ?_
    (intro K h; go_simp; refine h _ ?_; clear h K)
    first | (refine LeftL.tkG (v := ?_) 8 rfl HS.out ?_ ?_; rotate_left; · intro V hV; obtain ⟨z1, z2, z3, z4, z5, z6⟩ := HFX.out V hV; clear hV; go_simp; rfl) | refine LeftL.tkN 8 rfl HS.out ?_
    (intro K h; go_simp; refine h _ ?_; clear h K)
    first | (refine LeftL.tkG (v := ?_) 9 rfl HS.out ?_ ?_; rotate_left; · intro V hV; obtain ⟨z1, z2, z3, z4, z5, z6⟩ := HFX.out V hV; clear hV; go_simp; rfl) | refine LeftL.tkN 9 rfl HS.out ?_
    (intro K h; go_simp; refine h _ ?_; clear h K)
    first | (refine LeftL.tkG (v := ?_) 10 rfl HS.out ?_ ?_; rotate_left; · intro V hV; obtain ⟨z1, z2, z3, z4, z5, z6⟩ := HFX.out V hV; clear hV; go_simp; rfl) | refine LeftL.tkN 10 rfl HS.out ?_
    (intro K h; go_simp; refine h _ ?_; clear h K)
    first | (refine LeftL.tkG (v := ?_) 11 rfl HS.out ?_ ?_; rotate_left; · intro V hV; obtain ⟨z1, z2, z3, z4, z5, z6⟩ := HFX.out V hV; clear hV; go_simp; rfl) | refine LeftL.tkN 11 rfl HS.out ?_
    (intro K h; go_simp; refine h _ ?_; clear h K)
    first | (refine LeftL.tkG (v := ?_) 12 rfl HS.out ?_ ?_; rotate_left; · intro V hV; obtain ⟨z1, z2, z3, z4, z5, z6⟩ := HFX.out V hV; clear hV; go_simp; rfl) | refine LeftL.tkN 12 rfl HS.out ?_
    (intro K h; go_simp; refine h _ ?_; clear h K)
    first | (refine LeftL.tkG (v := ?_) 13 rfl HS.out ?_ ?_; rotate_left; · intro V hV; obtain ⟨z1, z2, z3, z4, z5, z6⟩ := HFX.out V hV; clear hV; go_simp; rfl) | refine LeftL.tkN 13 rfl HS.out ?_
    (intro K h; go_simp; refine h _ ?_; clear h K)
    first | (refine LeftL.tkG (v := ?_) 14 rfl HS.out ?_ ?_; rotate_left; · intro V hV; obtain ⟨z1, z2, z3, z4, z5, z6⟩ := HFX.out V hV; clear hV; go_simp; rfl) | refine LeftL.tkN 14 rfl HS.out ?_
    (intro K h; go_simp; refine h _ ?_; clear h K)
    first | (refine LeftL.tkG (v := ?_) 15 rfl HS.out ?_ ?_; rotate_left; · intro V hV; obtain ⟨z1, z2, z3, z4, z5, z6⟩ := HFX.out V hV; clear hV; go_simp; rfl) | refine LeftL.tkN 15 rfl HS.out ?_
    (intro K h; go_simp; refine h _ ?_; clear h K)
    first | (refine LeftL.tkG (v := ?_) 16 rfl HS.out ?_ ?_; rotate_left; · intro V hV; obtain ⟨z1, z2, z3, z4, z5, z6⟩ := HFX.out V hV; clear hV; go_simp; rfl) | refine LeftL.tkN 16 rfl HS.out ?_
    (intro K h; go_simp; refine h _ ?_; clear h K)
    first | (refine LeftL.tkG (v := ?_) 17 rfl HS.out ?_ ?_; rotate_left; · intro V hV; obtain ⟨z1, z2, z3, z4, z5, z6⟩ := HFX.out V hV; clear hV; go_simp; rfl) | refine LeftL.tkN 17 rfl HS.out ?_
    (intro K h; go_simp; refine h _ ?_; clear h K)
    first | (refine LeftL.tkG (v := ?_) 18 rfl HS.out ?_ ?_; rotate_left; · intro V hV; obtain ⟨z1, z2, z3, z4, z5, z6⟩ := HFX.out V hV; clear hV; go_simp; rfl) | refine LeftL.tkN 18 rfl HS.out ?_
    (intro K h; go_simp; refine h _ ?_; clear h K)
    first | (refine LeftL.tkG (v := ?_) 19 rfl HS.out ?_ ?_; rotate_left; · intro V hV; obtain ⟨z1, z2, z3, z4, z5, z6⟩ := HFX.out V hV; clear hV; go_simp; rfl) | refine LeftL.tkN 19 rfl HS.out ?_
    (intro K h; go_simp; refine h _ ?_; clear h K)
    refine LeftL.one 20 rfl (by kernel_rfl) ?_
    go_wp2_with fail
    first | refine ⟨fun _ => HS.out, ?_⟩ | refine ⟨HS.out, ?_⟩
    refine LeftL.done (by kernel_rfl) ?_
    have hf := HF.out.call HS.out HF.out.size (by simp)
    clear HF HS HFX
    have HF := Lib.hid hf
    clear hf
    go_wp2_with fail
    go_ret
    exact ⟨by rw [HRV.out]; simp [h3, q1, q2, q3, q4], HF.out⟩
  subst h3
  refine wp_region_leftL (fun V => Frm W.heap.size [] W V) 1000 (by kernel_rfl) ?_
  have hS : Frm W.heap.size [] W W.drew := (Frm.refl _ _ W).drew
  have HS := Lib.hid hS
  clear hS
  first | (refine LeftL.tkG (v := ?_) 0 rfl HS.out ?_ ?_; rotate_left; · intro V hV; obtain ⟨z1, z2, z3, z4, z5, z6⟩ := HFX.out V hV; clear hV; go_simp; rfl) | refine LeftL.tkN 0 rfl HS.out ?_
  (intro K h; go_simp; refine h _ ?_; clear h K)
  first | (refine LeftL.tkG (v := ?_) 1 rfl HS.out ?_ ?_; rotate_left; · intro V hV; obtain ⟨z1, z2, z3, z4, z5, z6⟩ := HFX.out V hV; clear hV; go_simp; rfl) | refine LeftL.tkN 1 rfl HS.out ?_
  (intro K h; go_simp; refine h _ ?_; clear h K)
  first | (refine LeftL.tkG (v := ?_) 2 rfl HS.out ?_ ?_; rotate_left; · intro V hV; obtain ⟨z1, z2, z3, z4, z5, z6⟩ := HFX.out V hV; clear hV; go_simp; rfl) | refine LeftL.tkN 2 rfl HS.out ?_
  (intro K h; go_simp; refine h _ ?_; clear h K)
  first | (refine LeftL.tkG (v := ?_) 3 rfl HS.out ?_ ?_; rotate_left; · intro V hV; obtain ⟨z1, z2, z3, z4, z5, z6⟩ := HFX.out V hV; clear hV; go_simp; rfl) | refine LeftL.tkN 3 rfl HS.out ?_
  (intro K h; go_simp; refine h _ ?_; clear h K)
  first | (refine LeftL.tkG (v := ?_) 4 rfl HS.out ?_ ?_; rotate_left; · intro V hV; obtain ⟨z1, z2, z3, z4, z5, z6⟩ := HFX.out V hV; clear hV; go_simp; rfl) | refine LeftL.tkN 4 rfl HS.out ?_
  (intro K h; go_simp; refine h _ ?_; clear h K)
  first | (refine LeftL.tkG (v := ?_) 5 rfl HS.out ?_ ?_; rotate_left; · intro V hV; obtain ⟨z1, z2, z3, z4, z5, z6⟩ := HFX.out V hV; clear hV; go_simp; rfl) | refine LeftL.tkN 5 rfl HS.out ?_
  (intro K h; go_simp; refine h _ ?_; clear h K)
  first | (refine LeftL.tkG (v := ?_) 6 rfl HS.out ?_ ?_; rotate_left; · intro V hV; obtain ⟨z1, z2, z3, z4, z5, z6⟩ := HFX.out V hV; clear hV; go_simp; rfl) | refine LeftL.tkN 6 rfl HS.out ?_
  (intro K h; go_simp; refine h _ ?_; clear h K)
  first | (refine LeftL.tkG (v := ?_) 7 rfl HS.out ?_ ?_; rotate_left; · intro V hV; obtain ⟨z1, z2, z3, z4, z5, z6⟩ := HFX.out V hV; clear hV; go_simp; rfl) | refine LeftL.tkN 7 rfl HS.out ?_
  (intro K h; go_simp; refine h _ ?_; clear h K)
  refine LeftL.one 8 rfl (by kernel_rfl) ?_
  go_wp2_with fail
  refine (HCM.out _ (HF.out.call HS.out HF.out.size (by simp))).mono ?_; rintro e w1 ⟨rfl, hf1⟩
  have hS1 := HS.out.call hf1 HS.out.size (by simp)
  clear hf1 HS
  have HS := Lib.hid hS1
  clear hS1
  go_wp2_with fail
  first | refine ⟨fun _ => HS.out, ?_⟩ | refine ⟨HS.out, ?_⟩
  refine LeftL.one 9 rfl (by kernel_rfl) ?_
  go_wp2_with fail
  first | refine ⟨fun _ => HS.out, ?_⟩ | refine ⟨HS.out, ?_⟩
  cases v
  · first | (refine LeftL.tkG (v := ?_) 10 rfl HS.out ?_ ?_; rotate_left; · intro V hV; obtain ⟨z1, z2, z3, z4, z5, z6⟩ := HFX.out V hV; clear hV; go_simp; rfl) | refine LeftL.tkN 10 rfl HS.out ?_
    (intro K h; go_simp; refine h _ ?_; clear h K)
    first | (refine LeftL.tkG (v := ?_) 11 rfl HS.out ?_ ?_; rotate_left; · intro V hV; obtain ⟨z1, z2, z3, z4, z5, z6⟩ := HFX.out V hV; clear hV; go_simp; rfl) | refine LeftL.tkN 11 rfl HS.out ?_
    (intro K h; go_simp; refine h _ ?_; clear h K)
    first | (refine LeftL.tkG (v := ?_) 12 rfl HS.out ?_ ?_; rotate_left; · intro V hV; obtain ⟨z1, z2, z3, z4, z5, z6⟩ := HFX.out V hV; clear hV; go_simp; rfl) | refine LeftL.tkN 12 rfl HS.out ?_
    (intro K h; go_simp; refine h _ ?_; clear h K)
    first | (refine LeftL.tkG (v := ?_) 13 rfl HS.out ?_ ?_; rotate_left; · intro V hV; obtain ⟨z1, z2, z3, z4, z5, z6⟩ := HFX.out V hV; clear hV; go_simp; rfl) | refine LeftL.tkN 13 rfl HS.out ?_
    (intro K h; go_simp; refine h _ ?_; clear h K)
    first | (refine LeftL.tkG (v := ?_) 14 rfl HS.out ?_ ?_; rotate_left; · intro V hV; obtain ⟨z1, z2, z3, z4, z5, z6⟩ := HFX.out V hV; clear hV; go_simp; rfl) | refine LeftL.tkN 14 rfl HS.out ?_
    (intro K h; go_simp; refine h _ ?_; clear h K)
    first | (refine LeftL.tkG (v := ?_) 15 rfl HS.out ?_ ?_; rotate_left; · intro V hV; obtain ⟨z1, z2, z3, z4, z5, z6⟩ := HFX.out V hV; clear hV; go_simp; rfl) | refine LeftL.tkN 15 rfl HS.out ?_
    (intro K h; go_simp; refine h _ ?_; clear h K)
    first | (refine LeftL.tkG (v := ?_) 16 rfl HS.out ?_ ?_; rotate_left; · intro V hV; obtain ⟨z1, z2, z3, z4, z5, z6⟩ := HFX.out V hV; clear hV; go_simp; rfl) | refine LeftL.tkN 16 rfl HS.out ?_
    (intro K h; go_simp; refine h _ ?_; clear h K)
    first | (refine LeftL.tkG (v := ?_) 17 rfl HS.out ?_ ?_; rotate_left; · intro V hV; obtain ⟨z1, z2, z3, z4, z5, z6⟩ := HFX.out V hV; clear hV; go_simp; rfl) | refine LeftL.tkN 17 rfl HS.out ?_
    (intro K h; go_simp; refine h _ ?_; clear h K)
    first | (refine LeftL.tkG (v := ?_) 18 rfl HS.out ?_ ?_; rotate_left; · intro V hV; obtain ⟨z1, z2, z3, z4, z5, z6⟩ := HFX.out V hV; clear hV; go_simp; rfl) | refine LeftL.tkN 18 rfl HS.out ?_
    (intro K h; go_simp; refine h _ ?_; clear h K)
    first | (refine LeftL.tkG (v := ?_) 19 rfl HS.out ?_ ?_; rotate_left; · intro V hV; obtain ⟨z1, z2, z3, z4, z5, z6⟩ := HFX.out V hV; clear hV; go_simp; rfl) | refine LeftL.tkN 19 rfl HS.out ?_
    (intro K h; go_simp; refine h _ ?_; clear h K)
    refine LeftL.one 20 rfl (by kernel_rfl) ?_
    go_wp2_with fail
    first | refine ⟨fun _ => HS.out, ?_⟩ | refine ⟨HS.out, ?_⟩
    refine LeftL.done (by kernel_rfl) ?_
    have hf := HF.out.call HS.out HF.out.size (by simp)
    clear HF HS HFX
    have HF := Lib.hid hf
    clear hf
    go_wp2_with fail
    go_ret
    exact ⟨by rw [HRV.out]; simp [q1, q2, q3, q4], HF.out⟩
  first | (refine LeftL.tkG (v := ?_) 10 rfl HS.out ?_ ?_; rotate_left; · intro V hV; obtain ⟨z1, z2, z3, z4, z5, z6⟩ := HFX.out V hV; clear hV; go_simp; rfl) | refine LeftL.tkN 10 rfl HS.out ?_
  (intro K h; go_simp; refine h _ ?_; clear h K)
  first | (refine LeftL.tkG (v := ?_) 11 rfl HS.out ?_ ?_; rotate_left; · intro V hV; obtain ⟨z1, z2, z3, z4, z5, z6⟩ := HFX.out V hV; clear hV; go_simp; rfl) | refine LeftL.tkN 11 rfl HS.out ?_
  (intro K h; go_simp; refine h _ ?_; clear h K)
  first | (refine LeftL.tkG (v := ?_) 12 rfl HS.out ?_ ?_; rotate_left; · intro V hV; obtain ⟨z1, z2, z3, z4, z5, z6⟩ := HFX.out V hV; clear hV; go_simp; rfl) | refine LeftL.tkN 12 rfl HS.out ?_
  (intro K h; go_simp; refine h _ ?_; clear h K)
  first | (refine LeftL.tkG (v := ?_) 13 rfl HS.out ?_ ?_; rotate_left; · intro V hV; obtain ⟨z1, z2, z3, z4, z5, z6⟩ := HFX.out V hV; clear hV; go_simp; rfl) | refine LeftL.tkN 13 rfl HS.out ?_
  (intro K h; go_simp; refine h _ ?_; clear h K)
  first | (refine LeftL.tkG (v := ?_) 14 rfl HS.out ?_ ?_; rotate_left; · intro V hV; obtain ⟨z1, z2, z3, z4, z5, z6⟩ := HFX.out V hV; clear hV; go_simp; rfl) | refine LeftL.tkN 14 rfl HS.out ?_
  (intro K h; go_simp; refine h _ ?_; clear h K)
  first | (refine LeftL.tkG (v := ?_) 16 rfl HS.out ?_ ?_; rotate_left; · intro V hV; obtain ⟨z1, z2, z3, z4, z5, z6⟩ := HFX.out V hV; clear hV; go_simp; rfl) | refine LeftL.tkN 16 rfl HS.out ?_
  (intro K h; go_simp; refine h _ ?_; clear h K)
  first | (refine LeftL.tkG (v := ?_) 17 rfl HS.out ?_ ?_; rotate_left; · intro V hV; obtain ⟨z1, z2, z3, z4, z5, z6⟩ := HFX.out V hV; clear hV; go_simp; rfl) | refine LeftL.tkN 17 rfl HS.out ?_
  (intro K h; go_simp; refine h _ ?_; clear h K)
  refine LeftL.one 15 rfl (by kernel_rfl) ?_
  go_wp2_with fail
  refine (HCD.out _).mono ?_; rintro e w1 ⟨rfl, hf1⟩
  have hS1 := HS.out.call hf1 HS.out.size (by simp)
  clear hf1 HS
  have HS := Lib.hid hS1
  clear hS1
  go_wp2_with fail
  first | refine ⟨fun _ => HS.out, ?_⟩ | refine ⟨HS.out, ?_⟩
  refine LeftL.one 18 rfl (by kernel_rfl) ?_
  go_wp2_with fail
  first | refine ⟨fun _ => HS.out, ?_⟩ | refine ⟨HS.out, ?_⟩
  refine LeftL.one 19 rfl (by kernel_rfl) ?_
  go_wp2_with fail
  first | refine ⟨fun _ => HS.out, ?_⟩ | refine ⟨HS.out, ?_⟩
  refine LeftL.one 20 rfl (by kernel_rfl) ?_
  go_wp2_with fail
  first | refine ⟨fun _ => HS.out, ?_⟩ | refine ⟨HS.out, ?_⟩
  refine LeftL.done (by kernel_rfl) ?_
  have hf := HF.out.call HS.out HF.out.size (by simp)
  clear HF HS HFX
  have HF := Lib.hid hf
  clear hf
  go_wp2_with fail
  go_ret
  exact ⟨by rw [HRV.out]; simp [q1, q2, q3, q4], HF.out⟩
end Go.Proofs.Ythgmdilfmeefiaa
