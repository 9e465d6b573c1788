/-
  The first need that is not surely met, by the document: the walk.
-/
import Derived.Test.YtfmigicmfolbjaaDoorX4
namespace Go.Proofs.YtfmigicmfolbjaaDoor
set_option linter.all false
set_option linter.unusedSimpArgs false
set_option linter.unusedVariables false
open Go.RowKit Go.Shelf

theorem soundIs_n {R : Raw} (h : plannedO R = none) : SoundIs R (.returned (.tuple #[.int .i64 (-1), .int .i64 (-1), .int .i64 2])) := by unfold SoundIs; rw [h]
theorem soundIs_y {R : Raw} {P : PL} (hP : plannedO R = some P) (h : ∀ i, i < P.n → badF P i = none) : SoundIs R (.returned (.tuple #[.int .i64 (-1), .int .i64 (-1), .int .i64 0])) := by
  have : soundO P = none := some_no fun j hj => by rw [h j hj]; rfl
  unfold SoundIs; rw [hP]; dsimp only; rw [this]
theorem soundIs_b {R : Raw} {P : PL} (hP : plannedO R = some P) {i f : Nat} (hi : i < P.n) (h : ∀ j, j < i → badF P j = none) (hb : badF P i = some f) : SoundIs R (.returned (.tuple #[.int .i64 (i : Int), .int .i64 (f : Int), .int .i64 9])) := by
  have : soundO P = some (i, f) := some_at hi (fun j hj => by rw [h j hj]; rfl) (by rw [hb]; rfl)
  unfold SoundIs; rw [hP]; dsimp only; rw [this]
set_option maxRecDepth 100000 in
set_option maxHeartbeats 16000000 in
theorem refSound_any (q : RPos) (R : Raw) (w : World) (h6 : R.steps.length ≤ 6) (hr : RawAt w q R) :
    Calls Tryd.prog 42 #[.agg (rawC q R).toArray] w fun e w' => SoundIs R e ∧ Frm w.heap.size [] w w' := by
  have hf0 := Tryd.func42
  obtain ⟨n, hn⟩ : ∃ n, n = R.steps.length := ⟨_, rfl⟩
  obtain ⟨m, hm⟩ : ∃ n, n = R.edges.length := ⟨_, rfl⟩
  have hraw : rawC q R = [q.s.v R.starts, .slice q.sa n q.sc, .slice q.ea m q.ec] := by rw [hn, hm]; rfl
  have hnl : n ≤ maxLen := by rw [hn]; exact hr.steps.row.len
  have HR := Lib.hid hr
  have H6 := Lib.hid h6
  have HRAW := Lib.hid hraw
  have HN := Lib.hid hn
  have HM := Lib.hid hm
  clear hm hn hraw h6 hr
  go_enter Tryd.func42, Tryd.ntmps42
  go_upto_region 1 with fail
  refine namedC ?_; intro W hW
  obtain ⟨c, hc⟩ : ∃ c, c = w.heap.size := ⟨_, rfl⟩
  have k0 : Blk W c 66 (rawC q R) := by rw [hW, hc]; exact Blk.new w 66 (rawC q R)
  have hf : Frm w.heap.size [] w W := by rw [hW]; repeat (first | with_reducible exact Frm.refl _ _ _ | with_reducible refine Frm.drewN ?_ | with_reducible refine Frm.drew ?_ | ((with_reducible refine Frm.setCell' ?_ ?_); · first | (left; simp; done) | (right; simp; done) | (right; simp; omega)) | ((with_reducible refine Frm.alloc' ?_ ?_); · first | exact Nat.le_refl _ | (simp; done) | (simp; omega)))
  clear hW hf0
  rw [← hc]
  clear hc
  have K0 := Lib.hid k0
  have HF := Lib.hid hf
  clear hf k0
  go_wp2_with (with_reducible refine atLoad 66 rfl ?_; refine wpList_loadE rfl rfl rfl (load_raw K0.out) ?_)
  refine (refCheck_any q R W (HR.out.frm HF.out (Nat.le_refl _))).mono ?_; rintro e w1 ⟨rfl, hf1⟩
  have k0 := hf1.blk K0.out K0.out.lt (by simp)
  have hf := HF.out.call hf1 HF.out.size (by simp)
  clear hf1 K0 HF
  cases hP : plannedO R with
  | none =>
    have hres := soundIs_n hP
    clear k0 hP
    have HF := Lib.hid hf
    have HRES := Lib.hid hres
    clear hres hf
    go_wp2_with fail
    refine bodyPost_ret (v := .tuple #[.int .i64 (-1), .int .i64 (-1), .int .i64 2]) (by simp [results, Tryd.results42, go_sem]) rfl ?_
    exact ⟨HRES.out, HF.out⟩
  | some P =>
    have hP6 : P.n ≤ 6 := by rw [planned_len hP]; exact H6.out
    have hPn : P.n = n := by rw [HN.out]; exact planned_len hP
    have HF := Lib.hid hf
    have K0 := Lib.hid k0
    have HP := Lib.hid hP
    have HP6 := Lib.hid hP6
    have HPN := Lib.hid hPn
    clear hPn hP6 hP k0 hf
    go_wp2_with (with_reducible refine atLoad 66 rfl ?_; refine wpList_loadE rfl rfl rfl (load_raw K0.out) ?_)
    refine (refRows_any q R P HP.out HP6.out w1 (HR.out.frm HF.out (Nat.le_refl _))).mono ?_; rintro e w2 ⟨⟨v, own, rfl, hrs⟩, hf1⟩
    have k0 := hf1.blk K0.out K0.out.lt (by simp)
    have hf := HF.out.call hf1 HF.out.size (by simp)
    clear hf1 K0 HF
    have HF := Lib.hid hf
    have K0 := Lib.hid k0
    have HRS := Lib.hid hrs
    clear hrs k0 hf
    go_wp2_with fail
    go_loopw [6] (fun s6 wr => ∃ i : Nat, s6 = .int .i64 i ∧ i ≤ n ∧ (∀ j, j < i → badF P j = none) ∧ Frm w2.heap.size [] w2 wr) (fun s6 _ => n - (intOf s6).toNat)
    case atStart => exact ⟨0, rfl, Nat.zero_le _, fun j hj => absurd hj (by omega), Frm.refl _ _ _⟩
    case round =>
      obtain ⟨i, rfl, hi, hno, hfr⟩ := hrel
      have k1 := hfr.blk K0.out K0.out.lt (by simp)
      have c1 : wr.cell? ⟨c, 1, none⟩ = some (.slice q.sa n q.sc) := by rw [HRAW.out] at k1; exact k1.cell 1
      by_cases hin : i < n
      rotate_left
      · have hin' : ¬ (i : Int) < (n : Int) := by omega
        have hres := soundIs_y HP.out (fun j hj => hno j (by have := HPN.out; omega))
        have hf := HF.out.call hfr HF.out.size (by simp)
        clear hno k1 hfr
        have HF2 := Lib.hid hf
        have HRES := Lib.hid hres
        clear hres hf
        go_wp2_with fail
        refine bodyPost_ret (v := .tuple #[.int .i64 (-1), .int .i64 (-1), .int .i64 0]) (by simp [results, Tryd.results42, go_sem]) rfl ?_
        exact ⟨HRES.out, HF2.out⟩
      have hin' : (i : Int) < (n : Int) := by omega
      have hiR : i < R.steps.length := by have := HN.out; omega
      have hiP : i < P.n := by have := HPN.out; omega
      obtain ⟨x4, x5⟩ := wrapUp hin hnl
      have hms2 := meas_up hin
      have hf := HF.out.call hfr HF.out.size (by simp)
      have hst := (HR.out.frm hf (Nat.le_refl _)).steps
      have had3 := hst.row.ad (Nat.lt_of_le_of_lt (Nat.zero_le _) hiR)
      have hneed := (planned_step HP.out hiR).1
      obtain ⟨st, hsteq⟩ : ∃ r, r = R.steps.getD i rs0 := ⟨_, rfl⟩
      obtain ⟨x, hx⟩ : ∃ r, r = q.X i := ⟨_, rfl⟩
      obtain ⟨l1, hl1⟩ : ∃ l, l = st.need.length := ⟨_, rfl⟩
      rw [← hsteq] at hneed
      have hnl1 := (hst.each i hiR).need
      rw [← hsteq, ← hx] at hnl1
      unfold IntsAt at hnl1
      rw [← hl1] at hnl1
      have hll := hnl1.len
      have d0 : wr.cell? ⟨q.sb, q.so + i * 3, none⟩ = some (.slice x.need.ad l1 x.need.cap) := by
        rw [hl1, hsteq, hx]; have := hst.row.at_ i hiR 0 _ rfl; rw [Nat.add_zero] at this; exact this
      have c1' : wr.cell? ⟨c, 1, none⟩ = some (.slice (some ⟨q.sb, q.so, none⟩) n q.sc) := by rw [← had3]; exact c1
      have hsu : ∀ V, Frm wr.heap.size [] wr V → Calls Tryd.prog 76 #[.agg (rawC q R).toArray, v, .int .i64 (i : Int)] V fun e w' => ∃ B, e = .returned (.slice (some ⟨B, 0, none⟩) 16 16) ∧ Blk w' B 4 (boolsC 16 fun f => sureN P i f) ∧ Frm V.heap.size [] V w' := fun V hV => by
        refine (refSurely_any q R P HP.out _ (rows_lt HP.out) v own (i : Int) V (HR.out.frm (hf.call hV hf.size (by simp)) (Nat.le_refl _)) (HRS.out.frm (hfr.call hV hfr.size (by simp)) (Nat.le_refl _))).mono ?_
        rintro e w' ⟨B, rfl, kB, hfB⟩
        exact ⟨B, rfl, by rw [← boolsC_congr (fun f _ => sure_all HP.out hiP f)]; exact kB, hfB⟩
      clear hst hf hsteq hx c1
      have K1 := Lib.hid k1
      have HFR := Lib.hid hfr
      have HNO := Lib.hid hno
      have HNEED := Lib.hid hneed
      have HNL1 := Lib.hid hnl1
      have HL1 := Lib.hid hl1
      have HMS2 := Lib.hid hms2
      have HSU := Lib.hid hsu
      have HIR := Lib.hid hiR
      have HIP := Lib.hid hiP
      clear hiP hiR hsu hms2 hl1 hnl1 hneed hno hfr k1
      go_wp2_with (with_reducible refine atLoad 66 rfl ?_; refine wpList_loadE rfl rfl rfl (load_raw K1.out) ?_)
      refine (HSU.out _ (Frm.refl _ _ _)).mono ?_; rintro e w7 ⟨B, rfl, kB, hf1⟩
      have hfr := HFR.out.call hf1 HFR.out.size (by simp)
      have hnl2 := HNL1.out.frm hf1 (Nat.le_refl _)
      clear hf1 K1 HFR HSU HNL1 d0 c1'
      have HFR := Lib.hid hfr
      have KB := Lib.hid kB
      have HNL1 := Lib.hid hnl2
      clear hnl2 kB hfr
      go_wp2_with fail
      go_loopw [9] (fun s9 wr => ∃ j : Nat, s9 = .int .i64 j ∧ j ≤ l1 ∧ (∀ k', k' < j → ∀ g : Nat, st.need.getD k' 0 = (g : Int) → sureN P i g = true) ∧ wr = w7) (fun s9 _ => l1 - (intOf s9).toNat)
      case atStart => exact ⟨0, rfl, Nat.zero_le _, fun j hj => absurd hj (by omega), rfl⟩
      case round =>
        obtain ⟨j, rfl, hj, hyes, hww⟩ := hrel
        have hww' := hww.symm
        subst hww'
        by_cases hjl : j < l1
        rotate_left
        · have hjl' : ¬ (j : Int) < (l1 : Int) := by omega
          have hbn : badF P i = none := bad_none HNEED.out (fun k' hk' g hg => hyes k' (by have := HL1.out; omega) g hg)
          have hno2 : ∀ t, t < i + 1 → badF P t = none := fun t ht => by
            rcases Nat.lt_or_ge t i with h | h
            · exact HNO.out t h
            · obtain rfl : t = i := by omega
              exact hbn
          clear hyes hbn
          have HNO2 := Lib.hid hno2
          clear hno2
          go_wp2_with fail
          (try simp only [x4, x5])
          exact ⟨⟨i + 1, by simp, hin, HNO2.out, HFR.out⟩, HMS2.out⟩
        have hjl' : (j : Int) < (l1 : Int) := by omega
        have hjs : j < st.need.length := by have := HL1.out; omega
        obtain ⟨z4, z5⟩ := wrapUp hjl hll
        have hms3 := meas_up hjl
        have hax := HNL1.out.ad (Nat.lt_of_le_of_lt (Nat.zero_le _) hjl)
        obtain ⟨f, hf, hf16⟩ := numL_in HNEED.out hjs
        have e3 : w7.cell? ⟨x.need.b, x.need.off + j, none⟩ = some (.int .i64 (f : Int)) := by rw [← hf]; exact HNL1.out.cellI hjl
        have e4 : w7.cell? ⟨B, f, none⟩ = some (.bool (sureN P i f)) := by rw [KB.out.cell f]; exact boolsC_at hf16
        have hk0 : ¬ (f : Int) < 0 := by omega
        have hk16 : (f : Int) < 16 := by omega
        have hxn : x.need.ad = some ⟨x.need.b, x.need.off, none⟩ := hax
        rw [hxn]
        cases hs : sureN P i f
        · have hbd : badF P i = some f := bad_at HNEED.out hjs hf hf16 hyes hs
          have hres := soundIs_b HP.out HIP.out HNO.out hbd
          rw [hs] at e4
          have hf2 := HF.out.call HFR.out HF.out.size (by simp)
          clear hyes hbd hs hf hax hxn hjs
          have hfx : ∀ V, Frm w7.heap.size [] w7 V → V.cell? ⟨x.need.b, x.need.off + j, none⟩ = some (.int .i64 (f : Int)) ∧ True := fun V hV => ⟨(hV.cell (by have := cell_lt e3; simpa using this) (by simp)).trans e3, trivial⟩
          have HRES := Lib.hid hres
          have HF2 := Lib.hid hf2
          have HFX := Lib.hid hfx
          have HMS3 := Lib.hid hms3
          clear hms3 hfx hf2 hres
          go_upto_region 13 with fail
          clear e3 e4
          refine wp_region_leftL (fun V => Frm w7.heap.size [] w7 V) 1000 (by kernel_rfl) ?_
          have hS : Frm w7.heap.size [] w7 w7.drew := (Frm.refl _ _ w7).drew
          have HS := Lib.hid hS
          clear hS
          first | ((first | refine LeftL.tkF (v := ?_) 0 rfl HS.out ?_ ?_ | refine LeftL.tkG (v := ?_) 0 rfl HS.out ?_ ?_); rotate_left; (· intro V hV; obtain ⟨q0, q1⟩ := HFX.out V hV; clear hV; go_simp; rfl)) | refine LeftL.tkN 0 rfl HS.out ?_
          (intro K' hK'; go_simp; refine hK' _ ?_; clear hK' K')
          first | ((first | refine LeftL.tkF (v := ?_) 1 rfl HS.out ?_ ?_ | refine LeftL.tkG (v := ?_) 1 rfl HS.out ?_ ?_); rotate_left; (· intro V hV; obtain ⟨q0, q1⟩ := HFX.out V hV; clear hV; go_simp; rfl)) | refine LeftL.tkN 1 rfl HS.out ?_
          (intro K' hK'; go_simp; refine hK' _ ?_; clear hK' K')
          first | ((first | refine LeftL.tkF (v := ?_) 2 rfl HS.out ?_ ?_ | refine LeftL.tkG (v := ?_) 2 rfl HS.out ?_ ?_); rotate_left; (· intro V hV; obtain ⟨q0, q1⟩ := HFX.out V hV; clear hV; go_simp; rfl)) | refine LeftL.tkN 2 rfl HS.out ?_
          (intro K' hK'; go_simp; refine hK' _ ?_; clear hK' K')
          first | ((first | refine LeftL.tkF (v := ?_) 3 rfl HS.out ?_ ?_ | refine LeftL.tkG (v := ?_) 3 rfl HS.out ?_ ?_); rotate_left; (· intro V hV; obtain ⟨q0, q1⟩ := HFX.out V hV; clear hV; go_simp; rfl)) | refine LeftL.tkN 3 rfl HS.out ?_
          (intro K' hK'; go_simp; refine hK' _ ?_; clear hK' K')
          first | ((first | refine LeftL.tkF (v := ?_) 4 rfl HS.out ?_ ?_ | refine LeftL.tkG (v := ?_) 4 rfl HS.out ?_ ?_); rotate_left; (· intro V hV; obtain ⟨q0, q1⟩ := HFX.out V hV; clear hV; go_simp; rfl)) | refine LeftL.tkN 4 rfl HS.out ?_
          (intro K' hK'; go_simp; refine hK' _ ?_; clear hK' K')
          first | ((first | refine LeftL.tkF (v := ?_) 5 rfl HS.out ?_ ?_ | refine LeftL.tkG (v := ?_) 5 rfl HS.out ?_ ?_); rotate_left; (· intro V hV; obtain ⟨q0, q1⟩ := HFX.out V hV; clear hV; go_simp; rfl)) | refine LeftL.tkN 5 rfl HS.out ?_
          (intro K' hK'; go_simp; refine hK' _ ?_; clear hK' K')
          first | ((first | refine LeftL.tkF (v := ?_) 6 rfl HS.out ?_ ?_ | refine LeftL.tkG (v := ?_) 6 rfl HS.out ?_ ?_); rotate_left; (· intro V hV; obtain ⟨q0, q1⟩ := HFX.out V hV; clear hV; go_simp; rfl)) | refine LeftL.tkN 6 rfl HS.out ?_
          (intro K' hK'; go_simp; refine hK' _ ?_; clear hK' K')
          first | ((first | refine LeftL.tkF (v := ?_) 7 rfl HS.out ?_ ?_ | refine LeftL.tkG (v := ?_) 7 rfl HS.out ?_ ?_); rotate_left; (· intro V hV; obtain ⟨q0, q1⟩ := HFX.out V hV; clear hV; go_simp; rfl)) | refine LeftL.tkN 7 rfl HS.out ?_
          (intro K' hK'; go_simp; refine hK' _ ?_; clear hK' K')
          refine LeftL.done (by kernel_rfl) ?_
          have hf3 := HF2.out.call HS.out HF2.out.size (by simp)
          clear HS HFX HF2
          have HF2 := Lib.hid hf3
          clear hf3
          go_wp2_with fail
          refine bodyPost_ret (v := .tuple #[.int .i64 (i : Int), .int .i64 (f : Int), .int .i64 9]) (by simp [results, Tryd.results42, go_sem]) rfl ?_
          exact ⟨HRES.out, HF2.out⟩
        · have hyes2 : ∀ k', k' < j + 1 → ∀ g : Nat, st.need.getD k' 0 = (g : Int) → sureN P i g = true := fun k' hk' g hg => by
            rcases Nat.lt_or_ge k' j with h | h
            · exact hyes k' h g hg
            · obtain rfl : k' = j := by omega
              obtain rfl : g = f := by rw [hf] at hg; omega
              exact hs
          rw [hs] at e4
          clear hyes hs hf hax hxn hjs
          have HYES := Lib.hid hyes2
          have HMS3 := Lib.hid hms3
          have HJL := Lib.hid hjl
          clear hjl hms3 hyes2
          go_wp2_with fail
          (try simp only [z4, z5])
          exact ⟨⟨j + 1, by simp, HJL.out, HYES.out, trivial⟩, HMS3.out⟩
end Go.Proofs.YtfmigicmfolbjaaDoor
