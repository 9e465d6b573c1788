/-
  In any row each need is met, and what ends holds behind it: the walk.
-/
import Derived.Test.YtfmigicmfolbjaaDoorN3
import Derived.Test.YtfmigicmfolbjaaDoorP4
namespace Go.Proofs.YtfmigicmfolbjaaDoor
set_option linter.all false
set_option linter.unusedSimpArgs false
set_option linter.unusedVariables false
open Go.ChangeShapes Go.WideShapes Go.ChangeAt Go.RowKit

theorem SoundIs.two {R : Raw} {P : PL} {e : Ending} (h : SoundIs R e) (hP : plannedO R = some P) : (soundO P = none ∧ e = .returned (.tuple #[.int .i64 (-1), .int .i64 (-1), .int .i64 0])) ∨ ∃ i f : Nat, e = .returned (.tuple #[.int .i64 (i : Int), .int .i64 (f : Int), .int .i64 9]) := by
  unfold SoundIs at h
  rw [hP] at h
  dsimp only at h
  split at h
  · rename_i h1; exact .inl ⟨h1, h⟩
  · exact .inr ⟨_, _, h⟩
theorem EndsIs.two {R : Raw} {P : PL} {w w' : World} {e : Ending} (h : EndsIs R w w' e) (hP : plannedO R = some P) : ∃ ad b off cap, e = .returned (.tuple #[.slice ad (endsL P 16).length cap, .int .i64 0]) ∧ RwI w' ad b off (endsL P 16).length (at0 (endsL P 16)) := by
  unfold EndsIs at h
  rw [hP] at h
  obtain ⟨v, own, h1, h2, _⟩ := h
  obtain ⟨ad, b, off, cap, rfl, hr⟩ := ints_at0 h2
  exact ⟨ad, b, off, cap, h1, hr⟩
theorem bytesAt_of {W : World} {ad : Option Addr} {b off n : Nat} {T : Nat → Int} (h : Rw W 1 ad b off n fun i => [.int .u8 (T i)]) (hT : ∀ i, i < n → 0 ≤ T i ∧ T i ≤ 255) : BytesAt W ad b off n (fun i => (T i).toNat) := by
  refine ⟨⟨h.ad, h.len, fun i hi k v hv => h.at_ i hi k v ?_⟩, fun i hi => by have := hT i hi; omega⟩
  have e : ((T i).toNat : Int) = T i := by have := hT i hi; omega
  rw [← e]
  exact hv
theorem stopI_none : ∀ l : List Nat, stopI (-1) l = l
  | [] => rfl
  | x :: l => by
    have ih := stopI_none l
    unfold stopI at ih ⊢
    have h2 : ¬ (x : Int) = -1 := by omega
    rw [List.takeWhile_cons_of_pos (by simp [h2]), ih]
theorem stopI_nat (i : Nat) : ∀ l : List Nat, stopI (i : Int) l = beforeI i l
  | [] => rfl
  | x :: l => by
    have ih := stopI_nat i l
    unfold stopI beforeI at ih ⊢
    by_cases h : x = i
    · subst h; simp
    · have h2 : ¬ (x : Int) = (i : Int) := by omega
      rw [List.takeWhile_cons_of_pos (by simp [h2]), List.takeWhile_cons_of_pos (by simp [h]), ih]
theorem ends_met {R : Raw} {P : PL} (hP : plannedO R = some P) {r : List Nat} (hr : IsRow P.n P.behind r) {i : Nat} (hi : i < (endsL P 16).length) : (endsL P 16).getD i 0 < 16 ∧ P.holds ((endsL P 16).getD i 0) r = true := by
  have hm : (endsL P 16).getD i 0 ∈ endsL P 16 := by simp [List.getD_eq_getElem?_getD, hi]
  have h2 := List.mem_filter.1 (show _ ∈ (List.range 16).filter (endsB P) from hm)
  exact ⟨by simpa using h2.1, (ends_rows hP).1 h2.2 r hr⟩
theorem needs_met {R : Raw} {P : PL} (hP : plannedO R = some P) (hs : soundO P = none) {r : List Nat} (hr : IsRow P.n P.behind r) {i : Nat} (hi : i < R.steps.length) {j : Nat} (hj : j < (R.steps.getD i rs0).need.length) : ∃ f : Nat, (R.steps.getD i rs0).need.getD j 0 = (f : Int) ∧ f < 16 ∧ P.holds f (beforeI i r) = true := by
  have hn := planned_len hP
  have h1 := (planned_step hP hi).1
  obtain ⟨f, hf, hf16⟩ := numL_in h1 hj
  refine ⟨f, hf, hf16, ?_⟩
  have hb : (P.need i).testBit f = true := ((numL_bit h1).1 f).2 ⟨j, hj, hf⟩
  exact (sure_rows hP (by omega)).1 (sound_iff.1 hs i (by omega) f hf16 hb) r hr
set_option maxRecDepth 100000 in
set_option maxHeartbeats 16000000 in
theorem orders_walk (q : RPos) (R : Raw) (yad : Option Addr) (yb yo yn yc : Nat) (T : Nat → Nat) (w : World) (hr : RawAt w q R) (hy : BytesAt w yad yb yo yn T) (hg : Glob w) :
    Calls Tryd.prog 9 #[.agg (rawC q R).toArray, .slice yad yn yc] w fun e w' => e = .returned (.bool true) ∧ Frm w.heap.size [] w w' := by
  have hf0 := Tryd.func9
  obtain ⟨n, hn⟩ : ∃ n, n = R.steps.length := ⟨_, rfl⟩
  obtain ⟨m, hm⟩ : ∃ n, n = R.edges.length := ⟨_, rfl⟩
  have hraw : rawC q R = [q.s.v R.starts, .slice q.sa n q.sc, .slice q.ea m q.ec] := by rw [hn, hm]; rfl
  have hnl : n ≤ maxLen := by rw [hn]; exact hr.steps.row.len
  have HG := Lib.hid hg
  have HR := Lib.hid hr
  have HN := Lib.hid hn
  have HM := Lib.hid hm
  have HRAW := Lib.hid hraw
  have HY := Lib.hid hy
  clear hy hraw hm hn hr hg
  go_enter Tryd.func9, Tryd.ntmps9
  go_upto_region 1 with fail
  refine namedC ?_; intro W hW
  obtain ⟨c, hc⟩ : ∃ c, c = w.heap.size := ⟨_, rfl⟩
  have k0 : Blk W c 66 (rawC q R) := by rw [hW, hc]; exact Blk.new w 66 (rawC q R)
  have hf : Frm w.heap.size [] w W := by rw [hW]; repeat (first | with_reducible exact Frm.refl _ _ _ | with_reducible refine Frm.drewN ?_ | with_reducible refine Frm.drew ?_ | ((with_reducible refine Frm.setCell' ?_ ?_); · first | (left; simp; done) | (right; simp; done) | (right; simp; omega)) | ((with_reducible refine Frm.alloc' ?_ ?_); · first | exact Nat.le_refl _ | (simp; done) | (simp; omega)))
  clear hW hf0
  rw [← hc]
  clear hc
  have hlo : (loadVar 66 ⟨c, 0, none⟩).run Tryd.prog W = .ok (.agg (rawC q R).toArray) W := load_raw k0
  have K0 := Lib.hid k0
  have HF := Lib.hid hf
  have HLO := Lib.hid hlo
  clear hlo hf k0
  go_wp2_with (with_reducible refine atLoad 66 rfl ?_; refine wpList_loadE rfl rfl rfl HLO.out ?_)
  refine (great_any q R W (HR.out.frm HF.out (Nat.le_refl _))).mono ?_; rintro e w1 ⟨hgr, hf1⟩
  obtain ⟨g, rfl, hgm⟩ := hgr
  have k0 := hf1.blk K0.out K0.out.lt (by simp)
  have hf := HF.out.call hf1 HF.out.size (by simp)
  have hlo : (loadVar 66 ⟨c, 0, none⟩).run Tryd.prog w1 = .ok (.agg (rawC q R).toArray) w1 := load_raw k0
  clear hf1 K0 HF HLO hgm
  cases g
  rotate_left
  · clear k0 hlo
    have HF := Lib.hid hf
    clear hf
    go_wp2_with (go_at_call 18; refine (awake_any _ (HG.out.frm HF.out (Nat.le_refl _))).mono ?_; rintro e9 w9 ⟨rfl, hf9⟩; replace HF := Lib.hid (HF.out.call hf9 HF.out.size (by simp)); clear hf9)
    go_ret
    exact ⟨rfl, HF.out⟩
  have K0 := Lib.hid k0
  have HF := Lib.hid hf
  have HLO := Lib.hid hlo
  clear hlo hf k0
  go_wp2_with (with_reducible refine atLoad 66 rfl ?_; refine wpList_loadGE rfl rfl rfl HLO.out ?_)
  refine (refCheck_any q R w1 (HR.out.frm HF.out (Nat.le_refl _))).mono ?_; rintro e w2 ⟨rfl, hf1⟩
  have k0 := hf1.blk K0.out K0.out.lt (by simp)
  have hf := HF.out.call hf1 HF.out.size (by simp)
  have hlo : (loadVar 66 ⟨c, 0, none⟩).run Tryd.prog w2 = .ok (.agg (rawC q R).toArray) w2 := load_raw k0
  clear hf1 K0 HF HLO
  cases hP : plannedO R with
  | none =>
    clear k0 hlo hP
    have HF := Lib.hid hf
    clear hf
    go_wp2_with (go_at_call 18; refine (awake_any _ (HG.out.frm HF.out (Nat.le_refl _))).mono ?_; rintro e9 w9 ⟨rfl, hf9⟩; replace HF := Lib.hid (HF.out.call hf9 HF.out.size (by simp)); clear hf9)
    go_ret
    exact ⟨rfl, HF.out⟩
  | some P =>
    have K0 := Lib.hid k0
    have HF := Lib.hid hf
    have HLO := Lib.hid hlo
    have HP := Lib.hid hP
    clear hP hlo hf k0
    go_wp2_with (with_reducible refine atLoad 66 rfl ?_; refine wpList_loadE rfl rfl rfl HLO.out ?_)
    refine (sound_any q R w2 (HR.out.frm HF.out (Nat.le_refl _)) (HG.out.frm HF.out (Nat.le_refl _))).mono ?_; rintro e w3 ⟨hso, hf1⟩
    have k0 := hf1.blk K0.out K0.out.lt (by simp)
    have hf := HF.out.call hf1 HF.out.size (by simp)
    have hlo : (loadVar 66 ⟨c, 0, none⟩).run Tryd.prog w3 = .ok (.agg (rawC q R).toArray) w3 := load_raw k0
    clear hf1 K0 HF HLO
    have K0 := Lib.hid k0
    have HF := Lib.hid hf
    have HLO := Lib.hid hlo
    clear hlo hf k0
    rcases hso.two HP.out with ⟨hs, rfl⟩ | ⟨zi, zf, rfl⟩
    · have HS := Lib.hid hs
      clear hs
      go_wp2_with (with_reducible refine atLoad 66 rfl ?_; refine wpList_loadE rfl rfl rfl HLO.out ?_)
      refine (ends_any q R w3 (HR.out.frm HF.out (Nat.le_refl _)) (HG.out.frm HF.out (Nat.le_refl _))).mono ?_; rintro e w4 ⟨hen, hf1⟩
      obtain ⟨ad8, b8, off8, cap8, rfl, hr8⟩ := hen.two HP.out
      obtain ⟨n8, hn8⟩ : ∃ n, n = (endsL P 16).length := ⟨_, rfl⟩
      rw [← hn8] at hr8 ⊢
      have k0 := hf1.blk K0.out K0.out.lt (by simp)
      have hf := HF.out.call hf1 HF.out.size (by simp)
      have hlo : (loadVar 66 ⟨c, 0, none⟩).run Tryd.prog w4 = .ok (.agg (rawC q R).toArray) w4 := load_raw k0
      clear hf1 hen K0 HF HLO
      have K0 := Lib.hid k0
      have HF := Lib.hid hf
      have HLO := Lib.hid hlo
      have HR8 := Lib.hid hr8
      have HN8 := Lib.hid hn8
      clear hn8 hr8 hlo hf k0
      go_wp2_with (with_reducible refine atLoad 66 rfl ?_; refine wpList_loadE rfl rfl rfl HLO.out ?_)
      refine (order_any q R P HP.out yad yb yo yn yc T w4 (HR.out.frm HF.out (Nat.le_refl _)) (HY.out.frm HF.out (Nat.le_refl _))).mono ?_; rintro e w5 ⟨hor, hf1⟩
      obtain ⟨row, v10, own10, rfl, hs10, hrow⟩ := hor
      obtain ⟨ad10, b10, off10, cap10, rfl, hr10⟩ := ints_at0 hs10
      obtain ⟨n10, hn10⟩ : ∃ n, n = row.length := ⟨_, rfl⟩
      rw [← hn10] at hr10 ⊢
      have k0 := hf1.blk K0.out K0.out.lt (by simp)
      have hf := HF.out.call hf1 HF.out.size (by simp)
      have hr8 := HR8.out.frm hf1 (Nat.le_refl _)
      have hlo : (loadVar 66 ⟨c, 0, none⟩).run Tryd.prog w5 = .ok (.agg (rawC q R).toArray) w5 := load_raw k0
      have hrlt : ∀ i, i < row.length → row.getD i 0 < P.n := fun i hi => hrow.1.lt _ (by simp [List.getD_eq_getElem?_getD, hi])
      clear hf1 K0 HF HLO HR8 hs10
      have K0 := Lib.hid k0
      have HF := Lib.hid hf
      have HLO := Lib.hid hlo
      have HR8 := Lib.hid hr8
      have HR10 := Lib.hid hr10
      have HN10 := Lib.hid hn10
      have HROW := Lib.hid hrow
      have HRLT := Lib.hid hrlt
      clear hrlt hrow hn10 hr10 hr8 hlo hf k0
      go_wp2_with (with_reducible refine atLoad 66 rfl ?_; refine wpList_loadE rfl rfl rfl HLO.out ?_)
      have hdo := done_any q R P HP.out row HRLT.out ad10 b10 off10 cap10 (-1) w5 (HR.out.frm HF.out (Nat.le_refl _)) (by rw [← HN10.out]; exact HR10.out)
      rw [stopI_none, ← HN10.out] at hdo
      refine hdo.mono ?_; rintro e w6 ⟨B, rfl, kB, hB5, hf1⟩
      have k0 := hf1.blk K0.out K0.out.lt (by simp)
      have hf := HF.out.call hf1 HF.out.size (by simp)
      have hr8 := HR8.out.frm hf1 (Nat.le_refl _)
      have hr10 := HR10.out.frm hf1 (Nat.le_refl _)
      have hl8 := hr8.len
      have hem : ∀ i, i < n8 → ∃ f : Nat, at0 (endsL P 16) i = (f : Int) ∧ f < 16 ∧ P.holds f row = true := fun i hi => ⟨_, rfl, ends_met HP.out HROW.out (by rw [← HN8.out]; exact hi)⟩
      clear hf1 hdo K0 HF HLO HR8 HR10 hB5
      have K0 := Lib.hid k0
      have HF := Lib.hid hf
      have HR8 := Lib.hid hr8
      have HR10 := Lib.hid hr10
      have KB := Lib.hid kB
      have HL8 := Lib.hid hl8
      have HEM := Lib.hid hem
      clear hem hl8 kB hr10 hr8 hf k0
      go_wp2_with fail
      -- what ends
      go_loopw [12] (fun s12 wr => ∃ i : Nat, s12 = .int .i64 i ∧ i ≤ n8 ∧ wr = w6) (fun s12 _ => n8 - (intOf s12).toNat)
      case atStart => exact ⟨0, rfl, Nat.zero_le _, rfl⟩
      case round =>
        obtain ⟨i, rfl, hi, hww⟩ := hrel
        have hww' := hww.symm
        subst hww'
        by_cases hi8 : i < n8
        · have hin' : (i : Int) < (n8 : Int) := by omega
          obtain ⟨y4, y5⟩ := wrapUp hi8 HL8.out
          have hms := meas_up hi8
          have had := HR8.out.ad (by omega)
          subst had
          obtain ⟨f, hf1, hf2, hf3⟩ := HEM.out i hi8
          have c8 : w6.cell? ⟨b8, off8 + i, none⟩ = some (.int .i64 (f : Int)) := by rw [← hf1]; exact HR8.out.cellI hi8
          have cB : w6.cell? ⟨B, f, none⟩ = some (.bool true) := by rw [← hf3, KB.out.cell f]; exact boolsC_at hf2
          have hk0 : ¬ (f : Int) < 0 := by omega
          have hk15 : ¬ (15 : Int) < (f : Int) := by omega
          have hk16 : (f : Int) < 16 := by omega
          have dk0 : decide ((f : Int) < 0) = false := decide_eq_false hk0
          have dk15 : decide ((15 : Int) < (f : Int)) = false := decide_eq_false hk15
          clear hf1 hf3
          have HI8 := Lib.hid hi8
          have HMS := Lib.hid hms
          have HF2 := Lib.hid hf2
          clear hf2 hms hi8
          go_wp2_with fail
          (try simp only [y4, y5])
          exact ⟨⟨i + 1, by simp, HI8.out, trivial⟩, HMS.out⟩
        · have hin' : ¬ (i : Int) < (n8 : Int) := by omega
          obtain rfl : i = n8 := by omega
          go_wp2_with fail
          -- each need
          go_loopw [13] (fun s13 wr => ∃ i : Nat, s13 = .int .i64 i ∧ i ≤ n ∧ Frm w6.heap.size [] w6 wr) (fun s13 _ => n - (intOf s13).toNat)
          case atStart => exact ⟨0, rfl, Nat.zero_le _, Frm.refl _ _ _⟩
          case round =>
            obtain ⟨i, rfl, hi, hfr⟩ := hrel
            have k1 := hfr.blk K0.out K0.out.lt (by simp)
            have c1 : wr.cell? ⟨c, 1, none⟩ = some (.slice q.sa n q.sc) := by rw [HRAW.out] at k1; exact k1.cell 1
            by_cases hin : i < n
            rotate_left
            · have hin' : ¬ (i : Int) < (n : Int) := by omega
              have din : decide ((i : Int) < (n : Int)) = false := by simp; omega
              have hf := HF.out.call hfr HF.out.size (by simp)
              clear k1 hfr HF
              have HF := Lib.hid hf
              clear hf
              go_wp2_with (go_at_call 18; refine (awake_any _ (HG.out.frm HF.out (Nat.le_refl _))).mono ?_; rintro e9 w9 ⟨rfl, hf9⟩; replace HF := Lib.hid (HF.out.call hf9 HF.out.size (by simp)); clear hf9)
              go_ret
              exact ⟨rfl, HF.out⟩
            have hin' : (i : Int) < (n : Int) := by omega
            have din : decide ((i : Int) < (n : Int)) = true := by simp; omega
            have hiR : i < R.steps.length := by have := HN.out; omega
            obtain ⟨x4, x5⟩ := wrapUp hin hnl
            have hms2 := meas_up hin
            have hlo : (loadVar 66 ⟨c, 0, none⟩).run Tryd.prog wr = .ok (.agg (rawC q R).toArray) wr := load_raw k1
            have hf := HF.out.call hfr HF.out.size (by simp)
            have hdo := done_any q R P HP.out row HRLT.out ad10 b10 off10 cap10 (i : Int) wr (HR.out.frm hf (Nat.le_refl _)) (by rw [← HN10.out]; exact HR10.out.frm hfr (Nat.le_refl _))
            rw [stopI_nat, ← HN10.out] at hdo
            have hst := (HR.out.frm hf (Nat.le_refl _)).steps
            have had3 := hst.row.ad (by omega)
            obtain ⟨st, hsteq⟩ : ∃ r, r = R.steps.getD i rs0 := ⟨_, rfl⟩
            obtain ⟨x, hx⟩ : ∃ r, r = q.X i := ⟨_, rfl⟩
            obtain ⟨l1, hl1⟩ : ∃ l, l = st.need.length := ⟨_, rfl⟩
            have hnl1 := (hst.each i hiR).need
            rw [← hsteq, ← hx] at hnl1
            unfold IntsAt at hnl1
            rw [← hl1] at hnl1
            have hll := hnl1.len
            have hnm : ∀ j, j < l1 → ∃ f : Nat, st.need.getD j 0 = (f : Int) ∧ f < 16 ∧ P.holds f (beforeI i row) = true := fun j hj => by
              rw [hsteq]; exact needs_met HP.out HS.out HROW.out hiR (by rw [← hsteq, ← hl1]; exact hj)
            have d0 : wr.cell? ⟨q.sb, q.so + i * 3, none⟩ = some (.slice x.need.ad l1 x.need.cap) := by
              rw [hl1, hsteq, hx]; have := hst.row.at_ i hiR 0 _ rfl; rw [Nat.add_zero] at this; exact this
            clear hst hf hsteq hx
            have K1 := Lib.hid k1
            have HFR := Lib.hid hfr
            have HLO := Lib.hid hlo
            have HDO := Lib.hid hdo
            have HNM := Lib.hid hnm
            have HNL1 := Lib.hid hnl1
            have D0 := Lib.hid d0
            have HL1 := Lib.hid hl1
            have HMS2 := Lib.hid hms2
            clear hms2 hl1 d0 hnl1 hnm hdo hlo hfr k1
            go_wp2_with (with_reducible refine atLoad 66 rfl ?_; refine wpList_loadE rfl rfl rfl HLO.out ?_)
            refine HDO.out.mono ?_; rintro e w7 ⟨B2, rfl, kB2, _, hf1⟩
            have k2 := hf1.blk K1.out K1.out.lt (by simp)
            have hfr := HFR.out.call hf1 HFR.out.size (by simp)
            have e1 : w7.cell? ⟨c, 1, none⟩ = some (.slice (some ⟨q.sb, q.so, none⟩) n q.sc) := by rw [HRAW.out] at k2; rw [← had3]; exact k2.cell 1
            have e2 : w7.cell? ⟨q.sb, q.so + i * 3, none⟩ = some (.slice x.need.ad l1 x.need.cap) := (hf1.cell (by have := cell_lt D0.out; simpa using this) (by simp)).trans D0.out
            have hnl2 := HNL1.out.frm hf1 (Nat.le_refl _)
            clear hf1 K1 HFR HLO HDO D0 HNL1 k2 c1
            have HFR := Lib.hid hfr
            have KB2 := Lib.hid kB2
            have HNL1 := Lib.hid hnl2
            clear hnl2 kB2 hfr
            go_wp2_with fail
            go_loopw [15] (fun s15 wr => ∃ j : Nat, s15 = .int .i64 j ∧ j ≤ l1 ∧ wr = w7) (fun s15 _ => l1 - (intOf s15).toNat)
            case atStart => exact ⟨0, rfl, Nat.zero_le _, rfl⟩
            case round =>
              obtain ⟨j, rfl, hj, hww⟩ := hrel
              have hww' := hww.symm
              subst hww'
              by_cases hjl : j < l1
              · have hjl' : (j : Int) < (l1 : Int) := by omega
                obtain ⟨z4, z5⟩ := wrapUp hjl hll
                have hms3 := meas_up hjl
                have hax := HNL1.out.ad (Nat.lt_of_le_of_lt (Nat.zero_le _) hjl)
                rw [hax] at e2
                obtain ⟨f, hf1, hf2, hf3⟩ := HNM.out j hjl
                have e3 : w7.cell? ⟨x.need.b, x.need.off + j, none⟩ = some (.int .i64 (f : Int)) := by rw [← hf1]; exact HNL1.out.cellI hjl
                have e4 : w7.cell? ⟨B2, f, none⟩ = some (.bool true) := by rw [← hf3, KB2.out.cell f]; exact boolsC_at hf2
                have hk0 : ¬ (f : Int) < 0 := by omega
                have hk16 : (f : Int) < 16 := by omega
                clear hf1 hf3 hax
                have HJL := Lib.hid hjl
                have HMS3 := Lib.hid hms3
                have HF2 := Lib.hid hf2
                clear hf2 hms3 hjl
                go_wp2_with fail
                (try simp only [z4, z5])
                exact ⟨⟨j + 1, by simp, HJL.out, trivial⟩, HMS3.out⟩
              · have hjl' : ¬ (j : Int) < (l1 : Int) := by omega
                go_wp2_with fail
                (try simp only [x4, x5])
                exact ⟨⟨i + 1, by simp, hin, HFR.out⟩, HMS2.out⟩
    · go_wp2_with (with_reducible refine atLoad 66 rfl ?_; refine wpList_loadE rfl rfl rfl HLO.out ?_)
      refine (ends_any q R w3 (HR.out.frm HF.out (Nat.le_refl _)) (HG.out.frm HF.out (Nat.le_refl _))).mono ?_; rintro e w4 ⟨hen, hf1⟩
      obtain ⟨ad8, b8, off8, cap8, rfl, hr8⟩ := hen.two HP.out
      obtain ⟨n8, hn8⟩ : ∃ n, n = (endsL P 16).length := ⟨_, rfl⟩
      rw [← hn8] at hr8 ⊢
      have k0 := hf1.blk K0.out K0.out.lt (by simp)
      have hf := HF.out.call hf1 HF.out.size (by simp)
      have hlo : (loadVar 66 ⟨c, 0, none⟩).run Tryd.prog w4 = .ok (.agg (rawC q R).toArray) w4 := load_raw k0
      clear hf1 hen K0 HF HLO
      have K0 := Lib.hid k0
      have HF := Lib.hid hf
      have HLO := Lib.hid hlo
      have HR8 := Lib.hid hr8
      have HN8 := Lib.hid hn8
      clear hn8 hr8 hlo hf k0
      go_wp2_with (with_reducible refine atLoad 66 rfl ?_; refine wpList_loadE rfl rfl rfl HLO.out ?_)
      refine (order_any q R P HP.out yad yb yo yn yc T w4 (HR.out.frm HF.out (Nat.le_refl _)) (HY.out.frm HF.out (Nat.le_refl _))).mono ?_; rintro e w5 ⟨hor, hf1⟩
      obtain ⟨row, v10, own10, rfl, hs10, hrow⟩ := hor
      obtain ⟨ad10, b10, off10, cap10, rfl, hr10⟩ := ints_at0 hs10
      obtain ⟨n10, hn10⟩ : ∃ n, n = row.length := ⟨_, rfl⟩
      rw [← hn10] at hr10 ⊢
      have k0 := hf1.blk K0.out K0.out.lt (by simp)
      have hf := HF.out.call hf1 HF.out.size (by simp)
      have hr8 := HR8.out.frm hf1 (Nat.le_refl _)
      have hlo : (loadVar 66 ⟨c, 0, none⟩).run Tryd.prog w5 = .ok (.agg (rawC q R).toArray) w5 := load_raw k0
      have hrlt : ∀ i, i < row.length → row.getD i 0 < P.n := fun i hi => hrow.1.lt _ (by simp [List.getD_eq_getElem?_getD, hi])
      clear hf1 K0 HF HLO HR8 hs10
      have K0 := Lib.hid k0
      have HF := Lib.hid hf
      have HLO := Lib.hid hlo
      have HR8 := Lib.hid hr8
      have HR10 := Lib.hid hr10
      have HN10 := Lib.hid hn10
      have HROW := Lib.hid hrow
      have HRLT := Lib.hid hrlt
      clear hrlt hrow hn10 hr10 hr8 hlo hf k0
      go_wp2_with (with_reducible refine atLoad 66 rfl ?_; refine wpList_loadE rfl rfl rfl HLO.out ?_)
      have hdo := done_any q R P HP.out row HRLT.out ad10 b10 off10 cap10 (-1) w5 (HR.out.frm HF.out (Nat.le_refl _)) (by rw [← HN10.out]; exact HR10.out)
      rw [stopI_none, ← HN10.out] at hdo
      refine hdo.mono ?_; rintro e w6 ⟨B, rfl, kB, hB5, hf1⟩
      have k0 := hf1.blk K0.out K0.out.lt (by simp)
      have hf := HF.out.call hf1 HF.out.size (by simp)
      have hr8 := HR8.out.frm hf1 (Nat.le_refl _)
      have hr10 := HR10.out.frm hf1 (Nat.le_refl _)
      have hl8 := hr8.len
      have hem : ∀ i, i < n8 → ∃ f : Nat, at0 (endsL P 16) i = (f : Int) ∧ f < 16 ∧ P.holds f row = true := fun i hi => ⟨_, rfl, ends_met HP.out HROW.out (by rw [← HN8.out]; exact hi)⟩
      clear hf1 hdo K0 HF HLO HR8 HR10 hB5
      have K0 := Lib.hid k0
      have HF := Lib.hid hf
      have HR8 := Lib.hid hr8
      have HR10 := Lib.hid hr10
      have KB := Lib.hid kB
      have HL8 := Lib.hid hl8
      have HEM := Lib.hid hem
      clear hem hl8 kB hr10 hr8 hf k0
      go_wp2_with fail
      -- what ends
      go_loopw [12] (fun s12 wr => ∃ i : Nat, s12 = .int .i64 i ∧ i ≤ n8 ∧ wr = w6) (fun s12 _ => n8 - (intOf s12).toNat)
      case atStart => exact ⟨0, rfl, Nat.zero_le _, rfl⟩
      case round =>
        obtain ⟨i, rfl, hi, hww⟩ := hrel
        have hww' := hww.symm
        subst hww'
        by_cases hi8 : i < n8
        · have hin' : (i : Int) < (n8 : Int) := by omega
          obtain ⟨y4, y5⟩ := wrapUp hi8 HL8.out
          have hms := meas_up hi8
          have had := HR8.out.ad (by omega)
          subst had
          obtain ⟨f, hf1, hf2, hf3⟩ := HEM.out i hi8
          have c8 : w6.cell? ⟨b8, off8 + i, none⟩ = some (.int .i64 (f : Int)) := by rw [← hf1]; exact HR8.out.cellI hi8
          have cB : w6.cell? ⟨B, f, none⟩ = some (.bool true) := by rw [← hf3, KB.out.cell f]; exact boolsC_at hf2
          have hk0 : ¬ (f : Int) < 0 := by omega
          have hk15 : ¬ (15 : Int) < (f : Int) := by omega
          have hk16 : (f : Int) < 16 := by omega
          have dk0 : decide ((f : Int) < 0) = false := decide_eq_false hk0
          have dk15 : decide ((15 : Int) < (f : Int)) = false := decide_eq_false hk15
          clear hf1 hf3
          have HI8 := Lib.hid hi8
          have HMS := Lib.hid hms
          have HF2 := Lib.hid hf2
          clear hf2 hms hi8
          go_wp2_with fail
          (try simp only [y4, y5])
          exact ⟨⟨i + 1, by simp, HI8.out, trivial⟩, HMS.out⟩
        · have hin' : ¬ (i : Int) < (n8 : Int) := by omega
          obtain rfl : i = n8 := by omega
          go_wp2_with fail
          go_loopw [13] (fun s13 wr => s13 = .int .i64 0 ∧ wr = w6) (fun s13 _ => 0)
          case atStart => exact ⟨rfl, rfl⟩
          case round =>
            obtain ⟨rfl, hww⟩ := hrel
            have hww' := hww.symm
            subst hww'
            have c1 : w6.cell? ⟨c, 1, none⟩ = some (.slice q.sa n q.sc) := by have := K0.out; rw [HRAW.out] at this; exact this.cell 1
            by_cases hin : 0 < n
            · have hin' : (0 : Int) < (n : Int) := by omega
              have din : decide ((0 : Int) < (n : Int)) = true := by simp; omega
              go_wp2_with (go_at_call 18; refine (awake_any _ (HG.out.frm HF.out (Nat.le_refl _))).mono ?_; rintro e9 w9 ⟨rfl, hf9⟩; replace HF := Lib.hid (HF.out.call hf9 HF.out.size (by simp)); clear hf9)
              go_ret
              exact ⟨rfl, HF.out⟩
            · have hin' : ¬ (0 : Int) < (n : Int) := by omega
              have din : decide ((0 : Int) < (n : Int)) = false := by simp; omega
              go_wp2_with (go_at_call 18; refine (awake_any _ (HG.out.frm HF.out (Nat.le_refl _))).mono ?_; rintro e9 w9 ⟨rfl, hf9⟩; replace HF := Lib.hid (HF.out.call hf9 HF.out.size (by simp)); clear hf9)
              go_ret
              exact ⟨rfl, HF.out⟩
/-! the row -/
set_option maxRecDepth 100000 in
theorem careOrders_lifted (os : Os) (started : os.Started) (H : Type) (enc : TypeId × Value → H) :
    ReturnsInHanded {} Tryd.checked os 9 .any (fun w args => (Rows.careOrdersSpec.pre enc Tryd.prog Tryd.f9 [] false w args ∧ laidMetH Tryd.prog laidR w) ∧ sizedMet enc Tryd.prog Tryd.f9 (OpenSpec.ofChange Rows.careOrdersSpec) false w args) (Rows.careOrdersSpec.post enc Tryd.prog Tryd.f9 false true false false) := by
  refine law_liftL (fn := Tryd.f9) (s := Rows.careOrdersSpec) started 2 (by kernel_rfl) Tryd.func9
      (ChangeSpec.witness_shaped (enc := enc) (C := Tryd.checked) (os := os) (X := fun w _ => laidMetH Tryd.prog laidR w) false (World.doorLaid Tryd.prog 400 os)
        #[.agg #[.slice none 0 0, .slice none 0 0, .slice none 0 0], .slice none 0 0] 8 rfl
        (World.shaped_of_RefB (by kernel_rfl) (by kernel_rfl)) (by kernel_rfl) (by kernel_rfl) (by kernel_rfl) (door_met os _))
      (by rw [Tryd.params9]; decide +kernel) (by rw [Tryd.params9]; rfl) (by kernel_rfl) rfl (fun ds h => by match ds, h with | [d1, d2], _ => rfl) ?_
  intro W base args ds ps hval hA hgl
  rw [Tryd.params9] at hA hval
  obtain ⟨v0, vs0, d0, ds0, p0, q0, hargs, rfl, rfl, h0, r0⟩ := trodAll_cons hA
  obtain ⟨v1, vs1, d1, ds1, p1, q1, rfl, rfl, rfl, h1, r1⟩ := trodAll_cons r0
  obtain ⟨rfl, rfl, rfl⟩ := trodAll_nil r1
  obtain rfl : args = #[v0, v1] := by cases args; simp_all
  obtain ⟨q, R, rfl, hr⟩ := open_plan (hval 0 66 v0 rfl rfl) h0
  obtain ⟨ad, len, cap, b, off, T, rfl, hrw, hT⟩ := open_u8s (hval 1 67 v1 rfl rfl) h1
  exact orders_walk q R ad b off len cap _ W hr (bytesAt_of hrw hT) hgl

theorem careOrders_over : Rows.CareOrdersSaid :=
  OpenClaim.holds_of_wide 9 Tryd.f9 rfl rfl rfl rfl rfl rfl rfl ⟨rfl, rfl, rfl, rfl, rfl⟩ rfl rfl rfl rfl rfl (by kernel_rfl) Tryd.func9 (by kernel_rfl)
    (of_decide_eq_true (by kernel_rfl)) (by unfold Func.isWrapper; first | (rw [if_pos (by decide +kernel)]; kernel_rfl) | (rw [if_neg (by decide +kernel)]; exact ⟨rfl, rfl⟩))
    (fun os started H enc _ => careOrders_lifted os started H enc)
end Go.Proofs.YtfmigicmfolbjaaDoor
