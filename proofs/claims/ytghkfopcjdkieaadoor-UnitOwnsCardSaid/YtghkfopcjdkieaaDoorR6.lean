/-
  The plan of a route, by the document.
-/
import Derived.Test.YtghkfopcjdkieaaDoorR5
namespace Go.Proofs.YtghkfopcjdkieaaDoor
set_option linter.all false
set_option linter.unusedSimpArgs false
set_option linter.unusedVariables false
open Go.RowKit

set_option maxRecDepth 100000 in
set_option maxHeartbeats 8000000 in
theorem refPlan1_any (u : UC) (since : Int) (g0 : GC) (ad : Option Addr) (b off n cap : Nat) (S : Nat → FC) (rad : Option Addr) (rb roff rn rcap : Nat) (R : Nat → WC) (w : World)
    (hr : Rw w 8 ad b off n fun i => (S i).cells) (hrr : Rw w 3 rad rb roff rn fun i => (R i).cells) (hS : ∀ i, i < n → frontB (S i) = true)
    (hu : UOK u) (hg : GOK g0) (hw : ∀ i, i < rn → wayB (R i) = true) (hs : 0 ≤ since ∧ since ≤ 1073741824) (hrn : rn ≤ 100000) :
    Calls Tryd.prog 63 #[.agg u.cells.toArray, .agg (goneC since g0).toArray, .slice rad rn rcap, .slice ad n cap] w fun e w' => Frm w.heap.size [] w w' ∧
      ((∃ ov own, e = .returned (.tuple #[ov, .int .i64 (-1), .int .i64 0, .int .i64 0]) ∧ Sl w' 49 8 ov (rn + 1) (legsC u R g0 rn ++ (homeLeg u (gsq u R g0 rn)).cells) own ∧ (∀ b, own = some b → w.heap.size ≤ b) ∧ ∀ i, i < rn → ysq u n S since R g0 i = 0) ∨
        ∃ i : Nat, i < rn ∧ (∀ k, k < i → ysq u n S since R g0 k = 0) ∧ ysq u n S since R g0 i ≠ 0 ∧ e = .returned (.tuple #[.slice none 0 0, .int .i64 i, .int .i64 (ysq u n S since R g0 i), .int .i64 9])) := by
  have hf0 := Tryd.func63
  have HR := Lib.hid hr
  have HRR := Lib.hid hrr
  have HSK := Lib.hid hS
  have HU := Lib.hid hu
  have HG := Lib.hid hg
  have HW := Lib.hid hw
  have HSI := Lib.hid hs
  have HRN := Lib.hid hrn
  clear hrn hs hw hg hu hS hrr hr
  go_enter Tryd.func63, Tryd.ntmps63
  go_upto_region 1 with fail
  refine namedC ?_; intro W hW
  obtain ⟨c, hc⟩ : ∃ c, c = w.heap.size := ⟨_, rfl⟩
  have hf : Frm w.heap.size [] w W := by rw [hW]; repeat (first | with_reducible exact Frm.refl _ _ _ | with_reducible refine Frm.drewN ?_ | with_reducible refine Frm.drew ?_ | ((with_reducible refine Frm.setCell' ?_ ?_); · first | (left; simp; done) | (right; simp; done) | (right; simp; omega)) | ((with_reducible refine Frm.alloc' ?_ ?_); · first | exact Nat.le_refl _ | (simp; done) | (simp; omega)))
  have hb4 : Blk W c 25 u.cells := by rw [hW, hc]; exact (Blk.new w 25 u.cells).alloc _
  have hb5 : Blk W (c + 1) 107 (goneC since g0) := by rw [hW, hc]; exact Blk.new' _ 107 (goneC since g0) (by simp)
  clear hW hf0
  rw [← hc]
  have HF := Lib.hid hf
  have HB4 := Lib.hid hb4
  have HB5 := Lib.hid hb5
  have HC := Lib.hid hc
  clear hc hb5 hb4 hf
  go_wp2_with fail
  go_loopw [12, 13] (fun s12 s13 wr => ∃ (j : Nat) (own : Option Nat), s13 = .int .i64 j ∧ j ≤ rn ∧ (∀ k, k < j → ysq u n S since R g0 k = 0) ∧ Sl wr 49 8 s12 j (legsC u R g0 j) own ∧ (∀ b, own = some b → c + 2 ≤ b) ∧ Blk wr c 25 u.cells ∧ Blk wr (c + 1) 107 (goneC since (gsq u R g0 j)) ∧ Frm w.heap.size [] w wr) (fun _ s13 _ => rn - (intOf s13).toNat)
  case atStart => exact ⟨0, none, rfl, Nat.zero_le _, fun k hk => by omega, Sl.nil _ _ _, fun b hb => (by cases hb), HB4.out, HB5.out, HF.out⟩
  case round =>
    obtain ⟨j, own, rfl, hj, hys, hsl, hown, hb4, hb5, hfr⟩ := hrel
    obtain ⟨oa, ocap, rfl⟩ := hsl.form
    obtain ⟨g, hg⟩ : ∃ g, g = gsq u R g0 j := ⟨_, rfl⟩
    have hgok : GOK g := by rw [hg]; exact gok_at HU.out HG.out j (fun i hi => HW.out i (by omega)) hys
    rw [← hg] at hb5
    have hlu : ∀ V, Frm wr.heap.size [] wr V → (loadVar 25 ⟨c, 0, none⟩).run Tryd.prog V = .ok (.agg u.cells.toArray) V := fun V hV => loadVarB (hV.blk hb4 hb4.lt (by simp)) (P := Tryd.prog) Tryd.underlying25 rfl info25
    have hrS : ∀ V, Frm wr.heap.size [] wr V → Rw V 8 ad b off n fun i => (S i).cells := fun V hV => HR.out.frm (hfr.call hV hfr.size (by simp)) (Nat.le_refl _)
    by_cases hjl : j < rn
    · have hjl' : (j : Int) < (rn : Int) := by omega
      have had := HRR.out.ad (by omega)
      subst had
      obtain ⟨wy, hwy⟩ : ∃ wy, wy = R j := ⟨_, rfl⟩
      have hwok : wayB wy = true := by rw [hwy]; exact HW.out j hjl
      have hlw : ∀ V, Frm wr.heap.size [] wr V → (loadVar 51 ⟨rb, roff + j * 3, none⟩).run Tryd.prog V = .ok (.agg wy.cells.toArray) V := fun V hV => by
        rw [hwy]; exact (HRR.out.frm (hfr.call hV hfr.size (by simp)) (Nat.le_refl _)).load (P := Tryd.prog) Tryd.underlying51 rfl hjl info51
      have hlg : ∀ V, Frm wr.heap.size [] wr V → (loadVar 107 ⟨c + 1, 0, none⟩).run Tryd.prog V = .ok (.agg (goneC since g).toArray) V := fun V hV => loadVarB (hV.blk hb5 hb5.lt (by simp)) (P := Tryd.prog) Tryd.underlying107 rfl info107
      have hfx : ∀ V, Frm wr.heap.size [] wr V → True := fun _ _ => trivial
      obtain ⟨y, hy⟩ : ∃ y, y = whyOf u n S since g wy := ⟨_, rfl⟩
      obtain ⟨lg, hlgg⟩ : ∃ lg, lg = legOf u g wy := ⟨_, rfl⟩
      have hysq : ysq u n S since R g0 j = y := by rw [hy, hg, hwy]; rfl
      have hlsq : lsq u R g0 j = lg := by rw [hlgg, hg, hwy]; rfl
      have hgsq : gsq u R g0 (j + 1) = goneTo lg := by rw [hlgg, hg, hwy]; rfl
      have HGE := Lib.hid hg
      have HGOK := Lib.hid hgok
      have HLU := Lib.hid hlu
      have HRS := Lib.hid hrS
      have HJL := Lib.hid hjl
      have HWYE := Lib.hid hwy
      have HWOK := Lib.hid hwok
      have HLW := Lib.hid hlw
      have HLG := Lib.hid hlg
      have HFX := Lib.hid hfx
      have HY := Lib.hid hy
      have HLGE := Lib.hid hlgg
      have HYSQ := Lib.hid hysq
      have HLSQ := Lib.hid hlsq
      have HGSQ := Lib.hid hgsq
      have HYS := Lib.hid hys
      have HSL := Lib.hid hsl
      have HOWN := Lib.hid hown
      have HBB4 := Lib.hid hb4
      have HBB5 := Lib.hid hb5
      have HFR := Lib.hid hfr
      clear hfr hb5 hb4 hown hsl hys hgsq hlsq hysq hlgg hy hfx hlg hlw hwok hwy hjl hrS hlu hgok hg
      go_upto_region 5 with fail
      go_cut [14, 15] from 24 to 34 (fun s14 s15 w' => ∃ k, s14 = .pointer (some ⟨k, 0, none⟩) ∧ s15 = .int .i64 y ∧ wr.heap.size ≤ k ∧ Blk w' k 49 lg.cells ∧ Frm wr.heap.size [] wr w')
      case first =>
        refine wp_region_leftL (fun V => Frm wr.heap.size [] wr V) 1000 (by kernel_rfl) ?_
        have hS : Frm wr.heap.size [] wr wr.drew := (Frm.refl _ _ wr).drew
        have HS := Lib.hid hS
        clear hS
        refine LeftL.take 0 rfl (by kernel_rfl) (fun _ _ d _ _ h => by cases d <;> exact h) (yields_loadE (ty := 25) rfl rfl rfl (HLU.out)) HS.out ?_; (intro K' hK'; go_simp; refine hK' _ ?_; clear hK' K')
        refine LeftL.take 1 rfl (by kernel_rfl) (fun _ _ d _ _ h => by cases d <;> exact h) (yields_loadE (ty := 107) rfl rfl rfl (HLG.out)) HS.out ?_; (intro K' hK'; go_simp; refine hK' _ ?_; clear hK' K')
        refine LeftL.run (v := ?_) 2 rfl (by kernel_rfl) rfl (fun _ _ d _ _ h => by cases d <;> exact h) ?_ HS.out ?_; rotate_left; (· intro V hV; obtain q0 := HFX.out V hV; clear hV; go_simp; rfl); (intro K' hK'; go_simp; refine hK' _ ?_; clear hK' K')
        refine LeftL.run (v := ?_) 3 rfl (by kernel_rfl) rfl (fun _ _ d _ _ h => by cases d <;> exact h) ?_ HS.out ?_; rotate_left; (· intro V hV; obtain q0 := HFX.out V hV; clear hV; go_simp; rfl); (intro K' hK'; go_simp; refine hK' _ ?_; clear hK' K')
        refine LeftL.run (v := ?_) 4 rfl (by kernel_rfl) rfl (fun _ _ d _ _ h => by cases d <;> exact h) ?_ HS.out ?_; rotate_left; (· intro V hV; obtain q0 := HFX.out V hV; clear hV; go_simp; rfl); (intro K' hK'; go_simp; refine hK' _ ?_; clear hK' K')
        refine LeftL.take 5 rfl (by kernel_rfl) (fun _ _ d _ _ h => by cases d <;> exact h) (yields_loadE (ty := 51) rfl rfl rfl (HLW.out)) HS.out ?_; (intro K' hK'; go_simp; refine hK' _ ?_; clear hK' K')
        refine LeftL.run (v := ?_) 6 rfl (by kernel_rfl) rfl (fun _ _ d _ _ h => by cases d <;> exact h) ?_ HS.out ?_; rotate_left; (· intro V hV; obtain q0 := HFX.out V hV; clear hV; go_simp; rfl); (intro K' hK'; go_simp; refine hK' _ ?_; clear hK' K')
        refine LeftL.two 7 11 rfl rfl (by kernel_rfl) ?_ ?_
        · go_wp2_with fail
          refine (refLeg_any u since g wy ad b off n cap S _ (HRS.out _ HS.out) HSK.out HU.out HGOK.out HWOK.out HSI.out).mono ?_; rintro e w1 ⟨rfl, hf1⟩
          have hS1 := HS.out.call hf1 HS.out.size (by simp)
          clear hf1 HS
          have HS := Lib.hid hS1
          clear hS1
          rw [← HLGE.out, ← HY.out]
          go_wp2_with fail
          first | refine ⟨fun _ => HS.out, ?_⟩ | refine ⟨HS.out, ?_⟩
          refine LeftL.run (v := ?_) 8 rfl (by kernel_rfl) rfl (fun _ _ d _ _ h => by cases d <;> exact h) ?_ HS.out ?_; rotate_left; (· intro V hV; obtain q0 := HFX.out V hV; clear hV; go_simp; rfl); (intro K' hK'; go_simp; refine hK' _ ?_; clear hK' K')
          refine LeftL.run (v := ?_) 9 rfl (by kernel_rfl) rfl (fun _ _ d _ _ h => by cases d <;> exact h) ?_ HS.out ?_; rotate_left; (· intro V hV; obtain q0 := HFX.out V hV; clear hV; go_simp; rfl); (intro K' hK'; go_simp; refine hK' _ ?_; clear hK' K')
          refine LeftL.run (v := ?_) 10 rfl (by kernel_rfl) rfl (fun _ _ d _ _ h => by cases d <;> exact h) ?_ HS.out ?_; rotate_left; (· intro V hV; obtain q0 := HFX.out V hV; clear hV; go_simp; rfl); (intro K' hK'; go_simp; refine hK' _ ?_; clear hK' K')
          refine LeftL.one 11 rfl (by kernel_rfl) ?_
          go_wp2_with fail
          have hS2 := HS.out.alloc HS.out.size (.cells #[.int .i64 0, .int .i64 0, .int .i64 0, .int .i64 0, .int .i64 0, .int .i64 0, .int .i64 0, .int .i64 0] 49)
          have hB : Blk _ w1.heap.size 49 zero49 := Blk.new w1 49 zero49
          have hk2 : wr.heap.size ≤ w1.heap.size := HS.out.size
          clear HS
          have HS := Lib.hid hS2
          have HBN := Lib.hid hB
          have HKK2 := Lib.hid hk2
          clear hk2 hB hS2
          first | refine ⟨fun _ => HS.out, ?_⟩ | refine ⟨HS.out, ?_⟩
          refine LeftL.one 12 rfl (by kernel_rfl) ?_
          refine wpList_storeB (P := Tryd.prog) (ty := 49) (cs := lg.cells) rfl rfl HBN.out rfl rfl rfl info49 (by simp [LC.cells, Value.oneCell']) ?_
          refine wpList_nil ?_
          have hS3 := HS.out.setRow (g := w1.heap.size) (.inr HKK2.out) lg.cells.toArray
          clear HS
          have HS := Lib.hid hS3
          clear hS3
          refine ⟨fun _ => HS.out, ?_⟩
          refine LeftL.one 13 rfl (by kernel_rfl) ?_
          go_wp2_with fail
          first | refine ⟨fun _ => HS.out, ?_⟩ | refine ⟨HS.out, ?_⟩
          refine LeftL.done (by kernel_rfl) ?_
          go_wp2_with fail
          go_meet
          case rel => exact ⟨_, rfl, rfl, HKK2.out, HBN.out.row _, HS.out⟩
        · go_wp2_with fail
          have hS2 := HS.out.alloc HS.out.size (.cells #[.int .i64 0, .int .i64 0, .int .i64 0, .int .i64 0, .int .i64 0, .int .i64 0, .int .i64 0, .int .i64 0] 49)
          have hB : Blk _ wr.drew.heap.size 49 zero49 := Blk.new wr.drew 49 zero49
          have hk2 : wr.heap.size ≤ wr.drew.heap.size := HS.out.size
          clear HS
          have HS := Lib.hid hS2
          have HBN := Lib.hid hB
          have HKK2 := Lib.hid hk2
          clear hk2 hB hS2
          first | refine ⟨fun _ => HS.out, ?_⟩ | refine ⟨HS.out, ?_⟩
          refine LeftL.one 7 rfl (by kernel_rfl) ?_
          go_wp2_with fail
          refine (refLeg_any u since g wy ad b off n cap S _ (HRS.out _ HS.out) HSK.out HU.out HGOK.out HWOK.out HSI.out).mono ?_; rintro e w1 ⟨rfl, hf1⟩
          have hS1 := HS.out.call hf1 HS.out.size (by simp)
          have hB := hf1.blk HBN.out HBN.out.lt (by simp)
          clear hf1 HS HBN
          have HS := Lib.hid hS1
          have HBN := Lib.hid hB
          clear hB hS1
          rw [← HLGE.out, ← HY.out]
          go_wp2_with fail
          first | refine ⟨fun _ => HS.out, ?_⟩ | refine ⟨HS.out, ?_⟩
          refine LeftL.run (v := ?_) 8 rfl (by kernel_rfl) rfl (fun _ _ d _ _ h => by cases d <;> exact h) ?_ HS.out ?_; rotate_left; (· intro V hV; obtain q0 := HFX.out V hV; clear hV; go_simp; rfl); (intro K' hK'; go_simp; refine hK' _ ?_; clear hK' K')
          refine LeftL.run (v := ?_) 9 rfl (by kernel_rfl) rfl (fun _ _ d _ _ h => by cases d <;> exact h) ?_ HS.out ?_; rotate_left; (· intro V hV; obtain q0 := HFX.out V hV; clear hV; go_simp; rfl); (intro K' hK'; go_simp; refine hK' _ ?_; clear hK' K')
          refine LeftL.run (v := ?_) 10 rfl (by kernel_rfl) rfl (fun _ _ d _ _ h => by cases d <;> exact h) ?_ HS.out ?_; rotate_left; (· intro V hV; obtain q0 := HFX.out V hV; clear hV; go_simp; rfl); (intro K' hK'; go_simp; refine hK' _ ?_; clear hK' K')
          refine LeftL.one 12 rfl (by kernel_rfl) ?_
          refine wpList_storeB (P := Tryd.prog) (ty := 49) (cs := lg.cells) rfl rfl HBN.out rfl rfl rfl info49 (by simp [LC.cells, Value.oneCell']) ?_
          refine wpList_nil ?_
          have hS3 := HS.out.setRow (g := wr.drew.heap.size) (.inr HKK2.out) lg.cells.toArray
          clear HS
          have HS := Lib.hid hS3
          clear hS3
          refine ⟨fun _ => HS.out, ?_⟩
          refine LeftL.one 13 rfl (by kernel_rfl) ?_
          go_wp2_with fail
          first | refine ⟨fun _ => HS.out, ?_⟩ | refine ⟨HS.out, ?_⟩
          refine LeftL.done (by kernel_rfl) ?_
          go_wp2_with fail
          go_meet
          case rel => exact ⟨_, rfl, rfl, HKK2.out, HBN.out.row _, HS.out⟩
      obtain ⟨k, rfl, rfl, hk, hB, hS⟩ := hcut
      by_cases hy0 : y = 0
      · subst hy0
        have hlo : (loadVar 49 ⟨k, 0, none⟩).run Tryd.prog wc = .ok (.agg #[.int .i64 lg.fx, .int .i64 lg.fy, .int .i64 lg.tx, .int .i64 lg.ty, .int .i64 lg.start, .int .i64 lg.arrive, .int .i64 lg.leave, .int .i64 lg.fuel]) wc := loadVarB hB (P := Tryd.prog) Tryd.underlying49 rfl info49
        have hsl := HSL.out.frm hS HSL.out.lt (fun b hb => by simp)
        have hb4 := hS.blk HBB4.out HBB4.out.lt (by simp)
        have hb5 := hS.blk HBB5.out HBB5.out.lt (by simp)
        have hfr := HFR.out.call hS HFR.out.size (by simp)
        obtain ⟨i0, hi0, hz0', hz1, hz2⟩ := info_parts3 info49x
        have hkw : wr.heap.size ≤ wc.heap.size := hS.size
        have hok : ∀ b, own = some b → b ≠ k := fun b hb => by have := HSL.out.lt b hb; omega
        clear hS
        have HLO := Lib.hid hlo
        have HSL2 := Lib.hid hsl
        have HB6 := Lib.hid hb4
        have HB7 := Lib.hid hb5
        have HFR2 := Lib.hid hfr
        have HI0 := Lib.hid hi0
        have HZ0 := Lib.hid hz0'
        have HZ1 := Lib.hid hz1
        have HZ2 := Lib.hid hz2
        have HKW := Lib.hid hkw
        have HOK := Lib.hid hok
        have HBK := Lib.hid hB
        have HK := Lib.hid hk
        clear hk hB hok hkw hz2 hz1 hz0' hi0 hfr hb5 hb4 hsl hlo
        go_wp2_with (first | (with_reducible refine atLoad 49 rfl ?_; refine wpList_loadE rfl rfl rfl HLO.out ?_) | (at_builtin; refine stop_ ?_))
        refine go_on ?_
        refine wpList_append_sl _ rfl (.tmp 39) (.tmp 41) 39 rfl 49 i0 _ 8 64 Tryd.underlying39 HI0.out HZ0.out HZ1.out HZ2.out rfl _ j _ own rfl (HSL2.out.alloc _) ⟨wc.heap.size, 0, none⟩ 1 1 lg.cells rfl rfl (news_alloc _ lg.cells _) (by simp [LC.cells, Value.oneCell']) (by have := HRN.out; have := HJL.out; unfold maxLen; omega) (by have := HRN.out; have := HJL.out; omega) ?_
        intro v1 w5 own1 hs1 hf1 ho1
        obtain ⟨ad1, cp1, rfl⟩ := hs1.form
        have hk5 := hf1.blk (HBK.out.alloc _) (by have := HBK.out.lt; simp; omega) (by intro hm; exact HOK.out k (by simpa using hm) rfl)
        have hb4 := hf1.blk (HB6.out.alloc _) (by have := HB6.out.lt; simp; omega) (by intro hm; have := HOWN.out c (by simpa using hm); omega)
        have hb5 := hf1.blk (HB7.out.alloc _) (by have := HB7.out.lt; simp; omega) (by intro hm; have := HOWN.out (c + 1) (by simpa using hm); omega)
        have hfr5 : Frm w.heap.size [] w w5 := (HFR2.out.alloc HFR2.out.size _).call hf1 (by have := HFR2.out.size; simp; omega) (fun x hx hm => by have := HOWN.out x (by simpa using hm); have := HC.out; omega)
        have hown1 : ∀ b, own1 = some b → c + 2 ≤ b := fun b hb => by
          rcases ho1 with h | ⟨q, h, hq⟩
          · exact HOWN.out b (by rw [← h]; exact hb)
          · rw [hb] at h; cases h; have := HKW.out; have := HBB5.out.lt; simp at hq; omega
        have hbne : ∀ b, own1 = some b → b ≠ c + 1 := fun b hb => by have := hown1 b hb; omega
        clear hf1 ho1
        have d2 : w5.cell? ⟨k, 2, none⟩ = some (.int .i64 lg.tx) := hk5.cell 2
        have d3 : w5.cell? ⟨k, 3, none⟩ = some (.int .i64 lg.ty) := hk5.cell 3
        have d6 : w5.cell? ⟨k, 6, none⟩ = some (.int .i64 lg.leave) := hk5.cell 6
        have d7 : w5.cell? ⟨k, 7, none⟩ = some (.int .i64 lg.fuel) := hk5.cell 7
        have ds : w5.cell? ⟨c + 1, 2, none⟩ = some (.int .i64 since) := hb5.cell 2
        have HS1 := Lib.hid hs1
        have HB8 := Lib.hid hb4
        have HB9 := Lib.hid hb5
        have HFR5 := Lib.hid hfr5
        have HOWN1 := Lib.hid hown1
        have HK5 := Lib.hid hk5
        have HBNE := Lib.hid hbne
        clear hbne hk5 hown1 hfr5 hb5 hb4 hs1
        go_wp2_with (with_reducible refine atStore 107 rfl ?_; refine stop_ ?_)
        refine go_on ?_
        refine wpList_storeB (P := Tryd.prog) (ty := 107) (cs := goneC since (goneTo lg)) rfl rfl HB9.out rfl rfl rfl info107 (by simp [goneC, Value.oneCell']) ?_
        have e4 := HB8.out.rowO (g := c + 1) (cs := (goneC since (goneTo lg)).toArray) (by omega)
        have e5 := HB9.out.row (goneC since (goneTo lg))
        have es : Sl _ 49 8 _ _ _ own1 := HS1.out.kept (w' := w5.setRow (c + 1) (goneC since (goneTo lg)).toArray) (fun b hb => setRow_other _ _ _ _ (HBNE.out b hb))
        have ef := HFR5.out.setRow (g := c + 1) (.inr (by have := HC.out; omega)) (goneC since (goneTo lg)).toArray
        have E4 := Lib.hid e4
        have E5 := Lib.hid e5
        have ES := Lib.hid es
        have EF := Lib.hid ef
        clear ef es e5 e4
        go_wp2_with fail
        have hwr : wrap64 ((j : Int) + 1) = (j : Int) + 1 := IntWalk.wrap64_in _ (by have := HRN.out; have := HJL.out; omega)
        refine ⟨⟨j + 1, own1, by rw [hwr]; simp, HJL.out, fun i hi => ?_, ?_, HOWN1.out, E4.out, ?_, EF.out⟩, by rw [hwr]; exact meas_next3 HJL.out⟩
        · rcases Nat.lt_or_ge i j with h | h
          · exact HYS.out i h
          · obtain rfl : i = j := by omega
            exact HYSQ.out
        · rw [legsC_succ, HLSQ.out]; exact ES.out
        · rw [HGSQ.out]; exact E5.out
      · have hfr := HFR.out.call hS HFR.out.size (by simp)
        have HFR2 := Lib.hid hfr
        clear hfr
        go_wp2_with fail
        refine bodyPost_ret (v := .tuple #[.slice none 0 0, .int .i64 j, .int .i64 y, .int .i64 9]) (by simp [results, Tryd.results63, go_sem]) rfl ?_
        exact ⟨HFR2.out, .inr ⟨j, HJL.out, HYS.out, by rw [HYSQ.out]; exact hy0, by rw [HYSQ.out]⟩⟩
    · have hjl' : ¬ (j : Int) < (rn : Int) := by omega
      have hjn : j = rn := by omega
      subst hjn
      obtain ⟨bk, hbk⟩ : ∃ bk, bk = takesZ u.speed g.x g.y u.bx u.by_ := ⟨_, rfl⟩
      have ibk := takesZ_in (speed := u.speed) HU.out.speed.1 hgok.place HU.out.base
      rw [← hbk] at ibk
      obtain ⟨bz, hbz⟩ : ∃ bz, bz = burnsZ u.burn bk := ⟨_, rfl⟩
      have ibz := burnsZ_in HU.out.burn (t := bk) (by omega)
      rw [← hbz] at ibz
      have hgt := hgok.time
      have hgf := hgok.fuel
      have v1 : IntKind.i64.wrap (g.time + bk) = g.time + bk := IntWalk.i64_in _ (by omega)
      have v2 : IntKind.i64.wrap (g.fuel - bz) = g.fuel - bz := IntWalk.i64_in _ (by omega)
      have hhome : (homeLeg u (gsq u R g0 j)).cells = LC.cells ⟨g.x, g.y, u.bx, u.by_, g.time, g.time + bk, g.time + bk, g.fuel - bz⟩ := by
        rw [← hg, hbz, hbk]; rfl
      have ibk2 : 0 ≤ bk ∧ bk ≤ 1000000000000 := by omega
      clear hgt hgf ibk ibz
      have a0 : wr.cell? ⟨c + 1, 0, none⟩ = some (.int .i64 g.x) := hb5.cell 0
      have a1 : wr.cell? ⟨c + 1, 1, none⟩ = some (.int .i64 g.y) := hb5.cell 1
      have a8 : wr.cell? ⟨c, 8, none⟩ = some (.int .i64 u.bx) := hb4.cell 8
      have a9 : wr.cell? ⟨c, 9, none⟩ = some (.int .i64 u.by_) := hb4.cell 9
      have HGE := Lib.hid hg
      have HGOK := Lib.hid hgok
      have HLU0 := Lib.hid hlu
      have HRS := Lib.hid hrS
      have HBK := Lib.hid hbk
      have HBZ := Lib.hid hbz
      have HHOME := Lib.hid hhome
      have IBK := Lib.hid ibk2
      have HYS := Lib.hid hys
      have HSL := Lib.hid hsl
      have HOWN := Lib.hid hown
      have HBB4 := Lib.hid hb4
      have HBB5 := Lib.hid hb5
      have HFR := Lib.hid hfr
      clear hfr hb5 hb4 hown hsl hys ibk2 hhome hbz hbk hrS hlu hgok hg
      go_wp2_with (with_reducible refine atLoad 25 rfl ?_; refine wpList_loadE rfl rfl rfl (HLU0.out _ (Frm.refl _ _ _)) ?_)
      refine (refTakes_any u g.x g.y u.bx u.by_ _ HU.out.speed HGOK.out.place HU.out.base).mono ?_; rintro e w2 ⟨rfl, hf1⟩
      rw [← HBK.out]
      clear a0 a1 a8 a9
      have hfr := HFR.out.call hf1 HFR.out.size (by simp)
      have hsl := HSL.out.frm hf1 HSL.out.lt (fun b hb => by simp)
      have hb4 := hf1.blk HBB4.out HBB4.out.lt (by simp)
      have hb5 := hf1.blk HBB5.out HBB5.out.lt (by simp)
      have hfx : ∀ V, Frm w2.heap.size [] w2 V → V.cell? ⟨c + 1, 0, none⟩ = some (.int .i64 g.x) ∧ V.cell? ⟨c + 1, 1, none⟩ = some (.int .i64 g.y) ∧ V.cell? ⟨c + 1, 3, none⟩ = some (.int .i64 g.time) ∧ V.cell? ⟨c + 1, 4, none⟩ = some (.int .i64 g.fuel) ∧ V.cell? ⟨c, 8, none⟩ = some (.int .i64 u.bx) ∧ V.cell? ⟨c, 9, none⟩ = some (.int .i64 u.by_) := fun V hV => by
        have h4 := hV.blk hb4 hb4.lt (by simp)
        have h5 := hV.blk hb5 hb5.lt (by simp)
        exact ⟨h5.cell 0, h5.cell 1, h5.cell 3, h5.cell 4, h4.cell 8, h4.cell 9⟩
      have hlu : ∀ V, Frm w2.heap.size [] w2 V → (loadVar 25 ⟨c, 0, none⟩).run Tryd.prog V = .ok (.agg u.cells.toArray) V := fun V hV => loadVarB (hV.blk hb4 hb4.lt (by simp)) (P := Tryd.prog) Tryd.underlying25 rfl info25
      clear hf1 HLU0
      have HFR2 := Lib.hid hfr
      have HSL2 := Lib.hid hsl
      have HB6 := Lib.hid hb4
      have HB7 := Lib.hid hb5
      have HFX := Lib.hid hfx
      have HLU := Lib.hid hlu
      clear hlu hfx hb5 hb4 hsl hfr
      go_upto_region 11 with fail
      go_cut [17] from 58 to 78 (fun s17 w' => ∃ k, s17 = .pointer (some ⟨k, 0, none⟩) ∧ w2.heap.size ≤ k ∧ Blk w' k 49 (LC.cells ⟨g.x, g.y, u.bx, u.by_, g.time, g.time + bk, g.time + bk, g.fuel - bz⟩) ∧ Frm w2.heap.size [] w2 w')
      case first =>
        refine wp_region_leftL (fun V => Frm w2.heap.size [] w2 V) 1000 (by kernel_rfl) ?_
        have hS : Frm w2.heap.size [] w2 w2.drew := (Frm.refl _ _ w2).drew
        have HS := Lib.hid hS
        clear hS
        refine LeftL.run (v := ?_) 0 rfl (by kernel_rfl) rfl (fun _ _ d _ _ h => by cases d <;> exact h) ?_ HS.out ?_; rotate_left; (· intro V hV; obtain ⟨q0, q1, q2, q3, q4, q5⟩ := HFX.out V hV; clear hV; go_simp; rfl); (intro K' hK'; go_simp; refine hK' _ ?_; clear hK' K')
        refine LeftL.run (v := ?_) 1 rfl (by kernel_rfl) rfl (fun _ _ d _ _ h => by cases d <;> exact h) ?_ HS.out ?_; rotate_left; (· intro V hV; obtain ⟨q0, q1, q2, q3, q4, q5⟩ := HFX.out V hV; clear hV; go_simp; rfl); (intro K' hK'; go_simp; refine hK' _ ?_; clear hK' K')
        refine LeftL.run (v := ?_) 2 rfl (by kernel_rfl) rfl (fun _ _ d _ _ h => by cases d <;> exact h) ?_ HS.out ?_; rotate_left; (· intro V hV; obtain ⟨q0, q1, q2, q3, q4, q5⟩ := HFX.out V hV; clear hV; go_simp; rfl); (intro K' hK'; go_simp; refine hK' _ ?_; clear hK' K')
        refine LeftL.run (v := ?_) 3 rfl (by kernel_rfl) rfl (fun _ _ d _ _ h => by cases d <;> exact h) ?_ HS.out ?_; rotate_left; (· intro V hV; obtain ⟨q0, q1, q2, q3, q4, q5⟩ := HFX.out V hV; clear hV; go_simp; rfl); (intro K' hK'; go_simp; refine hK' _ ?_; clear hK' K')
        refine LeftL.run (v := ?_) 4 rfl (by kernel_rfl) rfl (fun _ _ d _ _ h => by cases d <;> exact h) ?_ HS.out ?_; rotate_left; (· intro V hV; obtain ⟨q0, q1, q2, q3, q4, q5⟩ := HFX.out V hV; clear hV; go_simp; rfl); (intro K' hK'; go_simp; refine hK' _ ?_; clear hK' K')
        refine LeftL.run (v := ?_) 5 rfl (by kernel_rfl) rfl (fun _ _ d _ _ h => by cases d <;> exact h) ?_ HS.out ?_; rotate_left; (· intro V hV; obtain ⟨q0, q1, q2, q3, q4, q5⟩ := HFX.out V hV; clear hV; go_simp; rfl); (intro K' hK'; go_simp; refine hK' _ ?_; clear hK' K')
        refine LeftL.run (v := ?_) 6 rfl (by kernel_rfl) rfl (fun _ _ d _ _ h => by cases d <;> exact h) ?_ HS.out ?_; rotate_left; (· intro V hV; obtain ⟨q0, q1, q2, q3, q4, q5⟩ := HFX.out V hV; clear hV; go_simp; rfl); (intro K' hK'; go_simp; refine hK' _ ?_; clear hK' K')
        refine LeftL.run (v := ?_) 7 rfl (by kernel_rfl) rfl (fun _ _ d _ _ h => by cases d <;> exact h) ?_ HS.out ?_; rotate_left; (· intro V hV; obtain ⟨q0, q1, q2, q3, q4, q5⟩ := HFX.out V hV; clear hV; go_simp; rfl); (intro K' hK'; go_simp; refine hK' _ ?_; clear hK' K')
        refine LeftL.run (v := ?_) 8 rfl (by kernel_rfl) rfl (fun _ _ d _ _ h => by cases d <;> exact h) ?_ HS.out ?_; rotate_left; (· intro V hV; obtain ⟨q0, q1, q2, q3, q4, q5⟩ := HFX.out V hV; clear hV; go_simp; rfl); (intro K' hK'; go_simp; refine hK' _ ?_; clear hK' K')
        refine LeftL.run (v := ?_) 9 rfl (by kernel_rfl) rfl (fun _ _ d _ _ h => by cases d <;> exact h) ?_ HS.out ?_; rotate_left; (· intro V hV; obtain ⟨q0, q1, q2, q3, q4, q5⟩ := HFX.out V hV; clear hV; go_simp; rfl); (intro K' hK'; go_simp; refine hK' _ ?_; clear hK' K')
        refine LeftL.run (v := ?_) 10 rfl (by kernel_rfl) rfl (fun _ _ d _ _ h => by cases d <;> exact h) ?_ HS.out ?_; rotate_left; (· intro V hV; obtain ⟨q0, q1, q2, q3, q4, q5⟩ := HFX.out V hV; clear hV; go_simp; rfl); (intro K' hK'; go_simp; refine hK' _ ?_; clear hK' K')
        refine LeftL.run (v := ?_) 11 rfl (by kernel_rfl) rfl (fun _ _ d _ _ h => by cases d <;> exact h) ?_ HS.out ?_; rotate_left; (· intro V hV; obtain ⟨q0, q1, q2, q3, q4, q5⟩ := HFX.out V hV; clear hV; go_simp; rfl); (intro K' hK'; go_simp; refine hK' _ ?_; clear hK' K')
        refine LeftL.run (v := ?_) 12 rfl (by kernel_rfl) rfl (fun _ _ d _ _ h => by cases d <;> exact h) ?_ HS.out ?_; rotate_left; (· intro V hV; obtain ⟨q0, q1, q2, q3, q4, q5⟩ := HFX.out V hV; clear hV; go_simp; rfl); (intro K' hK'; go_simp; refine hK' _ ?_; clear hK' K')
        refine LeftL.run (v := ?_) 13 rfl (by kernel_rfl) rfl (fun _ _ d _ _ h => by cases d <;> exact h) ?_ HS.out ?_; rotate_left; (· intro V hV; obtain ⟨q0, q1, q2, q3, q4, q5⟩ := HFX.out V hV; clear hV; go_simp; rfl); (intro K' hK'; go_simp; refine hK' _ ?_; clear hK' K')
        refine LeftL.run (v := ?_) 14 rfl (by kernel_rfl) rfl (fun _ _ d _ _ h => by cases d <;> exact h) ?_ HS.out ?_; rotate_left; (· intro V hV; obtain ⟨q0, q1, q2, q3, q4, q5⟩ := HFX.out V hV; clear hV; go_simp; rfl); (intro K' hK'; go_simp; refine hK' _ ?_; clear hK' K')
        refine LeftL.run (v := ?_) 15 rfl (by kernel_rfl) rfl (fun _ _ d _ _ h => by cases d <;> exact h) ?_ HS.out ?_; rotate_left; (· intro V hV; obtain ⟨q0, q1, q2, q3, q4, q5⟩ := HFX.out V hV; clear hV; go_simp; rfl); (intro K' hK'; go_simp; refine hK' _ ?_; clear hK' K')
        refine LeftL.take 16 rfl (by kernel_rfl) (fun _ _ d _ _ h => by cases d <;> exact h) (yields_loadE (ty := 25) rfl rfl rfl (HLU.out)) HS.out ?_; (intro K' hK'; go_simp; refine hK' _ ?_; clear hK' K')
        refine LeftL.run (v := ?_) 17 rfl (by kernel_rfl) rfl (fun _ _ d _ _ h => by cases d <;> exact h) ?_ HS.out ?_; rotate_left; (· intro V hV; obtain ⟨q0, q1, q2, q3, q4, q5⟩ := HFX.out V hV; clear hV; go_simp; rfl); (intro K' hK'; go_simp; refine hK' _ ?_; clear hK' K')
        refine LeftL.two 18 21 rfl rfl (by kernel_rfl) ?_ ?_
        · go_wp2_with fail
          refine (refBurns_any u bk _ HU.out.burn IBK.out).mono ?_; rintro e w1 ⟨rfl, hf1⟩
          rw [← HBZ.out]
          have hS1 := HS.out.call hf1 HS.out.size (by simp)
          clear hf1 HS
          have HS := Lib.hid hS1
          clear hS1
          go_wp2_with fail
          first | refine ⟨fun _ => HS.out, ?_⟩ | refine ⟨HS.out, ?_⟩
          refine LeftL.run (v := ?_) 19 rfl (by kernel_rfl) rfl (fun _ _ d _ _ h => by cases d <;> exact h) ?_ HS.out ?_; rotate_left; (· intro V hV; obtain ⟨q0, q1, q2, q3, q4, q5⟩ := HFX.out V hV; clear hV; go_simp; rfl); (intro K' hK'; go_simp; refine hK' _ ?_; clear hK' K')
          refine LeftL.run (v := ?_) 20 rfl (by kernel_rfl) rfl (fun _ _ d _ _ h => by cases d <;> exact h) ?_ HS.out ?_; rotate_left; (· intro V hV; obtain ⟨q0, q1, q2, q3, q4, q5⟩ := HFX.out V hV; clear hV; go_simp; rfl); (intro K' hK'; go_simp; refine hK' _ ?_; clear hK' K')
          refine LeftL.one 21 rfl (by kernel_rfl) ?_
          go_wp2_with fail
          have hS2 := HS.out.alloc HS.out.size (.cells #[.int .i64 0, .int .i64 0, .int .i64 0, .int .i64 0, .int .i64 0, .int .i64 0, .int .i64 0, .int .i64 0] 49)
          have hB : Blk _ w1.heap.size 49 zero49 := Blk.new w1 49 zero49
          have hk2 : w2.heap.size ≤ w1.heap.size := HS.out.size
          clear HS
          have HS := Lib.hid hS2
          have HBN := Lib.hid hB
          have HKK2 := Lib.hid hk2
          clear hk2 hB hS2
          first | refine ⟨fun _ => HS.out, ?_⟩ | refine ⟨HS.out, ?_⟩
          refine LeftL.one 22 rfl (by kernel_rfl) ?_
          refine wpList_storeB (P := Tryd.prog) (ty := 49) (cs := LC.cells ⟨g.x, g.y, u.bx, u.by_, g.time, g.time + bk, g.time + bk, g.fuel - bz⟩) rfl rfl HBN.out rfl rfl rfl info49 (by simp [LC.cells, Value.oneCell']) ?_
          refine wpList_nil ?_
          have hS3 := HS.out.setRow (g := w1.heap.size) (.inr HKK2.out) (LC.cells ⟨g.x, g.y, u.bx, u.by_, g.time, g.time + bk, g.time + bk, g.fuel - bz⟩).toArray
          refine ⟨fun _ => hS3, ?_⟩
          refine LeftL.done (by kernel_rfl) ?_
          simp only [Act.put]
          go_wp2_with fail
          go_meet
          case rel => exact ⟨_, rfl, HKK2.out, HBN.out.row _, hS3⟩
        · go_wp2_with fail
          have hS2 := HS.out.alloc HS.out.size (.cells #[.int .i64 0, .int .i64 0, .int .i64 0, .int .i64 0, .int .i64 0, .int .i64 0, .int .i64 0, .int .i64 0] 49)
          have hB : Blk _ w2.drew.heap.size 49 zero49 := Blk.new w2.drew 49 zero49
          have hk2 : w2.heap.size ≤ w2.drew.heap.size := HS.out.size
          clear HS
          have HS := Lib.hid hS2
          have HBN := Lib.hid hB
          have HKK2 := Lib.hid hk2
          clear hk2 hB hS2
          first | refine ⟨fun _ => HS.out, ?_⟩ | refine ⟨HS.out, ?_⟩
          refine LeftL.one 18 rfl (by kernel_rfl) ?_
          go_wp2_with fail
          refine (refBurns_any u bk _ HU.out.burn IBK.out).mono ?_; rintro e w1 ⟨rfl, hf1⟩
          rw [← HBZ.out]
          have hS1 := HS.out.call hf1 HS.out.size (by simp)
          have hB := hf1.blk HBN.out HBN.out.lt (by simp)
          clear hf1 HS HBN
          have HS := Lib.hid hS1
          have HBN := Lib.hid hB
          clear hB hS1
          go_wp2_with fail
          first | refine ⟨fun _ => HS.out, ?_⟩ | refine ⟨HS.out, ?_⟩
          refine LeftL.run (v := ?_) 19 rfl (by kernel_rfl) rfl (fun _ _ d _ _ h => by cases d <;> exact h) ?_ HS.out ?_; rotate_left; (· intro V hV; obtain ⟨q0, q1, q2, q3, q4, q5⟩ := HFX.out V hV; clear hV; go_simp; rfl); (intro K' hK'; go_simp; refine hK' _ ?_; clear hK' K')
          refine LeftL.run (v := ?_) 20 rfl (by kernel_rfl) rfl (fun _ _ d _ _ h => by cases d <;> exact h) ?_ HS.out ?_; rotate_left; (· intro V hV; obtain ⟨q0, q1, q2, q3, q4, q5⟩ := HFX.out V hV; clear hV; go_simp; rfl); (intro K' hK'; go_simp; refine hK' _ ?_; clear hK' K')
          refine LeftL.one 22 rfl (by kernel_rfl) ?_
          refine wpList_storeB (P := Tryd.prog) (ty := 49) (cs := LC.cells ⟨g.x, g.y, u.bx, u.by_, g.time, g.time + bk, g.time + bk, g.fuel - bz⟩) rfl rfl HBN.out rfl rfl rfl info49 (by simp [LC.cells, Value.oneCell']) ?_
          refine wpList_nil ?_
          have hS3 := HS.out.setRow (g := w2.drew.heap.size) (.inr HKK2.out) (LC.cells ⟨g.x, g.y, u.bx, u.by_, g.time, g.time + bk, g.time + bk, g.fuel - bz⟩).toArray
          refine ⟨fun _ => hS3, ?_⟩
          refine LeftL.done (by kernel_rfl) ?_
          simp only [Act.put]
          go_wp2_with fail
          go_meet
          case rel => exact ⟨_, rfl, HKK2.out, HBN.out.row _, hS3⟩
      obtain ⟨k, rfl, hk, hB, hS⟩ := hcut
      obtain ⟨lh, hlh⟩ : ∃ lh : LC, lh = ⟨g.x, g.y, u.bx, u.by_, g.time, g.time + bk, g.time + bk, g.fuel - bz⟩ := ⟨_, rfl⟩
      rw [← hlh] at hB
      have hh2 : (homeLeg u (gsq u R g0 j)).cells = lh.cells := by rw [hlh]; exact HHOME.out
      have hlo : (loadVar 49 ⟨k, 0, none⟩).run Tryd.prog wc = .ok (.agg #[.int .i64 lh.fx, .int .i64 lh.fy, .int .i64 lh.tx, .int .i64 lh.ty, .int .i64 lh.start, .int .i64 lh.arrive, .int .i64 lh.leave, .int .i64 lh.fuel]) wc := loadVarB hB (P := Tryd.prog) Tryd.underlying49 rfl info49
      have hsl := HSL2.out.frm hS HSL2.out.lt (fun b hb => by simp)
      have hfr := HFR2.out.call hS HFR2.out.size (by simp)
      obtain ⟨i0, hi0, hz0', hz1, hz2⟩ := info_parts3 info49x
      clear hS hlh
      have HLO := Lib.hid hlo
      have HSL3 := Lib.hid hsl
      have HFR3 := Lib.hid hfr
      have HI0 := Lib.hid hi0
      have HZ0 := Lib.hid hz0'
      have HZ1 := Lib.hid hz1
      have HZ2 := Lib.hid hz2
      have HBK2 := Lib.hid hB
      have HK := Lib.hid hk
      have HH2 := Lib.hid hh2
      clear hh2 hk hB hz2 hz1 hz0' hi0 hfr hsl hlo
      go_wp2_with (first | (with_reducible refine atLoad 49 rfl ?_; refine wpList_loadE rfl rfl rfl HLO.out ?_) | (at_builtin; refine stop_ ?_))
      refine go_on ?_
      refine wpList_append_sl _ rfl (.tmp 79) (.tmp 81) 39 rfl 49 i0 _ 8 64 Tryd.underlying39 HI0.out HZ0.out HZ1.out HZ2.out rfl _ j _ own rfl (HSL3.out.alloc _) ⟨wc.heap.size, 0, none⟩ 1 1 lh.cells rfl rfl (news_alloc _ lh.cells _) (by simp [LC.cells, Value.oneCell']) (by have := HRN.out; unfold maxLen; omega) (by have := HRN.out; omega) ?_
      intro v1 w5 own1 hs1 hf1 ho1
      obtain ⟨ad1, cp1, rfl⟩ := hs1.form
      have hfr5 : Frm w.heap.size [] w w5 := (HFR3.out.alloc HFR3.out.size _).call hf1 (by have := HFR3.out.size; simp; omega) (fun x hx hm => by have := HOWN.out x (by simpa using hm); have := HC.out; omega)
      have hown1 : ∀ b, own1 = some b → w.heap.size ≤ b := fun b hb => by
        rcases ho1 with h | ⟨q, h, hq⟩
        · have := HOWN.out b (by rw [← h]; exact hb); have := HC.out; omega
        · rw [hb] at h; cases h; have := HFR3.out.size; simp at hq; omega
      clear hf1 ho1
      have HS1 := Lib.hid hs1
      have HFR5 := Lib.hid hfr5
      have HOWN1 := Lib.hid hown1
      clear hown1 hfr5 hs1
      go_wp2_with fail
      refine bodyPost_ret (v := .tuple #[.slice ad1 (j + 1) cp1, .int .i64 (-1), .int .i64 0, .int .i64 0]) (by simp [results, Tryd.results63, go_sem]) rfl ?_
      exact ⟨HFR5.out, .inl ⟨_, own1, rfl, by rw [HH2.out]; exact HS1.out, HOWN1.out, HYS.out⟩⟩
end Go.Proofs.YtghkfopcjdkieaaDoor
