/-
  A node of the program answers as the document's does, call by call, for any number, any term and any list of calls.
-/
import Derived.Test.YthmladcepkdheaaOne
import Derived.Test.YthmladcepkdheaaFrame
import Derived.Test.YthmladcepkdheaaActs
namespace Go.Proofs.Ythmladcepkdheaa
open Go.ChangeShapes Go.WideShapes Go.ChangeAt Go.RowKit

/-- (A goal that is only a name.) -/
theorem hold' {p : Prop} (h : ∀ q : Prop, (p ↔ q) → q) : p := h p Iff.rfl

theorem atDst {P : Program} {ops : Array Oper} {Q : Exit → Act → World → Prop} {o : Oper} {rest : List Oper} {a : Act} {w : World} (n : Nat) (_ : o.dst = some n) (h : wpList P ops Q (o :: rest) a w) : wpList P ops Q (o :: rest) a w := h

/-- What stands at the start of each round. -/
structure Mirror (o w : World) (bn bw : Nat) (j : Nat) : Prop where
  ex : ∃ s own v own2 K, One o w ((bw, .cells (nodeC s v).toArray 39 (0, 0)) :: K) ⟨bn, own, s⟩ ∧ SlN w v s.l own2 ∧ Kept K own2 ∧ (∀ x ∈ K, x.1 ≠ bw) ∧ s.Fits j

set_option maxRecDepth 100000 in
set_option maxHeartbeats 8000000 in
theorem nodes_walk (number term : Int) (ad : Option Addr) (len cap b off : Nat) (f : Nat → Int × Int × Int × Int × Int) (w : World) (hl : len ≤ maxLen) (ha : Acts w ad len b off f) :
    Calls Try.prog 4 #[.int .i64 number, .int .i64 term, .slice ad len cap] w fun e w' => e = .returned (.bool true) ∧ Frm w.heap.size [] w w' := by
  cases hC : (inB number 1 8 && inB term 1 100000)
  · have HC := Lib.hid hC
    have HA := Lib.hid ha
    clear ha hC
    go_enter Try.func4, Try.ntmps4
    go_wp2_with fail
    refine (newNode_no _ _ _ HC.out).mono ?_; rintro e w1 ⟨rfl, rfl⟩
    go_wp2_with (go_at_call 16; refine (awake_any _).mono ?_; rintro e w3 ⟨rfl, hf3⟩)
    all_goals go_ret
    all_goals exact ⟨rfl, hf3⟩
  by_cases h200 : 200 < (len : Int)
  · have HC := Lib.hid hC
    have HA := Lib.hid ha
    clear ha hC
    go_enter Try.func4, Try.ntmps4
    go_wp2_with fail
    refine (newNode_any _ _ _).mono ?_; rintro e w1 ⟨he, hf1⟩
    rw [if_pos HC.out] at he
    subst he
    have F1 := Lib.hid hf1
    clear hf1
    go_wp2_with (go_at_call 16; refine (awake_any _).mono ?_; rintro e w3 ⟨rfl, hf3⟩)
    go_ret
    exact ⟨rfl, F1.out.call hf3 F1.out.size (by simp)⟩
  · obtain ⟨hC1, hC2⟩ := Bool.and_eq_true_iff.1 hC
    have hdec : decide (200 < (len : Int)) = false := by simpa using h200
    have HC := Lib.hid hC
    have HA := Lib.hid ha
    have HC1 := Lib.hid hC1
    have HC2 := Lib.hid hC2
    clear hC2 hC1 ha hC
    go_enter Try.func4, Try.ntmps4
    go_wp2_with fail
    refine (newNode_ok _ _ _ HC1.out HC2.out).mono ?_; rintro e w1 ⟨rfl, hn1, hf1⟩
    have h1 : One w w1 [] ⟨w.heap.size, none, ⟨0, number, term, 0, 0, []⟩⟩ := ⟨⟨⟨_, hn1, Sl.nil _ _ _⟩, by simp⟩, by simp, by simp, hf1, by simp [NP.foot, nodeFoot], by simp⟩
    have hs := h1.boxed (.cells (nodeC ⟨0, number, term, 0, 0, []⟩ (.slice none 0 0)).toArray 39 (0, 0))
    have hfit : (⟨0, number, term, 0, 0, []⟩ : NS).Fits 0 := by
      have := inB_iff.1 HC2.out
      exact ⟨by simp, by simp, by simp, by simp, by simp, by simp, by simp only; omega, by simp only; omega⟩
    have HS := Lib.hid hs
    have HFIT := Lib.hid hfit
    clear hfit hs
    clear h1 hn1 hf1
    go_wp2_with fail
    obtain ⟨bw, hbw⟩ : ∃ b, b = w1.heap.size := ⟨_, rfl⟩
    rw [← hbw] at HS
    simp only [← hbw]
    go_loopw [10] (fun i wr => ∃ j : Nat, i = .int .i64 j ∧ j ≤ len ∧ Mirror w wr w.heap.size bw j) (fun i _ => len - (intOf i).toNat)
    case atStart =>
      exact ⟨0, rfl, Nat.zero_le _, ⟨_, _, _, none, [], HS.out, Sl.nil _ _ _, (by intro g hg; cases hg), (by simp), HFIT.out⟩⟩
    case round =>
      clear HS HFIT hbw
      obtain ⟨j, rfl, hj, ⟨s, own, v, own2, K, hs, hsl, hk, hKb, hfit⟩⟩ := hrel
      have hroot := hs.root
      by_cases hjl : j < len
      · obtain ⟨had, hbl⟩ := HA.out.at_ (by omega)
        subst had
        obtain ⟨z0, z1, z2, z3, z4⟩ := (HA.out.frm hroot).cell j hjl
        obtain ⟨wh, na, wk, wn, wm, hq⟩ : ∃ wh na wk wn wm, f j = (wh, na, wk, wn, wm) := ⟨_, _, _, _, _, rfl⟩
        rw [hq] at z0 z1 z2 z3 z4
        have HQ := Lib.hid hq
        clear hq
        have HJ := Lib.hid hjl
        simp only at z0 z1 z2 z3 z4
        have hsz := hroot.size
        have x1 : wr.heap.size ≠ b := by omega
        have x3 : wr.heap.size + 1 ≠ b := by omega
        have y0 : b < wr.heap.size := by omega
        have y1 : b < wr.heap.size + 1 := by omega
        have h1 := ((hs.boxed (wordBox 0 0 0)).boxed (wordBox 0 0 0)).less (X' := (bw, .cells (nodeC s v).toArray 39 (0, 0)) :: (wr.heap.size + 1, .cells (wordL (0, 0, 0)).toArray 41 (0, 0)) :: (wr.heap.size, .cells (wordL (0, 0, 0)).toArray 41 (0, 0)) :: K) (by
          intro x hx
          simp only [List.mem_cons] at hx ⊢
          rcases hx with rfl | rfl | rfl | hx
          · simp
          · simp
          · simp
          · simp [hx])
        have hbw : bw < wr.heap.size := hs.ltX (bw, .cells (nodeC s v).toArray 39 (0, 0)) (by simp)
        have nb9 : bw ≠ wr.heap.size := by omega
        have nb10 : bw ≠ wr.heap.size + 1 := by omega
        have n109 : wr.heap.size + 1 ≠ wr.heap.size := by omega
        have hD : Off K bw (wr.heap.size + 1) wr.heap.size := fun x hx => by
          have := hs.ltX x (by simp [hx])
          exact ⟨hKb x hx, by omega, by omega⟩
        have hsl1 : SlN ((wr.alloc (wordBox 0 0 0)).alloc (wordBox 0 0 0)) v s.l own2 := (hsl.alloc _).alloc _
        have h200j : j ≤ 100000 := by omega
        have HS := Lib.hid hs
        have HR := Lib.hid hroot
        have H1 := Lib.hid h1
        have HSZ := Lib.hid hsz
        have NB9 := Lib.hid nb9
        have NB10 := Lib.hid nb10
        have N109 := Lib.hid n109
        have HD := Lib.hid hD
        have HSL := Lib.hid hsl1
        have HK := Lib.hid hk
        have HF := Lib.hid hfit
        have HJ2 := Lib.hid h200j
        clear h200j hfit hk hsl1 hD n109 nb10 nb9 hsz h1 hroot hs
        clear hbw hKb hsl
        have hjl' : (j : Int) < (len : Int) := by omega
        clear hjl
        by_cases q1 : wh = 1
        · subst q1
          go_wp2_with fail
          refine (oneAsk H1.out HF.out HJ2.out).mono ?_; rintro e w2 ⟨rfl, own', h2⟩
          go_wp2_with (with_reducible refine atStore 41 rfl ?_; refine hold' ?_; intro qG hG)
          refine hG.1 ?_
          clear hG qG
          refine wpList_storeB (P := Try.prog) (ty := 41) (cs := wordL s.ask.2) rfl rfl (b := wr.heap.size) (T := 41) (old := wordL (0, 0, 0)) (h2.blk (by simp)) rfl rfl rfl (wordL_info _) (wordL_one _) ?_
          have h3 := h2.set3 NB9.out N109.out HD.out (wordL s.ask.2).toArray
          refine namedL ?_; intro w3 hw3
          rw [← hw3] at h3
          clear hw3
          have sl3 : SlN w3 v s.l own2 := HK.out.sl3 H1.out h3 HSL.out
          have bk : Blk w3 bw 39 (nodeC s v) := h3.blk (by simp)
          have H3 := Lib.hid h3
          have SL3 := Lib.hid sl3
          have BK := Lib.hid bk
          clear bk sl3 h3
          clear h2
          go_wp2_with (with_reducible refine atLoad 39 rfl ?_; refine wpList_loadB (ty := 39) (b := bw) (T := 39) (cs := nodeC s v) rfl rfl BK.out rfl Try.underlying39 rfl (nodeC_info _ _) ?_)
          refine (refAsk_any s v own2 _ SL3.out HF.out.last0 (by have := HF.out.last1; have := HJ2.out; omega) (by have := HF.out.len; have := HJ2.out; omega)).mono ?_; rintro e w4 ⟨v', own3, rfl, hf4, sl4, hg4'⟩
          have hg4 : own3 = own2 ∨ ∀ g, own3 = some g → w3.heap.size ≤ g := .inr hg4'
          clear hg4'
          obtain ⟨K2, h4, hk6, hd6⟩ := H3.out.next hf4 sl4 hg4 HK.out HD.out
          have H4 := Lib.hid h4
          clear h4
          clear hf4
          go_wp2_with (with_reducible refine atStore 39 rfl ?_; refine hold' ?_; intro qG hG)
          refine hG.1 ?_
          clear hG qG
          refine wpList_storeB (P := Try.prog) (ty := 39) (cs := nodeC s.ask.1 v') rfl rfl (b := bw) (T := 39) (old := nodeC s v) (H4.out.blk (by simp)) rfl rfl rfl (nodeC_info _ _) (nodeC_one _ sl4.one) ?_
          have h5 := H4.out.set1 NB10.out NB9.out hd6 (nodeC s.ask.1 v').toArray
          refine wpList_storeB (P := Try.prog) (ty := 41) (cs := wordL s.ask.2) rfl rfl (b := wr.heap.size + 1) (T := 41) (old := wordL (0, 0, 0)) (h5.blk (by simp)) rfl rfl rfl (wordL_info _) (wordL_one _) ?_
          have h6 := h5.set2 NB10.out N109.out hd6 (wordL s.ask.2).toArray
          have sl6 := hk6.sl3 H4.out h6 sl4
          refine namedL ?_; intro w6 hw6
          rw [← hw6] at h6 sl6
          clear hw6
          have fit6 : s.ask.1.Fits (j + 1) := HF.out.ask
          clear h5
          have H6 := Lib.hid h6
          have SL6 := Lib.hid sl6
          have HK6 := Lib.hid hk6
          have HD6 := Lib.hid hd6
          have FIT6 := Lib.hid fit6
          clear fit6 hd6 hk6 sl6 h6
          go_wp2_with fail
          refine (oneEnds H6.out).mono ?_; rintro e w7 ⟨rfl, hf7⟩
          have h7 := H6.out.quiet hf7
          have sl7 : SlN w7 v' (s.ask.1).l own3 := SL6.out.frm hf7 SL6.out.lt (by simp)
          have H7 := Lib.hid h7
          have SL7 := Lib.hid sl7
          clear sl7 h7
          clear hf7 H6 SL6
          have hfx : ∀ W, Frm w7.heap.size [] w7 W → (W.cell? ⟨wr.heap.size, 0, none⟩ = some (.int .i64 (s.ask.2).1) ∧ W.cell? ⟨wr.heap.size, 1, none⟩ = some (.int .i64 (s.ask.2).2.1) ∧ W.cell? ⟨wr.heap.size, 2, none⟩ = some (.int .i64 (s.ask.2).2.2)) ∧
              (W.cell? ⟨wr.heap.size + 1, 0, none⟩ = some (.int .i64 (s.ask.2).1) ∧ W.cell? ⟨wr.heap.size + 1, 1, none⟩ = some (.int .i64 (s.ask.2).2.1) ∧ W.cell? ⟨wr.heap.size + 1, 2, none⟩ = some (.int .i64 (s.ask.2).2.2)) ∧
              (W.cell? ⟨bw, 0, none⟩ = some (.int .i64 (s.ask.1).number) ∧ W.cell? ⟨bw, 1, none⟩ = some (.int .i64 (s.ask.1).term) ∧ W.cell? ⟨bw, 2, none⟩ = some (.int .i64 (s.ask.1).now) ∧ W.cell? ⟨bw, 3, none⟩ = some (.int .i64 (s.ask.1).last) ∧ W.cell? ⟨bw, 4, none⟩ = some (.int .i64 (s.ask.1).end_) ∧ W.cell? ⟨bw, 5, none⟩ = some v') := fun W hW => by
            have h := H7.out.quiet hW
            have k9 : Blk W (wr.heap.size) 41 (wordL s.ask.2) := h.blk (by simp)
            have k10 : Blk W (wr.heap.size + 1) 41 (wordL s.ask.2) := h.blk (by simp)
            have kb : Blk W bw 39 (nodeC (s.ask.1) v') := h.blk (by simp)
            exact ⟨⟨k9.cell 0, k9.cell 1, k9.cell 2⟩, ⟨k10.cell 0, k10.cell 1, k10.cell 2⟩, kb.cell 0, kb.cell 1, kb.cell 2, kb.cell 3, kb.cell 4, kb.cell 5⟩
          have HFX := Lib.hid hfx
          clear hfx
          go_wp2_with fail
          refine wp_region_quiet (C := fun w' => Frm w7.heap.size [] w7 w') (by kernel_rfl) (by kernel_rfl) (Frm.drew (Frm.refl _ _ _)) ?_
          repeat
            refine wpQuiet_step (fun K hK => ?_)
            go_simp
            first
              | (refine hK _ ?_; clear hK K)
              | (apply Exists.intro; refine ⟨fun wq hq => ?_, hK _ ?_⟩; (obtain ⟨⟨p0, p1, p2⟩, ⟨q0, q1, q2⟩, r0, r1, r2, r3, r4, r5⟩ := HFX.out wq hq; first | (go_at_call 27; exact (oneHolds (H7.out.quiet hq)).mono fun e w' ⟨p, q⟩ => ⟨p, hq.call q hq.size (by simp)⟩) | (go_at_call 28; exact (refHoldsN (s.ask.1) v' _).mono fun e w' ⟨p, q⟩ => ⟨p, hq.call q hq.size (by simp)⟩) | (go_simp; done) | (go_simp; rfl)); clear hK K)
          refine wpQuiet_nil ?_
          intro w8 hf8
          have h8 := H7.out.quiet hf8
          have sl8 : SlN w8 v' (s.ask.1).l own3 := SL7.out.frm hf8 SL7.out.lt (by simp)
          have H8 := Lib.hid h8
          have SL8 := Lib.hid sl8
          clear sl8 h8
          clear hf8 HFX
          go_wp2_with fail
          refine ⟨⟨j + 1, by simp, by have := HJ.out; omega, ⟨_, _, v', own3, K2, H8.out.less (fun x hx => by simp only [List.mem_cons] at hx ⊢; rcases hx with rfl | hx <;> simp [*]), SL8.out, HK6.out, fun x hx => (HD6.out x hx).1, FIT6.out⟩⟩, ?_⟩
          have := HJ.out
          simp [intOf]
          omega
        · by_cases q2 : wh = 2
          · subst q2
            go_wp2_with fail
            refine (oneHear H1.out HF.out HJ2.out wk wn wm).mono ?_; rintro e w2 ⟨rfl, own', h2⟩
            have hroot := h2.root
            obtain ⟨z0, z1, z2, z3, z4⟩ := (HA.out.frm hroot).cell j HJ.out
            rw [HQ.out] at z0 z1 z2 z3 z4
            simp only at z0 z1 z2 z3 z4
            have sl3 : SlN w2 v s.l own2 := HK.out.sl3 H1.out h2 HSL.out
            have bk : Blk w2 bw 39 (nodeC s v) := h2.blk (by simp)
            have H2 := Lib.hid h2
            have HR2 := Lib.hid hroot
            have BK := Lib.hid bk
            have SL3 := Lib.hid sl3
            clear sl3 bk hroot h2
            go_wp2_with fail
            refine wp_region_left (by kernel_rfl) ?_
            refine Left.headD 6 (by kernel_rfl) ?_
            simp only [List.take_succ_cons, List.take_zero, List.drop_succ_cons, List.drop_zero, Nat.reduceSub]
            refine wpQuiet_loadB (ty := 39) rfl rfl (b := bw) (T := 39) (cs := nodeC s v) (by rintro _ ⟨nq, rfl⟩; exact BK.out.drew.drewN) rfl Try.underlying39 rfl (nodeC_info _ _) ?_
            repeat (quiet_step (fail))
            refine wpQuiet_nil ?_
            rintro _ ⟨nq, rfl⟩
            refine Left.one rfl (by kernel_rfl) ?_
            go_wp2_with fail
            refine (docHear s v own2 _ (SL3.out.frm (Frm.refl w2.heap.size [] w2).drewN SL3.out.lt (by simp)) HF.out HJ2.out wk wn wm).mono ?_; rintro e w4 ⟨v', own3, rfl, hf4, sl4, hg4⟩
            obtain ⟨K2, h4, hk6, hd6⟩ := (H2.out.quiet (Frm.refl _ _ w2).drewN).next hf4 sl4 hg4 HK.out HD.out
            have H4 := Lib.hid h4
            clear h4
            clear hf4
            go_wp2_with fail
            refine Left.ofH ?_
            refine LeftH.takeK 10 (by kernel_rfl) (fun _ _ d _ _ h => by cases d <;> exact h) trivial ?_
            simp only [List.take_succ_cons, List.take_zero, List.drop_succ_cons, List.drop_zero, Nat.reduceSub]
            iterate 3 (refine wpYield_stepK (v := ?_) rfl ?_ ?_; rotate_left; (· intro W hW; first | (go_simp; rfl) | rfl); (intro K' hK'; (try go_simp); refine hK' _ ?_; clear hK' K'))
            refine LeftH.one rfl (by kernel_rfl) ?_
            refine wpList_storeB (P := Try.prog) (ty := 39) (cs := nodeC (s.hear wk wn wm).1 v') rfl rfl (b := bw) (T := 39) (old := nodeC s v) (H4.out.blk (by simp)) rfl rfl rfl (nodeC_info _ _) (nodeC_one _ sl4.one) ?_
            refine wpList_nil ?_
            refine ⟨trivial, ?_⟩
            refine LeftH.one rfl (by kernel_rfl) ?_
            iterate 4 go_step
            refine ⟨trivial, ?_⟩
            refine LeftH.done rfl (by kernel_rfl) ?_
            have h6 := H4.out.set1 NB10.out NB9.out hd6 (nodeC (s.hear wk wn wm).1 v').toArray
            have sl6 := hk6.sl3 H4.out h6 sl4
            refine named ?_; intro w6 hw6
            rw [← hw6] at h6 sl6
            clear hw6
            have fit6 : (s.hear wk wn wm).1.Fits (j + 1) := (HF.out.hear wk wn wm).mono (Nat.le_succ j)
            clear z0 z1 z2 z3 z4
            have H6 := Lib.hid h6
            have SL6 := Lib.hid sl6
            have HK6 := Lib.hid hk6
            have HD6 := Lib.hid hd6
            have FIT6 := Lib.hid fit6
            clear fit6 hd6 hk6 sl6 h6
            go_wp2_with fail
            refine (oneEnds H6.out).mono ?_; rintro e w7 ⟨rfl, hf7⟩
            have h7 := H6.out.quiet hf7
            have sl7 : SlN w7 v' ((s.hear wk wn wm).1).l own3 := SL6.out.frm hf7 SL6.out.lt (by simp)
            have H7 := Lib.hid h7
            have SL7 := Lib.hid sl7
            clear sl7 h7
            clear hf7 H6 SL6
            have hfx : ∀ W, Frm w7.heap.size [] w7 W → (W.cell? ⟨wr.heap.size, 0, none⟩ = some (.int .i64 ((0, 0, 0)).1) ∧ W.cell? ⟨wr.heap.size, 1, none⟩ = some (.int .i64 ((0, 0, 0)).2.1) ∧ W.cell? ⟨wr.heap.size, 2, none⟩ = some (.int .i64 ((0, 0, 0)).2.2)) ∧
                (W.cell? ⟨wr.heap.size + 1, 0, none⟩ = some (.int .i64 ((0, 0, 0)).1) ∧ W.cell? ⟨wr.heap.size + 1, 1, none⟩ = some (.int .i64 ((0, 0, 0)).2.1) ∧ W.cell? ⟨wr.heap.size + 1, 2, none⟩ = some (.int .i64 ((0, 0, 0)).2.2)) ∧
                (W.cell? ⟨bw, 0, none⟩ = some (.int .i64 ((s.hear wk wn wm).1).number) ∧ W.cell? ⟨bw, 1, none⟩ = some (.int .i64 ((s.hear wk wn wm).1).term) ∧ W.cell? ⟨bw, 2, none⟩ = some (.int .i64 ((s.hear wk wn wm).1).now) ∧ W.cell? ⟨bw, 3, none⟩ = some (.int .i64 ((s.hear wk wn wm).1).last) ∧ W.cell? ⟨bw, 4, none⟩ = some (.int .i64 ((s.hear wk wn wm).1).end_) ∧ W.cell? ⟨bw, 5, none⟩ = some v') := fun W hW => by
              have h := H7.out.quiet hW
              have k9 : Blk W (wr.heap.size) 41 (wordL (0, 0, 0)) := h.blk (by simp)
              have k10 : Blk W (wr.heap.size + 1) 41 (wordL (0, 0, 0)) := h.blk (by simp)
              have kb : Blk W bw 39 (nodeC ((s.hear wk wn wm).1) v') := h.blk (by simp)
              exact ⟨⟨k9.cell 0, k9.cell 1, k9.cell 2⟩, ⟨k10.cell 0, k10.cell 1, k10.cell 2⟩, kb.cell 0, kb.cell 1, kb.cell 2, kb.cell 3, kb.cell 4, kb.cell 5⟩
            have HFX := Lib.hid hfx
            clear hfx
            go_wp2_with fail
            refine wp_region_quiet (C := fun w' => Frm w7.heap.size [] w7 w') (by kernel_rfl) (by kernel_rfl) (Frm.drew (Frm.refl _ _ _)) ?_
            repeat
              refine wpQuiet_step (fun K hK => ?_)
              go_simp
              first
                | (refine hK _ ?_; clear hK K)
                | (apply Exists.intro; refine ⟨fun wq hq => ?_, hK _ ?_⟩; (obtain ⟨⟨p0, p1, p2⟩, ⟨q0, q1, q2⟩, r0, r1, r2, r3, r4, r5⟩ := HFX.out wq hq; first | (go_at_call 27; exact (oneHolds (H7.out.quiet hq)).mono fun e w' ⟨p, q⟩ => ⟨p, hq.call q hq.size (by simp)⟩) | (go_at_call 28; exact (refHoldsN ((s.hear wk wn wm).1) v' _).mono fun e w' ⟨p, q⟩ => ⟨p, hq.call q hq.size (by simp)⟩) | (go_simp; done) | (go_simp; rfl)); clear hK K)
            refine wpQuiet_nil ?_
            intro w8 hf8
            have h8 := H7.out.quiet hf8
            have sl8 : SlN w8 v' ((s.hear wk wn wm).1).l own3 := SL7.out.frm hf8 SL7.out.lt (by simp)
            have H8 := Lib.hid h8
            have SL8 := Lib.hid sl8
            clear sl8 h8
            clear hf8 HFX
            go_wp2_with fail
            refine ⟨⟨j + 1, by simp, by have := HJ.out; omega, ⟨_, _, v', own3, K2, H8.out.less (fun x hx => by simp only [List.mem_cons] at hx ⊢; rcases hx with rfl | hx <;> simp [*]), SL8.out, HK6.out, fun x hx => (HD6.out x hx).1, FIT6.out⟩⟩, ?_⟩
            have := HJ.out
            simp [intOf]
            omega
          · by_cases q3 : wh = 3
            · subst q3
              go_wp2_with fail
              refine (oneBreak H1.out).mono ?_; rintro e w2 ⟨rfl, own', h2⟩
              have sl3 : SlN w2 v s.l own2 := HK.out.sl3 H1.out h2 HSL.out
              obtain ⟨s3, hs3⟩ : ∃ x, x = s.fall := ⟨_, rfl⟩
              have fit6 : s3.Fits (j + 1) := by rw [hs3]; exact HF.out.fall.mono (Nat.le_succ j)
              have hl3 : s3.l = [] := by rw [hs3]; rfl
              simp only [← hs3] at h2
              have bk : Blk w2 bw 39 (nodeC s v) := h2.blk (by simp)
              have H2 := Lib.hid h2
              have BK := Lib.hid bk
              have SL3 := Lib.hid sl3
              clear sl3 bk h2
              clear z0 z1 z2 z3 z4
              go_wp2_with (with_reducible refine atLoad 39 rfl ?_; refine wpList_loadB (ty := 39) (b := bw) (T := 39) (cs := nodeC s v) rfl rfl BK.out rfl Try.underlying39 rfl (nodeC_info _ _) ?_)
              refine (refFall_any s v _ SL3.out.one).mono ?_; rintro e w4 ⟨he, hf4⟩
              rw [← hs3] at he
              subst he
              clear hs3
              obtain ⟨own3, ho3⟩ : ∃ x : Option Nat, x = none := ⟨_, rfl⟩
              have sl4 : SlN w4 (.slice none 0 0) s3.l own3 := by rw [ho3, hl3]; exact Sl.nil _ _ _
              have hg4 : own3 = own2 ∨ ∀ g, own3 = some g → w2.heap.size ≤ g := .inr (by intro g hg; rw [ho3] at hg; cases hg)
              clear ho3
              obtain ⟨K2, h4, hk6, hd6⟩ := H2.out.next hf4 sl4 hg4 HK.out HD.out
              have H4 := Lib.hid h4
              clear h4
              clear hf4
              go_wp2_with (with_reducible refine atStore 39 rfl ?_; refine hold' ?_; intro qG hG)
              refine hG.1 ?_
              clear hG qG
              refine wpList_storeB (P := Try.prog) (ty := 39) (cs := nodeC s3 (.slice none 0 0)) rfl rfl (b := bw) (T := 39) (old := nodeC s v) (H4.out.blk (by simp)) rfl rfl rfl (nodeC_info _ _) (nodeC_one _ sl4.one) ?_
              have h6 := H4.out.set1 NB10.out NB9.out hd6 (nodeC s3 (.slice none 0 0)).toArray
              have sl6 := hk6.sl3 H4.out h6 sl4
              refine namedL ?_; intro w6 hw6
              rw [← hw6] at h6 sl6
              clear hw6
              have H6 := Lib.hid h6
              have SL6 := Lib.hid sl6
              have HK6 := Lib.hid hk6
              have HD6 := Lib.hid hd6
              have FIT6 := Lib.hid fit6
              clear fit6 hd6 hk6 sl6 h6
              go_wp2_with fail
              refine (oneEnds H6.out).mono ?_; rintro e w7 ⟨rfl, hf7⟩
              have h7 := H6.out.quiet hf7
              have sl7 : SlN w7 (.slice none 0 0) (s3).l own3 := SL6.out.frm hf7 SL6.out.lt (by simp)
              have H7 := Lib.hid h7
              have SL7 := Lib.hid sl7
              clear sl7 h7
              clear hf7 H6 SL6
              have hfx : ∀ W, Frm w7.heap.size [] w7 W → (W.cell? ⟨wr.heap.size, 0, none⟩ = some (.int .i64 ((0, 0, 0)).1) ∧ W.cell? ⟨wr.heap.size, 1, none⟩ = some (.int .i64 ((0, 0, 0)).2.1) ∧ W.cell? ⟨wr.heap.size, 2, none⟩ = some (.int .i64 ((0, 0, 0)).2.2)) ∧
                  (W.cell? ⟨wr.heap.size + 1, 0, none⟩ = some (.int .i64 ((0, 0, 0)).1) ∧ W.cell? ⟨wr.heap.size + 1, 1, none⟩ = some (.int .i64 ((0, 0, 0)).2.1) ∧ W.cell? ⟨wr.heap.size + 1, 2, none⟩ = some (.int .i64 ((0, 0, 0)).2.2)) ∧
                  (W.cell? ⟨bw, 0, none⟩ = some (.int .i64 (s3).number) ∧ W.cell? ⟨bw, 1, none⟩ = some (.int .i64 (s3).term) ∧ W.cell? ⟨bw, 2, none⟩ = some (.int .i64 (s3).now) ∧ W.cell? ⟨bw, 3, none⟩ = some (.int .i64 (s3).last) ∧ W.cell? ⟨bw, 4, none⟩ = some (.int .i64 (s3).end_) ∧ W.cell? ⟨bw, 5, none⟩ = some (.slice none 0 0)) := fun W hW => by
                have h := H7.out.quiet hW
                have k9 : Blk W (wr.heap.size) 41 (wordL (0, 0, 0)) := h.blk (by simp)
                have k10 : Blk W (wr.heap.size + 1) 41 (wordL (0, 0, 0)) := h.blk (by simp)
                have kb : Blk W bw 39 (nodeC (s3) (.slice none 0 0)) := h.blk (by simp)
                exact ⟨⟨k9.cell 0, k9.cell 1, k9.cell 2⟩, ⟨k10.cell 0, k10.cell 1, k10.cell 2⟩, kb.cell 0, kb.cell 1, kb.cell 2, kb.cell 3, kb.cell 4, kb.cell 5⟩
              have HFX := Lib.hid hfx
              clear hfx
              go_wp2_with fail
              refine wp_region_quiet (C := fun w' => Frm w7.heap.size [] w7 w') (by kernel_rfl) (by kernel_rfl) (Frm.drew (Frm.refl _ _ _)) ?_
              repeat
                refine wpQuiet_step (fun K hK => ?_)
                go_simp
                first
                  | (refine hK _ ?_; clear hK K)
                  | (apply Exists.intro; refine ⟨fun wq hq => ?_, hK _ ?_⟩; (obtain ⟨⟨p0, p1, p2⟩, ⟨q0, q1, q2⟩, r0, r1, r2, r3, r4, r5⟩ := HFX.out wq hq; first | (go_at_call 27; exact (oneHolds (H7.out.quiet hq)).mono fun e w' ⟨p, q⟩ => ⟨p, hq.call q hq.size (by simp)⟩) | (go_at_call 28; exact (refHoldsN (s3) (.slice none 0 0) _).mono fun e w' ⟨p, q⟩ => ⟨p, hq.call q hq.size (by simp)⟩) | (go_simp; done) | (go_simp; rfl)); clear hK K)
              refine wpQuiet_nil ?_
              intro w8 hf8
              have h8 := H7.out.quiet hf8
              have sl8 : SlN w8 (.slice none 0 0) (s3).l own3 := SL7.out.frm hf8 SL7.out.lt (by simp)
              have H8 := Lib.hid h8
              have SL8 := Lib.hid sl8
              clear sl8 h8
              clear hf8 HFX
              go_wp2_with fail
              refine ⟨⟨j + 1, by simp, by have := HJ.out; omega, ⟨_, _, (.slice none 0 0), own3, K2, H8.out.less (fun x hx => by simp only [List.mem_cons] at hx ⊢; rcases hx with rfl | hx <;> simp [*]), SL8.out, HK6.out, fun x hx => (HD6.out x hx).1, FIT6.out⟩⟩, ?_⟩
              have := HJ.out
              simp [intOf]
              omega
            · by_cases q4 : wh = 4
              · subst q4
                go_wp2_with fail
                refine (oneReturn H1.out HF.out).mono ?_; rintro e w2 ⟨rfl, own', h2⟩
                go_wp2_with (with_reducible refine atStore 41 rfl ?_; refine hold' ?_; intro qG hG)
                refine hG.1 ?_
                clear hG qG
                refine wpList_storeB (P := Try.prog) (ty := 41) (cs := wordL s.back.2.1) rfl rfl (b := wr.heap.size) (T := 41) (old := wordL (0, 0, 0)) (h2.blk (by simp)) rfl rfl rfl (wordL_info _) (wordL_one _) ?_
                have h3 := h2.set3 NB9.out N109.out HD.out (wordL s.back.2.1).toArray
                refine namedL ?_; intro w3 hw3
                rw [← hw3] at h3
                clear hw3
                have sl3 : SlN w3 v s.l own2 := HK.out.sl3 H1.out h3 HSL.out
                have bk : Blk w3 bw 39 (nodeC s v) := h3.blk (by simp)
                have H3 := Lib.hid h3
                have SL3 := Lib.hid sl3
                have BK := Lib.hid bk
                clear bk sl3 h3
                clear h2
                go_wp2_with (with_reducible refine atLoad 39 rfl ?_; refine wpList_loadB (ty := 39) (b := bw) (T := 39) (cs := nodeC s v) rfl rfl BK.out rfl Try.underlying39 rfl (nodeC_info _ _) ?_)
                refine (docReturn s v own2 _ SL3.out).mono ?_; rintro e w4 ⟨v', own3, rfl, hf4, sl4, hg4⟩
                obtain ⟨K2, h4, hk6, hd6⟩ := H3.out.next hf4 sl4 hg4 HK.out HD.out
                have H4 := Lib.hid h4
                clear h4
                clear hf4
                go_wp2_with (with_reducible refine atStore 39 rfl ?_; refine hold' ?_; intro qG hG)
                refine hG.1 ?_
                clear hG qG
                refine wpList_storeB (P := Try.prog) (ty := 39) (cs := nodeC s.back.1 v') rfl rfl (b := bw) (T := 39) (old := nodeC s v) (H4.out.blk (by simp)) rfl rfl rfl (nodeC_info _ _) (nodeC_one _ sl4.one) ?_
                have h5 := H4.out.set1 NB10.out NB9.out hd6 (nodeC s.back.1 v').toArray
                refine wpList_storeB (P := Try.prog) (ty := 41) (cs := wordL s.back.2.1) rfl rfl (b := wr.heap.size + 1) (T := 41) (old := wordL (0, 0, 0)) (h5.blk (by simp)) rfl rfl rfl (wordL_info _) (wordL_one _) ?_
                have h6 := h5.set2 NB10.out N109.out hd6 (wordL s.back.2.1).toArray
                have sl6 := hk6.sl3 H4.out h6 sl4
                refine namedL ?_; intro w6 hw6
                rw [← hw6] at h6 sl6
                clear hw6
                have fit6 : s.back.1.Fits (j + 1) := HF.out.back.mono (Nat.le_succ j)
                clear h5
                have H6 := Lib.hid h6
                have SL6 := Lib.hid sl6
                have HK6 := Lib.hid hk6
                have HD6 := Lib.hid hd6
                have FIT6 := Lib.hid fit6
                clear fit6 hd6 hk6 sl6 h6
                go_wp2_with fail
                refine (oneEnds H6.out).mono ?_; rintro e w7 ⟨rfl, hf7⟩
                have h7 := H6.out.quiet hf7
                have sl7 : SlN w7 v' (s.back.1).l own3 := SL6.out.frm hf7 SL6.out.lt (by simp)
                have H7 := Lib.hid h7
                have SL7 := Lib.hid sl7
                clear sl7 h7
                clear hf7 H6 SL6
                have hfx : ∀ W, Frm w7.heap.size [] w7 W → (W.cell? ⟨wr.heap.size, 0, none⟩ = some (.int .i64 (s.back.2.1).1) ∧ W.cell? ⟨wr.heap.size, 1, none⟩ = some (.int .i64 (s.back.2.1).2.1) ∧ W.cell? ⟨wr.heap.size, 2, none⟩ = some (.int .i64 (s.back.2.1).2.2)) ∧
                    (W.cell? ⟨wr.heap.size + 1, 0, none⟩ = some (.int .i64 (s.back.2.1).1) ∧ W.cell? ⟨wr.heap.size + 1, 1, none⟩ = some (.int .i64 (s.back.2.1).2.1) ∧ W.cell? ⟨wr.heap.size + 1, 2, none⟩ = some (.int .i64 (s.back.2.1).2.2)) ∧
                    (W.cell? ⟨bw, 0, none⟩ = some (.int .i64 (s.back.1).number) ∧ W.cell? ⟨bw, 1, none⟩ = some (.int .i64 (s.back.1).term) ∧ W.cell? ⟨bw, 2, none⟩ = some (.int .i64 (s.back.1).now) ∧ W.cell? ⟨bw, 3, none⟩ = some (.int .i64 (s.back.1).last) ∧ W.cell? ⟨bw, 4, none⟩ = some (.int .i64 (s.back.1).end_) ∧ W.cell? ⟨bw, 5, none⟩ = some v') := fun W hW => by
                  have h := H7.out.quiet hW
                  have k9 : Blk W (wr.heap.size) 41 (wordL s.back.2.1) := h.blk (by simp)
                  have k10 : Blk W (wr.heap.size + 1) 41 (wordL s.back.2.1) := h.blk (by simp)
                  have kb : Blk W bw 39 (nodeC (s.back.1) v') := h.blk (by simp)
                  exact ⟨⟨k9.cell 0, k9.cell 1, k9.cell 2⟩, ⟨k10.cell 0, k10.cell 1, k10.cell 2⟩, kb.cell 0, kb.cell 1, kb.cell 2, kb.cell 3, kb.cell 4, kb.cell 5⟩
                have HFX := Lib.hid hfx
                clear hfx
                go_wp2_with fail
                refine wp_region_quiet (C := fun w' => Frm w7.heap.size [] w7 w') (by kernel_rfl) (by kernel_rfl) (Frm.drew (Frm.refl _ _ _)) ?_
                repeat
                  refine wpQuiet_step (fun K hK => ?_)
                  go_simp
                  first
                    | (refine hK _ ?_; clear hK K)
                    | (apply Exists.intro; refine ⟨fun wq hq => ?_, hK _ ?_⟩; (obtain ⟨⟨p0, p1, p2⟩, ⟨q0, q1, q2⟩, r0, r1, r2, r3, r4, r5⟩ := HFX.out wq hq; first | (go_at_call 27; exact (oneHolds (H7.out.quiet hq)).mono fun e w' ⟨p, q⟩ => ⟨p, hq.call q hq.size (by simp)⟩) | (go_at_call 28; exact (refHoldsN (s.back.1) v' _).mono fun e w' ⟨p, q⟩ => ⟨p, hq.call q hq.size (by simp)⟩) | (go_simp; done) | (go_simp; rfl)); clear hK K)
                refine wpQuiet_nil ?_
                intro w8 hf8
                have h8 := H7.out.quiet hf8
                have sl8 : SlN w8 v' (s.back.1).l own3 := SL7.out.frm hf8 SL7.out.lt (by simp)
                have H8 := Lib.hid h8
                have SL8 := Lib.hid sl8
                clear sl8 h8
                clear hf8 HFX
                go_wp2_with fail
                refine ⟨⟨j + 1, by simp, by have := HJ.out; omega, ⟨_, _, v', own3, K2, H8.out.less (fun x hx => by simp only [List.mem_cons] at hx ⊢; rcases hx with rfl | hx <;> simp [*]), SL8.out, HK6.out, fun x hx => (HD6.out x hx).1, FIT6.out⟩⟩, ?_⟩
                have := HJ.out
                simp [intOf]
                omega
              · go_wp2_with fail
                refine (oneTick H1.out HF.out HJ2.out).mono ?_; rintro e w2 ⟨rfl, own', h2⟩
                have sl3 : SlN w2 v s.l own2 := HK.out.sl3 H1.out h2 HSL.out
                have bk : Blk w2 bw 39 (nodeC s v) := h2.blk (by simp)
                have c2 : w2.cell? ⟨bw, 2, none⟩ = some (.int .i64 s.now) := bk.cell 2
                have k2 := bk.free 2
                have n0 := HF.out.now0
                have n1 : s.now ≤ 100000 := by have := HF.out.now1; have := HJ2.out; omega
                have H2 := Lib.hid h2
                have SL3 := Lib.hid sl3
                clear sl3 h2
                clear z0 z1 z2 z3 z4 bk
                go_wp2_with (go_at_call 26; refine hold' ?_; intro qG hG)
                refine hG.1 ?_
                clear hG qG c2 k2 n0 n1
                have h6 := H2.out.cell1 NB10.out NB9.out HD.out 2 (.int .i64 (s.now + 1))
                obtain ⟨v', hv'⟩ : ∃ x, x = v := ⟨_, rfl⟩
                obtain ⟨own3, ho3⟩ : ∃ x, x = own2 := ⟨_, rfl⟩
                obtain ⟨K2, hK2⟩ : ∃ x, x = K := ⟨_, rfl⟩
                have h6 : One w (w2.setCell ⟨bw, 2, none⟩ (.int .i64 (s.now + 1))) ((bw, .cells (nodeC s.tick v').toArray 39 (0, 0)) :: (wr.heap.size + 1, .cells (wordL (0, 0, 0)).toArray 41 (0, 0)) :: (wr.heap.size, .cells (wordL (0, 0, 0)).toArray 41 (0, 0)) :: K2) ⟨w.heap.size, own', s.tick⟩ := by rw [hv', hK2]; exact h6
                have hk6 : Kept K2 own3 := by rw [hK2, ho3]; exact HK.out
                have hd6 : Off K2 bw (wr.heap.size + 1) wr.heap.size := by rw [hK2]; exact HD.out
                have sl3' : SlN w2 v' s.tick.l own3 := by rw [hv', ho3]; exact SL3.out
                have sl6 := hk6.sl3 (by rw [hK2]; exact H2.out) h6 sl3'
                clear hv' ho3 hK2 sl3'
                have fit6 : s.tick.Fits (j + 1) := HF.out.tick
                have H6 := Lib.hid h6
                have SL6 := Lib.hid sl6
                have HK6 := Lib.hid hk6
                have HD6 := Lib.hid hd6
                have FIT6 := Lib.hid fit6
                clear fit6 hd6 hk6 sl6 h6
                refine (oneEnds H6.out).mono ?_; rintro e w7 ⟨rfl, hf7⟩
                have h7 := H6.out.quiet hf7
                have sl7 : SlN w7 v' (s.tick).l own3 := SL6.out.frm hf7 SL6.out.lt (by simp)
                have H7 := Lib.hid h7
                have SL7 := Lib.hid sl7
                clear sl7 h7
                clear hf7 H6 SL6
                have hfx : ∀ W, Frm w7.heap.size [] w7 W → (W.cell? ⟨wr.heap.size, 0, none⟩ = some (.int .i64 ((0, 0, 0)).1) ∧ W.cell? ⟨wr.heap.size, 1, none⟩ = some (.int .i64 ((0, 0, 0)).2.1) ∧ W.cell? ⟨wr.heap.size, 2, none⟩ = some (.int .i64 ((0, 0, 0)).2.2)) ∧
                    (W.cell? ⟨wr.heap.size + 1, 0, none⟩ = some (.int .i64 ((0, 0, 0)).1) ∧ W.cell? ⟨wr.heap.size + 1, 1, none⟩ = some (.int .i64 ((0, 0, 0)).2.1) ∧ W.cell? ⟨wr.heap.size + 1, 2, none⟩ = some (.int .i64 ((0, 0, 0)).2.2)) ∧
                    (W.cell? ⟨bw, 0, none⟩ = some (.int .i64 (s.tick).number) ∧ W.cell? ⟨bw, 1, none⟩ = some (.int .i64 (s.tick).term) ∧ W.cell? ⟨bw, 2, none⟩ = some (.int .i64 (s.tick).now) ∧ W.cell? ⟨bw, 3, none⟩ = some (.int .i64 (s.tick).last) ∧ W.cell? ⟨bw, 4, none⟩ = some (.int .i64 (s.tick).end_) ∧ W.cell? ⟨bw, 5, none⟩ = some v') := fun W hW => by
                  have h := H7.out.quiet hW
                  have k9 : Blk W (wr.heap.size) 41 (wordL (0, 0, 0)) := h.blk (by simp)
                  have k10 : Blk W (wr.heap.size + 1) 41 (wordL (0, 0, 0)) := h.blk (by simp)
                  have kb : Blk W bw 39 (nodeC (s.tick) v') := h.blk (by simp)
                  exact ⟨⟨k9.cell 0, k9.cell 1, k9.cell 2⟩, ⟨k10.cell 0, k10.cell 1, k10.cell 2⟩, kb.cell 0, kb.cell 1, kb.cell 2, kb.cell 3, kb.cell 4, kb.cell 5⟩
                have HFX := Lib.hid hfx
                clear hfx
                go_wp2_with fail
                refine wp_region_quiet (C := fun w' => Frm w7.heap.size [] w7 w') (by kernel_rfl) (by kernel_rfl) (Frm.drew (Frm.refl _ _ _)) ?_
                repeat
                  refine wpQuiet_step (fun K hK => ?_)
                  go_simp
                  first
                    | (refine hK _ ?_; clear hK K)
                    | (apply Exists.intro; refine ⟨fun wq hq => ?_, hK _ ?_⟩; (obtain ⟨⟨p0, p1, p2⟩, ⟨q0, q1, q2⟩, r0, r1, r2, r3, r4, r5⟩ := HFX.out wq hq; first | (go_at_call 27; exact (oneHolds (H7.out.quiet hq)).mono fun e w' ⟨p, q⟩ => ⟨p, hq.call q hq.size (by simp)⟩) | (go_at_call 28; exact (refHoldsN (s.tick) v' _).mono fun e w' ⟨p, q⟩ => ⟨p, hq.call q hq.size (by simp)⟩) | (go_simp; done) | (go_simp; rfl)); clear hK K)
                refine wpQuiet_nil ?_
                intro w8 hf8
                have h8 := H7.out.quiet hf8
                have sl8 : SlN w8 v' (s.tick).l own3 := SL7.out.frm hf8 SL7.out.lt (by simp)
                have H8 := Lib.hid h8
                have SL8 := Lib.hid sl8
                clear sl8 h8
                clear hf8 HFX
                go_wp2_with fail
                refine ⟨⟨j + 1, by simp, by have := HJ.out; omega, ⟨_, _, v', own3, K2, H8.out.less (fun x hx => by simp only [List.mem_cons] at hx ⊢; rcases hx with rfl | hx <;> simp [*]), SL8.out, HK6.out, fun x hx => (HD6.out x hx).1, FIT6.out⟩⟩, ?_⟩
                have := HJ.out
                simp [intOf]
                omega
      · have hjl' : ¬ (j : Int) < (len : Int) := by omega
        have HS := Lib.hid hs
        have HR := Lib.hid hroot
        clear hroot hs
        go_wp2_with (go_at_call 16; refine (awake_any _).mono ?_; rintro e w3 ⟨rfl, hf3⟩)
        go_ret
        exact ⟨rfl, HR.out.call hf3 HR.out.size (by simp)⟩

set_option maxRecDepth 100000 in
theorem commandNodes_lifted (os : Os) (started : os.Started) (H : Type) (enc : TypeId × Value → H) :
    ReturnsInHanded {} Try.checked os 4 .any (Rows.commandNodesSpec.pre6 enc Try.prog Try.f4 Rows.commandNodesRow.domain false) (Rows.commandNodesSpec.post enc Try.prog Try.f4 false true false false) := by
  refine law_lift (fn := Try.f4) (s := Rows.commandNodesSpec) (conds := Rows.commandNodesRow.domain) started 3 (by kernel_rfl) Try.func4
      (ChangeSpec.witness6 (enc := enc) (C := Try.checked) false ⟨#[], #[.int .i64 0, .int .i64 0, .slice none 0 0], []⟩ 8 (by kernel_rfl) (by kernel_rfl) (by kernel_rfl) (by kernel_rfl))
      (by rw [Try.params4]; decide +kernel) (by rw [Try.params4]; rfl) (by kernel_rfl) rfl (fun ds h => by match ds, h with | [d1, d2, d3], _ => rfl) ?_
  intro W base args ds ps hval hA
  rw [Try.params4] at hA hval
  obtain ⟨v0, vs0, d0, ds0, p0, q0, hargs, rfl, rfl, h0, r0⟩ := trodAll_cons hA
  obtain ⟨v1, vs1, d1, ds1, p1, q1, rfl, rfl, rfl, h1, r1⟩ := trodAll_cons r0
  obtain ⟨v2, vs2, d2, ds2, p2, q2, rfl, rfl, rfl, h2, r2⟩ := trodAll_cons r1
  obtain ⟨rfl, rfl, rfl⟩ := trodAll_nil r2
  obtain rfl : args = #[v0, v1, v2] := by cases args; simp_all
  obtain ⟨a0, rfl, _⟩ := open_int Try.underlying3 (hval 0 3 v0 rfl rfl) h0
  obtain ⟨a1, rfl, _⟩ := open_int Try.underlying3 (hval 1 3 v1 rfl rfl) h1
  obtain ⟨ad, len, cap, b, off, f, rfl, hl, ha⟩ := open_acts (hval 2 36 v2 rfl rfl) h2
  exact nodes_walk a0 a1 ad len cap b off f W hl ha

theorem commandNodes_over : Rows.commandNodesRow.holds Try.pinned (OpenSpec.ofChange Rows.commandNodesSpec) :=
  OpenClaim.holds_of_wide 4 Try.f4 rfl rfl rfl rfl rfl rfl rfl ⟨rfl, rfl, rfl, rfl, rfl⟩ rfl rfl rfl rfl rfl (by kernel_rfl) Try.func4 (by kernel_rfl)
    (of_decide_eq_true (by kernel_rfl)) (by unfold Func.isWrapper; first | (rw [if_pos (by decide +kernel)]; kernel_rfl) | (rw [if_neg (by decide +kernel)]; exact ⟨rfl, rfl⟩))
    (fun os started H enc _ => commandNodes_lifted os started H enc)

/-- The statement. -/
theorem commandNodes_proved : Rows.CommandNodesSaid := commandNodes_over
end Go.Proofs.Ythmladcepkdheaa
