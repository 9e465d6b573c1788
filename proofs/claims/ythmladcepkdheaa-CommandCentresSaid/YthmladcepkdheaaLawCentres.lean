/-
  A centre of the program answers as the document's does, call by call, for any rules and any list of calls.
-/
import Derived.Test.YthmladcepkdheaaRef3
import Derived.Test.YthmladcepkdheaaFrame
import Derived.Test.YthmladcepkdheaaActs
namespace Go.Proofs.Ythmladcepkdheaa
open Go.ChangeShapes Go.WideShapes Go.ChangeAt Go.RowKit

/-- (A goal at which the walk stays.) -/
structure Stay (p : Prop) : Prop where
  out : p
theorem stay {p : Prop} (h : Stay (id p)) : p := h.out
theorem go_on {p : Prop} (h : p) : Stay (id p) := ⟨h⟩

theorem Syst.rebox {o w : World} {X X' : List (Nat × Obj)} {bc bG bM : Nat} {c : CS} {ns : List NP} (h : Syst o w X bc bG bM c ns) {b T : Nat} {old : Array Value} (hb : (b, Obj.cells old T (0, 0)) ∈ X) (cs : Array Value)
    (hX' : ∀ x ∈ X', x = (b, Obj.cells cs T (0, 0)) ∨ (x ∈ X ∧ x.1 ≠ b)) : Syst o (w.setRow b cs) X' bc bG bM c ns := by
  refine h.beside (S := [b]) ((Frm.refl _ _ w).setRow (.inl (by simp)) _) (fun k hk => ⟨_, hb, (List.mem_singleton.1 hk).symm⟩) (fun x hx => ?_) (fun x hx => ?_)
  · rcases hX' x hx with rfl | ⟨h1, h2⟩
    · exact setRow_heap w b _ _ T _ (h.ext _ hb)
    · rw [setRow_other w b x.1 _ h2]; exact h.ext x h1
  · rcases hX' x hx with rfl | ⟨h1, _⟩
    · exact .inl ⟨_, hb, rfl⟩
    · exact .inl ⟨x, h1, rfl⟩

/-- What stands at the start of each round. -/
structure Side (o w : World) (bc bG bM bw : Nat) (j : Nat) : Prop where
  ex : ∃ c r, Syst o w [(bw, .cells r.cells.toArray 59)] bc bG bM c [] ∧ Sim c r j

set_option maxRecDepth 100000 in
set_option maxHeartbeats 8000000 in
theorem centres_walk (nodes term slow : Int) (ad : Option Addr) (len cap b off : Nat) (f : Nat → Int × Int × Int × Int × Int) (w : World) (hl : len ≤ maxLen) (ha : Acts w ad len b off f) :
    Calls Try.prog 5 #[.agg #[.int .i64 nodes, .int .i64 term, .int .i64 slow], .slice ad len cap] w fun e w' => e = .returned (.bool true) ∧ Frm w.heap.size [] w w' := by
  cases hC : (inB term 1 100000 && inB slow 0 1000 && inB nodes 1 8)
  · have HC := Lib.hid hC
    have HA := Lib.hid ha
    clear ha hC
    go_enter Try.func5, Try.ntmps5
    go_wp2_with fail
    refine (newCentre_no _ _ _ _ HC.out).mono ?_; rintro e w1 ⟨rfl, rfl⟩
    go_wp2_with (go_at_call 16; refine (awake_any _).mono ?_; rintro e w3 ⟨rfl, hf3⟩)
    all_goals go_ret
    all_goals exact ⟨rfl, ((Frm.refl _ _ w).alloc (Nat.le_refl _) _).call hf3 (by simp) (by simp)⟩
  by_cases h200 : 200 < (len : Int)
  · have HC := Lib.hid hC
    have HA := Lib.hid ha
    clear ha hC
    go_enter Try.func5, Try.ntmps5
    go_wp2_with fail
    refine (newCentre_any _ _ _ _).mono ?_; rintro e w1 ⟨he, hf1⟩
    rw [if_pos HC.out] at he
    subst he
    have f1 := ((Frm.refl w.heap.size [] w).alloc (Nat.le_refl _) _).call hf1 (by simp) (by simp)
    have F1 := Lib.hid f1
    clear f1
    clear hf1
    go_wp2_with (go_at_call 16; refine (awake_any _).mono ?_; rintro e w3 ⟨rfl, hf3⟩)
    go_ret
    exact ⟨rfl, F1.out.call hf3 F1.out.size (by simp)⟩
  · obtain ⟨hC1, hC2⟩ := Bool.and_eq_true_iff.1 hC
    obtain ⟨n, rfl⟩ := Int.eq_ofNat_of_zero_le (show 0 ≤ nodes by have := inB_iff.1 hC2; omega)
    have HC := Lib.hid hC
    have HA := Lib.hid ha
    have HC1 := Lib.hid hC1
    have HC2 := Lib.hid hC2
    clear hC2 hC1 ha hC
    go_enter Try.func5, Try.ntmps5
    go_wp2_with fail
    refine (newCentre_ok n _ _ _ HC1.out HC2.out).mono ?_; rintro e w1 ⟨rfl, hc1, hf1⟩
    have hb1 := hf1.blk (Blk.new w 23 [.int .i64 n, .int .i64 term, .int .i64 slow]) (by simp) (by simp)
    have x0 := hb1.cell 0
    have x1 := hb1.cell 1
    have x2 := hb1.cell 2
    simp only [List.getElem?_cons_succ, List.getElem?_cons_zero] at x0 x1 x2
    have HH := Lib.hid hc1
    have HF := Lib.hid hf1
    have HB := Lib.hid hb1
    clear hb1 hf1 hc1
    go_wp2_with fail
    have hs : Syst w (w1.alloc (.cells (RS.cells ⟨n, term, slow, 0, 0, 0, 0, 0, 0, 0, 0, 0, 0, 0, 0, 0, 0⟩).toArray 59)) [(w1.heap.size, .cells (RS.cells ⟨n, term, slow, 0, 0, 0, 0, 0, 0, 0, 0, 0, 0, 0, 0, 0, 0⟩).toArray 59)] (w.heap.size + 1 + 1) (w.heap.size + 1) (w.heap.size + 1 + 2) ⟨0, 0, 0, 0, waitN term slow, 0, List.replicate (n + 1) 0⟩ [] := by
      have h0 := (Syst.fresh (o := w) HH.out (((Frm.refl _ _ w).alloc (Nat.le_refl _) _).call HF.out (by simp) (by simp)) (by simp; omega)).boxed (.cells (RS.cells ⟨n, term, slow, 0, 0, 0, 0, 0, 0, 0, 0, 0, 0, 0, 0, 0, 0⟩).toArray 59)
      simpa using h0
    have hsim : Sim ⟨0, 0, 0, 0, waitN term slow, 0, List.replicate (n + 1) 0⟩ ⟨n, term, slow, 0, 0, 0, 0, 0, 0, 0, 0, 0, 0, 0, 0, 0, 0⟩ 0 := by
      have b1 := inB_iff.1 HC2.out
      obtain ⟨c1, c2⟩ := Bool.and_eq_true_iff.1 HC1.out
      have b2 := inB_iff.1 c1
      have b3 := inB_iff.1 c2
      have p1 : 0 ≤ term * (1000 + slow) := Int.mul_nonneg (by omega) (by omega)
      have p2 : term * (1000 + slow) ≤ 100000 * 2000 := Int.mul_le_mul b2.2 (by omega) (by omega) (by omega)
      refine ⟨by simp, by simp only; omega, by simp only; omega, fun i hi => ?_, rfl, rfl, rfl, fun h => absurd rfl h, fun _ => rfl, by simp, by simp, by simp, by simp, by simp, by simp, ?_, ?_, ?_⟩
      · simp only [List.length_replicate] at hi
        have : i < 9 := by omega
        simp only [List.getElem?_replicate, hi, if_true, Option.getD_some]
        match i, this with
        | 0, _ | 1, _ | 2, _ | 3, _ | 4, _ | 5, _ | 6, _ | 7, _ | 8, _ => rfl
      · unfold waitR; rw [if_pos HC1.out]
      · simp only [waitN]; omega
      · simp only [waitN]; omega
    have hroot := hs.root
    have HS := Lib.hid hs
    have HM := Lib.hid hsim
    have HR := Lib.hid hroot
    clear hroot hsim hs
    clear x0 x1 x2 HB HH HF
    obtain ⟨bw, hbw⟩ : ∃ b, b = w1.heap.size := ⟨_, rfl⟩
    rw [← hbw] at HS
    simp only [← hbw]
    go_loopw [8] (fun i wr => ∃ j : Nat, i = .int .i64 j ∧ j ≤ len ∧ Side w wr (w.heap.size + 1 + 1) (w.heap.size + 1) (w.heap.size + 1 + 2) bw j) (fun i _ => len - (intOf i).toNat)
    case atStart =>
      exact ⟨0, rfl, Nat.zero_le _, ⟨_, _, HS.out, HM.out⟩⟩
    case round =>
      clear HS HM HR hbw
      obtain ⟨j, rfl, hj, ⟨c, r, hs, hm⟩⟩ := hrel
      have hroot := hs.root
      by_cases hjl : j < len
      · obtain ⟨had, hbl⟩ := HA.out.at_ (by omega)
        subst had
        obtain ⟨z0, z1, z2, z3, z4⟩ := (HA.out.frm hroot).cell j hjl
        obtain ⟨wh, na, wk, wn, wm, hq⟩ : ∃ wh na wk wn wm, f j = (wh, na, wk, wn, wm) := ⟨_, _, _, _, _, rfl⟩
        rw [hq] at z0 z1 z2 z3 z4
        have HQ := Lib.hid hq
        clear hq
        have HJ := Lib.hid hjl
        simp only at z0 z1 z2 z3 z4
        have hsz := hroot.size
        have x1 : wr.heap.size ≠ b := by omega
        have x3 : wr.heap.size + 1 ≠ b := by omega
        have y0 : b < wr.heap.size := by omega
        have y1 : b < wr.heap.size + 1 := by omega
        have hgl : c.g.length ≤ 100000 := by have := hm.nodes; have := hm.le; omega
        have h1 := (hs.boxed (wordBox 0 0 0)).boxed (wordBox 0 0 0)
        have hbw : bw < wr.heap.size := hs.ltX (bw, .cells r.cells.toArray 59) (by simp)
        have nb9 : bw ≠ wr.heap.size := by omega
        have nb10 : bw ≠ wr.heap.size + 1 := by omega
        clear hbw
        have HS := Lib.hid hs
        have HM := Lib.hid hm
        have HR := Lib.hid hroot
        have H1 := Lib.hid h1
        have HSZ := Lib.hid hsz
        have HGL := Lib.hid hgl
        have NB9 := Lib.hid nb9
        have NB10 := Lib.hid nb10
        clear nb10 nb9 hgl hsz h1 hroot hm hs
        have hjl' : (j : Int) < (len : Int) := by omega
        clear hjl
        by_cases w1' : wh = 1
        · subst w1'
          go_wp2_with fail
          refine (sysWantAny H1.out na HGL.out).mono ?_; rintro e w2 ⟨rfl, h2⟩
          have hroot := h2.root
          obtain ⟨z0, z1, z2, z3, z4⟩ := (HA.out.frm hroot).cell j HJ.out
          rw [HQ.out] at z0 z1 z2 z3 z4
          simp only at z0 z1 z2 z3 z4
          have bk : Blk w2 bw 59 (r).cells := h2.ext (bw, .cells (r).cells.toArray 59) (by simp)
          have H2 := Lib.hid h2
          have HR2 := Lib.hid hroot
          have BK := Lib.hid bk
          clear bk hroot h2
          go_wp2_with fail
          refine wp_region_left (by kernel_rfl) ?_
          refine Left.headD 6 (by kernel_rfl) ?_
          simp only [List.take_succ_cons, List.take_zero, List.drop_succ_cons, List.drop_zero, Nat.reduceSub]
          refine wpQuiet_loadB (ty := 59) rfl rfl (b := bw) (T := 59) (cs := RS.cells r) (by rintro _ ⟨nq, rfl⟩; exact BK.out.drew.drewN) rfl Try.underlying59 rfl (RS.info _) ?_
          repeat (quiet_step (fail))
          refine wpQuiet_nil ?_
          rintro _ ⟨nq, rfl⟩
          refine Left.one rfl (by kernel_rfl) ?_
          go_wp2_with fail
          refine (refWant_one r na _).mono ?_; rintro e w3 ⟨he, hf3⟩
          rw [← (HM.out.want na).1] at he
          subst he
          have h3 := (H2.out.quiet (Frm.refl _ _ w2).drewN).quiet hf3
          have bk3 : Blk w3 bw 59 r.cells := h3.ext (bw, .cells r.cells.toArray 59) (by simp)
          have hm2 := (HM.out.want na).2.mono (Nat.le_succ j)
          have H3 := Lib.hid h3
          have BK3 := Lib.hid bk3
          have HM2 := Lib.hid hm2
          clear hm2 bk3 h3
          clear hf3
          go_wp2_with fail
          refine Left.ofH ?_
          refine LeftH.takeK 10 (by kernel_rfl) (fun _ _ d _ _ h => by cases d <;> exact h) trivial ?_
          simp only [List.take_succ_cons, List.take_zero, List.drop_succ_cons, List.drop_zero, Nat.reduceSub]
          iterate 3 (refine wpYield_stepK (v := ?_) rfl ?_ ?_; rotate_left; (· intro W hW; go_simp; rfl); (intro K' hK'; go_simp; refine hK' _ ?_; clear hK' K'))
          refine LeftH.one rfl (by kernel_rfl) ?_
          refine wpList_storeB (ty := 59) rfl rfl (b := bw) (T := 59) (old := r.cells) (cs := RS.cells (r.want na).1) (BK3.out) rfl rfl rfl (RS.info _) (RS.one _) ?_
          refine wpList_nil ?_
          refine ⟨trivial, ?_⟩
          refine LeftH.one rfl (by kernel_rfl) ?_
          iterate 4 go_step
          refine ⟨trivial, ?_⟩
          refine LeftH.done rfl (by kernel_rfl) ?_
          have h4 := H3.out.rebox (b := bw) (T := 59) (old := r.cells.toArray) (by simp) (RS.cells (r.want na).1).toArray (X' := [(bw, .cells ((r.want na).1).cells.toArray 59), (wr.heap.size + 1, .cells (wordC (0, 0, 0)).toArray 41), (wr.heap.size, .cells (wordC (0, 0, 0)).toArray 41)]) (by intro x hx; simp only [List.mem_cons, List.not_mem_nil, or_false] at hx ⊢; rcases hx with rfl | rfl | rfl <;> simp [NB9.out, NB10.out, NB9.out.symm, NB10.out.symm])
          have hroot := h4.root
          have g4 := h4.word (b := wr.heap.size) (k := ((0, 0, 0)).1) (n := ((0, 0, 0)).2.1) (m := ((0, 0, 0)).2.2) (by simp [wordBox])
          have H4 := Lib.hid h4
          clear h4
          clear hroot g4
          go_wp2_with fail
          refine (sysLease H4.out).mono ?_; rintro e w5 ⟨rfl, h5⟩
          have bk : Blk w5 bw 59 ((r.want na).1).cells := h5.ext (bw, .cells ((r.want na).1).cells.toArray 59) (by simp)
          have H5 := Lib.hid h5
          have BK5 := Lib.hid bk
          clear bk h5
          clear H4
          go_wp2_with (first
            | (with_reducible refine atLoad 59 rfl ?_; refine wpList_loadB (ty := 59) (b := bw) (T := 59) (cs := RS.cells ((r.want na).1)) rfl rfl BK5.out rfl Try.underlying59 rfl (RS.info _) ?_))
          refine (refLeased_any ((r.want na).1) _).mono ?_; rintro e w6 ⟨he, hf6⟩
          rw [HM2.out.leased] at he
          simp only at he
          subst he
          have h6 := H5.out.quiet hf6
          obtain ⟨p0, p1, p2⟩ := h6.word (b := wr.heap.size) (k := ((0, 0, 0)).1) (n := ((0, 0, 0)).2.1) (m := ((0, 0, 0)).2.2) (by simp [wordBox])
          obtain ⟨q0, q1, q2⟩ := h6.word (b := wr.heap.size + 1) (k := ((0, 0, 0)).1) (n := ((0, 0, 0)).2.1) (m := ((0, 0, 0)).2.2) (by simp [wordBox])
          have cl : w6.cell? ⟨bw, 14, none⟩ = some (.int .i64 ((c.want na).1).node) := by
            rw [HM2.out.lease]
            exact (show Blk w6 bw 59 ((r.want na).1).cells from h6.ext (bw, .cells ((r.want na).1).cells.toArray 59) (by simp)).cell 14
          have H6 := Lib.hid h6
          clear h6
          clear hf6 H5 BK5
          go_wp2_with fail
          go_quiet ((go_at_call 39; exact Calls.quiet_of_same ((sysHoldsC (H6.out.quiet (Frm.refl _ _ w6).drewN)).mono fun e w' ⟨h, k⟩ => ⟨h, k.symm⟩)))
          clear p0 p1 p2 q0 q1 q2 cl
          go_wp2_with fail
          refine ⟨⟨j + 1, by simp, by have := HJ.out; omega, ⟨_, _, (H6.out.quiet (Frm.refl _ _ w6).drewN).less (fun x hx => by simp at hx; subst hx; simp), HM2.out⟩⟩, ?_⟩
          have := HJ.out
          simp [intOf]
          omega
        · by_cases w2' : wh = 2
          · subst w2'
            go_wp2_with fail
            refine (sysHearAny H1.out wk wn wm HGL.out).mono ?_; rintro e w2 ⟨rfl, h2⟩
            obtain ⟨s0, s1, s2⟩ := h2.word (b := wr.heap.size) (k := 0) (n := 0) (m := 0) (by simp)
            have H2 := Lib.hid h2
            clear h2
            clear z0 z1 z2 z3 z4
            go_wp2_with (with_reducible refine atStore 41 rfl ?_; refine stay ?_)
            refine go_on ?_
            refine wpList_storeB (P := Try.prog) (ty := 41) (cs := wordC (c.heard wk wn wm).2.1) rfl rfl (b := wr.heap.size) (T := 41) (old := wordC (0, 0, 0)) (H2.out.ext (wr.heap.size, wordBox 0 0 0) (by simp)) rfl rfl rfl (word_info _) (word_one _) ?_
            have h2b := H2.out.rebox (b := wr.heap.size) (T := 41) (old := (wordC (0, 0, 0)).toArray) (by simp [wordBox]) (wordC (c.heard wk wn wm).2.1).toArray (X' := [(bw, .cells r.cells.toArray 59), (wr.heap.size + 1, .cells (wordC (0, 0, 0)).toArray 41), (wr.heap.size, .cells (wordC (c.heard wk wn wm).2.1).toArray 41)]) (by intro x hx; simp only [List.mem_cons, List.not_mem_nil, or_false] at hx ⊢; rcases hx with rfl | rfl | rfl <;> simp [NB9.out, NB10.out, NB9.out.symm, NB10.out.symm, wordBox])
            obtain ⟨w2b, hw2b⟩ : ∃ W, W = w2.setRow wr.heap.size (wordC (c.heard wk wn wm).2.1).toArray := ⟨_, rfl⟩
            rw [← hw2b] at h2b ⊢
            clear hw2b s0 s1 s2 H2
            have hroot := h2b.root
            obtain ⟨z0, z1, z2, z3, z4⟩ := (HA.out.frm hroot).cell j HJ.out
            rw [HQ.out] at z0 z1 z2 z3 z4
            simp only at z0 z1 z2 z3 z4
            have bk : Blk w2b bw 59 (r).cells := h2b.ext (bw, .cells (r).cells.toArray 59) (by simp)
            have H2 := Lib.hid h2b
            have HR2 := Lib.hid hroot
            have BK := Lib.hid bk
            clear bk hroot h2b
            go_wp2_with fail
            refine wp_region_left (by kernel_rfl) ?_
            refine Left.headD 6 (by kernel_rfl) ?_
            simp only [List.take_succ_cons, List.take_zero, List.drop_succ_cons, List.drop_zero, Nat.reduceSub]
            refine wpQuiet_loadB (ty := 59) rfl rfl (b := bw) (T := 59) (cs := RS.cells r) (by rintro _ ⟨nq, rfl⟩; exact BK.out.drew.drewN) rfl Try.underlying59 rfl (RS.info _) ?_
            repeat (quiet_step (fail))
            refine wpQuiet_nil ?_
            rintro _ ⟨nq, rfl⟩
            refine Left.one rfl (by kernel_rfl) ?_
            go_wp2_with fail
            refine (refHear_one r wk wn wm _ HM.out.le).mono ?_; rintro e w3 ⟨he, hf3⟩
            rw [hearV, ← (HM.out.heard wk wn wm).1] at he
            subst he
            have h3 := (H2.out.quiet (Frm.refl _ _ w2b).drewN).quiet hf3
            have bk3 : Blk w3 bw 59 r.cells := h3.ext (bw, .cells r.cells.toArray 59) (by simp)
            have by3 : Blk w3 (wr.heap.size + 1) 41 (wordC (0, 0, 0)) := h3.ext (wr.heap.size + 1, .cells (wordC (0, 0, 0)).toArray 41) (by simp)
            have hm2 := (HM.out.heard wk wn wm).2.mono (Nat.le_succ j)
            have H3 := Lib.hid h3
            have BK3 := Lib.hid bk3
            have BY3 := Lib.hid by3
            have HM2 := Lib.hid hm2
            clear hm2 by3 bk3 h3
            clear hf3
            go_wp2_with fail
            refine Left.ofH ?_
            refine LeftH.takeK 11 (by kernel_rfl) (fun _ _ d _ _ h => by cases d <;> exact h) trivial ?_
            simp only [List.take_succ_cons, List.take_zero, List.drop_succ_cons, List.drop_zero, Nat.reduceSub]
            iterate 4 (refine wpYield_stepK (v := ?_) rfl ?_ ?_; rotate_left; (· intro W hW; go_simp; rfl); (intro K' hK'; go_simp; refine hK' _ ?_; clear hK' K'))
            refine LeftH.one rfl (by kernel_rfl) ?_
            refine wpList_storeB (ty := 59) rfl rfl (b := bw) (T := 59) (old := r.cells) (cs := RS.cells (r.heard wk wn wm).1) (BK3.out) rfl rfl rfl (RS.info _) (RS.one _) ?_
            refine wpList_nil ?_
            refine ⟨trivial, ?_⟩
            refine LeftH.one rfl (by kernel_rfl) ?_
            refine wpList_storeB (P := Try.prog) (ty := 41) (cs := wordC (c.heard wk wn wm).2.1) rfl rfl (b := wr.heap.size + 1) (T := 41) (old := wordC (0, 0, 0)) (Blk.rowO NB10.out BY3.out) rfl rfl rfl (word_info _) (word_one _) ?_
            refine wpList_nil ?_
            refine ⟨trivial, ?_⟩
            refine LeftH.one rfl (by kernel_rfl) ?_
            iterate 4 go_step
            refine ⟨trivial, ?_⟩
            refine LeftH.done rfl (by kernel_rfl) ?_
            have h4a := H3.out.rebox (b := bw) (T := 59) (old := r.cells.toArray) (by simp) (RS.cells (r.heard wk wn wm).1).toArray (X' := [(bw, .cells (r.heard wk wn wm).1.cells.toArray 59), (wr.heap.size + 1, .cells (wordC (0, 0, 0)).toArray 41), (wr.heap.size, .cells (wordC (c.heard wk wn wm).2.1).toArray 41)]) (by intro x hx; simp only [List.mem_cons, List.not_mem_nil, or_false] at hx ⊢; rcases hx with rfl | rfl | rfl <;> simp [NB9.out, NB10.out, NB9.out.symm, NB10.out.symm, wordBox])
            have h4 := h4a.rebox (b := wr.heap.size + 1) (T := 41) (old := (wordC (0, 0, 0)).toArray) (by simp) (wordC (c.heard wk wn wm).2.1).toArray (X' := [(bw, .cells ((r.heard wk wn wm).1).cells.toArray 59), (wr.heap.size + 1, .cells (wordC (c.heard wk wn wm).2.1).toArray 41), (wr.heap.size, .cells (wordC (c.heard wk wn wm).2.1).toArray 41)]) (by intro x hx; simp only [List.mem_cons, List.not_mem_nil, or_false] at hx ⊢; rcases hx with rfl | rfl | rfl <;> simp [NB9.out, NB10.out, NB9.out.symm, NB10.out.symm, wordBox])
            clear h4a
            have hroot := h4.root
            have g4 := h4.word (b := wr.heap.size) (k := ((c.heard wk wn wm).2.1).1) (n := ((c.heard wk wn wm).2.1).2.1) (m := ((c.heard wk wn wm).2.1).2.2) (by simp [wordBox])
            have H4 := Lib.hid h4
            clear h4
            clear hroot g4
            go_wp2_with fail
            refine (sysLease H4.out).mono ?_; rintro e w5 ⟨rfl, h5⟩
            have bk : Blk w5 bw 59 ((r.heard wk wn wm).1).cells := h5.ext (bw, .cells ((r.heard wk wn wm).1).cells.toArray 59) (by simp)
            have H5 := Lib.hid h5
            have BK5 := Lib.hid bk
            clear bk h5
            clear H4
            go_wp2_with (first
              | (with_reducible refine atLoad 59 rfl ?_; refine wpList_loadB (ty := 59) (b := bw) (T := 59) (cs := RS.cells ((r.heard wk wn wm).1)) rfl rfl BK5.out rfl Try.underlying59 rfl (RS.info _) ?_))
            refine (refLeased_any ((r.heard wk wn wm).1) _).mono ?_; rintro e w6 ⟨he, hf6⟩
            rw [HM2.out.leased] at he
            simp only at he
            subst he
            have h6 := H5.out.quiet hf6
            obtain ⟨p0, p1, p2⟩ := h6.word (b := wr.heap.size) (k := ((c.heard wk wn wm).2.1).1) (n := ((c.heard wk wn wm).2.1).2.1) (m := ((c.heard wk wn wm).2.1).2.2) (by simp [wordBox])
            obtain ⟨q0, q1, q2⟩ := h6.word (b := wr.heap.size + 1) (k := ((c.heard wk wn wm).2.1).1) (n := ((c.heard wk wn wm).2.1).2.1) (m := ((c.heard wk wn wm).2.1).2.2) (by simp [wordBox])
            have cl : w6.cell? ⟨bw, 14, none⟩ = some (.int .i64 ((c.heard wk wn wm).1).node) := by
              rw [HM2.out.lease]
              exact (show Blk w6 bw 59 ((r.heard wk wn wm).1).cells from h6.ext (bw, .cells ((r.heard wk wn wm).1).cells.toArray 59) (by simp)).cell 14
            have H6 := Lib.hid h6
            clear h6
            clear hf6 H5 BK5
            go_wp2_with fail
            go_quiet ((go_at_call 39; exact Calls.quiet_of_same ((sysHoldsC (H6.out.quiet (Frm.refl _ _ w6).drewN)).mono fun e w' ⟨h, k⟩ => ⟨h, k.symm⟩)))
            clear p0 p1 p2 q0 q1 q2 cl
            go_wp2_with fail
            refine ⟨⟨j + 1, by simp, by have := HJ.out; omega, ⟨_, _, (H6.out.quiet (Frm.refl _ _ w6).drewN).less (fun x hx => by simp at hx; subst hx; simp), HM2.out⟩⟩, ?_⟩
            have := HJ.out
            simp [intOf]
            omega
          · by_cases w3' : wh = 3
            · subst w3'
              go_wp2_with fail
              refine (sysBreakC H1.out).mono ?_; rintro e w2 ⟨rfl, h2⟩
              have hroot := h2.root
              obtain ⟨z0, z1, z2, z3, z4⟩ := (HA.out.frm hroot).cell j HJ.out
              rw [HQ.out] at z0 z1 z2 z3 z4
              simp only at z0 z1 z2 z3 z4
              have bk : Blk w2 bw 59 (r).cells := h2.ext (bw, .cells (r).cells.toArray 59) (by simp)
              have H2 := Lib.hid h2
              have HR2 := Lib.hid hroot
              have BK := Lib.hid bk
              clear bk hroot h2
              clear z0 z1 z2 z3 z4
              go_wp2_with (first
                | (with_reducible refine atLoad 59 rfl ?_; refine wpList_loadB (ty := 59) (b := bw) (T := 59) (cs := RS.cells r) rfl rfl BK.out rfl Try.underlying59 rfl (RS.info _) ?_))
              refine (refBreak_any r _).mono ?_; rintro e w3 ⟨rfl, hf3⟩
              have h3 := H2.out.quiet hf3
              have bk3 : Blk w3 bw 59 r.cells := h3.ext (bw, .cells r.cells.toArray 59) (by simp)
              have hm2 := HM.out.brk.mono (Nat.le_succ j)
              have H3 := Lib.hid h3
              have BK3 := Lib.hid bk3
              have HM2 := Lib.hid hm2
              clear hm2 bk3 h3
              clear hf3
              go_wp2_with (first
                | (with_reducible refine atStore 59 rfl ?_; refine stay ?_))
              refine go_on ?_
              refine wpList_storeB (ty := 59) rfl rfl (b := bw) (T := 59) (old := r.cells) (cs := RS.cells r.brk) (BK3.out) rfl rfl rfl (RS.info _) (RS.one _) ?_
              refine namedL ?_; intro w4 hw4
              have h4 : Syst w w4 [(bw, .cells (r.brk).cells.toArray 59), (wr.heap.size + 1, .cells (wordC (0, 0, 0)).toArray 41), (wr.heap.size, .cells (wordC (0, 0, 0)).toArray 41)] (w.heap.size + 1 + 1) (w.heap.size + 1) (w.heap.size + 1 + 2) c.brk [] := by
                rw [hw4]
                exact H3.out.rebox (b := bw) (T := 59) (old := r.cells.toArray) (by simp) (RS.cells r.brk).toArray (by intro x hx; simp only [List.mem_cons, List.not_mem_nil, or_false] at hx ⊢; rcases hx with rfl | rfl | rfl <;> simp [NB9.out, NB10.out, NB9.out.symm, NB10.out.symm, wordBox])
              clear hw4
              have hroot := h4.root
              have g4 := h4.word (b := wr.heap.size) (k := ((0, 0, 0)).1) (n := ((0, 0, 0)).2.1) (m := ((0, 0, 0)).2.2) (by simp [wordBox])
              have H4 := Lib.hid h4
              clear h4
              clear hroot g4
              go_wp2_with fail
              refine (sysLease H4.out).mono ?_; rintro e w5 ⟨rfl, h5⟩
              have bk : Blk w5 bw 59 (r.brk).cells := h5.ext (bw, .cells (r.brk).cells.toArray 59) (by simp)
              have H5 := Lib.hid h5
              have BK5 := Lib.hid bk
              clear bk h5
              clear H4
              go_wp2_with (first
                | (with_reducible refine atLoad 59 rfl ?_; refine wpList_loadB (ty := 59) (b := bw) (T := 59) (cs := RS.cells (r.brk)) rfl rfl BK5.out rfl Try.underlying59 rfl (RS.info _) ?_))
              refine (refLeased_any (r.brk) _).mono ?_; rintro e w6 ⟨he, hf6⟩
              rw [HM2.out.leased] at he
              simp only at he
              subst he
              have h6 := H5.out.quiet hf6
              obtain ⟨p0, p1, p2⟩ := h6.word (b := wr.heap.size) (k := ((0, 0, 0)).1) (n := ((0, 0, 0)).2.1) (m := ((0, 0, 0)).2.2) (by simp [wordBox])
              obtain ⟨q0, q1, q2⟩ := h6.word (b := wr.heap.size + 1) (k := ((0, 0, 0)).1) (n := ((0, 0, 0)).2.1) (m := ((0, 0, 0)).2.2) (by simp [wordBox])
              have cl : w6.cell? ⟨bw, 14, none⟩ = some (.int .i64 (c.brk).node) := by
                rw [HM2.out.lease]
                exact (show Blk w6 bw 59 (r.brk).cells from h6.ext (bw, .cells (r.brk).cells.toArray 59) (by simp)).cell 14
              have H6 := Lib.hid h6
              clear h6
              clear hf6 H5 BK5
              go_wp2_with fail
              go_quiet ((go_at_call 39; exact Calls.quiet_of_same ((sysHoldsC (H6.out.quiet (Frm.refl _ _ w6).drewN)).mono fun e w' ⟨h, k⟩ => ⟨h, k.symm⟩)))
              clear p0 p1 p2 q0 q1 q2 cl
              go_wp2_with fail
              refine ⟨⟨j + 1, by simp, by have := HJ.out; omega, ⟨_, _, (H6.out.quiet (Frm.refl _ _ w6).drewN).less (fun x hx => by simp at hx; subst hx; simp), HM2.out⟩⟩, ?_⟩
              have := HJ.out
              simp [intOf]
              omega
            · skip
              go_wp2_with fail
              refine (sysTickC H1.out HM.out.now0 (by have := HM.out.now1; have := HJ.out; omega) HM.out.since0 (by have := HM.out.since1; have := HM.out.now1; have := HJ.out; omega) HM.out.wait0 HM.out.wait1).mono ?_; rintro e w2 ⟨rfl, h2⟩
              have hroot := h2.root
              obtain ⟨z0, z1, z2, z3, z4⟩ := (HA.out.frm hroot).cell j HJ.out
              rw [HQ.out] at z0 z1 z2 z3 z4
              simp only at z0 z1 z2 z3 z4
              have bk : Blk w2 bw 59 (r).cells := h2.ext (bw, .cells (r).cells.toArray 59) (by simp)
              have H2 := Lib.hid h2
              have HR2 := Lib.hid hroot
              have BK := Lib.hid bk
              clear bk hroot h2
              clear z0 z1 z2 z3 z4
              go_wp2_with (first
                | (with_reducible refine atLoad 59 rfl ?_; refine wpList_loadB (ty := 59) (b := bw) (T := 59) (cs := RS.cells r) rfl rfl BK.out rfl Try.underlying59 rfl (RS.info _) ?_))
              refine (refTick_any r _ c.wait 0 HM.out.wait (by have := HM.out.now0; have := HM.out.now; omega) (by have := HM.out.now; have := HM.out.now1; have := HJ.out; omega) HM.out.sinceR0 (by have := HM.out.sinceR1; have := HM.out.now1; have := HJ.out; omega) HM.out.wait0 HM.out.wait1).mono ?_; rintro e w3 ⟨rfl, hf3⟩
              have h3 := H2.out.quiet hf3
              have bk3 : Blk w3 bw 59 r.cells := h3.ext (bw, .cells r.cells.toArray 59) (by simp)
              have hm2 := HM.out.tick
              have H3 := Lib.hid h3
              have BK3 := Lib.hid bk3
              have HM2 := Lib.hid hm2
              clear hm2 bk3 h3
              clear hf3
              go_wp2_with (first
                | (with_reducible refine atStore 59 rfl ?_; refine stay ?_))
              refine go_on ?_
              refine wpList_storeB (ty := 59) rfl rfl (b := bw) (T := 59) (old := r.cells) (cs := RS.cells (r.tick c.wait)) (BK3.out) rfl rfl rfl (RS.info _) (RS.one _) ?_
              refine namedL ?_; intro w4 hw4
              have h4 : Syst w w4 [(bw, .cells ((r.tick c.wait)).cells.toArray 59), (wr.heap.size + 1, .cells (wordC (0, 0, 0)).toArray 41), (wr.heap.size, .cells (wordC (0, 0, 0)).toArray 41)] (w.heap.size + 1 + 1) (w.heap.size + 1) (w.heap.size + 1 + 2) c.tick [] := by
                rw [hw4]
                exact H3.out.rebox (b := bw) (T := 59) (old := r.cells.toArray) (by simp) (RS.cells (r.tick c.wait)).toArray (by intro x hx; simp only [List.mem_cons, List.not_mem_nil, or_false] at hx ⊢; rcases hx with rfl | rfl | rfl <;> simp [NB9.out, NB10.out, NB9.out.symm, NB10.out.symm, wordBox])
              clear hw4
              have hroot := h4.root
              have g4 := h4.word (b := wr.heap.size) (k := ((0, 0, 0)).1) (n := ((0, 0, 0)).2.1) (m := ((0, 0, 0)).2.2) (by simp [wordBox])
              have H4 := Lib.hid h4
              clear h4
              clear hroot g4
              go_wp2_with fail
              refine (sysLease H4.out).mono ?_; rintro e w5 ⟨rfl, h5⟩
              have bk : Blk w5 bw 59 ((r.tick c.wait)).cells := h5.ext (bw, .cells ((r.tick c.wait)).cells.toArray 59) (by simp)
              have H5 := Lib.hid h5
              have BK5 := Lib.hid bk
              clear bk h5
              clear H4
              go_wp2_with (first
                | (with_reducible refine atLoad 59 rfl ?_; refine wpList_loadB (ty := 59) (b := bw) (T := 59) (cs := RS.cells ((r.tick c.wait))) rfl rfl BK5.out rfl Try.underlying59 rfl (RS.info _) ?_))
              refine (refLeased_any ((r.tick c.wait)) _).mono ?_; rintro e w6 ⟨he, hf6⟩
              rw [HM2.out.leased] at he
              simp only at he
              subst he
              have h6 := H5.out.quiet hf6
              obtain ⟨p0, p1, p2⟩ := h6.word (b := wr.heap.size) (k := ((0, 0, 0)).1) (n := ((0, 0, 0)).2.1) (m := ((0, 0, 0)).2.2) (by simp [wordBox])
              obtain ⟨q0, q1, q2⟩ := h6.word (b := wr.heap.size + 1) (k := ((0, 0, 0)).1) (n := ((0, 0, 0)).2.1) (m := ((0, 0, 0)).2.2) (by simp [wordBox])
              have cl : w6.cell? ⟨bw, 14, none⟩ = some (.int .i64 (c.tick).node) := by
                rw [HM2.out.lease]
                exact (show Blk w6 bw 59 ((r.tick c.wait)).cells from h6.ext (bw, .cells ((r.tick c.wait)).cells.toArray 59) (by simp)).cell 14
              have H6 := Lib.hid h6
              clear h6
              clear hf6 H5 BK5
              go_wp2_with fail
              go_quiet ((go_at_call 39; exact Calls.quiet_of_same ((sysHoldsC (H6.out.quiet (Frm.refl _ _ w6).drewN)).mono fun e w' ⟨h, k⟩ => ⟨h, k.symm⟩)))
              clear p0 p1 p2 q0 q1 q2 cl
              go_wp2_with fail
              refine ⟨⟨j + 1, by simp, by have := HJ.out; omega, ⟨_, _, (H6.out.quiet (Frm.refl _ _ w6).drewN).less (fun x hx => by simp at hx; subst hx; simp), HM2.out⟩⟩, ?_⟩
              have := HJ.out
              simp [intOf]
              omega
      · have hjl' : ¬ (j : Int) < (len : Int) := by omega
        have HS := Lib.hid hs
        have HM := Lib.hid hm
        have HR := Lib.hid hroot
        clear hroot hm hs
        go_wp2_with (go_at_call 16; refine (awake_any _).mono ?_; rintro e w3 ⟨rfl, hf3⟩)
        go_ret
        exact ⟨rfl, HR.out.call hf3 HR.out.size (by simp)⟩

set_option maxRecDepth 100000 in
theorem commandCentres_lifted (os : Os) (started : os.Started) (H : Type) (enc : TypeId × Value → H) :
    ReturnsInHanded {} Try.checked os 5 .any (Rows.commandCentresSpec.pre6 enc Try.prog Try.f5 Rows.commandCentresRow.domain false) (Rows.commandCentresSpec.post enc Try.prog Try.f5 false true false false) := by
  refine law_lift (fn := Try.f5) (s := Rows.commandCentresSpec) (conds := Rows.commandCentresRow.domain) started 2 (by kernel_rfl) Try.func5
      (ChangeSpec.witness6 (enc := enc) (C := Try.checked) false ⟨#[], #[.agg #[.int .i64 0, .int .i64 0, .int .i64 0], .slice none 0 0], []⟩ 8 (by kernel_rfl) (by kernel_rfl) (by kernel_rfl) (by kernel_rfl))
      (by rw [Try.params5]; decide +kernel) (by rw [Try.params5]; rfl) (by kernel_rfl) rfl (fun ds h => by match ds, h with | [d1, d2], _ => rfl) ?_
  intro W base args ds ps hval hA
  rw [Try.params5] at hA hval
  obtain ⟨v0, vs0, d0, ds0, p0, q0, hargs, rfl, rfl, h0, r0⟩ := trodAll_cons hA
  obtain ⟨v1, vs1, d1, ds1, p1, q1, rfl, rfl, rfl, h1, r1⟩ := trodAll_cons r0
  obtain ⟨rfl, rfl, rfl⟩ := trodAll_nil r1
  obtain rfl : args = #[v0, v1] := by cases args; simp_all
  obtain ⟨c0, c1, c2, y0, y1, y2, n, rfl, _, _, k0, k1, k2⟩ := Joins.open_agg3 Try.underlying23 (by kernel_rfl) (by kernel_rfl) (hval 0 23 v0 rfl rfl) h0
  obtain ⟨a0, e0, _, _⟩ := DataW.trod_int Try.underlying3 k0
  obtain ⟨a1, e1, _, _⟩ := DataW.trod_int Try.underlying3 k1
  obtain ⟨a2, e2, _, _⟩ := DataW.trod_int Try.underlying3 k2
  obtain ⟨rfl, _⟩ := List.cons.inj e0
  obtain ⟨rfl, _⟩ := List.cons.inj e1
  obtain ⟨rfl, _⟩ := List.cons.inj e2
  obtain ⟨ad, len, cap, b, off, f, rfl, hl, ha⟩ := open_acts (hval 1 36 v1 rfl rfl) h1
  exact centres_walk a0 a1 a2 ad len cap b off f W hl ha

theorem commandCentres_over : Rows.commandCentresRow.holds Try.pinned (OpenSpec.ofChange Rows.commandCentresSpec) :=
  OpenClaim.holds_of_wide 5 Try.f5 rfl rfl rfl rfl rfl rfl rfl ⟨rfl, rfl, rfl, rfl, rfl⟩ rfl rfl rfl rfl rfl (by kernel_rfl) Try.func5 (by kernel_rfl)
    (of_decide_eq_true (by kernel_rfl)) (by unfold Func.isWrapper; first | (rw [if_pos (by decide +kernel)]; kernel_rfl) | (rw [if_neg (by decide +kernel)]; exact ⟨rfl, rfl⟩))
    (fun os started H enc _ => commandCentres_lifted os started H enc)

/-- The statement. -/
theorem commandCentres_proved : Rows.CommandCentresSaid := commandCentres_over
end Go.Proofs.Ythmladcepkdheaa
