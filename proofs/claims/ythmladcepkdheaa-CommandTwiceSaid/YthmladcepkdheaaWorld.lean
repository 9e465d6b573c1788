/-
  The law's world in memory: whether the centre's clock may tick, and how many hold.
-/
import Derived.Test.YthmladcepkdheaaPure3
import Derived.Test.YthmladcepkdheaaOne
namespace Go.Proofs.Ythmladcepkdheaa
open Go.RowKit

/-- A world's cells: the centre, the slices of nodes, words, gaps, edges, and how slow clocks may be. -/
def worldC (bc : Nat) (vN vS vG vE : Value) (slow : Int) : List Value := [.pointer (some ⟨bc, 0, none⟩), vN, vS, vG, vE, .int .i64 slow]
theorem worldC_len (bc : Nat) (vN vS vG vE : Value) (slow : Int) : (worldC bc vN vS vG vE slow).length = 6 := rfl
theorem info75 : (Try.prog.info? 75).map (fun i => i.size) = some 6 := by kernel_rfl
theorem worldC_info (bc : Nat) (vN vS vG vE : Value) (slow : Int) : (Try.prog.info? 75).map (fun i => i.size) = some (worldC bc vN vS vG vE slow).length := info75

/-- All gaps up to j are closed. -/
def closedB (gap edge : List Int) (j : Nat) : Prop := ∀ i, i < j → gap.getD i 0 ≤ edge.getD i 0

set_option maxRecDepth 100000 in
set_option maxHeartbeats 4000000 in
theorem may_any (bc : Nat) (vN vS : Value) (slow : Int) (gG gE : Nat) (gap edge : List Int) (w : World) (hG : Blk w gG 3 (ints gap)) (hE : Blk w gE 3 (ints edge)) (hl : edge.length = gap.length) (hn : gap.length ≤ 1000)
    (bG : ∀ (i : Nat) (g : Int), gap[i]? = some g → -10000000 ≤ g ∧ g ≤ 10000000) (bE : ∀ (i : Nat) (g : Int), edge[i]? = some g → -10000000 ≤ g ∧ g ≤ 10000000) :
    Calls Try.prog 56 #[.agg (worldC bc vN vS (.slice (some ⟨gG, 0, none⟩) gap.length gap.length) (.slice (some ⟨gE, 0, none⟩) gap.length gap.length) slow).toArray] w fun e w' =>
      (∃ r : Bool, e = .returned (.bool r) ∧ (r = true ↔ closedB gap edge gap.length)) ∧ Frm w.heap.size [] w w' := by
  have hGl := hG.lt
  have hEl := hE.lt
  have HG := Lib.hid hG
  have HE := Lib.hid hE
  have BG := Lib.hid bG
  have BE := Lib.hid bE
  clear bE bG hE hG
  go_enter Try.func56, Try.ntmps56
  iterate 10 go_step
  refine named ?_; intro W hW
  have hb : Blk W w.heap.size 75 (worldC bc vN vS (.slice (some ⟨gG, 0, none⟩) gap.length gap.length) (.slice (some ⟨gE, 0, none⟩) gap.length gap.length) slow) := by rw [hW]; exact Blk.new w 75 (worldC bc vN vS (.slice (some ⟨gG, 0, none⟩) gap.length gap.length) (.slice (some ⟨gE, 0, none⟩) gap.length gap.length) slow)
  have hf : Frm w.heap.size [] w W := by rw [hW]; repeat (first | with_reducible exact Frm.refl _ _ _ | with_reducible refine Frm.drewN ?_ | with_reducible refine Frm.drew ?_ | ((with_reducible refine Frm.setCell' ?_ ?_); · first | (left; simp; done) | (right; simp; done) | (right; simp; omega)) | ((with_reducible refine Frm.alloc' ?_ ?_); · first | exact Nat.le_refl _ | (simp; done) | (simp; omega)))
  clear hW
  have hG1 := hf.blk HG.out hGl (by simp)
  have hE1 := hf.blk HE.out hEl (by simp)
  have HB := Lib.hid hb
  have HF := Lib.hid hf
  have HG1 := Lib.hid hG1
  have HE1 := Lib.hid hE1
  clear hE1 hG1 hf hb
  go_wp2_with fail
  go_loopw [3] (fun i wr => ∃ j : Nat, i = .int .i64 j ∧ j ≤ gap.length ∧ closedB gap edge j ∧ Frm W.heap.size [] W wr) (fun i _ => gap.length - (intOf i).toNat)
  case atStart =>
    exact ⟨0, rfl, Nat.zero_le _, fun i hi => by omega, Frm.refl _ _ _⟩
  case round =>
    obtain ⟨j, rfl, hj, hcl, hfr⟩ := hrel
    have hbW := HB.out.lt
    have hGW := HG1.out.lt
    have hEW := HE1.out.lt
    have hb2 := hfr.blk HB.out hbW (by simp)
    have hg2 := hfr.blk HG1.out hGW (by simp)
    have he2 := hfr.blk HE1.out hEW (by simp)
    have c3 : wr.cell? ⟨w.heap.size, 3, none⟩ = some (.slice (some ⟨gG, 0, none⟩) gap.length gap.length) := hb2.cell 3
    have c4 : wr.cell? ⟨w.heap.size, 4, none⟩ = some (.slice (some ⟨gE, 0, none⟩) gap.length gap.length) := hb2.cell 4
    have hj1000 : (j : Int) ≤ 1000 := by omega
    by_cases hjl : j < gap.length
    · have z1 : wr.cell? ⟨gG, j, none⟩ = some (.int .i64 gap[j]) := (hg2.cell j).trans (ints_get hjl)
      have z2 : wr.cell? ⟨gE, j, none⟩ = some (.int .i64 edge[j]) := (he2.cell j).trans (ints_get (by omega))
      obtain ⟨p1, p2⟩ := BG.out j gap[j] (List.getElem?_eq_getElem hjl)
      obtain ⟨q1, q2⟩ := BE.out j edge[j] (List.getElem?_eq_getElem (by omega))
      have d1 : gap.getD j 0 = gap[j] := by simp [List.getD, List.getElem?_eq_getElem hjl]
      have d2 : edge.getD j 0 = edge[j] := by simp [List.getD, List.getElem?_eq_getElem (show j < edge.length by omega)]
      obtain ⟨g, hg⟩ : ∃ x, x = gap[j] := ⟨_, rfl⟩
      obtain ⟨e, he⟩ : ∃ x, x = edge[j] := ⟨_, rfl⟩
      rw [← hg] at z1 p1 p2 d1
      rw [← he] at z2 q1 q2 d2
      clear hg he
      have hjl' : (j : Int) < (gap.length : Int) := by omega
      have hjl2 : (j : Int) < (edge.length : Int) := by omega
      have HJ := Lib.hid hjl
      have HB2 := Lib.hid hb2
      have HG2 := Lib.hid hg2
      have HE2 := Lib.hid he2
      have HFR := Lib.hid hfr
      have HCL := Lib.hid hcl
      have HD1 := Lib.hid d1
      have HD2 := Lib.hid d2
      clear d2 d1 hcl hfr he2 hg2 hb2
      clear hjl
      by_cases hle : g ≤ e
      · go_wp2_with fail
        go_quiet (fail)
        go_wp2_with fail
        refine ⟨⟨j + 1, by simp, by have := HJ.out; omega, fun i hi => ?_, HFR.out.drewN⟩, ?_⟩
        · by_cases hij : i = j
          · subst hij; rw [HD1.out, HD2.out]; exact hle
          · exact HCL.out i (by omega)
        · have := HJ.out
          simp [intOf]
          omega
      · go_wp2_with fail
        go_quiet (fail)
        go_wp2_with fail
        go_ret
        refine ⟨⟨_, rfl, by simp, fun h => ?_⟩, HF.out.call HFR.out.drewN HF.out.size (by simp)⟩
        have := h j HJ.out
        rw [HD1.out, HD2.out] at this
        omega
    · obtain rfl : j = gap.length := by omega
      have HB2 := Lib.hid hb2
      have HG2 := Lib.hid hg2
      have HE2 := Lib.hid he2
      have HFR := Lib.hid hfr
      have HCL := Lib.hid hcl
      clear hcl hfr he2 hg2 hb2
      go_wp2_with fail
      go_ret
      exact ⟨⟨_, rfl, by simp; exact HCL.out⟩, HF.out.call HFR.out HF.out.size (by simp)⟩

theorem holdsN {o w : World} {X : List (Nat × Obj)} {bc bG bM : Nat} {c : CS} {ps : List NP} {i : Nat} {p : NP} (h : Syst o w X bc bG bM c ps) (hi : ps[i]? = some p) :
    Calls Try.prog 27 #[.pointer (some ⟨p.b, 0, none⟩)] w fun e w' => e = .returned (.bool (decide (p.s.now < p.s.end_))) ∧ Frm w.heap.size [] w w' := by
  obtain ⟨⟨asks, hb, hs⟩, hne⟩ := h.node p (List.mem_of_getElem? hi)
  refine (nodeHolds p.b w hb).mono ?_
  rintro e w' ⟨he, n, rfl⟩
  exact ⟨he, (Frm.refl _ _ w).drewN⟩

/-- The row of the nodes' pointers. -/
def ptrs (ps : List NP) : List Value := ps.map fun p => .pointer (some ⟨p.b, 0, none⟩)
theorem ptrs_get {ps : List NP} {j : Nat} (h : j < ps.length) : (ptrs ps)[j]? = some (.pointer (some ⟨ps[j].b, 0, none⟩)) := by simp [ptrs, h]
def heldP (ps : List NP) (j : Nat) : Nat := heldBy ((ps.take j).map NP.s)
theorem heldP_succ {ps : List NP} {j : Nat} (h : j < ps.length) : heldP ps (j + 1) = heldP ps j + (if ps[j].s.now < ps[j].s.end_ then 1 else 0) := by
  unfold heldP heldBy
  rw [List.take_succ_eq_append_getElem h, List.map_append, List.filter_append, List.length_append]
  simp only [List.map_cons, List.map_nil, List.filter_cons, List.filter_nil]
  by_cases e : ps[j].s.now < ps[j].s.end_ <;> simp [e]
theorem heldP_le (ps : List NP) (j : Nat) : heldP ps j ≤ j := by
  unfold heldP heldBy
  refine Nat.le_trans (List.length_filter_le _ _) ?_
  simp only [List.length_map, List.length_take]
  omega

set_option maxRecDepth 100000 in
set_option maxHeartbeats 4000000 in
theorem holders_any {o w : World} {X : List (Nat × Obj)} {bc bG bM : Nat} {c : CS} {ps : List NP} (h : Syst o w X bc bG bM c ps) (vN vS vG vE : Value) (slow : Int) (ownN : Option Nat) (hN : Sl w 30 1 vN ps.length (ptrs ps) ownN) (hpos : 0 < ps.length) (hlen : ps.length ≤ 1000) :
    Calls Try.prog 42 #[.agg (worldC bc vN vS vG vE slow).toArray] w fun e w' => e = .returned (.int .i64 (((if c.node = 0 then 1 else 0) + heldBy (ps.map NP.s) : Nat) : Int)) ∧ Frm w.heap.size [] w w' := by
  obtain ⟨g, off, cap, rfl, hown, hcl, hcm⟩ := hN.pos hpos
  obtain ⟨hd, hhd⟩ : ∃ x : Nat, x = (if c.node = 0 then 1 else 0) := ⟨_, rfl⟩
  rw [← hhd]
  have H := Lib.hid h
  have HN := Lib.hid hN
  clear hN h
  go_enter Try.func42, Try.ntmps42
  iterate 10 go_step
  refine named ?_; intro W hW
  have hb : Blk W w.heap.size 75 (worldC bc (.slice (some ⟨g, off, none⟩) ps.length cap) vS vG vE slow) := by rw [hW]; exact Blk.new w 75 (worldC bc (.slice (some ⟨g, off, none⟩) ps.length cap) vS vG vE slow)
  have hf : Frm w.heap.size [] w W := by rw [hW]; repeat (first | with_reducible exact Frm.refl _ _ _ | with_reducible refine Frm.drewN ?_ | with_reducible refine Frm.drew ?_ | ((with_reducible refine Frm.setCell' ?_ ?_); · first | (left; simp; done) | (right; simp; done) | (right; simp; omega)) | ((with_reducible refine Frm.alloc' ?_ ?_); · first | exact Nat.le_refl _ | (simp; done) | (simp; omega)))
  clear hW
  have h1 := H.out.quiet hf
  have hN1 := HN.out.frm hf HN.out.lt (by simp)
  have c0 : W.cell? ⟨w.heap.size, 0, none⟩ = some (.pointer (some ⟨bc, 0, none⟩)) := hb.cell 0
  have HB := Lib.hid hb
  have HF := Lib.hid hf
  have H1 := Lib.hid h1
  have HN1 := Lib.hid hN1
  clear hN1 h1 hf hb
  have hstart : ((if (c.node == 0) = true then 1 else 0 : Nat) : Int) = (hd : Int) := by rw [hhd]; by_cases e : c.node = 0 <;> simp [e]
  have hholds : ∀ (K : Ending → World → Prop), (∀ e w', e = .returned (.bool (c.node == 0)) ∧ W = w' → K e w') → Calls Try.prog 39 #[.pointer (some ⟨bc, 0, none⟩)] W K := fun K hK => (sysHoldsC H1.out).mono hK
  have HO := Lib.hid hholds
  have HHD := Lib.hid hhd
  clear hhd hholds
  have tail : ∀ e : Nat, e = hd → (c.node == 0) = decide (e = 1) := by
    intro e he; subst he; rw [HHD.out]; by_cases e : c.node = 0 <;> simp [e]
  have hd01 : hd = 0 ∨ hd = 1 := by rw [HHD.out]; split <;> simp
  have hb0 := tail hd rfl
  clear tail hstart
  rcases hd01 with rfl | rfl
  · have hbb : (c.node == 0) = false := by simpa using hb0
    have HBB := Lib.hid hbb
    clear hb0 hbb
    go_wp2_with (go_at_call 39; refine HO.out _ ?_; rintro e w' ⟨rfl, rfl⟩; rw [HBB.out])
    clear c0
    go_loopw [3, 4] (fun i3 i4 wr => ∃ j : Nat, i4 = .int .i64 j ∧ i3 = .int .i64 ((0 + heldP ps j : Nat) : Int) ∧ j ≤ ps.length ∧ Frm W.heap.size [] W wr) (fun _ i _ => ps.length - (intOf i).toNat)
    case atStart => exact ⟨0, rfl, by simp [heldP, heldBy], Nat.zero_le _, Frm.refl _ _ _⟩
    case round =>
      obtain ⟨j, rfl, rfl, hj, hfr⟩ := hrel
      have hbW := HB.out.lt
      have c1 : wr.cell? ⟨w.heap.size, 1, none⟩ = some (.slice (some ⟨g, off, none⟩) ps.length cap) := (hfr.blk HB.out hbW (by simp)).cell 1
      have hle := heldP_le ps j
      have hj1000 : (j : Int) ≤ 1000 := by omega
      by_cases hjl : j < ps.length
      · have hsl := HN1.out.frm hfr HN1.out.lt (by simp)
        have z : wr.cell? ⟨g, off + j, none⟩ = some (.pointer (some ⟨ps[j].b, 0, none⟩)) := (hsl.cell j (by simpa [ptrs] using hjl)).trans (ptrs_get hjl)
        have hh := holdsN (H1.out.quiet hfr) (List.getElem?_eq_getElem hjl)
        have hsucc := heldP_succ hjl
        obtain ⟨p, hp⟩ : ∃ x, x = ps[j] := ⟨_, rfl⟩
        rw [← hp] at z hh hsucc
        obtain ⟨k, hk⟩ : ∃ x : Nat, x = 0 + heldP ps j := ⟨_, rfl⟩
        rw [← hk]
        have hk1000 : (k : Int) ≤ 1001 := by omega
        have hjl' : (j : Int) < (ps.length : Int) := by omega
        have HJ := Lib.hid hjl
        by_cases hold : p.s.now < p.s.end_
        · rw [if_pos hold] at hsucc
          have hdec : decide (p.s.now < p.s.end_) = true := by simpa using hold
          rw [hdec] at hh
          have HFR := Lib.hid hfr
          have HH := Lib.hid hh
          have HSU := Lib.hid hsucc
          have HK := Lib.hid hk
          have HLE := Lib.hid hle
          clear hle hk hsucc hh hfr
          clear hsl hp hold hdec hjl
          go_wp2_with (go_at_call 27; refine HH.out.mono ?_; rintro e w2 ⟨rfl, hf2⟩)
          refine ⟨⟨j + 1, by simp, ?_, by have := HJ.out; omega, HFR.out.call hf2 HFR.out.size (by simp)⟩, ?_⟩
          · rw [HSU.out]; have := HK.out; congr 1; omega
          · have := HJ.out
            simp [intOf]
            omega
        · rw [if_neg hold] at hsucc
          have hdec : decide (p.s.now < p.s.end_) = false := by simpa using hold
          rw [hdec] at hh
          have HFR := Lib.hid hfr
          have HH := Lib.hid hh
          have HSU := Lib.hid hsucc
          have HK := Lib.hid hk
          have HLE := Lib.hid hle
          clear hle hk hsucc hh hfr
          clear hsl hp hold hdec hjl
          go_wp2_with (go_at_call 27; refine HH.out.mono ?_; rintro e w2 ⟨rfl, hf2⟩)
          refine ⟨⟨j + 1, by simp, ?_, by have := HJ.out; omega, HFR.out.call hf2 HFR.out.size (by simp)⟩, ?_⟩
          · rw [HSU.out]; have := HK.out; congr 1; omega
          · have := HJ.out
            simp [intOf]
            omega
      · obtain rfl : j = ps.length := by omega
        have HFR := Lib.hid hfr
        have HLE := Lib.hid hle
        clear hle hfr
        go_wp2_with fail
        go_ret
        refine ⟨?_, HF.out.call HFR.out HF.out.size (by simp)⟩
        simp [heldP]
  · have hbb : (c.node == 0) = true := by simpa using hb0
    have HBB := Lib.hid hbb
    clear hb0 hbb
    go_wp2_with (go_at_call 39; refine HO.out _ ?_; rintro e w' ⟨rfl, rfl⟩; rw [HBB.out])
    clear c0
    go_loopw [3, 4] (fun i3 i4 wr => ∃ j : Nat, i4 = .int .i64 j ∧ i3 = .int .i64 ((1 + heldP ps j : Nat) : Int) ∧ j ≤ ps.length ∧ Frm W.heap.size [] W wr) (fun _ i _ => ps.length - (intOf i).toNat)
    case atStart => exact ⟨0, rfl, by simp [heldP, heldBy], Nat.zero_le _, Frm.refl _ _ _⟩
    case round =>
      obtain ⟨j, rfl, rfl, hj, hfr⟩ := hrel
      have hbW := HB.out.lt
      have c1 : wr.cell? ⟨w.heap.size, 1, none⟩ = some (.slice (some ⟨g, off, none⟩) ps.length cap) := (hfr.blk HB.out hbW (by simp)).cell 1
      have hle := heldP_le ps j
      have hj1000 : (j : Int) ≤ 1000 := by omega
      by_cases hjl : j < ps.length
      · have hsl := HN1.out.frm hfr HN1.out.lt (by simp)
        have z : wr.cell? ⟨g, off + j, none⟩ = some (.pointer (some ⟨ps[j].b, 0, none⟩)) := (hsl.cell j (by simpa [ptrs] using hjl)).trans (ptrs_get hjl)
        have hh := holdsN (H1.out.quiet hfr) (List.getElem?_eq_getElem hjl)
        have hsucc := heldP_succ hjl
        obtain ⟨p, hp⟩ : ∃ x, x = ps[j] := ⟨_, rfl⟩
        rw [← hp] at z hh hsucc
        obtain ⟨k, hk⟩ : ∃ x : Nat, x = 1 + heldP ps j := ⟨_, rfl⟩
        rw [← hk]
        have hk1000 : (k : Int) ≤ 1001 := by omega
        have hjl' : (j : Int) < (ps.length : Int) := by omega
        have HJ := Lib.hid hjl
        by_cases hold : p.s.now < p.s.end_
        · rw [if_pos hold] at hsucc
          have hdec : decide (p.s.now < p.s.end_) = true := by simpa using hold
          rw [hdec] at hh
          have HFR := Lib.hid hfr
          have HH := Lib.hid hh
          have HSU := Lib.hid hsucc
          have HK := Lib.hid hk
          have HLE := Lib.hid hle
          clear hle hk hsucc hh hfr
          clear hsl hp hold hdec hjl
          go_wp2_with (go_at_call 27; refine HH.out.mono ?_; rintro e w2 ⟨rfl, hf2⟩)
          refine ⟨⟨j + 1, by simp, ?_, by have := HJ.out; omega, HFR.out.call hf2 HFR.out.size (by simp)⟩, ?_⟩
          · rw [HSU.out]; have := HK.out; congr 1; omega
          · have := HJ.out
            simp [intOf]
            omega
        · rw [if_neg hold] at hsucc
          have hdec : decide (p.s.now < p.s.end_) = false := by simpa using hold
          rw [hdec] at hh
          have HFR := Lib.hid hfr
          have HH := Lib.hid hh
          have HSU := Lib.hid hsucc
          have HK := Lib.hid hk
          have HLE := Lib.hid hle
          clear hle hk hsucc hh hfr
          clear hsl hp hold hdec hjl
          go_wp2_with (go_at_call 27; refine HH.out.mono ?_; rintro e w2 ⟨rfl, hf2⟩)
          refine ⟨⟨j + 1, by simp, ?_, by have := HJ.out; omega, HFR.out.call hf2 HFR.out.size (by simp)⟩, ?_⟩
          · rw [HSU.out]; have := HK.out; congr 1; omega
          · have := HJ.out
            simp [intOf]
            omega
      · obtain rfl : j = ps.length := by omega
        have HFR := Lib.hid hfr
        have HLE := Lib.hid hle
        clear hle hfr
        go_wp2_with fail
        go_ret
        refine ⟨?_, HF.out.call HFR.out HF.out.size (by simp)⟩
        simp [heldP]
end Go.Proofs.Ythmladcepkdheaa
