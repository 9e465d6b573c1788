/-
  The document: Close.
-/
import Derived.Test.YthgmdilfmeefiaaJ52
namespace Go.Proofs.Ythgmdilfmeefiaa
set_option linter.all false
set_option linter.unusedSimpArgs false
set_option linter.unusedVariables false
open Go.RowKit

theorem opn_rw {w : World} {l : List Bool} {b o c n : Nat} {own : Option Nat} (hn : n = l.length) (hs : Sl w 4 1 (.slice (some ⟨b, o, none⟩) n c) n (boolsC l) own) : Rw w 1 (some ⟨b, o, none⟩) b o l.length (fun i => [.bool (l.getD i false)]) := by
  subst hn
  rw [bools_flat] at hs
  obtain ⟨ad, b2, o2, c2, e, hr⟩ := Sl.rw (f := fun i => [.bool (l.getD i false)]) hs (fun i => rfl)
  cases e
  by_cases h0 : 0 < l.length
  · have := hr.ad h0
    cases this
    exact hr
  · exact ⟨fun h => absurd h h0, hr.len, fun i hi => absurd hi (by omega)⟩
/-- How the document's book goes on. -/
structure RNext (w w' : World) (s s' : BS) (m m' : RMem) (X : List Nat → Prop) : Prop where
  at_ : RefAt w' s' m'
  frm : Frm w.heap.size [] w w'
  ap : ∀ S, (∀ b ∈ S, b < w.heap.size) → X S → Apart s m S → Apart s' m' S
theorem RNext.stay {w w' : World} {s : BS} {m : RMem} {X : List Nat → Prop} (h : RefAt w s m) (hf : Frm w.heap.size [] w w') : RNext w w' s s m m X := ⟨h.still hf, hf, fun S _ _ h => h⟩
def RMem.opened (m : RMem) (b o c : Nat) : RMem := { m with pa := some ⟨b, o, none⟩, pb := b, po := o, pc := c }
theorem RNext.opn {w w' : World} {s : BS} {m : RMem} {X : List Nat → Prop} (h : RefAt w s m) (hf : Frm w.heap.size [] w w') {l : List Bool} {b o c : Nat} (hr : Rw w' 1 (some ⟨b, o, none⟩) b o l.length (fun i => [.bool (l.getD i false)])) (hb : w.heap.size ≤ b) (hi : BInv { s with opn := l }) :
    RNext w w' s { s with opn := l } m (m.opened b o c) X := by
  have h2 := h.still hf
  refine ⟨⟨h2.reps, h2.wh, h2.of, hr, h2.prf, h2.xw, hi⟩, hf, fun S hS _ ha => ⟨ha.reps, fun _ hm => ?_, ha.prf, ha.wh, ha.xw⟩⟩
  have := hS b hm
  omega
def zero55 : List Value := [.int .i64 0, .int .i64 0, .slice none 0 0, .slice none 0 0, .slice none 0 0, .slice none 0 0]
theorem bools_one (l : List Bool) : ∀ u ∈ boolsC l, u.oneCell' = true := by
  intro u hu
  simp only [boolsC, List.mem_map] at hu
  obtain ⟨b, _, rfl⟩ := hu
  rfl
/-- The open incidents' cells, to be appended. -/
theorem opn_news {w : World} {ad : Option Addr} {b off : Nat} {l : List Bool} (h : Rw w 1 ad b off l.length (fun i => [.bool (l.getD i false)])) (j : Nat) (u : Value) (hj : (boolsC l)[j]? = some u) : w.cell? ((⟨b, off, none⟩ : Addr).add j) = some u := by
  rw [bools_flat] at hj
  exact h.cells (fun i => rfl) (by omega) j u hj
set_option maxRecDepth 100000 in
set_option maxHeartbeats 16000000 in
theorem refClose_any {w : World} {s : BS} {m : RMem} (h : RefAt w s m) (i : Int) :
    Calls Try.prog 43 #[.agg (refC s m).toArray, .int .i64 i] w fun e w' => ∃ m', e = .returned (.tuple #[.agg (refC (closeS s i).1 m').toArray, .int .i64 (closeS s i).2.1, .int .i64 (closeS s i).2.2]) ∧ RNext w w' s (closeS s i).1 m m' (fun _ => True) := by
  have hf0 := Try.func43
  obtain ⟨i4, hi4, hz40, hz41, hz42⟩ := info_parts3 info4z
  have hmi : ∀ V, Frm w.heap.size [] w V → Calls Try.prog 49 #[.agg (refC s m).toArray, .int .i64 i] V fun e w' => ∃ v, e = .returned (.tuple #[v, .int .i64 (missingS s i).2]) ∧ Ints V w' v (missingS s i).1 ∧ Frm V.heap.size [] V w' := fun V hV => refMissing_any (h.still hV) i
  obtain ⟨C, hC⟩ : ∃ C, C = refC s m := ⟨_, rfl⟩
  have hz6 : C.length = 6 := by rw [hC]; rfl
  have hc1 : ∀ u ∈ C, u.oneCell' = true := by rw [hC]; exact refC_one s m
  simp only [← hC] at hmi
  rw [← hC]
  obtain ⟨res, hres⟩ : ∃ c, c = closeS s i := ⟨_, rfl⟩
  rw [← hres]
  have HH := Lib.hid h
  have HMI := Lib.hid hmi
  have HC := Lib.hid hC
  have HZ6 := Lib.hid hz6
  have HC1 := Lib.hid hc1
  have HRES := Lib.hid hres
  have HI4 := Lib.hid hi4
  have HZ40 := Lib.hid hz40
  have HZ41 := Lib.hid hz41
  have HZ42 := Lib.hid hz42
  clear hz42 hz41 hz40 hi4 hres hc1 hz6 hC hmi h
  cases ht : thereB s i
  · have hc : res = (s, -1, 7) := by rw [HRES.out]; unfold closeS; rw [if_pos ht]
    have hms : missingS s i = ([], 7) := by unfold missingS; rw [if_neg (by rw [ht]; simp)]
    have hmi := HMI.out
    rw [hms] at hmi
    subst hc
    clear HMI
    have HMI := Lib.hid hmi
    have HT := Lib.hid ht
    clear ht hmi
    go_enter Try.func43, Try.ntmps43
    go_upto_region 1 with fail
    refine namedC ?_; intro W hW
    have k2 : Blk W w.heap.size 55 C := by rw [hW]; refine Blk.alloc' ?_; exact Blk.new w 55 C
    have k4 : Blk W (w.heap.size + 1) 55 zero55 := by rw [hW]; exact Blk.new' _ 55 zero55 (by simp)
    have hf : Frm w.heap.size [] w W := by rw [hW]; repeat (first | with_reducible exact Frm.refl _ _ _ | with_reducible refine Frm.drewN ?_ | with_reducible refine Frm.drew ?_ | ((with_reducible refine Frm.setCell' ?_ ?_); · first | (left; simp; done) | (right; simp; done) | (right; simp; omega)) | ((with_reducible refine Frm.alloc' ?_ ?_); · first | exact Nat.le_refl _ | (simp; done) | (simp; omega)))
    clear hW hf0
    have HF := Lib.hid hf
    have K2 := Lib.hid k2
    have K4 := Lib.hid k4
    clear k4 k2 hf
    go_wp2_with (with_reducible refine atLoad 55 rfl ?_; refine wpList_loadE rfl rfl rfl (load55 K2.out HZ6.out) ?_)
    refine (HMI.out W HF.out).mono ?_; rintro e w1 ⟨v, rfl, hin, hf1⟩
    have k2 := hf1.blk K2.out K2.out.lt (by simp)
    have k4 := hf1.blk K4.out K4.out.lt (by simp)
    have hf := HF.out.call hf1 HF.out.size (by simp)
    clear hf1 HF K2 K4
    have HF := Lib.hid hf
    have K2 := Lib.hid k2
    have K4 := Lib.hid k4
    clear k4 k2 hf
    clear hin
    go_wp2_with (first | (with_reducible refine atLoad 55 rfl ?_; refine wpList_loadE rfl rfl rfl (load55 K2.out HZ6.out) ?_) | (with_reducible refine atStore 55 rfl ?_; refine stop_ ?_))
    refine go_on ?_
    refine wpList_storeB (P := Try.prog) (cs := C) rfl rfl K4.out rfl rfl (by rw [HZ6.out]; rfl) (by rw [HZ6.out]; exact info55) HC1.out ?_
    have k4 := K4.out.row C
    have hf := HF.out.setRow (g := w.heap.size + 1) (.inr (by omega)) C.toArray
    generalize World.setRow w1 _ _ = w9 at k4 hf ⊢
    clear HF K4 K2
    dsimp only [Act.put]
    have hi6 : (Try.prog.info? 55).map (fun i => i.size) = some C.length := by rw [HZ6.out]; exact info55
    have HF := Lib.hid hf
    have K4 := Lib.hid k4
    have HI6 := Lib.hid hi6
    clear hi6 k4 hf
    go_wp2_with fail
    refine bodyPost_ret (results_ctt Try.results43 K4.out rfl Try.underlying55 rfl HI6.out) rfl ?_
    rw [HC.out]
    exact ⟨m, rfl, RNext.stay HH.out HF.out⟩
  obtain ⟨j, hij, hj⟩ := there_nat ht
  subst hij
  have had := HH.out.opn.ad (by omega)
  obtain ⟨n, hn⟩ : ∃ c, c = s.opn.length := ⟨_, rfl⟩
  have hno : n ≤ 500 := by have := HH.out.inv.opn; have := HH.out.inv.max.1; omega
  have hms : missingS s (j : Int) = (missL s (j : Int), 0) := by unfold missingS; rw [if_pos ht]
  have hmi := HMI.out
  rw [hms] at hmi
  dsimp only at hmi
  obtain ⟨L, hL⟩ : ∃ L, L = missL s (j : Int) := ⟨_, rfl⟩
  simp only [← hL] at hmi
  have hc4 : C[4]? = some (.slice (some ⟨m.pb, m.po, none⟩) n m.pc) := by rw [HC.out, hn, ← had]; rfl
  have hcx : ∀ V, Frm w.heap.size [] w V → V.cell? ⟨m.pb, m.po + j, none⟩ = some (.bool (s.opn.getD j false)) := fun V hV => by
    have := (HH.out.opn.frm hV (Nat.le_refl _)).at_ j hj 0 _ rfl
    rw [Nat.mul_one, Nat.add_zero] at this
    exact this
  obtain ⟨ox, hox⟩ : ∃ c, c = s.opn.getD j false := ⟨_, rfl⟩
  simp only [← hox] at hcx
  have hj' : (j : Int) < (n : Int) := by omega
  clear HMI
  have HMI := Lib.hid hmi
  have HT := Lib.hid ht
  have HAD := Lib.hid had
  have HN := Lib.hid hn
  have HNO := Lib.hid hno
  have HL := Lib.hid hL
  have HC4 := Lib.hid hc4
  have HCX := Lib.hid hcx
  have HOX := Lib.hid hox
  have HJ := Lib.hid hj
  have HMS := Lib.hid hms
  clear hms hj hox hcx hc4 hL hno hn had ht hmi
  cases ox
  · have hc : res = (s, -1, 9) := by rw [HRES.out]; unfold closeS; rw [if_neg (by rw [HT.out]; simp), if_pos (by rw [Int.toNat_natCast]; exact HOX.out.symm)]
    subst hc
    go_enter Try.func43, Try.ntmps43
    go_upto_region 1 with fail
    refine namedC ?_; intro W hW
    have k2 : Blk W w.heap.size 55 C := by rw [hW]; refine Blk.alloc' ?_; exact Blk.new w 55 C
    have k4 : Blk W (w.heap.size + 1) 55 zero55 := by rw [hW]; exact Blk.new' _ 55 zero55 (by simp)
    have hf : Frm w.heap.size [] w W := by rw [hW]; repeat (first | with_reducible exact Frm.refl _ _ _ | with_reducible refine Frm.drewN ?_ | with_reducible refine Frm.drew ?_ | ((with_reducible refine Frm.setCell' ?_ ?_); · first | (left; simp; done) | (right; simp; done) | (right; simp; omega)) | ((with_reducible refine Frm.alloc' ?_ ?_); · first | exact Nat.le_refl _ | (simp; done) | (simp; omega)))
    clear hW hf0
    have HF := Lib.hid hf
    have K2 := Lib.hid k2
    have K4 := Lib.hid k4
    clear k4 k2 hf
    go_wp2_with (with_reducible refine atLoad 55 rfl ?_; refine wpList_loadE rfl rfl rfl (load55 K2.out HZ6.out) ?_)
    refine (HMI.out W HF.out).mono ?_; rintro e w1 ⟨v, rfl, hin, hf1⟩
    have k2 := hf1.blk K2.out K2.out.lt (by simp)
    have k4 := hf1.blk K4.out K4.out.lt (by simp)
    have hf := HF.out.call hf1 HF.out.size (by simp)
    clear hf1 HF K2 K4
    have HF := Lib.hid hf
    have K2 := Lib.hid k2
    have K4 := Lib.hid k4
    clear k4 k2 hf
    clear hin
    have c4 : w1.cell? ⟨w.heap.size, 4, none⟩ = some (.slice (some ⟨m.pb, m.po, none⟩) n m.pc) := (K2.out.cell 4).trans HC4.out
    have cx := HCX.out w1 HF.out
    go_wp2_with (first | (with_reducible refine atLoad 55 rfl ?_; refine wpList_loadE rfl rfl rfl (load55 K2.out HZ6.out) ?_) | (with_reducible refine atStore 55 rfl ?_; refine stop_ ?_))
    refine go_on ?_
    clear c4 cx
    refine wpList_storeB (P := Try.prog) (cs := C) rfl rfl K4.out rfl rfl (by rw [HZ6.out]; rfl) (by rw [HZ6.out]; exact info55) HC1.out ?_
    have k4 := K4.out.row C
    have hf := HF.out.setRow (g := w.heap.size + 1) (.inr (by omega)) C.toArray
    generalize World.setRow w1 _ _ = w9 at k4 hf ⊢
    clear HF K4 K2
    dsimp only [Act.put]
    have hi6 : (Try.prog.info? 55).map (fun i => i.size) = some C.length := by rw [HZ6.out]; exact info55
    have HF := Lib.hid hf
    have K4 := Lib.hid k4
    have HI6 := Lib.hid hi6
    clear hi6 k4 hf
    go_wp2_with fail
    refine bodyPost_ret (results_ctt Try.results43 K4.out rfl Try.underlying55 rfl HI6.out) rfl ?_
    rw [HC.out]
    exact ⟨m, rfl, RNext.stay HH.out HF.out⟩
  rcases hl : L with _ | ⟨x, l⟩
  · have hc : res = ({ s with opn := s.opn.set j false }, -1, 0) := by
      rw [HRES.out]
      unfold closeS
      rw [if_neg (by rw [HT.out]; simp), if_neg (by rw [Int.toNat_natCast, ← HOX.out]; simp), ← HL.out, hl, Int.toNat_natCast]
    have hinv : BInv { s with opn := s.opn.set j false } := by have := close_inv HH.out.inv (j : Int); rw [← HRES.out, hc] at this; exact this
    subst hc
    have hmi := HMI.out
    rw [hl] at hmi
    clear HMI hl
    have HMI := Lib.hid hmi
    have HINV := Lib.hid hinv
    clear hinv hmi
    go_enter Try.func43, Try.ntmps43
    go_upto_region 1 with fail
    refine namedC ?_; intro W hW
    have k2 : Blk W w.heap.size 55 C := by rw [hW]; refine Blk.alloc' ?_; exact Blk.new w 55 C
    have k4 : Blk W (w.heap.size + 1) 55 zero55 := by rw [hW]; exact Blk.new' _ 55 zero55 (by simp)
    have hf : Frm w.heap.size [] w W := by rw [hW]; repeat (first | with_reducible exact Frm.refl _ _ _ | with_reducible refine Frm.drewN ?_ | with_reducible refine Frm.drew ?_ | ((with_reducible refine Frm.setCell' ?_ ?_); · first | (left; simp; done) | (right; simp; done) | (right; simp; omega)) | ((with_reducible refine Frm.alloc' ?_ ?_); · first | exact Nat.le_refl _ | (simp; done) | (simp; omega)))
    clear hW hf0
    have HF := Lib.hid hf
    have K2 := Lib.hid k2
    have K4 := Lib.hid k4
    clear k4 k2 hf
    go_wp2_with (with_reducible refine atLoad 55 rfl ?_; refine wpList_loadE rfl rfl rfl (load55 K2.out HZ6.out) ?_)
    refine (HMI.out W HF.out).mono ?_; rintro e w1 ⟨v, rfl, hin, hf1⟩
    have k2 := hf1.blk K2.out K2.out.lt (by simp)
    have k4 := hf1.blk K4.out K4.out.lt (by simp)
    have hf := HF.out.call hf1 HF.out.size (by simp)
    clear hf1 HF K2 K4
    have HF := Lib.hid hf
    have K2 := Lib.hid k2
    have K4 := Lib.hid k4
    clear k4 k2 hf
    obtain ⟨la, lc, rfl⟩ := hin.form
    dsimp only [List.length]
    clear hin
    have c4 : w1.cell? ⟨w.heap.size, 4, none⟩ = some (.slice (some ⟨m.pb, m.po, none⟩) n m.pc) := (K2.out.cell 4).trans HC4.out
    have cx := HCX.out w1 HF.out
    go_upto_region 8 with fail
    clear cx
    have hlt2 : w.heap.size < w1.heap.size := K2.out.lt
    have hne2a : w.heap.size ≠ w1.heap.size := Nat.ne_of_lt hlt2
    go_wp2_with (at_builtin; refine hold ?_; intro qG hG)
    refine hG.1 ?_; clear hG qG
    have hf2 := HF.out.alloc HF.out.size (Obj.cells #[] 4)
    have hrw := (HH.out.still hf2).opn
    refine wpList_append_sl _ rfl (.tmp 33) (.tmp 35) 52 rfl 4 i4 _ 1 1 Try.underlying52 HI4.out HZ40.out HZ41.out HZ42.out rfl _ 0 [] (some w1.heap.size) rfl (sl_buildEmpty w1 4 1) ⟨m.pb, m.po, none⟩ n m.pc (boolsC s.opn) rfl (by rw [HN.out]; simp [boolsC]) (opn_news hrw) (bools_one _) (by have := HNO.out; unfold maxLen; omega) (by have := HNO.out; omega) ?_
    intro v' w2 own' hs hf3 ho
    rw [List.nil_append, Nat.zero_add] at hs
    have hlt4 := K4.out.lt
    have hfr : Frm w1.heap.size [] w1 w2 := ((Frm.refl w1.heap.size [] w1).alloc (Nat.le_refl _) _).call hf3 (by simp) (fun x hx hm => by simp at hm; omega)
    have hn0 : 0 < n := by have := HJ.out; have := HN.out; omega
    obtain ⟨b', o', c', hv, hb, _, _⟩ := hs.pos hn0
    have hge : w1.heap.size ≤ b' := by
      rcases ho with h | ⟨g, h, hg⟩
      · rw [hb] at h; cases h; exact Nat.le_refl _
      · rw [hb] at h; cases h; simp at hg; omega
    subst hv
    have k2 := hfr.blk K2.out K2.out.lt (by simp)
    have k4 := hfr.blk K4.out K4.out.lt (by simp)
    have hf := HF.out.call hfr HF.out.size (by simp)
    have c4 : w2.cell? ⟨w.heap.size, 4, none⟩ = some (.slice (some ⟨m.pb, m.po, none⟩) n m.pc) := (k2.cell 4).trans HC4.out
    have g4 := k2.free 4
    have hne2 : b' ≠ w.heap.size := by omega
    have hne4 : b' ≠ w.heap.size + 1 := by omega
    have hsz := HF.out.size
    have hbw : w.heap.size ≤ b' := by omega
    clear ho hf3 hf2 hrw hge hfr HF K2 K4 hsz hlt4 hn0
    have HS := Lib.hid hs
    have HB := Lib.hid hb
    have K2 := Lib.hid k2
    have K4 := Lib.hid k4
    have HF := Lib.hid hf
    have HNE2 := Lib.hid hne2
    have HNE4 := Lib.hid hne4
    have HBW := Lib.hid hbw
    clear hbw hne4 hne2 hf k4 k2 hb hs
    go_upto_region 9 with fail
    clear c4 g4
    have k2 := K2.out.set 4 (.slice (some ⟨b', o', none⟩) n c')
    have k4 := K4.out.other ⟨w.heap.size, 4, none⟩ (by show w.heap.size ≠ w.heap.size + 1; omega) (.slice (some ⟨b', o', none⟩) n c')
    have hs := Sl.setCell HS.out ⟨w.heap.size, 4, none⟩ (.slice (some ⟨b', o', none⟩) n c') (fun q hq e => by have hb := HB.out; rw [hb] at hq; cases hq; exact HNE2.out e.symm)
    have hf := HF.out.setCell (p := ⟨w.heap.size, 4, none⟩) (.inr (Nat.le_refl _)) (.slice (some ⟨b', o', none⟩) n c')
    generalize World.setCell w2 _ _ = w3 at k2 k4 hs hf ⊢
    clear HS K2 K4 HF
    obtain ⟨C2, hC2⟩ : ∃ c, c = C.set 4 (.slice (some ⟨b', o', none⟩) n c') := ⟨_, rfl⟩
    rw [← hC2] at k2
    have c4 : w3.cell? ⟨w.heap.size, 4, none⟩ = some (.slice (some ⟨b', o', none⟩) n c') := (k2.cell 4).trans (by rw [hC2, List.getElem?_set, if_pos rfl, if_pos (by rw [HZ6.out]; omega)])
    have hjn : j < n := by have := HJ.out; have := HN.out; omega
    have cx : w3.cell? ⟨b', o' + j, none⟩ = some (.bool true) := by
      have := hs.cell j (by simp [boolsC]; have := HN.out; omega)
      rw [this]
      simp only [boolsC, List.getElem?_map, List.getElem?_eq_getElem HJ.out, Option.map_some]
      have h1 := HOX.out
      rw [List.getD_eq_getElem?_getD, List.getElem?_eq_getElem HJ.out] at h1
      rw [h1]; rfl
    have gx := hs.free (o' + j)
    have hs2 := hs.set1 j (by simp [boolsC]; have := HN.out; omega) (.bool false)
    have k2' := k2.other ⟨b', o' + j, none⟩ HNE2.out (.bool false)
    have k4' := k4.other ⟨b', o' + j, none⟩ HNE4.out (.bool false)
    have hf' := hf.setCell (p := ⟨b', o' + j, none⟩) (.inr HBW.out) (.bool false)
    clear k2 k4 hs hf
    have HS := Lib.hid hs2
    have K2 := Lib.hid k2'
    have K4 := Lib.hid k4'
    have HF := Lib.hid hf'
    have HC2 := Lib.hid hC2
    have HJN := Lib.hid hjn
    clear hjn hC2 hf' k4' k2' hs2
    go_upto_region 10 with fail
    clear c4 cx gx
    have k2 := K2.out
    have k4 := K4.out
    have hs := HS.out
    have hf := HF.out
    generalize World.setCell w3 _ _ = w4 at k2 k4 hs hf ⊢
    clear K2 K4 HS HF
    have hz62 : C2.length = 6 := by rw [HC2.out, List.length_set]; exact HZ6.out
    have e : boolsC (s.opn.set j false) = (boolsC s.opn).set j (.bool false) := by simp [boolsC, List.map_set]
    rw [← e] at hs
    have hnx := RNext.opn (X := fun _ => True) HH.out hf (c := c') (opn_rw (by rw [List.length_set]; exact HN.out) hs) HBW.out HINV.out
    have hC2e : C2 = refC { s with opn := s.opn.set j false } (m.opened b' o' c') := by
      rw [HC2.out, HC.out, HN.out]
      simp [refC, RMem.opened]
    have hone2 : ∀ u ∈ C2, u.oneCell' = true := by rw [hC2e]; exact refC_one _ _
    clear hs e
    have K2 := Lib.hid k2
    have K4 := Lib.hid k4
    have HF := Lib.hid hf
    have HNX := Lib.hid hnx
    have HC2E := Lib.hid hC2e
    have HZ62 := Lib.hid hz62
    have HONE2 := Lib.hid hone2
    clear hone2 hz62 hC2e hnx hf k4 k2
    go_wp2_with (first | (with_reducible refine atLoad 55 rfl ?_; refine wpList_loadE rfl rfl rfl (load55 K2.out HZ62.out) ?_) | (with_reducible refine atStore 55 rfl ?_; refine stop_ ?_))
    refine go_on ?_
    refine wpList_storeB (P := Try.prog) (cs := C2) rfl rfl K4.out rfl rfl (by rw [HZ62.out]; rfl) (by rw [HZ62.out]; exact info55) HONE2.out ?_
    have k4 := K4.out.row C2
    have hnx : RNext w (w4.setRow (w.heap.size + 1) C2.toArray) s { s with opn := s.opn.set j false } m (m.opened b' o' c') (fun _ => True) := by
      have g := (Frm.refl w4.heap.size [w.heap.size + 1] w4).setRow (g := w.heap.size + 1) (.inl (by simp)) C2.toArray
      have hg := HF.out.setRow (g := w.heap.size + 1) (.inr (by omega)) C2.toArray
      have ha := HNX.out.at_
      have h2 := HH.out.still hg
      refine ⟨⟨h2.reps, h2.wh, h2.of, ?_, h2.prf, h2.xw, ha.inv⟩, hg, HNX.out.ap⟩
      exact ha.opn.frm0 g (fun _ hm => HNE4.out (by simpa [RMem.opened] using hm))
    generalize World.setRow w4 _ _ = w5 at k4 hnx ⊢
    clear K4 HF HNX K2
    dsimp only [Act.put]
    have HNX := Lib.hid hnx
    have K4 := Lib.hid k4
    clear k4 hnx
    go_wp2_with fail
    refine bodyPost_ret (results_ctt Try.results43 K4.out rfl Try.underlying55 rfl (by rw [HZ62.out]; exact info55)) rfl ?_
    exact ⟨m.opened b' o' c', by rw [HC2E.out]; rfl, HNX.out⟩
  · have hc : res = (s, (x : Int), 9) := by
      rw [HRES.out]
      unfold closeS
      rw [if_neg (by rw [HT.out]; simp), if_neg (by rw [Int.toNat_natCast, ← HOX.out]; simp), ← HL.out, hl]
    subst hc
    have hmi := HMI.out
    rw [hl] at hmi
    clear HMI hl
    have HMI := Lib.hid hmi
    clear hmi
    go_enter Try.func43, Try.ntmps43
    go_upto_region 1 with fail
    refine namedC ?_; intro W hW
    have k2 : Blk W w.heap.size 55 C := by rw [hW]; refine Blk.alloc' ?_; exact Blk.new w 55 C
    have k4 : Blk W (w.heap.size + 1) 55 zero55 := by rw [hW]; exact Blk.new' _ 55 zero55 (by simp)
    have hf : Frm w.heap.size [] w W := by rw [hW]; repeat (first | with_reducible exact Frm.refl _ _ _ | with_reducible refine Frm.drewN ?_ | with_reducible refine Frm.drew ?_ | ((with_reducible refine Frm.setCell' ?_ ?_); · first | (left; simp; done) | (right; simp; done) | (right; simp; omega)) | ((with_reducible refine Frm.alloc' ?_ ?_); · first | exact Nat.le_refl _ | (simp; done) | (simp; omega)))
    clear hW hf0
    have HF := Lib.hid hf
    have K2 := Lib.hid k2
    have K4 := Lib.hid k4
    clear k4 k2 hf
    go_wp2_with (with_reducible refine atLoad 55 rfl ?_; refine wpList_loadE rfl rfl rfl (load55 K2.out HZ6.out) ?_)
    have hltW := K4.out.lt
    refine (HMI.out W HF.out).mono ?_; rintro e w1 ⟨v, rfl, hin, hf1⟩
    have k2 := hf1.blk K2.out K2.out.lt (by simp)
    have k4 := hf1.blk K4.out K4.out.lt (by simp)
    have hf := HF.out.call hf1 HF.out.size (by simp)
    clear hf1 HF K2 K4
    have HF := Lib.hid hf
    have K2 := Lib.hid k2
    have K4 := Lib.hid k4
    clear k4 k2 hf
    obtain ⟨own, hsl, hown⟩ := hin
    obtain ⟨b0, o0, c0, ev, hb0, _, _⟩ := hsl.pos (by simp)
    obtain ⟨ad1, b1, o1, cc1, e1, hr1⟩ := ints_at0 hsl
    have had1 := hr1.ad (by simp)
    subst had1
    have hbb : b1 = b0 := by rw [e1] at ev; cases ev; rfl
    have hge := hown b0 hb0
    have hne4 : b1 ≠ w.heap.size + 1 := by omega
    have hne2 : b1 ≠ w.heap.size := by omega
    have cy : w1.cell? ⟨b1, o1, none⟩ = some (.int .i64 (x : Int)) := by
      have := hr1.cellI (i := 0) (by simp)
      rw [Nat.add_zero] at this
      exact this
    obtain ⟨g, hg⟩ : ∃ g, g = (x :: l).length := ⟨_, rfl⟩
    have hg0 : (0 : Int) < (g : Int) := by rw [hg]; simp
    have hg1 : 0 < g := by rw [hg]; simp
    rw [← hg] at e1
    subst e1
    clear ev hown hsl hr1 hg hbb hge hltW
    have c4 : w1.cell? ⟨w.heap.size, 4, none⟩ = some (.slice (some ⟨m.pb, m.po, none⟩) n m.pc) := (K2.out.cell 4).trans HC4.out
    have cx := HCX.out w1 HF.out
    have CY := Lib.hid cy
    have HNE4 := Lib.hid hne4
    have HG0 := Lib.hid hg0
    have HG1 := Lib.hid hg1
    clear hg1 hg0 hne4 cy
    go_upto_region 7 with fail
    clear c4 cx
    have hfx : ∀ V, (V.cell? ⟨b1, o1, none⟩ = some (.int .i64 (x : Int)) ∧ Blk V w.heap.size 55 C) → V.cell? ⟨b1, o1, none⟩ = some (.int .i64 (x : Int)) ∧ True := fun V hV => ⟨hV.1, trivial⟩
    have hla : ∀ V, (V.cell? ⟨b1, o1, none⟩ = some (.int .i64 (x : Int)) ∧ Blk V w.heap.size 55 C) → (loadVar 55 ⟨w.heap.size, 0, none⟩).run Try.prog V = .ok (.agg C.toArray) V := fun V hV => load55 hV.2 HZ6.out
    refine wp_region_leftL (fun V => V.cell? ⟨b1, o1, none⟩ = some (.int .i64 (x : Int)) ∧ Blk V w.heap.size 55 C) 1000 (by kernel_rfl) ?_
    have hS : w1.drew.cell? ⟨b1, o1, none⟩ = some (.int .i64 (x : Int)) ∧ Blk w1.drew w.heap.size 55 C := ⟨CY.out, K2.out.drew⟩
    have k4 := K4.out.drew
    have hf := HF.out.drew
    generalize World.drew w1 = w2 at hS k4 hf ⊢
    clear K4 K2 HF CY
    have HS := Lib.hid hS
    have HFX := Lib.hid hfx
    have HLA := Lib.hid hla
    have K4 := Lib.hid k4
    have HF := Lib.hid hf
    clear hf k4 hla hfx hS
    refine LeftL.take 0 rfl (by kernel_rfl) (fun _ _ d _ _ h => by cases d <;> exact h) (yields_loadE (ty := 55) rfl rfl rfl (HLA.out)) HS.out ?_; (intro K' hK'; go_simp; refine hK' _ ?_; clear hK' K')
    have hg0 := HG0.out
    have hg1 := HG1.out
    first | (refine LeftL.tkG (v := ?_) 1 rfl HS.out ?_ ?_; rotate_left; · intro V hV; obtain ⟨z1, z2⟩ := HFX.out V hV; clear hV; go_simp; rfl) | refine LeftL.tkN 1 rfl HS.out ?_
    (intro K h; go_simp; refine h _ ?_; clear h K)
    first | (refine LeftL.tkG (v := ?_) 2 rfl HS.out ?_ ?_; rotate_left; · intro V hV; obtain ⟨z1, z2⟩ := HFX.out V hV; clear hV; go_simp; rfl) | refine LeftL.tkN 2 rfl HS.out ?_
    (intro K h; go_simp; refine h _ ?_; clear h K)
    first | (refine LeftL.tkG (v := ?_) 3 rfl HS.out ?_ ?_; rotate_left; · intro V hV; obtain ⟨z1, z2⟩ := HFX.out V hV; clear hV; go_simp; rfl) | refine LeftL.tkN 3 rfl HS.out ?_
    (intro K h; go_simp; refine h _ ?_; clear h K)
    clear hg0 hg1
    refine LeftL.one 4 rfl (by kernel_rfl) ?_
    refine wpList_storeB (P := Try.prog) (cs := C) rfl rfl K4.out rfl rfl (by rw [HZ6.out]; rfl) (by rw [HZ6.out]; exact info55) HC1.out ?_
    have k4 := K4.out.row C
    have hf := HF.out.setRow (g := w.heap.size + 1) (.inr (by omega)) C.toArray
    have hS : (w2.setRow (w.heap.size + 1) C.toArray).cell? ⟨b1, o1, none⟩ = some (.int .i64 (x : Int)) ∧ Blk (w2.setRow (w.heap.size + 1) C.toArray) w.heap.size 55 C := ⟨(((Frm.refl w2.heap.size [w.heap.size + 1] w2).setRow (g := w.heap.size + 1) (.inl (by simp)) C.toArray).cell (p := ⟨b1, o1, none⟩) (cell_lt HS.out.1) (by simpa using HNE4.out)).trans HS.out.1, HS.out.2.row_other _ (by omega)⟩
    generalize World.setRow w2 _ _ = w9 at k4 hf hS ⊢
    clear HF K4 HS
    have hi6 : (Try.prog.info? 55).map (fun i => i.size) = some C.length := by rw [HZ6.out]; exact info55
    have HF := Lib.hid hf
    have K4 := Lib.hid k4
    have HI6 := Lib.hid hi6
    have HS := Lib.hid hS
    clear hS hi6 k4 hf
    refine wpList_nil ?_
    first | refine ⟨fun _ => HS.out, ?_⟩ | refine ⟨HS.out, ?_⟩
    refine LeftL.one 5 rfl (by kernel_rfl) ?_
    go_wp2_with fail
    first | refine ⟨fun _ => HS.out, ?_⟩ | refine ⟨HS.out, ?_⟩
    refine LeftL.one 6 rfl (by kernel_rfl) ?_
    go_wp2_with fail
    first | refine ⟨fun _ => HS.out, ?_⟩ | refine ⟨HS.out, ?_⟩
    refine LeftL.done (by kernel_rfl) ?_
    go_wp2_with fail
    refine bodyPost_ret (results_ctt Try.results43 K4.out rfl Try.underlying55 rfl HI6.out) rfl ?_
    rw [HC.out]
    exact ⟨m, rfl, RNext.stay HH.out HF.out⟩
end Go.Proofs.Ythgmdilfmeefiaa
