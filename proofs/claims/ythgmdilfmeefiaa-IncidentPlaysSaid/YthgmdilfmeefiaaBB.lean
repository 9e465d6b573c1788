/-
  Texts J28, J29, J30, J31 of this claim, one behind the other.
-/
import Derived.Test.YthgmdilfmeefiaaBA
namespace Go.Proofs.Ythgmdilfmeefiaa
set_option linter.all false
set_option linter.unusedSimpArgs false
set_option linter.unusedVariables false
open Go.RowKit

theorem Sl.set1 {w : World} {E size n b off cap : Nat} {cs : List Value} {own : Option Nat} (h : Sl w E size (.slice (some ⟨b, off, none⟩) n cap) n cs own) (j : Nat) (hj : j < cs.length) (u : Value) :
    Sl (w.setCell ⟨b, off + j, none⟩ u) E size (.slice (some ⟨b, off, none⟩) n cap) n (cs.set j u) own := by
  refine ⟨by rw [List.length_set]; exact h.1, ?_⟩
  rcases h.2 with ⟨e, _⟩ | ⟨b2, off2, cap2, arr, e1, e2, e3, e4, e5, e6, e7⟩
  · cases e
  · cases e1
    refine .inr ⟨b, off, cap, arr.setIfInBounds (off + j) u, rfl, e2, ?_, e4, e5, by simpa using e6, ?_⟩
    · simp only [World.setCell, Array.getElem?_modify, if_pos, e3]
      simp
    · rw [Array.toList_setIfInBounds, ← e7]
      rw [List.drop_set, if_neg (by omega), Nat.add_sub_cancel_left, List.take_set]
theorem Sl.own_of {w : World} {E size n b off cap : Nat} {cs : List Value} {own : Option Nat} (h : Sl w E size (.slice (some ⟨b, off, none⟩) n cap) n cs own) : own = some b := by
  rcases h.2 with ⟨e, _⟩ | ⟨b2, off2, cap2, arr, e1, e2, _⟩
  · cases e
  · cases e1; exact e2
/-- A book, whatever its lists. -/
structure BookRaw (w : World) (k : Nat) (s : BS) (m : Mem) : Prop where
  blk : Blk w k 64 (bookC s m)
  ents : Sl w 81 8 m.ve s.reps.length ((List.range s.reps.length).flatMap (entAt s m)) m.oe
  opn : Sl w 4 1 m.vo s.opn.length (boolsC s.opn) m.oo
  prf : Sl w 102 3 m.vp s.prf.length ((List.range s.prf.length).flatMap (prfAt s m)) m.op
  wh : ∀ i, i < s.reps.length → RwP w (m.ad i) (m.wb i) (m.wo i) (s.rp i).wh.length (s.rp i).wh
  wl : ∀ i, i < s.reps.length → m.wb i < w.heap.size
  pv : ∀ i, i < s.prf.length → IsPrf (s.pf i) (m.pv i)
  ke : m.oe ≠ some k ∧ m.oo ≠ some k ∧ m.op ≠ some k
  eo : ∀ b, m.oe = some b → m.oo ≠ some b ∧ m.op ≠ some b
  oq : ∀ b, m.oo = some b → m.op ≠ some b
  wk : ∀ i, i < s.reps.length → m.wb i ≠ k ∧ m.oe ≠ some (m.wb i) ∧ m.oo ≠ some (m.wb i) ∧ m.op ≠ some (m.wb i)
theorem BookAt.raw {w : World} {k : Nat} {s : BS} {m : Mem} (h : BookAt w k s m) : BookRaw w k s m := ⟨h.blk, h.ents, h.opn, h.prf, h.wh, fun i hi => h.wlt hi, h.pv, h.ke, h.eo, h.oq, h.wk⟩
theorem BookRaw.at_ {w : World} {k : Nat} {s : BS} {m : Mem} (h : BookRaw w k s m) (hi : BInv s) : BookAt w k s m := ⟨h.blk, h.ents, h.opn, h.prf, h.wh, h.pv, hi, h.ke, h.eo, h.oq, h.wk⟩
theorem BookRaw.frm {w w' : World} {k : Nat} {s : BS} {m : Mem} {S : List Nat} (h : BookRaw w k s m) (hf : Frm w.heap.size S w w') (hS : ∀ b ∈ m.own k s, b ∉ S) : BookRaw w' k s m where
  blk := hf.blk h.blk h.blk.lt (hS k (own_iff.2 (.inl rfl)))
  ents := h.ents.frm hf h.ents.lt (fun b hb => hS b (own_iff.2 (.inr (.inl hb))))
  opn := h.opn.frm hf h.opn.lt (fun b hb => hS b (own_iff.2 (.inr (.inr (.inl hb)))))
  prf := h.prf.frm hf h.prf.lt (fun b hb => hS b (own_iff.2 (.inr (.inr (.inr (.inl hb))))))
  wh := fun i hi => (h.wh i hi).frmS hf (hS _ (own_iff.2 (.inr (.inr (.inr (.inr ⟨i, hi, rfl⟩))))))
  wl := fun i hi => Nat.lt_of_lt_of_le (h.wl i hi) hf.size
  pv := h.pv
  ke := h.ke
  eo := h.eo
  oq := h.oq
  wk := h.wk
theorem BookRaw.still {w w' : World} {k : Nat} {s : BS} {m : Mem} (h : BookRaw w k s m) (hf : Frm w.heap.size [] w w') : BookRaw w' k s m := h.frm hf (by simp)
theorem rw_other {w : World} {size : Nat} {ad : Option Addr} {b off n : Nat} {f : Nat → List Value} (h : Rw w size ad b off n f) (a : Addr) (u : Value) (hne : a.block ≠ b) : Rw (w.setCell a u) size ad b off n f :=
  ⟨h.ad, h.len, fun i hi k v hv => by
    rw [← h.at_ i hi k v hv]
    exact World.cell?_of_block (Below.heap_setCell w a u b (fun e => hne e.symm))⟩
/-- A cell of the open incidents. -/
theorem BookRaw.setOpen {w : World} {k : Nat} {s : BS} {m : Mem} (h : BookRaw w k s m) {b off cap at_ : Nat} (hv : m.vo = .slice (some ⟨b, off, none⟩) s.opn.length cap) (ha : at_ < s.opn.length) (x : Bool) :
    BookRaw (w.setCell ⟨b, off + at_, none⟩ (.bool x)) k { s with opn := s.opn.set at_ x } m := by
  have hs := h.opn
  rw [hv] at hs
  have ho := hs.own_of
  have hb : b ≠ k := fun e => h.ke.2.1 (by rw [ho, e])
  refine ⟨?_, ?_, ?_, ?_, ?_, ?_, h.pv, h.ke, h.eo, h.oq, h.wk⟩
  · exact h.blk.other _ hb _
  · exact h.ents.setCell _ _ (fun q hq e => (h.eo q hq).1 (by rw [ho]; exact congrArg some e))
  · have := hs.set1 at_ (by simp [boolsC]; omega) (.bool x)
    simp only [List.length_set]
    rw [hv]
    have e : boolsC (s.opn.set at_ x) = (boolsC s.opn).set at_ (.bool x) := by simp [boolsC, List.map_set]
    rw [e]
    exact this
  · exact h.prf.setCell _ _ (fun q hq e => h.oq b ho (by rw [hq]; exact congrArg some e.symm))
  · exact fun i hi => rw_other (h.wh i hi) _ _ (fun e => (h.wk i hi).2.2.1 (by rw [ho]; exact congrArg some e))
  · intro i hi
    have := h.wl i hi
    simpa [World.setCell] using this
/-- The open incidents are grown. -/
theorem BookRaw.growOpen {w w' : World} {k : Nat} {s : BS} {m : Mem} (h : BookRaw w k s m) {v' : Value} {own' : Option Nat} {x : Bool} (hs : Sl w' 4 1 v' (s.opn.length + 1) (boolsC s.opn ++ [.bool x]) own') (hf : Frm w.heap.size m.oo.toList w w') (ho : own' = m.oo ∨ ∃ g, own' = some g ∧ w.heap.size ≤ g) :
    BookRaw (w'.setCell ⟨k, 4, none⟩ v') k { s with opn := s.opn ++ [x] } { m with vo := v', oo := own' } := by
  have hko : own' ≠ some k := by
    rcases ho with e | ⟨g, e, hg⟩
    · rw [e]; exact h.ke.2.1
    · rw [e]; intro e2; cases e2; have := h.blk.lt; omega
  refine ⟨?_, ?_, ?_, ?_, ?_, ?_, h.pv, ⟨h.ke.1, hko, h.ke.2.2⟩, ?_, ?_, ?_⟩
  · have h1 := (hf.blk h.blk h.blk.lt (fun hm => h.ke.2.1 (by simpa using hm))).set 4 v'
    exact h1
  · exact (h.ents.frm hf h.ents.lt (fun b hb hm => (h.eo b hb).1 (by simpa using hm))).setCell _ _ (fun b hb e => h.ke.1 (by rw [hb]; exact congrArg some e.symm))
  · have e : boolsC (s.opn ++ [x]) = boolsC s.opn ++ [.bool x] := by simp [boolsC]
    rw [e, List.length_append]
    exact hs.setCell _ _ (fun b hb e => hko (by rw [hb]; exact congrArg some e.symm))
  · exact (h.prf.frm hf h.prf.lt (fun b hb hm => h.oq b (by simpa using hm) hb)).setCell _ _ (fun b hb e => h.ke.2.2 (by rw [hb]; exact congrArg some e.symm))
  · intro i hi
    exact rw_other ((h.wh i hi).frmS hf (fun hm => (h.wk i hi).2.2.1 (by simpa using hm))) _ _ (fun e => (h.wk i hi).1 e.symm)
  · intro i hi
    have := Nat.lt_of_lt_of_le (h.wl i hi) hf.size
    simpa [World.setCell] using this
  · intro b hb
    refine ⟨fun e => ?_, (h.eo b hb).2⟩
    rcases ho with e2 | ⟨g, e2, hg⟩
    · exact (h.eo b hb).1 (by rw [← e2]; exact e)
    · rw [e2] at e; cases e; have := h.ents.lt b hb; omega
  · intro b hb e
    rcases ho with e2 | ⟨g, e2, hg⟩
    · exact h.oq b (by rw [← e2]; exact hb) e
    · have hb : own' = some b := hb
      rw [e2] at hb; cases hb; have := h.prf.lt b e; omega
  · intro i hi
    refine ⟨(h.wk i hi).1, (h.wk i hi).2.1, fun e => ?_, (h.wk i hi).2.2.2⟩
    have e : own' = some (m.wb i) := e
    rcases ho with e2 | ⟨g, e2, hg⟩
    · exact (h.wk i hi).2.2.1 (by rw [← e2]; exact e)
    · rw [e2] at e; cases e; have := h.wl i hi; omega
theorem flatMap_congr_range {n : Nat} {f g : Nat → List Value} (h : ∀ i, i < n → f i = g i) : (List.range n).flatMap f = (List.range n).flatMap g := by
  induction n with
  | zero => rfl
  | succ n ih =>
    rw [List.range_succ, List.flatMap_append, List.flatMap_append, ih (fun i hi => h i (by omega))]
    simp [h n (by omega)]
/-- A report more. -/
def Mem.entMore (m : Mem) (n : Nat) (v' : Value) (own' : Option Nat) (b o c : Nat) : Mem :=
  { m with ve := v', oe := own', wb := fun i => if i = n then b else m.wb i, wo := fun i => if i = n then o else m.wo i, wc := fun i => if i = n then c else m.wc i }
theorem BookRaw.growEnt {w w' : World} {k : Nat} {s : BS} {m : Mem} (h : BookRaw w k s m) (hlen : s.of.length = s.reps.length) {v' : Value} {own' : Option Nat} {r : Rep} {b o c at_ : Nat}
    (hs : Sl w' 81 8 v' (s.reps.length + 1) ((List.range s.reps.length).flatMap (entAt s m) ++ entC r (some ⟨b, o, none⟩) c at_) own') (hf : Frm w.heap.size m.oe.toList w w') (ho : own' = m.oe ∨ ∃ g, own' = some g ∧ w.heap.size ≤ g)
    (hr : RwP w (some ⟨b, o, none⟩) b o r.wh.length r.wh) (hbl : b < w.heap.size) (hb : b ≠ k ∧ m.oe ≠ some b ∧ m.oo ≠ some b ∧ m.op ≠ some b) :
    BookRaw (w'.setCell ⟨k, 3, none⟩ v') k { s with reps := s.reps ++ [r], of := s.of ++ [at_] } (m.entMore s.reps.length v' own' b o c) := by
  have hko : own' ≠ some k := by
    rcases ho with e | ⟨g, e, hg⟩
    · rw [e]; exact h.ke.1
    · rw [e]; intro e2; cases e2; have := h.blk.lt; omega
  have hlt : ∀ i, i < (s.reps ++ [r]).length → i < s.reps.length ∨ i = s.reps.length := fun i hi => by simp at hi; omega
  have hrp : ∀ i, i < s.reps.length → BS.rp { s with reps := s.reps ++ [r], of := s.of ++ [at_] } i = s.rp i := fun i hi => by
    unfold BS.rp
    simp [List.getD_eq_getElem?_getD, List.getElem?_append_left hi]
  have hrn : BS.rp { s with reps := s.reps ++ [r], of := s.of ++ [at_] } s.reps.length = r := by
    unfold BS.rp
    simp [List.getD_eq_getElem?_getD]
  have hoi : ∀ i, i < s.reps.length → BS.o { s with reps := s.reps ++ [r], of := s.of ++ [at_] } i = s.o i := fun i hi => by
    unfold BS.o
    simp [List.getD_eq_getElem?_getD, List.getElem?_append_left (show i < s.of.length by omega)]
  have hon : BS.o { s with reps := s.reps ++ [r], of := s.of ++ [at_] } s.reps.length = at_ := by
    unfold BS.o
    rw [← hlen]
    simp [List.getD_eq_getElem?_getD]
  have hmb : ∀ i, i < s.reps.length → (m.entMore s.reps.length v' own' b o c).wb i = m.wb i := fun i hi => by simp [Mem.entMore, show i ≠ s.reps.length by omega]
  have hmo : ∀ i, i < s.reps.length → (m.entMore s.reps.length v' own' b o c).wo i = m.wo i := fun i hi => by simp [Mem.entMore, show i ≠ s.reps.length by omega]
  have hmc : ∀ i, i < s.reps.length → (m.entMore s.reps.length v' own' b o c).wc i = m.wc i := fun i hi => by simp [Mem.entMore, show i ≠ s.reps.length by omega]
  have hnb : (m.entMore s.reps.length v' own' b o c).wb s.reps.length = b := by simp [Mem.entMore]
  have hno : (m.entMore s.reps.length v' own' b o c).wo s.reps.length = o := by simp [Mem.entMore]
  have hnc : (m.entMore s.reps.length v' own' b o c).wc s.reps.length = c := by simp [Mem.entMore]
  have hb' : ∀ q, own' = some q → b ≠ q := fun q hq e => by
    subst e
    rcases ho with e | ⟨g, e, hg⟩
    · exact hb.2.1 (by rw [← e]; exact hq)
    · rw [hq] at e; cases e; omega
  refine ⟨?_, ?_, ?_, ?_, ?_, ?_, h.pv, ⟨hko, h.ke.2.1, h.ke.2.2⟩, ?_, h.oq, ?_⟩
  · have h1 := (hf.blk h.blk h.blk.lt (fun hm => h.ke.1 (by simpa using hm))).set 3 v'
    exact h1
  · simp only [List.length_append, List.length_cons, List.length_nil, Nat.zero_add]
    rw [List.range_succ, List.flatMap_append]
    have e1 : (List.range s.reps.length).flatMap (entAt { s with reps := s.reps ++ [r], of := s.of ++ [at_] } (m.entMore s.reps.length v' own' b o c)) = (List.range s.reps.length).flatMap (entAt s m) := flatMap_congr_range fun i hi => by
      unfold entAt Mem.ad
      rw [hrp i hi, hoi i hi, hmb i hi, hmo i hi, hmc i hi]
    have e2 : entAt { s with reps := s.reps ++ [r], of := s.of ++ [at_] } (m.entMore s.reps.length v' own' b o c) s.reps.length = entC r (some ⟨b, o, none⟩) c at_ := by
      unfold entAt Mem.ad
      rw [hrn, hon, hnb, hno, hnc]
    rw [e1]
    simp only [List.flatMap_cons, List.flatMap_nil, List.append_nil, e2]
    exact hs.setCell _ _ (fun q hq e => hko (by rw [hq]; exact congrArg some e.symm))
  · exact (h.opn.frm hf h.opn.lt (fun q hq hm => (h.eo q (by simpa using hm)).1 hq)).setCell _ _ (fun q hq e => h.ke.2.1 (by rw [hq]; exact congrArg some e.symm))
  · exact (h.prf.frm hf h.prf.lt (fun q hq hm => (h.eo q (by simpa using hm)).2 hq)).setCell _ _ (fun q hq e => h.ke.2.2 (by rw [hq]; exact congrArg some e.symm))
  · intro i hi
    rcases hlt i hi with h1 | rfl
    · unfold Mem.ad
      rw [hrp i h1, hmb i h1, hmo i h1]
      exact rw_other ((h.wh i h1).frmS hf (fun hm => (h.wk i h1).2.1 (by simpa using hm))) _ _ (fun e => (h.wk i h1).1 e.symm)
    · unfold Mem.ad
      rw [hrn, hnb, hno]
      exact rw_other (hr.frmS hf (fun hm => hb.2.1 (by simpa using hm))) _ _ (fun e => hb.1 e.symm)
  · intro i hi
    have hsz := hf.size
    rcases hlt i hi with h1 | rfl
    · rw [hmb i h1]
      have := h.wl i h1
      simp [World.setCell]; omega
    · rw [hnb]
      simp [World.setCell]; omega
  · intro q hq
    have hq : own' = some q := hq
    rcases ho with e | ⟨g, e, hg⟩
    · exact h.eo q (by rw [← e]; exact hq)
    · rw [hq] at e; cases e
      exact ⟨fun e2 => by have := h.opn.lt q e2; omega, fun e2 => by have := h.prf.lt q e2; omega⟩
  · intro i hi
    rcases hlt i hi with h1 | rfl
    · rw [hmb i h1]
      refine ⟨(h.wk i h1).1, fun e => ?_, (h.wk i h1).2.2⟩
      have e : own' = some (m.wb i) := e
      rcases ho with e2 | ⟨g, e2, hg⟩
      · exact (h.wk i h1).2.1 (by rw [← e2]; exact e)
      · rw [e2] at e; cases e; have := h.wl i h1; omega
    · rw [hnb]
      exact ⟨hb.1, fun e => hb' b e rfl, hb.2.2⟩
end Go.Proofs.Ythgmdilfmeefiaa

namespace Go.Proofs.Ythgmdilfmeefiaa
set_option linter.all false
set_option linter.unusedSimpArgs false
set_option linter.unusedVariables false
open Go.RowKit

theorem place_le (s : BS) (r : Rep) : (placeS s r).1 ≤ s.opn.length := by
  unfold placeS
  split
  · rename_i i h
    have := List.mem_of_find?_eq_some h
    simp at this
    exact Nat.le_of_lt this
  · split
    · exact Nat.le_refl _
    · rename_i i h
      have hm : i ∈ mayL s r s.opn.length := by rw [h]; simp
      unfold mayL at hm
      simp at hm
      exact Nat.le_of_lt hm.1
    · exact Nat.le_refl _
theorem rp_snoc (s : BS) (r : Rep) (l : List Nat) (o : List Bool) {i : Nat} (hi : i < s.reps.length) : BS.rp { s with reps := s.reps ++ [r], of := l, opn := o } i = s.rp i := by
  unfold BS.rp
  simp [List.getD_eq_getElem?_getD, List.getElem?_append_left hi]
theorem rp_new (s : BS) (r : Rep) (l : List Nat) (o : List Bool) : BS.rp { s with reps := s.reps ++ [r], of := l, opn := o } s.reps.length = r := by
  unfold BS.rp
  simp [List.getD_eq_getElem?_getD]
theorem taken_inv {s : BS} (h : BInv s) {r : Rep} (hr : repB r = true) (hl : s.reps.length < 500) {at_ : Nat} (ha : at_ ≤ s.opn.length) : BInv (takenS s r at_) where
  rules := h.rules
  len := by simp [takenS, h.len]
  lt := fun j hj => by
    have hj : j < s.reps.length + 1 := by simpa [takenS] using hj
    have hlo : (takenS s r at_).opn.length = (if at_ = s.opn.length then s.opn.length + 1 else s.opn.length) := by
      unfold takenS
      by_cases e : at_ = s.opn.length <;> simp [e]
    rw [hlo]
    by_cases e : j < s.reps.length
    · have h1 := h.lt j e
      have : (takenS s r at_).o j = s.o j := by
        unfold BS.o takenS
        simp [List.getD_eq_getElem?_getD, List.getElem?_append_left (show j < s.of.length by rw [h.len]; exact e)]
      rw [this]
      split <;> omega
    · obtain rfl : j = s.reps.length := by omega
      have : (takenS s r at_).o s.reps.length = at_ := by
        unfold BS.o takenS
        rw [← h.len]
        simp [List.getD_eq_getElem?_getD]
      rw [this]
      split <;> omega
  ok := fun x hx => by
    have hx : x ∈ s.reps ++ [r] := hx
    rcases List.mem_append.1 hx with h1 | h1
    · exact h.ok x h1
    · rw [List.mem_singleton.1 h1]; exact hr
  opn := by
    have := h.opn
    unfold takenS
    by_cases e : at_ = s.opn.length <;> simp [e] <;> omega
  max := ⟨by simp [takenS]; omega, h.max.2⟩
  prf := fun p hp => by
    have h1 := h.prf p hp
    refine ⟨⟨h1.1.1, by simp [takenS]; omega⟩, ?_⟩
    have : (takenS s r at_).rp p.rep.toNat = s.rp p.rep.toNat := rp_snoc s r _ _ (by omega)
    rw [this]
    exact h1.2
theorem took_inv {s : BS} (h : BInv s) (r : Rep) : BInv (tookS s r).1 := by
  unfold tookS
  split
  · exact h
  · rename_i hr
    split
    · exact h
    · rename_i hl
      have := h.max.1
      exact taken_inv h (by simpa using hr) (by omega) (place_le s r)
theorem prove_inv {s : BS} (h : BInv s) (p : Prf) : BInv (proveS s p).1 := by
  unfold proveS
  split
  · exact h
  · rename_i h1
    split
    · exact h
    · rename_i h2
      split
      · exact h
      · rename_i h3
        have hr : rightB p (s.rp p.rep.toNat) = true := by
          simp only [Bool.not_eq_false, Bool.and_eq_true] at h2
          exact h2.1.1
        have hin := inB_iff.1 (by simpa using h1 : inB p.rep 0 ((s.reps.length : Int) - 1) = true)
        have hmx := h.max.2
        have h4 : s.prf.length < 500 := Nat.lt_of_le_of_ne hmx h3
        exact ⟨h.rules, h.len, h.lt, h.ok, h.opn, ⟨h.max.1, by simp; omega⟩, fun q hq => by
          have hq : q ∈ s.prf ++ [p] := hq
          rcases List.mem_append.1 hq with h4 | h4
          · exact h.prf q h4
          · rw [List.mem_singleton.1 h4]
            exact ⟨⟨hin.1, by have := hin.2; show p.rep < (s.reps.length : Int); omega⟩, hr⟩⟩
theorem opn_inv {s : BS} (h : BInv s) (l : List Bool) (hl : l.length = s.opn.length) : BInv { s with opn := l } :=
  ⟨h.rules, h.len, fun j hj => by rw [show ({ s with opn := l } : BS).opn.length = s.opn.length from hl]; exact h.lt j hj, h.ok, by rw [show ({ s with opn := l } : BS).opn.length = s.opn.length from hl]; exact h.opn, h.max, h.prf⟩
theorem close_inv {s : BS} (h : BInv s) (i : Int) : BInv (closeS s i).1 := by
  unfold closeS
  split
  · exact h
  · split
    · exact h
    · split
      · exact h
      · exact opn_inv h _ (by simp)
theorem of_mem {s : BS} {i : Int} {j : Nat} : j ∈ ofL s i ↔ j < s.reps.length ∧ (s.o j : Int) = i := by
  unfold ofL
  simp
theorem of_range {s : BS} (h : BInv s) {i : Int} (hi : ofL s i ≠ []) : 0 ≤ i ∧ i < s.opn.length := by
  obtain ⟨j, hj⟩ := List.exists_mem_of_ne_nil _ hi
  obtain ⟨h1, h2⟩ := of_mem.1 hj
  have := h.lt j h1
  omega
theorem map_o {s : BS} (h : BInv s) (f : Nat → Nat) {j : Nat} (hj : j < s.reps.length) : ({ s with of := s.of.map f } : BS).o j = f (s.o j) := by
  unfold BS.o
  have : j < s.of.length := by rw [h.len]; exact hj
  simp [List.getD_eq_getElem?_getD, List.getElem?_eq_getElem this]
theorem of_inv {s : BS} (h : BInv s) (f : Nat → Nat) (hf : ∀ j, j < s.reps.length → f (s.o j) < s.opn.length) : BInv { s with of := s.of.map f } :=
  ⟨h.rules, by simp [h.len], fun j hj => by rw [map_o h f hj]; exact hf j hj, h.ok, h.opn, h.max, h.prf⟩
theorem join_inv {s : BS} (h : BInv s) (a b : Int) : BInv (joinS s a b).1 := by
  unfold joinS
  split
  · exact h
  · rename_i h1
    simp only [not_or] at h1
    split
    · exact h
    · split
      · exact h
      · have ha := of_range h h1.1
        refine opn_inv (of_inv h (fun x => if (x : Int) = b then a.toNat else x) (fun j hj => ?_)) _ (by simp)
        split
        · omega
        · exact h.lt j hj
theorem do_inv {s : BS} (h : BInv s) (x : Act_) : BInv (doS s x).1 := by
  unfold doS
  split
  · exact prove_inv h _
  · split
    · exact close_inv h _
    · split
      · exact join_inv h _ _
      · exact took_inv h _
/-- A book without reports. -/
def emptyS (wd dr : Int) : BS := ⟨wd, dr, [], [], [], []⟩
theorem empty_inv {wd dr : Int} (h : rulesB wd dr = true) : BInv (emptyS wd dr) :=
  ⟨h, rfl, fun j hj => absurd hj (by simp [emptyS]), fun r hr => by simp [emptyS] at hr, by simp [emptyS], by simp [emptyS], fun p hp => by simp [emptyS] at hp⟩
/-- A call's turn: only the book's own blocks; new ones of its own are new. -/
structure Turn (k : Nat) (w w' : World) (s s' : BS) (m m' : Mem) : Prop where
  frm : Frm w.heap.size (m.own k s) w w'
  own : ∀ b ∈ m'.own k s', b ∈ m.own k s ∨ w.heap.size ≤ b
end Go.Proofs.Ythgmdilfmeefiaa

namespace Go.Proofs.Ythgmdilfmeefiaa
set_option linter.all false
set_option linter.unusedSimpArgs false
set_option linter.unusedVariables false
open Go.RowKit

def emptyM : Mem := ⟨.slice none 0 0, none, .slice none 0 0, none, .slice none 0 0, none, fun _ => 0, fun _ => 0, fun _ => 0, fun _ => .nilIface⟩
theorem empty_at {w : World} {k : Nat} {wd dr : Int} (hr : rulesB wd dr = true) (hb : Blk w k 64 [.int .i64 wd, .int .i64 dr, .bool true, .slice none 0 0, .slice none 0 0, .slice none 0 0]) : BookAt w k (emptyS wd dr) emptyM where
  blk := hb
  ents := Sl.nil w 81 8
  opn := Sl.nil w 4 1
  prf := Sl.nil w 102 3
  wh := fun i hi => absurd hi (by simp [emptyS])
  pv := fun i hi => absurd hi (by simp [emptyS])
  inv := empty_inv hr
  ke := ⟨by simp [emptyM], by simp [emptyM], by simp [emptyM]⟩
  eo := fun b hb => by simp [emptyM] at hb
  oq := fun b hb => by simp [emptyM] at hb
  wk := fun i hi => absurd hi (by simp [emptyS])
set_option maxRecDepth 100000 in
set_option maxHeartbeats 8000000 in
theorem new_any (wd dr : Int) (w : World) :
    Calls Try.prog 14 #[.int .i64 wd, .int .i64 dr] w fun e w' => (if rulesB wd dr = true then ∃ k, e = .returned (.tuple #[.pointer (some ⟨k, 0, none⟩), .int .i64 0]) ∧ BookAt w' k (emptyS wd dr) emptyM ∧ w.heap.size ≤ k else e = .returned (.tuple #[.pointer none, .int .i64 4])) ∧ Frm w.heap.size [] w w' := by
  have hf0 := Try.func14
  obtain ⟨res, hres⟩ : ∃ c, c = rulesB wd dr := ⟨_, rfl⟩
  have hva := fun V => valid_any wd dr V
  rw [← hres]
  simp only [← hres] at hva
  have hem : ∀ (V : World) k, res = true → Blk V k 64 [.int .i64 wd, .int .i64 dr, .bool true, .slice none 0 0, .slice none 0 0, .slice none 0 0] → BookAt V k (emptyS wd dr) emptyM := fun V k hr hb => empty_at (by rw [← hres]; exact hr) hb
  clear hres
  have HVA := Lib.hid hva
  have HEM := Lib.hid hem
  clear hem hva
  go_enter Try.func14, Try.ntmps14
  go_wp2_with (with_reducible refine atStore 60 rfl ?_; refine stop_ ?_)
  refine go_on ?_
  refine wpList_storeNew (P := Try.prog) (cs := [.int .i64 wd, .int .i64 dr]) rfl rfl rfl rfl rfl info60 (by simp [Value.oneCell']) ?_
  intro V1 hv1 k6 hz; clear hz
  obtain ⟨p6, hp6⟩ : ∃ p, p = w.heap.size := ⟨_, rfl⟩
  have hp6' := hp6.symm
  dsimp only [Act.put]
  rw [← hp6] at k6 ⊢
  clear hp6'
  have hle : p6 ≤ p6 := Nat.le_refl _
  rw [hp6] at hle
  have HP6 := Lib.hid hp6
  have HF := Lib.hid hv1
  have K6 := Lib.hid k6
  have HLE := Lib.hid hle
  clear hle k6 hv1 hp6
  go_wp2_with (with_reducible refine atLoad 60 rfl ?_; refine wpList_loadE rfl rfl rfl (load60 K6.out rfl) ?_)
  refine (HVA.out V1).mono ?_; rintro e w1 ⟨rfl, hf1⟩
  have hf : Frm w.heap.size [] w w1 := HF.out.call hf1 HF.out.size (by simp)
  have k6 := hf1.blk K6.out K6.out.lt (by simp)
  clear hf1 HF K6
  have HF := Lib.hid hf
  have K6 := Lib.hid k6
  clear k6 hf
  cases res
  · go_wp2_with fail
    refine bodyPost_ret (v := .tuple #[.pointer none, .int .i64 4]) (by simp [results, Try.results14, go_sem]) rfl ?_
    exact ⟨rfl, HF.out⟩
  · go_wp2_with (with_reducible refine atLoad 60 rfl ?_; refine wpList_loadE rfl rfl rfl (load60 K6.out rfl) ?_)
    refine bodyPost_ret (v := .tuple #[.pointer (some ⟨w1.heap.size, 0, none⟩), .int .i64 0]) (by simp [results, Try.results14, go_sem]) rfl ?_
    have hn := Blk.new w1 64 [.int .i64 wd, .int .i64 dr, .bool true, .slice none 0 0, .slice none 0 0, .slice none 0 0]
    refine ⟨?_, HF.out.alloc HF.out.size _⟩
    exact ⟨w1.heap.size, rfl, HEM.out _ _ (by simp) hn, HF.out.size⟩
end Go.Proofs.Ythgmdilfmeefiaa

namespace Go.Proofs.Ythgmdilfmeefiaa
set_option linter.all false
set_option linter.unusedSimpArgs false
set_option linter.unusedVariables false
open Go.RowKit

theorem rep_wh {r : Rep} (h : repB r = true) : r.wh.length ≤ 1000 := by
  unfold repB at h
  simp only [Bool.and_eq_true] at h
  have h5 := h.1.1.2
  unfold areaB at h5
  simp only [Bool.and_eq_true, decide_eq_true_eq] at h5
  have := h5.1.1.2
  omega
theorem opn_taken {s : BS} {r : Rep} {at_ : Nat} : takenS s r at_ = { ({ ({ s with opn := if at_ = s.opn.length then s.opn ++ [true] else s.opn } : BS) with opn := (if at_ = s.opn.length then s.opn ++ [true] else s.opn).set at_ true } : BS) with reps := s.reps ++ [r], of := s.of ++ [at_] } := rfl
/-- Between the question where a report goes and its being written. -/
structure Mid (w wA : World) (k : Nat) (s s1 : BS) (m m1 : Mem) (r : Rep) (at_ : Nat) (C : List Value) : Prop where
  raw : BookRaw wA k s1 m1
  reps : s1.reps.length = s.reps.length
  of : s1.of.length = s1.reps.length
  end_ : takenS s r at_ = { s1 with opn := s1.opn.set at_ true, reps := s1.reps ++ [r], of := s1.of ++ [at_] }
  lt : at_ < s1.opn.length
  le : s1.opn.length ≤ 501
  frm : Frm w.heap.size (m.own k s) w wA
  own : ∀ b ∈ m1.own k s1, b ∈ m.own k s ∨ w.heap.size < b
  box : Blk wA w.heap.size 24 C
set_option maxRecDepth 100000 in
set_option maxHeartbeats 16000000 in
theorem take_any {w : World} {k : Nat} {s : BS} {m : Mem} (h : BookAt w k s m) (r : Rep) (ad : Option Addr) (b o cap : Nat) (hr : RwP w ad b o r.wh.length r.wh) (hbo : b ∉ m.own k s) :
    Calls Try.prog 26 #[.pointer (some ⟨k, 0, none⟩), .agg (repC r ad cap).toArray] w fun e w' => e = .returned (.tuple #[.int .i64 (tookS s r).2.1, .int .i64 (tookS s r).2.2.1, .int .i64 (tookS s r).2.2.2]) ∧ ∃ m', BookAt w' k (tookS s r).1 m' ∧ Turn k w w' s (tookS s r).1 m m' := by
  have hf0 := Try.func26
  obtain ⟨i4, hi4, hz40, hz41, hz42⟩ := info_parts3 info4z
  obtain ⟨i8, hi8, hz80, hz81, hz82⟩ := info_parts3 info81z
  have hchk : ∀ V, Frm w.heap.size [] w V → Calls Try.prog 29 #[.agg (repC r ad cap).toArray] V fun e w' => e = .returned (.bool (repB r)) ∧ Frm V.heap.size [] V w' := fun V hV => check_any r ad b o cap V (hr.frm hV (Nat.le_refl _))
  have hpl : repB r = true → ∀ V, Frm w.heap.size [] w V → Calls Try.prog 51 #[.pointer (some ⟨k, 0, none⟩), .agg (repC r ad cap).toArray] V fun e w' => e = .returned (.tuple #[.int .i64 ((placeS s r).1 : Int), .int .i64 (placeS s r).2]) ∧ Frm V.heap.size [] V w' := fun hok V hV => place_any (h.still hV) r ad b o cap hok (hr.frm hV (Nat.le_refl _))
  have hcp : repB r = true → ∀ V, RwP V ad b o r.wh.length r.wh → Calls Try.prog 39 #[.agg (repC r ad cap).toArray] V fun e w' => (∃ b' o' c', e = .returned (.agg #[.int .i64 r.kind, .int .i64 r.time, .string r.src, .string r.abt, .slice (some ⟨b', o', none⟩) r.wh.length c', .int .i64 r.souls, .int .i64 r.trust]) ∧ SlP w' (.slice (some ⟨b', o', none⟩) r.wh.length c') r.wh (some b') ∧ V.heap.size ≤ b') ∧ Frm V.heap.size [] V w' := fun hok V hV => copied_any r ad b o cap (rep_ok hok).2.1 (rep_wh hok) V hV
  obtain ⟨n, hn⟩ : ∃ n, n = s.reps.length := ⟨_, rfl⟩
  have hnm : n ≤ 500 := by rw [hn]; exact h.inv.max.1
  obtain ⟨ea, ec, hve⟩ := h.ents.form
  have hlk := h.blk.lt
  have c2 : w.cell? ⟨k, 2, none⟩ = some (.bool true) := h.blk.cell 2
  have c3 : w.cell? ⟨k, 3, none⟩ = some (.slice ea n ec) := by rw [hn, ← hve]; exact h.blk.cell 3
  obtain ⟨C, hC⟩ : ∃ E, E = repC r ad cap := ⟨_, rfl⟩
  have hz7 : C.length = 7 := by rw [hC]; rfl
  obtain ⟨v, hv⟩ : ∃ c, c = repB r := ⟨_, rfl⟩
  rw [← hC, ← hv] at hchk
  rw [← hC] at hpl hcp ⊢
  clear hve hC
  have HCHK := Lib.hid hchk
  have HPL := Lib.hid hpl
  have HCP := Lib.hid hcp
  have HI4 := Lib.hid hi4
  have HZ40 := Lib.hid hz40
  have HZ41 := Lib.hid hz41
  have HZ42 := Lib.hid hz42
  have HI8 := Lib.hid hi8
  have HZ80 := Lib.hid hz80
  have HZ81 := Lib.hid hz81
  have HZ82 := Lib.hid hz82
  have HNM := Lib.hid hnm
  have HZ7 := Lib.hid hz7
  have HLK := Lib.hid hlk
  have HR := Lib.hid hr
  have HBO := Lib.hid hbo
  have HH := Lib.hid h
  have HV := Lib.hid hv
  have HN := Lib.hid hn
  clear hn hv h hbo hr hlk hz7 hnm hz82 hz81 hz80 hi8 hz42 hz41 hz40 hi4 hcp hpl hchk
  go_enter Try.func26, Try.ntmps26
  go_upto_region 1 with fail
  refine namedC ?_; intro W hW
  have k0 : Blk W w.heap.size 24 C := by rw [hW]; exact Blk.new w 24 C
  have hf : Frm w.heap.size [] w W := by rw [hW]; repeat (first | with_reducible exact Frm.refl _ _ _ | with_reducible refine Frm.drewN ?_ | with_reducible refine Frm.drew ?_ | ((with_reducible refine Frm.setCell' ?_ ?_); · first | (left; simp; done) | (right; simp; done) | (right; simp; omega)) | ((with_reducible refine Frm.alloc' ?_ ?_); · first | exact Nat.le_refl _ | (simp; done) | (simp; omega)))
  clear hW hf0
  have c2' : W.cell? ⟨k, 2, none⟩ = some (.bool true) := (hf.cell HLK.out (by simp)).trans c2
  have HF := Lib.hid hf
  have K0 := Lib.hid k0
  have C2 := Lib.hid c2'
  have C3 := Lib.hid c3
  clear c3 c2' k0 hf
  go_wp2_with (first | (go_at_call 35; refine (is_made _ k true C2.out).mono ?_; rintro e w' ⟨rfl, rfl⟩) | (with_reducible refine atLoad 24 rfl ?_; refine wpList_loadE rfl rfl rfl (load24 K0.out HZ7.out) ?_))
  refine (HCHK.out W HF.out).mono ?_; rintro e w1 ⟨rfl, hf1⟩
  have hf := HF.out.call hf1 HF.out.size (by simp)
  have k0 := hf1.blk K0.out K0.out.lt (by simp)
  clear hf1 HF K0 HCHK
  have c3 : w1.cell? ⟨k, 3, none⟩ = some (.slice ea n ec) := (hf.cell HLK.out (by simp)).trans C3.out
  have HF := Lib.hid hf
  have K0 := Lib.hid k0
  have C3' := Lib.hid c3
  clear c3 k0 hf
  cases v
  · have ht : tookS s r = (s, 0, 0, 2) := by unfold tookS; rw [if_pos HV.out.symm]
    have HT := Lib.hid ht
    clear ht
    go_wp2_with fail
    refine bodyPost_ret (v := .tuple #[.int .i64 0, .int .i64 0, .int .i64 2]) (by simp [results, Try.results26, go_sem]) rfl ?_
    rw [HT.out]
    exact ⟨rfl, m, HH.out.still HF.out, ⟨HF.out.narrow (by simp), fun b hb => .inl hb⟩⟩
  have hok : repB r = true := HV.out.symm
  have hpl := HPL.out hok
  have hcp := HCP.out hok
  clear HPL HCP
  have c3 := C3'.out
  by_cases h5 : n = 500
  · subst h5
    have ht : tookS s r = (s, 0, 0, 6) := by unfold tookS; rw [if_neg (by rw [hok]; simp), if_pos HN.out.symm]
    have HT := Lib.hid ht
    have HOK := Lib.hid hok
    have HPL := Lib.hid hpl
    have HCP := Lib.hid hcp
    clear hcp hpl hok ht
    go_wp2_with fail
    refine bodyPost_ret (v := .tuple #[.int .i64 0, .int .i64 0, .int .i64 6]) (by simp [results, Try.results26, go_sem]) rfl ?_
    rw [HT.out]
    exact ⟨rfl, m, HH.out.still HF.out, ⟨HF.out.narrow (by simp), fun b hb => .inl hb⟩⟩
  have h5' : ¬ (n : Int) = 500 := by omega
  have h5b : ((n : Int) == 500) = false := by simp; omega
  have ht : tookS s r = (takenS s r (placeS s r).1, ((placeS s r).1 : Int), (placeS s r).2, 0) := by unfold tookS; rw [if_neg (by rw [hok]; simp), if_neg (by rw [← HN.out]; exact h5)]
  have hpq := place_le s r
  have hca := hpl w1 HF.out
  obtain ⟨at_, hat⟩ : ∃ c, c = (placeS s r).1 := ⟨_, rfl⟩
  obtain ⟨why, hwhy⟩ : ∃ c, c = (placeS s r).2 := ⟨_, rfl⟩
  rw [← hat, ← hwhy] at hca
  rw [← hat] at hpq
  rw [← hat, ← hwhy] at ht
  have hinv : BInv (takenS s r at_) := taken_inv HH.out.inv hok (by have := HNM.out; have := HN.out; omega) hpq
  have hlen := HH.out.inv.len
  clear hat hwhy hpl
  have HT := Lib.hid ht
  have HOK := Lib.hid hok
  have HCP := Lib.hid hcp
  have HPQ := Lib.hid hpq
  have HCA := Lib.hid hca
  have HINV := Lib.hid hinv
  have HLEN := Lib.hid hlen
  clear hlen hinv hca hpq hcp hok ht
  go_wp2_with (with_reducible refine atLoad 24 rfl ?_; refine wpList_loadE rfl rfl rfl (load24 K0.out HZ7.out) ?_)
  refine HCA.out.mono ?_; rintro e w2 ⟨rfl, hf1⟩
  have hf := HF.out.call hf1 HF.out.size (by simp)
  have k0 := hf1.blk K0.out K0.out.lt (by simp)
  clear hf1 HF K0 HCA C3' c3 C3
  obtain ⟨oa, oc, hvo⟩ := HH.out.opn.form
  have hraw := (HH.out.still hf).raw
  have c4 : w2.cell? ⟨k, 4, none⟩ = some (.slice oa s.opn.length oc) := by rw [← hvo]; exact hraw.blk.cell 4
  have g4 := hraw.blk.free 4
  obtain ⟨n1, hn1⟩ : ∃ c, c = s.opn.length := ⟨_, rfl⟩
  have hno : n1 ≤ 500 := by have := HH.out.inv.opn; have := HNM.out; have := HN.out; omega
  have hpq := HPQ.out
  rw [← hn1] at c4 hpq
  clear HPQ
  have HF := Lib.hid hf
  have K0 := Lib.hid k0
  have HRAW := Lib.hid hraw
  have HVO := Lib.hid hvo
  have HN1 := Lib.hid hn1
  have HNO := Lib.hid hno
  clear hno hn1 hvo hraw k0 hf
  by_cases ha : at_ = n1
  · subst ha
    have C4 := Lib.hid c4
    clear c4
    have c4 := C4.out
    go_upto_region 9 with fail
    go_wp2_with (at_builtin; refine hold ?_; intro qG hG)
    refine hG.1 ?_; clear hG qG
    have hso := HRAW.out.opn
    rw [HVO.out, ← HN1.out] at hso
    refine wpList_append_sl _ rfl (.tmp 39) (.tmp 40) 52 rfl 4 i4 _ 1 1 Try.underlying52 HI4.out HZ40.out HZ41.out HZ42.out rfl _ _ (boolsC s.opn) m.oo rfl (hso.alloc _) ⟨w2.heap.size, 0, none⟩ 1 1 [.bool true] rfl rfl (news_alloc _ [.bool true] _) (by simp [Value.oneCell']) (by have := HNO.out; unfold maxLen; omega) (by have := HNO.out; omega) ?_
    intro v' w3 own' hs3 hf3 ho3
    obtain ⟨va, vc, hva⟩ := hs3.form
    subst hva
    obtain ⟨wq, hwq⟩ : ∃ V, V = w2.alloc (.cells [Value.bool true].toArray 4) := ⟨_, rfl⟩
    have hfD : Frm w2.heap.size [] w2 wq := by rw [hwq]; exact (Frm.refl _ _ _).alloc (Nat.le_refl _) _
    have hf3' : Frm wq.heap.size m.oo.toList wq w3 := by rw [hwq]; exact hf3
    have ho3' : own' = m.oo ∨ ∃ g, own' = some g ∧ wq.heap.size ≤ g := by rw [hwq]; exact ho3
    have hs3' : Sl w3 4 1 (.slice va (at_ + 1) vc) (s.opn.length + 1) (boolsC s.opn ++ [.bool true]) own' := by rw [← HN1.out]; exact hs3
    have hra1 := HRAW.out.still hfD
    have hra2 := hra1.growOpen (x := true) hs3' hf3' ho3'
    have hkE : Blk w3 k 64 (bookC s m) := hf3'.blk hra1.blk hra1.blk.lt (fun hm => hra1.ke.2.1 (by simpa using hm))
    have hszD : w2.heap.size ≤ wq.heap.size := hfD.size
    have hk2 := K0.out.lt
    have hfE : Frm w.heap.size (m.own k s) w w3 := ((HF.out.narrow (S' := m.own k s) (by simp)).call hfD HF.out.size (by simp)).call hf3' (Nat.le_trans HF.out.size hszD) (fun q hq hm => own_iff.2 (.inr (.inr (.inl (by simpa using hm)))))
    have hfF := hfE.setCell (p := ⟨k, 4, none⟩) (.inl (own_iff.2 (.inl rfl))) (.slice va (at_ + 1) vc)
    have hpE : Blk w3 w.heap.size 24 C := by
      have k1 := hfD.blk K0.out K0.out.lt (by simp)
      refine hf3'.blk k1 k1.lt (fun hm => ?_)
      have := HH.out.own_lt w.heap.size (own_iff.2 (.inr (.inr (.inl (by simpa using hm)))))
      omega
    have hpF := hpE.other ⟨k, 4, none⟩ (by have := HLK.out; show k ≠ w.heap.size; omega) (.slice va (at_ + 1) vc)
    have hownE : ∀ q ∈ ({ m with vo := (.slice va (at_ + 1) vc), oo := own' } : Mem).own k { s with opn := s.opn ++ [true] }, q ∈ m.own k s ∨ w.heap.size < q := fun q hq => by
      rcases own_iff.1 hq with rfl | e | e | e | e
      · exact .inl (own_iff.2 (.inl rfl))
      · exact .inl (own_iff.2 (.inr (.inl e)))
      · have e : own' = some q := e
        rcases ho3' with e2 | ⟨g, e2, hg⟩
        · exact .inl (own_iff.2 (.inr (.inr (.inl (by rw [← e2]; exact e)))))
        · rw [e] at e2; cases e2; exact .inr (by omega)
      · exact .inl (own_iff.2 (.inr (.inr (.inr (.inl e)))))
      · exact .inl (own_iff.2 (.inr (.inr (.inr (.inr e)))))
    have c4 : w3.cell? ⟨k, 4, none⟩ = some (.slice oa at_ oc) := by rw [HN1.out, ← HVO.out]; exact hkE.cell 4
    have g4 := hkE.free 4
    clear hso hs3 hf3 ho3 hwq hfD hf3' ho3' hs3' hra1 hkE hszD hk2 hfE hpE C4
    have HRA := Lib.hid hra2
    have HFF := Lib.hid hfF
    have HPF := Lib.hid hpF
    have HOE := Lib.hid hownE
    clear hownE hpF hfF hra2
    go_upto_region 10 with fail
    clear c4 g4
    have hra := HRA.out
    have hff := HFF.out
    have hpf := HPF.out
    generalize World.setCell w3 _ _ = wA at hra hff hpf ⊢
    clear HRA HFF HPF HF K0
    obtain ⟨s1, hs1⟩ : ∃ z, z = ({ s with opn := s.opn ++ [true] } : BS) := ⟨_, rfl⟩
    obtain ⟨m1, hm1⟩ : ∃ z, z = ({ m with vo := (.slice va (at_ + 1) vc), oo := own' } : Mem) := ⟨_, rfl⟩
    have hmid : Mid w wA k s s1 m m1 r at_ C := by
      have hat : at_ = s.opn.length := HN1.out
      have hoe := HOE.out
      have hno := HNO.out
      rw [HN1.out] at hno
      rw [← hs1, ← hm1] at hra hoe
      refine ⟨hra, by rw [hs1], by rw [hs1]; exact HLEN.out, ?_, by rw [hs1]; simp; omega, by rw [hs1]; simp; omega, hff, hoe, hpf⟩
      rw [hs1]
      unfold takenS
      rw [if_pos hat]
    clear hs1 hm1 hra hff hpf HOE HRAW
    clear hpq
    have hwl : w.heap.size < wA.heap.size := hmid.box.lt
    have HM := Lib.hid hmid
    have HWL := Lib.hid hwl
    clear hwl hmid
    have hlt := HM.out.lt
    have hwl := HWL.out
    obtain ⟨ob, oo, oc1, ev, eown, _, _⟩ := HM.out.raw.opn.pos (by omega)
    have c4 : wA.cell? ⟨k, 4, none⟩ = some (.slice (some ⟨ob, oo, none⟩) s1.opn.length oc1) := by rw [← ev]; exact HM.out.raw.blk.cell 4
    have hso := HM.out.raw.opn
    rw [ev] at hso
    have cx : ∃ x, wA.cell? ⟨ob, oo + at_, none⟩ = some (.bool x) := by
      have := hso.cell at_ (by simp [boolsC]; omega)
      rw [this]
      simp [boolsC, List.getElem?_eq_getElem hlt]
    obtain ⟨x, cx⟩ := cx
    have gx := hso.free (oo + at_)
    have hra := HM.out.raw.setOpen ev hlt true
    have hobm : ob ∈ m1.own k s1 := own_iff.2 (.inr (.inr (.inl eown)))
    have hobn : ob ≠ w.heap.size := by
      rcases HM.out.own ob hobm with e | e
      · have := HH.out.own_lt ob e; omega
      · omega
    have hfA := HM.out.frm.setCell (p := ⟨ob, oo + at_, none⟩) (by
      rcases HM.out.own ob hobm with e | e
      · exact .inl e
      · exact .inr (Nat.le_of_lt e)) (.bool true)
    have k0 := HM.out.box.other ⟨ob, oo + at_, none⟩ hobn (.bool true)
    have hlt' : (at_ : Int) < ((s1.opn.length : Nat) : Int) := by omega
    obtain ⟨n2, hn2⟩ : ∃ c, c = s1.opn.length := ⟨_, rfl⟩
    rw [← hn2] at c4 hlt'
    clear hso ev eown hobn hlt hn2
    have HRA := Lib.hid hra
    have HFA := Lib.hid hfA
    have KK0 := Lib.hid k0
    have HOBM := Lib.hid hobm
    clear hobm k0 hfA hra
    go_upto_region 11 with fail
    clear c4 cx gx hlt'
    have hra := HRA.out
    have hfA := HFA.out
    have k0 := KK0.out
    generalize World.setCell wA _ _ = wB at hra hfA k0 ⊢
    clear HRA HFA KK0
    obtain ⟨s2, hs2⟩ : ∃ z, z = ({ s1 with opn := s1.opn.set at_ true } : BS) := ⟨_, rfl⟩
    have hown2 : ∀ q ∈ m1.own k s2, q ∈ m.own k s ∨ w.heap.size < q := fun q hq => HM.out.own q (by rw [hs2] at hq; exact hq)
    have hend : takenS s r at_ = { s2 with reps := s2.reps ++ [r], of := s2.of ++ [at_] } := by rw [hs2]; exact HM.out.end_
    have hl2 : s2.reps.length = n := by rw [hs2]; exact HM.out.reps.trans HN.out.symm
    have ho2 : s2.of.length = s2.reps.length := by rw [hs2]; exact HM.out.of
    rw [← hs2] at hra
    clear hs2
    have HOWN2 := Lib.hid hown2
    have HEND := Lib.hid hend
    have HL2 := Lib.hid hl2
    have HO2 := Lib.hid ho2
    clear ho2 hl2 hend hown2
    obtain ⟨en, ec1, eve⟩ := hra.ents.form
    rw [HL2.out] at eve
    have hfx : ∀ V, (Blk V k 64 (bookC s2 m1) ∧ Blk V w.heap.size 24 C) → V.cell? ⟨k, 3, none⟩ = some (.slice en n ec1) ∧ True := fun V hV => ⟨by rw [← eve]; exact hV.1.cell 3, trivial⟩
    have hl24 : ∀ V, (Blk V k 64 (bookC s2 m1) ∧ Blk V w.heap.size 24 C) → (loadVar 24 ⟨w.heap.size, 0, none⟩).run Try.prog V = .ok (.agg C.toArray) V := fun V hV => load24 hV.2 HZ7.out
    have hra := hra.still ((Frm.refl wB.heap.size [] wB).drew)
    have hfA := hfA.drew
    have k0 := k0.drew
    refine wp_region_leftL (fun V => Blk V k 64 (bookC s2 m1) ∧ Blk V w.heap.size 24 C) 13 (by kernel_rfl) ?_
    obtain ⟨wC, hwC⟩ : ∃ V, V = wB.drew := ⟨_, rfl⟩
    rw [← hwC] at hra hfA k0 ⊢
    have hS : Blk wC k 64 (bookC s2 m1) ∧ Blk wC w.heap.size 24 C := ⟨hra.blk, k0⟩
    clear hwC
    have hrC := HR.out.frmS hfA HBO.out
    have HS := Lib.hid hS
    have HFX := Lib.hid hfx
    have HL24 := Lib.hid hl24
    have HRA := Lib.hid hra
    have HFA := Lib.hid hfA
    have HRC := Lib.hid hrC
    have EVE := Lib.hid eve
    clear eve hrC hfA hra hl24 hfx hS
    first | (refine LeftL.tkG (v := ?_) 0 rfl HS.out ?_ ?_; rotate_left; · intro V hV; obtain ⟨z1, z2⟩ := HFX.out V hV; clear hV; go_simp; rfl) | refine LeftL.tkN 0 rfl HS.out ?_
    (intro K h; go_simp; refine h _ ?_; clear h K)
    first | (refine LeftL.tkG (v := ?_) 1 rfl HS.out ?_ ?_; rotate_left; · intro V hV; obtain ⟨z1, z2⟩ := HFX.out V hV; clear hV; go_simp; rfl) | refine LeftL.tkN 1 rfl HS.out ?_
    (intro K h; go_simp; refine h _ ?_; clear h K)
    first | (refine LeftL.tkG (v := ?_) 2 rfl HS.out ?_ ?_; rotate_left; · intro V hV; obtain ⟨z1, z2⟩ := HFX.out V hV; clear hV; go_simp; rfl) | refine LeftL.tkN 2 rfl HS.out ?_
    (intro K h; go_simp; refine h _ ?_; clear h K)
    first | (refine LeftL.tkG (v := ?_) 3 rfl HS.out ?_ ?_; rotate_left; · intro V hV; obtain ⟨z1, z2⟩ := HFX.out V hV; clear hV; go_simp; rfl) | refine LeftL.tkN 3 rfl HS.out ?_
    (intro K h; go_simp; refine h _ ?_; clear h K)
    first | (refine LeftL.tkG (v := ?_) 4 rfl HS.out ?_ ?_; rotate_left; · intro V hV; obtain ⟨z1, z2⟩ := HFX.out V hV; clear hV; go_simp; rfl) | refine LeftL.tkN 4 rfl HS.out ?_
    (intro K h; go_simp; refine h _ ?_; clear h K)
    refine LeftL.take 5 rfl (by kernel_rfl) (fun _ _ d _ _ h => by cases d <;> exact h) (yields_loadE (ty := 24) rfl rfl rfl (HL24.out)) HS.out ?_; (intro K' hK'; go_simp; refine hK' _ ?_; clear hK' K')
    first | (refine LeftL.tkG (v := ?_) 7 rfl HS.out ?_ ?_; rotate_left; · intro V hV; obtain ⟨z1, z2⟩ := HFX.out V hV; clear hV; go_simp; rfl) | refine LeftL.tkN 7 rfl HS.out ?_
    (intro K h; go_simp; refine h _ ?_; clear h K)
    refine LeftL.one 6 rfl (by kernel_rfl) ?_
    go_wp2_with fail
    refine (HCP.out wC HRC.out).mono ?_; rintro e wD ⟨⟨b', o', c', rfl, hsp, hge⟩, hf1⟩
    have hra := HRA.out.still hf1
    have hfA := HFA.out.call hf1 HFA.out.size (by simp)
    have k0 := hf1.blk HS.out.2 HS.out.2.lt (by simp)
    have hSz := HFA.out.size
    have hge2 : w.heap.size < b' ∧ wC.heap.size ≤ b' := ⟨Nat.lt_of_lt_of_le HS.out.2.lt hge, hge⟩
    have hbnew : ∀ q ∈ m1.own k s2, q ≠ b' := fun q hq e => by
      have h1 : q < wC.heap.size := by
        rcases own_iff.1 hq with rfl | e | e | e | ⟨i, hi, rfl⟩
        · exact HRA.out.blk.lt
        · exact HRA.out.ents.lt q e
        · exact HRA.out.opn.lt q e
        · exact HRA.out.prf.lt q e
        · exact HRA.out.wl i hi
      omega
    have hS : Blk wD k 64 (bookC s2 m1) ∧ Blk wD w.heap.size 24 C := ⟨hra.blk, k0⟩
    clear HRA HFA HS HRC hf1 k0 hge hSz
    have HS := Lib.hid hS
    have HRA := Lib.hid hra
    have HFA := Lib.hid hfA
    have HSP := Lib.hid hsp
    have HGE := Lib.hid hge2
    have HBN := Lib.hid hbnew
    clear hbnew hge2 hsp hfA hra hS
    go_wp2_with fail
    first | refine ⟨fun _ => HS.out, ?_⟩ | refine ⟨HS.out, ?_⟩
    refine LeftL.one 8 rfl (by kernel_rfl) ?_
    go_wp2_with fail
    first | refine ⟨fun _ => HS.out, ?_⟩ | refine ⟨HS.out, ?_⟩
    refine LeftL.one 9 rfl (by kernel_rfl) ?_
    go_wp2_with fail
    first | refine ⟨fun _ => ⟨HS.out.1.alloc _, HS.out.2.alloc _⟩, ?_⟩ | refine ⟨⟨HS.out.1.alloc _, HS.out.2.alloc _⟩, ?_⟩
    refine LeftL.one 10 rfl (by kernel_rfl) ?_
    have hsl := HRA.out.ents
    rw [HL2.out, EVE.out] at hsl
    refine wpList_append_sl _ rfl (.tmp 54) (.tmp 59) 61 rfl 81 i8 _ 8 96 Try.underlying61 HI8.out HZ80.out HZ81.out HZ82.out rfl _ _ _ m1.oe rfl (hsl.alloc _) ⟨wD.heap.size, 0, none⟩ 1 1 (entC r (some ⟨b', o', none⟩) c' at_) rfl rfl (news_alloc _ (entC r (some ⟨b', o', none⟩) c' at_) _) (by simp [entC, repC, Value.oneCell']) (by have := HNM.out; unfold maxLen; omega) (by have := HNM.out; omega) ?_
    intro v' wE own' hs3 hf3 ho3
    obtain ⟨va, vc, hva⟩ := hs3.form
    subst hva
    clear hsl
    refine wpList_nil ?_
    dsimp only [Act.put]
    obtain ⟨wD2, hwD2⟩ : ∃ V, V = wD.alloc (.cells (entC r (some ⟨b', o', none⟩) c' at_).toArray 81) := ⟨_, rfl⟩
    have hfD : Frm wD.heap.size [] wD wD2 := by rw [hwD2]; exact (Frm.refl _ _ _).alloc (Nat.le_refl _) _
    have hs3' : Sl wE 81 8 (.slice va (n + 1) vc) (s2.reps.length + 1) ((List.range s2.reps.length).flatMap (entAt s2 m1) ++ entC r (some ⟨b', o', none⟩) c' at_) own' := by rw [HL2.out]; exact hs3
    have hf3' : Frm wD2.heap.size m1.oe.toList wD2 wE := by rw [hwD2]; exact hf3
    have ho3' : own' = m1.oe ∨ ∃ g, own' = some g ∧ wD2.heap.size ≤ g := by rw [hwD2]; exact ho3
    have hszD : wD.heap.size ≤ wD2.heap.size := hfD.size
    have hspR := SlP.rw rfl HSP.out
    have hbl : b' < wD.heap.size := HSP.out.lt b' rfl
    have hra1 := HRA.out.still hfD
    have hra2 := hra1.growEnt (r := r) (b := b') (o := o') (c := c') (at_ := at_) HO2.out hs3' hf3' ho3' (hspR.1.frm hfD (Nat.le_refl _)) (by omega) ⟨fun e => HBN.out k (own_iff.2 (.inl rfl)) e.symm, fun e => HBN.out b' (own_iff.2 (.inr (.inl e))) rfl, fun e => HBN.out b' (own_iff.2 (.inr (.inr (.inl e)))) rfl, fun e => HBN.out b' (own_iff.2 (.inr (.inr (.inr (.inl e))))) rfl⟩
    have hkE : Blk wE k 64 (bookC s2 m1) := hf3'.blk hra1.blk hra1.blk.lt (fun hm => hra1.ke.1 (by simpa using hm))
    have hpE : Blk wE w.heap.size 24 C := by
      have k1 := hfD.blk HS.out.2 HS.out.2.lt (by simp)
      refine hf3'.blk k1 k1.lt (fun hm => ?_)
      rcases HOWN2.out w.heap.size (own_iff.2 (.inr (.inl (by simpa using hm)))) with e | e
      · have := HH.out.own_lt _ e; omega
      · omega
    have hfE : Frm w.heap.size (m.own k s) w wE := (HFA.out.call hfD HFA.out.size (by simp)).call hf3' (Nat.le_trans HFA.out.size hszD) (fun q hq hm => by
      rcases HOWN2.out q (own_iff.2 (.inr (.inl (by simpa using hm)))) with e | e
      · exact e
      · omega)
    have hfF := hfE.setCell (p := ⟨k, 3, none⟩) (.inl (own_iff.2 (.inl rfl))) (.slice va (n + 1) vc)
    have hownE : ∀ q ∈ (m1.entMore s2.reps.length (.slice va (n + 1) vc) own' b' o' c').own k { s2 with reps := s2.reps ++ [r], of := s2.of ++ [at_] }, q ∈ m.own k s ∨ w.heap.size ≤ q := fun q hq => by
      rcases own_iff.1 hq with rfl | e | e | e | ⟨i, hi, e⟩
      · exact .inl (own_iff.2 (.inl rfl))
      · have e : own' = some q := e
        rcases ho3' with e2 | ⟨g, e2, hg⟩
        · exact (HOWN2.out q (own_iff.2 (.inr (.inl (by rw [← e2]; exact e))))).imp id Nat.le_of_lt
        · rw [e] at e2; cases e2; have := HFA.out.size; exact .inr (by omega)
      · exact (HOWN2.out q (own_iff.2 (.inr (.inr (.inl e))))).imp id Nat.le_of_lt
      · exact (HOWN2.out q (own_iff.2 (.inr (.inr (.inr (.inl e)))))).imp id Nat.le_of_lt
      · by_cases h1 : i = s2.reps.length
        · subst h1
          have e : b' = q := by rw [← e]; simp [Mem.entMore]
          have := HGE.out.1
          exact .inr (by omega)
        · have hi : i < s2.reps.length := by simp at hi; omega
          have e : m1.wb i = q := by rw [← e]; simp [Mem.entMore, h1]
          exact (HOWN2.out q (own_iff.2 (.inr (.inr (.inr (.inr ⟨i, hi, e⟩)))))).imp id Nat.le_of_lt
    have hS : Blk wE k 64 (bookC s2 m1) ∧ Blk wE w.heap.size 24 C := ⟨hkE, hpE⟩
    have c3 : wE.cell? ⟨k, 3, none⟩ = some (.slice en n ec1) := by rw [← EVE.out]; exact hkE.cell 3
    have g3 := hkE.free 3
    clear hwD2 hfD hs3 hs3' hf3 hf3' ho3 ho3' hszD hspR hbl hra1 hkE hpE hfE HRA HFA HS
    have HS := Lib.hid hS
    have HRA := Lib.hid hra2
    have HFF := Lib.hid hfF
    have HOE := Lib.hid hownE
    have C3E := Lib.hid c3
    have G3E := Lib.hid g3
    clear g3 c3 hownE hfF hra2 hS
    first | refine ⟨fun _ => HS.out, ?_⟩ | refine ⟨HS.out, ?_⟩
    refine LeftL.one 11 rfl (by kernel_rfl) ?_
    go_wp2_with fail
    first | refine ⟨fun _ => HS.out, ?_⟩ | refine ⟨HS.out, ?_⟩
    refine LeftL.one 12 rfl (by kernel_rfl) ?_
    go_wp2_with fail
    first | refine ⟨fun _ => HS.out, ?_⟩ | refine ⟨HS.out, ?_⟩
    have c3 := C3E.out
    have g3 := G3E.out
    refine LeftL.one 13 rfl (by kernel_rfl) ?_
    go_wp2_with fail
    clear c3 g3 C3E G3E HS
    have hra := HRA.out
    have hff := HFF.out
    generalize World.setCell wE _ _ = wF at hra hff ⊢
    clear HRA HFF
    refine ⟨fun h => absurd rfl h, ?_⟩
    refine LeftL.done (by kernel_rfl) ?_
    have hbk := hra.at_ (by rw [← HEND.out]; exact HINV.out)
    rw [← HEND.out] at hbk
    have hoe := HOE.out
    rw [← HEND.out] at hoe
    clear hra
    have HBK := Lib.hid hbk
    have HFF := Lib.hid hff
    have HOE2 := Lib.hid hoe
    clear hoe hff hbk
    go_wp2_with fail
    refine bodyPost_ret (v := .tuple #[.int .i64 (at_ : Int), .int .i64 why, .int .i64 0]) (by simp [results, Try.results26, go_sem]) rfl ?_
    rw [HT.out]
    exact ⟨rfl, _, HBK.out, ⟨HFF.out, HOE2.out⟩⟩
  · have ha' : ((at_ : Int) == (n1 : Int)) = false := by simp; omega
    have ha2 : ¬ (at_ : Int) = (n1 : Int) := by omega
    have hat : at_ < n1 := by omega
    have hraw := HRAW.out
    obtain ⟨wA, hwA⟩ : ∃ V, V = w2 := ⟨_, rfl⟩
    have hmid : Mid w wA k s s m m r at_ C := by
      rw [hwA]
      have hno := HNO.out
      have hn1 := HN1.out
      refine ⟨hraw, rfl, HLEN.out, ?_, by omega, by omega, HF.out.narrow (by simp), fun q hq => .inl hq, K0.out⟩
      unfold takenS
      rw [if_neg (by omega)]
    obtain ⟨s1, hs1⟩ : ∃ z, z = s := ⟨_, rfl⟩
    obtain ⟨m1, hm1⟩ : ∃ z, z = m := ⟨_, rfl⟩
    have hmid : Mid w wA k s s1 m m1 r at_ C := by rw [hs1, hm1]; exact hmid
    clear hs1 hm1
    rw [← hwA] at c4
    rw [← hwA]
    clear hwA hraw HRAW
    have hwl : w.heap.size < wA.heap.size := hmid.box.lt
    have HM := Lib.hid hmid
    have HWL := Lib.hid hwl
    have HAT := Lib.hid hat
    have HA := Lib.hid ha
    clear ha hat hwl hmid
    go_upto_region 10 with fail
    clear ha' ha2 hpq c4 g4
    have hlt := HM.out.lt
    have hwl := HWL.out
    obtain ⟨ob, oo, oc1, ev, eown, _, _⟩ := HM.out.raw.opn.pos (by omega)
    have c4 : wA.cell? ⟨k, 4, none⟩ = some (.slice (some ⟨ob, oo, none⟩) s1.opn.length oc1) := by rw [← ev]; exact HM.out.raw.blk.cell 4
    have hso := HM.out.raw.opn
    rw [ev] at hso
    have cx : ∃ x, wA.cell? ⟨ob, oo + at_, none⟩ = some (.bool x) := by
      have := hso.cell at_ (by simp [boolsC]; omega)
      rw [this]
      simp [boolsC, List.getElem?_eq_getElem hlt]
    obtain ⟨x, cx⟩ := cx
    have gx := hso.free (oo + at_)
    have hra := HM.out.raw.setOpen ev hlt true
    have hobm : ob ∈ m1.own k s1 := own_iff.2 (.inr (.inr (.inl eown)))
    have hobn : ob ≠ w.heap.size := by
      rcases HM.out.own ob hobm with e | e
      · have := HH.out.own_lt ob e; omega
      · omega
    have hfA := HM.out.frm.setCell (p := ⟨ob, oo + at_, none⟩) (by
      rcases HM.out.own ob hobm with e | e
      · exact .inl e
      · exact .inr (Nat.le_of_lt e)) (.bool true)
    have k0 := HM.out.box.other ⟨ob, oo + at_, none⟩ hobn (.bool true)
    have hlt' : (at_ : Int) < ((s1.opn.length : Nat) : Int) := by omega
    obtain ⟨n2, hn2⟩ : ∃ c, c = s1.opn.length := ⟨_, rfl⟩
    rw [← hn2] at c4 hlt'
    clear hso ev eown hobn hlt hn2
    have HRA := Lib.hid hra
    have HFA := Lib.hid hfA
    have KK0 := Lib.hid k0
    have HOBM := Lib.hid hobm
    clear hobm k0 hfA hra
    go_upto_region 11 with fail
    clear c4 cx gx hlt'
    have hra := HRA.out
    have hfA := HFA.out
    have k0 := KK0.out
    generalize World.setCell wA _ _ = wB at hra hfA k0 ⊢
    clear HRA HFA KK0
    obtain ⟨s2, hs2⟩ : ∃ z, z = ({ s1 with opn := s1.opn.set at_ true } : BS) := ⟨_, rfl⟩
    have hown2 : ∀ q ∈ m1.own k s2, q ∈ m.own k s ∨ w.heap.size < q := fun q hq => HM.out.own q (by rw [hs2] at hq; exact hq)
    have hend : takenS s r at_ = { s2 with reps := s2.reps ++ [r], of := s2.of ++ [at_] } := by rw [hs2]; exact HM.out.end_
    have hl2 : s2.reps.length = n := by rw [hs2]; exact HM.out.reps.trans HN.out.symm
    have ho2 : s2.of.length = s2.reps.length := by rw [hs2]; exact HM.out.of
    rw [← hs2] at hra
    clear hs2
    have HOWN2 := Lib.hid hown2
    have HEND := Lib.hid hend
    have HL2 := Lib.hid hl2
    have HO2 := Lib.hid ho2
    clear ho2 hl2 hend hown2
    obtain ⟨en, ec1, eve⟩ := hra.ents.form
    rw [HL2.out] at eve
    have hfx : ∀ V, (Blk V k 64 (bookC s2 m1) ∧ Blk V w.heap.size 24 C) → V.cell? ⟨k, 3, none⟩ = some (.slice en n ec1) ∧ True := fun V hV => ⟨by rw [← eve]; exact hV.1.cell 3, trivial⟩
    have hl24 : ∀ V, (Blk V k 64 (bookC s2 m1) ∧ Blk V w.heap.size 24 C) → (loadVar 24 ⟨w.heap.size, 0, none⟩).run Try.prog V = .ok (.agg C.toArray) V := fun V hV => load24 hV.2 HZ7.out
    have hra := hra.still ((Frm.refl wB.heap.size [] wB).drew)
    have hfA := hfA.drew
    have k0 := k0.drew
    refine wp_region_leftL (fun V => Blk V k 64 (bookC s2 m1) ∧ Blk V w.heap.size 24 C) 13 (by kernel_rfl) ?_
    obtain ⟨wC, hwC⟩ : ∃ V, V = wB.drew := ⟨_, rfl⟩
    rw [← hwC] at hra hfA k0 ⊢
    have hS : Blk wC k 64 (bookC s2 m1) ∧ Blk wC w.heap.size 24 C := ⟨hra.blk, k0⟩
    clear hwC
    have hrC := HR.out.frmS hfA HBO.out
    have HS := Lib.hid hS
    have HFX := Lib.hid hfx
    have HL24 := Lib.hid hl24
    have HRA := Lib.hid hra
    have HFA := Lib.hid hfA
    have HRC := Lib.hid hrC
    have EVE := Lib.hid eve
    clear eve hrC hfA hra hl24 hfx hS
    first | (refine LeftL.tkG (v := ?_) 0 rfl HS.out ?_ ?_; rotate_left; · intro V hV; obtain ⟨z1, z2⟩ := HFX.out V hV; clear hV; go_simp; rfl) | refine LeftL.tkN 0 rfl HS.out ?_
    (intro K h; go_simp; refine h _ ?_; clear h K)
    first | (refine LeftL.tkG (v := ?_) 1 rfl HS.out ?_ ?_; rotate_left; · intro V hV; obtain ⟨z1, z2⟩ := HFX.out V hV; clear hV; go_simp; rfl) | refine LeftL.tkN 1 rfl HS.out ?_
    (intro K h; go_simp; refine h _ ?_; clear h K)
    first | (refine LeftL.tkG (v := ?_) 2 rfl HS.out ?_ ?_; rotate_left; · intro V hV; obtain ⟨z1, z2⟩ := HFX.out V hV; clear hV; go_simp; rfl) | refine LeftL.tkN 2 rfl HS.out ?_
    (intro K h; go_simp; refine h _ ?_; clear h K)
    first | (refine LeftL.tkG (v := ?_) 3 rfl HS.out ?_ ?_; rotate_left; · intro V hV; obtain ⟨z1, z2⟩ := HFX.out V hV; clear hV; go_simp; rfl) | refine LeftL.tkN 3 rfl HS.out ?_
    (intro K h; go_simp; refine h _ ?_; clear h K)
    first | (refine LeftL.tkG (v := ?_) 4 rfl HS.out ?_ ?_; rotate_left; · intro V hV; obtain ⟨z1, z2⟩ := HFX.out V hV; clear hV; go_simp; rfl) | refine LeftL.tkN 4 rfl HS.out ?_
    (intro K h; go_simp; refine h _ ?_; clear h K)
    refine LeftL.take 5 rfl (by kernel_rfl) (fun _ _ d _ _ h => by cases d <;> exact h) (yields_loadE (ty := 24) rfl rfl rfl (HL24.out)) HS.out ?_; (intro K' hK'; go_simp; refine hK' _ ?_; clear hK' K')
    first | (refine LeftL.tkG (v := ?_) 7 rfl HS.out ?_ ?_; rotate_left; · intro V hV; obtain ⟨z1, z2⟩ := HFX.out V hV; clear hV; go_simp; rfl) | refine LeftL.tkN 7 rfl HS.out ?_
    (intro K h; go_simp; refine h _ ?_; clear h K)
    refine LeftL.one 6 rfl (by kernel_rfl) ?_
    go_wp2_with fail
    refine (HCP.out wC HRC.out).mono ?_; rintro e wD ⟨⟨b', o', c', rfl, hsp, hge⟩, hf1⟩
    have hra := HRA.out.still hf1
    have hfA := HFA.out.call hf1 HFA.out.size (by simp)
    have k0 := hf1.blk HS.out.2 HS.out.2.lt (by simp)
    have hSz := HFA.out.size
    have hge2 : w.heap.size < b' ∧ wC.heap.size ≤ b' := ⟨Nat.lt_of_lt_of_le HS.out.2.lt hge, hge⟩
    have hbnew : ∀ q ∈ m1.own k s2, q ≠ b' := fun q hq e => by
      have h1 : q < wC.heap.size := by
        rcases own_iff.1 hq with rfl | e | e | e | ⟨i, hi, rfl⟩
        · exact HRA.out.blk.lt
        · exact HRA.out.ents.lt q e
        · exact HRA.out.opn.lt q e
        · exact HRA.out.prf.lt q e
        · exact HRA.out.wl i hi
      omega
    have hS : Blk wD k 64 (bookC s2 m1) ∧ Blk wD w.heap.size 24 C := ⟨hra.blk, k0⟩
    clear HRA HFA HS HRC hf1 k0 hge hSz
    have HS := Lib.hid hS
    have HRA := Lib.hid hra
    have HFA := Lib.hid hfA
    have HSP := Lib.hid hsp
    have HGE := Lib.hid hge2
    have HBN := Lib.hid hbnew
    clear hbnew hge2 hsp hfA hra hS
    go_wp2_with fail
    first | refine ⟨fun _ => HS.out, ?_⟩ | refine ⟨HS.out, ?_⟩
    refine LeftL.one 8 rfl (by kernel_rfl) ?_
    go_wp2_with fail
    first | refine ⟨fun _ => HS.out, ?_⟩ | refine ⟨HS.out, ?_⟩
    refine LeftL.one 9 rfl (by kernel_rfl) ?_
    go_wp2_with fail
    first | refine ⟨fun _ => ⟨HS.out.1.alloc _, HS.out.2.alloc _⟩, ?_⟩ | refine ⟨⟨HS.out.1.alloc _, HS.out.2.alloc _⟩, ?_⟩
    refine LeftL.one 10 rfl (by kernel_rfl) ?_
    have hsl := HRA.out.ents
    rw [HL2.out, EVE.out] at hsl
    refine wpList_append_sl _ rfl (.tmp 54) (.tmp 59) 61 rfl 81 i8 _ 8 96 Try.underlying61 HI8.out HZ80.out HZ81.out HZ82.out rfl _ _ _ m1.oe rfl (hsl.alloc _) ⟨wD.heap.size, 0, none⟩ 1 1 (entC r (some ⟨b', o', none⟩) c' at_) rfl rfl (news_alloc _ (entC r (some ⟨b', o', none⟩) c' at_) _) (by simp [entC, repC, Value.oneCell']) (by have := HNM.out; unfold maxLen; omega) (by have := HNM.out; omega) ?_
    intro v' wE own' hs3 hf3 ho3
    obtain ⟨va, vc, hva⟩ := hs3.form
    subst hva
    clear hsl
    refine wpList_nil ?_
    dsimp only [Act.put]
    obtain ⟨wD2, hwD2⟩ : ∃ V, V = wD.alloc (.cells (entC r (some ⟨b', o', none⟩) c' at_).toArray 81) := ⟨_, rfl⟩
    have hfD : Frm wD.heap.size [] wD wD2 := by rw [hwD2]; exact (Frm.refl _ _ _).alloc (Nat.le_refl _) _
    have hs3' : Sl wE 81 8 (.slice va (n + 1) vc) (s2.reps.length + 1) ((List.range s2.reps.length).flatMap (entAt s2 m1) ++ entC r (some ⟨b', o', none⟩) c' at_) own' := by rw [HL2.out]; exact hs3
    have hf3' : Frm wD2.heap.size m1.oe.toList wD2 wE := by rw [hwD2]; exact hf3
    have ho3' : own' = m1.oe ∨ ∃ g, own' = some g ∧ wD2.heap.size ≤ g := by rw [hwD2]; exact ho3
    have hszD : wD.heap.size ≤ wD2.heap.size := hfD.size
    have hspR := SlP.rw rfl HSP.out
    have hbl : b' < wD.heap.size := HSP.out.lt b' rfl
    have hra1 := HRA.out.still hfD
    have hra2 := hra1.growEnt (r := r) (b := b') (o := o') (c := c') (at_ := at_) HO2.out hs3' hf3' ho3' (hspR.1.frm hfD (Nat.le_refl _)) (by omega) ⟨fun e => HBN.out k (own_iff.2 (.inl rfl)) e.symm, fun e => HBN.out b' (own_iff.2 (.inr (.inl e))) rfl, fun e => HBN.out b' (own_iff.2 (.inr (.inr (.inl e)))) rfl, fun e => HBN.out b' (own_iff.2 (.inr (.inr (.inr (.inl e))))) rfl⟩
    have hkE : Blk wE k 64 (bookC s2 m1) := hf3'.blk hra1.blk hra1.blk.lt (fun hm => hra1.ke.1 (by simpa using hm))
    have hpE : Blk wE w.heap.size 24 C := by
      have k1 := hfD.blk HS.out.2 HS.out.2.lt (by simp)
      refine hf3'.blk k1 k1.lt (fun hm => ?_)
      rcases HOWN2.out w.heap.size (own_iff.2 (.inr (.inl (by simpa using hm)))) with e | e
      · have := HH.out.own_lt _ e; omega
      · omega
    have hfE : Frm w.heap.size (m.own k s) w wE := (HFA.out.call hfD HFA.out.size (by simp)).call hf3' (Nat.le_trans HFA.out.size hszD) (fun q hq hm => by
      rcases HOWN2.out q (own_iff.2 (.inr (.inl (by simpa using hm)))) with e | e
      · exact e
      · omega)
    have hfF := hfE.setCell (p := ⟨k, 3, none⟩) (.inl (own_iff.2 (.inl rfl))) (.slice va (n + 1) vc)
    have hownE : ∀ q ∈ (m1.entMore s2.reps.length (.slice va (n + 1) vc) own' b' o' c').own k { s2 with reps := s2.reps ++ [r], of := s2.of ++ [at_] }, q ∈ m.own k s ∨ w.heap.size ≤ q := fun q hq => by
      rcases own_iff.1 hq with rfl | e | e | e | ⟨i, hi, e⟩
      · exact .inl (own_iff.2 (.inl rfl))
      · have e : own' = some q := e
        rcases ho3' with e2 | ⟨g, e2, hg⟩
        · exact (HOWN2.out q (own_iff.2 (.inr (.inl (by rw [← e2]; exact e))))).imp id Nat.le_of_lt
        · rw [e] at e2; cases e2; have := HFA.out.size; exact .inr (by omega)
      · exact (HOWN2.out q (own_iff.2 (.inr (.inr (.inl e))))).imp id Nat.le_of_lt
      · exact (HOWN2.out q (own_iff.2 (.inr (.inr (.inr (.inl e)))))).imp id Nat.le_of_lt
      · by_cases h1 : i = s2.reps.length
        · subst h1
          have e : b' = q := by rw [← e]; simp [Mem.entMore]
          have := HGE.out.1
          exact .inr (by omega)
        · have hi : i < s2.reps.length := by simp at hi; omega
          have e : m1.wb i = q := by rw [← e]; simp [Mem.entMore, h1]
          exact (HOWN2.out q (own_iff.2 (.inr (.inr (.inr (.inr ⟨i, hi, e⟩)))))).imp id Nat.le_of_lt
    have hS : Blk wE k 64 (bookC s2 m1) ∧ Blk wE w.heap.size 24 C := ⟨hkE, hpE⟩
    have c3 : wE.cell? ⟨k, 3, none⟩ = some (.slice en n ec1) := by rw [← EVE.out]; exact hkE.cell 3
    have g3 := hkE.free 3
    clear hwD2 hfD hs3 hs3' hf3 hf3' ho3 ho3' hszD hspR hbl hra1 hkE hpE hfE HRA HFA HS
    have HS := Lib.hid hS
    have HRA := Lib.hid hra2
    have HFF := Lib.hid hfF
    have HOE := Lib.hid hownE
    have C3E := Lib.hid c3
    have G3E := Lib.hid g3
    clear g3 c3 hownE hfF hra2 hS
    first | refine ⟨fun _ => HS.out, ?_⟩ | refine ⟨HS.out, ?_⟩
    refine LeftL.one 11 rfl (by kernel_rfl) ?_
    go_wp2_with fail
    first | refine ⟨fun _ => HS.out, ?_⟩ | refine ⟨HS.out, ?_⟩
    refine LeftL.one 12 rfl (by kernel_rfl) ?_
    go_wp2_with fail
    first | refine ⟨fun _ => HS.out, ?_⟩ | refine ⟨HS.out, ?_⟩
    have c3 := C3E.out
    have g3 := G3E.out
    refine LeftL.one 13 rfl (by kernel_rfl) ?_
    go_wp2_with fail
    clear c3 g3 C3E G3E HS
    have hra := HRA.out
    have hff := HFF.out
    generalize World.setCell wE _ _ = wF at hra hff ⊢
    clear HRA HFF
    refine ⟨fun h => absurd rfl h, ?_⟩
    refine LeftL.done (by kernel_rfl) ?_
    have hbk := hra.at_ (by rw [← HEND.out]; exact HINV.out)
    rw [← HEND.out] at hbk
    have hoe := HOE.out
    rw [← HEND.out] at hoe
    clear hra
    have HBK := Lib.hid hbk
    have HFF := Lib.hid hff
    have HOE2 := Lib.hid hoe
    clear hoe hff hbk
    go_wp2_with fail
    refine bodyPost_ret (v := .tuple #[.int .i64 (at_ : Int), .int .i64 why, .int .i64 0]) (by simp [results, Try.results26, go_sem]) rfl ?_
    rw [HT.out]
    exact ⟨rfl, _, HBK.out, ⟨HFF.out, HOE2.out⟩⟩
end Go.Proofs.Ythgmdilfmeefiaa
