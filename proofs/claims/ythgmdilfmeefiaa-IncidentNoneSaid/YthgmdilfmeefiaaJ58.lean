/-
  The book and the document's book, side by side.
-/
import Derived.Test.YthgmdilfmeefiaaJ55
namespace Go.Proofs.Ythgmdilfmeefiaa
set_option linter.all false
set_option linter.unusedSimpArgs false
set_option linter.unusedVariables false
open Go.RowKit

theorem RefAt.apart {w : World} {s : BS} {m : RMem} {S S' : List Nat} (h : RefAt w s m) (ha : Apart s m S) (hs : ∀ b ∈ S', b ∈ S ∨ w.heap.size ≤ b) : Apart s m S' := by
  have key : ∀ b, b < w.heap.size → b ∉ S → b ∉ S' := fun b hb hn hm => (hs b hm).elim hn (fun h => by omega)
  refine ⟨fun h0 => ⟨key _ ?_ (ha.reps h0).1, key _ ?_ (ha.reps h0).2⟩, fun h0 => key _ ?_ (ha.opn h0), fun h0 => key _ ?_ (ha.prf h0), fun i hi h0 => key _ ?_ (ha.wh i hi h0), fun i hi h0 => key _ ?_ (ha.xw i hi h0)⟩
  · have := cell_lt (h.reps.at_ 0 h0 0 _ rfl); exact this
  · have := cell_lt (h.of.at_ 0 h0 0 _ rfl); exact this
  · have := cell_lt (h.opn.at_ 0 h0 0 _ rfl); exact this
  · have := cell_lt (h.prf.at_ 0 h0 0 _ rfl); exact this
  · have := cell_lt ((h.wh i hi).at_ 0 h0 0 _ rfl); exact this
  · have := cell_lt ((h.xw i hi).at_ 0 h0 0 _ rfl); exact this
theorem Apart.sub {s : BS} {m : RMem} {S S' : List Nat} (ha : Apart s m S) (hs : ∀ b ∈ S', b ∈ S) : Apart s m S' :=
  ⟨fun h0 => ⟨fun hm => (ha.reps h0).1 (hs _ hm), fun hm => (ha.reps h0).2 (hs _ hm)⟩, fun h0 hm => ha.opn h0 (hs _ hm), fun h0 hm => ha.prf h0 (hs _ hm), fun i hi h0 hm => ha.wh i hi h0 (hs _ hm), fun i hi h0 hm => ha.xw i hi h0 (hs _ hm)⟩
/-- What was made since lies apart. -/
theorem RefAt.new {w : World} {s : BS} {m : RMem} {S : List Nat} (h : RefAt w s m) (hs : ∀ b ∈ S, w.heap.size ≤ b) : Apart s m S := h.apart (apart_nil s m) (fun b hb => .inr (hs b hb))
/-- A book of ours and the document's. -/
structure Both (w V : World) (k : Nat) (s : BS) (m : Mem) (mr : RMem) : Prop where
  live : Live w V k s m
  ref : RefAt V s mr
  ap : Apart s mr (m.own k s)
theorem Both.still {w V V' : World} {k : Nat} {s : BS} {m : Mem} {mr : RMem} (h : Both w V k s m mr) (hf : Frm V.heap.size [] V V') : Both w V' k s m mr := ⟨h.live.still hf, h.ref.still hf, h.ap⟩
/-- A turn of blocks that are no one's. -/
theorem Live.frm2 {w V V' : World} {k : Nat} {s : BS} {m : Mem} {S : List Nat} (h : Live w V k s m) (hf : Frm V.heap.size S V V') (hS : ∀ b ∈ m.own k s, b ∉ S) (hw : ∀ b ∈ S, w.heap.size ≤ b) : Live w V' k s m :=
  ⟨h.at_.frm hf hS, h.own, h.frm.call hf h.frm.size (fun x hx hm => absurd (hw x hm) (by omega))⟩
theorem Both.frm {w V V' : World} {k : Nat} {s : BS} {m : Mem} {mr : RMem} {S : List Nat} (h : Both w V k s m mr) (hf : Frm V.heap.size S V V') (hS : ∀ b ∈ m.own k s, b ∉ S) (hw : ∀ b ∈ S, w.heap.size ≤ b) (ha : Apart s mr S) : Both w V' k s m mr :=
  ⟨h.live.frm2 hf hS hw, h.ref.frm hf ha, h.ap⟩
/-- Behind a call of ours. -/
theorem Both.turn {w V V' : World} {k : Nat} {s s' : BS} {m m' : Mem} {mr : RMem} (h : Both w V k s m mr) (hl : Live w V' k s' m') (ht : Turn k V V' s s' m m') : RefAt V' s mr ∧ Apart s mr (m'.own k s') :=
  ⟨h.ref.frm ht.frm h.ap, h.ref.apart h.ap ht.own⟩
theorem Both.next {w V V' : World} {k : Nat} {s s' : BS} {m' : Mem} {mr mr' : RMem} {X : List Nat → Prop} (hl : Live w V k s' m') (ha : Apart s mr (m'.own k s')) (hn : RNext V V' s s' mr mr' X) (hx : X (m'.own k s')) : Both w V' k s' m' mr' :=
  ⟨hl.still hn.frm, hn.at_, hn.ap _ hl.at_.own_lt hx ha⟩
end Go.Proofs.Ythgmdilfmeefiaa
