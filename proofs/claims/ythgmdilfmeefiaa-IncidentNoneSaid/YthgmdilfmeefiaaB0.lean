/-
  Texts Lib1, Lib2, Lib3, Lib4, Lib5, G1, G2 of this claim, one behind the other.
-/
import Derived.WalkKit
import Derived.WalkSpells
import Derived.WalkLawsBesides
import Derived.Lib.Hide
import Derived.Deep.QuietTactic
import Derived.BigQuiet
import Derived.StillTailTactics
import Derived.StillTail
import Derived.Deep.Quiet
import Derived.Sort.QuietThIn
import Derived.TacticsIn
import Derived.Laws.Tables
import Derived.Laws.Rows
import Derived.OrdersHeld
import Derived.RangeFuncWrites
import Derived.RangeFuncLeaves
import Derived.RangeFuncCalls
import Derived.RangeFuncSeq
import Derived.ControlIn
import Derived.Test.YthgmdilfmeefiaaRows
import Derived.ProofKit
import Derived.Deep.CutRange
import Derived.Deep.MidRow
import Derived.RangeFuncBound
import Derived.Shelf.Abstract
namespace Go.Proofs.Ythgmdilfmeefiaa
set_option linter.all false
set_option linter.unusedSimpArgs false
set_option linter.unusedVariables false
open Go.RowKit

/-- Block b is known whole. -/
def Blk (w : World) (b : Nat) (T : TypeId) (cs : List Value) : Prop := w.heap[b]? = some (.cells cs.toArray T (0, 0))

theorem Blk.cell {w : World} {b T : Nat} {cs : List Value} (h : Blk w b T cs) (i : Nat) : w.cell? ⟨b, i, none⟩ = cs[i]? := by
  unfold Blk at h
  simp [World.cell?, h]
theorem Blk.free {w : World} {b T : Nat} {cs : List Value} (h : Blk w b T cs) (i : Nat) : w.frozen? ⟨b, i, none⟩ = false := by
  unfold Blk at h
  simp [World.frozen?, h]
theorem Blk.lt {w : World} {b T : Nat} {cs : List Value} (h : Blk w b T cs) : b < w.heap.size :=
  (Array.getElem?_eq_some_iff.1 h).1
theorem Blk.set {w : World} {b T : Nat} {cs : List Value} (h : Blk w b T cs) (i : Nat) (v : Value) : Blk (w.setCell ⟨b, i, none⟩ v) b T (cs.set i v) := by
  unfold Blk at h ⊢
  simp only [World.setCell, Array.getElem?_modify, if_pos, h]
  simp
theorem Blk.other {w : World} {b T : Nat} {cs : List Value} (h : Blk w b T cs) (a : Addr) (hne : a.block ≠ b) (v : Value) : Blk (w.setCell a v) b T cs := by
  unfold Blk at h ⊢
  rw [Below.heap_setCell w a v b (Ne.symm hne)]
  exact h
theorem Blk.alloc {w : World} {b T : Nat} {cs : List Value} (h : Blk w b T cs) (o : Obj) : Blk (w.alloc o) b T cs := by
  have hl := h.lt
  unfold Blk at h ⊢
  rw [Below.heap_alloc w o b hl]
  exact h
theorem Blk.new (w : World) (T : Nat) (cs : List Value) : Blk (w.alloc (.cells cs.toArray T (0, 0))) w.heap.size T cs :=
  heap_alloc_new w _
theorem Blk.new' (w : World) (T : Nat) (cs : List Value) {b : Nat} (hb : w.heap.size = b) : Blk (w.alloc (.cells cs.toArray T (0, 0))) b T cs := hb ▸ Blk.new w T cs
theorem Blk.drew {w : World} {b T : Nat} {cs : List Value} (h : Blk w b T cs) : Blk w.drew b T cs := h
theorem Blk.drewN {w : World} {b T n : Nat} {cs : List Value} (h : Blk w b T cs) : Blk (w.drewN n) b T cs := h

theorem news_alloc (w : World) (l : List Value) (E : TypeId) : ∀ j u, l[j]? = some u → (w.alloc (.cells l.toArray E)).cell? ((⟨w.heap.size, 0, none⟩ : Addr).add j) = some u := by
  intro j u h
  have hadd : (⟨w.heap.size, 0, none⟩ : Addr).add j = ⟨w.heap.size, j, none⟩ := by unfold Addr.add; split <;> simp_all
  rw [hadd, (Blk.new w E l).cell j]
  exact h

/-- THE FRAME: of the blocks below B, only those of S may have turned; the streams are as they were. -/
structure Frm (B : Nat) (S : List Nat) (w w' : World) : Prop where
  os : w'.os = w.os
  tape : w'.tape = w.tape
  output : w'.output = w.output
  size : w.heap.size ≤ w'.heap.size
  block : ∀ k, k < B → k ∉ S → w'.heap[k]? = w.heap[k]?

theorem Frm.refl (B : Nat) (S : List Nat) (w : World) : Frm B S w w := ⟨rfl, rfl, rfl, Nat.le_refl _, fun _ _ _ => rfl⟩
theorem Frm.trans {B : Nat} {S : List Nat} {a b c : World} (h : Frm B S a b) (k : Frm B S b c) : Frm B S a c :=
  ⟨k.os.trans h.os, k.tape.trans h.tape, k.output.trans h.output, Nat.le_trans h.size k.size, fun i hi hn => (k.block i hi hn).trans (h.block i hi hn)⟩
theorem Frm.mono {B B' : Nat} {S S' : List Nat} {a b : World} (h : Frm B S a b) (hB : B' ≤ B) (hS : ∀ k, k < B' → k ∈ S → k ∈ S') : Frm B' S' a b :=
  ⟨h.os, h.tape, h.output, h.size, fun k hk hn => h.block k (Nat.lt_of_lt_of_le hk hB) (fun hm => hn (hS k hk hm))⟩
/-- A callee's frame, told over its own start, joined to ours. -/
theorem Frm.call {B B' : Nat} {S S' : List Nat} {a b c : World} (h : Frm B S a b) (k : Frm B' S' b c) (hB : B ≤ B') (hS : ∀ x, x < B → x ∈ S' → x ∈ S) : Frm B S a c :=
  h.trans (k.mono hB hS)
theorem Frm.drew {B : Nat} {S : List Nat} {a w : World} (h : Frm B S a w) : Frm B S a w.drew := ⟨h.os, h.tape, h.output, h.size, h.block⟩
theorem Frm.drewN {B n : Nat} {S : List Nat} {a w : World} (h : Frm B S a w) : Frm B S a (w.drewN n) := ⟨h.os, h.tape, h.output, h.size, h.block⟩
theorem Frm.alloc {B : Nat} {S : List Nat} {a w : World} (h : Frm B S a w) (hB : B ≤ w.heap.size) (o : Obj) : Frm B S a (w.alloc o) :=
  h.trans ⟨rfl, rfl, rfl, by simp, fun k hk _ => Below.heap_alloc _ _ _ (by omega)⟩
theorem Frm.setCell {B : Nat} {S : List Nat} {a w : World} (h : Frm B S a w) {p : Addr} (hp : p.block ∈ S ∨ B ≤ p.block) (u : Value) : Frm B S a (w.setCell p u) :=
  h.trans ⟨rfl, rfl, rfl, by simp [World.setCell], fun k hk hn => Below.heap_setCell _ _ _ _ (by
    rintro rfl
    rcases hp with hp | hp
    · exact hn hp
    · omega)⟩
theorem Frm.setCell' {B : Nat} {S : List Nat} {a w : World} {p : Addr} {u : Value} (hp : p.block ∈ S ∨ B ≤ p.block) (h : Frm B S a w) : Frm B S a (w.setCell p u) := h.setCell hp u
theorem Frm.alloc' {B : Nat} {S : List Nat} {a w : World} {o : Obj} (hB : B ≤ w.heap.size) (h : Frm B S a w) : Frm B S a (w.alloc o) := h.alloc hB o
theorem Frm.setRow {B : Nat} {S : List Nat} {a w : World} (h : Frm B S a w) {g : Nat} (hp : g ∈ S ∨ B ≤ g) (cs : Array Value) : Frm B S a (w.setRow g cs) :=
  h.trans ⟨rfl, rfl, rfl, by simp [World.setRow], fun k hk hn => setRow_other _ _ _ _ (by
    rintro rfl
    rcases hp with hp | hp
    · exact hn hp
    · omega)⟩
theorem Frm.below {B : Nat} {w w' : World} (h : Frm B [] w w') : Below B w w' := ⟨h.os, h.tape, h.output, h.size, fun k hk => h.block k hk (by simp)⟩
theorem Frm.of_below {B : Nat} {S : List Nat} {w w' : World} (h : Below B w w') : Frm B S w w' := ⟨h.os, h.tape, h.output, h.size, fun k hk _ => h.block k hk⟩
theorem Frm.cell {B : Nat} {S : List Nat} {w w' : World} (h : Frm B S w w') {p : Addr} (hp : p.block < B) (hn : p.block ∉ S) : w'.cell? p = w.cell? p := World.cell?_of_block (w := w) (h.block p.block hp hn)
theorem Frm.blk {B : Nat} {S : List Nat} {w w' : World} (h : Frm B S w w') {b T : Nat} {cs : List Value} (k : Blk w b T cs) (hp : b < B) (hn : b ∉ S) : Blk w' b T cs := by
  unfold Blk at k ⊢
  rw [h.block b hp hn]
  exact k
theorem Frm.narrow {B : Nat} {S S' : List Nat} {a b : World} (h : Frm B S a b) (hS : ∀ k, k ∈ S → k ∈ S') : Frm B S' a b := h.mono (Nat.le_refl _) (fun k _ => hS k)

/-- A SLICE KNOWN BY ITS CELLS: n elements of 'size' cells each, 'cs' all of them; it may begin inside its row; 'own': the row's block. -/
def Sl (w : World) (E size : Nat) (v : Value) (n : Nat) (cs : List Value) (own : Option Nat) : Prop :=
  cs.length = n * size ∧
  ((v = .slice none 0 0 ∧ n = 0 ∧ own = none) ∨
   ∃ b off cap arr, v = .slice (some ⟨b, off, none⟩) n cap ∧ own = some b ∧ w.heap[b]? = some (.cells arr E (0, 0)) ∧ n ≤ cap ∧ cap ≤ maxLen ∧
     off + cap * size ≤ arr.size ∧ (arr.toList.drop off).take (n * size) = cs)

section
variable {w : World} {E size : Nat} {v : Value} {n : Nat} {cs : List Value} {own : Option Nat}
theorem Sl.nil (w : World) (E size : Nat) : Sl w E size (.slice none 0 0) 0 [] none := ⟨by simp, .inl ⟨rfl, rfl, rfl⟩⟩
theorem Sl.lt (h : Sl w E size v n cs own) : ∀ b, own = some b → b < w.heap.size := by
  intro b hb
  rcases h.2 with ⟨_, _, h0⟩ | ⟨b', off, cap, arr, _, h0, hh, _⟩
  · simp [h0] at hb
  · rw [h0] at hb
    cases hb
    exact (Array.getElem?_eq_some_iff.1 hh).1
theorem Sl.kept {w' : World} (h : Sl w E size v n cs own) (hk : ∀ b, own = some b → w'.heap[b]? = w.heap[b]?) : Sl w' E size v n cs own := by
  refine ⟨h.1, ?_⟩
  rcases h.2 with h0 | ⟨b, off, cap, arr, e1, e2, e3, e4⟩
  · exact .inl h0
  · exact .inr ⟨b, off, cap, arr, e1, e2, (hk b e2).trans e3, e4⟩
theorem Sl.frm {w' : World} {B : Nat} {S : List Nat} (h : Sl w E size v n cs own) (hf : Frm B S w w') (hlt : ∀ b, own = some b → b < B) (hn : ∀ b, own = some b → b ∉ S) : Sl w' E size v n cs own :=
  h.kept fun b hb => hf.block b (hlt b hb) (hn b hb)
theorem Sl.alloc (h : Sl w E size v n cs own) (o : Obj) : Sl (w.alloc o) E size v n cs own :=
  h.kept fun b hb => Below.heap_alloc w o b (h.lt b hb)
theorem Sl.drew (h : Sl w E size v n cs own) : Sl w.drew E size v n cs own := h.kept fun _ _ => rfl
theorem Sl.setCell (h : Sl w E size v n cs own) (a : Addr) (u : Value) (hn : ∀ b, own = some b → a.block ≠ b) : Sl (w.setCell a u) E size v n cs own :=
  h.kept fun b hb => Below.heap_setCell w a u b (fun e => hn b hb e.symm)
/-- It is a slice value. -/
theorem Sl.form (h : Sl w E size v n cs own) : ∃ a cap, v = .slice a n cap := by
  rcases h.2 with ⟨e, e2, _⟩ | ⟨b, off, cap, arr, e, _⟩
  · subst e2; exact ⟨_, _, e⟩
  · exact ⟨_, _, e⟩
/-- Its cells. -/
theorem Sl.cell {b off cap : Nat} (h : Sl w E size (.slice (some ⟨b, off, none⟩) n cap) n cs own) (j : Nat) (hj : j < cs.length) : w.cell? ⟨b, off + j, none⟩ = cs[j]? := by
  rcases h.2 with ⟨e, _⟩ | ⟨b', off', cap', arr, e1, e2, e3, e4, e5, e6, e7⟩
  · cases e
  · cases e1
    simp only [World.cell?, e3, Option.isSome_none, Bool.false_eq_true, if_false]
    rw [← e7, List.getElem?_take, if_pos (by rw [← h.1]; exact hj), List.getElem?_drop, Array.getElem?_toList]
theorem Sl.free {b off cap : Nat} (h : Sl w E size (.slice (some ⟨b, off, none⟩) n cap) n cs own) (j : Nat) : w.frozen? ⟨b, j, none⟩ = false := by
  rcases h.2 with ⟨e, _⟩ | ⟨b', off', cap', arr, e1, e2, e3, e4⟩
  · cases e
  · cases e1
    simp [World.frozen?, e3]
theorem Sl.pos (h : Sl w E size v n cs own) (hn : 0 < n) : ∃ b off cap, v = .slice (some ⟨b, off, none⟩) n cap ∧ own = some b ∧ n ≤ cap ∧ cap ≤ maxLen := by
  rcases h.2 with ⟨_, e, _⟩ | ⟨b, off, cap, arr, e1, e2, e3, e4, e5, _⟩
  · omega
  · exact ⟨b, off, cap, e1, e2, e4, e5⟩
end

theorem take_drop_set {α : Type} (l : List α) (o k : Nat) (news : List α) (h : o + k + news.length ≤ l.length) :
    ((l.take (o + k) ++ news ++ l.drop (o + k + news.length)).drop o).take (k + news.length) = (l.drop o).take k ++ news := by
  apply List.ext_getElem?
  intro i
  simp only [List.getElem?_take, List.getElem?_drop, List.getElem?_append, List.length_take, List.length_append, List.length_drop]
  rw [Nat.min_eq_left (by omega), Nat.min_eq_left (by omega)]
  by_cases h1 : i < k
  · rw [if_pos (by omega), if_pos (by omega), if_pos (by omega), if_pos (by omega), if_pos (by omega), if_pos (by omega)]
  · by_cases h2 : i < k + news.length
    · rw [if_pos (by omega), if_pos (by omega), if_neg (by omega), if_neg (by omega)]
      congr 1
      omega
    · rw [if_neg (by omega), if_neg (by omega), List.getElem?_eq_none (by omega)]

section
variable {P : Program} (w : World)
/-- APPEND TO SUCH A SLICE: it grows in its row, or into a new one. -/
theorem run_append_sl (t ty e : TypeId) (i : TypeInfo) (z : Value) (size bytes : Nat) (ht : P.underlying t = some (.slice e)) (hi : P.info? e = some i) (hz : i.zero = some z)
    (hsize : i.size = size) (hby : i.bytes = bytes) (hzs : z.cells.size = size)
    (v : Value) (n : Nat) (cs : List Value) (own : Option Nat) (hown : Sl w e size v n cs own)
    (a : Addr) (m c : Nat) (news : List Value) (hl : news.length = m * size) (hnews : ∀ j u, news[j]? = some u → w.cell? (a.add j) = some u) (h1 : ∀ u ∈ news, u.oneCell' = true)
    (h63 : n + m ≤ maxLen) (hbytes : (n + m) * bytes ≤ 140737488355328) :
    ∃ v' w' own', (Builtin.append_ #[t, t] ty #[v, .slice (some a) m c]).run P w = .ok v' w' ∧ Sl w' e size v' (n + m) (cs ++ news) own' ∧ Frm w.heap.size own.toList w w' ∧
      (own' = own ∨ ∃ g, own' = some g ∧ w.heap.size ≤ g) := by
  subst hsize
  subst hby
  have hsmall : n + m ≤ 9223372036854775807 := by simp only [maxLen] at h63; omega
  have hlen : (cs ++ news).length = (n + m) * i.size := by rw [List.length_append, hown.1, hl, Nat.add_mul]
  have grown : ∀ (old : Nat), old < n + m →
      Sl (w.drew.alloc (.cells (cs.toArray ++ news.toArray ++ Builtin.zeroCells z.cells (grownCap w (n + m) old e - (n + m))) e)) e i.size
        (.slice (some ⟨w.heap.size, 0, none⟩) (n + m) (grownCap w (n + m) old e)) (n + m) (cs ++ news) (some w.heap.size) ∧
      Frm w.heap.size own.toList w (w.drew.alloc (.cells (cs.toArray ++ news.toArray ++ Builtin.zeroCells z.cells (grownCap w (n + m) old e - (n + m))) e)) := by
    intro old ho
    have hge := grownCap_ge w (n + m) old e
    have hcm : grownCap w (n + m) old e ≤ maxLen := grownCap_le_maxLen w (n + m) old e h63
    refine ⟨⟨hlen, .inr ⟨w.heap.size, 0, _, _, rfl, rfl, heap_alloc_new w.drew _, hge, hcm, ?_, ?_⟩⟩, ((Frm.refl _ _ w).drew).alloc (Nat.le_refl _) _⟩
    · simp only [Array.size_append, List.size_toArray, size_zeroCells, hzs, hown.1, hl, ← Nat.add_mul, Nat.zero_add]
      exact Nat.le_of_eq (by congr 1; omega)
    · simp only [Array.toList_append, List.append_assoc, List.drop_zero]
      rw [← List.append_assoc, ← hlen]
      exact List.take_left
  rcases hown.2 with ⟨rfl, rfl, rfl⟩ | ⟨g, off, cap, cur, rfl, rfl, hg, hnc, hcm, hcs, htake⟩
  · have hx : cs = [] := List.eq_nil_of_length_eq_zero (by simpa using hown.1)
    subst hx
    by_cases hm : m = 0
    · subst hm
      have hn : news = [] := List.eq_nil_of_length_eq_zero (by simpa using hl)
      subst hn
      refine ⟨.slice none 0 0, w, none, ?_, Sl.nil w e i.size, Frm.refl _ _ _, .inl rfl⟩
      simp [Builtin.append_, run_underlying ht, sizeOf, typeInfo, hi, Builtin.lenOf, Builtin.firstCells, loadCells, loadCellsFrom]
    · have hr := run_append_nil (P := P) w t ty e i z ht hi hz a m c news hl hnews (by omega) (by omega) (by have hb := hbytes; simp only [Nat.zero_add] at hb; omega)
      have hgr := grown 0 (by omega)
      simp only [Nat.zero_add, List.nil_append, Array.empty_append] at hgr ⊢
      exact ⟨_, _, _, hr, hgr.1, hgr.2, .inr ⟨_, rfl, Nat.le_refl _⟩⟩
  · by_cases hroom : n + m ≤ cap
    · have hle : (n + m) * i.size ≤ cap * i.size := Nat.mul_le_mul_right _ hroom
      rw [Nat.add_mul] at hle
      have hfit : off + n * i.size + news.length ≤ cur.size := by rw [hl]; omega
      have hf := run_firstCells_some (P := P) w i.size m a m c news hl hnews
      have hst := run_storeCells_at P g (off + n * i.size) e news 0 cur w hg (by simpa using hfit) h1
      simp only [Nat.add_zero] at hst
      have hadd : (⟨g, off, none⟩ : Addr).add (n * i.size) = ⟨g, off + n * i.size, none⟩ := by unfold Addr.add; split <;> simp_all
      refine ⟨.slice (some ⟨g, off, none⟩) (n + m) cap, w.setRow g (cur.toList.take (off + n * i.size) ++ news ++ cur.toList.drop (off + n * i.size + news.length)).toArray, some g, ?_, ⟨hlen, .inr ⟨g, off, cap, _, rfl, rfl, setRow_heap w g cur _ e _ hg, hroom, hcm, ?_, ?_⟩⟩, (Frm.refl _ _ w).setRow (.inl (by simp)) _, .inl rfl⟩
      · simp [Builtin.append_, run_underlying ht, sizeOf, typeInfo, hi, Builtin.lenOf, hroom, hf, hadd, hst]
      · simp only [List.size_toArray, List.length_append, List.length_take, List.length_drop, Array.length_toList]
        omega
      · rw [← htake]
        have := take_drop_set cur.toList off (n * i.size) news (by simpa using hfit)
        rw [hl, ← Nat.add_mul] at this
        rw [hl]
        exact this
    · have holds : ∀ j u, cs[j]? = some u → w.cell? ((⟨g, off, none⟩ : Addr).add j) = some u := by
        intro j u hu
        have hadd : (⟨g, off, none⟩ : Addr).add j = ⟨g, off + j, none⟩ := by unfold Addr.add; split <;> simp_all
        rw [hadd, Sl.cell hown j (List.getElem?_eq_some_iff.1 hu).1]
        exact hu
      have hr := run_append_grow (P := P) w t ty e i z ht hi hz ⟨g, off, none⟩ n cap cs hown.1 holds a m c news hl hnews (by omega) (by omega) (growslice_fits (by omega) hbytes)
      have hgr := grown cap (by omega)
      exact ⟨_, _, _, hr, hgr.1, hgr.2, .inr ⟨_, rfl, Nat.le_refl _⟩⟩

theorem wpList_append_sl {ops : Array Oper} {rest : List Oper} {o : Oper} {a : Act} {Q : Exit → Act → World → Prop} (hgd : o.guard = none) (s x : Operand) (t : TypeId)
    (ho : o.op = .call { callee := .builtin .append, args := #[s, x], argTypes := #[t, t] })
    (e : TypeId) (i : TypeInfo) (z : Value) (size bytes : Nat) (ht : P.underlying t = some (.slice e)) (hi : P.info? e = some i) (hz : i.zero = some z)
    (hsize : i.size = size) (hby : i.bytes = bytes) (hzs : z.cells.size = size)
    (v : Value) (n : Nat) (cs : List Value) (own : Option Nat) (hs : a.eval s = v) (hown : Sl w e size v n cs own)
    (ad : Addr) (m c : Nat) (news : List Value) (hx : a.eval x = .slice (some ad) m c) (hl : news.length = m * size) (hnews : ∀ j u, news[j]? = some u → w.cell? (ad.add j) = some u) (h1 : ∀ u ∈ news, u.oneCell' = true)
    (h63 : n + m ≤ maxLen) (hbytes : (n + m) * bytes ≤ 140737488355328)
    (h : ∀ v' w' own', Sl w' e size v' (n + m) (cs ++ news) own' → Frm w.heap.size own.toList w w' → (own' = own ∨ ∃ g, own' = some g ∧ w.heap.size ≤ g) → wpList P ops Q rest (a.put o.dst v') w') : wpList P ops Q (o :: rest) a w := by
  obtain ⟨v', w', own', hr, h2, h3, h4⟩ := run_append_sl (P := P) w t o.type e i z size bytes ht hi hz hsize hby hzs v n cs own hown ad m c news hl hnews h1 h63 hbytes
  have key := h v' w' own' h2 h3 h4
  refine wpList_step fun K hK => ?_
  rw [if_pos (by simp [Region.wanted, hgd])]
  unfold Oper.wp
  cases o with
  | mk dst op type pos after guard =>
    dsimp only at ho hgd hr key ⊢
    subst ho
    rw [BigFrame.execOp_builtin, BigFrame.builtin_append]
    have ha : (#[s, x] : Array Operand).map a.eval = #[v, .slice (some ad) m c] := by simp [hs, hx]
    rw [ha]
    have hrun : (do pure (Next.value (← Builtin.append_ #[t, t] type #[v, .slice (some ad) m c])) : Sem Next).run P w = .ok (.value v') w' := by
      simp [hr]
    rw [hrun]
    exact hK _ _ key
end
end Go.Proofs.Ythgmdilfmeefiaa

namespace Go.Proofs.Ythgmdilfmeefiaa
set_option linter.all false
set_option linter.unusedSimpArgs false
set_option linter.unusedVariables false

section
variable {ops : Array Oper} {Yv : Oper → Value → Act → Prop}

/-- That a value stays yielded when another operation, apart from this one, has been carried out or not yet. -/
structure Steady (ops : Array Oper) (Yv : Oper → Value → Act → Prop) : Prop where
  sel : ∀ (j : Nat) (o : Oper) cs b, ops[j]? = some o → o.op ≠ .select cs b
  onto : ∀ {x y : Oper} {v u : Value} {a : Act}, (∀ cs b, x.op ≠ .select cs b) → (∀ d, y.dst = some d → d ∉ x.looksAt ops) → (Yv x v (a.put y.dst u) ↔ Yv x v a)

/-- The first k operations have been carried out. -/
def pre (ops : Array Oper) : Nat → Array Bool
  | 0 => Array.replicate ops.size false
  | k + 1 => (pre ops k).setIfInBounds k true

/-- Each operation behind number n waits for number n or for one behind it. -/
def lateB (ops : Array Oper) (n : Nat) : Bool :=
  (List.range ops.size).all fun t => decide (t ≤ n) || (List.range t).any fun j => decide (n ≤ j) && Region.waitsFor .any ops t j

theorem late_waits {n : Nat} {listed : Array Bool} (hs : Region.sinkB .any ops n = true) (hl : lateB ops n = true) (inv : HeadInv .any ops n listed) {i : Nat} (hi : i < n) (hun : listed.getD i false = false) :
    ∀ t, t ∈ Region.ready .any ops listed → t < n := by
  intro t hr
  rcases Nat.lt_or_ge t n with h | ht
  · exact h
  exfalso
  obtain ⟨_, o, ho, hall⟩ := mem_ready.1 hr
  have htl : t < ops.size := (Array.getElem?_eq_some_iff.1 ho).1
  have notLate : ∀ j, n ≤ j → j < ops.size → listed.getD j false = false := fun j h1 h2 => getD_both (inv.tail j h1 h2)
  rcases Nat.lt_or_ge n t with hgt | hle
  · have h1 := List.all_eq_true.1 hl t (List.mem_range.2 htl)
    rw [Bool.or_eq_true] at h1
    rcases h1 with h1 | h1
    · have := of_decide_eq_true h1; omega
    · obtain ⟨j, hj, h2⟩ := List.any_eq_true.1 h1
      rw [Bool.and_eq_true] at h2
      obtain ⟨o', ho', e, he, hb, hon⟩ := Region.waitsFor_spec h2.2
      obtain rfl : o' = o := Option.some.inj (ho'.symm.trans ho)
      have h3 := hall e he hb
      rw [hon, notLate j (of_decide_eq_true h2.1) (by have := List.mem_range.1 hj; omega)] at h3
      cases h3
  · obtain rfl : t = n := by omega
    -- whatever is ready at n has all of the head behind it
    have key : ∀ d k, t - k ≤ d → k < t → listed.getD k false = true := by
      intro d
      induction d with
      | zero => intro k h1 h2; omega
      | succ d ih =>
        intro k h1 h2
        obtain ⟨j, hj, h3⟩ := List.any_eq_true.1 (List.all_eq_true.1 hs k (List.mem_range.2 h2))
        rw [Bool.and_eq_true] at h3
        have hkj := of_decide_eq_true h3.1
        have hjt : j ≤ t := by have := List.mem_range.1 hj; omega
        obtain ⟨y, hy, e, he, hb, hon⟩ := Region.waitsFor_spec h3.2
        rcases Nat.lt_or_ge j t with h4 | h4
        · exact hon ▸ inv.closed j y hy (ih j (by omega) h4) e he hb
        · obtain rfl : j = t := by omega
          obtain rfl : y = o := Option.some.inj (hy.symm.trans ho)
          exact hon ▸ hall e he hb
    rw [key t i (by omega) hi] at hun
    cases hun

/-- What is asked of the operations behind a head: each of them waits for the whole head. -/
def waitB (ops : Array Oper) (n : Nat) : Bool := decide (n = ops.size) || Region.sinkB .any ops n && lateB ops n
theorem wait_waits {n : Nat} {listed : Array Bool} (hs : waitB ops n = true) (inv : HeadInv .any ops n listed) {i : Nat} (hi : i < n) (hun : listed.getD i false = false) :
    ∀ t, t ∈ Region.ready .any ops listed → t < n := by
  unfold waitB at hs
  rw [Bool.or_eq_true, Bool.and_eq_true, decide_eq_true_eq] at hs
  rcases hs with rfl | ⟨h1, h2⟩
  · intro t hr
    obtain ⟨_, o, ho, _⟩ := mem_ready.1 hr
    exact (Array.getElem?_eq_some_iff.1 ho).1
  · exact late_waits h1 h2 inv hi hun

/-- The head: f operations are still to come, each of them ready only if it is one of the first n. -/
def headOK (ops : Array Oper) (Yv : Oper → Value → Act → Prop) (n : Nat) (L : Array Bool → Act → Prop) : Nat → Array Bool → Act → Prop
  | 0, listed, a => L listed a
  | f + 1, listed, a => Region.ready .any ops listed ≠ [] ∧ ∀ i ∈ Region.ready .any ops listed, i < n ∧ ∃ o v, ops[i]? = some o ∧ Yv o v a ∧ headOK ops Yv n L f (listed.setIfInBounds i true) (a.put o.dst v)

theorem headOK_first (st : Steady ops Yv) {n i : Nat} {x : Oper} {v : Value} {L : Array Bool → Act → Prop} (hi : ops[i]? = some x)
    (hs : waitB ops n = true) (hin : i < n)
    (hL : ∀ listed a, L listed a → ∀ j ∈ Region.ready .any ops listed, n ≤ j) :
    ∀ (f : Nat) (listed : Array Bool) (a : Act), HeadInv .any ops n listed →
      (∀ j y, ops[j]? = some y → j ≠ i → listed.getD j true = false → (∀ e ∈ y.after, Region.binds .any e = true → e.on ≠ i) → x.apart ops y = true) →
      i ∈ Region.ready .any ops listed → Yv x v a → headOK ops Yv n L f (listed.setIfInBounds i true) (a.put x.dst v) → headOK ops Yv n L (f + 1) listed a := by
  intro f
  induction f with
  | zero =>
    intro listed a inv _ hr hy H
    have inHead := wait_waits hs inv hin (getD_both (mem_ready.1 hr).1)
    refine ⟨List.ne_nil_of_mem hr, fun j hj => ⟨inHead j hj, ?_⟩⟩
    by_cases e : j = i
    · exact e ▸ ⟨x, v, hi, hy, H⟩
    · have h1 := hL _ _ H j (ready_mono hj e)
      have h2 := inHead j hj
      omega
  | succ f ih =>
    intro listed a inv hfree hr hy H
    refine ⟨List.ne_nil_of_mem hr, fun j hj => ?_⟩
    have hjn : j < n := wait_waits hs inv hin (getD_both (mem_ready.1 hr).1) j hj
    refine ⟨hjn, ?_⟩
    by_cases e : j = i
    · exact e ▸ ⟨x, v, hi, hy, H⟩
    · obtain ⟨_, y, u, hy0, hyu, H'⟩ := H.2 j (ready_mono hj e)
      obtain ⟨hjun, y', hy', hall⟩ := mem_ready.1 hj
      obtain rfl : y = y' := Option.some.inj (hy0.symm.trans hy')
      have hap : x.apart ops y = true := hfree j y hy0 e hjun fun e' he hb heq => by
        have h1 := hall e' he hb
        rw [heq, getD_both (mem_ready.1 hr).1] at h1
        cases h1
      obtain ⟨p1, p2, p3⟩ := Oper.apart_spec hap
      refine ⟨y, u, hy0, (st.onto (fun cs b => st.sel j y cs b hy0) p1).1 hyu, ?_⟩
      refine ih (listed.setIfInBounds j true) (a.put y.dst u) (inv.set hj hjn) (fun k z hz hki hun hno => ?_) (ready_mono hr (Ne.symm e)) ((st.onto (fun cs b => st.sel i x cs b hi) p3).2 hy) ?_
      · refine hfree k z hz hki ?_ hno
        by_cases hjk : j = k
        · exact hjk ▸ hjun
        · rwa [getD_set_ne true hjk] at hun
      · rw [Array.setIfInBounds_comm _ _ e, ← Act.put_comm a v u p2]
        exact H'

/-- The walk of the head in the order of the text. -/
def headLex (Yv : Oper → Value → Act → Prop) (Lq : Act → Prop) : List Oper → Act → Prop
  | [], a => Lq a
  | o :: l, a => ∃ v, Yv o v a ∧ headLex Yv Lq l (a.put o.dst v)

/-- Operations k, k + 1, .. may be taken in this order, f of them. -/
def freeB (ops : Array Oper) : Nat → Nat → Bool
  | 0, _ => true
  | f + 1, k => (Region.ready .any ops (pre ops k)).contains k && Region.free .any ops (pre ops k) k && freeB ops f (k + 1)

theorem headOK_lex (st : Steady ops Yv) {n : Nat} {Lq : Act → Prop} (hs : waitB ops n = true)
    (hend : ∀ j ∈ Region.ready .any ops (pre ops n), n ≤ j) :
    ∀ (l : List Oper) (k : Nat) (a : Act), (∀ j, j < l.length → l[j]? = ops[k + j]?) → k + l.length = n → HeadInv .any ops n (pre ops k) →
      freeB ops l.length k = true → headLex Yv Lq l a → headOK ops Yv n (fun listed' a' => listed' = pre ops n ∧ Lq a') l.length (pre ops k) a
  | [], k, a, _, hk, _, _, h => by
    obtain rfl : k = n := by simpa using hk
    exact ⟨rfl, h⟩
  | o :: l, k, a, hl, hk, inv, hB, h => by
    have h0 : ops[k]? = some o := by simpa using (hl 0 (by simp)).symm
    simp only [List.length_cons, freeB, Bool.and_eq_true] at hB
    obtain ⟨⟨hr, hf⟩, hB'⟩ := hB
    have hkn : k < n := by simp only [List.length_cons] at hk; omega
    have hr' : k ∈ Region.ready .any ops (pre ops k) := by simpa using hr
    obtain ⟨v, hy, hK⟩ := h
    exact headOK_first st h0 hs hkn (fun listed' a' hL => by rw [hL.1]; exact hend) l.length (pre ops k) a inv (Region.free_spec h0 hf) hr' hy
      (headOK_lex st hs hend l (k + 1) _ (fun j hj => by have := hl (j + 1) (by simp; omega); simpa [Nat.add_assoc, Nat.add_comm 1 j] using this) (by simp only [List.length_cons] at hk; omega) (inv.set hr' hkn) hB' hK)

theorem pre_size (ops : Array Oper) : ∀ k, (pre ops k).size = ops.size
  | 0 => by simp [pre]
  | k + 1 => by simp [pre, pre_size ops k]
theorem pre_getD (ops : Array Oper) (j : Nat) (hj : j < ops.size) : ∀ k, (pre ops k).getD j false = decide (j < k)
  | 0 => by
    show (Array.replicate ops.size false).getD j false = decide (j < 0)
    rw [getD_replicate_false]
    simp
  | k + 1 => by
    have ih := pre_getD ops j hj k
    simp only [pre]
    by_cases e : k = j
    · subst e
      simp [Array.getD, pre_size, hj]
    · rw [getD_set_ne false e, ih]
      simp only [decide_eq_decide]
      omega

/-- What the kernel is asked of a head: operations k to n - 1. -/
def headB (ops : Array Oper) (k n : Nat) : Bool :=
  Region.noSelect ops && decide (k ≤ n) && decide (n ≤ ops.size) && waitB ops n &&
  ((List.range k).all fun j => (ops[j]?.map fun o => o.after.all fun e => !Region.binds .any e || decide (e.on < k)).getD true) &&
  (Region.ready .any ops (pre ops n)).all (fun j => decide (n ≤ j)) && freeB ops (n - k) k

theorem headInv_of {k n : Nat} (hk : k ≤ n) (hn : n ≤ ops.size) (h : ((List.range k).all fun j => (ops[j]?.map fun o => o.after.all fun e => !Region.binds .any e || decide (e.on < k)).getD true) = true) : HeadInv .any ops n (pre ops k) := by
  refine ⟨pre_size ops k, fun j o hj hl e he hb => ?_, fun t h1 h2 => getD_in (by rw [pre_size]; exact h2) (by rw [pre_getD ops t h2]; simp; omega)⟩
  have hjs : j < ops.size := (Array.getElem?_eq_some_iff.1 hj).1
  rw [pre_getD ops j hjs, decide_eq_true_eq] at hl
  have h1 := List.all_eq_true.1 h j (List.mem_range.2 hl)
  rw [hj, Option.map_some, Option.getD_some] at h1
  obtain ⟨i, hi, rfl⟩ := Array.mem_iff_getElem.1 he
  have h2 := Array.all_eq_true.1 h1 i hi
  rw [hb] at h2
  have h3 : o.after[i].on < k := by simpa using h2
  rw [pre_getD ops _ (by omega)]
  simpa using h3
end

/-! ### The plain walk -/
section
variable {P : Program} {ops : Array Oper} {C : World → Prop}

theorem steady_plain (hsel : Region.noSelect ops = true) : Steady ops (YieldsIn P ops C) :=
  ⟨Region.noSelect_spec hsel, fun {x y _ u a} hx hd =>
    ⟨fun h => h.of_same (execOp_put x hx a y.dst u hd).symm (wanted_put x a y.dst u hd).symm, fun h => h.of_same (execOp_put x hx a y.dst u hd) (wanted_put x a y.dst u hd)⟩⟩

theorem headLex_of_quiet {Lq : Act → Prop} : ∀ (l : List Oper) (a : Act), wpQuiet P ops C Lq l a → headLex (YieldsIn P ops C) Lq l a
  | [], _, h => h
  | o :: l, a, h => by
    unfold wpQuiet at h
    by_cases hw : Region.wanted o (yielded ops a.tmps) = true
    · simp only [hw, if_true] at h
      obtain ⟨v, h1, h2⟩ := h
      exact ⟨v, .inl ⟨hw, h1⟩, headLex_of_quiet l _ h2⟩
    · simp only [hw, if_false, Bool.false_eq_true] at h
      exact ⟨undef, .inr ⟨by simpa using hw, rfl⟩, headLex_of_quiet l _ h⟩

theorem wpAny_of_headOK {n g : Nat} {L : Array Bool → Act → Prop} {Q : Exit → Act → World → Prop} (hL : ∀ listed a w, C w → L listed a → wpAny P .any ops Q g listed a w) :
    ∀ (f : Nat) (listed : Array Bool) (a : Act) (w : World), C w → headOK ops (YieldsIn P ops C) n L f listed a → wpAny P .any ops Q (f + g) listed a w
  | 0, listed, a, w, hw, h => by rw [Nat.zero_add]; exact hL _ _ _ hw h
  | f + 1, listed, a, w, hw, h => by
    rw [show f + 1 + g = (f + g) + 1 by omega]
    refine ⟨fun h0 => absurd h0 h.1, fun i hi => ?_⟩
    obtain ⟨_, o, _, ho, hy, h'⟩ := h.2 i hi
    exact wpOp_of_qOp hw (fun a' w' hw' h2 => wpAny_of_headOK hL f _ a' w' hw' h2) (hy.qOp ho h')

/-- What is still to be walked of a region when its first k operations have been carried out. -/
def Left (P : Program) (l : List Oper) (Q : Exit → Act → World → Prop) (k : Nat) (a : Act) (w : World) : Prop := wpAny P .any l.toArray Q (l.length - k) (pre l.toArray k) a w

/-- The region begins. -/
theorem wp_region_left {id : Nat} {Q : Exit → Act → World → Prop} {a : Act} {w : World} {l : List Oper} (hm : P.follows .mixedOrders = true) (h : Left P l Q 0 a w.drew) : (Code.region id l.toArray true).wp P Q a w :=
  wp_region_any hm (by simpa [Left, pre] using h)

/-- A HEAD: operations k to n - 1 only read, or call what stays in the class C. -/
theorem Left.head {Q : Exit → Act → World → Prop} {a : Act} {w : World} {l : List Oper} {k : Nat} (n : Nat) (C : World → Prop) (hB : headB l.toArray k n = true) (hC : C w)
    (h : wpQuiet P l.toArray C (fun a' => ∀ w', C w' → Left P l Q n a' w') ((l.drop k).take (n - k)) a) : Left P l Q k a w := by
  simp only [headB, Bool.and_eq_true, decide_eq_true_eq] at hB
  obtain ⟨⟨⟨⟨⟨⟨hsel, hkn⟩, hn⟩, hs⟩, hcl⟩, hend⟩, hf⟩ := hB
  have hn' : n ≤ l.length := by simpa using hn
  have hlen : ((l.drop k).take (n - k)).length = n - k := by simp; omega
  have H := headOK_lex (steady_plain (P := P) (C := C) hsel) hs (fun j hj => of_decide_eq_true (List.all_eq_true.1 hend j hj)) ((l.drop k).take (n - k)) k a (fun j hj => by
    rw [hlen] at hj
    simp [List.getElem?_take, hj]) (by rw [hlen]; omega) (headInv_of hkn hn hcl) (by rw [hlen]; exact hf) (headLex_of_quiet _ _ h)
  have := wpAny_of_headOK (Q := Q) (g := l.length - n) (fun listed a' w' hw' hL => by rw [hL.1]; exact hL.2 w' hw') _ _ _ _ hC H
  rw [hlen, show n - k + (l.length - n) = l.length - k by omega] at this
  exact this

theorem Left.headD {Q : Exit → Act → World → Prop} {a : Act} {w : World} {l : List Oper} {k : Nat} (n : Nat) (hB : headB l.toArray k n = true)
    (h : wpQuiet P l.toArray (fun w' => ∃ d, w' = w.drewN d) (fun a' => ∀ w', (∃ d, w' = w.drewN d) → Left P l Q n a' w') ((l.drop k).take (n - k)) a) : Left P l Q k a w :=
  Left.head n _ hB ⟨0, rfl⟩ h

/-- ONE OPERATION for which all others wait. -/
theorem Left.one {Q : Exit → Act → World → Prop} {a : Act} {w : World} {l : List Oper} {k : Nat} {o : Oper} (ho : l[k]? = some o) (hB : Region.ready .any l.toArray (pre l.toArray k) = [k])
    (h : wpList P l.toArray (Exit.then (fun a' w' => Left P l Q (k + 1) a' w') Q) [o] a w) : Left P l Q k a w := by
  have hk : k < l.length := (List.getElem?_eq_some_iff.1 ho).1
  unfold Left
  rw [show l.length - k = (l.length - (k + 1)) + 1 by omega]
  refine ⟨fun h0 => (by rw [hB] at h0; cases h0), fun i hi => ?_⟩
  rw [hB] at hi
  obtain rfl : i = k := by simpa using hi
  have h0 : l.toArray[i]? = some o := by simpa using ho
  unfold wpOp
  simp only [h0]
  unfold wpList at h
  split
  · rename_i hw
    simp only [hw, if_true] at h
    rcases h with h | ⟨h1, a₀, w₀, h2⟩
    · left
      unfold Oper.wp at h ⊢
      generalize (execOp a.eval o).run P w = r at *
      cases r with
      | ok x w' =>
        cases x <;> simp only [Oper.upon] at h ⊢ <;> first | exact h | exact h.mono (fun e w'' he => by cases e <;> exact he)
      | halt x w' => cases x <;> simp only [Oper.upon] at h ⊢ <;> exact h
    · exact .inr ⟨h1, a₀, w₀, h2⟩
  · rename_i hw
    simp only [hw, if_false, Bool.false_eq_true] at h
    exact h

/-- A TAIL whose order is forced. -/
theorem Left.tail {Q : Exit → Act → World → Prop} {a : Act} {w : World} {l : List Oper} {k : Nat} (hB : Region.seqB .any l.toArray (l.drop k).length k (pre l.toArray k) = true)
    (h : wpList P l.toArray Q (l.drop k) a w) : Left P l Q k a w := by
  have := wpAny_of_seq (md := .any) (Q' := Q) (l.drop k) k (pre l.toArray k) a w (fun j => by simp [List.getElem?_drop]) hB h
  rw [List.length_drop] at this
  exact this

/-- The region ends. -/
theorem Left.done {Q : Exit → Act → World → Prop} {a : Act} {w : World} {l : List Oper} {k : Nat} (hk : l.length = k) (hB : Region.ready .any l.toArray (pre l.toArray k) = []) (h : Q .normal a w) : Left P l Q k a w := by
  unfold Left
  rw [hk, Nat.sub_self]
  exact ⟨hB, h⟩
end

/-! ### Inside a fence -/
section
variable {F : Fence} {m : Nat} {P : Program} {ops : Array Oper} {C : World → Prop}

def noDefer (ops : Array Oper) : Bool := ops.all fun o => match o.op with | .defer _ => false | _ => true
theorem noDefer_spec (h : noDefer ops = true) (j : Nat) (o : Oper) (ho : ops[j]? = some o) (c : Call) : o.op ≠ .defer c := by
  intro e
  obtain ⟨hj, rfl⟩ := Array.getElem?_eq_some_iff.1 ho
  have := Array.all_eq_true.1 h j hj
  rw [e] at this
  cases this

theorem steady_in (hsel : Region.noSelect ops = true) : Steady ops (YieldsQuiet F m P ops C) :=
  ⟨Region.noSelect_spec hsel, fun {x y _ u a} hx hd =>
    ⟨fun h => h.of_same (execOp_put x hx a y.dst u hd).symm (wanted_put x a y.dst u hd).symm (fun w => (about_put x w a y.dst u hd).symm),
     fun h => h.of_same (execOp_put x hx a y.dst u hd) (wanted_put x a y.dst u hd) (fun w => about_put x w a y.dst u hd)⟩⟩

theorem headLex_of_quietIn {Lq : Act → Prop} : ∀ (l : List Oper) (a : Act), wpQuietIn F m P ops C Lq l a → headLex (YieldsQuiet F m P ops C) Lq l a
  | [], _, h => h
  | o :: l, a, h => by
    unfold wpQuietIn at h
    obtain ⟨ha, h⟩ := h
    by_cases hw : Region.wanted o (yielded ops a.tmps) = true
    · simp only [hw, if_true] at h
      obtain ⟨v, h1, h2⟩ := h
      exact ⟨v, ⟨ha, .inl ⟨hw, h1⟩⟩, headLex_of_quietIn l _ h2⟩
    · simp only [hw, if_false, Bool.false_eq_true] at h
      exact ⟨undef, ⟨ha, .inr ⟨by simpa using hw, rfl⟩⟩, headLex_of_quietIn l _ h⟩

theorem wpOpIn_of_yields {i : Nat} {o : Oper} {v : Value} {a : Act} {w : World} {K : Act → World → Prop} {Q : Exit → Act → World → Prop} (hd : ∀ c, o.op ≠ .defer c) (ho : ops[i]? = some o)
    (hy : YieldsQuiet F m P ops C o v a) (hw : C w) (hK : ∀ w', C w' → K (a.put o.dst v) w') : wpOpIn F m P ops Q i K a w := by
  unfold wpOpIn
  simp only [ho]
  rcases hy.2 with ⟨h1, h2⟩ | ⟨h1, rfl⟩
  · simp only [h1, if_true]
    have h3 := h2 w hw
    unfold Oper.quietAtIn at h3
    unfold Oper.wpIn
    refine ⟨hy.1 w hw, ?_⟩
    rw [Oper.semAt_eq _ _ _ hd]
    generalize (execOp a.eval o).run P w = r at *
    cases r with
    | halt x w' => exact h3.elim
    | ok x w' =>
      cases x with
      | value u => obtain ⟨rfl, rfl⟩ := h3; exact hK _ hw
      | skip => obtain ⟨rfl, rfl⟩ := h3; exact hK _ hw
      | enter f args =>
        obtain ⟨rfl, hdep, hc⟩ := h3
        exact ⟨hdep, hc.mono fun e w'' ⟨he, hw''⟩ => by subst he; exact hK _ hw''⟩
      | _ => exact h3.elim
  · simp only [h1, Bool.false_eq_true, if_false]
    exact ⟨hy.1 w hw, hK _ hw⟩

theorem wpAnyIn_of_headOK {n g : Nat} {L : Array Bool → Act → Prop} {Q : Exit → Act → World → Prop} (hd : noDefer ops = true) (hL : ∀ listed a w, C w → L listed a → wpAnyIn F m P .any ops Q g listed a w) :
    ∀ (f : Nat) (listed : Array Bool) (a : Act) (w : World), C w → headOK ops (YieldsQuiet F m P ops C) n L f listed a → wpAnyIn F m P .any ops Q (f + g) listed a w
  | 0, listed, a, w, hw, h => by rw [Nat.zero_add]; exact hL _ _ _ hw h
  | f + 1, listed, a, w, hw, h => by
    rw [show f + 1 + g = (f + g) + 1 by omega]
    refine ⟨fun h0 => absurd h0 h.1, fun i hi => ?_⟩
    obtain ⟨_, o, v, ho, hy, h'⟩ := h.2 i hi
    exact wpOpIn_of_yields (noDefer_spec hd i o ho) ho hy hw (fun w' hw' => wpAnyIn_of_headOK hd hL f _ _ w' hw' h')

def LeftIn (F : Fence) (m : Nat) (P : Program) (l : List Oper) (Q : Exit → Act → World → Prop) (k : Nat) (a : Act) (w : World) : Prop := wpAnyIn F m P .any l.toArray Q (l.length - k) (pre l.toArray k) a w

theorem wpIn_region_left {id : Nat} {Q : Exit → Act → World → Prop} {a : Act} {w : World} {l : List Oper} (hm : P.follows .mixedOrders = true) (h : LeftIn F m P l Q 0 a w.drew) : (Code.region id l.toArray true).wpIn F m P Q a w :=
  wpIn_region_any hm (by simpa [LeftIn, pre] using h)

theorem LeftIn.head {Q : Exit → Act → World → Prop} {a : Act} {w : World} {l : List Oper} {k : Nat} (n : Nat) (C : World → Prop) (hB : headB l.toArray k n = true) (hd : noDefer l.toArray = true) (hC : C w)
    (h : wpQuietIn F m P l.toArray C (fun a' => ∀ w', C w' → LeftIn F m P l Q n a' w') ((l.drop k).take (n - k)) a) : LeftIn F m P l Q k a w := by
  simp only [headB, Bool.and_eq_true, decide_eq_true_eq] at hB
  obtain ⟨⟨⟨⟨⟨⟨hsel, hkn⟩, hn⟩, hs⟩, hcl⟩, hend⟩, hf⟩ := hB
  have hn' : n ≤ l.length := by simpa using hn
  have hlen : ((l.drop k).take (n - k)).length = n - k := by simp; omega
  have H := headOK_lex (steady_in (F := F) (m := m) (P := P) (C := C) hsel) hs (fun j hj => of_decide_eq_true (List.all_eq_true.1 hend j hj)) ((l.drop k).take (n - k)) k a (fun j hj => by
    rw [hlen] at hj
    simp [List.getElem?_take, hj]) (by rw [hlen]; omega) (headInv_of hkn hn hcl) (by rw [hlen]; exact hf) (headLex_of_quietIn _ _ h)
  have := wpAnyIn_of_headOK (Q := Q) (g := l.length - n) hd (fun listed a' w' hw' hL => by rw [hL.1]; exact hL.2 w' hw') _ _ _ _ hC H
  rw [hlen, show n - k + (l.length - n) = l.length - k by omega] at this
  exact this

theorem LeftIn.headD {Q : Exit → Act → World → Prop} {a : Act} {w : World} {l : List Oper} {k : Nat} (n : Nat) (hB : headB l.toArray k n = true) (hd : noDefer l.toArray = true)
    (h : wpQuietIn F m P l.toArray (fun w' => ∃ d, w' = w.drewN d) (fun a' => ∀ w', (∃ d, w' = w.drewN d) → LeftIn F m P l Q n a' w') ((l.drop k).take (n - k)) a) : LeftIn F m P l Q k a w :=
  LeftIn.head n _ hB hd ⟨0, rfl⟩ h

theorem LeftIn.one {Q : Exit → Act → World → Prop} {a : Act} {w : World} {l : List Oper} {k : Nat} {o : Oper} (ho : l[k]? = some o) (hB : Region.ready .any l.toArray (pre l.toArray k) = [k])
    (h : wpListIn F m P l.toArray (Exit.then (fun a' w' => LeftIn F m P l Q (k + 1) a' w') Q) [o] a w) : LeftIn F m P l Q k a w := by
  have hk : k < l.length := (List.getElem?_eq_some_iff.1 ho).1
  unfold LeftIn
  rw [show l.length - k = (l.length - (k + 1)) + 1 by omega]
  refine ⟨fun h0 => (by rw [hB] at h0; cases h0), fun i hi => ?_⟩
  rw [hB] at hi
  obtain rfl : i = k := by simpa using hi
  have h0 : l.toArray[i]? = some o := by simpa using ho
  unfold wpOpIn
  simp only [h0]
  unfold wpListIn at h
  split
  · rename_i hw
    simp only [hw, if_true] at h
    unfold Oper.wpIn at h ⊢
    refine ⟨h.1, ?_⟩
    have h := h.2
    generalize (o.semAt F.round a.eval).run P w = r at *
    cases r with
    | ok x w' =>
      cases x <;> simp only [Oper.uponIn] at h ⊢ <;> first | exact h | exact ⟨h.1, h.2.mono (fun e w'' he => by cases e <;> exact he)⟩ | exact ⟨h.1, h.2.mono (fun e w'' he => he)⟩
    | halt x w' => cases x <;> simp only [Oper.uponIn] at h ⊢ <;> exact h
  · rename_i hw
    simp only [hw, if_false, Bool.false_eq_true] at h
    exact h

theorem wpAnyIn_of_seq {Q : Exit → Act → World → Prop} : ∀ (l : List Oper) (k : Nat) (listed : Array Bool) (a : Act) (w : World), (∀ j, l[j]? = ops[k + j]?) →
    Region.seqB .any ops l.length k listed = true → wpListIn F m P ops Q l a w → wpAnyIn F m P .any ops Q l.length listed a w
  | [], _, _, _, _, _, hB, h => ⟨by simpa [Region.seqB] using hB, h⟩
  | o :: l, k, listed, a, w, hl, hB, h => by
    have h0 : ops[k]? = some o := by simpa using (hl 0).symm
    simp only [List.length_cons, Region.seqB, Bool.and_eq_true, decide_eq_true_eq] at hB
    refine ⟨fun h1 => (by rw [hB.1] at h1; cases h1), fun i hi => ?_⟩
    rw [hB.1] at hi
    obtain rfl : i = k := by simpa using hi
    have hw : wpOpIn F m P ops Q i (wpListIn F m P ops Q l) a w := by unfold wpOpIn; simp only [h0]; exact h
    exact wpOpIn_mono (fun a' w' h' => wpAnyIn_of_seq l (i + 1) _ a' w' (fun j => by have := hl (j + 1); simpa [Nat.add_assoc, Nat.add_comm 1 j] using this) hB.2 h') hw
theorem LeftIn.tail {Q : Exit → Act → World → Prop} {a : Act} {w : World} {l : List Oper} {k : Nat} (hB : Region.seqB .any l.toArray (l.drop k).length k (pre l.toArray k) = true)
    (h : wpListIn F m P l.toArray Q (l.drop k) a w) : LeftIn F m P l Q k a w := by
  have := wpAnyIn_of_seq (Q := Q) (l.drop k) k (pre l.toArray k) a w (fun j => by simp [List.getElem?_drop]) hB h
  rw [List.length_drop] at this
  exact this

theorem LeftIn.done {Q : Exit → Act → World → Prop} {a : Act} {w : World} {l : List Oper} {k : Nat} (hk : l.length = k) (hB : Region.ready .any l.toArray (pre l.toArray k) = []) (h : Q .normal a w) : LeftIn F m P l Q k a w := by
  unfold LeftIn
  rw [hk, Nat.sub_self]
  exact ⟨hB, h⟩
end
end Go.Proofs.Ythgmdilfmeefiaa

namespace Go.Proofs.Ythgmdilfmeefiaa
set_option linter.all false
set_option linter.unusedSimpArgs false
set_option linter.unusedVariables false
open Go.RowKit

section
variable {P : Program}

/-- From here on the world has a name. -/
theorem named {K : Act → World → Prop} {a : Act} {w : World} (h : ∀ W, W = w → K a W) : K a w := h w rfl
theorem namedL {ops : Array Oper} {Q : Exit → Act → World → Prop} {l : List Oper} {a : Act} {w : World} (h : ∀ W, W = w → wpList P ops Q l a W) : wpList P ops Q l a w := h w rfl

/-- (A look at the form of the next operation.) -/
theorem atLoad {ops : Array Oper} {Q : Exit → Act → World → Prop} {o : Oper} {rest : List Oper} {a : Act} {w : World} (ty : TypeId) {x : Operand} (_ : o.op = .load ty x) (h : wpList P ops Q (o :: rest) a w) : wpList P ops Q (o :: rest) a w := h
theorem atStore {ops : Array Oper} {Q : Exit → Act → World → Prop} {o : Oper} {rest : List Oper} {a : Act} {w : World} (ty : TypeId) {x y : Operand} (_ : o.op = .store ty x y) (h : wpList P ops Q (o :: rest) a w) : wpList P ops Q (o :: rest) a w := h

abbrev rowB : TypeDesc → Bool := fun d => match d with | .struct _ | .array _ _ => true | _ => false

theorem wpList_loadB {ops : Array Oper} {rest : List Oper} {o : Oper} {a : Act} {w : World} {Q : Exit → Act → World → Prop} (hgd : o.guard = none) {ty : TypeId} {x : Operand} (ho : o.op = .load ty x)
    {b T : Nat} {cs : List Value} (hb : Blk w b T cs) (hx : a.eval x = .pointer (some ⟨b, 0, none⟩)) {d : TypeDesc} (hu : P.underlying ty = some d) (hd : rowB d = true) (hi : (P.info? ty).map (·.size) = some cs.length)
    (h : wpList P ops Q rest (a.put o.dst (.agg cs.toArray)) w) : wpList P ops Q (o :: rest) a w :=
  wpList_load_row hgd ty x ho b hx T cs.toArray (0, 0) d hb hu (by cases d <;> simp_all) (by simpa using hi) h

theorem wpList_storeB {ops : Array Oper} {rest : List Oper} {o : Oper} {a : Act} {w : World} {Q : Exit → Act → World → Prop} (hgd : o.guard = none) {ty : TypeId} {x y : Operand} (ho : o.op = .store ty x y)
    {b T : Nat} {old cs : List Value} (hb : Blk w b T old) (hx : a.eval x = .pointer (some ⟨b, 0, none⟩)) (hy : a.eval y = .agg cs.toArray) (hl : old.length = cs.length) (hi : (P.info? ty).map (·.size) = some cs.length)
    (h1 : ∀ v ∈ cs, v.oneCell' = true) (h : wpList P ops Q rest (a.put o.dst undef) (w.setRow b cs.toArray)) : wpList P ops Q (o :: rest) a w :=
  wpList_store_row hgd ty x y ho b cs.toArray hx hy T old.toArray hb (by simpa using hi) (by simpa using hl) (by simpa [Array.all_eq_true_iff_forall_mem] using h1) h

theorem Blk.row {w : World} {b T : Nat} {old : List Value} (h : Blk w b T old) (cs : List Value) : Blk (w.setRow b cs.toArray) b T cs := setRow_heap w b _ _ T _ h
theorem Blk.row_other {w : World} {b T g : Nat} {old : List Value} (h : Blk w b T old) (cs : Array Value) (hne : g ≠ b) : Blk (w.setRow g cs) b T old := by
  exact (setRow_other w g b cs (Ne.symm hne)).trans h

/-- A result that lies in a cell: the struct whole. -/
theorem loadVarB {w : World} {b T : Nat} {cs : List Value} (hb : Blk w b T cs) {ty : TypeId} {d : TypeDesc} (hu : P.underlying ty = some d) (hd : rowB d = true) (hi : (P.info? ty).map (·.size) = some cs.length) :
    (loadVar ty ⟨b, 0, none⟩).run P w = .ok (.agg cs.toArray) w :=
  run_loadVar_row w b T ty cs.toArray (0, 0) d hb hu (by cases d <;> simp_all) (by simpa using hi)

theorem Blk.other' {w : World} {b T : Nat} {cs : List Value} {a : Addr} {v : Value} (hne : a.block ≠ b) (h : Blk w b T cs) : Blk (w.setCell a v) b T cs := h.other a hne v
theorem Blk.rowO {w : World} {b T g : Nat} {old : List Value} {cs : Array Value} (hne : g ≠ b) (h : Blk w b T old) : Blk (w.setRow g cs) b T old := h.row_other cs hne
theorem Frm.setRow' {B : Nat} {S : List Nat} {a w : World} {g : Nat} {cs : Array Value} (hp : g ∈ S ∨ B ≤ g) (h : Frm B S a w) : Frm B S a (w.setRow g cs) := h.setRow hp cs
theorem Blk.alloc' {w : World} {b T : Nat} {cs : List Value} {o : Obj} (h : Blk w b T cs) : Blk (w.alloc o) b T cs := h.alloc o

theorem results_c {fn : Func} {p : Tmp} {ty : TypeId} (h : fn.results = #[.cell p ty]) {tmps : Array Value} {w : World} {b T : Nat} {cs : List Value} (hb : Blk w b T cs) (hp : tmps.getD p undef = .pointer (some ⟨b, 0, none⟩))
    {d : TypeDesc} (hu : P.underlying ty = some d) (hd : rowB d = true) (hi : (P.info? ty).map (·.size) = some cs.length) :
    (results fn tmps).run P w = .ok (.agg cs.toArray) w := by
  have hp' : tmps[p]?.getD undef = .pointer (some ⟨b, 0, none⟩) := by simpa using hp
  simp [results, h, hp', asAddr, loadVarB hb hu hd hi]
theorem results_ct {fn : Func} {p q : Tmp} {ty : TypeId} (h : fn.results = #[.cell p ty, .tmp q]) {tmps : Array Value} {w : World} {b T : Nat} {cs : List Value} (hb : Blk w b T cs) (hp : tmps.getD p undef = .pointer (some ⟨b, 0, none⟩))
    {d : TypeDesc} (hu : P.underlying ty = some d) (hd : rowB d = true) (hi : (P.info? ty).map (·.size) = some cs.length) :
    (results fn tmps).run P w = .ok (.tuple #[.agg cs.toArray, tmps.getD q undef]) w := by
  have hp' : tmps[p]?.getD undef = .pointer (some ⟨b, 0, none⟩) := by simpa using hp
  simp [results, h, hp', asAddr, loadVarB hb hu hd hi]
theorem results_cct {fn : Func} {p p2 q : Tmp} {ty ty2 : TypeId} (h : fn.results = #[.cell p ty, .cell p2 ty2, .tmp q]) {tmps : Array Value} {w : World} {b T : Nat} {cs : List Value} (hb : Blk w b T cs) (hp : tmps.getD p undef = .pointer (some ⟨b, 0, none⟩))
    {d : TypeDesc} (hu : P.underlying ty = some d) (hd : rowB d = true) (hi : (P.info? ty).map (·.size) = some cs.length)
    {b2 T2 : Nat} {cs2 : List Value} (hb2 : Blk w b2 T2 cs2) (hp2 : tmps.getD p2 undef = .pointer (some ⟨b2, 0, none⟩))
    {d2 : TypeDesc} (hu2 : P.underlying ty2 = some d2) (hd2 : rowB d2 = true) (hi2 : (P.info? ty2).map (·.size) = some cs2.length) :
    (results fn tmps).run P w = .ok (.tuple #[.agg cs.toArray, .agg cs2.toArray, tmps.getD q undef]) w := by
  have hp' : tmps[p]?.getD undef = .pointer (some ⟨b, 0, none⟩) := by simpa using hp
  have hp2' : tmps[p2]?.getD undef = .pointer (some ⟨b2, 0, none⟩) := by simpa using hp2
  simp [results, h, hp', hp2', asAddr, loadVarB hb hu hd hi, loadVarB hb2 hu2 hd2 hi2]

theorem atLoadQ {ops : Array Oper} {C : World → Prop} {Q : Act → Prop} {o : Oper} {rest : List Oper} {a : Act} (ty : TypeId) {x : Operand} (_ : o.op = .load ty x) (h : wpQuiet P ops C Q (o :: rest) a) : wpQuiet P ops C Q (o :: rest) a := h
/-- A whole struct, loaded in a region that draws its order. -/
theorem wpQuiet_loadB {ops : Array Oper} {C : World → Prop} {Q : Act → Prop} {rest : List Oper} {o : Oper} {a : Act} (hgd : o.guard = none) {ty : TypeId} {x : Operand} (ho : o.op = .load ty x)
    {b T : Nat} {cs : List Value} (hC : ∀ w, C w → Blk w b T cs) (hx : a.eval x = .pointer (some ⟨b, 0, none⟩)) {d : TypeDesc} (hu : P.underlying ty = some d) (hd : rowB d = true) (hi : (P.info? ty).map (·.size) = some cs.length)
    (h : wpQuiet P ops C Q rest (a.put o.dst (.agg cs.toArray))) : wpQuiet P ops C Q (o :: rest) a := by
  refine wpQuiet_step fun K hK => ?_
  rw [if_pos (by simp [Region.wanted, hgd])]
  refine ⟨_, fun w hw => ?_, hK _ h⟩
  unfold Oper.quietAt execOp
  simp only [ho, hx, Instr.loadAt, Instr.sureAddr, Sem.run_bind, Sem.run_pure, Result.andThen_ok, loadVarB (hC w hw) hu hd hi]
  exact ⟨rfl, rfl⟩

/-! ### A region that draws its order and whose stores no other of its operations reads: all but the stores are taken first, under a condition S on the world that the stores keep. -/

def LeftH (P : Program) (l : List Oper) (Q : Exit → Act → World → Prop) (S : World → Prop) (k : Nat) (a : Act) (w : World) : Prop := wpAnyH P .any l.toArray Q S (l.length - k) (pre l.toArray k) a w

theorem wp_region_leftH {id : Nat} {Q : Exit → Act → World → Prop} {a : Act} {w : World} {l : List Oper} (S : World → Prop) (hm : P.follows .mixedOrders = true) (h : LeftH P l Q S 0 a w.drew) : (Code.region id l.toArray true).wp P Q a w :=
  wp_region_held hm (by simpa [LeftH, pre] using h)

/-- What the kernel is asked of the first n operations. -/
def takeB (ops : Array Oper) : Nat → Nat → Bool
  | 0, _ => true
  | f + 1, k => (Region.ready .any ops (pre ops k)).contains k && Region.free .any ops (pre ops k) k && takeB ops f (k + 1)

/-- They all yield, one behind the other. -/
def wpYield (P : Program) (ops : Array Oper) (S : World → Prop) (K : Act → Prop) : List Oper → Act → Prop
  | [], a => K a
  | o :: l, a => ∃ v, YieldsIf P ops S o v a ∧ wpYield P ops S K l (a.put o.dst v)

theorem wpYield_step {ops : Array Oper} {S : World → Prop} {K : Act → Prop} {o : Oper} {l : List Oper} {a : Act} {v : Value} (hg : o.guard = none) (h : ∀ w, S w → (execOp a.eval o).run P w = .ok (.value v) w) (k : wpYield P ops S K l (a.put o.dst v)) : wpYield P ops S K (o :: l) a :=
  ⟨v, .inl ⟨by simp [Region.wanted, hg], h⟩, k⟩
theorem wpYield_stepK {ops : Array Oper} {S : World → Prop} {K : Act → Prop} {o : Oper} {l : List Oper} {a : Act} {v : Value} (hg : o.guard = none) (h : ∀ w, S w → (execOp a.eval o).run P w = .ok (.value v) w)
    (k : ∀ K' : Act → Prop, (∀ a, wpYield P ops S K l a → K' a) → K' (a.put o.dst v)) : wpYield P ops S K (o :: l) a :=
  ⟨v, .inl ⟨by simp [Region.wanted, hg], h⟩, k _ (fun _ h => h)⟩
theorem LeftH.take_list {l : List Oper} {Q : Exit → Act → World → Prop} {S : World → Prop} (hs : Region.noSelect l.toArray = true) (hQ : ∀ c a d v w, Q (.panic c) (a.put d v) w → Q (.panic c) a w) (w : World) (hS : S w) :
    ∀ (l' : List Oper) (k : Nat) (a : Act), (∀ j, j < l'.length → l'[j]? = l[k + j]?) → k + l'.length ≤ l.length → takeB l.toArray l'.length k = true →
      wpYield P l.toArray S (fun a' => LeftH P l Q S (k + l'.length) a' w) l' a → LeftH P l Q S k a w
  | [], k, a, _, _, _, h => h
  | o :: l', k, a, hl, hk, hB, h => by
    simp only [List.length_cons, takeB, Bool.and_eq_true] at hB hk
    obtain ⟨⟨hr, hf⟩, hB'⟩ := hB
    obtain ⟨v, hy, h'⟩ := h
    have h0 : l.toArray[k]? = some o := by simpa using (hl 0 (by simp)).symm
    unfold LeftH
    rw [show l.length - k = (l.length - (k + 1)) + 1 by omega]
    refine wpAnyH_take h0 hs hf hr (fun c a w => hQ c a _ _ w) hy hS ?_
    exact LeftH.take_list hs hQ w hS l' (k + 1) _ (fun j hj => by have := hl (j + 1) (by simp; omega); simpa [Nat.add_assoc, Nat.add_comm 1 j] using this) (by omega) hB' (by
      rw [List.length_cons, show k + (l'.length + 1) = k + 1 + l'.length by omega] at h'
      exact h')

theorem LeftH.take {l : List Oper} {Q : Exit → Act → World → Prop} {S : World → Prop} {a : Act} {w : World} (n : Nat) (hB : (Region.noSelect l.toArray && decide (n ≤ l.length) && takeB l.toArray (l.take n).length 0) = true)
    (hQ : ∀ c a d v w, Q (.panic c) (a.put d v) w → Q (.panic c) a w) (hS : S w)
    (h : wpYield P l.toArray S (fun a' => LeftH P l Q S n a' w) (l.take n) a) : LeftH P l Q S 0 a w := by
  simp only [Bool.and_eq_true, decide_eq_true_eq] at hB
  obtain ⟨⟨hs, hn⟩, hB⟩ := hB
  have hlen : (l.take n).length = n := by simp; omega
  refine LeftH.take_list hs hQ w hS (l.take n) 0 a (fun j hj => ?_) (by rw [hlen]; omega) hB ?_
  · rw [hlen] at hj
    simp [List.getElem?_take, hj]
  · rw [hlen, Nat.zero_add]
    exact h

theorem LeftH.one {Q : Exit → Act → World → Prop} {S : World → Prop} {a : Act} {w : World} {l : List Oper} {k : Nat} {o : Oper} (ho : l[k]? = some o) (hB : Region.ready .any l.toArray (pre l.toArray k) = [k])
    (h : wpList P l.toArray (Exit.then (fun a' w' => S w' ∧ LeftH P l Q S (k + 1) a' w') Q) [o] a w) : LeftH P l Q S k a w := by
  have hk : k < l.length := (List.getElem?_eq_some_iff.1 ho).1
  unfold LeftH
  rw [show l.length - k = (l.length - (k + 1)) + 1 by omega]
  refine ⟨fun h0 => (by rw [hB] at h0; cases h0), fun i hi => ?_⟩
  rw [hB] at hi
  obtain rfl : i = k := by simpa using hi
  have h0 : l.toArray[i]? = some o := by simpa using ho
  unfold wpOp
  simp only [h0]
  unfold wpList at h
  split
  · rename_i hw
    simp only [hw, if_true] at h
    rcases h with h | ⟨h1, a₀, w₀, h2⟩
    · left
      unfold Oper.wp at h ⊢
      generalize (execOp a.eval o).run P w = r at *
      cases r with
      | ok x w' =>
        cases x <;> simp only [Oper.upon] at h ⊢ <;> first | exact h | exact h.mono (fun e w'' he => by cases e <;> exact he)
      | halt x w' => cases x <;> simp only [Oper.upon] at h ⊢ <;> exact h
    · exact .inr ⟨h1, a₀, w₀, h2⟩
  · rename_i hw
    simp only [hw, if_false, Bool.false_eq_true] at h
    exact h
theorem LeftH.done {Q : Exit → Act → World → Prop} {S : World → Prop} {a : Act} {w : World} {l : List Oper} {k : Nat} (hk : l.length = k) (hB : Region.ready .any l.toArray (pre l.toArray k) = []) (h : Q .normal a w) : LeftH P l Q S k a w := by
  unfold LeftH
  rw [hk, Nat.sub_self]
  exact ⟨hB, h⟩

theorem yields_loadB {ops : Array Oper} {S : World → Prop} {o : Oper} {a : Act} (hgd : o.guard = none) {ty : TypeId} {x : Operand} (ho : o.op = .load ty x)
    {b T : Nat} {cs : List Value} (hS : ∀ w, S w → Blk w b T cs) (hx : a.eval x = .pointer (some ⟨b, 0, none⟩)) {d : TypeDesc} (hu : P.underlying ty = some d) (hd : rowB d = true) (hi : (P.info? ty).map (·.size) = some cs.length) :
    YieldsIf P ops S o (.agg cs.toArray) a :=
  .inl ⟨by simp [Region.wanted, hgd], fun w hw => by
    unfold execOp
    simp only [ho, hx, Instr.loadAt, Instr.sureAddr, Sem.run_bind, Sem.run_pure, Result.andThen_ok, loadVarB (hS w hw) hu hd hi]⟩
theorem wpYield_load {ops : Array Oper} {S : World → Prop} {K : Act → Prop} {o : Oper} {l : List Oper} {a : Act} (hgd : o.guard = none) {ty : TypeId} {x : Operand} (ho : o.op = .load ty x)
    {b T : Nat} {cs : List Value} (hS : ∀ w, S w → Blk w b T cs) (hx : a.eval x = .pointer (some ⟨b, 0, none⟩)) {d : TypeDesc} (hu : P.underlying ty = some d) (hd : rowB d = true) (hi : (P.info? ty).map (·.size) = some cs.length)
    (k : ∀ K' : Act → Prop, (∀ a, wpYield P ops S K l a → K' a) → K' (a.put o.dst (.agg cs.toArray))) : wpYield P ops S K (o :: l) a :=
  ⟨_, yields_loadB hgd ho hS hx hu hd hi, k _ (fun _ h => h)⟩

/-- From here on the worldless operations may be taken first. -/
theorem Left.ofH {l : List Oper} {Q : Exit → Act → World → Prop} {k : Nat} {a : Act} {w : World} (h : LeftH P l Q (fun _ => True) k a w) : Left P l Q k a w := wpAny_of_held _ _ _ _ h
theorem LeftH.takeK {l : List Oper} {Q : Exit → Act → World → Prop} {S : World → Prop} {k : Nat} {a : Act} {w : World} (n : Nat) (hB : (Region.noSelect l.toArray && decide (n ≤ l.length) && decide (k ≤ n) && takeB l.toArray ((l.drop k).take (n - k)).length k) = true)
    (hQ : ∀ c a d v w, Q (.panic c) (a.put d v) w → Q (.panic c) a w) (hS : S w)
    (h : wpYield P l.toArray S (fun a' => LeftH P l Q S n a' w) ((l.drop k).take (n - k)) a) : LeftH P l Q S k a w := by
  simp only [Bool.and_eq_true, decide_eq_true_eq] at hB
  obtain ⟨⟨⟨hs, hn⟩, hk⟩, hB⟩ := hB
  have hlen : ((l.drop k).take (n - k)).length = n - k := by simp; omega
  refine LeftH.take_list hs hQ w hS ((l.drop k).take (n - k)) k a (fun j hj => ?_) (by rw [hlen]; omega) hB ?_
  · rw [hlen] at hj
    simp [List.getElem?_take, hj]
  · rw [hlen, show k + (n - k) = n by omega]
    exact h
end
end Go.Proofs.Ythgmdilfmeefiaa

namespace Go.Proofs.Ythgmdilfmeefiaa
set_option linter.all false
set_option linter.unusedSimpArgs false
set_option linter.unusedVariables false
open Go.RowKit

section
variable {P : Program} {ops : Array Oper} {Q : Exit → Act → World → Prop} {S : World → Prop} {t : Nat}

/-- Whatever order comes; S holds behind each operation but that of number t. -/
def wpAnyT (P : Program) (ops : Array Oper) (Q : Exit → Act → World → Prop) (S : World → Prop) (t : Nat) : Nat → Array Bool → Act → World → Prop
  | 0, listed, a, w => Region.ready .any ops listed = [] ∧ Q .normal a w
  | n + 1, listed, a, w =>
    (Region.ready .any ops listed = [] → Q .normal a w) ∧
    ∀ i ∈ Region.ready .any ops listed, wpOp P ops Q i (fun a' w' => (i ≠ t → S w') ∧ wpAnyT P ops Q S t n (listed.setIfInBounds i true) a' w') a w

theorem wpAny_ofT : ∀ (n : Nat) (listed : Array Bool) (a : Act) (w : World), wpAnyT P ops Q S t n listed a w → wpAny P .any ops Q n listed a w
  | 0, _, _, _, h => h
  | n + 1, _, _, _, h => ⟨h.1, fun i hi => wpOp_mono (fun a' w' h' => wpAny_ofT n _ a' w' h'.2) (h.2 i hi)⟩

/-- Does operation t wait for i? -/
def waitsB (ops : Array Oper) (t i : Nat) : Bool := (ops[t]?.map fun o => o.after.any fun e => Region.binds .any e && e.on == i).getD true

theorem wpAnyT_first {i : Nat} {x : Oper} {v : Value} (hi : ops[i]? = some x) (ht : waitsB ops t i = true) (hsel : Region.noSelect ops = true) (hQ : ∀ c a w, Q (.panic c) (a.put x.dst v) w → Q (.panic c) a w) :
    ∀ (n : Nat) (listed : Array Bool) (a : Act) (w : World),
      (∀ j y, ops[j]? = some y → j ≠ i → listed.getD j true = false → (∀ e ∈ y.after, Region.binds .any e = true → e.on ≠ i) → x.apart ops y = true) →
      i ∈ Region.ready .any ops listed → YieldsIf P ops S x v a → S w → wpAnyT P ops Q S t n (listed.setIfInBounds i true) (a.put x.dst v) w → wpAnyT P ops Q S t (n + 1) listed a w := by
  intro n
  induction n with
  | zero =>
    intro listed a w _ hr hy hS H
    refine ⟨fun h0 => (by rw [h0] at hr; cases hr), fun j hj => ?_⟩
    by_cases e : j = i
    · subst e; exact hy.wpOp hi hS ⟨fun _ => hS, H⟩
    · have h1 := ready_mono hj e
      rw [H.1] at h1
      cases h1
  | succ n ih =>
    intro listed a w hfree hr hy hS H
    refine ⟨fun h0 => (by rw [h0] at hr; cases hr), fun j hj => ?_⟩
    by_cases e : j = i
    · subst e; exact hy.wpOp hi hS ⟨fun _ => hS, H⟩
    · obtain ⟨hun, y, hy0, hall⟩ := mem_ready.1 hj
      have away : ∀ e ∈ y.after, Region.binds .any e = true → e.on ≠ i := fun e' he hb heq => by
        have h1 := hall e' he hb
        rw [heq, getD_both (mem_ready.1 hr).1] at h1
        cases h1
      have hjt : j ≠ t := by
        rintro rfl
        unfold waitsB at ht
        rw [hy0] at ht
        obtain ⟨e', he, hb⟩ := Array.any_eq_true'.1 (show (y.after.any fun e => Region.binds .any e && e.on == i) = true from ht)
        simp only [Bool.and_eq_true, beq_iff_eq] at hb
        exact away e' he hb.1 hb.2
      have step := wpOp_putIf hy0 (hfree j y hy0 e hun away) (fun cs b => Region.noSelect_spec hsel i x cs b hi) (fun cs b => Region.noSelect_spec hsel j y cs b hy0) hQ hy (H.2 j (ready_mono hj e))
      refine wpOp_mono (fun a' w' h3 => ⟨fun _ => h3.2.1 hjt, ih (listed.setIfInBounds j true) a' w' (fun k z hz hki hk hno => ?_) (ready_mono hr (Ne.symm e)) h3.1 (h3.2.1 hjt) ?_⟩) step
      · refine hfree k z hz hki ?_ hno
        by_cases hjk : j = k
        · subst hjk; exact hun
        · rwa [getD_set_ne true hjk] at hk
      · rw [Array.setIfInBounds_comm _ _ e]
        exact h3.2.2
end

section
variable {P : Program}

/-- (A goal at which the walk stays.) -/
structure Stay (p : Prop) : Prop where
  out : p
theorem stay {p : Prop} (h : Stay (id p)) : p := h.out
theorem go_on {p : Prop} (h : p) : Stay (id p) := ⟨h⟩

def doneOf (l : List Oper) (done : List Nat) : Array Bool := done.foldl (fun arr i => arr.setIfInBounds i true) (Array.replicate l.toArray.size false)
theorem doneOf_snoc (l : List Oper) (done : List Nat) (i : Nat) : doneOf l (done ++ [i]) = (doneOf l done).setIfInBounds i true := by simp [doneOf, List.foldl_append]

/-- What is left when those of 'done' have been carried out. -/
def LeftL (P : Program) (l : List Oper) (Q : Exit → Act → World → Prop) (S : World → Prop) (t : Nat) (done : List Nat) (a : Act) (w : World) : Prop :=
  wpAnyT P l.toArray Q S t (l.length - done.length) (doneOf l done) a w

theorem wp_region_leftL {id : Nat} {Q : Exit → Act → World → Prop} {a : Act} {w : World} {l : List Oper} (S : World → Prop) (t : Nat) (hm : P.follows .mixedOrders = true) (h : LeftL P l Q S t [] a w.drew) : (Code.region id l.toArray true).wp P Q a w :=
  wp_region_any hm (wpAny_ofT _ _ _ _ (by simpa [LeftL, doneOf] using h))

/-- What the kernel is asked when operation i is taken first. -/
def takeC (l : List Oper) (t : Nat) (done : List Nat) (i : Nat) : Bool :=
  waitsB l.toArray t i && Region.noSelect l.toArray && decide (done.length < l.length) && Region.free .any l.toArray (doneOf l done) i && (Region.ready .any l.toArray (doneOf l done)).contains i

theorem LeftL.take {l : List Oper} {Q : Exit → Act → World → Prop} {S : World → Prop} {t : Nat} {done : List Nat} {a : Act} {w : World} (i : Nat) {o : Oper} {v : Value} (ho : l[i]? = some o) (hB : takeC l t done i = true)
    (hQ : ∀ c a d v w, Q (.panic c) (a.put d v) w → Q (.panic c) a w) (hy : YieldsIf P l.toArray S o v a) (hS : S w)
    (h : ∀ K' : Act → Prop, (∀ a, LeftL P l Q S t (done ++ [i]) a w → K' a) → K' (a.put o.dst v)) : LeftL P l Q S t done a w := by
  simp only [takeC, Bool.and_eq_true, decide_eq_true_eq] at hB
  obtain ⟨⟨⟨⟨hw, hs⟩, hn⟩, hf⟩, hr⟩ := hB
  unfold LeftL
  rw [show l.length - done.length = (l.length - (done ++ [i]).length) + 1 by simp; omega]
  have ho' : l.toArray[i]? = some o := by simpa using ho
  refine wpAnyT_first ho' hw hs (fun c a w => hQ c a _ _ w) _ _ _ _ (Region.free_spec ho' hf) (by simpa using hr) hy hS ?_
  rw [← doneOf_snoc]
  exact h _ (fun _ h => h)

theorem LeftL.run {l : List Oper} {Q : Exit → Act → World → Prop} {S : World → Prop} {t : Nat} {done : List Nat} {a : Act} {w : World} (i : Nat) {o : Oper} {v : Value} (ho : l[i]? = some o) (hB : takeC l t done i = true) (hg : o.guard = none)
    (hQ : ∀ c a d v w, Q (.panic c) (a.put d v) w → Q (.panic c) a w) (hy : ∀ w, S w → (execOp a.eval o).run P w = .ok (.value v) w) (hS : S w)
    (h : ∀ K' : Act → Prop, (∀ a, LeftL P l Q S t (done ++ [i]) a w → K' a) → K' (a.put o.dst v)) : LeftL P l Q S t done a w :=
  LeftL.take i ho hB hQ (.inl ⟨by simp [Region.wanted, hg], hy⟩) hS h

/-- One operation, in the plain list's form: what follows it. -/
theorem LeftL.op {l : List Oper} {Q : Exit → Act → World → Prop} {S : World → Prop} {t : Nat} {done : List Nat} {a : Act} {w : World} {i : Nat} {o : Oper} (ho : l[i]? = some o) (hn : done.length < l.length)
    (h : wpList P l.toArray (Exit.then (fun a' w' => (i ≠ t → S w') ∧ LeftL P l Q S t (done ++ [i]) a' w') Q) [o] a w) :
    wpOp P l.toArray Q i (fun a' w' => (i ≠ t → S w') ∧ wpAnyT P l.toArray Q S t (l.length - (done.length + 1)) ((doneOf l done).setIfInBounds i true) a' w') a w := by
  have e : ∀ a' w', LeftL P l Q S t (done ++ [i]) a' w' ↔ wpAnyT P l.toArray Q S t (l.length - (done.length + 1)) ((doneOf l done).setIfInBounds i true) a' w' := fun a' w' => by
    unfold LeftL
    rw [doneOf_snoc, List.length_append]
    exact Iff.rfl
  simp only [e] at h
  have h0 : l.toArray[i]? = some o := by simpa using ho
  unfold wpOp
  simp only [h0]
  unfold wpList at h
  split
  · rename_i hw
    simp only [hw, if_true] at h
    rcases h with h | ⟨h1, a₀, w₀, h2⟩
    · left
      unfold Oper.wp at h ⊢
      generalize (execOp a.eval o).run P w = r at *
      cases r with
      | ok x w' =>
        cases x <;> simp only [Oper.upon] at h ⊢ <;> first | exact h | exact h.mono (fun e w'' he => by cases e <;> exact he)
      | halt x w' => cases x <;> simp only [Oper.upon] at h ⊢ <;> exact h
    · exact .inr ⟨h1, a₀, w₀, h2⟩
  · rename_i hw
    simp only [hw, if_false, Bool.false_eq_true] at h
    exact h

/-- ONE OPERATION for which all others wait. -/
theorem LeftL.one {l : List Oper} {Q : Exit → Act → World → Prop} {S : World → Prop} {t : Nat} {done : List Nat} {a : Act} {w : World} (i : Nat) {o : Oper} (ho : l[i]? = some o) (hB : (decide (done.length < l.length) && decide (Region.ready .any l.toArray (doneOf l done) = [i])) = true)
    (h : wpList P l.toArray (Exit.then (fun a' w' => (i ≠ t → S w') ∧ LeftL P l Q S t (done ++ [i]) a' w') Q) [o] a w) : LeftL P l Q S t done a w := by
  simp only [Bool.and_eq_true, decide_eq_true_eq] at hB
  unfold LeftL
  rw [show l.length - done.length = (l.length - (done.length + 1)) + 1 by omega]
  refine ⟨fun h0 => (by rw [hB.2] at h0; cases h0), fun j hj => ?_⟩
  rw [hB.2] at hj
  obtain rfl : j = i := by simpa using hj
  exact LeftL.op ho hB.1 h
/-- TWO OPERATIONS, either of which may come. -/
theorem LeftL.two {l : List Oper} {Q : Exit → Act → World → Prop} {S : World → Prop} {t : Nat} {done : List Nat} {a : Act} {w : World} (i i' : Nat) {o o' : Oper} (ho : l[i]? = some o) (ho' : l[i']? = some o') (hB : (decide (done.length < l.length) && decide (Region.ready .any l.toArray (doneOf l done) = [i, i'])) = true)
    (h : wpList P l.toArray (Exit.then (fun a' w' => (i ≠ t → S w') ∧ LeftL P l Q S t (done ++ [i]) a' w') Q) [o] a w)
    (h' : wpList P l.toArray (Exit.then (fun a' w' => (i' ≠ t → S w') ∧ LeftL P l Q S t (done ++ [i']) a' w') Q) [o'] a w) : LeftL P l Q S t done a w := by
  simp only [Bool.and_eq_true, decide_eq_true_eq] at hB
  unfold LeftL
  rw [show l.length - done.length = (l.length - (done.length + 1)) + 1 by omega]
  refine ⟨fun h0 => (by rw [hB.2] at h0; cases h0), fun j hj => ?_⟩
  rw [hB.2] at hj
  simp only [List.mem_cons, List.not_mem_nil, or_false] at hj
  rcases hj with rfl | rfl
  · exact LeftL.op ho hB.1 h
  · exact LeftL.op ho' hB.1 h'
theorem LeftL.done {l : List Oper} {Q : Exit → Act → World → Prop} {S : World → Prop} {t : Nat} {done : List Nat} {a : Act} {w : World} (hB : (decide (l.length = done.length) && decide (Region.ready .any l.toArray (doneOf l done) = [])) = true) (h : Q .normal a w) : LeftL P l Q S t done a w := by
  simp only [Bool.and_eq_true, decide_eq_true_eq] at hB
  unfold LeftL
  rw [hB.1, Nat.sub_self]
  exact ⟨hB.2, h⟩
/-- Where S is asked no more. -/
theorem LeftL.ofPlain {l : List Oper} {Q : Exit → Act → World → Prop} {k t : Nat} {a : Act} {w : World} (hk : k ≤ l.length) (h : LeftL P l Q (fun _ => True) t (List.range k) a w) : Left P l Q k a w := by
  have e : ∀ k, doneOf l (List.range k) = pre l.toArray k := by
    intro k
    induction k with
    | zero => rfl
    | succ k ih => rw [List.range_succ, doneOf_snoc, ih]; rfl
  have := wpAny_ofT _ _ _ _ h
  rw [e, List.length_range] at this
  exact this
end

section
variable {P : Program}
theorem namedC {c : Code} {Q : Exit → Act → World → Prop} {a : Act} {w : World} (h : ∀ W, W = w → c.wp P Q a W) : c.wp P Q a w := h w rfl

/-- Nothing appended. -/
theorem run_append_none (w : World) (t ty e : TypeId) (i : TypeInfo) (size : Nat) (ht : P.underlying t = some (.slice e)) (hi : P.info? e = some i) {v : Value} {n : Nat} {cs : List Value} {own : Option Nat} (hown : Sl w e size v n cs own) :
    (Builtin.append_ #[t, t] ty #[v, .slice none 0 0]).run P w = .ok v w := by
  rcases hown.2 with ⟨rfl, rfl, rfl⟩ | ⟨g, off, cap, cur, rfl, rfl, hg, hnc, hcm, hcs, htake⟩
  · simp [Builtin.append_, run_underlying ht, sizeOf, typeInfo, hi, Builtin.lenOf, Builtin.firstCells, loadCells, loadCellsFrom]
  · simp [Builtin.append_, run_underlying ht, sizeOf, typeInfo, hi, Builtin.lenOf, Builtin.firstCells, loadCells, loadCellsFrom, storeCells, hnc]

/-- APPEND a slice to a slice, both known by their cells. -/
theorem wpList_append_both {ops : Array Oper} {rest : List Oper} {o : Oper} {a : Act} {w : World} {Q : Exit → Act → World → Prop} (hgd : o.guard = none) (s x : Operand) (t : TypeId)
    (ho : o.op = .call { callee := .builtin .append, args := #[s, x], argTypes := #[t, t] })
    (e : TypeId) (i : TypeInfo) (z : Value) (size bytes : Nat) (ht : P.underlying t = some (.slice e)) (hi : P.info? e = some i) (hz : i.zero = some z)
    (hsize : i.size = size) (hby : i.bytes = bytes) (hzs : z.cells.size = size)
    (v : Value) (n : Nat) (cs : List Value) (own : Option Nat) (hs : a.eval s = v) (hown : Sl w e size v n cs own)
    (u : Value) (m : Nat) (news : List Value) (own2 : Option Nat) (hx : a.eval x = u) (hu : Sl w e size u m news own2) (h1 : ∀ u ∈ news, u.oneCell' = true)
    (h63 : n + m ≤ maxLen) (hbytes : (n + m) * bytes ≤ 140737488355328)
    (h : ∀ v' w' own', Sl w' e size v' (n + m) (cs ++ news) own' → Frm w.heap.size own.toList w w' → (own' = own ∨ ∃ g, own' = some g ∧ w.heap.size ≤ g) → wpList P ops Q rest (a.put o.dst v') w') : wpList P ops Q (o :: rest) a w := by
  rcases hu.2 with ⟨rfl, rfl, rfl⟩ | ⟨g, off, cap, cur, rfl, rfl, hg, hnc, hcm, hcs, htake⟩
  · have hn : news = [] := List.eq_nil_of_length_eq_zero (by simpa using hu.1)
    subst hn
    have hr := run_append_none (P := P) w t o.type e i size ht hi hown
    have key := h v w own (by simpa using hown) (Frm.refl _ _ _) (.inl rfl)
    refine wpList_step fun K hK => ?_
    rw [if_pos (by simp [Region.wanted, hgd])]
    unfold Oper.wp
    cases o with
    | mk dst op type pos after guard =>
      dsimp only at ho hgd hr key ⊢
      subst ho
      rw [BigFrame.execOp_builtin, BigFrame.builtin_append]
      have ha : (#[s, x] : Array Operand).map a.eval = #[v, .slice none 0 0] := by simp [hs, hx]
      rw [ha]
      have hrun : (do pure (Next.value (← Builtin.append_ #[t, t] type #[v, .slice none 0 0])) : Sem Next).run P w = .ok (.value v) w := by
        simp [hr]
      rw [hrun]
      exact hK _ _ key
  · refine wpList_append_sl w hgd s x t ho e i z size bytes ht hi hz hsize hby hzs v n cs own hs hown ⟨g, off, none⟩ m cap news hx hu.1 (fun j y hj => ?_) h1 h63 hbytes h
    have hadd : (⟨g, off, none⟩ : Addr).add j = ⟨g, off + j, none⟩ := by unfold Addr.add; split <;> simp_all
    rw [hadd, Sl.cell hu j (List.getElem?_eq_some_iff.1 hj).1]
    exact hj
end
end Go.Proofs.Ythgmdilfmeefiaa

namespace Go.Proofs.Ythgmdilfmeefiaa
set_option linter.all false
set_option linter.unusedSimpArgs false
set_option linter.unusedVariables false
open Go.RowKit

section
variable {P : Program}

theorem rowsIn_of {n l : Nat} {row : String} {args : Array Value} {w : World} {R : Value → World → Prop} (h : Rows P row args w R) : RowsIn (Fence.wide.inRound l) n P row args w R := by
  intro c cs _
  obtain ⟨v, w', hR, hs⟩ := h c cs
  exact ⟨v, w', hR, stepsIn_wide.2 hs⟩

theorem uponIn_of {n l : Nat} {o : Oper} {a : Act} {nx nx' : Act → World → Prop} {Q : Exit → Act → World → Prop} (hn : ∀ a w, nx a w → nx' a w) (r : Result Next) (h : o.upon P a nx Q r) : o.uponIn (Fence.wide.inRound l) n P a nx' Q r := by
  cases r with
  | ok x w' =>
    cases x with
    | enter f args =>
      refine ⟨fun h0 => by simp [Fence.wide] at h0, CallsIn.inRound l (callsIn_wide.2 (Calls.mono h ?_))⟩
      intro e w'' he
      cases e with
      | returned v => exact hn _ _ he
      | panicked c => exact he
      | outgrown => exact he
    | row row args => exact ⟨fun h0 => by simp [Fence.wide] at h0, rowsIn_of (Rows.mono h fun v w'' hv => hn _ _ hv)⟩
    | value v => exact hn _ _ h
    | skip => exact hn _ _ h
    | defer d => exact hn _ _ h
    | _ => exact h.elim
  | halt x w' =>
    cases x with
    | panic v => exact h
    | _ => exact h.elim

/-- Are there no defer statements? -/
def noDefers (l : List Oper) : Bool := l.all fun o => match o.op with | .defer _ => false | _ => true

theorem opIn_of {n l : Nat} {o : Oper} {a : Act} {w : World} {nx nx' : Act → World → Prop} {Q : Exit → Act → World → Prop} (hd : ∀ c, o.op ≠ .defer c) (hn : ∀ a w, nx a w → nx' a w) (h : o.wp P a w nx Q) :
    o.wpIn (Fence.wide.inRound l) n P a w nx' Q := by
  refine ⟨fun _ _ => trivial, ?_⟩
  rw [Fence.inRound_round, Oper.semAt_some l _ _ hd]
  exact uponIn_of hn _ h

theorem wpListIn_of {n l : Nat} {ops : Array Oper} {Q : Exit → Act → World → Prop} (hLO : ¬ LetsOut Q) : ∀ (rest : List Oper) (_ : noDefers rest = true) (a : Act) (w : World), wpList P ops Q rest a w → wpListIn (Fence.wide.inRound l) n P ops Q rest a w
  | [], _, _, _, h => h
  | o :: rest, hd, a, w, h => by
    have hd' : (match o.op with | .defer _ => false | _ => true) = true ∧ noDefers rest = true := by simpa [noDefers] using hd
    have ih := wpListIn_of (n := n) (l := l) (ops := ops) hLO rest hd'.2
    simp only [wpList] at h
    simp only [wpListIn]
    split
    · rename_i hw
      rw [if_pos hw] at h
      rcases h with h | h
      · exact opIn_of (fun c hc => by have := hd'.1; rw [hc] at this; simp at this) ih h
      · exact absurd h.2 hLO
    · rename_i hw
      rw [if_neg hw] at h
      exact ⟨fun _ _ => trivial, ih _ _ h⟩

/-- A region of a round, walked as outside of rounds. -/
theorem regionIn_of {n l id : Nat} {xs : List Oper} {Q : Exit → Act → World → Prop} {a : Act} {w : World} (hLO : ¬ LetsOut Q) (hd : noDefers xs = true) (h : wpList P xs.toArray Q xs a w) :
    (Code.region id xs.toArray false).wpIn (Fence.wide.inRound l) n P Q a w :=
  wpIn_region_lit (wpListIn_of hLO xs hd a w h)

/-- (In a fence:) an operation that yields a value. -/
theorem wpListIn_value {F : Fence} {n : Nat} {ops : Array Oper} {Q : Exit → Act → World → Prop} {a : Act} {w w' : World} {rest : List Oper} {o : Oper} {v : Value} (hg : o.guard = none) (hF : ∀ f, F.fn f)
    (hd : ∀ c, o.op ≠ .defer c) (hr : (execOp a.eval o).run P w = .ok (.value v) w') (h : wpListIn F n P ops Q rest (a.put o.dst v) w') : wpListIn F n P ops Q (o :: rest) a w := by
  refine wpListIn_plain hg fun K hK => ⟨fun f _ => hF f, ?_⟩
  rw [Oper.semAt_eq _ _ _ hd, hr]
  exact hK _ _ h
end

theorem Frm.putObj {B : Nat} {S : List Nat} {a w : World} (h : Frm B S a w) {g : Nat} (hp : g ∈ S ∨ B ≤ g) (o : Obj) : Frm B S a (w.putObj g o) := by
  refine ⟨h.os, h.tape, h.output, by rw [World.putObj_size]; exact h.size, fun k hk hn => ?_⟩
  rw [World.putObj_heap_other]
  · exact h.block k hk hn
  · rintro rfl
    rcases hp with hp | hp
    · exact hn hp
    · omega
theorem Frm.at_ {B : Nat} {S : List Nat} {a w : World} (h : Frm B S a w) {k : Nat} {o : Obj} (ho : a.heap[k]? = some o) (hk : k < B) (hn : k ∉ S) : w.heap[k]? = some o := (h.block k hk hn).trans ho

section
variable {P : Program}

/-- Of the blocks below B only those of S have turned; and none of those that are there from number z on. -/
structure KeepY (B : Nat) (S : List Nat) (z : Nat) (W W' : World) : Prop where
  frm : Frm B S W W'
  young : ∀ k, z ≤ k → k < W.heap.size → W'.heap[k]? = W.heap[k]?
theorem KeepY.trans {B : Nat} {S : List Nat} {z : Nat} {a b c : World} (h : KeepY B S z a b) (k : KeepY B S z b c) : KeepY B S z a c :=
  ⟨h.frm.trans k.frm, fun i hz hi => (k.young i hz (Nat.lt_of_lt_of_le hi h.frm.size)).trans (h.young i hz hi)⟩
theorem KeepY.mono {B B' : Nat} {S : List Nat} {z : Nat} {a b : World} (h : KeepY B S z a b) (hB : B' ≤ B) : KeepY B' S z a b := ⟨h.frm.mono hB (fun _ _ h => h), h.young⟩
theorem KeepY.putObj {B : Nat} {S : List Nat} {z : Nat} {a w : World} (h : KeepY B S z a w) {g : Nat} (hB : B ≤ g) (hg : g < z) (o : Obj) : KeepY B S z a (w.putObj g o) :=
  ⟨h.frm.putObj (.inr hB) o, fun k hz hk => (World.putObj_heap_other (by omega)).trans (h.young k hz hk)⟩
/-- What a round's body must leave. -/
def roundQ (w : World) (S0 : List Nat) (z : Nat) (J Jx : Nat → World → Prop) (cont : Nat → Bool) (i : Nat) (W : World) : Exit → Act → World → Prop
  | .normal, _, W' => KeepY (w.heap.size + 2) S0 z W W' ∧ cont i = true ∧ J (i + 1) W'
  | .ret, _, W' => KeepY (w.heap.size + 2) S0 z W W' ∧ cont i = false ∧ Jx i W'
  | _, _, _ => False

/-- THE LAW: the iterator changes blocks of ST (below the loop's start) and makes new ones; the body those of S0, and what it makes. -/
theorem wp_rangeFunc_ret {g : Operand} {ps : Array Tmp} {assign body : Code} {Q : Exit → Act → World → Prop} {a : Act} {w : World} {gf m : Nat} {lb : Array Value} (hg : a.eval g = .func (.func gf) #[] lb)
    (eg : ∀ args w, (callFunc gf args).run P w = .ok (.enter gf args) w) (encs : Nat → Array Value) (hps : ∀ i, (encs i).size = ps.size) (rn : Nat) (cont : Nat → Bool) (ST S0 : List Nat) (J Jx : Nat → World → Prop) (R : Option Nat → World → Prop)
    (hS0 : ∀ x ∈ S0, x < w.heap.size) (hST : ∀ x ∈ ST, x < w.heap.size)
    (hJ : ∀ i A B, w.heap.size + 2 ≤ A.heap.size → J i A → Frm A.heap.size ((w.heap.size + 1) :: ST) A B → J i B)
    (hJx : ∀ i A o, w.heap.size + 2 ≤ A.heap.size → Jx i A → Jx i (A.putObj (w.heap.size + 1) o))
    (hR : ∀ i A o, R i A → R i (A.putObj (w.heap.size + 1) o))
    (hiter : ∀ (J' Jx' : Nat → World → Prop) (W : World), Frm w.heap.size [] w W → w.heap.size + 2 ≤ W.heap.size →
      (∀ i A B, w.heap.size + 2 ≤ A.heap.size → J' i A → Frm A.heap.size ST A B → J' i B) →
      (∀ i A0 A, i < rn → w.heap.size + 2 ≤ A0.heap.size → J' i A0 → Frm A0.heap.size ST A0 A → YieldAt Fence.wide m P (w.heap.size + 1) (encs i) A fun e A' =>
        KeepY w.heap.size S0 A0.heap.size A A' ∧ ((cont i = true ∧ e = .returned (.bool true) ∧ J' (i + 1) A') ∨ (cont i = false ∧ e = .returned (.bool false) ∧ Jx' i A'))) →
      J' 0 W →
      CallsIn Fence.wide m P gf (#[.func (.yield (w.heap.size + 1)) #[] #[]] ++ lb) W fun e W' => (∃ v, e = .returned v) ∧ ((R none W' ∧ J' rn W') ∨ ∃ i, R (some i) W' ∧ Jx' i W'))
    (h0 : ∀ W, Frm w.heap.size [] w W → w.heap.size + 2 ≤ W.heap.size → J 0 W)
    (hround : ∀ i A0 W, i < rn → w.heap.size + 2 ≤ A0.heap.size → J i A0 → Frm A0.heap.size ST A0 W → J i W →
      assign.wpIn (Fence.wide.inRound (w.heap.size + 1)) m P (Exit.then (fun a₁ W₁ => KeepY (w.heap.size + 2) S0 A0.heap.size W W₁ ∧ ∀ o, body.wpIn (Fence.wide.inRound (w.heap.size + 1)) m P (roundQ w S0 A0.heap.size J Jx cont i (W₁.putObj (w.heap.size + 1) o)) a₁ (W₁.putObj (w.heap.size + 1) o)) (fun _ _ _ => False))
        { tmps := (ps.zip (encs i)).foldl (fun t (p, v) => t.setIfInBounds p v) a.tmps, defers := [] } W)
    (hdone : ∀ W, R none W → J rn W → W.heap[w.heap.size]? = some (.deferred (some [])) → Q .normal { a with defers := { target := .collected w.heap.size, args := #[] } :: a.defers } W)
    (hstop : ∀ i W, R (some i) W → Jx i W → W.heap[w.heap.size]? = some (.deferred (some [])) → Q .ret { a with defers := { target := .collected w.heap.size, args := #[] } :: a.defers } W) :
    (Code.rangeFunc g ps assign body).wpIn Fence.wide (m + 1) P Q a w := by
  refine wpIn_rangeFunc ?_
  intro fn hfn
  obtain ⟨rec, hrec⟩ : ∃ rec : LoopState → Option Code → Loop, rec = fun st pe => { state := st, pending := pe, fn, tmps := a.tmps, params := ps, assign, body, defers := w.heap.size } := ⟨_, rfl⟩
  obtain ⟨W1, hW1⟩ : ∃ W1, (w.alloc (.deferred (some []))).alloc (.loop (rec .ready none)) = W1 := ⟨_, rfl⟩
  have hL1 : W1.heap[w.heap.size + 1]? = some (.loop (rec .ready none)) := by
    rw [← hW1]; have := World.alloc_heap_new (w.alloc (.deferred (some []))) (.loop (rec .ready none)); rwa [World.size_alloc] at this
  have hK1 : W1.heap[w.heap.size]? = some (.deferred (some [])) := by
    rw [← hW1]; exact (Below.heap_alloc _ _ _ (by simp)).trans (World.alloc_heap_new w _)
  have hf1 : Frm w.heap.size [] w W1 := by
    rw [← hW1]; exact ((Frm.refl _ _ w).alloc (Nat.le_refl _) _).alloc (by simp) _
  have hs1 : w.heap.size + 2 ≤ W1.heap.size := by rw [← hW1]; simp
  have hS0L : w.heap.size + 1 ∉ S0 := fun h => by have := hS0 _ h; omega
  have hS0D : w.heap.size ∉ S0 := fun h => by have := hS0 _ h; omega
  have hSTL : w.heap.size + 1 ∉ ST := fun h => by have := hST _ h; omega
  have hSTD : w.heap.size ∉ ST := fun h => by have := hST _ h; omega
  refine ⟨w.heap.size + 1, [{ target := .collected w.heap.size, args := #[] }], W1, { target := .fn (.func gf) lb, args := #[.func (.yield (w.heap.size + 1)) #[] #[]] }, W1, gf,
    #[.func (.yield (w.heap.size + 1)) #[] #[]] ++ lb, W1, ?_, ?_, ?_, ?_, fun h => by simp [Fence.wide] at h, ?_⟩
  · rw [← hW1, hrec]; exact run_enterLoop_outer _ _ _ _ _
  · simp only [resolve, hg]
    simp [go_sem]
  · intro f' _; exact trivial
  · simp [invoke, go_sem, eg]
  · refine (hiter (fun i W => J i W ∧ W.heap[w.heap.size + 1]? = some (.loop (rec .ready none)) ∧ W.heap[w.heap.size]? = some (.deferred (some [])) ∧ w.heap.size + 2 ≤ W.heap.size)
      (fun i W => Jx i W ∧ W.heap[w.heap.size + 1]? = some (.loop (rec .done (some .ret))) ∧ W.heap[w.heap.size]? = some (.deferred (some [])) ∧ w.heap.size + 2 ≤ W.heap.size) W1 hf1 hs1 ?_ ?_ ⟨h0 W1 hf1 hs1, hL1, hK1, hs1⟩).mono ?_
    · rintro i A B hA ⟨hj, hl, hk, hz⟩ hf
      exact ⟨hJ i A B hA hj (hf.narrow fun k hk => List.mem_cons_of_mem _ hk), hf.at_ hl (by omega) hSTL, hf.at_ hk (by omega) hSTD, Nat.le_trans hz hf.size⟩
    · rintro i A0 W hi hz0 ⟨hj0, hl0, hk0, hz'⟩ hf0
      have hj : J i W := hJ i A0 W hz0 hj0 (hf0.narrow fun k hk => List.mem_cons_of_mem _ hk)
      have hl := hf0.at_ hl0 (by omega) hSTL
      have hk := hf0.at_ hk0 (by omega) hSTD
      have hz : w.heap.size + 2 ≤ W.heap.size := Nat.le_trans hz0 hf0.size
      have hy := run_yield (P := P) (args := encs i) hl (by rw [hrec]; exact hps i)
      rw [hrec] at hy
      refine ⟨fn, _, assign, body, hy, roundIn_of_wpIn trivial (wpIn_mono (hround i A0 W hi hz0 hj0 hf0 hj) ?_)⟩
      rintro e a1 W2 hp
      cases e with
      | normal =>
        obtain ⟨hy2, hbody⟩ := hp
        have hf2 := hy2.frm
        have hl2 := hf2.at_ hl (by omega) hS0L
        have hk2 := hf2.at_ hk (by omega) hS0D
        refine ⟨_, run_beginRound hl2 (by rw [hrec]), ?_⟩
        have hz2 : w.heap.size + 2 ≤ W2.heap.size := Nat.le_trans hz hf2.size
        refine wpIn_mono (hbody _) ?_
        have hl3 : (W2.putObj (w.heap.size + 1) (.loop { rec .ready none with state := .busy })).heap[w.heap.size + 1]? = some (.loop { rec .ready none with state := .busy }) := World.putObj_heap_same (by omega)
        have hk3 : (W2.putObj (w.heap.size + 1) (.loop { rec .ready none with state := .busy })).heap[w.heap.size]? = some (.deferred (some [])) := (World.putObj_heap_other (by omega)).trans hk2
        have hf3 : KeepY w.heap.size S0 A0.heap.size W (W2.putObj (w.heap.size + 1) (.loop { rec .ready none with state := .busy })) :=
          (hy2.mono (B' := w.heap.size) (by omega)).putObj (by omega) (by omega) _
        have fin : ∀ (jump : Option Code) (W3 : World), KeepY (w.heap.size + 2) S0 A0.heap.size (W2.putObj (w.heap.size + 1) (.loop { rec .ready none with state := .busy })) W3 →
            (Instr.endRound (w.heap.size + 1) jump).run P W3 = .ok (.bool jump.isNone) (W3.putObj (w.heap.size + 1) (.loop (rec (if jump.isNone then .ready else .done) jump))) ∧
            (W3.putObj (w.heap.size + 1) (.loop (rec (if jump.isNone then .ready else .done) jump))).heap[w.heap.size + 1]? = some (.loop (rec (if jump.isNone then .ready else .done) jump)) ∧
            (W3.putObj (w.heap.size + 1) (.loop (rec (if jump.isNone then .ready else .done) jump))).heap[w.heap.size]? = some (.deferred (some [])) ∧
            w.heap.size + 2 ≤ W3.heap.size ∧ KeepY w.heap.size S0 A0.heap.size W (W3.putObj (w.heap.size + 1) (.loop (rec (if jump.isNone then .ready else .done) jump))) := fun jump W3 hy4 => by
          have hf4 := hy4.frm
          have hl4 := hf4.at_ hl3 (by omega) hS0L
          have hk4 := hf4.at_ hk3 (by omega) hS0D
          have hz4 : w.heap.size + 2 ≤ W3.heap.size := by have := hf4.size; rw [World.putObj_size] at this; omega
          have := run_endRound (P := P) jump hl4
          rw [hrec] at this ⊢
          refine ⟨this, World.putObj_heap_same (by omega), (World.putObj_heap_other (by omega)).trans hk4, hz4, ?_⟩
          exact (hf3.trans (hy4.mono (B' := w.heap.size) (by omega))).putObj (by omega) (by omega) _
        rintro e a3 W3 hp
        cases e with
        | normal =>
          obtain ⟨hf4, hc, hj4⟩ := hp
          obtain ⟨hr, hl5, hk5, hz5, hf5⟩ := fin none W3 hf4
          exact ⟨_, _, hr, hf5, .inl ⟨hc, rfl, hJ _ _ _ hz5 hj4 ((Frm.refl _ _ W3).putObj (.inl (by simp)) _), hl5, hk5, by rw [World.putObj_size]; exact hz5⟩⟩
        | ret =>
          obtain ⟨hf4, hc, hj4⟩ := hp
          obtain ⟨hr, hl5, hk5, hz5, hf5⟩ := fin (some .ret) W3 hf4
          exact ⟨_, _, hr, hf5, .inr ⟨hc, rfl, hJx _ _ _ hz5 hj4, hl5, hk5, by rw [World.putObj_size]; exact hz5⟩⟩
        | exit id => exact hp.elim
        | goto t => exact hp.elim
        | panic ch => exact hp.elim
        | outgrown => exact hp.elim
      | exit id => exact hp.elim
      | goto t => exact hp.elim
      | ret => exact hp.elim
      | panic ch => exact hp.elim
      | outgrown => exact hp.elim
    · rintro e W2 ⟨⟨v, rfl⟩, (⟨hr, hj, hl, hk, hz⟩ | ⟨i, hr, hj, hl, hk, hz⟩)⟩
      · refine ⟨none, _, by have := run_endLoop (P := P) hl (by rw [hrec]; simp); rw [hrec] at this; exact this, ?_⟩
        exact hdone _ (hR _ _ _ hr) (hJ _ _ _ hz hj ((Frm.refl _ _ W2).putObj (.inl (by simp)) _)) ((World.putObj_heap_other (by omega)).trans hk)
      · refine ⟨some .ret, _, by have := run_endLoop (P := P) hl (by rw [hrec]; simp); rw [hrec] at this; exact this, ?_⟩
        exact wpIn_ret (hstop i _ (hR _ _ _ hr) (hJx _ _ _ hz hj) ((World.putObj_heap_other (by omega)).trans hk))
end
end Go.Proofs.Ythgmdilfmeefiaa

namespace Go.Proofs.Ythgmdilfmeefiaa
set_option linter.all false
set_option linter.unusedSimpArgs false
set_option linter.unusedVariables false
open Go.RowKit

/-- (A goal at which the walk stays.) -/
theorem hold {p : Prop} (h : ∀ q : Prop, (p ↔ q) → q) : p := h p Iff.rfl
/-- Is a number from one to another one? (A name that the walk does not open.) -/
def inB (n l m : Int) : Bool := decide (l ≤ n) && decide (n ≤ m)
theorem inB_iff {n l m : Int} : inB n l m = true ↔ l ≤ n ∧ n ≤ m := by simp [inB]
theorem inB_false {n l m : Int} : inB n l m = false ↔ ¬ (l ≤ n ∧ n ≤ m) := by rw [← inB_iff]; simp
theorem cell_lt {w : World} {a : Addr} {v : Value} (h : w.cell? a = some v) : a.block < w.heap.size := by
  unfold World.cell? at h
  split at h
  · rename_i c e f hh
    exact (Array.getElem?_eq_some_iff.1 hh).1
  · cases h
/-- A function that has a body. -/
structure Enters (g : FuncId) : Prop where
  out : ∀ (args : Array Value) (W : World), (callFunc g args).run Try.prog W = .ok (.enter g args) W
theorem enters {g : FuncId} {fn : Func} (hf : Try.prog.funcs[g]? = some fn) (hname : (fn.name == "runtime.NumGoroutine") = false) (hb : fn.body.isSome = true) : Enters g := by
  refine ⟨fun args W => ?_⟩
  obtain ⟨c, hc⟩ := Option.isSome_iff_exists.1 hb
  have h1 : fn.name ≠ "runtime.NumGoroutine" := by simpa using hname
  simp [callFunc, hf, h1, hc]
/-- A load, by what the memory answers. -/
theorem wpList_loadE {P : Program} {ops : Array Oper} {rest : List Oper} {o : Oper} {a : Act} {w : World} {Q : Exit → Act → World → Prop} (hgd : o.guard = none) {ty : TypeId} {x : Operand} (ho : o.op = .load ty x)
    {ad : Addr} {v : Value} (hx : a.eval x = .pointer (some ad)) (hl : (loadVar ty ad).run P w = .ok v w)
    (h : wpList P ops Q rest (a.put o.dst v) w) : wpList P ops Q (o :: rest) a w := by
  refine wpList_step fun K hK => ?_
  rw [if_pos (by simp [Region.wanted, hgd])]
  unfold Oper.wp
  have hr : (execOp a.eval o).run P w = .ok (.value v) w := by
    unfold execOp
    simp only [ho, hx, Instr.loadAt, Instr.sureAddr, Sem.run_bind, Sem.run_pure, Result.andThen_ok, hl]
  rw [hr]
  exact hK _ _ h
/-- The first place at which something holds. -/
def First (p : Nat → Bool) (len : Nat) (r : Int) : Prop := (r = -1 ∧ ∀ i, i < len → p i = false) ∨ ∃ i, i < len ∧ r = (i : Int) ∧ p i = true ∧ ∀ k, k < i → p k = false
theorem First.all {p : Nat → Bool} {len : Nat} {r : Int} (h : First (fun i => !(p i)) len r) : (!(decide (0 ≤ r))) = true ↔ ∀ i, i < len → p i = true := by
  rcases h with ⟨rfl, h⟩ | ⟨i, hi, rfl, h, _⟩
  · simp only [show ¬ (0 : Int) ≤ -1 by omega, decide_false, Bool.not_false, true_iff]
    intro i hi
    simpa using h i hi
  · have hd : decide (0 ≤ (i : Int)) = true := decide_eq_true (by omega)
    rw [hd]
    simp only [Bool.not_true, Bool.false_eq_true, false_iff]
    intro hall
    have := hall i hi
    simp [this] at h
theorem stop_ {p : Prop} (h : Stay (id p)) : p := stay h
/-- A store of a whole struct into a variable that has just been made. -/
theorem wpList_storeNew {P : Program} {ops : Array Oper} {rest : List Oper} {o : Oper} {a : Act} {w : World} {Q : Exit → Act → World → Prop} (hgd : o.guard = none) {ty : TypeId} {x y : Operand} (ho : o.op = .store ty x y)
    {T : Nat} {zs cs : List Value} (hx : a.eval x = .pointer (some ⟨w.heap.size, 0, none⟩)) (hy : a.eval y = .agg cs.toArray) (hl : zs.length = cs.length) (hi : (P.info? ty).map (·.size) = some cs.length)
    (h1 : ∀ v ∈ cs, v.oneCell' = true) (h : ∀ W', Frm w.heap.size [] w W' → Blk W' w.heap.size T cs → W'.heap.size = w.heap.size + 1 → wpList P ops Q rest (a.put o.dst undef) W') :
    wpList P ops Q (o :: rest) a (w.alloc (.cells zs.toArray T (0, 0))) := by
  have hb := Blk.new w T zs
  refine wpList_storeB hgd ho hb hx hy hl hi h1 ?_
  refine h _ ?_ (hb.row cs) (by simp [World.setRow])
  exact ((Frm.refl _ _ w).alloc (Nat.le_refl _) _).setRow (.inr (Nat.le_refl _)) _
/-- A box of ours, and what is below it, behind a call that turns nothing. -/
theorem boxNext {W w w1 : World} {b T : Nat} {cs : List Value} (h : Blk W b T cs ∧ Frm w.heap.size [] w W) (hf : Frm W.heap.size [] W w1) : Blk w1 b T cs ∧ Frm w.heap.size [] w w1 :=
  ⟨hf.blk h.1 h.1.lt (by simp), h.2.call hf h.2.size (by simp)⟩
/-- A slice of structs, that is read: n of them, of 'size' cells each; f: their cells. -/
structure Rw (w : World) (size : Nat) (ad : Option Addr) (b off n : Nat) (f : Nat → List Value) : Prop where
  ad : 0 < n → ad = some ⟨b, off, none⟩
  len : n ≤ maxLen
  at_ : ∀ i, i < n → ∀ k v, (f i)[k]? = some v → w.cell? ⟨b, off + i * size + k, none⟩ = some v
theorem Rw.frm {w w' : World} {size : Nat} {ad : Option Addr} {b off n : Nat} {f : Nat → List Value} {B : Nat} (h : Rw w size ad b off n f) (hf : Frm B [] w w') (hB : w.heap.size ≤ B) : Rw w' size ad b off n f := by
  refine ⟨h.ad, h.len, fun i hi k v hv => ?_⟩
  have h0 := h.at_ i hi k v hv
  have := cell_lt h0
  rw [hf.cell (by simp at this ⊢; omega) (by simp)]
  exact h0
theorem Rw.load {w : World} {size : Nat} {ad : Option Addr} {b off n : Nat} {f : Nat → List Value} (h : Rw w size ad b off n f) {P : Program} {ty : TypeId} {d : TypeDesc} (hu : P.underlying ty = some d) (hd : d.isRow = true)
    {i : Nat} (hi : i < n) (hk : (P.info? ty).map (·.size) = some (f i).length) : (loadVar ty ⟨b, off + i * size, none⟩).run P w = .ok (.agg (f i).toArray) w :=
  run_loadVar_mid w b (off + i * size) ty (f i) d (fun j v hv => by exact h.at_ i hi j v hv) hu hd hk
theorem yields_loadE {P : Program} {ops : Array Oper} {S : World → Prop} {o : Oper} {a : Act} (hgd : o.guard = none) {ty : TypeId} {x : Operand} (ho : o.op = .load ty x)
    {ad : Addr} {v : Value} (hx : a.eval x = .pointer (some ad)) (hl : ∀ w, S w → (loadVar ty ad).run P w = .ok v w) :
    YieldsIf P ops S o v a :=
  .inl ⟨by simp [Region.wanted, hgd], fun w hw => by
    unfold execOp
    simp only [ho, hx, Instr.loadAt, Instr.sureAddr, Sem.run_bind, Sem.run_pure, Result.andThen_ok, hl w hw]⟩
theorem yields_loadG {P : Program} {ops : Array Oper} {S : World → Prop} {o : Oper} {a : Act} (hw : Region.wanted o (yielded ops a.tmps) = true) {ty : TypeId} {x : Operand} (ho : o.op = .load ty x)
    {ad : Addr} {v : Value} (hx : a.eval x = .pointer (some ad)) (hl : ∀ w, S w → (loadVar ty ad).run P w = .ok v w) :
    YieldsIf P ops S o v a :=
  .inl ⟨hw, fun w hw => by
    unfold execOp
    simp only [ho, hx, Instr.loadAt, Instr.sureAddr, Sem.run_bind, Sem.run_pure, Result.andThen_ok, hl w hw]⟩
/-- A guarded load, by what the memory answers. -/
theorem wpList_loadGE {P : Program} {ops : Array Oper} {rest : List Oper} {o : Oper} {a : Act} {w : World} {Q : Exit → Act → World → Prop} (hw : Region.wanted o (yielded ops a.tmps) = true) {ty : TypeId} {x : Operand} (ho : o.op = .load ty x)
    {ad : Addr} {v : Value} (hx : a.eval x = .pointer (some ad)) (hl : (loadVar ty ad).run P w = .ok v w)
    (h : wpList P ops Q rest (a.put o.dst v) w) : wpList P ops Q (o :: rest) a w := by
  refine wpList_step fun K hK => ?_
  rw [if_pos hw]
  unfold Oper.wp
  have hr : (execOp a.eval o).run P w = .ok (.value v) w := by
    unfold execOp
    simp only [ho, hx, Instr.loadAt, Instr.sureAddr, Sem.run_bind, Sem.run_pure, Result.andThen_ok, hl]
  rw [hr]
  exact hK _ _ h
/-- A slice of structs, all of whose cells are known, is read. -/
theorem Sl.rw {w : World} {E size : Nat} {v : Value} {n : Nat} {own : Option Nat} {f : Nat → List Value} (h : Sl w E size v n ((List.range n).flatMap f) own) (hf : ∀ i, (f i).length = size) :
    ∃ ad b off cap, v = .slice ad n cap ∧ Rw w size ad b off n f := by
  have hlen : ∀ m, ((List.range m).flatMap f).length = m * size := fun m => by
    induction m with
    | zero => simp
    | succ m ih => rw [List.range_succ, List.flatMap_append, List.length_append, ih]; simp [hf, Nat.add_mul]
  have hat : ∀ m i k, i < m → k < size → ((List.range m).flatMap f)[i * size + k]? = (f i)[k]? := fun m => by
    induction m with
    | zero => intro i k hi; omega
    | succ m ih =>
      intro i k hi hk
      rw [List.range_succ, List.flatMap_append]
      by_cases e : i < m
      · have hlt : i * size + k < ((List.range m).flatMap f).length := by
          rw [hlen]
          have : (i + 1) * size ≤ m * size := Nat.mul_le_mul_right _ e
          rw [Nat.add_mul] at this
          omega
        rw [List.getElem?_append_left hlt]
        exact ih i k e hk
      · obtain rfl : i = m := by omega
        rw [List.getElem?_append_right (by rw [hlen]; omega), hlen]
        simp
  rcases h.2 with ⟨e, e2, _⟩ | ⟨b, off, cap, arr, e1, e2, e3, e4, e5, e6, e7⟩
  · subst e2
    exact ⟨none, 0, 0, 0, e, ⟨fun h => absurd h (by omega), Nat.zero_le _, fun i hi => absurd hi (by omega)⟩⟩
  · refine ⟨some ⟨b, off, none⟩, b, off, cap, e1, ⟨fun _ => rfl, Nat.le_trans e4 e5, fun i hi k v hv => ?_⟩⟩
    have hk : k < size := by have := (List.getElem?_eq_some_iff.1 hv).1; rw [hf] at this; exact this
    subst e1
    have hj : i * size + k < ((List.range n).flatMap f).length := by
      rw [hlen]
      have : (i + 1) * size ≤ n * size := Nat.mul_le_mul_right _ hi
      rw [Nat.add_mul] at this
      omega
    have := h.cell (i * size + k) hj
    rw [hat n i k hi hk, hv, ← Nat.add_assoc] at this
    exact this
/-- A slice of integers is read. -/
abbrev RwI (w : World) (ad : Option Addr) (b off n : Nat) (F : Nat → Int) : Prop := Rw w 1 ad b off n fun i => [.int .i64 (F i)]
theorem Rw.cellI {w : World} {ad : Option Addr} {b off n : Nat} {F : Nat → Int} (h : RwI w ad b off n F) {i : Nat} (hi : i < n) : w.cell? ⟨b, off + i, none⟩ = some (.int .i64 (F i)) := by
  have := h.at_ i hi 0 _ rfl
  simpa using this
theorem wrapUp {k n : Nat} (h : k < n) (hn : n ≤ maxLen) : IntKind.i64.wrap ((k : Int) + 1) = (k : Int) + 1 ∧ wrap64 ((k : Int) + 1) = (k : Int) + 1 := by
  have : n ≤ 9223372036854775807 := hn
  exact ⟨IntWalk.i64_in _ (by omega), IntWalk.wrap64_in _ (by omega)⟩
theorem meas_up {n j : Nat} (h : j < n) : n - ((j : Int) + 1).toNat < n - ((j : Int)).toNat := by omega
def intsC (l : List Nat) : List Value := l.map fun (n : Nat) => Value.int .i64 (n : Int)
theorem intsC_len (l : List Nat) : (intsC l).length = l.length := by simp [intsC]
theorem intsC_one (l : List Nat) : ∀ u ∈ intsC l, u.oneCell' = true := by
  intro u hu
  simp only [intsC, List.mem_map] at hu
  obtain ⟨n, _, rfl⟩ := hu
  rfl
theorem Sl.ints {w : World} {v : Value} {n : Nat} {l : List Nat} {own : Option Nat} (h : Sl w 3 1 v n (intsC l) own) : l.length = n ∧ ∃ ad b off cap, v = .slice ad n cap ∧ RwI w ad b off n fun i => (l.getD i 0 : Int) := by
  have hl : l.length = n := by have := h.1; rw [intsC_len] at this; omega
  refine ⟨hl, ?_⟩
  rcases h.2 with ⟨e, e2, _⟩ | ⟨b, off, cap, arr, e1, e2, e3, e4, e5, e6, e7⟩
  · subst e2
    exact ⟨none, 0, 0, 0, e, ⟨fun h => absurd h (by omega), Nat.zero_le _, fun i hi => absurd hi (by omega)⟩⟩
  · refine ⟨some ⟨b, off, none⟩, b, off, cap, e1, ⟨fun _ => rfl, Nat.le_trans e4 e5, fun i hi k v hv => ?_⟩⟩
    subst e1
    have hk : k = 0 := by have := (List.getElem?_eq_some_iff.1 hv).1; simp at this; omega
    subst hk
    have hc := h.cell i (by rw [intsC_len]; omega)
    simp only [Nat.mul_one, Nat.add_zero]
    rw [hc]
    simp only [intsC, List.getElem?_map, List.getElem?_eq_getElem (show i < l.length by omega), Option.map_some]
    rw [← hv]
    simp [List.getD_eq_getElem?_getD, List.getElem?_eq_getElem (show i < l.length by omega)]
def at0 (l : List Nat) (i : Nat) : Int := (l.getD i 0 : Int)
theorem ints_at0 {w : World} {v : Value} {n : Nat} {l : List Nat} {own : Option Nat} (h : Sl w 3 1 v n (intsC l) own) : ∃ ad b off cap, v = .slice ad n cap ∧ RwI w ad b off n (at0 l) := h.ints.2
theorem info_parts3 {i : TypeId} {z : Value} {s n : Nat} (h : (Try.prog.info? i).map (fun i => (i.zero, i.size, i.bytes)) = some (some z, s, n)) : ∃ i0, Try.prog.info? i = some i0 ∧ i0.zero = some z ∧ i0.size = s ∧ i0.bytes = n := by
  obtain ⟨i0, h0, h1⟩ := Option.map_eq_some_iff.1 h
  simp only [Prod.mk.injEq] at h1
  exact ⟨i0, h0, h1.1, h1.2.1, h1.2.2⟩
theorem keepY_of {B z : Nat} {S Sx : List Nat} {W W' : World} (h : Frm W.heap.size Sx W W') (hB : B ≤ W.heap.size) (h1 : ∀ x ∈ Sx, x < B → x ∈ S) (h2 : ∀ x ∈ Sx, x < z) : KeepY B S z W W' :=
  ⟨h.mono hB (fun k hk hm => h1 k hm hk), fun k hz hk => h.block k hk (fun hm => by have := h2 k hm; omega)⟩
def retOnly (Q : Exit → Act → World → Prop) : Exit → Act → World → Prop
  | .ret, a, w => Q .ret a w
  | _, _, _ => False
theorem retOnly_le {Q : Exit → Act → World → Prop} : ∀ e a w, retOnly Q e a w → Q e a w := fun e a w h => by
  cases e <;> first | exact h | exact h.elim
theorem namedCalls {P : Program} {f : FuncId} {args : Array Value} {w : World} {R : Ending → World → Prop} (h : ∀ W, W = w → Calls P f args W R) : Calls P f args w R := h w rfl
theorem noOut {K : Act → World → Prop} {Q : Exit → Act → World → Prop} (h : ¬ LetsOut Q) : ¬ LetsOut (Exit.then K Q) := fun ⟨a, w, hq⟩ => h ⟨a, w, hq⟩
theorem noOutB {id : Nat} {Q : Exit → Act → World → Prop} (h : ¬ LetsOut Q) : ¬ LetsOut (Exit.inBlock id Q) := fun ⟨a, w, hq⟩ => h ⟨a, w, hq⟩
theorem noOutR {w : World} {S0 : List Nat} {z : Nat} {J Jx : Nat → World → Prop} {cont : Nat → Bool} {i : Nat} {W : World} : ¬ LetsOut (roundQ w S0 z J Jx cont i W) := fun ⟨_, _, hq⟩ => hq
theorem noOutF : ¬ LetsOut (fun _ _ _ => False) := fun ⟨_, _, hq⟩ => hq
theorem run_min2 {P : Program} (p q : Int) (w : World) : (Builtin.min2 (.int .i64 p) (.int .i64 q)).run P w = .ok (.int .i64 (min p q)) w := by
  unfold Builtin.min2
  simp [go_sem, Int.min_def]
  by_cases h : q < p <;> simp_all <;> omega
theorem run_max2 {P : Program} (p q : Int) (w : World) : (Builtin.max2 (.int .i64 p) (.int .i64 q)).run P w = .ok (.int .i64 (max p q)) w := by
  unfold Builtin.max2
  simp [go_sem, Int.max_def]
  by_cases h : p < q <;> simp_all <;> omega
theorem run_min_ {P : Program} (p q : Int) (w : World) : (Builtin.min_ #[3, 3] 3 #[.int .i64 p, .int .i64 q]).run P w = .ok (.int .i64 (min p q)) w := by
  simp [Builtin.min_, run_min2]
theorem run_max_ {P : Program} (p q : Int) (w : World) : (Builtin.max_ #[3, 3] 3 #[.int .i64 p, .int .i64 q]).run P w = .ok (.int .i64 (max p q)) w := by
  simp [Builtin.max_, run_max2]
theorem Rw.frmS {w w' : World} {size : Nat} {ad : Option Addr} {b off n : Nat} {f : Nat → List Value} {S : List Nat} (h : Rw w size ad b off n f) (hf : Frm w.heap.size S w w') (hb : b ∉ S) : Rw w' size ad b off n f := by
  refine ⟨h.ad, h.len, fun i hi k v hv => ?_⟩
  have h0 := h.at_ i hi k v hv
  have := cell_lt h0
  rw [hf.cell (by simpa using this) (by simpa using hb)]
  exact h0
theorem wpListIn_loadE {P : Program} {F : Fence} {n : Nat} {ops : Array Oper} {Q : Exit → Act → World → Prop} {a : Act} {w : World} {rest : List Oper} {o : Oper} (hgd : o.guard = none) (hF : ∀ f, F.fn f) {ty : TypeId} {x : Operand} (ho : o.op = .load ty x)
    {ad : Addr} {v : Value} (hx : a.eval x = .pointer (some ad)) (hl : (loadVar ty ad).run P w = .ok v w) (h : wpListIn F n P ops Q rest (a.put o.dst v) w) : wpListIn F n P ops Q (o :: rest) a w :=
  wpListIn_value hgd hF (fun c hc => by rw [ho] at hc; cases hc) (by unfold execOp; simp only [ho, hx, Instr.loadAt, Instr.sureAddr, Sem.run_bind, Sem.run_pure, Result.andThen_ok, hl]) h
/-- What stands in a slice may be written. -/
theorem Sl.there {w : World} {E size : Nat} {n b off cap : Nat} {cs : List Value} {own : Option Nat} (h : Sl w E size (.slice (some ⟨b, off, none⟩) n cap) n cs own) : w.there b off (n * size) := fun j hj =>
  ⟨by rw [h.cell j (by rw [h.1]; exact hj), List.getElem?_eq_getElem (by rw [h.1]; exact hj)]; rfl, h.free (off + j)⟩
theorem there_part {w : World} {b off n m o : Nat} (h : w.there b off n) (hm : o + m ≤ n) : w.there b (off + o) m := fun j hj => by
  have := h (o + j) (by omega)
  rw [← Nat.add_assoc] at this
  exact this
theorem Frm.setCells {B : Nat} {S : List Nat} {a : World} (b : Nat) (hp : b ∈ S ∨ B ≤ b) : ∀ (vs : List Value) (o : Nat) (w : World), Frm B S a w → Frm B S a (w.setCells b o vs)
  | [], _, _, h => h
  | v :: vs, o, w, h => Frm.setCells b hp vs (o + 1) _ (h.setCell (p := ⟨b, o, none⟩) hp v)
theorem Frm.there {B : Nat} {S : List Nat} {w w' : World} (h : Frm B S w w') {b off n : Nat} (k : w.there b off n) (hp : b < B) (hn : b ∉ S) : w'.there b off n := fun j hj => by
  obtain ⟨h1, h2⟩ := k j hj
  refine ⟨by rw [h.cell (p := ⟨b, off + j, none⟩) hp hn]; exact h1, ?_⟩
  rw [← h2]
  simp only [World.frozen?]
  rw [h.block b hp hn]
theorem sl_buildEmpty (w : World) (E size : Nat) : Sl (w.alloc (Obj.cells #[] E)) E size (.slice (some ⟨w.heap.size, 0, none⟩) 0 0) 0 [] (some w.heap.size) :=
  ⟨by simp, .inr ⟨w.heap.size, 0, 0, _, rfl, rfl, heap_alloc_new w _, Nat.le_refl _, Nat.zero_le _, by simp, by simp⟩⟩
/-- A slice's place. -/
theorem Sl.place {w : World} {E size : Nat} {v : Value} {n : Nat} {cs : List Value} {own : Option Nat} (h : Sl w E size v n cs own) : ∃ a cap b off, v = .slice a n cap ∧ (0 < n → a = some ⟨b, off, none⟩) ∧ (0 < n → own = some b) ∧ w.there b off (n * size) := by
  rcases h.2 with ⟨e, e2, e3⟩ | ⟨b, off, cap, arr, e1, e2, _⟩
  · subst e e2
    exact ⟨none, 0, 0, 0, rfl, fun h => absurd h (by omega), fun h => absurd h (by omega), fun j hj => absurd hj (by omega)⟩
  · subst e1
    exact ⟨_, cap, b, off, rfl, fun _ => rfl, fun _ => e2, h.there⟩
theorem Sl.there_of {w : World} {E size : Nat} {a : Option Addr} {n b off cap : Nat} {cs : List Value} {own : Option Nat} (h : Sl w E size (.slice a n cap) n cs own) (ha : 0 < n → a = some ⟨b, off, none⟩) : w.there b off (n * size) := by
  rcases Nat.eq_zero_or_pos n with h0 | h0
  · subst h0
    intro j hj
    simp at hj
  · have := ha h0
    subst this
    exact h.there
theorem Sl.n_le {w : World} {E size : Nat} {v : Value} {n : Nat} {cs : List Value} {own : Option Nat} (h : Sl w E size v n cs own) : n ≤ maxLen := by
  rcases h.2 with ⟨_, e2, _⟩ | ⟨b, off, cap, arr, e1, e2, e3, e4, e5, _⟩
  · omega
  · omega
theorem Sl.ints0 {w : World} {a : Option Addr} {n cap : Nat} {l : List Nat} {own : Option Nat} (h : Sl w 3 1 (.slice a n cap) n (intsC l) own) : ∃ b off, RwI w a b off n (at0 l) := by
  obtain ⟨ad, b, off, c, e, hr⟩ := ints_at0 h
  cases e
  exact ⟨b, off, hr⟩
/-- A slice through stores into other slices. -/
theorem Sl.beside {w w' : World} {E size : Nat} {v : Value} {n : Nat} {cs : List Value} {own o2 : Option Nat} {B : Nat} (h : Sl w E size v n cs own) (hf : Frm B o2.toList w w') (hB : w.heap.size ≤ B) (hne : ∀ b, own = some b → o2 ≠ some b) : Sl w' E size v n cs own :=
  h.frm hf (fun b hb => Nat.lt_of_lt_of_le (h.lt b hb) hB) (fun b hb hm => hne b hb (by simpa using hm))
theorem info3x : (Try.prog.info? 3).map (fun i => (i.zero, i.size, i.bytes)) = some (some (.int .i64 0), 1, 8) := by kernel_rfl
theorem intsC_snoc (l : List Nat) (k : Nat) : intsC (l ++ [k]) = intsC l ++ [.int .i64 (k : Int)] := by simp [intsC]
theorem LeftL.runG {P : Program} {l : List Oper} {Q : Exit → Act → World → Prop} {S : World → Prop} {t : Nat} {done : List Nat} {a : Act} {w : World} (i : Nat) {o : Oper} {v : Value} (ho : l[i]? = some o) (hB : takeC l t done i = true) (hw : Region.wanted o (yielded l.toArray a.tmps) = true)
    (hQ : ∀ c a d v w, Q (.panic c) (a.put d v) w → Q (.panic c) a w) (hy : ∀ w, S w → (execOp a.eval o).run P w = .ok (.value v) w) (hS : S w)
    (h : ∀ K' : Act → Prop, (∀ a, LeftL P l Q S t (done ++ [i]) a w → K' a) → K' (a.put o.dst v)) : LeftL P l Q S t done a w :=
  LeftL.take i ho hB hQ (.inl ⟨hw, hy⟩) hS h
/-- The same, short. -/
theorem LeftL.tkF {P : Program} {l : List Oper} {Q : Exit → Act → World → Prop} {S : World → Prop} {t : Nat} {done : List Nat} {a : Act} {w : World} (i : Nat) {o : Oper} {v : Value} (ho : l[i]? = some o) (hS : S w)
    (hy : ∀ w, S w → (execOp a.eval o).run P w = .ok (.value v) w) (h : ∀ K' : Act → Prop, (∀ a, LeftL P l Q S t (done ++ [i]) a w → K' a) → K' (a.put o.dst v))
    (hB : takeC l t done i = true := by kernel_rfl) (hg : o.guard = none := by rfl) (hQ : ∀ c a d v w, Q (.panic c) (a.put d v) w → Q (.panic c) a w := by intro _ _ d _ _ h; cases d <;> exact h) : LeftL P l Q S t done a w :=
  LeftL.run i ho hB hg hQ hy hS h
theorem LeftL.tkG {P : Program} {l : List Oper} {Q : Exit → Act → World → Prop} {S : World → Prop} {t : Nat} {done : List Nat} {a : Act} {w : World} (i : Nat) {o : Oper} {v : Value} (ho : l[i]? = some o) (hS : S w)
    (hy : ∀ w, S w → (execOp a.eval o).run P w = .ok (.value v) w) (h : ∀ K' : Act → Prop, (∀ a, LeftL P l Q S t (done ++ [i]) a w → K' a) → K' (a.put o.dst v))
    (hB : takeC l t done i = true := by kernel_rfl) (hw : Region.wanted o (yielded l.toArray a.tmps) = true := by rfl) (hQ : ∀ c a d v w, Q (.panic c) (a.put d v) w → Q (.panic c) a w := by intro _ _ d _ _ h; cases d <;> exact h) : LeftL P l Q S t done a w :=
  LeftL.runG i ho hB hw hQ hy hS h
theorem LeftL.tkN {P : Program} {l : List Oper} {Q : Exit → Act → World → Prop} {S : World → Prop} {t : Nat} {done : List Nat} {a : Act} {w : World} (i : Nat) {o : Oper} (ho : l[i]? = some o) (hS : S w)
    (h : ∀ K' : Act → Prop, (∀ a, LeftL P l Q S t (done ++ [i]) a w → K' a) → K' (a.put o.dst undef))
    (hB : takeC l t done i = true := by kernel_rfl) (hQ : ∀ c a d v w, Q (.panic c) (a.put d v) w → Q (.panic c) a w := by intro _ _ d _ _ h; cases d <;> exact h)
    (hy : YieldsIf P l.toArray S o undef a := by exact .inr ⟨rfl, rfl⟩) : LeftL P l Q S t done a w :=
  LeftL.take i ho hB hQ hy hS h
end Go.Proofs.Ythgmdilfmeefiaa

namespace Go.Proofs.Ythgmdilfmeefiaa
set_option linter.all false
set_option linter.unusedSimpArgs false
set_option linter.unusedVariables false
open Go.RowKit

theorem LeftL.three {P : Program} {l : List Oper} {Q : Exit → Act → World → Prop} {S : World → Prop} {t : Nat} {done : List Nat} {a : Act} {w : World} (i i' i'' : Nat) {o o' o'' : Oper} (ho : l[i]? = some o) (ho' : l[i']? = some o') (ho'' : l[i'']? = some o'') (hB : (decide (done.length < l.length) && decide (Region.ready .any l.toArray (doneOf l done) = [i, i', i''])) = true)
    (h : wpList P l.toArray (Exit.then (fun a' w' => (i ≠ t → S w') ∧ LeftL P l Q S t (done ++ [i]) a' w') Q) [o] a w)
    (h' : wpList P l.toArray (Exit.then (fun a' w' => (i' ≠ t → S w') ∧ LeftL P l Q S t (done ++ [i']) a' w') Q) [o'] a w)
    (h'' : wpList P l.toArray (Exit.then (fun a' w' => (i'' ≠ t → S w') ∧ LeftL P l Q S t (done ++ [i'']) a' w') Q) [o''] a w) : LeftL P l Q S t done a w := by
  simp only [Bool.and_eq_true, decide_eq_true_eq] at hB
  unfold LeftL
  rw [show l.length - done.length = (l.length - (done.length + 1)) + 1 by omega]
  refine ⟨fun h0 => (by rw [hB.2] at h0; cases h0), fun j hj => ?_⟩
  rw [hB.2] at hj
  simp only [List.mem_cons, List.not_mem_nil, or_false] at hj
  rcases hj with rfl | rfl | rfl
  · exact LeftL.op ho hB.1 h
  · exact LeftL.op ho' hB.1 h'
  · exact LeftL.op ho'' hB.1 h''
theorem wpList_storeNew2 {P : Program} {ops : Array Oper} {rest : List Oper} {o o' : Oper} {a : Act} {w : World} {Q : Exit → Act → World → Prop} (hgd : o.guard = none) (hgd' : o'.guard = none) {ty : TypeId} {x y x' y' : Operand} (ho : o.op = .store ty x y) (ho' : o'.op = .store ty x' y') (hd : o.dst = none) (hd' : o'.dst = none)
    {T : Nat} {zs cs ds : List Value} (hx : a.eval x = .pointer (some ⟨w.heap.size, 0, none⟩)) (hy : a.eval y = .agg cs.toArray) (hx' : a.eval x' = .pointer (some ⟨w.heap.size + 1, 0, none⟩)) (hy' : a.eval y' = .agg ds.toArray)
    (hl : zs.length = cs.length) (hl' : zs.length = ds.length) (hi : (P.info? ty).map (·.size) = some zs.length) (h1 : ∀ v ∈ cs, v.oneCell' = true) (h1' : ∀ v ∈ ds, v.oneCell' = true)
    (h : ∀ W', Frm w.heap.size [] w W' → Blk W' w.heap.size T cs → Blk W' (w.heap.size + 1) T ds → wpList P ops Q rest a W') :
    wpList P ops Q (o :: o' :: rest) a ((w.alloc (.cells zs.toArray T (0, 0))).alloc (.cells zs.toArray T (0, 0))) := by
  have b1 := (Blk.new w T zs).alloc (.cells zs.toArray T (0, 0))
  have b2 : Blk ((w.alloc (.cells zs.toArray T (0, 0))).alloc (.cells zs.toArray T (0, 0))) (w.heap.size + 1) T zs := Blk.new' _ T zs (by simp)
  refine wpList_storeB hgd ho b1 hx hy hl (by rw [hi, hl]) h1 ?_
  have e1 : ∀ v : Value, a.put o.dst v = a := fun v => by rw [hd]; rfl
  have e2 : ∀ v : Value, a.put o'.dst v = a := fun v => by rw [hd']; rfl
  rw [e1]
  refine wpList_storeB hgd' ho' (b2.rowO (g := w.heap.size) (cs := cs.toArray) (by omega)) hx' hy' hl' (by rw [hi, hl']) h1' ?_
  rw [e2]
  refine h _ ?_ ((b1.row cs).rowO (g := w.heap.size + 1) (cs := ds.toArray) (by omega)) ((b2.rowO (g := w.heap.size) (cs := cs.toArray) (by omega)).row ds)
  exact ((((Frm.refl w.heap.size [] w).alloc (Nat.le_refl _) _).alloc (by simp) _).setRow (.inr (Nat.le_refl _)) _).setRow (.inr (Nat.le_succ _)) _
end Go.Proofs.Ythgmdilfmeefiaa
