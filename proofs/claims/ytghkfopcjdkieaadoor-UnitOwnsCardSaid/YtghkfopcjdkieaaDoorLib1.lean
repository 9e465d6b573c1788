/-
  GENERAL WORDS FOR ALL WALKS (over any program): a block known whole, a slice known by its cells, a frame of blocks that may have turned, and an append to a slice that may begin inside its row.
-/
import Derived.WalkKit
import Derived.WalkSpells
import Derived.WalkLawsBesides
import Derived.Lib.Hide
import Derived.Deep.QuietTactic
import Derived.BigQuiet
import Derived.StillTailTactics
namespace Go.Proofs.YtghkfopcjdkieaaDoor
set_option linter.all false
set_option linter.unusedSimpArgs false
set_option linter.unusedVariables false
open Go.RowKit

/-- Block b is known whole. -/
def Blk (w : World) (b : Nat) (T : TypeId) (cs : List Value) : Prop := w.heap[b]? = some (.cells cs.toArray T (0, 0))

theorem Blk.cell {w : World} {b T : Nat} {cs : List Value} (h : Blk w b T cs) (i : Nat) : w.cell? ⟨b, i, none⟩ = cs[i]? := by
  unfold Blk at h
  simp [World.cell?, h]
theorem Blk.free {w : World} {b T : Nat} {cs : List Value} (h : Blk w b T cs) (i : Nat) : w.frozen? ⟨b, i, none⟩ = false := by
  unfold Blk at h
  simp [World.frozen?, h]
theorem Blk.lt {w : World} {b T : Nat} {cs : List Value} (h : Blk w b T cs) : b < w.heap.size :=
  (Array.getElem?_eq_some_iff.1 h).1
theorem Blk.set {w : World} {b T : Nat} {cs : List Value} (h : Blk w b T cs) (i : Nat) (v : Value) : Blk (w.setCell ⟨b, i, none⟩ v) b T (cs.set i v) := by
  unfold Blk at h ⊢
  simp only [World.setCell, Array.getElem?_modify, if_pos, h]
  simp
theorem Blk.other {w : World} {b T : Nat} {cs : List Value} (h : Blk w b T cs) (a : Addr) (hne : a.block ≠ b) (v : Value) : Blk (w.setCell a v) b T cs := by
  unfold Blk at h ⊢
  rw [Below.heap_setCell w a v b (Ne.symm hne)]
  exact h
theorem Blk.alloc {w : World} {b T : Nat} {cs : List Value} (h : Blk w b T cs) (o : Obj) : Blk (w.alloc o) b T cs := by
  have hl := h.lt
  unfold Blk at h ⊢
  rw [Below.heap_alloc w o b hl]
  exact h
theorem Blk.new (w : World) (T : Nat) (cs : List Value) : Blk (w.alloc (.cells cs.toArray T (0, 0))) w.heap.size T cs :=
  heap_alloc_new w _
theorem Blk.new' (w : World) (T : Nat) (cs : List Value) {b : Nat} (hb : w.heap.size = b) : Blk (w.alloc (.cells cs.toArray T (0, 0))) b T cs := hb ▸ Blk.new w T cs
theorem Blk.drew {w : World} {b T : Nat} {cs : List Value} (h : Blk w b T cs) : Blk w.drew b T cs := h
theorem Blk.drewN {w : World} {b T n : Nat} {cs : List Value} (h : Blk w b T cs) : Blk (w.drewN n) b T cs := h

theorem news_alloc (w : World) (l : List Value) (E : TypeId) : ∀ j u, l[j]? = some u → (w.alloc (.cells l.toArray E)).cell? ((⟨w.heap.size, 0, none⟩ : Addr).add j) = some u := by
  intro j u h
  have hadd : (⟨w.heap.size, 0, none⟩ : Addr).add j = ⟨w.heap.size, j, none⟩ := by unfold Addr.add; split <;> simp_all
  rw [hadd, (Blk.new w E l).cell j]
  exact h

/-- THE FRAME: of the blocks below B, only those of S may have turned; the streams are as they were. -/
structure Frm (B : Nat) (S : List Nat) (w w' : World) : Prop where
  os : w'.os = w.os
  tape : w'.tape = w.tape
  output : w'.output = w.output
  size : w.heap.size ≤ w'.heap.size
  block : ∀ k, k < B → k ∉ S → w'.heap[k]? = w.heap[k]?

theorem Frm.refl (B : Nat) (S : List Nat) (w : World) : Frm B S w w := ⟨rfl, rfl, rfl, Nat.le_refl _, fun _ _ _ => rfl⟩
theorem Frm.trans {B : Nat} {S : List Nat} {a b c : World} (h : Frm B S a b) (k : Frm B S b c) : Frm B S a c :=
  ⟨k.os.trans h.os, k.tape.trans h.tape, k.output.trans h.output, Nat.le_trans h.size k.size, fun i hi hn => (k.block i hi hn).trans (h.block i hi hn)⟩
theorem Frm.mono {B B' : Nat} {S S' : List Nat} {a b : World} (h : Frm B S a b) (hB : B' ≤ B) (hS : ∀ k, k < B' → k ∈ S → k ∈ S') : Frm B' S' a b :=
  ⟨h.os, h.tape, h.output, h.size, fun k hk hn => h.block k (Nat.lt_of_lt_of_le hk hB) (fun hm => hn (hS k hk hm))⟩
/-- A callee's frame, told over its own start, joined to ours. -/
theorem Frm.call {B B' : Nat} {S S' : List Nat} {a b c : World} (h : Frm B S a b) (k : Frm B' S' b c) (hB : B ≤ B') (hS : ∀ x, x < B → x ∈ S' → x ∈ S) : Frm B S a c :=
  h.trans (k.mono hB hS)
theorem Frm.drew {B : Nat} {S : List Nat} {a w : World} (h : Frm B S a w) : Frm B S a w.drew := ⟨h.os, h.tape, h.output, h.size, h.block⟩
theorem Frm.drewN {B n : Nat} {S : List Nat} {a w : World} (h : Frm B S a w) : Frm B S a (w.drewN n) := ⟨h.os, h.tape, h.output, h.size, h.block⟩
theorem Frm.alloc {B : Nat} {S : List Nat} {a w : World} (h : Frm B S a w) (hB : B ≤ w.heap.size) (o : Obj) : Frm B S a (w.alloc o) :=
  h.trans ⟨rfl, rfl, rfl, by simp, fun k hk _ => Below.heap_alloc _ _ _ (by omega)⟩
theorem Frm.setCell {B : Nat} {S : List Nat} {a w : World} (h : Frm B S a w) {p : Addr} (hp : p.block ∈ S ∨ B ≤ p.block) (u : Value) : Frm B S a (w.setCell p u) :=
  h.trans ⟨rfl, rfl, rfl, by simp [World.setCell], fun k hk hn => Below.heap_setCell _ _ _ _ (by
    rintro rfl
    rcases hp with hp | hp
    · exact hn hp
    · omega)⟩
theorem Frm.setCell' {B : Nat} {S : List Nat} {a w : World} {p : Addr} {u : Value} (hp : p.block ∈ S ∨ B ≤ p.block) (h : Frm B S a w) : Frm B S a (w.setCell p u) := h.setCell hp u
theorem Frm.alloc' {B : Nat} {S : List Nat} {a w : World} {o : Obj} (hB : B ≤ w.heap.size) (h : Frm B S a w) : Frm B S a (w.alloc o) := h.alloc hB o
theorem Frm.setRow {B : Nat} {S : List Nat} {a w : World} (h : Frm B S a w) {g : Nat} (hp : g ∈ S ∨ B ≤ g) (cs : Array Value) : Frm B S a (w.setRow g cs) :=
  h.trans ⟨rfl, rfl, rfl, by simp [World.setRow], fun k hk hn => setRow_other _ _ _ _ (by
    rintro rfl
    rcases hp with hp | hp
    · exact hn hp
    · omega)⟩
theorem Frm.below {B : Nat} {w w' : World} (h : Frm B [] w w') : Below B w w' := ⟨h.os, h.tape, h.output, h.size, fun k hk => h.block k hk (by simp)⟩
theorem Frm.of_below {B : Nat} {S : List Nat} {w w' : World} (h : Below B w w') : Frm B S w w' := ⟨h.os, h.tape, h.output, h.size, fun k hk _ => h.block k hk⟩
theorem Frm.cell {B : Nat} {S : List Nat} {w w' : World} (h : Frm B S w w') {p : Addr} (hp : p.block < B) (hn : p.block ∉ S) : w'.cell? p = w.cell? p := World.cell?_of_block (w := w) (h.block p.block hp hn)
theorem Frm.blk {B : Nat} {S : List Nat} {w w' : World} (h : Frm B S w w') {b T : Nat} {cs : List Value} (k : Blk w b T cs) (hp : b < B) (hn : b ∉ S) : Blk w' b T cs := by
  unfold Blk at k ⊢
  rw [h.block b hp hn]
  exact k
theorem Frm.narrow {B : Nat} {S S' : List Nat} {a b : World} (h : Frm B S a b) (hS : ∀ k, k ∈ S → k ∈ S') : Frm B S' a b := h.mono (Nat.le_refl _) (fun k _ => hS k)

/-- A SLICE KNOWN BY ITS CELLS: n elements of 'size' cells each, 'cs' all of them; it may begin inside its row; 'own': the row's block. -/
def Sl (w : World) (E size : Nat) (v : Value) (n : Nat) (cs : List Value) (own : Option Nat) : Prop :=
  cs.length = n * size ∧
  ((v = .slice none 0 0 ∧ n = 0 ∧ own = none) ∨
   ∃ b off cap arr, v = .slice (some ⟨b, off, none⟩) n cap ∧ own = some b ∧ w.heap[b]? = some (.cells arr E (0, 0)) ∧ n ≤ cap ∧ cap ≤ maxLen ∧
     off + cap * size ≤ arr.size ∧ (arr.toList.drop off).take (n * size) = cs)

section
variable {w : World} {E size : Nat} {v : Value} {n : Nat} {cs : List Value} {own : Option Nat}
theorem Sl.nil (w : World) (E size : Nat) : Sl w E size (.slice none 0 0) 0 [] none := ⟨by simp, .inl ⟨rfl, rfl, rfl⟩⟩
theorem Sl.lt (h : Sl w E size v n cs own) : ∀ b, own = some b → b < w.heap.size := by
  intro b hb
  rcases h.2 with ⟨_, _, h0⟩ | ⟨b', off, cap, arr, _, h0, hh, _⟩
  · simp [h0] at hb
  · rw [h0] at hb
    cases hb
    exact (Array.getElem?_eq_some_iff.1 hh).1
theorem Sl.kept {w' : World} (h : Sl w E size v n cs own) (hk : ∀ b, own = some b → w'.heap[b]? = w.heap[b]?) : Sl w' E size v n cs own := by
  refine ⟨h.1, ?_⟩
  rcases h.2 with h0 | ⟨b, off, cap, arr, e1, e2, e3, e4⟩
  · exact .inl h0
  · exact .inr ⟨b, off, cap, arr, e1, e2, (hk b e2).trans e3, e4⟩
theorem Sl.frm {w' : World} {B : Nat} {S : List Nat} (h : Sl w E size v n cs own) (hf : Frm B S w w') (hlt : ∀ b, own = some b → b < B) (hn : ∀ b, own = some b → b ∉ S) : Sl w' E size v n cs own :=
  h.kept fun b hb => hf.block b (hlt b hb) (hn b hb)
theorem Sl.alloc (h : Sl w E size v n cs own) (o : Obj) : Sl (w.alloc o) E size v n cs own :=
  h.kept fun b hb => Below.heap_alloc w o b (h.lt b hb)
theorem Sl.drew (h : Sl w E size v n cs own) : Sl w.drew E size v n cs own := h.kept fun _ _ => rfl
theorem Sl.setCell (h : Sl w E size v n cs own) (a : Addr) (u : Value) (hn : ∀ b, own = some b → a.block ≠ b) : Sl (w.setCell a u) E size v n cs own :=
  h.kept fun b hb => Below.heap_setCell w a u b (fun e => hn b hb e.symm)
/-- It is a slice value. -/
theorem Sl.form (h : Sl w E size v n cs own) : ∃ a cap, v = .slice a n cap := by
  rcases h.2 with ⟨e, e2, _⟩ | ⟨b, off, cap, arr, e, _⟩
  · subst e2; exact ⟨_, _, e⟩
  · exact ⟨_, _, e⟩
/-- Its cells. -/
theorem Sl.cell {b off cap : Nat} (h : Sl w E size (.slice (some ⟨b, off, none⟩) n cap) n cs own) (j : Nat) (hj : j < cs.length) : w.cell? ⟨b, off + j, none⟩ = cs[j]? := by
  rcases h.2 with ⟨e, _⟩ | ⟨b', off', cap', arr, e1, e2, e3, e4, e5, e6, e7⟩
  · cases e
  · cases e1
    simp only [World.cell?, e3, Option.isSome_none, Bool.false_eq_true, if_false]
    rw [← e7, List.getElem?_take, if_pos (by rw [← h.1]; exact hj), List.getElem?_drop, Array.getElem?_toList]
theorem Sl.free {b off cap : Nat} (h : Sl w E size (.slice (some ⟨b, off, none⟩) n cap) n cs own) (j : Nat) : w.frozen? ⟨b, j, none⟩ = false := by
  rcases h.2 with ⟨e, _⟩ | ⟨b', off', cap', arr, e1, e2, e3, e4⟩
  · cases e
  · cases e1
    simp [World.frozen?, e3]
theorem Sl.pos (h : Sl w E size v n cs own) (hn : 0 < n) : ∃ b off cap, v = .slice (some ⟨b, off, none⟩) n cap ∧ own = some b ∧ n ≤ cap ∧ cap ≤ maxLen := by
  rcases h.2 with ⟨_, e, _⟩ | ⟨b, off, cap, arr, e1, e2, e3, e4, e5, _⟩
  · omega
  · exact ⟨b, off, cap, e1, e2, e4, e5⟩
end

theorem take_drop_set {α : Type} (l : List α) (o k : Nat) (news : List α) (h : o + k + news.length ≤ l.length) :
    ((l.take (o + k) ++ news ++ l.drop (o + k + news.length)).drop o).take (k + news.length) = (l.drop o).take k ++ news := by
  apply List.ext_getElem?
  intro i
  simp only [List.getElem?_take, List.getElem?_drop, List.getElem?_append, List.length_take, List.length_append, List.length_drop]
  rw [Nat.min_eq_left (by omega), Nat.min_eq_left (by omega)]
  by_cases h1 : i < k
  · rw [if_pos (by omega), if_pos (by omega), if_pos (by omega), if_pos (by omega), if_pos (by omega), if_pos (by omega)]
  · by_cases h2 : i < k + news.length
    · rw [if_pos (by omega), if_pos (by omega), if_neg (by omega), if_neg (by omega)]
      congr 1
      omega
    · rw [if_neg (by omega), if_neg (by omega), List.getElem?_eq_none (by omega)]

section
variable {P : Program} (w : World)
/-- APPEND TO SUCH A SLICE: it grows in its row, or into a new one. -/
theorem run_append_sl (t ty e : TypeId) (i : TypeInfo) (z : Value) (size bytes : Nat) (ht : P.underlying t = some (.slice e)) (hi : P.info? e = some i) (hz : i.zero = some z)
    (hsize : i.size = size) (hby : i.bytes = bytes) (hzs : z.cells.size = size)
    (v : Value) (n : Nat) (cs : List Value) (own : Option Nat) (hown : Sl w e size v n cs own)
    (a : Addr) (m c : Nat) (news : List Value) (hl : news.length = m * size) (hnews : ∀ j u, news[j]? = some u → w.cell? (a.add j) = some u) (h1 : ∀ u ∈ news, u.oneCell' = true)
    (h63 : n + m ≤ maxLen) (hbytes : (n + m) * bytes ≤ 140737488355328) :
    ∃ v' w' own', (Builtin.append_ #[t, t] ty #[v, .slice (some a) m c]).run P w = .ok v' w' ∧ Sl w' e size v' (n + m) (cs ++ news) own' ∧ Frm w.heap.size own.toList w w' ∧
      (own' = own ∨ ∃ g, own' = some g ∧ w.heap.size ≤ g) := by
  subst hsize
  subst hby
  have hsmall : n + m ≤ 9223372036854775807 := by simp only [maxLen] at h63; omega
  have hlen : (cs ++ news).length = (n + m) * i.size := by rw [List.length_append, hown.1, hl, Nat.add_mul]
  have grown : ∀ (old : Nat), old < n + m →
      Sl (w.drew.alloc (.cells (cs.toArray ++ news.toArray ++ Builtin.zeroCells z.cells (grownCap w (n + m) old e - (n + m))) e)) e i.size
        (.slice (some ⟨w.heap.size, 0, none⟩) (n + m) (grownCap w (n + m) old e)) (n + m) (cs ++ news) (some w.heap.size) ∧
      Frm w.heap.size own.toList w (w.drew.alloc (.cells (cs.toArray ++ news.toArray ++ Builtin.zeroCells z.cells (grownCap w (n + m) old e - (n + m))) e)) := by
    intro old ho
    have hge := grownCap_ge w (n + m) old e
    have hcm : grownCap w (n + m) old e ≤ maxLen := grownCap_le_maxLen w (n + m) old e h63
    refine ⟨⟨hlen, .inr ⟨w.heap.size, 0, _, _, rfl, rfl, heap_alloc_new w.drew _, hge, hcm, ?_, ?_⟩⟩, ((Frm.refl _ _ w).drew).alloc (Nat.le_refl _) _⟩
    · simp only [Array.size_append, List.size_toArray, size_zeroCells, hzs, hown.1, hl, ← Nat.add_mul, Nat.zero_add]
      exact Nat.le_of_eq (by congr 1; omega)
    · simp only [Array.toList_append, List.append_assoc, List.drop_zero]
      rw [← List.append_assoc, ← hlen]
      exact List.take_left
  rcases hown.2 with ⟨rfl, rfl, rfl⟩ | ⟨g, off, cap, cur, rfl, rfl, hg, hnc, hcm, hcs, htake⟩
  · have hx : cs = [] := List.eq_nil_of_length_eq_zero (by simpa using hown.1)
    subst hx
    by_cases hm : m = 0
    · subst hm
      have hn : news = [] := List.eq_nil_of_length_eq_zero (by simpa using hl)
      subst hn
      refine ⟨.slice none 0 0, w, none, ?_, Sl.nil w e i.size, Frm.refl _ _ _, .inl rfl⟩
      simp [Builtin.append_, run_underlying ht, sizeOf, typeInfo, hi, Builtin.lenOf, Builtin.firstCells, loadCells, loadCellsFrom]
    · have hr := run_append_nil (P := P) w t ty e i z ht hi hz a m c news hl hnews (by omega) (by omega) (by have hb := hbytes; simp only [Nat.zero_add] at hb; omega)
      have hgr := grown 0 (by omega)
      simp only [Nat.zero_add, List.nil_append, Array.empty_append] at hgr ⊢
      exact ⟨_, _, _, hr, hgr.1, hgr.2, .inr ⟨_, rfl, Nat.le_refl _⟩⟩
  · by_cases hroom : n + m ≤ cap
    · have hle : (n + m) * i.size ≤ cap * i.size := Nat.mul_le_mul_right _ hroom
      rw [Nat.add_mul] at hle
      have hfit : off + n * i.size + news.length ≤ cur.size := by rw [hl]; omega
      have hf := run_firstCells_some (P := P) w i.size m a m c news hl hnews
      have hst := run_storeCells_at P g (off + n * i.size) e news 0 cur w hg (by simpa using hfit) h1
      simp only [Nat.add_zero] at hst
      have hadd : (⟨g, off, none⟩ : Addr).add (n * i.size) = ⟨g, off + n * i.size, none⟩ := by unfold Addr.add; split <;> simp_all
      refine ⟨.slice (some ⟨g, off, none⟩) (n + m) cap, w.setRow g (cur.toList.take (off + n * i.size) ++ news ++ cur.toList.drop (off + n * i.size + news.length)).toArray, some g, ?_, ⟨hlen, .inr ⟨g, off, cap, _, rfl, rfl, setRow_heap w g cur _ e _ hg, hroom, hcm, ?_, ?_⟩⟩, (Frm.refl _ _ w).setRow (.inl (by simp)) _, .inl rfl⟩
      · simp [Builtin.append_, run_underlying ht, sizeOf, typeInfo, hi, Builtin.lenOf, hroom, hf, hadd, hst]
      · simp only [List.size_toArray, List.length_append, List.length_take, List.length_drop, Array.length_toList]
        omega
      · rw [← htake]
        have := take_drop_set cur.toList off (n * i.size) news (by simpa using hfit)
        rw [hl, ← Nat.add_mul] at this
        rw [hl]
        exact this
    · have holds : ∀ j u, cs[j]? = some u → w.cell? ((⟨g, off, none⟩ : Addr).add j) = some u := by
        intro j u hu
        have hadd : (⟨g, off, none⟩ : Addr).add j = ⟨g, off + j, none⟩ := by unfold Addr.add; split <;> simp_all
        rw [hadd, Sl.cell hown j (List.getElem?_eq_some_iff.1 hu).1]
        exact hu
      have hr := run_append_grow (P := P) w t ty e i z ht hi hz ⟨g, off, none⟩ n cap cs hown.1 holds a m c news hl hnews (by omega) (by omega) (growslice_fits (by omega) hbytes)
      have hgr := grown cap (by omega)
      exact ⟨_, _, _, hr, hgr.1, hgr.2, .inr ⟨_, rfl, Nat.le_refl _⟩⟩

theorem wpList_append_sl {ops : Array Oper} {rest : List Oper} {o : Oper} {a : Act} {Q : Exit → Act → World → Prop} (hgd : o.guard = none) (s x : Operand) (t : TypeId)
    (ho : o.op = .call { callee := .builtin .append, args := #[s, x], argTypes := #[t, t] })
    (e : TypeId) (i : TypeInfo) (z : Value) (size bytes : Nat) (ht : P.underlying t = some (.slice e)) (hi : P.info? e = some i) (hz : i.zero = some z)
    (hsize : i.size = size) (hby : i.bytes = bytes) (hzs : z.cells.size = size)
    (v : Value) (n : Nat) (cs : List Value) (own : Option Nat) (hs : a.eval s = v) (hown : Sl w e size v n cs own)
    (ad : Addr) (m c : Nat) (news : List Value) (hx : a.eval x = .slice (some ad) m c) (hl : news.length = m * size) (hnews : ∀ j u, news[j]? = some u → w.cell? (ad.add j) = some u) (h1 : ∀ u ∈ news, u.oneCell' = true)
    (h63 : n + m ≤ maxLen) (hbytes : (n + m) * bytes ≤ 140737488355328)
    (h : ∀ v' w' own', Sl w' e size v' (n + m) (cs ++ news) own' → Frm w.heap.size own.toList w w' → (own' = own ∨ ∃ g, own' = some g ∧ w.heap.size ≤ g) → wpList P ops Q rest (a.put o.dst v') w') : wpList P ops Q (o :: rest) a w := by
  obtain ⟨v', w', own', hr, h2, h3, h4⟩ := run_append_sl (P := P) w t o.type e i z size bytes ht hi hz hsize hby hzs v n cs own hown ad m c news hl hnews h1 h63 hbytes
  have key := h v' w' own' h2 h3 h4
  refine wpList_step fun K hK => ?_
  rw [if_pos (by simp [Region.wanted, hgd])]
  unfold Oper.wp
  cases o with
  | mk dst op type pos after guard =>
    dsimp only at ho hgd hr key ⊢
    subst ho
    rw [BigFrame.execOp_builtin, BigFrame.builtin_append]
    have ha : (#[s, x] : Array Operand).map a.eval = #[v, .slice (some ad) m c] := by simp [hs, hx]
    rw [ha]
    have hrun : (do pure (Next.value (← Builtin.append_ #[t, t] type #[v, .slice (some ad) m c])) : Sem Next).run P w = .ok (.value v') w' := by
      simp [hr]
    rw [hrun]
    exact hK _ _ key
end
end Go.Proofs.YtghkfopcjdkieaaDoor
