/-
  The nodes' Ask, Return and Hear.
-/
import Derived.Test.YthmladcepkdheaaNode
namespace Go.Proofs.Ythmladcepkdheaa
open Go.RowKit

/-- A NODE, WHOLE: its block b, its asks, and the block that holds these. -/
structure NodeAt (w : World) (b : Nat) (now number term end_ last : Int) (l : List (Int × Int)) (own : Option Nat) : Prop where
  ex : ∃ asks, Blk w b 96 (nodeCells now number term end_ last asks) ∧ Sl w 110 2 asks l.length (pairCells l) own
  ne : own ≠ some b

/-- The blocks of a node. -/
def nodeFoot (b : Nat) (own : Option Nat) : List Nat := b :: own.toList

theorem NodeAt.lt {w : World} {b : Nat} {now number term end_ last : Int} {l : List (Int × Int)} {own : Option Nat} (h : NodeAt w b now number term end_ last l own) : ∀ x ∈ nodeFoot b own, x < w.heap.size := by
  obtain ⟨⟨asks, hb, hs⟩, _⟩ := h
  intro x hx
  rcases List.mem_cons.1 hx with rfl | hx
  · exact hb.lt
  · exact hs.lt x (by simpa using hx)
theorem NodeAt.frm {w w' : World} {b B : Nat} {S : List Nat} {now number term end_ last : Int} {l : List (Int × Int)} {own : Option Nat} (h : NodeAt w b now number term end_ last l own) (hf : Frm B S w w')
    (hB : ∀ x ∈ nodeFoot b own, x < B ∧ x ∉ S) : NodeAt w' b now number term end_ last l own := by
  obtain ⟨⟨asks, hb, hs⟩, hn⟩ := h
  have h1 := hB b (by simp [nodeFoot])
  exact ⟨⟨asks, hf.blk hb h1.1 h1.2, hs.frm hf (fun c hc => (hB c (by simp [nodeFoot, hc])).1) (fun c hc => (hB c (by simp [nodeFoot, hc])).2)⟩, hn⟩

set_option maxRecDepth 100000 in
set_option maxHeartbeats 400000 in
theorem add_any (b : Nat) (x y : Int) (w : World) {now number term end_ last : Int} {asks : Value} {n : Nat} {cs : List Value} {own : Option Nat}
    (h : Blk w b 96 (nodeCells now number term end_ last asks)) (hs : Sl w 110 2 asks n cs own) (hne : own ≠ some b) (hn : n ≤ 100000) :
    Calls Try.prog 49 #[.pointer (some ⟨b, 6, none⟩), .int .i64 x, .int .i64 y] w fun e w' => e = .returned (.tuple #[]) ∧
      ∃ asks' own', Blk w' b 96 (nodeCells now number term end_ last asks') ∧ Sl w' 110 2 asks' (n + 1) (cs ++ [.int .i64 x, .int .i64 y]) own' ∧
        Frm w.heap.size (nodeFoot b own) w w' ∧ (own' = own ∨ ∃ g, own' = some g ∧ w.heap.size ≤ g) := by
  obtain ⟨h0, h1, h2, h3, h4, h5, h6, f0, f4, f5, f6⟩ := node_cells h
  obtain ⟨i0, hi, hz0, hz1, hz2⟩ := info_parts info110
  have H := Lib.hid h
  have HS := Lib.hid hs
  have HN := Lib.hid hne
  have HB := Lib.hid hn
  have HI := Lib.hid hi
  have HZ0 := Lib.hid hz0
  have HZ1 := Lib.hid hz1
  have HZ2 := Lib.hid hz2
  clear hz2 hz1 hz0 hi hn hne hs h
  clear h0 h1 h2 h3 h4 h5 f0 f4 f5
  go_enter Try.func49, Try.ntmps49
  go_wp2_with (at_builtin; refine wpList_append_sl _ rfl (.tmp 10) (.tmp 14) 92 rfl 110 i0 _ 2 16 Try.underlying92 HI.out HZ0.out HZ1.out HZ2.out rfl asks n cs own rfl (HS.out.alloc _) ⟨w.heap.size, 0, none⟩ 1 1 [.int .i64 x, .int .i64 y] rfl rfl (news_alloc _ _ _) (by simp [Value.oneCell']) (by have := HB.out; unfold maxLen; omega) (by have := HB.out; omega) ?_; intro v1 w1 own1 hs1 hf1 ho1; obtain ⟨ad1, cp1, rfl⟩ := hs1.form; have HS1 := Lib.hid hs1; have HF1 := Lib.hid hf1; have HO1 := Lib.hid ho1; have H1 := Lib.hid (hf1.blk (H.out.alloc _) (by have := H.out.lt; simp; omega) (by have := HN.out; simpa using this)); clear hs1 hf1 ho1; have g6 := H1.out.cell 6; have k6 := H1.out.free 6; simp only [nodeCells, List.getElem?_cons_succ, List.getElem?_cons_zero] at g6)
  go_end0
  have hlt := H.out.lt
  have e : (nodeCells now number term end_ last asks).set 6 (.slice ad1 (n + 1) cp1) = nodeCells now number term end_ last (.slice ad1 (n + 1) cp1) := rfl
  refine ⟨rfl, .slice ad1 (n + 1) cp1, own1, e ▸ H1.out.set 6 _, HS1.out.setCell _ _ ?_, ?_, ?_⟩
  · intro c hc
    rcases HO1.out with h | ⟨g, h, hg⟩
    · have := HN.out; rw [← h, hc] at this; intro e; exact this (by rw [← e])
    · rw [hc] at h; cases h; simp at hg ⊢; omega
  · exact (((Frm.refl _ _ w).alloc (Nat.le_refl _) _).call HF1.out (by simp) (by simp +contextual [nodeFoot])).setCell (by simp [nodeFoot]) _
  · rcases HO1.out with h | ⟨g, h, hg⟩
    · exact .inl h
    · exact .inr ⟨g, h, by simp at hg; omega⟩

section
variable {now number term end_ last : Int} {l : List (Int × Int)} {own : Option Nat}

set_option maxRecDepth 100000 in
set_option maxHeartbeats 400000 in
/-- 'Ask', where there is room. -/
theorem nodeAsk (b : Nat) (w : World) (h : NodeAt w b now number term end_ last l own) (hl : l.length ≤ 100000) (h0 : 0 ≤ last) (h1 : last ≤ 100000) :
    Calls Try.prog 17 #[.pointer (some ⟨b, 0, none⟩)] w fun e w' => e = .returned (.tuple #[.agg #[.int .i64 1, .int .i64 number, .int .i64 (last + 1)], .int .i64 0]) ∧
      ∃ own', NodeAt w' b now number term end_ (last + 1) (l ++ [(last + 1, now)]) own' ∧ Frm w.heap.size (nodeFoot b own) w w' ∧ (own' = own ∨ ∃ g, own' = some g ∧ w.heap.size ≤ g) := by
  obtain ⟨⟨asks, hb, hs⟩, hne⟩ := h
  obtain ⟨c0, c1, c2, c3, c4, c5, c6, f0, f4, f5, f6⟩ := node_cells hb
  have hlt := hb.lt
  have hbne : w.heap.size ≠ b := by omega
  have H := Lib.hid hb
  have HS := Lib.hid hs
  have HNE := Lib.hid hne
  have HL := Lib.hid hl
  clear hl hne hs hb
  clear c1 c3 c4 c6 f0 f4 f6
  have t1 : (last == 1099511627776) = false := by simp; omega
  go_enter Try.func17, Try.ntmps17
  go_wp2_with fail
  refine (nodeIs _ _ (H.out.alloc _)).mono ?_; rintro e w' ⟨rfl, rfl⟩
  go_wp2_with fail
  have H5 := Lib.hid (show Blk ((w.setCell ⟨b, 5, none⟩ (.int .i64 (last + 1))).alloc (.cells #[.int .i64 0, .int .i64 0, .int .i64 0] 41)) b 96 (nodeCells now number term end_ (last + 1) asks) from (H.out.set 5 _).alloc _)
  have HS5 := Lib.hid ((HS.out.setCell ⟨b, 5, none⟩ (.int .i64 (last + 1)) (fun c hc => by have := HNE.out; rw [hc] at this; simp at this ⊢; omega)).alloc (.cells #[.int .i64 0, .int .i64 0, .int .i64 0] 41))
  refine wp_region_left (by kernel_rfl) ?_
  refine Left.headD 12 (by kernel_rfl) ?_
  simp only [List.take_succ_cons, List.take_zero, List.drop_succ_cons, List.drop_zero, Nat.reduceSub]
  repeat (quiet_step (fail))
  refine wpQuiet_nil ?_
  rintro _ ⟨nq, rfl⟩
  refine Left.tail (by kernel_rfl) ?_
  simp only [List.drop_succ_cons, List.drop_zero]
  go_wp2_with fail
  refine (add_any b _ _ _ H5.out.drewN (HS5.out.kept (fun _ _ => rfl)) HNE.out HL.out).mono ?_
  rintro e w1 ⟨rfl, asks', own', hb1, hs1, hf1, ho1⟩
  obtain ⟨c0, c1, c2, c3, c4, c5, c6, f0, f4, f5, f6⟩ := node_cells hb1
  have hbx := hf1.blk (b := w.heap.size) (T := 41) (cs := [.int .i64 0, .int .i64 0, .int .i64 0]) (Blk.new' (w.setCell ⟨b, 5, none⟩ (.int .i64 (last + 1))) 41 [.int .i64 0, .int .i64 0, .int .i64 0] (by simp)).drewN (by simp) (by
    intro hm
    rcases List.mem_cons.1 hm with e | hm
    · exact hbne e
    · have := HS.out.lt w.heap.size (by simpa using hm); omega)
  obtain ⟨x0, x1, x2, y0, y1, y2⟩ : w1.cell? ⟨w.heap.size, 0, none⟩ = some (.int .i64 0) ∧ w1.cell? ⟨w.heap.size, 1, none⟩ = some (.int .i64 0) ∧ w1.cell? ⟨w.heap.size, 2, none⟩ = some (.int .i64 0) ∧
    w1.frozen? ⟨w.heap.size, 0, none⟩ = false ∧ w1.frozen? ⟨w.heap.size, 1, none⟩ = false ∧ w1.frozen? ⟨w.heap.size, 2, none⟩ = false := ⟨hbx.cell 0, hbx.cell 1, hbx.cell 2, hbx.free 0, hbx.free 1, hbx.free 2⟩
  have hsz := hf1.size
  have HB1 := Lib.hid hb1
  have HS1 := Lib.hid hs1
  have HF1 := Lib.hid hf1
  have HO1 := Lib.hid ho1
  have HBX := Lib.hid hbx
  clear hbx ho1 hf1 hs1 hb1
  clear c1 c3 c4 c6 f0 f4 f6
  go_wp2_with fail
  refine wp_region_left (by kernel_rfl) ?_
  refine Left.headD 9 (by kernel_rfl) ?_
  simp only [List.take_succ_cons, List.take_zero, List.drop_succ_cons, List.drop_zero, Nat.reduceSub]
  repeat (quiet_step (fail))
  refine wpQuiet_nil ?_
  rintro _ ⟨nq, rfl⟩
  refine Left.tail (by kernel_rfl) ?_
  simp only [List.drop_succ_cons, List.drop_zero]
  go_wp2
  refine bodyPost_ret (v := .tuple #[.agg #[.int .i64 1, .int .i64 number, .int .i64 (last + 1)], .int .i64 0]) (by simp [results, Try.results17, go_sem, x0, x1, x2]) rfl ?_
  have hlt1 : ∀ c, own' = some c → c ≠ b ∧ c ≠ w.heap.size := fun c hc => by
    rcases HO1.out with h | ⟨g, h, hg⟩
    · have h2 := HS.out.lt c (h ▸ hc)
      have h3 := HNE.out
      rw [← h, hc] at h3
      exact ⟨fun e => h3 (by rw [e]), by omega⟩
    · rw [hc] at h; cases h; simp at hg; omega
  have n1 : NodeAt w1 b now number term end_ (last + 1) (l ++ [(last + 1, now)]) own' := by
    refine ⟨⟨asks', HB1.out, ?_⟩, fun e => (hlt1 b e).1 rfl⟩
    have := HS1.out
    rw [List.length_append, pairCells_append]
    exact this
  have f1 : Frm w.heap.size (nodeFoot b own) w w1 := by
    refine Frm.call ?_ HF1.out (by simp) (fun _ _ h => h)
    refine Frm.drewN ?_
    refine Frm.alloc ?_ (by simp) _
    exact Frm.setCell (Frm.refl _ _ _) (.inl (by simp [nodeFoot])) _
  refine ⟨rfl, own', n1.frm (B := w1.heap.size) (S := [w.heap.size]) ?_ ?_, f1.call (B' := w1.heap.size) (S' := [w.heap.size]) ?_ (by simp at hsz; omega) ?_, ?_⟩
  · repeat (first | with_reducible exact Frm.refl _ _ _ | with_reducible refine Frm.drewN ?_ | with_reducible refine Frm.drew ?_ | ((with_reducible refine Frm.setCell' ?_ ?_); · first | (left; simp; done) | (right; simp; done) | (right; simp; omega)) | ((with_reducible refine Frm.alloc' ?_ ?_); · first | exact Nat.le_refl _ | (simp; done) | (simp; omega)))
  · intro c hc
    refine ⟨n1.lt c hc, ?_⟩
    rcases List.mem_cons.1 hc with rfl | hc
    · simp; omega
    · have := (hlt1 c (by simpa using hc)).2; simpa using this
  · repeat (first | with_reducible exact Frm.refl _ _ _ | with_reducible refine Frm.drewN ?_ | with_reducible refine Frm.drew ?_ | ((with_reducible refine Frm.setCell' ?_ ?_); · first | (left; simp; done) | (right; simp; done) | (right; simp; omega)) | ((with_reducible refine Frm.alloc' ?_ ?_); · first | exact Nat.le_refl _ | (simp; done) | (simp; omega)))
  · intro c h1 h2; simp at h2; omega
  · rcases HO1.out with h | ⟨g, h, hg⟩
    · exact .inl h
    · exact .inr ⟨g, h, by simp at hg; omega⟩
end
end Go.Proofs.Ythmladcepkdheaa
