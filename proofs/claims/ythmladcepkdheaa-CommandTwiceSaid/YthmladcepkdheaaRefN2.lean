/-
  The document's node: Ask.
-/
import Derived.Test.YthmladcepkdheaaRefN
namespace Go.Proofs.Ythmladcepkdheaa
open Go.RowKit

theorem info102 : (Try.prog.info? 102).map (fun i => (i.zero, i.size, i.bytes)) = some (some (.agg #[.int .i64 0, .int .i64 0]), 2, 16) := by kernel_rfl
theorem pairCells_one (l : List (Int × Int)) : ∀ u ∈ pairCells l, u.oneCell' = true := by
  intro u hu
  simp only [pairCells, List.mem_flatMap, List.mem_cons, List.not_mem_nil, or_false] at hu
  obtain ⟨p, _, rfl | rfl⟩ := hu <;> rfl

theorem slA (W : World) : Sl (W.alloc (.cells #[] 102)) 102 2 (.slice (some ⟨W.heap.size, 0, none⟩) 0 0) 0 [] (some W.heap.size) :=
  ⟨rfl, .inr ⟨_, 0, 0, #[], rfl, rfl, heap_alloc_new W _, Nat.le_refl _, Nat.zero_le _, Nat.le_refl _, rfl⟩⟩
theorem slB (W : World) (x y : Int) : Sl (W.alloc (.cells #[.int .i64 x, .int .i64 y] 102)) 102 2 (.slice (some ⟨W.heap.size, 0, none⟩) 1 1) 1 [.int .i64 x, .int .i64 y] (some W.heap.size) :=
  ⟨rfl, .inr ⟨_, 0, 1, #[.int .i64 x, .int .i64 y], rfl, rfl, heap_alloc_new W _, Nat.le_refl _, by unfold maxLen; omega, Nat.le_refl _, rfl⟩⟩

/-- While an Ask is laid: the box, and the asks that were. -/
structure Asking (w W : World) (s : NS) (v : Value) (own : Option Nat) : Prop where
  lay : Laying w W s v
  sl : SlN W v s.l own
theorem Asking.turn {w W W' : World} {s : NS} {v : Value} {own : Option Nat} (h : Asking w W s v own) (hf : Frm W.heap.size [] W W') : Asking w W' s v own :=
  ⟨h.lay.turn hf, h.sl.frm hf h.sl.lt (by simp)⟩

set_option maxRecDepth 100000 in
set_option maxHeartbeats 8000000 in
theorem refAsk_any (s : NS) (v : Value) (own : Option Nat) (w : World) (hv : SlN w v s.l own) (h0 : 0 ≤ s.last) (h1 : s.last ≤ 100000) (hlen : s.l.length ≤ 100000) :
    Calls Try.prog 18 #[.agg (nodeC s v).toArray] w fun e w' => ∃ v' own', e = .returned (.tuple #[.agg (nodeC s.ask.1 v').toArray, .agg (wordL s.ask.2).toArray, .int .i64 0]) ∧ Frm w.heap.size [] w w' ∧ SlN w' v' s.ask.1.l own' ∧ (∀ g, own' = some g → w.heap.size ≤ g) := by
  obtain ⟨i0, hi, hz0, hz1, hz2⟩ : ∃ i0, Try.prog.info? 102 = some i0 ∧ i0.zero = some (.agg #[.int .i64 0, .int .i64 0]) ∧ i0.size = 2 ∧ i0.bytes = 16 := by
    have h := info102
    cases hq : Try.prog.info? 102 with
    | none => simp [hq] at h
    | some i => simp [hq] at h; exact ⟨i, rfl, h.1, h.2.1, h.2.2⟩
  have hone := hv.one
  go_enter Try.func18, Try.ntmps18
  iterate 16 go_step
  refine named ?_; intro W hW
  have hb : Blk W w.heap.size 39 (nodeC s v) := by rw [hW]; repeat (first | exact Blk.new w 39 (nodeC s v) | refine Blk.alloc' ?_)
  have hz : Blk W (w.heap.size + 1) 39 zero39 := by rw [hW]; repeat (first | exact Blk.new' _ 39 zero39 (by simp) | refine Blk.alloc' ?_)
  have hy : Blk W (w.heap.size + 2) 41 (wordL (0, 0, 0)) := by rw [hW]; repeat (first | exact Blk.new' _ 41 (wordL (0, 0, 0)) (by simp) | refine Blk.alloc' ?_)
  have hf : Frm w.heap.size [] w W := by rw [hW]; repeat (first | with_reducible exact Frm.refl _ _ _ | with_reducible refine Frm.drewN ?_ | with_reducible refine Frm.drew ?_ | ((with_reducible refine Frm.setCell' ?_ ?_); · first | (left; simp; done) | (right; simp; done) | (right; simp; omega)) | ((with_reducible refine Frm.alloc' ?_ ?_); · first | exact Nat.le_refl _ | (simp; done) | (simp; omega)))
  have hs : w.heap.size + 3 ≤ W.heap.size := by rw [hW]; simp
  clear hW
  have c3 : W.cell? ⟨w.heap.size, 3, none⟩ = some (.int .i64 s.last) := hb.cell 3
  have f3 := hb.free 3
  have HB := Lib.hid hb
  have HZ := Lib.hid hz
  have HY := Lib.hid hy
  have HF := Lib.hid hf
  have HS := Lib.hid hs
  have HVV := Lib.hid hv
  have HI := Lib.hid hi
  have HZ0 := Lib.hid hz0
  have HZ1 := Lib.hid hz1
  have HZ2 := Lib.hid hz2
  have HL := Lib.hid hlen
  clear hlen hz2 hz1 hz0 hi hv hs hf hy hz hb
  go_wp2_with fail
  refine namedC ?_; intro W1 hW1
  have lay : Laying w W1 { s with last := s.last + 1 } v := by
    refine ⟨?_, ?_, ⟨zero39, rfl, ?_⟩, ⟨wordL (0, 0, 0), rfl, ?_⟩, ?_⟩
    · rw [hW1]; exact HB.out.set 3 _
    · rw [hW1]
      refine HF.out.trans ?_
      repeat (first | with_reducible exact Frm.refl _ _ _ | with_reducible refine Frm.drewN ?_ | with_reducible refine Frm.drew ?_ | ((with_reducible refine Frm.setCell' ?_ ?_); · first | (left; simp; done) | (right; simp; done) | (right; simp; omega)) | ((with_reducible refine Frm.setRow' ?_ ?_); · first | (left; simp; done) | (right; simp; done) | (right; simp; omega)) | ((with_reducible refine Frm.alloc' ?_ ?_); · first | exact Nat.le_refl _ | (simp; done) | (simp; omega)))
    · rw [hW1]; (repeat (first | with_reducible exact HZ.out | with_reducible refine Blk.drewN ?_ | with_reducible refine Blk.drew ?_ | with_reducible refine Blk.alloc' ?_ | ((with_reducible refine Blk.other' ?_ ?_); · (simp; try omega)) | ((with_reducible refine Blk.rowO ?_ ?_); · (simp; try omega)) | exact HZ.out))
    · rw [hW1]; (repeat (first | with_reducible exact HY.out | with_reducible refine Blk.drewN ?_ | with_reducible refine Blk.drew ?_ | with_reducible refine Blk.alloc' ?_ | ((with_reducible refine Blk.other' ?_ ?_); · (simp; try omega)) | ((with_reducible refine Blk.rowO ?_ ?_); · (simp; try omega)) | exact HY.out))
    · rw [hW1]; simpa using HS.out
  clear hW1 HB HZ HY HF HS c3 f3
  have hask : Asking w W1.drew { s with last := s.last + 1 } v own := (⟨lay, HVV.out.frm lay.f HVV.out.lt (by simp)⟩ : Asking w W1 { s with last := s.last + 1 } v own).turn (Frm.refl _ _ W1).drew
  clear lay
  have H1 := Lib.hid hask
  clear hask
  refine wp_region_leftL (fun W => Asking w W { s with last := s.last + 1 } v own) 12 (by kernel_rfl) ?_
  obtain ⟨W2, hW2⟩ : ∃ X, X = W1.drew := ⟨_, rfl⟩
  rw [← hW2] at H1 ⊢
  clear hW2
  refine LeftL.run (v := ?_) 1 rfl (by kernel_rfl) rfl (fun _ _ d _ _ h => by cases d <;> exact h) ?_ H1.out ?_; rotate_left; (· intro W hW; have z0 := hW.lay.b.cell 0; have z2 := hW.lay.b.cell 2; have z3 := hW.lay.b.cell 3; have z5 := hW.lay.b.cell 5; simp only [nodeC, List.getElem?_cons_succ, List.getElem?_cons_zero] at z0 z2 z3 z5; clear hW; go_simp; rfl); (intro K' hK'; go_simp; refine hK' _ ?_; clear hK' K')
  refine LeftL.run (v := ?_) 2 rfl (by kernel_rfl) rfl (fun _ _ d _ _ h => by cases d <;> exact h) ?_ H1.out ?_; rotate_left; (· intro W hW; have z0 := hW.lay.b.cell 0; have z2 := hW.lay.b.cell 2; have z3 := hW.lay.b.cell 3; have z5 := hW.lay.b.cell 5; simp only [nodeC, List.getElem?_cons_succ, List.getElem?_cons_zero] at z0 z2 z3 z5; clear hW; go_simp; rfl); (intro K' hK'; go_simp; refine hK' _ ?_; clear hK' K')
  refine LeftL.run (v := ?_) 4 rfl (by kernel_rfl) rfl (fun _ _ d _ _ h => by cases d <;> exact h) ?_ H1.out ?_; rotate_left; (· intro W hW; have z0 := hW.lay.b.cell 0; have z2 := hW.lay.b.cell 2; have z3 := hW.lay.b.cell 3; have z5 := hW.lay.b.cell 5; simp only [nodeC, List.getElem?_cons_succ, List.getElem?_cons_zero] at z0 z2 z3 z5; clear hW; go_simp; rfl); (intro K' hK'; go_simp; refine hK' _ ?_; clear hK' K')
  refine LeftL.run (v := ?_) 5 rfl (by kernel_rfl) rfl (fun _ _ d _ _ h => by cases d <;> exact h) ?_ H1.out ?_; rotate_left; (· intro W hW; have z0 := hW.lay.b.cell 0; have z2 := hW.lay.b.cell 2; have z3 := hW.lay.b.cell 3; have z5 := hW.lay.b.cell 5; simp only [nodeC, List.getElem?_cons_succ, List.getElem?_cons_zero] at z0 z2 z3 z5; clear hW; go_simp; rfl); (intro K' hK'; go_simp; refine hK' _ ?_; clear hK' K')
  refine LeftL.run (v := ?_) 6 rfl (by kernel_rfl) rfl (fun _ _ d _ _ h => by cases d <;> exact h) ?_ H1.out ?_; rotate_left; (· intro W hW; have z0 := hW.lay.b.cell 0; have z2 := hW.lay.b.cell 2; have z3 := hW.lay.b.cell 3; have z5 := hW.lay.b.cell 5; simp only [nodeC, List.getElem?_cons_succ, List.getElem?_cons_zero] at z0 z2 z3 z5; clear hW; go_simp; rfl); (intro K' hK'; go_simp; refine hK' _ ?_; clear hK' K')
  refine LeftL.run (v := ?_) 7 rfl (by kernel_rfl) rfl (fun _ _ d _ _ h => by cases d <;> exact h) ?_ H1.out ?_; rotate_left; (· intro W hW; have z0 := hW.lay.b.cell 0; have z2 := hW.lay.b.cell 2; have z3 := hW.lay.b.cell 3; have z5 := hW.lay.b.cell 5; simp only [nodeC, List.getElem?_cons_succ, List.getElem?_cons_zero] at z0 z2 z3 z5; clear hW; go_simp; rfl); (intro K' hK'; go_simp; refine hK' _ ?_; clear hK' K')
  refine LeftL.run (v := ?_) 8 rfl (by kernel_rfl) rfl (fun _ _ d _ _ h => by cases d <;> exact h) ?_ H1.out ?_; rotate_left; (· intro W hW; have z0 := hW.lay.b.cell 0; have z2 := hW.lay.b.cell 2; have z3 := hW.lay.b.cell 3; have z5 := hW.lay.b.cell 5; simp only [nodeC, List.getElem?_cons_succ, List.getElem?_cons_zero] at z0 z2 z3 z5; clear hW; go_simp; rfl); (intro K' hK'; go_simp; refine hK' _ ?_; clear hK' K')
  have hlt := H1.out.sl.lt
  have fW2 := Frm.refl W2.heap.size [] W2
  refine LeftL.two 0 9 rfl rfl (by kernel_rfl) ?_ ?_
  · go_wp2_with fail
    obtain ⟨W2a, hW2a⟩ : ∃ X, X = W2.alloc (.cells #[] 102) := ⟨_, rfl⟩
    rw [← hW2a]
    have sA : Sl W2a 102 2 (.slice (some ⟨W2.heap.size, 0, none⟩) 0 0) 0 [] (some W2.heap.size) := by rw [hW2a]; exact slA W2
    have gW2a : Frm W2.heap.size [] W2 W2a := by rw [hW2a]; exact (Frm.refl _ _ W2).alloc (Nat.le_refl _) _
    have fW2a : Frm W2.heap.size [] W2 W2a := fW2.call gW2a fW2.size (by simp)
    obtain ⟨A, hA⟩ : ∃ A, A = W2.heap.size := ⟨_, rfl⟩
    have bA : W2.heap.size ≤ A := by rw [hA]; exact fW2.size
    rw [← hA] at sA ⊢
    clear hA hW2a
    refine ⟨fun _ => H1.out.turn fW2a, ?_⟩
    refine LeftL.two 3 9 rfl rfl (by kernel_rfl) ?_ ?_
    · refine wpList_append_both rfl (.tmp 14) (.tmp 16) 37 rfl 102 i0 _ 2 16 Try.underlying37 HI.out HZ0.out HZ1.out HZ2.out rfl _ 0 [] (some A) rfl sA _ s.l.length (pairCells s.l) own rfl (H1.out.turn fW2a).sl (pairCells_one _) (by have := HL.out; unfold maxLen; omega) (by have := HL.out; omega) ?_
      intro v1 W2ac own1 hs1 hf1 ho1
      obtain ⟨ad1, cp1, rfl⟩ := hs1.form
      refine wpList_nil ?_
      simp only [Nat.zero_add, List.nil_append] at hs1 ⊢
      have fW2ac : Frm W2.heap.size [] W2 W2ac := fW2a.call hf1 fW2a.size (by intro x h1 h2; simp at h2; omega)
      have bo1 : ∀ g, own1 = some g → W2.heap.size ≤ g := by
        intro g hg
        rcases ho1 with h | ⟨g', h, h'⟩
        · rw [h] at hg; cases hg; exact bA
        · rw [h] at hg; cases hg; have := fW2a.size; omega
      clear ho1
      refine ⟨fun _ => H1.out.turn fW2ac, ?_⟩
      refine LeftL.one 9 rfl (by kernel_rfl) ?_
      go_wp2_with fail
      obtain ⟨W2acb, hW2acb⟩ : ∃ X, X = W2ac.alloc (.cells #[.int .i64 (s.last + 1), .int .i64 s.now] 102) := ⟨_, rfl⟩
      rw [← hW2acb]
      have sB : Sl W2acb 102 2 (.slice (some ⟨W2ac.heap.size, 0, none⟩) 1 1) 1 [.int .i64 (s.last + 1), .int .i64 s.now] (some W2ac.heap.size) := by rw [hW2acb]; exact slB W2ac _ _
      have gW2acb : Frm W2ac.heap.size [] W2ac W2acb := by rw [hW2acb]; exact (Frm.refl _ _ W2ac).alloc (Nat.le_refl _) _
      have fW2acb : Frm W2.heap.size [] W2 W2acb := fW2ac.call gW2acb fW2ac.size (by simp)
      obtain ⟨B, hB⟩ : ∃ B, B = W2ac.heap.size := ⟨_, rfl⟩
      rw [← hB] at sB ⊢
      clear hW2acb hB
      refine ⟨fun _ => H1.out.turn fW2acb, ?_⟩
      have hs1 := hs1.frm gW2acb hs1.lt (by simp)
      refine LeftL.one 10 rfl (by kernel_rfl) ?_
      refine wpList_append_both rfl (.tmp 17) (.tmp 23) 37 rfl 102 i0 _ 2 16 Try.underlying37 HI.out HZ0.out HZ1.out HZ2.out rfl _ _ _ own1 rfl hs1 _ 1 [.int .i64 (s.last + 1), .int .i64 s.now] (some B) rfl sB (by simp [Value.oneCell']) (by have := HL.out; unfold maxLen; omega) (by have := HL.out; omega) ?_
      intro v2 W5 own2 hs2 hf2 ho2
      obtain ⟨ad2, cp2, rfl⟩ := hs2.form
      refine wpList_nil ?_
      have f5 : Frm W2.heap.size [] W2 W5 := fW2acb.call hf2 fW2acb.size (by intro x h1 h2; have := bo1 x (by simpa using h2); omega)
      have bo2 : ∀ g, own2 = some g → W2.heap.size ≤ g := by
        intro g hg
        rcases ho2 with h | ⟨g', h, h'⟩
        · exact bo1 g (by rw [← h]; exact hg)
        · rw [h] at hg; cases hg; have := fW2acb.size; omega
      refine ⟨fun _ => H1.out.turn f5, ?_⟩
      have h5 := H1.out.turn f5
      have hbase := H1.out.lay.n
      have hs3 : Sl W5 102 2 (.slice ad2 (s.l.length + 1) cp2) (s.l.length + 1) (pairCells (s.l ++ [(s.last + 1, s.now)])) own2 := by
        have := hs2
        rw [pairCells_append]
        exact this
      have HS2 := Lib.hid hs3
      have HB2 := Lib.hid bo2
      have H5 := Lib.hid h5
      have HBASE := Lib.hid hbase
      clear hs2 hs3 bo2 h5 hbase hs1 sA sB bo1 bA hf1 hf2 ho2
      refine LeftL.one 11 rfl (by kernel_rfl) ?_
      iterate 4 go_step
      refine ⟨fun _ => H5.out, ?_⟩
      refine LeftL.one 12 rfl (by kernel_rfl) ?_
      have c5 : W5.cell? ⟨w.heap.size, 5, none⟩ = some v := H5.out.lay.b.cell 5
      have k5 := H5.out.lay.b.free 5
      go_wp2_with fail
      refine ⟨fun h => absurd rfl h, ?_⟩
      refine LeftL.done (by kernel_rfl) ?_
      clear c5 k5
      refine named ?_; intro W6 hW6
      have lay6 : Laying w W6 { s with last := s.last + 1, l := s.l ++ [(s.last + 1, s.now)] } (.slice ad2 (s.l.length + 1) cp2) := by
        obtain ⟨zs, z1, z2⟩ := H5.out.lay.z
        obtain ⟨ys, y1, y2⟩ := H5.out.lay.y
        refine ⟨by rw [hW6]; exact H5.out.lay.b.set 5 _, by rw [hW6]; exact H5.out.lay.f.setCell (.inr (Nat.le_refl _)) _, ⟨zs, z1, by rw [hW6]; exact z2.other _ (by simp) _⟩, ⟨ys, y1, by rw [hW6]; exact y2.other _ (by simp) _⟩, by rw [hW6]; simpa using H5.out.lay.n⟩
      have sl6 : SlN W6 (.slice ad2 (s.l.length + 1) cp2) (s.l ++ [(s.last + 1, s.now)]) own2 := by
        rw [hW6]
        have := HS2.out.setCell ⟨w.heap.size, 5, none⟩ (.slice ad2 (s.l.length + 1) cp2) (fun b hb => by have := HB2.out b hb; have := HBASE.out; simp only; omega)
        show Sl _ 102 2 _ (s.l ++ [(s.last + 1, s.now)]).length _ _
        rw [List.length_append]
        exact this
      clear hW6 H1 H5 HS2
      have h1 := lay6.turn (Frm.refl _ _ W6).drew
      have HL6 := Lib.hid lay6
      have HS6 := Lib.hid sl6
      have H1 := Lib.hid h1
      clear lay6 sl6 h1
      go_wp2_with fail
      refine wp_region_leftL (fun W => Laying w W { s with last := s.last + 1, l := s.l ++ [(s.last + 1, s.now)] } (.slice ad2 (s.l.length + 1) cp2)) 100 (by kernel_rfl) ?_
      refine LeftL.take 0 rfl (by kernel_rfl) (fun _ _ d _ _ h => by cases d <;> exact h) (yields_loadB (ty := 39) rfl rfl (fun W hW => hW.b) rfl Try.underlying39 rfl (nodeC_info _ _)) H1.out ?_; (intro K' hK'; go_simp; refine hK' _ ?_; clear hK' K')
      refine LeftL.run (v := ?_) 1 rfl (by kernel_rfl) rfl (fun _ _ d _ _ h => by cases d <;> exact h) ?_ H1.out ?_; rotate_left; (· intro W hW; have z0 := hW.b.cell 0; have z2 := hW.b.cell 2; have z3 := hW.b.cell 3; have z5 := hW.b.cell 5; simp only [nodeC, List.getElem?_cons_succ, List.getElem?_cons_zero] at z0 z2 z3 z5; clear hW; go_simp; rfl); (intro K' hK'; go_simp; refine hK' _ ?_; clear hK' K')
      refine LeftL.run (v := ?_) 2 rfl (by kernel_rfl) rfl (fun _ _ d _ _ h => by cases d <;> exact h) ?_ H1.out ?_; rotate_left; (· intro W hW; have z0 := hW.b.cell 0; have z2 := hW.b.cell 2; have z3 := hW.b.cell 3; have z5 := hW.b.cell 5; simp only [nodeC, List.getElem?_cons_succ, List.getElem?_cons_zero] at z0 z2 z3 z5; clear hW; go_simp; rfl); (intro K' hK'; go_simp; refine hK' _ ?_; clear hK' K')
      refine LeftL.run (v := ?_) 3 rfl (by kernel_rfl) rfl (fun _ _ d _ _ h => by cases d <;> exact h) ?_ H1.out ?_; rotate_left; (· intro W hW; have z0 := hW.b.cell 0; have z2 := hW.b.cell 2; have z3 := hW.b.cell 3; have z5 := hW.b.cell 5; simp only [nodeC, List.getElem?_cons_succ, List.getElem?_cons_zero] at z0 z2 z3 z5; clear hW; go_simp; rfl); (intro K' hK'; go_simp; refine hK' _ ?_; clear hK' K')
      refine LeftL.run (v := ?_) 4 rfl (by kernel_rfl) rfl (fun _ _ d _ _ h => by cases d <;> exact h) ?_ H1.out ?_; rotate_left; (· intro W hW; have z0 := hW.b.cell 0; have z2 := hW.b.cell 2; have z3 := hW.b.cell 3; have z5 := hW.b.cell 5; simp only [nodeC, List.getElem?_cons_succ, List.getElem?_cons_zero] at z0 z2 z3 z5; clear hW; go_simp; rfl); (intro K' hK'; go_simp; refine hK' _ ?_; clear hK' K')
      refine LeftL.run (v := ?_) 5 rfl (by kernel_rfl) rfl (fun _ _ d _ _ h => by cases d <;> exact h) ?_ H1.out ?_; rotate_left; (· intro W hW; have z0 := hW.b.cell 0; have z2 := hW.b.cell 2; have z3 := hW.b.cell 3; have z5 := hW.b.cell 5; simp only [nodeC, List.getElem?_cons_succ, List.getElem?_cons_zero] at z0 z2 z3 z5; clear hW; go_simp; rfl); (intro K' hK'; go_simp; refine hK' _ ?_; clear hK' K')
      refine LeftL.one 6 rfl (by kernel_rfl) ?_
      obtain ⟨zs, hz1, hz⟩ := H1.out.z
      refine wpList_storeB (ty := 39) (cs := nodeC { s with last := s.last + 1, l := s.l ++ [(s.last + 1, s.now)] } (.slice ad2 (s.l.length + 1) cp2)) rfl rfl hz rfl rfl hz1 (nodeC_info _ _) (nodeC_one _ rfl) ?_
      refine wpList_nil ?_
      have h3 := H1.out.row1 (nodeC { s with last := s.last + 1, l := s.l ++ [(s.last + 1, s.now)] } (.slice ad2 (s.l.length + 1) cp2)) rfl
      refine ⟨fun _ => h3, ?_⟩
      refine LeftL.one 7 rfl (by kernel_rfl) ?_
      obtain ⟨ys, hy1, hy⟩ := h3.y
      refine wpList_storeB (P := Try.prog) (ty := 41) (cs := wordL (1, s.number, s.last + 1)) rfl rfl hy rfl rfl hy1 (wordL_info _) (wordL_one _) ?_
      refine wpList_nil ?_
      have h4 := h3.row2 (wordL (1, s.number, s.last + 1)) rfl
      refine ⟨fun _ => h4, ?_⟩
      refine LeftL.one 8 rfl (by kernel_rfl) ?_
      iterate 4 go_step
      refine ⟨fun _ => h4, ?_⟩
      refine LeftL.done (by kernel_rfl) ?_
      have r1 := (Blk.rowO (g := w.heap.size + 2) (cs := (wordL (1, s.number, s.last + 1)).toArray) (by omega) (hz.row (nodeC { s with last := s.last + 1, l := s.l ++ [(s.last + 1, s.now)] } (.slice ad2 (s.l.length + 1) cp2))))
      have r2 := hy.row (wordL (1, s.number, s.last + 1))
      have hf := h4.f
      have hfin : SlN (((W6.drew).setRow (w.heap.size + 1) (nodeC { s with last := s.last + 1, l := s.l ++ [(s.last + 1, s.now)] } (.slice ad2 (s.l.length + 1) cp2)).toArray).setRow (w.heap.size + 2) (wordL (1, s.number, s.last + 1)).toArray) (.slice ad2 (s.l.length + 1) cp2) (s.l ++ [(s.last + 1, s.now)]) own2 :=
        HS6.out.kept fun b hb => by
          have e1 := HB2.out b hb
          have e2 := HBASE.out
          rw [setRow_other _ _ _ _ (by omega), setRow_other _ _ _ _ (by omega)]
          rfl
      have R1 := Lib.hid r1
      have R2 := Lib.hid r2
      have HF := Lib.hid hf
      have HFIN := Lib.hid hfin
      clear r1 r2 hf hfin h3 h4 hy hz H1
      go_wp2
      try simp only [Exit.inBlock, Exit.then]
      refine bodyPost_ret (v := .tuple #[.agg (nodeC { s with last := s.last + 1, l := s.l ++ [(s.last + 1, s.now)] } (.slice ad2 (s.l.length + 1) cp2)).toArray, .agg (wordL (1, s.number, s.last + 1)).toArray, .int .i64 0]) ?_ rfl ⟨_, own2, rfl, HF.out, HFIN.out, fun g hg => ?_⟩
      · exact results_cct Try.results18 R1.out rfl Try.underlying39 rfl (nodeC_info _ _) R2.out rfl Try.underlying41 rfl (wordL_info _)
      · have := HB2.out g hg
        have := HBASE.out
        omega
    · go_wp2_with fail
      obtain ⟨W2ab, hW2ab⟩ : ∃ X, X = W2a.alloc (.cells #[.int .i64 (s.last + 1), .int .i64 s.now] 102) := ⟨_, rfl⟩
      rw [← hW2ab]
      have sB : Sl W2ab 102 2 (.slice (some ⟨W2a.heap.size, 0, none⟩) 1 1) 1 [.int .i64 (s.last + 1), .int .i64 s.now] (some W2a.heap.size) := by rw [hW2ab]; exact slB W2a _ _
      have gW2ab : Frm W2a.heap.size [] W2a W2ab := by rw [hW2ab]; exact (Frm.refl _ _ W2a).alloc (Nat.le_refl _) _
      have fW2ab : Frm W2.heap.size [] W2 W2ab := fW2a.call gW2ab fW2a.size (by simp)
      obtain ⟨B, hB⟩ : ∃ B, B = W2a.heap.size := ⟨_, rfl⟩
      rw [← hB] at sB ⊢
      have neAB : A ≠ B := by rw [hB]; exact Nat.ne_of_lt (sA.lt A rfl)
      clear hW2ab hB
      refine ⟨fun _ => H1.out.turn fW2ab, ?_⟩
      have sA := sA.frm gW2ab sA.lt (by simp)
      refine LeftL.one 3 rfl (by kernel_rfl) ?_
      refine wpList_append_both rfl (.tmp 14) (.tmp 16) 37 rfl 102 i0 _ 2 16 Try.underlying37 HI.out HZ0.out HZ1.out HZ2.out rfl _ 0 [] (some A) rfl sA _ s.l.length (pairCells s.l) own rfl (H1.out.turn fW2ab).sl (pairCells_one _) (by have := HL.out; unfold maxLen; omega) (by have := HL.out; omega) ?_
      intro v1 W2abc own1 hs1 hf1 ho1
      obtain ⟨ad1, cp1, rfl⟩ := hs1.form
      refine wpList_nil ?_
      simp only [Nat.zero_add, List.nil_append] at hs1 ⊢
      have fW2abc : Frm W2.heap.size [] W2 W2abc := fW2ab.call hf1 fW2ab.size (by intro x h1 h2; simp at h2; omega)
      have bo1 : ∀ g, own1 = some g → W2.heap.size ≤ g := by
        intro g hg
        rcases ho1 with h | ⟨g', h, h'⟩
        · rw [h] at hg; cases hg; exact bA
        · rw [h] at hg; cases hg; have := fW2ab.size; omega
      clear ho1
      refine ⟨fun _ => H1.out.turn fW2abc, ?_⟩
      have sB := sB.frm hf1 sB.lt (by simpa using Ne.symm neAB)
      refine LeftL.one 10 rfl (by kernel_rfl) ?_
      refine wpList_append_both rfl (.tmp 17) (.tmp 23) 37 rfl 102 i0 _ 2 16 Try.underlying37 HI.out HZ0.out HZ1.out HZ2.out rfl _ _ _ own1 rfl hs1 _ 1 [.int .i64 (s.last + 1), .int .i64 s.now] (some B) rfl sB (by simp [Value.oneCell']) (by have := HL.out; unfold maxLen; omega) (by have := HL.out; omega) ?_
      intro v2 W5 own2 hs2 hf2 ho2
      obtain ⟨ad2, cp2, rfl⟩ := hs2.form
      refine wpList_nil ?_
      have f5 : Frm W2.heap.size [] W2 W5 := fW2abc.call hf2 fW2abc.size (by intro x h1 h2; have := bo1 x (by simpa using h2); omega)
      have bo2 : ∀ g, own2 = some g → W2.heap.size ≤ g := by
        intro g hg
        rcases ho2 with h | ⟨g', h, h'⟩
        · exact bo1 g (by rw [← h]; exact hg)
        · rw [h] at hg; cases hg; have := fW2abc.size; omega
      refine ⟨fun _ => H1.out.turn f5, ?_⟩
      have h5 := H1.out.turn f5
      have hbase := H1.out.lay.n
      have hs3 : Sl W5 102 2 (.slice ad2 (s.l.length + 1) cp2) (s.l.length + 1) (pairCells (s.l ++ [(s.last + 1, s.now)])) own2 := by
        have := hs2
        rw [pairCells_append]
        exact this
      have HS2 := Lib.hid hs3
      have HB2 := Lib.hid bo2
      have H5 := Lib.hid h5
      have HBASE := Lib.hid hbase
      clear hs2 hs3 bo2 h5 hbase hs1 sA sB bo1 bA hf1 hf2 ho2
      refine LeftL.one 11 rfl (by kernel_rfl) ?_
      iterate 4 go_step
      refine ⟨fun _ => H5.out, ?_⟩
      refine LeftL.one 12 rfl (by kernel_rfl) ?_
      have c5 : W5.cell? ⟨w.heap.size, 5, none⟩ = some v := H5.out.lay.b.cell 5
      have k5 := H5.out.lay.b.free 5
      go_wp2_with fail
      refine ⟨fun h => absurd rfl h, ?_⟩
      refine LeftL.done (by kernel_rfl) ?_
      clear c5 k5
      refine named ?_; intro W6 hW6
      have lay6 : Laying w W6 { s with last := s.last + 1, l := s.l ++ [(s.last + 1, s.now)] } (.slice ad2 (s.l.length + 1) cp2) := by
        obtain ⟨zs, z1, z2⟩ := H5.out.lay.z
        obtain ⟨ys, y1, y2⟩ := H5.out.lay.y
        refine ⟨by rw [hW6]; exact H5.out.lay.b.set 5 _, by rw [hW6]; exact H5.out.lay.f.setCell (.inr (Nat.le_refl _)) _, ⟨zs, z1, by rw [hW6]; exact z2.other _ (by simp) _⟩, ⟨ys, y1, by rw [hW6]; exact y2.other _ (by simp) _⟩, by rw [hW6]; simpa using H5.out.lay.n⟩
      have sl6 : SlN W6 (.slice ad2 (s.l.length + 1) cp2) (s.l ++ [(s.last + 1, s.now)]) own2 := by
        rw [hW6]
        have := HS2.out.setCell ⟨w.heap.size, 5, none⟩ (.slice ad2 (s.l.length + 1) cp2) (fun b hb => by have := HB2.out b hb; have := HBASE.out; simp only; omega)
        show Sl _ 102 2 _ (s.l ++ [(s.last + 1, s.now)]).length _ _
        rw [List.length_append]
        exact this
      clear hW6 H1 H5 HS2
      have h1 := lay6.turn (Frm.refl _ _ W6).drew
      have HL6 := Lib.hid lay6
      have HS6 := Lib.hid sl6
      have H1 := Lib.hid h1
      clear lay6 sl6 h1
      go_wp2_with fail
      refine wp_region_leftL (fun W => Laying w W { s with last := s.last + 1, l := s.l ++ [(s.last + 1, s.now)] } (.slice ad2 (s.l.length + 1) cp2)) 100 (by kernel_rfl) ?_
      refine LeftL.take 0 rfl (by kernel_rfl) (fun _ _ d _ _ h => by cases d <;> exact h) (yields_loadB (ty := 39) rfl rfl (fun W hW => hW.b) rfl Try.underlying39 rfl (nodeC_info _ _)) H1.out ?_; (intro K' hK'; go_simp; refine hK' _ ?_; clear hK' K')
      refine LeftL.run (v := ?_) 1 rfl (by kernel_rfl) rfl (fun _ _ d _ _ h => by cases d <;> exact h) ?_ H1.out ?_; rotate_left; (· intro W hW; have z0 := hW.b.cell 0; have z2 := hW.b.cell 2; have z3 := hW.b.cell 3; have z5 := hW.b.cell 5; simp only [nodeC, List.getElem?_cons_succ, List.getElem?_cons_zero] at z0 z2 z3 z5; clear hW; go_simp; rfl); (intro K' hK'; go_simp; refine hK' _ ?_; clear hK' K')
      refine LeftL.run (v := ?_) 2 rfl (by kernel_rfl) rfl (fun _ _ d _ _ h => by cases d <;> exact h) ?_ H1.out ?_; rotate_left; (· intro W hW; have z0 := hW.b.cell 0; have z2 := hW.b.cell 2; have z3 := hW.b.cell 3; have z5 := hW.b.cell 5; simp only [nodeC, List.getElem?_cons_succ, List.getElem?_cons_zero] at z0 z2 z3 z5; clear hW; go_simp; rfl); (intro K' hK'; go_simp; refine hK' _ ?_; clear hK' K')
      refine LeftL.run (v := ?_) 3 rfl (by kernel_rfl) rfl (fun _ _ d _ _ h => by cases d <;> exact h) ?_ H1.out ?_; rotate_left; (· intro W hW; have z0 := hW.b.cell 0; have z2 := hW.b.cell 2; have z3 := hW.b.cell 3; have z5 := hW.b.cell 5; simp only [nodeC, List.getElem?_cons_succ, List.getElem?_cons_zero] at z0 z2 z3 z5; clear hW; go_simp; rfl); (intro K' hK'; go_simp; refine hK' _ ?_; clear hK' K')
      refine LeftL.run (v := ?_) 4 rfl (by kernel_rfl) rfl (fun _ _ d _ _ h => by cases d <;> exact h) ?_ H1.out ?_; rotate_left; (· intro W hW; have z0 := hW.b.cell 0; have z2 := hW.b.cell 2; have z3 := hW.b.cell 3; have z5 := hW.b.cell 5; simp only [nodeC, List.getElem?_cons_succ, List.getElem?_cons_zero] at z0 z2 z3 z5; clear hW; go_simp; rfl); (intro K' hK'; go_simp; refine hK' _ ?_; clear hK' K')
      refine LeftL.run (v := ?_) 5 rfl (by kernel_rfl) rfl (fun _ _ d _ _ h => by cases d <;> exact h) ?_ H1.out ?_; rotate_left; (· intro W hW; have z0 := hW.b.cell 0; have z2 := hW.b.cell 2; have z3 := hW.b.cell 3; have z5 := hW.b.cell 5; simp only [nodeC, List.getElem?_cons_succ, List.getElem?_cons_zero] at z0 z2 z3 z5; clear hW; go_simp; rfl); (intro K' hK'; go_simp; refine hK' _ ?_; clear hK' K')
      refine LeftL.one 6 rfl (by kernel_rfl) ?_
      obtain ⟨zs, hz1, hz⟩ := H1.out.z
      refine wpList_storeB (ty := 39) (cs := nodeC { s with last := s.last + 1, l := s.l ++ [(s.last + 1, s.now)] } (.slice ad2 (s.l.length + 1) cp2)) rfl rfl hz rfl rfl hz1 (nodeC_info _ _) (nodeC_one _ rfl) ?_
      refine wpList_nil ?_
      have h3 := H1.out.row1 (nodeC { s with last := s.last + 1, l := s.l ++ [(s.last + 1, s.now)] } (.slice ad2 (s.l.length + 1) cp2)) rfl
      refine ⟨fun _ => h3, ?_⟩
      refine LeftL.one 7 rfl (by kernel_rfl) ?_
      obtain ⟨ys, hy1, hy⟩ := h3.y
      refine wpList_storeB (P := Try.prog) (ty := 41) (cs := wordL (1, s.number, s.last + 1)) rfl rfl hy rfl rfl hy1 (wordL_info _) (wordL_one _) ?_
      refine wpList_nil ?_
      have h4 := h3.row2 (wordL (1, s.number, s.last + 1)) rfl
      refine ⟨fun _ => h4, ?_⟩
      refine LeftL.one 8 rfl (by kernel_rfl) ?_
      iterate 4 go_step
      refine ⟨fun _ => h4, ?_⟩
      refine LeftL.done (by kernel_rfl) ?_
      have r1 := (Blk.rowO (g := w.heap.size + 2) (cs := (wordL (1, s.number, s.last + 1)).toArray) (by omega) (hz.row (nodeC { s with last := s.last + 1, l := s.l ++ [(s.last + 1, s.now)] } (.slice ad2 (s.l.length + 1) cp2))))
      have r2 := hy.row (wordL (1, s.number, s.last + 1))
      have hf := h4.f
      have hfin : SlN (((W6.drew).setRow (w.heap.size + 1) (nodeC { s with last := s.last + 1, l := s.l ++ [(s.last + 1, s.now)] } (.slice ad2 (s.l.length + 1) cp2)).toArray).setRow (w.heap.size + 2) (wordL (1, s.number, s.last + 1)).toArray) (.slice ad2 (s.l.length + 1) cp2) (s.l ++ [(s.last + 1, s.now)]) own2 :=
        HS6.out.kept fun b hb => by
          have e1 := HB2.out b hb
          have e2 := HBASE.out
          rw [setRow_other _ _ _ _ (by omega), setRow_other _ _ _ _ (by omega)]
          rfl
      have R1 := Lib.hid r1
      have R2 := Lib.hid r2
      have HF := Lib.hid hf
      have HFIN := Lib.hid hfin
      clear r1 r2 hf hfin h3 h4 hy hz H1
      go_wp2
      try simp only [Exit.inBlock, Exit.then]
      refine bodyPost_ret (v := .tuple #[.agg (nodeC { s with last := s.last + 1, l := s.l ++ [(s.last + 1, s.now)] } (.slice ad2 (s.l.length + 1) cp2)).toArray, .agg (wordL (1, s.number, s.last + 1)).toArray, .int .i64 0]) ?_ rfl ⟨_, own2, rfl, HF.out, HFIN.out, fun g hg => ?_⟩
      · exact results_cct Try.results18 R1.out rfl Try.underlying39 rfl (nodeC_info _ _) R2.out rfl Try.underlying41 rfl (wordL_info _)
      · have := HB2.out g hg
        have := HBASE.out
        omega
  · go_wp2_with fail
    obtain ⟨W2b, hW2b⟩ : ∃ X, X = W2.alloc (.cells #[.int .i64 (s.last + 1), .int .i64 s.now] 102) := ⟨_, rfl⟩
    rw [← hW2b]
    have sB : Sl W2b 102 2 (.slice (some ⟨W2.heap.size, 0, none⟩) 1 1) 1 [.int .i64 (s.last + 1), .int .i64 s.now] (some W2.heap.size) := by rw [hW2b]; exact slB W2 _ _
    have gW2b : Frm W2.heap.size [] W2 W2b := by rw [hW2b]; exact (Frm.refl _ _ W2).alloc (Nat.le_refl _) _
    have fW2b : Frm W2.heap.size [] W2 W2b := fW2.call gW2b fW2.size (by simp)
    obtain ⟨B, hB⟩ : ∃ B, B = W2.heap.size := ⟨_, rfl⟩
    rw [← hB] at sB ⊢
    clear hW2b hB
    refine ⟨fun _ => H1.out.turn fW2b, ?_⟩
    refine LeftL.one 0 rfl (by kernel_rfl) ?_
    go_wp2_with fail
    obtain ⟨W2ba, hW2ba⟩ : ∃ X, X = W2b.alloc (.cells #[] 102) := ⟨_, rfl⟩
    rw [← hW2ba]
    have sA : Sl W2ba 102 2 (.slice (some ⟨W2b.heap.size, 0, none⟩) 0 0) 0 [] (some W2b.heap.size) := by rw [hW2ba]; exact slA W2b
    have gW2ba : Frm W2b.heap.size [] W2b W2ba := by rw [hW2ba]; exact (Frm.refl _ _ W2b).alloc (Nat.le_refl _) _
    have fW2ba : Frm W2.heap.size [] W2 W2ba := fW2b.call gW2ba fW2b.size (by simp)
    obtain ⟨A, hA⟩ : ∃ A, A = W2b.heap.size := ⟨_, rfl⟩
    have bA : W2.heap.size ≤ A := by rw [hA]; exact fW2b.size
    rw [← hA] at sA ⊢
    have neAB : A ≠ B := by rw [hA]; exact Ne.symm (Nat.ne_of_lt (sB.lt B rfl))
    clear hA hW2ba
    refine ⟨fun _ => H1.out.turn fW2ba, ?_⟩
    have sB := sB.frm gW2ba sB.lt (by simp)
    refine LeftL.one 3 rfl (by kernel_rfl) ?_
    refine wpList_append_both rfl (.tmp 14) (.tmp 16) 37 rfl 102 i0 _ 2 16 Try.underlying37 HI.out HZ0.out HZ1.out HZ2.out rfl _ 0 [] (some A) rfl sA _ s.l.length (pairCells s.l) own rfl (H1.out.turn fW2ba).sl (pairCells_one _) (by have := HL.out; unfold maxLen; omega) (by have := HL.out; omega) ?_
    intro v1 W2bac own1 hs1 hf1 ho1
    obtain ⟨ad1, cp1, rfl⟩ := hs1.form
    refine wpList_nil ?_
    simp only [Nat.zero_add, List.nil_append] at hs1 ⊢
    have fW2bac : Frm W2.heap.size [] W2 W2bac := fW2ba.call hf1 fW2ba.size (by intro x h1 h2; simp at h2; omega)
    have bo1 : ∀ g, own1 = some g → W2.heap.size ≤ g := by
      intro g hg
      rcases ho1 with h | ⟨g', h, h'⟩
      · rw [h] at hg; cases hg; exact bA
      · rw [h] at hg; cases hg; have := fW2ba.size; omega
    clear ho1
    refine ⟨fun _ => H1.out.turn fW2bac, ?_⟩
    have sB := sB.frm hf1 sB.lt (by simpa using Ne.symm neAB)
    refine LeftL.one 10 rfl (by kernel_rfl) ?_
    refine wpList_append_both rfl (.tmp 17) (.tmp 23) 37 rfl 102 i0 _ 2 16 Try.underlying37 HI.out HZ0.out HZ1.out HZ2.out rfl _ _ _ own1 rfl hs1 _ 1 [.int .i64 (s.last + 1), .int .i64 s.now] (some B) rfl sB (by simp [Value.oneCell']) (by have := HL.out; unfold maxLen; omega) (by have := HL.out; omega) ?_
    intro v2 W5 own2 hs2 hf2 ho2
    obtain ⟨ad2, cp2, rfl⟩ := hs2.form
    refine wpList_nil ?_
    have f5 : Frm W2.heap.size [] W2 W5 := fW2bac.call hf2 fW2bac.size (by intro x h1 h2; have := bo1 x (by simpa using h2); omega)
    have bo2 : ∀ g, own2 = some g → W2.heap.size ≤ g := by
      intro g hg
      rcases ho2 with h | ⟨g', h, h'⟩
      · exact bo1 g (by rw [← h]; exact hg)
      · rw [h] at hg; cases hg; have := fW2bac.size; omega
    refine ⟨fun _ => H1.out.turn f5, ?_⟩
    have h5 := H1.out.turn f5
    have hbase := H1.out.lay.n
    have hs3 : Sl W5 102 2 (.slice ad2 (s.l.length + 1) cp2) (s.l.length + 1) (pairCells (s.l ++ [(s.last + 1, s.now)])) own2 := by
      have := hs2
      rw [pairCells_append]
      exact this
    have HS2 := Lib.hid hs3
    have HB2 := Lib.hid bo2
    have H5 := Lib.hid h5
    have HBASE := Lib.hid hbase
    clear hs2 hs3 bo2 h5 hbase hs1 sA sB bo1 bA hf1 hf2 ho2
    refine LeftL.one 11 rfl (by kernel_rfl) ?_
    iterate 4 go_step
    refine ⟨fun _ => H5.out, ?_⟩
    refine LeftL.one 12 rfl (by kernel_rfl) ?_
    have c5 : W5.cell? ⟨w.heap.size, 5, none⟩ = some v := H5.out.lay.b.cell 5
    have k5 := H5.out.lay.b.free 5
    go_wp2_with fail
    refine ⟨fun h => absurd rfl h, ?_⟩
    refine LeftL.done (by kernel_rfl) ?_
    clear c5 k5
    refine named ?_; intro W6 hW6
    have lay6 : Laying w W6 { s with last := s.last + 1, l := s.l ++ [(s.last + 1, s.now)] } (.slice ad2 (s.l.length + 1) cp2) := by
      obtain ⟨zs, z1, z2⟩ := H5.out.lay.z
      obtain ⟨ys, y1, y2⟩ := H5.out.lay.y
      refine ⟨by rw [hW6]; exact H5.out.lay.b.set 5 _, by rw [hW6]; exact H5.out.lay.f.setCell (.inr (Nat.le_refl _)) _, ⟨zs, z1, by rw [hW6]; exact z2.other _ (by simp) _⟩, ⟨ys, y1, by rw [hW6]; exact y2.other _ (by simp) _⟩, by rw [hW6]; simpa using H5.out.lay.n⟩
    have sl6 : SlN W6 (.slice ad2 (s.l.length + 1) cp2) (s.l ++ [(s.last + 1, s.now)]) own2 := by
      rw [hW6]
      have := HS2.out.setCell ⟨w.heap.size, 5, none⟩ (.slice ad2 (s.l.length + 1) cp2) (fun b hb => by have := HB2.out b hb; have := HBASE.out; simp only; omega)
      show Sl _ 102 2 _ (s.l ++ [(s.last + 1, s.now)]).length _ _
      rw [List.length_append]
      exact this
    clear hW6 H1 H5 HS2
    have h1 := lay6.turn (Frm.refl _ _ W6).drew
    have HL6 := Lib.hid lay6
    have HS6 := Lib.hid sl6
    have H1 := Lib.hid h1
    clear lay6 sl6 h1
    go_wp2_with fail
    refine wp_region_leftL (fun W => Laying w W { s with last := s.last + 1, l := s.l ++ [(s.last + 1, s.now)] } (.slice ad2 (s.l.length + 1) cp2)) 100 (by kernel_rfl) ?_
    refine LeftL.take 0 rfl (by kernel_rfl) (fun _ _ d _ _ h => by cases d <;> exact h) (yields_loadB (ty := 39) rfl rfl (fun W hW => hW.b) rfl Try.underlying39 rfl (nodeC_info _ _)) H1.out ?_; (intro K' hK'; go_simp; refine hK' _ ?_; clear hK' K')
    refine LeftL.run (v := ?_) 1 rfl (by kernel_rfl) rfl (fun _ _ d _ _ h => by cases d <;> exact h) ?_ H1.out ?_; rotate_left; (· intro W hW; have z0 := hW.b.cell 0; have z2 := hW.b.cell 2; have z3 := hW.b.cell 3; have z5 := hW.b.cell 5; simp only [nodeC, List.getElem?_cons_succ, List.getElem?_cons_zero] at z0 z2 z3 z5; clear hW; go_simp; rfl); (intro K' hK'; go_simp; refine hK' _ ?_; clear hK' K')
    refine LeftL.run (v := ?_) 2 rfl (by kernel_rfl) rfl (fun _ _ d _ _ h => by cases d <;> exact h) ?_ H1.out ?_; rotate_left; (· intro W hW; have z0 := hW.b.cell 0; have z2 := hW.b.cell 2; have z3 := hW.b.cell 3; have z5 := hW.b.cell 5; simp only [nodeC, List.getElem?_cons_succ, List.getElem?_cons_zero] at z0 z2 z3 z5; clear hW; go_simp; rfl); (intro K' hK'; go_simp; refine hK' _ ?_; clear hK' K')
    refine LeftL.run (v := ?_) 3 rfl (by kernel_rfl) rfl (fun _ _ d _ _ h => by cases d <;> exact h) ?_ H1.out ?_; rotate_left; (· intro W hW; have z0 := hW.b.cell 0; have z2 := hW.b.cell 2; have z3 := hW.b.cell 3; have z5 := hW.b.cell 5; simp only [nodeC, List.getElem?_cons_succ, List.getElem?_cons_zero] at z0 z2 z3 z5; clear hW; go_simp; rfl); (intro K' hK'; go_simp; refine hK' _ ?_; clear hK' K')
    refine LeftL.run (v := ?_) 4 rfl (by kernel_rfl) rfl (fun _ _ d _ _ h => by cases d <;> exact h) ?_ H1.out ?_; rotate_left; (· intro W hW; have z0 := hW.b.cell 0; have z2 := hW.b.cell 2; have z3 := hW.b.cell 3; have z5 := hW.b.cell 5; simp only [nodeC, List.getElem?_cons_succ, List.getElem?_cons_zero] at z0 z2 z3 z5; clear hW; go_simp; rfl); (intro K' hK'; go_simp; refine hK' _ ?_; clear hK' K')
    refine LeftL.run (v := ?_) 5 rfl (by kernel_rfl) rfl (fun _ _ d _ _ h => by cases d <;> exact h) ?_ H1.out ?_; rotate_left; (· intro W hW; have z0 := hW.b.cell 0; have z2 := hW.b.cell 2; have z3 := hW.b.cell 3; have z5 := hW.b.cell 5; simp only [nodeC, List.getElem?_cons_succ, List.getElem?_cons_zero] at z0 z2 z3 z5; clear hW; go_simp; rfl); (intro K' hK'; go_simp; refine hK' _ ?_; clear hK' K')
    refine LeftL.one 6 rfl (by kernel_rfl) ?_
    obtain ⟨zs, hz1, hz⟩ := H1.out.z
    refine wpList_storeB (ty := 39) (cs := nodeC { s with last := s.last + 1, l := s.l ++ [(s.last + 1, s.now)] } (.slice ad2 (s.l.length + 1) cp2)) rfl rfl hz rfl rfl hz1 (nodeC_info _ _) (nodeC_one _ rfl) ?_
    refine wpList_nil ?_
    have h3 := H1.out.row1 (nodeC { s with last := s.last + 1, l := s.l ++ [(s.last + 1, s.now)] } (.slice ad2 (s.l.length + 1) cp2)) rfl
    refine ⟨fun _ => h3, ?_⟩
    refine LeftL.one 7 rfl (by kernel_rfl) ?_
    obtain ⟨ys, hy1, hy⟩ := h3.y
    refine wpList_storeB (P := Try.prog) (ty := 41) (cs := wordL (1, s.number, s.last + 1)) rfl rfl hy rfl rfl hy1 (wordL_info _) (wordL_one _) ?_
    refine wpList_nil ?_
    have h4 := h3.row2 (wordL (1, s.number, s.last + 1)) rfl
    refine ⟨fun _ => h4, ?_⟩
    refine LeftL.one 8 rfl (by kernel_rfl) ?_
    iterate 4 go_step
    refine ⟨fun _ => h4, ?_⟩
    refine LeftL.done (by kernel_rfl) ?_
    have r1 := (Blk.rowO (g := w.heap.size + 2) (cs := (wordL (1, s.number, s.last + 1)).toArray) (by omega) (hz.row (nodeC { s with last := s.last + 1, l := s.l ++ [(s.last + 1, s.now)] } (.slice ad2 (s.l.length + 1) cp2))))
    have r2 := hy.row (wordL (1, s.number, s.last + 1))
    have hf := h4.f
    have hfin : SlN (((W6.drew).setRow (w.heap.size + 1) (nodeC { s with last := s.last + 1, l := s.l ++ [(s.last + 1, s.now)] } (.slice ad2 (s.l.length + 1) cp2)).toArray).setRow (w.heap.size + 2) (wordL (1, s.number, s.last + 1)).toArray) (.slice ad2 (s.l.length + 1) cp2) (s.l ++ [(s.last + 1, s.now)]) own2 :=
      HS6.out.kept fun b hb => by
        have e1 := HB2.out b hb
        have e2 := HBASE.out
        rw [setRow_other _ _ _ _ (by omega), setRow_other _ _ _ _ (by omega)]
        rfl
    have R1 := Lib.hid r1
    have R2 := Lib.hid r2
    have HF := Lib.hid hf
    have HFIN := Lib.hid hfin
    clear r1 r2 hf hfin h3 h4 hy hz H1
    go_wp2
    try simp only [Exit.inBlock, Exit.then]
    refine bodyPost_ret (v := .tuple #[.agg (nodeC { s with last := s.last + 1, l := s.l ++ [(s.last + 1, s.now)] } (.slice ad2 (s.l.length + 1) cp2)).toArray, .agg (wordL (1, s.number, s.last + 1)).toArray, .int .i64 0]) ?_ rfl ⟨_, own2, rfl, HF.out, HFIN.out, fun g hg => ?_⟩
    · exact results_cct Try.results18 R1.out rfl Try.underlying39 rfl (nodeC_info _ _) R2.out rfl Try.underlying41 rfl (wordL_info _)
    · have := HB2.out g hg
      have := HBASE.out
      omega
end Go.Proofs.Ythmladcepkdheaa
