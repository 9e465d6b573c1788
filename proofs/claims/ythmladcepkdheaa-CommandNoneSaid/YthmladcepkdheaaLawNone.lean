/-
  The law 'CommandNone'.
-/
import Derived.Test.YthmladcepkdheaaNone
import Derived.Test.YthmladcepkdheaaFrame
namespace Go.Proofs.Ythmladcepkdheaa
open Go.ChangeShapes Go.WideShapes Go.ChangeAt Go.RowKit

structure NoneRel (w wr : World) (k n m : Int) (xs : List Nat) : Prop where
  frm : Frm w.heap.size [] w wr
  word : Blk wr w.heap.size 41 [.int .i64 k, .int .i64 n, .int .i64 m]
  cent : NoC wr 4 (some ⟨w.heap.size + 1, 0, none⟩)
  cents : Blk wr (w.heap.size + 1 + 1) 27 [.pointer none, .pointer (some ⟨w.heap.size + 1, 0, none⟩)]
  node : NoC wr 1 (some ⟨w.heap.size + 1 + 1 + 1, 0, none⟩)
  nodes : Blk wr (w.heap.size + 1 + 1 + 1 + 1) 30 [.pointer none, .pointer (some ⟨w.heap.size + 1 + 1 + 1, 0, none⟩)]
  zeros : ∀ x ∈ xs, Blk wr x 41 [.int .i64 0, .int .i64 0, .int .i64 0]

theorem NoneRel.turn {w wr wr' : World} {k n m : Int} {xs : List Nat} (h : NoneRel w wr k n m xs) (hf : Frm wr.heap.size [] wr wr') : NoneRel w wr' k n m xs where
  frm := h.frm.call hf h.frm.size (by simp)
  word := hf.blk h.word h.word.lt (by simp)
  cent := h.cent.frm hf
  cents := hf.blk h.cents h.cents.lt (by simp)
  node := h.node.frm hf
  nodes := hf.blk h.nodes h.nodes.lt (by simp)
  zeros x hx := hf.blk (h.zeros x hx) (h.zeros x hx).lt (by simp)

theorem NoneRel.push {w wr : World} {k n m : Int} {xs : List Nat} (h : NoneRel w wr k n m xs) : NoneRel w (wr.alloc (wordBox 0 0 0)) k n m (wr.heap.size :: xs) := by
  have h' := h.turn ((Frm.refl _ _ wr).alloc (Nat.le_refl _) (wordBox 0 0 0))
  refine { h' with zeros := fun x hx => ?_ }
  rcases List.mem_cons.1 hx with rfl | hx
  · exact Blk.new wr 41 _
  · exact h'.zeros x hx

theorem NoneRel.forget {w wr : World} {k n m : Int} {xs : List Nat} (h : NoneRel w wr k n m xs) : NoneRel w wr k n m [] := { h with zeros := by simp }

set_option maxRecDepth 100000 in
set_option maxHeartbeats 4000000 in
theorem none_walk (a k n m : Int) (w : World) :
    Calls Try.prog 10 #[.int .i64 a, .agg #[.int .i64 k, .int .i64 n, .int .i64 m]] w fun e w' => e = .returned (.bool true) ∧ Frm w.heap.size [] w w' := by
  go_enter Try.func10, Try.ntmps10
  go_wp2_with fail
  go_loopw [9] (fun i wr => ∃ j : Int, (j = 0 ∨ j = 1 ∨ j = 2) ∧ i = .int .i64 j ∧ NoneRel w wr k n m []) (fun i _ => 2 - (intOf i).toNat)
  case atStart =>
    refine ⟨0, .inl rfl, rfl, by repeat (first | with_reducible exact Frm.refl _ _ _ | with_reducible refine Frm.drewN ?_ | with_reducible refine Frm.drew ?_ | ((with_reducible refine Frm.setCell' ?_ ?_); · first | (left; simp; done) | (right; simp; done) | (right; simp; omega)) | ((with_reducible refine Frm.alloc' ?_ ?_); · first | exact Nat.le_refl _ | (simp; done) | (simp; omega))), ?_, .inr ⟨_, rfl, by simp, ?_⟩, ?_, .inr ⟨_, rfl, by simp, ?_⟩, ?_, ?_⟩
    · exact ((((Blk.new w 41 _).alloc _).alloc _).alloc _).alloc _
    · exact ((((Blk.new' (w.alloc _) 90 _ (by simp)).alloc _).alloc _).alloc _).cell 4
    · exact ((Blk.new' ((w.alloc _).alloc _) 27 _ (by simp)).alloc _).alloc _
    · exact ((Blk.new' (((w.alloc _).alloc _).alloc _) 96 _ (by simp)).alloc _).cell 1
    · exact Blk.new' ((((w.alloc _).alloc _).alloc _).alloc _) 30 _ (by simp)
    · simp
  case round =>
    obtain ⟨j, hj, rfl, hr⟩ := hrel
    have q0 := hr.cents.cell 0
    have q1 := hr.cents.cell 1
    have s0 := hr.nodes.cell 0
    have s1 := hr.nodes.cell 1
    have g0 := hr.word.cell 0
    have g1 := hr.word.cell 1
    have g2 := hr.word.cell 2
    simp only [List.getElem?_cons_succ, List.getElem?_cons_zero] at q0 q1 s0 s1 g0 g1 g2
    have HR := Lib.hid hr
    clear hr
    rcases hj with rfl | rfl | rfl
    · go_wp2_with fail
      go_quiet ((fail))
      clear q0 q1 s0 s1
      go_wp2_with fail
      refine (centHear_nil _ _ _ _ _ (by first | exact .inl rfl | exact (HR.out.turn (by repeat (first | with_reducible exact Frm.refl _ _ _ | with_reducible refine Frm.drewN ?_ | with_reducible refine Frm.drew ?_ | ((with_reducible refine Frm.setCell' ?_ ?_); · first | (left; simp; done) | (right; simp; done) | (right; simp; omega)) | ((with_reducible refine Frm.alloc' ?_ ?_); · first | exact Nat.le_refl _ | (simp; done) | (simp; omega))))).cent)).mono ?_; rintro e w1 ⟨rfl, hf⟩
      have h := (HR.out.turn (by repeat (first | with_reducible exact Frm.refl _ _ _ | with_reducible refine Frm.drewN ?_ | with_reducible refine Frm.drew ?_ | ((with_reducible refine Frm.setCell' ?_ ?_); · first | (left; simp; done) | (right; simp; done) | (right; simp; omega)) | ((with_reducible refine Frm.alloc' ?_ ?_); · first | exact Nat.le_refl _ | (simp; done) | (simp; omega))))).turn hf
      have H1 := Lib.hid h
      clear h
      clear hf HR g0 g1 g2
      go_wp2_with fail
      obtain ⟨bx, hb⟩ : ∃ b, b = w1.heap.size := ⟨_, rfl⟩
      have h := H1.out.push
      rw [← hb] at h
      simp only [← hb]
      have H2 := Lib.hid h
      clear h
      clear H1 hb
      refine (nodeAsk_nil _ _ (by first | exact .inl rfl | exact H2.out.node)).mono ?_; rintro e w3 ⟨rfl, hf⟩
      have h := H2.out.turn hf
      have H3 := Lib.hid h
      clear h
      clear hf H2
      go_wp2_with fail
      obtain ⟨by_, hb⟩ : ∃ b, b = w3.heap.size := ⟨_, rfl⟩
      have h := H3.out.push
      rw [← hb] at h
      simp only [← hb]
      have H4 := Lib.hid h
      clear h
      clear H3 hb
      refine (nodeReturn_nil _ _ (by first | exact .inl rfl | exact H4.out.node)).mono ?_; rintro e w5 ⟨rfl, hf⟩
      have h := H4.out.turn hf
      have H5 := Lib.hid h
      clear h
      clear hf H4
      go_wp2_with fail
      obtain ⟨bz, hb⟩ : ∃ b, b = w5.heap.size := ⟨_, rfl⟩
      have h := H5.out.push
      rw [← hb] at h
      simp only [← hb]
      have H6 := Lib.hid h
      clear h
      clear H5 hb
      refine (centWant_nil _ _ _ (by first | exact .inl rfl | exact H6.out.cent)).mono ?_; rintro e w7 ⟨rfl, hf⟩
      have h := H6.out.turn hf
      have H7 := Lib.hid h
      clear h
      clear hf H6
      go_wp2_with fail
      refine (centTick_nil _ _ (by first | exact .inl rfl | exact H7.out.cent)).mono ?_; rintro e w8 ⟨rfl, hf⟩
      have h := H7.out.turn hf
      have H8 := Lib.hid h
      clear h
      clear hf H7
      go_wp2_with fail
      refine (centBreak_nil _ _ (by first | exact .inl rfl | exact H8.out.cent)).mono ?_; rintro e w9 ⟨rfl, hf⟩
      have h := H8.out.turn hf
      have H9 := Lib.hid h
      clear h
      clear hf H8
      have g0 := H9.out.word.cell 0
      have g1 := H9.out.word.cell 1
      have g2 := H9.out.word.cell 2
      simp only [List.getElem?_cons_succ, List.getElem?_cons_zero] at g0 g1 g2
      go_wp2_with fail
      refine (nodeHear_nil _ _ _ _ _ (by first | exact .inl rfl | exact H9.out.node)).mono ?_; rintro e w10 ⟨rfl, hf⟩
      have h := H9.out.turn hf
      have H10 := Lib.hid h
      clear h
      clear hf H9
      clear g0 g1 g2
      go_wp2_with fail
      refine (nodeTick_nil _ _ (by first | exact .inl rfl | exact H10.out.node)).mono ?_; rintro e w11 ⟨rfl, hf⟩
      have h := H10.out.turn hf
      have H11 := Lib.hid h
      clear h
      clear hf H10
      go_wp2_with fail
      refine (nodeBreak_nil _ _ (by first | exact .inl rfl | exact H11.out.node)).mono ?_; rintro e w12 ⟨rfl, hf⟩
      have h := H11.out.turn hf
      have H12 := Lib.hid h
      clear h
      clear hf H11
      go_wp2_with fail
      refine (centLease_nil _ _ (by first | exact .inl rfl | exact H12.out.cent)).mono ?_; rintro e w13 ⟨rfl, hf⟩
      have h := H12.out.turn hf
      have H13 := Lib.hid h
      clear h
      clear hf H12
      go_wp2_with fail
      refine (nodeEnds_nil _ _ (by first | exact .inl rfl | exact H13.out.node)).mono ?_; rintro e w14 ⟨rfl, hf⟩
      have h := H13.out.turn hf
      have H14 := Lib.hid h
      clear h
      clear hf H13
      have x0 := (H14.out.zeros bx (by simp)).cell 0
      have x1 := (H14.out.zeros bx (by simp)).cell 1
      have x2 := (H14.out.zeros bx (by simp)).cell 2
      have y0 := (H14.out.zeros by_ (by simp)).cell 0
      have y1 := (H14.out.zeros by_ (by simp)).cell 1
      have y2 := (H14.out.zeros by_ (by simp)).cell 2
      have z0 := (H14.out.zeros bz (by simp)).cell 0
      have z1 := (H14.out.zeros bz (by simp)).cell 1
      have z2 := (H14.out.zeros bz (by simp)).cell 2
      simp only [List.getElem?_cons_succ, List.getElem?_cons_zero] at x0 x1 x2 y0 y1 y2 z0 z1 z2
      go_wp2_with fail
      refine (centHolds_nil _ _ (by first | exact .inl rfl | exact H14.out.cent)).mono ?_; rintro e w15 ⟨rfl, hf⟩
      have h := H14.out.turn hf
      have H15 := Lib.hid h
      clear h
      clear hf H14
      go_wp2_with fail
      refine (nodeHolds_nil _ _ (by first | exact .inl rfl | exact H15.out.node)).mono ?_; rintro e w16 ⟨rfl, hf⟩
      have h := H15.out.turn hf
      have H16 := Lib.hid h
      clear h
      clear hf H15
      go_wp2_with fail
      exact ⟨⟨1, by simp, rfl, H16.out.forget⟩, by simp [intOf]⟩
    · go_wp2_with fail
      go_quiet ((fail))
      clear q0 q1 s0 s1
      go_wp2_with fail
      refine (centHear_nil _ _ _ _ _ (by first | exact .inl rfl | exact (HR.out.turn (by repeat (first | with_reducible exact Frm.refl _ _ _ | with_reducible refine Frm.drewN ?_ | with_reducible refine Frm.drew ?_ | ((with_reducible refine Frm.setCell' ?_ ?_); · first | (left; simp; done) | (right; simp; done) | (right; simp; omega)) | ((with_reducible refine Frm.alloc' ?_ ?_); · first | exact Nat.le_refl _ | (simp; done) | (simp; omega))))).cent)).mono ?_; rintro e w1 ⟨rfl, hf⟩
      have h := (HR.out.turn (by repeat (first | with_reducible exact Frm.refl _ _ _ | with_reducible refine Frm.drewN ?_ | with_reducible refine Frm.drew ?_ | ((with_reducible refine Frm.setCell' ?_ ?_); · first | (left; simp; done) | (right; simp; done) | (right; simp; omega)) | ((with_reducible refine Frm.alloc' ?_ ?_); · first | exact Nat.le_refl _ | (simp; done) | (simp; omega))))).turn hf
      have H1 := Lib.hid h
      clear h
      clear hf HR g0 g1 g2
      go_wp2_with fail
      obtain ⟨bx, hb⟩ : ∃ b, b = w1.heap.size := ⟨_, rfl⟩
      have h := H1.out.push
      rw [← hb] at h
      simp only [← hb]
      have H2 := Lib.hid h
      clear h
      clear H1 hb
      refine (nodeAsk_nil _ _ (by first | exact .inl rfl | exact H2.out.node)).mono ?_; rintro e w3 ⟨rfl, hf⟩
      have h := H2.out.turn hf
      have H3 := Lib.hid h
      clear h
      clear hf H2
      go_wp2_with fail
      obtain ⟨by_, hb⟩ : ∃ b, b = w3.heap.size := ⟨_, rfl⟩
      have h := H3.out.push
      rw [← hb] at h
      simp only [← hb]
      have H4 := Lib.hid h
      clear h
      clear H3 hb
      refine (nodeReturn_nil _ _ (by first | exact .inl rfl | exact H4.out.node)).mono ?_; rintro e w5 ⟨rfl, hf⟩
      have h := H4.out.turn hf
      have H5 := Lib.hid h
      clear h
      clear hf H4
      go_wp2_with fail
      obtain ⟨bz, hb⟩ : ∃ b, b = w5.heap.size := ⟨_, rfl⟩
      have h := H5.out.push
      rw [← hb] at h
      simp only [← hb]
      have H6 := Lib.hid h
      clear h
      clear H5 hb
      refine (centWant_nil _ _ _ (by first | exact .inl rfl | exact H6.out.cent)).mono ?_; rintro e w7 ⟨rfl, hf⟩
      have h := H6.out.turn hf
      have H7 := Lib.hid h
      clear h
      clear hf H6
      go_wp2_with fail
      refine (centTick_nil _ _ (by first | exact .inl rfl | exact H7.out.cent)).mono ?_; rintro e w8 ⟨rfl, hf⟩
      have h := H7.out.turn hf
      have H8 := Lib.hid h
      clear h
      clear hf H7
      go_wp2_with fail
      refine (centBreak_nil _ _ (by first | exact .inl rfl | exact H8.out.cent)).mono ?_; rintro e w9 ⟨rfl, hf⟩
      have h := H8.out.turn hf
      have H9 := Lib.hid h
      clear h
      clear hf H8
      have g0 := H9.out.word.cell 0
      have g1 := H9.out.word.cell 1
      have g2 := H9.out.word.cell 2
      simp only [List.getElem?_cons_succ, List.getElem?_cons_zero] at g0 g1 g2
      go_wp2_with fail
      refine (nodeHear_nil _ _ _ _ _ (by first | exact .inl rfl | exact H9.out.node)).mono ?_; rintro e w10 ⟨rfl, hf⟩
      have h := H9.out.turn hf
      have H10 := Lib.hid h
      clear h
      clear hf H9
      clear g0 g1 g2
      go_wp2_with fail
      refine (nodeTick_nil _ _ (by first | exact .inl rfl | exact H10.out.node)).mono ?_; rintro e w11 ⟨rfl, hf⟩
      have h := H10.out.turn hf
      have H11 := Lib.hid h
      clear h
      clear hf H10
      go_wp2_with fail
      refine (nodeBreak_nil _ _ (by first | exact .inl rfl | exact H11.out.node)).mono ?_; rintro e w12 ⟨rfl, hf⟩
      have h := H11.out.turn hf
      have H12 := Lib.hid h
      clear h
      clear hf H11
      go_wp2_with fail
      refine (centLease_nil _ _ (by first | exact .inl rfl | exact H12.out.cent)).mono ?_; rintro e w13 ⟨rfl, hf⟩
      have h := H12.out.turn hf
      have H13 := Lib.hid h
      clear h
      clear hf H12
      go_wp2_with fail
      refine (nodeEnds_nil _ _ (by first | exact .inl rfl | exact H13.out.node)).mono ?_; rintro e w14 ⟨rfl, hf⟩
      have h := H13.out.turn hf
      have H14 := Lib.hid h
      clear h
      clear hf H13
      have x0 := (H14.out.zeros bx (by simp)).cell 0
      have x1 := (H14.out.zeros bx (by simp)).cell 1
      have x2 := (H14.out.zeros bx (by simp)).cell 2
      have y0 := (H14.out.zeros by_ (by simp)).cell 0
      have y1 := (H14.out.zeros by_ (by simp)).cell 1
      have y2 := (H14.out.zeros by_ (by simp)).cell 2
      have z0 := (H14.out.zeros bz (by simp)).cell 0
      have z1 := (H14.out.zeros bz (by simp)).cell 1
      have z2 := (H14.out.zeros bz (by simp)).cell 2
      simp only [List.getElem?_cons_succ, List.getElem?_cons_zero] at x0 x1 x2 y0 y1 y2 z0 z1 z2
      go_wp2_with fail
      refine (centHolds_nil _ _ (by first | exact .inl rfl | exact H14.out.cent)).mono ?_; rintro e w15 ⟨rfl, hf⟩
      have h := H14.out.turn hf
      have H15 := Lib.hid h
      clear h
      clear hf H14
      go_wp2_with fail
      refine (nodeHolds_nil _ _ (by first | exact .inl rfl | exact H15.out.node)).mono ?_; rintro e w16 ⟨rfl, hf⟩
      have h := H15.out.turn hf
      have H16 := Lib.hid h
      clear h
      clear hf H15
      go_wp2_with fail
      exact ⟨⟨2, by simp, rfl, H16.out.forget⟩, by simp [intOf]⟩
    · go_wp2_with fail
      refine (awake_any _).mono ?_; rintro e w1 ⟨rfl, hf⟩
      have h := HR.out.turn hf
      have H := Lib.hid h
      clear h
      clear hf HR
      go_wp2_with fail
      go_ret
      exact ⟨rfl, H.out.frm⟩

set_option maxRecDepth 100000 in
theorem commandNone_lifted (os : Os) (started : os.Started) (H : Type) (enc : TypeId × Value → H) :
    ReturnsInHanded {} Try.checked os 10 .any (Rows.commandNoneSpec.pre6 enc Try.prog Try.f10 Rows.commandNoneRow.domain false) (Rows.commandNoneSpec.post enc Try.prog Try.f10 false true false false) := by
  refine law_lift (fn := Try.f10) (s := Rows.commandNoneSpec) (conds := Rows.commandNoneRow.domain) started 2 (by kernel_rfl) Try.func10
      (ChangeSpec.witness6 (enc := enc) (C := Try.checked) false ⟨#[], #[.int .i64 0, .agg #[.int .i64 0, .int .i64 0, .int .i64 0]], []⟩ 8 (by kernel_rfl) (by kernel_rfl) (by kernel_rfl) (by kernel_rfl))
      (by rw [Try.params10]; decide +kernel) (by rw [Try.params10]; rfl) (by kernel_rfl) rfl (fun ds h => by match ds, h with | [d1, d2], _ => rfl) ?_
  intro W base args ds ps hval hA
  rw [Try.params10] at hA hval
  obtain ⟨v0, vs0, d0, ds0, p0, q0, hargs, rfl, rfl, h0, r0⟩ := trodAll_cons hA
  obtain ⟨v1, vs1, d1, ds1, p1, q1, rfl, rfl, rfl, h1, r1⟩ := trodAll_cons r0
  obtain ⟨rfl, rfl, rfl⟩ := trodAll_nil r1
  obtain rfl : args = #[v0, v1] := by cases args; simp_all
  obtain ⟨a3, rfl, _⟩ := open_int Try.underlying3 (hval 0 3 v0 rfl rfl) h0
  obtain ⟨c0, c1, c2, y0, y1, y2, n, rfl, _, _, k0, k1, k2⟩ := Joins.open_agg3 Try.underlying41 (by kernel_rfl) (by kernel_rfl) (hval 1 41 v1 rfl rfl) h1
  obtain ⟨a0, e0, _, _⟩ := DataW.trod_int Try.underlying3 k0
  obtain ⟨a1, e1, _, _⟩ := DataW.trod_int Try.underlying3 k1
  obtain ⟨a2, e2, _, _⟩ := DataW.trod_int Try.underlying3 k2
  obtain ⟨rfl, _⟩ := List.cons.inj e0
  obtain ⟨rfl, _⟩ := List.cons.inj e1
  obtain ⟨rfl, _⟩ := List.cons.inj e2
  exact none_walk a3 a0 a1 a2 W

theorem commandNone_over : Rows.commandNoneRow.holds Try.pinned (OpenSpec.ofChange Rows.commandNoneSpec) :=
  OpenClaim.holds_of_wide 10 Try.f10 rfl rfl rfl rfl rfl rfl rfl ⟨rfl, rfl, rfl, rfl, rfl⟩ rfl rfl rfl rfl rfl (by kernel_rfl) Try.func10 (by kernel_rfl)
    (of_decide_eq_true (by kernel_rfl)) (by unfold Func.isWrapper; first | (rw [if_pos (by decide +kernel)]; kernel_rfl) | (rw [if_neg (by decide +kernel)]; exact ⟨rfl, rfl⟩))
    (fun os started H enc _ => commandNone_lifted os started H enc)

/-- The statement. -/
theorem commandNone_proved : Rows.CommandNoneSaid := commandNone_over
end Go.Proofs.Ythmladcepkdheaa
