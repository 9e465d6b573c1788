/-
  The opening example: 'awake' returns true, and turns nothing of the memory that was there.
-/
import Derived.Test.YthmladcepkdheaaSys2
namespace Go.Proofs.Ythmladcepkdheaa
open Go.RowKit

/-- A centre alone. -/
theorem Syst.fresh {o w : World} {bc bG bM : Nat} {c : CS} (hc : CentS w bc bG bM c) (hf : Frm o.heap.size [] o w) (hb : o.heap.size ≤ bc ∧ o.heap.size ≤ bG ∧ o.heap.size ≤ bM) : Syst o w [] bc bG bM c [] :=
  ⟨hc, by simp, by simp, by simp, by simp, by simp, by simp, hf, by simp; omega, by simp, by simp⟩

/-- A node made anew. -/
theorem Syst.made {o w w' : World} {X : List (Nat × Obj)} {bc bG bM : Nat} {c : CS} {ns : List NP} {number term : Int} (h : Syst o w X bc bG bM c ns) (hb : Blk w' w.heap.size 96 (nodeCells 0 number term 0 0 (.slice none 0 0))) (hf : Frm w.heap.size [] w w') :
    Syst o w' X bc bG bM c (ns ++ [⟨w.heap.size, none, ⟨0, number, term, 0, 0, []⟩⟩]) :=
  h.more hf ⟨⟨_, hb, Sl.nil _ _ _⟩, by simp⟩ rfl rfl

theorem fits0 (number term : Int) (h : 0 ≤ term) (h' : term ≤ 100000) : NS.Fits ⟨0, number, term, 0, 0, []⟩ 0 :=
  ⟨by simp, by simp, by simp, by simp, by simp, by simp, h, h'⟩

/-- The box of a word. -/
abbrev wordBox (k n m : Int) : Obj := .cells #[.int .i64 k, .int .i64 n, .int .i64 m] 41

theorem Syst.boxed {o w : World} {X : List (Nat × Obj)} {bc bG bM : Nat} {c : CS} {ns : List NP} (h : Syst o w X bc bG bM c ns) (u : Obj) : Syst o (w.alloc u) ((w.heap.size, u) :: X) bc bG bM c ns :=
  h.block ((Frm.refl _ _ w).alloc (Nat.le_refl _) u) (Nat.le_refl _) (heap_alloc_new w u)

theorem Syst.word {o w : World} {X : List (Nat × Obj)} {bc bG bM : Nat} {c : CS} {ns : List NP} (h : Syst o w X bc bG bM c ns) {b : Nat} {k n m : Int} (hx : (b, wordBox k n m) ∈ X) :
    w.cell? ⟨b, 0, none⟩ = some (.int .i64 k) ∧ w.cell? ⟨b, 1, none⟩ = some (.int .i64 n) ∧ w.cell? ⟨b, 2, none⟩ = some (.int .i64 m) := by
  have := h.ext _ hx
  simp only at this
  simp [World.cell?, this]

set_option maxRecDepth 100000 in
set_option maxHeartbeats 4000000 in
theorem awake_any (w : World) : Calls Try.prog 16 #[] w fun e w' => e = .returned (.bool true) ∧ Frm w.heap.size [] w w' := by
  go_enter Try.func16, Try.ntmps16
  go_wp2_with fail
  refine (wait_ok _ _ _ (by rfl)).mono ?_; rintro e w' ⟨rfl, rfl⟩
  rw [show waitN 10 100 = 12 from rfl]
  go_wp2_with fail
  refine (newCentre_ok 2 _ _ _ (by rfl) (by rfl)).mono ?_; rintro e w1 ⟨rfl, hc1, hf1⟩
  go_wp2_with fail
  refine (newNode_ok _ _ _ (by rfl) (by rfl)).mono ?_; rintro e w2 ⟨rfl, hn2, hf2⟩
  obtain ⟨ba, hba⟩ : ∃ b, b = w1.heap.size := ⟨_, rfl⟩
  have h2 := (Syst.fresh hc1 hf1 ⟨by omega, by omega, by omega⟩).made hn2 hf2
  rw [← hba] at h2
  simp only [← hba]
  clear hf1 hf2 hn2 hc1 hba
  go_wp2_with fail
  refine (newNode_ok _ _ _ (by rfl) (by rfl)).mono ?_; rintro e w3 ⟨rfl, hn3, hf3⟩
  obtain ⟨bb, hbb⟩ : ∃ b, b = w2.heap.size := ⟨_, rfl⟩
  have h3 := h2.made hn3 hf3
  rw [← hbb] at h3
  simp only [← hbb]
  clear hn3 hf3 h2 hbb
  go_wp2_with fail
  refine (sysHoldsC h3).mono ?_; rintro e w' ⟨rfl, rfl⟩
  go_wp2_with fail
  refine (sysHoldsN (i := 0) h3 rfl).mono ?_; rintro e w4 ⟨rfl, h4⟩
  clear h3
  go_wp2_with fail
  refine (sysWant h4 1 (by decide) (by decide)).mono ?_; rintro e w5 ⟨rfl, h5⟩
  clear h4
  go_wp2_with fail
  refine (sysAsk (i := 0) (N := 0) h5 rfl (fits0 _ _ (by decide) (by decide)) (by decide)).mono ?_; rintro e w6 ⟨he, o6, h6⟩
  replace he : e = .returned (.tuple #[.agg #[.int .i64 1, .int .i64 1, .int .i64 1], .int .i64 0]) := he
  subst he
  clear h5
  go_wp2_with fail
  obtain ⟨bx, hbx⟩ : ∃ b, b = w6.heap.size := ⟨_, rfl⟩
  have h7 := h6.boxed (wordBox 1 1 1)
  rw [← hbx] at h7
  simp only [← hbx]
  clear h6 hbx
  refine (sysHearC h7 1 1 1 (by decide) (by decide) (by decide)).mono ?_; rintro e w8 ⟨he, h8⟩
  replace he : e = .returned (.tuple #[.agg #[.int .i64 2, .int .i64 1, .int .i64 1], .int .i64 0]) := he
  subst he
  clear h7
  go_wp2_with fail
  obtain ⟨by_, hby⟩ : ∃ b, b = w8.heap.size := ⟨_, rfl⟩
  have h9 := h8.boxed (wordBox 2 1 1)
  rw [← hby] at h9
  simp only [← hby]
  clear h8 hby
  refine (sysHearN (i := 0) (N := 1) h9 rfl (fits0 _ _ (by decide) (by decide)).ask (by decide) (2, 1, 1)).mono ?_; rintro e w10 ⟨he, o10, h10⟩
  replace he : e = .returned (.int .i64 0) := he
  subst he
  clear h9
  obtain ⟨x0, x1, x2⟩ := h10.word (b := bx) (k := 1) (n := 1) (m := 1) (by simp)
  obtain ⟨y0, y1, y2⟩ := h10.word (b := by_) (k := 2) (n := 1) (m := 1) (by simp)
  go_wp2_with fail
  refine (sysAsk (i := 1) (N := 0) h10 rfl (fits0 _ _ (by decide) (by decide)) (by decide)).mono ?_; rintro e w11 ⟨he, o11, h11⟩
  replace he : e = .returned (.tuple #[.agg #[.int .i64 1, .int .i64 2, .int .i64 1], .int .i64 0]) := he
  subst he
  clear h10 x0 x1 x2 y0 y1 y2
  go_wp2_with fail
  obtain ⟨bu, hbu⟩ : ∃ b, b = w11.heap.size := ⟨_, rfl⟩
  have h12 := h11.boxed (wordBox 1 2 1)
  rw [← hbu] at h12
  simp only [← hbu]
  clear h11 hbu
  refine (sysHearC h12 1 2 1 (by decide) (by decide) (by decide)).mono ?_; rintro e w13 ⟨he, h13⟩
  replace he : e = .returned (.tuple #[.agg #[.int .i64 0, .int .i64 0, .int .i64 0], .int .i64 0]) := he
  subst he
  clear h12
  go_wp2_with fail
  obtain ⟨bz, hbz⟩ : ∃ b, b = w13.heap.size := ⟨_, rfl⟩
  have h14 := h13.boxed (wordBox 0 0 0)
  rw [← hbz] at h14
  simp only [← hbz]
  clear h13 hbz
  refine (sysHoldsN (i := 0) h14 rfl).mono ?_; rintro e w15 ⟨he, h15⟩
  replace he : e = .returned (.bool true) := he
  subst he
  clear h14
  go_wp2_with fail
  refine (sysHoldsC h15).mono ?_; rintro e w' ⟨he, rfl⟩
  replace he : e = .returned (.bool false) := he
  subst he
  go_wp2_with fail
  refine (sysHoldsN (i := 1) h15 rfl).mono ?_; rintro e w16 ⟨he, h16⟩
  replace he : e = .returned (.bool false) := he
  subst he
  clear h15
  go_wp2_with fail
  refine (sysReturn (i := 0) (N := 1) h16 rfl ((fits0 _ _ (by decide) (by decide)).ask.hear 2 1 1)).mono ?_; rintro e w17 ⟨he, o17, h17⟩
  replace he : e = .returned (.tuple #[.agg #[.int .i64 3, .int .i64 1, .int .i64 1], .int .i64 0]) := he
  subst he
  clear h16
  go_wp2_with fail
  obtain ⟨br, hbr⟩ : ∃ b, b = w17.heap.size := ⟨_, rfl⟩
  have h18 := h17.boxed (wordBox 3 1 1)
  rw [← hbr] at h18
  simp only [← hbr]
  clear h17 hbr
  refine (sysHoldsN (i := 0) h18 rfl).mono ?_; rintro e w19 ⟨he, h19⟩
  replace he : e = .returned (.bool false) := he
  subst he
  clear h18
  obtain ⟨r0, r1, r2⟩ := h19.word (b := br) (k := 3) (n := 1) (m := 1) (by simp)
  go_wp2_with fail
  refine (sysHearC h19 3 1 1 (by decide) (by decide) (by decide)).mono ?_; rintro e w20 ⟨he, h20⟩
  replace he : e = .returned (.tuple #[.agg #[.int .i64 0, .int .i64 0, .int .i64 0], .int .i64 0]) := he
  subst he
  clear h19 r0 r1 r2
  go_wp2_with fail
  refine (sysHoldsC h20).mono ?_; rintro e w' ⟨he, rfl⟩
  replace he : e = .returned (.bool true) := he
  subst he
  go_wp2_with fail
  go_ret
  exact ⟨rfl, h20.root⟩
end Go.Proofs.Ythmladcepkdheaa
