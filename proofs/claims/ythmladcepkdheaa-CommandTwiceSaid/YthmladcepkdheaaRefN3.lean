/-
  The document's node: what it hears.
-/
import Derived.Test.YthmladcepkdheaaRefN2
namespace Go.Proofs.Ythmladcepkdheaa
open Go.RowKit

/-- (A goal that is only a name.) -/
theorem hold {p : Prop} (h : ∀ q : Prop, (p ↔ q) → q) : p := h p Iff.rfl

theorem slA' (W : World) {b : Nat} (hb : W.heap.size = b) : Sl (W.alloc (.cells #[] 102)) 102 2 (.slice (some ⟨b, 0, none⟩) 0 0) 0 [] (some b) := hb ▸ slA W

theorem Sl.tail {w : World} {E g off n cap : Nat} {cs : List Value} {own : Option Nat} (h : Sl w E 2 (.slice (some ⟨g, off, none⟩) n cap) n cs own) (k : Nat) (hk : k ≤ n) :
    Sl w E 2 (.slice (some ⟨g, off, none⟩) 0 0) 0 [] own ∧ Sl w E 2 (.slice (some ⟨g, off + k * 2, none⟩) (n - k) (cap - k)) (n - k) (cs.drop (k * 2)) own := by
  obtain ⟨hl, h | ⟨b, o, c, arr, e1, e2, e3, e4, e5, e6, e7⟩⟩ := h
  · cases h.1
  · cases e1
    subst e2
    refine ⟨⟨by simp, .inr ⟨g, off, 0, arr, rfl, rfl, e3, Nat.le_refl _, Nat.zero_le _, by omega, by simp⟩⟩, ⟨by rw [List.length_drop, hl, Nat.sub_mul], .inr ⟨g, off + k * 2, cap - k, arr, rfl, rfl, e3, by omega, by omega, ?_, ?_⟩⟩⟩
    · have : (cap - k) * 2 = cap * 2 - k * 2 := Nat.sub_mul _ _ _
      omega
    · rw [← e7, List.drop_take, List.drop_drop, Nat.sub_mul]

set_option maxRecDepth 100000 in
set_option maxHeartbeats 2000000 in
theorem refListen_bad (s : NS) (v : Value) (own : Option Nat) (w : World) (hv : SlN w v s.l own) (k n m : Int) (hok : (wordB k n m && n == s.number) = false) :
    Calls Try.prog 20 #[.agg (nodeC s v).toArray, .agg (wordL (k, n, m)).toArray] w fun e w' => e = .returned (.tuple #[.agg (nodeC s v).toArray, .int .i64 2]) ∧ Frm w.heap.size [] w w' := by
  have hone := hv.one
  go_enter Try.func20, Try.ntmps20
  iterate 16 go_step
  refine named ?_; intro W hW
  have hb : Blk W w.heap.size 39 (nodeC s v) := by rw [hW]; repeat (first | exact Blk.new w 39 (nodeC s v) | refine Blk.alloc' ?_)
  have hx : Blk W (w.heap.size + 1) 41 (wordL (k, n, m)) := by rw [hW]; repeat (first | exact Blk.new' _ 41 (wordL (k, n, m)) (by simp) | refine Blk.alloc' ?_)
  obtain ⟨zs, hz1, hz⟩ : ∃ zs, zs.length = 6 ∧ Blk W (w.heap.size + 2) 39 zs := ⟨zero39, rfl, by rw [hW]; repeat (first | exact Blk.new' _ 39 zero39 (by simp) | refine Blk.alloc' ?_)⟩
  have hf : Frm w.heap.size [] w W := by rw [hW]; repeat (first | with_reducible exact Frm.refl _ _ _ | with_reducible refine Frm.drewN ?_ | with_reducible refine Frm.drew ?_ | ((with_reducible refine Frm.setCell' ?_ ?_); · first | (left; simp; done) | (right; simp; done) | (right; simp; omega)) | ((with_reducible refine Frm.alloc' ?_ ?_); · first | exact Nat.le_refl _ | (simp; done) | (simp; omega)))
  have hs : w.heap.size + 3 ≤ W.heap.size := by rw [hW]; simp
  clear hW
  have x0 := hx.cell 0
  have x1 := hx.cell 1
  have x2 := hx.cell 2
  simp only [wordL, List.getElem?_cons_succ, List.getElem?_cons_zero] at x0 x1 x2
  have HB0 := Lib.hid hb
  have HX0 := Lib.hid hx
  have HZ0 := Lib.hid hz
  have HF0 := Lib.hid hf
  have HS0 := Lib.hid hs
  clear hb hx hz hf hs
  cases hw : wordB k n m with
  | false =>
    have HW := Lib.hid hw
    clear hw
    go_wp2_with fail
    refine (refWord_frm _ _ _ _).mono ?_; rintro e w1 ⟨rfl, hf1⟩; rw [HW.out]
    clear x0 x1 x2
    have q0 := HS0.out
    have hb : Blk w1 w.heap.size 39 (nodeC s v) := hf1.blk HB0.out (by omega) (by simp)
    have hx : Blk w1 (w.heap.size + 1) 41 (wordL (k, n, m)) := hf1.blk HX0.out (by omega) (by simp)
    have hz : Blk w1 (w.heap.size + 2) 39 zs := hf1.blk HZ0.out (by omega) (by simp)
    have hf : Frm w.heap.size [] w w1 := HF0.out.call hf1 (by omega) (by simp)
    clear hf1 q0 HB0 HX0 HZ0 HF0 HS0
    have x0 := hx.cell 0
    have x1 := hx.cell 1
    have x2 := hx.cell 2
    simp only [wordL, List.getElem?_cons_succ, List.getElem?_cons_zero] at x0 x1 x2
    have c0 := hb.cell 0
    have c1 := hb.cell 1
    have c4 := hb.cell 4
    have c5 := hb.cell 5
    have k4 := hb.free 4
    have k5 := hb.free 5
    simp only [nodeC, List.getElem?_cons_succ, List.getElem?_cons_zero] at c0 c1 c4 c5
    have HB := Lib.hid hb
    have HX := Lib.hid hx
    have HZ := Lib.hid hz
    have HF := Lib.hid hf
    clear hb hx hz hf
    go_wp2_with (first
      | (with_reducible refine atLoad 39 rfl ?_; refine wpList_loadB (ty := 39) (cs := nodeC s v) rfl rfl HB.out rfl Try.underlying39 rfl (nodeC_info _ _) ?_)
      | (with_reducible refine atStore 39 rfl ?_; refine hold ?_; intro qG hG))
    refine hG.1 ?_
    clear hG qG
    refine wpList_storeB (ty := 39) (cs := nodeC s v) rfl rfl HZ.out rfl rfl hz1 (nodeC_info _ _) (nodeC_one _ hone) ?_
    have r1 := HZ.out.row (nodeC s v)
    have hf2 := HF.out.setRow (g := w.heap.size + 2) (.inr (by omega)) (nodeC s v).toArray
    have R1 := Lib.hid r1
    have HF2 := Lib.hid hf2
    clear hf2 r1
    go_wp2_with fail
    try simp only [Exit.inBlock, Exit.then]
    refine bodyPost_ret (v := .tuple #[.agg (nodeC s v).toArray, .int .i64 2]) ?_ rfl ⟨rfl, HF2.out⟩
    exact results_ct Try.results20 R1.out rfl Try.underlying39 rfl (nodeC_info _ _)
  | true =>
    have hn : ¬ n = s.number := by
      intro h; rw [hw, h] at hok; simp at hok
    have HW := Lib.hid hw
    clear hw
    clear hok
    go_wp2_with fail
    refine (refWord_frm _ _ _ _).mono ?_; rintro e w1 ⟨rfl, hf1⟩; rw [HW.out]
    clear x0 x1 x2
    have q0 := HS0.out
    have hb : Blk w1 w.heap.size 39 (nodeC s v) := hf1.blk HB0.out (by omega) (by simp)
    have hx : Blk w1 (w.heap.size + 1) 41 (wordL (k, n, m)) := hf1.blk HX0.out (by omega) (by simp)
    have hz : Blk w1 (w.heap.size + 2) 39 zs := hf1.blk HZ0.out (by omega) (by simp)
    have hf : Frm w.heap.size [] w w1 := HF0.out.call hf1 (by omega) (by simp)
    clear hf1 q0 HB0 HX0 HZ0 HF0 HS0
    have x0 := hx.cell 0
    have x1 := hx.cell 1
    have x2 := hx.cell 2
    simp only [wordL, List.getElem?_cons_succ, List.getElem?_cons_zero] at x0 x1 x2
    have c0 := hb.cell 0
    have c1 := hb.cell 1
    have c4 := hb.cell 4
    have c5 := hb.cell 5
    have k4 := hb.free 4
    have k5 := hb.free 5
    simp only [nodeC, List.getElem?_cons_succ, List.getElem?_cons_zero] at c0 c1 c4 c5
    have HB := Lib.hid hb
    have HX := Lib.hid hx
    have HZ := Lib.hid hz
    have HF := Lib.hid hf
    clear hb hx hz hf
    go_wp2_with (first
      | (with_reducible refine atLoad 39 rfl ?_; refine wpList_loadB (ty := 39) (cs := nodeC s v) rfl rfl HB.out rfl Try.underlying39 rfl (nodeC_info _ _) ?_)
      | (with_reducible refine atStore 39 rfl ?_; refine hold ?_; intro qG hG))
    refine hG.1 ?_
    clear hG qG
    refine wpList_storeB (ty := 39) (cs := nodeC s v) rfl rfl HZ.out rfl rfl hz1 (nodeC_info _ _) (nodeC_one _ hone) ?_
    have r1 := HZ.out.row (nodeC s v)
    have hf2 := HF.out.setRow (g := w.heap.size + 2) (.inr (by omega)) (nodeC s v).toArray
    have R1 := Lib.hid r1
    have HF2 := Lib.hid hf2
    clear hf2 r1
    go_wp2_with fail
    try simp only [Exit.inBlock, Exit.then]
    refine bodyPost_ret (v := .tuple #[.agg (nodeC s v).toArray, .int .i64 2]) ?_ rfl ⟨rfl, HF2.out⟩
    exact results_ct Try.results20 R1.out rfl Try.underlying39 rfl (nodeC_info _ _)

set_option maxRecDepth 100000 in
set_option maxHeartbeats 2000000 in
theorem refListen_other (s : NS) (v : Value) (own : Option Nat) (w : World) (hv : SlN w v s.l own) (k n m : Int) (hw : wordB k n m = true) (hn : s.number = n) (hk : ¬ k = 2) :
    Calls Try.prog 20 #[.agg (nodeC s v).toArray, .agg (wordL (k, n, m)).toArray] w fun e w' => e = .returned (.tuple #[.agg (nodeC s v).toArray, .int .i64 0]) ∧ Frm w.heap.size [] w w' := by
  have hone := hv.one
  have HN := Lib.hid hn
  clear hn
  go_enter Try.func20, Try.ntmps20
  iterate 16 go_step
  refine named ?_; intro W hW
  have hb : Blk W w.heap.size 39 (nodeC s v) := by rw [hW]; repeat (first | exact Blk.new w 39 (nodeC s v) | refine Blk.alloc' ?_)
  have hx : Blk W (w.heap.size + 1) 41 (wordL (k, n, m)) := by rw [hW]; repeat (first | exact Blk.new' _ 41 (wordL (k, n, m)) (by simp) | refine Blk.alloc' ?_)
  obtain ⟨zs, hz1, hz⟩ : ∃ zs, zs.length = 6 ∧ Blk W (w.heap.size + 2) 39 zs := ⟨zero39, rfl, by rw [hW]; repeat (first | exact Blk.new' _ 39 zero39 (by simp) | refine Blk.alloc' ?_)⟩
  have hf : Frm w.heap.size [] w W := by rw [hW]; repeat (first | with_reducible exact Frm.refl _ _ _ | with_reducible refine Frm.drewN ?_ | with_reducible refine Frm.drew ?_ | ((with_reducible refine Frm.setCell' ?_ ?_); · first | (left; simp; done) | (right; simp; done) | (right; simp; omega)) | ((with_reducible refine Frm.alloc' ?_ ?_); · first | exact Nat.le_refl _ | (simp; done) | (simp; omega)))
  have hs : w.heap.size + 3 ≤ W.heap.size := by rw [hW]; simp
  clear hW
  have x0 := hx.cell 0
  have x1 := hx.cell 1
  have x2 := hx.cell 2
  simp only [wordL, List.getElem?_cons_succ, List.getElem?_cons_zero] at x0 x1 x2
  have HB0 := Lib.hid hb
  have HX0 := Lib.hid hx
  have HZ0 := Lib.hid hz
  have HF0 := Lib.hid hf
  have HS0 := Lib.hid hs
  clear hb hx hz hf hs
  have HW := Lib.hid hw
  clear hw
  go_wp2_with fail
  refine (refWord_frm _ _ _ _).mono ?_; rintro e w1 ⟨rfl, hf1⟩; rw [HW.out]
  clear x0 x1 x2
  have q0 := HS0.out
  have hb : Blk w1 w.heap.size 39 (nodeC s v) := hf1.blk HB0.out (by omega) (by simp)
  have hx : Blk w1 (w.heap.size + 1) 41 (wordL (k, n, m)) := hf1.blk HX0.out (by omega) (by simp)
  have hz : Blk w1 (w.heap.size + 2) 39 zs := hf1.blk HZ0.out (by omega) (by simp)
  have hf : Frm w.heap.size [] w w1 := HF0.out.call hf1 (by omega) (by simp)
  clear hf1 q0 HB0 HX0 HZ0 HF0 HS0
  have x0 := hx.cell 0
  have x1 := hx.cell 1
  have x2 := hx.cell 2
  simp only [wordL, List.getElem?_cons_succ, List.getElem?_cons_zero] at x0 x1 x2
  have c0 := hb.cell 0
  have c1 := hb.cell 1
  have c4 := hb.cell 4
  have c5 := hb.cell 5
  have k4 := hb.free 4
  have k5 := hb.free 5
  simp only [nodeC, List.getElem?_cons_succ, List.getElem?_cons_zero] at c0 c1 c4 c5
  have HB := Lib.hid hb
  have HX := Lib.hid hx
  have HZ := Lib.hid hz
  have HF := Lib.hid hf
  clear hb hx hz hf
  rw [HN.out] at c0
  go_wp2_with (first
    | (with_reducible refine atLoad 39 rfl ?_; refine wpList_loadB (ty := 39) (cs := nodeC s v) rfl rfl HB.out rfl Try.underlying39 rfl (nodeC_info _ _) ?_)
    | (with_reducible refine atStore 39 rfl ?_; refine hold ?_; intro qG hG))
  refine hG.1 ?_
  clear hG qG
  refine wpList_storeB (ty := 39) (cs := nodeC s v) rfl rfl HZ.out rfl rfl hz1 (nodeC_info _ _) (nodeC_one _ hone) ?_
  have r1 := HZ.out.row (nodeC s v)
  have hf2 := HF.out.setRow (g := w.heap.size + 2) (.inr (by omega)) (nodeC s v).toArray
  have R1 := Lib.hid r1
  have HF2 := Lib.hid hf2
  clear hf2 r1
  go_wp2_with fail
  try simp only [Exit.inBlock, Exit.then]
  refine bodyPost_ret (v := .tuple #[.agg (nodeC s v).toArray, .int .i64 0]) ?_ rfl ⟨rfl, HF2.out⟩
  exact results_ct Try.results20 R1.out rfl Try.underlying39 rfl (nodeC_info _ _)

/-- What stands in each round of 'Listen'. -/
structure Hearing (w W : World) (s : NS) (v : Value) (own : Option Nat) (n m : Int) : Prop where
  b : Blk W w.heap.size 39 (nodeC s v)
  x : Blk W (w.heap.size + 1) 41 (wordL (2, n, m))
  z : ∃ zs, zs.length = 6 ∧ Blk W (w.heap.size + 2) 39 zs
  f : Frm w.heap.size [] w W
  sl : SlN W v s.l own
  low : ∀ g, own = some g → g < w.heap.size
theorem Hearing.turn {w W W' : World} {s : NS} {v : Value} {own : Option Nat} {n m : Int} (h : Hearing w W s v own n m) (hf : Frm W.heap.size [] W W') : Hearing w W' s v own n m := by
  obtain ⟨zs, hz, hz'⟩ := h.z
  exact ⟨hf.blk h.b h.b.lt (by simp), hf.blk h.x h.x.lt (by simp), ⟨zs, hz, hf.blk hz' hz'.lt (by simp)⟩, h.f.call hf h.f.size (by simp), h.sl.frm hf h.sl.lt (by simp), h.low⟩

/-- What 'Listen' answers to a Grant. -/
def GrantedN (w : World) (s : NS) (v : Value) (m : Int) (e : Ending) (w' : World) : Prop :=
  Frm w.heap.size [] w w' ∧ match takeL s.l m with
    | none => e = .returned (.tuple #[.agg (nodeC s v).toArray, .int .i64 0])
    | some (t, r) => ∃ v' own', e = .returned (.tuple #[.agg (nodeC { s with end_ := max s.end_ (t + s.term), l := r } v').toArray, .int .i64 0]) ∧ SlN w' v' r own' ∧ (∀ g, own' = some g → w.heap.size ≤ g)
theorem GrantedN.none {w : World} {s : NS} {v : Value} {m : Int} {e : Ending} {w' : World} (ht : takeL s.l m = none) (hf : Frm w.heap.size [] w w') (he : e = .returned (.tuple #[.agg (nodeC s v).toArray, .int .i64 0])) : GrantedN w s v m e w' := by
  unfold GrantedN; rw [ht]; exact ⟨hf, he⟩
theorem GrantedN.some {w : World} {s : NS} {v : Value} {m : Int} {e : Ending} {w' : World} {t : Int} {r : List (Int × Int)} (ht : takeL s.l m = some (t, r)) (hf : Frm w.heap.size [] w w')
    (he : ∃ v' own', e = .returned (.tuple #[.agg (nodeC { s with end_ := max s.end_ (t + s.term), l := r } v').toArray, .int .i64 0]) ∧ SlN w' v' r own' ∧ (∀ g, own' = Option.some g → w.heap.size ≤ g)) : GrantedN w s v m e w' := by
  unfold GrantedN; rw [ht]; exact ⟨hf, he⟩

set_option maxRecDepth 100000 in
set_option maxHeartbeats 8000000 in
theorem refListen_grant (s : NS) (v : Value) (own : Option Nat) (w : World) (hv : SlN w v s.l own) (n m : Int) (hw : wordB 2 n m = true) (hn : s.number = n) (hlen : s.l.length ≤ 100000)
    (ht : ∀ p ∈ s.l, 0 ≤ p.2 ∧ p.2 ≤ 1000000) (h0 : 0 ≤ s.term) (h1 : s.term ≤ 1000000) :
    Calls Try.prog 20 #[.agg (nodeC s v).toArray, .agg (wordL (2, n, m)).toArray] w (GrantedN w s v m) := by
  obtain ⟨i0, hi, hz0, hz1', hz2⟩ : ∃ i0, Try.prog.info? 102 = some i0 ∧ i0.zero = some (.agg #[.int .i64 0, .int .i64 0]) ∧ i0.size = 2 ∧ i0.bytes = 16 := by
    have h := info102
    cases hq : Try.prog.info? 102 with
    | none => simp [hq] at h
    | some i => simp [hq] at h; exact ⟨i, rfl, h.1, h.2.1, h.2.2⟩
  have hone := hv.one
  have HN := Lib.hid hn
  have HVV := Lib.hid hv
  have HI := Lib.hid hi
  have HZI0 := Lib.hid hz0
  have HZI1 := Lib.hid hz1'
  have HZI2 := Lib.hid hz2
  have HL := Lib.hid hlen
  have HT := Lib.hid ht
  clear ht hlen hz2 hz1' hz0 hi hv hn
  go_enter Try.func20, Try.ntmps20
  iterate 16 go_step
  refine named ?_; intro W hW
  have hb : Blk W w.heap.size 39 (nodeC s v) := by rw [hW]; repeat (first | exact Blk.new w 39 (nodeC s v) | refine Blk.alloc' ?_)
  have hx : Blk W (w.heap.size + 1) 41 (wordL (2, n, m)) := by rw [hW]; repeat (first | exact Blk.new' _ 41 (wordL (2, n, m)) (by simp) | refine Blk.alloc' ?_)
  obtain ⟨zs, hz1, hz⟩ : ∃ zs, zs.length = 6 ∧ Blk W (w.heap.size + 2) 39 zs := ⟨zero39, rfl, by rw [hW]; repeat (first | exact Blk.new' _ 39 zero39 (by simp) | refine Blk.alloc' ?_)⟩
  have hf : Frm w.heap.size [] w W := by rw [hW]; repeat (first | with_reducible exact Frm.refl _ _ _ | with_reducible refine Frm.drewN ?_ | with_reducible refine Frm.drew ?_ | ((with_reducible refine Frm.setCell' ?_ ?_); · first | (left; simp; done) | (right; simp; done) | (right; simp; omega)) | ((with_reducible refine Frm.alloc' ?_ ?_); · first | exact Nat.le_refl _ | (simp; done) | (simp; omega)))
  have hs : w.heap.size + 3 ≤ W.heap.size := by rw [hW]; simp
  clear hW
  have x0 := hx.cell 0
  have x1 := hx.cell 1
  have x2 := hx.cell 2
  simp only [wordL, List.getElem?_cons_succ, List.getElem?_cons_zero] at x0 x1 x2
  have HB0 := Lib.hid hb
  have HX0 := Lib.hid hx
  have HZ0 := Lib.hid hz
  have HF0 := Lib.hid hf
  have HS0 := Lib.hid hs
  clear hb hx hz hf hs
  have HW := Lib.hid hw
  clear hw
  go_wp2_with fail
  refine (refWord_frm _ _ _ _).mono ?_; rintro e w1 ⟨rfl, hf1⟩; rw [HW.out]
  clear x0 x1 x2
  have q0 := HS0.out
  have hb : Blk w1 w.heap.size 39 (nodeC s v) := hf1.blk HB0.out (by omega) (by simp)
  have hx : Blk w1 (w.heap.size + 1) 41 (wordL (2, n, m)) := hf1.blk HX0.out (by omega) (by simp)
  have hz : Blk w1 (w.heap.size + 2) 39 zs := hf1.blk HZ0.out (by omega) (by simp)
  have hf : Frm w.heap.size [] w w1 := HF0.out.call hf1 (by omega) (by simp)
  clear hf1 q0 HB0 HX0 HZ0 HF0 HS0
  have x0 := hx.cell 0
  have x1 := hx.cell 1
  have x2 := hx.cell 2
  simp only [wordL, List.getElem?_cons_succ, List.getElem?_cons_zero] at x0 x1 x2
  have c0 := hb.cell 0
  have c1 := hb.cell 1
  have c4 := hb.cell 4
  have c5 := hb.cell 5
  have k4 := hb.free 4
  have k5 := hb.free 5
  simp only [nodeC, List.getElem?_cons_succ, List.getElem?_cons_zero] at c0 c1 c4 c5
  have HB := Lib.hid hb
  have HX := Lib.hid hx
  have HZ := Lib.hid hz
  have HF := Lib.hid hf
  clear hb hx hz hf
  rw [HN.out] at c0
  have hh : Hearing w w1 s v own n m := ⟨HB.out, HX.out, ⟨zs, hz1, HZ.out⟩, HF.out, HVV.out.frm HF.out HVV.out.lt (by simp), HVV.out.lt⟩
  have HH := Lib.hid hh
  clear hh
  go_wp2_with fail
  clear x0 x1 x2 c0 c1 c4 c5 k4 k5 HB HX HZ HF HVV
  go_loopw [6] (fun i wr => ∃ j : Nat, i = .int .i64 j ∧ j ≤ s.l.length ∧ (∀ p ∈ s.l.take j, p.1 ≠ m) ∧ Hearing w wr s v own n m) (fun i _ => s.l.length - (intOf i).toNat)
  case atStart =>
    exact ⟨0, rfl, Nat.zero_le _, by simp, HH.out⟩
  case round =>
    clear HH
    obtain ⟨j, rfl, hj, hbefore, hh⟩ := hrel
    have hj100 : (j : Int) ≤ 100000 := by have := HL.out; omega
    have c5 := hh.b.cell 5
    simp only [nodeC, List.getElem?_cons_succ, List.getElem?_cons_zero] at c5
    by_cases hjl : j < s.l.length
    · obtain ⟨g, off, cap, rfl, hown, hcl, hcm⟩ := hh.sl.pos (by omega)
      obtain ⟨t0, t1⟩ := HT.out s.l[j] (List.getElem_mem hjl)
      have z0 : wr.cell? ⟨g, off + j * 2, none⟩ = some (.int .i64 s.l[j].1) := by
        have := hh.sl.cell (2 * j) (by rw [pairCells_length]; omega)
        rw [pairCells_fst, List.getElem?_eq_getElem hjl] at this
        rw [show off + j * 2 = off + 2 * j by omega]
        exact this
      have z1 : wr.cell? ⟨g, off + j * 2 + 1, none⟩ = some (.int .i64 s.l[j].2) := by
        have := hh.sl.cell (2 * j + 1) (by rw [pairCells_length]; omega)
        rw [pairCells_snd, List.getElem?_eq_getElem hjl] at this
        rw [show off + j * 2 + 1 = off + (2 * j + 1) by omega]
        exact this
      have htake : s.l[j].1 = m → takeL s.l m = some (s.l[j].2, s.l.drop (j + 1)) := by
        intro he
        have hs' : s.l = s.l.take j ++ s.l[j] :: s.l.drop (j + 1) := by rw [List.getElem_cons_drop, List.take_append_drop]
        have := takeL_some (post := s.l.drop (j + 1)) hbefore he
        rw [← hs'] at this
        exact this
      have hnext : s.l[j].1 ≠ m → ∀ p ∈ s.l.take (j + 1), p.1 ≠ m := by
        intro hne p hp
        rw [List.take_succ_eq_append_getElem hjl] at hp
        rcases List.mem_append.1 hp with hp | hp
        · exact hbefore p hp
        · rw [List.mem_singleton.1 hp]; exact hne
      obtain ⟨p1, hp1⟩ : ∃ x, x = s.l[j].1 := ⟨_, rfl⟩
      obtain ⟨p2, hp2⟩ : ∃ x, x = s.l[j].2 := ⟨_, rfl⟩
      rw [← hp1] at z0 htake hnext
      rw [← hp2] at z1 t0 t1 htake
      clear hp1 hp2
      have x2 := hh.x.cell 2
      simp only [wordL, List.getElem?_cons_succ, List.getElem?_cons_zero] at x2
      have hjl' : (j : Int) < (s.l.length : Int) := by omega
      have HH := Lib.hid hh
      have HTK := Lib.hid htake
      have HNX := Lib.hid hnext
      have HBF := Lib.hid hbefore
      have HO := Lib.hid hown
      have HJ := Lib.hid hjl
      clear hjl hown hbefore hnext htake hh
      by_cases hm : p1 = m
      · have hk := HTK.out hm
        subst hm
        have HK := Lib.hid hk
        clear hk
        have c1 := HH.out.b.cell 1
        have c4 := HH.out.b.cell 4
        have k4 := HH.out.b.free 4
        simp only [nodeC, List.getElem?_cons_succ, List.getElem?_cons_zero] at c1 c4
        clear HTK HNX HBF
        have y0 := HH.out.b.lt
        have y1 : w.heap.size ≠ wr.heap.size := by omega
        have l1 : (j : Int) + 1 ≤ (s.l.length : Int) := by omega
        have l0 : (0 : Int) ≤ (j : Int) + 1 := by omega
        have l2 : ((j : Int) + 1).toNat = j + 1 := by omega
        have hsz' : (⟨g, off, none⟩ : Addr).add ((j + 1) * 2) = ⟨g, off + (j + 1) * 2, none⟩ := by unfold Addr.add; split <;> simp_all
        unfold maxLen at hcm
        by_cases hmx : s.end_ < p2 + s.term
        · have he : max s.end_ (p2 + s.term) = p2 + s.term := by omega
          have HE := Lib.hid he
          clear he
          by_cases hcp : cap = j + 1
          · subst hcp
            go_wp2_with fail
            go_quiet (fail)
            go_wp2_with fail
            refine wp_region_left (by kernel_rfl) ?_
            refine Left.headD 13 (by kernel_rfl) ?_
            simp only [List.take_succ_cons, List.take_zero, List.drop_succ_cons, List.drop_zero, Nat.reduceSub]
            repeat (quiet_step (fail))
            refine wpQuiet_nil ?_
            rintro _ ⟨nq, rfl⟩
            refine Left.tail (by kernel_rfl) ?_
            simp only [List.drop_succ_cons, List.drop_zero]
            go_wp2_with (at_builtin; refine hold ?_; intro qG hG)
            refine hG.1 ?_
            clear hG qG
            refine namedL ?_; intro W3 hW3
            have fr : Frm wr.heap.size [w.heap.size] wr W3 := by rw [hW3]; repeat (first | with_reducible exact Frm.refl _ _ _ | with_reducible refine Frm.drewN ?_ | with_reducible refine Frm.drew ?_ | ((with_reducible refine Frm.setCell' ?_ ?_); · first | (left; simp; done) | (right; simp; done) | (right; simp; omega)) | ((with_reducible refine Frm.setRow' ?_ ?_); · first | (left; simp; done) | (right; simp; done) | (right; simp; omega)) | ((with_reducible refine Frm.alloc' ?_ ?_); · first | exact Nat.le_refl _ | (simp; done) | (simp; omega)))
            have sA : Sl W3 102 2 (.slice (some ⟨wr.heap.size, 0, none⟩) 0 0) 0 [] (some wr.heap.size) := by
              rw [hW3]
              exact slA' _ (by simp)
            have e1 : s.l.drop (j + 1) = [] := List.drop_eq_nil_of_le (by have := HJ.out; omega)
            have sV : Sl W3 102 2 (.slice (some ⟨g, off, none⟩) 0 0) 0 [] own := ((HH.out.sl.frm fr HH.out.sl.lt (fun b hb => by have := HH.out.low b hb; simp; omega)).tail (j + 1) (by have := HJ.out; omega)).1
            have E1 := Lib.hid e1
            clear e1
            have b3 : Blk W3 w.heap.size 39 (nodeC { s with end_ := p2 + s.term, l := s.l.drop (j + 1) } (.slice (some ⟨g, off, none⟩) s.l.length (j + 1))) := by
              rw [hW3]
              exact (HH.out.b.drewN.set 4 _).alloc _
            obtain ⟨zs', hz1, hz⟩ := HH.out.z
            have z3 : Blk W3 (w.heap.size + 2) 39 zs' := by rw [hW3]; (repeat (first | with_reducible exact hz | with_reducible refine Blk.drewN ?_ | with_reducible refine Blk.drew ?_ | with_reducible refine Blk.alloc' ?_ | ((with_reducible refine Blk.other' ?_ ?_); · (simp; try omega)) | ((with_reducible refine Blk.rowO ?_ ?_); · (simp; try omega)) | exact hz))
            have f3 : Frm w.heap.size [] w W3 := HH.out.f.call fr HH.out.f.size (by intro x h1 h2; simp at h2; omega)
            have y3 := hz.lt
            have y4 : wr.heap.size < W3.heap.size := by rw [hW3]; simp
            clear hW3 fr hz
            refine wpList_append_both rfl (.tmp 51) (.tmp 56) 37 rfl 102 i0 _ 2 16 Try.underlying37 HI.out HZI0.out HZI1.out HZI2.out rfl _ 0 [] (some wr.heap.size) rfl sA _ 0 [] own rfl sV (by simp) (by unfold maxLen; omega) (by omega) ?_
            intro v1 W4 own1 hs1 hf1 ho1
            obtain ⟨ad1, cp1, rfl⟩ := hs1.form
            simp only [Nat.zero_add, List.nil_append] at hs1 ⊢
            have b4 := hf1.blk b3 (by omega) (by simp; omega)
            have z4 := hf1.blk z3 (by omega) (by simp; omega)
            have f4 : Frm w.heap.size [] w W4 := f3.call hf1 f3.size (by intro x h1 h2; simp at h2; omega)
            have bo : ∀ g', own1 = some g' → w.heap.size + 3 ≤ g' := by
              intro g' hg
              rcases ho1 with h | ⟨g'', h, h'⟩
              · rw [h] at hg; cases hg; omega
              · rw [h] at hg; cases hg; omega
            have c5 := b4.cell 5
            have k5 := b4.free 5
            simp only [nodeC, List.getElem?_cons_succ, List.getElem?_cons_zero] at c5
            have B4 := Lib.hid b4
            have Z4 := Lib.hid z4
            have F4 := Lib.hid f4
            have BOW := Lib.hid bo
            have S1 := Lib.hid hs1
            clear hs1 bo f4 z4 b4
            clear sA sV b3 z3 f3 y3 y4 hf1 ho1 HO
            go_wp2_with (first
              | (with_reducible refine atLoad 39 rfl ?_; refine wpList_loadB (ty := 39) rfl rfl (show Blk _ _ 39 (nodeC { s with end_ := p2 + s.term, l := s.l.drop (j + 1) } (.slice ad1 0 cp1)) from B4.out.set 5 _) rfl Try.underlying39 rfl (nodeC_info _ _) ?_)
              | (with_reducible refine atStore 39 rfl ?_; refine hold ?_; intro qG hG))
            refine hG.1 ?_
            clear hG qG
            have zz : Blk (W4.setCell ⟨w.heap.size, 5, none⟩ (.slice ad1 0 cp1)) (w.heap.size + 2) 39 zs' := Z4.out.other _ (by simp) _
            refine wpList_storeB (ty := 39) (cs := nodeC { s with end_ := p2 + s.term, l := s.l.drop (j + 1) } (.slice ad1 0 cp1)) rfl rfl zz rfl rfl hz1 (nodeC_info _ _) (nodeC_one _ rfl) ?_
            have r1 := zz.row (nodeC { s with end_ := p2 + s.term, l := s.l.drop (j + 1) } (.slice ad1 0 cp1))
            have hf2 := (F4.out.setCell (p := ⟨w.heap.size, 5, none⟩) (.inr (Nat.le_refl _)) (.slice ad1 0 cp1)).setRow (g := w.heap.size + 2) (.inr (by omega)) (nodeC { s with end_ := p2 + s.term, l := s.l.drop (j + 1) } (.slice ad1 0 cp1)).toArray
            have hs2 : SlN ((W4.setCell ⟨w.heap.size, 5, none⟩ (.slice ad1 0 cp1)).setRow (w.heap.size + 2) (nodeC { s with end_ := p2 + s.term, l := s.l.drop (j + 1) } (.slice ad1 0 cp1)).toArray) (.slice ad1 0 cp1) (s.l.drop (j + 1)) own1 := by
              have := (S1.out.setCell ⟨w.heap.size, 5, none⟩ (.slice ad1 0 cp1) (fun b hb => by have := BOW.out b hb; simp only; omega)).kept (w' := (W4.setCell ⟨w.heap.size, 5, none⟩ (.slice ad1 0 cp1)).setRow (w.heap.size + 2) (nodeC { s with end_ := p2 + s.term, l := s.l.drop (j + 1) } (.slice ad1 0 cp1)).toArray) (fun b hb => setRow_other _ _ _ _ (by have := BOW.out b hb; omega))
              show Sl _ 102 2 _ (s.l.drop (j + 1)).length (pairCells (s.l.drop (j + 1))) _
              rw [E1.out]
              exact this
            have R1 := Lib.hid r1
            have HF2 := Lib.hid hf2
            have HS2 := Lib.hid hs2
            clear hs2 hf2 r1
            clear zz
            go_wp2_with fail
            try simp only [Exit.inBlock, Exit.then]
            refine bodyPost_ret (v := .tuple #[.agg (nodeC { s with end_ := p2 + s.term, l := s.l.drop (j + 1) } (.slice ad1 0 cp1)).toArray, .int .i64 0]) ?_ rfl (GrantedN.some HK.out HF2.out ⟨_, own1, by rw [HE.out], HS2.out, fun g' hg => by have := BOW.out g' hg; omega⟩)
            exact results_ct Try.results20 R1.out rfl Try.underlying39 rfl (nodeC_info _ _)
          · go_wp2_with fail
            go_quiet (fail)
            go_wp2_with fail
            refine wp_region_left (by kernel_rfl) ?_
            refine Left.headD 13 (by kernel_rfl) ?_
            simp only [List.take_succ_cons, List.take_zero, List.drop_succ_cons, List.drop_zero, Nat.reduceSub]
            repeat (quiet_step (fail))
            refine wpQuiet_nil ?_
            rintro _ ⟨nq, rfl⟩
            refine Left.tail (by kernel_rfl) ?_
            simp only [List.drop_succ_cons, List.drop_zero]
            go_wp2_with (at_builtin; refine hold ?_; intro qG hG)
            refine hG.1 ?_
            clear hG qG
            refine namedL ?_; intro W3 hW3
            have fr : Frm wr.heap.size [w.heap.size] wr W3 := by rw [hW3]; repeat (first | with_reducible exact Frm.refl _ _ _ | with_reducible refine Frm.drewN ?_ | with_reducible refine Frm.drew ?_ | ((with_reducible refine Frm.setCell' ?_ ?_); · first | (left; simp; done) | (right; simp; done) | (right; simp; omega)) | ((with_reducible refine Frm.setRow' ?_ ?_); · first | (left; simp; done) | (right; simp; done) | (right; simp; omega)) | ((with_reducible refine Frm.alloc' ?_ ?_); · first | exact Nat.le_refl _ | (simp; done) | (simp; omega)))
            have sA : Sl W3 102 2 (.slice (some ⟨wr.heap.size, 0, none⟩) 0 0) 0 [] (some wr.heap.size) := by
              rw [hW3]
              exact slA' _ (by simp)
            have sV : Sl W3 102 2 (.slice (some ⟨g, off + (j + 1) * 2, none⟩) (s.l.length - (j + 1)) (cap - (j + 1))) (s.l.length - (j + 1)) (pairCells (s.l.drop (j + 1))) own := by
              have h := (HH.out.sl.frm fr HH.out.sl.lt (fun b hb => by have := HH.out.low b hb; simp; omega)).tail (j + 1) (by have := HJ.out; omega)
              rw [pairCells_drop] at h
              exact h.2
            have b3 : Blk W3 w.heap.size 39 (nodeC { s with end_ := p2 + s.term, l := s.l.drop (j + 1) } (.slice (some ⟨g, off, none⟩) s.l.length cap)) := by
              rw [hW3]
              exact (HH.out.b.drewN.set 4 _).alloc _
            obtain ⟨zs', hz1, hz⟩ := HH.out.z
            have z3 : Blk W3 (w.heap.size + 2) 39 zs' := by rw [hW3]; (repeat (first | with_reducible exact hz | with_reducible refine Blk.drewN ?_ | with_reducible refine Blk.drew ?_ | with_reducible refine Blk.alloc' ?_ | ((with_reducible refine Blk.other' ?_ ?_); · (simp; try omega)) | ((with_reducible refine Blk.rowO ?_ ?_); · (simp; try omega)) | exact hz))
            have f3 : Frm w.heap.size [] w W3 := HH.out.f.call fr HH.out.f.size (by intro x h1 h2; simp at h2; omega)
            have y3 := hz.lt
            have y4 : wr.heap.size < W3.heap.size := by rw [hW3]; simp
            clear hW3 fr hz
            refine wpList_append_both rfl (.tmp 51) (.tmp 56) 37 rfl 102 i0 _ 2 16 Try.underlying37 HI.out HZI0.out HZI1.out HZI2.out rfl _ 0 [] (some wr.heap.size) rfl sA _ (s.l.length - (j + 1)) (pairCells (s.l.drop (j + 1))) own rfl sV (pairCells_one _) (by have := HL.out; unfold maxLen; omega) (by have := HL.out; omega) ?_
            intro v1 W4 own1 hs1 hf1 ho1
            obtain ⟨ad1, cp1, rfl⟩ := hs1.form
            simp only [Nat.zero_add, List.nil_append] at hs1 ⊢
            have b4 := hf1.blk b3 (by omega) (by simp; omega)
            have z4 := hf1.blk z3 (by omega) (by simp; omega)
            have f4 : Frm w.heap.size [] w W4 := f3.call hf1 f3.size (by intro x h1 h2; simp at h2; omega)
            have bo : ∀ g', own1 = some g' → w.heap.size + 3 ≤ g' := by
              intro g' hg
              rcases ho1 with h | ⟨g'', h, h'⟩
              · rw [h] at hg; cases hg; omega
              · rw [h] at hg; cases hg; omega
            have c5 := b4.cell 5
            have k5 := b4.free 5
            simp only [nodeC, List.getElem?_cons_succ, List.getElem?_cons_zero] at c5
            have B4 := Lib.hid b4
            have Z4 := Lib.hid z4
            have F4 := Lib.hid f4
            have BOW := Lib.hid bo
            have S1 := Lib.hid hs1
            clear hs1 bo f4 z4 b4
            clear sA sV b3 z3 f3 y3 y4 hf1 ho1 HO
            go_wp2_with (first
              | (with_reducible refine atLoad 39 rfl ?_; refine wpList_loadB (ty := 39) rfl rfl (show Blk _ _ 39 (nodeC { s with end_ := p2 + s.term, l := s.l.drop (j + 1) } (.slice ad1 (s.l.length - (j + 1)) cp1)) from B4.out.set 5 _) rfl Try.underlying39 rfl (nodeC_info _ _) ?_)
              | (with_reducible refine atStore 39 rfl ?_; refine hold ?_; intro qG hG))
            refine hG.1 ?_
            clear hG qG
            have zz : Blk (W4.setCell ⟨w.heap.size, 5, none⟩ (.slice ad1 (s.l.length - (j + 1)) cp1)) (w.heap.size + 2) 39 zs' := Z4.out.other _ (by simp) _
            refine wpList_storeB (ty := 39) (cs := nodeC { s with end_ := p2 + s.term, l := s.l.drop (j + 1) } (.slice ad1 (s.l.length - (j + 1)) cp1)) rfl rfl zz rfl rfl hz1 (nodeC_info _ _) (nodeC_one _ rfl) ?_
            have r1 := zz.row (nodeC { s with end_ := p2 + s.term, l := s.l.drop (j + 1) } (.slice ad1 (s.l.length - (j + 1)) cp1))
            have hf2 := (F4.out.setCell (p := ⟨w.heap.size, 5, none⟩) (.inr (Nat.le_refl _)) (.slice ad1 (s.l.length - (j + 1)) cp1)).setRow (g := w.heap.size + 2) (.inr (by omega)) (nodeC { s with end_ := p2 + s.term, l := s.l.drop (j + 1) } (.slice ad1 (s.l.length - (j + 1)) cp1)).toArray
            have hs2 : SlN ((W4.setCell ⟨w.heap.size, 5, none⟩ (.slice ad1 (s.l.length - (j + 1)) cp1)).setRow (w.heap.size + 2) (nodeC { s with end_ := p2 + s.term, l := s.l.drop (j + 1) } (.slice ad1 (s.l.length - (j + 1)) cp1)).toArray) (.slice ad1 (s.l.length - (j + 1)) cp1) (s.l.drop (j + 1)) own1 := by
              have := (S1.out.setCell ⟨w.heap.size, 5, none⟩ (.slice ad1 (s.l.length - (j + 1)) cp1) (fun b hb => by have := BOW.out b hb; simp only; omega)).kept (w' := (W4.setCell ⟨w.heap.size, 5, none⟩ (.slice ad1 (s.l.length - (j + 1)) cp1)).setRow (w.heap.size + 2) (nodeC { s with end_ := p2 + s.term, l := s.l.drop (j + 1) } (.slice ad1 (s.l.length - (j + 1)) cp1)).toArray) (fun b hb => setRow_other _ _ _ _ (by have := BOW.out b hb; omega))
              show Sl _ 102 2 _ (s.l.drop (j + 1)).length _ _
              rw [List.length_drop]
              exact this
            have R1 := Lib.hid r1
            have HF2 := Lib.hid hf2
            have HS2 := Lib.hid hs2
            clear hs2 hf2 r1
            clear zz
            go_wp2_with fail
            try simp only [Exit.inBlock, Exit.then]
            refine bodyPost_ret (v := .tuple #[.agg (nodeC { s with end_ := p2 + s.term, l := s.l.drop (j + 1) } (.slice ad1 (s.l.length - (j + 1)) cp1)).toArray, .int .i64 0]) ?_ rfl (GrantedN.some HK.out HF2.out ⟨_, own1, by rw [HE.out], HS2.out, fun g' hg => by have := BOW.out g' hg; omega⟩)
            exact results_ct Try.results20 R1.out rfl Try.underlying39 rfl (nodeC_info _ _)
        · have he : max s.end_ (p2 + s.term) = s.end_ := by omega
          have HE := Lib.hid he
          clear he
          by_cases hcp : cap = j + 1
          · subst hcp
            go_wp2_with fail
            go_quiet (fail)
            go_wp2_with fail
            refine wp_region_left (by kernel_rfl) ?_
            refine Left.headD 13 (by kernel_rfl) ?_
            simp only [List.take_succ_cons, List.take_zero, List.drop_succ_cons, List.drop_zero, Nat.reduceSub]
            repeat (quiet_step (fail))
            refine wpQuiet_nil ?_
            rintro _ ⟨nq, rfl⟩
            refine Left.tail (by kernel_rfl) ?_
            simp only [List.drop_succ_cons, List.drop_zero]
            go_wp2_with (at_builtin; refine hold ?_; intro qG hG)
            refine hG.1 ?_
            clear hG qG
            refine namedL ?_; intro W3 hW3
            have fr : Frm wr.heap.size [w.heap.size] wr W3 := by rw [hW3]; repeat (first | with_reducible exact Frm.refl _ _ _ | with_reducible refine Frm.drewN ?_ | with_reducible refine Frm.drew ?_ | ((with_reducible refine Frm.setCell' ?_ ?_); · first | (left; simp; done) | (right; simp; done) | (right; simp; omega)) | ((with_reducible refine Frm.setRow' ?_ ?_); · first | (left; simp; done) | (right; simp; done) | (right; simp; omega)) | ((with_reducible refine Frm.alloc' ?_ ?_); · first | exact Nat.le_refl _ | (simp; done) | (simp; omega)))
            have sA : Sl W3 102 2 (.slice (some ⟨wr.heap.size, 0, none⟩) 0 0) 0 [] (some wr.heap.size) := by
              rw [hW3]
              exact slA' _ (by simp)
            have e1 : s.l.drop (j + 1) = [] := List.drop_eq_nil_of_le (by have := HJ.out; omega)
            have sV : Sl W3 102 2 (.slice (some ⟨g, off, none⟩) 0 0) 0 [] own := ((HH.out.sl.frm fr HH.out.sl.lt (fun b hb => by have := HH.out.low b hb; simp; omega)).tail (j + 1) (by have := HJ.out; omega)).1
            have E1 := Lib.hid e1
            clear e1
            have b3 : Blk W3 w.heap.size 39 (nodeC { s with end_ := s.end_, l := s.l.drop (j + 1) } (.slice (some ⟨g, off, none⟩) s.l.length (j + 1))) := by
              rw [hW3]
              exact (HH.out.b.drewN.set 4 _).alloc _
            obtain ⟨zs', hz1, hz⟩ := HH.out.z
            have z3 : Blk W3 (w.heap.size + 2) 39 zs' := by rw [hW3]; (repeat (first | with_reducible exact hz | with_reducible refine Blk.drewN ?_ | with_reducible refine Blk.drew ?_ | with_reducible refine Blk.alloc' ?_ | ((with_reducible refine Blk.other' ?_ ?_); · (simp; try omega)) | ((with_reducible refine Blk.rowO ?_ ?_); · (simp; try omega)) | exact hz))
            have f3 : Frm w.heap.size [] w W3 := HH.out.f.call fr HH.out.f.size (by intro x h1 h2; simp at h2; omega)
            have y3 := hz.lt
            have y4 : wr.heap.size < W3.heap.size := by rw [hW3]; simp
            clear hW3 fr hz
            refine wpList_append_both rfl (.tmp 51) (.tmp 56) 37 rfl 102 i0 _ 2 16 Try.underlying37 HI.out HZI0.out HZI1.out HZI2.out rfl _ 0 [] (some wr.heap.size) rfl sA _ 0 [] own rfl sV (by simp) (by unfold maxLen; omega) (by omega) ?_
            intro v1 W4 own1 hs1 hf1 ho1
            obtain ⟨ad1, cp1, rfl⟩ := hs1.form
            simp only [Nat.zero_add, List.nil_append] at hs1 ⊢
            have b4 := hf1.blk b3 (by omega) (by simp; omega)
            have z4 := hf1.blk z3 (by omega) (by simp; omega)
            have f4 : Frm w.heap.size [] w W4 := f3.call hf1 f3.size (by intro x h1 h2; simp at h2; omega)
            have bo : ∀ g', own1 = some g' → w.heap.size + 3 ≤ g' := by
              intro g' hg
              rcases ho1 with h | ⟨g'', h, h'⟩
              · rw [h] at hg; cases hg; omega
              · rw [h] at hg; cases hg; omega
            have c5 := b4.cell 5
            have k5 := b4.free 5
            simp only [nodeC, List.getElem?_cons_succ, List.getElem?_cons_zero] at c5
            have B4 := Lib.hid b4
            have Z4 := Lib.hid z4
            have F4 := Lib.hid f4
            have BOW := Lib.hid bo
            have S1 := Lib.hid hs1
            clear hs1 bo f4 z4 b4
            clear sA sV b3 z3 f3 y3 y4 hf1 ho1 HO
            go_wp2_with (first
              | (with_reducible refine atLoad 39 rfl ?_; refine wpList_loadB (ty := 39) rfl rfl (show Blk _ _ 39 (nodeC { s with end_ := s.end_, l := s.l.drop (j + 1) } (.slice ad1 0 cp1)) from B4.out.set 5 _) rfl Try.underlying39 rfl (nodeC_info _ _) ?_)
              | (with_reducible refine atStore 39 rfl ?_; refine hold ?_; intro qG hG))
            refine hG.1 ?_
            clear hG qG
            have zz : Blk (W4.setCell ⟨w.heap.size, 5, none⟩ (.slice ad1 0 cp1)) (w.heap.size + 2) 39 zs' := Z4.out.other _ (by simp) _
            refine wpList_storeB (ty := 39) (cs := nodeC { s with end_ := s.end_, l := s.l.drop (j + 1) } (.slice ad1 0 cp1)) rfl rfl zz rfl rfl hz1 (nodeC_info _ _) (nodeC_one _ rfl) ?_
            have r1 := zz.row (nodeC { s with end_ := s.end_, l := s.l.drop (j + 1) } (.slice ad1 0 cp1))
            have hf2 := (F4.out.setCell (p := ⟨w.heap.size, 5, none⟩) (.inr (Nat.le_refl _)) (.slice ad1 0 cp1)).setRow (g := w.heap.size + 2) (.inr (by omega)) (nodeC { s with end_ := s.end_, l := s.l.drop (j + 1) } (.slice ad1 0 cp1)).toArray
            have hs2 : SlN ((W4.setCell ⟨w.heap.size, 5, none⟩ (.slice ad1 0 cp1)).setRow (w.heap.size + 2) (nodeC { s with end_ := s.end_, l := s.l.drop (j + 1) } (.slice ad1 0 cp1)).toArray) (.slice ad1 0 cp1) (s.l.drop (j + 1)) own1 := by
              have := (S1.out.setCell ⟨w.heap.size, 5, none⟩ (.slice ad1 0 cp1) (fun b hb => by have := BOW.out b hb; simp only; omega)).kept (w' := (W4.setCell ⟨w.heap.size, 5, none⟩ (.slice ad1 0 cp1)).setRow (w.heap.size + 2) (nodeC { s with end_ := s.end_, l := s.l.drop (j + 1) } (.slice ad1 0 cp1)).toArray) (fun b hb => setRow_other _ _ _ _ (by have := BOW.out b hb; omega))
              show Sl _ 102 2 _ (s.l.drop (j + 1)).length (pairCells (s.l.drop (j + 1))) _
              rw [E1.out]
              exact this
            have R1 := Lib.hid r1
            have HF2 := Lib.hid hf2
            have HS2 := Lib.hid hs2
            clear hs2 hf2 r1
            clear zz
            go_wp2_with fail
            try simp only [Exit.inBlock, Exit.then]
            refine bodyPost_ret (v := .tuple #[.agg (nodeC { s with end_ := s.end_, l := s.l.drop (j + 1) } (.slice ad1 0 cp1)).toArray, .int .i64 0]) ?_ rfl (GrantedN.some HK.out HF2.out ⟨_, own1, by rw [HE.out], HS2.out, fun g' hg => by have := BOW.out g' hg; omega⟩)
            exact results_ct Try.results20 R1.out rfl Try.underlying39 rfl (nodeC_info _ _)
          · go_wp2_with fail
            go_quiet (fail)
            go_wp2_with fail
            refine wp_region_left (by kernel_rfl) ?_
            refine Left.headD 13 (by kernel_rfl) ?_
            simp only [List.take_succ_cons, List.take_zero, List.drop_succ_cons, List.drop_zero, Nat.reduceSub]
            repeat (quiet_step (fail))
            refine wpQuiet_nil ?_
            rintro _ ⟨nq, rfl⟩
            refine Left.tail (by kernel_rfl) ?_
            simp only [List.drop_succ_cons, List.drop_zero]
            go_wp2_with (at_builtin; refine hold ?_; intro qG hG)
            refine hG.1 ?_
            clear hG qG
            refine namedL ?_; intro W3 hW3
            have fr : Frm wr.heap.size [w.heap.size] wr W3 := by rw [hW3]; repeat (first | with_reducible exact Frm.refl _ _ _ | with_reducible refine Frm.drewN ?_ | with_reducible refine Frm.drew ?_ | ((with_reducible refine Frm.setCell' ?_ ?_); · first | (left; simp; done) | (right; simp; done) | (right; simp; omega)) | ((with_reducible refine Frm.setRow' ?_ ?_); · first | (left; simp; done) | (right; simp; done) | (right; simp; omega)) | ((with_reducible refine Frm.alloc' ?_ ?_); · first | exact Nat.le_refl _ | (simp; done) | (simp; omega)))
            have sA : Sl W3 102 2 (.slice (some ⟨wr.heap.size, 0, none⟩) 0 0) 0 [] (some wr.heap.size) := by
              rw [hW3]
              exact slA' _ (by simp)
            have sV : Sl W3 102 2 (.slice (some ⟨g, off + (j + 1) * 2, none⟩) (s.l.length - (j + 1)) (cap - (j + 1))) (s.l.length - (j + 1)) (pairCells (s.l.drop (j + 1))) own := by
              have h := (HH.out.sl.frm fr HH.out.sl.lt (fun b hb => by have := HH.out.low b hb; simp; omega)).tail (j + 1) (by have := HJ.out; omega)
              rw [pairCells_drop] at h
              exact h.2
            have b3 : Blk W3 w.heap.size 39 (nodeC { s with end_ := s.end_, l := s.l.drop (j + 1) } (.slice (some ⟨g, off, none⟩) s.l.length cap)) := by
              rw [hW3]
              exact (HH.out.b.drewN.set 4 _).alloc _
            obtain ⟨zs', hz1, hz⟩ := HH.out.z
            have z3 : Blk W3 (w.heap.size + 2) 39 zs' := by rw [hW3]; (repeat (first | with_reducible exact hz | with_reducible refine Blk.drewN ?_ | with_reducible refine Blk.drew ?_ | with_reducible refine Blk.alloc' ?_ | ((with_reducible refine Blk.other' ?_ ?_); · (simp; try omega)) | ((with_reducible refine Blk.rowO ?_ ?_); · (simp; try omega)) | exact hz))
            have f3 : Frm w.heap.size [] w W3 := HH.out.f.call fr HH.out.f.size (by intro x h1 h2; simp at h2; omega)
            have y3 := hz.lt
            have y4 : wr.heap.size < W3.heap.size := by rw [hW3]; simp
            clear hW3 fr hz
            refine wpList_append_both rfl (.tmp 51) (.tmp 56) 37 rfl 102 i0 _ 2 16 Try.underlying37 HI.out HZI0.out HZI1.out HZI2.out rfl _ 0 [] (some wr.heap.size) rfl sA _ (s.l.length - (j + 1)) (pairCells (s.l.drop (j + 1))) own rfl sV (pairCells_one _) (by have := HL.out; unfold maxLen; omega) (by have := HL.out; omega) ?_
            intro v1 W4 own1 hs1 hf1 ho1
            obtain ⟨ad1, cp1, rfl⟩ := hs1.form
            simp only [Nat.zero_add, List.nil_append] at hs1 ⊢
            have b4 := hf1.blk b3 (by omega) (by simp; omega)
            have z4 := hf1.blk z3 (by omega) (by simp; omega)
            have f4 : Frm w.heap.size [] w W4 := f3.call hf1 f3.size (by intro x h1 h2; simp at h2; omega)
            have bo : ∀ g', own1 = some g' → w.heap.size + 3 ≤ g' := by
              intro g' hg
              rcases ho1 with h | ⟨g'', h, h'⟩
              · rw [h] at hg; cases hg; omega
              · rw [h] at hg; cases hg; omega
            have c5 := b4.cell 5
            have k5 := b4.free 5
            simp only [nodeC, List.getElem?_cons_succ, List.getElem?_cons_zero] at c5
            have B4 := Lib.hid b4
            have Z4 := Lib.hid z4
            have F4 := Lib.hid f4
            have BOW := Lib.hid bo
            have S1 := Lib.hid hs1
            clear hs1 bo f4 z4 b4
            clear sA sV b3 z3 f3 y3 y4 hf1 ho1 HO
            go_wp2_with (first
              | (with_reducible refine atLoad 39 rfl ?_; refine wpList_loadB (ty := 39) rfl rfl (show Blk _ _ 39 (nodeC { s with end_ := s.end_, l := s.l.drop (j + 1) } (.slice ad1 (s.l.length - (j + 1)) cp1)) from B4.out.set 5 _) rfl Try.underlying39 rfl (nodeC_info _ _) ?_)
              | (with_reducible refine atStore 39 rfl ?_; refine hold ?_; intro qG hG))
            refine hG.1 ?_
            clear hG qG
            have zz : Blk (W4.setCell ⟨w.heap.size, 5, none⟩ (.slice ad1 (s.l.length - (j + 1)) cp1)) (w.heap.size + 2) 39 zs' := Z4.out.other _ (by simp) _
            refine wpList_storeB (ty := 39) (cs := nodeC { s with end_ := s.end_, l := s.l.drop (j + 1) } (.slice ad1 (s.l.length - (j + 1)) cp1)) rfl rfl zz rfl rfl hz1 (nodeC_info _ _) (nodeC_one _ rfl) ?_
            have r1 := zz.row (nodeC { s with end_ := s.end_, l := s.l.drop (j + 1) } (.slice ad1 (s.l.length - (j + 1)) cp1))
            have hf2 := (F4.out.setCell (p := ⟨w.heap.size, 5, none⟩) (.inr (Nat.le_refl _)) (.slice ad1 (s.l.length - (j + 1)) cp1)).setRow (g := w.heap.size + 2) (.inr (by omega)) (nodeC { s with end_ := s.end_, l := s.l.drop (j + 1) } (.slice ad1 (s.l.length - (j + 1)) cp1)).toArray
            have hs2 : SlN ((W4.setCell ⟨w.heap.size, 5, none⟩ (.slice ad1 (s.l.length - (j + 1)) cp1)).setRow (w.heap.size + 2) (nodeC { s with end_ := s.end_, l := s.l.drop (j + 1) } (.slice ad1 (s.l.length - (j + 1)) cp1)).toArray) (.slice ad1 (s.l.length - (j + 1)) cp1) (s.l.drop (j + 1)) own1 := by
              have := (S1.out.setCell ⟨w.heap.size, 5, none⟩ (.slice ad1 (s.l.length - (j + 1)) cp1) (fun b hb => by have := BOW.out b hb; simp only; omega)).kept (w' := (W4.setCell ⟨w.heap.size, 5, none⟩ (.slice ad1 (s.l.length - (j + 1)) cp1)).setRow (w.heap.size + 2) (nodeC { s with end_ := s.end_, l := s.l.drop (j + 1) } (.slice ad1 (s.l.length - (j + 1)) cp1)).toArray) (fun b hb => setRow_other _ _ _ _ (by have := BOW.out b hb; omega))
              show Sl _ 102 2 _ (s.l.drop (j + 1)).length _ _
              rw [List.length_drop]
              exact this
            have R1 := Lib.hid r1
            have HF2 := Lib.hid hf2
            have HS2 := Lib.hid hs2
            clear hs2 hf2 r1
            clear zz
            go_wp2_with fail
            try simp only [Exit.inBlock, Exit.then]
            refine bodyPost_ret (v := .tuple #[.agg (nodeC { s with end_ := s.end_, l := s.l.drop (j + 1) } (.slice ad1 (s.l.length - (j + 1)) cp1)).toArray, .int .i64 0]) ?_ rfl (GrantedN.some HK.out HF2.out ⟨_, own1, by rw [HE.out], HS2.out, fun g' hg => by have := BOW.out g' hg; omega⟩)
            exact results_ct Try.results20 R1.out rfl Try.underlying39 rfl (nodeC_info _ _)
      · go_wp2_with fail
        go_quiet (fail)
        go_wp2_with fail
        refine ⟨⟨j + 1, by simp, by have := HJ.out; omega, HNX.out hm, HH.out.turn (Frm.refl _ _ wr).drewN⟩, ?_⟩
        have := HJ.out
        simp [intOf]
        omega
    · obtain rfl : j = s.l.length := by omega
      have htn : takeL s.l m = none := takeL_none (fun p hp => hbefore p (by simpa using hp))
      obtain ⟨ad, cp, hform⟩ := hh.sl.form
      have HH := Lib.hid hh
      have HTN := Lib.hid htn
      clear htn hh
      clear hbefore
      subst hform
      go_wp2_with (first
        | (with_reducible refine atLoad 39 rfl ?_; refine wpList_loadB (ty := 39) (cs := nodeC s _) rfl rfl HH.out.b rfl Try.underlying39 rfl (nodeC_info _ _) ?_)
        | (with_reducible refine atStore 39 rfl ?_; refine hold ?_; intro qG hG))
      refine hG.1 ?_
      clear hG qG
      obtain ⟨zs', hz1, hz⟩ := HH.out.z
      refine wpList_storeB (ty := 39) (cs := nodeC s _) rfl rfl hz rfl rfl hz1 (nodeC_info _ _) (nodeC_one _ hone) ?_
      have r1 := hz.row (nodeC s (.slice ad s.l.length cp))
      have hf2 := HH.out.f.setRow (g := w.heap.size + 2) (.inr (by omega)) (nodeC s (.slice ad s.l.length cp)).toArray
      have R1 := Lib.hid r1
      have HF2 := Lib.hid hf2
      clear hf2 r1
      clear hz
      go_wp2_with fail
      try simp only [Exit.inBlock, Exit.then]
      refine bodyPost_ret (v := .tuple #[.agg (nodeC s (.slice ad s.l.length cp)).toArray, .int .i64 0]) ?_ rfl (GrantedN.none HTN.out HF2.out rfl)
      exact results_ct Try.results20 R1.out rfl Try.underlying39 rfl (nodeC_info _ _)
end Go.Proofs.Ythmladcepkdheaa
