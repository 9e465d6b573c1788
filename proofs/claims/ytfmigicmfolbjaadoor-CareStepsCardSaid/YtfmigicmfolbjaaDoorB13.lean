/-
  Texts S19 of this claim, one behind the other.
-/
import Derived.Test.YtfmigicmfolbjaaDoorB12
namespace Go.Proofs.YtfmigicmfolbjaaDoor
set_option linter.all false
set_option linter.unusedSimpArgs false
set_option linter.unusedVariables false
open Go.RowKit Go.Shelf

theorem viaR4 {P : Program} {c : Code} {Q : Exit → Act → World → Prop} {a : Act} {w : World} {F : Nat → Nat → Nat → Nat → Act} (L : Nat → Nat → Nat → Nat → World → Prop) (h1 : (∀ x y z v w', L x y z v w' → Q .normal (F x y z v) w') → c.wp P Q a w)
    (h2 : ∀ x y z v w', L x y z v w' → Q .normal (F x y z v) w') : c.wp P Q a w := h1 h2
theorem namedLL {P : Program} {l : List Oper} {Q : Exit → Act → World → Prop} {S : World → Prop} {t : Nat} {done : List Nat} {a : Act} {w : World} (h : ∀ W, W = w → LeftL P l Q S t done a W) : LeftL P l Q S t done a w := h w rfl
/-- The plan has been made, empty. -/
structure MadeAt (w : World) (n st b2 b3 pb p7 : Nat) (w' : World) : Prop where
  fr : Frm w.heap.size [] w w'
  l2 : w.heap.size ≤ b2
  l3 : w.heap.size ≤ b3
  lb : w.heap.size ≤ pb
  l7 : w.heap.size ≤ p7
  n23 : b2 ≠ b3
  n2b : pb ≠ b2
  n27 : p7 ≠ b2
  n3b : pb ≠ b3
  n37 : p7 ≠ b3
  nb7 : p7 ≠ pb
  k2 : Blk w' b2 119 (setsC n fun _ => 0)
  k3 : Blk w' b3 119 (setsC n fun _ => 0)
  kb : Blk w' pb 116 [.int .u32 (st : Int), .slice none 0 0, .slice (some ⟨b2, 0, none⟩) n n, .slice (some ⟨b3, 0, none⟩) n n]
  k7 : Blk w' p7 108 [.pointer (some ⟨pb, 0, none⟩)]
/-- Where what is given of a plan lies. -/
structure RPos where
  s : LI
  sa : Option Addr
  sb : Nat
  so : Nat
  sc : Nat
  X : Nat → SI
  ea : Option Addr
  eb : Nat
  eo : Nat
  ec : Nat
def rawC (q : RPos) (R : Raw) : List Value := [q.s.v R.starts, .slice q.sa R.steps.length q.sc, .slice q.ea R.edges.length q.ec]
structure RawAt (w : World) (q : RPos) (R : Raw) : Prop where
  starts : IntsAt w q.s R.starts
  steps : StepsAt w q.sa q.sb q.so q.X R.steps
  edges : Rw w 2 q.ea q.eb q.eo R.edges.length fun i => edgeC (R.edges.getD i (0, 0))
theorem RawAt.frm {w w' : World} {B : Nat} {q : RPos} {R : Raw} (h : RawAt w q R) (hf : Frm B [] w w') (hB : w.heap.size ≤ B) : RawAt w' q R :=
  ⟨Rw.frm h.starts hf hB, h.steps.frm hf hB, h.edges.frm hf hB⟩
def PlannedIs (R : Raw) (w' : World) (e : Ending) : Prop := match plannedO R with
  | none => e = .returned (.tuple #[.pointer none, .bool false])
  | some P => ∃ pb q, e = .returned (.tuple #[.pointer (some ⟨pb, 0, none⟩), .bool true]) ∧ PlAt w' pb q P
theorem planned_n {R : Raw} {w' : World} {e : Ending} (h : plannedO R = none) (he : e = .returned (.tuple #[.pointer none, .bool false])) : PlannedIs R w' e := by
  unfold PlannedIs; rw [h]; exact he
theorem plannedO_n1 {R : Raw} (h : numL R.starts = none) : plannedO R = none := by unfold plannedO; rw [h]
theorem plannedO_n2 {R : Raw} (h : 12 < R.steps.length ∨ 100 < R.edges.length) : plannedO R = none := by
  unfold plannedO
  split
  · rfl
  · rw [if_pos h]
theorem plannedO_n3 {R : Raw} (h : stepsO R.steps = none) : plannedO R = none := by
  unfold plannedO
  split
  · rfl
  · split
    · rfl
    · rw [h]
theorem plannedO_n4 {R : Raw} (h : edgesO R.steps.length R.edges = none) : plannedO R = none := by
  unfold plannedO
  split
  · rfl
  · split
    · rfl
    · split
      · rfl
      · rw [h]
theorem all_range {n : Nat} {p : Nat → Nat} : ((List.range n).all fun i => !(p i).testBit i) = true ↔ ∀ i, i < n → (p i).testBit i = false := by
  simp
theorem plannedO_n5 {R : Raw} {a : Nat → Nat} (h : edgesO R.steps.length R.edges = some a) (hn : ¬ ∀ i, i < R.steps.length → (closeK R.steps.length a R.steps.length i).testBit i = false) : plannedO R = none := by
  unfold plannedO
  split
  · rfl
  · split
    · rfl
    · split
      · rfl
      · rw [h]
        dsimp only
        rw [if_neg (fun e => hn (all_range.1 e))]
theorem plannedO_y {R : Raw} {a : Nat → Nat} {st : Nat} (h1 : numL R.starts = some st) (h2 : R.steps.length ≤ 12) (h2' : R.edges.length ≤ 100) (h3 : stepsO R.steps = some (R.steps.map tripleOf)) (h : edgesO R.steps.length R.edges = some a)
    (hn : ∀ i, i < R.steps.length → (closeK R.steps.length a R.steps.length i).testBit i = false) : ∃ P, plannedO R = some P ∧ P.start = st ∧ P.n = R.steps.length ∧ (∀ i, i < R.steps.length → P.act i = actsF R.steps i) ∧ P.before = beforeS R.steps.length (closeK R.steps.length a R.steps.length) ∧ P.after = closeK R.steps.length a R.steps.length := by
  unfold plannedO
  rw [h1]
  dsimp only
  rw [if_neg (by omega), h3]
  dsimp only
  rw [h]
  dsimp only
  rw [if_pos (all_range.2 hn)]
  refine ⟨_, rfl, rfl, rfl, fun i hi => ?_, rfl, rfl⟩
  unfold PL.act actsF actC
  simp [List.getD_eq_getElem?_getD, hi]
theorem results_2 {fn : Func} {p q : Tmp} (h : fn.results = #[.tmp p, .tmp q]) {tmps : Array Value} {w : World} {x y : Value} (hp : tmps.getD p undef = x) (hq : tmps.getD q undef = y) :
    (results fn tmps).run Tryd.prog w = .ok (.tuple #[x, y]) w := by
  have hp' : tmps[p]?.getD undef = x := by simpa using hp
  have hq' : tmps[q]?.getD undef = y := by simpa using hq
  simp [results, h, hp', hq', go_sem]
theorem Rw.congr {w : World} {size : Nat} {ad : Option Addr} {b off n : Nat} {f g : Nat → List Value} (h : Rw w size ad b off n f) (hfg : ∀ i, i < n → g i = f i) : Rw w size ad b off n g :=
  ⟨h.ad, h.len, fun i hi k v hv => h.at_ i hi k v (by rw [← hfg i hi]; exact hv)⟩
theorem kept_blk {w w' : World} {E size : Nat} {v : Value} {n : Nat} {cs : List Value} {own : Option Nat} (h : Sl w E size v n cs own) (hk : ∀ b T cs, Blk w b T cs → Blk w' b T cs) : ∀ b, own = some b → w'.heap[b]? = w.heap[b]? := by
  intro b hb
  rcases h.2 with ⟨_, _, h0⟩ | ⟨b', off, cap, arr, _, h0, hh, _⟩
  · rw [h0] at hb; cases hb
  · rw [h0] at hb
    cases hb
    have h1 : Blk w b E arr.toList := by show w.heap[b]? = _; rw [hh]
    have h2 : w'.heap[b]? = _ := hk _ _ _ h1
    rw [h2, hh]
theorem sets_rw {w : World} {b T n : Nat} {a : Nat → Nat} (h : Blk w b T (setsC n a)) (hn : n ≤ 12) : Rw w 1 (some ⟨b, 0, none⟩) b 0 n fun i => [.int .u32 (a i : Int)] :=
  ⟨fun _ => rfl, by unfold maxLen; omega, fun i hi k v hv => by
    cases k with
    | zero =>
      have hv : some (Value.int .u32 (a i : Int)) = some v := hv
      cases hv
      simpa using sets_cell h hi
    | succ k => simp at hv⟩
set_option maxRecDepth 100000 in
set_option maxHeartbeats 32000000 in
theorem planned_any (q : RPos) (R : Raw) (w : World) (hr : RawAt w q R) (hg : Glob w) :
    Calls Tryd.prog 68 #[.agg (rawC q R).toArray] w fun e w' => Frm w.heap.size [] w w' ∧ PlannedIs R w' e := by
  have hf0 := Tryd.func68
  obtain ⟨n, hn⟩ : ∃ n, n = R.steps.length := ⟨_, rfl⟩
  obtain ⟨m, hm⟩ : ∃ n, n = R.edges.length := ⟨_, rfl⟩
  have hraw : rawC q R = [q.s.v R.starts, .slice q.sa n q.sc, .slice q.ea m q.ec] := by rw [hn, hm]; rfl
  rw [hraw]
  clear hraw
  refine (callsIn_wide (n := 1)).1 ?_
  refine callsIn_of_wp_marks Tryd.func68 rfl trivial ?_ rfl
  simp only [Tryd.ntmps68, List.size_toArray, List.length_cons, List.length_nil, Nat.reduceAdd, Nat.reduceSub, Array.replicate_succ, Array.replicate_zero, List.push_toArray, List.append_toArray, List.nil_append, List.cons_append]
  refine wpIn_mono (Q := retOnly _) ?_ retOnly_le
  refine wpIn_wide.2 ?_
  have HR := Lib.hid hr
  have HG := Lib.hid hg
  have HN := Lib.hid hn
  have HM := Lib.hid hm
  clear hm hn hg hr
  go_upto_region 1 with fail
  refine namedC ?_; intro W hW
  obtain ⟨c, hc⟩ : ∃ c, c = w.heap.size := ⟨_, rfl⟩
  have k0 : Blk W c 66 [q.s.v R.starts, .slice q.sa n q.sc, .slice q.ea m q.ec] := by rw [hW, hc]; exact Blk.new w 66 [q.s.v R.starts, .slice q.sa n q.sc, .slice q.ea m q.ec]
  have hfw : Frm w.heap.size [] w W := by rw [hW]; repeat (first | with_reducible exact Frm.refl _ _ _ | with_reducible refine Frm.drewN ?_ | with_reducible refine Frm.drew ?_ | ((with_reducible refine Frm.setCell' ?_ ?_); · first | (left; simp; done) | (right; simp; done) | (right; simp; omega)) | ((with_reducible refine Frm.alloc' ?_ ?_); · first | exact Nat.le_refl _ | (simp; done) | (simp; omega)))
  have c0 : W.cell? ⟨c, 0, none⟩ = some (q.s.v R.starts) := k0.cell 0
  clear hW hf0
  rw [← hc]
  have K0 := Lib.hid k0
  have HF := Lib.hid hfw
  have HC := Lib.hid hc
  clear hc hfw k0
  go_wp2_with fail
  refine (numbers_l q.s R.starts _ (Rw.frm HR.out.starts HF.out (Nat.le_refl _))).mono ?_; rintro e W1 ⟨rfl, hf1⟩
  have k0 := hf1.blk K0.out K0.out.lt (by simp)
  have hfw := HF.out.call hf1 HF.out.size (by simp)
  clear hf1 K0 HF c0
  have c1 : W1.cell? ⟨c, 1, none⟩ = some (.slice q.sa n q.sc) := k0.cell 1
  have c2 : W1.cell? ⟨c, 2, none⟩ = some (.slice q.ea m q.ec) := k0.cell 2
  have K0 := Lib.hid k0
  have HF := Lib.hid hfw
  clear hfw k0
  cases hst : numL R.starts with
  | none =>
    have hno := plannedO_n1 hst
    have HST := Lib.hid hst
    have HNO := Lib.hid hno
    clear hno hst
    go_wp2_with fail
    refine ⟨_, results_2 Tryd.results68 rfl rfl, ?_⟩
    exact ⟨HF.out, planned_n HNO.out rfl⟩
  | some st =>
  by_cases h12 : 12 < n
  · have h12' : (12 : Int) < (n : Int) := by omega
    have hno := plannedO_n2 (R := R) (.inl (by have := HN.out; omega))
    have HST := Lib.hid hst
    have HNO := Lib.hid hno
    clear hno hst
    go_wp2_with fail
    refine ⟨_, results_2 Tryd.results68 rfl rfl, ?_⟩
    exact ⟨HF.out, planned_n HNO.out rfl⟩
  have h12' : ¬ (12 : Int) < (n : Int) := by omega
  by_cases h100 : 100 < m
  · have h100' : (100 : Int) < (m : Int) := by omega
    have hno := plannedO_n2 (R := R) (.inr (by have := HM.out; omega))
    have HST := Lib.hid hst
    have HNO := Lib.hid hno
    clear hno hst
    go_wp2_with fail
    refine ⟨_, results_2 Tryd.results68 rfl rfl, ?_⟩
    exact ⟨HF.out, planned_n HNO.out rfl⟩
  have h100' : ¬ (100 : Int) < (m : Int) := by omega
  have HST := Lib.hid hst
  clear hst
  go_upto_region 5 with fail
  clear h12' h100' c1 c2
  have hmk := fun V => run_make_sets n (by omega) V
  obtain ⟨W, hW⟩ : ∃ W, W = W1 := ⟨_, rfl⟩
  rw [← hW] at HF K0 ⊢
  clear hW
  have H12 := Lib.hid h12
  have H100 := Lib.hid h100
  have HMK := Lib.hid hmk
  clear hmk h100 h12
  apply viaR4 (fun b2 b3 pb p7 w4 => MadeAt W n st b2 b3 pb p7 w4)
  · intro hvia
    have HVIA := Lib.hid hvia
    clear hvia
    refine wp_region_leftL (fun _ => True) 100 (by kernel_rfl) ?_
    (refine LeftL.run (v := ?_) 0 rfl (by kernel_rfl) rfl (fun _ _ d _ _ h => by cases d <;> exact h) ?_ trivial ?_; rotate_left; (· intro V _; go_simp; rfl); (intro K' hK'; go_simp; refine hK' _ ?_; clear hK' K'))
    (refine LeftL.run (v := ?_) 1 rfl (by kernel_rfl) rfl (fun _ _ d _ _ h => by cases d <;> exact h) ?_ trivial ?_; rotate_left; (· intro V _; go_simp; rfl); (intro K' hK'; go_simp; refine hK' _ ?_; clear hK' K'))
    (refine LeftL.run (v := ?_) 3 rfl (by kernel_rfl) rfl (fun _ _ d _ _ h => by cases d <;> exact h) ?_ trivial ?_; rotate_left; (· intro V _; go_simp; rfl); (intro K' hK'; go_simp; refine hK' _ ?_; clear hK' K'))
    have hmk := HMK.out
    refine LeftL.three 2 4 7 rfl rfl rfl (by kernel_rfl) ?_ ?_ ?_
    · go_wp2_with fail
      try refine ⟨fun _ => trivial, ?_⟩
      refine LeftL.two 4 7 rfl rfl (by kernel_rfl) ?_ ?_
      · go_wp2_with fail
        try refine ⟨fun _ => trivial, ?_⟩
        (refine LeftL.run (v := ?_) 5 rfl (by kernel_rfl) rfl (fun _ _ d _ _ h => by cases d <;> exact h) ?_ trivial ?_; rotate_left; (· intro V _; go_simp; rfl); (intro K' hK'; go_simp; refine hK' _ ?_; clear hK' K'))
        refine LeftL.two 6 7 rfl rfl (by kernel_rfl) ?_ ?_
        · go_wp2_with fail
          try refine ⟨fun _ => trivial, ?_⟩
          refine LeftL.one 7 rfl (by kernel_rfl) ?_
          go_wp2_with fail
          try refine ⟨fun _ => trivial, ?_⟩
          refine namedLL ?_; intro w3 hw3
          have k2 : Blk w3 (W.heap.size) 119 (setsC n fun _ => 0) := by rw [hw3]; refine Blk.alloc' ?_; refine Blk.alloc' ?_; refine Blk.alloc' ?_; exact Blk.new' _ 119 (setsC n fun _ => 0) (by simp)
          have k4 : Blk w3 (W.heap.size + 1) 119 (setsC n fun _ => 0) := by rw [hw3]; refine Blk.alloc' ?_; refine Blk.alloc' ?_; exact Blk.new' _ 119 (setsC n fun _ => 0) (by simp)
          have k6 : Blk w3 (W.heap.size + 1 + 1) 116 [.int .u32 (st : Int), .slice none 0 0, .slice (some ⟨W.heap.size, 0, none⟩) n n, .slice (some ⟨W.heap.size + 1, 0, none⟩) n n] := by rw [hw3]; refine Blk.alloc' ?_; exact Blk.new' _ 116 [.int .u32 (st : Int), .slice none 0 0, .slice (some ⟨W.heap.size, 0, none⟩) n n, .slice (some ⟨W.heap.size + 1, 0, none⟩) n n] (by simp)
          have k7 : Blk w3 (W.heap.size + 1 + 1 + 1) 108 [.pointer none] := by rw [hw3]; exact Blk.new' _ 108 [.pointer none] (by simp)
          have hF : Frm W.heap.size [] W w3 := by rw [hw3]; repeat (first | with_reducible exact Frm.refl _ _ _ | with_reducible refine Frm.drewN ?_ | with_reducible refine Frm.drew ?_ | ((with_reducible refine Frm.setCell' ?_ ?_); · first | (left; simp; done) | (right; simp; done) | (right; simp; omega)) | ((with_reducible refine Frm.alloc' ?_ ?_); · first | exact Nat.le_refl _ | (simp; done) | (simp; omega)))
          clear hw3
          obtain ⟨c3, hc3⟩ : ∃ c, c = W.heap.size + 1 + 1 + 1 := ⟨_, rfl⟩
          obtain ⟨c2, hc2⟩ : ∃ c, c = W.heap.size + 1 + 1 := ⟨_, rfl⟩
          obtain ⟨c1, hc1⟩ : ∃ c, c = W.heap.size + 1 := ⟨_, rfl⟩
          obtain ⟨c0, hc0⟩ : ∃ c, c = W.heap.size := ⟨_, rfl⟩
          simp only [← hc3] at k2 k4 k6 k7 ⊢
          simp only [← hc2] at k2 k4 k6 k7 ⊢
          simp only [← hc1] at k2 k4 k6 k7 ⊢
          simp only [← hc0] at k2 k4 k6 k7 ⊢
          obtain ⟨o0, o1, o2, o3⟩ : W.heap.size ≤ c0 ∧ c0 < c1 ∧ c1 < c2 ∧ c2 < c3 := ⟨by omega, by omega, by omega, by omega⟩
          clear hc0 hc1 hc2 hc3
          have q0 := k7.cell 0
          have q1 := k7.free 0
          refine LeftL.one 8 rfl (by kernel_rfl) ?_
          go_wp2_with fail
          try refine ⟨fun _ => trivial, ?_⟩
          have hL : MadeAt W n st c0 c1 c2 c3 (w3.setCell ⟨c3, 0, none⟩ (.pointer (some ⟨c2, 0, none⟩))) := ⟨hF.setCell (p := ⟨c3, 0, none⟩) (.inr (by dsimp only; omega)) _, by omega, by omega, by omega, by omega, by omega, by omega, by omega, by omega, by omega, by omega, k2.other _ (by dsimp only; omega) _, k4.other _ (by dsimp only; omega) _, k6.other _ (by dsimp only; omega) _, k7.set 0 _⟩
          generalize w3.setCell ⟨c3, 0, none⟩ (.pointer (some ⟨c2, 0, none⟩)) = w4 at hL ⊢
          refine LeftL.done (by kernel_rfl) ?_
          go_simp
          exact HVIA.out c0 c1 c2 c3 w4 hL
        · go_wp2_with fail
          try refine ⟨fun _ => trivial, ?_⟩
          refine LeftL.one 6 rfl (by kernel_rfl) ?_
          go_wp2_with fail
          try refine ⟨fun _ => trivial, ?_⟩
          refine namedLL ?_; intro w3 hw3
          have k2 : Blk w3 (W.heap.size) 119 (setsC n fun _ => 0) := by rw [hw3]; refine Blk.alloc' ?_; refine Blk.alloc' ?_; refine Blk.alloc' ?_; exact Blk.new' _ 119 (setsC n fun _ => 0) (by simp)
          have k4 : Blk w3 (W.heap.size + 1) 119 (setsC n fun _ => 0) := by rw [hw3]; refine Blk.alloc' ?_; refine Blk.alloc' ?_; exact Blk.new' _ 119 (setsC n fun _ => 0) (by simp)
          have k6 : Blk w3 (W.heap.size + 1 + 1 + 1) 116 [.int .u32 (st : Int), .slice none 0 0, .slice (some ⟨W.heap.size, 0, none⟩) n n, .slice (some ⟨W.heap.size + 1, 0, none⟩) n n] := by rw [hw3]; exact Blk.new' _ 116 [.int .u32 (st : Int), .slice none 0 0, .slice (some ⟨W.heap.size, 0, none⟩) n n, .slice (some ⟨W.heap.size + 1, 0, none⟩) n n] (by simp)
          have k7 : Blk w3 (W.heap.size + 1 + 1) 108 [.pointer none] := by rw [hw3]; refine Blk.alloc' ?_; exact Blk.new' _ 108 [.pointer none] (by simp)
          have hF : Frm W.heap.size [] W w3 := by rw [hw3]; repeat (first | with_reducible exact Frm.refl _ _ _ | with_reducible refine Frm.drewN ?_ | with_reducible refine Frm.drew ?_ | ((with_reducible refine Frm.setCell' ?_ ?_); · first | (left; simp; done) | (right; simp; done) | (right; simp; omega)) | ((with_reducible refine Frm.alloc' ?_ ?_); · first | exact Nat.le_refl _ | (simp; done) | (simp; omega)))
          clear hw3
          obtain ⟨c3, hc3⟩ : ∃ c, c = W.heap.size + 1 + 1 + 1 := ⟨_, rfl⟩
          obtain ⟨c2, hc2⟩ : ∃ c, c = W.heap.size + 1 + 1 := ⟨_, rfl⟩
          obtain ⟨c1, hc1⟩ : ∃ c, c = W.heap.size + 1 := ⟨_, rfl⟩
          obtain ⟨c0, hc0⟩ : ∃ c, c = W.heap.size := ⟨_, rfl⟩
          simp only [← hc3] at k2 k4 k6 k7 ⊢
          simp only [← hc2] at k2 k4 k6 k7 ⊢
          simp only [← hc1] at k2 k4 k6 k7 ⊢
          simp only [← hc0] at k2 k4 k6 k7 ⊢
          obtain ⟨o0, o1, o2, o3⟩ : W.heap.size ≤ c0 ∧ c0 < c1 ∧ c1 < c2 ∧ c2 < c3 := ⟨by omega, by omega, by omega, by omega⟩
          clear hc0 hc1 hc2 hc3
          have q0 := k7.cell 0
          have q1 := k7.free 0
          refine LeftL.one 8 rfl (by kernel_rfl) ?_
          go_wp2_with fail
          try refine ⟨fun _ => trivial, ?_⟩
          have hL : MadeAt W n st c0 c1 c3 c2 (w3.setCell ⟨c2, 0, none⟩ (.pointer (some ⟨c3, 0, none⟩))) := ⟨hF.setCell (p := ⟨c2, 0, none⟩) (.inr (by dsimp only; omega)) _, by omega, by omega, by omega, by omega, by omega, by omega, by omega, by omega, by omega, by omega, k2.other _ (by dsimp only; omega) _, k4.other _ (by dsimp only; omega) _, k6.other _ (by dsimp only; omega) _, k7.set 0 _⟩
          generalize w3.setCell ⟨c2, 0, none⟩ (.pointer (some ⟨c3, 0, none⟩)) = w4 at hL ⊢
          refine LeftL.done (by kernel_rfl) ?_
          go_simp
          exact HVIA.out c0 c1 c3 c2 w4 hL
      · go_wp2_with fail
        try refine ⟨fun _ => trivial, ?_⟩
        refine LeftL.one 4 rfl (by kernel_rfl) ?_
        go_wp2_with fail
        try refine ⟨fun _ => trivial, ?_⟩
        (refine LeftL.run (v := ?_) 5 rfl (by kernel_rfl) rfl (fun _ _ d _ _ h => by cases d <;> exact h) ?_ trivial ?_; rotate_left; (· intro V _; go_simp; rfl); (intro K' hK'; go_simp; refine hK' _ ?_; clear hK' K'))
        refine LeftL.one 6 rfl (by kernel_rfl) ?_
        go_wp2_with fail
        try refine ⟨fun _ => trivial, ?_⟩
        refine namedLL ?_; intro w3 hw3
        have k2 : Blk w3 (W.heap.size) 119 (setsC n fun _ => 0) := by rw [hw3]; refine Blk.alloc' ?_; refine Blk.alloc' ?_; refine Blk.alloc' ?_; exact Blk.new' _ 119 (setsC n fun _ => 0) (by simp)
        have k4 : Blk w3 (W.heap.size + 1 + 1) 119 (setsC n fun _ => 0) := by rw [hw3]; refine Blk.alloc' ?_; exact Blk.new' _ 119 (setsC n fun _ => 0) (by simp)
        have k6 : Blk w3 (W.heap.size + 1 + 1 + 1) 116 [.int .u32 (st : Int), .slice none 0 0, .slice (some ⟨W.heap.size, 0, none⟩) n n, .slice (some ⟨W.heap.size + 1 + 1, 0, none⟩) n n] := by rw [hw3]; exact Blk.new' _ 116 [.int .u32 (st : Int), .slice none 0 0, .slice (some ⟨W.heap.size, 0, none⟩) n n, .slice (some ⟨W.heap.size + 1 + 1, 0, none⟩) n n] (by simp)
        have k7 : Blk w3 (W.heap.size + 1) 108 [.pointer none] := by rw [hw3]; refine Blk.alloc' ?_; refine Blk.alloc' ?_; exact Blk.new' _ 108 [.pointer none] (by simp)
        have hF : Frm W.heap.size [] W w3 := by rw [hw3]; repeat (first | with_reducible exact Frm.refl _ _ _ | with_reducible refine Frm.drewN ?_ | with_reducible refine Frm.drew ?_ | ((with_reducible refine Frm.setCell' ?_ ?_); · first | (left; simp; done) | (right; simp; done) | (right; simp; omega)) | ((with_reducible refine Frm.alloc' ?_ ?_); · first | exact Nat.le_refl _ | (simp; done) | (simp; omega)))
        clear hw3
        obtain ⟨c3, hc3⟩ : ∃ c, c = W.heap.size + 1 + 1 + 1 := ⟨_, rfl⟩
        obtain ⟨c2, hc2⟩ : ∃ c, c = W.heap.size + 1 + 1 := ⟨_, rfl⟩
        obtain ⟨c1, hc1⟩ : ∃ c, c = W.heap.size + 1 := ⟨_, rfl⟩
        obtain ⟨c0, hc0⟩ : ∃ c, c = W.heap.size := ⟨_, rfl⟩
        simp only [← hc3] at k2 k4 k6 k7 ⊢
        simp only [← hc2] at k2 k4 k6 k7 ⊢
        simp only [← hc1] at k2 k4 k6 k7 ⊢
        simp only [← hc0] at k2 k4 k6 k7 ⊢
        obtain ⟨o0, o1, o2, o3⟩ : W.heap.size ≤ c0 ∧ c0 < c1 ∧ c1 < c2 ∧ c2 < c3 := ⟨by omega, by omega, by omega, by omega⟩
        clear hc0 hc1 hc2 hc3
        have q0 := k7.cell 0
        have q1 := k7.free 0
        refine LeftL.one 8 rfl (by kernel_rfl) ?_
        go_wp2_with fail
        try refine ⟨fun _ => trivial, ?_⟩
        have hL : MadeAt W n st c0 c2 c3 c1 (w3.setCell ⟨c1, 0, none⟩ (.pointer (some ⟨c3, 0, none⟩))) := ⟨hF.setCell (p := ⟨c1, 0, none⟩) (.inr (by dsimp only; omega)) _, by omega, by omega, by omega, by omega, by omega, by omega, by omega, by omega, by omega, by omega, k2.other _ (by dsimp only; omega) _, k4.other _ (by dsimp only; omega) _, k6.other _ (by dsimp only; omega) _, k7.set 0 _⟩
        generalize w3.setCell ⟨c1, 0, none⟩ (.pointer (some ⟨c3, 0, none⟩)) = w4 at hL ⊢
        refine LeftL.done (by kernel_rfl) ?_
        go_simp
        exact HVIA.out c0 c2 c3 c1 w4 hL
    · go_wp2_with fail
      try refine ⟨fun _ => trivial, ?_⟩
      refine LeftL.two 2 7 rfl rfl (by kernel_rfl) ?_ ?_
      · go_wp2_with fail
        try refine ⟨fun _ => trivial, ?_⟩
        (refine LeftL.run (v := ?_) 5 rfl (by kernel_rfl) rfl (fun _ _ d _ _ h => by cases d <;> exact h) ?_ trivial ?_; rotate_left; (· intro V _; go_simp; rfl); (intro K' hK'; go_simp; refine hK' _ ?_; clear hK' K'))
        refine LeftL.two 6 7 rfl rfl (by kernel_rfl) ?_ ?_
        · go_wp2_with fail
          try refine ⟨fun _ => trivial, ?_⟩
          refine LeftL.one 7 rfl (by kernel_rfl) ?_
          go_wp2_with fail
          try refine ⟨fun _ => trivial, ?_⟩
          refine namedLL ?_; intro w3 hw3
          have k2 : Blk w3 (W.heap.size + 1) 119 (setsC n fun _ => 0) := by rw [hw3]; refine Blk.alloc' ?_; refine Blk.alloc' ?_; exact Blk.new' _ 119 (setsC n fun _ => 0) (by simp)
          have k4 : Blk w3 (W.heap.size) 119 (setsC n fun _ => 0) := by rw [hw3]; refine Blk.alloc' ?_; refine Blk.alloc' ?_; refine Blk.alloc' ?_; exact Blk.new' _ 119 (setsC n fun _ => 0) (by simp)
          have k6 : Blk w3 (W.heap.size + 1 + 1) 116 [.int .u32 (st : Int), .slice none 0 0, .slice (some ⟨W.heap.size + 1, 0, none⟩) n n, .slice (some ⟨W.heap.size, 0, none⟩) n n] := by rw [hw3]; refine Blk.alloc' ?_; exact Blk.new' _ 116 [.int .u32 (st : Int), .slice none 0 0, .slice (some ⟨W.heap.size + 1, 0, none⟩) n n, .slice (some ⟨W.heap.size, 0, none⟩) n n] (by simp)
          have k7 : Blk w3 (W.heap.size + 1 + 1 + 1) 108 [.pointer none] := by rw [hw3]; exact Blk.new' _ 108 [.pointer none] (by simp)
          have hF : Frm W.heap.size [] W w3 := by rw [hw3]; repeat (first | with_reducible exact Frm.refl _ _ _ | with_reducible refine Frm.drewN ?_ | with_reducible refine Frm.drew ?_ | ((with_reducible refine Frm.setCell' ?_ ?_); · first | (left; simp; done) | (right; simp; done) | (right; simp; omega)) | ((with_reducible refine Frm.alloc' ?_ ?_); · first | exact Nat.le_refl _ | (simp; done) | (simp; omega)))
          clear hw3
          obtain ⟨c3, hc3⟩ : ∃ c, c = W.heap.size + 1 + 1 + 1 := ⟨_, rfl⟩
          obtain ⟨c2, hc2⟩ : ∃ c, c = W.heap.size + 1 + 1 := ⟨_, rfl⟩
          obtain ⟨c1, hc1⟩ : ∃ c, c = W.heap.size + 1 := ⟨_, rfl⟩
          obtain ⟨c0, hc0⟩ : ∃ c, c = W.heap.size := ⟨_, rfl⟩
          simp only [← hc3] at k2 k4 k6 k7 ⊢
          simp only [← hc2] at k2 k4 k6 k7 ⊢
          simp only [← hc1] at k2 k4 k6 k7 ⊢
          simp only [← hc0] at k2 k4 k6 k7 ⊢
          obtain ⟨o0, o1, o2, o3⟩ : W.heap.size ≤ c0 ∧ c0 < c1 ∧ c1 < c2 ∧ c2 < c3 := ⟨by omega, by omega, by omega, by omega⟩
          clear hc0 hc1 hc2 hc3
          have q0 := k7.cell 0
          have q1 := k7.free 0
          refine LeftL.one 8 rfl (by kernel_rfl) ?_
          go_wp2_with fail
          try refine ⟨fun _ => trivial, ?_⟩
          have hL : MadeAt W n st c1 c0 c2 c3 (w3.setCell ⟨c3, 0, none⟩ (.pointer (some ⟨c2, 0, none⟩))) := ⟨hF.setCell (p := ⟨c3, 0, none⟩) (.inr (by dsimp only; omega)) _, by omega, by omega, by omega, by omega, by omega, by omega, by omega, by omega, by omega, by omega, k2.other _ (by dsimp only; omega) _, k4.other _ (by dsimp only; omega) _, k6.other _ (by dsimp only; omega) _, k7.set 0 _⟩
          generalize w3.setCell ⟨c3, 0, none⟩ (.pointer (some ⟨c2, 0, none⟩)) = w4 at hL ⊢
          refine LeftL.done (by kernel_rfl) ?_
          go_simp
          exact HVIA.out c1 c0 c2 c3 w4 hL
        · go_wp2_with fail
          try refine ⟨fun _ => trivial, ?_⟩
          refine LeftL.one 6 rfl (by kernel_rfl) ?_
          go_wp2_with fail
          try refine ⟨fun _ => trivial, ?_⟩
          refine namedLL ?_; intro w3 hw3
          have k2 : Blk w3 (W.heap.size + 1) 119 (setsC n fun _ => 0) := by rw [hw3]; refine Blk.alloc' ?_; refine Blk.alloc' ?_; exact Blk.new' _ 119 (setsC n fun _ => 0) (by simp)
          have k4 : Blk w3 (W.heap.size) 119 (setsC n fun _ => 0) := by rw [hw3]; refine Blk.alloc' ?_; refine Blk.alloc' ?_; refine Blk.alloc' ?_; exact Blk.new' _ 119 (setsC n fun _ => 0) (by simp)
          have k6 : Blk w3 (W.heap.size + 1 + 1 + 1) 116 [.int .u32 (st : Int), .slice none 0 0, .slice (some ⟨W.heap.size + 1, 0, none⟩) n n, .slice (some ⟨W.heap.size, 0, none⟩) n n] := by rw [hw3]; exact Blk.new' _ 116 [.int .u32 (st : Int), .slice none 0 0, .slice (some ⟨W.heap.size + 1, 0, none⟩) n n, .slice (some ⟨W.heap.size, 0, none⟩) n n] (by simp)
          have k7 : Blk w3 (W.heap.size + 1 + 1) 108 [.pointer none] := by rw [hw3]; refine Blk.alloc' ?_; exact Blk.new' _ 108 [.pointer none] (by simp)
          have hF : Frm W.heap.size [] W w3 := by rw [hw3]; repeat (first | with_reducible exact Frm.refl _ _ _ | with_reducible refine Frm.drewN ?_ | with_reducible refine Frm.drew ?_ | ((with_reducible refine Frm.setCell' ?_ ?_); · first | (left; simp; done) | (right; simp; done) | (right; simp; omega)) | ((with_reducible refine Frm.alloc' ?_ ?_); · first | exact Nat.le_refl _ | (simp; done) | (simp; omega)))
          clear hw3
          obtain ⟨c3, hc3⟩ : ∃ c, c = W.heap.size + 1 + 1 + 1 := ⟨_, rfl⟩
          obtain ⟨c2, hc2⟩ : ∃ c, c = W.heap.size + 1 + 1 := ⟨_, rfl⟩
          obtain ⟨c1, hc1⟩ : ∃ c, c = W.heap.size + 1 := ⟨_, rfl⟩
          obtain ⟨c0, hc0⟩ : ∃ c, c = W.heap.size := ⟨_, rfl⟩
          simp only [← hc3] at k2 k4 k6 k7 ⊢
          simp only [← hc2] at k2 k4 k6 k7 ⊢
          simp only [← hc1] at k2 k4 k6 k7 ⊢
          simp only [← hc0] at k2 k4 k6 k7 ⊢
          obtain ⟨o0, o1, o2, o3⟩ : W.heap.size ≤ c0 ∧ c0 < c1 ∧ c1 < c2 ∧ c2 < c3 := ⟨by omega, by omega, by omega, by omega⟩
          clear hc0 hc1 hc2 hc3
          have q0 := k7.cell 0
          have q1 := k7.free 0
          refine LeftL.one 8 rfl (by kernel_rfl) ?_
          go_wp2_with fail
          try refine ⟨fun _ => trivial, ?_⟩
          have hL : MadeAt W n st c1 c0 c3 c2 (w3.setCell ⟨c2, 0, none⟩ (.pointer (some ⟨c3, 0, none⟩))) := ⟨hF.setCell (p := ⟨c2, 0, none⟩) (.inr (by dsimp only; omega)) _, by omega, by omega, by omega, by omega, by omega, by omega, by omega, by omega, by omega, by omega, k2.other _ (by dsimp only; omega) _, k4.other _ (by dsimp only; omega) _, k6.other _ (by dsimp only; omega) _, k7.set 0 _⟩
          generalize w3.setCell ⟨c2, 0, none⟩ (.pointer (some ⟨c3, 0, none⟩)) = w4 at hL ⊢
          refine LeftL.done (by kernel_rfl) ?_
          go_simp
          exact HVIA.out c1 c0 c3 c2 w4 hL
      · go_wp2_with fail
        try refine ⟨fun _ => trivial, ?_⟩
        refine LeftL.one 2 rfl (by kernel_rfl) ?_
        go_wp2_with fail
        try refine ⟨fun _ => trivial, ?_⟩
        (refine LeftL.run (v := ?_) 5 rfl (by kernel_rfl) rfl (fun _ _ d _ _ h => by cases d <;> exact h) ?_ trivial ?_; rotate_left; (· intro V _; go_simp; rfl); (intro K' hK'; go_simp; refine hK' _ ?_; clear hK' K'))
        refine LeftL.one 6 rfl (by kernel_rfl) ?_
        go_wp2_with fail
        try refine ⟨fun _ => trivial, ?_⟩
        refine namedLL ?_; intro w3 hw3
        have k2 : Blk w3 (W.heap.size + 1 + 1) 119 (setsC n fun _ => 0) := by rw [hw3]; refine Blk.alloc' ?_; exact Blk.new' _ 119 (setsC n fun _ => 0) (by simp)
        have k4 : Blk w3 (W.heap.size) 119 (setsC n fun _ => 0) := by rw [hw3]; refine Blk.alloc' ?_; refine Blk.alloc' ?_; refine Blk.alloc' ?_; exact Blk.new' _ 119 (setsC n fun _ => 0) (by simp)
        have k6 : Blk w3 (W.heap.size + 1 + 1 + 1) 116 [.int .u32 (st : Int), .slice none 0 0, .slice (some ⟨W.heap.size + 1 + 1, 0, none⟩) n n, .slice (some ⟨W.heap.size, 0, none⟩) n n] := by rw [hw3]; exact Blk.new' _ 116 [.int .u32 (st : Int), .slice none 0 0, .slice (some ⟨W.heap.size + 1 + 1, 0, none⟩) n n, .slice (some ⟨W.heap.size, 0, none⟩) n n] (by simp)
        have k7 : Blk w3 (W.heap.size + 1) 108 [.pointer none] := by rw [hw3]; refine Blk.alloc' ?_; refine Blk.alloc' ?_; exact Blk.new' _ 108 [.pointer none] (by simp)
        have hF : Frm W.heap.size [] W w3 := by rw [hw3]; repeat (first | with_reducible exact Frm.refl _ _ _ | with_reducible refine Frm.drewN ?_ | with_reducible refine Frm.drew ?_ | ((with_reducible refine Frm.setCell' ?_ ?_); · first | (left; simp; done) | (right; simp; done) | (right; simp; omega)) | ((with_reducible refine Frm.alloc' ?_ ?_); · first | exact Nat.le_refl _ | (simp; done) | (simp; omega)))
        clear hw3
        obtain ⟨c3, hc3⟩ : ∃ c, c = W.heap.size + 1 + 1 + 1 := ⟨_, rfl⟩
        obtain ⟨c2, hc2⟩ : ∃ c, c = W.heap.size + 1 + 1 := ⟨_, rfl⟩
        obtain ⟨c1, hc1⟩ : ∃ c, c = W.heap.size + 1 := ⟨_, rfl⟩
        obtain ⟨c0, hc0⟩ : ∃ c, c = W.heap.size := ⟨_, rfl⟩
        simp only [← hc3] at k2 k4 k6 k7 ⊢
        simp only [← hc2] at k2 k4 k6 k7 ⊢
        simp only [← hc1] at k2 k4 k6 k7 ⊢
        simp only [← hc0] at k2 k4 k6 k7 ⊢
        obtain ⟨o0, o1, o2, o3⟩ : W.heap.size ≤ c0 ∧ c0 < c1 ∧ c1 < c2 ∧ c2 < c3 := ⟨by omega, by omega, by omega, by omega⟩
        clear hc0 hc1 hc2 hc3
        have q0 := k7.cell 0
        have q1 := k7.free 0
        refine LeftL.one 8 rfl (by kernel_rfl) ?_
        go_wp2_with fail
        try refine ⟨fun _ => trivial, ?_⟩
        have hL : MadeAt W n st c2 c0 c3 c1 (w3.setCell ⟨c1, 0, none⟩ (.pointer (some ⟨c3, 0, none⟩))) := ⟨hF.setCell (p := ⟨c1, 0, none⟩) (.inr (by dsimp only; omega)) _, by omega, by omega, by omega, by omega, by omega, by omega, by omega, by omega, by omega, by omega, k2.other _ (by dsimp only; omega) _, k4.other _ (by dsimp only; omega) _, k6.other _ (by dsimp only; omega) _, k7.set 0 _⟩
        generalize w3.setCell ⟨c1, 0, none⟩ (.pointer (some ⟨c3, 0, none⟩)) = w4 at hL ⊢
        refine LeftL.done (by kernel_rfl) ?_
        go_simp
        exact HVIA.out c2 c0 c3 c1 w4 hL
    · go_wp2_with fail
      try refine ⟨fun _ => trivial, ?_⟩
      refine LeftL.two 2 4 rfl rfl (by kernel_rfl) ?_ ?_
      · go_wp2_with fail
        try refine ⟨fun _ => trivial, ?_⟩
        refine LeftL.one 4 rfl (by kernel_rfl) ?_
        go_wp2_with fail
        try refine ⟨fun _ => trivial, ?_⟩
        (refine LeftL.run (v := ?_) 5 rfl (by kernel_rfl) rfl (fun _ _ d _ _ h => by cases d <;> exact h) ?_ trivial ?_; rotate_left; (· intro V _; go_simp; rfl); (intro K' hK'; go_simp; refine hK' _ ?_; clear hK' K'))
        refine LeftL.one 6 rfl (by kernel_rfl) ?_
        go_wp2_with fail
        try refine ⟨fun _ => trivial, ?_⟩
        refine namedLL ?_; intro w3 hw3
        have k2 : Blk w3 (W.heap.size + 1) 119 (setsC n fun _ => 0) := by rw [hw3]; refine Blk.alloc' ?_; refine Blk.alloc' ?_; exact Blk.new' _ 119 (setsC n fun _ => 0) (by simp)
        have k4 : Blk w3 (W.heap.size + 1 + 1) 119 (setsC n fun _ => 0) := by rw [hw3]; refine Blk.alloc' ?_; exact Blk.new' _ 119 (setsC n fun _ => 0) (by simp)
        have k6 : Blk w3 (W.heap.size + 1 + 1 + 1) 116 [.int .u32 (st : Int), .slice none 0 0, .slice (some ⟨W.heap.size + 1, 0, none⟩) n n, .slice (some ⟨W.heap.size + 1 + 1, 0, none⟩) n n] := by rw [hw3]; exact Blk.new' _ 116 [.int .u32 (st : Int), .slice none 0 0, .slice (some ⟨W.heap.size + 1, 0, none⟩) n n, .slice (some ⟨W.heap.size + 1 + 1, 0, none⟩) n n] (by simp)
        have k7 : Blk w3 (W.heap.size) 108 [.pointer none] := by rw [hw3]; refine Blk.alloc' ?_; refine Blk.alloc' ?_; refine Blk.alloc' ?_; exact Blk.new' _ 108 [.pointer none] (by simp)
        have hF : Frm W.heap.size [] W w3 := by rw [hw3]; repeat (first | with_reducible exact Frm.refl _ _ _ | with_reducible refine Frm.drewN ?_ | with_reducible refine Frm.drew ?_ | ((with_reducible refine Frm.setCell' ?_ ?_); · first | (left; simp; done) | (right; simp; done) | (right; simp; omega)) | ((with_reducible refine Frm.alloc' ?_ ?_); · first | exact Nat.le_refl _ | (simp; done) | (simp; omega)))
        clear hw3
        obtain ⟨c3, hc3⟩ : ∃ c, c = W.heap.size + 1 + 1 + 1 := ⟨_, rfl⟩
        obtain ⟨c2, hc2⟩ : ∃ c, c = W.heap.size + 1 + 1 := ⟨_, rfl⟩
        obtain ⟨c1, hc1⟩ : ∃ c, c = W.heap.size + 1 := ⟨_, rfl⟩
        obtain ⟨c0, hc0⟩ : ∃ c, c = W.heap.size := ⟨_, rfl⟩
        simp only [← hc3] at k2 k4 k6 k7 ⊢
        simp only [← hc2] at k2 k4 k6 k7 ⊢
        simp only [← hc1] at k2 k4 k6 k7 ⊢
        simp only [← hc0] at k2 k4 k6 k7 ⊢
        obtain ⟨o0, o1, o2, o3⟩ : W.heap.size ≤ c0 ∧ c0 < c1 ∧ c1 < c2 ∧ c2 < c3 := ⟨by omega, by omega, by omega, by omega⟩
        clear hc0 hc1 hc2 hc3
        have q0 := k7.cell 0
        have q1 := k7.free 0
        refine LeftL.one 8 rfl (by kernel_rfl) ?_
        go_wp2_with fail
        try refine ⟨fun _ => trivial, ?_⟩
        have hL : MadeAt W n st c1 c2 c3 c0 (w3.setCell ⟨c0, 0, none⟩ (.pointer (some ⟨c3, 0, none⟩))) := ⟨hF.setCell (p := ⟨c0, 0, none⟩) (.inr (by dsimp only; omega)) _, by omega, by omega, by omega, by omega, by omega, by omega, by omega, by omega, by omega, by omega, k2.other _ (by dsimp only; omega) _, k4.other _ (by dsimp only; omega) _, k6.other _ (by dsimp only; omega) _, k7.set 0 _⟩
        generalize w3.setCell ⟨c0, 0, none⟩ (.pointer (some ⟨c3, 0, none⟩)) = w4 at hL ⊢
        refine LeftL.done (by kernel_rfl) ?_
        go_simp
        exact HVIA.out c1 c2 c3 c0 w4 hL
      · go_wp2_with fail
        try refine ⟨fun _ => trivial, ?_⟩
        refine LeftL.one 2 rfl (by kernel_rfl) ?_
        go_wp2_with fail
        try refine ⟨fun _ => trivial, ?_⟩
        (refine LeftL.run (v := ?_) 5 rfl (by kernel_rfl) rfl (fun _ _ d _ _ h => by cases d <;> exact h) ?_ trivial ?_; rotate_left; (· intro V _; go_simp; rfl); (intro K' hK'; go_simp; refine hK' _ ?_; clear hK' K'))
        refine LeftL.one 6 rfl (by kernel_rfl) ?_
        go_wp2_with fail
        try refine ⟨fun _ => trivial, ?_⟩
        refine namedLL ?_; intro w3 hw3
        have k2 : Blk w3 (W.heap.size + 1 + 1) 119 (setsC n fun _ => 0) := by rw [hw3]; refine Blk.alloc' ?_; exact Blk.new' _ 119 (setsC n fun _ => 0) (by simp)
        have k4 : Blk w3 (W.heap.size + 1) 119 (setsC n fun _ => 0) := by rw [hw3]; refine Blk.alloc' ?_; refine Blk.alloc' ?_; exact Blk.new' _ 119 (setsC n fun _ => 0) (by simp)
        have k6 : Blk w3 (W.heap.size + 1 + 1 + 1) 116 [.int .u32 (st : Int), .slice none 0 0, .slice (some ⟨W.heap.size + 1 + 1, 0, none⟩) n n, .slice (some ⟨W.heap.size + 1, 0, none⟩) n n] := by rw [hw3]; exact Blk.new' _ 116 [.int .u32 (st : Int), .slice none 0 0, .slice (some ⟨W.heap.size + 1 + 1, 0, none⟩) n n, .slice (some ⟨W.heap.size + 1, 0, none⟩) n n] (by simp)
        have k7 : Blk w3 (W.heap.size) 108 [.pointer none] := by rw [hw3]; refine Blk.alloc' ?_; refine Blk.alloc' ?_; refine Blk.alloc' ?_; exact Blk.new' _ 108 [.pointer none] (by simp)
        have hF : Frm W.heap.size [] W w3 := by rw [hw3]; repeat (first | with_reducible exact Frm.refl _ _ _ | with_reducible refine Frm.drewN ?_ | with_reducible refine Frm.drew ?_ | ((with_reducible refine Frm.setCell' ?_ ?_); · first | (left; simp; done) | (right; simp; done) | (right; simp; omega)) | ((with_reducible refine Frm.alloc' ?_ ?_); · first | exact Nat.le_refl _ | (simp; done) | (simp; omega)))
        clear hw3
        obtain ⟨c3, hc3⟩ : ∃ c, c = W.heap.size + 1 + 1 + 1 := ⟨_, rfl⟩
        obtain ⟨c2, hc2⟩ : ∃ c, c = W.heap.size + 1 + 1 := ⟨_, rfl⟩
        obtain ⟨c1, hc1⟩ : ∃ c, c = W.heap.size + 1 := ⟨_, rfl⟩
        obtain ⟨c0, hc0⟩ : ∃ c, c = W.heap.size := ⟨_, rfl⟩
        simp only [← hc3] at k2 k4 k6 k7 ⊢
        simp only [← hc2] at k2 k4 k6 k7 ⊢
        simp only [← hc1] at k2 k4 k6 k7 ⊢
        simp only [← hc0] at k2 k4 k6 k7 ⊢
        obtain ⟨o0, o1, o2, o3⟩ : W.heap.size ≤ c0 ∧ c0 < c1 ∧ c1 < c2 ∧ c2 < c3 := ⟨by omega, by omega, by omega, by omega⟩
        clear hc0 hc1 hc2 hc3
        have q0 := k7.cell 0
        have q1 := k7.free 0
        refine LeftL.one 8 rfl (by kernel_rfl) ?_
        go_wp2_with fail
        try refine ⟨fun _ => trivial, ?_⟩
        have hL : MadeAt W n st c2 c1 c3 c0 (w3.setCell ⟨c0, 0, none⟩ (.pointer (some ⟨c3, 0, none⟩))) := ⟨hF.setCell (p := ⟨c0, 0, none⟩) (.inr (by dsimp only; omega)) _, by omega, by omega, by omega, by omega, by omega, by omega, by omega, by omega, by omega, by omega, k2.other _ (by dsimp only; omega) _, k4.other _ (by dsimp only; omega) _, k6.other _ (by dsimp only; omega) _, k7.set 0 _⟩
        generalize w3.setCell ⟨c0, 0, none⟩ (.pointer (some ⟨c3, 0, none⟩)) = w4 at hL ⊢
        refine LeftL.done (by kernel_rfl) ?_
        go_simp
        exact HVIA.out c2 c1 c3 c0 w4 hL
  intro b2 b3 pb p7 w4 hL
  have hfw4 := HF.out.call hL.fr HF.out.size (by simp)
  have k4 := hL.fr.blk K0.out K0.out.lt (by simp)
  have c1 : w4.cell? ⟨c, 1, none⟩ = some (.slice q.sa n q.sc) := k4.cell 1
  have hl2 : w.heap.size ≤ b2 := Nat.le_trans HF.out.size hL.l2
  have hl3 : w.heap.size ≤ b3 := Nat.le_trans HF.out.size hL.l3
  have hlb : w.heap.size ≤ pb := Nat.le_trans HF.out.size hL.lb
  have hl7 : w.heap.size ≤ p7 := Nat.le_trans HF.out.size hL.l7
  obtain ⟨h0, h1, h2, h3, h4, n23, n2b, n27, n3b, n37, nb7, k2, k3, kb, k7⟩ := hL
  have hcb : c ≠ pb := fun e => by have := K0.out.lt; omega
  have hcb3 : c ≠ b3 := fun e => by have := K0.out.lt; omega
  clear h0 h1 h2 h3 h4 HMK HF K0
  have hst4 := HR.out.steps
  have HF := Lib.hid hfw4
  have K0 := Lib.hid k4
  have HL2 := Lib.hid hl2
  have HL3 := Lib.hid hl3
  have HLB := Lib.hid hlb
  have HL7 := Lib.hid hl7
  have N23 := Lib.hid n23
  have N2B := Lib.hid n2b
  have N27 := Lib.hid n27
  have N3B := Lib.hid n3b
  have N37 := Lib.hid n37
  have NB7 := Lib.hid nb7
  have K2 := Lib.hid k2
  have K3 := Lib.hid k3
  have KB := Lib.hid kb
  have K7 := Lib.hid k7
  have HST4 := Lib.hid hst4
  have HCB := Lib.hid hcb
  have HCB3 := Lib.hid hcb3
  clear hcb3 hcb hst4 k7 kb k3 k2 nb7 n37 n3b n27 n2b n23 hl7 hlb hl3 hl2 k4 hfw4
  go_wp2_with fail
  refine Code.wp_mono (fun e a w h => NoP.out e a w h) (steps_loop R.steps q.X q.sa q.sb q.so q.sc n p7 pb st _ _ HN.out (by have := H12.out; omega) w w4 HF.out HST4.out K7.out KB.out HLB.out HL7.out NB7.out _ _ _ _ _ _ _ _ _ _ _ _ _ _ _ _ _ _ _ _ _ _ _ _ _ _ _ _ _ _ _ _ _ _ _ _ _ _ _ _ _ _ _ _ _ _ _ _ _ _ _ _ _ _ _ _ _ _ _ _ _ _ _ _ _ _ _ _ _ _ _ _ _ _ _ _ _ _ _ _ _ _ _ _ _ _ _ _ _ _ _ _ _ _ _ _ _ _ _ _ _ _ _ _ _ _ _ _ _ _ _ _ _ _ _ _ _ _ _ _ _ _ _ _ _ _ _ _ _ _ _ _ _ _ _ _ _ _ _ _ _ _ _ _ _ _ _ _ _ _ _ _ _ _ _ _ _ _ _ _ _ _ _ _ _ _ _ _ _ _ _ _ _ _ _ _ ?_ ?_)
  · intro hso u9 u10 u11 u12 u13 u14 u15 u52 u53 u54 u55 u56 u57 u58 u59 u60 u61 u62 u63 u64 u65 u66 u67 u68 u69 u70 u71 u72 u73 u74 u75 u76 u77 u78 u79 u80 u81 u82 u83 u84 u85 u86 u87 u88 u89 u90 u91 u92 u93 u94 u95 u96 u97 u98 u99 u100 u101 u102 u103 w' hf
    dsimp only [Exit.inBlock, Exit.then]
    refine ⟨_, results_2 Tryd.results68 rfl rfl, ?_⟩
    exact ⟨hf, planned_n (plannedO_n3 hso) rfl⟩
  intro hso u2 u3 u9 u10 u11 u12 u13 u14 u15 u52 u53 u54 u55 u56 u57 u58 u59 u60 u61 u62 u63 u64 u65 u66 u67 u68 u69 u70 u71 u72 u73 u74 u75 u76 u77 u78 u79 u80 u81 u82 u83 u84 u85 u86 u87 u88 u89 u90 u91 u92 u93 u94 u95 u96 u97 u98 u99 u100 u101 u102 u103 w5 a1 cp1 own hf5 kb5 hsl hown
  have hfw := HF.out.call hf5 HF.out.size (fun x hx hm => by simp at hm; have := HLB.out; omega)
  have k05 := hf5.blk K0.out K0.out.lt (by simpa using HCB.out)
  have k25 := hf5.blk K2.out K2.out.lt (by simpa using Ne.symm N2B.out)
  have k35 := hf5.blk K3.out K3.out.lt (by simpa using Ne.symm N3B.out)
  have k75 := hf5.blk K7.out K7.out.lt (by simpa using NB7.out)
  have c2 : w5.cell? ⟨c, 2, none⟩ = some (.slice q.ea m q.ec) := k05.cell 2
  have hownw : ∀ b, own = some b → b ≠ b2 ∧ b ≠ b3 := fun b hb => by
    have := hown b hb
    have := K2.out.lt
    have := K3.out.lt
    omega
  clear hown hf5 HF K0 K2 K3 KB K7 HCB c1 HST4
  have HSO := Lib.hid hso
  have HF := Lib.hid hfw
  have K0 := Lib.hid k05
  have K2 := Lib.hid k25
  have K3 := Lib.hid k35
  have KB := Lib.hid kb5
  have K7 := Lib.hid k75
  have HSL := Lib.hid hsl
  have HOWN := Lib.hid hownw
  clear hownw hsl k75 kb5 k35 k25 k05 hfw hso
  dsimp only [Exit.inBlock, Exit.then]
  go_wp2_with fail
  refine Code.wp_mono (fun e a w h => NoP.out e a w h) (edges_loop R.edges q.ea q.eb q.eo q.ec n m p7 pb b3 st _ _ HM.out (by have := H12.out; omega) w w5 HF.out HR.out.edges K7.out KB.out K3.out HL3.out N37.out N3B.out _ _ _ _ _ _ _ _ _ _ _ _ _ _ _ _ _ _ _ _ _ _ _ _ _ _ _ _ _ _ _ _ _ _ _ _ _ _ _ _ _ _ _ _ _ _ _ _ _ _ _ _ _ _ _ _ _ _ _ _ _ _ _ _ _ _ _ _ _ _ _ _ _ _ _ _ _ _ _ _ _ _ _ _ _ _ _ _ _ _ _ _ _ _ _ _ _ _ _ _ _ _ _ _ _ _ _ _ _ _ _ _ _ _ _ _ _ _ _ _ _ _ _ _ _ _ _ _ _ _ _ _ _ _ _ _ _ _ _ _ _ _ _ _ _ _ _ _ _ _ _ _ _ _ _ _ _ _ _ _ _ _ _ _ _ _ _ _ _ _ _ _ _ _ _ ?_ ?_)
  · intro hes u17 u107 u108 u109 u110 u111 u112 u113 u114 u115 u116 u117 u118 u119 u120 u121 u122 u123 u124 u125 u126 u127 u128 u129 u130 u131 u132 u133 u134 u135 u136 u137 u138 u139 u140 u141 u142 u143 w' hf
    dsimp only [Exit.inBlock, Exit.then]
    refine ⟨_, results_2 Tryd.results68 rfl rfl, ?_⟩
    exact ⟨hf, planned_n (plannedO_n4 (by rw [← HN.out]; exact hes)) rfl⟩
  intro a hes u2 u3 u17 u107 u108 u109 u110 u111 u112 u113 u114 u115 u116 u117 u118 u119 u120 u121 u122 u123 u124 u125 u126 u127 u128 u129 u130 u131 u132 u133 u134 u135 u136 u137 u138 u139 u140 u141 u142 u143 w6 hf6 k36
  have hal : ∀ j, j < n → a j < 2 ^ n := edges_lt _ (fun _ => 0) a (fun j _ => Nat.pow_pos (by omega)) hes
  have hal12 : ∀ j, j < n → a j < 2 ^ 12 := fun j hj => Nat.lt_of_lt_of_le (hal j hj) (Nat.pow_le_pow_right (by omega) (by have := H12.out; omega))
  have hfw := HF.out.call hf6 HF.out.size (fun x hx hm => by simp at hm; have := HL3.out; omega)
  have k26 := hf6.blk K2.out K2.out.lt (by simpa using N23.out)
  have kb6 := hf6.blk KB.out KB.out.lt (by simpa using N3B.out)
  have k76 := hf6.blk K7.out K7.out.lt (by simpa using N37.out)
  have hsl6 := HSL.out.frm hf6 (fun b hb => HSL.out.lt b hb) (fun b hb => by simpa using (HOWN.out b hb).2)
  have c7 : w6.cell? ⟨p7, 0, none⟩ = some (.pointer (some ⟨pb, 0, none⟩)) := k76.cell 0
  clear hf6 HF K0 K2 K3 KB K7 HSL c2
  have HES := Lib.hid hes
  have HAL := Lib.hid hal
  have HAL12 := Lib.hid hal12
  have HF := Lib.hid hfw
  have K2 := Lib.hid k26
  have K3 := Lib.hid k36
  have KB := Lib.hid kb6
  have K7 := Lib.hid k76
  have HSL := Lib.hid hsl6
  clear hsl6 k76 kb6 k36 k26 hfw hal12 hal hes
  dsimp only [Exit.inBlock, Exit.then]
  go_wp2_with fail
  refine (close_any pb b3 119 n _ _ _ n (by have := H12.out; omega) a HAL12.out w6 KB.out K3.out N3B.out).mono ?_; rintro e w7 ⟨⟨v, rfl⟩, k37, hf7⟩
  have hfw := HF.out.call hf7 HF.out.size (fun x hx hm => by simp at hm; have := HL3.out; omega)
  have k27 := hf7.blk K2.out K2.out.lt (by simpa using N23.out)
  have kb7 := hf7.blk KB.out KB.out.lt (by simpa using N3B.out)
  have k77 := hf7.blk K7.out K7.out.lt (by simpa using N37.out)
  have hsl7 := HSL.out.frm hf7 (fun b hb => HSL.out.lt b hb) (fun b hb => by simpa using (HOWN.out b hb).2)
  have c7 : w7.cell? ⟨p7, 0, none⟩ = some (.pointer (some ⟨pb, 0, none⟩)) := k77.cell 0
  have c8 : w7.cell? ⟨pb, 3, none⟩ = some (.slice (some ⟨b3, 0, none⟩) n n) := kb7.cell 3
  have hcl : ∀ j, j < n → closeK n a n j < 2 ^ n := closeK_lt HAL.out n (Nat.le_refl _)
  obtain ⟨b, hb⟩ : ∃ b, b = closeK n a n := ⟨_, rfl⟩
  rw [← hb] at hcl k37
  clear hf7 HF K2 K3 KB K7 HSL
  have HCL := Lib.hid hcl
  have HF := Lib.hid hfw
  have K2 := Lib.hid k27
  have K3 := Lib.hid k37
  have KB := Lib.hid kb7
  have K7 := Lib.hid k77
  have HSL := Lib.hid hsl7
  have HB := Lib.hid hb
  clear hb hsl7 k77 kb7 k37 k27 hfw hcl
  go_wp2_with fail
  refine sets_loop n p7 pb b2 b3 st _ b (by have := H12.out; omega) HCL.out w w7 HG.out HF.out K7.out KB.out K2.out K3.out HL2.out N27.out N2B.out (Ne.symm N23.out) _ _ _ _ _ _ _ _ _ _ _ _ _ _ _ _ _ _ _ _ _ _ _ _ _ _ _ _ _ _ _ _ _ _ _ _ _ _ _ _ _ _ _ _ _ _ _ _ _ _ _ _ _ _ _ _ _ _ _ _ _ _ _ _ _ _ _ _ _ _ _ _ _ _ _ _ _ _ _ _ _ _ _ _ _ _ _ _ _ _ _ _ _ _ _ _ _ _ _ _ _ _ _ _ _ _ _ _ _ _ _ _ _ _ _ _ _ _ _ _ _ _ _ _ _ _ _ _ _ _ _ _ _ _ _ _ _ _ _ _ _ _ _ _ _ _ _ _ _ _ _ _ _ _ _ _ _ _ _ _ _ _ _ _ _ _ _ _ _ _ _ _ _ _ _ _ ?_ ?_
  · intro hse u18 u19 u20 u151 u152 u153 u154 u155 u156 u157 u158 u159 u160 u161 u162 u163 u164 u165 u166 u167 u168 u169 u170 u171 u172 u173 u174 u175 u176 u177 ds w' hf hmk
    dsimp only [Exit.inBlock, Exit.then]
    refine leaves_marks hmk (fun w'' hbk hf2 => ⟨_, results_2 Tryd.results68 rfl rfl, ?_⟩)
    exact ⟨hf.trans hf2, planned_n (plannedO_n5 (by rw [← HN.out]; exact HES.out) (by rw [← HN.out, ← HB.out]; exact hse)) rfl⟩
  intro hse u2 u3 u18 u19 u20 u151 u152 u153 u154 u155 u156 u157 u158 u159 u160 u161 u162 u163 u164 u165 u166 u167 u168 u169 u170 u171 u172 u173 u174 u175 u176 u177 ds w8 hf8 k28 hmk
  have hfw := HF.out.call hf8 HF.out.size (fun x hx hm => by simp at hm; have := HL2.out; omega)
  have k38 := hf8.blk K3.out K3.out.lt (by simpa using Ne.symm N23.out)
  have kb8 := hf8.blk KB.out KB.out.lt (by simpa using N2B.out)
  have k78 := hf8.blk K7.out K7.out.lt (by simpa using N27.out)
  have hsl8 := HSL.out.frm hf8 (fun b hb => HSL.out.lt b hb) (fun b hb => by simpa using (HOWN.out b hb).1)
  have c9 : w8.cell? ⟨p7, 0, none⟩ = some (.pointer (some ⟨pb, 0, none⟩)) := k78.cell 0
  clear hf8 HF K2 K3 KB K7 HSL c7 c8
  have HF := Lib.hid hfw
  have K2 := Lib.hid k28
  have K3 := Lib.hid k38
  have KB := Lib.hid kb8
  have K7 := Lib.hid k78
  have HSL := Lib.hid hsl8
  have HMK := Lib.hid hmk
  have HSE := Lib.hid hse
  clear hse hmk hsl8 k78 kb8 k38 k28 hfw
  dsimp only [Exit.inBlock, Exit.then]
  go_wp2_with fail
  refine leaves_marks HMK.out (fun w'' hbk hf2 => ⟨_, results_2 Tryd.results68 rfl rfl, ?_⟩)
  obtain ⟨P, hP, p1, p2, p3, p4, p5⟩ := plannedO_y HST.out (by have := HN.out; have := H12.out; omega) (by have := HM.out; have := H100.out; omega) HSO.out (by rw [← HN.out]; exact HES.out) (by rw [← HN.out, ← HB.out]; exact HSE.out)
  refine ⟨HF.out.trans hf2, ?_⟩
  unfold PlannedIs
  rw [hP]
  rw [← HN.out] at p2 p3 p4 p5
  rw [← HB.out] at p4 p5
  obtain ⟨ad, sb, off, cap, hv, hrw⟩ := (HSL.out.kept (fun b hb => kept_blk HSL.out hbk b hb)).rw (actsF_len R.steps)
  cases hv
  refine ⟨pb, ⟨a1, sb, off, cp1, some ⟨b2, 0, none⟩, b2, 0, n, some ⟨b3, 0, none⟩, b3, 0, n⟩, rfl, ?_, ?_, ?_, ?_⟩
  · have := hbk _ _ _ KB.out
    unfold planC
    rw [p1, p2]
    exact this
  · rw [p2]; exact hrw.congr p3
  · rw [p2, p4]; exact sets_rw (hbk _ _ _ K2.out) (by have := H12.out; omega)
  · rw [p2, p5]; exact sets_rw (hbk _ _ _ K3.out) (by have := H12.out; omega)
end Go.Proofs.YtfmigicmfolbjaaDoor
