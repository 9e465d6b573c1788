/-
  A RANGE OVER A FUNCTION: regions of a round walked as outside of rounds; the law for an iterator that itself writes blocks made ahead of the loop, and a body that ends the round or returns.
-/
import Derived.RangeFuncWrites
import Derived.RangeFuncLeaves
import Derived.RangeFuncCalls
import Derived.RangeFuncSeq
import Derived.TacticsIn
import Derived.ControlIn
import Derived.Test.YtghkfopcjdkieaaDoorLib4
namespace Go.Proofs.YtghkfopcjdkieaaDoor
set_option linter.all false
set_option linter.unusedSimpArgs false
set_option linter.unusedVariables false
open Go.RowKit

section
variable {P : Program}

theorem rowsIn_of {n l : Nat} {row : String} {args : Array Value} {w : World} {R : Value → World → Prop} (h : Rows P row args w R) : RowsIn (Fence.wide.inRound l) n P row args w R := by
  intro c cs _
  obtain ⟨v, w', hR, hs⟩ := h c cs
  exact ⟨v, w', hR, stepsIn_wide.2 hs⟩

theorem uponIn_of {n l : Nat} {o : Oper} {a : Act} {nx nx' : Act → World → Prop} {Q : Exit → Act → World → Prop} (hn : ∀ a w, nx a w → nx' a w) (r : Result Next) (h : o.upon P a nx Q r) : o.uponIn (Fence.wide.inRound l) n P a nx' Q r := by
  cases r with
  | ok x w' =>
    cases x with
    | enter f args =>
      refine ⟨fun h0 => by simp [Fence.wide] at h0, CallsIn.inRound l (callsIn_wide.2 (Calls.mono h ?_))⟩
      intro e w'' he
      cases e with
      | returned v => exact hn _ _ he
      | panicked c => exact he
      | outgrown => exact he
    | row row args => exact ⟨fun h0 => by simp [Fence.wide] at h0, rowsIn_of (Rows.mono h fun v w'' hv => hn _ _ hv)⟩
    | value v => exact hn _ _ h
    | skip => exact hn _ _ h
    | defer d => exact hn _ _ h
    | _ => exact h.elim
  | halt x w' =>
    cases x with
    | panic v => exact h
    | _ => exact h.elim

/-- Are there no defer statements? -/
def noDefers (l : List Oper) : Bool := l.all fun o => match o.op with | .defer _ => false | _ => true

theorem opIn_of {n l : Nat} {o : Oper} {a : Act} {w : World} {nx nx' : Act → World → Prop} {Q : Exit → Act → World → Prop} (hd : ∀ c, o.op ≠ .defer c) (hn : ∀ a w, nx a w → nx' a w) (h : o.wp P a w nx Q) :
    o.wpIn (Fence.wide.inRound l) n P a w nx' Q := by
  refine ⟨fun _ _ => trivial, ?_⟩
  rw [Fence.inRound_round, Oper.semAt_some l _ _ hd]
  exact uponIn_of hn _ h

theorem wpListIn_of {n l : Nat} {ops : Array Oper} {Q : Exit → Act → World → Prop} (hLO : ¬ LetsOut Q) : ∀ (rest : List Oper) (_ : noDefers rest = true) (a : Act) (w : World), wpList P ops Q rest a w → wpListIn (Fence.wide.inRound l) n P ops Q rest a w
  | [], _, _, _, h => h
  | o :: rest, hd, a, w, h => by
    have hd' : (match o.op with | .defer _ => false | _ => true) = true ∧ noDefers rest = true := by simpa [noDefers] using hd
    have ih := wpListIn_of (n := n) (l := l) (ops := ops) hLO rest hd'.2
    simp only [wpList] at h
    simp only [wpListIn]
    split
    · rename_i hw
      rw [if_pos hw] at h
      rcases h with h | h
      · exact opIn_of (fun c hc => by have := hd'.1; rw [hc] at this; simp at this) ih h
      · exact absurd h.2 hLO
    · rename_i hw
      rw [if_neg hw] at h
      exact ⟨fun _ _ => trivial, ih _ _ h⟩

/-- A region of a round, walked as outside of rounds. -/
theorem regionIn_of {n l id : Nat} {xs : List Oper} {Q : Exit → Act → World → Prop} {a : Act} {w : World} (hLO : ¬ LetsOut Q) (hd : noDefers xs = true) (h : wpList P xs.toArray Q xs a w) :
    (Code.region id xs.toArray false).wpIn (Fence.wide.inRound l) n P Q a w :=
  wpIn_region_lit (wpListIn_of hLO xs hd a w h)

/-- (In a fence:) an operation that yields a value. -/
theorem wpListIn_value {F : Fence} {n : Nat} {ops : Array Oper} {Q : Exit → Act → World → Prop} {a : Act} {w w' : World} {rest : List Oper} {o : Oper} {v : Value} (hg : o.guard = none) (hF : ∀ f, F.fn f)
    (hd : ∀ c, o.op ≠ .defer c) (hr : (execOp a.eval o).run P w = .ok (.value v) w') (h : wpListIn F n P ops Q rest (a.put o.dst v) w') : wpListIn F n P ops Q (o :: rest) a w := by
  refine wpListIn_plain hg fun K hK => ⟨fun f _ => hF f, ?_⟩
  rw [Oper.semAt_eq _ _ _ hd, hr]
  exact hK _ _ h
end

theorem Frm.putObj {B : Nat} {S : List Nat} {a w : World} (h : Frm B S a w) {g : Nat} (hp : g ∈ S ∨ B ≤ g) (o : Obj) : Frm B S a (w.putObj g o) := by
  refine ⟨h.os, h.tape, h.output, by rw [World.putObj_size]; exact h.size, fun k hk hn => ?_⟩
  rw [World.putObj_heap_other]
  · exact h.block k hk hn
  · rintro rfl
    rcases hp with hp | hp
    · exact hn hp
    · omega
theorem Frm.at_ {B : Nat} {S : List Nat} {a w : World} (h : Frm B S a w) {k : Nat} {o : Obj} (ho : a.heap[k]? = some o) (hk : k < B) (hn : k ∉ S) : w.heap[k]? = some o := (h.block k hk hn).trans ho

section
variable {P : Program}

/-- Of the blocks below B only those of S have turned; and none of those that are there from number z on. -/
structure KeepY (B : Nat) (S : List Nat) (z : Nat) (W W' : World) : Prop where
  frm : Frm B S W W'
  young : ∀ k, z ≤ k → k < W.heap.size → W'.heap[k]? = W.heap[k]?
theorem KeepY.trans {B : Nat} {S : List Nat} {z : Nat} {a b c : World} (h : KeepY B S z a b) (k : KeepY B S z b c) : KeepY B S z a c :=
  ⟨h.frm.trans k.frm, fun i hz hi => (k.young i hz (Nat.lt_of_lt_of_le hi h.frm.size)).trans (h.young i hz hi)⟩
theorem KeepY.mono {B B' : Nat} {S : List Nat} {z : Nat} {a b : World} (h : KeepY B S z a b) (hB : B' ≤ B) : KeepY B' S z a b := ⟨h.frm.mono hB (fun _ _ h => h), h.young⟩
theorem KeepY.putObj {B : Nat} {S : List Nat} {z : Nat} {a w : World} (h : KeepY B S z a w) {g : Nat} (hB : B ≤ g) (hg : g < z) (o : Obj) : KeepY B S z a (w.putObj g o) :=
  ⟨h.frm.putObj (.inr hB) o, fun k hz hk => (World.putObj_heap_other (by omega)).trans (h.young k hz hk)⟩
/-- What a round's body must leave. -/
def roundQ (w : World) (S0 : List Nat) (z : Nat) (J Jx : Nat → World → Prop) (cont : Nat → Bool) (i : Nat) (W : World) : Exit → Act → World → Prop
  | .normal, _, W' => KeepY (w.heap.size + 2) S0 z W W' ∧ cont i = true ∧ J (i + 1) W'
  | .ret, _, W' => KeepY (w.heap.size + 2) S0 z W W' ∧ cont i = false ∧ Jx i W'
  | _, _, _ => False

/-- THE LAW: the iterator changes blocks of ST (below the loop's start) and makes new ones; the body those of S0, and what it makes. -/
theorem wp_rangeFunc_ret {g : Operand} {ps : Array Tmp} {assign body : Code} {Q : Exit → Act → World → Prop} {a : Act} {w : World} {gf m : Nat} {lb : Array Value} (hg : a.eval g = .func (.func gf) #[] lb)
    (eg : ∀ args w, (callFunc gf args).run P w = .ok (.enter gf args) w) (encs : Nat → Array Value) (hps : ∀ i, (encs i).size = ps.size) (rn : Nat) (cont : Nat → Bool) (ST S0 : List Nat) (J Jx : Nat → World → Prop) (R : Option Nat → World → Prop)
    (hS0 : ∀ x ∈ S0, x < w.heap.size) (hST : ∀ x ∈ ST, x < w.heap.size)
    (hJ : ∀ i A B, w.heap.size + 2 ≤ A.heap.size → J i A → Frm A.heap.size ((w.heap.size + 1) :: ST) A B → J i B)
    (hJx : ∀ i A o, w.heap.size + 2 ≤ A.heap.size → Jx i A → Jx i (A.putObj (w.heap.size + 1) o))
    (hR : ∀ i A o, R i A → R i (A.putObj (w.heap.size + 1) o))
    (hiter : ∀ (J' Jx' : Nat → World → Prop) (W : World), Frm w.heap.size [] w W → w.heap.size + 2 ≤ W.heap.size →
      (∀ i A B, w.heap.size + 2 ≤ A.heap.size → J' i A → Frm A.heap.size ST A B → J' i B) →
      (∀ i A0 A, i < rn → w.heap.size + 2 ≤ A0.heap.size → J' i A0 → Frm A0.heap.size ST A0 A → YieldAt Fence.wide m P (w.heap.size + 1) (encs i) A fun e A' =>
        KeepY w.heap.size S0 A0.heap.size A A' ∧ ((cont i = true ∧ e = .returned (.bool true) ∧ J' (i + 1) A') ∨ (cont i = false ∧ e = .returned (.bool false) ∧ Jx' i A'))) →
      J' 0 W →
      CallsIn Fence.wide m P gf (#[.func (.yield (w.heap.size + 1)) #[] #[]] ++ lb) W fun e W' => (∃ v, e = .returned v) ∧ ((R none W' ∧ J' rn W') ∨ ∃ i, R (some i) W' ∧ Jx' i W'))
    (h0 : ∀ W, Frm w.heap.size [] w W → w.heap.size + 2 ≤ W.heap.size → J 0 W)
    (hround : ∀ i A0 W, i < rn → w.heap.size + 2 ≤ A0.heap.size → J i A0 → Frm A0.heap.size ST A0 W → J i W →
      assign.wpIn (Fence.wide.inRound (w.heap.size + 1)) m P (Exit.then (fun a₁ W₁ => KeepY (w.heap.size + 2) S0 A0.heap.size W W₁ ∧ ∀ o, body.wpIn (Fence.wide.inRound (w.heap.size + 1)) m P (roundQ w S0 A0.heap.size J Jx cont i (W₁.putObj (w.heap.size + 1) o)) a₁ (W₁.putObj (w.heap.size + 1) o)) (fun _ _ _ => False))
        { tmps := (ps.zip (encs i)).foldl (fun t (p, v) => t.setIfInBounds p v) a.tmps, defers := [] } W)
    (hdone : ∀ W, R none W → J rn W → W.heap[w.heap.size]? = some (.deferred (some [])) → Q .normal { a with defers := { target := .collected w.heap.size, args := #[] } :: a.defers } W)
    (hstop : ∀ i W, R (some i) W → Jx i W → W.heap[w.heap.size]? = some (.deferred (some [])) → Q .ret { a with defers := { target := .collected w.heap.size, args := #[] } :: a.defers } W) :
    (Code.rangeFunc g ps assign body).wpIn Fence.wide (m + 1) P Q a w := by
  refine wpIn_rangeFunc ?_
  intro fn hfn
  obtain ⟨rec, hrec⟩ : ∃ rec : LoopState → Option Code → Loop, rec = fun st pe => { state := st, pending := pe, fn, tmps := a.tmps, params := ps, assign, body, defers := w.heap.size } := ⟨_, rfl⟩
  obtain ⟨W1, hW1⟩ : ∃ W1, (w.alloc (.deferred (some []))).alloc (.loop (rec .ready none)) = W1 := ⟨_, rfl⟩
  have hL1 : W1.heap[w.heap.size + 1]? = some (.loop (rec .ready none)) := by
    rw [← hW1]; have := World.alloc_heap_new (w.alloc (.deferred (some []))) (.loop (rec .ready none)); rwa [World.size_alloc] at this
  have hK1 : W1.heap[w.heap.size]? = some (.deferred (some [])) := by
    rw [← hW1]; exact (Below.heap_alloc _ _ _ (by simp)).trans (World.alloc_heap_new w _)
  have hf1 : Frm w.heap.size [] w W1 := by
    rw [← hW1]; exact ((Frm.refl _ _ w).alloc (Nat.le_refl _) _).alloc (by simp) _
  have hs1 : w.heap.size + 2 ≤ W1.heap.size := by rw [← hW1]; simp
  have hS0L : w.heap.size + 1 ∉ S0 := fun h => by have := hS0 _ h; omega
  have hS0D : w.heap.size ∉ S0 := fun h => by have := hS0 _ h; omega
  have hSTL : w.heap.size + 1 ∉ ST := fun h => by have := hST _ h; omega
  have hSTD : w.heap.size ∉ ST := fun h => by have := hST _ h; omega
  refine ⟨w.heap.size + 1, [{ target := .collected w.heap.size, args := #[] }], W1, { target := .fn (.func gf) lb, args := #[.func (.yield (w.heap.size + 1)) #[] #[]] }, W1, gf,
    #[.func (.yield (w.heap.size + 1)) #[] #[]] ++ lb, W1, ?_, ?_, ?_, ?_, fun h => by simp [Fence.wide] at h, ?_⟩
  · rw [← hW1, hrec]; exact run_enterLoop_outer _ _ _ _ _
  · simp only [resolve, hg]
    simp [go_sem]
  · intro f' _; exact trivial
  · simp [invoke, go_sem, eg]
  · refine (hiter (fun i W => J i W ∧ W.heap[w.heap.size + 1]? = some (.loop (rec .ready none)) ∧ W.heap[w.heap.size]? = some (.deferred (some [])) ∧ w.heap.size + 2 ≤ W.heap.size)
      (fun i W => Jx i W ∧ W.heap[w.heap.size + 1]? = some (.loop (rec .done (some .ret))) ∧ W.heap[w.heap.size]? = some (.deferred (some [])) ∧ w.heap.size + 2 ≤ W.heap.size) W1 hf1 hs1 ?_ ?_ ⟨h0 W1 hf1 hs1, hL1, hK1, hs1⟩).mono ?_
    · rintro i A B hA ⟨hj, hl, hk, hz⟩ hf
      exact ⟨hJ i A B hA hj (hf.narrow fun k hk => List.mem_cons_of_mem _ hk), hf.at_ hl (by omega) hSTL, hf.at_ hk (by omega) hSTD, Nat.le_trans hz hf.size⟩
    · rintro i A0 W hi hz0 ⟨hj0, hl0, hk0, hz'⟩ hf0
      have hj : J i W := hJ i A0 W hz0 hj0 (hf0.narrow fun k hk => List.mem_cons_of_mem _ hk)
      have hl := hf0.at_ hl0 (by omega) hSTL
      have hk := hf0.at_ hk0 (by omega) hSTD
      have hz : w.heap.size + 2 ≤ W.heap.size := Nat.le_trans hz0 hf0.size
      have hy := run_yield (P := P) (args := encs i) hl (by rw [hrec]; exact hps i)
      rw [hrec] at hy
      refine ⟨fn, _, assign, body, hy, roundIn_of_wpIn trivial (wpIn_mono (hround i A0 W hi hz0 hj0 hf0 hj) ?_)⟩
      rintro e a1 W2 hp
      cases e with
      | normal =>
        obtain ⟨hy2, hbody⟩ := hp
        have hf2 := hy2.frm
        have hl2 := hf2.at_ hl (by omega) hS0L
        have hk2 := hf2.at_ hk (by omega) hS0D
        refine ⟨_, run_beginRound hl2 (by rw [hrec]), ?_⟩
        have hz2 : w.heap.size + 2 ≤ W2.heap.size := Nat.le_trans hz hf2.size
        refine wpIn_mono (hbody _) ?_
        have hl3 : (W2.putObj (w.heap.size + 1) (.loop { rec .ready none with state := .busy })).heap[w.heap.size + 1]? = some (.loop { rec .ready none with state := .busy }) := World.putObj_heap_same (by omega)
        have hk3 : (W2.putObj (w.heap.size + 1) (.loop { rec .ready none with state := .busy })).heap[w.heap.size]? = some (.deferred (some [])) := (World.putObj_heap_other (by omega)).trans hk2
        have hf3 : KeepY w.heap.size S0 A0.heap.size W (W2.putObj (w.heap.size + 1) (.loop { rec .ready none with state := .busy })) :=
          (hy2.mono (B' := w.heap.size) (by omega)).putObj (by omega) (by omega) _
        have fin : ∀ (jump : Option Code) (W3 : World), KeepY (w.heap.size + 2) S0 A0.heap.size (W2.putObj (w.heap.size + 1) (.loop { rec .ready none with state := .busy })) W3 →
            (Instr.endRound (w.heap.size + 1) jump).run P W3 = .ok (.bool jump.isNone) (W3.putObj (w.heap.size + 1) (.loop (rec (if jump.isNone then .ready else .done) jump))) ∧
            (W3.putObj (w.heap.size + 1) (.loop (rec (if jump.isNone then .ready else .done) jump))).heap[w.heap.size + 1]? = some (.loop (rec (if jump.isNone then .ready else .done) jump)) ∧
            (W3.putObj (w.heap.size + 1) (.loop (rec (if jump.isNone then .ready else .done) jump))).heap[w.heap.size]? = some (.deferred (some [])) ∧
            w.heap.size + 2 ≤ W3.heap.size ∧ KeepY w.heap.size S0 A0.heap.size W (W3.putObj (w.heap.size + 1) (.loop (rec (if jump.isNone then .ready else .done) jump))) := fun jump W3 hy4 => by
          have hf4 := hy4.frm
          have hl4 := hf4.at_ hl3 (by omega) hS0L
          have hk4 := hf4.at_ hk3 (by omega) hS0D
          have hz4 : w.heap.size + 2 ≤ W3.heap.size := by have := hf4.size; rw [World.putObj_size] at this; omega
          have := run_endRound (P := P) jump hl4
          rw [hrec] at this ⊢
          refine ⟨this, World.putObj_heap_same (by omega), (World.putObj_heap_other (by omega)).trans hk4, hz4, ?_⟩
          exact (hf3.trans (hy4.mono (B' := w.heap.size) (by omega))).putObj (by omega) (by omega) _
        rintro e a3 W3 hp
        cases e with
        | normal =>
          obtain ⟨hf4, hc, hj4⟩ := hp
          obtain ⟨hr, hl5, hk5, hz5, hf5⟩ := fin none W3 hf4
          exact ⟨_, _, hr, hf5, .inl ⟨hc, rfl, hJ _ _ _ hz5 hj4 ((Frm.refl _ _ W3).putObj (.inl (by simp)) _), hl5, hk5, by rw [World.putObj_size]; exact hz5⟩⟩
        | ret =>
          obtain ⟨hf4, hc, hj4⟩ := hp
          obtain ⟨hr, hl5, hk5, hz5, hf5⟩ := fin (some .ret) W3 hf4
          exact ⟨_, _, hr, hf5, .inr ⟨hc, rfl, hJx _ _ _ hz5 hj4, hl5, hk5, by rw [World.putObj_size]; exact hz5⟩⟩
        | exit id => exact hp.elim
        | goto t => exact hp.elim
        | panic ch => exact hp.elim
        | outgrown => exact hp.elim
      | exit id => exact hp.elim
      | goto t => exact hp.elim
      | ret => exact hp.elim
      | panic ch => exact hp.elim
      | outgrown => exact hp.elim
    · rintro e W2 ⟨⟨v, rfl⟩, (⟨hr, hj, hl, hk, hz⟩ | ⟨i, hr, hj, hl, hk, hz⟩)⟩
      · refine ⟨none, _, by have := run_endLoop (P := P) hl (by rw [hrec]; simp); rw [hrec] at this; exact this, ?_⟩
        exact hdone _ (hR _ _ _ hr) (hJ _ _ _ hz hj ((Frm.refl _ _ W2).putObj (.inl (by simp)) _)) ((World.putObj_heap_other (by omega)).trans hk)
      · refine ⟨some .ret, _, by have := run_endLoop (P := P) hl (by rw [hrec]; simp); rw [hrec] at this; exact this, ?_⟩
        exact wpIn_ret (hstop i _ (hR _ _ _ hr) (hJx _ _ _ hz hj) ((World.putObj_heap_other (by omega)).trans hk))
end
end Go.Proofs.YtghkfopcjdkieaaDoor
