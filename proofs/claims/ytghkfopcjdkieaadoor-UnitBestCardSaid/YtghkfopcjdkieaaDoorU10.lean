/-
  Rows of structs; whether weather is valid.
-/
import Derived.Test.YtghkfopcjdkieaaDoorU9
import Derived.Deep.CutRange
namespace Go.Proofs.YtghkfopcjdkieaaDoor
set_option linter.all false
set_option linter.unusedSimpArgs false
set_option linter.unusedVariables false
open Go.RowKit

theorem stop_ {p : Prop} (h : Stay (id p)) : p := stay h

/-- A store of a whole struct into a variable that has just been made. -/
theorem wpList_storeNew {P : Program} {ops : Array Oper} {rest : List Oper} {o : Oper} {a : Act} {w : World} {Q : Exit → Act → World → Prop} (hgd : o.guard = none) {ty : TypeId} {x y : Operand} (ho : o.op = .store ty x y)
    {T : Nat} {zs cs : List Value} (hx : a.eval x = .pointer (some ⟨w.heap.size, 0, none⟩)) (hy : a.eval y = .agg cs.toArray) (hl : zs.length = cs.length) (hi : (P.info? ty).map (·.size) = some cs.length)
    (h1 : ∀ v ∈ cs, v.oneCell' = true) (h : ∀ W', Frm w.heap.size [] w W' → Blk W' w.heap.size T cs → W'.heap.size = w.heap.size + 1 → wpList P ops Q rest (a.put o.dst undef) W') :
    wpList P ops Q (o :: rest) a (w.alloc (.cells zs.toArray T (0, 0))) := by
  have hb := Blk.new w T zs
  refine wpList_storeB hgd ho hb hx hy hl hi h1 ?_
  refine h _ ?_ (hb.row cs) (by simp [World.setRow])
  exact ((Frm.refl _ _ w).alloc (Nat.le_refl _) _).setRow (.inr (Nat.le_refl _)) _

theorem viaR_k {P : Program} {x y : Code} {Q : Exit → Act → World → Prop} {a : Act} {w : World} {K0 : Act → World → Prop} (hK : ∀ a w, (Code.seq x y).wp P Q a w → K0 a w) (ix : List Nat) (r : Nat) (v : Value) (R : World → Prop)
    (h1 : ∀ K : Act → World → Prop, Hid (∀ f w', R w' → K ((fillA a ix f).put (some r) v) w') → x.wp P (Exit.then K Q) a w)
    (h2 : ∀ (f : Nat → Value) (w' : World), R w' → y.wp P Q ((fillA a ix f).put (some r) v) w') : K0 a w :=
  hK _ _ (wp_seq (wp_mono (h1 (fun a' w' => y.wp P Q a' w') (Lib.hid fun f w' hR => h2 f w' hR)) fun e a w h => by cases e <;> exact h))
theorem viaR_w {P : Program} {x y : Code} {Q : Exit → Act → World → Prop} {a : Act} {w : World} (ix : List Nat) (r : Nat) (v : Value) (R : World → Prop)
    (h1 : ∀ K : Act → World → Prop, Hid (∀ f w', R w' → K ((fillA a ix f).put (some r) v) w') → x.wp P (Exit.then K Q) a w)
    (h2 : ∀ (f : Nat → Value) (w' : World), R w' → y.wp P Q ((fillA a ix f).put (some r) v) w') : (Code.seq x y).wp P Q a w := viaR_k (K0 := (Code.seq x y).wp P Q) (fun _ _ h => h) ix r v R h1 h2
theorem viaR_leaf {K : Act → World → Prop} {a : Act} {w : World} {ix : List Nat} {r : Nat} {v : Value} {R : World → Prop} (h : Hid (∀ f w', R w' → K ((fillA a ix f).put (some r) v) w')) {b : Act} (hu : b.eval (.tmp r) = v)
    (hb : b = (fillA a ix (fun i => b.eval (.tmp i))).put (some r) (b.eval (.tmp r))) (hR : R w) : K b w := by
  rw [hb, hu]; exact h.out _ _ hR
/-- A box of ours, and what is below it, behind a call that turns nothing. -/
theorem boxNext {W w w1 : World} {b T : Nat} {cs : List Value} (h : Blk W b T cs ∧ Frm w.heap.size [] w W) (hf : Frm W.heap.size [] W w1) : Blk w1 b T cs ∧ Frm w.heap.size [] w w1 :=
  ⟨hf.blk h.1 h.1.lt (by simp), h.2.call hf h.2.size (by simp)⟩

/-- A slice of structs, that is read: n of them, of 'size' cells each; f: their cells. -/
structure Rw (w : World) (size : Nat) (ad : Option Addr) (b off n : Nat) (f : Nat → List Value) : Prop where
  ad : 0 < n → ad = some ⟨b, off, none⟩
  len : n ≤ maxLen
  at_ : ∀ i, i < n → ∀ k v, (f i)[k]? = some v → w.cell? ⟨b, off + i * size + k, none⟩ = some v
theorem Rw.frm {w w' : World} {size : Nat} {ad : Option Addr} {b off n : Nat} {f : Nat → List Value} {B : Nat} (h : Rw w size ad b off n f) (hf : Frm B [] w w') (hB : w.heap.size ≤ B) : Rw w' size ad b off n f := by
  refine ⟨h.ad, h.len, fun i hi k v hv => ?_⟩
  have h0 := h.at_ i hi k v hv
  have := cell_lt h0
  rw [hf.cell (by simp at this ⊢; omega) (by simp)]
  exact h0
theorem Rw.load {w : World} {size : Nat} {ad : Option Addr} {b off n : Nat} {f : Nat → List Value} (h : Rw w size ad b off n f) {P : Program} {ty : TypeId} {d : TypeDesc} (hu : P.underlying ty = some d) (hd : d.isRow = true)
    {i : Nat} (hi : i < n) (hk : (P.info? ty).map (·.size) = some (f i).length) : (loadVar ty ⟨b, off + i * size, none⟩).run P w = .ok (.agg (f i).toArray) w :=
  run_loadVar_mid w b (off + i * size) ty (f i) d (fun j v hv => by exact h.at_ i hi j v hv) hu hd hk

/-- A piece of weather. -/
structure FC where
  from_ : Int
  to_ : Int
  lx : Int
  ly : Int
  hx : Int
  hy : Int
  sea : Int
  wind : Int
def FC.cells (f : FC) : List Value := [.int .i64 f.from_, .int .i64 f.to_, .int .i64 f.lx, .int .i64 f.ly, .int .i64 f.hx, .int .i64 f.hy, .int .i64 f.sea, .int .i64 f.wind]
theorem info54 : (Tryd.prog.info? 54).map (fun i => i.size) = some 8 := by kernel_rfl
theorem FC.info (u : FC) : (Tryd.prog.info? 54).map (fun i => i.size) = some u.cells.length := info54
def frontT (f : FC) : Bool := timeB f.from_ && timeB f.to_ && decide (f.from_ ≤ f.to_)
def frontP (f : FC) : Bool := placeB f.lx f.ly && placeB f.hx f.hy && decide (f.lx ≤ f.hx) && decide (f.ly ≤ f.hy)
/-- Is a piece of weather valid? -/
def frontB (f : FC) : Bool := frontT f && frontP f && inB f.sea 0 100 && inB f.wind 0 100
def weatherB (n : Nat) (S : Nat → FC) : Bool := decide (n ≤ 100) && (List.range n).all fun i => frontB (S i)

set_option maxRecDepth 100000 in
set_option maxHeartbeats 4000000 in
theorem front_any (f : FC) (w : World) : Calls Tryd.prog 59 #[.agg f.cells.toArray] w fun e w' => e = .returned (.bool (frontB f)) ∧ Frm w.heap.size [] w w' := by
  have hf59 := Tryd.func59
  obtain ⟨p, hp⟩ : ∃ b, b = frontT f := ⟨_, rfl⟩
  obtain ⟨q, hq⟩ : ∃ b, b = frontP f := ⟨_, rfl⟩
  have hu : frontB f = (p && q && inB f.sea 0 100 && inB f.wind 0 100) := by rw [hp, hq]; rfl
  unfold frontT at hp
  unfold frontP at hq
  have HP := Lib.hid hp
  have HQ := Lib.hid hq
  have HU := Lib.hid hu
  clear hu hq hp
  go_enter Tryd.func59, Tryd.ntmps59
  iterate 10 go_step
  refine named ?_; intro W hW
  have hb : Blk W w.heap.size 54 f.cells := by rw [hW]; repeat (first | exact Blk.new w 54 f.cells | refine Blk.alloc' ?_)
  have hf : Frm w.heap.size [] w W := by rw [hW]; repeat (first | with_reducible exact Frm.refl _ _ _ | with_reducible refine Frm.drewN ?_ | with_reducible refine Frm.drew ?_ | ((with_reducible refine Frm.setCell' ?_ ?_); · first | (left; simp; done) | (right; simp; done) | (right; simp; omega)) | ((with_reducible refine Frm.alloc' ?_ ?_); · first | exact Nat.le_refl _ | (simp; done) | (simp; omega)))
  clear hW hf59
  have HX := Lib.hid (And.intro hb hf)
  clear hb hf
  (have c0 : W.cell? ⟨w.heap.size, 0, none⟩ = some (.int .i64 f.from_) := HX.out.1.cell 0; have c1 : W.cell? ⟨w.heap.size, 1, none⟩ = some (.int .i64 f.to_) := HX.out.1.cell 1; have c2 : W.cell? ⟨w.heap.size, 2, none⟩ = some (.int .i64 f.lx) := HX.out.1.cell 2; have c3 : W.cell? ⟨w.heap.size, 3, none⟩ = some (.int .i64 f.ly) := HX.out.1.cell 3; have c4 : W.cell? ⟨w.heap.size, 4, none⟩ = some (.int .i64 f.hx) := HX.out.1.cell 4; have c5 : W.cell? ⟨w.heap.size, 5, none⟩ = some (.int .i64 f.hy) := HX.out.1.cell 5; have c6 : W.cell? ⟨w.heap.size, 6, none⟩ = some (.int .i64 f.sea) := HX.out.1.cell 6; have c7 : W.cell? ⟨w.heap.size, 7, none⟩ = some (.int .i64 f.wind) := HX.out.1.cell 7)
  refine via_k (by assumption) [5, 6, 7, 8, 9, 10, 11, 12, 13, 14, 15, 16, 17, 18, 19] 3 (.bool p) ?_ ?_
  · intro K HK
    cases hc0 : timeB f.from_
    · have HC0 := Lib.hid hc0; clear hc0
      go_wp2_with (go_at_call 52; refine (timed_any _ _).mono ?_; rintro e w' ⟨rfl, rfl⟩; simp only [HC0.out])
      exact via_leaf HK (by go_simp; simp [HP.out, HC0.out]) (by kernel_rfl)
    · have HC0 := Lib.hid hc0; clear hc0
      cases hc1 : timeB f.to_
      · have HC1 := Lib.hid hc1; clear hc1
        go_wp2_with (go_at_call 52; refine (timed_any _ _).mono ?_; rintro e w' ⟨rfl, rfl⟩; simp only [HC0.out, HC1.out])
        exact via_leaf HK (by go_simp; simp [HP.out, HC0.out, HC1.out]) (by kernel_rfl)
      · have HC1 := Lib.hid hc1; clear hc1
        go_wp2_with (go_at_call 52; refine (timed_any _ _).mono ?_; rintro e w' ⟨rfl, rfl⟩; simp only [HC0.out, HC1.out])
        exact via_leaf HK (by go_simp; simp [HP.out, HC0.out, HC1.out]) (by kernel_rfl)
  intro fv; simp only [fillA, List.foldl_cons, List.foldl_nil]; go_simp
  refine viaR_w [20, 21, 22, 23, 24, 25, 26, 27, 28, 29, 30, 31, 32, 33, 34, 35, 36, 37, 38, 39, 40, 41, 42, 43, 44, 45] 4 (.bool q) (fun w' => Blk w' w.heap.size 54 f.cells ∧ Frm w.heap.size [] w w') ?_ ?_
  · intro K HK
    cases hc0 : placeB f.lx f.ly
    · have HC0 := Lib.hid hc0; clear hc0
      go_wp2_with (go_at_call 48; refine (placed_any _ _ _).mono ?_; rintro e w1 ⟨rfl, hf1⟩; simp only [HC0.out]; replace HX := Lib.hid (boxNext HX.out hf1); clear hf1 c0 c1 c2 c3 c4 c5 c6 c7; (have c0 : w1.cell? ⟨w.heap.size, 0, none⟩ = some (.int .i64 f.from_) := HX.out.1.cell 0; have c1 : w1.cell? ⟨w.heap.size, 1, none⟩ = some (.int .i64 f.to_) := HX.out.1.cell 1; have c2 : w1.cell? ⟨w.heap.size, 2, none⟩ = some (.int .i64 f.lx) := HX.out.1.cell 2; have c3 : w1.cell? ⟨w.heap.size, 3, none⟩ = some (.int .i64 f.ly) := HX.out.1.cell 3; have c4 : w1.cell? ⟨w.heap.size, 4, none⟩ = some (.int .i64 f.hx) := HX.out.1.cell 4; have c5 : w1.cell? ⟨w.heap.size, 5, none⟩ = some (.int .i64 f.hy) := HX.out.1.cell 5; have c6 : w1.cell? ⟨w.heap.size, 6, none⟩ = some (.int .i64 f.sea) := HX.out.1.cell 6; have c7 : w1.cell? ⟨w.heap.size, 7, none⟩ = some (.int .i64 f.wind) := HX.out.1.cell 7))
      all_goals exact viaR_leaf HK (by go_simp; simp [HQ.out, HC0.out]; try omega) (by kernel_rfl) HX.out
    · have HC0 := Lib.hid hc0; clear hc0
      cases hc1 : placeB f.hx f.hy
      · have HC1 := Lib.hid hc1; clear hc1
        go_wp2_with (go_at_call 48; refine (placed_any _ _ _).mono ?_; rintro e w1 ⟨rfl, hf1⟩; simp only [HC0.out, HC1.out]; replace HX := Lib.hid (boxNext HX.out hf1); clear hf1 c0 c1 c2 c3 c4 c5 c6 c7; (have c0 : w1.cell? ⟨w.heap.size, 0, none⟩ = some (.int .i64 f.from_) := HX.out.1.cell 0; have c1 : w1.cell? ⟨w.heap.size, 1, none⟩ = some (.int .i64 f.to_) := HX.out.1.cell 1; have c2 : w1.cell? ⟨w.heap.size, 2, none⟩ = some (.int .i64 f.lx) := HX.out.1.cell 2; have c3 : w1.cell? ⟨w.heap.size, 3, none⟩ = some (.int .i64 f.ly) := HX.out.1.cell 3; have c4 : w1.cell? ⟨w.heap.size, 4, none⟩ = some (.int .i64 f.hx) := HX.out.1.cell 4; have c5 : w1.cell? ⟨w.heap.size, 5, none⟩ = some (.int .i64 f.hy) := HX.out.1.cell 5; have c6 : w1.cell? ⟨w.heap.size, 6, none⟩ = some (.int .i64 f.sea) := HX.out.1.cell 6; have c7 : w1.cell? ⟨w.heap.size, 7, none⟩ = some (.int .i64 f.wind) := HX.out.1.cell 7))
        all_goals exact viaR_leaf HK (by go_simp; simp [HQ.out, HC0.out, HC1.out]; try omega) (by kernel_rfl) HX.out
      · have HC1 := Lib.hid hc1; clear hc1
        go_wp2_with (go_at_call 48; refine (placed_any _ _ _).mono ?_; rintro e w1 ⟨rfl, hf1⟩; simp only [HC0.out, HC1.out]; replace HX := Lib.hid (boxNext HX.out hf1); clear hf1 c0 c1 c2 c3 c4 c5 c6 c7; (have c0 : w1.cell? ⟨w.heap.size, 0, none⟩ = some (.int .i64 f.from_) := HX.out.1.cell 0; have c1 : w1.cell? ⟨w.heap.size, 1, none⟩ = some (.int .i64 f.to_) := HX.out.1.cell 1; have c2 : w1.cell? ⟨w.heap.size, 2, none⟩ = some (.int .i64 f.lx) := HX.out.1.cell 2; have c3 : w1.cell? ⟨w.heap.size, 3, none⟩ = some (.int .i64 f.ly) := HX.out.1.cell 3; have c4 : w1.cell? ⟨w.heap.size, 4, none⟩ = some (.int .i64 f.hx) := HX.out.1.cell 4; have c5 : w1.cell? ⟨w.heap.size, 5, none⟩ = some (.int .i64 f.hy) := HX.out.1.cell 5; have c6 : w1.cell? ⟨w.heap.size, 6, none⟩ = some (.int .i64 f.sea) := HX.out.1.cell 6; have c7 : w1.cell? ⟨w.heap.size, 7, none⟩ = some (.int .i64 f.wind) := HX.out.1.cell 7))
        all_goals exact viaR_leaf HK (by go_simp; simp [HQ.out, HC0.out, HC1.out]; try omega) (by kernel_rfl) HX.out
  intro fv w1 hR; simp only [fillA, List.foldl_cons, List.foldl_nil]; go_simp
  replace HX := Lib.hid hR
  clear hR c0 c1 c2 c3 c4 c5 c6 c7
  (have c0 : w1.cell? ⟨w.heap.size, 0, none⟩ = some (.int .i64 f.from_) := HX.out.1.cell 0; have c1 : w1.cell? ⟨w.heap.size, 1, none⟩ = some (.int .i64 f.to_) := HX.out.1.cell 1; have c2 : w1.cell? ⟨w.heap.size, 2, none⟩ = some (.int .i64 f.lx) := HX.out.1.cell 2; have c3 : w1.cell? ⟨w.heap.size, 3, none⟩ = some (.int .i64 f.ly) := HX.out.1.cell 3; have c4 : w1.cell? ⟨w.heap.size, 4, none⟩ = some (.int .i64 f.hx) := HX.out.1.cell 4; have c5 : w1.cell? ⟨w.heap.size, 5, none⟩ = some (.int .i64 f.hy) := HX.out.1.cell 5; have c6 : w1.cell? ⟨w.heap.size, 6, none⟩ = some (.int .i64 f.sea) := HX.out.1.cell 6; have c7 : w1.cell? ⟨w.heap.size, 7, none⟩ = some (.int .i64 f.wind) := HX.out.1.cell 7)
  cases hc0 : p
  · have HC0 := Lib.hid hc0; clear hc0
    go_wp2_with (go_at_call 55; refine (within_any _ _ _ _).mono ?_; rintro e w' ⟨rfl, rfl⟩; try simp only [HC0.out])
    go_ret
    exact ⟨by rw [HU.out]; simp [HC0.out], HX.out.2⟩
  · have HC0 := Lib.hid hc0; clear hc0
    cases hc1 : q
    · have HC1 := Lib.hid hc1; clear hc1
      go_wp2_with (go_at_call 55; refine (within_any _ _ _ _).mono ?_; rintro e w' ⟨rfl, rfl⟩; try simp only [HC0.out, HC1.out])
      go_ret
      exact ⟨by rw [HU.out]; simp [HC0.out, HC1.out], HX.out.2⟩
    · have HC1 := Lib.hid hc1; clear hc1
      cases hc2 : inB f.sea 0 100
      · have HC2 := Lib.hid hc2; clear hc2
        go_wp2_with (go_at_call 55; refine (within_any _ _ _ _).mono ?_; rintro e w' ⟨rfl, rfl⟩; try simp only [HC0.out, HC1.out, HC2.out])
        go_ret
        exact ⟨by rw [HU.out]; simp [HC0.out, HC1.out, HC2.out], HX.out.2⟩
      · have HC2 := Lib.hid hc2; clear hc2
        go_wp2_with (go_at_call 55; refine (within_any _ _ _ _).mono ?_; rintro e w' ⟨rfl, rfl⟩; try simp only [HC0.out, HC1.out, HC2.out])
        go_ret
        exact ⟨by rw [HU.out]; simp [HC0.out, HC1.out, HC2.out], HX.out.2⟩

theorem weather_ok {n : Nat} {S : Nat → FC} (h : n ≤ 100) {r : Bool} (hr : r = true ↔ ∀ i, i < n → frontB (S i) = true) : weatherB n S = r := by
  unfold weatherB
  rw [Bool.eq_iff_iff, Bool.and_eq_true, hr, List.all_eq_true, decide_eq_true_eq]
  simp [h]
theorem weather_no {n : Nat} {S : Nat → FC} (h : ¬ n ≤ 100) : weatherB n S = false := by simp [weatherB, h]
theorem weather_bad {n : Nat} {S : Nat → FC} {j : Nat} (hj : j < n) (h : frontB (S j) = false) : weatherB n S = false := by
  unfold weatherB
  have : ((List.range n).all fun i => frontB (S i)) = false := by
    rw [← Bool.not_eq_true, List.all_eq_true]
    intro h'
    have := h' j (by simpa using hj)
    rw [h] at this
    cases this
  rw [this, Bool.and_false]

set_option maxRecDepth 100000 in
set_option maxHeartbeats 4000000 in
theorem weather_any (ad : Option Addr) (b off n cap : Nat) (S : Nat → FC) (w : World) (hr : Rw w 8 ad b off n fun i => (S i).cells) :
    Calls Tryd.prog 21 #[.slice ad n cap] w fun e w' => e = .returned (.bool (weatherB n S)) ∧ Frm w.heap.size [] w w' := by
  by_cases h : n ≤ 100
  · have h' : (n : Int) ≤ 100 := by omega
    have HH := Lib.hid h
    have HR := Lib.hid hr
    clear hr h
    go_enter Tryd.func21, Tryd.ntmps21
    go_wp2_with fail
    refine (allFr 59 #[] (enters Tryd.func59 (by kernel_rfl) (by kernel_rfl)) ad b off n cap w HR.out.ad HR.out.len (fun i => (S i).cells) (fun i => frontB (S i)) (fun i => rfl) (fun W hW i hi => (HR.out.frm hW (Nat.le_refl _)).load Tryd.underlying54 rfl hi info54) (fun W hW i hi => front_any (S i) W)).mono ?_
    rintro e w1 ⟨⟨r, rfl, hr⟩, hf⟩
    have HRR := Lib.hid hr
    have HF := Lib.hid hf
    clear hf hr
    go_wp2_with fail
    go_ret
    exact ⟨by rw [weather_ok HH.out HRR.out]; rfl, HF.out⟩
  · have h' : ¬ (n : Int) ≤ 100 := by omega
    have HH := Lib.hid h
    have HR := Lib.hid hr
    clear hr h
    go_enter Tryd.func21, Tryd.ntmps21
    go_wp2_with fail
    go_ret
    exact ⟨by rw [weather_no HH.out]; rfl, by repeat (first | with_reducible exact Frm.refl _ _ _ | with_reducible refine Frm.drewN ?_ | with_reducible refine Frm.drew ?_ | ((with_reducible refine Frm.setCell' ?_ ?_); · first | (left; simp; done) | (right; simp; done) | (right; simp; omega)) | ((with_reducible refine Frm.alloc' ?_ ?_); · first | exact Nat.le_refl _ | (simp; done) | (simp; omega)))⟩

set_option maxRecDepth 100000 in
set_option maxHeartbeats 8000000 in
theorem refWeather_any (ad : Option Addr) (b off n cap : Nat) (S : Nat → FC) (w : World) (hr : Rw w 8 ad b off n fun i => (S i).cells) :
    Calls Tryd.prog 22 #[.slice ad n cap] w fun e w' => e = .returned (.bool (weatherB n S)) ∧ Frm w.heap.size [] w w' := by
  have hnm := hr.len
  unfold maxLen at hnm
  go_enter Tryd.func22, Tryd.ntmps22
  go_wp2_with fail
  go_loopw [3] (fun i3 wr => ∃ j : Nat, i3 = .int .i64 j ∧ j ≤ n ∧ (∀ k, k < j → frontB (S k) = true) ∧ Frm w.heap.size [] w wr) (fun i3 _ => n - (intOf i3).toNat)
  case atStart => exact ⟨0, rfl, Nat.zero_le _, fun k hk => by omega, by repeat (first | with_reducible exact Frm.refl _ _ _ | with_reducible refine Frm.drewN ?_ | with_reducible refine Frm.drew ?_ | ((with_reducible refine Frm.setCell' ?_ ?_); · first | (left; simp; done) | (right; simp; done) | (right; simp; omega)) | ((with_reducible refine Frm.alloc' ?_ ?_); · first | exact Nat.le_refl _ | (simp; done) | (simp; omega)))⟩
  case round =>
    obtain ⟨j, rfl, hj, hall, hfr⟩ := hrel
    by_cases hjl : j < n
    · have hjl' : (j : Int) < (n : Int) := by omega
      obtain ⟨f, hf⟩ : ∃ f, f = S j := ⟨_, rfl⟩
      have hlo := (hr.frm hfr (Nat.le_refl _)).load (P := Tryd.prog) Tryd.underlying54 rfl hjl info54
      rw [← hf] at hlo
      have had := hr.ad (by omega)
      subst had
      have hyes : frontB f = true → ∀ k, k < j + 1 → frontB (S k) = true := fun hc k hk => by
        rcases Nat.lt_or_ge k j with e | e
        · exact hall k e
        · obtain rfl : k = j := by omega
          rw [← hf]; exact hc
      have hno : frontB f = false → weatherB n S = false := fun hc => weather_bad hjl (by rw [← hf]; exact hc)
      have HJL := Lib.hid hjl
      have HLO := Lib.hid hlo
      have HALL := Lib.hid hall
      have HFR := Lib.hid hfr
      have HYES := Lib.hid hyes
      have HNO := Lib.hid hno
      have HF0 := Lib.hid hf
      clear hf hno hyes hfr hall hlo
      obtain ⟨p, hp⟩ : ∃ b, b = frontT f := ⟨_, rfl⟩
      obtain ⟨q, hq⟩ : ∃ b, b = frontP f := ⟨_, rfl⟩
      have hu : frontB f = (p && q && inB f.sea 0 100 && inB f.wind 0 100) := by rw [hp, hq]; rfl
      unfold frontT at hp
      unfold frontP at hq
      have HP := Lib.hid hp
      have HQ := Lib.hid hq
      have HU := Lib.hid hu
      clear hu hq hp
      go_wp2_with (first | (with_reducible refine atLoad 54 rfl ?_; refine wpList_loadE rfl rfl rfl HLO.out ?_) | (with_reducible refine atStore 54 rfl ?_; refine stop_ ?_))
      refine go_on ?_
      refine wpList_storeNew (P := Tryd.prog) (cs := f.cells) rfl rfl rfl rfl rfl (FC.info f) (by simp [FC.cells, Value.oneCell']) (fun W hfW hbW hsW => ?_)
      replace hfW := HFR.out.call hfW HFR.out.size (by simp)
      have HX := Lib.hid (And.intro hbW hfW)
      clear hfW hbW hsW
      simp only [Act.put]
      (have c0 : W.cell? ⟨wr.heap.size, 0, none⟩ = some (.int .i64 f.from_) := HX.out.1.cell 0; have c1 : W.cell? ⟨wr.heap.size, 1, none⟩ = some (.int .i64 f.to_) := HX.out.1.cell 1; have c2 : W.cell? ⟨wr.heap.size, 2, none⟩ = some (.int .i64 f.lx) := HX.out.1.cell 2; have c3 : W.cell? ⟨wr.heap.size, 3, none⟩ = some (.int .i64 f.ly) := HX.out.1.cell 3; have c4 : W.cell? ⟨wr.heap.size, 4, none⟩ = some (.int .i64 f.hx) := HX.out.1.cell 4; have c5 : W.cell? ⟨wr.heap.size, 5, none⟩ = some (.int .i64 f.hy) := HX.out.1.cell 5; have c6 : W.cell? ⟨wr.heap.size, 6, none⟩ = some (.int .i64 f.sea) := HX.out.1.cell 6; have c7 : W.cell? ⟨wr.heap.size, 7, none⟩ = some (.int .i64 f.wind) := HX.out.1.cell 7)
      go_upto_region 5 with fail
      go_cut [5] from 17 to 31 (fun s5 w' => s5 = .bool p ∧ w' = W)
      case first =>
        cases hc0 : timeB f.from_
        · have HC0 := Lib.hid hc0; clear hc0
          go_wp2_with (go_at_call 46; refine (refTime_any _ _).mono ?_; rintro e w' ⟨rfl, rfl⟩; simp only [HC0.out])
          all_goals (go_meet; case rel => exact ⟨by simp [HP.out, HC0.out]; try omega, rfl⟩)
        · have HC0 := Lib.hid hc0; clear hc0
          cases hc1 : timeB f.to_
          · have HC1 := Lib.hid hc1; clear hc1
            go_wp2_with (go_at_call 46; refine (refTime_any _ _).mono ?_; rintro e w' ⟨rfl, rfl⟩; simp only [HC0.out, HC1.out])
            all_goals (go_meet; case rel => exact ⟨by simp [HP.out, HC0.out, HC1.out]; try omega, rfl⟩)
          · have HC1 := Lib.hid hc1; clear hc1
            go_wp2_with (go_at_call 46; refine (refTime_any _ _).mono ?_; rintro e w' ⟨rfl, rfl⟩; simp only [HC0.out, HC1.out])
            all_goals (go_meet; case rel => exact ⟨by simp [HP.out, HC0.out, HC1.out]; try omega, rfl⟩)
      obtain ⟨rfl, rfl⟩ := hcut
      go_upto_region 6 with fail
      go_cut [6] from 32 to 57 (fun s6 w' => s6 = .bool q ∧ Blk w' wr.heap.size 54 f.cells ∧ Frm w.heap.size [] w w')
      case first =>
        cases hc0 : placeB f.lx f.ly
        · have HC0 := Lib.hid hc0; clear hc0
          go_wp2_with (go_at_call 32; refine (refPlace_any _ _ _).mono ?_; rintro e w1 ⟨rfl, hf1⟩; simp only [HC0.out]; replace HX := Lib.hid (boxNext HX.out hf1); clear hf1 c0 c1 c2 c3 c4 c5 c6 c7; (have c0 : w1.cell? ⟨wr.heap.size, 0, none⟩ = some (.int .i64 f.from_) := HX.out.1.cell 0; have c1 : w1.cell? ⟨wr.heap.size, 1, none⟩ = some (.int .i64 f.to_) := HX.out.1.cell 1; have c2 : w1.cell? ⟨wr.heap.size, 2, none⟩ = some (.int .i64 f.lx) := HX.out.1.cell 2; have c3 : w1.cell? ⟨wr.heap.size, 3, none⟩ = some (.int .i64 f.ly) := HX.out.1.cell 3; have c4 : w1.cell? ⟨wr.heap.size, 4, none⟩ = some (.int .i64 f.hx) := HX.out.1.cell 4; have c5 : w1.cell? ⟨wr.heap.size, 5, none⟩ = some (.int .i64 f.hy) := HX.out.1.cell 5; have c6 : w1.cell? ⟨wr.heap.size, 6, none⟩ = some (.int .i64 f.sea) := HX.out.1.cell 6; have c7 : w1.cell? ⟨wr.heap.size, 7, none⟩ = some (.int .i64 f.wind) := HX.out.1.cell 7))
          all_goals (go_meet; case rel => exact ⟨by simp [HQ.out, HC0.out]; try omega, HX.out⟩)
        · have HC0 := Lib.hid hc0; clear hc0
          cases hc1 : placeB f.hx f.hy
          · have HC1 := Lib.hid hc1; clear hc1
            go_wp2_with (go_at_call 32; refine (refPlace_any _ _ _).mono ?_; rintro e w1 ⟨rfl, hf1⟩; simp only [HC0.out, HC1.out]; replace HX := Lib.hid (boxNext HX.out hf1); clear hf1 c0 c1 c2 c3 c4 c5 c6 c7; (have c0 : w1.cell? ⟨wr.heap.size, 0, none⟩ = some (.int .i64 f.from_) := HX.out.1.cell 0; have c1 : w1.cell? ⟨wr.heap.size, 1, none⟩ = some (.int .i64 f.to_) := HX.out.1.cell 1; have c2 : w1.cell? ⟨wr.heap.size, 2, none⟩ = some (.int .i64 f.lx) := HX.out.1.cell 2; have c3 : w1.cell? ⟨wr.heap.size, 3, none⟩ = some (.int .i64 f.ly) := HX.out.1.cell 3; have c4 : w1.cell? ⟨wr.heap.size, 4, none⟩ = some (.int .i64 f.hx) := HX.out.1.cell 4; have c5 : w1.cell? ⟨wr.heap.size, 5, none⟩ = some (.int .i64 f.hy) := HX.out.1.cell 5; have c6 : w1.cell? ⟨wr.heap.size, 6, none⟩ = some (.int .i64 f.sea) := HX.out.1.cell 6; have c7 : w1.cell? ⟨wr.heap.size, 7, none⟩ = some (.int .i64 f.wind) := HX.out.1.cell 7))
            all_goals (go_meet; case rel => exact ⟨by simp [HQ.out, HC0.out, HC1.out]; try omega, HX.out⟩)
          · have HC1 := Lib.hid hc1; clear hc1
            go_wp2_with (go_at_call 32; refine (refPlace_any _ _ _).mono ?_; rintro e w1 ⟨rfl, hf1⟩; simp only [HC0.out, HC1.out]; replace HX := Lib.hid (boxNext HX.out hf1); clear hf1 c0 c1 c2 c3 c4 c5 c6 c7; (have c0 : w1.cell? ⟨wr.heap.size, 0, none⟩ = some (.int .i64 f.from_) := HX.out.1.cell 0; have c1 : w1.cell? ⟨wr.heap.size, 1, none⟩ = some (.int .i64 f.to_) := HX.out.1.cell 1; have c2 : w1.cell? ⟨wr.heap.size, 2, none⟩ = some (.int .i64 f.lx) := HX.out.1.cell 2; have c3 : w1.cell? ⟨wr.heap.size, 3, none⟩ = some (.int .i64 f.ly) := HX.out.1.cell 3; have c4 : w1.cell? ⟨wr.heap.size, 4, none⟩ = some (.int .i64 f.hx) := HX.out.1.cell 4; have c5 : w1.cell? ⟨wr.heap.size, 5, none⟩ = some (.int .i64 f.hy) := HX.out.1.cell 5; have c6 : w1.cell? ⟨wr.heap.size, 6, none⟩ = some (.int .i64 f.sea) := HX.out.1.cell 6; have c7 : w1.cell? ⟨wr.heap.size, 7, none⟩ = some (.int .i64 f.wind) := HX.out.1.cell 7))
            all_goals (go_meet; case rel => exact ⟨by simp [HQ.out, HC0.out, HC1.out]; try omega, HX.out⟩)
      obtain ⟨rfl, hR⟩ := hcut
      replace HX := Lib.hid hR
      clear hR c0 c1 c2 c3 c4 c5 c6 c7
      (have c0 : wc.cell? ⟨wr.heap.size, 0, none⟩ = some (.int .i64 f.from_) := HX.out.1.cell 0; have c1 : wc.cell? ⟨wr.heap.size, 1, none⟩ = some (.int .i64 f.to_) := HX.out.1.cell 1; have c2 : wc.cell? ⟨wr.heap.size, 2, none⟩ = some (.int .i64 f.lx) := HX.out.1.cell 2; have c3 : wc.cell? ⟨wr.heap.size, 3, none⟩ = some (.int .i64 f.ly) := HX.out.1.cell 3; have c4 : wc.cell? ⟨wr.heap.size, 4, none⟩ = some (.int .i64 f.hx) := HX.out.1.cell 4; have c5 : wc.cell? ⟨wr.heap.size, 5, none⟩ = some (.int .i64 f.hy) := HX.out.1.cell 5; have c6 : wc.cell? ⟨wr.heap.size, 6, none⟩ = some (.int .i64 f.sea) := HX.out.1.cell 6; have c7 : wc.cell? ⟨wr.heap.size, 7, none⟩ = some (.int .i64 f.wind) := HX.out.1.cell 7)
      cases hc0 : p
      · have HC0 := Lib.hid hc0; clear hc0
        go_wp2_with (go_at_call 56; refine (refin_any _ _ _ _).mono ?_; rintro e w' ⟨rfl, rfl⟩; try simp only [HC0.out])
        first | (go_ret; exact ⟨by rw [HNO.out (by rw [HU.out]; simp [HC0.out])]; rfl, HX.out.2⟩) | exact ⟨⟨j + 1, by simp, HJL.out, HYES.out (by rw [HU.out]; simp [HC0.out]), HX.out.2⟩, by have := HJL.out; simp [intOf]; omega⟩
      · have HC0 := Lib.hid hc0; clear hc0
        cases hc1 : q
        · have HC1 := Lib.hid hc1; clear hc1
          go_wp2_with (go_at_call 56; refine (refin_any _ _ _ _).mono ?_; rintro e w' ⟨rfl, rfl⟩; try simp only [HC0.out, HC1.out])
          first | (go_ret; exact ⟨by rw [HNO.out (by rw [HU.out]; simp [HC0.out, HC1.out])]; rfl, HX.out.2⟩) | exact ⟨⟨j + 1, by simp, HJL.out, HYES.out (by rw [HU.out]; simp [HC0.out, HC1.out]), HX.out.2⟩, by have := HJL.out; simp [intOf]; omega⟩
        · have HC1 := Lib.hid hc1; clear hc1
          cases hc2 : inB f.sea 0 100
          · have HC2 := Lib.hid hc2; clear hc2
            go_wp2_with (go_at_call 56; refine (refin_any _ _ _ _).mono ?_; rintro e w' ⟨rfl, rfl⟩; try simp only [HC0.out, HC1.out, HC2.out])
            first | (go_ret; exact ⟨by rw [HNO.out (by rw [HU.out]; simp [HC0.out, HC1.out, HC2.out])]; rfl, HX.out.2⟩) | exact ⟨⟨j + 1, by simp, HJL.out, HYES.out (by rw [HU.out]; simp [HC0.out, HC1.out, HC2.out]), HX.out.2⟩, by have := HJL.out; simp [intOf]; omega⟩
          · have HC2 := Lib.hid hc2; clear hc2
            cases hc3 : inB f.wind 0 100
            · have HC3 := Lib.hid hc3; clear hc3
              go_wp2_with (go_at_call 56; refine (refin_any _ _ _ _).mono ?_; rintro e w' ⟨rfl, rfl⟩; try simp only [HC0.out, HC1.out, HC2.out, HC3.out])
              first | (go_ret; exact ⟨by rw [HNO.out (by rw [HU.out]; simp [HC0.out, HC1.out, HC2.out, HC3.out])]; rfl, HX.out.2⟩) | exact ⟨⟨j + 1, by simp, HJL.out, HYES.out (by rw [HU.out]; simp [HC0.out, HC1.out, HC2.out, HC3.out]), HX.out.2⟩, by have := HJL.out; simp [intOf]; omega⟩
            · have HC3 := Lib.hid hc3; clear hc3
              go_wp2_with (go_at_call 56; refine (refin_any _ _ _ _).mono ?_; rintro e w' ⟨rfl, rfl⟩; try simp only [HC0.out, HC1.out, HC2.out, HC3.out])
              first | (go_ret; exact ⟨by rw [HNO.out (by rw [HU.out]; simp [HC0.out, HC1.out, HC2.out, HC3.out])]; rfl, HX.out.2⟩) | exact ⟨⟨j + 1, by simp, HJL.out, HYES.out (by rw [HU.out]; simp [HC0.out, HC1.out, HC2.out, HC3.out]), HX.out.2⟩, by have := HJL.out; simp [intOf]; omega⟩
    · have hjl' : ¬ (j : Int) < (n : Int) := by omega
      obtain rfl : j = n := by omega
      have HALL := Lib.hid hall
      have HFR := Lib.hid hfr
      clear hfr hall
      by_cases h : j ≤ 100
      · have h' : (j : Int) ≤ 100 := by omega
        have HH := Lib.hid h
        go_wp2_with fail
        go_ret
        exact ⟨by rw [weather_ok (r := true) HH.out (by simpa using HALL.out)]; rfl, HFR.out⟩
      · have h' : ¬ (j : Int) ≤ 100 := by omega
        have HH := Lib.hid h
        go_wp2_with fail
        go_ret
        exact ⟨by rw [weather_no HH.out]; rfl, HFR.out⟩
end Go.Proofs.YtghkfopcjdkieaaDoor
