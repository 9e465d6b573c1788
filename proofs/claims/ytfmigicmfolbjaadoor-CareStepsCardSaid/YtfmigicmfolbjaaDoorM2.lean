/-
  A plan with one more order, in memory.
-/
import Derived.Test.YtfmigicmfolbjaaDoorM1
import Derived.Test.YtfmigicmfolbjaaDoorE4
import Derived.Test.YtfmigicmfolbjaaDoorP4
namespace Go.Proofs.YtfmigicmfolbjaaDoor
set_option linter.all false
set_option linter.unusedSimpArgs false
set_option linter.unusedVariables false
open Go.RowKit

section
variable {P : Program}
theorem run_append_none' (w : World) (t ty e : TypeId) (i : TypeInfo) (size c : Nat) (ht : P.underlying t = some (.slice e)) (hi : P.info? e = some i) {v : Value} {n : Nat} {cs : List Value} {own : Option Nat} (hown : Sl w e size v n cs own) :
    (Builtin.append_ #[t, t] ty #[v, .slice none 0 c]).run P w = .ok v w := by
  rcases hown.2 with ⟨rfl, rfl, rfl⟩ | ⟨g, off, cap, cur, rfl, rfl, hg, hnc, hcm, hcs, htake⟩
  · simp [Builtin.append_, run_underlying ht, sizeOf, typeInfo, hi, Builtin.lenOf, Builtin.firstCells, loadCells, loadCellsFrom]
  · simp [Builtin.append_, run_underlying ht, sizeOf, typeInfo, hi, Builtin.lenOf, Builtin.firstCells, loadCells, loadCellsFrom, storeCells, hnc]
theorem flat_len {size : Nat} {f : Nat → List Value} (hf : ∀ i, (f i).length = size) : ∀ m, ((List.range m).flatMap f).length = m * size := fun m => by
  induction m with
  | zero => simp
  | succ m ih => rw [List.range_succ, List.flatMap_append, List.length_append, ih]; simp [hf, Nat.add_mul]
theorem flat_at {size : Nat} {f : Nat → List Value} (hf : ∀ i, (f i).length = size) : ∀ m i k, i < m → k < size → ((List.range m).flatMap f)[i * size + k]? = (f i)[k]? := fun m => by
  induction m with
  | zero => intro i k hi; omega
  | succ m ih =>
    intro i k hi hk
    rw [List.range_succ, List.flatMap_append]
    by_cases e : i < m
    · have hlt : i * size + k < ((List.range m).flatMap f).length := by
        rw [flat_len hf]
        have : (i + 1) * size ≤ m * size := Nat.mul_le_mul_right _ e
        rw [Nat.add_mul] at this
        omega
      rw [List.getElem?_append_left hlt]
      exact ih i k e hk
    · obtain rfl : i = m := by omega
      rw [List.getElem?_append_right (by rw [flat_len hf]; omega), flat_len hf]
      simp
theorem Rw.flat {w : World} {size : Nat} {ad : Option Addr} {b off n : Nat} {f : Nat → List Value} (h : Rw w size ad b off n f) (hf : ∀ i, (f i).length = size) (hs : 0 < size) {j : Nat} {u : Value} (hj : ((List.range n).flatMap f)[j]? = some u) : w.cell? ⟨b, off + j, none⟩ = some u := by
  have hlt : j < n * size := by rw [← flat_len hf]; exact (List.getElem?_eq_some_iff.1 hj).1
  have h1 : j / size < n := (Nat.div_lt_iff_lt_mul hs).2 hlt
  have h2 : j % size < size := Nat.mod_lt _ hs
  have h3 : j / size * size + j % size = j := by rw [Nat.mul_comm]; exact Nat.div_add_mod _ _
  rw [← h3, flat_at hf n _ _ h1 h2] at hj
  have := h.at_ _ h1 _ _ hj
  rw [Nat.add_assoc, h3] at this
  exact this
/-- APPEND a slice that is known by its cells. -/
theorem wpList_append_rw {ops : Array Oper} {rest : List Oper} {o : Oper} {a : Act} {w : World} {Q : Exit → Act → World → Prop} (hgd : o.guard = none) (s x : Operand) (t : TypeId)
    (ho : o.op = .call { callee := .builtin .append, args := #[s, x], argTypes := #[t, t] })
    (e : TypeId) (i : TypeInfo) (z : Value) (size bytes : Nat) (ht : P.underlying t = some (.slice e)) (hi : P.info? e = some i) (hz : i.zero = some z)
    (hsize : i.size = size) (hby : i.bytes = bytes) (hzs : z.cells.size = size)
    (v : Value) (n : Nat) (cs : List Value) (own : Option Nat) (hs : a.eval s = v) (hown : Sl w e size v n cs own)
    (ad : Option Addr) (b off m c : Nat) (f : Nat → List Value) (hx : a.eval x = .slice ad m c) (hu : Rw w size ad b off m f) (hf : ∀ i, (f i).length = size) (hpos : 0 < size) (h1 : ∀ u ∈ (List.range m).flatMap f, u.oneCell' = true)
    (h63 : n + m ≤ maxLen) (hbytes : (n + m) * bytes ≤ 140737488355328)
    (h : ∀ v' w' own', Sl w' e size v' (n + m) (cs ++ (List.range m).flatMap f) own' → Frm w.heap.size own.toList w w' → (own' = own ∨ ∃ g, own' = some g ∧ w.heap.size ≤ g) → wpList P ops Q rest (a.put o.dst v') w') : wpList P ops Q (o :: rest) a w := by
  cases ad with
  | none =>
    have hm : m = 0 := Nat.eq_zero_of_not_pos fun h0 => by have := hu.ad h0; cases this
    subst hm
    have hr := run_append_none' (P := P) w t o.type e i size c ht hi hown
    have key := h v w own (by simpa using hown) (Frm.refl _ _ _) (.inl rfl)
    refine wpList_step fun K hK => ?_
    rw [if_pos (by simp [Region.wanted, hgd])]
    unfold Oper.wp
    cases o with
    | mk dst op type pos after guard =>
      dsimp only at ho hgd hr key ⊢
      subst ho
      rw [BigFrame.execOp_builtin, BigFrame.builtin_append]
      have ha : (#[s, x] : Array Operand).map a.eval = #[v, .slice none 0 c] := by simp [hs, hx]
      rw [ha]
      have hrun : (do pure (Next.value (← Builtin.append_ #[t, t] type #[v, .slice none 0 c])) : Sem Next).run P w = .ok (.value v) w := by
        simp [hr]
      rw [hrun]
      exact hK _ _ key
  | some g =>
    refine wpList_append_sl w hgd s x t ho e i z size bytes ht hi hz hsize hby hzs v n cs own hs hown g m c _ hx (flat_len hf m) (fun j y hj => ?_) h1 h63 hbytes h
    have hm : 0 < m := by
      have := (List.getElem?_eq_some_iff.1 hj).1
      rw [flat_len hf] at this
      exact Nat.pos_of_ne_zero fun e => by subst e; simp at this
    obtain rfl := Option.some.inj (hu.ad hm)
    have hadd : (⟨b, off, none⟩ : Addr).add j = ⟨b, off + j, none⟩ := by unfold Addr.add; split <;> simp_all
    rw [hadd]
    exact hu.flat hf hpos hj
end
def edgesC (l : List (Int × Int)) : List Value := (List.range l.length).flatMap fun i => edgeC (l.getD i (0, 0))
theorem edgesC_eq (l : List (Int × Int)) : edgesC l = l.flatMap edgeC := by
  unfold edgesC
  have : l = (List.range l.length).map fun i => l.getD i (0, 0) := by
    apply List.ext_getElem
    · simp
    · intro i h1 h2
      simp [List.getD_eq_getElem?_getD, h1]
  conv => rhs; rw [this]
  rw [List.flatMap_map]
theorem edgesC_snoc (l : List (Int × Int)) (o : Int × Int) : edgesC (l ++ [o]) = edgesC l ++ edgeC o := by simp [edgesC_eq]
theorem edgesC_one (l : List (Int × Int)) : ∀ u ∈ edgesC l, u.oneCell' = true := by
  intro u hu
  rw [edgesC_eq, List.mem_flatMap] at hu
  obtain ⟨e, _, he⟩ := hu
  simp [edgeC] at he
  rcases he with rfl | rfl <;> rfl
theorem edgeC_one (o : Int × Int) : ∀ u ∈ edgeC o, u.oneCell' = true := by
  intro u hu
  simp [edgeC] at hu
  rcases hu with rfl | rfl <;> rfl
theorem sl_empty {w : World} {b E : Nat} {size : Nat} (h : Blk w b E []) : Sl w E size (.slice (some ⟨b, 0, none⟩) 0 0) 0 [] (some b) :=
  ⟨by simp, .inr ⟨b, 0, 0, #[], rfl, rfl, h, Nat.le_refl _, Nat.zero_le _, by simp, by simp⟩⟩
/-- The plan with one more order lies in memory. -/
theorem more_at {q : RPos} {R : Raw} {o : Int × Int} {w : World} {v : Value} {own : Option Nat} {m : Nat} (hm : m = R.edges.length) (hs : Sl w 78 2 v (m + 1) (edgesC R.edges ++ edgeC o) own) (hr : RawAt w q R) :
    ∃ a eb eo cap, v = .slice a (m + 1) cap ∧ RawAt w ⟨q.s, q.sa, q.sb, q.so, q.sc, q.X, a, eb, eo, cap⟩ (R.more o) ∧ rawC ⟨q.s, q.sa, q.sb, q.so, q.sc, q.X, a, eb, eo, cap⟩ (R.more o) = [q.s.v R.starts, .slice q.sa R.steps.length q.sc, v] := by
  have hl : m + 1 = (R.edges ++ [o]).length := by rw [hm]; simp
  rw [← edgesC_snoc] at hs
  unfold edgesC at hs
  rw [hl] at hs
  obtain ⟨ad, b, off, cap, e1, h1⟩ := hs.rw fun i => rfl
  subst e1
  refine ⟨ad, b, off, cap, by rw [hl], ⟨hr.starts, hr.steps, h1⟩, ?_⟩
  show [q.s.v R.starts, .slice q.sa R.steps.length q.sc, .slice ad (R.edges ++ [o]).length cap] = _
  rfl
def MoreAt (w w4 w' : World) (p : Nat) (R : Raw) (o : Int × Int) : Prop :=
  ∃ q' : RPos, Blk w' p 66 (rawC q' (R.more o)) ∧ RawAt w' q' (R.more o) ∧ Frm w.heap.size [] w w' ∧ Frm w4.heap.size [] w4 w'
theorem more_done {q : RPos} {R : Raw} {o : Int × Int} {w w4 W V : World} {v : Value} {own : Option Nat} {m p : Nat} (hm : m = R.edges.length) (hr : RawAt w q R) (hfw : Frm w.heap.size [] w W) (hf4 : Frm w4.heap.size [] w4 W) (hS : Frm W.heap.size [] W V) (hk : Blk W p 66 (rawC q R)) (hp : w.heap.size ≤ p) (hp4 : w4.heap.size ≤ p)
    (hs : Sl V 78 2 v (m + 1) (((List.range m).flatMap fun i => edgeC (R.edges.getD i (0, 0))) ++ edgeC o) own) (ho : ∀ b, own = some b → W.heap.size ≤ b) : MoreAt w w4 (V.setCell ⟨p, 2, none⟩ v) p R o := by
  have h1 : Frm w.heap.size [] w (V.setCell ⟨p, 2, none⟩ v) := (hfw.call hS hfw.size (by simp)).setCell (p := ⟨p, 2, none⟩) (.inr hp) _
  have h4 : Frm w4.heap.size [] w4 (V.setCell ⟨p, 2, none⟩ v) := (hf4.call hS hf4.size (by simp)).setCell (p := ⟨p, 2, none⟩) (.inr hp4) _
  have hs : Sl V 78 2 v (m + 1) (edgesC R.edges ++ edgeC o) own := by unfold edgesC; rw [← hm]; exact hs
  have h2 := hs.setCell ⟨p, 2, none⟩ v (fun b hb => by have := ho b hb; have := hk.lt; dsimp only; omega)
  obtain ⟨a, eb, eo, cap, rfl, h5, h6⟩ := more_at hm h2 (hr.frm h1 (Nat.le_refl _))
  refine ⟨_, ?_, h5, h1, h4⟩
  rw [h6]
  exact (hS.blk hk hk.lt (by simp)).set 2 _
end Go.Proofs.YtfmigicmfolbjaaDoor
