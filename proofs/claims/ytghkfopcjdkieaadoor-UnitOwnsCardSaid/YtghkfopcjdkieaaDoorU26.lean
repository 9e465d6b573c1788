/-
  The document's example.
-/
import Derived.Test.YtghkfopcjdkieaaDoorU24
import Derived.Test.YtghkfopcjdkieaaDoorU25
namespace Go.Proofs.YtghkfopcjdkieaaDoor
set_option linter.all false
set_option linter.unusedSimpArgs false
set_option linter.unusedVariables false
open Go.RowKit

def exS : ByteArray := ⟨#[117]⟩
def exU : UC := ⟨.string exS, 3600, 1000, 3600, 100, 10000, 5, 10, 0, 0, 0, 0⟩
def exR (st : Int) (i : Nat) : WC := if i = 0 then ⟨300, 0, st⟩ else ⟨300, 100, 0⟩
def exF (_ : Nat) : FC := ⟨0, 0, 0, 0, 0, 0, 0, 0⟩
def exL : Nat → LC
  | 0 => ⟨0, 0, 300, 0, 100, 400, 410, 690⟩
  | 1 => ⟨300, 0, 300, 100, 410, 510, 510, 590⟩
  | _ => ⟨300, 100, 0, 0, 510, 827, 827, 273⟩
theorem ex_w1 : wayB ⟨300, 100, 0⟩ = true := by kernel_rfl
theorem ex_in0 : (true && weatherB 0 exF && true && timeB 100) = true := by kernel_rfl
theorem ex_in (st : Int) (h : wayB ⟨300, 0, st⟩ = true) : planIn exU exS 100 0 exF 2 (exR st) = true := by
  have h1 : unitB exU exS = true := by kernel_rfl
  have h2 : routeB 2 (exR st) = true := by
    unfold routeB
    rw [List.all_eq_true]
    intro i hi
    have hi' : i < 2 := by simpa using hi
    match i, hi' with
    | 0, _ => exact h
    | 1, _ => exact ex_w1
  unfold planIn
  rw [h1, h2]
  exact ex_in0
theorem ex_y0 : ysq exU 0 exF 100 (exR 10) (startG exU 100) 0 = 0 := by kernel_rfl
theorem ex_y1 : ysq exU 0 exF 100 (exR 10) (startG exU 100) 1 = 0 := by kernel_rfl
theorem ex_z0 : ysq exU 0 exF 100 (exR 184) (startG exU 100) 0 = 0 := by kernel_rfl
theorem ex_z1 : ysq exU 0 exF 100 (exR 184) (startG exU 100) 1 = 1 := by kernel_rfl
theorem ex_legs : legsC exU (exR 10) (startG exU 100) 2 ++ (homeLeg exU (gsq exU (exR 10) (startG exU 100) 2)).cells = (List.range 3).flatMap fun i => (exL i).cells := by kernel_rfl
theorem ex_where : whereZ 3 exL 250 = ((150, 0), (150, 0), 0) := by kernel_rfl
theorem ex_left : leftR exU exS 3 exL 250 = (850, 0) := by kernel_rfl
theorem ex_valid : (unitB exU exS && legsB 3 exL) = true := by kernel_rfl
theorem ex_boxes : (boxesOf exU exL 2 3).length = 7 := by kernel_rfl
def bx0 : BC := ⟨0, 0, 0, 0, 0, 0, 0⟩
def exB (i : Nat) : BC := (boxesOf exU exL 2 3).getD i bx0
theorem ex_meet : meetB (exB 0) (exB 0) = true := by kernel_rfl
theorem ex_dist : distZ 0 0 1 1 = (2, 0) := by kernel_rfl
theorem flat_range {α : Type} (l : List α) (d : α) (f : α → List Value) : l.flatMap f = (List.range l.length).flatMap fun i => f (l.getD i d) := by
  have e : l = (List.range l.length).map fun i => l.getD i d := by
    refine List.ext_getElem (by simp) fun i h1 h2 => ?_
    simp [List.getD_eq_getElem?_getD, List.getElem?_eq_getElem h1]
  conv => lhs; rw [e]
  rw [List.flatMap_map]
theorem flat_get (f : Nat → List Value) (size : Nat) (hs : ∀ i, (f i).length = size) : ∀ (n i k : Nat) (v : Value), i < n → (f i)[k]? = some v → ((List.range n).flatMap f)[i * size + k]? = some v
  | 0, _, _, _, h, _ => absurd h (by omega)
  | n + 1, i, k, v, h, hv => by
    have hk : k < size := by rw [← hs i]; exact (List.getElem?_eq_some_iff.1 hv).1
    have hl : ∀ n, ((List.range n).flatMap f).length = n * size := fun n => by
      induction n with
      | zero => simp
      | succ n ih => rw [List.range_succ, List.flatMap_append, List.length_append, ih]; simp [hs, Nat.succ_mul]
    rw [List.range_succ, List.flatMap_append]
    rcases Nat.lt_or_ge i n with h1 | h1
    · have hlt : i * size + k < n * size := by
        have : (i + 1) * size ≤ n * size := Nat.mul_le_mul_right _ h1
        rw [Nat.succ_mul] at this
        omega
      rw [List.getElem?_append_left (by rw [hl]; exact hlt)]
      exact flat_get f size hs n i k v h1 hv
    · obtain rfl : i = n := by omega
      rw [List.getElem?_append_right (by rw [hl]; omega), hl]
      simpa using hv
/-- A slice known by its cells is a row of structs. -/
theorem Sl.rw_ {w : World} {E size n : Nat} {v : Value} {own : Option Nat} {f : Nat → List Value} (h : Sl w E size v n ((List.range n).flatMap f) own) (hs : ∀ i, (f i).length = size) (hn : 0 < n) :
    ∃ b off cap, v = .slice (some ⟨b, off, none⟩) n cap ∧ own = some b ∧ Rw w size (some ⟨b, off, none⟩) b off n f := by
  obtain ⟨b, off, cap, rfl, ho, h1, h2⟩ := h.pos hn
  refine ⟨b, off, cap, rfl, ho, ⟨fun _ => rfl, Nat.le_trans h1 h2, fun i hi k u hu => ?_⟩⟩
  have hg := flat_get f size hs n i k u hi hu
  have hlt := (List.getElem?_eq_some_iff.1 hg).1
  rw [show off + i * size + k = off + (i * size + k) by omega, h.cell _ hlt, hg]

set_option maxRecDepth 100000 in
set_option maxHeartbeats 4000000 in
theorem example_any (w : World) : Calls Tryd.prog 47 #[] w fun e w' => e = .returned (.agg exU.cells.toArray) ∧ Frm w.heap.size [] w w' := by
  have hf0 := Tryd.func47
  go_enter Tryd.func47, Tryd.ntmps47
  go_upto_region 1 with fail
  refine namedC ?_; intro W hW
  have hb : Blk W w.heap.size 25 [.string ByteArray.empty, .int .i64 0, .int .i64 0, .int .i64 0, .int .i64 0, .int .i64 0, .int .i64 0, .int .i64 0, .int .i64 0, .int .i64 0, .int .i64 0, .int .i64 0] := by rw [hW]; exact Blk.new w 25 _
  have hf : Frm w.heap.size [] w W := by rw [hW]; repeat (first | with_reducible exact Frm.refl _ _ _ | with_reducible refine Frm.drewN ?_ | with_reducible refine Frm.drew ?_ | ((with_reducible refine Frm.setCell' ?_ ?_); · first | (left; simp; done) | (right; simp; done) | (right; simp; omega)) | ((with_reducible refine Frm.alloc' ?_ ?_); · first | exact Nat.le_refl _ | (simp; done) | (simp; omega)))
  clear hW hf0
  have HB := Lib.hid hb
  have HF := Lib.hid hf
  clear hf hb
  go_wp2_with (with_reducible refine atStore 25 rfl ?_; refine stop_ ?_)
  refine go_on ?_
  refine wpList_storeB (P := Tryd.prog) (ty := 25) (cs := exU.cells) rfl rfl HB.out rfl rfl rfl (UC.info exU) (by simp [UC.cells, exU, Value.oneCell']) ?_
  have hz := HB.out.row exU.cells
  have hfz := HF.out.setRow (g := w.heap.size) (.inr (Nat.le_refl _)) exU.cells.toArray
  have HZ := Lib.hid hz
  have HFZ := Lib.hid hfz
  clear hfz hz
  go_wp2_with fail
  refine bodyPost_ret (results_c Tryd.results47 HZ.out rfl Tryd.underlying25 rfl (UC.info exU)) rfl ?_
  exact ⟨rfl, HFZ.out⟩
end Go.Proofs.YtghkfopcjdkieaaDoor
