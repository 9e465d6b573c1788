/-
  'all' of a list: the generic function, instance by instance.
-/
import Derived.Test.YtghkfopcjdkieaaDoorU4
namespace Go.Proofs.YtghkfopcjdkieaaDoor
set_option linter.all false
set_option linter.unusedSimpArgs false
set_option linter.unusedVariables false
open Go.RowKit

theorem cell_lt {w : World} {a : Addr} {v : Value} (h : w.cell? a = some v) : a.block < w.heap.size := by
  unfold World.cell? at h
  split at h
  · rename_i c e f hh
    exact (Array.getElem?_eq_some_iff.1 hh).1
  · cases h

/-- A function that has a body. -/
structure Enters (g : FuncId) : Prop where
  out : ∀ (args : Array Value) (W : World), (callFunc g args).run Tryd.prog W = .ok (.enter g args) W
theorem enters {g : FuncId} {fn : Func} (hf : Tryd.prog.funcs[g]? = some fn) (hname : (fn.name == "runtime.NumGoroutine") = false) (hb : fn.body.isSome = true) : Enters g := by
  refine ⟨fun args W => ?_⟩
  obtain ⟨c, hc⟩ := Option.isSome_iff_exists.1 hb
  have h1 : fn.name ≠ "runtime.NumGoroutine" := by simpa using hname
  simp [callFunc, hf, h1, hc]

/-- A load, by what the memory answers. -/
theorem wpList_loadE {P : Program} {ops : Array Oper} {rest : List Oper} {o : Oper} {a : Act} {w : World} {Q : Exit → Act → World → Prop} (hgd : o.guard = none) {ty : TypeId} {x : Operand} (ho : o.op = .load ty x)
    {ad : Addr} {v : Value} (hx : a.eval x = .pointer (some ad)) (hl : (loadVar ty ad).run P w = .ok v w)
    (h : wpList P ops Q rest (a.put o.dst v) w) : wpList P ops Q (o :: rest) a w := by
  refine wpList_step fun K hK => ?_
  rw [if_pos (by simp [Region.wanted, hgd])]
  unfold Oper.wp
  have hr : (execOp a.eval o).run P w = .ok (.value v) w := by
    unfold execOp
    simp only [ho, hx, Instr.loadAt, Instr.sureAddr, Sem.run_bind, Sem.run_pure, Result.andThen_ok, hl]
  rw [hr]
  exact hK _ _ h

/-- The first place at which something holds. -/
def First (p : Nat → Bool) (len : Nat) (r : Int) : Prop := (r = -1 ∧ ∀ i, i < len → p i = false) ∨ ∃ i, i < len ∧ r = (i : Int) ∧ p i = true ∧ ∀ k, k < i → p k = false

set_option maxRecDepth 100000 in
set_option maxHeartbeats 4000000 in
/-- all[..]$1: not is. -/
theorem allcA3 (g : FuncId) (caps : Array Value) (bx : Nat) (cs : List Value) (r : Bool) (w : World) (hb : w.cell? ⟨bx, 0, none⟩ = some (.func (.func g) #[] caps)) (hk : cs.length = 3) (hen : Enters g)
    (hg : ∀ W, Frm w.heap.size [] w W → Calls Tryd.prog g (#[.agg cs.toArray] ++ caps) W fun e w' => e = .returned (.bool r) ∧ Frm W.heap.size [] W w') :
    Calls Tryd.prog 89 #[.agg cs.toArray, .pointer (some ⟨bx, 0, none⟩)] w fun e w' => e = .returned (.bool (!r)) ∧ Frm w.heap.size [] w w' := by
  have hi : (Tryd.prog.info? 93).map (fun i => i.size) = some cs.length := by rw [hk]; kernel_rfl
  have hlt := cell_lt hb
  have hen' : ∀ (args : Array Value) (W : World), (callFunc g args).run Tryd.prog W = .ok (.enter g args) W := hen.out
  clear hen hk
  have HI := Lib.hid hi
  have HG := Lib.hid hg
  clear hg hi
  go_enter Tryd.func89, Tryd.ntmps89
  iterate 10 go_step
  refine named ?_; intro W hW
  have hx : Blk W w.heap.size 93 cs := by rw [hW]; repeat (first | exact Blk.new w 93 cs | refine Blk.alloc' ?_)
  have hf : Frm w.heap.size [] w W := by rw [hW]; repeat (first | with_reducible exact Frm.refl _ _ _ | with_reducible refine Frm.drewN ?_ | with_reducible refine Frm.drew ?_ | ((with_reducible refine Frm.setCell' ?_ ?_); · first | (left; simp; done) | (right; simp; done) | (right; simp; omega)) | ((with_reducible refine Frm.alloc' ?_ ?_); · first | exact Nat.le_refl _ | (simp; done) | (simp; omega)))
  clear hW
  have c1 : W.cell? ⟨bx, 0, none⟩ = some (.func (.func g) #[] caps) := (hf.cell hlt (by simp)).trans hb
  clear hb
  have HX := Lib.hid hx
  have HF := Lib.hid hf
  clear hf hx
  go_wp2_with (with_reducible refine atLoad 93 rfl ?_; refine wpList_loadB (ty := 93) (b := w.heap.size) (T := 93) (cs := cs) rfl rfl HX.out rfl Tryd.underlying93 rfl HI.out ?_)
  refine (HG.out _ HF.out).mono ?_; rintro e w1 ⟨rfl, hf1⟩
  have hf2 : Frm w.heap.size [] w w1 := HF.out.call hf1 HF.out.size (by simp)
  clear hf1 hen'
  have HF2 := Lib.hid hf2
  clear hf2
  go_wp2_with fail
  go_ret
  exact ⟨rfl, HF2.out⟩
set_option maxRecDepth 100000 in
set_option maxHeartbeats 4000000 in
theorem indexA3 (g : FuncId) (caps : Array Value) (hen : Enters g) (ad : Option Addr) (b off len cap : Nat) (w : World) (had : 0 < len → ad = some ⟨b, off, none⟩) (hl : len ≤ maxLen) (ev : Nat → Value) (p : Nat → Bool)
    (hel : ∀ W, Frm w.heap.size [] w W → ∀ i, i < len → (loadVar 93 ⟨b, off + i * 3, none⟩).run Tryd.prog W = .ok (ev i) W)
    (hg : ∀ W, Frm w.heap.size [] w W → ∀ i, i < len → Calls Tryd.prog g (#[ev i] ++ caps) W fun e w' => e = .returned (.bool (p i)) ∧ Frm W.heap.size [] W w') :
    Calls Tryd.prog 119 #[.slice ad len cap, .func (.func g) #[] caps] w fun e w' => (∃ r : Int, e = .returned (.int .i64 r) ∧ First p len r) ∧ Frm w.heap.size [] w w' := by
  have hen' : ∀ (args : Array Value) (W : World), (callFunc g args).run Tryd.prog W = .ok (.enter g args) W := hen.out
  have hl2 : (len : Int) ≤ 9223372036854775807 := by
    have : maxLen ≤ 9223372036854775807 := by decide
    omega
  have HEL := Lib.hid hel
  have HG := Lib.hid hg
  have HAD := Lib.hid had
  clear had hg hel
  clear hen hl
  go_enter Tryd.func119, Tryd.ntmps119
  go_wp2_with fail
  go_loopw [8] (fun i8 wr => ∃ j : Nat, i8 = .int .i64 j ∧ j ≤ len ∧ (∀ k, k < j → p k = false) ∧ Frm w.heap.size [] w wr) (fun i8 _ => len - (intOf i8).toNat)
  case atStart => exact ⟨0, rfl, Nat.zero_le _, fun k hk => by omega, by repeat (first | with_reducible exact Frm.refl _ _ _ | with_reducible refine Frm.drewN ?_ | with_reducible refine Frm.drew ?_ | ((with_reducible refine Frm.setCell' ?_ ?_); · first | (left; simp; done) | (right; simp; done) | (right; simp; omega)) | ((with_reducible refine Frm.alloc' ?_ ?_); · first | exact Nat.le_refl _ | (simp; done) | (simp; omega)))⟩
  case round =>
    obtain ⟨j, rfl, hj, hno, hfr⟩ := hrel
    by_cases hjl : j < len
    · have hjl' : (j : Int) < (len : Int) := by omega
      have had' := HAD.out (by omega)
      subst had'
      have hlo := HEL.out wr hfr j hjl
      have hca := HG.out wr hfr j hjl
      cases hp : p j
      · rw [hp] at hca
        have hnx : ∀ k, k < j + 1 → p k = false := fun k hk => by
          rcases Nat.lt_or_ge k j with e | e
          · exact hno k e
          · obtain rfl : k = j := by omega
            exact hp
        have HNO := Lib.hid hno
        have HFR := Lib.hid hfr
        have HLO := Lib.hid hlo
        have HCA := Lib.hid hca
        have HP := Lib.hid hp
        have HJL := Lib.hid hjl
        have HNX := Lib.hid hnx
        clear hnx hjl hp hca hlo hfr hno
        go_wp2_with (with_reducible refine atLoad 93 rfl ?_; refine wpList_loadE rfl rfl rfl HLO.out ?_)
        refine HCA.out.mono ?_; rintro e w1 ⟨rfl, hf1⟩
        have hf2 : Frm w.heap.size [] w w1 := HFR.out.call hf1 HFR.out.size (by simp)
        clear hf1
        have HF2 := Lib.hid hf2
        clear hf2
        go_wp2_with fail
        exact ⟨⟨j + 1, by simp, HJL.out, HNX.out, HF2.out⟩, by have := HJL.out; simp [intOf]; omega⟩
      · rw [hp] at hca
        have HNO := Lib.hid hno
        have HFR := Lib.hid hfr
        have HLO := Lib.hid hlo
        have HCA := Lib.hid hca
        have HP := Lib.hid hp
        have HJL := Lib.hid hjl
        clear hjl hp hca hlo hfr hno
        go_wp2_with (with_reducible refine atLoad 93 rfl ?_; refine wpList_loadE rfl rfl rfl HLO.out ?_)
        refine HCA.out.mono ?_; rintro e w1 ⟨rfl, hf1⟩
        have hf2 : Frm w.heap.size [] w w1 := HFR.out.call hf1 HFR.out.size (by simp)
        clear hf1
        have HF2 := Lib.hid hf2
        clear hf2
        go_wp2_with fail
        go_ret
        exact ⟨⟨_, rfl, .inr ⟨j, HJL.out, rfl, HP.out, HNO.out⟩⟩, HF2.out⟩
    · have hjl' : ¬ (j : Int) < (len : Int) := by omega
      obtain rfl : j = len := by omega
      have HNO := Lib.hid hno
      have HFR := Lib.hid hfr
      clear hfr hno
      go_wp2_with fail
      go_ret
      exact ⟨⟨_, rfl, .inl ⟨rfl, HNO.out⟩⟩, HFR.out⟩
set_option maxRecDepth 100000 in
set_option maxHeartbeats 4000000 in
/-- all[..]$1: not is. -/
theorem allcBy (g : FuncId) (caps : Array Value) (bx : Nat) (v : Value) (r : Bool) (w : World) (hb : w.cell? ⟨bx, 0, none⟩ = some (.func (.func g) #[] caps)) (hen : Enters g)
    (hg : ∀ W, Frm w.heap.size [] w W → Calls Tryd.prog g (#[v] ++ caps) W fun e w' => e = .returned (.bool r) ∧ Frm W.heap.size [] W w') :
    Calls Tryd.prog 118 #[v, .pointer (some ⟨bx, 0, none⟩)] w fun e w' => e = .returned (.bool (!r)) ∧ Frm w.heap.size [] w w' := by
  have hen' : ∀ (args : Array Value) (W : World), (callFunc g args).run Tryd.prog W = .ok (.enter g args) W := hen.out
  have h0 := hg w (Frm.refl _ _ w)
  clear hen
  have HG := Lib.hid h0
  clear h0
  go_enter Tryd.func118, Tryd.ntmps118
  go_wp2_with fail
  refine HG.out.mono ?_; rintro e w1 ⟨rfl, hf1⟩
  clear hen'
  have HF2 := Lib.hid hf1
  clear hf1
  go_wp2_with fail
  go_ret
  exact ⟨rfl, HF2.out⟩
set_option maxRecDepth 100000 in
set_option maxHeartbeats 4000000 in
theorem indexBy (g : FuncId) (caps : Array Value) (hen : Enters g) (ad : Option Addr) (b off len cap : Nat) (w : World) (had : 0 < len → ad = some ⟨b, off, none⟩) (hl : len ≤ maxLen) (ev : Nat → Value) (p : Nat → Bool)
    (hel : ∀ W, Frm w.heap.size [] w W → ∀ i, i < len → (loadVar 5 ⟨b, off + i, none⟩).run Tryd.prog W = .ok (ev i) W)
    (hg : ∀ W, Frm w.heap.size [] w W → ∀ i, i < len → Calls Tryd.prog g (#[ev i] ++ caps) W fun e w' => e = .returned (.bool (p i)) ∧ Frm W.heap.size [] W w') :
    Calls Tryd.prog 132 #[.slice ad len cap, .func (.func g) #[] caps] w fun e w' => (∃ r : Int, e = .returned (.int .i64 r) ∧ First p len r) ∧ Frm w.heap.size [] w w' := by
  have hen' : ∀ (args : Array Value) (W : World), (callFunc g args).run Tryd.prog W = .ok (.enter g args) W := hen.out
  have hl2 : (len : Int) ≤ 9223372036854775807 := by
    have : maxLen ≤ 9223372036854775807 := by decide
    omega
  have HEL := Lib.hid hel
  have HG := Lib.hid hg
  have HAD := Lib.hid had
  clear had hg hel
  clear hen hl
  go_enter Tryd.func132, Tryd.ntmps132
  go_wp2_with fail
  go_loopw [8] (fun i8 wr => ∃ j : Nat, i8 = .int .i64 j ∧ j ≤ len ∧ (∀ k, k < j → p k = false) ∧ Frm w.heap.size [] w wr) (fun i8 _ => len - (intOf i8).toNat)
  case atStart => exact ⟨0, rfl, Nat.zero_le _, fun k hk => by omega, by repeat (first | with_reducible exact Frm.refl _ _ _ | with_reducible refine Frm.drewN ?_ | with_reducible refine Frm.drew ?_ | ((with_reducible refine Frm.setCell' ?_ ?_); · first | (left; simp; done) | (right; simp; done) | (right; simp; omega)) | ((with_reducible refine Frm.alloc' ?_ ?_); · first | exact Nat.le_refl _ | (simp; done) | (simp; omega)))⟩
  case round =>
    obtain ⟨j, rfl, hj, hno, hfr⟩ := hrel
    by_cases hjl : j < len
    · have hjl' : (j : Int) < (len : Int) := by omega
      have had' := HAD.out (by omega)
      subst had'
      have hlo := HEL.out wr hfr j hjl
      have hca := HG.out wr hfr j hjl
      cases hp : p j
      · rw [hp] at hca
        have hnx : ∀ k, k < j + 1 → p k = false := fun k hk => by
          rcases Nat.lt_or_ge k j with e | e
          · exact hno k e
          · obtain rfl : k = j := by omega
            exact hp
        have HNO := Lib.hid hno
        have HFR := Lib.hid hfr
        have HLO := Lib.hid hlo
        have HCA := Lib.hid hca
        have HP := Lib.hid hp
        have HJL := Lib.hid hjl
        have HNX := Lib.hid hnx
        clear hnx hjl hp hca hlo hfr hno
        go_wp2_with (with_reducible refine atLoad 5 rfl ?_; refine wpList_loadE rfl rfl rfl HLO.out ?_)
        refine HCA.out.mono ?_; rintro e w1 ⟨rfl, hf1⟩
        have hf2 : Frm w.heap.size [] w w1 := HFR.out.call hf1 HFR.out.size (by simp)
        clear hf1
        have HF2 := Lib.hid hf2
        clear hf2
        go_wp2_with fail
        exact ⟨⟨j + 1, by simp, HJL.out, HNX.out, HF2.out⟩, by have := HJL.out; simp [intOf]; omega⟩
      · rw [hp] at hca
        have HNO := Lib.hid hno
        have HFR := Lib.hid hfr
        have HLO := Lib.hid hlo
        have HCA := Lib.hid hca
        have HP := Lib.hid hp
        have HJL := Lib.hid hjl
        clear hjl hp hca hlo hfr hno
        go_wp2_with (with_reducible refine atLoad 5 rfl ?_; refine wpList_loadE rfl rfl rfl HLO.out ?_)
        refine HCA.out.mono ?_; rintro e w1 ⟨rfl, hf1⟩
        have hf2 : Frm w.heap.size [] w w1 := HFR.out.call hf1 HFR.out.size (by simp)
        clear hf1
        have HF2 := Lib.hid hf2
        clear hf2
        go_wp2_with fail
        go_ret
        exact ⟨⟨_, rfl, .inr ⟨j, HJL.out, rfl, HP.out, HNO.out⟩⟩, HF2.out⟩
    · have hjl' : ¬ (j : Int) < (len : Int) := by omega
      obtain rfl : j = len := by omega
      have HNO := Lib.hid hno
      have HFR := Lib.hid hfr
      clear hfr hno
      go_wp2_with fail
      go_ret
      exact ⟨⟨_, rfl, .inl ⟨rfl, HNO.out⟩⟩, HFR.out⟩
set_option maxRecDepth 100000 in
set_option maxHeartbeats 4000000 in
/-- all[..]$1: not is. -/
theorem allcFr (g : FuncId) (caps : Array Value) (bx : Nat) (cs : List Value) (r : Bool) (w : World) (hb : w.cell? ⟨bx, 0, none⟩ = some (.func (.func g) #[] caps)) (hk : cs.length = 8) (hen : Enters g)
    (hg : ∀ W, Frm w.heap.size [] w W → Calls Tryd.prog g (#[.agg cs.toArray] ++ caps) W fun e w' => e = .returned (.bool r) ∧ Frm W.heap.size [] W w') :
    Calls Tryd.prog 91 #[.agg cs.toArray, .pointer (some ⟨bx, 0, none⟩)] w fun e w' => e = .returned (.bool (!r)) ∧ Frm w.heap.size [] w w' := by
  have hi : (Tryd.prog.info? 54).map (fun i => i.size) = some cs.length := by rw [hk]; kernel_rfl
  have hlt := cell_lt hb
  have hen' : ∀ (args : Array Value) (W : World), (callFunc g args).run Tryd.prog W = .ok (.enter g args) W := hen.out
  clear hen hk
  have HI := Lib.hid hi
  have HG := Lib.hid hg
  clear hg hi
  go_enter Tryd.func91, Tryd.ntmps91
  iterate 10 go_step
  refine named ?_; intro W hW
  have hx : Blk W w.heap.size 54 cs := by rw [hW]; repeat (first | exact Blk.new w 54 cs | refine Blk.alloc' ?_)
  have hf : Frm w.heap.size [] w W := by rw [hW]; repeat (first | with_reducible exact Frm.refl _ _ _ | with_reducible refine Frm.drewN ?_ | with_reducible refine Frm.drew ?_ | ((with_reducible refine Frm.setCell' ?_ ?_); · first | (left; simp; done) | (right; simp; done) | (right; simp; omega)) | ((with_reducible refine Frm.alloc' ?_ ?_); · first | exact Nat.le_refl _ | (simp; done) | (simp; omega)))
  clear hW
  have c1 : W.cell? ⟨bx, 0, none⟩ = some (.func (.func g) #[] caps) := (hf.cell hlt (by simp)).trans hb
  clear hb
  have HX := Lib.hid hx
  have HF := Lib.hid hf
  clear hf hx
  go_wp2_with (with_reducible refine atLoad 54 rfl ?_; refine wpList_loadB (ty := 54) (b := w.heap.size) (T := 54) (cs := cs) rfl rfl HX.out rfl Tryd.underlying54 rfl HI.out ?_)
  refine (HG.out _ HF.out).mono ?_; rintro e w1 ⟨rfl, hf1⟩
  have hf2 : Frm w.heap.size [] w w1 := HF.out.call hf1 HF.out.size (by simp)
  clear hf1 hen'
  have HF2 := Lib.hid hf2
  clear hf2
  go_wp2_with fail
  go_ret
  exact ⟨rfl, HF2.out⟩
set_option maxRecDepth 100000 in
set_option maxHeartbeats 4000000 in
theorem indexFr (g : FuncId) (caps : Array Value) (hen : Enters g) (ad : Option Addr) (b off len cap : Nat) (w : World) (had : 0 < len → ad = some ⟨b, off, none⟩) (hl : len ≤ maxLen) (ev : Nat → Value) (p : Nat → Bool)
    (hel : ∀ W, Frm w.heap.size [] w W → ∀ i, i < len → (loadVar 54 ⟨b, off + i * 8, none⟩).run Tryd.prog W = .ok (ev i) W)
    (hg : ∀ W, Frm w.heap.size [] w W → ∀ i, i < len → Calls Tryd.prog g (#[ev i] ++ caps) W fun e w' => e = .returned (.bool (p i)) ∧ Frm W.heap.size [] W w') :
    Calls Tryd.prog 120 #[.slice ad len cap, .func (.func g) #[] caps] w fun e w' => (∃ r : Int, e = .returned (.int .i64 r) ∧ First p len r) ∧ Frm w.heap.size [] w w' := by
  have hen' : ∀ (args : Array Value) (W : World), (callFunc g args).run Tryd.prog W = .ok (.enter g args) W := hen.out
  have hl2 : (len : Int) ≤ 9223372036854775807 := by
    have : maxLen ≤ 9223372036854775807 := by decide
    omega
  have HEL := Lib.hid hel
  have HG := Lib.hid hg
  have HAD := Lib.hid had
  clear had hg hel
  clear hen hl
  go_enter Tryd.func120, Tryd.ntmps120
  go_wp2_with fail
  go_loopw [8] (fun i8 wr => ∃ j : Nat, i8 = .int .i64 j ∧ j ≤ len ∧ (∀ k, k < j → p k = false) ∧ Frm w.heap.size [] w wr) (fun i8 _ => len - (intOf i8).toNat)
  case atStart => exact ⟨0, rfl, Nat.zero_le _, fun k hk => by omega, by repeat (first | with_reducible exact Frm.refl _ _ _ | with_reducible refine Frm.drewN ?_ | with_reducible refine Frm.drew ?_ | ((with_reducible refine Frm.setCell' ?_ ?_); · first | (left; simp; done) | (right; simp; done) | (right; simp; omega)) | ((with_reducible refine Frm.alloc' ?_ ?_); · first | exact Nat.le_refl _ | (simp; done) | (simp; omega)))⟩
  case round =>
    obtain ⟨j, rfl, hj, hno, hfr⟩ := hrel
    by_cases hjl : j < len
    · have hjl' : (j : Int) < (len : Int) := by omega
      have had' := HAD.out (by omega)
      subst had'
      have hlo := HEL.out wr hfr j hjl
      have hca := HG.out wr hfr j hjl
      cases hp : p j
      · rw [hp] at hca
        have hnx : ∀ k, k < j + 1 → p k = false := fun k hk => by
          rcases Nat.lt_or_ge k j with e | e
          · exact hno k e
          · obtain rfl : k = j := by omega
            exact hp
        have HNO := Lib.hid hno
        have HFR := Lib.hid hfr
        have HLO := Lib.hid hlo
        have HCA := Lib.hid hca
        have HP := Lib.hid hp
        have HJL := Lib.hid hjl
        have HNX := Lib.hid hnx
        clear hnx hjl hp hca hlo hfr hno
        go_wp2_with (with_reducible refine atLoad 54 rfl ?_; refine wpList_loadE rfl rfl rfl HLO.out ?_)
        refine HCA.out.mono ?_; rintro e w1 ⟨rfl, hf1⟩
        have hf2 : Frm w.heap.size [] w w1 := HFR.out.call hf1 HFR.out.size (by simp)
        clear hf1
        have HF2 := Lib.hid hf2
        clear hf2
        go_wp2_with fail
        exact ⟨⟨j + 1, by simp, HJL.out, HNX.out, HF2.out⟩, by have := HJL.out; simp [intOf]; omega⟩
      · rw [hp] at hca
        have HNO := Lib.hid hno
        have HFR := Lib.hid hfr
        have HLO := Lib.hid hlo
        have HCA := Lib.hid hca
        have HP := Lib.hid hp
        have HJL := Lib.hid hjl
        clear hjl hp hca hlo hfr hno
        go_wp2_with (with_reducible refine atLoad 54 rfl ?_; refine wpList_loadE rfl rfl rfl HLO.out ?_)
        refine HCA.out.mono ?_; rintro e w1 ⟨rfl, hf1⟩
        have hf2 : Frm w.heap.size [] w w1 := HFR.out.call hf1 HFR.out.size (by simp)
        clear hf1
        have HF2 := Lib.hid hf2
        clear hf2
        go_wp2_with fail
        go_ret
        exact ⟨⟨_, rfl, .inr ⟨j, HJL.out, rfl, HP.out, HNO.out⟩⟩, HF2.out⟩
    · have hjl' : ¬ (j : Int) < (len : Int) := by omega
      obtain rfl : j = len := by omega
      have HNO := Lib.hid hno
      have HFR := Lib.hid hfr
      clear hfr hno
      go_wp2_with fail
      go_ret
      exact ⟨⟨_, rfl, .inl ⟨rfl, HNO.out⟩⟩, HFR.out⟩
set_option maxRecDepth 100000 in
set_option maxHeartbeats 4000000 in
/-- all[..]$1: not is. -/
theorem allcWy (g : FuncId) (caps : Array Value) (bx : Nat) (cs : List Value) (r : Bool) (w : World) (hb : w.cell? ⟨bx, 0, none⟩ = some (.func (.func g) #[] caps)) (hk : cs.length = 3) (hen : Enters g)
    (hg : ∀ W, Frm w.heap.size [] w W → Calls Tryd.prog g (#[.agg cs.toArray] ++ caps) W fun e w' => e = .returned (.bool r) ∧ Frm W.heap.size [] W w') :
    Calls Tryd.prog 122 #[.agg cs.toArray, .pointer (some ⟨bx, 0, none⟩)] w fun e w' => e = .returned (.bool (!r)) ∧ Frm w.heap.size [] w w' := by
  have hi : (Tryd.prog.info? 51).map (fun i => i.size) = some cs.length := by rw [hk]; kernel_rfl
  have hlt := cell_lt hb
  have hen' : ∀ (args : Array Value) (W : World), (callFunc g args).run Tryd.prog W = .ok (.enter g args) W := hen.out
  clear hen hk
  have HI := Lib.hid hi
  have HG := Lib.hid hg
  clear hg hi
  go_enter Tryd.func122, Tryd.ntmps122
  iterate 10 go_step
  refine named ?_; intro W hW
  have hx : Blk W w.heap.size 51 cs := by rw [hW]; repeat (first | exact Blk.new w 51 cs | refine Blk.alloc' ?_)
  have hf : Frm w.heap.size [] w W := by rw [hW]; repeat (first | with_reducible exact Frm.refl _ _ _ | with_reducible refine Frm.drewN ?_ | with_reducible refine Frm.drew ?_ | ((with_reducible refine Frm.setCell' ?_ ?_); · first | (left; simp; done) | (right; simp; done) | (right; simp; omega)) | ((with_reducible refine Frm.alloc' ?_ ?_); · first | exact Nat.le_refl _ | (simp; done) | (simp; omega)))
  clear hW
  have c1 : W.cell? ⟨bx, 0, none⟩ = some (.func (.func g) #[] caps) := (hf.cell hlt (by simp)).trans hb
  clear hb
  have HX := Lib.hid hx
  have HF := Lib.hid hf
  clear hf hx
  go_wp2_with (with_reducible refine atLoad 51 rfl ?_; refine wpList_loadB (ty := 51) (b := w.heap.size) (T := 51) (cs := cs) rfl rfl HX.out rfl Tryd.underlying51 rfl HI.out ?_)
  refine (HG.out _ HF.out).mono ?_; rintro e w1 ⟨rfl, hf1⟩
  have hf2 : Frm w.heap.size [] w w1 := HF.out.call hf1 HF.out.size (by simp)
  clear hf1 hen'
  have HF2 := Lib.hid hf2
  clear hf2
  go_wp2_with fail
  go_ret
  exact ⟨rfl, HF2.out⟩
set_option maxRecDepth 100000 in
set_option maxHeartbeats 4000000 in
theorem indexWy (g : FuncId) (caps : Array Value) (hen : Enters g) (ad : Option Addr) (b off len cap : Nat) (w : World) (had : 0 < len → ad = some ⟨b, off, none⟩) (hl : len ≤ maxLen) (ev : Nat → Value) (p : Nat → Bool)
    (hel : ∀ W, Frm w.heap.size [] w W → ∀ i, i < len → (loadVar 51 ⟨b, off + i * 3, none⟩).run Tryd.prog W = .ok (ev i) W)
    (hg : ∀ W, Frm w.heap.size [] w W → ∀ i, i < len → Calls Tryd.prog g (#[ev i] ++ caps) W fun e w' => e = .returned (.bool (p i)) ∧ Frm W.heap.size [] W w') :
    Calls Tryd.prog 133 #[.slice ad len cap, .func (.func g) #[] caps] w fun e w' => (∃ r : Int, e = .returned (.int .i64 r) ∧ First p len r) ∧ Frm w.heap.size [] w w' := by
  have hen' : ∀ (args : Array Value) (W : World), (callFunc g args).run Tryd.prog W = .ok (.enter g args) W := hen.out
  have hl2 : (len : Int) ≤ 9223372036854775807 := by
    have : maxLen ≤ 9223372036854775807 := by decide
    omega
  have HEL := Lib.hid hel
  have HG := Lib.hid hg
  have HAD := Lib.hid had
  clear had hg hel
  clear hen hl
  go_enter Tryd.func133, Tryd.ntmps133
  go_wp2_with fail
  go_loopw [8] (fun i8 wr => ∃ j : Nat, i8 = .int .i64 j ∧ j ≤ len ∧ (∀ k, k < j → p k = false) ∧ Frm w.heap.size [] w wr) (fun i8 _ => len - (intOf i8).toNat)
  case atStart => exact ⟨0, rfl, Nat.zero_le _, fun k hk => by omega, by repeat (first | with_reducible exact Frm.refl _ _ _ | with_reducible refine Frm.drewN ?_ | with_reducible refine Frm.drew ?_ | ((with_reducible refine Frm.setCell' ?_ ?_); · first | (left; simp; done) | (right; simp; done) | (right; simp; omega)) | ((with_reducible refine Frm.alloc' ?_ ?_); · first | exact Nat.le_refl _ | (simp; done) | (simp; omega)))⟩
  case round =>
    obtain ⟨j, rfl, hj, hno, hfr⟩ := hrel
    by_cases hjl : j < len
    · have hjl' : (j : Int) < (len : Int) := by omega
      have had' := HAD.out (by omega)
      subst had'
      have hlo := HEL.out wr hfr j hjl
      have hca := HG.out wr hfr j hjl
      cases hp : p j
      · rw [hp] at hca
        have hnx : ∀ k, k < j + 1 → p k = false := fun k hk => by
          rcases Nat.lt_or_ge k j with e | e
          · exact hno k e
          · obtain rfl : k = j := by omega
            exact hp
        have HNO := Lib.hid hno
        have HFR := Lib.hid hfr
        have HLO := Lib.hid hlo
        have HCA := Lib.hid hca
        have HP := Lib.hid hp
        have HJL := Lib.hid hjl
        have HNX := Lib.hid hnx
        clear hnx hjl hp hca hlo hfr hno
        go_wp2_with (with_reducible refine atLoad 51 rfl ?_; refine wpList_loadE rfl rfl rfl HLO.out ?_)
        refine HCA.out.mono ?_; rintro e w1 ⟨rfl, hf1⟩
        have hf2 : Frm w.heap.size [] w w1 := HFR.out.call hf1 HFR.out.size (by simp)
        clear hf1
        have HF2 := Lib.hid hf2
        clear hf2
        go_wp2_with fail
        exact ⟨⟨j + 1, by simp, HJL.out, HNX.out, HF2.out⟩, by have := HJL.out; simp [intOf]; omega⟩
      · rw [hp] at hca
        have HNO := Lib.hid hno
        have HFR := Lib.hid hfr
        have HLO := Lib.hid hlo
        have HCA := Lib.hid hca
        have HP := Lib.hid hp
        have HJL := Lib.hid hjl
        clear hjl hp hca hlo hfr hno
        go_wp2_with (with_reducible refine atLoad 51 rfl ?_; refine wpList_loadE rfl rfl rfl HLO.out ?_)
        refine HCA.out.mono ?_; rintro e w1 ⟨rfl, hf1⟩
        have hf2 : Frm w.heap.size [] w w1 := HFR.out.call hf1 HFR.out.size (by simp)
        clear hf1
        have HF2 := Lib.hid hf2
        clear hf2
        go_wp2_with fail
        go_ret
        exact ⟨⟨_, rfl, .inr ⟨j, HJL.out, rfl, HP.out, HNO.out⟩⟩, HF2.out⟩
    · have hjl' : ¬ (j : Int) < (len : Int) := by omega
      obtain rfl : j = len := by omega
      have HNO := Lib.hid hno
      have HFR := Lib.hid hfr
      clear hfr hno
      go_wp2_with fail
      go_ret
      exact ⟨⟨_, rfl, .inl ⟨rfl, HNO.out⟩⟩, HFR.out⟩
set_option maxRecDepth 100000 in
set_option maxHeartbeats 4000000 in
/-- all[..]$1: not is. -/
theorem allcUn (g : FuncId) (caps : Array Value) (bx : Nat) (cs : List Value) (r : Bool) (w : World) (hb : w.cell? ⟨bx, 0, none⟩ = some (.func (.func g) #[] caps)) (hk : cs.length = 12) (hen : Enters g)
    (hg : ∀ W, Frm w.heap.size [] w W → Calls Tryd.prog g (#[.agg cs.toArray] ++ caps) W fun e w' => e = .returned (.bool r) ∧ Frm W.heap.size [] W w') :
    Calls Tryd.prog 107 #[.agg cs.toArray, .pointer (some ⟨bx, 0, none⟩)] w fun e w' => e = .returned (.bool (!r)) ∧ Frm w.heap.size [] w w' := by
  have hi : (Tryd.prog.info? 25).map (fun i => i.size) = some cs.length := by rw [hk]; kernel_rfl
  have hlt := cell_lt hb
  have hen' : ∀ (args : Array Value) (W : World), (callFunc g args).run Tryd.prog W = .ok (.enter g args) W := hen.out
  clear hen hk
  have HI := Lib.hid hi
  have HG := Lib.hid hg
  clear hg hi
  go_enter Tryd.func107, Tryd.ntmps107
  iterate 10 go_step
  refine named ?_; intro W hW
  have hx : Blk W w.heap.size 25 cs := by rw [hW]; repeat (first | exact Blk.new w 25 cs | refine Blk.alloc' ?_)
  have hf : Frm w.heap.size [] w W := by rw [hW]; repeat (first | with_reducible exact Frm.refl _ _ _ | with_reducible refine Frm.drewN ?_ | with_reducible refine Frm.drew ?_ | ((with_reducible refine Frm.setCell' ?_ ?_); · first | (left; simp; done) | (right; simp; done) | (right; simp; omega)) | ((with_reducible refine Frm.alloc' ?_ ?_); · first | exact Nat.le_refl _ | (simp; done) | (simp; omega)))
  clear hW
  have c1 : W.cell? ⟨bx, 0, none⟩ = some (.func (.func g) #[] caps) := (hf.cell hlt (by simp)).trans hb
  clear hb
  have HX := Lib.hid hx
  have HF := Lib.hid hf
  clear hf hx
  go_wp2_with (with_reducible refine atLoad 25 rfl ?_; refine wpList_loadB (ty := 25) (b := w.heap.size) (T := 25) (cs := cs) rfl rfl HX.out rfl Tryd.underlying25 rfl HI.out ?_)
  refine (HG.out _ HF.out).mono ?_; rintro e w1 ⟨rfl, hf1⟩
  have hf2 : Frm w.heap.size [] w w1 := HF.out.call hf1 HF.out.size (by simp)
  clear hf1 hen'
  have HF2 := Lib.hid hf2
  clear hf2
  go_wp2_with fail
  go_ret
  exact ⟨rfl, HF2.out⟩
set_option maxRecDepth 100000 in
set_option maxHeartbeats 4000000 in
theorem indexUn (g : FuncId) (caps : Array Value) (hen : Enters g) (ad : Option Addr) (b off len cap : Nat) (w : World) (had : 0 < len → ad = some ⟨b, off, none⟩) (hl : len ≤ maxLen) (ev : Nat → Value) (p : Nat → Bool)
    (hel : ∀ W, Frm w.heap.size [] w W → ∀ i, i < len → (loadVar 25 ⟨b, off + i * 12, none⟩).run Tryd.prog W = .ok (ev i) W)
    (hg : ∀ W, Frm w.heap.size [] w W → ∀ i, i < len → Calls Tryd.prog g (#[ev i] ++ caps) W fun e w' => e = .returned (.bool (p i)) ∧ Frm W.heap.size [] W w') :
    Calls Tryd.prog 128 #[.slice ad len cap, .func (.func g) #[] caps] w fun e w' => (∃ r : Int, e = .returned (.int .i64 r) ∧ First p len r) ∧ Frm w.heap.size [] w w' := by
  have hen' : ∀ (args : Array Value) (W : World), (callFunc g args).run Tryd.prog W = .ok (.enter g args) W := hen.out
  have hl2 : (len : Int) ≤ 9223372036854775807 := by
    have : maxLen ≤ 9223372036854775807 := by decide
    omega
  have HEL := Lib.hid hel
  have HG := Lib.hid hg
  have HAD := Lib.hid had
  clear had hg hel
  clear hen hl
  go_enter Tryd.func128, Tryd.ntmps128
  go_wp2_with fail
  go_loopw [8] (fun i8 wr => ∃ j : Nat, i8 = .int .i64 j ∧ j ≤ len ∧ (∀ k, k < j → p k = false) ∧ Frm w.heap.size [] w wr) (fun i8 _ => len - (intOf i8).toNat)
  case atStart => exact ⟨0, rfl, Nat.zero_le _, fun k hk => by omega, by repeat (first | with_reducible exact Frm.refl _ _ _ | with_reducible refine Frm.drewN ?_ | with_reducible refine Frm.drew ?_ | ((with_reducible refine Frm.setCell' ?_ ?_); · first | (left; simp; done) | (right; simp; done) | (right; simp; omega)) | ((with_reducible refine Frm.alloc' ?_ ?_); · first | exact Nat.le_refl _ | (simp; done) | (simp; omega)))⟩
  case round =>
    obtain ⟨j, rfl, hj, hno, hfr⟩ := hrel
    by_cases hjl : j < len
    · have hjl' : (j : Int) < (len : Int) := by omega
      have had' := HAD.out (by omega)
      subst had'
      have hlo := HEL.out wr hfr j hjl
      have hca := HG.out wr hfr j hjl
      cases hp : p j
      · rw [hp] at hca
        have hnx : ∀ k, k < j + 1 → p k = false := fun k hk => by
          rcases Nat.lt_or_ge k j with e | e
          · exact hno k e
          · obtain rfl : k = j := by omega
            exact hp
        have HNO := Lib.hid hno
        have HFR := Lib.hid hfr
        have HLO := Lib.hid hlo
        have HCA := Lib.hid hca
        have HP := Lib.hid hp
        have HJL := Lib.hid hjl
        have HNX := Lib.hid hnx
        clear hnx hjl hp hca hlo hfr hno
        go_wp2_with (with_reducible refine atLoad 25 rfl ?_; refine wpList_loadE rfl rfl rfl HLO.out ?_)
        refine HCA.out.mono ?_; rintro e w1 ⟨rfl, hf1⟩
        have hf2 : Frm w.heap.size [] w w1 := HFR.out.call hf1 HFR.out.size (by simp)
        clear hf1
        have HF2 := Lib.hid hf2
        clear hf2
        go_wp2_with fail
        exact ⟨⟨j + 1, by simp, HJL.out, HNX.out, HF2.out⟩, by have := HJL.out; simp [intOf]; omega⟩
      · rw [hp] at hca
        have HNO := Lib.hid hno
        have HFR := Lib.hid hfr
        have HLO := Lib.hid hlo
        have HCA := Lib.hid hca
        have HP := Lib.hid hp
        have HJL := Lib.hid hjl
        clear hjl hp hca hlo hfr hno
        go_wp2_with (with_reducible refine atLoad 25 rfl ?_; refine wpList_loadE rfl rfl rfl HLO.out ?_)
        refine HCA.out.mono ?_; rintro e w1 ⟨rfl, hf1⟩
        have hf2 : Frm w.heap.size [] w w1 := HFR.out.call hf1 HFR.out.size (by simp)
        clear hf1
        have HF2 := Lib.hid hf2
        clear hf2
        go_wp2_with fail
        go_ret
        exact ⟨⟨_, rfl, .inr ⟨j, HJL.out, rfl, HP.out, HNO.out⟩⟩, HF2.out⟩
    · have hjl' : ¬ (j : Int) < (len : Int) := by omega
      obtain rfl : j = len := by omega
      have HNO := Lib.hid hno
      have HFR := Lib.hid hfr
      clear hfr hno
      go_wp2_with fail
      go_ret
      exact ⟨⟨_, rfl, .inl ⟨rfl, HNO.out⟩⟩, HFR.out⟩
set_option maxRecDepth 100000 in
set_option maxHeartbeats 4000000 in
/-- all[..]$1: not is. -/
theorem allcSp (g : FuncId) (caps : Array Value) (bx : Nat) (cs : List Value) (r : Bool) (w : World) (hb : w.cell? ⟨bx, 0, none⟩ = some (.func (.func g) #[] caps)) (hk : cs.length = 2) (hen : Enters g)
    (hg : ∀ W, Frm w.heap.size [] w W → Calls Tryd.prog g (#[.agg cs.toArray] ++ caps) W fun e w' => e = .returned (.bool r) ∧ Frm W.heap.size [] W w') :
    Calls Tryd.prog 109 #[.agg cs.toArray, .pointer (some ⟨bx, 0, none⟩)] w fun e w' => e = .returned (.bool (!r)) ∧ Frm w.heap.size [] w w' := by
  have hi : (Tryd.prog.info? 23).map (fun i => i.size) = some cs.length := by rw [hk]; kernel_rfl
  have hlt := cell_lt hb
  have hen' : ∀ (args : Array Value) (W : World), (callFunc g args).run Tryd.prog W = .ok (.enter g args) W := hen.out
  clear hen hk
  have HI := Lib.hid hi
  have HG := Lib.hid hg
  clear hg hi
  go_enter Tryd.func109, Tryd.ntmps109
  iterate 10 go_step
  refine named ?_; intro W hW
  have hx : Blk W w.heap.size 23 cs := by rw [hW]; repeat (first | exact Blk.new w 23 cs | refine Blk.alloc' ?_)
  have hf : Frm w.heap.size [] w W := by rw [hW]; repeat (first | with_reducible exact Frm.refl _ _ _ | with_reducible refine Frm.drewN ?_ | with_reducible refine Frm.drew ?_ | ((with_reducible refine Frm.setCell' ?_ ?_); · first | (left; simp; done) | (right; simp; done) | (right; simp; omega)) | ((with_reducible refine Frm.alloc' ?_ ?_); · first | exact Nat.le_refl _ | (simp; done) | (simp; omega)))
  clear hW
  have c1 : W.cell? ⟨bx, 0, none⟩ = some (.func (.func g) #[] caps) := (hf.cell hlt (by simp)).trans hb
  clear hb
  have HX := Lib.hid hx
  have HF := Lib.hid hf
  clear hf hx
  go_wp2_with (with_reducible refine atLoad 23 rfl ?_; refine wpList_loadB (ty := 23) (b := w.heap.size) (T := 23) (cs := cs) rfl rfl HX.out rfl Tryd.underlying23 rfl HI.out ?_)
  refine (HG.out _ HF.out).mono ?_; rintro e w1 ⟨rfl, hf1⟩
  have hf2 : Frm w.heap.size [] w w1 := HF.out.call hf1 HF.out.size (by simp)
  clear hf1 hen'
  have HF2 := Lib.hid hf2
  clear hf2
  go_wp2_with fail
  go_ret
  exact ⟨rfl, HF2.out⟩
set_option maxRecDepth 100000 in
set_option maxHeartbeats 4000000 in
theorem indexSp (g : FuncId) (caps : Array Value) (hen : Enters g) (ad : Option Addr) (b off len cap : Nat) (w : World) (had : 0 < len → ad = some ⟨b, off, none⟩) (hl : len ≤ maxLen) (ev : Nat → Value) (p : Nat → Bool)
    (hel : ∀ W, Frm w.heap.size [] w W → ∀ i, i < len → (loadVar 23 ⟨b, off + i * 2, none⟩).run Tryd.prog W = .ok (ev i) W)
    (hg : ∀ W, Frm w.heap.size [] w W → ∀ i, i < len → Calls Tryd.prog g (#[ev i] ++ caps) W fun e w' => e = .returned (.bool (p i)) ∧ Frm W.heap.size [] W w') :
    Calls Tryd.prog 129 #[.slice ad len cap, .func (.func g) #[] caps] w fun e w' => (∃ r : Int, e = .returned (.int .i64 r) ∧ First p len r) ∧ Frm w.heap.size [] w w' := by
  have hen' : ∀ (args : Array Value) (W : World), (callFunc g args).run Tryd.prog W = .ok (.enter g args) W := hen.out
  have hl2 : (len : Int) ≤ 9223372036854775807 := by
    have : maxLen ≤ 9223372036854775807 := by decide
    omega
  have HEL := Lib.hid hel
  have HG := Lib.hid hg
  have HAD := Lib.hid had
  clear had hg hel
  clear hen hl
  go_enter Tryd.func129, Tryd.ntmps129
  go_wp2_with fail
  go_loopw [8] (fun i8 wr => ∃ j : Nat, i8 = .int .i64 j ∧ j ≤ len ∧ (∀ k, k < j → p k = false) ∧ Frm w.heap.size [] w wr) (fun i8 _ => len - (intOf i8).toNat)
  case atStart => exact ⟨0, rfl, Nat.zero_le _, fun k hk => by omega, by repeat (first | with_reducible exact Frm.refl _ _ _ | with_reducible refine Frm.drewN ?_ | with_reducible refine Frm.drew ?_ | ((with_reducible refine Frm.setCell' ?_ ?_); · first | (left; simp; done) | (right; simp; done) | (right; simp; omega)) | ((with_reducible refine Frm.alloc' ?_ ?_); · first | exact Nat.le_refl _ | (simp; done) | (simp; omega)))⟩
  case round =>
    obtain ⟨j, rfl, hj, hno, hfr⟩ := hrel
    by_cases hjl : j < len
    · have hjl' : (j : Int) < (len : Int) := by omega
      have had' := HAD.out (by omega)
      subst had'
      have hlo := HEL.out wr hfr j hjl
      have hca := HG.out wr hfr j hjl
      cases hp : p j
      · rw [hp] at hca
        have hnx : ∀ k, k < j + 1 → p k = false := fun k hk => by
          rcases Nat.lt_or_ge k j with e | e
          · exact hno k e
          · obtain rfl : k = j := by omega
            exact hp
        have HNO := Lib.hid hno
        have HFR := Lib.hid hfr
        have HLO := Lib.hid hlo
        have HCA := Lib.hid hca
        have HP := Lib.hid hp
        have HJL := Lib.hid hjl
        have HNX := Lib.hid hnx
        clear hnx hjl hp hca hlo hfr hno
        go_wp2_with (with_reducible refine atLoad 23 rfl ?_; refine wpList_loadE rfl rfl rfl HLO.out ?_)
        refine HCA.out.mono ?_; rintro e w1 ⟨rfl, hf1⟩
        have hf2 : Frm w.heap.size [] w w1 := HFR.out.call hf1 HFR.out.size (by simp)
        clear hf1
        have HF2 := Lib.hid hf2
        clear hf2
        go_wp2_with fail
        exact ⟨⟨j + 1, by simp, HJL.out, HNX.out, HF2.out⟩, by have := HJL.out; simp [intOf]; omega⟩
      · rw [hp] at hca
        have HNO := Lib.hid hno
        have HFR := Lib.hid hfr
        have HLO := Lib.hid hlo
        have HCA := Lib.hid hca
        have HP := Lib.hid hp
        have HJL := Lib.hid hjl
        clear hjl hp hca hlo hfr hno
        go_wp2_with (with_reducible refine atLoad 23 rfl ?_; refine wpList_loadE rfl rfl rfl HLO.out ?_)
        refine HCA.out.mono ?_; rintro e w1 ⟨rfl, hf1⟩
        have hf2 : Frm w.heap.size [] w w1 := HFR.out.call hf1 HFR.out.size (by simp)
        clear hf1
        have HF2 := Lib.hid hf2
        clear hf2
        go_wp2_with fail
        go_ret
        exact ⟨⟨_, rfl, .inr ⟨j, HJL.out, rfl, HP.out, HNO.out⟩⟩, HF2.out⟩
    · have hjl' : ¬ (j : Int) < (len : Int) := by omega
      obtain rfl : j = len := by omega
      have HNO := Lib.hid hno
      have HFR := Lib.hid hfr
      clear hfr hno
      go_wp2_with fail
      go_ret
      exact ⟨⟨_, rfl, .inl ⟨rfl, HNO.out⟩⟩, HFR.out⟩
set_option maxRecDepth 100000 in
set_option maxHeartbeats 4000000 in
/-- all[..]$1: not is. -/
theorem allcIn (g : FuncId) (caps : Array Value) (bx : Nat) (v : Value) (r : Bool) (w : World) (hb : w.cell? ⟨bx, 0, none⟩ = some (.func (.func g) #[] caps)) (hen : Enters g)
    (hg : ∀ W, Frm w.heap.size [] w W → Calls Tryd.prog g (#[v] ++ caps) W fun e w' => e = .returned (.bool r) ∧ Frm W.heap.size [] W w') :
    Calls Tryd.prog 111 #[v, .pointer (some ⟨bx, 0, none⟩)] w fun e w' => e = .returned (.bool (!r)) ∧ Frm w.heap.size [] w w' := by
  have hen' : ∀ (args : Array Value) (W : World), (callFunc g args).run Tryd.prog W = .ok (.enter g args) W := hen.out
  have h0 := hg w (Frm.refl _ _ w)
  clear hen
  have HG := Lib.hid h0
  clear h0
  go_enter Tryd.func111, Tryd.ntmps111
  go_wp2_with fail
  refine HG.out.mono ?_; rintro e w1 ⟨rfl, hf1⟩
  clear hen'
  have HF2 := Lib.hid hf1
  clear hf1
  go_wp2_with fail
  go_ret
  exact ⟨rfl, HF2.out⟩
set_option maxRecDepth 100000 in
set_option maxHeartbeats 4000000 in
theorem indexIn (g : FuncId) (caps : Array Value) (hen : Enters g) (ad : Option Addr) (b off len cap : Nat) (w : World) (had : 0 < len → ad = some ⟨b, off, none⟩) (hl : len ≤ maxLen) (ev : Nat → Value) (p : Nat → Bool)
    (hel : ∀ W, Frm w.heap.size [] w W → ∀ i, i < len → (loadVar 3 ⟨b, off + i, none⟩).run Tryd.prog W = .ok (ev i) W)
    (hg : ∀ W, Frm w.heap.size [] w W → ∀ i, i < len → Calls Tryd.prog g (#[ev i] ++ caps) W fun e w' => e = .returned (.bool (p i)) ∧ Frm W.heap.size [] W w') :
    Calls Tryd.prog 130 #[.slice ad len cap, .func (.func g) #[] caps] w fun e w' => (∃ r : Int, e = .returned (.int .i64 r) ∧ First p len r) ∧ Frm w.heap.size [] w w' := by
  have hen' : ∀ (args : Array Value) (W : World), (callFunc g args).run Tryd.prog W = .ok (.enter g args) W := hen.out
  have hl2 : (len : Int) ≤ 9223372036854775807 := by
    have : maxLen ≤ 9223372036854775807 := by decide
    omega
  have HEL := Lib.hid hel
  have HG := Lib.hid hg
  have HAD := Lib.hid had
  clear had hg hel
  clear hen hl
  go_enter Tryd.func130, Tryd.ntmps130
  go_wp2_with fail
  go_loopw [8] (fun i8 wr => ∃ j : Nat, i8 = .int .i64 j ∧ j ≤ len ∧ (∀ k, k < j → p k = false) ∧ Frm w.heap.size [] w wr) (fun i8 _ => len - (intOf i8).toNat)
  case atStart => exact ⟨0, rfl, Nat.zero_le _, fun k hk => by omega, by repeat (first | with_reducible exact Frm.refl _ _ _ | with_reducible refine Frm.drewN ?_ | with_reducible refine Frm.drew ?_ | ((with_reducible refine Frm.setCell' ?_ ?_); · first | (left; simp; done) | (right; simp; done) | (right; simp; omega)) | ((with_reducible refine Frm.alloc' ?_ ?_); · first | exact Nat.le_refl _ | (simp; done) | (simp; omega)))⟩
  case round =>
    obtain ⟨j, rfl, hj, hno, hfr⟩ := hrel
    by_cases hjl : j < len
    · have hjl' : (j : Int) < (len : Int) := by omega
      have had' := HAD.out (by omega)
      subst had'
      have hlo := HEL.out wr hfr j hjl
      have hca := HG.out wr hfr j hjl
      cases hp : p j
      · rw [hp] at hca
        have hnx : ∀ k, k < j + 1 → p k = false := fun k hk => by
          rcases Nat.lt_or_ge k j with e | e
          · exact hno k e
          · obtain rfl : k = j := by omega
            exact hp
        have HNO := Lib.hid hno
        have HFR := Lib.hid hfr
        have HLO := Lib.hid hlo
        have HCA := Lib.hid hca
        have HP := Lib.hid hp
        have HJL := Lib.hid hjl
        have HNX := Lib.hid hnx
        clear hnx hjl hp hca hlo hfr hno
        go_wp2_with (with_reducible refine atLoad 3 rfl ?_; refine wpList_loadE rfl rfl rfl HLO.out ?_)
        refine HCA.out.mono ?_; rintro e w1 ⟨rfl, hf1⟩
        have hf2 : Frm w.heap.size [] w w1 := HFR.out.call hf1 HFR.out.size (by simp)
        clear hf1
        have HF2 := Lib.hid hf2
        clear hf2
        go_wp2_with fail
        exact ⟨⟨j + 1, by simp, HJL.out, HNX.out, HF2.out⟩, by have := HJL.out; simp [intOf]; omega⟩
      · rw [hp] at hca
        have HNO := Lib.hid hno
        have HFR := Lib.hid hfr
        have HLO := Lib.hid hlo
        have HCA := Lib.hid hca
        have HP := Lib.hid hp
        have HJL := Lib.hid hjl
        clear hjl hp hca hlo hfr hno
        go_wp2_with (with_reducible refine atLoad 3 rfl ?_; refine wpList_loadE rfl rfl rfl HLO.out ?_)
        refine HCA.out.mono ?_; rintro e w1 ⟨rfl, hf1⟩
        have hf2 : Frm w.heap.size [] w w1 := HFR.out.call hf1 HFR.out.size (by simp)
        clear hf1
        have HF2 := Lib.hid hf2
        clear hf2
        go_wp2_with fail
        go_ret
        exact ⟨⟨_, rfl, .inr ⟨j, HJL.out, rfl, HP.out, HNO.out⟩⟩, HF2.out⟩
    · have hjl' : ¬ (j : Int) < (len : Int) := by omega
      obtain rfl : j = len := by omega
      have HNO := Lib.hid hno
      have HFR := Lib.hid hfr
      clear hfr hno
      go_wp2_with fail
      go_ret
      exact ⟨⟨_, rfl, .inl ⟨rfl, HNO.out⟩⟩, HFR.out⟩
end Go.Proofs.YtghkfopcjdkieaaDoor
