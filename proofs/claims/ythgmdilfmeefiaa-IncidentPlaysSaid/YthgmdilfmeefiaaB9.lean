/-
  Texts J21, J22, J23, J24 of this claim, one behind the other.
-/
import Derived.Test.YthgmdilfmeefiaaB8
namespace Go.Proofs.Ythgmdilfmeefiaa
set_option linter.all false
set_option linter.unusedSimpArgs false
set_option linter.unusedVariables false
open Go.RowKit

def entC (r : Rep) (ad : Option Addr) (cap o : Nat) : List Value := repC r ad cap ++ [.int .i64 (o : Int)]
theorem entC_len (r : Rep) (ad : Option Addr) (cap o : Nat) : (entC r ad cap o).length = 8 := rfl
/-- A proof's value: only that of a count is looked into. -/
def IsPrf (p : Prf) (v : Value) : Prop := (p.kind = 1 → v = .iface 99 (.agg #[.int .i64 p.count])) ∧ (p.kind ≠ 1 → ∃ T u, v = .iface T u ∧ T ≠ 99)
def prfC (p : Prf) (v : Value) : List Value := [.int .i64 p.rep, .int .i64 p.time, v]
def boolsC (l : List Bool) : List Value := l.map .bool
/-- Where a book lies. -/
structure Mem where
  ve : Value
  oe : Option Nat
  vo : Value
  oo : Option Nat
  vp : Value
  op : Option Nat
  wb : Nat → Nat
  wo : Nat → Nat
  wc : Nat → Nat
  pv : Nat → Value
def Mem.ad (m : Mem) (i : Nat) : Option Addr := some ⟨m.wb i, m.wo i, none⟩
def entAt (s : BS) (m : Mem) (i : Nat) : List Value := entC (s.rp i) (m.ad i) (m.wc i) (s.o i)
def prfAt (s : BS) (m : Mem) (i : Nat) : List Value := prfC (s.pf i) (m.pv i)
def bookC (s : BS) (m : Mem) : List Value := [.int .i64 s.window, .int .i64 s.drift, .bool true, m.ve, m.vo, m.vp]
/-- The blocks that are the book's own. -/
def Mem.own (k : Nat) (s : BS) (m : Mem) : List Nat := k :: (m.oe.toList ++ (m.oo.toList ++ (m.op.toList ++ (List.range s.reps.length).map m.wb)))
structure BookAt (w : World) (k : Nat) (s : BS) (m : Mem) : Prop where
  blk : Blk w k 64 (bookC s m)
  ents : Sl w 81 8 m.ve s.reps.length ((List.range s.reps.length).flatMap (entAt s m)) m.oe
  opn : Sl w 4 1 m.vo s.opn.length (boolsC s.opn) m.oo
  prf : Sl w 102 3 m.vp s.prf.length ((List.range s.prf.length).flatMap (prfAt s m)) m.op
  wh : ∀ i, i < s.reps.length → RwP w (m.ad i) (m.wb i) (m.wo i) (s.rp i).wh.length (s.rp i).wh
  pv : ∀ i, i < s.prf.length → IsPrf (s.pf i) (m.pv i)
  inv : BInv s
  ke : m.oe ≠ some k ∧ m.oo ≠ some k ∧ m.op ≠ some k
  eo : ∀ b, m.oe = some b → m.oo ≠ some b ∧ m.op ≠ some b
  oq : ∀ b, m.oo = some b → m.op ≠ some b
  wk : ∀ i, i < s.reps.length → m.wb i ≠ k ∧ m.oe ≠ some (m.wb i) ∧ m.oo ≠ some (m.wb i) ∧ m.op ≠ some (m.wb i)
theorem own_iff {k : Nat} {s : BS} {m : Mem} {b : Nat} : b ∈ m.own k s ↔ b = k ∨ m.oe = some b ∨ m.oo = some b ∨ m.op = some b ∨ ∃ i, i < s.reps.length ∧ m.wb i = b := by
  unfold Mem.own
  simp only [List.mem_cons, List.mem_append, Option.mem_toList, List.mem_map, List.mem_range]
theorem BInv.rok {s : BS} (h : BInv s) {i : Nat} (hi : i < s.reps.length) : repB (s.rp i) = true := by
  unfold BS.rp
  rw [List.getD_eq_getElem?_getD, List.getElem?_eq_getElem hi]
  exact h.ok _ (List.getElem_mem hi)
theorem BookAt.rok {w : World} {k : Nat} {s : BS} {m : Mem} (h : BookAt w k s m) {i : Nat} (hi : i < s.reps.length) : repB (s.rp i) = true := h.inv.rok hi
theorem BookAt.wlt {w : World} {k : Nat} {s : BS} {m : Mem} (h : BookAt w k s m) {i : Nat} (hi : i < s.reps.length) : m.wb i < w.heap.size := by
  have h1 := (rep_ok (h.rok hi)).2.1
  have := cell_lt ((h.wh i hi).at_ 0 (by omega) 0 _ rfl)
  exact this
theorem BookAt.own_lt {w : World} {k : Nat} {s : BS} {m : Mem} (h : BookAt w k s m) : ∀ b ∈ m.own k s, b < w.heap.size := by
  intro b hb
  rcases own_iff.1 hb with rfl | e | e | e | ⟨i, hi, rfl⟩
  · exact h.blk.lt
  · exact h.ents.lt b e
  · exact h.opn.lt b e
  · exact h.prf.lt b e
  · exact h.wlt hi
/-- What turns none of the book's own blocks leaves the book. -/
theorem BookAt.frm {w w' : World} {k : Nat} {s : BS} {m : Mem} {S : List Nat} (h : BookAt w k s m) (hf : Frm w.heap.size S w w') (hS : ∀ b ∈ m.own k s, b ∉ S) : BookAt w' k s m where
  blk := hf.blk h.blk h.blk.lt (hS k (own_iff.2 (.inl rfl)))
  ents := h.ents.frm hf h.ents.lt (fun b hb => hS b (own_iff.2 (.inr (.inl hb))))
  opn := h.opn.frm hf h.opn.lt (fun b hb => hS b (own_iff.2 (.inr (.inr (.inl hb)))))
  prf := h.prf.frm hf h.prf.lt (fun b hb => hS b (own_iff.2 (.inr (.inr (.inr (.inl hb))))))
  wh := fun i hi => (h.wh i hi).frmS hf (hS _ (own_iff.2 (.inr (.inr (.inr (.inr ⟨i, hi, rfl⟩))))))
  pv := h.pv
  inv := h.inv
  ke := h.ke
  eo := h.eo
  oq := h.oq
  wk := h.wk
theorem BookAt.still {w w' : World} {k : Nat} {s : BS} {m : Mem} (h : BookAt w k s m) (hf : Frm w.heap.size [] w w') : BookAt w' k s m := h.frm hf (by simp)
theorem info81 : (Try.prog.info? 81).map (fun i => i.size) = some 8 := by kernel_rfl
theorem info102 : (Try.prog.info? 102).map (fun i => i.size) = some 3 := by kernel_rfl
theorem info64 : (Try.prog.info? 64).map (fun i => i.size) = some 6 := by kernel_rfl
theorem info81z : (Try.prog.info? 81).map (fun i => (i.zero, i.size, i.bytes)) = some (some (.agg #[.int .i64 0, .int .i64 0, .string ⟨#[]⟩, .string ⟨#[]⟩, .slice none 0 0, .int .i64 0, .int .i64 0, .int .i64 0]), 8, 96) := by kernel_rfl
theorem info102z : (Try.prog.info? 102).map (fun i => (i.zero, i.size, i.bytes)) = some (some (.agg #[.int .i64 0, .int .i64 0, .nilIface]), 3, 32) := by kernel_rfl
theorem info4z : (Try.prog.info? 4).map (fun i => (i.zero, i.size, i.bytes)) = some (some (.bool false), 1, 1) := by kernel_rfl
/-- The entries, to be read. -/
theorem BookAt.rwE {w : World} {k : Nat} {s : BS} {m : Mem} (h : BookAt w k s m) : ∃ ad b off cap, m.ve = .slice ad s.reps.length cap ∧ Rw w 8 ad b off s.reps.length (entAt s m) := h.ents.rw (fun i => rfl)
theorem BookAt.rwP {w : World} {k : Nat} {s : BS} {m : Mem} (h : BookAt w k s m) : ∃ ad b off cap, m.vp = .slice ad s.prf.length cap ∧ Rw w 3 ad b off s.prf.length (prfAt s m) := h.prf.rw (fun i => rfl)
/-- The beginning of a row. -/
theorem Rw.loadPart {w : World} {size : Nat} {ad : Option Addr} {b off n : Nat} {f : Nat → List Value} (h : Rw w size ad b off n f) {P : Program} {ty : TypeId} {d : TypeDesc} (hu : P.underlying ty = some d) (hd : d.isRow = true)
    {i : Nat} (hi : i < n) (cs : List Value) (hcs : ∀ (k : Nat) (v : Value), cs[k]? = some v → (f i)[k]? = some v) (hk : (P.info? ty).map (·.size) = some cs.length) : (loadVar ty ⟨b, off + i * size, none⟩).run P w = .ok (.agg cs.toArray) w :=
  run_loadVar_mid w b (off + i * size) ty cs d (fun j v hv => by exact h.at_ i hi j v (hcs j v hv)) hu hd hk
theorem Blk.loadPart {w : World} {b T : Nat} {bs : List Value} (h : Blk w b T bs) {P : Program} {ty : TypeId} {d : TypeDesc} (hu : P.underlying ty = some d) (hd : d.isRow = true)
    (cs : List Value) (hcs : ∀ (k : Nat) (v : Value), cs[k]? = some v → bs[k]? = some v) (hk : (P.info? ty).map (·.size) = some cs.length) : (loadVar ty ⟨b, 0, none⟩).run P w = .ok (.agg cs.toArray) w :=
  run_loadVar_mid w b 0 ty cs d (fun j v hv => by rw [Nat.zero_add, h.cell j]; exact hcs j v hv) hu hd hk
set_option maxRecDepth 100000 in
set_option maxHeartbeats 4000000 in
theorem indexE_any (g : FuncId) (caps : Array Value) (hen : Enters g) (ad : Option Addr) (b off len cap : Nat) (f : Nat → List Value) (hfl : ∀ i, (f i).length = 8) (w : World) (hr : Rw w 8 ad b off len f) (p : Nat → Bool)
    (hg : ∀ W, Frm w.heap.size [] w W → ∀ i, i < len → Calls Try.prog g (#[.agg (f i).toArray] ++ caps) W fun e w' => e = .returned (.bool (p i)) ∧ Frm W.heap.size [] W w') :
    Calls Try.prog 101 #[.slice ad len cap, .func (.func g) #[] caps] w fun e w' => (∃ r : Int, e = .returned (.int .i64 r) ∧ First p len r) ∧ Frm w.heap.size [] w w' := by
  have hen' : ∀ (args : Array Value) (W : World), (callFunc g args).run Try.prog W = .ok (.enter g args) W := hen.out
  have hl2 : (len : Int) ≤ 9223372036854775807 := by
    have : maxLen ≤ 9223372036854775807 := by decide
    have := hr.len
    omega
  have HR := Lib.hid hr
  have HG := Lib.hid hg
  have HFL := Lib.hid hfl
  clear hfl hg hr
  clear hen
  go_enter Try.func101, Try.ntmps101
  go_wp2_with fail
  go_loopw [8] (fun i8 wr => ∃ j : Nat, i8 = .int .i64 j ∧ j ≤ len ∧ (∀ k, k < j → p k = false) ∧ Frm w.heap.size [] w wr) (fun i8 _ => len - (intOf i8).toNat)
  case atStart => exact ⟨0, rfl, Nat.zero_le _, fun k hk => by omega, by repeat (first | with_reducible exact Frm.refl _ _ _ | with_reducible refine Frm.drewN ?_ | with_reducible refine Frm.drew ?_ | ((with_reducible refine Frm.setCell' ?_ ?_); · first | (left; simp; done) | (right; simp; done) | (right; simp; omega)) | ((with_reducible refine Frm.alloc' ?_ ?_); · first | exact Nat.le_refl _ | (simp; done) | (simp; omega)))⟩
  case round =>
    obtain ⟨j, rfl, hj, hno, hfr⟩ := hrel
    by_cases hjl : j < len
    · have hjl' : (j : Int) < (len : Int) := by omega
      have had' := HR.out.ad (by omega)
      subst had'
      obtain ⟨x, hx⟩ : ∃ x, x = f j := ⟨_, rfl⟩
      have hlo : (loadVar 81 ⟨b, off + j * 8, none⟩).run Try.prog wr = .ok (.agg x.toArray) wr := by rw [hx]; exact (HR.out.frm hfr (Nat.le_refl _)).load (P := Try.prog) Try.underlying81 rfl hjl (by rw [HFL.out]; exact info81)
      have HLO := Lib.hid hlo; clear hlo
      have hca := HG.out wr hfr j hjl
      rw [← hx] at hca
      cases hp : p j
      · rw [hp] at hca
        have hnx : ∀ k, k < j + 1 → p k = false := fun k hk => by
          rcases Nat.lt_or_ge k j with e | e
          · exact hno k e
          · obtain rfl : k = j := by omega
            exact hp
        have HNO := Lib.hid hno
        have HFR := Lib.hid hfr
        have HCA := Lib.hid hca
        have HP := Lib.hid hp
        have HJL := Lib.hid hjl
        have HNX := Lib.hid hnx
        have HX := Lib.hid hx
        clear hx hnx hjl hp hca hfr hno
        go_wp2_with (with_reducible refine atLoad 81 rfl ?_; refine wpList_loadE rfl rfl rfl HLO.out ?_)
        refine HCA.out.mono ?_; rintro e w1 ⟨rfl, hf1⟩
        have hf2 : Frm w.heap.size [] w w1 := HFR.out.call hf1 HFR.out.size (by simp)
        clear hf1
        have HF2 := Lib.hid hf2
        clear hf2
        go_wp2_with fail
        exact ⟨⟨j + 1, by simp, HJL.out, HNX.out, HF2.out⟩, by have := HJL.out; simp [intOf]; omega⟩
      · rw [hp] at hca
        have HNO := Lib.hid hno
        have HFR := Lib.hid hfr
        have HCA := Lib.hid hca
        have HP := Lib.hid hp
        have HJL := Lib.hid hjl
        have HX := Lib.hid hx
        clear hx hjl hp hca hfr hno
        go_wp2_with (with_reducible refine atLoad 81 rfl ?_; refine wpList_loadE rfl rfl rfl HLO.out ?_)
        refine HCA.out.mono ?_; rintro e w1 ⟨rfl, hf1⟩
        have hf2 : Frm w.heap.size [] w w1 := HFR.out.call hf1 HFR.out.size (by simp)
        clear hf1
        have HF2 := Lib.hid hf2
        clear hf2
        go_wp2_with fail
        go_ret
        exact ⟨⟨_, rfl, .inr ⟨j, HJL.out, rfl, HP.out, HNO.out⟩⟩, HF2.out⟩
    · have hjl' : ¬ (j : Int) < (len : Int) := by omega
      obtain rfl : j = len := by omega
      have HNO := Lib.hid hno
      have HFR := Lib.hid hfr
      clear hfr hno
      go_wp2_with fail
      go_ret
      exact ⟨⟨_, rfl, .inl ⟨rfl, HNO.out⟩⟩, HFR.out⟩
set_option maxRecDepth 100000 in
set_option maxHeartbeats 4000000 in
theorem contE_any (g : FuncId) (caps : Array Value) (hen : Enters g) (ad : Option Addr) (b off len cap : Nat) (f : Nat → List Value) (hfl : ∀ i, (f i).length = 8) (w : World) (hr : Rw w 8 ad b off len f) (p : Nat → Bool)
    (hg : ∀ W, Frm w.heap.size [] w W → ∀ i, i < len → Calls Try.prog g (#[.agg (f i).toArray] ++ caps) W fun e w' => e = .returned (.bool (p i)) ∧ Frm W.heap.size [] W w') :
    Calls Try.prog 92 #[.slice ad len cap, .func (.func g) #[] caps] w fun e w' => (∃ r : Int, e = .returned (.bool (decide (0 ≤ r))) ∧ First p len r) ∧ Frm w.heap.size [] w w' := by
  have hin := indexE_any g caps hen ad b off len cap f hfl w hr p hg
  have HIN := Lib.hid hin
  clear hin
  clear hr hg hen hfl
  go_enter Try.func92, Try.ntmps92
  go_wp2_with fail
  refine HIN.out.mono ?_; rintro e w1 ⟨⟨r, rfl, hr⟩, hf1⟩
  by_cases h0 : 0 ≤ r
  · have HR := Lib.hid hr
    have HF1 := Lib.hid hf1
    clear hf1 hr
    go_wp2_with fail
    go_ret
    exact ⟨⟨r, by first | rfl | (rw [decide_eq_true h0]; rfl), HR.out⟩, HF1.out⟩
  · have HR := Lib.hid hr
    have HF1 := Lib.hid hf1
    clear hf1 hr
    go_wp2_with fail
    go_ret
    exact ⟨⟨r, rfl, HR.out⟩, HF1.out⟩

set_option maxRecDepth 100000 in
set_option maxHeartbeats 4000000 in
theorem indexQ_any (g : FuncId) (caps : Array Value) (hen : Enters g) (ad : Option Addr) (b off len cap : Nat) (f : Nat → List Value) (hfl : ∀ i, (f i).length = 3) (w : World) (hr : Rw w 3 ad b off len f) (p : Nat → Bool)
    (hg : ∀ W, Frm w.heap.size [] w W → ∀ i, i < len → Calls Try.prog g (#[.agg (f i).toArray] ++ caps) W fun e w' => e = .returned (.bool (p i)) ∧ Frm W.heap.size [] W w') :
    Calls Try.prog 102 #[.slice ad len cap, .func (.func g) #[] caps] w fun e w' => (∃ r : Int, e = .returned (.int .i64 r) ∧ First p len r) ∧ Frm w.heap.size [] w w' := by
  have hen' : ∀ (args : Array Value) (W : World), (callFunc g args).run Try.prog W = .ok (.enter g args) W := hen.out
  have hl2 : (len : Int) ≤ 9223372036854775807 := by
    have : maxLen ≤ 9223372036854775807 := by decide
    have := hr.len
    omega
  have HR := Lib.hid hr
  have HG := Lib.hid hg
  have HFL := Lib.hid hfl
  clear hfl hg hr
  clear hen
  go_enter Try.func102, Try.ntmps102
  go_wp2_with fail
  go_loopw [8] (fun i8 wr => ∃ j : Nat, i8 = .int .i64 j ∧ j ≤ len ∧ (∀ k, k < j → p k = false) ∧ Frm w.heap.size [] w wr) (fun i8 _ => len - (intOf i8).toNat)
  case atStart => exact ⟨0, rfl, Nat.zero_le _, fun k hk => by omega, by repeat (first | with_reducible exact Frm.refl _ _ _ | with_reducible refine Frm.drewN ?_ | with_reducible refine Frm.drew ?_ | ((with_reducible refine Frm.setCell' ?_ ?_); · first | (left; simp; done) | (right; simp; done) | (right; simp; omega)) | ((with_reducible refine Frm.alloc' ?_ ?_); · first | exact Nat.le_refl _ | (simp; done) | (simp; omega)))⟩
  case round =>
    obtain ⟨j, rfl, hj, hno, hfr⟩ := hrel
    by_cases hjl : j < len
    · have hjl' : (j : Int) < (len : Int) := by omega
      have had' := HR.out.ad (by omega)
      subst had'
      obtain ⟨x, hx⟩ : ∃ x, x = f j := ⟨_, rfl⟩
      have hlo : (loadVar 102 ⟨b, off + j * 3, none⟩).run Try.prog wr = .ok (.agg x.toArray) wr := by rw [hx]; exact (HR.out.frm hfr (Nat.le_refl _)).load (P := Try.prog) Try.underlying102 rfl hjl (by rw [HFL.out]; exact info102)
      have HLO := Lib.hid hlo; clear hlo
      have hca := HG.out wr hfr j hjl
      rw [← hx] at hca
      cases hp : p j
      · rw [hp] at hca
        have hnx : ∀ k, k < j + 1 → p k = false := fun k hk => by
          rcases Nat.lt_or_ge k j with e | e
          · exact hno k e
          · obtain rfl : k = j := by omega
            exact hp
        have HNO := Lib.hid hno
        have HFR := Lib.hid hfr
        have HCA := Lib.hid hca
        have HP := Lib.hid hp
        have HJL := Lib.hid hjl
        have HNX := Lib.hid hnx
        have HX := Lib.hid hx
        clear hx hnx hjl hp hca hfr hno
        go_wp2_with (with_reducible refine atLoad 102 rfl ?_; refine wpList_loadE rfl rfl rfl HLO.out ?_)
        refine HCA.out.mono ?_; rintro e w1 ⟨rfl, hf1⟩
        have hf2 : Frm w.heap.size [] w w1 := HFR.out.call hf1 HFR.out.size (by simp)
        clear hf1
        have HF2 := Lib.hid hf2
        clear hf2
        go_wp2_with fail
        exact ⟨⟨j + 1, by simp, HJL.out, HNX.out, HF2.out⟩, by have := HJL.out; simp [intOf]; omega⟩
      · rw [hp] at hca
        have HNO := Lib.hid hno
        have HFR := Lib.hid hfr
        have HCA := Lib.hid hca
        have HP := Lib.hid hp
        have HJL := Lib.hid hjl
        have HX := Lib.hid hx
        clear hx hjl hp hca hfr hno
        go_wp2_with (with_reducible refine atLoad 102 rfl ?_; refine wpList_loadE rfl rfl rfl HLO.out ?_)
        refine HCA.out.mono ?_; rintro e w1 ⟨rfl, hf1⟩
        have hf2 : Frm w.heap.size [] w w1 := HFR.out.call hf1 HFR.out.size (by simp)
        clear hf1
        have HF2 := Lib.hid hf2
        clear hf2
        go_wp2_with fail
        go_ret
        exact ⟨⟨_, rfl, .inr ⟨j, HJL.out, rfl, HP.out, HNO.out⟩⟩, HF2.out⟩
    · have hjl' : ¬ (j : Int) < (len : Int) := by omega
      obtain rfl : j = len := by omega
      have HNO := Lib.hid hno
      have HFR := Lib.hid hfr
      clear hfr hno
      go_wp2_with fail
      go_ret
      exact ⟨⟨_, rfl, .inl ⟨rfl, HNO.out⟩⟩, HFR.out⟩
set_option maxRecDepth 100000 in
set_option maxHeartbeats 4000000 in
theorem contQ_any (g : FuncId) (caps : Array Value) (hen : Enters g) (ad : Option Addr) (b off len cap : Nat) (f : Nat → List Value) (hfl : ∀ i, (f i).length = 3) (w : World) (hr : Rw w 3 ad b off len f) (p : Nat → Bool)
    (hg : ∀ W, Frm w.heap.size [] w W → ∀ i, i < len → Calls Try.prog g (#[.agg (f i).toArray] ++ caps) W fun e w' => e = .returned (.bool (p i)) ∧ Frm W.heap.size [] W w') :
    Calls Try.prog 94 #[.slice ad len cap, .func (.func g) #[] caps] w fun e w' => (∃ r : Int, e = .returned (.bool (decide (0 ≤ r))) ∧ First p len r) ∧ Frm w.heap.size [] w w' := by
  have hin := indexQ_any g caps hen ad b off len cap f hfl w hr p hg
  have HIN := Lib.hid hin
  clear hin
  clear hr hg hen hfl
  go_enter Try.func94, Try.ntmps94
  go_wp2_with fail
  refine HIN.out.mono ?_; rintro e w1 ⟨⟨r, rfl, hr⟩, hf1⟩
  by_cases h0 : 0 ≤ r
  · have HR := Lib.hid hr
    have HF1 := Lib.hid hf1
    clear hf1 hr
    go_wp2_with fail
    go_ret
    exact ⟨⟨r, by first | rfl | (rw [decide_eq_true h0]; rfl), HR.out⟩, HF1.out⟩
  · have HR := Lib.hid hr
    have HF1 := Lib.hid hf1
    clear hf1 hr
    go_wp2_with fail
    go_ret
    exact ⟨⟨r, rfl, HR.out⟩, HF1.out⟩

/-- Is a book one? -/
theorem is_none (w : World) : Calls Try.prog 35 #[.pointer none] w fun e w' => e = .returned (.bool false) ∧ w = w' := by
  go_enter Try.func35, Try.ntmps35
  go_wp2_with fail
  go_ret
  exact ⟨rfl, rfl⟩
theorem is_made (w : World) (k : Nat) (b : Bool) (h : w.cell? ⟨k, 2, none⟩ = some (.bool b)) : Calls Try.prog 35 #[.pointer (some ⟨k, 0, none⟩)] w fun e w' => e = .returned (.bool b) ∧ w = w' := by
  go_enter Try.func35, Try.ntmps35
  go_wp2_with fail
  go_ret
  exact ⟨rfl, rfl⟩
theorem Sl.val {w : World} {E size : Nat} {v : Value} {n : Nat} {cs : List Value} {own : Option Nat} (h : Sl w E size v n cs own) : ∃ a cap, v = .slice a n cap := h.form
theorem exists_any {w : World} {k : Nat} {s : BS} {m : Mem} (h : BookAt w k s m) (i : Int) : Calls Try.prog 36 #[.pointer (some ⟨k, 0, none⟩), .int .i64 i] w fun e w' => e = .returned (.bool (thereB s i)) ∧ w = w' := by
  obtain ⟨a, cap, hv⟩ := h.opn.form
  have c4 : w.cell? ⟨k, 4, none⟩ = some (.slice a s.opn.length cap) := by rw [← hv]; exact h.blk.cell 4
  obtain ⟨n, hn⟩ : ∃ n, n = s.opn.length := ⟨_, rfl⟩
  have hm : n ≤ 500 := by have := h.inv.opn; have := h.inv.max; omega
  have ht : thereB s i = inB i 0 ((n : Int) - 1) := by rw [hn]; rfl
  rw [← hn] at c4
  rw [ht]
  clear ht hn hv h
  have e1 : IntKind.i64.wrap ((n : Int) - 1) = (n : Int) - 1 := IntWalk.i64_in _ (by omega)
  have e2 : wrap64 ((n : Int) - 1) = (n : Int) - 1 := IntWalk.wrap64_in _ (by omega)
  have HM := Lib.hid hm
  clear hm
  go_enter Try.func36, Try.ntmps36
  go_wp2_with fail
  (try simp only [e1, e2])
  refine (withinI_any _ _ _ _).mono ?_; rintro e w' ⟨rfl, rfl⟩
  go_wp2_with fail
  go_ret
  exact ⟨rfl, rfl⟩
end Go.Proofs.Ythgmdilfmeefiaa

namespace Go.Proofs.Ythgmdilfmeefiaa
set_option linter.all false
set_option linter.unusedSimpArgs false
set_option linter.unusedVariables false
open Go.RowKit

theorem ent_part {r : Rep} {ad : Option Addr} {cap o : Nat} (k : Nat) (v : Value) (h : (repC r ad cap)[k]? = some v) : (entC r ad cap o)[k]? = some v := by
  unfold entC
  rw [List.getElem?_append_left (List.getElem?_eq_some_iff.1 h).1]
  exact h
set_option maxRecDepth 100000 in
set_option maxHeartbeats 8000000 in
theorem hasF_any {w : World} {k : Nat} {s : BS} {m : Mem} (h : BookAt w k s m) (i is : Int) (r : Rep) (ad : Option Addr) (b o cap : Nat) (hok : repB r = true) (hr : RwP w ad b o r.wh.length r.wh) (pi pk pr ps : Nat)
    (ki : w.cell? ⟨pi, 0, none⟩ = some (.int .i64 i)) (kk : w.cell? ⟨pk, 0, none⟩ = some (.pointer (some ⟨k, 0, none⟩))) (kr : Blk w pr 24 (repC r ad cap)) (ks : w.cell? ⟨ps, 0, none⟩ = some (.int .i64 is)) (j : Nat) (hj : j < s.reps.length) :
    Calls Try.prog 93 #[.agg (entAt s m j).toArray, .pointer (some ⟨pi, 0, none⟩), .pointer (some ⟨pk, 0, none⟩), .pointer (some ⟨pr, 0, none⟩), .pointer (some ⟨ps, 0, none⟩)] w fun e w' => e = .returned (.bool (decide ((s.o j : Int) = i) && decide (cmpZ s.window s.drift (s.rp j) r = is))) ∧ Frm w.heap.size [] w w' := by
  have hf0 := Try.func93
  have x1 := rep_ok (h.rok hj)
  have x2 := rep_ok hok
  have hcm : ∀ V, Frm w.heap.size [] w V → Calls Try.prog 31 #[.agg #[.int .i64 s.window, .int .i64 s.drift], .agg (repC (s.rp j) (m.ad j) (m.wc j)).toArray, .agg (repC r ad cap).toArray] V fun e w' => e = .returned (.int .i64 (cmpZ s.window s.drift (s.rp j) r)) ∧ Frm V.heap.size [] V w' := fun V hV =>
    cmp_any s.window s.drift (s.rp j) r (m.ad j) ad (m.wc j) cap V (rules_ok h.inv.rules) x1.1 x2.1 x1.2.1 x2.2.1 x1.2.2 x2.2.2 (m.wb j) (m.wo j) b o ((h.wh j hj).frm hV (Nat.le_refl _)) (hr.frm hV (Nat.le_refl _))
  have hbk := h.blk
  have hl60 : ∀ V, Frm w.heap.size [] w V → (loadVar 60 ⟨k, 0, none⟩).run Try.prog V = .ok (.agg #[.int .i64 s.window, .int .i64 s.drift]) V := fun V hV =>
    (hV.blk hbk hbk.lt (by simp)).loadPart (P := Try.prog) Try.underlying60 rfl [.int .i64 s.window, .int .i64 s.drift] (fun q v hq => by
      have : q < 2 := (List.getElem?_eq_some_iff.1 hq).1
      match q, this, hq with
      | 0, _, hq => exact hq
      | 1, _, hq => exact hq) info60
  obtain ⟨E, hE⟩ : ∃ E, E = entAt s m j := ⟨_, rfl⟩
  have he7 : E[7]? = some (.int .i64 (s.o j : Int)) := by rw [hE]; rfl
  have hep : ∀ (q : Nat) (v : Value), (repC (s.rp j) (m.ad j) (m.wc j))[q]? = some v → E[q]? = some v := by rw [hE]; exact ent_part
  obtain ⟨R1, hR1⟩ : ∃ E, E = repC (s.rp j) (m.ad j) (m.wc j) := ⟨_, rfl⟩
  have hz1 : R1.length = 7 := by rw [hR1]; rfl
  obtain ⟨R2, hR2⟩ : ∃ E, E = repC r ad cap := ⟨_, rfl⟩
  have hz2 : R2.length = 7 := by rw [hR2]; rfl
  obtain ⟨c, hc⟩ : ∃ c, c = cmpZ s.window s.drift (s.rp j) r := ⟨_, rfl⟩
  obtain ⟨wd, hwd⟩ : ∃ c, c = s.window := ⟨_, rfl⟩
  obtain ⟨dr, hdr⟩ : ∃ c, c = s.drift := ⟨_, rfl⟩
  obtain ⟨oj, hoj⟩ : ∃ c, c = (s.o j : Int) := ⟨_, rfl⟩
  rw [← hc, ← hR1, ← hR2, ← hwd, ← hdr] at hcm
  rw [← hwd, ← hdr] at hl60
  rw [← hR1] at hep
  rw [← hR2] at kr
  rw [← hoj] at he7
  rw [← hE, ← hoj, ← hc]
  have hki := cell_lt ki
  have hkk := cell_lt kk
  have hks := cell_lt ks
  clear hc hR1 hR2 hwd hdr hoj hE x1 x2 h hok hr hj hbk
  have HCM := Lib.hid hcm
  have HL60 := Lib.hid hl60
  have HE7 := Lib.hid he7
  have HEP := Lib.hid hep
  have HZ1 := Lib.hid hz1
  have HZ2 := Lib.hid hz2
  clear hz2 hz1 hep he7 hl60 hcm
  go_enter Try.func93, Try.ntmps93
  go_upto_region 1 with fail
  refine namedC ?_; intro W hW
  have k0 : Blk W w.heap.size 81 E := by rw [hW]; exact Blk.new w 81 E
  have hf : Frm w.heap.size [] w W := by rw [hW]; repeat (first | with_reducible exact Frm.refl _ _ _ | with_reducible refine Frm.drewN ?_ | with_reducible refine Frm.drew ?_ | ((with_reducible refine Frm.setCell' ?_ ?_); · first | (left; simp; done) | (right; simp; done) | (right; simp; omega)) | ((with_reducible refine Frm.alloc' ?_ ?_); · first | exact Nat.le_refl _ | (simp; done) | (simp; omega)))
  clear hW hf0
  have hfx : ∀ V, Frm W.heap.size [] W V → V.cell? ⟨w.heap.size, 7, none⟩ = some (.int .i64 oj) ∧ V.cell? ⟨pi, 0, none⟩ = some (.int .i64 i) ∧ V.cell? ⟨pk, 0, none⟩ = some (.pointer (some ⟨k, 0, none⟩)) ∧ V.cell? ⟨ps, 0, none⟩ = some (.int .i64 is) := fun V hV => by
    have hV2 := hf.call hV hf.size (by simp)
    exact ⟨((hV.blk k0 k0.lt (by simp)).cell 7).trans HE7.out, (hV2.cell hki (by simp)).trans ki, (hV2.cell hkk (by simp)).trans kk, (hV2.cell hks (by simp)).trans ks⟩
  have h60 : ∀ V, Frm W.heap.size [] W V → (loadVar 60 ⟨k, 0, none⟩).run Try.prog V = .ok (.agg #[.int .i64 wd, .int .i64 dr]) V := fun V hV => HL60.out V (hf.call hV hf.size (by simp))
  have h24a : ∀ V, Frm W.heap.size [] W V → (loadVar 24 ⟨w.heap.size, 0, none⟩).run Try.prog V = .ok (.agg R1.toArray) V := fun V hV => (hV.blk k0 k0.lt (by simp)).loadPart (P := Try.prog) Try.underlying24 rfl R1 HEP.out (by rw [HZ1.out]; exact info24)
  have h24b : ∀ V, Frm W.heap.size [] W V → (loadVar 24 ⟨pr, 0, none⟩).run Try.prog V = .ok (.agg R2.toArray) V := fun V hV => load24 ((hf.call hV hf.size (by simp)).blk kr kr.lt (by simp)) HZ2.out
  clear ki kk kr ks k0 hki hkk hks HL60 HE7 HEP
  by_cases e : oj = i
  · subst e
    have HF := Lib.hid hf
    have HFX := Lib.hid hfx
    have H60 := Lib.hid h60
    have H24A := Lib.hid h24a
    have H24B := Lib.hid h24b
    clear h24b h24a h60 hfx hf
    refine wp_region_leftL (fun V => Frm W.heap.size [] W V) 1000 (by kernel_rfl) ?_
    have hS : Frm W.heap.size [] W W.drew := (Frm.refl _ _ W).drew
    have HS := Lib.hid hS
    clear hS
    first | (refine LeftL.tkG (v := ?_) 0 rfl HS.out ?_ ?_; rotate_left; · intro V hV; obtain ⟨z1, z2, z3, z4⟩ := HFX.out V hV; clear hV; go_simp; rfl) | refine LeftL.tkN 0 rfl HS.out ?_
    (intro K h; go_simp; refine h _ ?_; clear h K)
    first | (refine LeftL.tkG (v := ?_) 1 rfl HS.out ?_ ?_; rotate_left; · intro V hV; obtain ⟨z1, z2, z3, z4⟩ := HFX.out V hV; clear hV; go_simp; rfl) | refine LeftL.tkN 1 rfl HS.out ?_
    (intro K h; go_simp; refine h _ ?_; clear h K)
    first | (refine LeftL.tkG (v := ?_) 2 rfl HS.out ?_ ?_; rotate_left; · intro V hV; obtain ⟨z1, z2, z3, z4⟩ := HFX.out V hV; clear hV; go_simp; rfl) | refine LeftL.tkN 2 rfl HS.out ?_
    (intro K h; go_simp; refine h _ ?_; clear h K)
    first | (refine LeftL.tkG (v := ?_) 3 rfl HS.out ?_ ?_; rotate_left; · intro V hV; obtain ⟨z1, z2, z3, z4⟩ := HFX.out V hV; clear hV; go_simp; rfl) | refine LeftL.tkN 3 rfl HS.out ?_
    (intro K h; go_simp; refine h _ ?_; clear h K)
    first | (refine LeftL.tkG (v := ?_) 4 rfl HS.out ?_ ?_; rotate_left; · intro V hV; obtain ⟨z1, z2, z3, z4⟩ := HFX.out V hV; clear hV; go_simp; rfl) | refine LeftL.tkN 4 rfl HS.out ?_
    (intro K h; go_simp; refine h _ ?_; clear h K)
    first | (refine LeftL.tkG (v := ?_) 5 rfl HS.out ?_ ?_; rotate_left; · intro V hV; obtain ⟨z1, z2, z3, z4⟩ := HFX.out V hV; clear hV; go_simp; rfl) | refine LeftL.tkN 5 rfl HS.out ?_
    (intro K h; go_simp; refine h _ ?_; clear h K)
    first | (refine LeftL.tkG (v := ?_) 6 rfl HS.out ?_ ?_; rotate_left; · intro V hV; obtain ⟨z1, z2, z3, z4⟩ := HFX.out V hV; clear hV; go_simp; rfl) | refine LeftL.tkN 6 rfl HS.out ?_
    (intro K h; go_simp; refine h _ ?_; clear h K)
    first | (refine LeftL.tkG (v := ?_) 7 rfl HS.out ?_ ?_; rotate_left; · intro V hV; obtain ⟨z1, z2, z3, z4⟩ := HFX.out V hV; clear hV; go_simp; rfl) | refine LeftL.tkN 7 rfl HS.out ?_
    (intro K h; go_simp; refine h _ ?_; clear h K)
    refine LeftL.take 8 rfl (by kernel_rfl) (fun _ _ d _ _ h => by cases d <;> exact h) (yields_loadG (ty := 60) rfl rfl rfl (H60.out)) HS.out ?_; (intro K' hK'; go_simp; refine hK' _ ?_; clear hK' K')
    first | (refine LeftL.tkG (v := ?_) 9 rfl HS.out ?_ ?_; rotate_left; · intro V hV; obtain ⟨z1, z2, z3, z4⟩ := HFX.out V hV; clear hV; go_simp; rfl) | refine LeftL.tkN 9 rfl HS.out ?_
    (intro K h; go_simp; refine h _ ?_; clear h K)
    refine LeftL.take 10 rfl (by kernel_rfl) (fun _ _ d _ _ h => by cases d <;> exact h) (yields_loadG (ty := 24) rfl rfl rfl (H24A.out)) HS.out ?_; (intro K' hK'; go_simp; refine hK' _ ?_; clear hK' K')
    refine LeftL.take 11 rfl (by kernel_rfl) (fun _ _ d _ _ h => by cases d <;> exact h) (yields_loadG (ty := 24) rfl rfl rfl (H24B.out)) HS.out ?_; (intro K' hK'; go_simp; refine hK' _ ?_; clear hK' K')
    first | (refine LeftL.tkG (v := ?_) 13 rfl HS.out ?_ ?_; rotate_left; · intro V hV; obtain ⟨z1, z2, z3, z4⟩ := HFX.out V hV; clear hV; go_simp; rfl) | refine LeftL.tkN 13 rfl HS.out ?_
    (intro K h; go_simp; refine h _ ?_; clear h K)
    refine LeftL.one 12 rfl (by kernel_rfl) ?_
    go_wp2_with fail
    refine (HCM.out _ (HF.out.call HS.out HF.out.size (by simp))).mono ?_; rintro e w1 ⟨rfl, hf1⟩
    have hS1 := HS.out.call hf1 HS.out.size (by simp)
    clear hf1 HS
    have HS := Lib.hid hS1
    clear hS1
    go_wp2_with fail
    first | refine ⟨fun _ => HS.out, ?_⟩ | refine ⟨HS.out, ?_⟩
    refine LeftL.one 14 rfl (by kernel_rfl) ?_
    go_wp2_with fail
    first | refine ⟨fun _ => HS.out, ?_⟩ | refine ⟨HS.out, ?_⟩
    refine LeftL.one 15 rfl (by kernel_rfl) ?_
    go_wp2_with fail
    first | refine ⟨fun _ => HS.out, ?_⟩ | refine ⟨HS.out, ?_⟩
    refine LeftL.one 16 rfl (by kernel_rfl) ?_
    go_wp2_with fail
    first | refine ⟨fun _ => HS.out, ?_⟩ | refine ⟨HS.out, ?_⟩
    refine LeftL.done (by kernel_rfl) ?_
    have hf := HF.out.call HS.out HF.out.size (by simp)
    clear HF HS HFX
    have HF := Lib.hid hf
    clear hf
    go_wp2_with fail
    go_ret
    exact ⟨by simp <;> rfl, HF.out⟩
  · have e1 : (oj == i) = false := by simp [e]
    have HF := Lib.hid hf
    have HFX := Lib.hid hfx
    clear hfx hf
    refine wp_region_leftL (fun V => Frm W.heap.size [] W V) 1000 (by kernel_rfl) ?_
    have hS : Frm W.heap.size [] W W.drew := (Frm.refl _ _ W).drew
    have HS := Lib.hid hS
    clear hS
    first | (refine LeftL.tkG (v := ?_) 0 rfl HS.out ?_ ?_; rotate_left; · intro V hV; obtain ⟨z1, z2, z3, z4⟩ := HFX.out V hV; clear hV; go_simp; rfl) | refine LeftL.tkN 0 rfl HS.out ?_
    (intro K h; go_simp; refine h _ ?_; clear h K)
    first | (refine LeftL.tkG (v := ?_) 1 rfl HS.out ?_ ?_; rotate_left; · intro V hV; obtain ⟨z1, z2, z3, z4⟩ := HFX.out V hV; clear hV; go_simp; rfl) | refine LeftL.tkN 1 rfl HS.out ?_
    (intro K h; go_simp; refine h _ ?_; clear h K)
    first | (refine LeftL.tkG (v := ?_) 2 rfl HS.out ?_ ?_; rotate_left; · intro V hV; obtain ⟨z1, z2, z3, z4⟩ := HFX.out V hV; clear hV; go_simp; rfl) | refine LeftL.tkN 2 rfl HS.out ?_
    (intro K h; go_simp; refine h _ ?_; clear h K)
    first | (refine LeftL.tkG (v := ?_) 3 rfl HS.out ?_ ?_; rotate_left; · intro V hV; obtain ⟨z1, z2, z3, z4⟩ := HFX.out V hV; clear hV; go_simp; rfl) | refine LeftL.tkN 3 rfl HS.out ?_
    (intro K h; go_simp; refine h _ ?_; clear h K)
    first | (refine LeftL.tkG (v := ?_) 4 rfl HS.out ?_ ?_; rotate_left; · intro V hV; obtain ⟨z1, z2, z3, z4⟩ := HFX.out V hV; clear hV; go_simp; rfl) | refine LeftL.tkN 4 rfl HS.out ?_
    (intro K h; go_simp; refine h _ ?_; clear h K)
    first | (refine LeftL.tkG (v := ?_) 5 rfl HS.out ?_ ?_; rotate_left; · intro V hV; obtain ⟨z1, z2, z3, z4⟩ := HFX.out V hV; clear hV; go_simp; rfl) | refine LeftL.tkN 5 rfl HS.out ?_
    (intro K h; go_simp; refine h _ ?_; clear h K)
    first | (refine LeftL.tkG (v := ?_) 6 rfl HS.out ?_ ?_; rotate_left; · intro V hV; obtain ⟨z1, z2, z3, z4⟩ := HFX.out V hV; clear hV; go_simp; rfl) | refine LeftL.tkN 6 rfl HS.out ?_
    (intro K h; go_simp; refine h _ ?_; clear h K)
    first | (refine LeftL.tkG (v := ?_) 7 rfl HS.out ?_ ?_; rotate_left; · intro V hV; obtain ⟨z1, z2, z3, z4⟩ := HFX.out V hV; clear hV; go_simp; rfl) | refine LeftL.tkN 7 rfl HS.out ?_
    (intro K h; go_simp; refine h _ ?_; clear h K)
    first | (refine LeftL.tkG (v := ?_) 8 rfl HS.out ?_ ?_; rotate_left; · intro V hV; obtain ⟨z1, z2, z3, z4⟩ := HFX.out V hV; clear hV; go_simp; rfl) | refine LeftL.tkN 8 rfl HS.out ?_
    (intro K h; go_simp; refine h _ ?_; clear h K)
    first | (refine LeftL.tkG (v := ?_) 9 rfl HS.out ?_ ?_; rotate_left; · intro V hV; obtain ⟨z1, z2, z3, z4⟩ := HFX.out V hV; clear hV; go_simp; rfl) | refine LeftL.tkN 9 rfl HS.out ?_
    (intro K h; go_simp; refine h _ ?_; clear h K)
    first | (refine LeftL.tkG (v := ?_) 10 rfl HS.out ?_ ?_; rotate_left; · intro V hV; obtain ⟨z1, z2, z3, z4⟩ := HFX.out V hV; clear hV; go_simp; rfl) | refine LeftL.tkN 10 rfl HS.out ?_
    (intro K h; go_simp; refine h _ ?_; clear h K)
    first | (refine LeftL.tkG (v := ?_) 11 rfl HS.out ?_ ?_; rotate_left; · intro V hV; obtain ⟨z1, z2, z3, z4⟩ := HFX.out V hV; clear hV; go_simp; rfl) | refine LeftL.tkN 11 rfl HS.out ?_
    (intro K h; go_simp; refine h _ ?_; clear h K)
    first | (refine LeftL.tkG (v := ?_) 12 rfl HS.out ?_ ?_; rotate_left; · intro V hV; obtain ⟨z1, z2, z3, z4⟩ := HFX.out V hV; clear hV; go_simp; rfl) | refine LeftL.tkN 12 rfl HS.out ?_
    (intro K h; go_simp; refine h _ ?_; clear h K)
    first | (refine LeftL.tkG (v := ?_) 13 rfl HS.out ?_ ?_; rotate_left; · intro V hV; obtain ⟨z1, z2, z3, z4⟩ := HFX.out V hV; clear hV; go_simp; rfl) | refine LeftL.tkN 13 rfl HS.out ?_
    (intro K h; go_simp; refine h _ ?_; clear h K)
    first | (refine LeftL.tkG (v := ?_) 14 rfl HS.out ?_ ?_; rotate_left; · intro V hV; obtain ⟨z1, z2, z3, z4⟩ := HFX.out V hV; clear hV; go_simp; rfl) | refine LeftL.tkN 14 rfl HS.out ?_
    (intro K h; go_simp; refine h _ ?_; clear h K)
    first | (refine LeftL.tkG (v := ?_) 15 rfl HS.out ?_ ?_; rotate_left; · intro V hV; obtain ⟨z1, z2, z3, z4⟩ := HFX.out V hV; clear hV; go_simp; rfl) | refine LeftL.tkN 15 rfl HS.out ?_
    (intro K h; go_simp; refine h _ ?_; clear h K)
    refine LeftL.one 16 rfl (by kernel_rfl) ?_
    go_wp2_with fail
    first | refine ⟨fun _ => HS.out, ?_⟩ | refine ⟨HS.out, ?_⟩
    refine LeftL.done (by kernel_rfl) ?_
    have hf := HF.out.call HS.out HF.out.size (by simp)
    clear HF HS HFX
    have HF := Lib.hid hf
    clear hf
    go_wp2_with fail
    go_ret
    exact ⟨by simp [e], HF.out⟩
theorem frm_of_size {B : Nat} {S : List Nat} {a w w' : World} (h : Frm B S a w) (k : Frm w.heap.size [] w w') (hB : B ≤ w.heap.size) : Frm B S a w' := h.call k hB (by simp)
set_option maxRecDepth 100000 in
set_option maxHeartbeats 8000000 in
theorem has_any {w : World} {k : Nat} {s : BS} {m : Mem} (h : BookAt w k s m) (i is : Int) (r : Rep) (ad : Option Addr) (b o cap : Nat) (hok : repB r = true) (hr : RwP w ad b o r.wh.length r.wh) :
    Calls Try.prog 63 #[.pointer (some ⟨k, 0, none⟩), .int .i64 i, .agg (repC r ad cap).toArray, .int .i64 is] w fun e w' => e = .returned (.bool (hasI s i r is)) ∧ Frm w.heap.size [] w w' := by
  have hf0 := Try.func63
  obtain ⟨ea, eb, eo, ec, hve, hrw⟩ := h.rwE
  obtain ⟨n, hn⟩ : ∃ n, n = s.reps.length := ⟨_, rfl⟩
  obtain ⟨C, hC⟩ : ∃ E, E = repC r ad cap := ⟨_, rfl⟩
  obtain ⟨res, hres⟩ : ∃ b, b = hasI s i r is := ⟨_, rfl⟩
  have hct : ∀ V pi pk pr ps, Frm w.heap.size [] w V → V.cell? ⟨pi, 0, none⟩ = some (.int .i64 i) → V.cell? ⟨pk, 0, none⟩ = some (.pointer (some ⟨k, 0, none⟩)) → Blk V pr 24 C → V.cell? ⟨ps, 0, none⟩ = some (.int .i64 is) →
      Calls Try.prog 92 #[.slice ea n ec, .func (.func 93) #[] #[.pointer (some ⟨pi, 0, none⟩), .pointer (some ⟨pk, 0, none⟩), .pointer (some ⟨pr, 0, none⟩), .pointer (some ⟨ps, 0, none⟩)]] V fun e w' => e = .returned (.bool res) ∧ Frm V.heap.size [] V w' := fun V pi pk pr ps hV c1 c2 c3 c4 => by
    rw [hn, hres]
    rw [hC] at c3
    refine (contE_any 93 #[.pointer (some ⟨pi, 0, none⟩), .pointer (some ⟨pk, 0, none⟩), .pointer (some ⟨pr, 0, none⟩), .pointer (some ⟨ps, 0, none⟩)] (enters Try.func93 (by kernel_rfl) (by kernel_rfl)) ea eb eo s.reps.length ec (entAt s m) (fun i => rfl) V (hrw.frm hV (Nat.le_refl _)) (fun j => decide ((s.o j : Int) = i) && decide (cmpZ s.window s.drift (s.rp j) r = is)) (fun W hW j hj => ?_)).mono ?_
    · have hW2 := hV.call hW hV.size (by simp)
      exact hasF_any (h.still hW2) i is r ad b o cap hok (hr.frm hW2 (Nat.le_refl _)) pi pk pr ps ((hW.cell (cell_lt c1) (by simp)).trans c1) ((hW.cell (cell_lt c2) (by simp)).trans c2) (hW.blk c3 c3.lt (by simp)) ((hW.cell (cell_lt c4) (by simp)).trans c4) j hj
    · rintro e w' ⟨⟨q, rfl, hq⟩, hf⟩
      exact ⟨by rw [hq.none]; rfl, hf⟩
  have c2 : w.cell? ⟨k, 3, none⟩ = some (.slice ea n ec) := by rw [hn, ← hve]; exact h.blk.cell 3
  have hkl := h.blk.lt
  rw [← hC, ← hres]
  clear hC hres hn hve hrw h hok hr
  have HCT := Lib.hid hct
  clear hct
  go_enter Try.func63, Try.ntmps63
  go_upto_region 1 with fail
  refine namedC ?_; intro W hW
  have k0 : Blk W w.heap.size 33 [.pointer (some ⟨k, 0, none⟩)] := by rw [hW]; refine Blk.alloc' ?_; refine Blk.alloc' ?_; refine Blk.alloc' ?_; exact Blk.new w 33 [.pointer (some ⟨k, 0, none⟩)]
  have k1 : Blk W (w.heap.size + 1) 3 [.int .i64 i] := by rw [hW]; refine Blk.alloc' ?_; refine Blk.alloc' ?_; exact Blk.new' _ 3 [.int .i64 i] (by simp)
  have k2 : Blk W (w.heap.size + 1 + 1) 24 C := by rw [hW]; refine Blk.alloc' ?_; exact Blk.new' _ 24 C (by simp)
  have k3 : Blk W (w.heap.size + 1 + 1 + 1) 3 [.int .i64 is] := by rw [hW]; exact Blk.new' _ 3 [.int .i64 is] (by simp)
  have hf : Frm w.heap.size [] w W := by rw [hW]; repeat (first | with_reducible exact Frm.refl _ _ _ | with_reducible refine Frm.drewN ?_ | with_reducible refine Frm.drew ?_ | ((with_reducible refine Frm.setCell' ?_ ?_); · first | (left; simp; done) | (right; simp; done) | (right; simp; omega)) | ((with_reducible refine Frm.alloc' ?_ ?_); · first | exact Nat.le_refl _ | (simp; done) | (simp; omega)))
  clear hW hf0
  have c0 : W.cell? ⟨w.heap.size, 0, none⟩ = some (.pointer (some ⟨k, 0, none⟩)) := k0.cell 0
  have c3 : W.cell? ⟨k, 3, none⟩ = some (.slice ea n ec) := by rw [hf.cell hkl (by simp)]; exact c2
  have hca := HCT.out W (w.heap.size + 1) w.heap.size (w.heap.size + 1 + 1) (w.heap.size + 1 + 1 + 1) hf (k1.cell 0) c0 k2 (k3.cell 0)
  clear k0 k1 k2 k3 c2 HCT
  have HF := Lib.hid hf
  have HCA := Lib.hid hca
  have HKL := Lib.hid hkl
  clear hkl hca hf
  go_wp2_with fail
  refine HCA.out.mono ?_; rintro e w1 ⟨rfl, hf1⟩
  have hf := HF.out.call hf1 HF.out.size (by simp)
  clear hf1 HF
  have HF := Lib.hid hf
  clear hf
  go_wp2_with fail
  go_ret
  exact ⟨rfl, HF.out⟩
end Go.Proofs.Ythgmdilfmeefiaa

namespace Go.Proofs.Ythgmdilfmeefiaa
set_option linter.all false
set_option linter.unusedSimpArgs false
set_option linter.unusedVariables false
open Go.RowKit

theorem flat_at {f : Nat → List Value} {size : Nat} (hf : ∀ i, (f i).length = size) : ∀ m i k, i < m → k < size → ((List.range m).flatMap f)[i * size + k]? = (f i)[k]? := fun m => by
  have hlen : ∀ m, ((List.range m).flatMap f).length = m * size := fun m => by
    induction m with
    | zero => simp
    | succ m ih => rw [List.range_succ, List.flatMap_append, List.length_append, ih]; simp [hf, Nat.add_mul]
  induction m with
  | zero => intro i k hi; omega
  | succ m ih =>
    intro i k hi hk
    rw [List.range_succ, List.flatMap_append]
    by_cases e : i < m
    · have hlt : i * size + k < ((List.range m).flatMap f).length := by
        rw [hlen]
        have : (i + 1) * size ≤ m * size := Nat.mul_le_mul_right _ e
        rw [Nat.add_mul] at this
        omega
      rw [List.getElem?_append_left hlt]
      exact ih i k e hk
    · obtain rfl : i = m := by omega
      rw [List.getElem?_append_right (by rw [hlen]; omega), hlen]
      simp
theorem flat_len {f : Nat → List Value} {size : Nat} (hf : ∀ i, (f i).length = size) (m : Nat) : ((List.range m).flatMap f).length = m * size := by
  induction m with
  | zero => simp
  | succ m ih => rw [List.range_succ, List.flatMap_append, List.length_append, ih]; simp [hf, Nat.add_mul]
/-- The cells of a slice that is read. -/
theorem Rw.cells {w : World} {size : Nat} {ad : Option Addr} {b off n : Nat} {f : Nat → List Value} (h : Rw w size ad b off n f) (hf : ∀ i, (f i).length = size) (h0 : 0 < size) (j : Nat) (u : Value) (hj : ((List.range n).flatMap f)[j]? = some u) : w.cell? ((⟨b, off, none⟩ : Addr).add j) = some u := by
  have hlt := (List.getElem?_eq_some_iff.1 hj).1
  rw [flat_len hf] at hlt
  have hi : j / size < n := Nat.div_lt_of_lt_mul (by rw [Nat.mul_comm]; exact hlt)
  have hk : j % size < size := Nat.mod_lt _ h0
  have e : j / size * size + j % size = j := by rw [Nat.mul_comm]; exact Nat.div_add_mod _ _
  have h1 := flat_at hf n (j / size) (j % size) hi hk
  rw [e, hj] at h1
  have h2 := h.at_ (j / size) hi (j % size) u h1.symm
  have hadd : (⟨b, off, none⟩ : Addr).add j = ⟨b, off + j, none⟩ := by unfold Addr.add; split <;> simp_all
  rw [hadd, ← e]
  simpa [Nat.add_assoc] using h2
/-- A slice of corners, known whole. -/
abbrev SlP (w : World) (v : Value) (L : List Spt) (own : Option Nat) : Prop := Sl w 71 2 v L.length ((List.range L.length).flatMap fun i => spC (spt L i)) own
theorem SlP.rw {w : World} {b o n cap : Nat} {L : List Spt} {own : Option Nat} (hn : n = L.length) (h : SlP w (.slice (some ⟨b, o, none⟩) n cap) L own) : RwP w (some ⟨b, o, none⟩) b o L.length L ∧ own = some b := by
  subst hn
  have ho : own = some b := by
    rcases h.2 with ⟨e, _⟩ | ⟨b2, o2, c2, arr, e, e2, _⟩
    · cases e
    · cases e; exact e2
  obtain ⟨ad, b2, o2, c2, e, hr⟩ := Sl.rw (f := fun i => spC (spt L i)) h (fun i => rfl)
  cases e
  by_cases h0 : 0 < L.length
  · have := hr.ad h0
    cases this
    exact ⟨hr, ho⟩
  · exact ⟨⟨fun h => absurd h h0, hr.len, fun i hi => absurd hi (by omega)⟩, ho⟩
theorem info71z : (Try.prog.info? 71).map (fun i => (i.zero, i.size, i.bytes)) = some (some (.agg #[.int .i64 0, .int .i64 0]), 2, 16) := by kernel_rfl
theorem pts_one (L : List Spt) : ∀ u ∈ (List.range L.length).flatMap fun i => spC (spt L i), u.oneCell' = true := by
  intro u hu
  simp only [List.mem_flatMap] at hu
  obtain ⟨i, _, hi⟩ := hu
  exact spC_one _ u hi
theorem eql_sl (a : Addr) (n c : Nat) (w : World) : (binOp .eql 22 (.slice (some a) n c) (.slice none 0 0)).run Try.prog w = .ok (.bool false) w := by kernel_rfl
attribute [local go_sem] eql_sl
set_option maxRecDepth 100000 in
set_option maxHeartbeats 8000000 in
theorem clone_any (ad : Option Addr) (b off n cap : Nat) (L : List Spt) (hn : n = L.length) (h1 : 1 ≤ n) (h2 : n ≤ 1000) (w : World) (hr : RwP w ad b off n L) :
    Calls Try.prog 66 #[.slice ad n cap] w fun e w' => (∃ b' o' c', e = .returned (.slice (some ⟨b', o', none⟩) n c') ∧ SlP w' (.slice (some ⟨b', o', none⟩) n c') L (some b') ∧ w.heap.size ≤ b') ∧ Frm w.heap.size [] w w' := by
  have hf0 := Try.func66
  obtain ⟨i0, hi0, hz0, hz1, hz2⟩ := info_parts3 info71z
  have had := hr.ad (by omega)
  subst had
  have hnews := hr.cells (fun i => rfl) (by omega)
  rw [hn] at hnews
  have HI0 := Lib.hid hi0
  have HZ0 := Lib.hid hz0
  have HZ1 := Lib.hid hz1
  have HZ2 := Lib.hid hz2
  have HR := Lib.hid hr
  have HNW := Lib.hid hnews
  have HN := Lib.hid hn
  clear hn hnews hr hz2 hz1 hz0 hi0
  go_enter Try.func66, Try.ntmps66
  go_wp2_with (at_builtin; refine hold ?_; intro qG hG)
  refine hG.1 ?_; clear hG qG
  refine wpList_append_sl _ rfl (.tmp 5) (.tmp 6) 22 rfl 71 i0 _ 2 16 Try.underlying22 HI0.out HZ0.out HZ1.out HZ2.out rfl _ 0 [] (some w.heap.size) rfl (sl_buildEmpty w 71 2) ⟨b, off, none⟩ n cap ((List.range L.length).flatMap fun i => spC (spt L i)) rfl ?_ ?_ (pts_one L) (by have := HR.out.len; omega) (by omega) ?_
  · rw [flat_len (f := fun i => spC (spt L i)) (size := 2) (fun i => rfl), HN.out]
  · intro j u hj
    have h3 := HNW.out j u hj
    rw [← h3]
    have hlt := cell_lt h3
    exact ((Frm.refl w.heap.size [] w).alloc (Nat.le_refl _) _).cell (by have : ((⟨b, off, none⟩ : Addr).add j).block < w.heap.size := hlt; exact this) (by simp)
  · intro v' w' own' hs hf ho
    rw [List.nil_append, Nat.zero_add] at hs
    have hf2 : Frm w.heap.size [] w w' := ((Frm.refl w.heap.size [] w).alloc (Nat.le_refl _) _).call hf (by simp) (fun x hx hm => by simp at hm; omega)
    obtain ⟨b', o', c', hv, hb, _, _⟩ := hs.pos (by omega)
    have hge : w.heap.size ≤ b' := by
      rcases ho with h | ⟨g, h, hg⟩
      · rw [hb] at h; cases h; exact Nat.le_refl _
      · rw [hb] at h; cases h; simp at hg; omega
    subst hv
    rw [hb] at hs
    have hs2 : SlP w' (.slice (some ⟨b', o', none⟩) n c') L (some b') := by
      have e := HN.out
      subst e
      exact hs
    clear hs hf ho hb
    have HS := Lib.hid hs2
    have HF := Lib.hid hf2
    have HGE := Lib.hid hge
    clear hge hf2 hs2
    go_wp2_with fail
    go_ret
    exact ⟨⟨b', o', c', rfl, HS.out, HGE.out⟩, HF.out⟩
set_option maxRecDepth 100000 in
set_option maxHeartbeats 8000000 in
theorem copied_any (r : Rep) (ad : Option Addr) (b o cap : Nat) (h1 : 1 ≤ r.wh.length) (h2 : r.wh.length ≤ 1000) (w : World) (hr : RwP w ad b o r.wh.length r.wh) :
    Calls Try.prog 39 #[.agg (repC r ad cap).toArray] w fun e w' => (∃ b' o' c', e = .returned (.agg (repC r (some ⟨b', o', none⟩) c').toArray) ∧ SlP w' (.slice (some ⟨b', o', none⟩) r.wh.length c') r.wh (some b') ∧ w.heap.size ≤ b') ∧ Frm w.heap.size [] w w' := by
  have hf0 := Try.func39
  obtain ⟨n, hn⟩ : ∃ n, n = r.wh.length := ⟨_, rfl⟩
  have hcl : ∀ V, Frm w.heap.size [] w V → Calls Try.prog 66 #[.slice ad n cap] V fun e w' => (∃ b' o' c', e = .returned (.slice (some ⟨b', o', none⟩) n c') ∧ SlP w' (.slice (some ⟨b', o', none⟩) n c') r.wh (some b') ∧ V.heap.size ≤ b') ∧ Frm V.heap.size [] V w' := fun V hV => clone_any ad b o n cap r.wh hn (by omega) (by omega) V (by rw [hn]; exact hr.frm hV (Nat.le_refl _))
  have e1 : ∀ a c, repC r a c = [.int .i64 r.kind, .int .i64 r.time, .string r.src, .string r.abt, .slice a n c, .int .i64 r.souls, .int .i64 r.trust] := fun a c => by rw [hn]; rfl
  rw [e1]
  simp only [e1]
  obtain ⟨L, hL⟩ : ∃ L, L = r.wh := ⟨_, rfl⟩
  have hn' := hn
  simp only [← hL] at hcl ⊢
  rw [← hL] at hn
  obtain ⟨kind, hk⟩ : ∃ c, c = r.kind := ⟨_, rfl⟩
  obtain ⟨time, ht⟩ : ∃ c, c = r.time := ⟨_, rfl⟩
  obtain ⟨src, hs⟩ : ∃ c, c = r.src := ⟨_, rfl⟩
  obtain ⟨abt, ha⟩ : ∃ c, c = r.abt := ⟨_, rfl⟩
  obtain ⟨souls, hso⟩ : ∃ c, c = r.souls := ⟨_, rfl⟩
  obtain ⟨trust, htr⟩ : ∃ c, c = r.trust := ⟨_, rfl⟩
  rw [← hk, ← ht, ← hs, ← ha, ← hso, ← htr, ← hn]
  clear hk ht hs ha hso htr e1 hn' hr h1 h2 hL
  have HCL := Lib.hid hcl
  have HN := Lib.hid hn
  clear hn hcl
  go_enter Try.func39, Try.ntmps39
  go_upto_region 1 with fail
  refine namedC ?_; intro W hW
  have k0 : Blk W w.heap.size 24 [.int .i64 kind, .int .i64 time, .string src, .string abt, .slice ad n cap, .int .i64 souls, .int .i64 trust] := by rw [hW]; refine Blk.alloc' ?_; exact Blk.new w 24 _
  have k1 : Blk W (w.heap.size + 1) 24 [.int .i64 0, .int .i64 0, .string ⟨#[]⟩, .string ⟨#[]⟩, .slice none 0 0, .int .i64 0, .int .i64 0] := by rw [hW]; exact Blk.new' _ 24 _ (by simp)
  have hf : Frm w.heap.size [] w W := by rw [hW]; repeat (first | with_reducible exact Frm.refl _ _ _ | with_reducible refine Frm.drewN ?_ | with_reducible refine Frm.drew ?_ | ((with_reducible refine Frm.setCell' ?_ ?_); · first | (left; simp; done) | (right; simp; done) | (right; simp; omega)) | ((with_reducible refine Frm.alloc' ?_ ?_); · first | exact Nat.le_refl _ | (simp; done) | (simp; omega)))
  clear hW hf0
  have c4 : W.cell? ⟨w.heap.size, 4, none⟩ = some (.slice ad n cap) := k0.cell 4
  have HF := Lib.hid hf
  have K0 := Lib.hid k0
  have K1 := Lib.hid k1
  clear k1 k0 hf
  go_wp2_with fail
  refine (HCL.out W HF.out).mono ?_; rintro e w1 ⟨⟨b', o', c', rfl, hs, hge⟩, hf1⟩
  have k0 := hf1.blk K0.out K0.out.lt (by simp)
  have k1 := hf1.blk K1.out K1.out.lt (by simp)
  have hge : w.heap.size + 1 < b' := Nat.lt_of_lt_of_le K1.out.lt hge
  have hf := HF.out.call hf1 HF.out.size (by simp)
  have c4 : w1.cell? ⟨w.heap.size, 4, none⟩ = some (.slice ad n cap) := k0.cell 4
  have g4 := k0.free 4
  clear hf1 HF K0 K1 HCL
  have HF := Lib.hid hf
  have K0 := Lib.hid k0
  have K1 := Lib.hid k1
  have HS := Lib.hid hs
  have HGE := Lib.hid hge
  clear hge hs k1 k0 hf
  go_wp2_with (first | (with_reducible refine atLoad 24 rfl ?_; refine stop_ ?_) | (with_reducible refine atStore 24 rfl ?_; refine stop_ ?_))
  refine go_on ?_
  have k0 := K0.out.set 4 (.slice (some ⟨b', o', none⟩) n c')
  have k1 := K1.out.other ⟨w.heap.size, 4, none⟩ (by show w.heap.size ≠ w.heap.size + 1; omega) (.slice (some ⟨b', o', none⟩) n c')
  have hf := HF.out.setCell (p := ⟨w.heap.size, 4, none⟩) (.inr (by show w.heap.size ≤ w.heap.size; omega)) (.slice (some ⟨b', o', none⟩) n c')
  have hs := Sl.setCell HS.out ⟨w.heap.size, 4, none⟩ (.slice (some ⟨b', o', none⟩) n c') (fun q hq => by cases hq; have := HGE.out; show w.heap.size ≠ b'; omega)
  simp only [List.set_cons_succ, List.set_cons_zero] at k0
  generalize World.setCell w1 _ _ = w2 at k0 k1 hf hs ⊢
  clear HF K0 K1 HS c4 g4
  have HF := Lib.hid hf
  have K0 := Lib.hid k0
  have K1 := Lib.hid k1
  have HS := Lib.hid hs
  clear hs k1 k0 hf
  refine wpList_loadE rfl rfl rfl (load24 K0.out rfl) ?_
  go_wp2_with (with_reducible refine atStore 24 rfl ?_; refine stop_ ?_)
  refine go_on ?_
  refine wpList_storeB (P := Try.prog) (cs := [.int .i64 kind, .int .i64 time, .string src, .string abt, .slice (some ⟨b', o', none⟩) n c', .int .i64 souls, .int .i64 trust]) rfl rfl K1.out rfl rfl rfl info24 (by simp [Value.oneCell']) ?_
  have k1 := K1.out.row [.int .i64 kind, .int .i64 time, .string src, .string abt, .slice (some ⟨b', o', none⟩) n c', .int .i64 souls, .int .i64 trust]
  have hf := HF.out.setRow (g := w.heap.size + 1) (.inr (by omega)) #[.int .i64 kind, .int .i64 time, .string src, .string abt, .slice (some ⟨b', o', none⟩) n c', .int .i64 souls, .int .i64 trust]
  have hs : SlP (w2.setRow (w.heap.size + 1) #[.int .i64 kind, .int .i64 time, .string src, .string abt, .slice (some ⟨b', o', none⟩) n c', .int .i64 souls, .int .i64 trust]) (.slice (some ⟨b', o', none⟩) n c') L (some b') := HS.out.kept fun q hq => by cases hq; exact setRow_other _ _ _ _ (by have := HGE.out; omega)
  generalize World.setRow w2 _ _ = w3 at k1 hf hs ⊢
  clear HF K0 K1 HS
  dsimp only [Act.put]
  have HF := Lib.hid hf
  have K1 := Lib.hid k1
  have HS := Lib.hid hs
  clear hs k1 hf
  go_wp2_with fail
  refine bodyPost_ret (results_c Try.results39 K1.out rfl Try.underlying24 rfl info24) rfl ?_
  exact ⟨⟨b', o', c', rfl, HS.out, by have := HGE.out; omega⟩, HF.out⟩
end Go.Proofs.Ythgmdilfmeefiaa

namespace Go.Proofs.Ythgmdilfmeefiaa
set_option linter.all false
set_option linter.unusedSimpArgs false
set_option linter.unusedVariables false
open Go.RowKit

/-- The numbers below k for which something holds. -/
def selK (q : Nat → Bool) (k : Nat) : List Nat := (List.range k).filter q
theorem selK_succ (q : Nat → Bool) (k : Nat) : selK q (k + 1) = if q k = true then selK q k ++ [k] else selK q k := by
  unfold selK
  rw [List.range_succ, List.filter_append]
  by_cases h : q k = true
  · rw [if_pos h]; simp [h]
  · rw [if_neg h]; simp [h]
theorem selK_len (q : Nat → Bool) (k : Nat) : (selK q k).length ≤ k := by
  unfold selK
  exact Nat.le_trans (List.length_filter_le _ _) (by simp)
/-- A list of numbers in new memory. -/
def Ints (w w' : World) (v : Value) (l : List Nat) : Prop := ∃ own, Sl w' 3 1 v l.length (intsC l) own ∧ ∀ b, own = some b → w.heap.size ≤ b
theorem Ints.nil (w w' : World) : Ints w w' (.slice none 0 0) [] := ⟨none, Sl.nil _ 3 1, fun b hb => by cases hb⟩
theorem Ints.call {w w1 w2 : World} {v : Value} {l : List Nat} (h : Ints w w1 v l) (hf : Frm w1.heap.size [] w1 w2) : Ints w w2 v l := by
  obtain ⟨own, hs, ho⟩ := h
  exact ⟨own, hs.frm hf hs.lt (by simp), ho⟩
theorem Ints.form {w w1 : World} {v : Value} {l : List Nat} (h : Ints w w1 v l) : ∃ a c, v = .slice a l.length c := by
  obtain ⟨own, hs, ho⟩ := h
  exact hs.form
set_option maxRecDepth 100000 in
set_option maxHeartbeats 8000000 in
theorem of_any {w : World} {k : Nat} {s : BS} {m : Mem} (h : BookAt w k s m) (i : Int) (g : FuncId) (caps : Array Value) (hen : Enters g) (p : Nat → Bool)
    (hp : ∀ V, Frm w.heap.size [] w V → ∀ j, j < s.reps.length → Calls Try.prog g (#[.int .i64 (j : Int)] ++ caps) V fun e w' => e = .returned (.bool (p j)) ∧ Frm V.heap.size [] V w') :
    Calls Try.prog 64 #[.pointer (some ⟨k, 0, none⟩), .int .i64 i, .func (.func g) #[] caps] w fun e w' => ∃ v, e = .returned v ∧ Ints w w' v (selK (fun j => decide ((s.o j : Int) = i) && p j) s.reps.length) ∧ Frm w.heap.size [] w w' := by
  have hf0 := Try.func64
  have hen' : ∀ (args : Array Value) (W : World), (callFunc g args).run Try.prog W = .ok (.enter g args) W := hen.out
  obtain ⟨i0, hi0, hz0, hz1, hz2⟩ := info_parts3 info3x
  obtain ⟨ad, b, off, cap, hve, hrw⟩ := h.rwE
  obtain ⟨n, hn⟩ : ∃ n, n = s.reps.length := ⟨_, rfl⟩
  have hnm : n ≤ 500 := by rw [hn]; exact h.inv.max.1
  have c3 : w.cell? ⟨k, 3, none⟩ = some (.slice ad n cap) := by rw [hn, ← hve]; exact h.blk.cell 3
  have hkl := h.blk.lt
  obtain ⟨q, hq⟩ : ∃ q : Nat → Bool, q = fun j => decide ((s.o j : Int) = i) && p j := ⟨_, rfl⟩
  have hqj : ∀ j, q j = (decide ((s.o j : Int) = i) && p j) := fun j => by rw [hq]
  rw [← hn] at hrw hp
  rw [← hq, ← hn]
  have hl : ∀ V, Frm w.heap.size [] w V → ∀ j, j < n → ∃ E : List Value, E.length = 8 ∧ E[7]? = some (.int .i64 (s.o j : Int)) ∧ (∀ u ∈ E, u.oneCell' = true) ∧ (loadVar 81 ⟨b, off + j * 8, none⟩).run Try.prog V = .ok (.agg E.toArray) V := fun V hV j hj =>
    ⟨entAt s m j, rfl, rfl, by simp [entAt, entC, repC, Value.oneCell'], (hrw.frm hV (Nat.le_refl _)).load (P := Try.prog) Try.underlying81 rfl hj info81⟩
  have had := hrw.ad
  clear hq hn hve hrw h hen
  have HP := Lib.hid hp
  have HI0 := Lib.hid hi0
  have HZ0 := Lib.hid hz0
  have HZ1 := Lib.hid hz1
  have HZ2 := Lib.hid hz2
  have HNM := Lib.hid hnm
  have HQ := Lib.hid hqj
  have HL := Lib.hid hl
  have HAD := Lib.hid had
  have HKL := Lib.hid hkl
  clear hkl had hl hqj hnm hz2 hz1 hz0 hi0 hp
  go_enter Try.func64, Try.ntmps64
  go_wp2_with fail
  go_loopw [7, 15] (fun s7 s15 wr => ∃ j : Nat, s15 = .int .i64 j ∧ j ≤ n ∧ Ints w wr s7 (selK q j) ∧ Frm w.heap.size [] w wr) (fun _ s15 _ => n - (intOf s15).toNat)
  case atStart => exact ⟨0, rfl, Nat.zero_le _, Ints.nil w w, by repeat (first | with_reducible exact Frm.refl _ _ _ | with_reducible refine Frm.drewN ?_ | with_reducible refine Frm.drew ?_ | ((with_reducible refine Frm.setCell' ?_ ?_); · first | (left; simp; done) | (right; simp; done) | (right; simp; omega)) | ((with_reducible refine Frm.alloc' ?_ ?_); · first | exact Nat.le_refl _ | (simp; done) | (simp; omega)))⟩
  case round =>
    obtain ⟨j, rfl, hj, hin, hf⟩ := hrel
    obtain ⟨ai, ci, rfl⟩ := hin.form
    by_cases hjl : j < n
    rotate_left
    · have hjl' : ¬ (j : Int) < (n : Int) := by omega
      obtain rfl : j = n := by omega
      have HIN := Lib.hid hin
      have HF := Lib.hid hf
      clear hf hin
      go_wp2_with fail
      go_ret
      exact ⟨_, rfl, HIN.out, HF.out⟩
    have hjl' : (j : Int) < (n : Int) := by omega
    have had := HAD.out (by omega)
    subst had
    obtain ⟨y4, y5⟩ := wrapUp hjl (by have := HNM.out; unfold maxLen; omega)
    have hms := meas_up hjl
    obtain ⟨E, he8, he7, he1, hlo⟩ := HL.out wr hf j hjl
    obtain ⟨oj, hoj⟩ : ∃ c, c = (s.o j : Int) := ⟨_, rfl⟩
    have hqj := HQ.out j
    have hsu := selK_succ q j
    rw [← hoj] at he7 hqj
    clear hoj
    obtain ⟨W4, hW4⟩ : ∃ V, V = wr := ⟨_, rfl⟩
    rw [← hW4] at hin hf hlo ⊢
    clear hW4
    have HIN := Lib.hid hin
    have HF := Lib.hid hf
    have HMS := Lib.hid hms
    have HLO := Lib.hid hlo
    have HE8 := Lib.hid he8
    have HE7 := Lib.hid he7
    have HE1 := Lib.hid he1
    have HQJ := Lib.hid hqj
    have HSU := Lib.hid hsu
    have HJL := Lib.hid hjl
    clear hjl hsu hqj he1 he7 he8 hlo hms hf hin
    go_wp2_with (first | (with_reducible refine atLoad 81 rfl ?_; refine wpList_loadE rfl rfl rfl HLO.out ?_) | (with_reducible refine atStore 81 rfl ?_; refine stop_ ?_))
    refine go_on ?_
    refine wpList_storeNew (P := Try.prog) (cs := E) rfl rfl rfl rfl (by rw [HE8.out]; rfl) (by rw [HE8.out]; exact info81) HE1.out ?_
    intro V1 hv1 k5 hz; clear hz
    obtain ⟨p5, hp5⟩ : ∃ p, p = W4.heap.size := ⟨_, rfl⟩
    have hin := HIN.out.call hv1
    have hf := HF.out.call hv1 HF.out.size (by simp)
    rw [← hp5] at k5 ⊢
    dsimp only [Act.put]
    have c7 : V1.cell? ⟨p5, 7, none⟩ = some (.int .i64 oj) := (k5.cell 7).trans HE7.out
    clear hp5 hv1 HF HIN k5 HLO
    by_cases e : oj = i
    rotate_left
    · have e1 : (oj == i) = false := by simp [e]
      have hs2 : selK q (j + 1) = selK q j := by rw [HSU.out, if_neg (by rw [HQJ.out]; simp [e])]
      have HIN := Lib.hid hin
      have HF := Lib.hid hf
      have HS2 := Lib.hid hs2
      clear hs2 hf hin
      go_wp2_with fail
      exact ⟨⟨j + 1, by simp [y4, y5], HJL.out, by rw [HS2.out]; exact HIN.out, HF.out⟩, by have := HMS.out; simpa [intOf, y4, y5] using this⟩
    subst e
    have hca := HP.out V1 hf j HJL.out
    cases hpj : p j
    · have hs2 : selK q (j + 1) = selK q j := by rw [HSU.out, if_neg (by rw [HQJ.out, hpj]; simp)]
      rw [hpj] at hca
      have HIN := Lib.hid hin
      have HF := Lib.hid hf
      have HS2 := Lib.hid hs2
      have HCA := Lib.hid hca
      clear hca hs2 hf hin
      go_wp2_with fail
      refine HCA.out.mono ?_; rintro e w2 ⟨rfl, hf2⟩
      have hf := HF.out.call hf2 HF.out.size (by simp)
      have hin := HIN.out.call hf2
      clear hf2 HF HIN HCA c7
      have HIN := Lib.hid hin
      have HF := Lib.hid hf
      clear hf hin
      go_wp2_with fail
      exact ⟨⟨j + 1, by simp [y4, y5], HJL.out, by rw [HS2.out]; exact HIN.out, HF.out⟩, by have := HMS.out; simpa [intOf, y4, y5] using this⟩
    · have hs2 : selK q (j + 1) = selK q j ++ [j] := by rw [HSU.out, if_pos (by rw [HQJ.out, hpj]; simp)]
      rw [hpj] at hca
      have hlk := selK_len q j
      have HIN := Lib.hid hin
      have HF := Lib.hid hf
      have HS2 := Lib.hid hs2
      have HCA := Lib.hid hca
      have HLK := Lib.hid hlk
      clear hlk hca hs2 hf hin
      go_wp2_with fail
      refine HCA.out.mono ?_; rintro e w2 ⟨rfl, hf2⟩
      have hf := HF.out.call hf2 HF.out.size (by simp)
      have hin := HIN.out.call hf2
      clear hf2 HF HIN HCA c7
      obtain ⟨own, hsl, hown⟩ := hin
      have HSL := Lib.hid hsl
      have HOWN := Lib.hid hown
      have HF := Lib.hid hf
      clear hf hown hsl
      go_wp2_with (at_builtin; refine hold ?_; intro qG hG)
      refine hG.1 ?_; clear hG qG
      refine wpList_append_sl _ rfl (.tmp 29) (.tmp 31) 42 rfl 3 i0 _ 1 8 Try.underlying42 HI0.out HZ0.out HZ1.out HZ2.out rfl _ _ (intsC (selK q j)) own rfl (HSL.out.alloc _) ⟨w2.heap.size, 0, none⟩ 1 1 [.int .i64 (j : Int)] rfl rfl (news_alloc _ [.int .i64 (j : Int)] _) (by simp [Value.oneCell']) (by have := HLK.out; have := HNM.out; have := HJL.out; unfold maxLen; omega) (by have := HLK.out; have := HNM.out; have := HJL.out; omega) ?_
      intro v3 w3 own3 hs3 hf3 ho3
      have hf := (HF.out.alloc HF.out.size (.cells [Value.int .i64 (j : Int)].toArray 3)).call hf3 (by have := HF.out.size; simp; omega) (fun x hx hm => by have := HOWN.out x (by simpa using hm); omega)
      have hin : Ints w w3 v3 (selK q (j + 1)) := by
        rw [HS2.out]
        refine ⟨own3, by rw [intsC_snoc, List.length_append]; exact hs3, fun b hb => ?_⟩
        rcases ho3 with h | ⟨q, h, hq⟩
        · exact HOWN.out b (by rw [← h]; exact hb)
        · rw [hb] at h; cases h; have := HF.out.size; simp at hq; omega
      clear hs3 hf3 ho3 HSL HF HOWN
      have HIN := Lib.hid hin
      have HF := Lib.hid hf
      clear hf hin
      go_wp2_with fail
      exact ⟨⟨j + 1, by simp [y4, y5], HJL.out, HIN.out, HF.out⟩, by have := HMS.out; simpa [intOf, y4, y5] using this⟩
end Go.Proofs.Ythgmdilfmeefiaa
