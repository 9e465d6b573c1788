/-
  The document: Take.
-/
import Derived.Test.YthgmdilfmeefiaaJ53
namespace Go.Proofs.Ythgmdilfmeefiaa
set_option linter.all false
set_option linter.unusedSimpArgs false
set_option linter.unusedVariables false
open Go.RowKit

theorem run_append_none_c {P : Program} (w : World) (t ty e : TypeId) (i : TypeInfo) (size : Nat) (ht : P.underlying t = some (.slice e)) (hi : P.info? e = some i) {v : Value} {n : Nat} {cs : List Value} {own : Option Nat} (hown : Sl w e size v n cs own) (c : Nat) :
    (Builtin.append_ #[t, t] ty #[v, .slice none 0 c]).run P w = .ok v w := by
  rcases hown.2 with ⟨rfl, rfl, rfl⟩ | ⟨g, off, cap, cur, rfl, rfl, hg, hnc, hcm, hcs, htake⟩
  · simp [Builtin.append_, run_underlying ht, sizeOf, typeInfo, hi, Builtin.lenOf, Builtin.firstCells, loadCells, loadCellsFrom]
  · simp [Builtin.append_, run_underlying ht, sizeOf, typeInfo, hi, Builtin.lenOf, Builtin.firstCells, loadCells, loadCellsFrom, storeCells, hnc]
/-- APPEND rows that may be none. -/
theorem wpList_append_rw {P : Program} {ops : Array Oper} {rest : List Oper} {o : Oper} {a : Act} {w : World} {Q : Exit → Act → World → Prop} (hgd : o.guard = none) (s x : Operand) (t : TypeId)
    (ho : o.op = .call { callee := .builtin .append, args := #[s, x], argTypes := #[t, t] })
    (e : TypeId) (i : TypeInfo) (z : Value) (size bytes : Nat) (ht : P.underlying t = some (.slice e)) (hi : P.info? e = some i) (hz : i.zero = some z)
    (hsize : i.size = size) (hby : i.bytes = bytes) (hzs : z.cells.size = size)
    (v : Value) (n : Nat) (cs : List Value) (own : Option Nat) (hs : a.eval s = v) (hown : Sl w e size v n cs own)
    (ad : Option Addr) (b off m c : Nat) (news : List Value) (hx : a.eval x = .slice ad m c) (had : 0 < m → ad = some ⟨b, off, none⟩) (hl : news.length = m * size) (hnews : ∀ j u, news[j]? = some u → w.cell? ((⟨b, off, none⟩ : Addr).add j) = some u) (h1 : ∀ u ∈ news, u.oneCell' = true)
    (h63 : n + m ≤ maxLen) (hbytes : (n + m) * bytes ≤ 140737488355328)
    (h : ∀ v' w' own', Sl w' e size v' (n + m) (cs ++ news) own' → Frm w.heap.size own.toList w w' → (own' = own ∨ ∃ g, own' = some g ∧ w.heap.size ≤ g) → wpList P ops Q rest (a.put o.dst v') w') : wpList P ops Q (o :: rest) a w := by
  by_cases h0 : 0 < m
  · have := had h0
    subst this
    exact wpList_append_sl w hgd s x t ho e i z size bytes ht hi hz hsize hby hzs v n cs own hs hown ⟨b, off, none⟩ m c news hx hl hnews h1 h63 hbytes h
  obtain rfl : m = 0 := by omega
  have hn : news = [] := List.eq_nil_of_length_eq_zero (by simpa using hl)
  subst hn
  rcases ad with _ | ad
  · have hr := run_append_none_c (P := P) w t o.type e i size ht hi hown c
    have key := h v w own (by simpa using hown) (Frm.refl _ _ _) (.inl rfl)
    refine wpList_step fun K hK => ?_
    rw [if_pos (by simp [Region.wanted, hgd])]
    unfold Oper.wp
    cases o with
    | mk dst op type pos after guard =>
      dsimp only at ho hgd hr key ⊢
      subst ho
      rw [BigFrame.execOp_builtin, BigFrame.builtin_append]
      have ha : (#[s, x] : Array Operand).map a.eval = #[v, .slice none 0 c] := by simp [hs, hx]
      rw [ha]
      have hrun : (do pure (Next.value (← Builtin.append_ #[t, t] type #[v, .slice none 0 c])) : Sem Next).run P w = .ok (.value v) w := by
        simp [hr]
      rw [hrun]
      exact hK _ _ key
  · exact wpList_append_sl w hgd s x t ho e i z size bytes ht hi hz hsize hby hzs v n cs own hs hown ad 0 c [] hx (by simp) (fun j u hj => by simp at hj) h1 h63 hbytes h
theorem results_cttt {P : Program} {fn : Func} {p q q2 q3 : Tmp} {ty : TypeId} (h : fn.results = #[.cell p ty, .tmp q, .tmp q2, .tmp q3]) {tmps : Array Value} {w : World} {b T : Nat} {cs : List Value} (hb : Blk w b T cs) (hp : tmps.getD p undef = .pointer (some ⟨b, 0, none⟩))
    {d : TypeDesc} (hu : P.underlying ty = some d) (hd : rowB d = true) (hi : (P.info? ty).map (·.size) = some cs.length) :
    (results fn tmps).run P w = .ok (.tuple #[.agg cs.toArray, tmps.getD q undef, tmps.getD q2 undef, tmps.getD q3 undef]) w := by
  have hp' : tmps[p]?.getD undef = .pointer (some ⟨b, 0, none⟩) := by simpa using hp
  simp [results, h, hp', asAddr, loadVarB hb hu hd hi]
theorem info24z : (Try.prog.info? 24).map (fun i => (i.zero, i.size, i.bytes)) = some (some (.agg #[.int .i64 0, .int .i64 0, .string ⟨#[]⟩, .string ⟨#[]⟩, .slice none 0 0, .int .i64 0, .int .i64 0]), 7, 88) := by kernel_rfl
/-- A copy in new memory, with one row more. -/
theorem Rw.snoc {w : World} {E size : Nat} {v : Value} {n : Nat} {f : Nat → List Value} {R : List Value} {own : Option Nat} (hl : R.length = size) (hf : ∀ i, (f i).length = size) (h : Sl w E size v (n + 1) ((List.range n).flatMap f ++ R) own) :
    ∃ g o c, v = .slice (some ⟨g, o, none⟩) (n + 1) c ∧ own = some g ∧ Rw w size (some ⟨g, o, none⟩) g o (n + 1) (fun i => if i < n then f i else R) := by
  have e : (List.range n).flatMap f ++ R = (List.range (n + 1)).flatMap (fun i => if i < n then f i else R) := by
    rw [List.range_succ, List.flatMap_append]
    congr 1
    · simp only [← List.map_eq_flatMap, List.flatMap_def]
      congr 1
      refine List.map_congr_left fun i hi => ?_
      rw [if_pos (List.mem_range.1 hi)]
    · simp
  rw [e] at h
  obtain ⟨g, o, c, hv, ho, _, _⟩ := h.pos (by omega)
  obtain ⟨ad, b2, o2, c2, hv2, hr⟩ := Sl.rw h (fun i => by split; exact hf i; exact hl)
  rw [hv] at hv2
  cases hv2
  have had := hr.ad (by omega)
  cases had
  exact ⟨g, o, c, hv, ho, hr⟩
theorem Rw.congr {w : World} {size : Nat} {ad : Option Addr} {b off n : Nat} {f g : Nat → List Value} (h : Rw w size ad b off n f) (e : ∀ i, i < n → f i = g i) : Rw w size ad b off n g :=
  ⟨h.ad, h.len, fun i hi k v hv => h.at_ i hi k v (by rw [e i hi]; exact hv)⟩
/-- The memory behind a report that was taken. -/
def RMem.took (m : RMem) (n : Nat) (rb ro rc fb fo fc ob oo oc : Nat) (ad : Option Addr) (b o cap : Nat) : RMem :=
  { m with ra := some ⟨rb, ro, none⟩, rb := rb, ro := ro, rc := rc, oa := some ⟨fb, fo, none⟩, ob := fb, oo := fo, oc := fc, pa := some ⟨ob, oo, none⟩, pb := ob, po := oo, pc := oc,
           wa := fun i => if i < n then m.wa i else ad, wb := fun i => if i < n then m.wb i else b, wo := fun i => if i < n then m.wo i else o, wc := fun i => if i < n then m.wc i else cap }
theorem RNext.took {w w' : World} {s : BS} {m : RMem} (h : RefAt w s m) (hf : Frm w.heap.size [] w w') {r : Rep} {ad : Option Addr} {b o cap : Nat} (hr : RwP w ad b o r.wh.length r.wh) {l : List Bool} {n at_ rb ro rc fb fo fc ob oo oc : Nat} (hn : n = s.reps.length)
    (hopn : Rw w' 1 (some ⟨ob, oo, none⟩) ob oo l.length (fun i => [.bool (l.getD i false)]))
    (hreps : Rw w' 7 (some ⟨rb, ro, none⟩) rb ro (n + 1) (fun i => if i < n then repC (s.rp i) (m.wa i) (m.wc i) else repC r ad cap))
    (hof : Rw w' 1 (some ⟨fb, fo, none⟩) fb fo (n + 1) (fun i => if i < n then [.int .i64 (s.o i : Int)] else [.int .i64 (at_ : Int)]))
    (hrb : w.heap.size ≤ rb) (hfb : w.heap.size ≤ fb) (hob : w.heap.size ≤ ob) (hlen : s.of.length = s.reps.length) (hinv : BInv { s with opn := l, reps := s.reps ++ [r], of := s.of ++ [at_] }) :
    RNext w w' s { s with opn := l, reps := s.reps ++ [r], of := s.of ++ [at_] } m (m.took n rb ro rc fb fo fc ob oo oc ad b o cap) (fun S => 0 < r.wh.length → b ∉ S) := by
  have h2 := h.still hf
  obtain ⟨s', hs'⟩ : ∃ z, z = ({ s with opn := l, reps := s.reps ++ [r], of := s.of ++ [at_] } : BS) := ⟨_, rfl⟩
  have e1 : ∀ i, i < n → s'.rp i = s.rp i := fun i hi => by rw [hs']; exact rp_snoc s r _ _ (by omega)
  have e2 : s'.rp n = r := by rw [hs', hn]; exact rp_new s r _ _
  have e3 : ∀ i, i < n → s'.o i = s.o i := fun i hi => by
    rw [hs']
    unfold BS.o
    rw [List.getD_eq_getElem?_getD, List.getD_eq_getElem?_getD, List.getElem?_append_left (by omega)]
  have e4 : s'.o n = at_ := by
    rw [hs', hn, ← hlen]
    unfold BS.o
    simp [List.getD_eq_getElem?_getD]
  have el : s'.reps.length = n + 1 := by rw [hs', hn]; simp
  have eo : s'.opn = l := by rw [hs']
  have ep : s'.prf = s.prf := by rw [hs']
  have epf : ∀ i, s'.pf i = s.pf i := fun i => by rw [hs']; rfl
  rw [← hs'] at hinv ⊢
  refine ⟨⟨?_, ?_, ?_, ?_, ?_, ?_, hinv⟩, hf, fun S hS hX ha => ⟨fun _ => ⟨fun hm => ?_, fun hm => ?_⟩, fun _ hm => ?_, ?_, ?_, ?_⟩⟩
  · rw [el]
    refine hreps.congr fun i hi => ?_
    by_cases hin : i < n
    · simp only [RMem.took, if_pos hin, e1 i hin]
    · obtain rfl : i = n := by omega
      simp only [RMem.took, if_neg hin, e2]
  · intro i hi
    rw [el] at hi
    by_cases hin : i < n
    · simp only [RMem.took, if_pos hin, e1 i hin]
      exact h2.wh i (by omega)
    · obtain rfl : i = n := by omega
      simp only [RMem.took, if_neg hin, e2]
      exact hr.frm hf (Nat.le_refl _)
  · rw [el]
    refine hof.congr fun i hi => ?_
    by_cases hin : i < n
    · simp only [if_pos hin, e3 i hin]
    · obtain rfl : i = n := by omega
      simp only [if_neg hin, e4]
  · rw [eo]; exact hopn
  · rw [ep]; exact h2.prf.congr fun i hi => by simp only [RMem.took, epf]
  · intro i hi
    rw [ep] at hi
    rw [epf]
    exact h2.xw i hi
  · have := hS _ hm; simp only [RMem.took] at this; omega
  · have := hS _ hm; simp only [RMem.took] at this; omega
  · have := hS _ hm; simp only [RMem.took] at this; omega
  · intro h0; rw [ep] at h0; exact ha.prf h0
  · intro i hi h0
    rw [el] at hi
    by_cases hin : i < n
    · rw [e1 i hin] at h0
      simp only [RMem.took, if_pos hin]
      exact ha.wh i (by omega) h0
    · obtain rfl : i = n := by omega
      rw [e2] at h0
      simp only [RMem.took, if_neg hin]
      exact hX h0
  · intro i hi h0
    rw [ep] at hi
    rw [epf] at h0
    exact ha.xw i hi h0
theorem took_refC {s : BS} {m : RMem} {r : Rep} {ad : Option Addr} {b o cap : Nat} {l : List Bool} {n n2 at_ rb ro rc fb fo fc ob oo oc : Nat} (hn : n = s.reps.length) (hn2 : n2 = l.length) :
    (((refC s m).set 4 (.slice (some ⟨ob, oo, none⟩) n2 oc)).set 2 (.slice (some ⟨rb, ro, none⟩) (n + 1) rc)).set 3 (.slice (some ⟨fb, fo, none⟩) (n + 1) fc) = refC { s with opn := l, reps := s.reps ++ [r], of := s.of ++ [at_] } (m.took n rb ro rc fb fo fc ob oo oc ad b o cap) := by
  subst hn hn2
  simp [refC, RMem.took]
/-- The call's copy, between the questions and the answer. -/
structure TMid (w V : World) (C R : List Value) (T : TypeId) (l : List Bool) (v : Value) (own : Option Nat) : Prop where
  frm : Frm w.heap.size [] w V
  k2 : Blk V w.heap.size 55 (C.set 4 v)
  k3 : Blk V (w.heap.size + 1) T R
  k4 : Blk V (w.heap.size + 2) 55 zero55
  sl : Sl V 4 1 v l.length (boolsC l) own
  own : ∀ b, own = some b → w.heap.size + 2 < b
set_option maxRecDepth 100000 in
set_option maxHeartbeats 16000000 in
theorem refTake_any {w : World} {s : BS} {m : RMem} (h : RefAt w s m) (r : Rep) (ad : Option Addr) (b o cap : Nat) (hr : RwP w ad b o r.wh.length r.wh) :
    Calls Try.prog 45 #[.agg (refC s m).toArray, .agg (repC r ad cap).toArray] w fun e w' => ∃ m', e = .returned (.tuple #[.agg (refC (tookS s r).1 m').toArray, .int .i64 (tookS s r).2.1, .int .i64 (tookS s r).2.2.1, .int .i64 (tookS s r).2.2.2]) ∧ RNext w w' s (tookS s r).1 m m' (fun S => 0 < r.wh.length → b ∉ S) := by
  have hf0 := Try.func45
  obtain ⟨i4, hi4, hz40, hz41, hz42⟩ := info_parts3 info4z
  obtain ⟨i24, hi24, hy0, hy1, hy2⟩ := info_parts3 info24z
  obtain ⟨i3, hi3, hx0, hx1, hx2⟩ := info_parts3 info3x
  have hchk : ∀ V, Frm w.heap.size [] w V → Calls Try.prog 32 #[.agg (repC r ad cap).toArray] V fun e w' => e = .returned (.bool (repB r)) ∧ Frm V.heap.size [] V w' := fun V hV => refCheck_any r ad b o cap V (hr.frm hV (Nat.le_refl _))
  have hpl : repB r = true → ∀ V, Frm w.heap.size [] w V → Calls Try.prog 72 #[.agg (refC s m).toArray, .agg (repC r ad cap).toArray] V fun e w' => e = .returned (.tuple #[.int .i64 ((placeS s r).1 : Int), .int .i64 (placeS s r).2]) ∧ Frm V.heap.size [] V w' := fun hok V hV => refPl_any (h.still hV) r ad b o cap hok (hr.frm hV (Nat.le_refl _))
  obtain ⟨n, hn⟩ : ∃ n, n = s.reps.length := ⟨_, rfl⟩
  have hnm : n ≤ 500 := by rw [hn]; exact h.inv.max.1
  obtain ⟨C, hC⟩ : ∃ C, C = refC s m := ⟨_, rfl⟩
  have hz6 : C.length = 6 := by rw [hC]; rfl
  have hc1 : ∀ u ∈ C, u.oneCell' = true := by rw [hC]; exact refC_one s m
  have hc2 : C[2]? = some (.slice m.ra n m.rc) := by rw [hC, hn]; rfl
  have hc3 : C[3]? = some (.slice m.oa n m.oc) := by rw [hC, hn]; rfl
  obtain ⟨R, hR⟩ : ∃ E, E = repC r ad cap := ⟨_, rfl⟩
  have hz7 : R.length = 7 := by rw [hR]; rfl
  have hr1 : ∀ u ∈ R, u.oneCell' = true := by rw [hR]; simp [repC, Value.oneCell']
  obtain ⟨v, hv⟩ : ∃ c, c = repB r := ⟨_, rfl⟩
  rw [← hR, ← hv] at hchk
  simp only [← hC, ← hR] at hpl
  rw [← hC, ← hR]
  obtain ⟨res, hres⟩ : ∃ c, c = tookS s r := ⟨_, rfl⟩
  rw [← hres]
  have HH := Lib.hid h
  have HR := Lib.hid hr
  have HCHK := Lib.hid hchk
  have HPL := Lib.hid hpl
  have HC := Lib.hid hC
  have HZ6 := Lib.hid hz6
  have HC1 := Lib.hid hc1
  have HC2 := Lib.hid hc2
  have HC3 := Lib.hid hc3
  have HRR := Lib.hid hR
  have HZ7 := Lib.hid hz7
  have HR1 := Lib.hid hr1
  have HRES := Lib.hid hres
  have HN := Lib.hid hn
  have HNM := Lib.hid hnm
  have HV := Lib.hid hv
  have HI4 := Lib.hid hi4
  have HZ40 := Lib.hid hz40
  have HZ41 := Lib.hid hz41
  have HZ42 := Lib.hid hz42
  have HI24 := Lib.hid hi24
  have HY0 := Lib.hid hy0
  have HY1 := Lib.hid hy1
  have HY2 := Lib.hid hy2
  have HI3 := Lib.hid hi3
  have HX0 := Lib.hid hx0
  have HX1 := Lib.hid hx1
  have HX2 := Lib.hid hx2
  clear hx2 hx1 hx0 hi3 hy2 hy1 hy0 hi24 hz42 hz41 hz40 hi4 hv hnm hn hres hr1 hz7 hR hc3 hc2 hc1 hz6 hC hpl hchk hr h
  go_enter Try.func45, Try.ntmps45
  go_upto_region 1 with fail
  refine namedC ?_; intro W hW
  have k2 : Blk W w.heap.size 55 C := by rw [hW]; refine Blk.alloc' ?_; refine Blk.alloc' ?_; exact Blk.new w 55 C
  have k3 : Blk W (w.heap.size + 1) 24 R := by rw [hW]; refine Blk.alloc' ?_; exact Blk.new' _ 24 R (by simp)
  have k4 : Blk W (w.heap.size + 2) 55 zero55 := by rw [hW]; exact Blk.new' _ 55 zero55 (by simp)
  have hf : Frm w.heap.size [] w W := by rw [hW]; repeat (first | with_reducible exact Frm.refl _ _ _ | with_reducible refine Frm.drewN ?_ | with_reducible refine Frm.drew ?_ | ((with_reducible refine Frm.setCell' ?_ ?_); · first | (left; simp; done) | (right; simp; done) | (right; simp; omega)) | ((with_reducible refine Frm.alloc' ?_ ?_); · first | exact Nat.le_refl _ | (simp; done) | (simp; omega)))
  clear hW hf0
  have HF := Lib.hid hf
  have K2 := Lib.hid k2
  have K3 := Lib.hid k3
  have K4 := Lib.hid k4
  clear k4 k3 k2 hf
  go_wp2_with (with_reducible refine atLoad 24 rfl ?_; refine wpList_loadE rfl rfl rfl (load24 K3.out HZ7.out) ?_)
  refine (HCHK.out W HF.out).mono ?_; rintro e w1 ⟨rfl, hf1⟩
  have k2 := hf1.blk K2.out K2.out.lt (by simp)
  have k3 := hf1.blk K3.out K3.out.lt (by simp)
  have k4 := hf1.blk K4.out K4.out.lt (by simp)
  have hf := HF.out.call hf1 HF.out.size (by simp)
  clear hf1 HF K2 K3 K4
  have HF := Lib.hid hf
  have K2 := Lib.hid k2
  have K3 := Lib.hid k3
  have K4 := Lib.hid k4
  clear k4 k3 k2 hf
  clear HCHK
  cases v
  · have ht : res = (s, 0, 0, 2) := by rw [HRES.out]; unfold tookS; rw [if_pos HV.out.symm]
    subst ht
    go_wp2_with (first | (with_reducible refine atLoad 55 rfl ?_; refine wpList_loadE rfl rfl rfl (load55 K2.out HZ6.out) ?_) | (with_reducible refine atStore 55 rfl ?_; refine stop_ ?_))
    refine go_on ?_
    refine wpList_storeB (P := Try.prog) (cs := C) rfl rfl K4.out rfl rfl (by rw [HZ6.out]; rfl) (by rw [HZ6.out]; exact info55) HC1.out ?_
    have k4 := K4.out.row C
    have hf := HF.out.setRow (g := w.heap.size + 2) (.inr (by omega)) C.toArray
    generalize World.setRow w1 _ _ = w9 at k4 hf ⊢
    clear HF K4 K2 K3
    dsimp only [Act.put]
    have hi6 : (Try.prog.info? 55).map (fun i => i.size) = some C.length := by rw [HZ6.out]; exact info55
    have HF := Lib.hid hf
    have K4 := Lib.hid k4
    have HI6 := Lib.hid hi6
    clear hi6 k4 hf
    go_wp2_with fail
    refine bodyPost_ret (results_cttt Try.results45 K4.out rfl Try.underlying55 rfl HI6.out) rfl ?_
    rw [HC.out]
    exact ⟨m, rfl, RNext.stay HH.out HF.out⟩
  have hok : repB r = true := HV.out.symm
  have hpl := HPL.out hok
  clear HPL
  by_cases h5 : n = 500
  · have ht : res = (s, 0, 0, 6) := by rw [HRES.out]; unfold tookS; rw [if_neg (by rw [hok]; simp), if_pos (by rw [← HN.out]; exact h5)]
    subst ht
    subst h5
    have c2 : w1.cell? ⟨w.heap.size, 2, none⟩ = some (.slice m.ra 500 m.rc) := (K2.out.cell 2).trans HC2.out
    have HOK := Lib.hid hok
    have HPL := Lib.hid hpl
    clear hpl hok
    go_wp2_with (first | (with_reducible refine atLoad 55 rfl ?_; refine wpList_loadE rfl rfl rfl (load55 K2.out HZ6.out) ?_) | (with_reducible refine atStore 55 rfl ?_; refine stop_ ?_))
    refine go_on ?_
    clear c2
    refine wpList_storeB (P := Try.prog) (cs := C) rfl rfl K4.out rfl rfl (by rw [HZ6.out]; rfl) (by rw [HZ6.out]; exact info55) HC1.out ?_
    have k4 := K4.out.row C
    have hf := HF.out.setRow (g := w.heap.size + 2) (.inr (by omega)) C.toArray
    generalize World.setRow w1 _ _ = w9 at k4 hf ⊢
    clear HF K4 K2 K3
    dsimp only [Act.put]
    have hi6 : (Try.prog.info? 55).map (fun i => i.size) = some C.length := by rw [HZ6.out]; exact info55
    have HF := Lib.hid hf
    have K4 := Lib.hid k4
    have HI6 := Lib.hid hi6
    clear hi6 k4 hf
    go_wp2_with fail
    refine bodyPost_ret (results_cttt Try.results45 K4.out rfl Try.underlying55 rfl HI6.out) rfl ?_
    rw [HC.out]
    exact ⟨m, rfl, RNext.stay HH.out HF.out⟩
  have h5' : ¬ (n : Int) = 500 := by omega
  have h5b : ((n : Int) == 500) = false := by simp; omega
  have ht : res = (takenS s r (placeS s r).1, ((placeS s r).1 : Int), (placeS s r).2, 0) := by rw [HRES.out]; unfold tookS; rw [if_neg (by rw [hok]; simp), if_neg (by rw [← HN.out]; exact h5)]
  have hpq := place_le s r
  have hca := hpl w1 HF.out
  obtain ⟨at_, hat⟩ : ∃ c, c = (placeS s r).1 := ⟨_, rfl⟩
  obtain ⟨why, hwhy⟩ : ∃ c, c = (placeS s r).2 := ⟨_, rfl⟩
  rw [← hat, ← hwhy] at hca ht
  rw [← hat] at hpq
  have hinv : BInv (takenS s r at_) := taken_inv HH.out.inv hok (by have := HNM.out; have := HN.out; omega) hpq
  have hlen := HH.out.inv.len
  obtain ⟨n1, hn1⟩ : ∃ c, c = s.opn.length := ⟨_, rfl⟩
  have hno : n1 ≤ 500 := by have := HH.out.inv.opn; have := HNM.out; have := HN.out; omega
  rw [← hn1] at hpq
  subst ht
  have c2 : w1.cell? ⟨w.heap.size, 2, none⟩ = some (.slice m.ra n m.rc) := (K2.out.cell 2).trans HC2.out
  have hc4 : C[4]? = some (.slice m.pa n1 m.pc) := by rw [HC.out, hn1]; rfl
  clear hat hwhy hpl
  have HOK := Lib.hid hok
  have HPQ := Lib.hid hpq
  have HCA := Lib.hid hca
  have HINV := Lib.hid hinv
  have HLEN := Lib.hid hlen
  have HN1 := Lib.hid hn1
  have HNO := Lib.hid hno
  have HC4 := Lib.hid hc4
  clear hc4 hno hn1 hlen hinv hca hpq hok
  go_wp2_with (first | (with_reducible refine atLoad 24 rfl ?_; refine wpList_loadE rfl rfl rfl (load24 K3.out HZ7.out) ?_) | (with_reducible refine atLoad 55 rfl ?_; refine wpList_loadE rfl rfl rfl (load55 K2.out HZ6.out) ?_))
  clear c2
  refine HCA.out.mono ?_; rintro e w2 ⟨rfl, hf1⟩
  have k2 := hf1.blk K2.out K2.out.lt (by simp)
  have k3 := hf1.blk K3.out K3.out.lt (by simp)
  have k4 := hf1.blk K4.out K4.out.lt (by simp)
  have hf := HF.out.call hf1 HF.out.size (by simp)
  clear hf1 HF K2 K3 K4
  have HF := Lib.hid hf
  have K2 := Lib.hid k2
  have K3 := Lib.hid k3
  have K4 := Lib.hid k4
  clear k4 k3 k2 hf
  clear HCA h5' h5b
  have c4 : w2.cell? ⟨w.heap.size, 4, none⟩ = some (.slice m.pa n1 m.pc) := (K2.out.cell 4).trans HC4.out
  go_upto_region 6 with fail
  have hlt2 : w.heap.size < w2.heap.size := K2.out.lt
  have hne2a : w.heap.size ≠ w2.heap.size := Nat.ne_of_lt hlt2
  go_wp2_with (at_builtin; refine hold ?_; intro qG hG)
  refine hG.1 ?_; clear hG qG
  have hf2 := HF.out.alloc HF.out.size (Obj.cells #[] 4)
  have hrw := (HH.out.still hf2).opn
  refine wpList_append_rw rfl (.tmp 25) (.tmp 27) 52 rfl 4 i4 _ 1 1 Try.underlying52 HI4.out HZ40.out HZ41.out HZ42.out rfl _ 0 [] (some w2.heap.size) rfl (sl_buildEmpty w2 4 1) m.pa m.pb m.po n1 m.pc (boolsC s.opn) rfl (fun h0 => hrw.ad (by rw [← HN1.out]; exact h0)) (by rw [HN1.out]; simp [boolsC]) (opn_news hrw) (bools_one _) (by have := HNO.out; unfold maxLen; omega) (by have := HNO.out; omega) ?_
  intro v' w3 own' hs hf3 ho
  rw [List.nil_append, Nat.zero_add] at hs
  obtain ⟨va, vc, hva⟩ := hs.form
  subst hva
  have hlt4 := K4.out.lt
  have hfr : Frm w2.heap.size [] w2 w3 := ((Frm.refl w2.heap.size [] w2).alloc (Nat.le_refl _) _).call hf3 (by simp) (fun x hx hm => by simp at hm; omega)
  have hge : ∀ b, own' = some b → w.heap.size + 2 < b := fun b hb => by
    rcases ho with h | ⟨g, h, hg⟩
    · rw [hb] at h; cases h; exact hlt4
    · rw [hb] at h; cases h; simp at hg; omega
  have k2 := hfr.blk K2.out K2.out.lt (by simp)
  have k3 := hfr.blk K3.out K3.out.lt (by simp)
  have k4 := hfr.blk K4.out K4.out.lt (by simp)
  have hf := HF.out.call hfr HF.out.size (by simp)
  have c4 : w3.cell? ⟨w.heap.size, 4, none⟩ = some (.slice m.pa n1 m.pc) := (k2.cell 4).trans HC4.out
  have g4 := k2.free 4
  clear ho hf3 hf2 hrw hfr HF K2 K3 K4 hlt4
  have HS := Lib.hid hs
  have HGE := Lib.hid hge
  have K2 := Lib.hid k2
  have K3 := Lib.hid k3
  have K4 := Lib.hid k4
  have HF := Lib.hid hf
  clear hf k4 k3 k2 hge hs
  go_upto_region 7 with fail
  clear c4 g4
  have hmid : TMid w (w3.setCell ⟨w.heap.size, 4, none⟩ (.slice va n1 vc)) C R 24 s.opn (.slice va n1 vc) own' :=
    ⟨HF.out.setCell (p := ⟨w.heap.size, 4, none⟩) (.inr (Nat.le_refl _)) (.slice va n1 vc), K2.out.set 4 (.slice va n1 vc), K3.out.other ⟨w.heap.size, 4, none⟩ (by show w.heap.size ≠ w.heap.size + 1; omega) _, K4.out.other ⟨w.heap.size, 4, none⟩ (by show w.heap.size ≠ w.heap.size + 2; omega) _,
      by rw [← HN1.out]; exact Sl.setCell HS.out ⟨w.heap.size, 4, none⟩ (.slice va n1 vc) (fun q hq e => by have h1 := HGE.out q hq; have e2 : w.heap.size = q := e; omega), HGE.out⟩
  generalize World.setCell w3 _ _ = wA at hmid ⊢
  clear HS HGE K2 K3 K4 HF
  have hpq := HPQ.out
  by_cases ha : at_ = n1
  · subst ha
    have c4 : wA.cell? ⟨w.heap.size, 4, none⟩ = some (.slice va at_ vc) := (hmid.k2.cell 4).trans (by rw [List.getElem?_set, if_pos rfl, if_pos (by rw [HZ6.out]; omega)])
    clear hpq
    have HM := Lib.hid hmid
    clear hmid
    go_upto_region 8 with fail
    have hlt2 : w.heap.size < wA.heap.size := HM.out.k2.lt
    have hne2a : w.heap.size ≠ wA.heap.size := Nat.ne_of_lt hlt2
    go_wp2_with (at_builtin; refine hold ?_; intro qG hG)
    refine hG.1 ?_; clear hG qG
    have hso := HM.out.sl
    rw [← HN1.out] at hso
    refine wpList_append_sl _ rfl (.tmp 36) (.tmp 37) 52 rfl 4 i4 _ 1 1 Try.underlying52 HI4.out HZ40.out HZ41.out HZ42.out rfl _ _ (boolsC s.opn) own' rfl (hso.alloc _) ⟨wA.heap.size, 0, none⟩ 1 1 [.bool true] rfl rfl (news_alloc _ [.bool true] _) (by simp [Value.oneCell']) (by have := HNO.out; unfold maxLen; omega) (by have := HNO.out; omega) ?_
    intro v2 w4 own2 hs hf3 ho
    obtain ⟨va2, vc2, hva⟩ := hs.form
    subst hva
    have hsz := HM.out.k4.lt
    have hfr : Frm wA.heap.size own'.toList wA w4 := ((Frm.refl wA.heap.size own'.toList wA).alloc (Nat.le_refl _) _).call hf3 (by simp) (fun x hx hm => hm)
    have hge : ∀ b, own2 = some b → w.heap.size + 2 < b := fun b hb => by
      rcases ho with h | ⟨g, h, hg⟩
      · exact HM.out.own b (by rw [← h]; exact hb)
      · rw [hb] at h; cases h; simp at hg; omega
    have hno3 : ∀ x, x ∈ own'.toList → w.heap.size + 2 < x := fun x hx => HM.out.own x (by simpa using hx)
    have k2 := hfr.blk HM.out.k2 HM.out.k2.lt (fun hm => by have := hno3 _ hm; omega)
    have k3 := hfr.blk HM.out.k3 HM.out.k3.lt (fun hm => by have := hno3 _ hm; omega)
    have k4 := hfr.blk HM.out.k4 HM.out.k4.lt (fun hm => by have := hno3 _ hm; omega)
    have hf := HM.out.frm.call hfr HM.out.frm.size (fun x hx hm => by have := hno3 _ hm; omega)
    have c4 : w4.cell? ⟨w.heap.size, 4, none⟩ = some (.slice va at_ vc) := (k2.cell 4).trans (by rw [List.getElem?_set, if_pos rfl, if_pos (by rw [HZ6.out]; omega)])
    have g4 := k2.free 4
    clear hno3 hfr ho hf3 hso hsz
    have HS := Lib.hid hs
    have HGE := Lib.hid hge
    have K2 := Lib.hid k2
    have K3 := Lib.hid k3
    have K4 := Lib.hid k4
    have HF := Lib.hid hf
    clear hf k4 k3 k2 hge hs
    go_upto_region 9 with fail
    clear c4 g4
    have hmid : TMid w (w4.setCell ⟨w.heap.size, 4, none⟩ (.slice va2 (at_ + 1) vc2)) C R 24 (s.opn ++ [true]) (.slice va2 (at_ + 1) vc2) own2 :=
      ⟨HF.out.setCell (p := ⟨w.heap.size, 4, none⟩) (.inr (Nat.le_refl _)) (.slice va2 (at_ + 1) vc2), by have := K2.out.set 4 (.slice va2 (at_ + 1) vc2); rw [List.set_set] at this; exact this, K3.out.other ⟨w.heap.size, 4, none⟩ (by show w.heap.size ≠ w.heap.size + 1; omega) _, K4.out.other ⟨w.heap.size, 4, none⟩ (by show w.heap.size ≠ w.heap.size + 2; omega) _,
        by
          have hs := Sl.setCell HS.out ⟨w.heap.size, 4, none⟩ (.slice va2 (at_ + 1) vc2) (fun q hq e => by have h1 := HGE.out q hq; have e2 : w.heap.size = q := e; omega)
          have e : boolsC (s.opn ++ [true]) = boolsC s.opn ++ [.bool true] := by simp [boolsC]
          rw [e, List.length_append, ← HN1.out]
          exact hs, HGE.out⟩
    generalize World.setCell w4 _ _ = wB at hmid ⊢
    clear HS HGE K2 K3 K4 HF HM
    obtain ⟨l, hl⟩ : ∃ l, l = s.opn ++ [true] := ⟨_, rfl⟩
    have hlt : at_ < l.length := by rw [hl, List.length_append, ← HN1.out]; simp
    have hle : l.length ≤ 501 := by rw [hl, List.length_append, ← HN1.out]; have := HNO.out; simp; omega
    have hend : takenS s r at_ = { s with opn := l.set at_ true, reps := s.reps ++ [r], of := s.of ++ [at_] } := by unfold takenS; rw [if_pos HN1.out, hl]
    rw [← hl] at hmid
    clear hl
    have HM := Lib.hid hmid
    have HLT := Lib.hid hlt
    have HLE := Lib.hid hle
    have HEND := Lib.hid hend
    clear hend hle hlt hmid
    obtain ⟨ob, oo, oc1, ev, eown, _, _⟩ := HM.out.sl.pos (Nat.lt_of_le_of_lt (Nat.zero_le _) HLT.out)
    obtain ⟨n2, hn2⟩ : ∃ c, c = l.length := ⟨_, rfl⟩
    have hob := HM.out.own ob eown
    have hso := HM.out.sl
    rw [ev, ← hn2] at hso
    have k2 := HM.out.k2
    rw [ev, ← hn2] at k2
    have k3 := HM.out.k3
    have k4 := HM.out.k4
    have hf := HM.out.frm
    obtain ⟨C2, hC2⟩ : ∃ c, c = C.set 4 (.slice (some ⟨ob, oo, none⟩) n2 oc1) := ⟨_, rfl⟩
    rw [← hC2] at k2
    have hz62 : C2.length = 6 := by rw [hC2, List.length_set]; exact HZ6.out
    have hd2 : C2[2]? = some (.slice m.ra n m.rc) := by rw [hC2, List.getElem?_set_ne (by decide)]; exact HC2.out
    have hd3 : C2[3]? = some (.slice m.oa n m.oc) := by rw [hC2, List.getElem?_set_ne (by decide)]; exact HC3.out
    have c4 : wB.cell? ⟨w.heap.size, 4, none⟩ = some (.slice (some ⟨ob, oo, none⟩) n2 oc1) := (k2.cell 4).trans (by rw [hC2, List.getElem?_set, if_pos rfl, if_pos (by rw [HZ6.out]; omega)])
    have hln : at_ < n2 := by rw [hn2]; exact HLT.out
    have cx : ∃ x, wB.cell? ⟨ob, oo + at_, none⟩ = some (.bool x) := by
      have := hso.cell at_ (by simp only [boolsC, List.length_map]; exact HLT.out)
      rw [this]
      exact ⟨l[at_]'HLT.out, by simp only [boolsC, List.getElem?_map, List.getElem?_eq_getElem HLT.out, Option.map_some]⟩
    obtain ⟨x, cx⟩ := cx
    have gx := hso.free (oo + at_)
    have hs2 := hso.set1 at_ (by simp only [boolsC, List.length_map]; exact HLT.out) (.bool true)
    have k2' := k2.other ⟨ob, oo + at_, none⟩ (by show ob ≠ w.heap.size; omega) (.bool true)
    have k3' := k3.other ⟨ob, oo + at_, none⟩ (by show ob ≠ w.heap.size + 1; omega) (.bool true)
    have k4' := k4.other ⟨ob, oo + at_, none⟩ (by show ob ≠ w.heap.size + 2; omega) (.bool true)
    have hf' := hf.setCell (p := ⟨ob, oo + at_, none⟩) (.inr (by show w.heap.size ≤ ob; omega)) (.bool true)
    have hlt' : (at_ : Int) < (n2 : Int) := by omega
    clear hso k2 k3 k4 hf ev eown HM
    have HS := Lib.hid hs2
    have K2 := Lib.hid k2'
    have K3 := Lib.hid k3'
    have K4 := Lib.hid k4'
    have HF := Lib.hid hf'
    have HOB := Lib.hid hob
    have HC2E := Lib.hid hC2
    have HZ62 := Lib.hid hz62
    have HD2 := Lib.hid hd2
    have HD3 := Lib.hid hd3
    have HN2 := Lib.hid hn2
    have HLN := Lib.hid hln
    clear hln hn2 hd3 hd2 hz62 hC2 hob hf' k4' k3' k2' hs2
    go_upto_region 10 with fail
    clear c4 cx gx hlt'
    have hs := HS.out
    have k2 := K2.out
    have k3 := K3.out
    have k4 := K4.out
    have hf := HF.out
    generalize World.setCell wB _ _ = wC at hs k2 k3 k4 hf ⊢
    clear HS K2 K3 K4 HF
    obtain ⟨l2, hl2⟩ : ∃ c, c = l.set at_ true := ⟨_, rfl⟩
    have hn2' : n2 = l2.length := by rw [hl2, List.length_set]; exact HN2.out
    have e : boolsC l2 = (boolsC l).set at_ (.bool true) := by rw [hl2]; simp [boolsC, List.map_set]
    rw [← e] at hs
    have hopn := opn_rw hn2' hs
    have hend := HEND.out
    rw [← hl2] at hend
    obtain ⟨f, hff⟩ : ∃ f : Nat → List Value, f = fun i => repC (s.rp i) (m.wa i) (m.wc i) := ⟨_, rfl⟩
    have hrr : ∀ V, Frm w.heap.size [] w V → Rw V 7 m.ra m.rb m.ro n f := fun V hV => by rw [hff, HN.out]; exact (HH.out.still hV).reps
    have hfl : ∀ i, (f i).length = 7 := fun i => by rw [hff]; rfl
    have hfo : ∀ u ∈ (List.range n).flatMap f, u.oneCell' = true := by
      intro u hu
      simp only [List.mem_flatMap] at hu
      obtain ⟨i, _, hi⟩ := hu
      rw [hff] at hi
      simp only [repC, List.mem_cons, List.not_mem_nil, or_false] at hi
      rcases hi with rfl | rfl | rfl | rfl | rfl | rfl | rfl <;> rfl
    clear hs e hl2 HEND HN2 HLT HLE HLN
    have K2 := Lib.hid k2
    have K3 := Lib.hid k3
    have K4 := Lib.hid k4
    have HF := Lib.hid hf
    have HOPN := Lib.hid hopn
    have HN2 := Lib.hid hn2'
    have HEND := Lib.hid hend
    have HRW := Lib.hid hrr
    have HFL := Lib.hid hfl
    have HFO := Lib.hid hfo
    have HFF := Lib.hid hff
    clear hff hfo hfl hrr hend hn2' hopn hf k4 k3 k2
    go_cut [51] from 44 to 51 (fun s51 w' => ∃ rb ro rc, Frm w.heap.size [] w w' ∧ Blk w' w.heap.size 55 (C2.set 2 (.slice (some ⟨rb, ro, none⟩) (n + 1) rc)) ∧ Blk w' (w.heap.size + 2) 55 zero55 ∧ Rw w' 1 (some ⟨ob, oo, none⟩) ob oo l2.length (fun i => [.bool (l2.getD i false)]) ∧ Rw w' 7 (some ⟨rb, ro, none⟩) rb ro (n + 1) (fun i => if i < n then f i else R) ∧ w.heap.size + 2 < rb)
    case first =>
      have hfx : ∀ V, Frm wC.heap.size [] wC V → V.cell? ⟨w.heap.size, 2, none⟩ = some (.slice m.ra n m.rc) ∧ True := fun V hV => ⟨((hV.blk K2.out K2.out.lt (by simp)).cell 2).trans HD2.out, trivial⟩
      have hl24 : ∀ V, Frm wC.heap.size [] wC V → (loadVar 24 ⟨w.heap.size + 1, 0, none⟩).run Try.prog V = .ok (.agg #[.int .i64 r.kind, .int .i64 r.time, .string r.src, .string r.abt, .slice ad r.wh.length cap, .int .i64 r.souls, .int .i64 r.trust]) V := fun V hV => by have g := load24 (hV.blk K3.out K3.out.lt (by simp)) HZ7.out; rw [HRR.out] at g; exact g
      have hrC : ∀ V, Frm wC.heap.size [] wC V → Rw V 7 m.ra m.rb m.ro n f := fun V hV => HRW.out V (HF.out.call hV HF.out.size (by simp))
      have HFX := Lib.hid hfx
      have HL24 := Lib.hid hl24
      have HRC := Lib.hid hrC
      clear hrC hl24 hfx
      refine wp_region_leftL (fun V => Frm wC.heap.size [] wC V) 8 (by kernel_rfl) ?_
      have hS : Frm wC.heap.size [] wC wC.drew := (Frm.refl _ _ wC).drew
      have HS := Lib.hid hS
      clear hS
      have hS := HS.out
      obtain ⟨wD, hwD⟩ : ∃ V, V = wC.drew := ⟨_, rfl⟩
      rw [← hwD] at hS ⊢
      clear hwD HS
      have HS := Lib.hid hS
      clear hS
      first | (refine LeftL.tkG (v := ?_) 1 rfl HS.out ?_ ?_; rotate_left; · intro V hV; obtain ⟨z1, z2⟩ := HFX.out V hV; clear hV; go_simp; rfl) | refine LeftL.tkN 1 rfl HS.out ?_
      (intro K h; go_simp; refine h _ ?_; clear h K)
      first | (refine LeftL.tkG (v := ?_) 2 rfl HS.out ?_ ?_; rotate_left; · intro V hV; obtain ⟨z1, z2⟩ := HFX.out V hV; clear hV; go_simp; rfl) | refine LeftL.tkN 2 rfl HS.out ?_
      (intro K h; go_simp; refine h _ ?_; clear h K)
      refine LeftL.take 4 rfl (by kernel_rfl) (fun _ _ d _ _ h => by cases d <;> exact h) (yields_loadE (ty := 24) rfl rfl rfl (HL24.out)) HS.out ?_; (intro K' hK'; go_simp; refine hK' _ ?_; clear hK' K')
      refine LeftL.two 0 5 rfl rfl (by kernel_rfl) ?_ ?_
      · go_wp2_with fail
        have hS := HS.out.alloc HS.out.size (Obj.cells #[] 24)
        have hsl := sl_buildEmpty wD 24 7
        obtain ⟨wE, hwG⟩ : ∃ V, V = wD.alloc (Obj.cells #[] 24) := ⟨_, rfl⟩
        rw [← hwG] at hS hsl ⊢
        have hwE : wE.heap.size = wD.heap.size + 1 := by rw [hwG]; simp
        have hfE : Frm wD.heap.size [] wD wE := by rw [hwG]; exact (Frm.refl _ _ _).alloc (Nat.le_refl _) _
        first | refine ⟨fun _ => hS, ?_⟩ | refine ⟨hS, ?_⟩
        have hdC := HS.out.size
        clear hwG HS
        have HS := Lib.hid hS
        have HSL := Lib.hid hsl
        have HWE := Lib.hid hwE
        have HDC := Lib.hid hdC
        clear hdC hwE hsl hS
        clear hfE
        refine LeftL.two 3 5 rfl rfl (by kernel_rfl) ?_ ?_
        · have hrA := HRC.out wE HS.out
          refine wpList_append_rw rfl (.tmp 44) (.tmp 46) 51 rfl 24 i24 _ 7 88 Try.underlying51 HI24.out HY0.out HY1.out HY2.out rfl _ 0 [] _ rfl HSL.out m.ra m.rb m.ro n m.rc ((List.range n).flatMap f) rfl hrA.ad (flat_len HFL.out n) (hrA.cells HFL.out (by decide)) HFO.out (by have := HNM.out; unfold maxLen; omega) (by have := HNM.out; omega) ?_
          intro v3 wF own3 hsl hfA hoA
          rw [List.nil_append, Nat.zero_add] at hsl
          refine wpList_nil ?_
          dsimp only [Act.put]
          have hdC := HDC.out
          have hown : ∀ g, own3 = some g → wC.heap.size ≤ g := fun g hg => by
            rcases hoA with h | ⟨x, h, hx⟩
            · rw [hg] at h; cases h; exact hdC
            · rw [hg] at h; cases h; exact Nat.le_trans HS.out.size hx
          have hS := HS.out.call hfA HS.out.size (fun x hx hm => absurd hx (by have e : x = wD.heap.size := (by simpa using hm); omega))
          first | refine ⟨fun _ => hS, ?_⟩ | refine ⟨hS, ?_⟩
          clear HSL HS hoA hrA hdC
          have HS := Lib.hid hS
          have HSL := Lib.hid hsl
          have HOWN := Lib.hid hown
          clear hown hsl hS
          refine LeftL.one 5 rfl (by kernel_rfl) ?_
          go_wp2_with fail
          have hS := HS.out.alloc HS.out.size (Obj.cells #[.int .i64 r.kind, .int .i64 r.time, .string r.src, .string r.abt, .slice ad r.wh.length cap, .int .i64 r.souls, .int .i64 r.trust] 24)
          obtain ⟨wG, hwG⟩ : ∃ V, V = wF.alloc (Obj.cells #[.int .i64 r.kind, .int .i64 r.time, .string r.src, .string r.abt, .slice ad r.wh.length cap, .int .i64 r.souls, .int .i64 r.trust] 24) := ⟨_, rfl⟩
          have hnews : ∀ j u, R[j]? = some u → wG.cell? ((⟨wF.heap.size, 0, none⟩ : Addr).add j) = some u := by rw [hwG, HRR.out]; exact news_alloc wF (repC r ad cap) 24
          rw [← hwG] at hS ⊢
          first | refine ⟨fun _ => hS, ?_⟩ | refine ⟨hS, ?_⟩
          clear HS
          have HS := Lib.hid hS
          have HNEWS := Lib.hid hnews
          clear hnews hS
          have hsl := HSL.out.alloc (Obj.cells #[.int .i64 r.kind, .int .i64 r.time, .string r.src, .string r.abt, .slice ad r.wh.length cap, .int .i64 r.souls, .int .i64 r.trust] 24)
          rw [← hwG] at hsl
          clear hwG HSL
          have HSL := Lib.hid hsl
          clear hsl
          clear HWE HDC
          refine LeftL.one 6 rfl (by kernel_rfl) ?_
          refine wpList_append_sl _ rfl (.tmp 47) (.tmp 49) 51 rfl 24 i24 _ 7 88 Try.underlying51 HI24.out HY0.out HY1.out HY2.out rfl _ n _ own3 rfl HSL.out ⟨wF.heap.size, 0, none⟩ 1 1 R rfl (by rw [HZ7.out]) HNEWS.out HR1.out (by have := HNM.out; unfold maxLen; omega) (by have := HNM.out; omega) ?_
          intro v4 wH own4 hs4 hf4 ho4
          refine wpList_nil ?_
          dsimp only [Act.put]
          obtain ⟨rb, ro, rc, hv4, hown4, hrw4⟩ := Rw.snoc HZ7.out HFL.out hs4
          subst hv4
          have hS := HS.out.call hf4 HS.out.size (fun x hx hm => absurd hx (by have e := HOWN.out x (by simpa using hm); omega))
          have hk4l := K4.out.lt
          have hrb : w.heap.size + 2 < rb := by
            rcases ho4 with h | ⟨x, h, hx⟩
            · have := HOWN.out rb (by rw [← h]; exact hown4); omega
            · rw [hown4] at h; cases h; have := HS.out.size; omega
          have k2 := hS.blk K2.out K2.out.lt (by simp)
          have k4 := hS.blk K4.out K4.out.lt (by simp)
          have hopn := HOPN.out.frm hS (Nat.le_refl _)
          have hf := HF.out.call hS HF.out.size (by simp)
          have c2 := (k2.cell 2).trans HD2.out
          have g2 := k2.free 2
          first | refine ⟨fun _ => hS, ?_⟩ | refine ⟨hS, ?_⟩
          clear hs4 hf4 ho4 hown4 hk4l HS HSL HOWN HNEWS HFX HL24 HRC
          have HS := Lib.hid hS
          have HR4 := Lib.hid hrw4
          have HRB := Lib.hid hrb
          have KK2 := Lib.hid k2
          have KK4 := Lib.hid k4
          have HO4 := Lib.hid hopn
          have HF4 := Lib.hid hf
          clear hf hopn k4 k2 hrb hrw4 hS
          refine LeftL.one 7 rfl (by kernel_rfl) ?_
          go_wp2_with fail
          first | refine ⟨fun _ => HS.out, ?_⟩ | refine ⟨HS.out, ?_⟩
          refine LeftL.one 8 rfl (by kernel_rfl) ?_
          go_wp2_with fail
          clear c2 g2
          have hfin : Frm w.heap.size [] w (wH.setCell ⟨w.heap.size, 2, none⟩ (.slice (some ⟨rb, ro, none⟩) (n + 1) rc)) ∧ Blk (wH.setCell ⟨w.heap.size, 2, none⟩ (.slice (some ⟨rb, ro, none⟩) (n + 1) rc)) w.heap.size 55 (C2.set 2 (.slice (some ⟨rb, ro, none⟩) (n + 1) rc)) ∧ Blk (wH.setCell ⟨w.heap.size, 2, none⟩ (.slice (some ⟨rb, ro, none⟩) (n + 1) rc)) (w.heap.size + 2) 55 zero55 ∧ Rw (wH.setCell ⟨w.heap.size, 2, none⟩ (.slice (some ⟨rb, ro, none⟩) (n + 1) rc)) 1 (some ⟨ob, oo, none⟩) ob oo l2.length (fun i => [.bool (l2.getD i false)]) ∧ Rw (wH.setCell ⟨w.heap.size, 2, none⟩ (.slice (some ⟨rb, ro, none⟩) (n + 1) rc)) 7 (some ⟨rb, ro, none⟩) rb ro (n + 1) (fun i => if i < n then f i else R) ∧ w.heap.size + 2 < rb := by
            have g := (Frm.refl wH.heap.size [w.heap.size] wH).setCell (p := ⟨w.heap.size, 2, none⟩) (.inl (by simp)) (.slice (some ⟨rb, ro, none⟩) (n + 1) rc)
            refine ⟨HF4.out.setCell (p := ⟨w.heap.size, 2, none⟩) (.inr (Nat.le_refl _)) _, KK2.out.set 2 _, KK4.out.other ⟨w.heap.size, 2, none⟩ (by show w.heap.size ≠ w.heap.size + 2; omega) _, ?_, ?_, HRB.out⟩
            · exact HO4.out.frmS g (by have := HOB.out; simp; omega)
            · exact HR4.out.frmS g (by have := HRB.out; simp; omega)
          generalize World.setCell wH _ _ = wI at hfin ⊢
          first | refine ⟨fun h => absurd rfl h, ?_⟩ | skip
          refine LeftL.done (by kernel_rfl) ?_
          clear HS HR4 HRB KK2 KK4 HO4 HF4
          have HFIN := Lib.hid hfin
          clear hfin
          go_wp2_with fail
          go_meet
          case rel => exact ⟨rb, ro, rc, HFIN.out⟩
        · go_wp2_with fail
          have hS := HS.out.alloc HS.out.size (Obj.cells #[.int .i64 r.kind, .int .i64 r.time, .string r.src, .string r.abt, .slice ad r.wh.length cap, .int .i64 r.souls, .int .i64 r.trust] 24)
          obtain ⟨wF, hwG⟩ : ∃ V, V = wE.alloc (Obj.cells #[.int .i64 r.kind, .int .i64 r.time, .string r.src, .string r.abt, .slice ad r.wh.length cap, .int .i64 r.souls, .int .i64 r.trust] 24) := ⟨_, rfl⟩
          have hnews : ∀ j u, R[j]? = some u → wF.cell? ((⟨wE.heap.size, 0, none⟩ : Addr).add j) = some u := by rw [hwG, HRR.out]; exact news_alloc wE (repC r ad cap) 24
          rw [← hwG] at hS ⊢
          first | refine ⟨fun _ => hS, ?_⟩ | refine ⟨hS, ?_⟩
          clear HS
          have HS := Lib.hid hS
          have HNEWS := Lib.hid hnews
          clear hnews hS
          have hsl := HSL.out.alloc (Obj.cells #[.int .i64 r.kind, .int .i64 r.time, .string r.src, .string r.abt, .slice ad r.wh.length cap, .int .i64 r.souls, .int .i64 r.trust] 24)
          rw [← hwG] at hsl
          have hwF : wF.heap.size = wE.heap.size + 1 := by rw [hwG]; simp
          clear hwG HSL
          have HSL := Lib.hid hsl
          clear hsl
          refine LeftL.one 3 rfl (by kernel_rfl) ?_
          have hrA := HRC.out wF HS.out
          refine wpList_append_rw rfl (.tmp 44) (.tmp 46) 51 rfl 24 i24 _ 7 88 Try.underlying51 HI24.out HY0.out HY1.out HY2.out rfl _ 0 [] _ rfl HSL.out m.ra m.rb m.ro n m.rc ((List.range n).flatMap f) rfl hrA.ad (flat_len HFL.out n) (hrA.cells HFL.out (by decide)) HFO.out (by have := HNM.out; unfold maxLen; omega) (by have := HNM.out; omega) ?_
          intro v3 wG own3 hsl hfA hoA
          rw [List.nil_append, Nat.zero_add] at hsl
          refine wpList_nil ?_
          dsimp only [Act.put]
          have hdC := HDC.out
          have hown : ∀ g, own3 = some g → wC.heap.size ≤ g := fun g hg => by
            rcases hoA with h | ⟨x, h, hx⟩
            · rw [hg] at h; cases h; exact hdC
            · rw [hg] at h; cases h; exact Nat.le_trans HS.out.size hx
          have hS := HS.out.call hfA HS.out.size (fun x hx hm => absurd hx (by have e : x = wD.heap.size := (by simpa using hm); omega))
          first | refine ⟨fun _ => hS, ?_⟩ | refine ⟨hS, ?_⟩
          clear HSL HS hoA hrA hdC
          have HS := Lib.hid hS
          have HSL := Lib.hid hsl
          have HOWN := Lib.hid hown
          clear hown hsl hS
          have hnews : ∀ j u, R[j]? = some u → wG.cell? ((⟨wE.heap.size, 0, none⟩ : Addr).add j) = some u := fun j u hj => by
            have hadd : (⟨wE.heap.size, 0, none⟩ : Addr).add j = ⟨wE.heap.size, j, none⟩ := by unfold Addr.add; split <;> simp_all
            have h1 := HNEWS.out j u hj
            rw [hadd] at h1 ⊢
            rw [hfA.cell (p := ⟨wE.heap.size, j, none⟩) (by show wE.heap.size < wF.heap.size; omega) (by rw [HWE.out]; simp)]
            exact h1
          clear HNEWS hfA hwF
          have HNEWS := Lib.hid hnews
          clear hnews
          clear HWE HDC
          refine LeftL.one 6 rfl (by kernel_rfl) ?_
          refine wpList_append_sl _ rfl (.tmp 47) (.tmp 49) 51 rfl 24 i24 _ 7 88 Try.underlying51 HI24.out HY0.out HY1.out HY2.out rfl _ n _ own3 rfl HSL.out ⟨wE.heap.size, 0, none⟩ 1 1 R rfl (by rw [HZ7.out]) HNEWS.out HR1.out (by have := HNM.out; unfold maxLen; omega) (by have := HNM.out; omega) ?_
          intro v4 wH own4 hs4 hf4 ho4
          refine wpList_nil ?_
          dsimp only [Act.put]
          obtain ⟨rb, ro, rc, hv4, hown4, hrw4⟩ := Rw.snoc HZ7.out HFL.out hs4
          subst hv4
          have hS := HS.out.call hf4 HS.out.size (fun x hx hm => absurd hx (by have e := HOWN.out x (by simpa using hm); omega))
          have hk4l := K4.out.lt
          have hrb : w.heap.size + 2 < rb := by
            rcases ho4 with h | ⟨x, h, hx⟩
            · have := HOWN.out rb (by rw [← h]; exact hown4); omega
            · rw [hown4] at h; cases h; have := HS.out.size; omega
          have k2 := hS.blk K2.out K2.out.lt (by simp)
          have k4 := hS.blk K4.out K4.out.lt (by simp)
          have hopn := HOPN.out.frm hS (Nat.le_refl _)
          have hf := HF.out.call hS HF.out.size (by simp)
          have c2 := (k2.cell 2).trans HD2.out
          have g2 := k2.free 2
          first | refine ⟨fun _ => hS, ?_⟩ | refine ⟨hS, ?_⟩
          clear hs4 hf4 ho4 hown4 hk4l HS HSL HOWN HNEWS HFX HL24 HRC
          have HS := Lib.hid hS
          have HR4 := Lib.hid hrw4
          have HRB := Lib.hid hrb
          have KK2 := Lib.hid k2
          have KK4 := Lib.hid k4
          have HO4 := Lib.hid hopn
          have HF4 := Lib.hid hf
          clear hf hopn k4 k2 hrb hrw4 hS
          refine LeftL.one 7 rfl (by kernel_rfl) ?_
          go_wp2_with fail
          first | refine ⟨fun _ => HS.out, ?_⟩ | refine ⟨HS.out, ?_⟩
          refine LeftL.one 8 rfl (by kernel_rfl) ?_
          go_wp2_with fail
          clear c2 g2
          have hfin : Frm w.heap.size [] w (wH.setCell ⟨w.heap.size, 2, none⟩ (.slice (some ⟨rb, ro, none⟩) (n + 1) rc)) ∧ Blk (wH.setCell ⟨w.heap.size, 2, none⟩ (.slice (some ⟨rb, ro, none⟩) (n + 1) rc)) w.heap.size 55 (C2.set 2 (.slice (some ⟨rb, ro, none⟩) (n + 1) rc)) ∧ Blk (wH.setCell ⟨w.heap.size, 2, none⟩ (.slice (some ⟨rb, ro, none⟩) (n + 1) rc)) (w.heap.size + 2) 55 zero55 ∧ Rw (wH.setCell ⟨w.heap.size, 2, none⟩ (.slice (some ⟨rb, ro, none⟩) (n + 1) rc)) 1 (some ⟨ob, oo, none⟩) ob oo l2.length (fun i => [.bool (l2.getD i false)]) ∧ Rw (wH.setCell ⟨w.heap.size, 2, none⟩ (.slice (some ⟨rb, ro, none⟩) (n + 1) rc)) 7 (some ⟨rb, ro, none⟩) rb ro (n + 1) (fun i => if i < n then f i else R) ∧ w.heap.size + 2 < rb := by
            have g := (Frm.refl wH.heap.size [w.heap.size] wH).setCell (p := ⟨w.heap.size, 2, none⟩) (.inl (by simp)) (.slice (some ⟨rb, ro, none⟩) (n + 1) rc)
            refine ⟨HF4.out.setCell (p := ⟨w.heap.size, 2, none⟩) (.inr (Nat.le_refl _)) _, KK2.out.set 2 _, KK4.out.other ⟨w.heap.size, 2, none⟩ (by show w.heap.size ≠ w.heap.size + 2; omega) _, ?_, ?_, HRB.out⟩
            · exact HO4.out.frmS g (by have := HOB.out; simp; omega)
            · exact HR4.out.frmS g (by have := HRB.out; simp; omega)
          generalize World.setCell wH _ _ = wI at hfin ⊢
          first | refine ⟨fun h => absurd rfl h, ?_⟩ | skip
          refine LeftL.done (by kernel_rfl) ?_
          clear HS HR4 HRB KK2 KK4 HO4 HF4
          have HFIN := Lib.hid hfin
          clear hfin
          go_wp2_with fail
          go_meet
          case rel => exact ⟨rb, ro, rc, HFIN.out⟩
      · go_wp2_with fail
        have hS := HS.out.alloc HS.out.size (Obj.cells #[.int .i64 r.kind, .int .i64 r.time, .string r.src, .string r.abt, .slice ad r.wh.length cap, .int .i64 r.souls, .int .i64 r.trust] 24)
        obtain ⟨wE, hwG⟩ : ∃ V, V = wD.alloc (Obj.cells #[.int .i64 r.kind, .int .i64 r.time, .string r.src, .string r.abt, .slice ad r.wh.length cap, .int .i64 r.souls, .int .i64 r.trust] 24) := ⟨_, rfl⟩
        have hnews : ∀ j u, R[j]? = some u → wE.cell? ((⟨wD.heap.size, 0, none⟩ : Addr).add j) = some u := by rw [hwG, HRR.out]; exact news_alloc wD (repC r ad cap) 24
        rw [← hwG] at hS ⊢
        first | refine ⟨fun _ => hS, ?_⟩ | refine ⟨hS, ?_⟩
        clear HS
        have HS := Lib.hid hS
        have HNEWS := Lib.hid hnews
        clear hnews hS
        have hwD2 : wE.heap.size = wD.heap.size + 1 := by rw [hwG]; simp
        clear hwG
        have HWD2 := Lib.hid hwD2
        clear hwD2
        refine LeftL.one 0 rfl (by kernel_rfl) ?_
        go_wp2_with fail
        have hS := HS.out.alloc HS.out.size (Obj.cells #[] 24)
        have hsl := sl_buildEmpty wE 24 7
        obtain ⟨wF, hwG⟩ : ∃ V, V = wE.alloc (Obj.cells #[] 24) := ⟨_, rfl⟩
        rw [← hwG] at hS hsl ⊢
        have hwE : wF.heap.size = wE.heap.size + 1 := by rw [hwG]; simp
        have hfE : Frm wE.heap.size [] wE wF := by rw [hwG]; exact (Frm.refl _ _ _).alloc (Nat.le_refl _) _
        first | refine ⟨fun _ => hS, ?_⟩ | refine ⟨hS, ?_⟩
        have hdC := HS.out.size
        clear hwG HS
        have HS := Lib.hid hS
        have HSL := Lib.hid hsl
        have HWE := Lib.hid hwE
        have HDC := Lib.hid hdC
        clear hdC hwE hsl hS
        have hnews : ∀ j u, R[j]? = some u → wF.cell? ((⟨wD.heap.size, 0, none⟩ : Addr).add j) = some u := fun j u hj => by
          have hadd : (⟨wD.heap.size, 0, none⟩ : Addr).add j = ⟨wD.heap.size, j, none⟩ := by unfold Addr.add; split <;> simp_all
          have h1 := HNEWS.out j u hj
          rw [hadd] at h1 ⊢
          rw [hfE.cell (p := ⟨wD.heap.size, j, none⟩) (by have := HWD2.out; show wD.heap.size < wE.heap.size; omega) (by simp)]
          exact h1
        clear HNEWS hfE
        have HNEWS := Lib.hid hnews
        clear hnews
        refine LeftL.one 3 rfl (by kernel_rfl) ?_
        have hrA := HRC.out wF HS.out
        refine wpList_append_rw rfl (.tmp 44) (.tmp 46) 51 rfl 24 i24 _ 7 88 Try.underlying51 HI24.out HY0.out HY1.out HY2.out rfl _ 0 [] _ rfl HSL.out m.ra m.rb m.ro n m.rc ((List.range n).flatMap f) rfl hrA.ad (flat_len HFL.out n) (hrA.cells HFL.out (by decide)) HFO.out (by have := HNM.out; unfold maxLen; omega) (by have := HNM.out; omega) ?_
        intro v3 wG own3 hsl hfA hoA
        rw [List.nil_append, Nat.zero_add] at hsl
        refine wpList_nil ?_
        dsimp only [Act.put]
        have hdC := HDC.out
        have hown : ∀ g, own3 = some g → wC.heap.size ≤ g := fun g hg => by
          rcases hoA with h | ⟨x, h, hx⟩
          · rw [hg] at h; cases h; exact hdC
          · rw [hg] at h; cases h; exact Nat.le_trans HS.out.size hx
        have hS := HS.out.call hfA HS.out.size (fun x hx hm => absurd hx (by have e : x = wE.heap.size := (by simpa using hm); omega))
        first | refine ⟨fun _ => hS, ?_⟩ | refine ⟨hS, ?_⟩
        clear HSL HS hoA hrA hdC
        have HS := Lib.hid hS
        have HSL := Lib.hid hsl
        have HOWN := Lib.hid hown
        clear hown hsl hS
        have hnews : ∀ j u, R[j]? = some u → wG.cell? ((⟨wD.heap.size, 0, none⟩ : Addr).add j) = some u := fun j u hj => by
          have hadd : (⟨wD.heap.size, 0, none⟩ : Addr).add j = ⟨wD.heap.size, j, none⟩ := by unfold Addr.add; split <;> simp_all
          have h1 := HNEWS.out j u hj
          rw [hadd] at h1 ⊢
          rw [hfA.cell (p := ⟨wD.heap.size, j, none⟩) (by have := HWD2.out; have := HWE.out; show wD.heap.size < wF.heap.size; omega) (by have := HWD2.out; simp; omega)]
          exact h1
        clear HNEWS hfA HWD2
        have HNEWS := Lib.hid hnews
        clear hnews
        clear HWE HDC
        refine LeftL.one 6 rfl (by kernel_rfl) ?_
        refine wpList_append_sl _ rfl (.tmp 47) (.tmp 49) 51 rfl 24 i24 _ 7 88 Try.underlying51 HI24.out HY0.out HY1.out HY2.out rfl _ n _ own3 rfl HSL.out ⟨wD.heap.size, 0, none⟩ 1 1 R rfl (by rw [HZ7.out]) HNEWS.out HR1.out (by have := HNM.out; unfold maxLen; omega) (by have := HNM.out; omega) ?_
        intro v4 wH own4 hs4 hf4 ho4
        refine wpList_nil ?_
        dsimp only [Act.put]
        obtain ⟨rb, ro, rc, hv4, hown4, hrw4⟩ := Rw.snoc HZ7.out HFL.out hs4
        subst hv4
        have hS := HS.out.call hf4 HS.out.size (fun x hx hm => absurd hx (by have e := HOWN.out x (by simpa using hm); omega))
        have hk4l := K4.out.lt
        have hrb : w.heap.size + 2 < rb := by
          rcases ho4 with h | ⟨x, h, hx⟩
          · have := HOWN.out rb (by rw [← h]; exact hown4); omega
          · rw [hown4] at h; cases h; have := HS.out.size; omega
        have k2 := hS.blk K2.out K2.out.lt (by simp)
        have k4 := hS.blk K4.out K4.out.lt (by simp)
        have hopn := HOPN.out.frm hS (Nat.le_refl _)
        have hf := HF.out.call hS HF.out.size (by simp)
        have c2 := (k2.cell 2).trans HD2.out
        have g2 := k2.free 2
        first | refine ⟨fun _ => hS, ?_⟩ | refine ⟨hS, ?_⟩
        clear hs4 hf4 ho4 hown4 hk4l HS HSL HOWN HNEWS HFX HL24 HRC
        have HS := Lib.hid hS
        have HR4 := Lib.hid hrw4
        have HRB := Lib.hid hrb
        have KK2 := Lib.hid k2
        have KK4 := Lib.hid k4
        have HO4 := Lib.hid hopn
        have HF4 := Lib.hid hf
        clear hf hopn k4 k2 hrb hrw4 hS
        refine LeftL.one 7 rfl (by kernel_rfl) ?_
        go_wp2_with fail
        first | refine ⟨fun _ => HS.out, ?_⟩ | refine ⟨HS.out, ?_⟩
        refine LeftL.one 8 rfl (by kernel_rfl) ?_
        go_wp2_with fail
        clear c2 g2
        have hfin : Frm w.heap.size [] w (wH.setCell ⟨w.heap.size, 2, none⟩ (.slice (some ⟨rb, ro, none⟩) (n + 1) rc)) ∧ Blk (wH.setCell ⟨w.heap.size, 2, none⟩ (.slice (some ⟨rb, ro, none⟩) (n + 1) rc)) w.heap.size 55 (C2.set 2 (.slice (some ⟨rb, ro, none⟩) (n + 1) rc)) ∧ Blk (wH.setCell ⟨w.heap.size, 2, none⟩ (.slice (some ⟨rb, ro, none⟩) (n + 1) rc)) (w.heap.size + 2) 55 zero55 ∧ Rw (wH.setCell ⟨w.heap.size, 2, none⟩ (.slice (some ⟨rb, ro, none⟩) (n + 1) rc)) 1 (some ⟨ob, oo, none⟩) ob oo l2.length (fun i => [.bool (l2.getD i false)]) ∧ Rw (wH.setCell ⟨w.heap.size, 2, none⟩ (.slice (some ⟨rb, ro, none⟩) (n + 1) rc)) 7 (some ⟨rb, ro, none⟩) rb ro (n + 1) (fun i => if i < n then f i else R) ∧ w.heap.size + 2 < rb := by
          have g := (Frm.refl wH.heap.size [w.heap.size] wH).setCell (p := ⟨w.heap.size, 2, none⟩) (.inl (by simp)) (.slice (some ⟨rb, ro, none⟩) (n + 1) rc)
          refine ⟨HF4.out.setCell (p := ⟨w.heap.size, 2, none⟩) (.inr (Nat.le_refl _)) _, KK2.out.set 2 _, KK4.out.other ⟨w.heap.size, 2, none⟩ (by show w.heap.size ≠ w.heap.size + 2; omega) _, ?_, ?_, HRB.out⟩
          · exact HO4.out.frmS g (by have := HOB.out; simp; omega)
          · exact HR4.out.frmS g (by have := HRB.out; simp; omega)
        generalize World.setCell wH _ _ = wI at hfin ⊢
        first | refine ⟨fun h => absurd rfl h, ?_⟩ | skip
        refine LeftL.done (by kernel_rfl) ?_
        clear HS HR4 HRB KK2 KK4 HO4 HF4
        have HFIN := Lib.hid hfin
        clear hfin
        go_wp2_with fail
        go_meet
        case rel => exact ⟨rb, ro, rc, HFIN.out⟩
    obtain ⟨rb, ro, rc, hf, k2, k4, hopn, hreps, hrb⟩ := hcut
    obtain ⟨wJ, hwJ⟩ : ∃ V, V = wc := ⟨_, rfl⟩
    rw [← hwJ] at hf k2 k4 hopn hreps ⊢
    clear hwJ HRW K2 K3 K4 HF HOPN HFO HFL HD2
    obtain ⟨C3, hC3⟩ : ∃ c, c = C2.set 2 (.slice (some ⟨rb, ro, none⟩) (n + 1) rc) := ⟨_, rfl⟩
    rw [← hC3] at k2
    have hd3 : C3[3]? = some (.slice m.oa n m.oc) := by rw [hC3, List.getElem?_set_ne (by decide)]; exact HD3.out
    have hz63 : C3.length = 6 := by rw [hC3, List.length_set]; exact HZ62.out
    have c3 := (k2.cell 3).trans hd3
    have hlt2 : w.heap.size < wJ.heap.size := k2.lt
    have hne2a : w.heap.size ≠ wJ.heap.size := Nat.ne_of_lt hlt2
    rw [HFF.out] at hreps
    clear HFF HD3
    have HF := Lib.hid hf
    have K2 := Lib.hid k2
    have K4 := Lib.hid k4
    have HOPN := Lib.hid hopn
    have HREPS := Lib.hid hreps
    have HRB := Lib.hid hrb
    have HC3E := Lib.hid hC3
    have HD3 := Lib.hid hd3
    have HZ63 := Lib.hid hz63
    clear hz63 hd3 hC3 hrb hreps hopn k4 k2 hf
    go_wp2_with (at_builtin; refine hold ?_; intro qG hG)
    refine hG.1 ?_; clear hG qG
    have hrw := (HH.out.still (HF.out.alloc HF.out.size (Obj.cells #[] 3))).of
    rw [← HN.out] at hrw
    refine wpList_append_rw rfl (.tmp 52) (.tmp 54) 42 rfl 3 i3 _ 1 8 Try.underlying42 HI3.out HX0.out HX1.out HX2.out rfl _ 0 [] (some wJ.heap.size) rfl (sl_buildEmpty wJ 3 1) m.oa m.ob m.oo n m.oc ((List.range n).flatMap fun i => [.int .i64 (s.o i : Int)]) rfl hrw.ad (flat_len (f := fun i => [.int .i64 (s.o i : Int)]) (size := 1) (fun i => rfl) n) (hrw.cells (fun i => rfl) (by decide)) (fun u hu => by simp only [List.mem_flatMap, List.mem_singleton] at hu; obtain ⟨_, _, rfl⟩ := hu; rfl) (by have := HNM.out; unfold maxLen; omega) (by have := HNM.out; omega) ?_
    intro v5 wK own5 hs5 hf5 ho5
    rw [List.nil_append, Nat.zero_add] at hs5
    obtain ⟨va5, vc5, hva5⟩ := hs5.form
    subst hva5
    have hfJ : Frm wJ.heap.size [] wJ wK := ((Frm.refl wJ.heap.size [] wJ).alloc (Nat.le_refl _) _).call hf5 (by simp) (fun x hx hm => by simp at hm; omega)
    have hg5 : ∀ g, own5 = some g → wJ.heap.size ≤ g := fun g hg => by
      rcases ho5 with h | ⟨x, h, hx⟩
      · rw [hg] at h; cases h; exact Nat.le_refl _
      · rw [hg] at h; cases h; simp at hx; omega
    clear hf5 ho5 hrw c3 hlt2 hne2a
    have hltK : w.heap.size < wK.heap.size := Nat.lt_of_lt_of_le K2.out.lt hfJ.size
    have HS5 := Lib.hid hs5
    have HFJ := Lib.hid hfJ
    have HG5 := Lib.hid hg5
    have HLTK := Lib.hid hltK
    clear hltK hg5 hfJ hs5
    go_wp2_with (at_builtin; refine hold ?_; intro qG hG)
    refine hG.1 ?_; clear hG qG
    refine wpList_append_sl _ rfl (.tmp 55) (.tmp 57) 42 rfl 3 i3 _ 1 8 Try.underlying42 HI3.out HX0.out HX1.out HX2.out rfl _ n _ own5 rfl (HS5.out.alloc _) ⟨wK.heap.size, 0, none⟩ 1 1 [.int .i64 (at_ : Int)] rfl rfl (news_alloc _ [.int .i64 (at_ : Int)] _) (by simp [Value.oneCell']) (by have := HNM.out; unfold maxLen; omega) (by have := HNM.out; omega) ?_
    intro v6 wL own6 hs6 hf6 ho6
    obtain ⟨fb, fo, fc, hv6, hown6, hof⟩ := Rw.snoc (f := fun i => [.int .i64 (s.o i : Int)]) (R := [.int .i64 (at_ : Int)]) (size := 1) rfl (fun i => rfl) hs6
    subst hv6
    have hfK : Frm wK.heap.size own5.toList wK wL := ((Frm.refl wK.heap.size own5.toList wK).alloc (Nat.le_refl _) _).call hf6 (by simp) (fun x hx hm => hm)
    have hJL : Frm wJ.heap.size [] wJ wL := HFJ.out.call hfK HFJ.out.size (fun x hx hm => absurd hx (by have := HG5.out x (by simpa using hm); omega))
    have hk4l := K4.out.lt
    have hfb : w.heap.size + 2 < fb := by
      rcases ho6 with h | ⟨x, h, hx⟩
      · have := HG5.out fb (by rw [← h]; exact hown6); omega
      · rw [hown6] at h; cases h; have := HFJ.out.size; simp at hx; omega
    have k2 := hJL.blk K2.out K2.out.lt (by simp)
    have k4 := hJL.blk K4.out K4.out.lt (by simp)
    have hopn := HOPN.out.frm hJL (Nat.le_refl _)
    have hreps := HREPS.out.frm hJL (Nat.le_refl _)
    have hf := HF.out.call hJL HF.out.size (by simp)
    have c3 := (k2.cell 3).trans HD3.out
    have g3 := k2.free 3
    clear hs6 hf6 ho6 hown6 hfK hJL hk4l HS5 HFJ HG5 HLTK K2 K4 HOPN HREPS HF
    have K2 := Lib.hid k2
    have K4 := Lib.hid k4
    have HOPN := Lib.hid hopn
    have HREPS := Lib.hid hreps
    have HOF := Lib.hid hof
    have HFB := Lib.hid hfb
    have HF := Lib.hid hf
    clear hf hfb hof hreps hopn k4 k2
    go_upto_region 12 with fail
    clear c3 g3
    have g := (Frm.refl wL.heap.size [w.heap.size] wL).setCell (p := ⟨w.heap.size, 3, none⟩) (.inl (by simp)) (.slice (some ⟨fb, fo, none⟩) (n + 1) fc)
    have k2 := K2.out.set 3 (.slice (some ⟨fb, fo, none⟩) (n + 1) fc)
    have k4 := K4.out.other ⟨w.heap.size, 3, none⟩ (by show w.heap.size ≠ w.heap.size + 2; omega) (.slice (some ⟨fb, fo, none⟩) (n + 1) fc)
    have hf := HF.out.setCell (p := ⟨w.heap.size, 3, none⟩) (.inr (Nat.le_refl _)) (.slice (some ⟨fb, fo, none⟩) (n + 1) fc)
    have hopn := HOPN.out.frmS g (by have := HOB.out; simp; omega)
    have hreps := HREPS.out.frmS g (by have := HRB.out; simp; omega)
    have hof := HOF.out.frmS g (by have := HFB.out; simp; omega)
    generalize World.setCell wL _ _ = wM at k2 k4 hf hopn hreps hof ⊢
    clear g K2 K4 HF HOPN HREPS HOF
    obtain ⟨C4, hC4⟩ : ∃ c, c = C3.set 3 (.slice (some ⟨fb, fo, none⟩) (n + 1) fc) := ⟨_, rfl⟩
    rw [← hC4] at k2
    have hz64 : C4.length = 6 := by rw [hC4, List.length_set]; exact HZ63.out
    obtain ⟨m', hm'⟩ : ∃ z, z = m.took n rb ro rc fb fo fc ob oo oc1 ad b o cap := ⟨_, rfl⟩
    have hC4e : C4 = refC { s with opn := l2, reps := s.reps ++ [r], of := s.of ++ [at_] } m' := by
      rw [hC4, HC3E.out, HC2E.out, HC.out, hm']
      exact took_refC HN.out HN2.out
    have hone : ∀ u ∈ C4, u.oneCell' = true := by rw [hC4e]; exact refC_one _ _
    clear hC4
    have K2 := Lib.hid k2
    have K4 := Lib.hid k4
    have HF := Lib.hid hf
    have HOPN := Lib.hid hopn
    have HREPS := Lib.hid hreps
    have HOF := Lib.hid hof
    have HZ64 := Lib.hid hz64
    have HC4E := Lib.hid hC4e
    have HONE := Lib.hid hone
    have HM2 := Lib.hid hm'
    clear hm' hone hC4e hz64 hof hreps hopn hf k4 k2
    go_wp2_with (first | (with_reducible refine atLoad 55 rfl ?_; refine wpList_loadE rfl rfl rfl (load55 K2.out HZ64.out) ?_) | (with_reducible refine atStore 55 rfl ?_; refine stop_ ?_))
    refine go_on ?_
    refine wpList_storeB (P := Try.prog) (cs := C4) rfl rfl K4.out rfl rfl (by rw [HZ64.out]; rfl) (by rw [HZ64.out]; exact info55) HONE.out ?_
    have k4 := K4.out.row C4
    have hnx : RNext w (wM.setRow (w.heap.size + 2) C4.toArray) s { s with opn := l2, reps := s.reps ++ [r], of := s.of ++ [at_] } m m' (fun S => 0 < r.wh.length → b ∉ S) := by
      have g := (Frm.refl wM.heap.size [w.heap.size + 2] wM).setRow (g := w.heap.size + 2) (.inl (by simp)) C4.toArray
      have hinv := HINV.out
      rw [HEND.out] at hinv
      have hreps := HREPS.out.frmS g (by have := HRB.out; simp; omega)
      rw [HRR.out] at hreps
      rw [HM2.out]
      exact RNext.took HH.out (HF.out.setRow (g := w.heap.size + 2) (.inr (by omega)) C4.toArray) HR.out HN.out (HOPN.out.frmS g (by have := HOB.out; simp; omega)) hreps (HOF.out.frmS g (by have := HFB.out; simp; omega)) (by have := HRB.out; omega) (by have := HFB.out; omega) (by have := HOB.out; omega) HLEN.out hinv
    generalize World.setRow wM _ _ = wN at k4 hnx ⊢
    clear K4 HF HOPN HREPS HOF K2
    dsimp only [Act.put]
    have HNX := Lib.hid hnx
    have K4 := Lib.hid k4
    clear k4 hnx
    go_wp2_with fail
    refine bodyPost_ret (results_cttt Try.results45 K4.out rfl Try.underlying55 rfl (by rw [HZ64.out]; exact info55)) rfl ?_
    have hnx := HNX.out
    rw [← HEND.out] at hnx
    refine ⟨m', ?_, hnx⟩
    have e := HC4E.out
    rw [← HEND.out] at e
    rw [e]
    rfl
  · have ha' : ((at_ : Int) == (n1 : Int)) = false := by simp; omega
    have ha2 : ¬ (at_ : Int) = (n1 : Int) := by omega
    have hat : at_ < n1 := by omega
    have c4 : wA.cell? ⟨w.heap.size, 4, none⟩ = some (.slice va n1 vc) := (hmid.k2.cell 4).trans (by rw [List.getElem?_set, if_pos rfl, if_pos (by rw [HZ6.out]; omega)])
    clear hpq
    have HM := Lib.hid hmid
    have HAT := Lib.hid hat
    have HA := Lib.hid ha
    clear ha hat hmid
    go_upto_region 9 with fail
    clear c4 ha' ha2
    have hmid := HM.out
    obtain ⟨wB, hwB⟩ : ∃ V, V = wA := ⟨_, rfl⟩
    rw [← hwB] at hmid
    rw [← hwB]
    clear HM hwB
    obtain ⟨l, hl⟩ : ∃ l, l = s.opn := ⟨_, rfl⟩
    have hlt : at_ < l.length := by rw [hl, ← HN1.out]; exact HAT.out
    have hle : l.length ≤ 501 := by rw [hl, ← HN1.out]; have := HNO.out; omega
    have hend : takenS s r at_ = { s with opn := l.set at_ true, reps := s.reps ++ [r], of := s.of ++ [at_] } := by unfold takenS; rw [if_neg (by rw [← HN1.out]; exact HA.out), hl]
    rw [← hl] at hmid
    clear hl
    have HM := Lib.hid hmid
    have HLT := Lib.hid hlt
    have HLE := Lib.hid hle
    have HEND := Lib.hid hend
    clear hend hle hlt hmid
    obtain ⟨ob, oo, oc1, ev, eown, _, _⟩ := HM.out.sl.pos (Nat.lt_of_le_of_lt (Nat.zero_le _) HLT.out)
    obtain ⟨n2, hn2⟩ : ∃ c, c = l.length := ⟨_, rfl⟩
    have hob := HM.out.own ob eown
    have hso := HM.out.sl
    rw [ev, ← hn2] at hso
    have k2 := HM.out.k2
    rw [ev, ← hn2] at k2
    have k3 := HM.out.k3
    have k4 := HM.out.k4
    have hf := HM.out.frm
    obtain ⟨C2, hC2⟩ : ∃ c, c = C.set 4 (.slice (some ⟨ob, oo, none⟩) n2 oc1) := ⟨_, rfl⟩
    rw [← hC2] at k2
    have hz62 : C2.length = 6 := by rw [hC2, List.length_set]; exact HZ6.out
    have hd2 : C2[2]? = some (.slice m.ra n m.rc) := by rw [hC2, List.getElem?_set_ne (by decide)]; exact HC2.out
    have hd3 : C2[3]? = some (.slice m.oa n m.oc) := by rw [hC2, List.getElem?_set_ne (by decide)]; exact HC3.out
    have c4 : wB.cell? ⟨w.heap.size, 4, none⟩ = some (.slice (some ⟨ob, oo, none⟩) n2 oc1) := (k2.cell 4).trans (by rw [hC2, List.getElem?_set, if_pos rfl, if_pos (by rw [HZ6.out]; omega)])
    have hln : at_ < n2 := by rw [hn2]; exact HLT.out
    have cx : ∃ x, wB.cell? ⟨ob, oo + at_, none⟩ = some (.bool x) := by
      have := hso.cell at_ (by simp only [boolsC, List.length_map]; exact HLT.out)
      rw [this]
      exact ⟨l[at_]'HLT.out, by simp only [boolsC, List.getElem?_map, List.getElem?_eq_getElem HLT.out, Option.map_some]⟩
    obtain ⟨x, cx⟩ := cx
    have gx := hso.free (oo + at_)
    have hs2 := hso.set1 at_ (by simp only [boolsC, List.length_map]; exact HLT.out) (.bool true)
    have k2' := k2.other ⟨ob, oo + at_, none⟩ (by show ob ≠ w.heap.size; omega) (.bool true)
    have k3' := k3.other ⟨ob, oo + at_, none⟩ (by show ob ≠ w.heap.size + 1; omega) (.bool true)
    have k4' := k4.other ⟨ob, oo + at_, none⟩ (by show ob ≠ w.heap.size + 2; omega) (.bool true)
    have hf' := hf.setCell (p := ⟨ob, oo + at_, none⟩) (.inr (by show w.heap.size ≤ ob; omega)) (.bool true)
    have hlt' : (at_ : Int) < (n2 : Int) := by omega
    clear hso k2 k3 k4 hf ev eown HM
    have HS := Lib.hid hs2
    have K2 := Lib.hid k2'
    have K3 := Lib.hid k3'
    have K4 := Lib.hid k4'
    have HF := Lib.hid hf'
    have HOB := Lib.hid hob
    have HC2E := Lib.hid hC2
    have HZ62 := Lib.hid hz62
    have HD2 := Lib.hid hd2
    have HD3 := Lib.hid hd3
    have HN2 := Lib.hid hn2
    have HLN := Lib.hid hln
    clear hln hn2 hd3 hd2 hz62 hC2 hob hf' k4' k3' k2' hs2
    go_upto_region 10 with fail
    clear c4 cx gx hlt'
    have hs := HS.out
    have k2 := K2.out
    have k3 := K3.out
    have k4 := K4.out
    have hf := HF.out
    generalize World.setCell wB _ _ = wC at hs k2 k3 k4 hf ⊢
    clear HS K2 K3 K4 HF
    obtain ⟨l2, hl2⟩ : ∃ c, c = l.set at_ true := ⟨_, rfl⟩
    have hn2' : n2 = l2.length := by rw [hl2, List.length_set]; exact HN2.out
    have e : boolsC l2 = (boolsC l).set at_ (.bool true) := by rw [hl2]; simp [boolsC, List.map_set]
    rw [← e] at hs
    have hopn := opn_rw hn2' hs
    have hend := HEND.out
    rw [← hl2] at hend
    obtain ⟨f, hff⟩ : ∃ f : Nat → List Value, f = fun i => repC (s.rp i) (m.wa i) (m.wc i) := ⟨_, rfl⟩
    have hrr : ∀ V, Frm w.heap.size [] w V → Rw V 7 m.ra m.rb m.ro n f := fun V hV => by rw [hff, HN.out]; exact (HH.out.still hV).reps
    have hfl : ∀ i, (f i).length = 7 := fun i => by rw [hff]; rfl
    have hfo : ∀ u ∈ (List.range n).flatMap f, u.oneCell' = true := by
      intro u hu
      simp only [List.mem_flatMap] at hu
      obtain ⟨i, _, hi⟩ := hu
      rw [hff] at hi
      simp only [repC, List.mem_cons, List.not_mem_nil, or_false] at hi
      rcases hi with rfl | rfl | rfl | rfl | rfl | rfl | rfl <;> rfl
    clear hs e hl2 HEND HN2 HLT HLE HLN
    have K2 := Lib.hid k2
    have K3 := Lib.hid k3
    have K4 := Lib.hid k4
    have HF := Lib.hid hf
    have HOPN := Lib.hid hopn
    have HN2 := Lib.hid hn2'
    have HEND := Lib.hid hend
    have HRW := Lib.hid hrr
    have HFL := Lib.hid hfl
    have HFO := Lib.hid hfo
    have HFF := Lib.hid hff
    clear hff hfo hfl hrr hend hn2' hopn hf k4 k3 k2
    go_cut [51] from 44 to 51 (fun s51 w' => ∃ rb ro rc, Frm w.heap.size [] w w' ∧ Blk w' w.heap.size 55 (C2.set 2 (.slice (some ⟨rb, ro, none⟩) (n + 1) rc)) ∧ Blk w' (w.heap.size + 2) 55 zero55 ∧ Rw w' 1 (some ⟨ob, oo, none⟩) ob oo l2.length (fun i => [.bool (l2.getD i false)]) ∧ Rw w' 7 (some ⟨rb, ro, none⟩) rb ro (n + 1) (fun i => if i < n then f i else R) ∧ w.heap.size + 2 < rb)
    case first =>
      have hfx : ∀ V, Frm wC.heap.size [] wC V → V.cell? ⟨w.heap.size, 2, none⟩ = some (.slice m.ra n m.rc) ∧ True := fun V hV => ⟨((hV.blk K2.out K2.out.lt (by simp)).cell 2).trans HD2.out, trivial⟩
      have hl24 : ∀ V, Frm wC.heap.size [] wC V → (loadVar 24 ⟨w.heap.size + 1, 0, none⟩).run Try.prog V = .ok (.agg #[.int .i64 r.kind, .int .i64 r.time, .string r.src, .string r.abt, .slice ad r.wh.length cap, .int .i64 r.souls, .int .i64 r.trust]) V := fun V hV => by have g := load24 (hV.blk K3.out K3.out.lt (by simp)) HZ7.out; rw [HRR.out] at g; exact g
      have hrC : ∀ V, Frm wC.heap.size [] wC V → Rw V 7 m.ra m.rb m.ro n f := fun V hV => HRW.out V (HF.out.call hV HF.out.size (by simp))
      have HFX := Lib.hid hfx
      have HL24 := Lib.hid hl24
      have HRC := Lib.hid hrC
      clear hrC hl24 hfx
      refine wp_region_leftL (fun V => Frm wC.heap.size [] wC V) 8 (by kernel_rfl) ?_
      have hS : Frm wC.heap.size [] wC wC.drew := (Frm.refl _ _ wC).drew
      have HS := Lib.hid hS
      clear hS
      have hS := HS.out
      obtain ⟨wD, hwD⟩ : ∃ V, V = wC.drew := ⟨_, rfl⟩
      rw [← hwD] at hS ⊢
      clear hwD HS
      have HS := Lib.hid hS
      clear hS
      first | (refine LeftL.tkG (v := ?_) 1 rfl HS.out ?_ ?_; rotate_left; · intro V hV; obtain ⟨z1, z2⟩ := HFX.out V hV; clear hV; go_simp; rfl) | refine LeftL.tkN 1 rfl HS.out ?_
      (intro K h; go_simp; refine h _ ?_; clear h K)
      first | (refine LeftL.tkG (v := ?_) 2 rfl HS.out ?_ ?_; rotate_left; · intro V hV; obtain ⟨z1, z2⟩ := HFX.out V hV; clear hV; go_simp; rfl) | refine LeftL.tkN 2 rfl HS.out ?_
      (intro K h; go_simp; refine h _ ?_; clear h K)
      refine LeftL.take 4 rfl (by kernel_rfl) (fun _ _ d _ _ h => by cases d <;> exact h) (yields_loadE (ty := 24) rfl rfl rfl (HL24.out)) HS.out ?_; (intro K' hK'; go_simp; refine hK' _ ?_; clear hK' K')
      refine LeftL.two 0 5 rfl rfl (by kernel_rfl) ?_ ?_
      · go_wp2_with fail
        have hS := HS.out.alloc HS.out.size (Obj.cells #[] 24)
        have hsl := sl_buildEmpty wD 24 7
        obtain ⟨wE, hwG⟩ : ∃ V, V = wD.alloc (Obj.cells #[] 24) := ⟨_, rfl⟩
        rw [← hwG] at hS hsl ⊢
        have hwE : wE.heap.size = wD.heap.size + 1 := by rw [hwG]; simp
        have hfE : Frm wD.heap.size [] wD wE := by rw [hwG]; exact (Frm.refl _ _ _).alloc (Nat.le_refl _) _
        first | refine ⟨fun _ => hS, ?_⟩ | refine ⟨hS, ?_⟩
        have hdC := HS.out.size
        clear hwG HS
        have HS := Lib.hid hS
        have HSL := Lib.hid hsl
        have HWE := Lib.hid hwE
        have HDC := Lib.hid hdC
        clear hdC hwE hsl hS
        clear hfE
        refine LeftL.two 3 5 rfl rfl (by kernel_rfl) ?_ ?_
        · have hrA := HRC.out wE HS.out
          refine wpList_append_rw rfl (.tmp 44) (.tmp 46) 51 rfl 24 i24 _ 7 88 Try.underlying51 HI24.out HY0.out HY1.out HY2.out rfl _ 0 [] _ rfl HSL.out m.ra m.rb m.ro n m.rc ((List.range n).flatMap f) rfl hrA.ad (flat_len HFL.out n) (hrA.cells HFL.out (by decide)) HFO.out (by have := HNM.out; unfold maxLen; omega) (by have := HNM.out; omega) ?_
          intro v3 wF own3 hsl hfA hoA
          rw [List.nil_append, Nat.zero_add] at hsl
          refine wpList_nil ?_
          dsimp only [Act.put]
          have hdC := HDC.out
          have hown : ∀ g, own3 = some g → wC.heap.size ≤ g := fun g hg => by
            rcases hoA with h | ⟨x, h, hx⟩
            · rw [hg] at h; cases h; exact hdC
            · rw [hg] at h; cases h; exact Nat.le_trans HS.out.size hx
          have hS := HS.out.call hfA HS.out.size (fun x hx hm => absurd hx (by have e : x = wD.heap.size := (by simpa using hm); omega))
          first | refine ⟨fun _ => hS, ?_⟩ | refine ⟨hS, ?_⟩
          clear HSL HS hoA hrA hdC
          have HS := Lib.hid hS
          have HSL := Lib.hid hsl
          have HOWN := Lib.hid hown
          clear hown hsl hS
          refine LeftL.one 5 rfl (by kernel_rfl) ?_
          go_wp2_with fail
          have hS := HS.out.alloc HS.out.size (Obj.cells #[.int .i64 r.kind, .int .i64 r.time, .string r.src, .string r.abt, .slice ad r.wh.length cap, .int .i64 r.souls, .int .i64 r.trust] 24)
          obtain ⟨wG, hwG⟩ : ∃ V, V = wF.alloc (Obj.cells #[.int .i64 r.kind, .int .i64 r.time, .string r.src, .string r.abt, .slice ad r.wh.length cap, .int .i64 r.souls, .int .i64 r.trust] 24) := ⟨_, rfl⟩
          have hnews : ∀ j u, R[j]? = some u → wG.cell? ((⟨wF.heap.size, 0, none⟩ : Addr).add j) = some u := by rw [hwG, HRR.out]; exact news_alloc wF (repC r ad cap) 24
          rw [← hwG] at hS ⊢
          first | refine ⟨fun _ => hS, ?_⟩ | refine ⟨hS, ?_⟩
          clear HS
          have HS := Lib.hid hS
          have HNEWS := Lib.hid hnews
          clear hnews hS
          have hsl := HSL.out.alloc (Obj.cells #[.int .i64 r.kind, .int .i64 r.time, .string r.src, .string r.abt, .slice ad r.wh.length cap, .int .i64 r.souls, .int .i64 r.trust] 24)
          rw [← hwG] at hsl
          clear hwG HSL
          have HSL := Lib.hid hsl
          clear hsl
          clear HWE HDC
          refine LeftL.one 6 rfl (by kernel_rfl) ?_
          refine wpList_append_sl _ rfl (.tmp 47) (.tmp 49) 51 rfl 24 i24 _ 7 88 Try.underlying51 HI24.out HY0.out HY1.out HY2.out rfl _ n _ own3 rfl HSL.out ⟨wF.heap.size, 0, none⟩ 1 1 R rfl (by rw [HZ7.out]) HNEWS.out HR1.out (by have := HNM.out; unfold maxLen; omega) (by have := HNM.out; omega) ?_
          intro v4 wH own4 hs4 hf4 ho4
          refine wpList_nil ?_
          dsimp only [Act.put]
          obtain ⟨rb, ro, rc, hv4, hown4, hrw4⟩ := Rw.snoc HZ7.out HFL.out hs4
          subst hv4
          have hS := HS.out.call hf4 HS.out.size (fun x hx hm => absurd hx (by have e := HOWN.out x (by simpa using hm); omega))
          have hk4l := K4.out.lt
          have hrb : w.heap.size + 2 < rb := by
            rcases ho4 with h | ⟨x, h, hx⟩
            · have := HOWN.out rb (by rw [← h]; exact hown4); omega
            · rw [hown4] at h; cases h; have := HS.out.size; omega
          have k2 := hS.blk K2.out K2.out.lt (by simp)
          have k4 := hS.blk K4.out K4.out.lt (by simp)
          have hopn := HOPN.out.frm hS (Nat.le_refl _)
          have hf := HF.out.call hS HF.out.size (by simp)
          have c2 := (k2.cell 2).trans HD2.out
          have g2 := k2.free 2
          first | refine ⟨fun _ => hS, ?_⟩ | refine ⟨hS, ?_⟩
          clear hs4 hf4 ho4 hown4 hk4l HS HSL HOWN HNEWS HFX HL24 HRC
          have HS := Lib.hid hS
          have HR4 := Lib.hid hrw4
          have HRB := Lib.hid hrb
          have KK2 := Lib.hid k2
          have KK4 := Lib.hid k4
          have HO4 := Lib.hid hopn
          have HF4 := Lib.hid hf
          clear hf hopn k4 k2 hrb hrw4 hS
          refine LeftL.one 7 rfl (by kernel_rfl) ?_
          go_wp2_with fail
          first | refine ⟨fun _ => HS.out, ?_⟩ | refine ⟨HS.out, ?_⟩
          refine LeftL.one 8 rfl (by kernel_rfl) ?_
          go_wp2_with fail
          clear c2 g2
          have hfin : Frm w.heap.size [] w (wH.setCell ⟨w.heap.size, 2, none⟩ (.slice (some ⟨rb, ro, none⟩) (n + 1) rc)) ∧ Blk (wH.setCell ⟨w.heap.size, 2, none⟩ (.slice (some ⟨rb, ro, none⟩) (n + 1) rc)) w.heap.size 55 (C2.set 2 (.slice (some ⟨rb, ro, none⟩) (n + 1) rc)) ∧ Blk (wH.setCell ⟨w.heap.size, 2, none⟩ (.slice (some ⟨rb, ro, none⟩) (n + 1) rc)) (w.heap.size + 2) 55 zero55 ∧ Rw (wH.setCell ⟨w.heap.size, 2, none⟩ (.slice (some ⟨rb, ro, none⟩) (n + 1) rc)) 1 (some ⟨ob, oo, none⟩) ob oo l2.length (fun i => [.bool (l2.getD i false)]) ∧ Rw (wH.setCell ⟨w.heap.size, 2, none⟩ (.slice (some ⟨rb, ro, none⟩) (n + 1) rc)) 7 (some ⟨rb, ro, none⟩) rb ro (n + 1) (fun i => if i < n then f i else R) ∧ w.heap.size + 2 < rb := by
            have g := (Frm.refl wH.heap.size [w.heap.size] wH).setCell (p := ⟨w.heap.size, 2, none⟩) (.inl (by simp)) (.slice (some ⟨rb, ro, none⟩) (n + 1) rc)
            refine ⟨HF4.out.setCell (p := ⟨w.heap.size, 2, none⟩) (.inr (Nat.le_refl _)) _, KK2.out.set 2 _, KK4.out.other ⟨w.heap.size, 2, none⟩ (by show w.heap.size ≠ w.heap.size + 2; omega) _, ?_, ?_, HRB.out⟩
            · exact HO4.out.frmS g (by have := HOB.out; simp; omega)
            · exact HR4.out.frmS g (by have := HRB.out; simp; omega)
          generalize World.setCell wH _ _ = wI at hfin ⊢
          first | refine ⟨fun h => absurd rfl h, ?_⟩ | skip
          refine LeftL.done (by kernel_rfl) ?_
          clear HS HR4 HRB KK2 KK4 HO4 HF4
          have HFIN := Lib.hid hfin
          clear hfin
          go_wp2_with fail
          go_meet
          case rel => exact ⟨rb, ro, rc, HFIN.out⟩
        · go_wp2_with fail
          have hS := HS.out.alloc HS.out.size (Obj.cells #[.int .i64 r.kind, .int .i64 r.time, .string r.src, .string r.abt, .slice ad r.wh.length cap, .int .i64 r.souls, .int .i64 r.trust] 24)
          obtain ⟨wF, hwG⟩ : ∃ V, V = wE.alloc (Obj.cells #[.int .i64 r.kind, .int .i64 r.time, .string r.src, .string r.abt, .slice ad r.wh.length cap, .int .i64 r.souls, .int .i64 r.trust] 24) := ⟨_, rfl⟩
          have hnews : ∀ j u, R[j]? = some u → wF.cell? ((⟨wE.heap.size, 0, none⟩ : Addr).add j) = some u := by rw [hwG, HRR.out]; exact news_alloc wE (repC r ad cap) 24
          rw [← hwG] at hS ⊢
          first | refine ⟨fun _ => hS, ?_⟩ | refine ⟨hS, ?_⟩
          clear HS
          have HS := Lib.hid hS
          have HNEWS := Lib.hid hnews
          clear hnews hS
          have hsl := HSL.out.alloc (Obj.cells #[.int .i64 r.kind, .int .i64 r.time, .string r.src, .string r.abt, .slice ad r.wh.length cap, .int .i64 r.souls, .int .i64 r.trust] 24)
          rw [← hwG] at hsl
          have hwF : wF.heap.size = wE.heap.size + 1 := by rw [hwG]; simp
          clear hwG HSL
          have HSL := Lib.hid hsl
          clear hsl
          refine LeftL.one 3 rfl (by kernel_rfl) ?_
          have hrA := HRC.out wF HS.out
          refine wpList_append_rw rfl (.tmp 44) (.tmp 46) 51 rfl 24 i24 _ 7 88 Try.underlying51 HI24.out HY0.out HY1.out HY2.out rfl _ 0 [] _ rfl HSL.out m.ra m.rb m.ro n m.rc ((List.range n).flatMap f) rfl hrA.ad (flat_len HFL.out n) (hrA.cells HFL.out (by decide)) HFO.out (by have := HNM.out; unfold maxLen; omega) (by have := HNM.out; omega) ?_
          intro v3 wG own3 hsl hfA hoA
          rw [List.nil_append, Nat.zero_add] at hsl
          refine wpList_nil ?_
          dsimp only [Act.put]
          have hdC := HDC.out
          have hown : ∀ g, own3 = some g → wC.heap.size ≤ g := fun g hg => by
            rcases hoA with h | ⟨x, h, hx⟩
            · rw [hg] at h; cases h; exact hdC
            · rw [hg] at h; cases h; exact Nat.le_trans HS.out.size hx
          have hS := HS.out.call hfA HS.out.size (fun x hx hm => absurd hx (by have e : x = wD.heap.size := (by simpa using hm); omega))
          first | refine ⟨fun _ => hS, ?_⟩ | refine ⟨hS, ?_⟩
          clear HSL HS hoA hrA hdC
          have HS := Lib.hid hS
          have HSL := Lib.hid hsl
          have HOWN := Lib.hid hown
          clear hown hsl hS
          have hnews : ∀ j u, R[j]? = some u → wG.cell? ((⟨wE.heap.size, 0, none⟩ : Addr).add j) = some u := fun j u hj => by
            have hadd : (⟨wE.heap.size, 0, none⟩ : Addr).add j = ⟨wE.heap.size, j, none⟩ := by unfold Addr.add; split <;> simp_all
            have h1 := HNEWS.out j u hj
            rw [hadd] at h1 ⊢
            rw [hfA.cell (p := ⟨wE.heap.size, j, none⟩) (by show wE.heap.size < wF.heap.size; omega) (by rw [HWE.out]; simp)]
            exact h1
          clear HNEWS hfA hwF
          have HNEWS := Lib.hid hnews
          clear hnews
          clear HWE HDC
          refine LeftL.one 6 rfl (by kernel_rfl) ?_
          refine wpList_append_sl _ rfl (.tmp 47) (.tmp 49) 51 rfl 24 i24 _ 7 88 Try.underlying51 HI24.out HY0.out HY1.out HY2.out rfl _ n _ own3 rfl HSL.out ⟨wE.heap.size, 0, none⟩ 1 1 R rfl (by rw [HZ7.out]) HNEWS.out HR1.out (by have := HNM.out; unfold maxLen; omega) (by have := HNM.out; omega) ?_
          intro v4 wH own4 hs4 hf4 ho4
          refine wpList_nil ?_
          dsimp only [Act.put]
          obtain ⟨rb, ro, rc, hv4, hown4, hrw4⟩ := Rw.snoc HZ7.out HFL.out hs4
          subst hv4
          have hS := HS.out.call hf4 HS.out.size (fun x hx hm => absurd hx (by have e := HOWN.out x (by simpa using hm); omega))
          have hk4l := K4.out.lt
          have hrb : w.heap.size + 2 < rb := by
            rcases ho4 with h | ⟨x, h, hx⟩
            · have := HOWN.out rb (by rw [← h]; exact hown4); omega
            · rw [hown4] at h; cases h; have := HS.out.size; omega
          have k2 := hS.blk K2.out K2.out.lt (by simp)
          have k4 := hS.blk K4.out K4.out.lt (by simp)
          have hopn := HOPN.out.frm hS (Nat.le_refl _)
          have hf := HF.out.call hS HF.out.size (by simp)
          have c2 := (k2.cell 2).trans HD2.out
          have g2 := k2.free 2
          first | refine ⟨fun _ => hS, ?_⟩ | refine ⟨hS, ?_⟩
          clear hs4 hf4 ho4 hown4 hk4l HS HSL HOWN HNEWS HFX HL24 HRC
          have HS := Lib.hid hS
          have HR4 := Lib.hid hrw4
          have HRB := Lib.hid hrb
          have KK2 := Lib.hid k2
          have KK4 := Lib.hid k4
          have HO4 := Lib.hid hopn
          have HF4 := Lib.hid hf
          clear hf hopn k4 k2 hrb hrw4 hS
          refine LeftL.one 7 rfl (by kernel_rfl) ?_
          go_wp2_with fail
          first | refine ⟨fun _ => HS.out, ?_⟩ | refine ⟨HS.out, ?_⟩
          refine LeftL.one 8 rfl (by kernel_rfl) ?_
          go_wp2_with fail
          clear c2 g2
          have hfin : Frm w.heap.size [] w (wH.setCell ⟨w.heap.size, 2, none⟩ (.slice (some ⟨rb, ro, none⟩) (n + 1) rc)) ∧ Blk (wH.setCell ⟨w.heap.size, 2, none⟩ (.slice (some ⟨rb, ro, none⟩) (n + 1) rc)) w.heap.size 55 (C2.set 2 (.slice (some ⟨rb, ro, none⟩) (n + 1) rc)) ∧ Blk (wH.setCell ⟨w.heap.size, 2, none⟩ (.slice (some ⟨rb, ro, none⟩) (n + 1) rc)) (w.heap.size + 2) 55 zero55 ∧ Rw (wH.setCell ⟨w.heap.size, 2, none⟩ (.slice (some ⟨rb, ro, none⟩) (n + 1) rc)) 1 (some ⟨ob, oo, none⟩) ob oo l2.length (fun i => [.bool (l2.getD i false)]) ∧ Rw (wH.setCell ⟨w.heap.size, 2, none⟩ (.slice (some ⟨rb, ro, none⟩) (n + 1) rc)) 7 (some ⟨rb, ro, none⟩) rb ro (n + 1) (fun i => if i < n then f i else R) ∧ w.heap.size + 2 < rb := by
            have g := (Frm.refl wH.heap.size [w.heap.size] wH).setCell (p := ⟨w.heap.size, 2, none⟩) (.inl (by simp)) (.slice (some ⟨rb, ro, none⟩) (n + 1) rc)
            refine ⟨HF4.out.setCell (p := ⟨w.heap.size, 2, none⟩) (.inr (Nat.le_refl _)) _, KK2.out.set 2 _, KK4.out.other ⟨w.heap.size, 2, none⟩ (by show w.heap.size ≠ w.heap.size + 2; omega) _, ?_, ?_, HRB.out⟩
            · exact HO4.out.frmS g (by have := HOB.out; simp; omega)
            · exact HR4.out.frmS g (by have := HRB.out; simp; omega)
          generalize World.setCell wH _ _ = wI at hfin ⊢
          first | refine ⟨fun h => absurd rfl h, ?_⟩ | skip
          refine LeftL.done (by kernel_rfl) ?_
          clear HS HR4 HRB KK2 KK4 HO4 HF4
          have HFIN := Lib.hid hfin
          clear hfin
          go_wp2_with fail
          go_meet
          case rel => exact ⟨rb, ro, rc, HFIN.out⟩
      · go_wp2_with fail
        have hS := HS.out.alloc HS.out.size (Obj.cells #[.int .i64 r.kind, .int .i64 r.time, .string r.src, .string r.abt, .slice ad r.wh.length cap, .int .i64 r.souls, .int .i64 r.trust] 24)
        obtain ⟨wE, hwG⟩ : ∃ V, V = wD.alloc (Obj.cells #[.int .i64 r.kind, .int .i64 r.time, .string r.src, .string r.abt, .slice ad r.wh.length cap, .int .i64 r.souls, .int .i64 r.trust] 24) := ⟨_, rfl⟩
        have hnews : ∀ j u, R[j]? = some u → wE.cell? ((⟨wD.heap.size, 0, none⟩ : Addr).add j) = some u := by rw [hwG, HRR.out]; exact news_alloc wD (repC r ad cap) 24
        rw [← hwG] at hS ⊢
        first | refine ⟨fun _ => hS, ?_⟩ | refine ⟨hS, ?_⟩
        clear HS
        have HS := Lib.hid hS
        have HNEWS := Lib.hid hnews
        clear hnews hS
        have hwD2 : wE.heap.size = wD.heap.size + 1 := by rw [hwG]; simp
        clear hwG
        have HWD2 := Lib.hid hwD2
        clear hwD2
        refine LeftL.one 0 rfl (by kernel_rfl) ?_
        go_wp2_with fail
        have hS := HS.out.alloc HS.out.size (Obj.cells #[] 24)
        have hsl := sl_buildEmpty wE 24 7
        obtain ⟨wF, hwG⟩ : ∃ V, V = wE.alloc (Obj.cells #[] 24) := ⟨_, rfl⟩
        rw [← hwG] at hS hsl ⊢
        have hwE : wF.heap.size = wE.heap.size + 1 := by rw [hwG]; simp
        have hfE : Frm wE.heap.size [] wE wF := by rw [hwG]; exact (Frm.refl _ _ _).alloc (Nat.le_refl _) _
        first | refine ⟨fun _ => hS, ?_⟩ | refine ⟨hS, ?_⟩
        have hdC := HS.out.size
        clear hwG HS
        have HS := Lib.hid hS
        have HSL := Lib.hid hsl
        have HWE := Lib.hid hwE
        have HDC := Lib.hid hdC
        clear hdC hwE hsl hS
        have hnews : ∀ j u, R[j]? = some u → wF.cell? ((⟨wD.heap.size, 0, none⟩ : Addr).add j) = some u := fun j u hj => by
          have hadd : (⟨wD.heap.size, 0, none⟩ : Addr).add j = ⟨wD.heap.size, j, none⟩ := by unfold Addr.add; split <;> simp_all
          have h1 := HNEWS.out j u hj
          rw [hadd] at h1 ⊢
          rw [hfE.cell (p := ⟨wD.heap.size, j, none⟩) (by have := HWD2.out; show wD.heap.size < wE.heap.size; omega) (by simp)]
          exact h1
        clear HNEWS hfE
        have HNEWS := Lib.hid hnews
        clear hnews
        refine LeftL.one 3 rfl (by kernel_rfl) ?_
        have hrA := HRC.out wF HS.out
        refine wpList_append_rw rfl (.tmp 44) (.tmp 46) 51 rfl 24 i24 _ 7 88 Try.underlying51 HI24.out HY0.out HY1.out HY2.out rfl _ 0 [] _ rfl HSL.out m.ra m.rb m.ro n m.rc ((List.range n).flatMap f) rfl hrA.ad (flat_len HFL.out n) (hrA.cells HFL.out (by decide)) HFO.out (by have := HNM.out; unfold maxLen; omega) (by have := HNM.out; omega) ?_
        intro v3 wG own3 hsl hfA hoA
        rw [List.nil_append, Nat.zero_add] at hsl
        refine wpList_nil ?_
        dsimp only [Act.put]
        have hdC := HDC.out
        have hown : ∀ g, own3 = some g → wC.heap.size ≤ g := fun g hg => by
          rcases hoA with h | ⟨x, h, hx⟩
          · rw [hg] at h; cases h; exact hdC
          · rw [hg] at h; cases h; exact Nat.le_trans HS.out.size hx
        have hS := HS.out.call hfA HS.out.size (fun x hx hm => absurd hx (by have e : x = wE.heap.size := (by simpa using hm); omega))
        first | refine ⟨fun _ => hS, ?_⟩ | refine ⟨hS, ?_⟩
        clear HSL HS hoA hrA hdC
        have HS := Lib.hid hS
        have HSL := Lib.hid hsl
        have HOWN := Lib.hid hown
        clear hown hsl hS
        have hnews : ∀ j u, R[j]? = some u → wG.cell? ((⟨wD.heap.size, 0, none⟩ : Addr).add j) = some u := fun j u hj => by
          have hadd : (⟨wD.heap.size, 0, none⟩ : Addr).add j = ⟨wD.heap.size, j, none⟩ := by unfold Addr.add; split <;> simp_all
          have h1 := HNEWS.out j u hj
          rw [hadd] at h1 ⊢
          rw [hfA.cell (p := ⟨wD.heap.size, j, none⟩) (by have := HWD2.out; have := HWE.out; show wD.heap.size < wF.heap.size; omega) (by have := HWD2.out; simp; omega)]
          exact h1
        clear HNEWS hfA HWD2
        have HNEWS := Lib.hid hnews
        clear hnews
        clear HWE HDC
        refine LeftL.one 6 rfl (by kernel_rfl) ?_
        refine wpList_append_sl _ rfl (.tmp 47) (.tmp 49) 51 rfl 24 i24 _ 7 88 Try.underlying51 HI24.out HY0.out HY1.out HY2.out rfl _ n _ own3 rfl HSL.out ⟨wD.heap.size, 0, none⟩ 1 1 R rfl (by rw [HZ7.out]) HNEWS.out HR1.out (by have := HNM.out; unfold maxLen; omega) (by have := HNM.out; omega) ?_
        intro v4 wH own4 hs4 hf4 ho4
        refine wpList_nil ?_
        dsimp only [Act.put]
        obtain ⟨rb, ro, rc, hv4, hown4, hrw4⟩ := Rw.snoc HZ7.out HFL.out hs4
        subst hv4
        have hS := HS.out.call hf4 HS.out.size (fun x hx hm => absurd hx (by have e := HOWN.out x (by simpa using hm); omega))
        have hk4l := K4.out.lt
        have hrb : w.heap.size + 2 < rb := by
          rcases ho4 with h | ⟨x, h, hx⟩
          · have := HOWN.out rb (by rw [← h]; exact hown4); omega
          · rw [hown4] at h; cases h; have := HS.out.size; omega
        have k2 := hS.blk K2.out K2.out.lt (by simp)
        have k4 := hS.blk K4.out K4.out.lt (by simp)
        have hopn := HOPN.out.frm hS (Nat.le_refl _)
        have hf := HF.out.call hS HF.out.size (by simp)
        have c2 := (k2.cell 2).trans HD2.out
        have g2 := k2.free 2
        first | refine ⟨fun _ => hS, ?_⟩ | refine ⟨hS, ?_⟩
        clear hs4 hf4 ho4 hown4 hk4l HS HSL HOWN HNEWS HFX HL24 HRC
        have HS := Lib.hid hS
        have HR4 := Lib.hid hrw4
        have HRB := Lib.hid hrb
        have KK2 := Lib.hid k2
        have KK4 := Lib.hid k4
        have HO4 := Lib.hid hopn
        have HF4 := Lib.hid hf
        clear hf hopn k4 k2 hrb hrw4 hS
        refine LeftL.one 7 rfl (by kernel_rfl) ?_
        go_wp2_with fail
        first | refine ⟨fun _ => HS.out, ?_⟩ | refine ⟨HS.out, ?_⟩
        refine LeftL.one 8 rfl (by kernel_rfl) ?_
        go_wp2_with fail
        clear c2 g2
        have hfin : Frm w.heap.size [] w (wH.setCell ⟨w.heap.size, 2, none⟩ (.slice (some ⟨rb, ro, none⟩) (n + 1) rc)) ∧ Blk (wH.setCell ⟨w.heap.size, 2, none⟩ (.slice (some ⟨rb, ro, none⟩) (n + 1) rc)) w.heap.size 55 (C2.set 2 (.slice (some ⟨rb, ro, none⟩) (n + 1) rc)) ∧ Blk (wH.setCell ⟨w.heap.size, 2, none⟩ (.slice (some ⟨rb, ro, none⟩) (n + 1) rc)) (w.heap.size + 2) 55 zero55 ∧ Rw (wH.setCell ⟨w.heap.size, 2, none⟩ (.slice (some ⟨rb, ro, none⟩) (n + 1) rc)) 1 (some ⟨ob, oo, none⟩) ob oo l2.length (fun i => [.bool (l2.getD i false)]) ∧ Rw (wH.setCell ⟨w.heap.size, 2, none⟩ (.slice (some ⟨rb, ro, none⟩) (n + 1) rc)) 7 (some ⟨rb, ro, none⟩) rb ro (n + 1) (fun i => if i < n then f i else R) ∧ w.heap.size + 2 < rb := by
          have g := (Frm.refl wH.heap.size [w.heap.size] wH).setCell (p := ⟨w.heap.size, 2, none⟩) (.inl (by simp)) (.slice (some ⟨rb, ro, none⟩) (n + 1) rc)
          refine ⟨HF4.out.setCell (p := ⟨w.heap.size, 2, none⟩) (.inr (Nat.le_refl _)) _, KK2.out.set 2 _, KK4.out.other ⟨w.heap.size, 2, none⟩ (by show w.heap.size ≠ w.heap.size + 2; omega) _, ?_, ?_, HRB.out⟩
          · exact HO4.out.frmS g (by have := HOB.out; simp; omega)
          · exact HR4.out.frmS g (by have := HRB.out; simp; omega)
        generalize World.setCell wH _ _ = wI at hfin ⊢
        first | refine ⟨fun h => absurd rfl h, ?_⟩ | skip
        refine LeftL.done (by kernel_rfl) ?_
        clear HS HR4 HRB KK2 KK4 HO4 HF4
        have HFIN := Lib.hid hfin
        clear hfin
        go_wp2_with fail
        go_meet
        case rel => exact ⟨rb, ro, rc, HFIN.out⟩
    obtain ⟨rb, ro, rc, hf, k2, k4, hopn, hreps, hrb⟩ := hcut
    obtain ⟨wJ, hwJ⟩ : ∃ V, V = wc := ⟨_, rfl⟩
    rw [← hwJ] at hf k2 k4 hopn hreps ⊢
    clear hwJ HRW K2 K3 K4 HF HOPN HFO HFL HD2
    obtain ⟨C3, hC3⟩ : ∃ c, c = C2.set 2 (.slice (some ⟨rb, ro, none⟩) (n + 1) rc) := ⟨_, rfl⟩
    rw [← hC3] at k2
    have hd3 : C3[3]? = some (.slice m.oa n m.oc) := by rw [hC3, List.getElem?_set_ne (by decide)]; exact HD3.out
    have hz63 : C3.length = 6 := by rw [hC3, List.length_set]; exact HZ62.out
    have c3 := (k2.cell 3).trans hd3
    have hlt2 : w.heap.size < wJ.heap.size := k2.lt
    have hne2a : w.heap.size ≠ wJ.heap.size := Nat.ne_of_lt hlt2
    rw [HFF.out] at hreps
    clear HFF HD3
    have HF := Lib.hid hf
    have K2 := Lib.hid k2
    have K4 := Lib.hid k4
    have HOPN := Lib.hid hopn
    have HREPS := Lib.hid hreps
    have HRB := Lib.hid hrb
    have HC3E := Lib.hid hC3
    have HD3 := Lib.hid hd3
    have HZ63 := Lib.hid hz63
    clear hz63 hd3 hC3 hrb hreps hopn k4 k2 hf
    go_wp2_with (at_builtin; refine hold ?_; intro qG hG)
    refine hG.1 ?_; clear hG qG
    have hrw := (HH.out.still (HF.out.alloc HF.out.size (Obj.cells #[] 3))).of
    rw [← HN.out] at hrw
    refine wpList_append_rw rfl (.tmp 52) (.tmp 54) 42 rfl 3 i3 _ 1 8 Try.underlying42 HI3.out HX0.out HX1.out HX2.out rfl _ 0 [] (some wJ.heap.size) rfl (sl_buildEmpty wJ 3 1) m.oa m.ob m.oo n m.oc ((List.range n).flatMap fun i => [.int .i64 (s.o i : Int)]) rfl hrw.ad (flat_len (f := fun i => [.int .i64 (s.o i : Int)]) (size := 1) (fun i => rfl) n) (hrw.cells (fun i => rfl) (by decide)) (fun u hu => by simp only [List.mem_flatMap, List.mem_singleton] at hu; obtain ⟨_, _, rfl⟩ := hu; rfl) (by have := HNM.out; unfold maxLen; omega) (by have := HNM.out; omega) ?_
    intro v5 wK own5 hs5 hf5 ho5
    rw [List.nil_append, Nat.zero_add] at hs5
    obtain ⟨va5, vc5, hva5⟩ := hs5.form
    subst hva5
    have hfJ : Frm wJ.heap.size [] wJ wK := ((Frm.refl wJ.heap.size [] wJ).alloc (Nat.le_refl _) _).call hf5 (by simp) (fun x hx hm => by simp at hm; omega)
    have hg5 : ∀ g, own5 = some g → wJ.heap.size ≤ g := fun g hg => by
      rcases ho5 with h | ⟨x, h, hx⟩
      · rw [hg] at h; cases h; exact Nat.le_refl _
      · rw [hg] at h; cases h; simp at hx; omega
    clear hf5 ho5 hrw c3 hlt2 hne2a
    have hltK : w.heap.size < wK.heap.size := Nat.lt_of_lt_of_le K2.out.lt hfJ.size
    have HS5 := Lib.hid hs5
    have HFJ := Lib.hid hfJ
    have HG5 := Lib.hid hg5
    have HLTK := Lib.hid hltK
    clear hltK hg5 hfJ hs5
    go_wp2_with (at_builtin; refine hold ?_; intro qG hG)
    refine hG.1 ?_; clear hG qG
    refine wpList_append_sl _ rfl (.tmp 55) (.tmp 57) 42 rfl 3 i3 _ 1 8 Try.underlying42 HI3.out HX0.out HX1.out HX2.out rfl _ n _ own5 rfl (HS5.out.alloc _) ⟨wK.heap.size, 0, none⟩ 1 1 [.int .i64 (at_ : Int)] rfl rfl (news_alloc _ [.int .i64 (at_ : Int)] _) (by simp [Value.oneCell']) (by have := HNM.out; unfold maxLen; omega) (by have := HNM.out; omega) ?_
    intro v6 wL own6 hs6 hf6 ho6
    obtain ⟨fb, fo, fc, hv6, hown6, hof⟩ := Rw.snoc (f := fun i => [.int .i64 (s.o i : Int)]) (R := [.int .i64 (at_ : Int)]) (size := 1) rfl (fun i => rfl) hs6
    subst hv6
    have hfK : Frm wK.heap.size own5.toList wK wL := ((Frm.refl wK.heap.size own5.toList wK).alloc (Nat.le_refl _) _).call hf6 (by simp) (fun x hx hm => hm)
    have hJL : Frm wJ.heap.size [] wJ wL := HFJ.out.call hfK HFJ.out.size (fun x hx hm => absurd hx (by have := HG5.out x (by simpa using hm); omega))
    have hk4l := K4.out.lt
    have hfb : w.heap.size + 2 < fb := by
      rcases ho6 with h | ⟨x, h, hx⟩
      · have := HG5.out fb (by rw [← h]; exact hown6); omega
      · rw [hown6] at h; cases h; have := HFJ.out.size; simp at hx; omega
    have k2 := hJL.blk K2.out K2.out.lt (by simp)
    have k4 := hJL.blk K4.out K4.out.lt (by simp)
    have hopn := HOPN.out.frm hJL (Nat.le_refl _)
    have hreps := HREPS.out.frm hJL (Nat.le_refl _)
    have hf := HF.out.call hJL HF.out.size (by simp)
    have c3 := (k2.cell 3).trans HD3.out
    have g3 := k2.free 3
    clear hs6 hf6 ho6 hown6 hfK hJL hk4l HS5 HFJ HG5 HLTK K2 K4 HOPN HREPS HF
    have K2 := Lib.hid k2
    have K4 := Lib.hid k4
    have HOPN := Lib.hid hopn
    have HREPS := Lib.hid hreps
    have HOF := Lib.hid hof
    have HFB := Lib.hid hfb
    have HF := Lib.hid hf
    clear hf hfb hof hreps hopn k4 k2
    go_upto_region 12 with fail
    clear c3 g3
    have g := (Frm.refl wL.heap.size [w.heap.size] wL).setCell (p := ⟨w.heap.size, 3, none⟩) (.inl (by simp)) (.slice (some ⟨fb, fo, none⟩) (n + 1) fc)
    have k2 := K2.out.set 3 (.slice (some ⟨fb, fo, none⟩) (n + 1) fc)
    have k4 := K4.out.other ⟨w.heap.size, 3, none⟩ (by show w.heap.size ≠ w.heap.size + 2; omega) (.slice (some ⟨fb, fo, none⟩) (n + 1) fc)
    have hf := HF.out.setCell (p := ⟨w.heap.size, 3, none⟩) (.inr (Nat.le_refl _)) (.slice (some ⟨fb, fo, none⟩) (n + 1) fc)
    have hopn := HOPN.out.frmS g (by have := HOB.out; simp; omega)
    have hreps := HREPS.out.frmS g (by have := HRB.out; simp; omega)
    have hof := HOF.out.frmS g (by have := HFB.out; simp; omega)
    generalize World.setCell wL _ _ = wM at k2 k4 hf hopn hreps hof ⊢
    clear g K2 K4 HF HOPN HREPS HOF
    obtain ⟨C4, hC4⟩ : ∃ c, c = C3.set 3 (.slice (some ⟨fb, fo, none⟩) (n + 1) fc) := ⟨_, rfl⟩
    rw [← hC4] at k2
    have hz64 : C4.length = 6 := by rw [hC4, List.length_set]; exact HZ63.out
    obtain ⟨m', hm'⟩ : ∃ z, z = m.took n rb ro rc fb fo fc ob oo oc1 ad b o cap := ⟨_, rfl⟩
    have hC4e : C4 = refC { s with opn := l2, reps := s.reps ++ [r], of := s.of ++ [at_] } m' := by
      rw [hC4, HC3E.out, HC2E.out, HC.out, hm']
      exact took_refC HN.out HN2.out
    have hone : ∀ u ∈ C4, u.oneCell' = true := by rw [hC4e]; exact refC_one _ _
    clear hC4
    have K2 := Lib.hid k2
    have K4 := Lib.hid k4
    have HF := Lib.hid hf
    have HOPN := Lib.hid hopn
    have HREPS := Lib.hid hreps
    have HOF := Lib.hid hof
    have HZ64 := Lib.hid hz64
    have HC4E := Lib.hid hC4e
    have HONE := Lib.hid hone
    have HM2 := Lib.hid hm'
    clear hm' hone hC4e hz64 hof hreps hopn hf k4 k2
    go_wp2_with (first | (with_reducible refine atLoad 55 rfl ?_; refine wpList_loadE rfl rfl rfl (load55 K2.out HZ64.out) ?_) | (with_reducible refine atStore 55 rfl ?_; refine stop_ ?_))
    refine go_on ?_
    refine wpList_storeB (P := Try.prog) (cs := C4) rfl rfl K4.out rfl rfl (by rw [HZ64.out]; rfl) (by rw [HZ64.out]; exact info55) HONE.out ?_
    have k4 := K4.out.row C4
    have hnx : RNext w (wM.setRow (w.heap.size + 2) C4.toArray) s { s with opn := l2, reps := s.reps ++ [r], of := s.of ++ [at_] } m m' (fun S => 0 < r.wh.length → b ∉ S) := by
      have g := (Frm.refl wM.heap.size [w.heap.size + 2] wM).setRow (g := w.heap.size + 2) (.inl (by simp)) C4.toArray
      have hinv := HINV.out
      rw [HEND.out] at hinv
      have hreps := HREPS.out.frmS g (by have := HRB.out; simp; omega)
      rw [HRR.out] at hreps
      rw [HM2.out]
      exact RNext.took HH.out (HF.out.setRow (g := w.heap.size + 2) (.inr (by omega)) C4.toArray) HR.out HN.out (HOPN.out.frmS g (by have := HOB.out; simp; omega)) hreps (HOF.out.frmS g (by have := HFB.out; simp; omega)) (by have := HRB.out; omega) (by have := HFB.out; omega) (by have := HOB.out; omega) HLEN.out hinv
    generalize World.setRow wM _ _ = wN at k4 hnx ⊢
    clear K4 HF HOPN HREPS HOF K2
    dsimp only [Act.put]
    have HNX := Lib.hid hnx
    have K4 := Lib.hid k4
    clear k4 hnx
    go_wp2_with fail
    refine bodyPost_ret (results_cttt Try.results45 K4.out rfl Try.underlying55 rfl (by rw [HZ64.out]; exact info55)) rfl ?_
    have hnx := HNX.out
    rw [← HEND.out] at hnx
    refine ⟨m', ?_, hnx⟩
    have e := HC4E.out
    rw [← HEND.out] at e
    rw [e]
    rfl
end Go.Proofs.Ythgmdilfmeefiaa
