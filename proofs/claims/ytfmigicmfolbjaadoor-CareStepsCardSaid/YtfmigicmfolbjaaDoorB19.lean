/-
  Texts T1, T2 of this claim, one behind the other.
-/
import Derived.Test.YtfmigicmfolbjaaDoorB18
namespace Go.Proofs.YtfmigicmfolbjaaDoor
set_option linter.all false
set_option linter.unusedSimpArgs false
set_option linter.unusedVariables false
open Go.RowKit Go.Shelf

def Hu.cells (h : Hu) : List Value := [.int .i64 h.tons, .int .i64 h.meta_, .int .i64 h.centre]
theorem load_hu {h : Hu} {w : World} {b : Nat} (k : Blk w b 41 h.cells) : (loadVar 41 ⟨b, 0, none⟩).run Tryd.prog w = .ok (.agg h.cells.toArray) w := loadVarB k Tryd.underlying41 rfl info41
theorem take_snoc (ts : List Ta) {i : Nat} (hi : i < ts.length) : ts.take (i + 1) = ts.take i ++ [ts.getD i ta0] := by
  rw [List.take_succ_eq_append_getElem hi]
  simp [List.getD_eq_getElem?_getD, List.getElem?_eq_getElem hi]
theorem volZ_snoc (h : Hu) (l : List Ta) (t : Ta) : volZ h (l ++ [t]) = volZ h l + t.vol := by simp [volZ]
theorem downZ_snoc (h : Hu) (l : List Ta) (t : Ta) : downZ h (l ++ [t]) = downZ h l + t.down := by simp [downZ]
theorem vol_bound {h : Hu} (hh : HuOK h) {l : List Ta} (hl : ∀ t, t ∈ l → TaOK t) (hn : l.length ≤ 6) : 1000000 ≤ volZ h l ∧ volZ h l ≤ 7000000000000 := by
  have h1 := hh.1
  have := volZ_in hh l (1000000 * h.tons) hl (by omega)
  have h2 : (l.length : Int) ≤ 6 := by omega
  unfold volZ
  omega
theorem down_bound {h : Hu} (hh : HuOK h) {l : List Ta} (hl : ∀ t, t ∈ l → TaOK t) (hn : l.length ≤ 6) : 0 ≤ downZ h l ∧ downZ h l ≤ 1260000000000000000 := by
  have h1 := mul_in (a := 1000000 * h.tons * 12) (b := h.centre) (m := 12000000000000) (n := 10000) (by have := hh.1; omega) hh.2.2
  have := downZ_in l (1000000 * h.tons * 12 * h.centre) hl h1.1
  have h2 : (l.length : Int) ≤ 6 := by omega
  unfold downZ
  omega
theorem ta_mem {ts : List Ta} (hts : ∀ t, t ∈ ts → TaOK t) {i : Nat} (hi : i < ts.length) : TaOK (ts.getD i ta0) := by
  rw [List.getD_eq_getElem?_getD, List.getElem?_eq_getElem hi]
  exact hts _ (List.getElem_mem hi)
theorem enters_at {g : FuncId} (h : Enters g) : ∀ args w, (callFunc g args).run Tryd.prog w = .ok (.enter g args) w := h.out
/-- What the sums are, behind i tanks. -/
def StabJ (c : Nat) (h : Hu) (ts : List Ta) (i : Nat) (A : World) : Prop := Blk A (c + 1) 3 [.int .i64 (volZ h (ts.take i))] ∧ Blk A (c + 1 + 1) 3 [.int .i64 (downZ h (ts.take i))]

set_option maxRecDepth 100000 in
set_option maxHeartbeats 8000000 in
theorem stab_any (h : Hu) (hh : HuOK h) (G : FuncId) (hG : Enters G) (caps : Array Value) (ts : List Ta) (hts : ∀ t, t ∈ ts → TaOK t) (hn : ts.length ≤ 6) (w : World) (hit : IterOf G caps ts w) :
    Calls Tryd.prog 50 #[.agg h.cells.toArray, .func (.func G) #[] caps] w fun e w' => e = .returned (.int .i64 (stabZ h ts)) ∧ Frm w.heap.size [] w w' := by
  have hf0 := Tryd.func50
  have b1 := hh.1
  have b2 := hh.2.2
  have b3 := mul_in (a := 1000000 * h.tons * 12) (b := h.centre) (m := 12000000000000) (n := 10000) (by omega) b2
  have x1 : wrap64 (1000000 * h.tons) = 1000000 * h.tons := IntWalk.wrap64_in _ (by omega)
  have x2 : wrap64 (1000000 * h.tons * 12) = 1000000 * h.tons * 12 := IntWalk.wrap64_in _ (by omega)
  have x3 : wrap64 (1000000 * h.tons * 12 * h.centre) = 1000000 * h.tons * 12 * h.centre := IntWalk.wrap64_in _ (by omega)
  have y1 : IntKind.i64.wrap (1000000 * h.tons) = 1000000 * h.tons := IntWalk.i64_in _ (by omega)
  have y2 : IntKind.i64.wrap (1000000 * h.tons * 12) = 1000000 * h.tons * 12 := IntWalk.i64_in _ (by omega)
  have y3 : IntKind.i64.wrap (1000000 * h.tons * 12 * h.centre) = 1000000 * h.tons * 12 * h.centre := IntWalk.i64_in _ (by omega)
  clear b1 b2 b3
  refine (callsIn_wide (n := 1)).1 ?_
  refine callsIn_of_wp_marks Tryd.func50 rfl trivial ?_ rfl
  simp only [Tryd.ntmps50, List.size_toArray, List.length_cons, List.length_nil, Nat.reduceAdd, Nat.reduceSub, Array.replicate_succ, Array.replicate_zero, List.push_toArray, List.append_toArray, List.nil_append, List.cons_append]
  refine wpIn_mono (Q := retOnly _) ?_ retOnly_le
  refine wpIn_wide.2 ?_
  have HH := Lib.hid hh
  have HTS := Lib.hid hts
  have HN6 := Lib.hid hn
  have HIT := Lib.hid hit
  have HGG := Lib.hid hG
  clear hG hit hn hts hh
  go_upto_region 1 with fail
  refine namedC ?_; intro W hW
  obtain ⟨c, hc⟩ : ∃ c, c = w.heap.size := ⟨_, rfl⟩
  have k0 : Blk W c 41 h.cells := by rw [hW, hc]; exact Blk.new w 41 h.cells
  have hf : Frm w.heap.size [] w W := by rw [hW]; repeat (first | with_reducible exact Frm.refl _ _ _ | with_reducible refine Frm.drewN ?_ | with_reducible refine Frm.drew ?_ | ((with_reducible refine Frm.setCell' ?_ ?_); · first | (left; simp; done) | (right; simp; done) | (right; simp; omega)) | ((with_reducible refine Frm.alloc' ?_ ?_); · first | exact Nat.le_refl _ | (simp; done) | (simp; omega)))
  have hz : W.heap.size = c + 1 := by rw [hW, hc]; simp
  clear hW hf0
  rw [← hc]
  have c0 : W.cell? ⟨c, 0, none⟩ = some (.int .i64 h.tons) := k0.cell 0
  have c2 : W.cell? ⟨c, 2, none⟩ = some (.int .i64 h.centre) := k0.cell 2
  have hlt := k0.lt
  have K0 := Lib.hid k0
  have HF := Lib.hid hf
  have HZ := Lib.hid hz
  have HC := Lib.hid hc
  clear hc hz hf k0
  go_upto_region 3 with fail
  refine namedC ?_; intro w1 hw1
  have j1 : Blk w1 (c + 1) 3 [.int .i64 (1000000 * h.tons)] := by rw [hw1]; exact (Blk.new' W 3 [.int .i64 (1000000 * h.tons)] HZ.out).alloc _
  have j2 : Blk w1 (c + 1 + 1) 3 [.int .i64 (1000000 * h.tons * 12 * h.centre)] := by rw [hw1]; exact Blk.new' _ 3 [.int .i64 (1000000 * h.tons * 12 * h.centre)] (by simp [HZ.out])
  have hf1 : Frm W.heap.size [] W w1 := by rw [hw1]; exact ((Frm.refl _ _ W).alloc (Nat.le_refl _) _).alloc (by simp) _
  have k0 := hf1.blk K0.out K0.out.lt (by simp)
  have hfw := HF.out.call hf1 HF.out.size (by simp)
  rw [HZ.out]
  clear hw1 hf1 c0 c2 x1 x2 x3 y1 y2 y3 hlt K0 HF
  have J1 := Lib.hid j1
  have J2 := Lib.hid j2
  have K0 := Lib.hid k0
  have HF := Lib.hid hfw
  clear hfw k0 j2 j1
  go_wp2_with fail
  obtain ⟨N, hN⟩ : ∃ N, N = w1.heap.size := ⟨_, rfl⟩
  have hcN : c + 1 + 1 < N := by rw [hN]; exact J2.out.lt
  have hwN : w.heap.size ≤ N := by rw [hN]; exact HF.out.size
  have HNE := Lib.hid hN
  clear hN
  refine (wpIn_wide (n := 1)).1 ?_
  refine wp_rangeFunc_ret (m := 0) (gf := G) (lb := caps) rfl HGG.out.out
    (fun i => #[.agg (ts.getD i ta0).cells.toArray]) (fun i => rfl) ts.length (fun _ => true) [] [c + 1, c + 1 + 1] (StabJ c h ts) (fun _ _ => False)
    (fun o A => match o with
      | none => Frm N [c + 1, c + 1 + 1] w1 A
      | some _ => False)
    ?hS0 ?hST ?hJ ?hJx ?hR ?hiter ?h0 ?hround ?hdone ?hstop
  case hS0 => intro x hx; rw [← HNE.out]; simp at hx; omega
  case hST => intro x hx; cases hx
  case hJ =>
    intro i A B hA hJ hf
    rw [← HNE.out] at hA hf
    exact ⟨hf.blk hJ.1 hJ.1.lt (by simp; omega), hf.blk hJ.2 hJ.2.lt (by simp; omega)⟩
  case hJx => intro i A o _ hX; exact hX
  case hR =>
    intro o A ob hR
    rw [← HNE.out]
    cases o with
    | none => exact hR.putObj (.inr (by omega)) ob
    | some i => exact hR
  case hiter =>
    intro J' Jx' W2 hfW2 hN2 hJ' hY' h0'
    rw [← HNE.out] at hfW2 hN2 hJ' hY'
    rw [← HNE.out]
    refine callsIn_wide.2 ((HIT.out.it N (N + 1) 0 [c + 1, c + 1 + 1] W2 (HF.out.call hfW2 hwN (by simp)) hwN (by omega) (fun x hx => by have := HC.out; simp at hx; omega)
      (fun i A => J' i A ∧ N + 2 ≤ A.heap.size) ?_ ?_ ⟨h0', hN2⟩).mono ?_)
    · rintro i A B _ ⟨hj, hz⟩ hf
      exact ⟨hJ' i A B hz hj hf, Nat.le_trans hz hf.size⟩
    · rintro i A0 A hi _ ⟨hj, hz⟩ hf
      refine (hY' i A0 A hi hz hj hf).mono ?_
      rintro e A' ⟨hk, (⟨h1, h2, h3⟩ | ⟨h1, _⟩)⟩
      · exact ⟨hk, h2, h3, Nat.le_trans (Nat.le_trans hz hf.size) hk.frm.size⟩
      · cases h1
    · rintro e W3 ⟨hv, hf3, h1⟩
      exact ⟨hv, .inl ⟨(hfW2.narrow (by simp)).trans hf3, h1.1⟩⟩
  case h0 =>
    intro W2 hf2 hz
    rw [← HNE.out] at hf2
    exact ⟨hf2.blk J1.out (by omega) (by simp), hf2.blk J2.out (by omega) (by simp)⟩
  case hround =>
    intro i A0 W2 hi hz0 hj0 hf0 hj
    rw [← HNE.out] at hz0
    rw [← HNE.out]
    obtain ⟨t, ht⟩ : ∃ t, t = ts.getD i ta0 := ⟨_, rfl⟩
    have htok : TaOK t := by rw [ht]; exact ta_mem HTS.out hi
    dsimp only
    simp only [← ht]
    have HTT := Lib.hid ht
    clear ht
    obtain ⟨jv, jd⟩ := hj
    refine regionIn_of (noOut noOutF) rfl ?_
    go_wp2_with (with_reducible refine atStore 49 rfl ?_; refine stop_ ?_)
    refine go_on ?_
    refine wpList_storeNew (P := Tryd.prog) (cs := t.cells) rfl rfl rfl rfl rfl info49 (by simp [Ta.cells, Value.oneCell']) ?_
    intro W3 hfW3 hbW3 hz3
    refine wpList_nil ?_
    dsimp only [Exit.then, Act.put]
    have hz2 : N + 2 ≤ W2.heap.size := Nat.le_trans hz0 hf0.size
    refine ⟨⟨hfW3.mono hz2 (by simp), fun k _ hk => hfW3.block k hk (by simp)⟩, ?_⟩
    intro o
    obtain ⟨W4, hW4⟩ : ∃ W4, W4 = W3.putObj (N + 1) o := ⟨_, rfl⟩
    obtain ⟨q, hq⟩ : ∃ q, q = W2.heap.size := ⟨_, rfl⟩
    obtain ⟨vo, hvo⟩ : ∃ x, x = volZ h (ts.take i) := ⟨_, rfl⟩
    obtain ⟨dn, hdn⟩ : ∃ x, x = downZ h (ts.take i) := ⟨_, rfl⟩
    have e1 : Blk W4 (c + 1) 3 [.int .i64 vo] := by rw [hW4, hvo]; exact (World.putObj_heap_other (by omega)).trans (hfW3.blk jv jv.lt (by simp))
    have e2 : Blk W4 (c + 1 + 1) 3 [.int .i64 dn] := by rw [hW4, hdn]; exact (World.putObj_heap_other (by omega)).trans (hfW3.blk jd jd.lt (by simp))
    have b7 : Blk W4 q 49 t.cells := by rw [hW4, hq]; exact (World.putObj_heap_other (by omega)).trans hbW3
    have hA0q : A0.heap.size ≤ q := by rw [hq]; exact hf0.size
    have hqW : q < W4.heap.size := b7.lt
    have hnq : N + 2 ≤ q := by rw [hq]; exact hz2
    have hbv := vol_bound HH.out (l := ts.take i) (fun x hx => HTS.out x (List.mem_of_mem_take hx)) (by have := HN6.out; simp; omega)
    have hbd := down_bound HH.out (l := ts.take i) (fun x hx => HTS.out x (List.mem_of_mem_take hx)) (by have := HN6.out; simp; omega)
    rw [← hvo] at hbv
    rw [← hdn] at hbd
    have hv2 : volZ h (ts.take (i + 1)) = vo + t.long * t.wide * t.deep := by rw [take_snoc ts hi, volZ_snoc, ← hvo, ← HTT.out]; rfl
    have hd2 : downZ h (ts.take (i + 1)) = dn + (t.long * t.wide * t.deep * (12 * t.floor + 6 * t.deep) + t.long * t.wide * t.wide * t.wide) := by rw [take_snoc ts hi, downZ_snoc, ← hdn, ← HTT.out]; rfl
    have p1 := mul_in htok.1 htok.2.1
    have p2 := mul_in p1 htok.2.2.1
    have p3 := mul_in p1 htok.2.1
    have p4 := mul_in p3 htok.2.1
    have p5 := mul_in p2 (b := 12 * t.floor + 6 * t.deep) (n := 180000) (by have := htok.2.2; omega)
    have i3 := htok.2.2.1
    have i4 := htok.2.2.2
    rw [← hW4, ← hq]
    have xb0 : wrap64 (t.long * t.wide) = t.long * t.wide := IntWalk.wrap64_in _ (by omega)
    have yb0 : IntKind.i64.wrap (t.long * t.wide) = t.long * t.wide := IntWalk.i64_in _ (by omega)
    have xb1 : wrap64 (t.long * t.wide * t.deep) = t.long * t.wide * t.deep := IntWalk.wrap64_in _ (by omega)
    have yb1 : IntKind.i64.wrap (t.long * t.wide * t.deep) = t.long * t.wide * t.deep := IntWalk.i64_in _ (by omega)
    have xb2 : wrap64 (vo + t.long * t.wide * t.deep) = vo + t.long * t.wide * t.deep := IntWalk.wrap64_in _ (by omega)
    have yb2 : IntKind.i64.wrap (vo + t.long * t.wide * t.deep) = vo + t.long * t.wide * t.deep := IntWalk.i64_in _ (by omega)
    have xb3 : wrap64 (12 * t.floor) = 12 * t.floor := IntWalk.wrap64_in _ (by omega)
    have yb3 : IntKind.i64.wrap (12 * t.floor) = 12 * t.floor := IntWalk.i64_in _ (by omega)
    have xb4 : wrap64 (6 * t.deep) = 6 * t.deep := IntWalk.wrap64_in _ (by omega)
    have yb4 : IntKind.i64.wrap (6 * t.deep) = 6 * t.deep := IntWalk.i64_in _ (by omega)
    have xb5 : wrap64 (12 * t.floor + 6 * t.deep) = 12 * t.floor + 6 * t.deep := IntWalk.wrap64_in _ (by omega)
    have yb5 : IntKind.i64.wrap (12 * t.floor + 6 * t.deep) = 12 * t.floor + 6 * t.deep := IntWalk.i64_in _ (by omega)
    have xb6 : wrap64 (t.long * t.wide * t.deep * (12 * t.floor + 6 * t.deep)) = t.long * t.wide * t.deep * (12 * t.floor + 6 * t.deep) := IntWalk.wrap64_in _ (by omega)
    have yb6 : IntKind.i64.wrap (t.long * t.wide * t.deep * (12 * t.floor + 6 * t.deep)) = t.long * t.wide * t.deep * (12 * t.floor + 6 * t.deep) := IntWalk.i64_in _ (by omega)
    have xb7 : wrap64 (t.long * t.wide * t.wide) = t.long * t.wide * t.wide := IntWalk.wrap64_in _ (by omega)
    have yb7 : IntKind.i64.wrap (t.long * t.wide * t.wide) = t.long * t.wide * t.wide := IntWalk.i64_in _ (by omega)
    have xb8 : wrap64 (t.long * t.wide * t.wide * t.wide) = t.long * t.wide * t.wide * t.wide := IntWalk.wrap64_in _ (by omega)
    have yb8 : IntKind.i64.wrap (t.long * t.wide * t.wide * t.wide) = t.long * t.wide * t.wide * t.wide := IntWalk.i64_in _ (by omega)
    have xb9 : wrap64 (t.long * t.wide * t.deep * (12 * t.floor + 6 * t.deep) + t.long * t.wide * t.wide * t.wide) = t.long * t.wide * t.deep * (12 * t.floor + 6 * t.deep) + t.long * t.wide * t.wide * t.wide := IntWalk.wrap64_in _ (by omega)
    have yb9 : IntKind.i64.wrap (t.long * t.wide * t.deep * (12 * t.floor + 6 * t.deep) + t.long * t.wide * t.wide * t.wide) = t.long * t.wide * t.deep * (12 * t.floor + 6 * t.deep) + t.long * t.wide * t.wide * t.wide := IntWalk.i64_in _ (by omega)
    have xb10 : wrap64 (dn + (t.long * t.wide * t.deep * (12 * t.floor + 6 * t.deep) + t.long * t.wide * t.wide * t.wide)) = dn + (t.long * t.wide * t.deep * (12 * t.floor + 6 * t.deep) + t.long * t.wide * t.wide * t.wide) := IntWalk.wrap64_in _ (by omega)
    have yb10 : IntKind.i64.wrap (dn + (t.long * t.wide * t.deep * (12 * t.floor + 6 * t.deep) + t.long * t.wide * t.wide * t.wide)) = dn + (t.long * t.wide * t.deep * (12 * t.floor + 6 * t.deep) + t.long * t.wide * t.wide * t.wide) := IntWalk.i64_in _ (by omega)
    have k0 : W4.cell? ⟨q, 0, none⟩ = some (.int .i64 t.long) := b7.cell 0
    have k1 : W4.cell? ⟨q, 1, none⟩ = some (.int .i64 t.wide) := b7.cell 1
    have k2 : W4.cell? ⟨q, 2, none⟩ = some (.int .i64 t.deep) := b7.cell 2
    have k3 : W4.cell? ⟨q, 3, none⟩ = some (.int .i64 t.floor) := b7.cell 3
    have k4 : W4.cell? ⟨c + 1, 0, none⟩ = some (.int .i64 vo) := e1.cell 0
    have k5 : W4.cell? ⟨c + 1 + 1, 0, none⟩ = some (.int .i64 dn) := e2.cell 0
    have f4 := e1.free 0
    have f5 := e2.free 0
    have ne1 : c + 1 ≠ q := by omega
    have ne2 : c + 1 + 1 ≠ q := by omega
    have ne3 : c + 1 ≠ c + 1 + 1 := by omega
    clear p1 p2 p3 p4 p5 i3 i4 hbv hbd hvo hdn hW4 hq hfW3 hbW3 hz3 jv jd hj0 hf0 htok hi
    have E1 := Lib.hid e1
    have E2 := Lib.hid e2
    have B7 := Lib.hid b7
    have HA0Q := Lib.hid hA0q
    have HQW := Lib.hid hqW
    have HNQ := Lib.hid hnq
    have HV2 := Lib.hid hv2
    have HD2 := Lib.hid hd2
    clear hd2 hv2 hnq hqW hA0q b7 e2 e1
    refine wpIn_block ?_
    refine wpIn_seq ?_
    refine regionIn_of (noOut (noOutB noOutR)) rfl ?_
    go_wp2_with fail
    refine wpIn_seq ?_
    refine regionIn_of (noOut (noOutB noOutR)) rfl ?_
    go_wp2_with fail
    refine regionIn_of (noOutB noOutR) rfl ?_
    go_wp2_with fail
    show KeepY (w1.heap.size + 2) _ _ _ _ ∧ _ ∧ StabJ c h ts (i + 1) _
    rw [← HNE.out]
    have hF6 := ((Frm.refl W4.heap.size [c + 1, c + 1 + 1] W4).setCell (p := ⟨c + 1, 0, none⟩) (.inl (by simp)) (.int .i64 (vo + t.long * t.wide * t.deep))).setCell (p := ⟨c + 1 + 1, 0, none⟩) (.inl (by simp)) (.int .i64 (dn + (t.long * t.wide * t.deep * (12 * t.floor + 6 * t.deep) + t.long * t.wide * t.wide * t.wide)))
    have hNW : N + 2 ≤ W4.heap.size := by have := HNQ.out; have := HQW.out; omega
    refine ⟨keepY_of hF6 hNW (fun x hx _ => hx) (fun x hx => by simp at hx; omega), rfl, ?_, ?_⟩
    · rw [HV2.out]; exact (E1.out.set 0 (.int .i64 (vo + t.long * t.wide * t.deep))).other' (by dsimp only; omega)
    · rw [HD2.out]; exact (E2.out.other' (a := ⟨c + 1, 0, none⟩) (v := .int .i64 (vo + t.long * t.wide * t.deep)) (by dsimp only; omega)).set 0 _
  case hdone =>
    intro W2 hR hJ hD
    rw [← HNE.out] at hD ⊢
    obtain ⟨j1, j2⟩ := hJ
    rw [List.take_length] at j1 j2
    obtain ⟨vo, hvo⟩ : ∃ x, x = volZ h ts := ⟨_, rfl⟩
    obtain ⟨dn, hdn⟩ : ∃ x, x = downZ h ts := ⟨_, rfl⟩
    have hbv := vol_bound HH.out HTS.out HN6.out
    have hbd := down_bound HH.out HTS.out HN6.out
    have hst : stabZ h ts = (12 * vo * h.meta_ - dn) / (12 * vo) := by rw [hvo, hdn]; rfl
    rw [← hvo] at hbv j1
    rw [← hdn] at hbd j2
    have im := HH.out.2.1
    have p1 := mul_in (a := 12 * vo) (b := h.meta_) (m := 84000000000000) (n := 10000) (by omega) im
    have kk0 : Blk W2 c 41 h.cells := hR.blk K0.out (by omega) (by simp; omega)
    have c1 : W2.cell? ⟨c, 1, none⟩ = some (.int .i64 h.meta_) := kk0.cell 1
    have d1 : W2.cell? ⟨c + 1, 0, none⟩ = some (.int .i64 vo) := j1.cell 0
    have d2 : W2.cell? ⟨c + 1 + 1, 0, none⟩ = some (.int .i64 dn) := j2.cell 0
    have x1 : wrap64 (12 * vo) = 12 * vo := IntWalk.wrap64_in _ (by omega)
    have x2 : wrap64 (12 * vo * h.meta_) = 12 * vo * h.meta_ := IntWalk.wrap64_in _ (by omega)
    have x3 : wrap64 (12 * vo * h.meta_ - dn) = 12 * vo * h.meta_ - dn := IntWalk.wrap64_in _ (by omega)
    have y1 : IntKind.i64.wrap (12 * vo) = 12 * vo := IntWalk.i64_in _ (by omega)
    have y2 : IntKind.i64.wrap (12 * vo * h.meta_) = 12 * vo * h.meta_ := IntWalk.i64_in _ (by omega)
    have y3 : IntKind.i64.wrap (12 * vo * h.meta_ - dn) = 12 * vo * h.meta_ - dn := IntWalk.i64_in _ (by omega)
    have hfl := floor_any (12 * vo * h.meta_ - dn) (12 * vo) W2 (by omega) (by omega) (by omega)
    have hffw : Frm w.heap.size [] w W2 := HF.out.trans (hR.mono hwN (fun k hk hm => by have := HC.out; simp at hm; omega))
    clear hvo hdn hbv hbd im p1 kk0 j1 j2 hR
    have HFL := Lib.hid hfl
    have HST := Lib.hid hst
    have HD := Lib.hid hD
    have HFF := Lib.hid hffw
    clear hffw hD hst hfl
    dsimp only [Exit.inBlock, Exit.then]
    go_wp2_with fail
    refine HFL.out.mono ?_; rintro e W3 ⟨rfl, rfl⟩
    go_wp2_with fail
    refine ⟨by simp, .inl ⟨_, _, rfl, run_takeDeferred HD.out, ?_⟩⟩
    refine ⟨_, by simp [results, Tryd.results50, go_sem]; rfl, ?_⟩
    exact ⟨by rw [HST.out], HFF.out.putObj (.inr hwN) _⟩
  case hstop =>
    intro i W2 h1 _ _
    exact h1.elim
end Go.Proofs.YtfmigicmfolbjaaDoor

namespace Go.Proofs.YtfmigicmfolbjaaDoor
set_option linter.all false
set_option linter.unusedSimpArgs false
set_option linter.unusedVariables false
open Go.RowKit

set_option maxRecDepth 100000 in
set_option maxHeartbeats 4000000 in
theorem indexT_any (g : FuncId) (caps : Array Value) (hen : Enters g) (ad : Option Addr) (b off len cap : Nat) (L : Nat → Ta) (w : World) (hr : Rw w 4 ad b off len fun i => (L i).cells) (p : Nat → Bool)
    (hg : ∀ W, Frm w.heap.size [] w W → ∀ i, i < len → Calls Tryd.prog g (#[.agg (L i).cells.toArray] ++ caps) W fun e w' => e = .returned (.bool (p i)) ∧ Frm W.heap.size [] W w') :
    Calls Tryd.prog 109 #[.slice ad len cap, .func (.func g) #[] caps] w fun e w' => (∃ r : Int, e = .returned (.int .i64 r) ∧ First p len r) ∧ Frm w.heap.size [] w w' := by
  have hen' : ∀ (args : Array Value) (W : World), (callFunc g args).run Tryd.prog W = .ok (.enter g args) W := hen.out
  have hl2 : (len : Int) ≤ 9223372036854775807 := by
    have : maxLen ≤ 9223372036854775807 := by decide
    have := hr.len
    omega
  have HR := Lib.hid hr
  have HG := Lib.hid hg
  clear hg hr
  clear hen
  go_enter Tryd.func109, Tryd.ntmps109
  go_wp2_with fail
  go_loopw [8] (fun i8 wr => ∃ j : Nat, i8 = .int .i64 j ∧ j ≤ len ∧ (∀ k, k < j → p k = false) ∧ Frm w.heap.size [] w wr) (fun i8 _ => len - (intOf i8).toNat)
  case atStart => exact ⟨0, rfl, Nat.zero_le _, fun k hk => by omega, by repeat (first | with_reducible exact Frm.refl _ _ _ | with_reducible refine Frm.drewN ?_ | with_reducible refine Frm.drew ?_ | ((with_reducible refine Frm.setCell' ?_ ?_); · first | (left; simp; done) | (right; simp; done) | (right; simp; omega)) | ((with_reducible refine Frm.alloc' ?_ ?_); · first | exact Nat.le_refl _ | (simp; done) | (simp; omega)))⟩
  case round =>
    obtain ⟨j, rfl, hj, hno, hfr⟩ := hrel
    by_cases hjl : j < len
    · have hjl' : (j : Int) < (len : Int) := by omega
      have had' := HR.out.ad (by omega)
      subst had'
      obtain ⟨x, hx⟩ : ∃ x, x = L j := ⟨_, rfl⟩
      have hlo : (loadVar 49 ⟨b, off + j * 4, none⟩).run Tryd.prog wr = .ok (.agg x.cells.toArray) wr := by rw [hx]; exact (HR.out.frm hfr (Nat.le_refl _)).load (P := Tryd.prog) Tryd.underlying49 rfl hjl info49
      have HLO := Lib.hid hlo; clear hlo
      have hca := HG.out wr hfr j hjl
      rw [← hx] at hca
      cases hp : p j
      · rw [hp] at hca
        have hnx : ∀ k, k < j + 1 → p k = false := fun k hk => by
          rcases Nat.lt_or_ge k j with e | e
          · exact hno k e
          · obtain rfl : k = j := by omega
            exact hp
        have HNO := Lib.hid hno
        have HFR := Lib.hid hfr
        have HCA := Lib.hid hca
        have HP := Lib.hid hp
        have HJL := Lib.hid hjl
        have HNX := Lib.hid hnx
        have HX := Lib.hid hx
        clear hx hnx hjl hp hca hfr hno
        go_wp2_with (with_reducible refine atLoad 49 rfl ?_; refine wpList_loadE rfl rfl rfl HLO.out ?_)
        refine HCA.out.mono ?_; rintro e w1 ⟨rfl, hf1⟩
        have hf2 : Frm w.heap.size [] w w1 := HFR.out.call hf1 HFR.out.size (by simp)
        clear hf1
        have HF2 := Lib.hid hf2
        clear hf2
        go_wp2_with fail
        exact ⟨⟨j + 1, by simp, HJL.out, HNX.out, HF2.out⟩, by have := HJL.out; simp [intOf]; omega⟩
      · rw [hp] at hca
        have HNO := Lib.hid hno
        have HFR := Lib.hid hfr
        have HCA := Lib.hid hca
        have HP := Lib.hid hp
        have HJL := Lib.hid hjl
        have HX := Lib.hid hx
        clear hx hjl hp hca hfr hno
        go_wp2_with (with_reducible refine atLoad 49 rfl ?_; refine wpList_loadE rfl rfl rfl HLO.out ?_)
        refine HCA.out.mono ?_; rintro e w1 ⟨rfl, hf1⟩
        have hf2 : Frm w.heap.size [] w w1 := HFR.out.call hf1 HFR.out.size (by simp)
        clear hf1
        have HF2 := Lib.hid hf2
        clear hf2
        go_wp2_with fail
        go_ret
        exact ⟨⟨_, rfl, .inr ⟨j, HJL.out, rfl, HP.out, HNO.out⟩⟩, HF2.out⟩
    · have hjl' : ¬ (j : Int) < (len : Int) := by omega
      obtain rfl : j = len := by omega
      have HNO := Lib.hid hno
      have HFR := Lib.hid hfr
      clear hfr hno
      go_wp2_with fail
      go_ret
      exact ⟨⟨_, rfl, .inl ⟨rfl, HNO.out⟩⟩, HFR.out⟩
set_option maxRecDepth 100000 in
set_option maxHeartbeats 4000000 in
theorem contT_any (g : FuncId) (caps : Array Value) (hen : Enters g) (ad : Option Addr) (b off len cap : Nat) (L : Nat → Ta) (w : World) (hr : Rw w 4 ad b off len fun i => (L i).cells) (p : Nat → Bool)
    (hg : ∀ W, Frm w.heap.size [] w W → ∀ i, i < len → Calls Tryd.prog g (#[.agg (L i).cells.toArray] ++ caps) W fun e w' => e = .returned (.bool (p i)) ∧ Frm W.heap.size [] W w') :
    Calls Tryd.prog 84 #[.slice ad len cap, .func (.func g) #[] caps] w fun e w' => (∃ r : Int, e = .returned (.bool (decide (0 ≤ r))) ∧ First p len r) ∧ Frm w.heap.size [] w w' := by
  have hin := indexT_any g caps hen ad b off len cap L w hr p hg
  have HIN := Lib.hid hin
  clear hin
  clear hr hg hen
  go_enter Tryd.func84, Tryd.ntmps84
  go_wp2_with fail
  refine HIN.out.mono ?_; rintro e w1 ⟨⟨r, rfl, hr⟩, hf1⟩
  by_cases h0 : 0 ≤ r
  · have HR := Lib.hid hr
    have HF1 := Lib.hid hf1
    clear hf1 hr
    go_wp2_with fail
    go_ret
    exact ⟨⟨r, by first | rfl | (rw [decide_eq_true h0]; rfl), HR.out⟩, HF1.out⟩
  · have HR := Lib.hid hr
    have HF1 := Lib.hid hf1
    clear hf1 hr
    go_wp2_with fail
    go_ret
    exact ⟨⟨r, rfl, HR.out⟩, HF1.out⟩

def Ta.list (t : Ta) : List Int := [t.long, t.wide, t.deep, t.floor]
def taB (t : Ta) : Bool := allIn (numsF t.list) 4 0 10000
theorem taB_ok {t : Ta} (h : taB t = true) : TaOK t := by
  have h1 := allIn_iff.1 h
  exact ⟨inB_iff.1 (h1 0 (by omega)), inB_iff.1 (h1 1 (by omega)), inB_iff.1 (h1 2 (by omega)), inB_iff.1 (h1 3 (by omega))⟩
def huB (h : Hu) : Bool := inB h.tons 1 1000000 && allIn (numsF [h.meta_, h.centre]) 2 0 10000
theorem huB_ok {h : Hu} (k : huB h = true) : HuOK h := by
  unfold huB at k
  rw [Bool.and_eq_true] at k
  have h1 := allIn_iff.1 k.2
  exact ⟨inB_iff.1 k.1, inB_iff.1 (h1 0 (by omega)), inB_iff.1 (h1 1 (by omega))⟩
def tasB (n : Nat) (L : Nat → Ta) : Bool := (List.range n).all fun i => taB (L i)
/-- Why a ship is none; 0: it is one. -/
def shipE (h : Hu) (n : Nat) (L : Nat → Ta) : Int := if (huB h && tasB n L) = true then (if 6 < n then 3 else 0) else 2
set_option maxRecDepth 100000 in
set_option maxHeartbeats 4000000 in
theorem shipc_any (t : Ta) (w : World) : Calls Tryd.prog 85 #[.agg t.cells.toArray] w fun e w' => e = .returned (.bool (!taB t)) ∧ Frm w.heap.size [] w w' := by
  have hf0 := Tryd.func85
  go_enter Tryd.func85, Tryd.ntmps85
  go_upto_region 1 with fail
  refine namedC ?_; intro W hW
  have hb : Blk W w.heap.size 49 t.cells := by rw [hW]; exact Blk.new w 49 t.cells
  have hf : Frm w.heap.size [] w W := by rw [hW]; repeat (first | with_reducible exact Frm.refl _ _ _ | with_reducible refine Frm.drewN ?_ | with_reducible refine Frm.drew ?_ | ((with_reducible refine Frm.setCell' ?_ ?_); · first | (left; simp; done) | (right; simp; done) | (right; simp; omega)) | ((with_reducible refine Frm.alloc' ?_ ?_); · first | exact Nat.le_refl _ | (simp; done) | (simp; omega)))
  clear hW hf0
  obtain ⟨c, hc⟩ : ∃ c, c = w.heap.size := ⟨_, rfl⟩
  rw [← hc] at hb ⊢
  have c0 : W.cell? ⟨c, 0, none⟩ = some (.int .i64 t.long) := hb.cell 0
  have c1 : W.cell? ⟨c, 1, none⟩ = some (.int .i64 t.wide) := hb.cell 1
  have c2 : W.cell? ⟨c, 2, none⟩ = some (.int .i64 t.deep) := hb.cell 2
  have c3 : W.cell? ⟨c, 3, none⟩ = some (.int .i64 t.floor) := hb.cell 3
  clear hb
  have HF := Lib.hid hf
  have HC := Lib.hid hc
  clear hc hf
  go_wp2_with fail
  refine namedCalls ?_; intro V hV
  have hbn : Blk V W.heap.size 3 (t.list.map fun x => Value.int .i64 x) := by rw [hV]; exact Blk.new W 3 (t.list.map fun x => Value.int .i64 x)
  have hf2 : Frm W.heap.size [] W V := by rw [hV]; exact (Frm.refl _ _ W).alloc (Nat.le_refl _) _
  clear hV
  refine (all_any 0 10000 _ W.heap.size 0 4 4 (numsF t.list) V (rwI_new hbn (show 4 ≤ 1000 by omega))).mono ?_; rintro e w1 ⟨rfl, hf1⟩
  have hf := HF.out.call (hf2.call hf1 hf2.size (by simp)) HF.out.size (by simp)
  have ht : allIn (numsF t.list) 4 0 10000 = taB t := rfl
  rw [ht]
  clear hf1 hf2 hbn HF c0 c1 c2 c3 ht
  have HF := Lib.hid hf
  clear hf
  go_wp2_with fail
  go_ret
  exact ⟨rfl, HF.out⟩
set_option maxRecDepth 100000 in
set_option maxHeartbeats 8000000 in
theorem ship_any (h : Hu) (ad : Option Addr) (b off n cap : Nat) (L : Nat → Ta) (w : World) (hr : Rw w 4 ad b off n fun i => (L i).cells) :
    Calls Tryd.prog 49 #[.agg h.cells.toArray, .slice ad n cap] w fun e w' => e = .returned (.int .i64 (shipE h n L)) ∧ Frm w.heap.size [] w w' := by
  have hf0 := Tryd.func49
  have hcl : Enters 85 := enters Tryd.func85 (by kernel_rfl) (by kernel_rfl)
  have HR := Lib.hid hr
  have HCL := Lib.hid hcl
  clear hcl hr
  go_enter Tryd.func49, Tryd.ntmps49
  go_upto_region 1 with fail
  refine namedC ?_; intro W hW
  have hb : Blk W w.heap.size 41 h.cells := by rw [hW]; exact Blk.new w 41 h.cells
  have hf : Frm w.heap.size [] w W := by rw [hW]; repeat (first | with_reducible exact Frm.refl _ _ _ | with_reducible refine Frm.drewN ?_ | with_reducible refine Frm.drew ?_ | ((with_reducible refine Frm.setCell' ?_ ?_); · first | (left; simp; done) | (right; simp; done) | (right; simp; omega)) | ((with_reducible refine Frm.alloc' ?_ ?_); · first | exact Nat.le_refl _ | (simp; done) | (simp; omega)))
  clear hW hf0
  obtain ⟨c, hc⟩ : ∃ c, c = w.heap.size := ⟨_, rfl⟩
  rw [← hc] at hb ⊢
  have c0 : W.cell? ⟨c, 0, none⟩ = some (.int .i64 h.tons) := hb.cell 0
  have c1 : W.cell? ⟨c, 1, none⟩ = some (.int .i64 h.meta_) := hb.cell 1
  have c2 : W.cell? ⟨c, 2, none⟩ = some (.int .i64 h.centre) := hb.cell 2
  clear hb
  have HF := Lib.hid hf
  have HC := Lib.hid hc
  clear hc hf
  go_wp2_with fail
  refine (within_any _ _ _ _).mono ?_; rintro e w' ⟨rfl, rfl⟩
  cases ht : inB h.tons 1 1000000
  · have hE : shipE h n L = 2 := by unfold shipE huB; rw [ht]; rfl
    have HE := Lib.hid hE
    clear hE
    go_wp2_with fail
    go_ret
    exact ⟨by rw [HE.out]; rfl, HF.out⟩
  have HT := Lib.hid ht
  clear ht
  go_wp2_with fail
  refine namedCalls ?_; intro V hV
  have hbn : Blk V W.heap.size 3 ([h.meta_, h.centre].map fun x => Value.int .i64 x) := by rw [hV]; exact Blk.new W 3 ([h.meta_, h.centre].map fun x => Value.int .i64 x)
  have hf2 : Frm W.heap.size [] W V := by rw [hV]; exact (Frm.refl _ _ W).alloc (Nat.le_refl _) _
  clear hV
  refine (all_any 0 10000 _ W.heap.size 0 2 2 (numsF [h.meta_, h.centre]) V (rwI_new hbn (show 2 ≤ 1000 by omega))).mono ?_; rintro e w1 ⟨rfl, hf1⟩
  have hf := HF.out.call (hf2.call hf1 hf2.size (by simp)) HF.out.size (by simp)
  clear hf1 hf2 hbn HF c0 c1 c2
  cases hal : allIn (numsF [h.meta_, h.centre]) 2 0 10000
  · have hE : shipE h n L = 2 := by unfold shipE huB; rw [hal]; simp
    have HE := Lib.hid hE
    have HF := Lib.hid hf
    clear hf hE
    go_wp2_with fail
    go_ret
    exact ⟨by rw [HE.out]; rfl, HF.out⟩
  have hhu : huB h = true := by unfold huB; rw [HT.out, hal]; rfl
  have hin := contT_any 85 #[] HCL.out ad b off n cap L w1 (HR.out.frm hf (Nat.le_refl _)) (fun i => !taB (L i)) (fun V hV i hi => shipc_any (L i) V)
  have HF := Lib.hid hf
  have HHU := Lib.hid hhu
  have HIN := Lib.hid hin
  have HAL := Lib.hid hal
  clear hal hin hhu hf
  go_wp2_with fail
  refine HIN.out.mono ?_; rintro e w2 ⟨⟨r, rfl, hr⟩, hf1⟩
  have hf := HF.out.call hf1 HF.out.size (by simp)
  have hln := HR.out.len
  clear hf1 HF
  have htb : (!(decide (0 ≤ r))) = tasB n L := by
    have h1 := First.all hr
    have h2 : tasB n L = true ↔ ∀ i, i < n → taB (L i) = true := by unfold tasB; simp
    rw [← h2] at h1
    cases h3 : tasB n L
    · rw [h3] at h1
      cases h4 : !(decide (0 ≤ r))
      · rfl
      · exact absurd (h1.1 h4) (by simp)
    · exact h1.2 h3
  by_cases h0 : 0 ≤ r
  · have hd : decide (0 ≤ r) = true := by simp [h0]
    have hE : shipE h n L = 2 := by unfold shipE; rw [← htb, hd]; simp
    clear hr htb
    have HE := Lib.hid hE
    have HF := Lib.hid hf
    clear hf hE
    go_wp2_with fail
    go_ret
    exact ⟨by rw [HE.out]; rfl, HF.out⟩
  have hd : decide (0 ≤ r) = false := by simp; omega
  by_cases h6 : 6 < n
  · have h6' : (6 : Int) < (n : Int) := by omega
    have hE : shipE h n L = 3 := by unfold shipE; rw [HHU.out, ← htb, hd, if_pos (by rfl), if_pos h6]
    clear hr htb h0
    have HE := Lib.hid hE
    have HF := Lib.hid hf
    clear hf hE
    go_wp2_with fail
    go_ret
    exact ⟨by rw [HE.out]; rfl, HF.out⟩
  · have h6' : ¬ (6 : Int) < (n : Int) := by omega
    have hE : shipE h n L = 0 := by unfold shipE; rw [HHU.out, ← htb, hd, if_pos (by rfl), if_neg h6]
    clear hr htb h0
    have HE := Lib.hid hE
    have HF := Lib.hid hf
    clear hf hE
    go_wp2_with fail
    go_ret
    exact ⟨by rw [HE.out]; rfl, HF.out⟩
def tasL (n : Nat) (L : Nat → Ta) : List Ta := (List.range n).map L
theorem tasL_getD {n i : Nat} (L : Nat → Ta) (hi : i < n) : (tasL n L).getD i ta0 = L i := by simp [tasL, List.getD_eq_getElem?_getD, hi]
theorem ship_ok {h : Hu} {n : Nat} {L : Nat → Ta} (k : shipE h n L = 0) : HuOK h ∧ (∀ i, i < n → TaOK (L i)) ∧ n ≤ 6 := by
  unfold shipE at k
  split at k
  · rename_i h1
    rw [Bool.and_eq_true] at h1
    split at k
    · omega
    · refine ⟨huB_ok h1.1, fun i hi => taB_ok ?_, by omega⟩
      have := h1.2
      unfold tasB at this
      simp at this
      exact this i hi
  · omega
set_option maxRecDepth 100000 in
set_option maxHeartbeats 4000000 in
theorem values_any (ad : Option Addr) (n cap : Nat) (w : World) : Calls Tryd.prog 51 #[.slice ad n cap] w fun e w' => e = .returned (.func (.func 87) #[] #[.pointer (some ⟨w.heap.size, 0, none⟩)]) ∧ Blk w' w.heap.size 42 [.slice ad n cap] ∧ Frm w.heap.size [] w w' := by
  have hf0 := Tryd.func51
  go_enter Tryd.func51, Tryd.ntmps51
  go_wp2_with fail
  go_ret
  exact ⟨rfl, Blk.new w 42 [.slice ad n cap], (Frm.refl _ _ w).alloc (Nat.le_refl _) _⟩
def StabilityIs (h : Hu) (n : Nat) (L : Nat → Ta) (e : Ending) : Prop := (shipE h n L ≠ 0 ∧ e = .returned (.tuple #[.int .i64 0, .int .i64 (shipE h n L)])) ∨ (shipE h n L = 0 ∧ e = .returned (.tuple #[.int .i64 (stabZ h (tasL n L)), .int .i64 0]))
set_option maxRecDepth 100000 in
set_option maxHeartbeats 8000000 in
theorem stability_any (h : Hu) (ad : Option Addr) (b off n cap : Nat) (L : Nat → Ta) (w : World) (hr : Rw w 4 ad b off n fun i => (L i).cells) :
    Calls Tryd.prog 21 #[.agg h.cells.toArray, .slice ad n cap] w fun e w' => StabilityIs h n L e ∧ Frm w.heap.size [] w w' := by
  have hf0 := Tryd.func21
  have hcl : Enters 87 := enters Tryd.func87 (by kernel_rfl) (by kernel_rfl)
  have HR := Lib.hid hr
  have HCL := Lib.hid hcl
  clear hcl hr
  go_enter Tryd.func21, Tryd.ntmps21
  go_upto_region 1 with fail
  refine namedC ?_; intro W hW
  have hb : Blk W w.heap.size 41 h.cells := by rw [hW]; exact Blk.new w 41 h.cells
  have hf : Frm w.heap.size [] w W := by rw [hW]; repeat (first | with_reducible exact Frm.refl _ _ _ | with_reducible refine Frm.drewN ?_ | with_reducible refine Frm.drew ?_ | ((with_reducible refine Frm.setCell' ?_ ?_); · first | (left; simp; done) | (right; simp; done) | (right; simp; omega)) | ((with_reducible refine Frm.alloc' ?_ ?_); · first | exact Nat.le_refl _ | (simp; done) | (simp; omega)))
  clear hW hf0
  obtain ⟨c, hc⟩ : ∃ c, c = w.heap.size := ⟨_, rfl⟩
  rw [← hc] at hb ⊢
  have HB := Lib.hid hb
  have HF := Lib.hid hf
  have HC := Lib.hid hc
  clear hc hf hb
  go_wp2_with (with_reducible refine atLoad 41 rfl ?_; refine wpList_loadE rfl rfl rfl (load_hu HB.out) ?_)
  refine (ship_any h ad b off n cap L W (HR.out.frm HF.out (Nat.le_refl _))).mono ?_; rintro e w1 ⟨rfl, hf1⟩
  have hb := hf1.blk HB.out HB.out.lt (by simp)
  have hf := HF.out.call hf1 HF.out.size (by simp)
  clear hf1 HB HF
  obtain ⟨E, hE⟩ : ∃ E, E = shipE h n L := ⟨_, rfl⟩
  rw [← hE]
  by_cases hz : E = 0
  rotate_left
  · have hzb : (E != 0) = true := by simp [hz]
    have HE := Lib.hid hE
    have HZ := Lib.hid hz
    have HF := Lib.hid hf
    clear hf hz hE
    go_wp2_with fail
    refine bodyPost_ret (v := .tuple #[.int .i64 0, .int .i64 E]) (by simp [results, Tryd.results21, go_sem]) rfl ?_
    exact ⟨.inl ⟨by rw [← HE.out]; exact HZ.out, by rw [← HE.out]⟩, HF.out⟩
  subst hz
  obtain ⟨hh, hta, hn6⟩ := ship_ok hE.symm
  have hlu : ∀ X, Frm w1.heap.size [] w1 X → (loadVar 41 ⟨c, 0, none⟩).run Tryd.prog X = .ok (.agg h.cells.toArray) X := fun X hX => load_hu (hX.blk hb hb.lt (by simp))
  have hfx : ∀ X, Frm w1.heap.size [] w1 X → True ∧ True := fun _ _ => ⟨trivial, trivial⟩
  have HE := Lib.hid hE
  have HF := Lib.hid hf
  have HH := Lib.hid hh
  have HTA := Lib.hid hta
  have HN6 := Lib.hid hn6
  have HLU := Lib.hid hlu
  have HFX := Lib.hid hfx
  have HB := Lib.hid hb
  clear hb hfx hlu hn6 hta hh hf hE
  go_upto_region 4 with fail
  refine wp_region_leftL (fun V => Frm w1.heap.size [] w1 V) 1000 (by kernel_rfl) ?_
  have hS : Frm w1.heap.size [] w1 w1.drew := (Frm.refl _ _ w1).drew
  have HS := Lib.hid hS
  clear hS
  refine LeftL.take 0 rfl (by kernel_rfl) (fun _ _ d _ _ h => by cases d <;> exact h) (yields_loadE (ty := 41) rfl rfl rfl (HLU.out)) HS.out ?_; (intro K' hK'; go_simp; refine hK' _ ?_; clear hK' K')
  first | ((first | refine LeftL.tkF (v := ?_) 1 rfl HS.out ?_ ?_ | refine LeftL.tkG (v := ?_) 1 rfl HS.out ?_ ?_); rotate_left; (· intro V hV; obtain ⟨q0, q1⟩ := HFX.out V hV; clear hV; go_simp; rfl)) | refine LeftL.tkN 1 rfl HS.out ?_
  (intro K' hK'; go_simp; refine hK' _ ?_; clear hK' K')
  refine LeftL.one 2 rfl (by kernel_rfl) ?_
  go_wp2_with fail
  obtain ⟨X1, hX1⟩ : ∃ X, X = w1.drew := ⟨_, rfl⟩
  rw [← hX1] at HS ⊢
  refine (values_any ad n cap X1).mono ?_; rintro e w2 ⟨rfl, hsb, hf1⟩
  have hS1 := HS.out.call hf1 HS.out.size (by simp)
  have hrw := HR.out.frm (HF.out.call hS1 HF.out.size (by simp)) (Nat.le_refl _)
  have hit : IterOf 87 #[.pointer (some ⟨X1.heap.size, 0, none⟩)] (tasL n L) w2 := iter_values X1.heap.size ad b off n cap (tasL n L) (by simp [tasL]) w2 hsb ⟨hrw.ad, hrw.len, fun i hi => by have := hrw.at_ i hi; rw [tasL_getD L hi]; exact this⟩
  have hst := stab_any h HH.out 87 HCL.out #[.pointer (some ⟨X1.heap.size, 0, none⟩)] (tasL n L) (fun t ht => by
    unfold tasL at ht
    obtain ⟨i, hi, rfl⟩ := List.mem_map.1 ht
    exact HTA.out i (by simpa using hi)) (by simpa [tasL] using HN6.out) w2 hit
  clear hf1 hsb HS hrw hit hX1
  have HS := Lib.hid hS1
  have HST := Lib.hid hst
  clear hst hS1
  go_wp2_with fail
  first | refine ⟨fun _ => HS.out, ?_⟩ | refine ⟨HS.out, ?_⟩
  refine LeftL.one 3 rfl (by kernel_rfl) ?_
  go_wp2_with fail
  refine HST.out.mono ?_; rintro e w3 ⟨rfl, hf1⟩
  have hS1 := HS.out.call hf1 HS.out.size (by simp)
  obtain ⟨z, hz⟩ : ∃ z, z = stabZ h (tasL n L) := ⟨_, rfl⟩
  rw [← hz]
  clear hf1 HS HST
  have HS := Lib.hid hS1
  have HZ := Lib.hid hz
  clear hz hS1
  go_wp2_with fail
  first | refine ⟨fun _ => HS.out, ?_⟩ | refine ⟨HS.out, ?_⟩
  first | ((first | refine LeftL.tkF (v := ?_) 4 rfl HS.out ?_ ?_ | refine LeftL.tkG (v := ?_) 4 rfl HS.out ?_ ?_); rotate_left; (· intro V hV; obtain ⟨q0, q1⟩ := HFX.out V hV; clear hV; go_simp; rfl)) | refine LeftL.tkN 4 rfl HS.out ?_
  (intro K' hK'; go_simp; refine hK' _ ?_; clear hK' K')
  first | ((first | refine LeftL.tkF (v := ?_) 5 rfl HS.out ?_ ?_ | refine LeftL.tkG (v := ?_) 5 rfl HS.out ?_ ?_); rotate_left; (· intro V hV; obtain ⟨q0, q1⟩ := HFX.out V hV; clear hV; go_simp; rfl)) | refine LeftL.tkN 5 rfl HS.out ?_
  (intro K' hK'; go_simp; refine hK' _ ?_; clear hK' K')
  refine LeftL.done (by kernel_rfl) ?_
  go_wp2_with fail
  refine bodyPost_ret (v := .tuple #[.int .i64 z, .int .i64 0]) (by simp [results, Tryd.results21, go_sem]) rfl ?_
  exact ⟨.inr ⟨HE.out.symm, by rw [← HZ.out]⟩, HF.out.call HS.out HF.out.size (by simp)⟩
end Go.Proofs.YtfmigicmfolbjaaDoor
