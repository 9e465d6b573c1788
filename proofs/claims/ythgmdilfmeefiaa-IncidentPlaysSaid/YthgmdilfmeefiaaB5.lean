/-
  Texts J11 of this claim, one behind the other.
-/
import Derived.Test.YthgmdilfmeefiaaB4
namespace Go.Proofs.Ythgmdilfmeefiaa
set_option linter.all false
set_option linter.unusedSimpArgs false
set_option linter.unusedVariables false
open Go.RowKit
attribute [local go_sem ↓ high] run_min_ run_max_ run_min2 run_max2

theorem LeftS.run {P : Program} {l : List Oper} {Q : Exit → Act → World → Prop} {S : World → Prop} {ts : List Nat} {Sa : Nat → World → Prop} {done : List Nat} {a : Act} {w : World} (i : Nat) {o : Oper} {v : Value} (ho : l[i]? = some o) (hB : takeS l ts done i = true) (hg : o.guard = none)
    (hQ : ∀ c a d v w, Q (.panic c) (a.put d v) w → Q (.panic c) a w) (hy : ∀ w, forI l.toArray S ts Sa i w → (execOp a.eval o).run P w = .ok (.value v) w) (hS : Helds S ts Sa (doneOf l done) w)
    (h : ∀ K' : Act → Prop, (∀ a, LeftS P l Q S ts Sa (done ++ [i]) a w → K' a) → K' (a.put o.dst v)) : LeftS P l Q S ts Sa done a w :=
  LeftS.take i ho hB hQ (.inl ⟨by simp [Region.wanted, hg], hy⟩) hS h
/-- Two stores, A till the first, B till the second. -/
abbrev two (ta : Nat) (A : World → Prop) (tb : Nat) (B : World → Prop) : Nat → World → Prop := fun t V => (t = ta → A V) ∧ (t = tb → B V)
theorem heldsTwo {S A B : World → Prop} {l : List Oper} {done : List Nat} {w : World} {ta tb : Nat} (hab : ta ≠ tb) (h : S w) (hA : (doneOf l done).getD ta true = true ∨ A w) (hB : (doneOf l done).getD tb true = true ∨ B w) : Helds S [ta, tb] (two ta A tb B) (doneOf l done) w := by
  refine ⟨h, fun t ht hn => ?_⟩
  simp only [List.mem_cons, List.not_mem_nil, or_false] at ht
  rcases ht with rfl | rfl
  · rcases hA with e | e
    · rw [e] at hn; cases hn
    · exact ⟨fun _ => e, fun e2 => absurd e2 hab⟩
  · rcases hB with e | e
    · rw [e] at hn; cases hn
    · exact ⟨fun e2 => absurd e2.symm hab, fun _ => e⟩
theorem results_cc {P : Program} {fn : Func} {p p2 : Tmp} {ty ty2 : TypeId} (h : fn.results = #[.cell p ty, .cell p2 ty2]) {tmps : Array Value} {w : World} {b T : Nat} {cs : List Value} (hb : Blk w b T cs) (hp : tmps.getD p undef = .pointer (some ⟨b, 0, none⟩))
    {d : TypeDesc} (hu : P.underlying ty = some d) (hd : rowB d = true) (hi : (P.info? ty).map (·.size) = some cs.length)
    {b2 T2 : Nat} {cs2 : List Value} (hb2 : Blk w b2 T2 cs2) (hp2 : tmps.getD p2 undef = .pointer (some ⟨b2, 0, none⟩))
    {d2 : TypeDesc} (hu2 : P.underlying ty2 = some d2) (hd2 : rowB d2 = true) (hi2 : (P.info? ty2).map (·.size) = some cs2.length) :
    (results fn tmps).run P w = .ok (.tuple #[.agg cs.toArray, .agg cs2.toArray]) w := by
  have hp' : tmps[p]?.getD undef = .pointer (some ⟨b, 0, none⟩) := by simpa using hp
  have hp2' : tmps[p2]?.getD undef = .pointer (some ⟨b2, 0, none⟩) := by simpa using hp2
  simp [results, h, hp', hp2', asAddr, loadVarB hb hu hd hi, loadVarB hb2 hu2 hd2 hi2]
def bxV (x : Bx) : Value := .tuple #[.agg #[.int .i64 x.lx, .int .i64 x.ly], .agg #[.int .i64 x.hx, .int .i64 x.hy]]
set_option maxRecDepth 100000 in
set_option maxHeartbeats 8000000 in
theorem box_any (ad : Option Addr) (b off n cap : Nat) (L : List Spt) (hn : n = L.length) (h1 : 1 ≤ n) (w : World) (hr : RwP w ad b off n L) :
    Calls Try.prog 100 #[.slice ad n cap] w fun e w' => e = .returned (bxV (boxL L)) ∧ Frm w.heap.size [] w w' := by
  have hf0 := Try.func100
  have had := hr.ad (by omega)
  have hlen := hr.len
  subst had
  obtain ⟨⟨x0, y0⟩, hx0⟩ : ∃ p, p = spt L 0 := ⟨_, rfl⟩
  have hla : ∀ V, Frm w.heap.size [] w V → (loadVar 71 ⟨b, off, none⟩).run Try.prog V = .ok (.agg #[.int .i64 x0, .int .i64 y0]) V := fun V hV => by
    have := (hr.frm hV (Nat.le_refl _)).load (P := Try.prog) Try.underlying71 rfl (i := 0) (by omega) (info71s _)
    rw [Nat.zero_mul, Nat.add_zero] at this
    rw [← hx0] at this; exact this
  have hfx : ∀ V, Frm w.heap.size [] w V → True ∧ True := fun _ _ => ⟨trivial, trivial⟩
  have hn1 : 0 < n := h1
  have HN := Lib.hid hn
  have HR := Lib.hid hr
  have HLA := Lib.hid hla
  have HX0 := Lib.hid hx0
  have HFX := Lib.hid hfx
  clear hfx hx0 hla hr hn
  go_enter Try.func100, Try.ntmps100
  go_upto_region 1 with fail
  refine namedC ?_; intro W hW
  have k2 : Blk W w.heap.size 71 [.int .i64 0, .int .i64 0] := by rw [hW]; refine Blk.alloc' ?_; exact Blk.new w 71 [.int .i64 0, .int .i64 0]
  have k3 : Blk W (w.heap.size + 1) 71 [.int .i64 0, .int .i64 0] := by rw [hW]; exact Blk.new' _ 71 [.int .i64 0, .int .i64 0] (by simp)
  have hS : Frm w.heap.size [] w W.drew := by rw [hW]; refine Frm.drew ?_; repeat (first | with_reducible exact Frm.refl _ _ _ | with_reducible refine Frm.drewN ?_ | with_reducible refine Frm.drew ?_ | ((with_reducible refine Frm.setCell' ?_ ?_); · first | (left; simp; done) | (right; simp; done) | (right; simp; omega)) | ((with_reducible refine Frm.alloc' ?_ ?_); · first | exact Nat.le_refl _ | (simp; done) | (simp; omega)))
  clear hW hf0
  have k2 := k2.drew
  have k3 := k3.drew
  refine wp_region_leftL (fun V => Frm w.heap.size [] w V) 1000 (by kernel_rfl) ?_
  obtain ⟨W1, hW1⟩ : ∃ V, V = W.drew := ⟨_, rfl⟩
  rw [← hW1] at k2 k3 hS ⊢
  clear hW1
  have HS := Lib.hid hS
  have K2 := Lib.hid k2
  have K3 := Lib.hid k3
  clear k3 k2 hS
  first | (refine LeftL.tkG (v := ?_) 0 rfl HS.out ?_ ?_; rotate_left; · intro V hV; obtain ⟨z1, z2⟩ := HFX.out V hV; clear hV; go_simp; rfl) | refine LeftL.tkN 0 rfl HS.out ?_
  (intro K h; go_simp; refine h _ ?_; clear h K)
  first | (refine LeftL.tkG (v := ?_) 1 rfl HS.out ?_ ?_; rotate_left; · intro V hV; obtain ⟨z1, z2⟩ := HFX.out V hV; clear hV; go_simp; rfl) | refine LeftL.tkN 1 rfl HS.out ?_
  (intro K h; go_simp; refine h _ ?_; clear h K)
  refine LeftL.take 2 rfl (by kernel_rfl) (fun _ _ d _ _ h => by cases d <;> exact h) (yields_loadE (ty := 71) rfl rfl rfl (HLA.out)) HS.out ?_; (intro K' hK'; go_simp; refine hK' _ ?_; clear hK' K')
  first | (refine LeftL.tkG (v := ?_) 3 rfl HS.out ?_ ?_; rotate_left; · intro V hV; obtain ⟨z1, z2⟩ := HFX.out V hV; clear hV; go_simp; rfl) | refine LeftL.tkN 3 rfl HS.out ?_
  (intro K h; go_simp; refine h _ ?_; clear h K)
  first | (refine LeftL.tkG (v := ?_) 4 rfl HS.out ?_ ?_; rotate_left; · intro V hV; obtain ⟨z1, z2⟩ := HFX.out V hV; clear hV; go_simp; rfl) | refine LeftL.tkN 4 rfl HS.out ?_
  (intro K h; go_simp; refine h _ ?_; clear h K)
  refine LeftL.take 5 rfl (by kernel_rfl) (fun _ _ d _ _ h => by cases d <;> exact h) (yields_loadE (ty := 71) rfl rfl rfl (HLA.out)) HS.out ?_; (intro K' hK'; go_simp; refine hK' _ ?_; clear hK' K')
  refine LeftL.one 6 rfl (by kernel_rfl) ?_
  refine wpList_storeB (P := Try.prog) (ty := 71) (cs := spC (x0, y0)) rfl rfl K2.out rfl rfl rfl info71 (spC_one _) ?_
  refine wpList_nil ?_
  have k2 := K2.out.row (spC (x0, y0))
  have k3 := K3.out.row_other (g := w.heap.size) (spC (x0, y0)).toArray (by omega)
  have hS := HS.out.setRow (g := w.heap.size) (.inr (Nat.le_refl _)) (spC (x0, y0)).toArray
  generalize World.setRow _ w.heap.size (spC (x0, y0)).toArray = W2 at k2 k3 hS ⊢
  clear K2 K3 HS
  have HS := Lib.hid hS
  have K2 := Lib.hid k2
  have K3 := Lib.hid k3
  clear k3 k2 hS
  refine ⟨fun _ => HS.out, ?_⟩
  refine LeftL.one 7 rfl (by kernel_rfl) ?_
  refine wpList_storeB (P := Try.prog) (ty := 71) (cs := spC (x0, y0)) rfl rfl K3.out rfl rfl rfl info71 (spC_one _) ?_
  refine wpList_nil ?_
  have k3 := K3.out.row (spC (x0, y0))
  have k2 := K2.out.row_other (g := w.heap.size + 1) (spC (x0, y0)).toArray (by omega)
  have hS := HS.out.setRow (g := w.heap.size + 1) (.inr (Nat.le_succ _)) (spC (x0, y0)).toArray
  generalize World.setRow _ (w.heap.size + 1) (spC (x0, y0)).toArray = W3 at k2 k3 hS ⊢
  clear K2 K3 HS
  have HF := Lib.hid hS
  have K2 := Lib.hid k2
  have K3 := Lib.hid k3
  clear k3 k2 hS
  refine ⟨fun _ => HF.out, ?_⟩
  refine LeftL.done (by kernel_rfl) ?_
  have hb0 : boxK L 0 = ⟨x0, y0, x0, y0⟩ := by simp only [boxK]; rw [← HX0.out]
  have HB0 := Lib.hid hb0
  clear hb0
  go_wp2_with fail
  go_loopw [14] (fun s14 wr => ∃ i : Nat, s14 = .int .i64 i ∧ i ≤ n ∧ Frm w.heap.size [] w wr ∧ Blk wr w.heap.size 71 (spC ((boxK L i).lx, (boxK L i).ly)) ∧ Blk wr (w.heap.size + 1) 71 (spC ((boxK L i).hx, (boxK L i).hy))) (fun s14 _ => n - (intOf s14).toNat)
  case atStart => exact ⟨0, rfl, Nat.zero_le _, HF.out, by rw [HB0.out]; exact K2.out, by rw [HB0.out]; exact K3.out⟩
  case round =>
    obtain ⟨i, rfl, hi, hf, k2, k3⟩ := hrel
    by_cases hin : i < n
    rotate_left
    · have hin' : ¬ (i : Int) < (n : Int) := by omega
      obtain rfl : i = n := by omega
      obtain ⟨⟨lx, ly, hx, hy⟩, hbx⟩ : ∃ x, x = boxK L i := ⟨_, rfl⟩
      rw [← hbx] at k2 k3
      dsimp only at k2 k3
      have hv : boxL L = ⟨lx, ly, hx, hy⟩ := by unfold boxL; rw [← HN.out, ← hbx]
      clear hbx
      have HF := Lib.hid hf
      have K2 := Lib.hid k2
      have K3 := Lib.hid k3
      have HV := Lib.hid hv
      clear hv k3 k2 hf
      go_upto_region 8 with fail
      refine wp_region_leftL (fun V => Frm w.heap.size [] w V ∧ Blk V w.heap.size 71 (spC (lx, ly)) ∧ Blk V (w.heap.size + 1) 71 (spC (hx, hy))) 1000 (by kernel_rfl) ?_
      have hS : Frm w.heap.size [] w wr.drew ∧ Blk wr.drew w.heap.size 71 (spC (lx, ly)) ∧ Blk wr.drew (w.heap.size + 1) 71 (spC (hx, hy)) := ⟨HF.out.drew, K2.out.drew, K3.out.drew⟩
      generalize World.drew wr = W4 at hS ⊢
      have HS := Lib.hid hS
      clear hS
      refine LeftL.take 0 rfl (by kernel_rfl) (fun _ _ d _ _ h => by cases d <;> exact h) (yields_loadE (ty := 71) rfl rfl rfl (fun V hV => load_sp hV.2.1)) HS.out ?_; (intro K' hK'; go_simp; refine hK' _ ?_; clear hK' K')
      refine LeftL.take 1 rfl (by kernel_rfl) (fun _ _ d _ _ h => by cases d <;> exact h) (yields_loadE (ty := 71) rfl rfl rfl (fun V hV => load_sp hV.2.2)) HS.out ?_; (intro K' hK'; go_simp; refine hK' _ ?_; clear hK' K')
      refine LeftL.one 2 rfl (by kernel_rfl) ?_
      refine wpList_storeB (P := Try.prog) (ty := 71) (cs := spC (lx, ly)) rfl rfl HS.out.2.1 rfl rfl rfl info71 (spC_one _) ?_
      refine wpList_nil ?_
      have hS := (⟨HS.out.1.setRow (g := w.heap.size) (.inr (Nat.le_refl _)) (spC (lx, ly)).toArray, HS.out.2.1.row (spC (lx, ly)), HS.out.2.2.row_other (g := w.heap.size) (spC (lx, ly)).toArray (by omega)⟩ : Frm w.heap.size [] w _ ∧ Blk _ w.heap.size 71 (spC (lx, ly)) ∧ Blk _ (w.heap.size + 1) 71 (spC (hx, hy)))
      generalize World.setRow _ w.heap.size (spC (lx, ly)).toArray = W5 at hS ⊢
      clear HS
      have HS := Lib.hid hS
      clear hS
      refine ⟨fun _ => HS.out, ?_⟩
      refine LeftL.one 3 rfl (by kernel_rfl) ?_
      refine wpList_storeB (P := Try.prog) (ty := 71) (cs := spC (hx, hy)) rfl rfl HS.out.2.2 rfl rfl rfl info71 (spC_one _) ?_
      refine wpList_nil ?_
      have hS := (⟨HS.out.1.setRow (g := w.heap.size + 1) (.inr (Nat.le_succ _)) (spC (hx, hy)).toArray, HS.out.2.1.row_other (g := w.heap.size + 1) (spC (hx, hy)).toArray (by omega), HS.out.2.2.row (spC (hx, hy))⟩ : Frm w.heap.size [] w _ ∧ Blk _ w.heap.size 71 (spC (lx, ly)) ∧ Blk _ (w.heap.size + 1) 71 (spC (hx, hy)))
      generalize World.setRow _ (w.heap.size + 1) (spC (hx, hy)).toArray = W6 at hS ⊢
      clear HS
      have HS := Lib.hid hS
      clear hS
      refine ⟨fun _ => HS.out, ?_⟩
      refine LeftL.done (by kernel_rfl) ?_
      go_wp2_with fail
      refine bodyPost_ret (results_cc Try.results100 HS.out.2.1 rfl Try.underlying71 rfl info71 HS.out.2.2 rfl Try.underlying71 rfl info71) rfl ⟨?_, HS.out.1⟩
      rw [HV.out]
      rfl
    have hin' : (i : Int) < (n : Int) := by omega
    obtain ⟨y4, y5⟩ := wrapUp hin hlen
    have hms := meas_up hin
    obtain ⟨⟨x, y⟩, hxy⟩ : ∃ p, p = spt L i := ⟨_, rfl⟩
    obtain ⟨⟨lx, ly, hx, hy⟩, hbx⟩ : ∃ x, x = boxK L i := ⟨_, rfl⟩
    have hnx : boxK L (i + 1) = ⟨min lx x, min ly y, max hx x, max hy y⟩ := by simp only [boxK]; rw [← hbx, ← hxy]
    rw [← hbx] at k2 k3
    dsimp only at k2 k3
    have hla : (loadVar 71 ⟨b, off + i * 2, none⟩).run Try.prog wr = .ok (.agg (spC (x, y)).toArray) wr := by rw [hxy]; exact (HR.out.frm hf (Nat.le_refl _)).load (P := Try.prog) Try.underlying71 rfl hin (info71s _)
    clear hbx hxy
    obtain ⟨W4, hW4⟩ : ∃ V, V = wr := ⟨_, rfl⟩
    rw [← hW4] at hla hf k2 k3 ⊢
    clear hW4
    have HF := Lib.hid hf
    have K2 := Lib.hid k2
    have K3 := Lib.hid k3
    have HMS := Lib.hid hms
    have HLA2 := Lib.hid hla
    have HNX := Lib.hid hnx
    have HIN := Lib.hid hin
    clear hin hnx hla hms k3 k2 hf
    go_wp2_with (first | (with_reducible refine atLoad 71 rfl ?_; refine wpList_loadE rfl rfl rfl HLA2.out ?_) | (with_reducible refine atStore 71 rfl ?_; refine stop_ ?_))
    refine go_on ?_
    refine wpList_storeNew (P := Try.prog) (cs := spC (x, y)) rfl rfl rfl rfl rfl info71 (spC_one _) ?_
    intro V1 hv1 k5 hz; clear hz
    have n5 : w.heap.size + 1 < W4.heap.size := K3.out.lt
    have k2 := hv1.blk K2.out K2.out.lt (by simp)
    have k3 := hv1.blk K3.out K3.out.lt (by simp)
    have hf := HF.out.call hv1 HF.out.size (by simp)
    obtain ⟨r5, hr5⟩ : ∃ g, g = W4.heap.size := ⟨_, rfl⟩
    rw [← hr5] at k5 n5 ⊢
    dsimp only [Act.put]
    clear hr5 hv1 HF K2 K3 HLA2
    have HF := Lib.hid hf
    have K2 := Lib.hid k2
    have K3 := Lib.hid k3
    have K5 := Lib.hid k5
    have N5 := Lib.hid n5
    clear n5 k5 k3 k2 hf
    go_upto_region 5 with fail
    refine wp_region_leftS (fun V => Frm w.heap.size [] w V ∧ Blk V r5 71 (spC (x, y)) ∧ Blk V (w.heap.size + 1) 71 (spC (hx, hy))) [11, 13] (two 11 (fun V => V.cell? ⟨w.heap.size, 0, none⟩ = some (.int .i64 lx)) 13 (fun V => V.cell? ⟨w.heap.size, 1, none⟩ = some (.int .i64 ly))) (by kernel_rfl) ?_
    have hS : Frm w.heap.size [] w V1.drew ∧ Blk V1.drew r5 71 (spC (x, y)) ∧ Blk V1.drew (w.heap.size + 1) 71 (spC (hx, hy)) ∧ V1.drew.cell? ⟨w.heap.size, 0, none⟩ = some (.int .i64 lx) ∧ V1.drew.cell? ⟨w.heap.size, 1, none⟩ = some (.int .i64 ly) ∧ Blk V1.drew (w.heap.size) 71 (spC (lx, ly)) := ⟨HF.out.drew, K5.out.drew, K3.out.drew, K2.out.drew.cell 0, K2.out.drew.cell 1, K2.out.drew⟩
    obtain ⟨U0, hU0⟩ : ∃ V, V = V1.drew := ⟨_, rfl⟩
    rw [← hU0] at hS ⊢
    clear hU0 HF K5 K2 K3
    have HS := Lib.hid hS
    clear hS
    refine LeftS.run (v := ?_) 0 rfl (by kernel_rfl) rfl (fun _ _ d _ _ h => by cases d <;> exact h) ?_ (heldsTwo (by decide) ⟨HS.out.1, HS.out.2.1, HS.out.2.2.1⟩ (.inr HS.out.2.2.2.1) (.inr HS.out.2.2.2.2.1)) ?_; rotate_left; (· intro V hV; skip; clear hV; go_simp; rfl); (intro K' hK'; go_simp; refine hK' _ ?_; clear hK' K')
    refine LeftS.run (v := ?_) 1 rfl (by kernel_rfl) rfl (fun _ _ d _ _ h => by cases d <;> exact h) ?_ (heldsTwo (by decide) ⟨HS.out.1, HS.out.2.1, HS.out.2.2.1⟩ (.inr HS.out.2.2.2.1) (.inr HS.out.2.2.2.2.1)) ?_; rotate_left; (· intro V hV; have z : V.cell? ⟨w.heap.size, 0, none⟩ = some (.int .i64 lx) := (hV.2 11 (by simp) (by kernel_rfl)).1 rfl; clear hV; go_simp; rfl); (intro K' hK'; go_simp; refine hK' _ ?_; clear hK' K')
    refine LeftS.run (v := ?_) 2 rfl (by kernel_rfl) rfl (fun _ _ d _ _ h => by cases d <;> exact h) ?_ (heldsTwo (by decide) ⟨HS.out.1, HS.out.2.1, HS.out.2.2.1⟩ (.inr HS.out.2.2.2.1) (.inr HS.out.2.2.2.2.1)) ?_; rotate_left; (· intro V hV; skip; clear hV; go_simp; rfl); (intro K' hK'; go_simp; refine hK' _ ?_; clear hK' K')
    refine LeftS.run (v := ?_) 3 rfl (by kernel_rfl) rfl (fun _ _ d _ _ h => by cases d <;> exact h) ?_ (heldsTwo (by decide) ⟨HS.out.1, HS.out.2.1, HS.out.2.2.1⟩ (.inr HS.out.2.2.2.1) (.inr HS.out.2.2.2.2.1)) ?_; rotate_left; (· intro V hV; have z : V.cell? ⟨r5, 0, none⟩ = some (.int .i64 x) := hV.1.2.1.cell 0; clear hV; go_simp; rfl); (intro K' hK'; go_simp; refine hK' _ ?_; clear hK' K')
    refine LeftS.run (v := ?_) 4 rfl (by kernel_rfl) rfl (fun _ _ d _ _ h => by cases d <;> exact h) ?_ (heldsTwo (by decide) ⟨HS.out.1, HS.out.2.1, HS.out.2.2.1⟩ (.inr HS.out.2.2.2.1) (.inr HS.out.2.2.2.2.1)) ?_; rotate_left; (· intro V hV; skip; clear hV; go_simp; rfl); (intro K' hK'; go_simp; refine hK' _ ?_; clear hK' K')
    refine LeftS.run (v := ?_) 5 rfl (by kernel_rfl) rfl (fun _ _ d _ _ h => by cases d <;> exact h) ?_ (heldsTwo (by decide) ⟨HS.out.1, HS.out.2.1, HS.out.2.2.1⟩ (.inr HS.out.2.2.2.1) (.inr HS.out.2.2.2.2.1)) ?_; rotate_left; (· intro V hV; skip; clear hV; go_simp; rfl); (intro K' hK'; go_simp; refine hK' _ ?_; clear hK' K')
    refine LeftS.run (v := ?_) 6 rfl (by kernel_rfl) rfl (fun _ _ d _ _ h => by cases d <;> exact h) ?_ (heldsTwo (by decide) ⟨HS.out.1, HS.out.2.1, HS.out.2.2.1⟩ (.inr HS.out.2.2.2.1) (.inr HS.out.2.2.2.2.1)) ?_; rotate_left; (· intro V hV; have z : V.cell? ⟨w.heap.size, 1, none⟩ = some (.int .i64 ly) := (hV.2 13 (by simp) (by kernel_rfl)).2 rfl; clear hV; go_simp; rfl); (intro K' hK'; go_simp; refine hK' _ ?_; clear hK' K')
    refine LeftS.run (v := ?_) 7 rfl (by kernel_rfl) rfl (fun _ _ d _ _ h => by cases d <;> exact h) ?_ (heldsTwo (by decide) ⟨HS.out.1, HS.out.2.1, HS.out.2.2.1⟩ (.inr HS.out.2.2.2.1) (.inr HS.out.2.2.2.2.1)) ?_; rotate_left; (· intro V hV; skip; clear hV; go_simp; rfl); (intro K' hK'; go_simp; refine hK' _ ?_; clear hK' K')
    refine LeftS.run (v := ?_) 8 rfl (by kernel_rfl) rfl (fun _ _ d _ _ h => by cases d <;> exact h) ?_ (heldsTwo (by decide) ⟨HS.out.1, HS.out.2.1, HS.out.2.2.1⟩ (.inr HS.out.2.2.2.1) (.inr HS.out.2.2.2.2.1)) ?_; rotate_left; (· intro V hV; have z : V.cell? ⟨r5, 1, none⟩ = some (.int .i64 y) := hV.1.2.1.cell 1; clear hV; go_simp; rfl); (intro K' hK'; go_simp; refine hK' _ ?_; clear hK' K')
    refine LeftS.run (v := ?_) 9 rfl (by kernel_rfl) rfl (fun _ _ d _ _ h => by cases d <;> exact h) ?_ (heldsTwo (by decide) ⟨HS.out.1, HS.out.2.1, HS.out.2.2.1⟩ (.inr HS.out.2.2.2.1) (.inr HS.out.2.2.2.2.1)) ?_; rotate_left; (· intro V hV; skip; clear hV; go_simp; rfl); (intro K' hK'; go_simp; refine hK' _ ?_; clear hK' K')
    refine LeftS.run (v := ?_) 10 rfl (by kernel_rfl) rfl (fun _ _ d _ _ h => by cases d <;> exact h) ?_ (heldsTwo (by decide) ⟨HS.out.1, HS.out.2.1, HS.out.2.2.1⟩ (.inr HS.out.2.2.2.1) (.inr HS.out.2.2.2.2.1)) ?_; rotate_left; (· intro V hV; skip; clear hV; go_simp; rfl); (intro K' hK'; go_simp; refine hK' _ ?_; clear hK' K')
    have c0 := HS.out.2.2.2.1
    have g0 := HS.out.2.2.2.2.2.free 0
    refine LeftS.one 11 rfl (by kernel_rfl) ?_
    go_wp2_with fail
    clear c0 g0
    have kk := HS.out.2.2.2.2.2.set 0 (.int .i64 (min lx x))
    have kf := HS.out.1.setCell (p := ⟨w.heap.size, 0, none⟩) (.inr (by show w.heap.size ≤ w.heap.size; omega)) (.int .i64 (min lx x))
    have k5 := HS.out.2.1.other ⟨w.heap.size, 0, none⟩ (by have := N5.out; show w.heap.size ≠ r5; omega) (.int .i64 (min lx x))
    have ko := HS.out.2.2.1.other ⟨w.heap.size, 0, none⟩ (by show w.heap.size ≠ w.heap.size + 1; omega) (.int .i64 (min lx x))
    generalize World.setCell U0 _ _ = U1 at kk kf k5 ko ⊢
    have hS := And.intro kf (And.intro k5 (And.intro ko (And.intro (kk.cell 1) kk)))
    clear kf k5 ko kk HS
    simp only [spC, List.set_cons_zero, List.getElem?_cons_succ, List.getElem?_cons_zero] at hS
    have HS := Lib.hid hS
    clear hS
    refine ⟨(heldsTwo (by decide) ⟨HS.out.1, HS.out.2.1, HS.out.2.2.1⟩ (.inl (by kernel_rfl)) (.inr HS.out.2.2.2.1)), ?_⟩
    refine LeftS.run (v := ?_) 12 rfl (by kernel_rfl) rfl (fun _ _ d _ _ h => by cases d <;> exact h) ?_ (heldsTwo (by decide) ⟨HS.out.1, HS.out.2.1, HS.out.2.2.1⟩ (.inl (by kernel_rfl)) (.inr HS.out.2.2.2.1)) ?_; rotate_left; (· intro V hV; skip; clear hV; go_simp; rfl); (intro K' hK'; go_simp; refine hK' _ ?_; clear hK' K')
    have c0 := HS.out.2.2.2.1
    have g0 := HS.out.2.2.2.2.free 1
    refine LeftS.one 13 rfl (by kernel_rfl) ?_
    go_wp2_with fail
    clear c0 g0
    have kk := HS.out.2.2.2.2.set 1 (.int .i64 (min ly y))
    have kf := HS.out.1.setCell (p := ⟨w.heap.size, 1, none⟩) (.inr (by show w.heap.size ≤ w.heap.size; omega)) (.int .i64 (min ly y))
    have k5 := HS.out.2.1.other ⟨w.heap.size, 1, none⟩ (by have := N5.out; show w.heap.size ≠ r5; omega) (.int .i64 (min ly y))
    have ko := HS.out.2.2.1.other ⟨w.heap.size, 1, none⟩ (by show w.heap.size ≠ w.heap.size + 1; omega) (.int .i64 (min ly y))
    generalize World.setCell U1 _ _ = V2 at kk kf k5 ko ⊢
    have kk : Blk V2 (w.heap.size) 71 (spC ((min lx x), (min ly y))) := kk
    clear HS
    refine ⟨heldsTwo (by decide) ⟨kf, k5, ko⟩ (.inl (by kernel_rfl)) (.inl (by kernel_rfl)), ?_⟩
    refine LeftS.done (by kernel_rfl) ?_
    have HF := Lib.hid kf
    have K5 := Lib.hid k5
    have K3 := Lib.hid ko
    have K2 := Lib.hid kk
    clear kk ko k5 kf
    go_upto_region 6 with fail
    refine wp_region_leftS (fun V => Frm w.heap.size [] w V ∧ Blk V r5 71 (spC (x, y)) ∧ Blk V (w.heap.size) 71 (spC (min lx x, min ly y))) [11, 13] (two 11 (fun V => V.cell? ⟨w.heap.size + 1, 0, none⟩ = some (.int .i64 hx)) 13 (fun V => V.cell? ⟨w.heap.size + 1, 1, none⟩ = some (.int .i64 hy))) (by kernel_rfl) ?_
    have hS : Frm w.heap.size [] w V2.drew ∧ Blk V2.drew r5 71 (spC (x, y)) ∧ Blk V2.drew (w.heap.size) 71 (spC (min lx x, min ly y)) ∧ V2.drew.cell? ⟨w.heap.size + 1, 0, none⟩ = some (.int .i64 hx) ∧ V2.drew.cell? ⟨w.heap.size + 1, 1, none⟩ = some (.int .i64 hy) ∧ Blk V2.drew (w.heap.size + 1) 71 (spC (hx, hy)) := ⟨HF.out.drew, K5.out.drew, K2.out.drew, K3.out.drew.cell 0, K3.out.drew.cell 1, K3.out.drew⟩
    obtain ⟨U0, hU0⟩ : ∃ V, V = V2.drew := ⟨_, rfl⟩
    rw [← hU0] at hS ⊢
    clear hU0 HF K5 K3 K2
    have HS := Lib.hid hS
    clear hS
    refine LeftS.run (v := ?_) 0 rfl (by kernel_rfl) rfl (fun _ _ d _ _ h => by cases d <;> exact h) ?_ (heldsTwo (by decide) ⟨HS.out.1, HS.out.2.1, HS.out.2.2.1⟩ (.inr HS.out.2.2.2.1) (.inr HS.out.2.2.2.2.1)) ?_; rotate_left; (· intro V hV; skip; clear hV; go_simp; rfl); (intro K' hK'; go_simp; refine hK' _ ?_; clear hK' K')
    refine LeftS.run (v := ?_) 1 rfl (by kernel_rfl) rfl (fun _ _ d _ _ h => by cases d <;> exact h) ?_ (heldsTwo (by decide) ⟨HS.out.1, HS.out.2.1, HS.out.2.2.1⟩ (.inr HS.out.2.2.2.1) (.inr HS.out.2.2.2.2.1)) ?_; rotate_left; (· intro V hV; have z : V.cell? ⟨w.heap.size + 1, 0, none⟩ = some (.int .i64 hx) := (hV.2 11 (by simp) (by kernel_rfl)).1 rfl; clear hV; go_simp; rfl); (intro K' hK'; go_simp; refine hK' _ ?_; clear hK' K')
    refine LeftS.run (v := ?_) 2 rfl (by kernel_rfl) rfl (fun _ _ d _ _ h => by cases d <;> exact h) ?_ (heldsTwo (by decide) ⟨HS.out.1, HS.out.2.1, HS.out.2.2.1⟩ (.inr HS.out.2.2.2.1) (.inr HS.out.2.2.2.2.1)) ?_; rotate_left; (· intro V hV; skip; clear hV; go_simp; rfl); (intro K' hK'; go_simp; refine hK' _ ?_; clear hK' K')
    refine LeftS.run (v := ?_) 3 rfl (by kernel_rfl) rfl (fun _ _ d _ _ h => by cases d <;> exact h) ?_ (heldsTwo (by decide) ⟨HS.out.1, HS.out.2.1, HS.out.2.2.1⟩ (.inr HS.out.2.2.2.1) (.inr HS.out.2.2.2.2.1)) ?_; rotate_left; (· intro V hV; have z : V.cell? ⟨r5, 0, none⟩ = some (.int .i64 x) := hV.1.2.1.cell 0; clear hV; go_simp; rfl); (intro K' hK'; go_simp; refine hK' _ ?_; clear hK' K')
    refine LeftS.run (v := ?_) 4 rfl (by kernel_rfl) rfl (fun _ _ d _ _ h => by cases d <;> exact h) ?_ (heldsTwo (by decide) ⟨HS.out.1, HS.out.2.1, HS.out.2.2.1⟩ (.inr HS.out.2.2.2.1) (.inr HS.out.2.2.2.2.1)) ?_; rotate_left; (· intro V hV; skip; clear hV; go_simp; rfl); (intro K' hK'; go_simp; refine hK' _ ?_; clear hK' K')
    refine LeftS.run (v := ?_) 5 rfl (by kernel_rfl) rfl (fun _ _ d _ _ h => by cases d <;> exact h) ?_ (heldsTwo (by decide) ⟨HS.out.1, HS.out.2.1, HS.out.2.2.1⟩ (.inr HS.out.2.2.2.1) (.inr HS.out.2.2.2.2.1)) ?_; rotate_left; (· intro V hV; skip; clear hV; go_simp; rfl); (intro K' hK'; go_simp; refine hK' _ ?_; clear hK' K')
    refine LeftS.run (v := ?_) 6 rfl (by kernel_rfl) rfl (fun _ _ d _ _ h => by cases d <;> exact h) ?_ (heldsTwo (by decide) ⟨HS.out.1, HS.out.2.1, HS.out.2.2.1⟩ (.inr HS.out.2.2.2.1) (.inr HS.out.2.2.2.2.1)) ?_; rotate_left; (· intro V hV; have z : V.cell? ⟨w.heap.size + 1, 1, none⟩ = some (.int .i64 hy) := (hV.2 13 (by simp) (by kernel_rfl)).2 rfl; clear hV; go_simp; rfl); (intro K' hK'; go_simp; refine hK' _ ?_; clear hK' K')
    refine LeftS.run (v := ?_) 7 rfl (by kernel_rfl) rfl (fun _ _ d _ _ h => by cases d <;> exact h) ?_ (heldsTwo (by decide) ⟨HS.out.1, HS.out.2.1, HS.out.2.2.1⟩ (.inr HS.out.2.2.2.1) (.inr HS.out.2.2.2.2.1)) ?_; rotate_left; (· intro V hV; skip; clear hV; go_simp; rfl); (intro K' hK'; go_simp; refine hK' _ ?_; clear hK' K')
    refine LeftS.run (v := ?_) 8 rfl (by kernel_rfl) rfl (fun _ _ d _ _ h => by cases d <;> exact h) ?_ (heldsTwo (by decide) ⟨HS.out.1, HS.out.2.1, HS.out.2.2.1⟩ (.inr HS.out.2.2.2.1) (.inr HS.out.2.2.2.2.1)) ?_; rotate_left; (· intro V hV; have z : V.cell? ⟨r5, 1, none⟩ = some (.int .i64 y) := hV.1.2.1.cell 1; clear hV; go_simp; rfl); (intro K' hK'; go_simp; refine hK' _ ?_; clear hK' K')
    refine LeftS.run (v := ?_) 9 rfl (by kernel_rfl) rfl (fun _ _ d _ _ h => by cases d <;> exact h) ?_ (heldsTwo (by decide) ⟨HS.out.1, HS.out.2.1, HS.out.2.2.1⟩ (.inr HS.out.2.2.2.1) (.inr HS.out.2.2.2.2.1)) ?_; rotate_left; (· intro V hV; skip; clear hV; go_simp; rfl); (intro K' hK'; go_simp; refine hK' _ ?_; clear hK' K')
    refine LeftS.run (v := ?_) 10 rfl (by kernel_rfl) rfl (fun _ _ d _ _ h => by cases d <;> exact h) ?_ (heldsTwo (by decide) ⟨HS.out.1, HS.out.2.1, HS.out.2.2.1⟩ (.inr HS.out.2.2.2.1) (.inr HS.out.2.2.2.2.1)) ?_; rotate_left; (· intro V hV; skip; clear hV; go_simp; rfl); (intro K' hK'; go_simp; refine hK' _ ?_; clear hK' K')
    have c0 := HS.out.2.2.2.1
    have g0 := HS.out.2.2.2.2.2.free 0
    refine LeftS.one 11 rfl (by kernel_rfl) ?_
    go_wp2_with fail
    clear c0 g0
    have kk := HS.out.2.2.2.2.2.set 0 (.int .i64 (max hx x))
    have kf := HS.out.1.setCell (p := ⟨w.heap.size + 1, 0, none⟩) (.inr (by show w.heap.size ≤ w.heap.size + 1; omega)) (.int .i64 (max hx x))
    have k5 := HS.out.2.1.other ⟨w.heap.size + 1, 0, none⟩ (by have := N5.out; show w.heap.size + 1 ≠ r5; omega) (.int .i64 (max hx x))
    have ko := HS.out.2.2.1.other ⟨w.heap.size + 1, 0, none⟩ (by show w.heap.size + 1 ≠ w.heap.size; omega) (.int .i64 (max hx x))
    generalize World.setCell U0 _ _ = U1 at kk kf k5 ko ⊢
    have hS := And.intro kf (And.intro k5 (And.intro ko (And.intro (kk.cell 1) kk)))
    clear kf k5 ko kk HS
    simp only [spC, List.set_cons_zero, List.getElem?_cons_succ, List.getElem?_cons_zero] at hS
    have HS := Lib.hid hS
    clear hS
    refine ⟨(heldsTwo (by decide) ⟨HS.out.1, HS.out.2.1, HS.out.2.2.1⟩ (.inl (by kernel_rfl)) (.inr HS.out.2.2.2.1)), ?_⟩
    refine LeftS.run (v := ?_) 12 rfl (by kernel_rfl) rfl (fun _ _ d _ _ h => by cases d <;> exact h) ?_ (heldsTwo (by decide) ⟨HS.out.1, HS.out.2.1, HS.out.2.2.1⟩ (.inl (by kernel_rfl)) (.inr HS.out.2.2.2.1)) ?_; rotate_left; (· intro V hV; skip; clear hV; go_simp; rfl); (intro K' hK'; go_simp; refine hK' _ ?_; clear hK' K')
    have c0 := HS.out.2.2.2.1
    have g0 := HS.out.2.2.2.2.free 1
    refine LeftS.one 13 rfl (by kernel_rfl) ?_
    go_wp2_with fail
    clear c0 g0
    have kk := HS.out.2.2.2.2.set 1 (.int .i64 (max hy y))
    have kf := HS.out.1.setCell (p := ⟨w.heap.size + 1, 1, none⟩) (.inr (by show w.heap.size ≤ w.heap.size + 1; omega)) (.int .i64 (max hy y))
    have k5 := HS.out.2.1.other ⟨w.heap.size + 1, 1, none⟩ (by have := N5.out; show w.heap.size + 1 ≠ r5; omega) (.int .i64 (max hy y))
    have ko := HS.out.2.2.1.other ⟨w.heap.size + 1, 1, none⟩ (by show w.heap.size + 1 ≠ w.heap.size; omega) (.int .i64 (max hy y))
    generalize World.setCell U1 _ _ = V3 at kk kf k5 ko ⊢
    have kk : Blk V3 (w.heap.size + 1) 71 (spC ((max hx x), (max hy y))) := kk
    clear HS
    refine ⟨heldsTwo (by decide) ⟨kf, k5, ko⟩ (.inl (by kernel_rfl)) (.inl (by kernel_rfl)), ?_⟩
    refine LeftS.done (by kernel_rfl) ?_
    have HF := Lib.hid kf
    have K5 := Lib.hid k5
    have K2 := Lib.hid ko
    have K3 := Lib.hid kk
    clear kk ko k5 kf
    go_wp2_with fail
    (try simp only [y4, y5])
    exact ⟨⟨i + 1, by simp, HIN.out, HF.out, by rw [HNX.out]; exact K2.out, by rw [HNX.out]; exact K3.out⟩, HMS.out⟩
end Go.Proofs.Ythgmdilfmeefiaa
