/-
  A call of the document's book.
-/
import Derived.Test.YthgmdilfmeefiaaJ56
import Derived.Test.YthgmdilfmeefiaaJ57
namespace Go.Proofs.Ythgmdilfmeefiaa
set_option linter.all false
set_option linter.unusedSimpArgs false
set_option linter.unusedVariables false
open Go.RowKit

/-- What is stored into a box of the caller's own leaves the book. -/
theorem RNext.box {w V U U' : World} {s s' : BS} {m m' : RMem} {X X' : List Nat → Prop} {p : Nat} (h : RefAt w s m) (hv : Frm w.heap.size [] w V) (hn : RNext V U s s' m m' X) (hp : w.heap.size ≤ p) (hpV : p < V.heap.size) (hX : X [p])
    (hf : Frm U.heap.size [p] U U') (hX2 : ∀ S, (∀ b ∈ S, b < w.heap.size) → X' S → X S) : RNext w U' s s' m m' X' := by
  refine ⟨hn.at_.frm hf (hn.ap [p] (by simpa using hpV) hX (h.new (by simpa using hp))), ?_, fun S hS hX' ha => hn.ap S (fun b hb => Nat.lt_of_lt_of_le (hS b hb) hv.size) (hX2 S hS hX') ha⟩
  have h1 := hv.call hn.frm hv.size (by simp)
  exact h1.call hf h1.size (fun x hx hm => by simp at hm; omega)
set_option maxRecDepth 100000 in
set_option maxHeartbeats 8000000 in
theorem due_any {w : World} {s : BS} {m : RMem} (h : RefAt w s m) (x : Act_) (q : APos) (hq : ActAt w x q) :
    Calls Try.prog 22 #[.agg (refC s m).toArray, .agg (actC x q).toArray] w fun e w' => ∃ m', e = .returned (.tuple #[.agg (refC (doS s x).1 m').toArray, .int .i64 (doS s x).2.1, .int .i64 (doS s x).2.2.1, .int .i64 (doS s x).2.2.2]) ∧ RNext w w' s (doS s x).1 m m' (fun S => (0 < x.r.wh.length → q.rb ∉ S) ∧ (0 < x.p.wh.length → q.pb ∉ S)) := by
  have hf0 := Try.func22
  obtain ⟨C, hC⟩ : ∃ c, c = actC x q := ⟨_, rfl⟩
  have h0 : C[0]? = some (.int .i64 x.what) := by rw [hC]; rfl
  have h1 : C[1]? = some (.int .i64 x.n) := by rw [hC]; rfl
  have h2 : C[2]? = some (.int .i64 x.m) := by rw [hC]; rfl
  have hl24 : ∀ U p, Blk U p 41 C → (loadVar 24 ⟨p, 3, none⟩).run Try.prog U = .ok (.agg (repC x.r q.ra q.rc).toArray) U := fun U p hb =>
    run_loadVar_mid U p 3 24 _ _ (fun j v hv => by rw [hb.cell (3 + j), hC]; exact act_rep x q j v hv) Try.underlying24 rfl info24
  have hl39 : ∀ U p, Blk U p 41 C → (loadVar 39 ⟨p, 10, none⟩).run Try.prog U = .ok (.agg (prfA x.p q.pa q.pc).toArray) U := fun U p hb =>
    run_loadVar_mid U p 10 39 _ _ (fun j v hv => by rw [hb.cell (10 + j), hC]; exact act_prf x q j v hv) Try.underlying39 rfl info39
  have hd1 : x.what = 1 → doS s x = ((proveS s x.p).1, 0, 0, (proveS s x.p).2) := fun e => by unfold doS; rw [if_pos e]
  have hd2 : x.what = 2 → doS s x = ((closeS s x.n).1, (closeS s x.n).2.1, 0, (closeS s x.n).2.2) := fun e => by unfold doS; rw [if_neg (by omega), if_pos e]
  have hd3 : x.what = 3 → doS s x = ((joinS s x.n x.m).1, 0, 0, (joinS s x.n x.m).2) := fun e => by unfold doS; rw [if_neg (by omega), if_neg (by omega), if_pos e]
  have hd4 : ¬ x.what = 1 → ¬ x.what = 2 → ¬ x.what = 3 → doS s x = tookS s x.r := fun e1 e2 e3 => by unfold doS; rw [if_neg e1, if_neg e2, if_neg e3]
  obtain ⟨B, hB⟩ : ∃ c, c = refC s m := ⟨_, rfl⟩
  have hb6 : B.length = 6 := by rw [hB]; rfl
  have hrl : ∀ p, w.heap.size ≤ p → 0 < x.r.wh.length → q.rb ∉ [p] := fun p hp h0 hm => by
    have := cell_lt (hq.r.at_ 0 h0 0 _ rfl)
    simp at hm this
    omega
  have hpl : ∀ p, w.heap.size ≤ p → 0 < x.p.wh.length → q.pb ∉ [p] := fun p hp h0 hm => by
    have := cell_lt (hq.p.at_ 0 h0 0 _ rfl)
    simp at hm this
    omega
  have hpr : ∀ U, Frm w.heap.size [] w U → Calls Try.prog 42 #[.agg B.toArray, .agg (prfA x.p q.pa q.pc).toArray] U fun e V' => ∃ m', e = .returned (.tuple #[.agg (refC (proveS s x.p).1 m').toArray, .int .i64 (proveS s x.p).2]) ∧ RNext U V' s (proveS s x.p).1 m m' (fun S => 0 < x.p.wh.length → q.pb ∉ S) := fun U hU => by rw [hB]; exact refProve_any (h.still hU) x.p q.pa q.pb q.po q.pc (hq.p.frm hU (Nat.le_refl _))
  have hcl : ∀ U, Frm w.heap.size [] w U → Calls Try.prog 43 #[.agg B.toArray, .int .i64 x.n] U fun e V' => ∃ m', e = .returned (.tuple #[.agg (refC (closeS s x.n).1 m').toArray, .int .i64 (closeS s x.n).2.1, .int .i64 (closeS s x.n).2.2]) ∧ RNext U V' s (closeS s x.n).1 m m' (fun _ => True) := fun U hU => by rw [hB]; exact refClose_any (h.still hU) x.n
  have hjo : ∀ U, Frm w.heap.size [] w U → Calls Try.prog 44 #[.agg B.toArray, .int .i64 x.n, .int .i64 x.m] U fun e V' => ∃ m', e = .returned (.tuple #[.agg (refC (joinS s x.n x.m).1 m').toArray, .int .i64 (joinS s x.n x.m).2]) ∧ RNext U V' s (joinS s x.n x.m).1 m m' (fun _ => True) := fun U hU => by rw [hB]; exact refJoin_any (h.still hU) x.n x.m
  have hta : ∀ U, Frm w.heap.size [] w U → Calls Try.prog 45 #[.agg B.toArray, .agg (repC x.r q.ra q.rc).toArray] U fun e V' => ∃ m', e = .returned (.tuple #[.agg (refC (tookS s x.r).1 m').toArray, .int .i64 (tookS s x.r).2.1, .int .i64 (tookS s x.r).2.2.1, .int .i64 (tookS s x.r).2.2.2]) ∧ RNext U V' s (tookS s x.r).1 m m' (fun S => 0 < x.r.wh.length → q.rb ∉ S) := fun U hU => by rw [hB]; exact refTake_any (h.still hU) x.r q.ra q.rb q.ro q.rc (hq.r.frm hU (Nat.le_refl _))
  obtain ⟨R, hR⟩ : ∃ c, c = repC x.r q.ra q.rc := ⟨_, rfl⟩
  obtain ⟨P, hP⟩ : ∃ c, c = prfA x.p q.pa q.pc := ⟨_, rfl⟩
  obtain ⟨wh, hwh⟩ : ∃ c, c = x.what := ⟨_, rfl⟩
  obtain ⟨xn, hxn⟩ : ∃ c, c = x.n := ⟨_, rfl⟩
  obtain ⟨xm, hxm⟩ : ∃ c, c = x.m := ⟨_, rfl⟩
  obtain ⟨pr, hprE⟩ : ∃ c, c = proveS s x.p := ⟨_, rfl⟩
  obtain ⟨tk, htkE⟩ : ∃ c, c = tookS s x.r := ⟨_, rfl⟩
  rw [← hR] at hl24
  rw [← hP] at hl39
  simp only [← hR, ← htkE] at hta
  simp only [← hP, ← hprE] at hpr
  rw [← hwh] at h0 hd1 hd2 hd3
  rw [← hwh] at hd4
  rw [← hprE] at hd1
  rw [← htkE] at hd4
  rw [← hxn] at h1 hd2 hd3
  rw [← hxm] at h2 hd3
  simp only [← hxn] at hcl hjo
  simp only [← hxm] at hjo
  obtain ⟨cl, hclE⟩ : ∃ c, c = closeS s xn := ⟨_, rfl⟩
  obtain ⟨jo, hjoE⟩ : ∃ c, c = joinS s xn xm := ⟨_, rfl⟩
  simp only [← hclE] at hcl hd2
  simp only [← hjoE] at hjo hd3
  rw [← hC, ← hB]
  clear hR hP hwh hxn hxm hC hB hq hprE htkE hclE hjoE
  have HH := Lib.hid h
  have H0 := Lib.hid h0
  have H1 := Lib.hid h1
  have H2 := Lib.hid h2
  have HL24 := Lib.hid hl24
  have HL39 := Lib.hid hl39
  have HD1 := Lib.hid hd1
  have HD2 := Lib.hid hd2
  have HD3 := Lib.hid hd3
  have HD4 := Lib.hid hd4
  have HPR := Lib.hid hpr
  have HCL := Lib.hid hcl
  have HJO := Lib.hid hjo
  have HTA := Lib.hid hta
  have HB6 := Lib.hid hb6
  have HRL := Lib.hid hrl
  have HPL := Lib.hid hpl
  clear hpl hrl hb6 hta hjo hcl hpr hd4 hd3 hd2 hd1 hl39 hl24 h2 h1 h0 h
  go_enter Try.func22, Try.ntmps22
  go_upto_region 1 with fail
  refine namedC ?_; intro W hW
  have kb : Blk W w.heap.size 55 B := by rw [hW]; refine Blk.alloc' ?_; refine Blk.alloc' ?_; exact Blk.new w 55 B
  have k0 : Blk W (w.heap.size + 1) 41 C := by rw [hW]; refine Blk.alloc' ?_; exact Blk.new' _ 41 C (by simp)
  have k4 : Blk W (w.heap.size + 2) 55 zero55 := by rw [hW]; exact Blk.new' _ 55 zero55 (by simp)
  have hf : Frm w.heap.size [] w W := by rw [hW]; repeat (first | with_reducible exact Frm.refl _ _ _ | with_reducible refine Frm.drewN ?_ | with_reducible refine Frm.drew ?_ | ((with_reducible refine Frm.setCell' ?_ ?_); · first | (left; simp; done) | (right; simp; done) | (right; simp; omega)) | ((with_reducible refine Frm.alloc' ?_ ?_); · first | exact Nat.le_refl _ | (simp; done) | (simp; omega)))
  clear hW hf0
  have c0 : W.cell? ⟨w.heap.size + 1, 0, none⟩ = some (.int .i64 wh) := (k0.cell 0).trans H0.out
  have c1 : W.cell? ⟨w.heap.size + 1, 1, none⟩ = some (.int .i64 xn) := (k0.cell 1).trans H1.out
  have c2 : W.cell? ⟨w.heap.size + 1, 2, none⟩ = some (.int .i64 xm) := (k0.cell 2).trans H2.out
  have l24 := HL24.out W _ k0
  have l39 := HL39.out W _ k0
  have l55 := load55 kb HB6.out
  clear k0 kb HL24 HL39
  have HF := Lib.hid hf
  have L24 := Lib.hid l24
  have L39 := Lib.hid l39
  have L55 := Lib.hid l55
  have K4 := Lib.hid k4
  clear k4 l55 l39 l24 hf
  by_cases e1 : wh = 1
  · subst e1
    have hd := HD1.out (by simp)
    have HD := Lib.hid hd
    clear hd
    go_wp2_with (first | (with_reducible refine atLoad 55 rfl ?_; refine wpList_loadE rfl rfl rfl L55.out ?_) | (with_reducible refine atLoad 39 rfl ?_; refine wpList_loadE rfl rfl rfl L39.out ?_))
    refine (HPR.out W HF.out).mono ?_; rintro e U ⟨m', rfl, hn⟩
    obtain ⟨C', hC'⟩ : ∃ c, c = refC pr.1 m' := ⟨_, rfl⟩
    have hc6 : C'.length = 6 := by rw [hC']; rfl
    have hc1 : ∀ u ∈ C', u.oneCell' = true := by rw [hC']; exact refC_one _ _
    rw [← hC']
    have hlt := K4.out.lt
    have k4 := hn.frm.blk K4.out K4.out.lt (by simp)
    clear c0 c1 c2 K4
    have HN := Lib.hid hn
    have HC := Lib.hid hC'
    have HC6 := Lib.hid hc6
    have HC1 := Lib.hid hc1
    have HLT := Lib.hid hlt
    have K4 := Lib.hid k4
    clear k4 hlt hc1 hc6 hC' hn
    go_wp2_with (with_reducible refine atStore 55 rfl ?_; refine stop_ ?_)
    refine go_on ?_
    refine wpList_storeNew (P := Try.prog) (cs := C') rfl rfl rfl rfl (by rw [HC6.out]; rfl) (by rw [HC6.out]; exact info55) HC1.out ?_
    intro U1 hf1 k6 hz; clear hz
    dsimp only [Act.put]
    obtain ⟨p6, hp6⟩ : ∃ p, p = U.heap.size := ⟨_, rfl⟩
    rw [← hp6] at k6 ⊢
    have k4 := hf1.blk K4.out K4.out.lt (by simp)
    clear hp6 K4
    have K4 := Lib.hid k4
    have K6 := Lib.hid k6
    have HF1 := Lib.hid hf1
    clear hf1 k6 k4
    go_wp2_with (first | (with_reducible refine atLoad 55 rfl ?_; refine wpList_loadE rfl rfl rfl (load55 K6.out HC6.out) ?_) | (with_reducible refine atStore 55 rfl ?_; refine stop_ ?_))
    refine go_on ?_
    refine wpList_storeB (P := Try.prog) (cs := C') rfl rfl K4.out rfl rfl (by rw [HC6.out]; rfl) (by rw [HC6.out]; exact info55) HC1.out ?_
    have hfu := (HF1.out.narrow (S' := [w.heap.size + 2]) (by simp)).setRow (g := w.heap.size + 2) (.inl (by simp)) C'.toArray
    clear HF1 K6
    have k4 := K4.out.row C'
    generalize World.setRow U1 _ _ = U9 at k4 hfu ⊢
    clear K4
    dsimp only [Act.put]
    have K4 := Lib.hid k4
    have HFU := Lib.hid hfu
    clear hfu k4
    go_wp2_with fail
    refine bodyPost_ret (results_cttt Try.results22 K4.out rfl Try.underlying55 rfl (by rw [HC6.out]; exact info55)) rfl ?_
    rw [HD.out, HC.out]
    refine ⟨m', rfl, RNext.box HH.out HF.out HN.out (by omega) HLT.out (HPL.out _ (by omega)) HFU.out (fun S _ h => h.2)⟩
  have e1b : (wh == 1) = false := by simp [e1]
  by_cases e2 : wh = 2
  · subst e2
    have hd := HD2.out (by simp)
    have HD := Lib.hid hd
    clear hd
    go_wp2_with (first | (with_reducible refine atLoad 55 rfl ?_; refine wpList_loadE rfl rfl rfl L55.out ?_))
    refine (HCL.out W HF.out).mono ?_; rintro e U ⟨m', rfl, hn⟩
    obtain ⟨C', hC'⟩ : ∃ c, c = refC cl.1 m' := ⟨_, rfl⟩
    have hc6 : C'.length = 6 := by rw [hC']; rfl
    have hc1 : ∀ u ∈ C', u.oneCell' = true := by rw [hC']; exact refC_one _ _
    rw [← hC']
    have hlt := K4.out.lt
    have k4 := hn.frm.blk K4.out K4.out.lt (by simp)
    clear c0 c1 c2 K4
    have HN := Lib.hid hn
    have HC := Lib.hid hC'
    have HC6 := Lib.hid hc6
    have HC1 := Lib.hid hc1
    have HLT := Lib.hid hlt
    have K4 := Lib.hid k4
    clear k4 hlt hc1 hc6 hC' hn
    go_wp2_with (with_reducible refine atStore 55 rfl ?_; refine stop_ ?_)
    refine go_on ?_
    refine wpList_storeNew (P := Try.prog) (cs := C') rfl rfl rfl rfl (by rw [HC6.out]; rfl) (by rw [HC6.out]; exact info55) HC1.out ?_
    intro U1 hf1 k6 hz; clear hz
    dsimp only [Act.put]
    obtain ⟨p6, hp6⟩ : ∃ p, p = U.heap.size := ⟨_, rfl⟩
    rw [← hp6] at k6 ⊢
    have k4 := hf1.blk K4.out K4.out.lt (by simp)
    clear hp6 K4
    have K4 := Lib.hid k4
    have K6 := Lib.hid k6
    have HF1 := Lib.hid hf1
    clear hf1 k6 k4
    go_wp2_with (first | (with_reducible refine atLoad 55 rfl ?_; refine wpList_loadE rfl rfl rfl (load55 K6.out HC6.out) ?_) | (with_reducible refine atStore 55 rfl ?_; refine stop_ ?_))
    refine go_on ?_
    refine wpList_storeB (P := Try.prog) (cs := C') rfl rfl K4.out rfl rfl (by rw [HC6.out]; rfl) (by rw [HC6.out]; exact info55) HC1.out ?_
    have hfu := (HF1.out.narrow (S' := [w.heap.size + 2]) (by simp)).setRow (g := w.heap.size + 2) (.inl (by simp)) C'.toArray
    clear HF1 K6
    have k4 := K4.out.row C'
    generalize World.setRow U1 _ _ = U9 at k4 hfu ⊢
    clear K4
    dsimp only [Act.put]
    have K4 := Lib.hid k4
    have HFU := Lib.hid hfu
    clear hfu k4
    go_wp2_with fail
    refine bodyPost_ret (results_cttt Try.results22 K4.out rfl Try.underlying55 rfl (by rw [HC6.out]; exact info55)) rfl ?_
    rw [HD.out, HC.out]
    refine ⟨m', rfl, RNext.box HH.out HF.out HN.out (by omega) HLT.out trivial HFU.out (fun S _ h => trivial)⟩
  have e2b : (wh == 2) = false := by simp [e2]
  by_cases e3 : wh = 3
  · subst e3
    have hd := HD3.out (by simp)
    have HD := Lib.hid hd
    clear hd
    go_wp2_with (first | (with_reducible refine atLoad 55 rfl ?_; refine wpList_loadE rfl rfl rfl L55.out ?_))
    refine (HJO.out W HF.out).mono ?_; rintro e U ⟨m', rfl, hn⟩
    obtain ⟨C', hC'⟩ : ∃ c, c = refC jo.1 m' := ⟨_, rfl⟩
    have hc6 : C'.length = 6 := by rw [hC']; rfl
    have hc1 : ∀ u ∈ C', u.oneCell' = true := by rw [hC']; exact refC_one _ _
    rw [← hC']
    have hlt := K4.out.lt
    have k4 := hn.frm.blk K4.out K4.out.lt (by simp)
    clear c0 c1 c2 K4
    have HN := Lib.hid hn
    have HC := Lib.hid hC'
    have HC6 := Lib.hid hc6
    have HC1 := Lib.hid hc1
    have HLT := Lib.hid hlt
    have K4 := Lib.hid k4
    clear k4 hlt hc1 hc6 hC' hn
    go_wp2_with (with_reducible refine atStore 55 rfl ?_; refine stop_ ?_)
    refine go_on ?_
    refine wpList_storeNew (P := Try.prog) (cs := C') rfl rfl rfl rfl (by rw [HC6.out]; rfl) (by rw [HC6.out]; exact info55) HC1.out ?_
    intro U1 hf1 k6 hz; clear hz
    dsimp only [Act.put]
    obtain ⟨p6, hp6⟩ : ∃ p, p = U.heap.size := ⟨_, rfl⟩
    rw [← hp6] at k6 ⊢
    have k4 := hf1.blk K4.out K4.out.lt (by simp)
    clear hp6 K4
    have K4 := Lib.hid k4
    have K6 := Lib.hid k6
    have HF1 := Lib.hid hf1
    clear hf1 k6 k4
    go_wp2_with (first | (with_reducible refine atLoad 55 rfl ?_; refine wpList_loadE rfl rfl rfl (load55 K6.out HC6.out) ?_) | (with_reducible refine atStore 55 rfl ?_; refine stop_ ?_))
    refine go_on ?_
    refine wpList_storeB (P := Try.prog) (cs := C') rfl rfl K4.out rfl rfl (by rw [HC6.out]; rfl) (by rw [HC6.out]; exact info55) HC1.out ?_
    have hfu := (HF1.out.narrow (S' := [w.heap.size + 2]) (by simp)).setRow (g := w.heap.size + 2) (.inl (by simp)) C'.toArray
    clear HF1 K6
    have k4 := K4.out.row C'
    generalize World.setRow U1 _ _ = U9 at k4 hfu ⊢
    clear K4
    dsimp only [Act.put]
    have K4 := Lib.hid k4
    have HFU := Lib.hid hfu
    clear hfu k4
    go_wp2_with fail
    refine bodyPost_ret (results_cttt Try.results22 K4.out rfl Try.underlying55 rfl (by rw [HC6.out]; exact info55)) rfl ?_
    rw [HD.out, HC.out]
    refine ⟨m', rfl, RNext.box HH.out HF.out HN.out (by omega) HLT.out trivial HFU.out (fun S _ h => trivial)⟩
  have e3b : (wh == 3) = false := by simp [e3]
  have hd := HD4.out e1 e2 e3
  have HD := Lib.hid hd
  clear hd
  go_wp2_with (first | (with_reducible refine atLoad 55 rfl ?_; refine wpList_loadE rfl rfl rfl L55.out ?_) | (with_reducible refine atLoad 24 rfl ?_; refine wpList_loadE rfl rfl rfl L24.out ?_))
  refine (HTA.out W HF.out).mono ?_; rintro e U ⟨m', rfl, hn⟩
  obtain ⟨C', hC'⟩ : ∃ c, c = refC tk.1 m' := ⟨_, rfl⟩
  have hc6 : C'.length = 6 := by rw [hC']; rfl
  have hc1 : ∀ u ∈ C', u.oneCell' = true := by rw [hC']; exact refC_one _ _
  rw [← hC']
  have hlt := K4.out.lt
  have k4 := hn.frm.blk K4.out K4.out.lt (by simp)
  clear c0 c1 c2 K4
  have HN := Lib.hid hn
  have HC := Lib.hid hC'
  have HC6 := Lib.hid hc6
  have HC1 := Lib.hid hc1
  have HLT := Lib.hid hlt
  have K4 := Lib.hid k4
  clear k4 hlt hc1 hc6 hC' hn
  go_wp2_with (with_reducible refine atStore 55 rfl ?_; refine stop_ ?_)
  refine go_on ?_
  refine wpList_storeB (P := Try.prog) (cs := C') rfl rfl K4.out rfl rfl (by rw [HC6.out]; rfl) (by rw [HC6.out]; exact info55) HC1.out ?_
  have hfu := (Frm.refl U.heap.size [w.heap.size + 2] U).setRow (g := w.heap.size + 2) (.inl (by simp)) C'.toArray
  have k4 := K4.out.row C'
  generalize World.setRow U _ _ = U9 at k4 hfu ⊢
  clear K4
  dsimp only [Act.put]
  have K4 := Lib.hid k4
  have HFU := Lib.hid hfu
  clear hfu k4
  go_wp2_with fail
  refine bodyPost_ret (results_cttt Try.results22 K4.out rfl Try.underlying55 rfl (by rw [HC6.out]; exact info55)) rfl ?_
  rw [HD.out, HC.out]
  refine ⟨m', rfl, RNext.box HH.out HF.out HN.out (by omega) HLT.out (HRL.out _ (by omega)) HFU.out (fun S _ h => h.1)⟩
end Go.Proofs.Ythgmdilfmeefiaa
