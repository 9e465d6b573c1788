/-
  What holds behind a row's beginning, by the document.
-/
import Derived.Test.YtfmigicmfolbjaaDoorM2
import Derived.Test.YtfmigicmfolbjaaDoorM3
namespace Go.Proofs.YtfmigicmfolbjaaDoor
set_option linter.all false
set_option linter.unusedSimpArgs false
set_option linter.unusedVariables false
open Go.RowKit

def boolsC (n : Nat) (g : Nat → Bool) : List Value := (List.range n).map fun j => .bool (g j)
theorem boolsC_at {n j : Nat} {g : Nat → Bool} (hj : j < n) : (boolsC n g)[j]? = some (.bool (g j)) := by simp [boolsC, hj]
theorem boolsC_congr {n : Nat} {g h : Nat → Bool} (e : ∀ j, j < n → g j = h j) : boolsC n g = boolsC n h := List.map_congr_left fun j hj => by rw [e j (by simpa using hj)]
theorem boolsC_set {n j : Nat} {g : Nat → Bool} {b : Bool} : (boolsC n g).set j (.bool b) = boolsC n fun x => if x = j then b else g x := by
  apply List.ext_getElem?
  intro x
  rw [List.getElem?_set]
  simp only [boolsC, List.length_map, List.length_range, List.getElem?_map]
  by_cases hx : x < n
  · by_cases h : j = x
    · subst h; simp [hx]
    · have h2 : ¬ x = j := fun e => h e.symm
      simp [hx, h, h2]
  · by_cases h : j = x
    · subst h; simp [hx]
    · simp [hx, h]
theorem made_bools (n : Nat) : madeCells #[Value.bool false] n = (boolsC n fun _ => false).toArray := by
  apply Array.ext
  · simp [madeCells, boolsC]
  · intro i h1 h2
    simp [madeCells, boolsC, Nat.mod_one]
theorem run_make_16 (w : World) : (Instr.makeSlice 72 (.int .i64 16) (.int .i64 16)).run Tryd.prog w =
    .ok (.slice (some ⟨w.heap.size, 0, none⟩) 16 16) (w.alloc (.cells (boolsC 16 fun _ => false).toArray 4)) := by
  rw [← made_bools]
  exact run_make_row' 72 4 (.bool false) 1 Tryd.underlying72 (by kernel_rfl) rfl .i64 .i64 16 (by omega) (by omega) w
/-- The members of a list of numbers are facts. -/
theorem numL_in {l : List Int} {s : Nat} (h : numL l = some s) {j : Nat} (hj : j < l.length) : ∃ f : Nat, l.getD j 0 = f ∧ f < 16 := by
  have hb := numL_bit h
  have h0 := hb.2 j hj
  refine ⟨(l.getD j 0).toNat, by omega, ?_⟩
  refine Classical.byContradiction fun hf => ?_
  have h1 : s.testBit (l.getD j 0).toNat = true := (hb.1 _).2 ⟨j, hj, by omega⟩
  rw [Nat.testBit_lt_two_pow (Nat.lt_of_lt_of_le (numL_lt h) (Nat.pow_le_pow_right (by omega) (Nat.le_of_not_lt hf)))] at h1
  cases h1
/-- The first j members. -/
def preL (l : List Int) (j f : Nat) : Bool := inF (fun i => l.getD i 0) j (f : Int)
theorem preL_zero (l : List Int) (f : Nat) : preL l 0 f = false := rfl
theorem preL_succ {l : List Int} {j x : Nat} (hx : l.getD j 0 = (x : Int)) (f : Nat) : preL l (j + 1) f = (preL l j f || decide (f = x)) := by
  unfold preL inF
  rw [List.range_succ, List.any_append]
  simp only [List.any_cons, List.any_nil, Bool.or_false]
  congr 1
  have e : (l.getD j 0 = (f : Int)) = (f = x) := by rw [hx]; apply propext; omega
  simp only [e]
theorem preL_all {l : List Int} {s : Nat} (h : numL l = some s) (f : Nat) : preL l l.length f = s.testBit f := by
  have hb := (numL_bit h).1 f
  cases hs : s.testBit f
  · cases hp : preL l l.length f
    · rfl
    · have := hb.2 (inF_iff.1 hp)
      rw [hs] at this; cases this
  · exact inF_iff.2 (hb.1 hs)
def stopI (stop : Int) (l : List Nat) : List Nat := l.takeWhile fun (x : Nat) => !decide ((x : Int) = stop)
theorem stopI_at {stop : Int} : ∀ {l : List Nat} {k : Nat}, (∀ i, i < k → (l.getD i 0 : Int) ≠ stop) → k ≤ l.length → (k = l.length ∨ (l.getD k 0 : Int) = stop) → stopI stop l = l.take k
  | [], k, _, hk, _ => by
    have : k = 0 := by simpa using hk
    subst this; rfl
  | x :: l, 0, _, _, h => by
    rcases h with h | h
    · simp at h
    · have h : (x : Int) = stop := by simpa using h
      unfold stopI
      rw [List.takeWhile_cons_of_neg (by simp [h])]
      rfl
  | x :: l, k + 1, h1, h2, h => by
    have h0 : (x : Int) ≠ stop := by simpa using h1 0 (by omega)
    have ih := stopI_at (stop := stop) (l := l) (k := k) (fun i hi => by simpa using h1 (i + 1) (by omega)) (by simpa using h2) (by simpa using h)
    unfold stopI at ih ⊢
    rw [List.takeWhile_cons_of_pos (by simp [h0]), ih]
    rfl
theorem takeN_snoc {l : List Nat} {k : Nat} (hk : k < l.length) : l.take (k + 1) = l.take k ++ [l.getD k 0] := by
  rw [List.take_succ]
  simp [List.getD_eq_getElem?_getD, hk]
set_option maxRecDepth 100000 in
set_option maxHeartbeats 16000000 in
theorem done_any (q : RPos) (R : Raw) (P : PL) (hP : plannedO R = some P) (l : List Nat) (hl : ∀ i, i < l.length → l.getD i 0 < P.n) (ad : Option Addr) (b off cap : Nat) (stop : Int) (w : World) (hr : RawAt w q R) (hrl : RwI w ad b off l.length (at0 l)) :
    Calls Tryd.prog 37 #[.agg (rawC q R).toArray, .slice ad l.length cap, .int .i64 stop] w fun e w' => ∃ B, e = .returned (.slice (some ⟨B, 0, none⟩) 16 16) ∧ Blk w' B 4 (boolsC 16 fun f => P.holds f (stopI stop l)) ∧ w.heap.size ≤ B ∧ Frm w.heap.size [] w w' := by
  have hf0 := Tryd.func37
  have hmk := fun V => run_make_16 V
  obtain ⟨n, hn⟩ : ∃ n, n = R.steps.length := ⟨_, rfl⟩
  obtain ⟨m, hm⟩ : ∃ n, n = R.edges.length := ⟨_, rfl⟩
  obtain ⟨s, hs⟩ : ∃ n, n = R.starts.length := ⟨_, rfl⟩
  obtain ⟨L, hL⟩ : ∃ n, n = l.length := ⟨_, rfl⟩
  have hraw : rawC q R = [.slice q.s.ad s q.s.cap, .slice q.sa n q.sc, .slice q.ea m q.ec] := by rw [hn, hm, hs]; rfl
  have hPn : P.n = n := by rw [hn]; exact planned_len hP
  have hst := planned_start hP
  have hsl : s ≤ maxLen := by rw [hs]; exact hr.starts.len
  have hLl : L ≤ maxLen := by rw [hL]; exact hrl.len
  rw [hraw, ← hL]
  rw [← hL] at hrl
  have HR := Lib.hid hr
  have HN := Lib.hid hn
  have HM := Lib.hid hm
  have HSN := Lib.hid hs
  have HL := Lib.hid hL
  have HP := Lib.hid hP
  have HLT := Lib.hid hl
  have HRL := Lib.hid hrl
  have HRAW := Lib.hid hraw
  have HPN := Lib.hid hPn
  have HST := Lib.hid hst
  clear hst hPn hraw hrl hl hP hL hs hm hn hr
  go_enter Tryd.func37, Tryd.ntmps37
  go_upto_region 2 with fail
  refine namedC ?_; intro W hW
  obtain ⟨c, hc⟩ : ∃ c, c = w.heap.size := ⟨_, rfl⟩
  obtain ⟨B, hB⟩ : ∃ d, d = c + 1 := ⟨_, rfl⟩
  have k0 : Blk W c 66 [.slice q.s.ad s q.s.cap, .slice q.sa n q.sc, .slice q.ea m q.ec] := by rw [hW, hc]; refine Blk.alloc' ?_; exact Blk.new w 66 [.slice q.s.ad s q.s.cap, .slice q.sa n q.sc, .slice q.ea m q.ec]
  have kB : Blk W B 4 (boolsC 16 fun _ => false) := by rw [hW, hB, hc]; exact Blk.new' _ 4 (boolsC 16 fun _ => false) (by simp)
  have hf : Frm w.heap.size [] w W := by rw [hW]; repeat (first | with_reducible exact Frm.refl _ _ _ | with_reducible refine Frm.drewN ?_ | with_reducible refine Frm.drew ?_ | ((with_reducible refine Frm.setCell' ?_ ?_); · first | (left; simp; done) | (right; simp; done) | (right; simp; omega)) | ((with_reducible refine Frm.alloc' ?_ ?_); · first | exact Nat.le_refl _ | (simp; done) | (simp; omega)))
  have hBw : w.heap.size ≤ B := by omega
  have hcw : w.heap.size ≤ c := by omega
  have hcB : c ≠ B := by omega
  clear hW hf0 hmk
  rw [← hc, ← hB]
  clear hc hB
  have K0 := Lib.hid k0
  have KB := Lib.hid kB
  have HF := Lib.hid hf
  have HBW := Lib.hid hBw
  have HCW := Lib.hid hcw
  have HCB := Lib.hid hcB
  clear hcB hcw hBw hf kB k0
  go_wp2_with fail
  -- the starts
  go_loopw [8] (fun s8 wr => ∃ j : Nat, s8 = .int .i64 j ∧ j ≤ s ∧ Blk wr c 66 [.slice q.s.ad s q.s.cap, .slice q.sa n q.sc, .slice q.ea m q.ec] ∧ Blk wr B 4 (boolsC 16 (preL R.starts j)) ∧ Frm w.heap.size [] w wr) (fun s8 _ => s - (intOf s8).toNat)
  case atStart => exact ⟨0, rfl, Nat.zero_le _, K0.out, KB.out, HF.out⟩
  case round =>
    clear K0 KB HF
    obtain ⟨j, rfl, hj, k0, kB, hf⟩ := hrel
    by_cases hjs : j < s
    · have hjs' : (j : Int) < (s : Int) := by omega
      have hjR : j < R.starts.length := by have := HSN.out; omega
      obtain ⟨w4, w5⟩ := wrapUp hjs hsl
      have hms := meas_up hjs
      have hrr := HR.out.starts.frm hf (Nat.le_refl _)
      have had := hrr.ad (by omega)
      obtain ⟨x, hx, hx16⟩ := numL_in HST.out hjR
      have hx0 : (x : Int) < 16 := by omega
      have c1 : wr.cell? ⟨c, 0, none⟩ = some (.slice (some ⟨q.s.b, q.s.off, none⟩) s q.s.cap) := by rw [← had]; exact k0.cell 0
      have c2 : wr.cell? ⟨q.s.b, q.s.off + j, none⟩ = some (.int .i64 (x : Int)) := by rw [← hx]; exact hrr.cellI hjR
      have c3 : wr.cell? ⟨B, x, none⟩ = some (.bool (preL R.starts j x)) := by rw [kB.cell x]; exact boolsC_at hx16
      have c4 : wr.frozen? ⟨B, x, none⟩ = false := kB.free x
      have kB2 : Blk (wr.setCell ⟨B, x, none⟩ (.bool true)) B 4 (boolsC 16 (preL R.starts (j + 1))) := by
        have := kB.set x (.bool true)
        rw [boolsC_set] at this
        rwa [boolsC_congr (h := fun f => if f = x then true else preL R.starts j f) (fun f _ => by rw [preL_succ hx]; by_cases h : f = x <;> simp [h])]
      have k02 : Blk (wr.setCell ⟨B, x, none⟩ (.bool true)) c 66 [.slice q.s.ad s q.s.cap, .slice q.sa n q.sc, .slice q.ea m q.ec] := k0.other _ (by dsimp only; exact HCB.out.symm) _
      have hf2 : Frm w.heap.size [] w (wr.setCell ⟨B, x, none⟩ (.bool true)) := hf.setCell (p := ⟨B, x, none⟩) (.inr HBW.out) _
      clear hrr had k0 kB hf hx hx16
      have K0 := Lib.hid k02
      have KB := Lib.hid kB2
      have HF := Lib.hid hf2
      have HJS := Lib.hid hjs
      have HMS := Lib.hid hms
      clear hms hjs hf2 kB2 k02
      go_wp2_with fail
      (try simp only [w4, w5])
      exact ⟨⟨j + 1, by simp, HJS.out, K0.out, KB.out, HF.out⟩, HMS.out⟩
    · have hjs' : ¬ (j : Int) < (s : Int) := by omega
      obtain rfl : j = s := by omega
      have hst0 : ∀ f, preL R.starts j f = P.holds f (l.take 0) := fun f => by
        rw [HSN.out, preL_all HST.out]; rfl
      rw [boolsC_congr (fun f _ => hst0 f)] at kB
      obtain ⟨W1, hW1⟩ : ∃ V, V = wr := ⟨_, rfl⟩
      rw [← hW1] at k0 kB hf ⊢
      have c1 : W1.cell? ⟨c, 0, none⟩ = some (.slice q.s.ad j q.s.cap) := k0.cell 0
      clear hst0 hW1
      have K0 := Lib.hid k0
      have KB := Lib.hid kB
      have HF := Lib.hid hf
      clear hf kB k0
      go_wp2_with fail
      clear c1
      -- the row
      go_loopw [9] (fun s9 wr => ∃ k : Nat, s9 = .int .i64 k ∧ k ≤ L ∧ (∀ i, i < k → (l.getD i 0 : Int) ≠ stop) ∧ Blk wr c 66 [.slice q.s.ad j q.s.cap, .slice q.sa n q.sc, .slice q.ea m q.ec] ∧ Blk wr B 4 (boolsC 16 fun f => P.holds f (l.take k)) ∧ Frm w.heap.size [] w wr) (fun s9 _ => L - (intOf s9).toNat)
      case atStart => exact ⟨0, rfl, Nat.zero_le _, fun i hi => absurd hi (by omega), K0.out, KB.out, HF.out⟩
      case round =>
        clear K0 KB HF
        obtain ⟨k, rfl, hk, hne, k0, kB, hf⟩ := hrel
        by_cases hkL : k < L
        rotate_left
        · have hkL' : ¬ (k : Int) < (L : Int) := by omega
          obtain rfl : k = L := by omega
          have hstop : stopI stop l = l.take k := stopI_at hne (by have := HL.out; omega) (.inl HL.out)
          rw [← hstop] at kB
          clear hne hstop k0
          have KB := Lib.hid kB
          have HF := Lib.hid hf
          clear hf kB
          go_wp2_with fail
          go_ret
          exact ⟨B, rfl, KB.out, HBW.out, HF.out⟩
        have hkL' : (k : Int) < (L : Int) := by omega
        obtain ⟨y4, y5⟩ := wrapUp hkL hLl
        have hms := meas_up hkL
        have hrr := HRL.out.frm hf (Nat.le_refl _)
        have had := hrr.ad (by omega)
        subst had
        obtain ⟨d, hd⟩ : ∃ d, d = l.getD k 0 := ⟨_, rfl⟩
        have c2 : wr.cell? ⟨b, off + k, none⟩ = some (.int .i64 (d : Int)) := by rw [hd]; exact hrr.cellI hkL
        by_cases hds : (d : Int) = stop
        · have hstop : stopI stop l = l.take k := stopI_at hne (by have := HL.out; omega) (.inr (by rw [← hd]; exact hds))
          rw [← hstop] at kB
          subst hds
          clear hne hstop k0 hrr hd
          have KB := Lib.hid kB
          have HF := Lib.hid hf
          clear hf kB
          go_wp2_with fail
          go_ret
          exact ⟨B, rfl, KB.out, HBW.out, HF.out⟩
        have hne2 : ∀ i, i < k + 1 → (l.getD i 0 : Int) ≠ stop := fun i hi => by
          rcases Nat.lt_or_ge i k with h | h
          · exact hne i h
          · obtain rfl : i = k := by omega
            rw [← hd]; exact hds
        have hdn : d < n := by have := HLT.out k (by have := HL.out; omega); have := HPN.out; omega
        have hdn' : (d : Int) < (n : Int) := by omega
        have hdR : d < R.steps.length := by have := HN.out; omega
        obtain ⟨r, hrs⟩ : ∃ r, r = R.steps.getD d rs0 := ⟨_, rfl⟩
        obtain ⟨x, hx⟩ : ∃ x, x = q.X d := ⟨_, rfl⟩
        have hps := planned_step HP.out hdR
        rw [← hrs] at hps
        have hst := HR.out.steps.frm hf (Nat.le_refl _)
        have hsad := hst.row.ad (by omega)
        have hea : StepAt w x r := by rw [hx, hrs]; exact HR.out.steps.each d hdR
        have htk : l.take (k + 1) = l.take k ++ [d] := by rw [hd]; exact takeN_snoc (by have := HL.out; omega)
        have hfx : ∀ V, Frm wr.heap.size [] wr V → V.cell? ⟨c, 1, none⟩ = some (.slice (some ⟨q.sb, q.so, none⟩) n q.sc) ∧ V.cell? ⟨b, off + k, none⟩ = some (.int .i64 (d : Int)) := fun V hV =>
          ⟨by rw [← hsad]; exact (hV.blk k0 k0.lt (by simp)).cell 1, by rw [hd]; exact (hrr.frm hV (Nat.le_refl _)).cellI hkL⟩
        have hlo : ∀ V, Frm wr.heap.size [] wr V → (loadVar 75 ⟨q.sb, q.so + d * 3, none⟩).run Tryd.prog V = .ok (.agg (stepC x r).toArray) V := fun V hV => by
          rw [hx, hrs]
          exact (hst.row.frm hV (Nat.le_refl _)).load (P := Tryd.prog) Tryd.underlying75 rfl hdR info75
        clear hne hrr hst hrs hx hd hsad
        have HNE2 := Lib.hid hne2
        have HTK := Lib.hid htk
        have HFX := Lib.hid hfx
        have HLO := Lib.hid hlo
        have HPS := Lib.hid hps
        have HEA := Lib.hid hea
        have HKL := Lib.hid hkL
        have HMS := Lib.hid hms
        have K0 := Lib.hid k0
        have KB := Lib.hid kB
        have HF := Lib.hid hf
        have HDR := Lib.hid hdR
        have HDS := Lib.hid hds
        have HDN := Lib.hid hdn
        clear hdn hds hdR hf kB k0 hms hkL hea hps hlo hfx htk hne2
        have hds := HDS.out
        go_upto_region 9 with fail
        clear hds c2
        refine wp_region_leftL (fun V => Frm wr.heap.size [] wr V) 9 (by kernel_rfl) ?_
        have hS : Frm wr.heap.size [] wr wr.drew := (Frm.refl _ _ wr).drew
        have HS := Lib.hid hS
        clear hS
        first | ((first | refine LeftL.tkF (v := ?_) 0 rfl HS.out ?_ ?_ | refine LeftL.tkG (v := ?_) 0 rfl HS.out ?_ ?_); rotate_left; (· intro V hV; obtain ⟨q1, q2⟩ := HFX.out V hV; clear hV; go_simp; rfl)) | refine LeftL.tkN 0 rfl HS.out ?_
        (intro K' hK'; go_simp; refine hK' _ ?_; clear hK' K')
        first | ((first | refine LeftL.tkF (v := ?_) 1 rfl HS.out ?_ ?_ | refine LeftL.tkG (v := ?_) 1 rfl HS.out ?_ ?_); rotate_left; (· intro V hV; obtain ⟨q1, q2⟩ := HFX.out V hV; clear hV; go_simp; rfl)) | refine LeftL.tkN 1 rfl HS.out ?_
        (intro K' hK'; go_simp; refine hK' _ ?_; clear hK' K')
        first | ((first | refine LeftL.tkF (v := ?_) 2 rfl HS.out ?_ ?_ | refine LeftL.tkG (v := ?_) 2 rfl HS.out ?_ ?_); rotate_left; (· intro V hV; obtain ⟨q1, q2⟩ := HFX.out V hV; clear hV; go_simp; rfl)) | refine LeftL.tkN 2 rfl HS.out ?_
        (intro K' hK'; go_simp; refine hK' _ ?_; clear hK' K')
        first | ((first | refine LeftL.tkF (v := ?_) 3 rfl HS.out ?_ ?_ | refine LeftL.tkG (v := ?_) 3 rfl HS.out ?_ ?_); rotate_left; (· intro V hV; obtain ⟨q1, q2⟩ := HFX.out V hV; clear hV; go_simp; rfl)) | refine LeftL.tkN 3 rfl HS.out ?_
        (intro K' hK'; go_simp; refine hK' _ ?_; clear hK' K')
        first | ((first | refine LeftL.tkF (v := ?_) 4 rfl HS.out ?_ ?_ | refine LeftL.tkG (v := ?_) 4 rfl HS.out ?_ ?_); rotate_left; (· intro V hV; obtain ⟨q1, q2⟩ := HFX.out V hV; clear hV; go_simp; rfl)) | refine LeftL.tkN 4 rfl HS.out ?_
        (intro K' hK'; go_simp; refine hK' _ ?_; clear hK' K')
        first | ((first | refine LeftL.tkF (v := ?_) 5 rfl HS.out ?_ ?_ | refine LeftL.tkG (v := ?_) 5 rfl HS.out ?_ ?_); rotate_left; (· intro V hV; obtain ⟨q1, q2⟩ := HFX.out V hV; clear hV; go_simp; rfl)) | refine LeftL.tkN 5 rfl HS.out ?_
        (intro K' hK'; go_simp; refine hK' _ ?_; clear hK' K')
        first | ((first | refine LeftL.tkF (v := ?_) 6 rfl HS.out ?_ ?_ | refine LeftL.tkG (v := ?_) 6 rfl HS.out ?_ ?_); rotate_left; (· intro V hV; obtain ⟨q1, q2⟩ := HFX.out V hV; clear hV; go_simp; rfl)) | refine LeftL.tkN 6 rfl HS.out ?_
        (intro K' hK'; go_simp; refine hK' _ ?_; clear hK' K')
        refine LeftL.take 7 rfl (by kernel_rfl) (fun _ _ d _ _ h => by cases d <;> exact h) (yields_loadE (ty := 75) rfl rfl rfl (HLO.out)) HS.out ?_; (intro K' hK'; go_simp; refine hK' _ ?_; clear hK' K')
        refine LeftL.one 8 rfl (by kernel_rfl) ?_
        go_wp2_with fail
        refine ⟨fun _ => HS.out.alloc (Nat.le_refl _) _, ?_⟩
        refine namedLL ?_; intro w3 hw3
        have k1 : Blk w3 wr.heap.size 75 [.slice none 0 0, .slice none 0 0, .slice none 0 0] := by rw [hw3]; exact Blk.new' _ 75 [.slice none 0 0, .slice none 0 0, .slice none 0 0] rfl
        have hS3 : Frm wr.heap.size [] wr w3 := by rw [hw3]; exact HS.out.alloc (Nat.le_refl _) _
        obtain ⟨p, hp⟩ : ∃ p, p = wr.heap.size := ⟨_, rfl⟩
        rw [← hp] at k1
        simp only [← hp]
        clear hw3 HS HFX HLO
        refine LeftL.one 9 rfl (by kernel_rfl) ?_
        refine wpList_storeB (P := Tryd.prog) (ty := 75) (cs := stepC x r) rfl rfl k1 rfl rfl rfl info75 (by simp [stepC, LI.v, Value.oneCell']) ?_
        have kp := k1.row (stepC x r)
        have hS4 := hS3.setRow (g := p) (.inr (by omega)) (stepC x r).toArray
        generalize w3.setRow p (stepC x r).toArray = w6 at kp hS4 ⊢
        clear hS3 k1
        have hpB : p ≠ B := by have := KB.out.lt; omega
        have hpc : p ≠ c := by have := K0.out.lt; omega
        have k0 := hS4.blk K0.out K0.out.lt (by simp)
        have kB := hS4.blk KB.out KB.out.lt (by simp)
        have hf := HF.out.call hS4 HF.out.size (by simp)
        clear hS4 hp K0 KB HF
        obtain ⟨le, hle⟩ : ∃ n, n = r.ends.length := ⟨_, rfl⟩
        obtain ⟨la, hla⟩ : ∃ n, n = r.add.length := ⟨_, rfl⟩
        have hlev : x.ends.v r.ends = .slice x.ends.ad le x.ends.cap := by rw [hle]; rfl
        have hlav : x.add.v r.add = .slice x.add.ad la x.add.cap := by rw [hla]; rfl
        have hlem : le ≤ maxLen := by rw [hle]; exact HEA.out.ends.len
        have hlam : la ≤ maxLen := by rw [hla]; exact HEA.out.add.len
        have K0 := Lib.hid k0
        have KP := Lib.hid kp
        have KB := Lib.hid kB
        have HF := Lib.hid hf
        have HPB := Lib.hid hpB
        have HPC := Lib.hid hpc
        have HLE := Lib.hid hle
        have HLA := Lib.hid hla
        have HLEV := Lib.hid hlev
        have HLAV := Lib.hid hlav
        have HLEM := Lib.hid hlem
        have HLAM := Lib.hid hlam
        clear hlam hlem hlav hlev hla hle hpc hpB hf kB kp k0
        refine wpList_nil ?_
        refine ⟨fun h => absurd rfl h, ?_⟩
        refine LeftL.done (by kernel_rfl) ?_
        go_wp2_with fail
        -- what ends
        go_loopw [11] (fun s11 wx => ∃ i : Nat, s11 = .int .i64 i ∧ i ≤ le ∧ Blk wx c 66 [.slice q.s.ad j q.s.cap, .slice q.sa n q.sc, .slice q.ea m q.ec] ∧ Blk wx p 75 (stepC x r) ∧ Blk wx B 4 (boolsC 16 fun f => (P.holds f (l.take k) && !preL r.ends i f)) ∧ Frm w.heap.size [] w wx) (fun s11 _ => le - (intOf s11).toNat)
        case atStart => exact ⟨0, rfl, Nat.zero_le _, K0.out, KP.out, (by rw [boolsC_congr (h := fun f => P.holds f (l.take k)) (fun f _ => by rw [preL_zero]; simp)]; exact KB.out), HF.out⟩
        case round =>
          clear K0 KP KB HF
          obtain ⟨i, rfl, hi, k0, kp, kB, hf⟩ := hrel
          have e1 : wr.cell? ⟨p, 2, none⟩ = some (.slice x.ends.ad le x.ends.cap) := by rw [← HLEV.out]; exact kp.cell 2
          by_cases hie : i < le
          rotate_left
          · have hie' : ¬ (i : Int) < (le : Int) := by omega
            obtain rfl : i = le := by omega
            have hst0 : ∀ f, (P.holds f (l.take k) && !preL r.ends i f) = ((P.holds f (l.take k) && !(P.ends d).testBit f) || preL r.add 0 f) := fun f => by
              rw [HLE.out, preL_all HPS.out.2.2, preL_zero, Bool.or_false]
            rw [boolsC_congr (fun f _ => hst0 f)] at kB
            obtain ⟨W4, hW4⟩ : ∃ V, V = wr := ⟨_, rfl⟩
            rw [← hW4] at k0 kp kB hf e1 ⊢
            clear hst0 hW4
            have K0 := Lib.hid k0
            have KP := Lib.hid kp
            have KB := Lib.hid kB
            have HF := Lib.hid hf
            clear hf kB kp k0
            go_wp2_with fail
            clear e1
            -- what it makes
            go_loopw [12] (fun s12 wx => ∃ i : Nat, s12 = .int .i64 i ∧ i ≤ la ∧ Blk wx c 66 [.slice q.s.ad j q.s.cap, .slice q.sa n q.sc, .slice q.ea m q.ec] ∧ Blk wx p 75 (stepC x r) ∧ Blk wx B 4 (boolsC 16 fun f => ((P.holds f (l.take k) && !(P.ends d).testBit f) || preL r.add i f)) ∧ Frm w.heap.size [] w wx) (fun s12 _ => la - (intOf s12).toNat)
            case atStart => exact ⟨0, rfl, Nat.zero_le _, K0.out, KP.out, KB.out, HF.out⟩
            case round =>
              clear K0 KP KB HF
              obtain ⟨i, rfl, hi, k0, kp, kB, hf⟩ := hrel
              have e1 : wr.cell? ⟨p, 1, none⟩ = some (.slice x.add.ad la x.add.cap) := by rw [← HLAV.out]; exact kp.cell 1
              by_cases hie : i < la
              rotate_left
              · have hie' : ¬ (i : Int) < (la : Int) := by omega
                obtain rfl : i = la := by omega
                have hst0 : ∀ f, ((P.holds f (l.take k) && !(P.ends d).testBit f) || preL r.add i f) = P.holds f (l.take (k + 1)) := fun f => by
                  rw [HLA.out, preL_all HPS.out.2.1, HTK.out, holds_snoc, Bool.or_comm]
                rw [boolsC_congr (fun f _ => hst0 f)] at kB
                clear hst0 kp
                have hkL := HKL.out
                have K0 := Lib.hid k0
                have KB := Lib.hid kB
                have HF := Lib.hid hf
                clear hf kB k0
                go_wp2_with fail
                (try simp only [y4, y5])
                exact ⟨⟨k + 1, by simp, HKL.out, HNE2.out, K0.out, KB.out, HF.out⟩, HMS.out⟩
              have hie' : (i : Int) < (la : Int) := by omega
              have hie2 : i < r.add.length := by have := HLA.out; omega
              obtain ⟨z4, z5⟩ := wrapUp hie HLAM.out
              have hms2 := meas_up hie
              have hre := HEA.out.add.frm hf (Nat.le_refl _)
              have hae := hre.ad (Nat.lt_of_le_of_lt (Nat.zero_le _) hie2)
              obtain ⟨z, hz, hz16⟩ := numL_in HPS.out.2.1 hie2
              have hz0 : (z : Int) < 16 := by omega
              have e2 : wr.cell? ⟨x.add.b, x.add.off + i, none⟩ = some (.int .i64 (z : Int)) := by rw [← hz]; exact hre.cellI hie2
              rw [hae] at e1
              have e3 : wr.cell? ⟨B, z, none⟩ = some (.bool ((fun f => ((P.holds f (l.take k) && !(P.ends d).testBit f) || preL r.add i f)) z)) := by rw [kB.cell z]; exact boolsC_at hz16
              have e4 : wr.frozen? ⟨B, z, none⟩ = false := kB.free z
              have kB2 : Blk (wr.setCell ⟨B, z, none⟩ (.bool true)) B 4 (boolsC 16 fun f => ((P.holds f (l.take k) && !(P.ends d).testBit f) || preL r.add (i + 1) f)) := by
                have := kB.set z (.bool true)
                rw [boolsC_set] at this
                rwa [boolsC_congr (h := fun f => if f = z then true else ((P.holds f (l.take k) && !(P.ends d).testBit f) || preL r.add i f)) (fun f _ => by rw [preL_succ hz]; by_cases h : f = z <;> simp [h])]
              have k02 : Blk (wr.setCell ⟨B, z, none⟩ (.bool true)) c 66 [.slice q.s.ad j q.s.cap, .slice q.sa n q.sc, .slice q.ea m q.ec] := k0.other _ (by dsimp only; exact HCB.out.symm) _
              have kp2 : Blk (wr.setCell ⟨B, z, none⟩ (.bool true)) p 75 (stepC x r) := kp.other _ (by dsimp only; exact HPB.out.symm) _
              have hf2 : Frm w.heap.size [] w (wr.setCell ⟨B, z, none⟩ (.bool true)) := hf.setCell (p := ⟨B, z, none⟩) (.inr HBW.out) _
              dsimp only at e3
              obtain ⟨u, hu⟩ : ∃ u : Bool, u = (((P.holds z (l.take k) && !(P.ends d).testBit z) || preL r.add i z)) := ⟨_, rfl⟩
              rw [← hu] at e3
              clear hre hae k0 kp kB hf hz hz16 hu
              have K0 := Lib.hid k02
              have KP := Lib.hid kp2
              have KB := Lib.hid kB2
              have HF := Lib.hid hf2
              have HIE := Lib.hid hie
              have HMS2 := Lib.hid hms2
              clear hms2 hie hf2 kB2 kp2 k02
              go_wp2_with fail
              (try simp only [z4, z5])
              exact ⟨⟨i + 1, by simp, HIE.out, K0.out, KP.out, KB.out, HF.out⟩, HMS2.out⟩
          have hie' : (i : Int) < (le : Int) := by omega
          have hie2 : i < r.ends.length := by have := HLE.out; omega
          obtain ⟨z4, z5⟩ := wrapUp hie HLEM.out
          have hms2 := meas_up hie
          have hre := HEA.out.ends.frm hf (Nat.le_refl _)
          have hae := hre.ad (Nat.lt_of_le_of_lt (Nat.zero_le _) hie2)
          obtain ⟨z, hz, hz16⟩ := numL_in HPS.out.2.2 hie2
          have hz0 : (z : Int) < 16 := by omega
          have e2 : wr.cell? ⟨x.ends.b, x.ends.off + i, none⟩ = some (.int .i64 (z : Int)) := by rw [← hz]; exact hre.cellI hie2
          rw [hae] at e1
          have e3 : wr.cell? ⟨B, z, none⟩ = some (.bool ((fun f => (P.holds f (l.take k) && !preL r.ends i f)) z)) := by rw [kB.cell z]; exact boolsC_at hz16
          have e4 : wr.frozen? ⟨B, z, none⟩ = false := kB.free z
          have kB2 : Blk (wr.setCell ⟨B, z, none⟩ (.bool false)) B 4 (boolsC 16 fun f => (P.holds f (l.take k) && !preL r.ends (i + 1) f)) := by
            have := kB.set z (.bool false)
            rw [boolsC_set] at this
            rwa [boolsC_congr (h := fun f => if f = z then false else (P.holds f (l.take k) && !preL r.ends i f)) (fun f _ => by rw [preL_succ hz]; by_cases h : f = z <;> simp [h])]
          have k02 : Blk (wr.setCell ⟨B, z, none⟩ (.bool false)) c 66 [.slice q.s.ad j q.s.cap, .slice q.sa n q.sc, .slice q.ea m q.ec] := k0.other _ (by dsimp only; exact HCB.out.symm) _
          have kp2 : Blk (wr.setCell ⟨B, z, none⟩ (.bool false)) p 75 (stepC x r) := kp.other _ (by dsimp only; exact HPB.out.symm) _
          have hf2 : Frm w.heap.size [] w (wr.setCell ⟨B, z, none⟩ (.bool false)) := hf.setCell (p := ⟨B, z, none⟩) (.inr HBW.out) _
          dsimp only at e3
          obtain ⟨u, hu⟩ : ∃ u : Bool, u = ((P.holds z (l.take k) && !preL r.ends i z)) := ⟨_, rfl⟩
          rw [← hu] at e3
          clear hre hae k0 kp kB hf hz hz16 hu
          have K0 := Lib.hid k02
          have KP := Lib.hid kp2
          have KB := Lib.hid kB2
          have HF := Lib.hid hf2
          have HIE := Lib.hid hie
          have HMS2 := Lib.hid hms2
          clear hms2 hie hf2 kB2 kp2 k02
          go_wp2_with fail
          (try simp only [z4, z5])
          exact ⟨⟨i + 1, by simp, HIE.out, K0.out, KP.out, KB.out, HF.out⟩, HMS2.out⟩
end Go.Proofs.YtfmigicmfolbjaaDoor
