/-
  What surely holds, by all rows.
-/
import Derived.Test.YtfmigicmfolbjaaDoorX2
import Derived.Test.YtfmigicmfolbjaaDoorLawOrders
namespace Go.Proofs.YtfmigicmfolbjaaDoor
set_option linter.all false
set_option linter.unusedSimpArgs false
set_option linter.unusedVariables false
open Go.RowKit Go.Shelf

def allH (P : PL) (rs : List (List Nat)) (stop : Int) (f : Nat) : Bool := rs.all fun r => P.holds f (stopI stop r)
/-- Of the first k rows. -/
def allK (P : PL) (rs : List (List Nat)) (stop : Int) (f k : Nat) : Bool := (rs.take k).all fun r => P.holds f (stopI stop r)
theorem allK_zero (P : PL) (rs : List (List Nat)) (stop : Int) (f : Nat) : allK P rs stop f 0 = true := rfl
theorem allK_succ (P : PL) {rs : List (List Nat)} (stop : Int) (f : Nat) {k : Nat} (hk : k < rs.length) : allK P rs stop f (k + 1) = (allK P rs stop f k && P.holds f (stopI stop (rs.getD k []))) := by
  unfold allK
  rw [List.take_succ, List.all_append]
  simp [List.getD_eq_getElem?_getD, hk]
theorem allK_all (P : PL) (rs : List (List Nat)) (stop : Int) (f : Nat) : allK P rs stop f rs.length = allH P rs stop f := by
  unfold allK allH; rw [List.take_length]
theorem allK_no (P : PL) {rs : List (List Nat)} {stop : Int} {f k : Nat} (hk : k ≤ rs.length) (h : allK P rs stop f k = false) : allH P rs stop f = false := by
  unfold allK at h
  unfold allH
  rw [List.all_eq_false] at h ⊢
  obtain ⟨x, hx, hp⟩ := h
  exact ⟨x, List.mem_of_mem_take hx, hp⟩
/-- What stands in the list while the f-th is asked. -/
def sureV (P : PL) (rs : List (List Nat)) (stop : Int) (f : Nat) (b : Bool) (g : Nat) : Bool := if g < f then allH P rs stop g else if g = f then b else false
set_option maxRecDepth 100000 in
set_option maxHeartbeats 16000000 in
theorem refSurely_any (q : RPos) (R : Raw) (P : PL) (hP : plannedO R = some P) (rs : List (List Nat)) (hrs : ∀ r, r ∈ rs → ∀ x, x ∈ r → x < P.n) (v : Value) (own : Option Nat) (stop : Int) (w : World) (hr : RawAt w q R) (hv : RowsAt w v rs own) :
    Calls Tryd.prog 76 #[.agg (rawC q R).toArray, v, .int .i64 stop] w fun e w' => ∃ B, e = .returned (.slice (some ⟨B, 0, none⟩) 16 16) ∧ Blk w' B 4 (boolsC 16 fun f => allH P rs stop f) ∧ Frm w.heap.size [] w w' := by
  have hf0 := Tryd.func76
  have hmk := fun V => run_make_16 V
  obtain ⟨ado, capo, rfl⟩ := hv.form
  obtain ⟨N, hN⟩ : ∃ N, N = rs.length := ⟨_, rfl⟩
  rw [← hN] at hv ⊢
  obtain ⟨cs, hsl, hel⟩ := hv
  rw [← hN] at hsl
  have hNl := hsl.n_le
  have HR := Lib.hid hr
  have HP := Lib.hid hP
  have HRS := Lib.hid hrs
  have HN := Lib.hid hN
  have HSL := Lib.hid hsl
  have HEL := Lib.hid hel
  clear hel hsl hN hrs hP hr
  go_enter Tryd.func76, Tryd.ntmps76
  go_upto_region 1 with fail
  refine namedC ?_; intro W hW
  obtain ⟨c, hc⟩ : ∃ c, c = w.heap.size := ⟨_, rfl⟩
  have k0 : Blk W c 66 (rawC q R) := by rw [hW, hc]; exact Blk.new w 66 (rawC q R)
  have hf : Frm w.heap.size [] w W := by rw [hW]; repeat (first | with_reducible exact Frm.refl _ _ _ | with_reducible refine Frm.drewN ?_ | with_reducible refine Frm.drew ?_ | ((with_reducible refine Frm.setCell' ?_ ?_); · first | (left; simp; done) | (right; simp; done) | (right; simp; omega)) | ((with_reducible refine Frm.alloc' ?_ ?_); · first | exact Nat.le_refl _ | (simp; done) | (simp; omega)))
  clear hW hf0
  rw [← hc]
  clear hc
  have K0 := Lib.hid k0
  have HF := Lib.hid hf
  clear hf k0
  go_upto_region 2 with fail
  refine namedC ?_; intro W1 hW1
  obtain ⟨B, hB⟩ : ∃ d, d = W.heap.size := ⟨_, rfl⟩
  have kB : Blk W1 B 4 (boolsC 16 fun _ => false) := by rw [hW1, hB]; exact Blk.new W 4 (boolsC 16 fun _ => false)
  have hf1 : Frm W.heap.size [] W W1 := by rw [hW1]; exact (Frm.refl _ _ W).alloc (Nat.le_refl _) _
  have k0 := hf1.blk K0.out K0.out.lt (by simp)
  have hf := HF.out.call hf1 HF.out.size (by simp)
  have hBw : w.heap.size ≤ B := by rw [hB]; exact HF.out.size
  have hcB : c ≠ B := by have := K0.out.lt; omega
  rw [← hB]
  clear hW1 hmk hf1 hB K0 HF
  have kB : Blk W1 B 4 (boolsC 16 (sureV P rs stop 0 false)) := by
    rw [boolsC_congr (h := fun _ => false) (fun g _ => by simp [sureV])]
    exact kB
  have K0 := Lib.hid k0
  have KB := Lib.hid kB
  have HF := Lib.hid hf
  have HBW := Lib.hid hBw
  have HCB := Lib.hid hcB
  clear hcB hBw hf kB k0
  go_wp2_with fail
  go_loopw [8] (fun s8 wr => ∃ f : Nat, s8 = .int .i64 f ∧ f ≤ 16 ∧ Blk wr c 66 (rawC q R) ∧ Blk wr B 4 (boolsC 16 (sureV P rs stop f false)) ∧ Frm w.heap.size [] w wr) (fun s8 _ => 16 - (intOf s8).toNat)
  case atStart => exact ⟨0, rfl, by omega, K0.out, KB.out, HF.out⟩
  case round =>
    clear K0 KB HF
    obtain ⟨f, rfl, hf16, k0, kB, hf⟩ := hrel
    by_cases hfl : f < 16
    rotate_left
    · have hfl' : ¬ (f : Int) < 16 := by omega
      obtain rfl : f = 16 := by omega
      have kB : Blk wr B 4 (boolsC 16 fun g => allH P rs stop g) := by
        rw [boolsC_congr (h := sureV P rs stop 16 false) (fun g hg => by unfold sureV; rw [if_pos hg])]
        exact kB
      clear k0
      have KB := Lib.hid kB
      have HF := Lib.hid hf
      clear hf kB
      go_wp2_with fail
      go_ret
      exact ⟨B, rfl, KB.out, HF.out⟩
    have hfl' : (f : Int) < 16 := by omega
    obtain ⟨y4, y5⟩ := wrapUp (n := 16) hfl (by unfold maxLen; decide)
    have hms := meas_up hfl
    have c3 : wr.cell? ⟨B, f, none⟩ = some (.bool (sureV P rs stop f false f)) := by rw [kB.cell f]; exact boolsC_at hfl
    have c4 : wr.frozen? ⟨B, f, none⟩ = false := kB.free f
    have kB2 : Blk (wr.setCell ⟨B, f, none⟩ (.bool true)) B 4 (boolsC 16 (sureV P rs stop f (allK P rs stop f 0))) := by
      have := kB.set f (.bool true)
      rw [boolsC_set] at this
      rwa [boolsC_congr (h := fun g => if g = f then true else sureV P rs stop f false g) (fun g _ => by
        unfold sureV
        rw [allK_zero]
        by_cases h1 : g < f
        · have h2 : ¬ g = f := by omega
          simp [h1, h2]
        · by_cases h2 : g = f
          · simp [h2]
          · simp [h1, h2])]
    have k02 : Blk (wr.setCell ⟨B, f, none⟩ (.bool true)) c 66 (rawC q R) := k0.other _ (by dsimp only; exact HCB.out.symm) _
    have hf2 : Frm w.heap.size [] w (wr.setCell ⟨B, f, none⟩ (.bool true)) := hf.setCell (p := ⟨B, f, none⟩) (.inr HBW.out) _
    obtain ⟨u0, hu0⟩ : ∃ u, u = sureV P rs stop f false f := ⟨_, rfl⟩
    rw [← hu0] at c3
    clear k0 kB hf hu0
    have K0 := Lib.hid k02
    have KB := Lib.hid kB2
    have HF := Lib.hid hf2
    have HFL := Lib.hid hfl
    have HMS := Lib.hid hms
    clear hms hfl hf2 kB2 k02
    go_wp2_with fail
    go_loopw [9] (fun s9 wr => ∃ i : Nat, s9 = .int .i64 i ∧ i ≤ N ∧ Blk wr c 66 (rawC q R) ∧ Blk wr B 4 (boolsC 16 (sureV P rs stop f (allK P rs stop f i))) ∧ Frm w.heap.size [] w wr) (fun s9 _ => N - (intOf s9).toNat)
    case atStart => exact ⟨0, rfl, Nat.zero_le _, K0.out, KB.out, HF.out⟩
    case round =>
      clear K0 KB HF c3 c4
      obtain ⟨i, rfl, hi, k0, kB, hf⟩ := hrel
      have hfl := HFL.out
      have c3 : wr.cell? ⟨B, f, none⟩ = some (.bool (allK P rs stop f i)) := by
        rw [kB.cell f, boolsC_at hfl]
        unfold sureV
        simp
      obtain ⟨u, hu⟩ : ∃ u, u = allK P rs stop f i := ⟨_, rfl⟩
      rw [← hu] at c3 kB
      have hend : allH P rs stop f = u → ∃ f' : Nat, Value.int .i64 ((f : Int) + 1) = .int .i64 f' ∧ f' ≤ 16 ∧ Blk wr c 66 (rawC q R) ∧ Blk wr B 4 (boolsC 16 (sureV P rs stop f' false)) ∧ Frm w.heap.size [] w wr := fun h => by
        refine ⟨f + 1, by simp, hfl, k0, ?_, hf⟩
        rw [boolsC_congr (h := sureV P rs stop f u) (fun g _ => by
          unfold sureV
          by_cases h1 : g < f
          · have h2 : g < f + 1 := by omega
            simp [h1, h2]
          · by_cases h2 : g = f
            · subst h2
              simp [h]
            · have h3 : ¬ g < f + 1 := by omega
              have h4 : ¬ g = f + 1 ∨ g = f + 1 := by omega
              rcases h4 with h4 | h4 <;> (simp [h1, h2, h3, h4] <;> omega))]
        exact kB
      by_cases hiN : i < N
      rotate_left
      · have hiN' : ¬ (i : Int) < (N : Int) := by omega
        have din : decide ((i : Int) < (N : Int)) = false := decide_eq_false hiN'
        obtain rfl : i = N := by omega
        have hfin := hend (by rw [hu, HN.out, allK_all])
        clear hend k0 kB hf hu
        have HFIN := Lib.hid hfin
        clear hfin
        go_wp2_with fail
        (try simp only [y4, y5])
        exact ⟨HFIN.out, HMS.out⟩
      have hiN' : (i : Int) < (N : Int) := by omega
      have din : decide ((i : Int) < (N : Int)) = true := decide_eq_true hiN'
      cases u
      · have hfin := hend (allK_no P (k := i) (by have := HN.out; omega) hu.symm)
        clear hend k0 kB hf hu
        have HFIN := Lib.hid hfin
        clear hfin
        go_wp2_with fail
        (try simp only [y4, y5])
        exact ⟨HFIN.out, HMS.out⟩
      clear hend
      obtain ⟨z4, z5⟩ := wrapUp hiN hNl
      have hms2 := meas_up hiN
      have hirs : i < rs.length := by have := HN.out; omega
      obtain ⟨r, hrr⟩ : ∃ r, r = rs.getD i [] := ⟨_, rfl⟩
      obtain ⟨ad, b, off, cap, e1, e2, _⟩ := HEL.out i hirs
      rw [← hrr] at e1 e2
      obtain ⟨lr, hlr⟩ : ∃ l, l = r.length := ⟨_, rfl⟩
      rw [← hlr] at e1 e2
      have hrlt : ∀ x, x < r.length → r.getD x 0 < P.n := fun x hx => HRS.out r (by rw [hrr]; simp [List.getD_eq_getElem?_getD, hirs]) _ (by simp [List.getD_eq_getElem?_getD, hx])
      have hks := allK_succ P (rs := rs) stop f hirs
      rw [← hu, ← hrr, Bool.true_and] at hks
      obtain ⟨bo, oo, co, heo, _, _⟩ := HSL.out.pos (Nat.lt_of_le_of_lt (Nat.zero_le _) hiN)
      have hsl2 := HSL.out
      rw [heo] at hsl2
      have hcell := hsl2.cell i (by rw [hsl2.1]; omega)
      rw [e1] at hcell
      cases heo
      obtain ⟨W5, hW5⟩ : ∃ V, V = wr := ⟨_, rfl⟩
      rw [← hW5] at k0 kB hf c3 ⊢
      have hfx : ∀ V, Frm W5.heap.size [] W5 V → V.cell? ⟨bo, oo + i, none⟩ = some (.slice ad lr cap) ∧ True := fun V hV => by
        have h1 := hf.call hV hf.size (by simp)
        exact ⟨by rw [h1.cell (by have := cell_lt hcell; simpa using this) (by simp)]; exact hcell, trivial⟩
      have hlo : ∀ V, Frm W5.heap.size [] W5 V → (loadVar 66 ⟨c, 0, none⟩).run Tryd.prog V = .ok (.agg (rawC q R).toArray) V := fun V hV => load_raw (hV.blk k0 k0.lt (by simp))
      have hdo : ∀ V, Frm W5.heap.size [] W5 V → Calls Tryd.prog 37 #[.agg (rawC q R).toArray, .slice ad lr cap, .int .i64 stop] V fun e w' => ∃ B, e = .returned (.slice (some ⟨B, 0, none⟩) 16 16) ∧ Blk w' B 4 (boolsC 16 fun f => P.holds f (stopI stop r)) ∧ V.heap.size ≤ B ∧ Frm V.heap.size [] V w' := fun V hV => by
        have h1 := hf.call hV hf.size (by simp)
        have := done_any q R P HP.out r hrlt ad b off cap stop V (HR.out.frm h1 (Nat.le_refl _)) (by rw [← hlr]; exact e2.frm h1 (Nat.le_refl _))
        rw [← hlr] at this
        exact this
      have hfl3 : (f : Int) < 16 := by omega
      clear e1 e2 hirs hrr hlr hrlt hsl2 hcell hW5 hu c3
      have HFX := Lib.hid hfx
      have HLO := Lib.hid hlo
      have HDO := Lib.hid hdo
      have HKS := Lib.hid hks
      have K0 := Lib.hid k0
      have KB := Lib.hid kB
      have HF := Lib.hid hf
      have HMS2 := Lib.hid hms2
      have HIN := Lib.hid hiN
      clear hiN hms2 hf kB k0 hks hdo hlo hfx
      have hiN := HIN.out
      have c5 : W5.cell? ⟨B, f, none⟩ = some (.bool true) := by
        rw [KB.out.cell f, boolsC_at hfl]
        unfold sureV
        simp
      go_upto_region 9 with fail
      clear c5
      refine wp_region_leftL (fun V => Frm W5.heap.size [] W5 V) 13 (by kernel_rfl) ?_
      have hS : Frm W5.heap.size [] W5 W5.drew := (Frm.refl _ _ W5).drew
      have HS := Lib.hid hS
      clear hS
      first | ((first | refine LeftL.tkF (v := ?_) 0 rfl HS.out ?_ ?_ | refine LeftL.tkG (v := ?_) 0 rfl HS.out ?_ ?_); rotate_left; (· intro V hV; obtain ⟨q0, q1⟩ := HFX.out V hV; clear hV; go_simp; rfl)) | refine LeftL.tkN 0 rfl HS.out ?_
      (intro K' hK'; go_simp; refine hK' _ ?_; clear hK' K')
      first | ((first | refine LeftL.tkF (v := ?_) 1 rfl HS.out ?_ ?_ | refine LeftL.tkG (v := ?_) 1 rfl HS.out ?_ ?_); rotate_left; (· intro V hV; obtain ⟨q0, q1⟩ := HFX.out V hV; clear hV; go_simp; rfl)) | refine LeftL.tkN 1 rfl HS.out ?_
      (intro K' hK'; go_simp; refine hK' _ ?_; clear hK' K')
      refine LeftL.take 2 rfl (by kernel_rfl) (fun _ _ d _ _ h => by cases d <;> exact h) (yields_loadE (ty := 66) rfl rfl rfl (HLO.out)) HS.out ?_; (intro K' hK'; go_simp; refine hK' _ ?_; clear hK' K')
      first | ((first | refine LeftL.tkF (v := ?_) 3 rfl HS.out ?_ ?_ | refine LeftL.tkG (v := ?_) 3 rfl HS.out ?_ ?_); rotate_left; (· intro V hV; obtain ⟨q0, q1⟩ := HFX.out V hV; clear hV; go_simp; rfl)) | refine LeftL.tkN 3 rfl HS.out ?_
      (intro K' hK'; go_simp; refine hK' _ ?_; clear hK' K')
      first | ((first | refine LeftL.tkF (v := ?_) 4 rfl HS.out ?_ ?_ | refine LeftL.tkG (v := ?_) 4 rfl HS.out ?_ ?_); rotate_left; (· intro V hV; obtain ⟨q0, q1⟩ := HFX.out V hV; clear hV; go_simp; rfl)) | refine LeftL.tkN 4 rfl HS.out ?_
      (intro K' hK'; go_simp; refine hK' _ ?_; clear hK' K')
      first | ((first | refine LeftL.tkF (v := ?_) 5 rfl HS.out ?_ ?_ | refine LeftL.tkG (v := ?_) 5 rfl HS.out ?_ ?_); rotate_left; (· intro V hV; obtain ⟨q0, q1⟩ := HFX.out V hV; clear hV; go_simp; rfl)) | refine LeftL.tkN 5 rfl HS.out ?_
      (intro K' hK'; go_simp; refine hK' _ ?_; clear hK' K')
      first | ((first | refine LeftL.tkF (v := ?_) 6 rfl HS.out ?_ ?_ | refine LeftL.tkG (v := ?_) 6 rfl HS.out ?_ ?_); rotate_left; (· intro V hV; obtain ⟨q0, q1⟩ := HFX.out V hV; clear hV; go_simp; rfl)) | refine LeftL.tkN 6 rfl HS.out ?_
      (intro K' hK'; go_simp; refine hK' _ ?_; clear hK' K')
      first | ((first | refine LeftL.tkF (v := ?_) 7 rfl HS.out ?_ ?_ | refine LeftL.tkG (v := ?_) 7 rfl HS.out ?_ ?_); rotate_left; (· intro V hV; obtain ⟨q0, q1⟩ := HFX.out V hV; clear hV; go_simp; rfl)) | refine LeftL.tkN 7 rfl HS.out ?_
      (intro K' hK'; go_simp; refine hK' _ ?_; clear hK' K')
      first | ((first | refine LeftL.tkF (v := ?_) 9 rfl HS.out ?_ ?_ | refine LeftL.tkG (v := ?_) 9 rfl HS.out ?_ ?_); rotate_left; (· intro V hV; obtain ⟨q0, q1⟩ := HFX.out V hV; clear hV; go_simp; rfl)) | refine LeftL.tkN 9 rfl HS.out ?_
      (intro K' hK'; go_simp; refine hK' _ ?_; clear hK' K')
      refine LeftL.one 8 rfl (by kernel_rfl) ?_
      go_wp2_with fail
      refine (HDO.out _ HS.out).mono ?_; rintro e V1 ⟨B2, rfl, kB2, hB2, hf1⟩
      have hS1 := HS.out.call hf1 HS.out.size (by simp)
      clear hf1 HS HDO
      have HS := Lib.hid hS1
      have KB2 := Lib.hid kB2
      clear kB2 hS1
      go_wp2_with fail
      first | refine ⟨fun _ => HS.out, ?_⟩ | refine ⟨HS.out, ?_⟩
      first | ((first | refine LeftL.tkF (v := ?_) 10 rfl HS.out ?_ ?_ | refine LeftL.tkG (v := ?_) 10 rfl HS.out ?_ ?_); rotate_left; (· intro V hV; obtain ⟨q0, q1⟩ := HFX.out V hV; clear hV; go_simp; rfl)) | refine LeftL.tkN 10 rfl HS.out ?_
      (intro K' hK'; go_simp; refine hK' _ ?_; clear hK' K')
      refine LeftL.one 11 rfl (by kernel_rfl) ?_
      obtain ⟨u2, hu2⟩ : ∃ u, u = P.holds f (stopI stop r) := ⟨_, rfl⟩
      have d1 : V1.cell? ⟨B2, f, none⟩ = some (.bool u2) := by rw [hu2, KB2.out.cell f]; exact boolsC_at hfl
      rw [← hu2] at HKS
      clear hu2
      go_wp2_with fail
      first | refine ⟨fun _ => HS.out, ?_⟩ | refine ⟨HS.out, ?_⟩
      first | ((first | refine LeftL.tkF (v := ?_) 12 rfl HS.out ?_ ?_ | refine LeftL.tkG (v := ?_) 12 rfl HS.out ?_ ?_); rotate_left; (· intro V hV; obtain ⟨q0, q1⟩ := HFX.out V hV; clear hV; go_simp; rfl)) | refine LeftL.tkN 12 rfl HS.out ?_
      (intro K' hK'; go_simp; refine hK' _ ?_; clear hK' K')
      refine LeftL.one 13 rfl (by kernel_rfl) ?_
      have kB := HS.out.blk KB.out KB.out.lt (by simp)
      have k0 := HS.out.blk K0.out K0.out.lt (by simp)
      have hf := HF.out.call HS.out HF.out.size (by simp)
      have d2 : V1.cell? ⟨B, f, none⟩ = some (.bool true) := by
        rw [kB.cell f, boolsC_at hfl]
        unfold sureV
        simp
      have d3 : V1.frozen? ⟨B, f, none⟩ = false := kB.free f
      have kB3 : Blk (V1.setCell ⟨B, f, none⟩ (.bool u2)) B 4 (boolsC 16 (sureV P rs stop f (allK P rs stop f (i + 1)))) := by
        have := kB.set f (.bool u2)
        rw [boolsC_set] at this
        rwa [boolsC_congr (h := fun g => if g = f then u2 else sureV P rs stop f true g) (fun g _ => by
          unfold sureV
          rw [HKS.out]
          by_cases h1 : g < f
          · have h2 : ¬ g = f := by omega
            simp [h1, h2]
          · by_cases h2 : g = f
            · simp [h2]
            · simp [h1, h2])]
      have k03 : Blk (V1.setCell ⟨B, f, none⟩ (.bool u2)) c 66 (rawC q R) := k0.other _ (by dsimp only; exact HCB.out.symm) _
      have hf3 : Frm w.heap.size [] w (V1.setCell ⟨B, f, none⟩ (.bool u2)) := hf.setCell (p := ⟨B, f, none⟩) (.inr HBW.out) _
      clear kB k0 hf HS K0 KB HF KB2 HFX HLO HKS
      have KB := Lib.hid kB3
      have K0 := Lib.hid k03
      have HF := Lib.hid hf3
      clear hf3 k03 kB3
      go_wp2_with fail
      refine ⟨fun h => absurd rfl h, ?_⟩
      refine LeftL.done (by kernel_rfl) ?_
      go_wp2_with fail
      (try simp only [z4, z5])
      exact ⟨⟨i + 1, by simp, HIN.out, K0.out, KB.out, HF.out⟩, HMS2.out⟩
end Go.Proofs.YtfmigicmfolbjaaDoor
