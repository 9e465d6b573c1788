/-
  The first need that is not surely met, and what ends, by the document.
-/
import Derived.Test.YtfmigicmfolbjaaDoorX3
namespace Go.Proofs.YtfmigicmfolbjaaDoor
set_option linter.all false
set_option linter.unusedSimpArgs false
set_option linter.unusedVariables false
open Go.RowKit Go.Shelf

theorem numF_mono {F : Nat → Int} : ∀ {k s : Nat} {l : Int}, numF F k = some (s, l) → (∀ j, j < k → F j ≤ l) ∧ ∀ i j, i < j → j < k → F i < F j
  | 0, _, _, _ => ⟨fun j hj => absurd hj (by omega), fun i j _ hj => absurd hj (by omega)⟩
  | k + 1, s, l, h => by
    unfold numF at h
    split at h
    · cases h
    · rename_i s0 l0 h0
      split at h
      · rename_i hb
        have ih := numF_mono h0
        have hb := inB_iff.1 hb
        cases h
        refine ⟨fun j hj => ?_, fun i j hij hj => ?_⟩
        · rcases Nat.lt_or_ge j k with h1 | h1
          · have := ih.1 j h1; omega
          · obtain rfl : j = k := by omega
            exact Int.le_refl _
        · rcases Nat.lt_or_ge j k with h1 | h1
          · exact ih.2 i j hij h1
          · obtain rfl : j = k := by omega
            have := ih.1 i hij; omega
      · cases h
theorem numL_mono {l : List Int} {s : Nat} (h : numL l = some s) {i j : Nat} (hij : i < j) (hj : j < l.length) : l.getD i 0 < l.getD j 0 := by
  unfold numL at h
  rw [Option.map_eq_some_iff] at h
  obtain ⟨⟨s', l'⟩, h1, _⟩ := h
  exact (numF_mono h1).2 i j hij hj
theorem find_filter {p q : Nat → Bool} (l : List Nat) : (l.filter q).find? p = l.find? fun x => q x && p x := by
  rw [List.find?_filter]
  congr 1
  funext x
  cases q x <;> cases p x <;> rfl
theorem bad_at {l : List Int} {s : Nat} (h : numL l = some s) {sure : Nat → Bool} {k f : Nat} (hk : k < l.length) (hf : l.getD k 0 = (f : Int)) (hf16 : f < 16) (h1 : ∀ k', k' < k → ∀ g : Nat, l.getD k' 0 = (g : Int) → sure g = true) (h2 : sure f = false) : (bitsOf 16 s).find? (fun f => !sure f) = some f := by
  unfold bitsOf
  rw [find_filter]
  refine find_range hf16 (fun g hg => ?_) ?_
  · cases hb : s.testBit g
    · rfl
    · obtain ⟨j, hj, he⟩ := ((numL_bit h).1 g).1 hb
      rcases Nat.lt_trichotomy j k with h3 | h3 | h3
      · rw [h1 j h3 g he]; rfl
      · subst h3; rw [hf] at he; omega
      · have := numL_mono h h3 hj
        rw [hf, he] at this
        omega
  · have hb : s.testBit f = true := ((numL_bit h).1 f).2 ⟨k, hk, hf⟩
    rw [hb, h2]; rfl
theorem bad_none {l : List Int} {s : Nat} (h : numL l = some s) {sure : Nat → Bool} (h1 : ∀ k', k' < l.length → ∀ g : Nat, l.getD k' 0 = (g : Int) → sure g = true) : (bitsOf 16 s).find? (fun f => !sure f) = none := by
  rw [List.find?_eq_none]
  intro g hg
  have hm := bitsOf_mem.1 hg
  obtain ⟨j, hj, he⟩ := ((numL_bit h).1 g).1 hm.2
  rw [h1 j hj g he]
  simp
theorem sure_all {R : Raw} {P : PL} (hP : plannedO R = some P) {i : Nat} (hi : i < P.n) (f : Nat) : allH P (rowsR P.n P.behind P.n []) (i : Int) f = sureN P i f := by
  rw [Bool.eq_iff_iff, sure_rows hP hi]
  unfold allH
  rw [List.all_eq_true]
  constructor
  · intro h r hr
    have := h r ((rows_all (planned_ord hP) r).2 hr)
    rwa [stopI_nat] at this
  · intro h r hr
    rw [stopI_nat]
    exact h r ((rows_all (planned_ord hP) r).1 hr)
theorem ends_all {R : Raw} {P : PL} (hP : plannedO R = some P) (f : Nat) : allH P (rowsR P.n P.behind P.n []) (-1) f = endsB P f := by
  rw [Bool.eq_iff_iff, ends_rows hP]
  unfold allH
  rw [List.all_eq_true]
  constructor
  · intro h r hr
    have := h r ((rows_all (planned_ord hP) r).2 hr)
    rwa [stopI_none] at this
  · intro h r hr
    rw [stopI_none]
    exact h r ((rows_all (planned_ord hP) r).1 hr)
theorem rows_lt {R : Raw} {P : PL} (hP : plannedO R = some P) : ∀ r, r ∈ rowsR P.n P.behind P.n [] → ∀ x, x ∈ r → x < P.n := fun r hr x hx => ((rows_all (planned_ord hP) r).1 hr).1.lt x hx
theorem pow_six {n : Nat} (h : n ≤ 6) : n ^ n ≤ 50000 := by
  rcases (show n = 0 ∨ n = 1 ∨ n = 2 ∨ n = 3 ∨ n = 4 ∨ n = 5 ∨ n = 6 by omega) with h | h | h | h | h | h | h <;> subst h <;> decide
theorem rowsAt_nil (w : World) : RowsAt w (.slice none 0 0) [] none := ⟨[], Sl.nil _ _ _, fun k hk => absurd hk (by simp)⟩
set_option maxRecDepth 100000 in
set_option maxHeartbeats 16000000 in
theorem refRows_any (q : RPos) (R : Raw) (P : PL) (hP : plannedO R = some P) (h6 : P.n ≤ 6) (w : World) (hr : RawAt w q R) :
    Calls Tryd.prog 75 #[.agg (rawC q R).toArray] w fun e w' => (∃ v own, e = .returned v ∧ RowsAt w' v (rowsR P.n P.behind P.n []) own) ∧ Frm w.heap.size [] w w' := by
  have hf0 := Tryd.func75
  obtain ⟨n, hn⟩ : ∃ n, n = R.steps.length := ⟨_, rfl⟩
  obtain ⟨m, hm⟩ : ∃ n, n = R.edges.length := ⟨_, rfl⟩
  have hraw : rawC q R = [q.s.v R.starts, .slice q.sa n q.sc, .slice q.ea m q.ec] := by rw [hn, hm]; rfl
  have hPn : P.n = n := by rw [hn]; exact planned_len hP
  obtain ⟨a, ha, haf⟩ := planned_edges hP
  rw [← hn] at ha haf
  have hbeh : ∀ i j, i < n → P.behind i j = (closeK n a n i).testBit j := fun i j hi => by unfold PL.behind; rw [hPn, haf]; simp [hi]
  rw [hraw, hPn]
  rw [hPn] at h6
  have h12 : n ≤ 12 := by omega
  have HR := Lib.hid hr
  have HBEH := Lib.hid hbeh
  have H6 := Lib.hid h6
  have HA := Lib.hid ha
  have HM := Lib.hid hm
  have HN := Lib.hid hn
  clear hn hm ha h6 hbeh hr
  go_enter Tryd.func75, Tryd.ntmps75
  go_upto_region 1 with fail
  refine namedC ?_; intro W hW
  obtain ⟨c, hc⟩ : ∃ c, c = w.heap.size := ⟨_, rfl⟩
  have k0 : Blk W c 66 [q.s.v R.starts, .slice q.sa n q.sc, .slice q.ea m q.ec] := by rw [hW, hc]; exact Blk.new w 66 [q.s.v R.starts, .slice q.sa n q.sc, .slice q.ea m q.ec]
  have hf : Frm w.heap.size [] w W := by rw [hW]; repeat (first | with_reducible exact Frm.refl _ _ _ | with_reducible refine Frm.drewN ?_ | with_reducible refine Frm.drew ?_ | ((with_reducible refine Frm.setCell' ?_ ?_); · first | (left; simp; done) | (right; simp; done) | (right; simp; omega)) | ((with_reducible refine Frm.alloc' ?_ ?_); · first | exact Nat.le_refl _ | (simp; done) | (simp; omega)))
  clear hW hf0
  rw [← hc]
  clear hc
  have hfx : ∀ V, Frm W.heap.size [] W V → V.cell? ⟨c, 1, none⟩ = some (.slice q.sa n q.sc) ∧ V.cell? ⟨c, 2, none⟩ = some (.slice q.ea m q.ec) := fun V hV => ⟨(hV.blk k0 k0.lt (by simp)).cell 1, (hV.blk k0 k0.lt (by simp)).cell 2⟩
  have hah : ∀ V, Frm W.heap.size [] W V → Calls Tryd.prog 67 #[.int .i64 (n : Int), .slice q.ea m q.ec] V fun e w' => e = .returned (.slice (some ⟨V.heap.size, 0, none⟩) n n) ∧ MatAt w' n V.heap.size (closeK n a n) ∧ Frm V.heap.size [] V w' := fun V hV => by
    have := ahead_any n h12 R.edges q.ea q.eb q.eo q.ec a HA.out V ((HR.out.frm (hf.call hV hf.size (by simp)) (Nat.le_refl _)).edges)
    rw [← HM.out] at this
    exact this
  have HF := Lib.hid hf
  have HFX := Lib.hid hfx
  have HAH := Lib.hid hah
  clear hah hfx hf
  refine wp_region_leftL (fun V => Frm W.heap.size [] W V) 1000 (by kernel_rfl) ?_
  have hS : Frm W.heap.size [] W W.drew := (Frm.refl _ _ W).drew
  have HS := Lib.hid hS
  clear hS
  first | ((first | refine LeftL.tkF (v := ?_) 0 rfl HS.out ?_ ?_ | refine LeftL.tkG (v := ?_) 0 rfl HS.out ?_ ?_); rotate_left; (· intro V hV; obtain ⟨q1, q2⟩ := HFX.out V hV; clear hV; go_simp; rfl)) | refine LeftL.tkN 0 rfl HS.out ?_
  (intro K' hK'; go_simp; refine hK' _ ?_; clear hK' K')
  first | ((first | refine LeftL.tkF (v := ?_) 1 rfl HS.out ?_ ?_ | refine LeftL.tkG (v := ?_) 1 rfl HS.out ?_ ?_); rotate_left; (· intro V hV; obtain ⟨q1, q2⟩ := HFX.out V hV; clear hV; go_simp; rfl)) | refine LeftL.tkN 1 rfl HS.out ?_
  (intro K' hK'; go_simp; refine hK' _ ?_; clear hK' K')
  first | ((first | refine LeftL.tkF (v := ?_) 2 rfl HS.out ?_ ?_ | refine LeftL.tkG (v := ?_) 2 rfl HS.out ?_ ?_); rotate_left; (· intro V hV; obtain ⟨q1, q2⟩ := HFX.out V hV; clear hV; go_simp; rfl)) | refine LeftL.tkN 2 rfl HS.out ?_
  (intro K' hK'; go_simp; refine hK' _ ?_; clear hK' K')
  first | ((first | refine LeftL.tkF (v := ?_) 3 rfl HS.out ?_ ?_ | refine LeftL.tkG (v := ?_) 3 rfl HS.out ?_ ?_); rotate_left; (· intro V hV; obtain ⟨q1, q2⟩ := HFX.out V hV; clear hV; go_simp; rfl)) | refine LeftL.tkN 3 rfl HS.out ?_
  (intro K' hK'; go_simp; refine hK' _ ?_; clear hK' K')
  first | ((first | refine LeftL.tkF (v := ?_) 4 rfl HS.out ?_ ?_ | refine LeftL.tkG (v := ?_) 4 rfl HS.out ?_ ?_); rotate_left; (· intro V hV; obtain ⟨q1, q2⟩ := HFX.out V hV; clear hV; go_simp; rfl)) | refine LeftL.tkN 4 rfl HS.out ?_
  (intro K' hK'; go_simp; refine hK' _ ?_; clear hK' K')
  first | ((first | refine LeftL.tkF (v := ?_) 5 rfl HS.out ?_ ?_ | refine LeftL.tkG (v := ?_) 5 rfl HS.out ?_ ?_); rotate_left; (· intro V hV; obtain ⟨q1, q2⟩ := HFX.out V hV; clear hV; go_simp; rfl)) | refine LeftL.tkN 5 rfl HS.out ?_
  (intro K' hK'; go_simp; refine hK' _ ?_; clear hK' K')
  first | ((first | refine LeftL.tkF (v := ?_) 6 rfl HS.out ?_ ?_ | refine LeftL.tkG (v := ?_) 6 rfl HS.out ?_ ?_); rotate_left; (· intro V hV; obtain ⟨q1, q2⟩ := HFX.out V hV; clear hV; go_simp; rfl)) | refine LeftL.tkN 6 rfl HS.out ?_
  (intro K' hK'; go_simp; refine hK' _ ?_; clear hK' K')
  first | ((first | refine LeftL.tkF (v := ?_) 7 rfl HS.out ?_ ?_ | refine LeftL.tkG (v := ?_) 7 rfl HS.out ?_ ?_); rotate_left; (· intro V hV; obtain ⟨q1, q2⟩ := HFX.out V hV; clear hV; go_simp; rfl)) | refine LeftL.tkN 7 rfl HS.out ?_
  (intro K' hK'; go_simp; refine hK' _ ?_; clear hK' K')
  refine LeftL.one 8 rfl (by kernel_rfl) ?_
  go_wp2_with fail
  obtain ⟨X1, hX1⟩ : ∃ X, X = W.drew := ⟨_, rfl⟩
  rw [← hX1] at HS ⊢
  refine (HAH.out _ HS.out).mono ?_; rintro e W1 ⟨rfl, hmat, hf1⟩
  have hS1 := HS.out.call hf1 HS.out.size (by simp)
  obtain ⟨B, hB⟩ : ∃ B, B = X1.heap.size := ⟨_, rfl⟩
  rw [← hB] at hmat ⊢
  clear hf1 HS HAH hB hX1
  have HS := Lib.hid hS1
  have HMAT := Lib.hid hmat
  clear hmat hS1
  go_wp2_with fail
  first | refine ⟨fun _ => HS.out, ?_⟩ | refine ⟨HS.out, ?_⟩
  refine LeftL.one 9 rfl (by kernel_rfl) ?_
  go_wp2_with fail
  refine (rows_any n B (closeK n a n) P.behind HBEH.out H6.out n [] (by simp) none 0 0 0 0 (.slice none 0 0) [] none W1 rfl HMAT.out (rwI_nil _ _ _ _ _) (rowsAt_nil _) (fun h => absurd h (by omega)) (fun x hx => by cases hx) (by have := pow_six H6.out; simpa using this)).mono ?_; rintro e W2 ⟨v, own, rfl, hrs, hf1, _⟩
  have hS1 := HS.out.call hf1 HS.out.size (by simp)
  rw [List.nil_append] at hrs
  clear hf1 HS HMAT
  have HS := Lib.hid hS1
  have HRS := Lib.hid hrs
  clear hrs hS1
  go_wp2_with fail
  first | refine ⟨fun _ => HS.out, ?_⟩ | refine ⟨HS.out, ?_⟩
  refine LeftL.one 10 rfl (by kernel_rfl) ?_
  go_wp2_with fail
  first | refine ⟨fun _ => HS.out, ?_⟩ | refine ⟨HS.out, ?_⟩
  refine LeftL.done (by kernel_rfl) ?_
  go_wp2_with fail
  go_ret
  exact ⟨⟨_, own, rfl, HRS.out⟩, HF.out.call HS.out HF.out.size (by simp)⟩
def RefEndsIs (R : Raw) (w' : World) (e : Ending) : Prop := match plannedO R with
  | none => e = .returned (.tuple #[.slice none 0 0, .int .i64 2])
  | some P => ∃ v own, e = .returned (.tuple #[v, .int .i64 0]) ∧ Sl w' 3 1 v (endsL P 16).length (intsC (endsL P 16)) own
set_option maxRecDepth 100000 in
set_option maxHeartbeats 16000000 in
theorem refEnds_any (q : RPos) (R : Raw) (w : World) (h6 : R.steps.length ≤ 6) (hr : RawAt w q R) :
    Calls Tryd.prog 43 #[.agg (rawC q R).toArray] w fun e w' => RefEndsIs R w' e ∧ Frm w.heap.size [] w w' := by
  have hf0 := Tryd.func43
  obtain ⟨i0, hi0, hz0, hz1, hz2⟩ := info_parts3 info3x
  have HR := Lib.hid hr
  have HI0 := Lib.hid hi0
  have HZ0 := Lib.hid hz0
  have HZ1 := Lib.hid hz1
  have HZ2 := Lib.hid hz2
  have H6 := Lib.hid h6
  clear h6 hz2 hz1 hz0 hi0 hr
  go_enter Tryd.func43, Tryd.ntmps43
  go_upto_region 1 with fail
  refine namedC ?_; intro W hW
  obtain ⟨c, hc⟩ : ∃ c, c = w.heap.size := ⟨_, rfl⟩
  have k0 : Blk W c 66 (rawC q R) := by rw [hW, hc]; exact Blk.new w 66 (rawC q R)
  have hf : Frm w.heap.size [] w W := by rw [hW]; repeat (first | with_reducible exact Frm.refl _ _ _ | with_reducible refine Frm.drewN ?_ | with_reducible refine Frm.drew ?_ | ((with_reducible refine Frm.setCell' ?_ ?_); · first | (left; simp; done) | (right; simp; done) | (right; simp; omega)) | ((with_reducible refine Frm.alloc' ?_ ?_); · first | exact Nat.le_refl _ | (simp; done) | (simp; omega)))
  clear hW hf0
  rw [← hc]
  clear hc
  have K0 := Lib.hid k0
  have HF := Lib.hid hf
  clear hf k0
  go_wp2_with (with_reducible refine atLoad 66 rfl ?_; refine wpList_loadE rfl rfl rfl (load_raw K0.out) ?_)
  refine (refCheck_any q R W (HR.out.frm HF.out (Nat.le_refl _))).mono ?_; rintro e w1 ⟨rfl, hf1⟩
  have k0 := hf1.blk K0.out K0.out.lt (by simp)
  have hf := HF.out.call hf1 HF.out.size (by simp)
  clear hf1 K0 HF
  cases hP : plannedO R with
  | none =>
    have hres : ∀ e : Ending, e = .returned (.tuple #[.slice none 0 0, .int .i64 2]) → RefEndsIs R w1 e := fun e he => by unfold RefEndsIs; rw [hP]; exact he
    clear k0 hP
    have HF := Lib.hid hf
    have HRES := Lib.hid hres
    clear hres hf
    go_wp2_with fail
    refine bodyPost_ret (v := .tuple #[.slice none 0 0, .int .i64 2]) (by simp [results, Tryd.results43, go_sem]) rfl ?_
    exact ⟨HRES.out _ rfl, HF.out⟩
  | some P =>
    have hP6 : P.n ≤ 6 := by rw [planned_len hP]; exact H6.out
    have hlo : ∀ V, Frm w1.heap.size [] w1 V → (loadVar 66 ⟨c, 0, none⟩).run Tryd.prog V = .ok (.agg (rawC q R).toArray) V := fun V hV => load_raw (hV.blk k0 k0.lt (by simp))
    have hres : ∀ (w' : World) (v : Value) (own : Option Nat), Sl w' 3 1 v (endsL P 16).length (intsC (endsL P 16)) own → RefEndsIs R w' (.returned (.tuple #[v, .int .i64 0])) := fun w' v own h => by
      unfold RefEndsIs; rw [hP]
      exact ⟨v, own, rfl, h⟩
    have hal : ∀ f, allH P (rowsR P.n P.behind P.n []) (-1) f = endsB P f := ends_all hP
    have HF := Lib.hid hf
    have HLO := Lib.hid hlo
    have HRES := Lib.hid hres
    have HP := Lib.hid hP
    have HP6 := Lib.hid hP6
    have HAL := Lib.hid hal
    clear hal hP6 hP hres hlo hf
    go_upto_region 3 with fail
    refine wp_region_leftL (fun V => Frm w1.heap.size [] w1 V) 1000 (by kernel_rfl) ?_
    have hS : Frm w1.heap.size [] w1 w1.drew := (Frm.refl _ _ w1).drew
    have HS := Lib.hid hS
    clear hS
    refine LeftL.take 0 rfl (by kernel_rfl) (fun _ _ d _ _ h => by cases d <;> exact h) (yields_loadE (ty := 66) rfl rfl rfl (HLO.out)) HS.out ?_; (intro K' hK'; go_simp; refine hK' _ ?_; clear hK' K')
    refine LeftL.take 1 rfl (by kernel_rfl) (fun _ _ d _ _ h => by cases d <;> exact h) (yields_loadE (ty := 66) rfl rfl rfl (HLO.out)) HS.out ?_; (intro K' hK'; go_simp; refine hK' _ ?_; clear hK' K')
    refine LeftL.one 2 rfl (by kernel_rfl) ?_
    go_wp2_with fail
    refine (refRows_any q R P HP.out HP6.out _ (HR.out.frm (HF.out.call HS.out HF.out.size (by simp)) (Nat.le_refl _))).mono ?_; rintro e V1 ⟨⟨v, own, rfl, hrs⟩, hf1⟩
    have hS1 := HS.out.call hf1 HS.out.size (by simp)
    clear hf1 HS
    have HS := Lib.hid hS1
    have HRS := Lib.hid hrs
    clear hrs hS1
    go_wp2_with fail
    first | refine ⟨fun _ => HS.out, ?_⟩ | refine ⟨HS.out, ?_⟩
    refine LeftL.one 3 rfl (by kernel_rfl) ?_
    go_wp2_with fail
    refine (refSurely_any q R P HP.out _ (rows_lt HP.out) v own (-1) V1 (HR.out.frm (HF.out.call HS.out HF.out.size (by simp)) (Nat.le_refl _)) HRS.out).mono ?_; rintro e V2 ⟨B, rfl, kB, hf1⟩
    have hS1 := HS.out.call hf1 HS.out.size (by simp)
    rw [boolsC_congr (fun f _ => HAL.out f)] at kB
    clear hf1 HS HRS
    have HS := Lib.hid hS1
    have KB := Lib.hid kB
    clear kB hS1
    go_wp2_with fail
    first | refine ⟨fun _ => HS.out, ?_⟩ | refine ⟨HS.out, ?_⟩
    refine LeftL.one 4 rfl (by kernel_rfl) ?_
    go_wp2_with fail
    first | refine ⟨fun _ => HS.out, ?_⟩ | refine ⟨HS.out, ?_⟩
    refine LeftL.done (by kernel_rfl) ?_
    have hf := HF.out.call HS.out HF.out.size (by simp)
    clear HF HS HLO
    have HF := Lib.hid hf
    clear hf
    go_wp2_with fail
    go_loopw [5, 6] (fun s5 s6 wr => ∃ (i : Nat) (own : Option Nat), s6 = .int .i64 i ∧ i ≤ 16 ∧ Sl wr 3 1 s5 (endsL P i).length (intsC (endsL P i)) own ∧ (∀ b, own = some b → V2.heap.size ≤ b) ∧ Frm V2.heap.size [] V2 wr) (fun _ s6 _ => 16 - (intOf s6).toNat)
    case atStart => exact ⟨0, none, rfl, by omega, Sl.nil _ _ _, (fun b hb => by cases hb), Frm.refl _ _ _⟩
    case round =>
      obtain ⟨i, own5, rfl, hi, hs5, ho5, hfr⟩ := hrel
      by_cases hin : i < 16
      rotate_left
      · have hin' : ¬ (i : Int) < 16 := by omega
        obtain rfl : i = 16 := by omega
        obtain ⟨ad5, cp5, rfl⟩ := hs5.form
        have hres := HRES.out _ _ _ hs5
        obtain ⟨l, hl⟩ : ∃ l, l = (endsL P 16).length := ⟨_, rfl⟩
        rw [← hl] at hres ⊢
        clear hs5 ho5 hl
        have HFR := Lib.hid hfr
        have HRS := Lib.hid hres
        clear hres hfr
        go_wp2_with fail
        refine bodyPost_ret (v := .tuple #[.slice ad5 l cp5, .int .i64 0]) (by simp [results, Tryd.results43, go_sem]) rfl ?_
        exact ⟨HRS.out, HF.out.call HFR.out HF.out.size (by simp)⟩
      have hin' : (i : Int) < 16 := by omega
      obtain ⟨y4, y5⟩ := wrapUp (n := 16) hin (by unfold maxLen; decide)
      have hms := meas_up hin
      have hnx := endsL_succ P i
      have hlen := endsL_len P i
      have kB := hfr.blk KB.out KB.out.lt (by simp)
      have c1 : wr.cell? ⟨B, i, none⟩ = some (.bool (endsB P i)) := by rw [kB.cell i]; exact boolsC_at hin
      obtain ⟨L, hL⟩ : ∃ L, L = (endsL P i).length := ⟨_, rfl⟩
      rw [← hL] at hs5 hlen
      obtain ⟨ad5, cp5, rfl⟩ := hs5.form
      cases hb : endsB P i
      · rw [hb] at c1 hnx
        rw [if_neg (by simp)] at hnx
        have hs6 : Sl wr 3 1 (.slice ad5 L cp5) (endsL P (i + 1)).length (intsC (endsL P (i + 1))) own5 := by rw [hnx, ← hL]; exact hs5
        clear hs5 kB hb
        have HS6 := Lib.hid hs6
        have HO5 := Lib.hid ho5
        have HFR := Lib.hid hfr
        have HMS := Lib.hid hms
        have HIN := Lib.hid hin
        have HNX := Lib.hid hnx
        have HL := Lib.hid hL
        clear hL hnx hin hms hfr ho5 hs6
        go_wp2_with fail
        (try simp only [y4, y5])
        exact ⟨⟨i + 1, own5, by simp, HIN.out, HS6.out, HO5.out, HFR.out⟩, HMS.out⟩
      · rw [hb] at c1 hnx
        rw [if_pos rfl] at hnx
        clear kB hb
        have HS5 := Lib.hid hs5
        have HO5 := Lib.hid ho5
        have HFR := Lib.hid hfr
        have HMS := Lib.hid hms
        have HIN := Lib.hid hin
        have HNX := Lib.hid hnx
        have HL := Lib.hid hL
        have HLEN := Lib.hid hlen
        clear hlen hL hnx hin hms hfr ho5 hs5
        go_wp2_with (at_builtin; refine hold ?_; intro qG hG)
        refine hG.1 ?_; clear hG qG
        refine wpList_append_sl _ rfl (.tmp 22) (.tmp 24) 26 rfl 3 i0 _ 1 8 Tryd.underlying26 HI0.out HZ0.out HZ1.out HZ2.out rfl _ L (intsC (endsL P i)) own5 rfl (HS5.out.alloc _) ⟨wr.heap.size, 0, none⟩ 1 1 [.int .i64 (i : Int)] rfl rfl (news_alloc _ [.int .i64 (i : Int)] _) (by simp [Value.oneCell']) (by have := HLEN.out; have := HIN.out; unfold maxLen; omega) (by have := HLEN.out; have := HIN.out; omega) ?_
        intro v8 w8 own8 hs8 hf8 ho8
        have hf9 : Frm V2.heap.size [] V2 w8 := (HFR.out.alloc HFR.out.size _).call hf8 (by have := HFR.out.size; simp; omega) (fun x hx hm => by have := HO5.out x (by simpa using hm); omega)
        have ho9 : ∀ b, own8 = some b → V2.heap.size ≤ b := fun b hb => by
          rcases ho8 with h | ⟨g, h, hg⟩
          · exact HO5.out b (by rw [← h]; exact hb)
          · rw [hb] at h; cases h; have := HFR.out.size; simp at hg; omega
        have hs9 : Sl w8 3 1 v8 (endsL P (i + 1)).length (intsC (endsL P (i + 1))) own8 := by rw [HNX.out, List.length_append, ← HL.out, intsC_snoc]; exact hs8
        clear hs8 hf8 ho8 HS5 HFR
        have HS9 := Lib.hid hs9
        have HF9 := Lib.hid hf9
        have HO9 := Lib.hid ho9
        clear ho9 hf9 hs9
        go_wp2_with fail
        (try simp only [y4, y5])
        exact ⟨⟨i + 1, own8, by simp, HIN.out, HS9.out, HO9.out, HF9.out⟩, HMS.out⟩
end Go.Proofs.YtfmigicmfolbjaaDoor
