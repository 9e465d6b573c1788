/-
  The document: has an incident a report to which another one is so; which incident gets one.
-/
import Derived.Test.YthgmdilfmeefiaaJ47
namespace Go.Proofs.Ythgmdilfmeefiaa
set_option linter.all false
set_option linter.unusedSimpArgs false
set_option linter.unusedVariables false
open Go.RowKit

set_option maxRecDepth 100000 in
set_option maxHeartbeats 8000000 in
theorem refAny_any {w : World} {s : BS} {m : RMem} (h : RefAt w s m) (i is : Int) (r : Rep) (ad : Option Addr) (b o cap : Nat) (hok : repB r = true) (hr : RwP w ad b o r.wh.length r.wh) :
    Calls Try.prog 71 #[.agg (refC s m).toArray, .int .i64 i, .agg (repC r ad cap).toArray, .int .i64 is] w fun e w' => e = .returned (.bool (hasI s i r is)) ∧ Frm w.heap.size [] w w' := by
  have hf0 := Try.func71
  have hof : ∀ V, Frm w.heap.size [] w V → Calls Try.prog 70 #[.agg (refC s m).toArray, .int .i64 i] V fun e w' => ∃ v, e = .returned v ∧ Ints V w' v (ofL s i) ∧ Frm V.heap.size [] V w' := fun V hV => refOf_any (h.still hV) i
  have hho : hasI s i r is = (ofL s i).any fun j => decide (cmpZ s.window s.drift (s.rp j) r = is) := has_of i r is
  have hmem : ∀ y ∈ ofL s i, y < s.reps.length := fun y hy => (of_mem.1 hy).1
  have hlen5 : (ofL s i).length ≤ 500 := by
    unfold ofL
    have h1 := List.length_filter_le (fun j => decide ((s.o j : Int) = i)) (List.range s.reps.length)
    have h2 := h.inv.max.1
    simp only [List.length_range] at h1
    omega
  obtain ⟨L, hL⟩ : ∃ L, L = ofL s i := ⟨_, rfl⟩
  simp only [← hL] at hof
  rw [← hL] at hho hmem hlen5
  obtain ⟨n, hn⟩ : ∃ n, n = s.reps.length := ⟨_, rfl⟩
  have hnm : n ≤ 500 := by rw [hn]; exact h.inv.max.1
  rw [← hn] at hmem
  obtain ⟨rn, hrn⟩ : ∃ f : Nat → List Value, f = fun y => repC (s.rp y) (m.wa y) (m.wc y) := ⟨_, rfl⟩
  obtain ⟨R, hR⟩ : ∃ c, c = repC r ad cap := ⟨_, rfl⟩
  have hz7 : R.length = 7 := by rw [hR]; rfl
  have hl24 : ∀ V, Frm w.heap.size [] w V → ∀ y, y < n → (loadVar 24 ⟨m.rb, m.ro + y * 7, none⟩).run Try.prog V = .ok (.agg (rn y).toArray) V := fun V hV y hy => by
    rw [hrn]; exact (h.reps.frm hV (Nat.le_refl _)).load (P := Try.prog) Try.underlying24 rfl (by omega) info24
  have hcm : ∀ V, Frm w.heap.size [] w V → ∀ y, y < n → Calls Try.prog 33 #[.agg (rn y).toArray, .agg R.toArray, .int .i64 s.window, .int .i64 s.drift] V fun e w' => e = .returned (.int .i64 (cmpZ s.window s.drift (s.rp y) r)) ∧ Frm V.heap.size [] V w' := fun V hV y hy => by
    have hy' : y < s.reps.length := by omega
    have x1 := rep_ok (h.inv.rok hy')
    have x2 := rep_ok hok
    rw [hrn, hR]
    exact refCmp_any s.window s.drift (s.rp y) r (m.wa y) ad (m.wc y) cap V (rules_ok h.inv.rules) x1.1 x2.1 x1.2.1 x2.2.1 x1.2.2 x2.2.2 (m.wb y) (m.wo y) b o ((h.wh y hy').frm hV (Nat.le_refl _)) (hr.frm hV (Nat.le_refl _))
  have had : 0 < n → m.ra = some ⟨m.rb, m.ro, none⟩ := fun h0 => h.reps.ad (by omega)
  obtain ⟨C, hC⟩ : ∃ C, C = refC s m := ⟨_, rfl⟩
  have hz6 : C.length = 6 := by rw [hC]; rfl
  have hc0 : C[0]? = some (.int .i64 s.window) := by rw [hC]; rfl
  have hc1 : C[1]? = some (.int .i64 s.drift) := by rw [hC]; rfl
  have hc2 : C[2]? = some (.slice m.ra n m.rc) := by rw [hC, hn]; rfl
  obtain ⟨ra, hra⟩ : ∃ c, c = m.ra := ⟨_, rfl⟩
  obtain ⟨rc, hrc⟩ : ∃ c, c = m.rc := ⟨_, rfl⟩
  obtain ⟨wd, hwd⟩ : ∃ c, c = s.window := ⟨_, rfl⟩
  obtain ⟨dr, hdr⟩ : ∃ c, c = s.drift := ⟨_, rfl⟩
  rw [← hra, ← hrc] at hc2
  rw [← hra] at had
  rw [← hwd] at hc0 hho
  rw [← hdr] at hc1 hho
  simp only [← hwd, ← hdr] at hcm
  obtain ⟨cf, hcf⟩ : ∃ f : Nat → Int, f = fun y => cmpZ wd dr (s.rp y) r := ⟨_, rfl⟩
  have hcm2 : ∀ V, Frm w.heap.size [] w V → ∀ y, y < n → Calls Try.prog 33 #[.agg (rn y).toArray, .agg R.toArray, .int .i64 wd, .int .i64 dr] V fun e w' => e = .returned (.int .i64 (cf y)) ∧ Frm V.heap.size [] V w' := fun V hV y hy => by rw [hcf]; exact hcm V hV y hy
  have hho2 : hasI s i r is = L.any fun y => decide (cf y = is) := by rw [hho, hcf]
  obtain ⟨res, hres⟩ : ∃ c, c = hasI s i r is := ⟨_, rfl⟩
  rw [← hres] at hho2 ⊢
  simp only [← hC] at hof
  rw [← hC, ← hR]
  clear hho hcm hcf hres hL hn hrn hR hC hra hrc hwd hdr h hok hr
  have HOF := Lib.hid hof
  have HHO := Lib.hid hho2
  have HMEM := Lib.hid hmem
  have HL5 := Lib.hid hlen5
  have HNM := Lib.hid hnm
  have HZ7 := Lib.hid hz7
  have HL24 := Lib.hid hl24
  have HCM := Lib.hid hcm2
  have HAD := Lib.hid had
  have HZ6 := Lib.hid hz6
  have HC0 := Lib.hid hc0
  have HC1 := Lib.hid hc1
  have HC2 := Lib.hid hc2
  clear hc2 hc1 hc0 hz6 had hcm2 hl24 hz7 hnm hlen5 hmem hho2 hof
  go_enter Try.func71, Try.ntmps71
  go_upto_region 1 with fail
  refine namedC ?_; intro W hW
  have k0 : Blk W w.heap.size 55 C := by rw [hW]; refine Blk.alloc' ?_; exact Blk.new w 55 C
  have k1 : Blk W (w.heap.size + 1) 24 R := by rw [hW]; exact Blk.new' _ 24 R (by simp)
  have hf : Frm w.heap.size [] w W := by rw [hW]; repeat (first | with_reducible exact Frm.refl _ _ _ | with_reducible refine Frm.drewN ?_ | with_reducible refine Frm.drew ?_ | ((with_reducible refine Frm.setCell' ?_ ?_); · first | (left; simp; done) | (right; simp; done) | (right; simp; omega)) | ((with_reducible refine Frm.alloc' ?_ ?_); · first | exact Nat.le_refl _ | (simp; done) | (simp; omega)))
  clear hW hf0
  have HF := Lib.hid hf
  have K0 := Lib.hid k0
  have K1 := Lib.hid k1
  clear k1 k0 hf
  go_wp2_with (with_reducible refine atLoad 55 rfl ?_; refine wpList_loadE rfl rfl rfl (load55 K0.out HZ6.out) ?_)
  refine (HOF.out W HF.out).mono ?_; rintro e w1 ⟨v, rfl, hin, hf1⟩
  have hf := HF.out.call hf1 HF.out.size (by simp)
  have k0 := hf1.blk K0.out K0.out.lt (by simp)
  have k1 := hf1.blk K1.out K1.out.lt (by simp)
  obtain ⟨la, lc, rfl⟩ := hin.form
  obtain ⟨M, hM⟩ : ∃ c, c = L.length := ⟨_, rfl⟩
  have hml : M ≤ 500 := by rw [hM]; exact HL5.out
  rw [← hM]
  have hc0 : ∀ V, Frm w1.heap.size [] w1 V → V.cell? ⟨w.heap.size, 0, none⟩ = some (.int .i64 wd) ∧ V.cell? ⟨w.heap.size, 1, none⟩ = some (.int .i64 dr) ∧ V.cell? ⟨w.heap.size, 2, none⟩ = some (.slice ra n rc) := fun V hV => by
    have kk := hV.blk k0 k0.lt (by simp)
    exact ⟨(kk.cell 0).trans HC0.out, (kk.cell 1).trans HC1.out, (kk.cell 2).trans HC2.out⟩
  have hl1 : ∀ V, Frm w1.heap.size [] w1 V → (loadVar 24 ⟨w.heap.size + 1, 0, none⟩).run Try.prog V = .ok (.agg R.toArray) V := fun V hV => load24 (hV.blk k1 k1.lt (by simp)) HZ7.out
  have hend : ∀ V, Frm w1.heap.size [] w1 V → Frm w.heap.size [] w V := fun V hV => hf.call hV hf.size (by simp)
  clear hf1 HF K0 K1 k0 k1 hf HC0 HC1 HC2 HOF
  have HIN := Lib.hid hin
  have HM := Lib.hid hM
  have HML := Lib.hid hml
  have HC := Lib.hid hc0
  have HL1 := Lib.hid hl1
  have HEND := Lib.hid hend
  clear hend hl1 hc0 hml hM hin
  go_wp2_with fail
  go_loopw [10] (fun s10 wr => ∃ j : Nat, s10 = .int .i64 j ∧ j ≤ M ∧ anyK (fun y => decide (cf y = is)) L j = false ∧ Frm w1.heap.size [] w1 wr) (fun s10 _ => M - (intOf s10).toNat)
  case atStart => exact ⟨0, rfl, Nat.zero_le _, rfl, Frm.refl _ _ _⟩
  case round =>
    obtain ⟨j, rfl, hj, hk, hf⟩ := hrel
    by_cases hjl : j < M
    rotate_left
    · have hjl' : ¬ (j : Int) < (M : Int) := by omega
      obtain rfl : j = M := by omega
      have hres : res = false := by rw [HHO.out, ← anyK_all, ← HM.out]; exact hk
      have HF := Lib.hid hf
      have HRES := Lib.hid hres
      clear hres hf
      go_wp2_with fail
      go_ret
      exact ⟨by rw [HRES.out]; rfl, HEND.out _ HF.out⟩
    have hjl' : (j : Int) < (M : Int) := by omega
    obtain ⟨y4, y5⟩ := wrapUp hjl (Nat.le_trans HML.out (by decide))
    have hms := meas_up hjl
    have hin := HIN.out.call hf
    obtain ⟨own, hsl, _⟩ := hin
    obtain ⟨ad1, b1, o1, cc1, e3, hr1⟩ := ints_at0 hsl
    cases e3
    have hjL : j < L.length := by rw [← HM.out]; exact hjl
    have had1 := hr1.ad (Nat.lt_of_le_of_lt (Nat.zero_le _) hjL)
    subst had1
    have hjm : L.getD j 0 ∈ L := by
      rw [List.getD_eq_getElem?_getD, List.getElem?_eq_getElem hjL]
      exact List.getElem_mem _
    have cw : wr.cell? ⟨b1, o1 + j, none⟩ = some (.int .i64 ((L.getD j 0 : Nat) : Int)) := hr1.cellI hjL
    have hks := anyK_succ (fun y => decide (cf y = is)) L hjL
    rw [hk] at hks
    obtain ⟨y, hy⟩ : ∃ y, y = L.getD j 0 := ⟨_, rfl⟩
    rw [← hy] at hjm cw hks
    have hyn := HMEM.out y hjm
    have hyn' : (y : Int) < (n : Int) := Int.ofNat_lt.2 hyn
    have had := HAD.out (Nat.lt_of_le_of_lt (Nat.zero_le _) hyn)
    subst had
    have hfx : ∀ V, Frm wr.heap.size [] wr V → V.cell? ⟨w.heap.size, 0, none⟩ = some (.int .i64 wd) ∧ V.cell? ⟨w.heap.size, 1, none⟩ = some (.int .i64 dr) ∧ V.cell? ⟨w.heap.size, 2, none⟩ = some (.slice (some ⟨m.rb, m.ro, none⟩) n rc) ∧ V.cell? ⟨b1, o1 + j, none⟩ = some (.int .i64 (y : Int)) := fun V hV => by
      obtain ⟨g1, g2, g3⟩ := HC.out V (hf.call hV hf.size (by simp))
      exact ⟨g1, g2, g3, (hV.cell (cell_lt cw) (by simp)).trans cw⟩
    have hla : ∀ V, Frm wr.heap.size [] wr V → (loadVar 24 ⟨m.rb, m.ro + y * 7, none⟩).run Try.prog V = .ok (.agg (rn y).toArray) V := fun V hV => HL24.out V (HEND.out V (hf.call hV hf.size (by simp))) y hyn
    have hlb : ∀ V, Frm wr.heap.size [] wr V → (loadVar 24 ⟨w.heap.size + 1, 0, none⟩).run Try.prog V = .ok (.agg R.toArray) V := fun V hV => HL1.out V (hf.call hV hf.size (by simp))
    have hca : ∀ V, Frm wr.heap.size [] wr V → Calls Try.prog 33 #[.agg (rn y).toArray, .agg R.toArray, .int .i64 wd, .int .i64 dr] V fun e w' => e = .returned (.int .i64 (cf y)) ∧ Frm V.heap.size [] V w' := fun V hV => HCM.out V (HEND.out V (hf.call hV hf.size (by simp))) y hyn
    obtain ⟨c, hc⟩ : ∃ c, c = cf y := ⟨_, rfl⟩
    simp only [← hc] at hca hks
    have hyes : c = is → res = true := fun e => by
      rw [HHO.out, List.any_eq_true]
      exact ⟨y, hjm, by rw [← hc, e]; simp⟩
    clear hsl hr1 hy hjm cw hc hk
    have HF := Lib.hid hf
    have HMS := Lib.hid hms
    have HJL := Lib.hid hjl
    have HKS := Lib.hid hks
    have HFX := Lib.hid hfx
    have HLA := Lib.hid hla
    have HLB := Lib.hid hlb
    have HCA := Lib.hid hca
    have HYES := Lib.hid hyes
    clear hyes hca hlb hla hfx hks hjl hms hf
    go_upto_region 5 with fail
    refine wp_region_leftL (fun V => Frm wr.heap.size [] wr V) 1000 (by kernel_rfl) ?_
    have hS : Frm wr.heap.size [] wr wr.drew := (Frm.refl _ _ wr).drew
    have HS := Lib.hid hS
    clear hS
    first | (refine LeftL.tkG (v := ?_) 0 rfl HS.out ?_ ?_; rotate_left; · intro V hV; obtain ⟨z1, z2, z3, z4⟩ := HFX.out V hV; clear hV; go_simp; rfl) | refine LeftL.tkN 0 rfl HS.out ?_
    (intro K h; go_simp; refine h _ ?_; clear h K)
    first | (refine LeftL.tkG (v := ?_) 1 rfl HS.out ?_ ?_; rotate_left; · intro V hV; obtain ⟨z1, z2, z3, z4⟩ := HFX.out V hV; clear hV; go_simp; rfl) | refine LeftL.tkN 1 rfl HS.out ?_
    (intro K h; go_simp; refine h _ ?_; clear h K)
    first | (refine LeftL.tkG (v := ?_) 2 rfl HS.out ?_ ?_; rotate_left; · intro V hV; obtain ⟨z1, z2, z3, z4⟩ := HFX.out V hV; clear hV; go_simp; rfl) | refine LeftL.tkN 2 rfl HS.out ?_
    (intro K h; go_simp; refine h _ ?_; clear h K)
    first | (refine LeftL.tkG (v := ?_) 3 rfl HS.out ?_ ?_; rotate_left; · intro V hV; obtain ⟨z1, z2, z3, z4⟩ := HFX.out V hV; clear hV; go_simp; rfl) | refine LeftL.tkN 3 rfl HS.out ?_
    (intro K h; go_simp; refine h _ ?_; clear h K)
    first | (refine LeftL.tkG (v := ?_) 4 rfl HS.out ?_ ?_; rotate_left; · intro V hV; obtain ⟨z1, z2, z3, z4⟩ := HFX.out V hV; clear hV; go_simp; rfl) | refine LeftL.tkN 4 rfl HS.out ?_
    (intro K h; go_simp; refine h _ ?_; clear h K)
    first | (refine LeftL.tkG (v := ?_) 5 rfl HS.out ?_ ?_; rotate_left; · intro V hV; obtain ⟨z1, z2, z3, z4⟩ := HFX.out V hV; clear hV; go_simp; rfl) | refine LeftL.tkN 5 rfl HS.out ?_
    (intro K h; go_simp; refine h _ ?_; clear h K)
    first | (refine LeftL.tkG (v := ?_) 6 rfl HS.out ?_ ?_; rotate_left; · intro V hV; obtain ⟨z1, z2, z3, z4⟩ := HFX.out V hV; clear hV; go_simp; rfl) | refine LeftL.tkN 6 rfl HS.out ?_
    (intro K h; go_simp; refine h _ ?_; clear h K)
    refine LeftL.take 7 rfl (by kernel_rfl) (fun _ _ d _ _ h => by cases d <;> exact h) (yields_loadE (ty := 24) rfl rfl rfl (HLA.out)) HS.out ?_; (intro K' hK'; go_simp; refine hK' _ ?_; clear hK' K')
    refine LeftL.take 8 rfl (by kernel_rfl) (fun _ _ d _ _ h => by cases d <;> exact h) (yields_loadE (ty := 24) rfl rfl rfl (HLB.out)) HS.out ?_; (intro K' hK'; go_simp; refine hK' _ ?_; clear hK' K')
    first | (refine LeftL.tkG (v := ?_) 9 rfl HS.out ?_ ?_; rotate_left; · intro V hV; obtain ⟨z1, z2, z3, z4⟩ := HFX.out V hV; clear hV; go_simp; rfl) | refine LeftL.tkN 9 rfl HS.out ?_
    (intro K h; go_simp; refine h _ ?_; clear h K)
    first | (refine LeftL.tkG (v := ?_) 10 rfl HS.out ?_ ?_; rotate_left; · intro V hV; obtain ⟨z1, z2, z3, z4⟩ := HFX.out V hV; clear hV; go_simp; rfl) | refine LeftL.tkN 10 rfl HS.out ?_
    (intro K h; go_simp; refine h _ ?_; clear h K)
    first | (refine LeftL.tkG (v := ?_) 11 rfl HS.out ?_ ?_; rotate_left; · intro V hV; obtain ⟨z1, z2, z3, z4⟩ := HFX.out V hV; clear hV; go_simp; rfl) | refine LeftL.tkN 11 rfl HS.out ?_
    (intro K h; go_simp; refine h _ ?_; clear h K)
    first | (refine LeftL.tkG (v := ?_) 12 rfl HS.out ?_ ?_; rotate_left; · intro V hV; obtain ⟨z1, z2, z3, z4⟩ := HFX.out V hV; clear hV; go_simp; rfl) | refine LeftL.tkN 12 rfl HS.out ?_
    (intro K h; go_simp; refine h _ ?_; clear h K)
    first | (refine LeftL.tkG (v := ?_) 14 rfl HS.out ?_ ?_; rotate_left; · intro V hV; obtain ⟨z1, z2, z3, z4⟩ := HFX.out V hV; clear hV; go_simp; rfl) | refine LeftL.tkN 14 rfl HS.out ?_
    (intro K h; go_simp; refine h _ ?_; clear h K)
    refine LeftL.one 13 rfl (by kernel_rfl) ?_
    go_wp2_with fail
    refine (HCA.out _ HS.out).mono ?_; rintro e w1 ⟨rfl, hf1⟩
    have hS1 := HS.out.call hf1 HS.out.size (by simp)
    clear hf1 HS
    have HS := Lib.hid hS1
    clear hS1
    go_wp2_with fail
    first | refine ⟨fun _ => HS.out, ?_⟩ | refine ⟨HS.out, ?_⟩
    refine LeftL.one 15 rfl (by kernel_rfl) ?_
    go_wp2_with fail
    first | refine ⟨fun _ => HS.out, ?_⟩ | refine ⟨HS.out, ?_⟩
    refine LeftL.done (by kernel_rfl) ?_
    have hf := HF.out.call HS.out HF.out.size (by simp)
    clear HF HS HFX HLA HLB HCA
    have HF := Lib.hid hf
    clear hf
    by_cases e : c = is
    · have hres := HYES.out e
      subst e
      have HRES := Lib.hid hres
      clear hres
      go_wp2_with fail
      go_ret
      exact ⟨by rw [HRES.out]; rfl, HEND.out _ HF.out⟩
    have e1 : (c == is) = false := by simp [e]
    go_wp2_with fail
    exact ⟨⟨j + 1, by simp [y4, y5], HJL.out, by rw [HKS.out]; simp [e], HF.out⟩, by have := HMS.out; simpa [intOf, y4, y5] using this⟩
end Go.Proofs.Ythgmdilfmeefiaa
