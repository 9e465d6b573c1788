/-
  Texts T6, A1, A2, FL, P1 of this claim, one behind the other.
-/
import Derived.Test.YtfmigicmfolbjaaDoorB19
import Derived.LaidMore
import Derived.Stop.Joined
import Derived.ProofKit
import Derived.OpenShut
import Derived.ShutString
import Derived.ChangeOld
import Derived.Below
import Derived.Carry
import Derived.Lib.SmallJoins
import Derived.Deep.Slices
namespace Go.Proofs.YtfmigicmfolbjaaDoor
set_option linter.all false
set_option linter.unusedSimpArgs false
set_option linter.unusedVariables false
open Go.RowKit

def goodB (h : Hu) (n : Nat) (L : Nat → Ta) (m : Int) (e : Nat) : Bool := decide (m ≤ stabZ h (butL L e n))
def optOf (o : Bool) (A : List Nat) : Option (List Nat) := if o = true then some A else none
def DrainIsR (h : Hu) (n : Nat) (L : Nat → Ta) (m : Int) (w w' : World) (e : Ending) : Prop :=
  (shipE h n L ≠ 0 ∧ e = .returned (.tuple #[.slice none 0 0, .int .i64 (shipE h n L)])) ∨
  (shipE h n L = 0 ∧ inB m (-10000) 10000 = false ∧ e = .returned (.tuple #[.slice none 0 0, .int .i64 4])) ∨
  (shipE h n L = 0 ∧ inB m (-10000) 10000 = true ∧ drainF n (goodB h n L m) (2 ^ n) = none ∧ e = .returned (.tuple #[.slice none 0 0, .int .i64 7])) ∨
  (shipE h n L = 0 ∧ inB m (-10000) 10000 = true ∧ ∃ A, drainF n (goodB h n L m) (2 ^ n) = some A ∧ ∃ v own, e = .returned (.tuple #[v, .int .i64 0]) ∧ Sl w' 3 1 v A.length (intsC A) own ∧ ∀ b, own = some b → w.heap.size ≤ b)
set_option maxRecDepth 100000 in
set_option maxHeartbeats 16000000 in
theorem drain_any (h : Hu) (ad : Option Addr) (b off n cap : Nat) (L : Nat → Ta) (m : Int) (w : World) (hr : Rw w 4 ad b off n fun i => (L i).cells) (hg : Glob w) :
    Calls Tryd.prog 23 #[.agg h.cells.toArray, .slice ad n cap, .int .i64 m] w fun e w' => DrainIsR h n L m w w' e ∧ Frm w.heap.size [] w w' := by
  have hf0 := Tryd.func23
  have hcl : Enters 88 := enters Tryd.func88 (by kernel_rfl) (by kernel_rfl)
  have HR := Lib.hid hr
  have HCL := Lib.hid hcl
  have HG := Lib.hid hg
  clear hg hcl hr
  go_enter Tryd.func23, Tryd.ntmps23
  go_upto_region 1 with fail
  refine namedC ?_; intro W hW
  have hb : Blk W w.heap.size 41 h.cells := by rw [hW]; repeat (first | exact Blk.new w 41 h.cells | refine Blk.alloc' ?_)
  have hf : Frm w.heap.size [] w W := by rw [hW]; repeat (first | with_reducible exact Frm.refl _ _ _ | with_reducible refine Frm.drewN ?_ | with_reducible refine Frm.drew ?_ | ((with_reducible refine Frm.setCell' ?_ ?_); · first | (left; simp; done) | (right; simp; done) | (right; simp; omega)) | ((with_reducible refine Frm.alloc' ?_ ?_); · first | exact Nat.le_refl _ | (simp; done) | (simp; omega)))
  clear hW hf0
  obtain ⟨c, hc⟩ : ∃ c, c = w.heap.size := ⟨_, rfl⟩
  rw [← hc] at hb ⊢
  have HB := Lib.hid hb
  have HF := Lib.hid hf
  have HC := Lib.hid hc
  clear hc hf hb
  go_wp2_with (with_reducible refine atLoad 41 rfl ?_; refine wpList_loadE rfl rfl rfl (load_hu HB.out) ?_)
  refine (ship_any h ad b off n cap L W (HR.out.frm HF.out (Nat.le_refl _))).mono ?_; rintro e w1 ⟨rfl, hf1⟩
  have hb := hf1.blk HB.out HB.out.lt (by simp)
  have hf := HF.out.call hf1 HF.out.size (by simp)
  clear hf1 HB HF
  obtain ⟨E, hE⟩ : ∃ E, E = shipE h n L := ⟨_, rfl⟩
  rw [← hE]
  by_cases hz : E = 0
  rotate_left
  · have hzb : (E != 0) = true := by simp [hz]
    have HE := Lib.hid hE
    have HZ := Lib.hid hz
    have HF := Lib.hid hf
    clear hf hz hE
    go_wp2_with fail
    refine bodyPost_ret (v := .tuple #[.slice none 0 0, .int .i64 E]) (by simp [results, Tryd.results23, go_sem]) rfl ?_
    exact ⟨.inl ⟨by rw [← HE.out]; exact HZ.out, by rw [← HE.out]⟩, HF.out⟩
  subst hz
  obtain ⟨hh, hta, hn6⟩ := ship_ok hE.symm
  have HE := Lib.hid hE
  have HF := Lib.hid hf
  have HH := Lib.hid hh
  have HTA := Lib.hid hta
  have HN6 := Lib.hid hn6
  have HB := Lib.hid hb
  clear hb hn6 hta hh hf hE
  go_wp2_with fail
  refine (within_any _ _ _ _).mono ?_; rintro e w' ⟨rfl, rfl⟩
  cases hin : inB m (-10000) 10000
  · have HIN := Lib.hid hin
    clear hin
    go_wp2_with fail
    refine bodyPost_ret (v := .tuple #[.slice none 0 0, .int .i64 4]) (by simp [results, Tryd.results23, go_sem]) rfl ?_
    exact ⟨.inr (.inl ⟨HE.out.symm, HIN.out, rfl⟩), HF.out⟩
  have hlu : ∀ X, Frm w1.heap.size [] w1 X → (loadVar 41 ⟨c, 0, none⟩).run Tryd.prog X = .ok (.agg h.cells.toArray) X := fun X hX => load_hu (hX.blk HB.out HB.out.lt (by simp))
  have hgl : Glob w1 := HG.out.frm HF.out (Nat.le_refl _)
  have hrw := HR.out.frm HF.out (Nat.le_refl _)
  obtain ⟨M, hM⟩ : ∃ M, M = 2 ^ n := ⟨_, rfl⟩
  have hM64 : M ≤ 64 := by rw [hM]; exact Nat.pow_le_pow_right (n := 2) (i := n) (j := 6) (by omega) HN6.out
  have hlen := HR.out.len
  have hsh : IntKind.u64.wrap (2 ^ min n 64) = (M : Int) := by
    have h6 := HN6.out
    rw [show min n 64 = n by omega, show ((2 : Int) ^ n) = ((2 ^ n : Nat) : Int) by simp, ← hM]
    exact u64_nat (by omega)
  have HIN := Lib.hid hin
  have HLU := Lib.hid hlu
  have HGL := Lib.hid hgl
  have HRW := Lib.hid hrw
  have HM := Lib.hid hM
  have HM64 := Lib.hid hM64
  clear hM64 hM hrw hgl hlu hin
  go_wp2_with fail
  go_loopw [9, 10, 25] (fun s9 s10 s25 wr => ∃ e : Nat, s25 = .int .u64 e ∧ e ≤ M ∧ ∃ o : Bool, s10 = .bool o ∧ ∃ A : List Nat, drainF n (goodB h n L m) e = optOf o A ∧ (∃ own, Sl wr 3 1 s9 A.length (intsC A) own ∧ ∀ b, own = some b → w1.heap.size ≤ b) ∧ Frm w1.heap.size [] w1 wr) (fun _ _ s25 _ => M - (intOf s25).toNat)
  case atStart => exact ⟨0, rfl, Nat.zero_le _, false, rfl, [], rfl, ⟨none, Sl.nil _ 3 1, fun b hb => by cases hb⟩, by repeat (first | with_reducible exact Frm.refl _ _ _ | with_reducible refine Frm.drewN ?_ | with_reducible refine Frm.drew ?_ | ((with_reducible refine Frm.setCell' ?_ ?_); · first | (left; simp; done) | (right; simp; done) | (right; simp; omega)) | ((with_reducible refine Frm.alloc' ?_ ?_); · first | exact Nat.le_refl _ | (simp; done) | (simp; omega)))⟩
  case round =>
    obtain ⟨e, rfl, heM, o, rfl, A, hD, ⟨own, hsl, hown⟩, hfr⟩ := hrel
    obtain ⟨ad0, cp0, rfl⟩ := hsl.form
    obtain ⟨la, hla⟩ : ∃ k, k = A.length := ⟨_, rfl⟩
    rw [← hla] at hsl ⊢
    by_cases hel : e < M
    · have hel' : (e : Int) < (M : Int) := by omega
      have hM64 := HM64.out
      have u1 : IntKind.u64.wrap ((e : Int) + 1) = (e : Int) + 1 := by
        rw [show ((e : Int) + 1) = ((e + 1 : Nat) : Int) by omega]
        exact u64_nat (by omega)
      have hms : M - ((e : Int) + 1).toNat < M - ((e : Int)).toNat := by omega
      have hlw : ∀ X, Frm wr.heap.size [] wr X → (loadVar 41 ⟨c, 0, none⟩).run Tryd.prog X = .ok (.agg h.cells.toArray) X := fun X hX => HLU.out X (hfr.call hX hfr.size (by simp))
      have hfx : ∀ X, Frm wr.heap.size [] wr X → True ∧ True := fun _ _ => ⟨trivial, trivial⟩
      have he64 : e < 18446744073709551616 := by omega
      clear hM64
      have HD := Lib.hid hD
      have HSL := Lib.hid hsl
      have HOWN := Lib.hid hown
      have HFR := Lib.hid hfr
      have HEM := Lib.hid heM
      have HLA := Lib.hid hla
      have HEL := Lib.hid hel
      have HMS := Lib.hid hms
      have HLW := Lib.hid hlw
      have HFX := Lib.hid hfx
      have HE64 := Lib.hid he64
      clear he64 hfx hlw hms hel hla heM hfr hown hsl hD
      go_upto_region 11 with fail
      refine wp_region_leftL (fun V => Frm wr.heap.size [] wr V) 1000 (by kernel_rfl) ?_
      have hS : Frm wr.heap.size [] wr wr.drew := (Frm.refl _ _ wr).drew
      have HS := Lib.hid hS
      clear hS
      refine LeftL.take 0 rfl (by kernel_rfl) (fun _ _ d _ _ h => by cases d <;> exact h) (yields_loadE (ty := 41) rfl rfl rfl (HLW.out)) HS.out ?_; (intro K' hK'; go_simp; refine hK' _ ?_; clear hK' K')
      first | ((first | refine LeftL.tkF (v := ?_) 1 rfl HS.out ?_ ?_ | refine LeftL.tkG (v := ?_) 1 rfl HS.out ?_ ?_); rotate_left; (· intro V hV; obtain ⟨q0, q1⟩ := HFX.out V hV; clear hV; go_simp; rfl)) | refine LeftL.tkN 1 rfl HS.out ?_
      (intro K' hK'; go_simp; refine hK' _ ?_; clear hK' K')
      first | ((first | refine LeftL.tkF (v := ?_) 2 rfl HS.out ?_ ?_ | refine LeftL.tkG (v := ?_) 2 rfl HS.out ?_ ?_); rotate_left; (· intro V hV; obtain ⟨q0, q1⟩ := HFX.out V hV; clear hV; go_simp; rfl)) | refine LeftL.tkN 2 rfl HS.out ?_
      (intro K' hK'; go_simp; refine hK' _ ?_; clear hK' K')
      first | ((first | refine LeftL.tkF (v := ?_) 5 rfl HS.out ?_ ?_ | refine LeftL.tkG (v := ?_) 5 rfl HS.out ?_ ?_); rotate_left; (· intro V hV; obtain ⟨q0, q1⟩ := HFX.out V hV; clear hV; go_simp; rfl)) | refine LeftL.tkN 5 rfl HS.out ?_
      (intro K' hK'; go_simp; refine hK' _ ?_; clear hK' K')
      refine LeftL.one 3 rfl (by kernel_rfl) ?_
      go_wp2_with fail
      obtain ⟨X1, hX1⟩ : ∃ X, X = wr.drew := ⟨_, rfl⟩
      rw [← hX1] at HS ⊢
      refine (but_any ad n cap e X1).mono ?_; rintro x w2 ⟨rfl, ⟨hsb, heb⟩, hf1⟩
      have hS1 := HS.out.call hf1 HS.out.size (by simp)
      have hrw := HRW.out.frm (HFR.out.call hS1 HFR.out.size (by simp)) (Nat.le_refl _)
      have hn6 := HN6.out
      have hit : IterOf 88 #[.pointer (some ⟨X1.heap.size, 0, none⟩), .pointer (some ⟨X1.heap.size + 1, 0, none⟩)] (butL L e n) w2 := iter_but X1.heap.size (X1.heap.size + 1) ad b off n cap L e HE64.out (by omega) w2 hsb heb hrw
      have hst := stab_any h HH.out 88 HCL.out #[.pointer (some ⟨X1.heap.size, 0, none⟩), .pointer (some ⟨X1.heap.size + 1, 0, none⟩)] (butL L e n) (fun t ht => by
        unfold butL at ht
        obtain ⟨i, hi, rfl⟩ := List.mem_map.1 ht
        exact HTA.out i (by have := (List.mem_filter.1 hi).1; simpa using this)) (Nat.le_trans (butL_len L e n) hn6) w2 hit
      clear hf1 hsb heb HS hrw hit hX1 hn6
      have HS := Lib.hid hS1
      have HST := Lib.hid hst
      clear hst hS1
      go_wp2_with fail
      first | refine ⟨fun _ => HS.out, ?_⟩ | refine ⟨HS.out, ?_⟩
      refine LeftL.one 4 rfl (by kernel_rfl) ?_
      go_wp2_with fail
      refine HST.out.mono ?_; rintro x w3 ⟨rfl, hf1⟩
      have hS1 := HS.out.call hf1 HS.out.size (by simp)
      obtain ⟨z, hz⟩ : ∃ z, z = stabZ h (butL L e n) := ⟨_, rfl⟩
      rw [← hz]
      clear hf1 HS HST
      have HS := Lib.hid hS1
      have HZ := Lib.hid hz
      clear hz hS1
      go_wp2_with fail
      first | refine ⟨fun _ => HS.out, ?_⟩ | refine ⟨HS.out, ?_⟩
      first | ((first | refine LeftL.tkF (v := ?_) 6 rfl HS.out ?_ ?_ | refine LeftL.tkG (v := ?_) 6 rfl HS.out ?_ ?_); rotate_left; (· intro V hV; obtain ⟨q0, q1⟩ := HFX.out V hV; clear hV; go_simp; rfl)) | refine LeftL.tkN 6 rfl HS.out ?_
      (intro K' hK'; go_simp; refine hK' _ ?_; clear hK' K')
      refine LeftL.done (by kernel_rfl) ?_
      have hfr3 := HFR.out.call HS.out HFR.out.size (by simp)
      have hsl3 := HSL.out.beside (o2 := none) (B := wr.heap.size) HS.out (Nat.le_refl _) (fun b _ hh => by cases hh)
      have hsuc := drainF_succ n (goodB h n L m) e
      rw [HD.out] at hsuc
      have hgd : goodB h n L m e = decide (m ≤ z) := by unfold goodB; rw [HZ.out]
      unfold drainS at hsuc
      rw [hgd] at hsuc
      clear HS HFR HSL HD hgd
      by_cases hmz : z < m
      · rw [decide_eq_false (show ¬ m ≤ z by omega), if_neg (by simp)] at hsuc
        have hmzb : decide (z < m) = true := decide_eq_true hmz
        have hfin : ∃ e' : Nat, Value.int .u64 ((e : Int) + 1) = .int .u64 e' ∧ e' ≤ M ∧ ∃ o' : Bool, Value.bool o = .bool o' ∧ ∃ A' : List Nat, drainF n (goodB h n L m) e' = optOf o' A' ∧ (∃ own, Sl w3 3 1 (.slice ad0 la cp0) A'.length (intsC A') own ∧ ∀ b, own = some b → w1.heap.size ≤ b) ∧ Frm w1.heap.size [] w1 w3 := ⟨e + 1, by simp, HEL.out, o, rfl, A, hsuc, ⟨own, by rw [← HLA.out]; exact hsl3, HOWN.out⟩, hfr3⟩
        clear hsuc hsl3 hfr3 hmzb
        have HFIN := Lib.hid hfin
        clear hfin
        go_wp2_with fail
        (try simp only [u1])
        exact ⟨HFIN.out, HMS.out⟩
      rw [decide_eq_true (show m ≤ z by omega), if_pos rfl] at hsuc
      have HFR := Lib.hid hfr3
      have HSL := Lib.hid hsl3
      have HSUC := Lib.hid hsuc
      clear hsuc hsl3 hfr3
      go_wp2_with fail
      refine (indices_any n (by have := HN6.out; omega) e (by rw [← HM.out]; exact HEL.out) w3 (HGL.out.frm HFR.out (Nat.le_refl _))).mono ?_; rintro x w4 ⟨hf4, v4, own4, rfl, hsl4, hown4⟩
      have hslA := HSL.out.beside (o2 := none) (B := w3.heap.size) hf4 (Nat.le_refl _) (fun b _ hh => by cases hh)
      have hfr4 := HFR.out.call hf4 HFR.out.size (by simp)
      have hown4' : ∀ b, own4 = some b → w1.heap.size ≤ b := fun b hb => Nat.le_trans HFR.out.size (hown4 b hb)
      obtain ⟨ad4, cp4, rfl⟩ := hsl4.form
      obtain ⟨ln, hln⟩ : ∃ k, k = (bitsOf n e).length := ⟨_, rfl⟩
      have hln6 : ln ≤ 60 := by rw [hln]; exact Nat.le_trans (bitsOf_len n e) (by have := HN6.out; omega)
      obtain ⟨N, hN⟩ : ∃ N, N = bitsOf n e := ⟨_, rfl⟩
      rw [← hN] at hln hsl4 ⊢
      have hsuc := HSUC.out
      rw [← hN] at hsuc
      rw [← hln] at hsl4 ⊢
      have hnew : ∀ X, Frm w4.heap.size [] w4 X → drainF n (goodB h n L m) (e + 1) = some N → ∃ e' : Nat, Value.int .u64 ((e : Int) + 1) = .int .u64 e' ∧ e' ≤ M ∧ ∃ o' : Bool, Value.bool true = .bool o' ∧ ∃ A' : List Nat, drainF n (goodB h n L m) e' = optOf o' A' ∧ (∃ own, Sl X 3 1 (.slice ad4 ln cp4) A'.length (intsC A') own ∧ ∀ b, own = some b → w1.heap.size ≤ b) ∧ Frm w1.heap.size [] w1 X := fun X hX hh => ⟨e + 1, by simp, HEL.out, true, rfl, N, by rw [hh]; rfl, ⟨own4, by have q := hsl4.beside (o2 := none) (B := w4.heap.size) hX (Nat.le_refl _) (fun b _ hh => by cases hh); rw [← hln]; exact q, hown4'⟩, hfr4.call hX hfr4.size (by simp)⟩
      have hold : ∀ X, Frm w4.heap.size [] w4 X → drainF n (goodB h n L m) (e + 1) = some A → ∃ e' : Nat, Value.int .u64 ((e : Int) + 1) = .int .u64 e' ∧ e' ≤ M ∧ ∃ o' : Bool, Value.bool true = .bool o' ∧ ∃ A' : List Nat, drainF n (goodB h n L m) e' = optOf o' A' ∧ (∃ own, Sl X 3 1 (.slice ad0 la cp0) A'.length (intsC A') own ∧ ∀ b, own = some b → w1.heap.size ≤ b) ∧ Frm w1.heap.size [] w1 X := fun X hX hh => ⟨e + 1, by simp, HEL.out, true, rfl, A, by rw [hh]; rfl, ⟨own, by have q := hslA.beside (o2 := none) (B := w4.heap.size) hX (Nat.le_refl _) (fun b _ hh => by cases hh); rw [← HLA.out]; exact q, HOWN.out⟩, hfr4.call hX hfr4.size (by simp)⟩
      have hR4 := hsl4.ints0
      have hRA := hslA.ints0
      clear hf4 hown4 hown4' hsl4 hslA hfr4 HSUC HSL
      have HNEW := Lib.hid hnew
      have HOLD := Lib.hid hold
      have HN := Lib.hid hN
      have HLN := Lib.hid hln
      have HR4 := Lib.hid hR4
      have HRA := Lib.hid hRA
      clear hRA hR4 hln hN hold hnew
      cases o
      · have hfin := HNEW.out w4 (Frm.refl _ _ _) hsuc
        clear hsuc HNEW HOLD
        have HFIN := Lib.hid hfin
        clear hfin
        go_wp2_with fail
        (try simp only [u1])
        exact ⟨HFIN.out, HMS.out⟩
      have hsuc : drainF n (goodB h n L m) (e + 1) = if beforeL N A = true then some N else some A := hsuc
      by_cases hlt : ln < la
      · have hltb : decide ((ln : Int) < (la : Int)) = true := decide_eq_true (by omega)
        have hltI : (ln : Int) < (la : Int) := by omega
        have hltn : decide (ln < la) = true := decide_eq_true hlt
        have hbf : beforeL N A = true := by unfold beforeL; rw [← HLN.out, ← HLA.out, if_neg (by omega)]; exact decide_eq_true hlt
        rw [if_pos hbf] at hsuc
        have hfin := HNEW.out w4 (Frm.refl _ _ _) hsuc
        clear hsuc HNEW HOLD hbf
        have HFIN := Lib.hid hfin
        clear hfin
        go_wp2_with fail
        (try simp only [u1])
        exact ⟨HFIN.out, HMS.out⟩
      have hltb : decide ((ln : Int) < (la : Int)) = false := decide_eq_false (by omega)
      have hltI : ¬ (ln : Int) < (la : Int) := by omega
      have hltn : decide (ln < la) = false := decide_eq_false hlt
      by_cases heq : ln = la
      · have heqb : ((ln : Int) == (la : Int)) = true := by simp [heq]
        subst heq
        obtain ⟨b4, off4, hR4⟩ := HR4.out
        obtain ⟨bA, offA, hRA⟩ := HRA.out
        have hlens : N.length = A.length := by rw [← HLN.out, ← HLA.out]
        have hcmp := compare_any ad4 ad0 b4 off4 cp4 bA offA cp0 N A hlens w4 (by rw [HLN.out] at hR4; exact hR4) (by rw [HLA.out] at hRA; exact hRA)
        rw [← HLN.out] at hcmp
        have hbf : beforeL N A = lexLt N A := by unfold beforeL; rw [if_pos hlens]
        rw [hbf] at hsuc
        clear hR4 hRA HR4 HRA hlens hbf
        have HCMP := Lib.hid hcmp
        have HSUC := Lib.hid hsuc
        clear hsuc hcmp
        go_wp2_with fail
        refine HCMP.out.mono ?_; rintro x w5 ⟨⟨r, rfl, hr⟩, hf5⟩
        have hsuc := HSUC.out
        by_cases hr0 : r < 0
        · have hrb : decide (r < 0) = true := decide_eq_true hr0
          rw [← hr, hrb, if_pos rfl] at hsuc
          have hfin := HNEW.out w5 hf5 hsuc
          clear hsuc HNEW HOLD HSUC hr hf5 HCMP
          have HFIN := Lib.hid hfin
          clear hfin
          go_wp2_with fail
          (try simp only [u1])
          exact ⟨HFIN.out, HMS.out⟩
        · have hrb : decide (r < 0) = false := decide_eq_false hr0
          rw [← hr, hrb, if_neg (by simp)] at hsuc
          have hfin := HOLD.out w5 hf5 hsuc
          clear hsuc HNEW HOLD HSUC hr hf5 HCMP
          have HFIN := Lib.hid hfin
          clear hfin
          go_wp2_with fail
          (try simp only [u1])
          exact ⟨HFIN.out, HMS.out⟩
      · have heqI : ¬ (ln : Int) = (la : Int) := by omega
        have heqn : decide (ln = la) = false := decide_eq_false heq
        have heqb : ((ln : Int) == (la : Int)) = false := by simp; omega
        have heqc : (ln == la) = false := by simp [heq]
        have hbf : ¬ beforeL N A = true := by unfold beforeL; rw [← HLN.out, ← HLA.out, if_neg heq]; simp; omega
        rw [if_neg hbf] at hsuc
        have hfin := HOLD.out w4 (Frm.refl _ _ _) hsuc
        clear hsuc HNEW HOLD hbf
        have HFIN := Lib.hid hfin
        clear hfin
        go_wp2_with fail
        (try simp only [u1])
        exact ⟨HFIN.out, HMS.out⟩
    · have hel' : ¬ (e : Int) < (M : Int) := by omega
      obtain rfl : e = M := by omega
      rw [HM.out] at hD
      have hfrw := HF.out.call hfr HF.out.size (by simp)
      clear hfr
      have HD := Lib.hid hD
      have HSL := Lib.hid hsl
      have HOWN := Lib.hid hown
      have HFRW := Lib.hid hfrw
      have HEM := Lib.hid heM
      have HLA := Lib.hid hla
      have HEL := Lib.hid hel
      clear hel hla heM hfrw hown hsl hD
      cases o
      · go_wp2_with fail
        refine bodyPost_ret (v := .tuple #[.slice none 0 0, .int .i64 7]) (by simp [results, Tryd.results23, go_sem]) rfl ?_
        exact ⟨.inr (.inr (.inl ⟨HE.out.symm, HIN.out, HD.out, rfl⟩)), HFRW.out⟩
      · go_wp2_with fail
        refine bodyPost_ret (v := .tuple #[.slice ad0 la cp0, .int .i64 0]) (by simp [results, Tryd.results23, go_sem]) rfl ?_
        exact ⟨.inr (.inr (.inr ⟨HE.out.symm, HIN.out, A, HD.out, _, own, rfl, by rw [← HLA.out]; exact HSL.out, fun b hb => Nat.le_trans HF.out.size (HOWN.out b hb)⟩)), HFRW.out⟩
end Go.Proofs.YtfmigicmfolbjaaDoor

namespace Go.Proofs.YtfmigicmfolbjaaDoor
set_option linter.all false
set_option linter.unusedSimpArgs false
set_option linter.unusedVariables false
open Go.RowKit

def exR (es : List (Int × Int)) : Raw := ⟨[], [⟨[], [0], []⟩, ⟨[0], [], []⟩], es⟩
theorem ex_sound1 : (plannedO (exR [])).map soundO = some (some (1, 0)) := by kernel_rfl
theorem ex_sound2 : (plannedO (exR [(0, 1)])).map soundO = some none := by kernel_rfl
def soundE : Option (Nat × Nat) → Value
  | none => .tuple #[.int .i64 (-1), .int .i64 (-1), .int .i64 0]
  | some (i, f) => .tuple #[.int .i64 (i : Int), .int .i64 (f : Int), .int .i64 9]
theorem sound_of {R : Raw} {e : Ending} {x : Option (Nat × Nat)} (h : SoundIs R e) (hx : (plannedO R).map soundO = some x) : e = .returned (soundE x) := by
  unfold SoundIs at h
  cases hP : plannedO R with
  | none => rw [hP] at hx; cases hx
  | some P =>
    rw [hP] at h hx
    have hx : some (soundO P) = some x := hx
    cases hx
    dsimp only at h
    cases hs : soundO P with
    | none => rw [hs] at h; exact h
    | some y => rw [hs] at h; exact h
def exW : Wi := ⟨10000, 4000, 12000, 0, 0, 0, 0, 4⟩
theorem ex_lift : wiIn exW = true ∧ liftL exW 5 = [1, 4, 5] := by constructor <;> decide
def exT : To := ⟨100, 400, 2500, 10, 400, 5⟩
theorem ex_tow : toIn exT = true ∧ slowB exT = false := by constructor <;> decide
theorem ex_speed {r : Int} (h : Last (possB exT) 0 2000 r) : r = 600 := by
  refine Last.unique h ⟨by omega, by omega, by decide, fun x h1 h2 => ?_⟩
  unfold possB
  rw [decide_eq_false_iff_not]
  show ¬ (2500 * x * x + 10 * 10000000 ≤ min (2 * 100) 400 * 5000000)
  have h3 : 601 * 601 ≤ x * x := Int.mul_le_mul (by omega) (by omega) (by omega) (by omega)
  have h4 : 2500 * x * x = 2500 * (x * x) := Int.mul_assoc _ _ _
  rw [h4]
  generalize x * x = y at h3
  omega
def exH : Hu := ⟨1000, 500, 400⟩
def exTa : Nat → Ta := fun _ => ⟨1000, 1000, 100, 0⟩
theorem ex_ship : shipE exH 1 exTa = 0 := by decide
theorem ex_stab : stabZ exH (tasL 1 exTa) = 56 := by decide
theorem ex_drain : drainF 1 (goodB exH 1 exTa 60) (2 ^ 1) = some [0] := by kernel_rfl
def exG : Gr := ⟨5000, 3000, 10, 100, 500⟩
def exP : Nat → Int × Int := fun i => [(0, 0), (4000, 4000), (8000, 0)].getD i (0, 0)
theorem ex_tide : (tideB 3 exP && grB exG) = true := by decide
theorem ex_off {t : Int} (h0 : 0 ≤ t) (h1 : t ≤ 8000) : offAt exG 3 exP t = decide (1800 ≤ t ∧ t ≤ 6200) := by
  by_cases e0 : t = 0
  · subst e0; decide
  by_cases e1 : t ≤ 4000
  · rw [offAt_first (i := 1) (by omega) e1 (fun j hj => by
      obtain rfl : j = 0 := by omega
      show (0 : Int) < t
      omega)]
    show decide (((5000 - 3000 - 0) * max 1 (4000 - 0) - (4000 - 0) * (t - 0)) * 10 * 500 ≤ 10000 * 100 * max 1 (4000 - 0)) = _
    congr 1
    apply propext
    constructor <;> intro h <;> omega
  · rw [offAt_first (i := 2) (by omega) h1 (fun j hj => by
      have : j = 0 ∨ j = 1 := by omega
      rcases this with rfl | rfl
      · show (0 : Int) < t
        omega
      · show (4000 : Int) < t
        omega)]
    show decide (((5000 - 3000 - 4000) * max 1 (8000 - 4000) - (0 - 4000) * (t - 4000)) * 10 * 500 ≤ 10000 * 100 * max 1 (8000 - 4000)) = _
    congr 1
    apply propext
    constructor <;> intro h <;> omega
theorem ex_span : Span (offAt exG 3 exP) 0 8000 1800 6200 :=
  ⟨by omega, by omega, by omega, fun t h1 h2 => by rw [ex_off h1 (by omega)]; simp; omega, fun t h1 h2 => by rw [ex_off (by omega) (by omega)]; simp; omega, fun _ => by rw [ex_off (by omega) (by omega)]; rfl⟩
theorem ex_float {w w' : World} {e : Ending} (h : FloatIs exG 3 exP 0 w w' e) : Frm w.heap.size [] w w' ∧ e = .returned (.tuple #[.int .i64 1800, .int .i64 6200, .int .i64 0]) := by
  obtain ⟨hf, (⟨h1, _⟩ | ⟨_, h1, _⟩ | ⟨_, _, (⟨h1, _⟩ | ⟨f, l, h1, rfl⟩)⟩)⟩ := h
  · rw [ex_tide] at h1; cases h1
  · exact absurd h1 (by decide)
  · exact (Never.not h1 ex_span).elim
  · obtain ⟨rfl, rfl⟩ := Span.unique h1 ex_span
    exact ⟨hf, rfl⟩
theorem ex_speedIs {w w' : World} {e : Ending} (h : SpeedIs exT w w' e) : Frm w.heap.size [] w w' ∧ e = .returned (.tuple #[.int .i64 600, .int .i64 0]) := by
  obtain ⟨hf, (⟨h1, _⟩ | ⟨_, h1, _⟩ | ⟨_, _, r, h1, rfl⟩)⟩ := h
  · rw [ex_tow.1] at h1; cases h1
  · rw [ex_tow.2] at h1; cases h1
  · rw [ex_speed h1]; exact ⟨hf, rfl⟩
theorem ex_liftIs {w w' : World} {e : Ending} (h : LiftIs exW w w' e) : Frm w.heap.size [] w w' ∧ ∃ v own, e = .returned (.tuple #[v, .int .i64 0]) ∧ Sl w' 3 1 v 3 (intsC [1, 4, 5]) own := by
  obtain ⟨hf, (⟨h1, _⟩ | ⟨_, v, own, h1, h2, _⟩)⟩ := h
  · rw [ex_lift.1] at h1; cases h1
  · rw [ex_lift.2] at h2; exact ⟨hf, v, own, h1, h2⟩
theorem ex_stabIs {e : Ending} (h : StabilityIs exH 1 exTa e) : e = .returned (.tuple #[.int .i64 56, .int .i64 0]) := by
  rcases h with ⟨h1, _⟩ | ⟨_, h1⟩
  · exact absurd ex_ship h1
  · rw [ex_stab] at h1; exact h1
theorem ex_drainIs {w w' : World} {e : Ending} (h : DrainIsR exH 1 exTa 60 w w' e) : ∃ v own, e = .returned (.tuple #[v, .int .i64 0]) ∧ Sl w' 3 1 v 1 (intsC [0]) own := by
  rcases h with ⟨h1, _⟩ | ⟨_, h1, _⟩ | ⟨_, _, h1, _⟩ | ⟨_, _, A, h1, v, own, h2, h3, _⟩
  · exact absurd ex_ship h1
  · exact absurd h1 (by decide)
  · rw [ex_drain] at h1; cases h1
  · rw [ex_drain] at h1; cases h1; exact ⟨v, own, h2, h3⟩
end Go.Proofs.YtfmigicmfolbjaaDoor

namespace Go.Proofs.YtfmigicmfolbjaaDoor
set_option linter.all false
set_option linter.unusedSimpArgs false
set_option linter.unusedVariables false
open Go.RowKit Go.Shelf

def nilLI : LI := ⟨none, 0, 0, 0⟩
def oneLI (b : Nat) : LI := ⟨some ⟨b, 0, none⟩, b, 0, 1⟩
theorem ints_nil (w : World) : IntsAt w nilLI [] := ⟨fun h => absurd h (by simp), Nat.zero_le _, fun i hi => absurd hi (by simp)⟩
theorem ints_one {w : World} {b : Nat} {x : Int} (h : Blk w b 3 [.int .i64 x]) : IntsAt w (oneLI b) [x] :=
  ⟨fun _ => rfl, by simp [maxLen], fun i hi k v hv => by
    obtain rfl : i = 0 := by simpa using hi
    cases k with
    | zero =>
      have hv : some (Value.int .i64 x) = some v := hv
      cases hv
      exact h.cell 0
    | succ k => simp at hv⟩
def exX (s1 s2 : Nat) : Nat → SI
  | 0 => ⟨nilLI, oneLI s1, nilLI⟩
  | _ => ⟨oneLI s2, nilLI, nilLI⟩
def exCells (s1 s2 : Nat) : List Value := [.slice none 0 0, .slice (some ⟨s1, 0, none⟩) 1 1, .slice none 0 0, .slice (some ⟨s2, 0, none⟩) 1 1, .slice none 0 0, .slice none 0 0]
/-- Cells of a block that is a row of structs. -/
theorem rw_block {w : World} {b T size n : Nat} {cs : List Value} {f : Nat → List Value} (h : Blk w b T cs) (hn : n ≤ 1000) (hf : ∀ i, i < n → ∀ k v, (f i)[k]? = some v → cs[i * size + k]? = some v) : Rw w size (some ⟨b, 0, none⟩) b 0 n f :=
  ⟨fun _ => rfl, by unfold maxLen; omega, fun i hi k v hv => by
    rw [Nat.zero_add]
    exact (h.cell (i * size + k)).trans (hf i hi k v hv)⟩
theorem ex_steps {w : World} {s1 s2 s3 : Nat} (h1 : Blk w s1 3 [.int .i64 0]) (h2 : Blk w s2 3 [.int .i64 0]) (h3 : Blk w s3 75 (exCells s1 s2)) : StepsAt w (some ⟨s3, 0, none⟩) s3 0 (exX s1 s2) [⟨[], [0], []⟩, ⟨[0], [], []⟩] := by
  refine ⟨rw_block h3 (by simp) fun i hi k v hv => ?_, fun i hi => ?_⟩
  · have hi : i = 0 ∨ i = 1 := by simp at hi; omega
    have hk : k < 3 := by
      rcases hi with rfl | rfl
      · exact (List.getElem?_eq_some_iff.1 hv).1
      · exact (List.getElem?_eq_some_iff.1 hv).1
    have hk : k = 0 ∨ k = 1 ∨ k = 2 := by omega
    rcases hi with rfl | rfl <;> rcases hk with rfl | rfl | rfl <;> exact hv
  · have hi : i = 0 ∨ i = 1 := by simp at hi; omega
    rcases hi with rfl | rfl
    · exact ⟨ints_nil w, ints_one h1, ints_nil w⟩
    · exact ⟨ints_one h2, ints_nil w, ints_nil w⟩
def exQ (s1 s2 s3 : Nat) (ea : Option Addr) (eb ec : Nat) : RPos := ⟨nilLI, some ⟨s3, 0, none⟩, s3, 0, 2, exX s1 s2, ea, eb, 0, ec⟩
theorem ex_raw1 {w : World} {s1 s2 s3 : Nat} (h1 : Blk w s1 3 [.int .i64 0]) (h2 : Blk w s2 3 [.int .i64 0]) (h3 : Blk w s3 75 (exCells s1 s2)) : RawAt w (exQ s1 s2 s3 none 0 0) (exR []) :=
  ⟨ints_nil w, ex_steps h1 h2 h3, ⟨fun h => absurd h (by simp [exR]), Nat.zero_le _, fun i hi => absurd hi (by simp [exR])⟩⟩
theorem ex_raw2 {w : World} {s1 s2 s3 s4 : Nat} (h1 : Blk w s1 3 [.int .i64 0]) (h2 : Blk w s2 3 [.int .i64 0]) (h3 : Blk w s3 75 (exCells s1 s2)) (h4 : Blk w s4 78 [.int .i64 0, .int .i64 1]) : RawAt w (exQ s1 s2 s3 (some ⟨s4, 0, none⟩) s4 1) (exR [(0, 1)]) :=
  ⟨ints_nil w, ex_steps h1 h2 h3, rw_block h4 (by simp [exR]) fun i hi k v hv => by
    obtain rfl : i = 0 := by simpa [exR] using hi
    have hk : k < 2 := (List.getElem?_eq_some_iff.1 hv).1
    have hk : k = 0 ∨ k = 1 := by omega
    rcases hk with rfl | rfl <;> exact hv⟩
theorem ints_blk {w : World} {b : Nat} {l : List Nat} (h : Blk w b 3 (intsC l)) (hl : l.length ≤ 1000) : RwI w (some ⟨b, 0, none⟩) b 0 l.length (at0 l) :=
  ⟨fun _ => rfl, by unfold maxLen; omega, fun i hi k v hv => by
    cases k with
    | zero =>
      have hv : some (Value.int .i64 (at0 l i)) = some v := hv
      cases hv
      rw [show (0 + i * 1 + 0 : Nat) = i by omega, h.cell i]
      simp [intsC, at0, List.getD_eq_getElem?_getD, hi]
    | succ k => simp at hv⟩
theorem info66 : (Tryd.prog.info? 66).map (fun i => i.size) = some 3 := by kernel_rfl
set_option maxRecDepth 100000 in
set_option maxHeartbeats 16000000 in
theorem awake_any (w : World) (hg : Glob w) : Calls Tryd.prog 18 #[] w fun e w' => e = .returned (.bool true) ∧ Frm w.heap.size [] w w' := by
  have hf0 := Tryd.func18
  have HG := Lib.hid hg
  clear hg
  go_enter Tryd.func18, Tryd.ntmps18
  go_wp2_with (with_reducible refine atStore 66 rfl ?_; refine stop_ ?_)
  refine go_on ?_
  refine wpList_storeNewB (P := Tryd.prog) (b := w.heap.size + 1 + 1 + 1) (cs := rawC (exQ w.heap.size (w.heap.size + 1) (w.heap.size + 1 + 1) none 0 0) (exR [])) rfl rfl (by simp) rfl rfl rfl info66 (by simp [rawC, exQ, LI.v, Value.oneCell']) ?_
  intro V1 hf1 k4
  have k1 : Blk V1 w.heap.size 3 [.int .i64 0] := hf1.blk (by refine Blk.alloc' ?_; refine Blk.alloc' ?_; exact Blk.new w 3 [.int .i64 0]) (by simp; omega) (by simp)
  have k2 : Blk V1 (w.heap.size + 1) 3 [.int .i64 0] := hf1.blk (by refine Blk.alloc' ?_; exact Blk.new' _ 3 [.int .i64 0] (by simp)) (by simp) (by simp)
  have k3 : Blk V1 (w.heap.size + 1 + 1) 75 (exCells w.heap.size (w.heap.size + 1)) := hf1.blk (by exact Blk.new' _ 75 (exCells w.heap.size (w.heap.size + 1)) (by simp)) (by simp) (by simp)
  have hfw : Frm w.heap.size [] w V1 := Frm.call (b := ((w.alloc (.cells #[.int .i64 0] 3)).alloc (.cells #[.int .i64 0] 3)).alloc (.cells (exCells w.heap.size (w.heap.size + 1)).toArray 75)) (by repeat (first | with_reducible exact Frm.refl _ _ _ | with_reducible refine Frm.drewN ?_ | with_reducible refine Frm.drew ?_ | ((with_reducible refine Frm.setCell' ?_ ?_); · first | (left; simp; done) | (right; simp; done) | (right; simp; omega)) | ((with_reducible refine Frm.alloc' ?_ ?_); · first | exact Nat.le_refl _ | (simp; done) | (simp; omega)))) hf1 (by simp; omega) (by simp)
  obtain ⟨s1, hs1⟩ : ∃ s, s = w.heap.size := ⟨_, rfl⟩
  rw [← hs1] at k1 k2 k3 k4 ⊢
  obtain ⟨c, hc⟩ : ∃ s, s = s1 + 1 + 1 + 1 := ⟨_, rfl⟩
  obtain ⟨s3, hs3⟩ : ∃ s, s = s1 + 1 + 1 := ⟨_, rfl⟩
  obtain ⟨s2, hs2⟩ : ∃ s, s = s1 + 1 := ⟨_, rfl⟩
  rw [← hc] at k4
  simp only [← hc]
  rw [← hs3] at k3 k4
  simp only [← hs3]
  rw [← hs2] at k2 k3 k4
  simp only [← hs2]
  have n1 : c ≠ s1 := by omega
  have n2 : c ≠ s2 := by omega
  have n3 : c ≠ s3 := by omega
  have hwc : w.heap.size ≤ c := by omega
  clear hf1 hc hs3 hs2
  have K1 := Lib.hid k1
  have K2 := Lib.hid k2
  have K3 := Lib.hid k3
  have K4 := Lib.hid k4
  have HF := Lib.hid hfw
  have HS1 := Lib.hid hs1
  have N1 := Lib.hid n1
  have N2 := Lib.hid n2
  have N3 := Lib.hid n3
  have HWC := Lib.hid hwc
  clear hwc n3 n2 n1 hs1 hfw k4 k3 k2 k1
  simp only [Act.put]
  go_wp2_with (with_reducible refine atLoad 66 rfl ?_; refine wpList_loadE rfl rfl rfl (load_raw K4.out) ?_)
  refine (sound_any _ _ V1 (ex_raw1 K1.out K2.out K3.out) (HG.out.frm HF.out (Nat.le_refl _))).mono ?_; rintro e V2 ⟨hso, hf1⟩
  obtain rfl := sound_of hso ex_sound1
  have k1 := hf1.blk K1.out K1.out.lt (by simp)
  have k2 := hf1.blk K2.out K2.out.lt (by simp)
  have k3 := hf1.blk K3.out K3.out.lt (by simp)
  have k4 := hf1.blk K4.out K4.out.lt (by simp)
  have hfw := HF.out.call hf1 HF.out.size (by simp)
  have f2 : ∀ o, (V2.alloc o).frozen? ⟨c, 2, none⟩ = false := fun o => (k4.alloc o).free 2
  have g2 : ∀ o, (V2.alloc o).cell? ⟨c, 2, none⟩ = some (.slice none 0 0) := fun o => (k4.alloc o).cell 2
  clear hf1 hso K1 K2 K3 K4 HF
  have K1 := Lib.hid k1
  have K2 := Lib.hid k2
  have K3 := Lib.hid k3
  have K4 := Lib.hid k4
  have HF := Lib.hid hfw
  clear hfw k4 k3 k2 k1
  dsimp only [soundE]
  go_upto_region 4 with fail
  refine namedC ?_; intro V3 hV3
  obtain ⟨s5, hs5⟩ : ∃ s, s = V2.heap.size := ⟨_, rfl⟩
  have k1 : Blk V3 s1 3 [.int .i64 0] := by rw [hV3]; have n1 := N1.out; (repeat (first | with_reducible exact K1.out | with_reducible refine Blk.drewN ?_ | with_reducible refine Blk.drew ?_ | with_reducible refine Blk.alloc' ?_ | ((with_reducible refine Blk.other' ?_ ?_); · (simp; try omega)) | ((with_reducible refine Blk.rowO ?_ ?_); · (simp; try omega)) | exact K1.out))
  have k2 : Blk V3 s2 3 [.int .i64 0] := by rw [hV3]; have n2 := N2.out; (repeat (first | with_reducible exact K2.out | with_reducible refine Blk.drewN ?_ | with_reducible refine Blk.drew ?_ | with_reducible refine Blk.alloc' ?_ | ((with_reducible refine Blk.other' ?_ ?_); · (simp; try omega)) | ((with_reducible refine Blk.rowO ?_ ?_); · (simp; try omega)) | exact K2.out))
  have k3 : Blk V3 s3 75 (exCells s1 s2) := by rw [hV3]; have n3 := N3.out; (repeat (first | with_reducible exact K3.out | with_reducible refine Blk.drewN ?_ | with_reducible refine Blk.drew ?_ | with_reducible refine Blk.alloc' ?_ | ((with_reducible refine Blk.other' ?_ ?_); · (simp; try omega)) | ((with_reducible refine Blk.rowO ?_ ?_); · (simp; try omega)) | exact K3.out))
  have k4 : Blk V3 c 66 (rawC (exQ s1 s2 s3 (some ⟨s5, 0, none⟩) s5 1) (exR [(0, 1)])) := by rw [hV3, hs5]; first | exact (K4.out.alloc _).set 2 _ | (refine Blk.alloc' ?_; exact K4.out.set 2 _)
  have hcs : c ≠ s5 := by have := K4.out.lt; omega
  have k5 : Blk V3 s5 78 [.int .i64 0, .int .i64 1] := by rw [hV3]; first | exact Blk.new' _ 78 [.int .i64 0, .int .i64 1] (by simp [hs5]) | exact (Blk.new' _ 78 [.int .i64 0, .int .i64 1] hs5.symm).other ⟨c, 2, none⟩ hcs _
  have hfw : Frm w.heap.size [] w V3 := by
    have h1 := HWC.out
    have h2 := HF.out.size
    rw [hV3]
    first | exact (HF.out.alloc h2 _).setCell (.inr h1) _ | exact Frm.alloc' (by simpa using h2) (HF.out.setCell (.inr h1) _)
  rw [← hs5]
  clear hV3 hs5 f2 g2 hcs K1 K2 K3 K4 HF
  have K1 := Lib.hid k1
  have K2 := Lib.hid k2
  have K3 := Lib.hid k3
  have K4 := Lib.hid k4
  have K5 := Lib.hid k5
  have HF := Lib.hid hfw
  clear hfw k5 k4 k3 k2 k1
  go_wp2_with (with_reducible refine atLoad 66 rfl ?_; refine wpList_loadE rfl rfl rfl (load_raw K4.out) ?_)
  refine (sound_any _ _ V3 (ex_raw2 K1.out K2.out K3.out K5.out) (HG.out.frm HF.out (Nat.le_refl _))).mono ?_; rintro e V4 ⟨hso, hf1⟩
  obtain rfl := sound_of hso ex_sound2
  have hfw := HF.out.call hf1 HF.out.size (by simp)
  clear hf1 hso K1 K2 K3 K4 K5 HF
  have HF := Lib.hid hfw
  clear hfw
  dsimp only [soundE]
  go_wp2_with fail
  refine (lift_any exW _).mono ?_; rintro e V5 hli
  obtain ⟨hf1, lv, lo, rfl, hsl⟩ := ex_liftIs hli
  have hfw := HF.out.call hf1 HF.out.size (by simp)
  clear hf1 hli HF
  obtain ⟨_, la, lb, loff, lcap, rfl, hlr⟩ := hsl.ints
  clear hsl
  have HF := Lib.hid hfw
  have HLR := Lib.hid hlr
  clear hlr hfw
  go_wp2_with fail
  refine (speed_any exT _).mono ?_; rintro e V6 hsp
  obtain ⟨hf1, rfl⟩ := ex_speedIs hsp
  have hfw := HF.out.call hf1 HF.out.size (by simp)
  have hlr := HLR.out.frm hf1 (Nat.le_refl _)
  clear hf1 hsp HF HLR
  have HF := Lib.hid hfw
  have HLR := Lib.hid hlr
  clear hlr hfw
  go_wp2_with (with_reducible refine atStore 41 rfl ?_; refine stop_ ?_)
  refine go_on ?_
  refine wpList_storeNewB (P := Tryd.prog) (b := V6.heap.size + 1) (cs := exH.cells) rfl rfl (by simp) rfl rfl rfl info41 (by simp [Hu.cells, Value.oneCell']) ?_
  intro V7 hf7 k8
  have k7 : Blk V7 V6.heap.size 49 (exTa 0).cells := hf7.blk (Blk.new V6 49 (exTa 0).cells) (by simp) (by simp)
  have hfV : Frm V6.heap.size [] V6 V7 := ((Frm.refl _ _ V6).alloc (Nat.le_refl _) _).call hf7 (by simp) (by simp)
  have hfw := HF.out.call hfV HF.out.size (by simp)
  have hlr := HLR.out.frm hfV (Nat.le_refl _)
  obtain ⟨h1, hh1⟩ : ∃ s, s = V6.heap.size + 1 := ⟨_, rfl⟩
  rw [← hh1] at k8
  simp only [← hh1]
  obtain ⟨h0, hh0⟩ : ∃ s, s = V6.heap.size := ⟨_, rfl⟩
  rw [← hh0] at k7
  simp only [← hh0]
  clear hf7 hfV hh1 hh0 HF HLR
  have HF := Lib.hid hfw
  have HLR := Lib.hid hlr
  have K7 := Lib.hid k7
  have K8 := Lib.hid k8
  clear k8 k7 hlr hfw
  simp only [Act.put]
  go_wp2_with (with_reducible refine atLoad 41 rfl ?_; refine wpList_loadE rfl rfl rfl (load_hu K8.out) ?_)
  have hta : ∀ V, Blk V h0 49 (exTa 0).cells → Rw V 4 (some ⟨h0, 0, none⟩) h0 0 1 fun i => (exTa i).cells := fun V hV => rw_block hV (by omega) fun i hi k v hv => by
    obtain rfl : i = 0 := by omega
    simpa using hv
  refine (stability_any exH _ h0 0 1 1 exTa V7 (hta V7 K7.out)).mono ?_; rintro e V8 ⟨hst, hf1⟩
  obtain rfl := ex_stabIs hst
  have hfw := HF.out.call hf1 HF.out.size (by simp)
  have hlr := HLR.out.frm hf1 (Nat.le_refl _)
  have k7 := hf1.blk K7.out K7.out.lt (by simp)
  have k8 := hf1.blk K8.out K8.out.lt (by simp)
  clear hf1 hst HF HLR K7 K8
  have HF := Lib.hid hfw
  have HLR := Lib.hid hlr
  have K7 := Lib.hid k7
  have K8 := Lib.hid k8
  clear k8 k7 hlr hfw
  go_wp2_with (with_reducible refine atLoad 41 rfl ?_; refine wpList_loadE rfl rfl rfl (load_hu K8.out) ?_)
  refine (drain_any exH _ h0 0 1 1 exTa 60 V8 (hta V8 K7.out) (HG.out.frm HF.out (Nat.le_refl _))).mono ?_; rintro e V9 ⟨hdr, hf1⟩
  obtain ⟨dv, dw, rfl, hsd⟩ := ex_drainIs hdr
  have hfw := HF.out.call hf1 HF.out.size (by simp)
  have hlr := HLR.out.frm hf1 (Nat.le_refl _)
  obtain ⟨_, da, db, doff, dcap, rfl, hdl⟩ := hsd.ints
  clear hf1 hdr hta hsd HF HLR K7 K8
  have HF := Lib.hid hfw
  have HLR := Lib.hid hlr
  have HDL := Lib.hid hdl
  clear hdl hlr hfw
  go_wp2_with fail
  refine namedCalls ?_; intro Va hVa
  have kt : Blk Va V9.heap.size 61 [.int .i64 0, .int .i64 0, .int .i64 4000, .int .i64 4000, .int .i64 8000, .int .i64 0] := by rw [hVa]; exact Blk.new V9 61 _
  have hfV : Frm V9.heap.size [] V9 Va := by rw [hVa]; exact (Frm.refl _ _ _).alloc (Nat.le_refl _) _
  clear hVa
  have hfw := HF.out.call hfV HF.out.size (by simp)
  have hlr := HLR.out.frm hfV (Nat.le_refl _)
  have hdl := HDL.out.frm hfV (Nat.le_refl _)
  have htp : Rw Va 2 (some ⟨V9.heap.size, 0, none⟩) V9.heap.size 0 3 fun i => tpC (exP i) := rw_block kt (by omega) fun i hi k v hv => by
    have hi : i = 0 ∨ i = 1 ∨ i = 2 := by omega
    have hk : k < 2 := (List.getElem?_eq_some_iff.1 hv).1
    have hk : k = 0 ∨ k = 1 := by omega
    rcases hi with rfl | rfl | rfl <;> rcases hk with rfl | rfl <;> exact hv
  clear hfV kt HF HLR HDL
  have HF := Lib.hid hfw
  have HLR := Lib.hid hlr
  have HDL := Lib.hid hdl
  clear hdl hlr hfw
  refine (float_any exG _ V9.heap.size 0 3 3 exP 0 Va htp).mono ?_; rintro e Vb hfl
  obtain ⟨hf1, rfl⟩ := ex_float hfl
  have hfw := HF.out.call hf1 HF.out.size (by simp)
  have hlr := HLR.out.frm hf1 (Nat.le_refl _)
  have hdl := HDL.out.frm hf1 (Nat.le_refl _)
  clear hf1 hfl htp HF HLR HDL
  have HF := Lib.hid hfw
  have HLR := Lib.hid hlr
  have HDL := Lib.hid hdl
  clear hdl hlr hfw
  go_wp2_with fail
  refine namedCalls ?_; intro Vc hVc
  have kl : Blk Vc Vb.heap.size 3 (intsC [1, 4, 5]) := by rw [hVc]; exact Blk.new Vb 3 _
  have hfV : Frm Vb.heap.size [] Vb Vc := by rw [hVc]; exact (Frm.refl _ _ _).alloc (Nat.le_refl _) _
  clear hVc
  refine (ints_any la lb loff 3 lcap _ _ Vb.heap.size 0 3 3 (at0 [1, 4, 5]) Vc (HLR.out.frm hfV (Nat.le_refl _)) (ints_blk kl (by simp)) rfl (fun i hi => rfl)).mono ?_; rintro e Vd ⟨rfl, hf1⟩
  have hfw := HF.out.call (hfV.call hf1 hfV.size (by simp)) HF.out.size (by simp)
  have hdl := (HDL.out.frm hfV (Nat.le_refl _)).frm hf1 (Nat.le_refl _)
  clear hf1 hfV kl HF HLR HDL
  have HF := Lib.hid hfw
  have HDL := Lib.hid hdl
  clear hdl hfw
  go_wp2_with fail
  refine namedCalls ?_; intro Ve hVe
  have kl : Blk Ve Vd.heap.size 3 (intsC [0]) := by rw [hVe]; exact Blk.new Vd 3 _
  have hfV : Frm Vd.heap.size [] Vd Ve := by rw [hVe]; exact (Frm.refl _ _ _).alloc (Nat.le_refl _) _
  clear hVe
  refine (ints_any da db doff 1 dcap _ _ Vd.heap.size 0 1 1 (at0 [0]) Ve (HDL.out.frm hfV (Nat.le_refl _)) (ints_blk kl (by simp)) rfl (fun i hi => rfl)).mono ?_; rintro e Vf ⟨rfl, hf1⟩
  have hfw := HF.out.call (hfV.call hf1 hfV.size (by simp)) HF.out.size (by simp)
  clear hf1 hfV kl HF HDL
  have HF := Lib.hid hfw
  clear hfw
  go_wp2_with fail
  go_ret
  exact ⟨rfl, HF.out⟩
end Go.Proofs.YtfmigicmfolbjaaDoor

namespace Go.Proofs.YtfmigicmfolbjaaDoor
set_option linter.all false
set_option linter.unusedSimpArgs false
set_option linter.unusedVariables false
open Go.ChangeShapes Go.WideShapes Go.ChangeAt Go.RowKit

theorem own : ownKnob Tryd.prog.godebug = none := by kernel_rfl
theorem laidOut : laidOutB Tryd.prog = true := by kernel_rfl
def laidR : List (String × DataW Unit) := [("math/bits.deBruijn32tab", Rows.laid_math_bits_deBruijn32tab), ("math/bits.deBruijn64tab", Rows.laid_math_bits_deBruijn64tab)]
theorem g32 : Tryd.prog.globalNamed "math/bits.deBruijn32tab" = some 0 := by kernel_rfl
theorem g64 : Tryd.prog.globalNamed "math/bits.deBruijn64tab" = some 1 := by kernel_rfl
theorem t32 : (Tryd.prog.globals[0]?).map (·.type) = some 160 := by kernel_rfl
theorem t64 : (Tryd.prog.globals[1]?).map (·.type) = some 161 := by kernel_rfl
theorem door_met (os : Os) (args : Array Value) : laidMetH Tryd.prog laidR ((World.doorLaid Tryd.prog 400 os).forCall (fun _ _ => 0) ⟨#[], args, []⟩).memory :=
  laidMetH_of_parts3 (fuel := 8) (laidMet_of_run' 8 (by kernel_rfl) (by kernel_rfl)) (by kernel_rfl) (by kernel_rfl)
def D32 : List Int := [0, 1, 28, 2, 29, 14, 24, 3, 30, 22, 20, 15, 25, 17, 4, 8, 31, 27, 13, 23, 21, 19, 16, 7, 26, 12, 18, 6, 11, 5, 10, 9]
def D64 : List Int := [0, 1, 56, 2, 57, 49, 28, 3, 61, 58, 42, 50, 38, 29, 17, 4, 62, 47, 59, 36, 45, 43, 51, 22, 53, 39, 33, 30, 24, 18, 12, 5, 63, 55, 48, 27, 60, 41, 37, 16, 46, 35, 44, 21, 52, 32, 23, 11, 54, 26, 40, 15, 34, 20, 31, 10, 25, 14, 19, 9, 13, 8, 7, 6]
def datumOf (D : List Int) : DataW Unit := .agg (D.map fun x => .lit (.int .u8 x))
theorem datum32 : (Rows.laid_math_bits_deBruijn32tab : DataW Unit) = datumOf D32 := rfl
theorem datum64 : (Rows.laid_math_bits_deBruijn64tab : DataW Unit) = datumOf D64 := rfl
theorem tab64 : ((List.range 64).all fun i => D64[at64 i]? == some (i : Int)) = true := by kernel_rfl
theorem tab32 : ((List.range 32).all fun i => D32[at32 i]? == some (i : Int)) = true := by kernel_rfl
/-- An array of small numbers reads as the datum says: so do its cells. -/
theorem table_of {W : World} {n fuel : Nat} {t e : TypeId} {cs : List Value} {D : List Int} {ps : List MemPlace} (ht : Tryd.prog.underlying t = some (.array n e)) (he : Tryd.prog.underlying e = some (.int .u8)) (hc : Tryd.prog.cellsOf e = 1)
    (h : DataW.trod (fun _ => ()) Tryd.prog W 0 (fun _ => true) false fuel t cs = some (datumOf D, ps)) {i : Nat} {x : Int} (hi : i < n) (hx : D[i]? = some x) : cs[i]? = some (.int .u8 x) := by
  obtain ⟨xs, m, rfl, hx1, hlen, hn, hel⟩ := DataW.trod_array ht h
  have h1 := hel i hi
  rw [hc, Nat.mul_one] at h1
  have hlx : i < xs.length := by omega
  rw [List.getElem?_eq_getElem hlx] at h1
  obtain ⟨k, e1, e2, _⟩ := DataW.trod_int he h1
  have e3 := (Prod.mk.inj hx1).1
  unfold datumOf at e3
  have e4 : D.map (fun x => (DataW.lit (.int .u8 x) : DataW Unit)) = xs.map (·.1) := DataW.agg.inj e3
  have e5 : (D.map (fun x => (DataW.lit (.int .u8 x) : DataW Unit)))[i]? = (xs.map (·.1))[i]? := by rw [e4]
  rw [List.getElem?_map, hx, List.getElem?_map, List.getElem?_eq_getElem hlx, e2] at e5
  simp only [Option.map_some, Option.some.injEq, DataW.lit.injEq, Lit.int.injEq] at e5
  have e6 : ((cs.drop i).take 1)[0]? = some (.int .u8 k) := by rw [e1]; rfl
  rw [List.getElem?_take_of_lt (by omega), List.getElem?_drop, Nat.add_zero] at e6
  rw [e6, e5.2]
set_option maxRecDepth 100000 in
theorem glob_of {W : World} (h : laidMetH Tryd.prog laidR W) : Glob W := by
  rw [MakeChecks.laidMetH_plain _ _ _ (by kernel_rfl)] at h
  obtain ⟨ps, ⟨ga, ta, csa, fa, pa, qa, hga, hta, hva, hda, ⟨gb, tb, csb, fb, pb, qb, hgb, htb, hvb, hdb, _, _⟩, _⟩, _, _⟩ := h
  obtain rfl := Option.some.inj (g32.symm.trans hga)
  obtain rfl := Option.some.inj (t32.symm.trans hta)
  obtain rfl := Option.some.inj (g64.symm.trans hgb)
  obtain rfl := Option.some.inj (t64.symm.trans htb)
  rw [datum32] at hda
  rw [datum64] at hdb
  refine ⟨fun i hi => ?_, fun i hi => ?_⟩
  · have h1 := List.all_eq_true.1 tab64 i (by simpa using hi)
    have h2 := table_of Tryd.underlying161 Tryd.underlying5 (by kernel_rfl) hdb (at64_lt i) (by simpa using h1)
    rw [World.var?_cell hgb hvb (at64 i)]
    simpa using h2
  · have h1 := List.all_eq_true.1 tab32 i (by simpa using hi)
    have h2 := table_of Tryd.underlying160 Tryd.underlying5 (by kernel_rfl) hda (at32_lt i) (by simpa using h1)
    rw [World.var?_cell hga hva (at32 i)]
    simpa using h2

theorem trodAll_below {H : Type} {enc : TypeId × Value → H} {W W' : World} (hb : Below W.heap.size W W') : ∀ (ts : List TypeId) (vs : List Value) (ds : List (DataW H)) (ps : List MemPlace),
    (∀ t ∈ ts, Tryd.prog.readableRec t = true ∧ t < Tryd.prog.types.size) → DataW.TrodAll enc Tryd.prog W 0 (fun _ => true) true ts vs ds ps → (∀ x ∈ ps, x.block < W.heap.size) →
    DataW.TrodAll enc Tryd.prog W' 0 (fun b => decide (b < W.heap.size)) true ts vs ds ps
  | [], _, _, _, _, h, _ => by
    obtain ⟨rfl, rfl, rfl⟩ := trodAll_nil h
    exact trodAll_mk0
  | t :: ts, _, _, _, hts, h, hlt => by
    obtain ⟨v, vs, d, ds, p, q, rfl, rfl, rfl, h1, h2⟩ := trodAll_cons h
    refine trodAll_cons_mk (Below.trod laidOut (hts t (by simp)).1 (hts t (by simp)).2 h1 hb (fun x hx => hlt x (by simp [hx]))) (trodAll_below hb ts vs ds q (fun t' h' => hts t' (by simp [h'])) h2 (fun x hx => hlt x (by simp [hx])))

theorem trodAll_lt {H : Type} {enc : TypeId × Value → H} {W : World} : ∀ (ts : List TypeId) (vs : List Value) (ds : List (DataW H)) (ps : List MemPlace),
    DataW.TrodAll enc Tryd.prog W 0 (fun _ => true) true ts vs ds ps → ∀ x ∈ ps, x.block < W.heap.size
  | [], _, _, _, h => by
    obtain ⟨rfl, rfl, rfl⟩ := trodAll_nil h
    simp
  | t :: ts, _, _, _, h => by
    obtain ⟨v, vs, d, ds, p, q, rfl, rfl, rfl, h1, h2⟩ := trodAll_cons h
    intro x hx
    rcases List.mem_append.1 hx with hx | hx
    · obtain ⟨m, hm⟩ := h1; exact DataW.trod_lt m _ _ _ hm x hx
    · exact trodAll_lt ts vs ds q h2 x hx

set_option maxRecDepth 100000 in
/-- THE FRAME: a law's walk is its row's step. -/
theorem law_liftL {H : Type} {enc : TypeId × Value → H} {os : Os} (started : os.Started) {f : FuncId} {fn : Func} {s : ChangeSpec} (n : Nat)
    (noInit : Tryd.checked.prog.inits.idxOf? f = none) (hf : Tryd.checked.prog.funcs[f]? = some fn)
    (witness : ∃ (w : World) (tape : Tape) (i : Input), w.os = os ∧ (w.forCall tape i).Shaped Tryd.checked.prog ∧ i.vars = [] ∧ Input.okWide Tryd.checked.prog (w.forCall tape i) .any w.heap.size f i ∧
      ((s.pre enc Tryd.checked.prog fn [] false (w.forCall tape i).memory i.args ∧ laidMetH Tryd.prog laidR (w.forCall tape i).memory) ∧ sizedMet enc Tryd.checked.prog fn (OpenSpec.ofChange s) false (w.forCall tape i).memory i.args) ∧ ({} : Assume).holds Tryd.checked.prog (lone (Frame.enter Tryd.checked.prog f i.args .normal) [] (w.forCall tape i)))
    (hts : ∀ t ∈ fn.params.toList, Tryd.prog.readableRec t = true ∧ t < Tryd.prog.types.size) (hn : fn.params.size = n) (hres : fn.resultTypes = #[4]) (hvars : s.vars = [])
    (hfn : ∀ ds : List (DataW H), ds.length = n → s.fn H ds = { results := [.lit (.bool true)], args := ds })
    (walk : ∀ (W : World) (base : Nat) (args : Array Value) (ds : List (DataW H)) (ps : List MemPlace), (∀ (j : Nat) t v, fn.params[j]? = some t → args[j]? = some v → Value.okWide Tryd.prog W .any base t v) →
      DataW.TrodAll enc Tryd.prog W 0 (fun _ => true) true fn.params.toList args.toList ds ps → Glob W → Calls Tryd.prog f args W fun e W' => e = .returned (.bool true) ∧ Frm W.heap.size [] W W') :
    ReturnsInHanded {} Tryd.checked os f .any (fun w args => (s.pre enc Tryd.prog fn [] false w args ∧ laidMetH Tryd.prog laidR w) ∧ sizedMet enc Tryd.prog fn (OpenSpec.ofChange s) false w args) (s.post enc Tryd.checked.prog fn false true false false) := by
  refine returnsInHanded_of_change_and (C := Tryd.checked) (X := fun w _ => laidMetH Tryd.prog laidR w) (fun _ _ _ hh h => h.of_heap hh) own started noInit hf witness ?_
  intro W base args ds gs before hval0 hW hcnd _ hL _
  have hW' := hW
  obtain ⟨p, q, hA, hV, rfl, hfz, hnd⟩ := hW
  rw [hvars] at hV
  obtain ⟨rfl, rfl⟩ := trodVars_none hV
  have hlen : ∀ (ts : List TypeId) (vs : List Value) (ds : List (DataW H)) (ps : List MemPlace), DataW.TrodAll enc Tryd.prog W 0 (fun _ => true) true ts vs ds ps → ds.length = ts.length := by
    intro ts
    induction ts with
    | nil => intro vs ds ps h; obtain ⟨_, rfl, _⟩ := trodAll_nil h; rfl
    | cons t ts ih =>
      intro vs ds ps h
      obtain ⟨v, vs, d, ds, p, q, rfl, rfl, rfl, h1, h2⟩ := trodAll_cons h
      simp [ih _ _ _ h2]
  have hA' : DataW.TrodAll enc Tryd.prog W 0 (fun _ => true) true fn.params.toList args.toList ds p := hA
  refine (walk W base args ds p hval0 hA' (glob_of hL)).mono fun e W' ⟨he, bel⟩ => ?_
  subst he
  have hd : ds.length = n := by rw [hlen _ _ _ _ hA']; simpa using hn
  have hfn' := hfn ds hd
  refine ⟨_, rfl, ds, [], _, [], p, [], hW', ?_, ?_, ?_, bel.below.frame _, fun h => by cases h⟩
  · rw [List.append_nil, hfn', hres]
    exact trodAll_mk1 (shut_bool Tryd.underlying4 _)
  · rw [List.append_nil, hfn']
    exact trodAll_below bel.below _ _ _ _ hts hA' (trodAll_lt _ _ _ _ hA')
  · rw [hvars]
    rw [List.append_nil, hfn']
    rfl
end Go.Proofs.YtfmigicmfolbjaaDoor

namespace Go.Proofs.YtfmigicmfolbjaaDoor
set_option linter.all false
set_option linter.unusedSimpArgs false
set_option linter.unusedVariables false
open Go.ChangeShapes Go.WideShapes Go.ChangeAt Go.RowKit
set_option maxRecDepth 100000

theorem list1 {α : Type} {l : List α} (h : l.length = 1) : ∃ a, l = [a] := by
  match l, h with
  | [a], _ => exact ⟨a, rfl⟩
theorem list2 {α : Type} {l : List α} (h : l.length = 2) : ∃ a b, l = [a, b] := by
  match l, h with
  | [a, b], _ => exact ⟨a, b, rfl⟩
theorem list3 {α : Type} {l : List α} (h : l.length = 3) : ∃ a b c, l = [a, b, c] := by
  match l, h with
  | [a, b, c], _ => exact ⟨a, b, c, rfl⟩
theorem list4 {α : Type} {l : List α} (h : l.length = 4) : ∃ a b c d, l = [a, b, c, d] := by
  match l, h with
  | [a, b, c, d], _ => exact ⟨a, b, c, d, rfl⟩
theorem list5 {α : Type} {l : List α} (h : l.length = 5) : ∃ a b c d e, l = [a, b, c, d, e] := by
  match l, h with
  | [a, b, c, d, e], _ => exact ⟨a, b, c, d, e, rfl⟩
theorem list6 {α : Type} {l : List α} (h : l.length = 6) : ∃ a b c d e f, l = [a, b, c, d, e, f] := by
  match l, h with
  | [a, b, c, d, e, f], _ => exact ⟨a, b, c, d, e, f, rfl⟩
theorem list8 {α : Type} {l : List α} (h : l.length = 8) : ∃ a b c d e f g i, l = [a, b, c, d, e, f, g, i] := by
  match l, h with
  | [a, b, c, d, e, f, g, i], _ => exact ⟨a, b, c, d, e, f, g, i, rfl⟩
theorem Addr.add_at {a : Addr} (h : a.spot = none) (k : Nat) : a.add k = ⟨a.block, a.off + k, none⟩ := by
  unfold Addr.add
  split
  · rename_i e; subst e; cases a; simp only at h; rw [h]; rfl
  · rfl
theorem cell_spot {w : World} {a : Addr} {v : Value} (h : w.cell? a = some v) : a.spot = none ∧ a.block < w.heap.size := by
  unfold World.cell? at h
  split at h
  · rename_i c e f hh
    refine ⟨?_, (Array.getElem?_eq_some_iff.1 hh).1⟩
    cases hs : a.spot with
    | none => rfl
    | some x => simp [hs] at h
  · cases h
theorem cells3 : Tryd.prog.cellsOf 3 = 1 := by kernel_rfl
section
variable {W : World} {r : Reach} {base : Nat} {v : Value}
theorem leaf_int (h : Cell.okWide Tryd.prog W r base 3 v) : ∃ n, v = .int .i64 n := okWide_int Tryd.underlying3 (by simpa only [Value.okWide, Tryd.underlying3] using h)
/-- A struct of integers. -/
theorem open_ints {T n : Nat} (hn : Tryd.prog.cellsOf T = n) (hl : Tryd.prog.cellTypes Tryd.prog.depth T = some (List.replicate n 3)) (hv : ∃ cs, v = .agg cs ∧ cs.size = Tryd.prog.cellsOf T ∧ Row.okWide Tryd.prog W r base T cs) :
    ∃ xs : List Int, xs.length = n ∧ v = .agg (xs.map fun x => Value.int .i64 x).toArray := by
  obtain ⟨⟨l⟩, rfl, hsz, ts, hts, _, hc⟩ := hv
  rw [hn] at hsz
  have hsz : l.length = n := hsz
  obtain rfl := Option.some.inj (hl.symm.trans hts)
  have hall : ∀ x, x ∈ l → ∃ k, x = .int .i64 k := fun x hx => by
    obtain ⟨i, hi, rfl⟩ := List.getElem_of_mem hx
    obtain ⟨t, ht, hok⟩ := hc i l[i] (by simp [List.getElem?_eq_getElem hi])
    have : t = 3 := by
      rw [List.getElem?_replicate] at ht
      split at ht
      · exact (Option.some.inj ht).symm
      · cases ht
    subst this
    exact leaf_int hok
  clear hc hts hsz hl
  refine ⟨l.map intOf, by simpa using ‹l.length = n›, ?_⟩
  have e : (l.map intOf).map (fun x => Value.int .i64 x) = l := by
    rw [List.map_map]
    have h2 : l.map ((fun x => Value.int .i64 x) ∘ intOf) = l.map id := List.map_congr_left fun x hx => by
      obtain ⟨k, rfl⟩ := hall x hx
      rfl
    rw [h2, List.map_id]
  rw [e]
theorem cells23 : Tryd.prog.cellsOf 23 = 8 := by kernel_rfl
theorem cells25 : Tryd.prog.cellsOf 25 = 6 := by kernel_rfl
theorem cells41 : Tryd.prog.cellsOf 41 = 3 := by kernel_rfl
theorem cells52 : Tryd.prog.cellsOf 52 = 5 := by kernel_rfl
theorem cells78 : Tryd.prog.cellsOf 78 = 2 := by kernel_rfl
theorem open_winch (hv : Value.okWide Tryd.prog W r base 23 v) : ∃ f : Wi, v = .agg f.cells.toArray := by
  obtain ⟨xs, hx, rfl⟩ := open_ints cells23 (by kernel_rfl) (show _ by simpa only [Value.okWide, Tryd.underlying23] using hv)
  obtain ⟨a, b, c, d, e, f, g, i, rfl⟩ := list8 hx
  exact ⟨⟨a, b, c, d, e, f, g, i⟩, rfl⟩
theorem open_tow (hv : Value.okWide Tryd.prog W r base 25 v) : ∃ f : To, v = .agg f.cells.toArray := by
  obtain ⟨xs, hx, rfl⟩ := open_ints cells25 (by kernel_rfl) (show _ by simpa only [Value.okWide, Tryd.underlying25] using hv)
  obtain ⟨a, b, c, d, e, f, rfl⟩ := list6 hx
  exact ⟨⟨a, b, c, d, e, f⟩, rfl⟩
theorem open_hull (hv : Value.okWide Tryd.prog W r base 41 v) : ∃ f : Hu, v = .agg f.cells.toArray := by
  obtain ⟨xs, hx, rfl⟩ := open_ints cells41 (by kernel_rfl) (show _ by simpa only [Value.okWide, Tryd.underlying41] using hv)
  obtain ⟨a, b, c, rfl⟩ := list3 hx
  exact ⟨⟨a, b, c⟩, rfl⟩
theorem open_ground (hv : Value.okWide Tryd.prog W r base 52 v) : ∃ f : Gr, v = .agg f.cells.toArray := by
  obtain ⟨xs, hx, rfl⟩ := open_ints cells52 (by kernel_rfl) (show _ by simpa only [Value.okWide, Tryd.underlying52] using hv)
  obtain ⟨a, b, c, d, e, rfl⟩ := list5 hx
  exact ⟨⟨a, b, c, d, e⟩, rfl⟩
theorem open_order (hv : Value.okWide Tryd.prog W r base 78 v) : ∃ e : Int × Int, v = .agg (edgeC e).toArray := by
  obtain ⟨xs, hx, rfl⟩ := open_ints cells78 (by kernel_rfl) (show _ by simpa only [Value.okWide, Tryd.underlying78] using hv)
  obtain ⟨a, b, rfl⟩ := list2 hx
  exact ⟨(a, b), rfl⟩
end
end Go.Proofs.YtfmigicmfolbjaaDoor
