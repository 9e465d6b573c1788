/-
  slices.ContainsFunc and 'all' of a list, instance by instance.
-/
import Derived.Test.YtghkfopcjdkieaaDoorU5
namespace Go.Proofs.YtghkfopcjdkieaaDoor
set_option linter.all false
set_option linter.unusedSimpArgs false
set_option linter.unusedVariables false
open Go.RowKit

theorem First.all {p : Nat → Bool} {len : Nat} {r : Int} (h : First (fun i => !(p i)) len r) : (!(decide (0 ≤ r))) = true ↔ ∀ i, i < len → p i = true := by
  rcases h with ⟨rfl, h⟩ | ⟨i, hi, rfl, h, _⟩
  · simp only [show ¬ (0 : Int) ≤ -1 by omega, decide_false, Bool.not_false, true_iff]
    intro i hi
    simpa using h i hi
  · have hd : decide (0 ≤ (i : Int)) = true := decide_eq_true (by omega)
    rw [hd]
    simp only [Bool.not_true, Bool.false_eq_true, false_iff]
    intro hall
    have := hall i hi
    simp [this] at h
set_option maxRecDepth 100000 in
set_option maxHeartbeats 4000000 in
theorem contA3 (g : FuncId) (caps : Array Value) (hen : Enters g) (ad : Option Addr) (b off len cap : Nat) (w : World) (had : 0 < len → ad = some ⟨b, off, none⟩) (hl : len ≤ maxLen) (ev : Nat → Value) (p : Nat → Bool)
    (hel : ∀ W, Frm w.heap.size [] w W → ∀ i, i < len → (loadVar 93 ⟨b, off + i * 3, none⟩).run Tryd.prog W = .ok (ev i) W)
    (hg : ∀ W, Frm w.heap.size [] w W → ∀ i, i < len → Calls Tryd.prog g (#[ev i] ++ caps) W fun e w' => e = .returned (.bool (p i)) ∧ Frm W.heap.size [] W w') :
    Calls Tryd.prog 88 #[.slice ad len cap, .func (.func g) #[] caps] w fun e w' => (∃ r : Int, e = .returned (.bool (decide (0 ≤ r))) ∧ First p len r) ∧ Frm w.heap.size [] w w' := by
  have hin := fun W (hW : Frm w.heap.size [] w W) => indexA3 g caps hen ad b off len cap W had hl ev p (fun V hV => hel V (hW.call hV hW.size (by simp))) (fun V hV => hg V (hW.call hV hW.size (by simp)))
  have HIN := Lib.hid hin
  clear hin
  clear hel hg had
  go_enter Tryd.func88, Tryd.ntmps88
  go_wp2_with fail
  refine (HIN.out _ (by repeat (first | with_reducible exact Frm.refl _ _ _ | with_reducible refine Frm.drewN ?_ | with_reducible refine Frm.drew ?_ | ((with_reducible refine Frm.setCell' ?_ ?_); · first | (left; simp; done) | (right; simp; done) | (right; simp; omega)) | ((with_reducible refine Frm.alloc' ?_ ?_); · first | exact Nat.le_refl _ | (simp; done) | (simp; omega))))).mono ?_; rintro e w1 ⟨⟨r, rfl, hr⟩, hf1⟩
  by_cases h0 : 0 ≤ r
  · have HR := Lib.hid hr
    have HF1 := Lib.hid hf1
    clear hf1 hr
    go_wp2_with fail
    go_ret
    exact ⟨⟨r, by rw [decide_eq_true h0]; rfl, HR.out⟩, HF1.out⟩
  · have HR := Lib.hid hr
    have HF1 := Lib.hid hf1
    clear hf1 hr
    go_wp2_with fail
    go_ret
    exact ⟨⟨r, rfl, HR.out⟩, HF1.out⟩
set_option maxRecDepth 100000 in
set_option maxHeartbeats 4000000 in
theorem allA3 (g : FuncId) (caps : Array Value) (hen : Enters g) (ad : Option Addr) (b off len cap : Nat) (w : World) (had : 0 < len → ad = some ⟨b, off, none⟩) (hl : len ≤ maxLen) (ev : Nat → List Value) (p : Nat → Bool) (hk : ∀ i, (ev i).length = 3)
    (hel : ∀ W, Frm w.heap.size [] w W → ∀ i, i < len → (loadVar 93 ⟨b, off + i * 3, none⟩).run Tryd.prog W = .ok (.agg (ev i).toArray) W)
    (hg : ∀ W, Frm w.heap.size [] w W → ∀ i, i < len → Calls Tryd.prog g (#[.agg (ev i).toArray] ++ caps) W fun e w' => e = .returned (.bool (p i)) ∧ Frm W.heap.size [] W w') :
    Calls Tryd.prog 53 #[.slice ad len cap, .func (.func g) #[] caps] w fun e w' => (∃ r : Bool, e = .returned (.bool r) ∧ (r = true ↔ ∀ i, i < len → p i = true)) ∧ Frm w.heap.size [] w w' := by
  have hcl : Enters 89 := enters Tryd.func89 (by kernel_rfl) (by kernel_rfl)
  have HEL := Lib.hid hel
  have HG := Lib.hid hg
  have HAD := Lib.hid had
  have HL := Lib.hid hl
  have HEN := Lib.hid hen
  have HCL := Lib.hid hcl
  clear hcl hen hl had hg hel
  go_enter Tryd.func53, Tryd.ntmps53
  iterate 10 go_step
  refine named ?_; intro W hW
  have hx : Blk W w.heap.size 97 [.func (.func g) #[] caps] := by rw [hW]; repeat (first | exact Blk.new w 97 [.func (.func g) #[] caps] | refine Blk.alloc' ?_)
  have hf : Frm w.heap.size [] w W := by rw [hW]; repeat (first | with_reducible exact Frm.refl _ _ _ | with_reducible refine Frm.drewN ?_ | with_reducible refine Frm.drew ?_ | ((with_reducible refine Frm.setCell' ?_ ?_); · first | (left; simp; done) | (right; simp; done) | (right; simp; omega)) | ((with_reducible refine Frm.alloc' ?_ ?_); · first | exact Nat.le_refl _ | (simp; done) | (simp; omega)))
  clear hW
  have hin := contA3 89 #[.pointer (some ⟨w.heap.size, 0, none⟩)] HCL.out ad b off len cap W HAD.out HL.out (fun i => .agg (ev i).toArray) (fun i => !(p i)) (fun V hV => HEL.out V (hf.call hV hf.size (by simp)))
    (fun V hV i hi => allcA3 g caps w.heap.size (ev i) (p i) V ((hV.blk hx hx.lt (by simp)).cell 0) (hk i) HEN.out (fun U hU => HG.out U ((hf.call hV hf.size (by simp)).call hU (Nat.le_trans hf.size hV.size) (by simp)) i hi))
  have HX := Lib.hid hx
  have HF := Lib.hid hf
  have HIN := Lib.hid hin
  clear hin hf hx
  go_wp2_with fail
  refine HIN.out.mono ?_; rintro e w1 ⟨⟨r, rfl, hr⟩, hf1⟩
  have hfin := HF.out.call hf1 HF.out.size (by simp)
  have HR := Lib.hid hr
  have HFIN := Lib.hid hfin
  clear hfin hr
  clear hf1
  go_wp2_with fail
  go_ret
  exact ⟨⟨_, rfl, First.all HR.out⟩, HFIN.out⟩
set_option maxRecDepth 100000 in
set_option maxHeartbeats 4000000 in
theorem contBy (g : FuncId) (caps : Array Value) (hen : Enters g) (ad : Option Addr) (b off len cap : Nat) (w : World) (had : 0 < len → ad = some ⟨b, off, none⟩) (hl : len ≤ maxLen) (ev : Nat → Value) (p : Nat → Bool)
    (hel : ∀ W, Frm w.heap.size [] w W → ∀ i, i < len → (loadVar 5 ⟨b, off + i, none⟩).run Tryd.prog W = .ok (ev i) W)
    (hg : ∀ W, Frm w.heap.size [] w W → ∀ i, i < len → Calls Tryd.prog g (#[ev i] ++ caps) W fun e w' => e = .returned (.bool (p i)) ∧ Frm W.heap.size [] W w') :
    Calls Tryd.prog 117 #[.slice ad len cap, .func (.func g) #[] caps] w fun e w' => (∃ r : Int, e = .returned (.bool (decide (0 ≤ r))) ∧ First p len r) ∧ Frm w.heap.size [] w w' := by
  have hin := fun W (hW : Frm w.heap.size [] w W) => indexBy g caps hen ad b off len cap W had hl ev p (fun V hV => hel V (hW.call hV hW.size (by simp))) (fun V hV => hg V (hW.call hV hW.size (by simp)))
  have HIN := Lib.hid hin
  clear hin
  clear hel hg had
  go_enter Tryd.func117, Tryd.ntmps117
  go_wp2_with fail
  refine (HIN.out _ (by repeat (first | with_reducible exact Frm.refl _ _ _ | with_reducible refine Frm.drewN ?_ | with_reducible refine Frm.drew ?_ | ((with_reducible refine Frm.setCell' ?_ ?_); · first | (left; simp; done) | (right; simp; done) | (right; simp; omega)) | ((with_reducible refine Frm.alloc' ?_ ?_); · first | exact Nat.le_refl _ | (simp; done) | (simp; omega))))).mono ?_; rintro e w1 ⟨⟨r, rfl, hr⟩, hf1⟩
  by_cases h0 : 0 ≤ r
  · have HR := Lib.hid hr
    have HF1 := Lib.hid hf1
    clear hf1 hr
    go_wp2_with fail
    go_ret
    exact ⟨⟨r, by rw [decide_eq_true h0]; rfl, HR.out⟩, HF1.out⟩
  · have HR := Lib.hid hr
    have HF1 := Lib.hid hf1
    clear hf1 hr
    go_wp2_with fail
    go_ret
    exact ⟨⟨r, rfl, HR.out⟩, HF1.out⟩
set_option maxRecDepth 100000 in
set_option maxHeartbeats 4000000 in
theorem allBy (g : FuncId) (caps : Array Value) (hen : Enters g) (ad : Option Addr) (b off len cap : Nat) (w : World) (had : 0 < len → ad = some ⟨b, off, none⟩) (hl : len ≤ maxLen) (ev : Nat → Value) (p : Nat → Bool)
    (hel : ∀ W, Frm w.heap.size [] w W → ∀ i, i < len → (loadVar 5 ⟨b, off + i, none⟩).run Tryd.prog W = .ok (ev i) W)
    (hg : ∀ W, Frm w.heap.size [] w W → ∀ i, i < len → Calls Tryd.prog g (#[ev i] ++ caps) W fun e w' => e = .returned (.bool (p i)) ∧ Frm W.heap.size [] W w') :
    Calls Tryd.prog 86 #[.slice ad len cap, .func (.func g) #[] caps] w fun e w' => (∃ r : Bool, e = .returned (.bool r) ∧ (r = true ↔ ∀ i, i < len → p i = true)) ∧ Frm w.heap.size [] w w' := by
  have hcl : Enters 118 := enters Tryd.func118 (by kernel_rfl) (by kernel_rfl)
  have HEL := Lib.hid hel
  have HG := Lib.hid hg
  have HAD := Lib.hid had
  have HL := Lib.hid hl
  have HEN := Lib.hid hen
  have HCL := Lib.hid hcl
  clear hcl hen hl had hg hel
  go_enter Tryd.func86, Tryd.ntmps86
  iterate 10 go_step
  refine named ?_; intro W hW
  have hx : Blk W w.heap.size 132 [.func (.func g) #[] caps] := by rw [hW]; repeat (first | exact Blk.new w 132 [.func (.func g) #[] caps] | refine Blk.alloc' ?_)
  have hf : Frm w.heap.size [] w W := by rw [hW]; repeat (first | with_reducible exact Frm.refl _ _ _ | with_reducible refine Frm.drewN ?_ | with_reducible refine Frm.drew ?_ | ((with_reducible refine Frm.setCell' ?_ ?_); · first | (left; simp; done) | (right; simp; done) | (right; simp; omega)) | ((with_reducible refine Frm.alloc' ?_ ?_); · first | exact Nat.le_refl _ | (simp; done) | (simp; omega)))
  clear hW
  have hin := contBy 118 #[.pointer (some ⟨w.heap.size, 0, none⟩)] HCL.out ad b off len cap W HAD.out HL.out (fun i => ev i) (fun i => !(p i)) (fun V hV => HEL.out V (hf.call hV hf.size (by simp)))
    (fun V hV i hi => allcBy g caps w.heap.size (ev i) (p i) V ((hV.blk hx hx.lt (by simp)).cell 0) HEN.out (fun U hU => HG.out U ((hf.call hV hf.size (by simp)).call hU (Nat.le_trans hf.size hV.size) (by simp)) i hi))
  have HX := Lib.hid hx
  have HF := Lib.hid hf
  have HIN := Lib.hid hin
  clear hin hf hx
  go_wp2_with fail
  refine HIN.out.mono ?_; rintro e w1 ⟨⟨r, rfl, hr⟩, hf1⟩
  have hfin := HF.out.call hf1 HF.out.size (by simp)
  have HR := Lib.hid hr
  have HFIN := Lib.hid hfin
  clear hfin hr
  clear hf1
  go_wp2_with fail
  go_ret
  exact ⟨⟨_, rfl, First.all HR.out⟩, HFIN.out⟩
set_option maxRecDepth 100000 in
set_option maxHeartbeats 4000000 in
theorem contFr (g : FuncId) (caps : Array Value) (hen : Enters g) (ad : Option Addr) (b off len cap : Nat) (w : World) (had : 0 < len → ad = some ⟨b, off, none⟩) (hl : len ≤ maxLen) (ev : Nat → Value) (p : Nat → Bool)
    (hel : ∀ W, Frm w.heap.size [] w W → ∀ i, i < len → (loadVar 54 ⟨b, off + i * 8, none⟩).run Tryd.prog W = .ok (ev i) W)
    (hg : ∀ W, Frm w.heap.size [] w W → ∀ i, i < len → Calls Tryd.prog g (#[ev i] ++ caps) W fun e w' => e = .returned (.bool (p i)) ∧ Frm W.heap.size [] W w') :
    Calls Tryd.prog 90 #[.slice ad len cap, .func (.func g) #[] caps] w fun e w' => (∃ r : Int, e = .returned (.bool (decide (0 ≤ r))) ∧ First p len r) ∧ Frm w.heap.size [] w w' := by
  have hin := fun W (hW : Frm w.heap.size [] w W) => indexFr g caps hen ad b off len cap W had hl ev p (fun V hV => hel V (hW.call hV hW.size (by simp))) (fun V hV => hg V (hW.call hV hW.size (by simp)))
  have HIN := Lib.hid hin
  clear hin
  clear hel hg had
  go_enter Tryd.func90, Tryd.ntmps90
  go_wp2_with fail
  refine (HIN.out _ (by repeat (first | with_reducible exact Frm.refl _ _ _ | with_reducible refine Frm.drewN ?_ | with_reducible refine Frm.drew ?_ | ((with_reducible refine Frm.setCell' ?_ ?_); · first | (left; simp; done) | (right; simp; done) | (right; simp; omega)) | ((with_reducible refine Frm.alloc' ?_ ?_); · first | exact Nat.le_refl _ | (simp; done) | (simp; omega))))).mono ?_; rintro e w1 ⟨⟨r, rfl, hr⟩, hf1⟩
  by_cases h0 : 0 ≤ r
  · have HR := Lib.hid hr
    have HF1 := Lib.hid hf1
    clear hf1 hr
    go_wp2_with fail
    go_ret
    exact ⟨⟨r, by rw [decide_eq_true h0]; rfl, HR.out⟩, HF1.out⟩
  · have HR := Lib.hid hr
    have HF1 := Lib.hid hf1
    clear hf1 hr
    go_wp2_with fail
    go_ret
    exact ⟨⟨r, rfl, HR.out⟩, HF1.out⟩
set_option maxRecDepth 100000 in
set_option maxHeartbeats 4000000 in
theorem allFr (g : FuncId) (caps : Array Value) (hen : Enters g) (ad : Option Addr) (b off len cap : Nat) (w : World) (had : 0 < len → ad = some ⟨b, off, none⟩) (hl : len ≤ maxLen) (ev : Nat → List Value) (p : Nat → Bool) (hk : ∀ i, (ev i).length = 8)
    (hel : ∀ W, Frm w.heap.size [] w W → ∀ i, i < len → (loadVar 54 ⟨b, off + i * 8, none⟩).run Tryd.prog W = .ok (.agg (ev i).toArray) W)
    (hg : ∀ W, Frm w.heap.size [] w W → ∀ i, i < len → Calls Tryd.prog g (#[.agg (ev i).toArray] ++ caps) W fun e w' => e = .returned (.bool (p i)) ∧ Frm W.heap.size [] W w') :
    Calls Tryd.prog 58 #[.slice ad len cap, .func (.func g) #[] caps] w fun e w' => (∃ r : Bool, e = .returned (.bool r) ∧ (r = true ↔ ∀ i, i < len → p i = true)) ∧ Frm w.heap.size [] w w' := by
  have hcl : Enters 91 := enters Tryd.func91 (by kernel_rfl) (by kernel_rfl)
  have HEL := Lib.hid hel
  have HG := Lib.hid hg
  have HAD := Lib.hid had
  have HL := Lib.hid hl
  have HEN := Lib.hid hen
  have HCL := Lib.hid hcl
  clear hcl hen hl had hg hel
  go_enter Tryd.func58, Tryd.ntmps58
  iterate 10 go_step
  refine named ?_; intro W hW
  have hx : Blk W w.heap.size 99 [.func (.func g) #[] caps] := by rw [hW]; repeat (first | exact Blk.new w 99 [.func (.func g) #[] caps] | refine Blk.alloc' ?_)
  have hf : Frm w.heap.size [] w W := by rw [hW]; repeat (first | with_reducible exact Frm.refl _ _ _ | with_reducible refine Frm.drewN ?_ | with_reducible refine Frm.drew ?_ | ((with_reducible refine Frm.setCell' ?_ ?_); · first | (left; simp; done) | (right; simp; done) | (right; simp; omega)) | ((with_reducible refine Frm.alloc' ?_ ?_); · first | exact Nat.le_refl _ | (simp; done) | (simp; omega)))
  clear hW
  have hin := contFr 91 #[.pointer (some ⟨w.heap.size, 0, none⟩)] HCL.out ad b off len cap W HAD.out HL.out (fun i => .agg (ev i).toArray) (fun i => !(p i)) (fun V hV => HEL.out V (hf.call hV hf.size (by simp)))
    (fun V hV i hi => allcFr g caps w.heap.size (ev i) (p i) V ((hV.blk hx hx.lt (by simp)).cell 0) (hk i) HEN.out (fun U hU => HG.out U ((hf.call hV hf.size (by simp)).call hU (Nat.le_trans hf.size hV.size) (by simp)) i hi))
  have HX := Lib.hid hx
  have HF := Lib.hid hf
  have HIN := Lib.hid hin
  clear hin hf hx
  go_wp2_with fail
  refine HIN.out.mono ?_; rintro e w1 ⟨⟨r, rfl, hr⟩, hf1⟩
  have hfin := HF.out.call hf1 HF.out.size (by simp)
  have HR := Lib.hid hr
  have HFIN := Lib.hid hfin
  clear hfin hr
  clear hf1
  go_wp2_with fail
  go_ret
  exact ⟨⟨_, rfl, First.all HR.out⟩, HFIN.out⟩
set_option maxRecDepth 100000 in
set_option maxHeartbeats 4000000 in
theorem contWy (g : FuncId) (caps : Array Value) (hen : Enters g) (ad : Option Addr) (b off len cap : Nat) (w : World) (had : 0 < len → ad = some ⟨b, off, none⟩) (hl : len ≤ maxLen) (ev : Nat → Value) (p : Nat → Bool)
    (hel : ∀ W, Frm w.heap.size [] w W → ∀ i, i < len → (loadVar 51 ⟨b, off + i * 3, none⟩).run Tryd.prog W = .ok (ev i) W)
    (hg : ∀ W, Frm w.heap.size [] w W → ∀ i, i < len → Calls Tryd.prog g (#[ev i] ++ caps) W fun e w' => e = .returned (.bool (p i)) ∧ Frm W.heap.size [] W w') :
    Calls Tryd.prog 121 #[.slice ad len cap, .func (.func g) #[] caps] w fun e w' => (∃ r : Int, e = .returned (.bool (decide (0 ≤ r))) ∧ First p len r) ∧ Frm w.heap.size [] w w' := by
  have hin := fun W (hW : Frm w.heap.size [] w W) => indexWy g caps hen ad b off len cap W had hl ev p (fun V hV => hel V (hW.call hV hW.size (by simp))) (fun V hV => hg V (hW.call hV hW.size (by simp)))
  have HIN := Lib.hid hin
  clear hin
  clear hel hg had
  go_enter Tryd.func121, Tryd.ntmps121
  go_wp2_with fail
  refine (HIN.out _ (by repeat (first | with_reducible exact Frm.refl _ _ _ | with_reducible refine Frm.drewN ?_ | with_reducible refine Frm.drew ?_ | ((with_reducible refine Frm.setCell' ?_ ?_); · first | (left; simp; done) | (right; simp; done) | (right; simp; omega)) | ((with_reducible refine Frm.alloc' ?_ ?_); · first | exact Nat.le_refl _ | (simp; done) | (simp; omega))))).mono ?_; rintro e w1 ⟨⟨r, rfl, hr⟩, hf1⟩
  by_cases h0 : 0 ≤ r
  · have HR := Lib.hid hr
    have HF1 := Lib.hid hf1
    clear hf1 hr
    go_wp2_with fail
    go_ret
    exact ⟨⟨r, by rw [decide_eq_true h0]; rfl, HR.out⟩, HF1.out⟩
  · have HR := Lib.hid hr
    have HF1 := Lib.hid hf1
    clear hf1 hr
    go_wp2_with fail
    go_ret
    exact ⟨⟨r, rfl, HR.out⟩, HF1.out⟩
set_option maxRecDepth 100000 in
set_option maxHeartbeats 4000000 in
theorem allWy (g : FuncId) (caps : Array Value) (hen : Enters g) (ad : Option Addr) (b off len cap : Nat) (w : World) (had : 0 < len → ad = some ⟨b, off, none⟩) (hl : len ≤ maxLen) (ev : Nat → List Value) (p : Nat → Bool) (hk : ∀ i, (ev i).length = 3)
    (hel : ∀ W, Frm w.heap.size [] w W → ∀ i, i < len → (loadVar 51 ⟨b, off + i * 3, none⟩).run Tryd.prog W = .ok (.agg (ev i).toArray) W)
    (hg : ∀ W, Frm w.heap.size [] w W → ∀ i, i < len → Calls Tryd.prog g (#[.agg (ev i).toArray] ++ caps) W fun e w' => e = .returned (.bool (p i)) ∧ Frm W.heap.size [] W w') :
    Calls Tryd.prog 92 #[.slice ad len cap, .func (.func g) #[] caps] w fun e w' => (∃ r : Bool, e = .returned (.bool r) ∧ (r = true ↔ ∀ i, i < len → p i = true)) ∧ Frm w.heap.size [] w w' := by
  have hcl : Enters 122 := enters Tryd.func122 (by kernel_rfl) (by kernel_rfl)
  have HEL := Lib.hid hel
  have HG := Lib.hid hg
  have HAD := Lib.hid had
  have HL := Lib.hid hl
  have HEN := Lib.hid hen
  have HCL := Lib.hid hcl
  clear hcl hen hl had hg hel
  go_enter Tryd.func92, Tryd.ntmps92
  iterate 10 go_step
  refine named ?_; intro W hW
  have hx : Blk W w.heap.size 134 [.func (.func g) #[] caps] := by rw [hW]; repeat (first | exact Blk.new w 134 [.func (.func g) #[] caps] | refine Blk.alloc' ?_)
  have hf : Frm w.heap.size [] w W := by rw [hW]; repeat (first | with_reducible exact Frm.refl _ _ _ | with_reducible refine Frm.drewN ?_ | with_reducible refine Frm.drew ?_ | ((with_reducible refine Frm.setCell' ?_ ?_); · first | (left; simp; done) | (right; simp; done) | (right; simp; omega)) | ((with_reducible refine Frm.alloc' ?_ ?_); · first | exact Nat.le_refl _ | (simp; done) | (simp; omega)))
  clear hW
  have hin := contWy 122 #[.pointer (some ⟨w.heap.size, 0, none⟩)] HCL.out ad b off len cap W HAD.out HL.out (fun i => .agg (ev i).toArray) (fun i => !(p i)) (fun V hV => HEL.out V (hf.call hV hf.size (by simp)))
    (fun V hV i hi => allcWy g caps w.heap.size (ev i) (p i) V ((hV.blk hx hx.lt (by simp)).cell 0) (hk i) HEN.out (fun U hU => HG.out U ((hf.call hV hf.size (by simp)).call hU (Nat.le_trans hf.size hV.size) (by simp)) i hi))
  have HX := Lib.hid hx
  have HF := Lib.hid hf
  have HIN := Lib.hid hin
  clear hin hf hx
  go_wp2_with fail
  refine HIN.out.mono ?_; rintro e w1 ⟨⟨r, rfl, hr⟩, hf1⟩
  have hfin := HF.out.call hf1 HF.out.size (by simp)
  have HR := Lib.hid hr
  have HFIN := Lib.hid hfin
  clear hfin hr
  clear hf1
  go_wp2_with fail
  go_ret
  exact ⟨⟨_, rfl, First.all HR.out⟩, HFIN.out⟩
set_option maxRecDepth 100000 in
set_option maxHeartbeats 4000000 in
theorem contUn (g : FuncId) (caps : Array Value) (hen : Enters g) (ad : Option Addr) (b off len cap : Nat) (w : World) (had : 0 < len → ad = some ⟨b, off, none⟩) (hl : len ≤ maxLen) (ev : Nat → Value) (p : Nat → Bool)
    (hel : ∀ W, Frm w.heap.size [] w W → ∀ i, i < len → (loadVar 25 ⟨b, off + i * 12, none⟩).run Tryd.prog W = .ok (ev i) W)
    (hg : ∀ W, Frm w.heap.size [] w W → ∀ i, i < len → Calls Tryd.prog g (#[ev i] ++ caps) W fun e w' => e = .returned (.bool (p i)) ∧ Frm W.heap.size [] W w') :
    Calls Tryd.prog 106 #[.slice ad len cap, .func (.func g) #[] caps] w fun e w' => (∃ r : Int, e = .returned (.bool (decide (0 ≤ r))) ∧ First p len r) ∧ Frm w.heap.size [] w w' := by
  have hin := fun W (hW : Frm w.heap.size [] w W) => indexUn g caps hen ad b off len cap W had hl ev p (fun V hV => hel V (hW.call hV hW.size (by simp))) (fun V hV => hg V (hW.call hV hW.size (by simp)))
  have HIN := Lib.hid hin
  clear hin
  clear hel hg had
  go_enter Tryd.func106, Tryd.ntmps106
  go_wp2_with fail
  refine (HIN.out _ (by repeat (first | with_reducible exact Frm.refl _ _ _ | with_reducible refine Frm.drewN ?_ | with_reducible refine Frm.drew ?_ | ((with_reducible refine Frm.setCell' ?_ ?_); · first | (left; simp; done) | (right; simp; done) | (right; simp; omega)) | ((with_reducible refine Frm.alloc' ?_ ?_); · first | exact Nat.le_refl _ | (simp; done) | (simp; omega))))).mono ?_; rintro e w1 ⟨⟨r, rfl, hr⟩, hf1⟩
  by_cases h0 : 0 ≤ r
  · have HR := Lib.hid hr
    have HF1 := Lib.hid hf1
    clear hf1 hr
    go_wp2_with fail
    go_ret
    exact ⟨⟨r, by rw [decide_eq_true h0]; rfl, HR.out⟩, HF1.out⟩
  · have HR := Lib.hid hr
    have HF1 := Lib.hid hf1
    clear hf1 hr
    go_wp2_with fail
    go_ret
    exact ⟨⟨r, rfl, HR.out⟩, HF1.out⟩
set_option maxRecDepth 100000 in
set_option maxHeartbeats 4000000 in
theorem allUn (g : FuncId) (caps : Array Value) (hen : Enters g) (ad : Option Addr) (b off len cap : Nat) (w : World) (had : 0 < len → ad = some ⟨b, off, none⟩) (hl : len ≤ maxLen) (ev : Nat → List Value) (p : Nat → Bool) (hk : ∀ i, (ev i).length = 12)
    (hel : ∀ W, Frm w.heap.size [] w W → ∀ i, i < len → (loadVar 25 ⟨b, off + i * 12, none⟩).run Tryd.prog W = .ok (.agg (ev i).toArray) W)
    (hg : ∀ W, Frm w.heap.size [] w W → ∀ i, i < len → Calls Tryd.prog g (#[.agg (ev i).toArray] ++ caps) W fun e w' => e = .returned (.bool (p i)) ∧ Frm W.heap.size [] W w') :
    Calls Tryd.prog 79 #[.slice ad len cap, .func (.func g) #[] caps] w fun e w' => (∃ r : Bool, e = .returned (.bool r) ∧ (r = true ↔ ∀ i, i < len → p i = true)) ∧ Frm w.heap.size [] w w' := by
  have hcl : Enters 107 := enters Tryd.func107 (by kernel_rfl) (by kernel_rfl)
  have HEL := Lib.hid hel
  have HG := Lib.hid hg
  have HAD := Lib.hid had
  have HL := Lib.hid hl
  have HEN := Lib.hid hen
  have HCL := Lib.hid hcl
  clear hcl hen hl had hg hel
  go_enter Tryd.func79, Tryd.ntmps79
  iterate 10 go_step
  refine named ?_; intro W hW
  have hx : Blk W w.heap.size 28 [.func (.func g) #[] caps] := by rw [hW]; repeat (first | exact Blk.new w 28 [.func (.func g) #[] caps] | refine Blk.alloc' ?_)
  have hf : Frm w.heap.size [] w W := by rw [hW]; repeat (first | with_reducible exact Frm.refl _ _ _ | with_reducible refine Frm.drewN ?_ | with_reducible refine Frm.drew ?_ | ((with_reducible refine Frm.setCell' ?_ ?_); · first | (left; simp; done) | (right; simp; done) | (right; simp; omega)) | ((with_reducible refine Frm.alloc' ?_ ?_); · first | exact Nat.le_refl _ | (simp; done) | (simp; omega)))
  clear hW
  have hin := contUn 107 #[.pointer (some ⟨w.heap.size, 0, none⟩)] HCL.out ad b off len cap W HAD.out HL.out (fun i => .agg (ev i).toArray) (fun i => !(p i)) (fun V hV => HEL.out V (hf.call hV hf.size (by simp)))
    (fun V hV i hi => allcUn g caps w.heap.size (ev i) (p i) V ((hV.blk hx hx.lt (by simp)).cell 0) (hk i) HEN.out (fun U hU => HG.out U ((hf.call hV hf.size (by simp)).call hU (Nat.le_trans hf.size hV.size) (by simp)) i hi))
  have HX := Lib.hid hx
  have HF := Lib.hid hf
  have HIN := Lib.hid hin
  clear hin hf hx
  go_wp2_with fail
  refine HIN.out.mono ?_; rintro e w1 ⟨⟨r, rfl, hr⟩, hf1⟩
  have hfin := HF.out.call hf1 HF.out.size (by simp)
  have HR := Lib.hid hr
  have HFIN := Lib.hid hfin
  clear hfin hr
  clear hf1
  go_wp2_with fail
  go_ret
  exact ⟨⟨_, rfl, First.all HR.out⟩, HFIN.out⟩
set_option maxRecDepth 100000 in
set_option maxHeartbeats 4000000 in
theorem contSp (g : FuncId) (caps : Array Value) (hen : Enters g) (ad : Option Addr) (b off len cap : Nat) (w : World) (had : 0 < len → ad = some ⟨b, off, none⟩) (hl : len ≤ maxLen) (ev : Nat → Value) (p : Nat → Bool)
    (hel : ∀ W, Frm w.heap.size [] w W → ∀ i, i < len → (loadVar 23 ⟨b, off + i * 2, none⟩).run Tryd.prog W = .ok (ev i) W)
    (hg : ∀ W, Frm w.heap.size [] w W → ∀ i, i < len → Calls Tryd.prog g (#[ev i] ++ caps) W fun e w' => e = .returned (.bool (p i)) ∧ Frm W.heap.size [] W w') :
    Calls Tryd.prog 108 #[.slice ad len cap, .func (.func g) #[] caps] w fun e w' => (∃ r : Int, e = .returned (.bool (decide (0 ≤ r))) ∧ First p len r) ∧ Frm w.heap.size [] w w' := by
  have hin := fun W (hW : Frm w.heap.size [] w W) => indexSp g caps hen ad b off len cap W had hl ev p (fun V hV => hel V (hW.call hV hW.size (by simp))) (fun V hV => hg V (hW.call hV hW.size (by simp)))
  have HIN := Lib.hid hin
  clear hin
  clear hel hg had
  go_enter Tryd.func108, Tryd.ntmps108
  go_wp2_with fail
  refine (HIN.out _ (by repeat (first | with_reducible exact Frm.refl _ _ _ | with_reducible refine Frm.drewN ?_ | with_reducible refine Frm.drew ?_ | ((with_reducible refine Frm.setCell' ?_ ?_); · first | (left; simp; done) | (right; simp; done) | (right; simp; omega)) | ((with_reducible refine Frm.alloc' ?_ ?_); · first | exact Nat.le_refl _ | (simp; done) | (simp; omega))))).mono ?_; rintro e w1 ⟨⟨r, rfl, hr⟩, hf1⟩
  by_cases h0 : 0 ≤ r
  · have HR := Lib.hid hr
    have HF1 := Lib.hid hf1
    clear hf1 hr
    go_wp2_with fail
    go_ret
    exact ⟨⟨r, by rw [decide_eq_true h0]; rfl, HR.out⟩, HF1.out⟩
  · have HR := Lib.hid hr
    have HF1 := Lib.hid hf1
    clear hf1 hr
    go_wp2_with fail
    go_ret
    exact ⟨⟨r, rfl, HR.out⟩, HF1.out⟩
set_option maxRecDepth 100000 in
set_option maxHeartbeats 4000000 in
theorem allSp (g : FuncId) (caps : Array Value) (hen : Enters g) (ad : Option Addr) (b off len cap : Nat) (w : World) (had : 0 < len → ad = some ⟨b, off, none⟩) (hl : len ≤ maxLen) (ev : Nat → List Value) (p : Nat → Bool) (hk : ∀ i, (ev i).length = 2)
    (hel : ∀ W, Frm w.heap.size [] w W → ∀ i, i < len → (loadVar 23 ⟨b, off + i * 2, none⟩).run Tryd.prog W = .ok (.agg (ev i).toArray) W)
    (hg : ∀ W, Frm w.heap.size [] w W → ∀ i, i < len → Calls Tryd.prog g (#[.agg (ev i).toArray] ++ caps) W fun e w' => e = .returned (.bool (p i)) ∧ Frm W.heap.size [] W w') :
    Calls Tryd.prog 80 #[.slice ad len cap, .func (.func g) #[] caps] w fun e w' => (∃ r : Bool, e = .returned (.bool r) ∧ (r = true ↔ ∀ i, i < len → p i = true)) ∧ Frm w.heap.size [] w w' := by
  have hcl : Enters 109 := enters Tryd.func109 (by kernel_rfl) (by kernel_rfl)
  have HEL := Lib.hid hel
  have HG := Lib.hid hg
  have HAD := Lib.hid had
  have HL := Lib.hid hl
  have HEN := Lib.hid hen
  have HCL := Lib.hid hcl
  clear hcl hen hl had hg hel
  go_enter Tryd.func80, Tryd.ntmps80
  iterate 10 go_step
  refine named ?_; intro W hW
  have hx : Blk W w.heap.size 55 [.func (.func g) #[] caps] := by rw [hW]; repeat (first | exact Blk.new w 55 [.func (.func g) #[] caps] | refine Blk.alloc' ?_)
  have hf : Frm w.heap.size [] w W := by rw [hW]; repeat (first | with_reducible exact Frm.refl _ _ _ | with_reducible refine Frm.drewN ?_ | with_reducible refine Frm.drew ?_ | ((with_reducible refine Frm.setCell' ?_ ?_); · first | (left; simp; done) | (right; simp; done) | (right; simp; omega)) | ((with_reducible refine Frm.alloc' ?_ ?_); · first | exact Nat.le_refl _ | (simp; done) | (simp; omega)))
  clear hW
  have hin := contSp 109 #[.pointer (some ⟨w.heap.size, 0, none⟩)] HCL.out ad b off len cap W HAD.out HL.out (fun i => .agg (ev i).toArray) (fun i => !(p i)) (fun V hV => HEL.out V (hf.call hV hf.size (by simp)))
    (fun V hV i hi => allcSp g caps w.heap.size (ev i) (p i) V ((hV.blk hx hx.lt (by simp)).cell 0) (hk i) HEN.out (fun U hU => HG.out U ((hf.call hV hf.size (by simp)).call hU (Nat.le_trans hf.size hV.size) (by simp)) i hi))
  have HX := Lib.hid hx
  have HF := Lib.hid hf
  have HIN := Lib.hid hin
  clear hin hf hx
  go_wp2_with fail
  refine HIN.out.mono ?_; rintro e w1 ⟨⟨r, rfl, hr⟩, hf1⟩
  have hfin := HF.out.call hf1 HF.out.size (by simp)
  have HR := Lib.hid hr
  have HFIN := Lib.hid hfin
  clear hfin hr
  clear hf1
  go_wp2_with fail
  go_ret
  exact ⟨⟨_, rfl, First.all HR.out⟩, HFIN.out⟩
set_option maxRecDepth 100000 in
set_option maxHeartbeats 4000000 in
theorem contIn (g : FuncId) (caps : Array Value) (hen : Enters g) (ad : Option Addr) (b off len cap : Nat) (w : World) (had : 0 < len → ad = some ⟨b, off, none⟩) (hl : len ≤ maxLen) (ev : Nat → Value) (p : Nat → Bool)
    (hel : ∀ W, Frm w.heap.size [] w W → ∀ i, i < len → (loadVar 3 ⟨b, off + i, none⟩).run Tryd.prog W = .ok (ev i) W)
    (hg : ∀ W, Frm w.heap.size [] w W → ∀ i, i < len → Calls Tryd.prog g (#[ev i] ++ caps) W fun e w' => e = .returned (.bool (p i)) ∧ Frm W.heap.size [] W w') :
    Calls Tryd.prog 110 #[.slice ad len cap, .func (.func g) #[] caps] w fun e w' => (∃ r : Int, e = .returned (.bool (decide (0 ≤ r))) ∧ First p len r) ∧ Frm w.heap.size [] w w' := by
  have hin := fun W (hW : Frm w.heap.size [] w W) => indexIn g caps hen ad b off len cap W had hl ev p (fun V hV => hel V (hW.call hV hW.size (by simp))) (fun V hV => hg V (hW.call hV hW.size (by simp)))
  have HIN := Lib.hid hin
  clear hin
  clear hel hg had
  go_enter Tryd.func110, Tryd.ntmps110
  go_wp2_with fail
  refine (HIN.out _ (by repeat (first | with_reducible exact Frm.refl _ _ _ | with_reducible refine Frm.drewN ?_ | with_reducible refine Frm.drew ?_ | ((with_reducible refine Frm.setCell' ?_ ?_); · first | (left; simp; done) | (right; simp; done) | (right; simp; omega)) | ((with_reducible refine Frm.alloc' ?_ ?_); · first | exact Nat.le_refl _ | (simp; done) | (simp; omega))))).mono ?_; rintro e w1 ⟨⟨r, rfl, hr⟩, hf1⟩
  by_cases h0 : 0 ≤ r
  · have HR := Lib.hid hr
    have HF1 := Lib.hid hf1
    clear hf1 hr
    go_wp2_with fail
    go_ret
    exact ⟨⟨r, by rw [decide_eq_true h0]; rfl, HR.out⟩, HF1.out⟩
  · have HR := Lib.hid hr
    have HF1 := Lib.hid hf1
    clear hf1 hr
    go_wp2_with fail
    go_ret
    exact ⟨⟨r, rfl, HR.out⟩, HF1.out⟩
set_option maxRecDepth 100000 in
set_option maxHeartbeats 4000000 in
theorem allIn (g : FuncId) (caps : Array Value) (hen : Enters g) (ad : Option Addr) (b off len cap : Nat) (w : World) (had : 0 < len → ad = some ⟨b, off, none⟩) (hl : len ≤ maxLen) (ev : Nat → Value) (p : Nat → Bool)
    (hel : ∀ W, Frm w.heap.size [] w W → ∀ i, i < len → (loadVar 3 ⟨b, off + i, none⟩).run Tryd.prog W = .ok (ev i) W)
    (hg : ∀ W, Frm w.heap.size [] w W → ∀ i, i < len → Calls Tryd.prog g (#[ev i] ++ caps) W fun e w' => e = .returned (.bool (p i)) ∧ Frm W.heap.size [] W w') :
    Calls Tryd.prog 81 #[.slice ad len cap, .func (.func g) #[] caps] w fun e w' => (∃ r : Bool, e = .returned (.bool r) ∧ (r = true ↔ ∀ i, i < len → p i = true)) ∧ Frm w.heap.size [] w w' := by
  have hcl : Enters 111 := enters Tryd.func111 (by kernel_rfl) (by kernel_rfl)
  have HEL := Lib.hid hel
  have HG := Lib.hid hg
  have HAD := Lib.hid had
  have HL := Lib.hid hl
  have HEN := Lib.hid hen
  have HCL := Lib.hid hcl
  clear hcl hen hl had hg hel
  go_enter Tryd.func81, Tryd.ntmps81
  iterate 10 go_step
  refine named ?_; intro W hW
  have hx : Blk W w.heap.size 88 [.func (.func g) #[] caps] := by rw [hW]; repeat (first | exact Blk.new w 88 [.func (.func g) #[] caps] | refine Blk.alloc' ?_)
  have hf : Frm w.heap.size [] w W := by rw [hW]; repeat (first | with_reducible exact Frm.refl _ _ _ | with_reducible refine Frm.drewN ?_ | with_reducible refine Frm.drew ?_ | ((with_reducible refine Frm.setCell' ?_ ?_); · first | (left; simp; done) | (right; simp; done) | (right; simp; omega)) | ((with_reducible refine Frm.alloc' ?_ ?_); · first | exact Nat.le_refl _ | (simp; done) | (simp; omega)))
  clear hW
  have hin := contIn 111 #[.pointer (some ⟨w.heap.size, 0, none⟩)] HCL.out ad b off len cap W HAD.out HL.out (fun i => ev i) (fun i => !(p i)) (fun V hV => HEL.out V (hf.call hV hf.size (by simp)))
    (fun V hV i hi => allcIn g caps w.heap.size (ev i) (p i) V ((hV.blk hx hx.lt (by simp)).cell 0) HEN.out (fun U hU => HG.out U ((hf.call hV hf.size (by simp)).call hU (Nat.le_trans hf.size hV.size) (by simp)) i hi))
  have HX := Lib.hid hx
  have HF := Lib.hid hf
  have HIN := Lib.hid hin
  clear hin hf hx
  go_wp2_with fail
  refine HIN.out.mono ?_; rintro e w1 ⟨⟨r, rfl, hr⟩, hf1⟩
  have hfin := HF.out.call hf1 HF.out.size (by simp)
  have HR := Lib.hid hr
  have HFIN := Lib.hid hfin
  clear hfin hr
  clear hf1
  go_wp2_with fail
  go_ret
  exact ⟨⟨_, rfl, First.all HR.out⟩, HFIN.out⟩
end Go.Proofs.YtghkfopcjdkieaaDoor
