/-
  Which leg, and where on it, by the document.
-/
import Derived.Test.YtghkfopcjdkieaaDoorU22
namespace Go.Proofs.YtghkfopcjdkieaaDoor
open Go.RowKit

def byF (L : Nat → LC) (t : Int) : Nat → Nat → Option Nat
  | _, 0 => none
  | i, k + 1 => if t ≤ (L i).leave then some i else byF L t (i + 1) k
theorem joined_at {n : Nat} {L : Nat → LC} (h : legsB n L = true) {i : Nat} (hi : i + 1 < n) : (L (i + 1)).start = (L i).leave := by
  unfold legsB at h
  simp only [Bool.and_eq_true, List.all_eq_true, List.mem_range] at h
  have := (h.2 (i + 1) hi).2
  simp [joinB] at this
  exact this.2
theorem by_at {n : Nat} {L : Nat → LC} {t : Int} (h : legsB n L = true) : ∀ (k i : Nat), i + k = n → (0 < k → (L i).start ≤ t) → byF L t i k = atF L t i k
  | 0, _, _, _ => rfl
  | k + 1, i, hi, hs => by
    have h1 : ¬ t < (L i).start := by have := hs (by omega); omega
    unfold byF atF
    rw [if_neg h1]
    by_cases h2 : t ≤ (L i).leave
    · rw [if_pos h2, if_pos h2]
    · rw [if_neg h2, if_neg h2]
      exact by_at h k (i + 1) (by omega) (fun hk => by rw [joined_at h (by omega)]; omega)
theorem meas_next2 {n j : Nat} (h : j < n) : n - ((j : Int) + 1).toNat < n - ((j : Int)).toNat := by omega
def byZ (o : Option Nat) : Int := match o with
  | none => -1
  | some i => i

set_option maxRecDepth 100000 in
set_option maxHeartbeats 4000000 in
theorem by_any (ad : Option Addr) (b off n cap : Nat) (L : Nat → LC) (t : Int) (w : World) (hr : Rw w 8 ad b off n fun i => (L i).cells) (hl : legsB n L = true) :
    Calls Tryd.prog 67 #[.slice ad n cap, .int .i64 t] w fun e w' => e = .returned (.int .i64 (byZ (atI n L t))) ∧ Frm w.heap.size [] w w' := by
  have hf0 := Tryd.func67
  have hlen := hr.len
  have hn : 0 < n := by
    unfold legsB at hl
    simp only [Bool.and_eq_true, decide_eq_true_eq] at hl
    exact hl.1
  have had := hr.ad hn
  subst had
  have c0 : w.cell? ⟨b, off + 4, none⟩ = some (.int .i64 (L 0).start) := by have := hr.at_ 0 hn 4 _ rfl; simpa using this
  have hn' : (0 : Int) < (n : Int) := by omega
  have hn2 : ¬ n = 0 := by omega
  obtain ⟨s0, hs0⟩ : ∃ s0, s0 = (L 0).start := ⟨_, rfl⟩
  rw [← hs0] at c0
  by_cases h0 : t < s0
  · have e0 : atI n L t = none := by
      obtain ⟨k, rfl⟩ : ∃ k, n = k + 1 := ⟨n - 1, by omega⟩
      unfold atI atF
      rw [if_pos (by rw [← hs0]; exact h0)]
    have HR := Lib.hid hr
    have HL := Lib.hid hl
    have E0 := Lib.hid e0
    have HS0 := Lib.hid hs0
    clear hs0 e0 hl hr
    go_enter Tryd.func67, Tryd.ntmps67
    go_wp2_with fail
    go_ret
    exact ⟨by rw [E0.out]; rfl, by repeat (first | with_reducible exact Frm.refl _ _ _ | with_reducible refine Frm.drewN ?_ | with_reducible refine Frm.drew ?_ | ((with_reducible refine Frm.setCell' ?_ ?_); · first | (left; simp; done) | (right; simp; done) | (right; simp; omega)) | ((with_reducible refine Frm.alloc' ?_ ?_); · first | exact Nat.le_refl _ | (simp; done) | (simp; omega)))⟩
  · have e0 : atI n L t = byF L t 0 n := (by_at hl n 0 (by omega) (fun _ => by rw [← hs0]; omega)).symm
    have HR := Lib.hid hr
    have HL := Lib.hid hl
    have E0 := Lib.hid e0
    have HS0 := Lib.hid hs0
    clear hs0 e0 hl hr
    go_enter Tryd.func67, Tryd.ntmps67
    go_wp2_with fail
    go_loopw [5] (fun i5 wr => ∃ j : Nat, i5 = .int .i64 j ∧ j ≤ n ∧ atI n L t = byF L t j (n - j) ∧ Frm w.heap.size [] w wr) (fun i5 _ => n - (intOf i5).toNat)
    case atStart => exact ⟨0, rfl, Nat.zero_le _, E0.out, by repeat (first | with_reducible exact Frm.refl _ _ _ | with_reducible refine Frm.drewN ?_ | with_reducible refine Frm.drew ?_ | ((with_reducible refine Frm.setCell' ?_ ?_); · first | (left; simp; done) | (right; simp; done) | (right; simp; omega)) | ((with_reducible refine Frm.alloc' ?_ ?_); · first | exact Nat.le_refl _ | (simp; done) | (simp; omega)))⟩
    case round =>
      obtain ⟨j, rfl, hj, hat, hfr⟩ := hrel
      clear c0
      by_cases hjl : j < n
      · have hjl' : (j : Int) < (n : Int) := by omega
        obtain ⟨k, hk⟩ : ∃ k, n - j = k + 1 := ⟨n - j - 1, by omega⟩
        rw [hk] at hat
        have hk2 : k = n - (j + 1) := by omega
        obtain ⟨lv, hlv⟩ : ∃ lv, lv = (L j).leave := ⟨_, rfl⟩
        have c6 : wr.cell? ⟨b, off + j * 8 + 6, none⟩ = some (.int .i64 lv) := by rw [hlv]; exact (HR.out.frm hfr (Nat.le_refl _)).at_ j hjl 6 _ rfl
        have hat2 : atI n L t = if t ≤ lv then some j else byF L t (j + 1) k := by rw [hat, hlv]; rfl
        clear hat
        have HAT := Lib.hid hat2
        have HFR := Lib.hid hfr
        have HK := Lib.hid hk
        have HK2 := Lib.hid hk2
        have HLV := Lib.hid hlv
        clear hlv hk2 hk hfr hat2
        by_cases h2 : t ≤ lv
        · go_wp2_with fail
          go_ret
          exact ⟨by rw [HAT.out, if_pos h2]; rfl, HFR.out⟩
        · go_wp2_with fail
          have hwr : wrap64 ((j : Int) + 1) = (j : Int) + 1 := IntWalk.wrap64_in _ (by have : n ≤ 9223372036854775807 := hlen; omega)
          exact ⟨⟨j + 1, by rw [hwr]; simp, hjl, by rw [HAT.out, if_neg (by omega), HK2.out], HFR.out⟩, by rw [hwr]; exact meas_next2 hjl⟩
      · have hjl' : ¬ (j : Int) < (n : Int) := by omega
        obtain rfl : j = n := by omega
        have HAT := Lib.hid hat
        have HFR := Lib.hid hfr
        clear hfr hat
        go_wp2_with fail
        go_ret
        exact ⟨by rw [HAT.out, Nat.sub_self]; rfl, HFR.out⟩

theorem ceil_neg {n b : Int} (hb : 1 ≤ b) (h : 0 < n.tmod b) : n.tdiv b + 1 = -((-n) / b) := by
  have h1 := floor_neg (n := -n) hb (by rw [Int.neg_tmod]; omega)
  rw [Int.neg_tdiv] at h1
  omega
theorem ceil_pos {n b : Int} (hb : 1 ≤ b) (h : ¬ 0 < n.tmod b) : n.tdiv b = -((-n) / b) := by
  have h1 := floor_pos (n := -n) hb (by rw [Int.neg_tmod]; omega)
  rw [Int.neg_tdiv] at h1
  omega
def partLow (a b n of : Int) : Int := a + (b - a) * n / of
def partHigh (a b n of : Int) : Int := a - (-((b - a) * n)) / of

set_option maxRecDepth 100000 in
set_option maxHeartbeats 4000000 in
theorem part_any (a b n of : Int) (w : World) (ha : -16777216 ≤ a ∧ a ≤ 16777216) (hb : -16777216 ≤ b ∧ b ≤ 16777216) (hn : 0 ≤ n ∧ n ≤ 1073741824) (ho : 1 ≤ of ∧ of ≤ 1073741824) :
    Calls Tryd.prog 99 #[.int .i64 a, .int .i64 b, .int .i64 n, .int .i64 of] w fun e w' => e = .returned (.tuple #[.int .i64 (partLow a b n of), .int .i64 (partHigh a b n of)]) ∧ Frm w.heap.size [] w w' := by
  have hf0 := Tryd.func99
  obtain ⟨d, hd⟩ : ∃ d, d = b - a := ⟨_, rfl⟩
  obtain ⟨x, hx⟩ : ∃ x, x = d * n := ⟨_, rfl⟩
  have ix := mul_in (a := d) (n := n) (by omega) hn
  rw [← hx] at ix
  have j1 := quo_in ix ho.1
  have j2 := quo_in (a := -x) (by omega) ho.1
  have e1 : partLow a b n of = a + x / of := by unfold partLow; rw [hx, hd]
  have e2 : partHigh a b n of = a - (-x) / of := by unfold partHigh; rw [hx, hd]
  have w1 : wrap64 (b - a) = d := by rw [hd]; exact IntWalk.wrap64_in _ (by omega)
  have w2 : wrap64 (d * n) = x := by rw [← hx]; exact IntWalk.wrap64_in _ (by omega)
  have w3 : wrap64 ((b - a) * n) = x := by rw [← hd, ← hx]; exact IntWalk.wrap64_in _ (by omega)
  have w4 : IntKind.i64.wrap (b - a) = d := by rw [hd]; exact IntWalk.i64_in _ (by omega)
  have w5 : IntKind.i64.wrap (d * n) = x := by rw [← hx]; exact IntWalk.i64_in _ (by omega)
  have ho0 : ¬ of = 0 := by omega
  have ho1 := ho.1
  have hq : -36028797018963969 ≤ x.tdiv of ∧ x.tdiv of ≤ 36028797018963969 := by
    by_cases h : x.tmod of < 0
    · have := floor_neg ho.1 h; omega
    · have := floor_pos ho.1 h; omega
  obtain ⟨q, hqq⟩ : ∃ q, q = x.tdiv of := ⟨_, rfl⟩
  obtain ⟨r, hrr⟩ : ∃ r, r = x.tmod of := ⟨_, rfl⟩
  rw [← hqq] at hq
  have v1 : IntKind.i64.wrap (x.tdiv of) = q := by rw [← hqq]; exact IntWalk.i64_in _ (by omega)
  have v1b : wrap64 (x.tdiv of) = q := by rw [← hqq]; exact IntWalk.wrap64_in _ (by omega)
  have v4b : wrap64 q = q := IntWalk.wrap64_in _ (by omega)
  have v2 : x.tmod of = r := hrr.symm
  have v3 : x.tdiv of = q := hqq.symm
  have v4 : IntKind.i64.wrap q = q := IntWalk.i64_in _ (by omega)
  have v5 : wrap64 (a + q) = a + q := IntWalk.wrap64_in _ (by omega)
  have v6 : wrap64 (a + q - 1) = a + q - 1 := IntWalk.wrap64_in _ (by omega)
  have v7 : wrap64 (a + q + 1) = a + q + 1 := IntWalk.wrap64_in _ (by omega)
  have hneg : r < 0 → q - 1 = x / of ∧ q = -((-x) / of) := fun h => by
    rw [hqq]; rw [hrr] at h; exact ⟨floor_neg ho.1 h, ceil_pos ho.1 (by omega)⟩
  have hpos : 0 < r → q = x / of ∧ q + 1 = -((-x) / of) := fun h => by
    rw [hqq]; rw [hrr] at h; exact ⟨floor_pos ho.1 (by omega), ceil_neg ho.1 h⟩
  have hzer : ¬ r < 0 → ¬ 0 < r → q = x / of ∧ q = -((-x) / of) := fun h h' => by
    rw [hqq]; rw [hrr] at h h'; exact ⟨floor_pos ho.1 h, ceil_pos ho.1 h'⟩
  clear hd hx hqq hrr ix j1 j2
  have E1 := Lib.hid e1
  have E2 := Lib.hid e2
  have HNEG := Lib.hid hneg
  have HPOS := Lib.hid hpos
  have HZER := Lib.hid hzer
  have HQ := Lib.hid hq
  clear hq hzer hpos hneg e2 e1
  go_enter Tryd.func99, Tryd.ntmps99
  go_upto_region 2 with fail
  have hfx : ∀ V, Frm w.heap.size [] w V → True := fun _ _ => trivial
  have HFX := Lib.hid hfx
  clear hfx
  refine wp_region_leftL (fun V => Frm w.heap.size [] w V) 1000 (by kernel_rfl) ?_
  have hS : Frm w.heap.size [] w w.drew := (Frm.refl _ _ w).drew
  have HS := Lib.hid hS
  clear hS
  refine LeftL.run (v := ?_) 0 rfl (by kernel_rfl) rfl (fun _ _ d _ _ h => by cases d <;> exact h) ?_ HS.out ?_; rotate_left; (· intro V hV; obtain q0 := HFX.out V hV; clear hV; go_simp; rfl); (intro K' hK'; go_simp; refine hK' _ ?_; clear hK' K')
  refine LeftL.run (v := ?_) 1 rfl (by kernel_rfl) rfl (fun _ _ d _ _ h => by cases d <;> exact h) ?_ HS.out ?_; rotate_left; (· intro V hV; obtain q0 := HFX.out V hV; clear hV; go_simp; rfl); (intro K' hK'; go_simp; refine hK' _ ?_; clear hK' K')
  refine LeftL.run (v := ?_) 2 rfl (by kernel_rfl) rfl (fun _ _ d _ _ h => by cases d <;> exact h) ?_ HS.out ?_; rotate_left; (· intro V hV; obtain q0 := HFX.out V hV; clear hV; go_simp; rfl); (intro K' hK'; go_simp; refine hK' _ ?_; clear hK' K')
  refine LeftL.run (v := ?_) 3 rfl (by kernel_rfl) rfl (fun _ _ d _ _ h => by cases d <;> exact h) ?_ HS.out ?_; rotate_left; (· intro V hV; obtain q0 := HFX.out V hV; clear hV; go_simp; rfl); (intro K' hK'; go_simp; refine hK' _ ?_; clear hK' K')
  refine LeftL.run (v := ?_) 4 rfl (by kernel_rfl) rfl (fun _ _ d _ _ h => by cases d <;> exact h) ?_ HS.out ?_; rotate_left; (· intro V hV; obtain q0 := HFX.out V hV; clear hV; go_simp; rfl); (intro K' hK'; go_simp; refine hK' _ ?_; clear hK' K')
  refine LeftL.run (v := ?_) 5 rfl (by kernel_rfl) rfl (fun _ _ d _ _ h => by cases d <;> exact h) ?_ HS.out ?_; rotate_left; (· intro V hV; obtain q0 := HFX.out V hV; clear hV; go_simp; rfl); (intro K' hK'; go_simp; refine hK' _ ?_; clear hK' K')
  refine LeftL.one 6 rfl (by kernel_rfl) ?_
  go_wp2_with fail
  first | refine ⟨fun _ => HS.out, ?_⟩ | refine ⟨HS.out, ?_⟩
  refine LeftL.one 7 rfl (by kernel_rfl) ?_
  go_wp2_with fail
  first | refine ⟨fun _ => HS.out, ?_⟩ | refine ⟨HS.out, ?_⟩
  refine LeftL.done (by kernel_rfl) ?_
  have hfin : Frm w.heap.size [] w w.drew := HS.out
  by_cases h1 : r < 0
  · go_wp2_with fail
    refine bodyPost_ret (v := .tuple #[.int .i64 (a + q - 1), .int .i64 (a + q)]) (by simp [results, Tryd.results99, go_sem, v5, v6, v7]) rfl ?_
    have := HNEG.out h1
    exact ⟨by rw [E1.out, E2.out]; simp; omega, HS.out⟩
  · by_cases h2 : 0 < r
    · go_wp2_with fail
      refine bodyPost_ret (v := .tuple #[.int .i64 (a + q), .int .i64 (a + q + 1)]) (by simp [results, Tryd.results99, go_sem, v5, v6, v7]) rfl ?_
      have := HPOS.out h2
      exact ⟨by rw [E1.out, E2.out]; simp; omega, HS.out⟩
    · go_wp2_with fail
      refine bodyPost_ret (v := .tuple #[.int .i64 (a + q), .int .i64 (a + q)]) (by simp [results, Tryd.results99, go_sem, v5, v6, v7]) rfl ?_
      have := HZER.out (by omega) (by omega)
      exact ⟨by rw [E1.out, E2.out]; simp; omega, HS.out⟩
end Go.Proofs.YtghkfopcjdkieaaDoor
