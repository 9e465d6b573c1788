/-
  The way between two places: the least integer whose square is great enough.
-/
import Derived.Test.YtghkfopcjdkieaaDoorU1
namespace Go.Proofs.YtghkfopcjdkieaaDoor
set_option linter.all false
set_option linter.unusedSimpArgs false
set_option linter.unusedVariables false
open Go.RowKit

/-- The least number from 0 on whose square is at least s. -/
structure IsRoot (r s : Int) : Prop where
  pos : 0 ≤ r
  up : s ≤ r * r
  low : 0 < r → (r - 1) * (r - 1) < s
theorem IsRoot.unique {r t s : Int} (h : IsRoot r s) (k : IsRoot t s) : r = t := by
  have key : ∀ {a b : Int}, IsRoot a s → IsRoot b s → a < b → False := fun {a b} ha hb hlt => by
    have h1 := ha.up
    have h2 := hb.low (by have := ha.pos; omega)
    have h3 : a * a ≤ (b - 1) * (b - 1) := Int.mul_le_mul (by omega) (by omega) ha.pos (by have := ha.pos; omega)
    omega
  rcases Int.lt_trichotomy r t with hlt | heq | hgt
  · exact (key h k hlt).elim
  · exact heq
  · exact (key k h hgt).elim
def bis : Nat → Int → Int → Int → Int
  | 0, _, _, hi => hi
  | n + 1, s, lo, hi => if hi - lo ≤ 1 then hi else if s ≤ (lo + hi) / 2 * ((lo + hi) / 2) then bis n s lo ((lo + hi) / 2) else bis n s ((lo + hi) / 2) hi
def wayZ (s : Int) : Int := bis 64 s (-1) 67108864
theorem bis_root (s : Int) : ∀ (n : Nat) (lo hi : Int), -1 ≤ lo → lo < hi → hi - lo ≤ 2 ^ n → s ≤ hi * hi → (lo = -1 ∨ lo * lo < s) → IsRoot (bis n s lo hi) s := by
  have fin : ∀ lo hi : Int, -1 ≤ lo → lo < hi → hi - lo ≤ 1 → s ≤ hi * hi → (lo = -1 ∨ lo * lo < s) → IsRoot hi s := fun lo hi h1 h2 h3 h4 h5 => by
    obtain rfl : hi = lo + 1 := by omega
    refine ⟨by omega, h4, fun h6 => ?_⟩
    rcases h5 with h5 | h5
    · omega
    · rw [show lo + 1 - 1 = lo by omega]; exact h5
  intro n
  induction n with
  | zero => intro lo hi h1 h2 h3 h4 h5; exact fin lo hi h1 h2 (by simpa using h3) h4 h5
  | succ n ih =>
    intro lo hi h1 h2 h3 h4 h5
    unfold bis
    split
    · exact fin lo hi h1 h2 (by assumption) h4 h5
    · rename_i hgt
      have hp : (2 : Int) ^ (n + 1) = 2 * 2 ^ n := by rw [Int.pow_succ]; omega
      have q1 : lo < (lo + hi) / 2 := by omega
      have q2 : (lo + hi) / 2 < hi := by omega
      split
      · rename_i hs
        exact ih lo _ h1 q1 (by omega) hs h5
      · rename_i hs
        exact ih _ hi (by omega) q2 (by omega) h4 (.inr (by omega))
theorem wayZ_root {s : Int} (h : s ≤ 4503599627370496) : IsRoot (wayZ s) s := bis_root s 64 (-1) 67108864 (by omega) (by omega) (by decide) (by omega) (.inl rfl)

theorem sq_nonneg (a : Int) : 0 ≤ a * a := by
  rcases Int.le_total 0 a with h | h
  · exact Int.mul_nonneg h h
  · have := Int.mul_nonneg (show 0 ≤ -a by omega) (show 0 ≤ -a by omega)
    rwa [Int.neg_mul_neg] at this
/-- The bit that is tried when j bits are left. -/
def bitN : Nat → Nat
  | 0 => 0
  | j + 1 => 2 ^ j
structure Rooted (s : Int) (j root : Nat) : Prop where
  mult : root % 2 ^ j = 0
  up : s ≤ ((root + 2 ^ j : Nat) : Int) * ((root + 2 ^ j : Nat) : Int)
  low : root = 0 ∨ (root : Int) * root < s
  small : root + 2 ^ j ≤ 134217728
  few : j ≤ 27

theorem bits_or_nat (r b n : Nat) (hr : r < 4611686018427387904) (hb : b < 4611686018427387904) (h : r ||| b = n) (hn : n < 4611686018427387904) : bits BinOp.or IntKind.i64 (r : Int) (b : Int) = (n : Int) := by
  have e : bits BinOp.or IntKind.i64 (r : Int) (b : Int) = IntKind.i64.wrap (((BitVec.ofInt 64 (r : Int) ||| BitVec.ofInt 64 (b : Int)).toNat : Nat) : Int) := rfl
  rw [e, BitVec.toNat_or, BitVec.ofInt_natCast, BitVec.ofInt_natCast, BitVec.toNat_ofNat, BitVec.toNat_ofNat, Nat.mod_eq_of_lt (by omega), Nat.mod_eq_of_lt (by omega), h]
  exact IntWalk.i64_in _ (by omega)
theorem Rooted.or {s : Int} {i root : Nat} (h : Rooted s (i + 1) root) : root ||| bitN (i + 1) = root + bitN (i + 1) := by
  have hm := h.mult
  have hq : root = 2 ^ (i + 1) * (root / 2 ^ (i + 1)) := by have := Nat.div_add_mod root (2 ^ (i + 1)); omega
  have hb : bitN (i + 1) < 2 ^ (i + 1) := Nat.pow_lt_pow_right (by omega) (by omega)
  rw [hq]
  exact (Nat.two_pow_add_eq_or_of_lt hb _).symm
theorem bitN_half (i : Nat) : bitN (i + 1) / 2 = bitN i := by
  cases i with
  | zero => rfl
  | succ i => show 2 ^ (i + 1) / 2 = 2 ^ i; rw [Nat.pow_succ]; omega
theorem Rooted.yes {s : Int} {i root : Nat} (h : Rooted s (i + 1) root) (hn : ((root + bitN (i + 1) : Nat) : Int) * ((root + bitN (i + 1) : Nat) : Int) < s) : Rooted s i (root + bitN (i + 1)) := by
  have hm := h.mult
  have hu := h.up
  have hsm := h.small
  have e2 : 2 ^ (i + 1) = 2 ^ i + 2 ^ i := by rw [Nat.pow_succ]; omega
  have e1 : bitN (i + 1) = 2 ^ i := rfl
  rw [e1] at hn ⊢
  rw [e2] at hu hsm
  refine ⟨?_, by rw [Nat.add_assoc]; exact hu, .inr hn, by omega, by have := h.few; omega⟩
  have hq : root = 2 ^ i * (2 * (root / 2 ^ (i + 1))) := by
    have := Nat.div_add_mod root (2 ^ (i + 1))
    rw [hm, Nat.add_zero] at this
    rw [← Nat.mul_assoc, ← Nat.pow_succ]
    exact this.symm
  rw [hq]
  exact (by rw [← Nat.mul_succ]; exact Nat.mul_mod_right _ _ : (2 ^ i * (2 * (root / 2 ^ (i + 1))) + 2 ^ i) % 2 ^ i = 0)
theorem Rooted.no {s : Int} {i root : Nat} (h : Rooted s (i + 1) root) (hn : s ≤ ((root + bitN (i + 1) : Nat) : Int) * ((root + bitN (i + 1) : Nat) : Int)) : Rooted s i root := by
  have hm := h.mult
  have hsm := h.small
  have e2 : 2 ^ (i + 1) = 2 ^ i + 2 ^ i := by rw [Nat.pow_succ]; omega
  have e1 : bitN (i + 1) = 2 ^ i := rfl
  rw [e1] at hn
  refine ⟨?_, hn, h.low, by omega, by have := h.few; omega⟩
  have hq : root = 2 ^ i * (2 * (root / 2 ^ (i + 1))) := by
    have := Nat.div_add_mod root (2 ^ (i + 1))
    rw [hm, Nat.add_zero] at this
    rw [← Nat.mul_assoc, ← Nat.pow_succ]
    exact this.symm
  rw [hq]
  exact Nat.mul_mod_right _ _
theorem Rooted.done {s : Int} {root : Nat} (h : Rooted s 0 root) (hs : 0 < s) : IsRoot ((root : Int) + 1) s := by
  have hu := h.up
  refine ⟨by omega, by simpa using hu, fun _ => ?_⟩
  rw [show (root : Int) + 1 - 1 = root by omega]
  rcases h.low with hl | hl
  · rw [hl]; simpa using hs
  · exact hl

/-- The square between two places. -/
def sqZ (x y u v : Int) : Int := (x - u) * (x - u) + (y - v) * (y - v)

set_option maxRecDepth 100000 in
set_option maxHeartbeats 4000000 in
theorem way_any (x y u v : Int) (w : World) (hx : -33554432 ≤ x - u ∧ x - u ≤ 33554432) (hy : -33554432 ≤ y - v ∧ y - v ≤ 33554432) (s : Int) (hs : s = (x - u) * (x - u) + (y - v) * (y - v)) (hs0 : 0 ≤ s) (hs1 : s ≤ 4503599627370496) :
    Calls Tryd.prog 49 #[.agg #[.int .i64 x, .int .i64 y], .agg #[.int .i64 u, .int .i64 v]] w fun e w' => e = .returned (.int .i64 (wayZ s)) ∧ Frm w.heap.size [] w w' := by
  obtain ⟨a, ha⟩ : ∃ a, x - u = a := ⟨_, rfl⟩
  obtain ⟨b, hb⟩ : ∃ b, y - v = b := ⟨_, rfl⟩
  rw [ha] at hx hs
  rw [hb] at hy hs
  have e1 : IntKind.i64.wrap a = a := IntWalk.i64_in _ (by omega)
  have e2 : IntKind.i64.wrap b = b := IntWalk.i64_in _ (by omega)
  have m1 : 0 ≤ a * a := sq_nonneg a
  have m2 : 0 ≤ b * b := sq_nonneg b
  have m3 : a * a ≤ 4503599627370496 := by omega
  have m4 : b * b ≤ 4503599627370496 := by omega
  have HSQ := Lib.hid hs
  clear hs
  go_enter Tryd.func49, Tryd.ntmps49
  iterate 9 go_step
  refine named ?_; intro W hW
  have hx1 : Blk W w.heap.size 23 [.int .i64 x, .int .i64 y] := by rw [hW]; repeat (first | exact Blk.new w 23 [.int .i64 x, .int .i64 y] | refine Blk.alloc' ?_)
  have hx2 : Blk W (w.heap.size + 1) 23 [.int .i64 u, .int .i64 v] := by rw [hW]; exact Blk.new' _ 23 [.int .i64 u, .int .i64 v] (by simp)
  have hf : Frm w.heap.size [] w W := by rw [hW]; repeat (first | with_reducible exact Frm.refl _ _ _ | with_reducible refine Frm.drewN ?_ | with_reducible refine Frm.drew ?_ | ((with_reducible refine Frm.setCell' ?_ ?_); · first | (left; simp; done) | (right; simp; done) | (right; simp; omega)) | ((with_reducible refine Frm.alloc' ?_ ?_); · first | exact Nat.le_refl _ | (simp; done) | (simp; omega)))
  clear hW
  have hfx : ∀ V, Frm W.heap.size [] W V → V.cell? ⟨w.heap.size, 0, none⟩ = some (.int .i64 x) ∧ V.cell? ⟨w.heap.size, 1, none⟩ = some (.int .i64 y) ∧ V.cell? ⟨w.heap.size + 1, 0, none⟩ = some (.int .i64 u) ∧ V.cell? ⟨w.heap.size + 1, 1, none⟩ = some (.int .i64 v) := fun V hV => by
    have b1 := hV.blk hx1 hx1.lt (by simp)
    have b2 := hV.blk hx2 hx2.lt (by simp)
    exact ⟨b1.cell 0, b1.cell 1, b2.cell 0, b2.cell 1⟩
  have HX1 := Lib.hid hx1
  have HX2 := Lib.hid hx2
  have HF := Lib.hid hf
  have HFX := Lib.hid hfx
  clear hfx hf hx2 hx1
  go_wp2_with fail
  refine wp_region_leftL (fun V => Frm W.heap.size [] W V) 100 (by kernel_rfl) ?_
  have hS : Frm W.heap.size [] W W.drew := (Frm.refl _ _ W).drew
  have HS := Lib.hid hS
  clear hS
  refine LeftL.run (v := ?_) 0 rfl (by kernel_rfl) rfl (fun _ _ d _ _ h => by cases d <;> exact h) ?_ HS.out ?_; rotate_left; (· intro V hV; obtain ⟨q0, q1, q2, q3⟩ := HFX.out V hV; clear hV; go_simp; rfl); (intro K' hK'; go_simp; refine hK' _ ?_; clear hK' K')
  refine LeftL.run (v := ?_) 1 rfl (by kernel_rfl) rfl (fun _ _ d _ _ h => by cases d <;> exact h) ?_ HS.out ?_; rotate_left; (· intro V hV; obtain ⟨q0, q1, q2, q3⟩ := HFX.out V hV; clear hV; go_simp; rfl); (intro K' hK'; go_simp; refine hK' _ ?_; clear hK' K')
  refine LeftL.run (v := ?_) 2 rfl (by kernel_rfl) rfl (fun _ _ d _ _ h => by cases d <;> exact h) ?_ HS.out ?_; rotate_left; (· intro V hV; obtain ⟨q0, q1, q2, q3⟩ := HFX.out V hV; clear hV; go_simp; rfl); (intro K' hK'; go_simp; refine hK' _ ?_; clear hK' K')
  refine LeftL.run (v := ?_) 3 rfl (by kernel_rfl) rfl (fun _ _ d _ _ h => by cases d <;> exact h) ?_ HS.out ?_; rotate_left; (· intro V hV; obtain ⟨q0, q1, q2, q3⟩ := HFX.out V hV; clear hV; go_simp; rfl); (intro K' hK'; go_simp; refine hK' _ ?_; clear hK' K')
  refine LeftL.run (v := ?_) 4 rfl (by kernel_rfl) rfl (fun _ _ d _ _ h => by cases d <;> exact h) ?_ HS.out ?_; rotate_left; (· intro V hV; obtain ⟨q0, q1, q2, q3⟩ := HFX.out V hV; clear hV; go_simp; rfl); (intro K' hK'; go_simp; refine hK' _ ?_; clear hK' K')
  refine LeftL.run (v := ?_) 5 rfl (by kernel_rfl) rfl (fun _ _ d _ _ h => by cases d <;> exact h) ?_ HS.out ?_; rotate_left; (· intro V hV; obtain ⟨q0, q1, q2, q3⟩ := HFX.out V hV; clear hV; go_simp; rfl); (intro K' hK'; go_simp; refine hK' _ ?_; clear hK' K')
  refine LeftL.run (v := ?_) 6 rfl (by kernel_rfl) rfl (fun _ _ d _ _ h => by cases d <;> exact h) ?_ HS.out ?_; rotate_left; (· intro V hV; obtain ⟨q0, q1, q2, q3⟩ := HFX.out V hV; clear hV; go_simp; rfl); (intro K' hK'; go_simp; refine hK' _ ?_; clear hK' K')
  refine LeftL.run (v := ?_) 7 rfl (by kernel_rfl) rfl (fun _ _ d _ _ h => by cases d <;> exact h) ?_ HS.out ?_; rotate_left; (· intro V hV; obtain ⟨q0, q1, q2, q3⟩ := HFX.out V hV; clear hV; go_simp; rfl); (intro K' hK'; go_simp; refine hK' _ ?_; clear hK' K')
  refine LeftL.run (v := ?_) 8 rfl (by kernel_rfl) rfl (fun _ _ d _ _ h => by cases d <;> exact h) ?_ HS.out ?_; rotate_left; (· intro V hV; obtain ⟨q0, q1, q2, q3⟩ := HFX.out V hV; clear hV; go_simp; rfl); (intro K' hK'; go_simp; refine hK' _ ?_; clear hK' K')
  refine LeftL.run (v := ?_) 9 rfl (by kernel_rfl) rfl (fun _ _ d _ _ h => by cases d <;> exact h) ?_ HS.out ?_; rotate_left; (· intro V hV; obtain ⟨q0, q1, q2, q3⟩ := HFX.out V hV; clear hV; go_simp; rfl); (intro K' hK'; go_simp; refine hK' _ ?_; clear hK' K')
  refine LeftL.one 10 rfl (by kernel_rfl) ?_
  go_wp2_with fail
  first | refine ⟨fun _ => HS.out, ?_⟩ | refine ⟨HS.out, ?_⟩
  refine LeftL.one 11 rfl (by kernel_rfl) ?_
  go_wp2_with fail
  first | refine ⟨fun _ => HS.out, ?_⟩ | refine ⟨HS.out, ?_⟩
  refine LeftL.done (by kernel_rfl) ?_
  clear e1 e2 ha hb
  go_wp2_with fail
  obtain ⟨s', hs'⟩ : ∃ s', a * a + b * b = s' := ⟨_, rfl⟩
  rw [hs']
  have hss : s' = s := by rw [HSQ.out, hs']
  subst hss
  have HSQ2 := Lib.hid hs'
  have M3 := Lib.hid m3
  have M4 := Lib.hid m4
  have M1 := Lib.hid m1
  have M2 := Lib.hid m2
  have HX := Lib.hid hx
  have HY := Lib.hid hy
  clear hy hx m2 m1 m4 m3 hs'
  clear HFX HS
  go_loopw [8, 9, 10] (fun r8 r9 _ wr => ∃ j root : Nat, r8 = .int .i64 root ∧ r9 = .int .i64 (bitN j) ∧ Rooted s' j root ∧ wr = W.drew) (fun _ r9 _ _ => (intOf r9).toNat)
  case atStart => exact ⟨27, 0, rfl, rfl, ⟨by decide, by simpa using (by omega : s' ≤ 134217728 * 134217728), .inl rfl, by decide, by decide⟩, rfl⟩
  case round =>
    obtain ⟨j, root, rfl, rfl, hr, rfl⟩ := hrel
    have hroot : (root : Int) ≤ 134217728 := by have := hr.small; have := Nat.two_pow_pos j; omega
    cases j with
    | zero =>
      have hb0 : ((bitN 0 : Nat) : Int) = 0 := rfl
      have hfin : Frm w.heap.size [] w W.drew := HF.out.drew
      by_cases h0 : s' = 0
      · have HR := Lib.hid hr
        have HFIN := Lib.hid hfin
        clear hfin hr
        go_wp2_with fail
        go_ret
        have e : wayZ s' = 0 := (wayZ_root (by omega)).unique ⟨by omega, by omega, by omega⟩
        exact ⟨by rw [e]; rfl, HFIN.out⟩
      · have HR := Lib.hid hr
        have HFIN := Lib.hid hfin
        clear hfin hr
        go_wp2_with fail
        go_ret
        have e : wayZ s' = (root : Int) + 1 := (wayZ_root (by omega)).unique (HR.out.done (by omega))
        exact ⟨by rw [e]; rfl, HFIN.out⟩
    | succ i =>
      obtain ⟨bt, hbt⟩ : ∃ bt, bitN (i + 1) = bt := ⟨_, rfl⟩
      have hsm := hr.small
      have hor := hr.or
      have hhalf := bitN_half i
      have hno := hr.no
      have hyes := hr.yes
      have hle : bitN (i + 1) ≤ 2 ^ (i + 1) := Nat.pow_le_pow_right (by omega) (by omega)
      rw [hbt] at hor hhalf hno hyes hle ⊢
      have hbp : 0 < bt := by rw [← hbt]; exact Nat.two_pow_pos i
      have hbp' : (0 : Int) < (bt : Int) := by omega
      obtain ⟨nn, hnn⟩ : ∃ nn, root + bt = nn := ⟨_, rfl⟩
      rw [hnn] at hor hno hyes
      have hbits : bits BinOp.or IntKind.i64 (root : Int) (bt : Int) = (nn : Int) := bits_or_nat root bt nn (by omega) (by omega) hor (by omega)
      have hnb : (nn : Int) ≤ 134217728 := by omega
      have hnb0 : (0 : Int) ≤ (nn : Int) * (nn : Int) := sq_nonneg _
      have hnb1 : (nn : Int) * (nn : Int) ≤ 134217728 * 134217728 := Int.mul_le_mul hnb hnb (by omega) (by omega)
      have hhalf' : (bt : Int) / 2 = ((bitN i : Nat) : Int) := by rw [← hhalf]; omega
      have hlt : bitN i < bt := by omega
      by_cases hn : (nn : Int) * (nn : Int) < s'
      · have key := hyes hn
        have HR := Lib.hid hr
        have HBT := Lib.hid hbt
        have KEY := Lib.hid key
        have HOR := Lib.hid hor
        have HHALF := Lib.hid hhalf
        have HNO := Lib.hid hno
        have HYES := Lib.hid hyes
        have HLE := Lib.hid hle
        have HNN := Lib.hid hnn
        have HSM := Lib.hid hsm
        have HLT := Lib.hid hlt
        clear hlt hsm hnn hle hyes hno hhalf hor key hbt hr
        go_wp2_with fail
        exact ⟨⟨i, nn, rfl, rfl, KEY.out, trivial⟩, by have := HLT.out; simp [intOf]; omega⟩
      · have key := hno (by omega)
        have HR := Lib.hid hr
        have HBT := Lib.hid hbt
        have KEY := Lib.hid key
        have HOR := Lib.hid hor
        have HHALF := Lib.hid hhalf
        have HNO := Lib.hid hno
        have HYES := Lib.hid hyes
        have HLE := Lib.hid hle
        have HNN := Lib.hid hnn
        have HSM := Lib.hid hsm
        have HLT := Lib.hid hlt
        clear hlt hsm hnn hle hyes hno hhalf hor key hbt hr
        go_wp2_with fail
        exact ⟨⟨i, root, rfl, rfl, KEY.out, trivial⟩, by have := HLT.out; simp [intOf]; omega⟩

theorem bis_stop (n : Nat) (s lo hi : Int) (h : hi - lo ≤ 1) : bis n s lo hi = hi := by
  cases n with
  | zero => rfl
  | succ n => unfold bis; rw [if_pos h]
set_option maxRecDepth 100000 in
set_option maxHeartbeats 4000000 in
theorem refWay_any (x y u v : Int) (w : World) (hx : -33554432 ≤ x - u ∧ x - u ≤ 33554432) (hy : -33554432 ≤ y - v ∧ y - v ≤ 33554432) (s : Int) (hs : s = (x - u) * (x - u) + (y - v) * (y - v)) (hs0 : 0 ≤ s) (hs1 : s ≤ 4503599627370496) :
    Calls Tryd.prog 50 #[.agg #[.int .i64 x, .int .i64 y], .agg #[.int .i64 u, .int .i64 v]] w fun e w' => e = .returned (.int .i64 (wayZ s)) ∧ Frm w.heap.size [] w w' := by
  obtain ⟨a, ha⟩ : ∃ a, x - u = a := ⟨_, rfl⟩
  obtain ⟨b, hb⟩ : ∃ b, y - v = b := ⟨_, rfl⟩
  rw [ha] at hx hs
  rw [hb] at hy hs
  have e1 : IntKind.i64.wrap a = a := IntWalk.i64_in _ (by omega)
  have e2 : IntKind.i64.wrap b = b := IntWalk.i64_in _ (by omega)
  have m1 : 0 ≤ a * a := sq_nonneg a
  have m2 : 0 ≤ b * b := sq_nonneg b
  have m3 : a * a ≤ 4503599627370496 := by omega
  have m4 : b * b ≤ 4503599627370496 := by omega
  have HSQ := Lib.hid hs
  clear hs
  go_enter Tryd.func50, Tryd.ntmps50
  iterate 9 go_step
  refine named ?_; intro W hW
  have hx1 : Blk W w.heap.size 23 [.int .i64 x, .int .i64 y] := by rw [hW]; repeat (first | exact Blk.new w 23 [.int .i64 x, .int .i64 y] | refine Blk.alloc' ?_)
  have hx2 : Blk W (w.heap.size + 1) 23 [.int .i64 u, .int .i64 v] := by rw [hW]; exact Blk.new' _ 23 [.int .i64 u, .int .i64 v] (by simp)
  have hf : Frm w.heap.size [] w W := by rw [hW]; repeat (first | with_reducible exact Frm.refl _ _ _ | with_reducible refine Frm.drewN ?_ | with_reducible refine Frm.drew ?_ | ((with_reducible refine Frm.setCell' ?_ ?_); · first | (left; simp; done) | (right; simp; done) | (right; simp; omega)) | ((with_reducible refine Frm.alloc' ?_ ?_); · first | exact Nat.le_refl _ | (simp; done) | (simp; omega)))
  clear hW
  have hfx : ∀ V, Frm W.heap.size [] W V → V.cell? ⟨w.heap.size, 0, none⟩ = some (.int .i64 x) ∧ V.cell? ⟨w.heap.size, 1, none⟩ = some (.int .i64 y) ∧ V.cell? ⟨w.heap.size + 1, 0, none⟩ = some (.int .i64 u) ∧ V.cell? ⟨w.heap.size + 1, 1, none⟩ = some (.int .i64 v) := fun V hV => by
    have b1 := hV.blk hx1 hx1.lt (by simp)
    have b2 := hV.blk hx2 hx2.lt (by simp)
    exact ⟨b1.cell 0, b1.cell 1, b2.cell 0, b2.cell 1⟩
  have HX1 := Lib.hid hx1
  have HX2 := Lib.hid hx2
  have HF := Lib.hid hf
  have HFX := Lib.hid hfx
  clear hfx hf hx2 hx1
  go_wp2_with fail
  refine wp_region_leftL (fun V => Frm W.heap.size [] W V) 100 (by kernel_rfl) ?_
  have hS : Frm W.heap.size [] W W.drew := (Frm.refl _ _ W).drew
  have HS := Lib.hid hS
  clear hS
  refine LeftL.run (v := ?_) 0 rfl (by kernel_rfl) rfl (fun _ _ d _ _ h => by cases d <;> exact h) ?_ HS.out ?_; rotate_left; (· intro V hV; obtain ⟨q0, q1, q2, q3⟩ := HFX.out V hV; clear hV; go_simp; rfl); (intro K' hK'; go_simp; refine hK' _ ?_; clear hK' K')
  refine LeftL.run (v := ?_) 1 rfl (by kernel_rfl) rfl (fun _ _ d _ _ h => by cases d <;> exact h) ?_ HS.out ?_; rotate_left; (· intro V hV; obtain ⟨q0, q1, q2, q3⟩ := HFX.out V hV; clear hV; go_simp; rfl); (intro K' hK'; go_simp; refine hK' _ ?_; clear hK' K')
  refine LeftL.run (v := ?_) 2 rfl (by kernel_rfl) rfl (fun _ _ d _ _ h => by cases d <;> exact h) ?_ HS.out ?_; rotate_left; (· intro V hV; obtain ⟨q0, q1, q2, q3⟩ := HFX.out V hV; clear hV; go_simp; rfl); (intro K' hK'; go_simp; refine hK' _ ?_; clear hK' K')
  refine LeftL.run (v := ?_) 3 rfl (by kernel_rfl) rfl (fun _ _ d _ _ h => by cases d <;> exact h) ?_ HS.out ?_; rotate_left; (· intro V hV; obtain ⟨q0, q1, q2, q3⟩ := HFX.out V hV; clear hV; go_simp; rfl); (intro K' hK'; go_simp; refine hK' _ ?_; clear hK' K')
  refine LeftL.run (v := ?_) 4 rfl (by kernel_rfl) rfl (fun _ _ d _ _ h => by cases d <;> exact h) ?_ HS.out ?_; rotate_left; (· intro V hV; obtain ⟨q0, q1, q2, q3⟩ := HFX.out V hV; clear hV; go_simp; rfl); (intro K' hK'; go_simp; refine hK' _ ?_; clear hK' K')
  refine LeftL.run (v := ?_) 5 rfl (by kernel_rfl) rfl (fun _ _ d _ _ h => by cases d <;> exact h) ?_ HS.out ?_; rotate_left; (· intro V hV; obtain ⟨q0, q1, q2, q3⟩ := HFX.out V hV; clear hV; go_simp; rfl); (intro K' hK'; go_simp; refine hK' _ ?_; clear hK' K')
  refine LeftL.run (v := ?_) 6 rfl (by kernel_rfl) rfl (fun _ _ d _ _ h => by cases d <;> exact h) ?_ HS.out ?_; rotate_left; (· intro V hV; obtain ⟨q0, q1, q2, q3⟩ := HFX.out V hV; clear hV; go_simp; rfl); (intro K' hK'; go_simp; refine hK' _ ?_; clear hK' K')
  refine LeftL.run (v := ?_) 7 rfl (by kernel_rfl) rfl (fun _ _ d _ _ h => by cases d <;> exact h) ?_ HS.out ?_; rotate_left; (· intro V hV; obtain ⟨q0, q1, q2, q3⟩ := HFX.out V hV; clear hV; go_simp; rfl); (intro K' hK'; go_simp; refine hK' _ ?_; clear hK' K')
  refine LeftL.run (v := ?_) 8 rfl (by kernel_rfl) rfl (fun _ _ d _ _ h => by cases d <;> exact h) ?_ HS.out ?_; rotate_left; (· intro V hV; obtain ⟨q0, q1, q2, q3⟩ := HFX.out V hV; clear hV; go_simp; rfl); (intro K' hK'; go_simp; refine hK' _ ?_; clear hK' K')
  refine LeftL.run (v := ?_) 9 rfl (by kernel_rfl) rfl (fun _ _ d _ _ h => by cases d <;> exact h) ?_ HS.out ?_; rotate_left; (· intro V hV; obtain ⟨q0, q1, q2, q3⟩ := HFX.out V hV; clear hV; go_simp; rfl); (intro K' hK'; go_simp; refine hK' _ ?_; clear hK' K')
  refine LeftL.one 10 rfl (by kernel_rfl) ?_
  go_wp2_with fail
  first | refine ⟨fun _ => HS.out, ?_⟩ | refine ⟨HS.out, ?_⟩
  refine LeftL.one 11 rfl (by kernel_rfl) ?_
  go_wp2_with fail
  first | refine ⟨fun _ => HS.out, ?_⟩ | refine ⟨HS.out, ?_⟩
  refine LeftL.done (by kernel_rfl) ?_
  clear e1 e2 ha hb
  go_wp2_with fail
  obtain ⟨s', hs'⟩ : ∃ s', a * a + b * b = s' := ⟨_, rfl⟩
  rw [hs']
  have hss : s' = s := by rw [HSQ.out, hs']
  subst hss
  have HSQ2 := Lib.hid hs'
  have M3 := Lib.hid m3
  have M4 := Lib.hid m4
  have M1 := Lib.hid m1
  have M2 := Lib.hid m2
  have HX := Lib.hid hx
  have HY := Lib.hid hy
  clear hy hx m2 m1 m4 m3 hs'
  clear HFX HS
  go_loopw [8, 9, 10] (fun r8 r9 _ wr => ∃ (n : Nat) (lo hi : Int), r8 = .int .i64 lo ∧ r9 = .int .i64 hi ∧ bis n s' lo hi = wayZ s' ∧ -1 ≤ lo ∧ lo < hi ∧ hi ≤ 67108864 ∧ hi - lo ≤ 2 ^ n ∧ wr = W.drew) (fun r8 r9 _ _ => (intOf r9 - intOf r8).toNat)
  case atStart => exact ⟨64, -1, 67108864, rfl, rfl, rfl, by omega, by omega, by omega, by decide, rfl⟩
  case round =>
    obtain ⟨n, lo, hi, rfl, rfl, hb, h1, h2, h3, h4, rfl⟩ := hrel
    have hfin : Frm w.heap.size [] w W.drew := HF.out.drew
    by_cases hgt : hi - lo ≤ 1
    · have hgt' : ¬ 1 < hi - lo := by omega
      have e := bis_stop n s' lo hi hgt
      rw [hb] at e
      have HBB := Lib.hid hb
      have HFIN := Lib.hid hfin
      have HE := Lib.hid e
      have H4 := Lib.hid h4
      clear h4 e hfin hb
      go_wp2_with fail
      go_ret
      exact ⟨by rw [HE.out]; rfl, HFIN.out⟩
    · have hgt' : 1 < hi - lo := by omega
      have hsum : 0 ≤ lo + hi := by omega
      cases n with
      | zero => exact absurd h4 (by simp; omega)
      | succ n =>
        obtain ⟨md, hmd⟩ : ∃ md, (lo + hi) / 2 = md := ⟨_, rfl⟩
        have hp : (2 : Int) ^ (n + 1) = 2 * 2 ^ n := by rw [Int.pow_succ]; omega
        have q1 : lo < md := by omega
        have q2 : md < hi := by omega
        have q3 : 0 ≤ md := by omega
        have q4 : md ≤ 67108864 := by omega
        have q5 : md * md ≤ 67108864 * 67108864 := Int.mul_le_mul q4 q4 q3 (by omega)
        have q6 : 0 ≤ md * md := sq_nonneg md
        unfold bis at hb
        rw [if_neg hgt, hmd] at hb
        have hmd' : (lo + hi).tdiv 2 = md := by rw [Int.tdiv_eq_ediv_of_nonneg hsum]; exact hmd
        have r1 : md - lo ≤ 2 ^ n := by omega
        have r2 : hi - md ≤ 2 ^ n := by omega
        by_cases hs : s' ≤ md * md
        · rw [if_pos hs] at hb
          have HBB := Lib.hid hb
          have HFIN := Lib.hid hfin
          have H4 := Lib.hid h4
          have HP := Lib.hid hp
          have R1 := Lib.hid r1
          have R2 := Lib.hid r2
          clear r2 r1 hp h4 hfin hb
          go_wp2_with fail
          exact ⟨⟨n, lo, md, rfl, rfl, HBB.out, h1, q1, q4, R1.out, trivial⟩, by simp [intOf]; omega⟩
        · rw [if_neg hs] at hb
          have HBB := Lib.hid hb
          have HFIN := Lib.hid hfin
          have H4 := Lib.hid h4
          have HP := Lib.hid hp
          have R1 := Lib.hid r1
          have R2 := Lib.hid r2
          clear r2 r1 hp h4 hfin hb
          go_wp2_with fail
          exact ⟨⟨n, md, hi, rfl, rfl, HBB.out, by omega, q2, h3, R2.out, trivial⟩, by simp [intOf]; omega⟩
end Go.Proofs.YtghkfopcjdkieaaDoor
