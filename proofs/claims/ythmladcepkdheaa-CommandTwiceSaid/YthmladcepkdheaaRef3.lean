/-
  A centre of the program and the document's centre go side by side.
-/
import Derived.Test.YthmladcepkdheaaRef2
namespace Go.Proofs.Ythmladcepkdheaa
open Go.RowKit

/-! ### What each call answers, in one word -/
def CS.want (c : CS) (n : Int) : CS × Int := if inB n 0 (c.g.length - 1) = true then ({ c with wanted := n }, 0) else (c, 7)
def CS.heard (c : CS) (k n m : Int) : CS × (Int × Int × Int) × Int :=
  if wordB k n m = false then (c, (0, 0, 0), 2) else if (c.g.length : Int) ≤ n then (c, (0, 0, 0), 7) else ((c.hear k n.toNat m).1, (c.hear k n.toNat m).2, 0)
def RS.want (r : RS) (n : Int) : RS × Int := if inB n 0 r.nodes = true then ({ r with wanted := n }, 0) else (r, 7)
def RS.top (r : RS) (n : Nat) (m : Int) : Int := if r.g[n]?.getD 0 < m then m else r.g[n]?.getD 0
def RS.told (r : RS) (k : Int) (n : Nat) (m : Int) : RS × (Int × Int × Int) :=
  if k = 2 then (r, (0, 0, 0))
  else if k = 3 then (if r.lease = n ∧ r.number ≤ m then { r.setG n (r.top n m) with lease := 0 } else r.setG n (r.top n m), (0, 0, 0))
  else if r.g[n]?.getD 0 < m ∧ r.wanted = n ∧ (r.lease = 0 ∨ r.lease = n) then ({ r.setG n m with lease := n, number := m, since := r.now }, (2, n, m))
  else (r.setG n (r.top n m), (0, 0, 0))
def RS.heard (r : RS) (k n m : Int) : RS × (Int × Int × Int) × Int :=
  if wordB k n m = false then (r, (0, 0, 0), 2) else if r.nodes < n then (r, (0, 0, 0), 7) else ((r.told k n.toNat m).1, (r.told k n.toNat m).2, 0)
def RS.brk (r : RS) : RS := { r with lease := -1, number := 0, since := r.now }

section
variable {o w : World} {X : List (Nat × Obj)} {bc bG bM : Nat} {c : CS} {ns : List NP}
theorem sysWantAny (h : Syst o w X bc bG bM c ns) (n : Int) (hg : c.g.length ≤ 100000) :
    Calls Try.prog 29 #[.pointer (some ⟨bc, 0, none⟩), .int .i64 n] w fun e w' => e = .returned (.int .i64 (c.want n).2) ∧ Syst o w' X bc bG bM (c.want n).1 ns := by
  unfold CS.want
  cases hi : inB n 0 (c.g.length - 1) with
  | true => exact sysWant h n hg hi
  | false =>
    refine (centWant_no bc w n h.cent hg hi).mono ?_
    rintro e w' ⟨he, rfl⟩
    exact ⟨he, h⟩
theorem sysHearAny (h : Syst o w X bc bG bM c ns) (k n m : Int) (hg : c.g.length ≤ 100000) :
    Calls Try.prog 31 #[.pointer (some ⟨bc, 0, none⟩), wordV (k, n, m)] w fun e w' => e = .returned (.tuple #[wordV (c.heard k n m).2.1, .int .i64 (c.heard k n m).2.2]) ∧ Syst o w' X bc bG bM (c.heard k n m).1 ns := by
  unfold CS.heard
  cases hv : wordB k n m with
  | false =>
    refine (centHear_bad bc w k n m h.cent hv).mono ?_
    rintro e w' ⟨he, hf⟩
    exact ⟨by simpa using he, by simpa using h.quiet hf⟩
  | true =>
    by_cases hn : (c.g.length : Int) ≤ n
    · refine (centHear_none bc w k n m h.cent hg hv hn).mono ?_
      rintro e w' ⟨he, hf⟩
      exact ⟨by simpa [hn] using he, by simpa [hn] using h.quiet hf⟩
    · have h0 : 0 ≤ n := by
        simp only [wordB, Bool.and_eq_true] at hv
        have := (inB_iff.1 hv.1.2).1; omega
      obtain ⟨p, rfl⟩ := Int.eq_ofNat_of_zero_le h0
      refine (sysHearC h k p m hg hv (by omega)).mono ?_
      rintro e w' ⟨he, hs⟩
      simp only [hn, if_false, Bool.true_eq_false]
      exact ⟨he, hs⟩
end

theorem refWant_one (r : RS) (n : Int) (w : World) :
    Calls Try.prog 30 #[r.val, .int .i64 n] w fun e w' => e = .returned (.tuple #[(r.want n).1.val, .int .i64 (r.want n).2]) ∧ Frm w.heap.size [] w w' := by
  refine (refWant_any r n w).mono ?_
  rintro e w' ⟨he, hf⟩
  refine ⟨he.trans ?_, hf⟩
  unfold RS.want
  split <;> rfl
theorem refHear_one (r : RS) (k n m : Int) (w : World) (hr : r.nodes ≤ 8) :
    Calls Try.prog 32 #[r.val, .agg (wordC (k, n, m)).toArray] w fun e w' => e = .returned (hearV (r.heard k n m).1 (r.heard k n m).2.1 (r.heard k n m).2.2) ∧ Frm w.heap.size [] w w' := by
  unfold RS.heard
  cases hv : wordB k n m with
  | false => exact refHear_arg r k n m w hv
  | true =>
    by_cases hn : r.nodes < n
    · have := refHear_none r k n m w hv hn
      simpa [hn] using this
    · simp only [hn, if_false, Bool.true_eq_false]
      have hv' := hv
      simp only [wordB, Bool.and_eq_true] at hv'
      obtain ⟨⟨h1, h2⟩, h3⟩ := hv'
      have b1 := inB_iff.1 h1
      have b2 := inB_iff.1 h2
      obtain ⟨p, rfl⟩ := Int.eq_ofNat_of_zero_le (show 0 ≤ n by omega)
      have hp : (p : Int) ≤ r.nodes := by omega
      have h8 : p ≤ 8 := by omega
      simp only [Int.toNat_natCast]
      have hk : k = 1 ∨ k = 2 ∨ k = 3 := by omega
      unfold RS.told RS.top
      rcases hk with rfl | rfl | rfl
      · by_cases tm : r.g[p]?.getD 0 < m
        · by_cases t1 : r.wanted = p
          · by_cases t2 : r.lease = 0
            · have := refHear1_free r p m w hv hp h8 tm t1 t2
              simpa [tm, t1, t2] using this
            · by_cases t3 : r.lease = p
              · have := refHear1_same r p m w hv hp h8 tm t1 t2 t3
                rw [if_neg (by decide), if_neg (by decide), if_pos ⟨tm, t1, .inr t3⟩]
                exact this
              · have := refHear1_let r p m w hv hp h8 tm t1 t2 t3
                rw [if_neg (by decide), if_neg (by decide), if_neg (by simp [t2, t3]), if_pos tm]
                exact this
          · have := refHear1_other r p m w hv hp h8 tm t1 (fun h => t1 h.symm)
            rw [if_neg (by decide), if_neg (by decide), if_neg (by simp [t1]), if_pos tm]
            exact this
        · have := refHear1_old r p m w hv hp h8 tm
          rw [if_neg (by decide), if_neg (by decide), if_neg (by simp [tm]), if_neg tm]
          exact this
      · exact refHear_two r p m w hv hp h8
      · rw [if_neg (by decide), if_pos rfl]
        by_cases tm : r.g[p]?.getD 0 < m
        · simp only [tm, if_true]
          by_cases t1 : r.lease = p
          · by_cases t2 : r.number ≤ m
            · rw [if_pos ⟨t1, t2⟩]; exact refHear3_backN r p m w hv hp h8 tm t1 t2
            · rw [if_neg (fun h => t2 h.2)]; exact refHear3_lessN r p m w hv hp h8 tm t1 (by omega)
          · rw [if_neg (fun h => t1 h.1)]; exact refHear3_noneN r p m w hv hp h8 tm t1
        · simp only [tm, if_false]
          by_cases t1 : r.lease = p
          · by_cases t2 : r.number ≤ m
            · rw [if_pos ⟨t1, t2⟩]; exact refHear3_backO r p m w hv hp h8 tm t1 t2
            · rw [if_neg (fun h => t2 h.2)]; exact refHear3_lessO r p m w hv hp h8 tm t1 (by omega)
          · rw [if_neg (fun h => t1 h.1)]; exact refHear3_noneO r p m w hv hp h8 tm t1

/-! ### Side by side -/
structure Sim (c : CS) (r : RS) (N : Nat) : Prop where
  nodes : (c.g.length : Int) = r.nodes + 1
  pos : 1 ≤ r.nodes
  le : r.nodes ≤ 8
  g : ∀ i, i < c.g.length → c.g[i]?.getD 0 = r.g[i]?.getD 0
  now : c.now = r.now
  wanted : c.wanted = r.wanted
  lease : c.node = r.lease
  number : c.node ≠ 0 → c.number = r.number ∧ c.since = r.since
  zero : c.node = 0 → c.since = 0
  now0 : 0 ≤ c.now
  now1 : c.now ≤ N
  since0 : 0 ≤ c.since
  since1 : c.since ≤ c.now
  sinceR0 : 0 ≤ r.since
  sinceR1 : r.since ≤ c.now
  wait : waitR r.term r.slow = (c.wait, 0)
  wait0 : 0 ≤ c.wait
  wait1 : c.wait ≤ 1000000

theorem Sim.leased {c : CS} {r : RS} {N : Nat} (h : Sim c r N) : r.leased = (c.node, c.since) := by
  unfold RS.leased
  split
  · rename_i h0
    have h1 : c.node = 0 := h.lease.trans h0
    rw [h1, h.zero h1]
  · rename_i h0
    have h1 : c.node ≠ 0 := fun e => h0 (h.lease ▸ e)
    rw [(h.number h1).2, h.lease]
theorem Sim.mono {c : CS} {r : RS} {N M : Nat} (h : Sim c r N) (hM : N ≤ M) : Sim c r M := { h with now1 := by have := h.now1; omega }

theorem Sim.want {c : CS} {r : RS} {N : Nat} (h : Sim c r N) (n : Int) : (c.want n).2 = (r.want n).2 ∧ Sim (c.want n).1 (r.want n).1 N := by
  have e : (c.g.length : Int) - 1 = r.nodes := by have := h.nodes; omega
  unfold CS.want RS.want
  rw [e]
  split
  · exact ⟨rfl, { h with wanted := rfl }⟩
  · exact ⟨rfl, h⟩
theorem Sim.brk {c : CS} {r : RS} {N : Nat} (h : Sim c r N) : Sim c.brk r.brk N where
  nodes := h.nodes
  pos := h.pos
  le := h.le
  g := h.g
  now := h.now
  wanted := h.wanted
  lease := rfl
  number _ := ⟨rfl, h.now⟩
  zero h0 := by simp [CS.brk] at h0
  now0 := h.now0
  now1 := h.now1
  since0 := h.now0
  since1 := Int.le_refl _
  sinceR0 := by have := h.now0; have := h.now; simp only [RS.brk]; omega
  sinceR1 := by have := h.now; simp only [RS.brk, CS.brk]; omega
  wait := h.wait
  wait0 := h.wait0
  wait1 := h.wait1
theorem Sim.tick {c : CS} {r : RS} {N : Nat} (h : Sim c r N) : Sim c.tick (r.tick c.wait) (N + 1) := by
  have a1 := h.now
  have a2 := h.lease
  have a3 := h.now0
  have a4 := h.now1
  have a5 := h.since0
  have a6 := h.since1
  have a7 := h.sinceR0
  have a8 := h.sinceR1
  by_cases t : c.node ≠ 0 ∧ c.since + c.wait ≤ c.now + 1
  · have e := (h.number t.1).2
    have t' : r.lease ≠ 0 ∧ r.since + c.wait ≤ r.now + 1 := ⟨by rw [← a2]; exact t.1, by rw [← e, ← a1]; exact t.2⟩
    unfold CS.tick RS.tick
    rw [if_pos t, if_pos t']
    exact ⟨h.nodes, h.pos, h.le, h.g, by simp only; omega, h.wanted, rfl, fun h0 => absurd rfl h0, fun _ => rfl, by simp only; omega, by simp only; omega, by simp only; omega, by simp only; omega, a7, by simp only; omega, h.wait, h.wait0, h.wait1⟩
  · have t' : ¬ (r.lease ≠ 0 ∧ r.since + c.wait ≤ r.now + 1) := by
      intro ht
      refine t ⟨by rw [a2]; exact ht.1, ?_⟩
      have e := (h.number (by rw [a2]; exact ht.1)).2
      rw [e, a1]; exact ht.2
    unfold CS.tick RS.tick
    rw [if_neg t, if_neg t']
    exact ⟨h.nodes, h.pos, h.le, h.g, by simp only; omega, h.wanted, h.lease, h.number, h.zero, by simp only; omega, by simp only; omega, a5, by simp only; omega, a7, by simp only; omega, h.wait, h.wait0, h.wait1⟩

theorem getD_set (l : List Int) (n i : Nat) (v : Int) (hn : n < l.length) : (l.set n v)[i]?.getD 0 = if n = i then v else l[i]?.getD 0 := by
  rw [List.getElem?_set]
  split
  · rename_i e; subst e; simp [hn]
  · rfl

theorem Sim.heard {c : CS} {r : RS} {N : Nat} (h : Sim c r N) (k n m : Int) : (c.heard k n m).2 = (r.heard k n m).2 ∧ Sim (c.heard k n m).1 (r.heard k n m).1 N := by
  unfold CS.heard RS.heard
  cases hv : wordB k n m with
  | false => exact ⟨rfl, h⟩
  | true =>
    simp only [Bool.true_eq_false, if_false]
    have hno := h.nodes
    have hle := h.le
    by_cases hn : (c.g.length : Int) ≤ n
    · rw [if_pos hn, if_pos (show r.nodes < n by omega)]
      exact ⟨rfl, h⟩
    · rw [if_neg hn, if_neg (show ¬ r.nodes < n by omega)]
      have hv' := hv
      simp only [wordB, Bool.and_eq_true] at hv'
      obtain ⟨⟨h1, h2⟩, h3⟩ := hv'
      have b1 := inB_iff.1 h1
      have b2 := inB_iff.1 h2
      obtain ⟨p, rfl⟩ := Int.eq_ofNat_of_zero_le (show 0 ≤ n by omega)
      simp only [Int.toNat_natCast]
      have hp : p < c.g.length := by omega
      have hp8 : p ≤ 8 := by omega
      have hp9 : p < r.g.length := by simp only [RS.g, List.length_cons, List.length_nil]; omega
      have hg := h.g p hp
      have same : ∀ v, ∀ i, i < (c.g.set p v).length → (c.g.set p v)[i]?.getD 0 = (r.setG p v).g[i]?.getD 0 := by
        intro v i hi
        rw [RS.setG_g r p v hp8, getD_set _ _ _ _ hp, getD_set _ _ _ _ hp9]
        split
        · rfl
        · exact h.g i (by simpa using hi)
      have keep : ∀ i, i < c.g.length → c.g[i]?.getD 0 = (r.setG p (r.g[p]?.getD 0)).g[i]?.getD 0 := by
        intro i hi
        rw [RS.setG_g r p _ hp8, getD_set _ _ _ _ hp9]
        split
        · rename_i e; subst e; exact hg
        · exact h.g i hi
      have hmax : max (c.g[p]?.getD 0) m = r.top p m := by unfold RS.top; rw [hg]; split <;> omega
      have hk : k = 1 ∨ k = 2 ∨ k = 3 := by omega
      have a1 := h.now
      have a2 := h.lease
      have a3 := h.now0
      have a4 := h.now1
      have a6 := h.since1
      have nodes' : ∀ v, (((c.g.set p v).length : Nat) : Int) = r.nodes + 1 := fun v => by simpa using h.nodes
      rcases hk with rfl | rfl | rfl
      · -- an Ask
        unfold CS.hear CS.ask RS.told
        simp only [if_true, show ¬ ((1 : Int) = 2) by decide, show ¬ ((1 : Int) = 3) by decide, if_false]
        by_cases tm : r.g[p]?.getD 0 < m
        · rw [if_neg (show ¬ m ≤ c.g[p]?.getD 0 by omega)]
          by_cases t : (p : Int) = c.wanted ∧ (c.node = 0 ∨ c.node = p)
          · rw [if_pos t, if_pos ⟨tm, by rw [← h.wanted]; exact t.1.symm, by rw [← a2]; exact t.2⟩]
            refine ⟨rfl, nodes' m, h.pos, h.le, same m, h.now, h.wanted, rfl, fun _ => ⟨rfl, h.now⟩, fun h0 => ?_, a3, a4, a3, Int.le_refl _, ?_, ?_, h.wait, h.wait0, h.wait1⟩
            · simp only at h0; omega
            · show 0 ≤ r.now; omega
            · show r.now ≤ c.now; omega
          · have t' : ¬ (r.g[p]?.getD 0 < m ∧ r.wanted = p ∧ (r.lease = 0 ∨ r.lease = p)) := fun ht => t ⟨by rw [h.wanted]; exact ht.2.1.symm, by rw [a2]; exact ht.2.2⟩
            rw [if_neg t, if_neg t']
            have ht : r.top p m = m := by unfold RS.top; rw [if_pos tm]
            rw [ht]
            exact ⟨rfl, nodes' m, h.pos, h.le, same m, h.now, h.wanted, h.lease, h.number, h.zero, a3, a4, h.since0, a6, h.sinceR0, h.sinceR1, h.wait, h.wait0, h.wait1⟩
        · rw [if_pos (show m ≤ c.g[p]?.getD 0 by omega), if_neg (fun ht => tm ht.1)]
          have ht : r.top p m = r.g[p]?.getD 0 := by unfold RS.top; rw [if_neg tm]
          rw [ht]
          exact ⟨rfl, h.nodes, h.pos, h.le, keep, h.now, h.wanted, h.lease, h.number, h.zero, a3, a4, h.since0, a6, h.sinceR0, h.sinceR1, h.wait, h.wait0, h.wait1⟩
      · unfold CS.hear RS.told
        exact ⟨rfl, h⟩
      · unfold CS.hear CS.back RS.told
        simp only [if_true, show ¬ ((3 : Int) = 1) by decide, show ¬ ((3 : Int) = 2) by decide, if_false, hmax]
        by_cases t : c.node = p ∧ c.number ≤ m
        · have e := (h.number (by rw [t.1]; omega)).1
          rw [if_pos t, if_pos ⟨by rw [← a2]; exact t.1, by rw [← e]; exact t.2⟩]
          exact ⟨by first | trivial | rfl, nodes' _, h.pos, h.le, same _, h.now, h.wanted, rfl, fun h0 => absurd rfl h0, fun _ => rfl, a3, a4, Int.le_refl _, a3, h.sinceR0, h.sinceR1, h.wait, h.wait0, h.wait1⟩
        · have t' : ¬ (r.lease = p ∧ r.number ≤ m) := by
            intro ht
            have hc : c.node = p := a2.trans ht.1
            exact t ⟨hc, by rw [(h.number (by rw [hc]; omega)).1]; exact ht.2⟩
          rw [if_neg t, if_neg t']
          exact ⟨by first | trivial | rfl, nodes' _, h.pos, h.le, same _, h.now, h.wanted, h.lease, h.number, h.zero, a3, a4, h.since0, a6, h.sinceR0, h.sinceR1, h.wait, h.wait0, h.wait1⟩
end Go.Proofs.Ythmladcepkdheaa
