/-
  'happen' does what the plain world does, whatever the event.
-/
import Derived.Test.YthmladcepkdheaaHapA
import Derived.Test.YthmladcepkdheaaHapC
import Derived.Test.YthmladcepkdheaaHapE
import Derived.Test.YthmladcepkdheaaHapF
namespace Go.Proofs.Ythmladcepkdheaa
open Go.RowKit

theorem happen_any {o w : World} {Y : List (Nat × Obj)} {m : WM} {ws : WS} {term : Int} {N : Nat} (h : WAt o w Y m ws) (hf : Fine term N ws) (hN : N ≤ 1000) (what n : Nat) (hn : n < 256) :
    Calls Try.prog 41 #[.agg (m.cells ws).toArray, .agg #[.int .u8 what, .int .u8 n]] w (Hap o Y m (ws.happen what n)) := by
  have hh := hf
  obtain ⟨⟨T0, C0, fal, hg⟩, hnu⟩ := hf
  have hpos := hnu.some_
  have hlen : ws.ns.length ≤ 1000 := by have := hnu.few; omega
  have hsent : ws.sent.length ≤ 100000 := by have := hnu.sent; omega
  have bG : ∀ (i : Nat) (g : Int), ws.gap[i]? = some g → -10000000 ≤ g ∧ g ≤ 10000000 := fun i g h => by have := hnu.gaps i g h; omega
  have bE : ∀ (i : Nat) (g : Int), ws.edge[i]? = some g → -10000000 ≤ g ∧ g ≤ 10000000 := fun i g h => by have := hnu.edges i g h; omega
  have hgl : ws.c.g.length = ws.ns.length + 1 := hg.lenC
  have hfit := hnu.fits
  unfold WS.happen
  by_cases h1 : what = 1
  · subst h1; rw [if_pos rfl]; exact happen1 h n _ rfl hn hpos hlen hfit (by omega) hsent
  rw [if_neg h1]
  by_cases h2 : what = 2
  · subst h2; rw [if_pos rfl]
    by_cases h0 : (ws.node (n % ws.ns.length)).last = 0
    · rw [if_pos h0]; exact happen2a h n _ rfl hn hpos hlen hfit (by omega) hsent (by simp [NS.back, h0])
    · rw [if_neg h0]; exact happen2b h n _ rfl hn hpos hlen hfit (by omega) hsent (by simp [NS.back, h0])
  rw [if_neg h2]
  by_cases h3 : what = 3
  · subst h3; rw [if_pos rfl]; exact happen3 h n _ rfl hn hpos hlen
  rw [if_neg h3]
  by_cases h4 : what = 4
  · subst h4; rw [if_pos rfl]; exact happen4 h n _ rfl hn hpos hlen
  rw [if_neg h4]
  by_cases h5 : what = 5
  · subst h5; rw [if_pos rfl]
    have hle : n % (ws.ns.length + 1) < ws.ns.length + 1 := Nat.mod_lt _ (by omega)
    have hi : inB (((n % (ws.ns.length + 1) : Nat)) : Int) 0 ((ws.c.g.length : Int) - 1) = true := inB_iff.2 ⟨by omega, by rw [hgl]; omega⟩
    unfold CS.want
    rw [if_pos hi]
    exact happen5 h n _ rfl hn hpos hlen hgl
  rw [if_neg h5]
  by_cases h6 : what = 6
  · subst h6; rw [if_pos rfl]
    by_cases hs : ws.sent.length = 0
    · rw [if_pos hs]; exact happen6a h n _ rfl hn hpos hlen hs
    · rw [if_neg hs]
      have hlt : n % ws.sent.length < ws.sent.length := Nat.mod_lt _ (by omega)
      have hge : ws.sent[n % ws.sent.length]? = some (ws.sent.getD (n % ws.sent.length) (0, 0, 0)) := by simp [List.getD, List.getElem?_eq_getElem hlt]
      have hmem : ws.sent.getD (n % ws.sent.length) (0, 0, 0) ∈ ws.sent := List.mem_of_getElem? hge
      generalize ws.sent.getD (n % ws.sent.length) (0, 0, 0) = a at hge hmem
      simp only
      obtain ⟨i, s, e1, e2, e3, e4, e5⟩ := hh.word (by omega) hmem
      have hi : i < ws.ns.length := (List.getElem?_eq_some_iff.1 e2).1
      obtain ⟨kk, nn, q⟩ := a
      simp only at e1 e3 e4 e5 ⊢
      subst e1
      by_cases ha : kk = 2
      · subst ha
        rw [if_pos rfl, if_pos (by omega)]
        have e : ((i : Int) + 1 - 1).toNat = i := by omega
        have h2 := (hh.nhear (by omega) hmem).2
        rw [e, h2]
        exact happen6b h n _ rfl hn hpos hlen (by omega) hsent _ rfl i q hge hi hfit (by omega) h2
      · rw [if_neg ha]
        have h2 : ws.c.heard kk ((i : Int) + 1) q = ((ws.c.hear kk (i + 1) q).1, (ws.c.hear kk (i + 1) q).2, 0) := by
          unfold CS.heard
          rw [e5, if_neg (by simp), if_neg (by rw [hgl]; omega)]
          rfl
        rw [h2]
        simp only
        have hx : ws.sent[n % ws.sent.length]? = some (kk, ((i + 1 : Nat) : Int), q) := hge
        have hv : wordB kk ((i + 1 : Nat) : Int) q = true := e5
        have two : (ws.c.hear kk (i + 1) q).2 = (0, 0, 0) ∨ (ws.c.hear kk (i + 1) q).2 = (2, ((i + 1 : Nat) : Int), q) := by
          unfold CS.hear CS.ask
          split
          · split
            · exact .inl rfl
            · split
              · exact .inr rfl
              · exact .inl rfl
          · split
            · exact .inl rfl
            · exact .inl rfl
        rcases two with t | t
        · rw [if_pos t]
          exact happen6c h n _ rfl hn hpos hlen (by omega) hsent _ rfl kk (i + 1) q hx ha (by omega) hv (by omega) _ (by rw [← t])
        · rw [if_neg (by rw [t]; simp), t]
          exact happen6d h n _ rfl hn hpos hlen (by omega) hsent _ rfl kk (i + 1) q hx ha (by omega) hv (by omega) _ (by rw [← t])
  rw [if_neg h6]
  by_cases h7 : what = 7
  · subst h7; rw [if_pos rfl]
    by_cases hc : closedB ws.gap ws.edge ws.gap.length
    · have e : (if ∀ i, i < ws.gap.length → ws.gap.getD i 0 ≤ ws.edge.getD i 0 then ({ ws with c := ws.c.tick, gap := ws.gap.map (· + 1000) } : WS) else ws) = { ws with c := ws.c.tick, gap := ws.gap.map (· + 1000) } := if_pos hc
      show Calls Try.prog 41 _ w (Hap o Y m (if ∀ i, i < ws.gap.length → ws.gap.getD i 0 ≤ ws.edge.getD i 0 then ({ ws with c := ws.c.tick, gap := ws.gap.map (· + 1000) } : WS) else ws, true))
      rw [e]
      exact happen7b h n _ rfl hn hpos hlen bG bE hc hnu.now0 (by have := hnu.now1; omega) hnu.since0 (by have := hnu.now1; have := hnu.since1; omega) hnu.wait0 hnu.wait1
    · have e : (if ∀ i, i < ws.gap.length → ws.gap.getD i 0 ≤ ws.edge.getD i 0 then ({ ws with c := ws.c.tick, gap := ws.gap.map (· + 1000) } : WS) else ws) = ws := if_neg hc
      show Calls Try.prog 41 _ w (Hap o Y m (if ∀ i, i < ws.gap.length → ws.gap.getD i 0 ≤ ws.edge.getD i 0 then ({ ws with c := ws.c.tick, gap := ws.gap.map (· + 1000) } : WS) else ws, true))
      rw [e]
      exact happen7a h n _ rfl hn hpos hlen bG bE hc
  · rw [if_neg h7]
    exact happenE h what n _ rfl hn hpos hlen bG bE hg.slow0 hnu.slow1 hfit (by omega) (by omega) (by omega) (by omega) (by omega) (by omega) (by omega) (by omega) _ rfl
end Go.Proofs.Ythmladcepkdheaa
