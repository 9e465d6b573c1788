/-
  The closure of CommandTwice: the word is heard.
-/
import Derived.Test.YthmladcepkdheaaHapZ
import Derived.Test.YthmladcepkdheaaPure7
namespace Go.Proofs.Ythmladcepkdheaa
open Go.RowKit

theorem endsN {o w : World} {X : List (Nat × Obj)} {bc bG bM : Nat} {c : CS} {ps : List NP} {i : Nat} {p : NP} (h : Syst o w X bc bG bM c ps) (hi : ps[i]? = some p) :
    Calls Try.prog 26 #[.pointer (some ⟨p.b, 0, none⟩)] w fun e w' => e = .returned (.tuple #[.int .i64 p.s.now, .int .i64 p.s.end_]) ∧ Frm w.heap.size [] w w' := by
  obtain ⟨⟨asks, hb, hs⟩, hne⟩ := h.node p (List.mem_of_getElem? hi)
  refine (nodeEnds p.b w hb).mono ?_
  rintro e w' ⟨he, n, rfl⟩
  exact ⟨he, (Frm.refl _ _ w).drewN⟩
theorem ptrs_at {ps ps' : List NP} (h : ptrs ps = ptrs ps') {k : Nat} {p p' : NP} (hp : ps[k]? = some p) (hp' : ps'[k]? = some p') : p.b = p'.b := by
  have := congrArg (·[k]?) h
  simp only [ptrs, List.getElem?_map, hp, hp', Option.map_some, Option.some.injEq, Value.pointer.injEq, Addr.mk.injEq] at this
  exact this.1

/-- A node of which the state is known, a word, and what a closure holds of them. -/
structure Tw (o w : World) (b16 b17 bw : Nat) (x : Int × Int × Int) (u : Obj) (bc pb k : Nat) (c : CS) (s : NS) : Prop where
  ex : ∃ mm wss own, WAt o w [(b16, .cells (wordL x).toArray 41 (0, 0)), (b17, .cells #[.pointer (some ⟨pb, 0, none⟩)] 30 (0, 0)), (bw, u)] mm wss ∧ mm.ps[k]? = some ⟨pb, own, s⟩ ∧ wss.c = c ∧ mm.bc = bc

section
variable {o w w' : World} {b16 b17 bw : Nat} {x : Int × Int × Int} {u : Obj} {bc pb k : Nat} {c : CS} {s : NS}
theorem Tw.quiet (h : Tw o w b16 b17 bw x u bc pb k c s) (hf : Frm w.heap.size [] w w') : Tw o w' b16 b17 bw x u bc pb k c s := by
  obtain ⟨mm, wss, own, h1, h2, h3, h4⟩ := h.ex
  exact ⟨mm, wss, own, h1.quiet hf, h2, h3, h4⟩
theorem Tw.root (h : Tw o w b16 b17 bw x u bc pb k c s) : Frm o.heap.size [] o w := by
  obtain ⟨mm, wss, own, h1, h2, h3, h4⟩ := h.ex
  exact h1.sys.root
theorem Tw.cells (h : Tw o w b16 b17 bw x u bc pb k c s) : Blk w b16 41 (wordL x) ∧ w.cell? ⟨b17, 0, none⟩ = some (.pointer (some ⟨pb, 0, none⟩)) ∧ w.heap[bw]? = some u := by
  obtain ⟨mm, wss, own, h1, h2, h3, h4⟩ := h.ex
  refine ⟨h1.sys.ext (b16, .cells (wordL x).toArray 41 (0, 0)) (by simp), ?_, h1.sys.ext (bw, u) (by simp)⟩
  exact (show Blk w b17 30 [.pointer (some ⟨pb, 0, none⟩)] from h1.sys.ext (b17, .cells #[.pointer (some ⟨pb, 0, none⟩)] 30 (0, 0)) (by simp)).cell 0
theorem Tw.tickN (h : Tw o w b16 b17 bw x u bc pb k c s) {N : Nat} (hf : s.Fits N) (hN : N ≤ 100000) :
    Calls Try.prog 25 #[.pointer (some ⟨pb, 0, none⟩)] w fun e w' => e = .returned (.int .i64 0) ∧ Tw o w' b16 b17 bw x u bc pb k c s.tick := by
  obtain ⟨mm, wss, own, h1, h2, h3, h4⟩ := h.ex
  refine (sysTickN h1.sys h2 hf hN).mono ?_
  rintro e w' ⟨he, own', hs⟩
  exact ⟨he, _, _, own', h1.nodeNext h2 hs, get_set_eq h2, h3, h4⟩
theorem Tw.ask (h : Tw o w b16 b17 bw x u bc pb k c s) {N : Nat} (hf : s.Fits N) (hN : N ≤ 100000) :
    Calls Try.prog 17 #[.pointer (some ⟨pb, 0, none⟩)] w fun e w' => e = .returned (.tuple #[wordV s.ask.2, .int .i64 0]) ∧ Tw o w' b16 b17 bw x u bc pb k c s.ask.1 := by
  obtain ⟨mm, wss, own, h1, h2, h3, h4⟩ := h.ex
  refine (sysAsk h1.sys h2 hf hN).mono ?_
  rintro e w' ⟨he, own', hs⟩
  exact ⟨he, _, _, own', h1.nodeNext h2 hs, get_set_eq h2, h3, h4⟩
theorem Tw.ends (h : Tw o w b16 b17 bw x u bc pb k c s) :
    Calls Try.prog 26 #[.pointer (some ⟨pb, 0, none⟩)] w fun e w' => e = .returned (.tuple #[.int .i64 s.now, .int .i64 s.end_]) ∧ Frm w.heap.size [] w w' := by
  obtain ⟨mm, wss, own, h1, h2, h3, h4⟩ := h.ex
  obtain ⟨⟨asks, hb, hs⟩, hne⟩ := h1.sys.node _ (List.mem_of_getElem? h2)
  refine (nodeEnds pb w hb).mono ?_
  rintro e w' ⟨he, n, rfl⟩
  exact ⟨he, (Frm.refl _ _ w).drewN⟩
theorem Tw.lease (h : Tw o w b16 b17 bw x u bc pb k c s) :
    Calls Try.prog 37 #[.pointer (some ⟨bc, 0, none⟩)] w fun e w' => e = .returned (.tuple #[.int .i64 c.node, .int .i64 c.since]) ∧ Frm w.heap.size [] w w' := by
  obtain ⟨mm, wss, own, h1, h2, h3, h4⟩ := h.ex
  have := centLease mm.bc w h1.sys.cent.blk
  rw [h4, h3] at this
  refine this.mono ?_
  rintro e w' ⟨he, n, rfl⟩
  exact ⟨he, (Frm.refl _ _ w).drewN⟩
theorem Tw.tickC (h : Tw o w b16 b17 bw x u bc pb k c s) {L : Nat} {M : Int} (hc : Cb L M c) (hM : M ≤ 1000000) :
    Calls Try.prog 35 #[.pointer (some ⟨bc, 0, none⟩)] w fun e w' => e = .returned (.int .i64 0) ∧ Tw o w' b16 b17 bw x u bc pb k c.tick s := by
  obtain ⟨mm, wss, own, h1, h2, h3, h4⟩ := h.ex
  have := sysTickC (c := wss.c) h1.sys (by rw [h3]; exact hc.now0) (by rw [h3]; have := hc.now1; omega) (by rw [h3]; exact hc.since0) (by rw [h3]; have := hc.now1; have := hc.since1; omega) (by rw [h3]; exact hc.wait0) (by rw [h3]; exact hc.wait1)
  rw [h4] at this
  refine this.mono ?_
  rintro e w' ⟨he, hs⟩
  rw [← h4] at hs
  exact ⟨he, _, _, own, h1.centreNext hs, h2, by rw [h3], h4⟩
theorem Tw.hearN (h : Tw o w b16 b17 bw x u bc pb k c s) {N : Nat} (hf : s.Fits N) (hN : N ≤ 100000) :
    Calls Try.prog 19 #[.pointer (some ⟨pb, 0, none⟩), wordV x] w fun e w' => e = .returned (.int .i64 (s.hear x.1 x.2.1 x.2.2).2) ∧ Tw o w' b16 b17 bw x u bc pb k c (s.hear x.1 x.2.1 x.2.2).1 := by
  obtain ⟨mm, wss, own, h1, h2, h3, h4⟩ := h.ex
  refine (sysHearN h1.sys h2 hf hN x).mono ?_
  rintro e w' ⟨he, own', hs⟩
  exact ⟨he, _, _, own', h1.nodeNext h2 hs, get_set_eq h2, h3, h4⟩
theorem Tw.hearC (h : Tw o w b16 b17 bw x u bc pb k c s) (kk : Int) (nn : Nat) (q : Int) (hg : c.g.length ≤ 100000) (hv : wordB kk nn q = true) (hn : nn < c.g.length) :
    Calls Try.prog 31 #[.pointer (some ⟨bc, 0, none⟩), wordV (kk, nn, q)] w fun e w' => e = .returned (.tuple #[wordV (c.hear kk nn q).2, .int .i64 0]) ∧ Tw o w' b16 b17 bw x u bc pb k (c.hear kk nn q).1 s := by
  obtain ⟨mm, wss, own, h1, h2, h3, h4⟩ := h.ex
  have := sysHearC (c := wss.c) h1.sys kk nn q (by rw [h3]; exact hg) hv (by rw [h3]; exact hn)
  rw [h4, h3] at this
  refine this.mono ?_
  rintro e w' ⟨he, hs⟩
  rw [← h4] at hs
  exact ⟨he, _, _, own, h1.centreNext hs, h2, rfl, h4⟩
end

set_option maxRecDepth 100000 in
set_option maxHeartbeats 8000000 in
theorem closure_any {o w : World} {b16 b17 bw : Nat} {u : Obj} {bc pb k : Nat} {c : CS} {s : NS} (kk : Int) (nn : Nat) (q : Int) (h : Tw o w b16 b17 bw (kk, (nn : Int), q) u bc pb k c s)
    (hu : ∀ W : World, W.heap[bw]? = some u → W.cell? ⟨bw, 0, none⟩ = some (.pointer (some ⟨bc, 0, none⟩))) (hg : c.g.length ≤ 100000) (hv : wordB kk nn q = true) (hn : nn < c.g.length) {N : Nat} (hf : s.Fits N) (hN : N ≤ 100000) :
    Calls Try.prog 43 #[.pointer (some ⟨b16, 0, none⟩), .pointer (some ⟨b17, 0, none⟩), .pointer (some ⟨bw, 0, none⟩)] w fun e w' => e = .returned (.tuple #[]) ∧
      Tw o w' b16 b17 bw (kk, (nn : Int), q) u bc pb k (if kk = 2 then c else (c.hear kk nn q).1) (if kk = 2 then (s.hear kk nn q).1 else s) := by
  obtain ⟨hw, c17, hbu⟩ := h.cells
  have d0 : w.cell? ⟨b16, 0, none⟩ = some (.int .i64 kk) := hw.cell 0
  have d1 : w.cell? ⟨b16, 1, none⟩ = some (.int .i64 nn) := hw.cell 1
  have d2 : w.cell? ⟨b16, 2, none⟩ = some (.int .i64 q) := hw.cell 2
  have c0 := hu w hbu
  have hN2 := h.hearN hf hN
  have hC2 := h.hearC kk nn q hg hv hn
  by_cases hk : kk = 2
  · subst hk
    simp only [if_true]
    have H := Lib.hid h
    have HU := Lib.hid hu
    have HW := Lib.hid hw
    have HV := Lib.hid hv
    have HN2 := Lib.hid hN2
    have HC2 := Lib.hid hC2
    have HBU := Lib.hid hbu
    clear hbu hC2 hN2 hv hw hu h
    go_enter Try.func43, Try.ntmps43
    go_wp2_with (go_at_call 19; refine HN2.out.mono ?_; rintro e w' ⟨rfl, h2⟩)
    go_end0
    exact ⟨rfl, h2⟩
  · simp only [hk, if_false]
    have H := Lib.hid h
    have HU := Lib.hid hu
    have HW := Lib.hid hw
    have HV := Lib.hid hv
    have HN2 := Lib.hid hN2
    have HC2 := Lib.hid hC2
    have HBU := Lib.hid hbu
    clear hbu hC2 hN2 hv hw hu h
    go_enter Try.func43, Try.ntmps43
    go_wp2_with (go_at_call 31; refine HC2.out.mono ?_; rintro e w' ⟨rfl, h2⟩)
    go_end0
    exact ⟨rfl, h2⟩
end Go.Proofs.Ythmladcepkdheaa
