/-
  Which unit goes where.
-/
import Derived.Test.YtghkfopcjdkieaaDoorS3
import Derived.Test.YtghkfopcjdkieaaDoorU8
import Derived.Test.YtghkfopcjdkieaaDoorU6
namespace Go.Proofs.YtghkfopcjdkieaaDoor
set_option linter.all false
set_option linter.unusedSimpArgs false
set_option linter.unusedVariables false
open Go.RowKit

theorem run_store_fn {P : Program} (a : Addr) (fn : Fn) (first captured : Array Value) (m : Mode) (w : World) : (store a (.func fn first captured) m).run P w = stored P w a (.func fn first captured) m := run_store P w a _ m rfl
attribute [local go_sem] run_store_fn
def sc0 : SC := ⟨[], 0, 0, false⟩
set_option maxRecDepth 100000 in
set_option maxHeartbeats 8000000 in
theorem choices_any (ua : Option Addr) (ub uo N ucap : Nat) (U : Nat → UC) (sa : Option Addr) (sb so scap : Nat) (T : Nat → Int) (ga : Option Addr) (gb go_ G gcap : Nat) (Q : Nat → Int × Int) (c e : Nat) (hce : c + 3 < e) (ok : TeamOK N U T G Q)
    (w : World) (tw : TeamW w ua ub uo N U sa sb so N T ga gb go_ G Q) (hwc : w.heap.size ≤ c) (V : World) (hV : Frm w.heap.size [] w V) (hg : Given V c ua N ucap sa scap ga G gcap) (hst : StAt V (c + 3) e (e + 1) (e + 2) sc0) :
    Calls Tryd.prog 82 #[.int .i64 (N : Int), .int .i64 (G : Int), .func (.func 83) #[] (doCaps c e)] V fun en V' =>
      (∃ v, en = .returned v) ∧ StAt V' (c + 3) e (e + 1) (e + 2) ((ext N G []).foldl (takeS (arrA U T Q)) sc0) ∧ Frm V.heap.size [c + 3, e, e + 1, e + 2] V V' := by
  have hf0 := Tryd.func82
  obtain ⟨g, hgg⟩ : ∃ g, g = V.heap.size := ⟨_, rfl⟩
  have heg : e + 2 < g := by rw [hgg]; exact hst.bf.lt
  go_enter Tryd.func82, Tryd.ntmps82
  go_upto_region 2 with fail
  refine namedC ?_; intro W hW
  have b0 : Blk W g 3 [.int .i64 (N : Int)] := by rw [hW, hgg]; repeat (first | exact Blk.new V 3 [.int .i64 (N : Int)] | refine Blk.alloc' ?_)
  have b1 : Blk W (g + 1) 3 [.int .i64 (G : Int)] := by rw [hW, hgg]; repeat (first | exact Blk.new' _ 3 [.int .i64 (G : Int)] (by simp) | refine Blk.alloc' ?_)
  have b2 : Blk W (g + 2) 126 [.func (.func 83) #[] (doCaps c e)] := by rw [hW, hgg]; repeat (first | exact Blk.new' _ 126 [.func (.func 83) #[] (doCaps c e)] (by simp) | refine Blk.alloc' ?_)
  obtain ⟨z, b3⟩ : ∃ z, Blk W (g + 3) 126 [z] := ⟨_, by rw [hW, hgg]; exact Blk.new' _ 126 [_] (by simp)⟩
  have hf : Frm V.heap.size [] V W := by rw [hW]; repeat (first | with_reducible exact Frm.refl _ _ _ | with_reducible refine Frm.drewN ?_ | with_reducible refine Frm.drew ?_ | ((with_reducible refine Frm.setCell' ?_ ?_); · first | (left; simp; done) | (right; simp; done) | (right; simp; omega)) | ((with_reducible refine Frm.alloc' ?_ ?_); · first | exact Nat.le_refl _ | (simp; done) | (simp; omega)))
  clear hW hf0
  rw [← hgg]
  have c3 : W.cell? ⟨g + 3, 0, none⟩ = some z := b3.cell 0
  have f3 := b3.free 0
  have hwV : Frm w.heap.size [] w W := hV.call hf hV.size (by simp)
  obtain ⟨nx, hnx⟩ : ∃ v, v = Value.func (.func 112) #[] #[.pointer (some ⟨g + 1, 0, none⟩), .pointer (some ⟨g + 2, 0, none⟩), .pointer (some ⟨g, 0, none⟩), .pointer (some ⟨g + 3, 0, none⟩)] := ⟨_, rfl⟩
  obtain ⟨X, hX⟩ : ∃ X, X = W.setCell ⟨g + 3, 0, none⟩ nx := ⟨_, rfl⟩
  have hVX : Frm V.heap.size [] V X := by rw [hX]; exact hf.setCell (p := ⟨g + 3, 0, none⟩) (.inr (by simp; omega)) nx
  have hch : ChEnv X c e g N G := by
    rw [hX]
    refine ⟨b0.other _ (by simp) _, b1.other _ (by simp) _, b2.other _ (by simp) _, ?_⟩
    have := b3.set 0 nx
    rw [hnx] at this ⊢
    exact this
  have hwX : Frm w.heap.size [] w X := hV.call hVX hV.size (by simp)
  have key := next_any ua ub uo N ucap U sa sb so scap T ga gb go_ G gcap Q c e g hce heg ok w tw hwc G [] X sc0 (.slice none 0 0) none (by simp) (fun k hk => absurd hk (by simp)) hwX (hg.frm0 hVX (Nat.le_refl _)) hch (hst.frm0 hVX (Nat.le_refl _)) (Sl.nil X 3 1) (fun b h => by cases h)
  rw [hX, hnx] at key
  rw [hX, hnx] at hVX
  clear hX hnx hch hwX hwV b0 b1 b2 b3 hst hg hV tw ok hf
  have KEY := Lib.hid key
  have HVX := Lib.hid hVX
  have HGG := Lib.hid hgg
  clear hgg hVX key
  rw [show g + 1 + 1 + 1 = g + 3 from rfl, show g + 1 + 1 = g + 2 from rfl]
  go_wp2_with fail
  refine KEY.out.mono ?_; rintro en V' ⟨⟨v, rfl⟩, h1, h2⟩
  have h3 := (HVX.out.narrow (S' := [c + 3, e, e + 1, e + 2]) (by simp)).call h2 HVX.out.size (fun x hx hm => hm)
  have H1 := Lib.hid h1
  have H3 := Lib.hid h3
  clear h3 h1
  go_wp2_with fail
  go_end0
  exact ⟨⟨_, rfl⟩, H1.out, H3.out⟩
/-- Is a team valid? -/
def teamB (N : Nat) (U : Nat → UC) (Sn : Nat → ByteArray) (M : Nat) (T : Nat → Int) (G : Nat) (Q : Nat → Int × Int) : Bool :=
  (List.range N).all (fun i => unitB (U i) (Sn i)) && (List.range G).all (fun i => placeB (Q i).1 (Q i).2) && (List.range M).all (fun i => timeB (T i)) && decide (M = N) && decide (G ≤ N)
/-- Which error; 0: none. -/
def teamE (N : Nat) (U : Nat → UC) (Sn : Nat → ByteArray) (M : Nat) (T : Nat → Int) (G : Nat) (Q : Nat → Int × Int) : Int := if 6 < N ∨ 6 < G then 3 else if teamB N U Sn M T G Q = false then 2 else 0
theorem teamE_ok {N : Nat} {U : Nat → UC} {Sn : Nat → ByteArray} {M : Nat} {T : Nat → Int} {G : Nat} {Q : Nat → Int × Int} (h : teamE N U Sn M T G Q = 0) : TeamOK N U T G Q ∧ M = N := by
  unfold teamE at h
  split at h
  · omega
  · rename_i h1
    split at h
    · omega
    · rename_i h2
      have h3 : teamB N U Sn M T G Q = true := by simpa using h2
      unfold teamB at h3
      simp only [Bool.and_eq_true, List.all_eq_true, List.mem_range, decide_eq_true_eq] at h3
      obtain ⟨⟨⟨⟨k1, k2⟩, k3⟩, k4⟩, k5⟩ := h3
      refine ⟨⟨fun i hi => uok_of (k1 i hi), fun i hi => ?_, k2, by omega, k5⟩, k4⟩
      have := k3 i (by omega)
      unfold timeB at this
      exact inB_iff.1 this
def bestOf (N : Nat) (U : Nat → UC) (T : Nat → Int) (G : Nat) (Q : Nat → Int × Int) : SC := (ext N G []).foldl (takeS (arrA U T Q)) sc0
def AssignIs (N : Nat) (U : Nat → UC) (Sn : Nat → ByteArray) (M : Nat) (T : Nat → Int) (G : Nat) (Q : Nat → Int × Int) (w w' : World) (en : Ending) : Prop :=
  Frm w.heap.size [] w w' ∧ ((teamE N U Sn M T G Q ≠ 0 ∧ en = .returned (.tuple #[.slice none 0 0, .int .i64 (teamE N U Sn M T G Q)])) ∨
    (teamE N U Sn M T G Q = 0 ∧ ∃ v own, en = .returned (.tuple #[v, .int .i64 0]) ∧ Sl w' 3 1 v (bestOf N U T G Q).which.length (intsC (bestOf N U T G Q).which) own ∧ ∀ b, own = some b → w.heap.size ≤ b))

/-- The boxes of 'Assign'. -/
structure As4 (V : World) (c : Nat) (ua : Option Addr) (N ucap : Nat) (sa : Option Addr) (M scap : Nat) (ga : Option Addr) (G gcap : Nat) : Prop where
  u : Blk V c 74 [.slice ua N ucap]
  s : Blk V (c + 1) 64 [.slice sa M scap]
  g : Blk V (c + 2) 75 [.slice ga G gcap]
  r : Blk V (c + 3) 64 [.slice none 0 0]
theorem As4.frm {V V' : World} {c B : Nat} {ua : Option Addr} {N ucap : Nat} {sa : Option Addr} {M scap : Nat} {ga : Option Addr} {G gcap : Nat} (h : As4 V c ua N ucap sa M scap ga G gcap) (hf : Frm B [] V V') (hB : V.heap.size ≤ B) : As4 V' c ua N ucap sa M scap ga G gcap :=
  ⟨hf.blk h.u (Nat.lt_of_lt_of_le h.u.lt hB) (by simp), hf.blk h.s (Nat.lt_of_lt_of_le h.s.lt hB) (by simp), hf.blk h.g (Nat.lt_of_lt_of_le h.g.lt hB) (by simp), hf.blk h.r (Nat.lt_of_lt_of_le h.r.lt hB) (by simp)⟩
theorem results_42 {w : World} {tmps : Array Value} {p : Nat} {a : Option Addr} {n cap : Nat} {z : Int} (h6 : tmps.getD 6 undef = .pointer (some ⟨p, 0, none⟩)) (h7 : tmps.getD 7 undef = .int .i64 z) (hb : w.cell? ⟨p, 0, none⟩ = some (.slice a n cap)) :
    (results Tryd.f42 tmps).run Tryd.prog w = .ok (.tuple #[.slice a n cap, .int .i64 z]) w := by
  have e6 : tmps[6]?.getD undef = .pointer (some ⟨p, 0, none⟩) := by simpa using h6
  have e7 : tmps[7]?.getD undef = .int .i64 z := by simpa using h7
  simp [results, Tryd.results42, go_sem, e6, e7, hb, Tryd.underlying64, asAddr]
theorem loadVar3 {W : World} {a : Addr} {n : Int} (h : W.cell? a = some (.int .i64 n)) : (loadVar 3 a).run Tryd.prog W = .ok (.int .i64 n) W := by
  simp [loadVar, Tryd.underlying3, go_sem, h]

set_option maxRecDepth 100000 in
set_option maxHeartbeats 8000000 in
theorem assign_any (ua : Option Addr) (ub uo N ucap : Nat) (U : Nat → UC) (Sn : Nat → ByteArray) (hnm : ∀ i, i < N → (U i).name = .string (Sn i)) (sa : Option Addr) (sb so M scap : Nat) (T : Nat → Int) (ga : Option Addr) (gb go_ G gcap : Nat) (Q : Nat → Int × Int)
    (w : World) (tw : TeamW w ua ub uo N U sa sb so M T ga gb go_ G Q) :
    Calls Tryd.prog 42 #[.slice ua N ucap, .slice sa M scap, .slice ga G gcap] w fun en w' => AssignIs N U Sn M T G Q w w' en := by
  have hf0 := Tryd.func42
  obtain ⟨E, hE⟩ : ∃ E, E = teamE N U Sn M T G Q := ⟨_, rfl⟩
  obtain ⟨c, hcc⟩ : ∃ c, c = w.heap.size := ⟨_, rfl⟩
  go_enter Tryd.func42, Tryd.ntmps42
  go_upto_region 1 with fail
  refine namedC ?_; intro W hW
  have b0 : Blk W c 74 [.slice ua N ucap] := by rw [hW, hcc]; repeat (first | exact Blk.new w 74 [.slice ua N ucap] | refine Blk.alloc' ?_)
  have b1 : Blk W (c + 1) 64 [.slice sa M scap] := by rw [hW, hcc]; repeat (first | exact Blk.new' _ 64 [.slice sa M scap] (by simp) | refine Blk.alloc' ?_)
  have b2 : Blk W (c + 2) 75 [.slice ga G gcap] := by rw [hW, hcc]; repeat (first | exact Blk.new' _ 75 [.slice ga G gcap] (by simp) | refine Blk.alloc' ?_)
  have b3 : Blk W (c + 3) 64 [.slice none 0 0] := by rw [hW, hcc]; repeat (first | exact Blk.new' _ 64 [.slice none 0 0] (by simp) | refine Blk.alloc' ?_)
  have hf : Frm w.heap.size [] w W := by rw [hW]; repeat (first | with_reducible exact Frm.refl _ _ _ | with_reducible refine Frm.drewN ?_ | with_reducible refine Frm.drew ?_ | ((with_reducible refine Frm.setCell' ?_ ?_); · first | (left; simp; done) | (right; simp; done) | (right; simp; omega)) | ((with_reducible refine Frm.alloc' ?_ ?_); · first | exact Nat.le_refl _ | (simp; done) | (simp; omega)))
  clear hW hf0
  rw [← hcc]
  rw [show c + 1 + 1 + 1 = c + 3 from rfl, show c + 1 + 1 = c + 2 from rfl]
  have hb4 : As4 W c ua N ucap sa M scap ga G gcap := ⟨b0, b1, b2, b3⟩
  clear b0 b1 b2 b3
  have HB := Lib.hid hb4
  have HF := Lib.hid hf
  have HCC := Lib.hid hcc
  have HTW := Lib.hid tw
  have HNM := Lib.hid hnm
  clear hnm tw hcc hf hb4
  clear hE
  have k0 : W.cell? ⟨c, 0, none⟩ = some (.slice ua N ucap) := HB.out.u.cell 0; have k1 : W.cell? ⟨c + 1, 0, none⟩ = some (.slice sa M scap) := HB.out.s.cell 0; have k2 : W.cell? ⟨c + 2, 0, none⟩ = some (.slice ga G gcap) := HB.out.g.cell 0; have k3 : W.cell? ⟨c + 3, 0, none⟩ = some (.slice none 0 0) := HB.out.r.cell 0; have f3 := HB.out.r.free 0
  by_cases h6 : 6 < N
  · have h6' : (6 : Int) < (N : Int) := by omega
    go_wp2_with fail
    refine bodyPost_ret (results_42 rfl rfl ((HB.out.r.set 0 (.slice none 0 0)).cell 0)) rfl ?_
    exact ⟨HF.out.setCell (p := ⟨c + 3, 0, none⟩) (.inr (by have := HCC.out; simp; omega)) _, .inl ⟨by rw [show teamE N U Sn M T G Q = 3 from by unfold teamE; rw [if_pos (.inl h6)]]; decide, by rw [show teamE N U Sn M T G Q = 3 from by unfold teamE; rw [if_pos (.inl h6)]]⟩⟩
  have h6' : ¬ (6 : Int) < (N : Int) := by omega
  by_cases h7 : 6 < G
  · have h7' : (6 : Int) < (G : Int) := by omega
    go_wp2_with fail
    refine bodyPost_ret (results_42 rfl rfl ((HB.out.r.set 0 (.slice none 0 0)).cell 0)) rfl ?_
    exact ⟨HF.out.setCell (p := ⟨c + 3, 0, none⟩) (.inr (by have := HCC.out; simp; omega)) _, .inl ⟨by rw [show teamE N U Sn M T G Q = 3 from by unfold teamE; rw [if_pos (.inr h7)]]; decide, by rw [show teamE N U Sn M T G Q = 3 from by unfold teamE; rw [if_pos (.inr h7)]]⟩⟩
  have h7' : ¬ (6 : Int) < (G : Int) := by omega
  have hte : teamE N U Sn M T G Q = if teamB N U Sn M T G Q = false then 2 else 0 := by unfold teamE; rw [if_neg (by omega)]
  go_wp2_with fail
  refine (allUn 19 #[] (enters Tryd.func19 (by kernel_rfl) (by kernel_rfl)) ua ub uo N ucap _ HTW.out.u.ad HTW.out.u.len (fun i => (U i).cells) (fun i => unitB (U i) (Sn i)) (fun i => rfl) (fun X hX i hi => (HTW.out.frm (HF.out.call hX HF.out.size (by simp)) (Nat.le_refl _)).u.load (P := Tryd.prog) Tryd.underlying25 rfl hi (UC.info _)) (fun X hX i hi => checkUnit_any (U i) (Sn i) (HNM.out i hi) X)).mono ?_
  rintro en w1 ⟨⟨r1, rfl, hr1⟩, hf1⟩
  replace HB := Lib.hid (HB.out.frm hf1 (Nat.le_refl _)); replace HF := Lib.hid (HF.out.call hf1 HF.out.size (by simp)); clear hf1; clear k0 k1 k2 k3 f3; have k0 : w1.cell? ⟨c, 0, none⟩ = some (.slice ua N ucap) := HB.out.u.cell 0; have k1 : w1.cell? ⟨c + 1, 0, none⟩ = some (.slice sa M scap) := HB.out.s.cell 0; have k2 : w1.cell? ⟨c + 2, 0, none⟩ = some (.slice ga G gcap) := HB.out.g.cell 0; have k3 : w1.cell? ⟨c + 3, 0, none⟩ = some (.slice none 0 0) := HB.out.r.cell 0; have f3 := HB.out.r.free 0
  cases r1
  · have hno : teamB N U Sn M T G Q = false := by
      unfold teamB
      rw [show (List.range N).all (fun i => unitB (U i) (Sn i)) = false from by
        rw [← Bool.not_eq_true, List.all_eq_true]
        intro h
        have := hr1.2 (fun i hi => h i (by simpa using hi))
        cases this]
      rfl
    clear hr1
    have HTE := Lib.hid hte
    have HNO := Lib.hid hno
    clear hno hte
    go_wp2_with fail
    refine bodyPost_ret (results_42 rfl rfl ((HB.out.r.set 0 (.slice none 0 0)).cell 0)) rfl ?_
    exact ⟨HF.out.setCell (p := ⟨c + 3, 0, none⟩) (.inr (by have := HCC.out; simp; omega)) _, .inl ⟨by rw [show teamE N U Sn M T G Q = 2 from by rw [HTE.out, if_pos HNO.out]]; decide, by rw [show teamE N U Sn M T G Q = 2 from by rw [HTE.out, if_pos HNO.out]]⟩⟩
  go_wp2_with fail
  refine (allSp 48 #[] (enters Tryd.func48 (by kernel_rfl) (by kernel_rfl)) ga gb go_ G gcap _ HTW.out.g.ad HTW.out.g.len (fun i => [.int .i64 (Q i).1, .int .i64 (Q i).2]) (fun i => placeB (Q i).1 (Q i).2) (fun i => rfl) (fun X hX i hi => (HTW.out.frm (HF.out.call hX HF.out.size (by simp)) (Nat.le_refl _)).g.load (P := Tryd.prog) Tryd.underlying23 rfl hi (by kernel_rfl)) (fun X hX i hi => placed_any (Q i).1 (Q i).2 X)).mono ?_
  rintro en w2 ⟨⟨r2, rfl, hr2⟩, hf1⟩
  replace HB := Lib.hid (HB.out.frm hf1 (Nat.le_refl _)); replace HF := Lib.hid (HF.out.call hf1 HF.out.size (by simp)); clear hf1; clear k0 k1 k2 k3 f3; have k0 : w2.cell? ⟨c, 0, none⟩ = some (.slice ua N ucap) := HB.out.u.cell 0; have k1 : w2.cell? ⟨c + 1, 0, none⟩ = some (.slice sa M scap) := HB.out.s.cell 0; have k2 : w2.cell? ⟨c + 2, 0, none⟩ = some (.slice ga G gcap) := HB.out.g.cell 0; have k3 : w2.cell? ⟨c + 3, 0, none⟩ = some (.slice none 0 0) := HB.out.r.cell 0; have f3 := HB.out.r.free 0
  cases r2
  · have hno : teamB N U Sn M T G Q = false := by
      unfold teamB
      rw [show (List.range G).all (fun i => placeB (Q i).1 (Q i).2) = false from by
        rw [← Bool.not_eq_true, List.all_eq_true]
        intro h
        have := hr2.2 (fun i hi => h i (by simpa using hi))
        cases this]
      simp
    clear hr1 hr2
    have HTE := Lib.hid hte
    have HNO := Lib.hid hno
    clear hno hte
    go_wp2_with fail
    refine bodyPost_ret (results_42 rfl rfl ((HB.out.r.set 0 (.slice none 0 0)).cell 0)) rfl ?_
    exact ⟨HF.out.setCell (p := ⟨c + 3, 0, none⟩) (.inr (by have := HCC.out; simp; omega)) _, .inl ⟨by rw [show teamE N U Sn M T G Q = 2 from by rw [HTE.out, if_pos HNO.out]]; decide, by rw [show teamE N U Sn M T G Q = 2 from by rw [HTE.out, if_pos HNO.out]]⟩⟩
  go_wp2_with fail
  refine (allIn 52 #[] (enters Tryd.func52 (by kernel_rfl) (by kernel_rfl)) sa sb so M scap _ HTW.out.s.ad HTW.out.s.len (fun i => .int .i64 (T i)) (fun i => timeB (T i)) (fun X hX i hi => loadVar3 ((HTW.out.frm (HF.out.call hX HF.out.size (by simp)) (Nat.le_refl _)).s.cellI hi)) (fun X hX i hi => (timed_any (T i) X).mono fun en X' h => ⟨h.1, h.2 ▸ Frm.refl _ _ _⟩)).mono ?_
  rintro en w3 ⟨⟨r3, rfl, hr3⟩, hf1⟩
  replace HB := Lib.hid (HB.out.frm hf1 (Nat.le_refl _)); replace HF := Lib.hid (HF.out.call hf1 HF.out.size (by simp)); clear hf1; clear k0 k1 k2 k3 f3; have k0 : w3.cell? ⟨c, 0, none⟩ = some (.slice ua N ucap) := HB.out.u.cell 0; have k1 : w3.cell? ⟨c + 1, 0, none⟩ = some (.slice sa M scap) := HB.out.s.cell 0; have k2 : w3.cell? ⟨c + 2, 0, none⟩ = some (.slice ga G gcap) := HB.out.g.cell 0; have k3 : w3.cell? ⟨c + 3, 0, none⟩ = some (.slice none 0 0) := HB.out.r.cell 0; have f3 := HB.out.r.free 0
  cases r3
  · have hno : teamB N U Sn M T G Q = false := by
      unfold teamB
      rw [show (List.range M).all (fun i => timeB (T i)) = false from by
        rw [← Bool.not_eq_true, List.all_eq_true]
        intro h
        have := hr3.2 (fun i hi => h i (by simpa using hi))
        cases this]
      simp
    clear hr1 hr2 hr3
    have HTE := Lib.hid hte
    have HNO := Lib.hid hno
    clear hno hte
    go_wp2_with fail
    refine bodyPost_ret (results_42 rfl rfl ((HB.out.r.set 0 (.slice none 0 0)).cell 0)) rfl ?_
    exact ⟨HF.out.setCell (p := ⟨c + 3, 0, none⟩) (.inr (by have := HCC.out; simp; omega)) _, .inl ⟨by rw [show teamE N U Sn M T G Q = 2 from by rw [HTE.out, if_pos HNO.out]]; decide, by rw [show teamE N U Sn M T G Q = 2 from by rw [HTE.out, if_pos HNO.out]]⟩⟩
  by_cases hMN : M = N
  rotate_left
  · have hMN' : ((M : Int) == (N : Int)) = false := by simp; omega
    have hMN2 : ¬ (M : Int) = (N : Int) := by omega
    have hno : teamB N U Sn M T G Q = false := by unfold teamB; simp [hMN]
    clear hr1 hr2 hr3
    have HTE := Lib.hid hte
    have HNO := Lib.hid hno
    have HMN := Lib.hid hMN
    clear hMN hno hte
    go_wp2_with fail
    refine bodyPost_ret (results_42 rfl rfl ((HB.out.r.set 0 (.slice none 0 0)).cell 0)) rfl ?_
    exact ⟨HF.out.setCell (p := ⟨c + 3, 0, none⟩) (.inr (by have := HCC.out; simp; omega)) _, .inl ⟨by rw [show teamE N U Sn M T G Q = 2 from by rw [HTE.out, if_pos HNO.out]]; decide, by rw [show teamE N U Sn M T G Q = 2 from by rw [HTE.out, if_pos HNO.out]]⟩⟩
  subst hMN
  by_cases hGN : G ≤ M
  rotate_left
  · have hGN' : (M : Int) < (G : Int) := by omega
    have hno : teamB M U Sn M T G Q = false := by unfold teamB; simp [hGN]
    clear hr1 hr2 hr3
    have HTE := Lib.hid hte
    have HNO := Lib.hid hno
    clear hno hte
    go_wp2_with fail
    refine bodyPost_ret (results_42 rfl rfl ((HB.out.r.set 0 (.slice none 0 0)).cell 0)) rfl ?_
    exact ⟨HF.out.setCell (p := ⟨c + 3, 0, none⟩) (.inr (by have := HCC.out; simp; omega)) _, .inl ⟨by rw [show teamE M U Sn M T G Q = 2 from by rw [HTE.out, if_pos HNO.out]]; decide, by rw [show teamE M U Sn M T G Q = 2 from by rw [HTE.out, if_pos HNO.out]]⟩⟩
  have hGN' : ¬ (M : Int) < (G : Int) := by omega
  have hyes : teamB M U Sn M T G Q = true := by
    unfold teamB
    simp only [Bool.and_eq_true, List.all_eq_true, List.mem_range, decide_eq_true_eq]
    exact ⟨⟨⟨⟨by simpa using hr1, by simpa using hr2⟩, by simpa using hr3⟩, by simp⟩, hGN⟩
  have hE0 : teamE M U Sn M T G Q = 0 := by rw [hte, if_neg (by rw [hyes]; simp)]
  have ok := (teamE_ok hE0).1
  clear hr1 hr2 hr3 hyes hte
  have HE0 := Lib.hid hE0
  have HOK := Lib.hid ok
  clear ok hE0
  go_upto_region 6 with fail
  refine namedC ?_; intro V hV
  obtain ⟨e, hee⟩ : ∃ e, e = w3.heap.size := ⟨_, rfl⟩
  have hfV : Frm w3.heap.size [] w3 V := by rw [hV]; repeat (first | with_reducible exact Frm.refl _ _ _ | with_reducible refine Frm.drewN ?_ | with_reducible refine Frm.drew ?_ | ((with_reducible refine Frm.setCell' ?_ ?_); · first | (left; simp; done) | (right; simp; done) | (right; simp; omega)) | ((with_reducible refine Frm.alloc' ?_ ?_); · first | exact Nat.le_refl _ | (simp; done) | (simp; omega)))
  have g8 : Blk V e 3 [.int .i64 0] := by rw [hV, hee]; repeat (first | exact Blk.new w3 3 [.int .i64 0] | refine Blk.alloc' ?_)
  have g9 : Blk V (e + 1) 3 [.int .i64 0] := by rw [hV, hee]; repeat (first | exact Blk.new' _ 3 [.int .i64 0] (by simp) | refine Blk.alloc' ?_)
  have g10 : Blk V (e + 2) 4 [.bool false] := by rw [hV, hee]; exact Blk.new' _ 4 [.bool false] (by simp)
  have hB := HB.out.frm hfV (Nat.le_refl _)
  have hce : c + 3 < e := by rw [hee]; exact HB.out.r.lt
  have hwV := HF.out.call hfV HF.out.size (by simp)
  have hst : StAt V (c + 3) e (e + 1) (e + 2) sc0 := ⟨g10, g8, g9, .slice none 0 0, none, hB.r, Sl.nil V 3 1, fun b h => by cases h⟩
  have hwc : w.heap.size ≤ c := Nat.le_of_eq HCC.out.symm
  have key := choices_any ua ub uo M ucap U sa sb so scap T ga gb go_ G gcap Q c e hce HOK.out w HTW.out hwc V hwV ⟨hB.u, hB.s, hB.g⟩ hst
  unfold doCaps at key
  have c0 : V.cell? ⟨c, 0, none⟩ = some (.slice ua M ucap) := hB.u.cell 0
  have c2 : V.cell? ⟨c + 2, 0, none⟩ = some (.slice ga G gcap) := hB.g.cell 0
  clear hV g8 g9 g10 hB hst k0 k1 k2 k3 f3 HB HF hfV
  rw [← hee]
  rw [show e + 1 + 1 = e + 2 from rfl]
  have KEY := Lib.hid key
  have HWV := Lib.hid hwV
  have HCE := Lib.hid hce
  have HWC := Lib.hid hwc
  have HEE := Lib.hid hee
  clear hee hwc hce hwV key
  go_wp2_with fail
  refine KEY.out.mono ?_; rintro en V' ⟨⟨v, rfl⟩, h1, h2⟩
  obtain ⟨ov, own, h3, h4, h5⟩ := h1.bw
  obtain ⟨oa, ocap, rfl⟩ := h4.form
  have hfin : Frm w.heap.size [] w V' := HWV.out.call h2 HWV.out.size (fun x hx hm => by have := HCE.out; have := HWC.out; simp at hm; omega)
  obtain ⟨bst, hbst⟩ : ∃ b, b = bestOf M U T G Q := ⟨_, rfl⟩
  have hbs : List.foldl (takeS (arrA U T Q)) sc0 (ext M G []) = bst := hbst.symm
  rw [hbs] at h3 h4
  have k6 := h3.cell 0
  have f6 := h3.free 0
  simp only [List.getElem?_cons_zero] at k6
  clear h1 h2 c0 c2
  have H3 := Lib.hid h3
  have H4 := Lib.hid h4
  have H5 := Lib.hid h5
  have HFIN := Lib.hid hfin
  have HBST := Lib.hid hbst
  clear hbst hfin h5 h4 h3
  clear hbs
  go_wp2_with fail
  refine bodyPost_ret (results_42 rfl rfl ((H3.out.set 0 (.slice oa bst.which.length ocap)).cell 0)) rfl ?_
  refine ⟨HFIN.out.setCell (p := ⟨c + 3, 0, none⟩) (.inr (by have := HWC.out; simp; omega)) _, .inr ⟨HE0.out, _, own, rfl, ?_, fun b hb => by have := (H5.out b hb).2; have := HWC.out; omega⟩⟩
  rw [← HBST.out]
  exact H4.out.setCell _ _ (fun b hb h => (H5.out b hb).1 (by rw [← h]; simp))
end Go.Proofs.YtghkfopcjdkieaaDoor
