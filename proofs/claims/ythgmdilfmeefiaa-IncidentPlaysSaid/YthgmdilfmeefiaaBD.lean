/-
  Texts J35 of this claim, one behind the other.
-/
import Derived.Test.YthgmdilfmeefiaaBC
namespace Go.Proofs.Ythgmdilfmeefiaa
set_option linter.all false
set_option linter.unusedSimpArgs false
set_option linter.unusedVariables false
open Go.RowKit

def Mem.prfMore (m : Mem) (n : Nat) (v' : Value) (own' : Option Nat) (v : Value) : Mem := { m with vp := v', op := own', pv := fun i => if i = n then v else m.pv i }
theorem BookRaw.growPrf {w w' : World} {k : Nat} {s : BS} {m : Mem} (h : BookRaw w k s m) {v' : Value} {own' : Option Nat} {p : Prf} {v : Value}
    (hs : Sl w' 102 3 v' (s.prf.length + 1) ((List.range s.prf.length).flatMap (prfAt s m) ++ prfC p v) own') (hf : Frm w.heap.size m.op.toList w w') (ho : own' = m.op ∨ ∃ g, own' = some g ∧ w.heap.size ≤ g) (hv : IsPrf p v) :
    BookRaw (w'.setCell ⟨k, 5, none⟩ v') k { s with prf := s.prf ++ [p] } (m.prfMore s.prf.length v' own' v) := by
  have hko : own' ≠ some k := by
    rcases ho with e | ⟨g, e, hg⟩
    · rw [e]; exact h.ke.2.2
    · rw [e]; intro e2; cases e2; have := h.blk.lt; omega
  have hpf : ∀ i, i < s.prf.length → BS.pf { s with prf := s.prf ++ [p] } i = s.pf i := fun i hi => by
    unfold BS.pf
    simp [List.getD_eq_getElem?_getD, List.getElem?_append_left hi]
  have hpn : BS.pf { s with prf := s.prf ++ [p] } s.prf.length = p := by
    unfold BS.pf
    simp [List.getD_eq_getElem?_getD]
  have hvi : ∀ i, i < s.prf.length → (m.prfMore s.prf.length v' own' v).pv i = m.pv i := fun i hi => by simp [Mem.prfMore, show i ≠ s.prf.length by omega]
  have hvn : (m.prfMore s.prf.length v' own' v).pv s.prf.length = v := by simp [Mem.prfMore]
  have hlt : ∀ i, i < (s.prf ++ [p]).length → i < s.prf.length ∨ i = s.prf.length := fun i hi => by simp at hi; omega
  refine ⟨?_, ?_, ?_, ?_, ?_, ?_, ?_, ⟨h.ke.1, h.ke.2.1, hko⟩, ?_, ?_, ?_⟩
  · have h1 := (hf.blk h.blk h.blk.lt (fun hm => h.ke.2.2 (by simpa using hm))).set 5 v'
    exact h1
  · exact (h.ents.frm hf h.ents.lt (fun q hq hm => (h.eo q hq).2 (by simpa using hm))).setCell _ _ (fun q hq e => h.ke.1 (by rw [hq]; exact congrArg some e.symm))
  · exact (h.opn.frm hf h.opn.lt (fun q hq hm => h.oq q hq (by simpa using hm))).setCell _ _ (fun q hq e => h.ke.2.1 (by rw [hq]; exact congrArg some e.symm))
  · simp only [List.length_append, List.length_cons, List.length_nil, Nat.zero_add]
    rw [List.range_succ, List.flatMap_append]
    have e1 : (List.range s.prf.length).flatMap (prfAt { s with prf := s.prf ++ [p] } (m.prfMore s.prf.length v' own' v)) = (List.range s.prf.length).flatMap (prfAt s m) := flatMap_congr_range fun i hi => by
      unfold prfAt
      rw [hpf i hi, hvi i hi]
    have e2 : prfAt { s with prf := s.prf ++ [p] } (m.prfMore s.prf.length v' own' v) s.prf.length = prfC p v := by
      unfold prfAt
      rw [hpn, hvn]
    rw [e1]
    simp only [List.flatMap_cons, List.flatMap_nil, List.append_nil, e2]
    exact hs.setCell _ _ (fun q hq e => hko (by rw [hq]; exact congrArg some e.symm))
  · intro i hi
    exact rw_other ((h.wh i hi).frmS hf (fun hm => (h.wk i hi).2.2.2 (by simpa using hm))) _ _ (fun e => (h.wk i hi).1 e.symm)
  · intro i hi
    have := Nat.lt_of_lt_of_le (h.wl i hi) hf.size
    show m.wb i < (World.setCell w' _ _).heap.size
    simpa [World.setCell] using this
  · intro i hi
    rcases hlt i hi with h1 | rfl
    · rw [hpf i h1, hvi i h1]; exact h.pv i h1
    · rw [hpn, hvn]; exact hv
  · intro q hq
    refine ⟨(h.eo q hq).1, fun e => ?_⟩
    have e : own' = some q := e
    rcases ho with e2 | ⟨g, e2, hg⟩
    · exact (h.eo q hq).2 (by rw [← e2]; exact e)
    · rw [e] at e2; cases e2; have := h.ents.lt q hq; omega
  · intro q hq e
    have e : own' = some q := e
    rcases ho with e2 | ⟨g, e2, hg⟩
    · exact h.oq q hq (by rw [← e2]; exact e)
    · rw [e] at e2; cases e2; have := h.opn.lt q hq; omega
  · intro i hi
    refine ⟨(h.wk i hi).1, (h.wk i hi).2.1, (h.wk i hi).2.2.1, fun e => ?_⟩
    have e : own' = some (m.wb i) := e
    rcases ho with e2 | ⟨g, e2, hg⟩
    · exact (h.wk i hi).2.2.2 (by rw [← e2]; exact e)
    · rw [e] at e2; cases e2; have := h.wl i hi; omega
theorem load39 {w : World} {b : Nat} {cs : List Value} (h : Blk w b 39 cs) (hl : cs.length = 6) : (loadVar 39 ⟨b, 0, none⟩).run Try.prog w = .ok (.agg cs.toArray) w := loadVarB h (P := Try.prog) Try.underlying39 rfl (by rw [hl]; exact info39)
theorem BookAt.load60 {w : World} {k : Nat} {s : BS} {m : Mem} (h : BookAt w k s m) : (loadVar 60 ⟨k, 0, none⟩).run Try.prog w = .ok (.agg #[.int .i64 s.window, .int .i64 s.drift]) w :=
  h.blk.loadPart (P := Try.prog) Try.underlying60 rfl [.int .i64 s.window, .int .i64 s.drift] (fun q v hq => by
    have : q < 2 := (List.getElem?_eq_some_iff.1 hq).1
    match q, this, hq with
    | 0, _, hq => exact hq
    | 1, _, hq => exact hq) info60
set_option maxRecDepth 100000 in
set_option maxHeartbeats 16000000 in
theorem prove_call {w : World} {k : Nat} {s : BS} {m : Mem} (h : BookAt w k s m) (p : Prf) (pad : Option Addr) (pb po pcap : Nat) (hp : RwP w pad pb po p.wh.length p.wh) :
    Calls Try.prog 28 #[.pointer (some ⟨k, 0, none⟩), .agg (prfA p pad pcap).toArray] w fun e w' => e = .returned (.int .i64 (proveS s p).2) ∧ ∃ m', BookAt w' k (proveS s p).1 m' ∧ Turn k w w' s (proveS s p).1 m m' := by
  have hf0 := Try.func28
  obtain ⟨i8, hi8, hz80, hz81, hz82⟩ := info_parts3 info102z
  have c2 : w.cell? ⟨k, 2, none⟩ = some (.bool true) := h.blk.cell 2
  have hstay : ∀ w', Frm w.heap.size [] w w' → ∃ m', BookAt w' k s m' ∧ Turn k w w' s s m m' := fun w' hf => ⟨m, h.still hf, ⟨hf.narrow (by simp), fun b hb => .inl hb⟩⟩
  obtain ⟨ea, eb, eo, ec, hve, hrw⟩ := h.rwE
  obtain ⟨n, hn⟩ : ∃ n, n = s.reps.length := ⟨_, rfl⟩
  have hnm : n ≤ 500 := by rw [hn]; exact h.inv.max.1
  have c3 : w.cell? ⟨k, 3, none⟩ = some (.slice ea n ec) := by rw [hn, ← hve]; exact h.blk.cell 3
  have e1 : IntKind.i64.wrap ((n : Int) - 1) = (n : Int) - 1 := IntWalk.i64_in _ (by omega)
  have e2 : wrap64 ((n : Int) - 1) = (n : Int) - 1 := IntWalk.wrap64_in _ (by omega)
  have hwi : ∀ V : World, Calls Try.prog 38 #[.int .i64 p.rep, .int .i64 0, .int .i64 ((n : Int) - 1)] V fun e w' => e = .returned (.bool (inB p.rep 0 ((n : Int) - 1))) ∧ Frm V.heap.size [] V w' := fun V => (withinI_any _ _ _ _).mono fun e w' h => ⟨h.1, by rw [← h.2]; exact Frm.refl _ _ _⟩
  obtain ⟨P, hP⟩ : ∃ E, E = prfA p pad pcap := ⟨_, rfl⟩
  have hz6 : P.length = 6 := by rw [hP]; rfl
  have hP1 : P[1]? = some (.int .i64 p.rep) := by rw [hP]; rfl
  have hP2 : P[2]? = some (.int .i64 p.time) := by rw [hP]; rfl
  have hP5 : P[5]? = some (.int .i64 p.count) := by rw [hP]; rfl
  have hright : ∀ V r ad cap, Frm w.heap.size [] w V → Calls Try.prog 52 #[.agg P.toArray, .agg (repC r ad cap).toArray] V fun e w' => e = .returned (.bool (rightB p r)) ∧ Frm V.heap.size [] V w' := fun V r ad cap hV => by rw [hP]; exact right_call p pad pb po pcap r ad cap V (hp.frm hV (Nat.le_refl _))
  have hmade : ∀ V, Calls Try.prog 53 #[.agg P.toArray] V fun e w' => e = .returned (madeV p pad pcap) ∧ Frm V.heap.size [] V w' := fun V => by rw [hP]; exact made_any p pad pcap V
  have hlk := h.blk.lt
  rw [← hP]
  clear hP hve
  have HI8 := Lib.hid hi8
  have HZ80 := Lib.hid hz80
  have HZ81 := Lib.hid hz81
  have HZ82 := Lib.hid hz82
  have HST := Lib.hid hstay
  have HRW := Lib.hid hrw
  have HN := Lib.hid hn
  have HNM := Lib.hid hnm
  have HWI := Lib.hid hwi
  have HZ6 := Lib.hid hz6
  have HP1 := Lib.hid hP1
  have HP2 := Lib.hid hP2
  have HP5 := Lib.hid hP5
  have HRI := Lib.hid hright
  have HMA := Lib.hid hmade
  have HLK := Lib.hid hlk
  have HH := Lib.hid h
  have HP := Lib.hid hp
  clear hp h hlk hmade hright hP5 hP2 hP1 hz6 hwi hnm hn hrw hstay hz82 hz81 hz80 hi8
  go_enter Try.func28, Try.ntmps28
  go_upto_region 1 with fail
  refine namedC ?_; intro W hW
  have k0 : Blk W w.heap.size 39 P := by rw [hW]; exact Blk.new w 39 P
  have hf : Frm w.heap.size [] w W := by rw [hW]; repeat (first | with_reducible exact Frm.refl _ _ _ | with_reducible refine Frm.drewN ?_ | with_reducible refine Frm.drew ?_ | ((with_reducible refine Frm.setCell' ?_ ?_); · first | (left; simp; done) | (right; simp; done) | (right; simp; omega)) | ((with_reducible refine Frm.alloc' ?_ ?_); · first | exact Nat.le_refl _ | (simp; done) | (simp; omega)))
  clear hW hf0
  have c2' : W.cell? ⟨k, 2, none⟩ = some (.bool true) := (hf.cell HLK.out (by simp)).trans c2
  have q1 : W.cell? ⟨w.heap.size, 1, none⟩ = some (.int .i64 p.rep) := (k0.cell 1).trans HP1.out
  have c3' : W.cell? ⟨k, 3, none⟩ = some (.slice ea n ec) := (hf.cell HLK.out (by simp)).trans c3
  have hfx : ∀ V, Frm W.heap.size [] W V → V.cell? ⟨w.heap.size, 1, none⟩ = some (.int .i64 p.rep) ∧ V.cell? ⟨k, 3, none⟩ = some (.slice ea n ec) := fun V hV => ⟨(hV.cell (cell_lt q1) (by simp)).trans q1, (hV.cell (cell_lt c3') (by simp)).trans c3'⟩
  clear q1 c3'
  have HF := Lib.hid hf
  have K0 := Lib.hid k0
  have C2 := Lib.hid c2'
  have C2' := Lib.hid c2
  have C3 := Lib.hid c3
  have HFX := Lib.hid hfx
  clear hfx c3 c2 c2' k0 hf
  go_upto_region 3 with (go_at_call 35; refine (is_made _ k true C2.out).mono ?_; rintro e w' ⟨rfl, rfl⟩)
  refine wp_region_leftL (fun V => Frm W.heap.size [] W V) 1000 (by kernel_rfl) ?_
  have hS : Frm W.heap.size [] W W.drew := (Frm.refl _ _ W).drew
  have HS := Lib.hid hS
  clear hS
  first | (refine LeftL.tkG (v := ?_) 0 rfl HS.out ?_ ?_; rotate_left; · intro V hV; obtain ⟨z1, z2⟩ := HFX.out V hV; clear hV; go_simp; rfl) | refine LeftL.tkN 0 rfl HS.out ?_
  (intro K h; go_simp; refine h _ ?_; clear h K)
  first | (refine LeftL.tkG (v := ?_) 1 rfl HS.out ?_ ?_; rotate_left; · intro V hV; obtain ⟨z1, z2⟩ := HFX.out V hV; clear hV; go_simp; rfl) | refine LeftL.tkN 1 rfl HS.out ?_
  (intro K h; go_simp; refine h _ ?_; clear h K)
  first | (refine LeftL.tkG (v := ?_) 2 rfl HS.out ?_ ?_; rotate_left; · intro V hV; obtain ⟨z1, z2⟩ := HFX.out V hV; clear hV; go_simp; rfl) | refine LeftL.tkN 2 rfl HS.out ?_
  (intro K h; go_simp; refine h _ ?_; clear h K)
  first | (refine LeftL.tkG (v := ?_) 3 rfl HS.out ?_ ?_; rotate_left; · intro V hV; obtain ⟨z1, z2⟩ := HFX.out V hV; clear hV; go_simp; rfl) | refine LeftL.tkN 3 rfl HS.out ?_
  (intro K h; go_simp; refine h _ ?_; clear h K)
  first | (refine LeftL.tkG (v := ?_) 4 rfl HS.out ?_ ?_; rotate_left; · intro V hV; obtain ⟨z1, z2⟩ := HFX.out V hV; clear hV; go_simp; rfl) | refine LeftL.tkN 4 rfl HS.out ?_
  (intro K h; go_simp; refine h _ ?_; clear h K)
  first | (refine LeftL.tkG (v := ?_) 5 rfl HS.out ?_ ?_; rotate_left; · intro V hV; obtain ⟨z1, z2⟩ := HFX.out V hV; clear hV; go_simp; rfl) | refine LeftL.tkN 5 rfl HS.out ?_
  (intro K h; go_simp; refine h _ ?_; clear h K)
  first | (refine LeftL.tkG (v := ?_) 6 rfl HS.out ?_ ?_; rotate_left; · intro V hV; obtain ⟨z1, z2⟩ := HFX.out V hV; clear hV; go_simp; rfl) | refine LeftL.tkN 6 rfl HS.out ?_
  (intro K h; go_simp; refine h _ ?_; clear h K)
  first | (refine LeftL.tkG (v := ?_) 7 rfl HS.out ?_ ?_; rotate_left; · intro V hV; obtain ⟨z1, z2⟩ := HFX.out V hV; clear hV; go_simp; rfl) | refine LeftL.tkN 7 rfl HS.out ?_
  (intro K h; go_simp; refine h _ ?_; clear h K)
  (try simp only [e1, e2])
  refine LeftL.one 8 rfl (by kernel_rfl) ?_
  go_wp2_with fail
  refine (HWI.out _).mono ?_; rintro e w1 ⟨rfl, hf1⟩
  have hS1 := HS.out.call hf1 HS.out.size (by simp)
  clear hf1 HS
  have HS := Lib.hid hS1
  clear hS1
  go_wp2_with fail
  first | refine ⟨fun _ => HS.out, ?_⟩ | refine ⟨HS.out, ?_⟩
  refine LeftL.one 9 rfl (by kernel_rfl) ?_
  go_wp2_with fail
  first | refine ⟨fun _ => HS.out, ?_⟩ | refine ⟨HS.out, ?_⟩
  refine LeftL.one 10 rfl (by kernel_rfl) ?_
  go_wp2_with fail
  first | refine ⟨fun _ => HS.out, ?_⟩ | refine ⟨HS.out, ?_⟩
  refine LeftL.done (by kernel_rfl) ?_
  have hf := HF.out.call HS.out HF.out.size (by simp)
  have k0 := HS.out.blk K0.out K0.out.lt (by simp)
  clear HS HFX HF K0 C2
  have E1 := Lib.hid e1
  have E2 := Lib.hid e2
  clear e2 e1
  have HF := Lib.hid hf
  have K0 := Lib.hid k0
  clear k0 hf
  cases hin : inB p.rep 0 ((n : Int) - 1)
  · have hpe : proveS s p = (s, 7) := by unfold proveS; rw [if_pos (by rw [← HN.out]; exact hin)]
    have HPE := Lib.hid hpe
    have HIN := Lib.hid hin
    clear hin hpe
    go_wp2_with fail
    go_ret
    rw [HPE.out]
    exact ⟨rfl, HST.out _ HF.out⟩
  obtain ⟨x, hx, hxn⟩ : ∃ x : Nat, p.rep = (x : Int) ∧ x < n := by
    have := inB_iff.1 hin
    exact ⟨p.rep.toNat, by omega, by omega⟩
  have hpin : inB p.rep 0 ((s.reps.length : Int) - 1) = true := by rw [← HN.out]; exact hin
  have had := HRW.out.ad (by have := HN.out; omega)
  subst had
  have hxs : x < s.reps.length := by have := HN.out; omega
  have hok := HH.out.rok hxs
  have hp1 := HP1.out
  rw [hx] at hp1
  have q1 : w1.cell? ⟨w.heap.size, 1, none⟩ = some (.int .i64 (x : Int)) := (K0.out.cell 1).trans hp1
  have c3' : w1.cell? ⟨k, 3, none⟩ = some (.slice (some ⟨eb, eo, none⟩) n ec) := (HF.out.cell HLK.out (by simp)).trans C3.out
  have hfx : ∀ V, Frm w1.heap.size [] w1 V → V.cell? ⟨w.heap.size, 1, none⟩ = some (.int .i64 (x : Int)) ∧ V.cell? ⟨k, 3, none⟩ = some (.slice (some ⟨eb, eo, none⟩) n ec) := fun V hV => ⟨(hV.cell (cell_lt q1) (by simp)).trans q1, (hV.cell (cell_lt c3') (by simp)).trans c3'⟩
  have hl24 : ∀ V, Frm w1.heap.size [] w1 V → (loadVar 24 ⟨eb, eo + x * 8, none⟩).run Try.prog V = .ok (.agg (repC (s.rp x) (m.ad x) (m.wc x)).toArray) V := fun V hV => (HRW.out.frm (HF.out.call hV HF.out.size (by simp)) (Nat.le_refl _)).loadPart (P := Try.prog) Try.underlying24 rfl hxs _ ent_part info24
  have hrx := HH.out.wh x hxs
  obtain ⟨C, hC⟩ : ∃ E, E = repC (s.rp x) (m.ad x) (m.wc x) := ⟨_, rfl⟩
  have hz7 : C.length = 7 := by rw [hC]; rfl
  have hc1 : ∀ u ∈ C, u.oneCell' = true := by rw [hC]; simp [repC, Value.oneCell']
  have hri : ∀ V, Frm w.heap.size [] w V → Calls Try.prog 52 #[.agg P.toArray, .agg C.toArray] V fun e w' => e = .returned (.bool (rightB p (s.rp x))) ∧ Frm V.heap.size [] V w' := fun V hV => by rw [hC]; exact HRI.out V (s.rp x) (m.ad x) (m.wc x) hV
  have hmk : rightB p (s.rp x) = true → ∃ T u N, Made_ s p (s.rp x) C w (madeV p pad pcap) T u N := fun hr => by rw [hC]; exact made_all s p (s.rp x) hok hr pad pb po pcap (m.ad x) (m.wb x) (m.wo x) (m.wc x) w HP.out hrx
  rw [← hC] at hl24
  have hxn' : (x : Int) < (n : Int) := by omega
  have hxt : p.rep.toNat = x := by omega
  have hpx : rightB p (s.rp x) = false ∨ (p.kind ≠ 1 ∧ p.count ≠ 0) ∨ fitsB s p (s.rp x) = false → proveS s p = (s, 2) := fun hc => by
    unfold proveS
    rw [if_neg (by rw [hpin]; simp), hxt, if_pos]
    rcases hc with e | ⟨e1, e2⟩ | e
    · rw [e]; simp
    · simp [e1, e2]
    · rw [e]; simp
  have hpy : rightB p (s.rp x) = true → (p.kind = 1 ∨ p.count = 0) → fitsB s p (s.rp x) = true → proveS s p = if s.prf.length = 500 then (s, 6) else ({ s with prf := s.prf ++ [p] }, 0) := fun ha hb hc => by
    unfold proveS
    rw [if_neg (by rw [hpin]; simp), hxt, if_neg]
    rw [ha, hc]
    rcases hb with e | e <;> simp [e]
  have hPP1 := HP1.out
  clear hx hC hrx hp1 q1 c3' hpin hok HWI hxt HP1
  have HPP1 := Lib.hid hPP1
  have HFX := Lib.hid hfx
  have HL24 := Lib.hid hl24
  have HZ7 := Lib.hid hz7
  have HC1 := Lib.hid hc1
  have HRI2 := Lib.hid hri
  have HMK := Lib.hid hmk
  have HPX := Lib.hid hpx
  have HPY := Lib.hid hpy
  have HIN := Lib.hid hin
  have HXS := Lib.hid hxs
  have HXN := Lib.hid hxn
  clear hxn hxs hin hpy hpx hmk hri hc1 hz7 hl24 hfx hPP1
  go_upto_region 5 with fail
  refine wp_region_leftL (fun V => Frm w1.heap.size [] w1 V) 1000 (by kernel_rfl) ?_
  have hS : Frm w1.heap.size [] w1 w1.drew := (Frm.refl _ _ w1).drew
  obtain ⟨W1, hW1⟩ : ∃ V, V = w1.drew := ⟨_, rfl⟩
  rw [← hW1] at hS ⊢
  clear hW1
  have HS := Lib.hid hS
  clear hS
  first | (refine LeftL.tkG (v := ?_) 0 rfl HS.out ?_ ?_; rotate_left; · intro V hV; obtain ⟨z1, z2⟩ := HFX.out V hV; clear hV; go_simp; rfl) | refine LeftL.tkN 0 rfl HS.out ?_
  (intro K h; go_simp; refine h _ ?_; clear h K)
  first | (refine LeftL.tkG (v := ?_) 1 rfl HS.out ?_ ?_; rotate_left; · intro V hV; obtain ⟨z1, z2⟩ := HFX.out V hV; clear hV; go_simp; rfl) | refine LeftL.tkN 1 rfl HS.out ?_
  (intro K h; go_simp; refine h _ ?_; clear h K)
  first | (refine LeftL.tkG (v := ?_) 2 rfl HS.out ?_ ?_; rotate_left; · intro V hV; obtain ⟨z1, z2⟩ := HFX.out V hV; clear hV; go_simp; rfl) | refine LeftL.tkN 2 rfl HS.out ?_
  (intro K h; go_simp; refine h _ ?_; clear h K)
  first | (refine LeftL.tkG (v := ?_) 3 rfl HS.out ?_ ?_; rotate_left; · intro V hV; obtain ⟨z1, z2⟩ := HFX.out V hV; clear hV; go_simp; rfl) | refine LeftL.tkN 3 rfl HS.out ?_
  (intro K h; go_simp; refine h _ ?_; clear h K)
  first | (refine LeftL.tkG (v := ?_) 4 rfl HS.out ?_ ?_; rotate_left; · intro V hV; obtain ⟨z1, z2⟩ := HFX.out V hV; clear hV; go_simp; rfl) | refine LeftL.tkN 4 rfl HS.out ?_
  (intro K h; go_simp; refine h _ ?_; clear h K)
  first | (refine LeftL.tkG (v := ?_) 5 rfl HS.out ?_ ?_; rotate_left; · intro V hV; obtain ⟨z1, z2⟩ := HFX.out V hV; clear hV; go_simp; rfl) | refine LeftL.tkN 5 rfl HS.out ?_
  (intro K h; go_simp; refine h _ ?_; clear h K)
  first | (refine LeftL.tkG (v := ?_) 6 rfl HS.out ?_ ?_; rotate_left; · intro V hV; obtain ⟨z1, z2⟩ := HFX.out V hV; clear hV; go_simp; rfl) | refine LeftL.tkN 6 rfl HS.out ?_
  (intro K h; go_simp; refine h _ ?_; clear h K)
  first | (refine LeftL.tkG (v := ?_) 7 rfl HS.out ?_ ?_; rotate_left; · intro V hV; obtain ⟨z1, z2⟩ := HFX.out V hV; clear hV; go_simp; rfl) | refine LeftL.tkN 7 rfl HS.out ?_
  (intro K h; go_simp; refine h _ ?_; clear h K)
  refine LeftL.take 8 rfl (by kernel_rfl) (fun _ _ d _ _ h => by cases d <;> exact h) (yields_loadE (ty := 24) rfl rfl rfl (HL24.out)) HS.out ?_; (intro K' hK'; go_simp; refine hK' _ ?_; clear hK' K')
  refine LeftL.one 9 rfl (by kernel_rfl) ?_
  go_wp2_with fail
  first | refine ⟨fun _ => HS.out.alloc HS.out.size _, ?_⟩ | refine ⟨HS.out.alloc HS.out.size _, ?_⟩
  refine LeftL.one 10 rfl (by kernel_rfl) ?_
  refine wpList_storeNew (P := Try.prog) (cs := C) rfl rfl rfl rfl (by rw [HZ7.out]; rfl) (by rw [HZ7.out]; exact info24) HC1.out ?_
  intro V1 hv1 k5 hz; clear hz
  refine wpList_nil ?_
  have hS2 := HS.out.call hv1 HS.out.size (by simp)
  first | refine ⟨fun _ => hS2, ?_⟩ | refine ⟨hS2, ?_⟩
  refine LeftL.done (by kernel_rfl) ?_
  dsimp only [Act.put]
  have hf := HF.out.call hS2 HF.out.size (by simp)
  have k0 := hS2.blk K0.out K0.out.lt (by simp)
  obtain ⟨p5, hp5⟩ : ∃ p, p = W1.heap.size := ⟨_, rfl⟩
  rw [← hp5] at k5 ⊢
  clear hp5 hS2 hv1 HS HF HFX HL24 K0 hxn'
  have HF := Lib.hid hf
  have K0 := Lib.hid k0
  have K5 := Lib.hid k5
  clear k5 k0 hf
  go_wp2_with (first | (with_reducible refine atLoad 39 rfl ?_; refine wpList_loadE rfl rfl rfl (load39 K0.out HZ6.out) ?_) | (with_reducible refine atLoad 24 rfl ?_; refine wpList_loadE rfl rfl rfl (load24 K5.out HZ7.out) ?_))
  refine (HRI2.out V1 HF.out).mono ?_; rintro e w2 ⟨rfl, hf1⟩
  have hf := HF.out.call hf1 HF.out.size (by simp)
  have k0 := hf1.blk K0.out K0.out.lt (by simp)
  have k5 := hf1.blk K5.out K5.out.lt (by simp)
  clear hf1 HF K0 K5
  have HF := Lib.hid hf
  have K0 := Lib.hid k0
  have K5 := Lib.hid k5
  clear k5 k0 hf
  cases hrb : rightB p (s.rp x)
  · have hpe := HPX.out (.inl hrb)
    have HPE := Lib.hid hpe
    have HRB := Lib.hid hrb
    clear hrb hpe
    go_wp2_with fail
    go_ret
    rw [HPE.out]
    exact ⟨rfl, HST.out _ HF.out⟩
  obtain ⟨T, u, N, hM⟩ := HMK.out hrb
  have HRB := Lib.hid hrb
  have HM := Lib.hid hM
  clear hM hrb
  go_wp2_with (first | (with_reducible refine atLoad 39 rfl ?_; refine wpList_loadE rfl rfl rfl (load39 K0.out HZ6.out) ?_) | (with_reducible refine atLoad 24 rfl ?_; refine wpList_loadE rfl rfl rfl (load24 K5.out HZ7.out) ?_))
  refine (HMA.out w2).mono ?_; rintro e w3 ⟨rfl, hf1⟩
  have hf := HF.out.call hf1 HF.out.size (by simp)
  have k0 := hf1.blk K0.out K0.out.lt (by simp)
  have k5 := hf1.blk K5.out K5.out.lt (by simp)
  clear hf1 HF K0 K5
  have HF := Lib.hid hf
  have K0 := Lib.hid k0
  have K5 := Lib.hid k5
  clear k5 k0 hf
  have hmv := HM.out.val
  rw [hmv]
  have hiv : IsPrf p (.iface T u) := by rw [← hmv]; exact made_prf p pad pcap
  clear hmv HMA
  have q5 : w3.cell? ⟨w.heap.size, 5, none⟩ = some (.int .i64 p.count) := (K0.out.cell 5).trans HP5.out
  have HIV := Lib.hid hiv
  clear hiv
  by_cases hpk : p.kind = 1
  · have hyes := HM.out.yes hpk
    have hkc : p.kind = 1 ∨ p.count = 0 := .inl hpk
    have HPK := Lib.hid hpk
    have HKC := Lib.hid hkc
    clear hkc hpk
    go_upto_region 13 with fail
    clear hyes
    clear q5
    have h60 : ∀ V, Frm w3.heap.size [] w3 V → (loadVar 60 ⟨k, 0, none⟩).run Try.prog V = .ok (.agg #[.int .i64 s.window, .int .i64 s.drift]) V := fun V hV => (HH.out.still (HF.out.call hV HF.out.size (by simp))).load60
    have h24 : ∀ V, Frm w3.heap.size [] w3 V → (loadVar 24 ⟨p5, 0, none⟩).run Try.prog V = .ok (.agg C.toArray) V := fun V hV => load24 (hV.blk K5.out K5.out.lt (by simp)) HZ7.out
    have hfx : ∀ V, Frm w3.heap.size [] w3 V → True ∧ True := fun _ _ => ⟨trivial, trivial⟩
    have H60 := Lib.hid h60
    have H24 := Lib.hid h24
    have HFX := Lib.hid hfx
    clear hfx h24 h60
    refine wp_region_leftL (fun V => Frm w3.heap.size [] w3 V) 1000 (by kernel_rfl) ?_
    have hS : Frm w3.heap.size [] w3 w3.drew := (Frm.refl _ _ w3).drew
    have HS := Lib.hid hS
    clear hS
    first | (refine LeftL.tkG (v := ?_) 0 rfl HS.out ?_ ?_; rotate_left; · intro V hV; obtain ⟨z1, z2⟩ := HFX.out V hV; clear hV; go_simp; rfl) | refine LeftL.tkN 0 rfl HS.out ?_
    (intro K h; go_simp; refine h _ ?_; clear h K)
    first | (refine LeftL.tkG (v := ?_) 1 rfl HS.out ?_ ?_; rotate_left; · intro V hV; obtain ⟨z1, z2⟩ := HFX.out V hV; clear hV; go_simp; rfl) | refine LeftL.tkN 1 rfl HS.out ?_
    (intro K h; go_simp; refine h _ ?_; clear h K)
    first | (refine LeftL.tkG (v := ?_) 2 rfl HS.out ?_ ?_; rotate_left; · intro V hV; obtain ⟨z1, z2⟩ := HFX.out V hV; clear hV; go_simp; rfl) | refine LeftL.tkN 2 rfl HS.out ?_
    (intro K h; go_simp; refine h _ ?_; clear h K)
    first | (refine LeftL.tkG (v := ?_) 3 rfl HS.out ?_ ?_; rotate_left; · intro V hV; obtain ⟨z1, z2⟩ := HFX.out V hV; clear hV; go_simp; rfl) | refine LeftL.tkN 3 rfl HS.out ?_
    (intro K h; go_simp; refine h _ ?_; clear h K)
    refine LeftL.take 4 rfl (by kernel_rfl) (fun _ _ d _ _ h => by cases d <;> exact h) (yields_loadE (ty := 60) rfl rfl rfl (H60.out)) HS.out ?_; (intro K' hK'; go_simp; refine hK' _ ?_; clear hK' K')
    refine LeftL.take 5 rfl (by kernel_rfl) (fun _ _ d _ _ h => by cases d <;> exact h) (yields_loadE (ty := 24) rfl rfl rfl (H24.out)) HS.out ?_; (intro K' hK'; go_simp; refine hK' _ ?_; clear hK' K')
    first | (refine LeftL.tkG (v := ?_) 6 rfl HS.out ?_ ?_; rotate_left; · intro V hV; obtain ⟨z1, z2⟩ := HFX.out V hV; clear hV; go_simp; rfl) | refine LeftL.tkN 6 rfl HS.out ?_
    (intro K h; go_simp; refine h _ ?_; clear h K)
    refine LeftL.tkF (v := .func (.method "cresset/incident.fits") #[.iface T u] #[]) 7 rfl HS.out ?_ ?_
    · intro V hV; exact HM.out.nil V
    (intro K' hK'; go_simp; refine hK' _ ?_; clear hK' K')
    first | (refine LeftL.tkG (v := ?_) 8 rfl HS.out ?_ ?_; rotate_left; · intro V hV; obtain ⟨z1, z2⟩ := HFX.out V hV; clear hV; go_simp; rfl) | refine LeftL.tkN 8 rfl HS.out ?_
    (intro K h; go_simp; refine h _ ?_; clear h K)
    have hme := HM.out.meth
    have hent := HM.out.ent.out
    refine LeftL.one 9 rfl (by kernel_rfl) ?_
    go_wp2_with fail
    refine (HM.out.call _ (HF.out.call HS.out HF.out.size (by simp))).mono ?_; rintro e w4 ⟨rfl, hf1⟩
    have hS1 := HS.out.call hf1 HS.out.size (by simp)
    clear hf1 HS hme hent
    have HS := Lib.hid hS1
    clear hS1
    go_wp2_with fail
    first | refine ⟨fun _ => HS.out, ?_⟩ | refine ⟨HS.out, ?_⟩
    refine LeftL.one 10 rfl (by kernel_rfl) ?_
    go_wp2_with fail
    first | refine ⟨fun _ => HS.out, ?_⟩ | refine ⟨HS.out, ?_⟩
    refine LeftL.done (by kernel_rfl) ?_
    have hf := HF.out.call HS.out HF.out.size (by simp)
    have k0 := HS.out.blk K0.out K0.out.lt (by simp)
    clear HF K0 K5 H60 H24 HFX HS
    have HF := Lib.hid hf
    have K0 := Lib.hid k0
    clear k0 hf
    cases hfb : fitsB s p (s.rp x)
    · have hpe := HPX.out (.inr (.inr hfb))
      have HPE := Lib.hid hpe
      have HFB := Lib.hid hfb
      clear hfb hpe
      go_wp2_with fail
      go_ret
      rw [HPE.out]
      exact ⟨rfl, HST.out _ HF.out⟩
    have hpy := HPY.out HRB.out HKC.out hfb
    obtain ⟨qa, qc, hvp⟩ := HH.out.prf.form
    obtain ⟨M, hMe⟩ : ∃ c, c = s.prf.length := ⟨_, rfl⟩
    have hMm : M ≤ 500 := by rw [hMe]; exact HH.out.inv.max.2
    have c5w : w.cell? ⟨k, 5, none⟩ = some (.slice qa M qc) := by rw [hMe, ← hvp]; exact HH.out.blk.cell 5
    have c5 : w4.cell? ⟨k, 5, none⟩ = some (.slice qa M qc) := (HF.out.cell HLK.out (by simp)).trans c5w
    rw [← hMe] at hpy
    clear HPX HPY HMK HRI HRI2
    have HPY := Lib.hid hpy
    have HFB := Lib.hid hfb
    have HVP := Lib.hid hvp
    have HMM := Lib.hid hMe
    have HM5 := Lib.hid hMm
    have C5W := Lib.hid c5w
    clear c5w hMm hMe hvp hfb hpy
    by_cases h5 : M = 500
    · have hpe : proveS s p = (s, 6) := by rw [HPY.out, if_pos h5]
      subst h5
      have HPE := Lib.hid hpe
      clear hpe
      go_wp2_with fail
      go_ret
      rw [HPE.out]
      exact ⟨rfl, HST.out _ HF.out⟩
    have h5' : ¬ (M : Int) = 500 := by omega
    have h5b : ((M : Int) == 500) = false := by simp; omega
    have hpe : proveS s p = ({ s with prf := s.prf ++ [p] }, 0) := by rw [HPY.out, if_neg h5]
    clear HPY
    have HPE := Lib.hid hpe
    have H5 := Lib.hid h5
    clear h5 hpe
    go_upto_region 17 with fail
    clear h5' h5b c5
    have hinv : BInv { s with prf := s.prf ++ [p] } := by have := prove_inv HH.out.inv p; rw [HPE.out] at this; exact this
    have hra := (HH.out.still HF.out).raw
    have hfx : ∀ V, (Blk V k 64 (bookC s m) ∧ Blk V w.heap.size 39 P) → V.cell? ⟨k, 5, none⟩ = some (.slice qa M qc) ∧ V.cell? ⟨w.heap.size, 1, none⟩ = some (.int .i64 p.rep) ∧ V.cell? ⟨w.heap.size, 2, none⟩ = some (.int .i64 p.time) := fun V hV => ⟨by rw [HMM.out, ← HVP.out]; exact hV.1.cell 5, (hV.2.cell 1).trans (by rw [HPP1.out]), (hV.2.cell 2).trans HP2.out⟩
    have hra := hra.still ((Frm.refl w4.heap.size [] w4).drew)
    have hfA := HF.out.drew
    have k0 := K0.out.drew
    refine wp_region_leftL (fun V => Blk V k 64 (bookC s m) ∧ Blk V w.heap.size 39 P) 15 (by kernel_rfl) ?_
    obtain ⟨wC, hwC⟩ : ∃ V, V = w4.drew := ⟨_, rfl⟩
    rw [← hwC] at hra hfA k0 ⊢
    have hS : Blk wC k 64 (bookC s m) ∧ Blk wC w.heap.size 39 P := ⟨hra.blk, k0⟩
    clear hwC k0 K0 HF
    have HS := Lib.hid hS
    have HFX := Lib.hid hfx
    have HRA := Lib.hid hra
    have HFA := Lib.hid hfA
    have HINV := Lib.hid hinv
    clear hinv hfA hra hfx hS
    first | (refine LeftL.tkG (v := ?_) 0 rfl HS.out ?_ ?_; rotate_left; · intro V hV; obtain ⟨z1, z2, z3⟩ := HFX.out V hV; clear hV; go_simp; rfl) | refine LeftL.tkN 0 rfl HS.out ?_
    (intro K h; go_simp; refine h _ ?_; clear h K)
    first | (refine LeftL.tkG (v := ?_) 1 rfl HS.out ?_ ?_; rotate_left; · intro V hV; obtain ⟨z1, z2, z3⟩ := HFX.out V hV; clear hV; go_simp; rfl) | refine LeftL.tkN 1 rfl HS.out ?_
    (intro K h; go_simp; refine h _ ?_; clear h K)
    first | (refine LeftL.tkG (v := ?_) 2 rfl HS.out ?_ ?_; rotate_left; · intro V hV; obtain ⟨z1, z2, z3⟩ := HFX.out V hV; clear hV; go_simp; rfl) | refine LeftL.tkN 2 rfl HS.out ?_
    (intro K h; go_simp; refine h _ ?_; clear h K)
    first | (refine LeftL.tkG (v := ?_) 3 rfl HS.out ?_ ?_; rotate_left; · intro V hV; obtain ⟨z1, z2, z3⟩ := HFX.out V hV; clear hV; go_simp; rfl) | refine LeftL.tkN 3 rfl HS.out ?_
    (intro K h; go_simp; refine h _ ?_; clear h K)
    first | (refine LeftL.tkG (v := ?_) 4 rfl HS.out ?_ ?_; rotate_left; · intro V hV; obtain ⟨z1, z2, z3⟩ := HFX.out V hV; clear hV; go_simp; rfl) | refine LeftL.tkN 4 rfl HS.out ?_
    (intro K h; go_simp; refine h _ ?_; clear h K)
    first | (refine LeftL.tkG (v := ?_) 5 rfl HS.out ?_ ?_; rotate_left; · intro V hV; obtain ⟨z1, z2, z3⟩ := HFX.out V hV; clear hV; go_simp; rfl) | refine LeftL.tkN 5 rfl HS.out ?_
    (intro K h; go_simp; refine h _ ?_; clear h K)
    first | (refine LeftL.tkG (v := ?_) 6 rfl HS.out ?_ ?_; rotate_left; · intro V hV; obtain ⟨z1, z2, z3⟩ := HFX.out V hV; clear hV; go_simp; rfl) | refine LeftL.tkN 6 rfl HS.out ?_
    (intro K h; go_simp; refine h _ ?_; clear h K)
    first | (refine LeftL.tkG (v := ?_) 7 rfl HS.out ?_ ?_; rotate_left; · intro V hV; obtain ⟨z1, z2, z3⟩ := HFX.out V hV; clear hV; go_simp; rfl) | refine LeftL.tkN 7 rfl HS.out ?_
    (intro K h; go_simp; refine h _ ?_; clear h K)
    first | (refine LeftL.tkG (v := ?_) 8 rfl HS.out ?_ ?_; rotate_left; · intro V hV; obtain ⟨z1, z2, z3⟩ := HFX.out V hV; clear hV; go_simp; rfl) | refine LeftL.tkN 8 rfl HS.out ?_
    (intro K h; go_simp; refine h _ ?_; clear h K)
    first | (refine LeftL.tkG (v := ?_) 9 rfl HS.out ?_ ?_; rotate_left; · intro V hV; obtain ⟨z1, z2, z3⟩ := HFX.out V hV; clear hV; go_simp; rfl) | refine LeftL.tkN 9 rfl HS.out ?_
    (intro K h; go_simp; refine h _ ?_; clear h K)
    first | (refine LeftL.tkG (v := ?_) 10 rfl HS.out ?_ ?_; rotate_left; · intro V hV; obtain ⟨z1, z2, z3⟩ := HFX.out V hV; clear hV; go_simp; rfl) | refine LeftL.tkN 10 rfl HS.out ?_
    (intro K h; go_simp; refine h _ ?_; clear h K)
    refine LeftL.one 11 rfl (by kernel_rfl) ?_
    go_wp2_with fail
    first | refine ⟨fun _ => ⟨HS.out.1.alloc _, HS.out.2.alloc _⟩, ?_⟩ | refine ⟨⟨HS.out.1.alloc _, HS.out.2.alloc _⟩, ?_⟩
    refine LeftL.one 12 rfl (by kernel_rfl) ?_
    have hsl := HRA.out.prf
    rw [HVP.out, ← HMM.out] at hsl
    refine wpList_append_sl _ rfl (.tmp 65) (.tmp 72) 62 rfl 102 i8 _ 3 32 Try.underlying62 HI8.out HZ80.out HZ81.out HZ82.out rfl _ _ _ m.op rfl (hsl.alloc _) ⟨wC.heap.size, 0, none⟩ 1 1 (prfC p (.iface T u)) rfl rfl (news_alloc _ (prfC p (.iface T u)) _) (by simp [prfC, Value.oneCell']) (by have := HM5.out; unfold maxLen; omega) (by have := HM5.out; omega) ?_
    intro v' wE own' hs3 hf3 ho3
    obtain ⟨va, vc, hva⟩ := hs3.form
    subst hva
    clear hsl
    refine wpList_nil ?_
    dsimp only [Act.put]
    obtain ⟨wD2, hwD2⟩ : ∃ V, V = wC.alloc (.cells (prfC p (.iface T u)).toArray 102) := ⟨_, rfl⟩
    have hfD : Frm wC.heap.size [] wC wD2 := by rw [hwD2]; exact (Frm.refl _ _ _).alloc (Nat.le_refl _) _
    have hs3' : Sl wE 102 3 (.slice va (M + 1) vc) (s.prf.length + 1) ((List.range s.prf.length).flatMap (prfAt s m) ++ prfC p (.iface T u)) own' := by rw [← HMM.out]; exact hs3
    have hf3' : Frm wD2.heap.size m.op.toList wD2 wE := by rw [hwD2]; exact hf3
    have ho3' : own' = m.op ∨ ∃ g, own' = some g ∧ wD2.heap.size ≤ g := by rw [hwD2]; exact ho3
    have hszD : wC.heap.size ≤ wD2.heap.size := hfD.size
    have hra1 := HRA.out.still hfD
    have hra2 := hra1.growPrf (p := p) (v := .iface T u) hs3' hf3' ho3' HIV.out
    have hkE : Blk wE k 64 (bookC s m) := hf3'.blk hra1.blk hra1.blk.lt (fun hm => hra1.ke.2.2 (by simpa using hm))
    have hpE : Blk wE w.heap.size 39 P := by
      have k1 := hfD.blk HS.out.2 HS.out.2.lt (by simp)
      refine hf3'.blk k1 k1.lt (fun hm => ?_)
      have := HH.out.own_lt w.heap.size (own_iff.2 (.inr (.inr (.inr (.inl (by simpa using hm))))))
      omega
    have hfE : Frm w.heap.size (m.own k s) w wE := ((HFA.out.narrow (S' := m.own k s) (by simp)).call hfD HFA.out.size (by simp)).call hf3' (Nat.le_trans HFA.out.size hszD) (fun q hq hm => own_iff.2 (.inr (.inr (.inr (.inl (by simpa using hm))))))
    have hfF := hfE.setCell (p := ⟨k, 5, none⟩) (.inl (own_iff.2 (.inl rfl))) (.slice va (M + 1) vc)
    have hownE : ∀ q ∈ (m.prfMore s.prf.length (.slice va (M + 1) vc) own' (.iface T u)).own k { s with prf := s.prf ++ [p] }, q ∈ m.own k s ∨ w.heap.size ≤ q := fun q hq => by
      rcases own_iff.1 hq with rfl | e | e | e | ⟨i, hi, e⟩
      · exact .inl (own_iff.2 (.inl rfl))
      · exact .inl (own_iff.2 (.inr (.inl e)))
      · exact .inl (own_iff.2 (.inr (.inr (.inl e))))
      · have e : own' = some q := e
        rcases ho3' with e2 | ⟨g, e2, hg⟩
        · exact .inl (own_iff.2 (.inr (.inr (.inr (.inl (by rw [← e2]; exact e))))))
        · rw [e] at e2; cases e2; have := HFA.out.size; exact .inr (by omega)
      · exact .inl (own_iff.2 (.inr (.inr (.inr (.inr ⟨i, hi, e⟩)))))
    have hS : Blk wE k 64 (bookC s m) ∧ Blk wE w.heap.size 39 P := ⟨hkE, hpE⟩
    have c5 : wE.cell? ⟨k, 5, none⟩ = some (.slice qa M qc) := by rw [HMM.out, ← HVP.out]; exact hkE.cell 5
    have g5 := hkE.free 5
    clear hwD2 hfD hs3 hs3' hf3 hf3' ho3 ho3' hszD hra1 hkE hpE hfE HRA HFA HS
    have HS := Lib.hid hS
    have HRA := Lib.hid hra2
    have HFF := Lib.hid hfF
    have HOE := Lib.hid hownE
    have C5E := Lib.hid c5
    have G5E := Lib.hid g5
    clear g5 c5 hownE hfF hra2 hS
    first | refine ⟨fun _ => HS.out, ?_⟩ | refine ⟨HS.out, ?_⟩
    refine LeftL.one 13 rfl (by kernel_rfl) ?_
    go_wp2_with fail
    first | refine ⟨fun _ => HS.out, ?_⟩ | refine ⟨HS.out, ?_⟩
    refine LeftL.one 14 rfl (by kernel_rfl) ?_
    go_wp2_with fail
    first | refine ⟨fun _ => HS.out, ?_⟩ | refine ⟨HS.out, ?_⟩
    have c5 := C5E.out
    have g5 := G5E.out
    refine LeftL.one 15 rfl (by kernel_rfl) ?_
    go_wp2_with fail
    clear c5 g5 C5E G5E HS
    have hra := HRA.out
    have hff := HFF.out
    generalize World.setCell wE _ _ = wF at hra hff ⊢
    clear HRA HFF
    refine ⟨fun h => absurd rfl h, ?_⟩
    refine LeftL.done (by kernel_rfl) ?_
    have hbk := hra.at_ HINV.out
    clear hra
    have HBK := Lib.hid hbk
    have HFF := Lib.hid hff
    clear hff hbk
    go_wp2_with fail
    go_ret
    rw [HPE.out]
    exact ⟨rfl, _, HBK.out, ⟨HFF.out, HOE.out⟩⟩
  have hno := HM.out.no hpk
  by_cases hc0 : p.count = 0
  rotate_left
  · have hpe := HPX.out (.inr (.inl ⟨hpk, hc0⟩))
    have hc0b : (p.count == 0) = false := by simp [hc0]
    have HPE := Lib.hid hpe
    have HPK := Lib.hid hpk
    clear hpk hpe
    go_wp2_with fail
    go_ret
    rw [HPE.out]
    exact ⟨rfl, HST.out _ HF.out⟩
  have hkc : p.kind = 1 ∨ p.count = 0 := .inr hc0
  have hc0' := hc0
  rw [hc0] at q5
  have HPK := Lib.hid hpk
  have HKC := Lib.hid hkc
  have HC0 := Lib.hid hc0
  have HC0' := Lib.hid hc0'
  clear hc0' hc0 hkc hpk
  go_upto_region 13 with fail
  clear hno
  clear q5
  have h60 : ∀ V, Frm w3.heap.size [] w3 V → (loadVar 60 ⟨k, 0, none⟩).run Try.prog V = .ok (.agg #[.int .i64 s.window, .int .i64 s.drift]) V := fun V hV => (HH.out.still (HF.out.call hV HF.out.size (by simp))).load60
  have h24 : ∀ V, Frm w3.heap.size [] w3 V → (loadVar 24 ⟨p5, 0, none⟩).run Try.prog V = .ok (.agg C.toArray) V := fun V hV => load24 (hV.blk K5.out K5.out.lt (by simp)) HZ7.out
  have hfx : ∀ V, Frm w3.heap.size [] w3 V → True ∧ True := fun _ _ => ⟨trivial, trivial⟩
  have H60 := Lib.hid h60
  have H24 := Lib.hid h24
  have HFX := Lib.hid hfx
  clear hfx h24 h60
  refine wp_region_leftL (fun V => Frm w3.heap.size [] w3 V) 1000 (by kernel_rfl) ?_
  have hS : Frm w3.heap.size [] w3 w3.drew := (Frm.refl _ _ w3).drew
  have HS := Lib.hid hS
  clear hS
  first | (refine LeftL.tkG (v := ?_) 0 rfl HS.out ?_ ?_; rotate_left; · intro V hV; obtain ⟨z1, z2⟩ := HFX.out V hV; clear hV; go_simp; rfl) | refine LeftL.tkN 0 rfl HS.out ?_
  (intro K h; go_simp; refine h _ ?_; clear h K)
  first | (refine LeftL.tkG (v := ?_) 1 rfl HS.out ?_ ?_; rotate_left; · intro V hV; obtain ⟨z1, z2⟩ := HFX.out V hV; clear hV; go_simp; rfl) | refine LeftL.tkN 1 rfl HS.out ?_
  (intro K h; go_simp; refine h _ ?_; clear h K)
  first | (refine LeftL.tkG (v := ?_) 2 rfl HS.out ?_ ?_; rotate_left; · intro V hV; obtain ⟨z1, z2⟩ := HFX.out V hV; clear hV; go_simp; rfl) | refine LeftL.tkN 2 rfl HS.out ?_
  (intro K h; go_simp; refine h _ ?_; clear h K)
  first | (refine LeftL.tkG (v := ?_) 3 rfl HS.out ?_ ?_; rotate_left; · intro V hV; obtain ⟨z1, z2⟩ := HFX.out V hV; clear hV; go_simp; rfl) | refine LeftL.tkN 3 rfl HS.out ?_
  (intro K h; go_simp; refine h _ ?_; clear h K)
  refine LeftL.take 4 rfl (by kernel_rfl) (fun _ _ d _ _ h => by cases d <;> exact h) (yields_loadE (ty := 60) rfl rfl rfl (H60.out)) HS.out ?_; (intro K' hK'; go_simp; refine hK' _ ?_; clear hK' K')
  refine LeftL.take 5 rfl (by kernel_rfl) (fun _ _ d _ _ h => by cases d <;> exact h) (yields_loadE (ty := 24) rfl rfl rfl (H24.out)) HS.out ?_; (intro K' hK'; go_simp; refine hK' _ ?_; clear hK' K')
  first | (refine LeftL.tkG (v := ?_) 6 rfl HS.out ?_ ?_; rotate_left; · intro V hV; obtain ⟨z1, z2⟩ := HFX.out V hV; clear hV; go_simp; rfl) | refine LeftL.tkN 6 rfl HS.out ?_
  (intro K h; go_simp; refine h _ ?_; clear h K)
  refine LeftL.tkF (v := .func (.method "cresset/incident.fits") #[.iface T u] #[]) 7 rfl HS.out ?_ ?_
  · intro V hV; exact HM.out.nil V
  (intro K' hK'; go_simp; refine hK' _ ?_; clear hK' K')
  first | (refine LeftL.tkG (v := ?_) 8 rfl HS.out ?_ ?_; rotate_left; · intro V hV; obtain ⟨z1, z2⟩ := HFX.out V hV; clear hV; go_simp; rfl) | refine LeftL.tkN 8 rfl HS.out ?_
  (intro K h; go_simp; refine h _ ?_; clear h K)
  have hme := HM.out.meth
  have hent := HM.out.ent.out
  refine LeftL.one 9 rfl (by kernel_rfl) ?_
  go_wp2_with fail
  refine (HM.out.call _ (HF.out.call HS.out HF.out.size (by simp))).mono ?_; rintro e w4 ⟨rfl, hf1⟩
  have hS1 := HS.out.call hf1 HS.out.size (by simp)
  clear hf1 HS hme hent
  have HS := Lib.hid hS1
  clear hS1
  go_wp2_with fail
  first | refine ⟨fun _ => HS.out, ?_⟩ | refine ⟨HS.out, ?_⟩
  refine LeftL.one 10 rfl (by kernel_rfl) ?_
  go_wp2_with fail
  first | refine ⟨fun _ => HS.out, ?_⟩ | refine ⟨HS.out, ?_⟩
  refine LeftL.done (by kernel_rfl) ?_
  have hf := HF.out.call HS.out HF.out.size (by simp)
  have k0 := HS.out.blk K0.out K0.out.lt (by simp)
  clear HF K0 K5 H60 H24 HFX HS
  have HF := Lib.hid hf
  have K0 := Lib.hid k0
  clear k0 hf
  cases hfb : fitsB s p (s.rp x)
  · have hpe := HPX.out (.inr (.inr hfb))
    have HPE := Lib.hid hpe
    have HFB := Lib.hid hfb
    clear hfb hpe
    go_wp2_with fail
    go_ret
    rw [HPE.out]
    exact ⟨rfl, HST.out _ HF.out⟩
  have hpy := HPY.out HRB.out HKC.out hfb
  obtain ⟨qa, qc, hvp⟩ := HH.out.prf.form
  obtain ⟨M, hMe⟩ : ∃ c, c = s.prf.length := ⟨_, rfl⟩
  have hMm : M ≤ 500 := by rw [hMe]; exact HH.out.inv.max.2
  have c5w : w.cell? ⟨k, 5, none⟩ = some (.slice qa M qc) := by rw [hMe, ← hvp]; exact HH.out.blk.cell 5
  have c5 : w4.cell? ⟨k, 5, none⟩ = some (.slice qa M qc) := (HF.out.cell HLK.out (by simp)).trans c5w
  rw [← hMe] at hpy
  clear HPX HPY HMK HRI HRI2
  have HPY := Lib.hid hpy
  have HFB := Lib.hid hfb
  have HVP := Lib.hid hvp
  have HMM := Lib.hid hMe
  have HM5 := Lib.hid hMm
  have C5W := Lib.hid c5w
  clear c5w hMm hMe hvp hfb hpy
  by_cases h5 : M = 500
  · have hpe : proveS s p = (s, 6) := by rw [HPY.out, if_pos h5]
    subst h5
    have HPE := Lib.hid hpe
    clear hpe
    go_wp2_with fail
    go_ret
    rw [HPE.out]
    exact ⟨rfl, HST.out _ HF.out⟩
  have h5' : ¬ (M : Int) = 500 := by omega
  have h5b : ((M : Int) == 500) = false := by simp; omega
  have hpe : proveS s p = ({ s with prf := s.prf ++ [p] }, 0) := by rw [HPY.out, if_neg h5]
  clear HPY
  have HPE := Lib.hid hpe
  have H5 := Lib.hid h5
  clear h5 hpe
  go_upto_region 17 with fail
  clear h5' h5b c5
  have hinv : BInv { s with prf := s.prf ++ [p] } := by have := prove_inv HH.out.inv p; rw [HPE.out] at this; exact this
  have hra := (HH.out.still HF.out).raw
  have hfx : ∀ V, (Blk V k 64 (bookC s m) ∧ Blk V w.heap.size 39 P) → V.cell? ⟨k, 5, none⟩ = some (.slice qa M qc) ∧ V.cell? ⟨w.heap.size, 1, none⟩ = some (.int .i64 p.rep) ∧ V.cell? ⟨w.heap.size, 2, none⟩ = some (.int .i64 p.time) := fun V hV => ⟨by rw [HMM.out, ← HVP.out]; exact hV.1.cell 5, (hV.2.cell 1).trans (by rw [HPP1.out]), (hV.2.cell 2).trans HP2.out⟩
  have hra := hra.still ((Frm.refl w4.heap.size [] w4).drew)
  have hfA := HF.out.drew
  have k0 := K0.out.drew
  refine wp_region_leftL (fun V => Blk V k 64 (bookC s m) ∧ Blk V w.heap.size 39 P) 15 (by kernel_rfl) ?_
  obtain ⟨wC, hwC⟩ : ∃ V, V = w4.drew := ⟨_, rfl⟩
  rw [← hwC] at hra hfA k0 ⊢
  have hS : Blk wC k 64 (bookC s m) ∧ Blk wC w.heap.size 39 P := ⟨hra.blk, k0⟩
  clear hwC k0 K0 HF
  have HS := Lib.hid hS
  have HFX := Lib.hid hfx
  have HRA := Lib.hid hra
  have HFA := Lib.hid hfA
  have HINV := Lib.hid hinv
  clear hinv hfA hra hfx hS
  first | (refine LeftL.tkG (v := ?_) 0 rfl HS.out ?_ ?_; rotate_left; · intro V hV; obtain ⟨z1, z2, z3⟩ := HFX.out V hV; clear hV; go_simp; rfl) | refine LeftL.tkN 0 rfl HS.out ?_
  (intro K h; go_simp; refine h _ ?_; clear h K)
  first | (refine LeftL.tkG (v := ?_) 1 rfl HS.out ?_ ?_; rotate_left; · intro V hV; obtain ⟨z1, z2, z3⟩ := HFX.out V hV; clear hV; go_simp; rfl) | refine LeftL.tkN 1 rfl HS.out ?_
  (intro K h; go_simp; refine h _ ?_; clear h K)
  first | (refine LeftL.tkG (v := ?_) 2 rfl HS.out ?_ ?_; rotate_left; · intro V hV; obtain ⟨z1, z2, z3⟩ := HFX.out V hV; clear hV; go_simp; rfl) | refine LeftL.tkN 2 rfl HS.out ?_
  (intro K h; go_simp; refine h _ ?_; clear h K)
  first | (refine LeftL.tkG (v := ?_) 3 rfl HS.out ?_ ?_; rotate_left; · intro V hV; obtain ⟨z1, z2, z3⟩ := HFX.out V hV; clear hV; go_simp; rfl) | refine LeftL.tkN 3 rfl HS.out ?_
  (intro K h; go_simp; refine h _ ?_; clear h K)
  first | (refine LeftL.tkG (v := ?_) 4 rfl HS.out ?_ ?_; rotate_left; · intro V hV; obtain ⟨z1, z2, z3⟩ := HFX.out V hV; clear hV; go_simp; rfl) | refine LeftL.tkN 4 rfl HS.out ?_
  (intro K h; go_simp; refine h _ ?_; clear h K)
  first | (refine LeftL.tkG (v := ?_) 5 rfl HS.out ?_ ?_; rotate_left; · intro V hV; obtain ⟨z1, z2, z3⟩ := HFX.out V hV; clear hV; go_simp; rfl) | refine LeftL.tkN 5 rfl HS.out ?_
  (intro K h; go_simp; refine h _ ?_; clear h K)
  first | (refine LeftL.tkG (v := ?_) 6 rfl HS.out ?_ ?_; rotate_left; · intro V hV; obtain ⟨z1, z2, z3⟩ := HFX.out V hV; clear hV; go_simp; rfl) | refine LeftL.tkN 6 rfl HS.out ?_
  (intro K h; go_simp; refine h _ ?_; clear h K)
  first | (refine LeftL.tkG (v := ?_) 7 rfl HS.out ?_ ?_; rotate_left; · intro V hV; obtain ⟨z1, z2, z3⟩ := HFX.out V hV; clear hV; go_simp; rfl) | refine LeftL.tkN 7 rfl HS.out ?_
  (intro K h; go_simp; refine h _ ?_; clear h K)
  first | (refine LeftL.tkG (v := ?_) 8 rfl HS.out ?_ ?_; rotate_left; · intro V hV; obtain ⟨z1, z2, z3⟩ := HFX.out V hV; clear hV; go_simp; rfl) | refine LeftL.tkN 8 rfl HS.out ?_
  (intro K h; go_simp; refine h _ ?_; clear h K)
  first | (refine LeftL.tkG (v := ?_) 9 rfl HS.out ?_ ?_; rotate_left; · intro V hV; obtain ⟨z1, z2, z3⟩ := HFX.out V hV; clear hV; go_simp; rfl) | refine LeftL.tkN 9 rfl HS.out ?_
  (intro K h; go_simp; refine h _ ?_; clear h K)
  first | (refine LeftL.tkG (v := ?_) 10 rfl HS.out ?_ ?_; rotate_left; · intro V hV; obtain ⟨z1, z2, z3⟩ := HFX.out V hV; clear hV; go_simp; rfl) | refine LeftL.tkN 10 rfl HS.out ?_
  (intro K h; go_simp; refine h _ ?_; clear h K)
  refine LeftL.one 11 rfl (by kernel_rfl) ?_
  go_wp2_with fail
  first | refine ⟨fun _ => ⟨HS.out.1.alloc _, HS.out.2.alloc _⟩, ?_⟩ | refine ⟨⟨HS.out.1.alloc _, HS.out.2.alloc _⟩, ?_⟩
  refine LeftL.one 12 rfl (by kernel_rfl) ?_
  have hsl := HRA.out.prf
  rw [HVP.out, ← HMM.out] at hsl
  refine wpList_append_sl _ rfl (.tmp 65) (.tmp 72) 62 rfl 102 i8 _ 3 32 Try.underlying62 HI8.out HZ80.out HZ81.out HZ82.out rfl _ _ _ m.op rfl (hsl.alloc _) ⟨wC.heap.size, 0, none⟩ 1 1 (prfC p (.iface T u)) rfl rfl (news_alloc _ (prfC p (.iface T u)) _) (by simp [prfC, Value.oneCell']) (by have := HM5.out; unfold maxLen; omega) (by have := HM5.out; omega) ?_
  intro v' wE own' hs3 hf3 ho3
  obtain ⟨va, vc, hva⟩ := hs3.form
  subst hva
  clear hsl
  refine wpList_nil ?_
  dsimp only [Act.put]
  obtain ⟨wD2, hwD2⟩ : ∃ V, V = wC.alloc (.cells (prfC p (.iface T u)).toArray 102) := ⟨_, rfl⟩
  have hfD : Frm wC.heap.size [] wC wD2 := by rw [hwD2]; exact (Frm.refl _ _ _).alloc (Nat.le_refl _) _
  have hs3' : Sl wE 102 3 (.slice va (M + 1) vc) (s.prf.length + 1) ((List.range s.prf.length).flatMap (prfAt s m) ++ prfC p (.iface T u)) own' := by rw [← HMM.out]; exact hs3
  have hf3' : Frm wD2.heap.size m.op.toList wD2 wE := by rw [hwD2]; exact hf3
  have ho3' : own' = m.op ∨ ∃ g, own' = some g ∧ wD2.heap.size ≤ g := by rw [hwD2]; exact ho3
  have hszD : wC.heap.size ≤ wD2.heap.size := hfD.size
  have hra1 := HRA.out.still hfD
  have hra2 := hra1.growPrf (p := p) (v := .iface T u) hs3' hf3' ho3' HIV.out
  have hkE : Blk wE k 64 (bookC s m) := hf3'.blk hra1.blk hra1.blk.lt (fun hm => hra1.ke.2.2 (by simpa using hm))
  have hpE : Blk wE w.heap.size 39 P := by
    have k1 := hfD.blk HS.out.2 HS.out.2.lt (by simp)
    refine hf3'.blk k1 k1.lt (fun hm => ?_)
    have := HH.out.own_lt w.heap.size (own_iff.2 (.inr (.inr (.inr (.inl (by simpa using hm))))))
    omega
  have hfE : Frm w.heap.size (m.own k s) w wE := ((HFA.out.narrow (S' := m.own k s) (by simp)).call hfD HFA.out.size (by simp)).call hf3' (Nat.le_trans HFA.out.size hszD) (fun q hq hm => own_iff.2 (.inr (.inr (.inr (.inl (by simpa using hm))))))
  have hfF := hfE.setCell (p := ⟨k, 5, none⟩) (.inl (own_iff.2 (.inl rfl))) (.slice va (M + 1) vc)
  have hownE : ∀ q ∈ (m.prfMore s.prf.length (.slice va (M + 1) vc) own' (.iface T u)).own k { s with prf := s.prf ++ [p] }, q ∈ m.own k s ∨ w.heap.size ≤ q := fun q hq => by
    rcases own_iff.1 hq with rfl | e | e | e | ⟨i, hi, e⟩
    · exact .inl (own_iff.2 (.inl rfl))
    · exact .inl (own_iff.2 (.inr (.inl e)))
    · exact .inl (own_iff.2 (.inr (.inr (.inl e))))
    · have e : own' = some q := e
      rcases ho3' with e2 | ⟨g, e2, hg⟩
      · exact .inl (own_iff.2 (.inr (.inr (.inr (.inl (by rw [← e2]; exact e))))))
      · rw [e] at e2; cases e2; have := HFA.out.size; exact .inr (by omega)
    · exact .inl (own_iff.2 (.inr (.inr (.inr (.inr ⟨i, hi, e⟩)))))
  have hS : Blk wE k 64 (bookC s m) ∧ Blk wE w.heap.size 39 P := ⟨hkE, hpE⟩
  have c5 : wE.cell? ⟨k, 5, none⟩ = some (.slice qa M qc) := by rw [HMM.out, ← HVP.out]; exact hkE.cell 5
  have g5 := hkE.free 5
  clear hwD2 hfD hs3 hs3' hf3 hf3' ho3 ho3' hszD hra1 hkE hpE hfE HRA HFA HS
  have HS := Lib.hid hS
  have HRA := Lib.hid hra2
  have HFF := Lib.hid hfF
  have HOE := Lib.hid hownE
  have C5E := Lib.hid c5
  have G5E := Lib.hid g5
  clear g5 c5 hownE hfF hra2 hS
  first | refine ⟨fun _ => HS.out, ?_⟩ | refine ⟨HS.out, ?_⟩
  refine LeftL.one 13 rfl (by kernel_rfl) ?_
  go_wp2_with fail
  first | refine ⟨fun _ => HS.out, ?_⟩ | refine ⟨HS.out, ?_⟩
  refine LeftL.one 14 rfl (by kernel_rfl) ?_
  go_wp2_with fail
  first | refine ⟨fun _ => HS.out, ?_⟩ | refine ⟨HS.out, ?_⟩
  have c5 := C5E.out
  have g5 := G5E.out
  refine LeftL.one 15 rfl (by kernel_rfl) ?_
  go_wp2_with fail
  clear c5 g5 C5E G5E HS
  have hra := HRA.out
  have hff := HFF.out
  generalize World.setCell wE _ _ = wF at hra hff ⊢
  clear HRA HFF
  refine ⟨fun h => absurd rfl h, ?_⟩
  refine LeftL.done (by kernel_rfl) ?_
  have hbk := hra.at_ HINV.out
  clear hra
  have HBK := Lib.hid hbk
  have HFF := Lib.hid hff
  clear hff hbk
  go_wp2_with fail
  go_ret
  rw [HPE.out]
  exact ⟨rfl, _, HBK.out, ⟨HFF.out, HOE.out⟩⟩
end Go.Proofs.Ythgmdilfmeefiaa
