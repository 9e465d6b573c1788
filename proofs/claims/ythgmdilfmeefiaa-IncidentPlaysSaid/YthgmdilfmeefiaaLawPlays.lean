/-
  IncidentPlays: a book answers as the document says, call by call.
-/
import Derived.Test.YthgmdilfmeefiaaJ62
import Derived.Test.YthgmdilfmeefiaaJ63
namespace Go.Proofs.Ythgmdilfmeefiaa
set_option linter.all false
set_option linter.unusedSimpArgs false
set_option linter.unusedVariables false
open Go.ChangeShapes Go.WideShapes Go.ChangeAt Go.RowKit

/-- The memory of an empty book. -/
def emptyR : RMem := ⟨none, 0, 0, 0, fun _ => none, fun _ => 0, fun _ => 0, fun _ => 0, none, 0, 0, 0, none, 0, 0, 0, none, 0, 0, 0, fun _ => none, fun _ => 0, fun _ => 0, fun _ => 0⟩
theorem ref_empty {w : World} {wd dr : Int} (hi : BInv (emptyS wd dr)) : RefAt w (emptyS wd dr) emptyR := by
  refine ⟨⟨fun h => absurd h (Nat.lt_irrefl 0), Nat.zero_le _, fun i hi => absurd hi (Nat.not_lt_zero i)⟩, fun i hi => absurd hi (Nat.not_lt_zero i), ⟨fun h => absurd h (Nat.lt_irrefl 0), Nat.zero_le _, fun i hi => absurd hi (Nat.not_lt_zero i)⟩, ⟨fun h => absurd h (Nat.lt_irrefl 0), Nat.zero_le _, fun i hi => absurd hi (Nat.not_lt_zero i)⟩, ⟨fun h => absurd h (Nat.lt_irrefl 0), Nat.zero_le _, fun i hi => absurd hi (Nat.not_lt_zero i)⟩, fun i hi => absurd hi (Nat.not_lt_zero i), hi⟩
theorem apart_empty (wd dr : Int) (S : List Nat) : Apart (emptyS wd dr) emptyR S :=
  ⟨fun h => absurd h (Nat.lt_irrefl 0), fun h => absurd h (Nat.lt_irrefl 0), fun h => absurd h (Nat.lt_irrefl 0), fun i hi => absurd hi (Nat.not_lt_zero i), fun i hi => absurd hi (Nat.not_lt_zero i)⟩
theorem RNext.later {w U U' : World} {s s' : BS} {m m' : RMem} {X : List Nat → Prop} (hn : RNext w U s s' m m' X) (hf : Frm U.heap.size [] U U') : RNext w U' s s' m m' X :=
  ⟨hn.at_.still hf, hn.frm.call hf hn.frm.size (by simp), hn.ap⟩
theorem RNext.first {w V U : World} {s s' : BS} {m m' : RMem} {X : List Nat → Prop} (hf : Frm w.heap.size [] w V) (hn : RNext V U s s' m m' X) : RNext w U s s' m m' X :=
  ⟨hn.at_, hf.call hn.frm hf.size (by simp), fun S hS hx ha => hn.ap S (fun b hb => Nat.lt_of_lt_of_le (hS b hb) hf.size) hx ha⟩
/-- What is stored into a box made since leaves the book. -/
theorem RNext.fresh {w V U U' : World} {s s' : BS} {m m' : RMem} {X : List Nat → Prop} {p : Nat} (h : RefAt w s m) (hv : Frm w.heap.size [] w V) (hn : RNext V U s s' m m' X) (hp : w.heap.size ≤ p) (hpV : p < V.heap.size) (hX : X [p])
    (hf : Frm U.heap.size [p] U U') : RNext w U' s s' m m' X := RNext.box h hv hn hp hpV hX hf (fun _ _ h => h)
/-- The blocks of a call's lists. -/
def FarX (x : Act_) (q : APos) (S : List Nat) : Prop := (0 < x.r.wh.length → q.rb ∉ S) ∧ (0 < x.p.wh.length → q.pb ∉ S)
theorem far_of {w : World} {x : Act_} {q : APos} (h : ActAt w x q) {S : List Nat} (hS : ∀ b ∈ S, w.heap.size ≤ b) : FarX x q S := by
  refine ⟨fun h0 hm => ?_, fun h0 hm => ?_⟩
  · have h1 := cell_lt (h.r.at_ 0 h0 0 _ rfl)
    have h2 := hS _ hm
    simp at h1
    omega
  · have h1 := cell_lt (h.p.at_ 0 h0 0 _ rfl)
    have h2 := hS _ hm
    simp at h1
    omega
set_option maxRecDepth 100000 in
set_option maxHeartbeats 16000000 in
theorem plays_walk (wd dr : Int) (ad : Option Addr) (len cap b off : Nat) (A : Nat → Act_ × APos) (w : World) (hr : RwA w ad b off len A) (ha : ∀ i, i < len → ActAt w (A i).1 (A i).2) :
    Calls Try.prog 7 #[.int .i64 wd, .int .i64 dr, .slice ad len cap] w fun e w' => e = .returned (.bool true) ∧ Frm w.heap.size [] w w' := by
  have hf0 := Try.func7
  have hlen := hr.len
  have had := hr.ad
  have hgr := greats_any ad b off len cap A w hr
  have HR := Lib.hid hr
  have HA := Lib.hid ha
  have HLEN := Lib.hid hlen
  have HAD := Lib.hid had
  have HGR := Lib.hid hgr
  clear hgr had hlen ha hr
  go_enter Try.func7, Try.ntmps7
  go_wp2_with fail
  refine HGR.out.mono ?_; rintro e w1 ⟨he, hf⟩
  rcases he with rfl | ⟨rfl, h60⟩
  · have HF := Lib.hid hf
    clear hf
    go_wp2_with fail
    refine (awake_any w1).mono ?_; rintro e wz ⟨rfl, hf1⟩
    have hf := HF.out.call hf1 HF.out.size (by simp)
    clear hf1 HF
    have HF := Lib.hid hf
    clear hf
    go_wp2_with fail
    go_ret
    exact ⟨rfl, HF.out⟩
  clear h60
  have HF := Lib.hid hf
  clear hf
  go_wp2_with fail
  cases hru : rulesB wd dr
  · refine (new_any wd dr w1).mono ?_; rintro e w2 ⟨he, hf1⟩
    rw [hru] at he
    rw [if_neg (by simp)] at he
    subst he
    have hf := HF.out.call hf1 HF.out.size (by simp)
    clear hf1 HF
    have HF := Lib.hid hf
    have HRU := Lib.hid hru
    clear hru hf
    go_wp2_with (go_at_call 21; refine (refRules_any _ _ _).mono ?_; rintro e w' ⟨rfl, rfl⟩; rw [HRU.out])
    refine (awake_any w2).mono ?_; rintro e wz ⟨rfl, hf1⟩
    have hf := HF.out.call hf1 HF.out.size (by simp)
    clear hf1 HF
    have HF := Lib.hid hf
    clear hf
    go_wp2_with fail
    go_ret
    exact ⟨rfl, HF.out⟩
  refine (new_live wd dr hru HF.out).mono ?_; rintro e w2 ⟨k, rfl, hlv, hf1, hk⟩
  have hk1 : w.heap.size ≤ k := Nat.le_trans HF.out.size hk
  clear hf1 hk HF
  have HL := Lib.hid hlv
  have HRU := Lib.hid hru
  have HK := Lib.hid hk1
  clear hk1 hru hlv
  go_wp2_with (first | (go_at_call 21; refine (refRules_any _ _ _).mono ?_; rintro e w' ⟨rfl, rfl⟩; rw [HRU.out]) | (with_reducible refine atStore 55 rfl ?_; refine stop_ ?_))
  refine go_on ?_
  refine wpList_storeNew (P := Try.prog) (cs := refC (emptyS wd dr) emptyR) rfl rfl rfl rfl rfl info55 (refC_one _ _) ?_
  intro w3 hf1 k6 hz; clear hz
  dsimp only [Act.put]
  obtain ⟨p, hp⟩ : ∃ p, p = w2.heap.size := ⟨_, rfl⟩
  rw [← hp] at k6 ⊢
  have hb3 : Both w w3 k (emptyS wd dr) emptyM emptyR := ⟨HL.out.still hf1, ref_empty HL.out.at_.inv, apart_empty _ _ _⟩
  have hpo : p ∉ emptyM.own k (emptyS wd dr) := HL.out.new (by rw [hp]; exact Nat.le_refl _)
  have hpw : w.heap.size ≤ p := by rw [hp]; exact HL.out.frm.size
  clear hf1 hp HL
  have HB := Lib.hid hb3
  have KP := Lib.hid k6
  have HPO := Lib.hid hpo
  have HPW := Lib.hid hpw
  clear hpw hpo k6 hb3
  go_wp2_with fail
  go_loopw [10] (fun s10 wr => ∃ (i : Nat) (s : BS) (m : Mem) (mr : RMem), s10 = .int .i64 i ∧ i ≤ len ∧ Both w wr k s m mr ∧ Blk wr p 55 (refC s mr) ∧ p ∉ m.own k s ∧ Apart s mr [p]) (fun s10 _ => len - (intOf s10).toNat)
  case atStart => exact ⟨0, _, _, _, rfl, Nat.zero_le _, HB.out, KP.out, HPO.out, apart_empty _ _ _⟩
  case round =>
    clear HB KP HPO
    obtain ⟨i, s, m, mr, rfl, hi, hbo, kp, hpo, hap⟩ := hrel
    by_cases hil : i < len
    rotate_left
    · have hil' : ¬ (i : Int) < (len : Int) := by omega
      obtain rfl : i = len := by omega
      have hf := hbo.live.frm
      clear hbo kp hpo hap
      have HF := Lib.hid hf
      clear hf
      go_wp2_with fail
      refine (awake_any wr).mono ?_; rintro e wz ⟨rfl, hf1⟩
      have hf := HF.out.call hf1 HF.out.size (by simp)
      clear hf1 HF
      have HF := Lib.hid hf
      clear hf
      go_wp2_with fail
      go_ret
      exact ⟨rfl, HF.out⟩
    have hil' : (i : Int) < (len : Int) := by omega
    have had := HAD.out (by omega)
    subst had
    obtain ⟨y4, y5⟩ := wrapUp hil HLEN.out
    have hms := meas_up hil
    obtain ⟨x, hx⟩ : ∃ x, x = (A i).1 := ⟨_, rfl⟩
    obtain ⟨q, hq⟩ : ∃ x, x = (A i).2 := ⟨_, rfl⟩
    have hact : ActAt w x q := by rw [hx, hq]; exact HA.out i hil
    obtain ⟨C, hC⟩ : ∃ c, c = actC x q := ⟨_, rfl⟩
    have hcl : C.length = 16 := by rw [hC]; rfl
    have hat : ∀ V, Frm w.heap.size [] w V → ∀ (j : Nat) (v : Value), C[j]? = some v → V.cell? ⟨b, off + i * 16 + j, none⟩ = some v := fun V hV j v hv => (HR.out.frm hV (Nat.le_refl _)).at_ i hil j v (by rw [← hx, ← hq, ← hC]; exact hv)
    have hl41 : ∀ V, Frm w.heap.size [] w V → (loadVar 41 ⟨b, off + i * 16, none⟩).run Try.prog V = .ok (.agg C.toArray) V := fun V hV => run_loadVar_mid V b (off + i * 16) 41 C _ (fun j v hv => hat V hV j v hv) Try.underlying41 rfl (by rw [hcl]; exact info41)
    have hdo : ∀ V m, Live w V k s m → Calls Try.prog 15 #[.pointer (some ⟨k, 0, none⟩), .agg C.toArray] V fun e V' => e = .returned (.tuple #[.int .i64 (doS s x).2.1, .int .i64 (doS s x).2.2.1, .int .i64 (doS s x).2.2.2]) ∧ ∃ m', Live w V' k (doS s x).1 m' ∧ Turn k V V' s (doS s x).1 m m' := fun V m h => by
      rw [hC]; exact does_live h x q (h.args hact).1 (h.args hact).2
    have hdu : ∀ V, Frm w.heap.size [] w V → RefAt V s mr → Calls Try.prog 22 #[.agg (refC s mr).toArray, .agg C.toArray] V fun e w' => ∃ m', e = .returned (.tuple #[.agg (refC (doS s x).1 m').toArray, .int .i64 (doS s x).2.1, .int .i64 (doS s x).2.2.1, .int .i64 (doS s x).2.2.2]) ∧ RNext V w' s (doS s x).1 mr m' (FarX x q) := fun V hV h => by
      rw [hC]; exact due_any h x q (hact.frm hV)
    have hfar : ∀ S, (∀ b ∈ S, w.heap.size ≤ b) → FarX x q S := fun S hS => far_of hact hS
    obtain ⟨s', hs'⟩ : ∃ c, c = (doS s x).1 := ⟨_, rfl⟩
    obtain ⟨d1, hd1⟩ : ∃ c, c = (doS s x).2.1 := ⟨_, rfl⟩
    obtain ⟨d2, hd2⟩ : ∃ c, c = (doS s x).2.2.1 := ⟨_, rfl⟩
    obtain ⟨d3, hd3⟩ : ∃ c, c = (doS s x).2.2.2 := ⟨_, rfl⟩
    obtain ⟨X, hX⟩ : ∃ X, X = FarX x q := ⟨_, rfl⟩
    simp only [← hs', ← hd1, ← hd2, ← hd3] at hdo hdu
    rw [← hX] at hdu hfar
    obtain ⟨B, hB⟩ : ∃ c, c = refC s mr := ⟨_, rfl⟩
    have hb6 : B.length = 6 := by rw [hB]; rfl
    rw [← hB] at hdu kp
    clear hx hq hC hact hs' hd1 hd2 hd3 hX hB hat hcl
    have HB := Lib.hid hbo
    have KP := Lib.hid kp
    have HPO := Lib.hid hpo
    have HAP := Lib.hid hap
    have HMS := Lib.hid hms
    have HL41 := Lib.hid hl41
    have HDO := Lib.hid hdo
    have HDU := Lib.hid hdu
    have HFAR := Lib.hid hfar
    have HIL := Lib.hid hil
    have HB6 := Lib.hid hb6
    clear hb6 hil hfar hdu hdo hl41 hms hap hpo kp hbo
    go_wp2_with (with_reducible refine atLoad 41 rfl ?_; refine wpList_loadE rfl rfl rfl (HL41.out _ HB.out.live.frm) ?_)
    refine (HDO.out wr m HB.out.live).mono ?_; rintro e V8 ⟨rfl, m', hlv, ht⟩
    obtain ⟨hra, hap2⟩ := HB.out.turn hlv ht
    obtain ⟨kp, hpo⟩ := ht.blk KP.out HPO.out
    have hl55 : ∀ U, Frm V8.heap.size [] V8 U → (loadVar 55 ⟨p, 0, none⟩).run Try.prog U = .ok (.agg B.toArray) U := fun U hU => load55 (hU.blk kp kp.lt (by simp)) HB6.out
    have hl41 : ∀ U, Frm V8.heap.size [] V8 U → (loadVar 41 ⟨b, off + i * 16, none⟩).run Try.prog U = .ok (.agg C.toArray) U := fun U hU => HL41.out U (hlv.frm.call hU hlv.frm.size (by simp))
    have hdu : ∀ U, Frm V8.heap.size [] V8 U → Calls Try.prog 22 #[.agg B.toArray, .agg C.toArray] U fun e w' => ∃ m2, e = .returned (.tuple #[.agg (refC s' m2).toArray, .int .i64 d1, .int .i64 d2, .int .i64 d3]) ∧ RNext U w' s s' mr m2 X := fun U hU => HDU.out U (hlv.frm.call hU hlv.frm.size (by simp)) (hra.still hU)
    have hfx : ∀ U, Frm V8.heap.size [] V8 U → True ∧ True := fun _ _ => ⟨trivial, trivial⟩
    clear ht HB KP HPO HL41 HDO HDU
    have HLV := Lib.hid hlv
    have HRA := Lib.hid hra
    have HAP2 := Lib.hid hap2
    have KP := Lib.hid kp
    have HPO := Lib.hid hpo
    have HL55 := Lib.hid hl55
    have HL41 := Lib.hid hl41
    have HDU := Lib.hid hdu
    have HFX := Lib.hid hfx
    clear hfx hdu hl41 hl55 hpo kp hap2 hra hlv
    go_upto_region 13 with fail
    go_cut [14, 15, 16, 17] from 65 to 75 (fun s14 s15 s16 s17 w' => ∃ (pn : Nat) (m2 : RMem), s14 = .pointer (some ⟨pn, 0, none⟩) ∧ s15 = .int .i64 d1 ∧ s16 = .int .i64 d2 ∧ s17 = .int .i64 d3 ∧ Blk w' pn 55 (refC s' m2) ∧ RNext V8 w' s s' mr m2 X)
    case first =>
      refine wp_region_leftL (fun V => Frm V8.heap.size [] V8 V) 1000 (by kernel_rfl) ?_
      have hS : Frm V8.heap.size [] V8 V8.drew := (Frm.refl _ _ V8).drew
      have HS := Lib.hid hS
      clear hS
      have hS := HS.out
      obtain ⟨VD, hVD⟩ : ∃ U, U = V8.drew := ⟨_, rfl⟩
      rw [← hVD] at hS ⊢
      clear hVD HS
      have HS0 := Lib.hid hS
      have HS := Lib.hid hS
      clear hS
      refine LeftL.take 0 rfl (by kernel_rfl) (fun _ _ d _ _ h => by cases d <;> exact h) (yields_loadE (ty := 55) rfl rfl rfl (HL55.out)) HS.out ?_; (intro K' hK'; go_simp; refine hK' _ ?_; clear hK' K')
      first | (refine LeftL.tkG (v := ?_) 1 rfl HS.out ?_ ?_; rotate_left; · intro V hV; obtain ⟨z1, z2⟩ := HFX.out V hV; clear hV; go_simp; rfl) | refine LeftL.tkN 1 rfl HS.out ?_
      (intro K h; go_simp; refine h _ ?_; clear h K)
      first | (refine LeftL.tkG (v := ?_) 2 rfl HS.out ?_ ?_; rotate_left; · intro V hV; obtain ⟨z1, z2⟩ := HFX.out V hV; clear hV; go_simp; rfl) | refine LeftL.tkN 2 rfl HS.out ?_
      (intro K h; go_simp; refine h _ ?_; clear h K)
      first | (refine LeftL.tkG (v := ?_) 3 rfl HS.out ?_ ?_; rotate_left; · intro V hV; obtain ⟨z1, z2⟩ := HFX.out V hV; clear hV; go_simp; rfl) | refine LeftL.tkN 3 rfl HS.out ?_
      (intro K h; go_simp; refine h _ ?_; clear h K)
      refine LeftL.take 4 rfl (by kernel_rfl) (fun _ _ d _ _ h => by cases d <;> exact h) (yields_loadE (ty := 41) rfl rfl rfl (HL41.out)) HS.out ?_; (intro K' hK'; go_simp; refine hK' _ ?_; clear hK' K')
      refine LeftL.two 5 11 rfl rfl (by kernel_rfl) ?_ ?_
      · go_wp2_with fail
        refine (HDU.out _ HS.out).mono ?_; rintro e U ⟨m2, rfl, hn⟩
        obtain ⟨C', hC'⟩ : ∃ c, c = refC s' m2 := ⟨_, rfl⟩
        have hc6 : C'.length = 6 := by rw [hC']; rfl
        have hc1 : ∀ u ∈ C', u.oneCell' = true := by rw [hC']; exact refC_one _ _
        rw [← hC']
        have HC := Lib.hid hC'
        have HC6 := Lib.hid hc6
        have HC1 := Lib.hid hc1
        clear hc1 hc6 hC'
        go_wp2_with fail
        have hS := HS.out.call hn.frm HS.out.size (by simp)
        first | refine ⟨fun _ => hS, ?_⟩ | refine ⟨hS, ?_⟩
        clear HS
        have hn := hn.first HS0.out
        have HS := Lib.hid hS
        have HN := Lib.hid hn
        clear hn hS
        first | (refine LeftL.tkG (v := ?_) 6 rfl HS.out ?_ ?_; rotate_left; · intro V hV; obtain ⟨z1, z2⟩ := HFX.out V hV; clear hV; go_simp; rfl) | refine LeftL.tkN 6 rfl HS.out ?_
        (intro K h; go_simp; refine h _ ?_; clear h K)
        first | (refine LeftL.tkG (v := ?_) 7 rfl HS.out ?_ ?_; rotate_left; · intro V hV; obtain ⟨z1, z2⟩ := HFX.out V hV; clear hV; go_simp; rfl) | refine LeftL.tkN 7 rfl HS.out ?_
        (intro K h; go_simp; refine h _ ?_; clear h K)
        first | (refine LeftL.tkG (v := ?_) 8 rfl HS.out ?_ ?_; rotate_left; · intro V hV; obtain ⟨z1, z2⟩ := HFX.out V hV; clear hV; go_simp; rfl) | refine LeftL.tkN 8 rfl HS.out ?_
        (intro K h; go_simp; refine h _ ?_; clear h K)
        first | (refine LeftL.tkG (v := ?_) 9 rfl HS.out ?_ ?_; rotate_left; · intro V hV; obtain ⟨z1, z2⟩ := HFX.out V hV; clear hV; go_simp; rfl) | refine LeftL.tkN 9 rfl HS.out ?_
        (intro K h; go_simp; refine h _ ?_; clear h K)
        first | (refine LeftL.tkG (v := ?_) 10 rfl HS.out ?_ ?_; rotate_left; · intro V hV; obtain ⟨z1, z2⟩ := HFX.out V hV; clear hV; go_simp; rfl) | refine LeftL.tkN 10 rfl HS.out ?_
        (intro K h; go_simp; refine h _ ?_; clear h K)
        refine LeftL.one 11 rfl (by kernel_rfl) ?_
        go_wp2_with fail
        generalize hUB : World.alloc U _ = UB
        have hfE : Frm U.heap.size [] U UB := by rw [← hUB]; exact (Frm.refl _ _ _).alloc (Nat.le_refl _) _
        have kz : Blk UB U.heap.size 55 zero55 := by rw [← hUB]; exact Blk.new U 55 zero55
        have hS := HS.out.call hfE HS.out.size (by simp)
        obtain ⟨pn, hpn⟩ : ∃ p, p = U.heap.size := ⟨_, rfl⟩
        rw [← hpn] at kz ⊢
        have hpn2 : V8.heap.size ≤ pn := by rw [hpn]; exact HS.out.size
        have hpe : U.heap.size ≤ pn := by rw [hpn]; exact Nat.le_refl _
        first | refine ⟨fun _ => hS, ?_⟩ | refine ⟨hS, ?_⟩
        clear HS hUB hpn
        have HS := Lib.hid hS
        have KZ := Lib.hid kz
        have HPN := Lib.hid hpn2
        have HPE := Lib.hid hpe
        have HFE := Lib.hid hfE
        clear hfE hpe hpn2 kz hS
        refine LeftL.one 12 rfl (by kernel_rfl) ?_
        refine wpList_storeB (P := Try.prog) (cs := C') rfl rfl KZ.out rfl rfl (by rw [HC6.out]; rfl) (by rw [HC6.out]; exact info55) HC1.out ?_
        have kz := KZ.out.row C'
        have hS := HS.out.setRow (g := pn) (.inr HPN.out) C'.toArray
        have hn := HN.out.later (HFE.out.setRow (g := pn) (.inr HPE.out) C'.toArray)
        generalize World.setRow _ pn _ = UC at kz hS hn ⊢
        refine wpList_nil ?_
        dsimp only [Act.put]
        first | refine ⟨fun _ => hS, ?_⟩ | refine ⟨hS, ?_⟩
        clear KZ HS HN
        have KZ := Lib.hid kz
        have HS := Lib.hid hS
        have HN := Lib.hid hn
        clear hn hS kz
        refine LeftL.one 13 rfl (by kernel_rfl) ?_
        go_wp2_with fail
        first | refine ⟨fun _ => HS.out, ?_⟩ | refine ⟨HS.out, ?_⟩
        refine LeftL.one 14 rfl (by kernel_rfl) ?_
        go_wp2_with fail
        first | refine ⟨fun _ => HS.out, ?_⟩ | refine ⟨HS.out, ?_⟩
        refine LeftL.one 15 rfl (by kernel_rfl) ?_
        go_wp2_with fail
        first | refine ⟨fun _ => HS.out, ?_⟩ | refine ⟨HS.out, ?_⟩
        refine LeftL.done (by kernel_rfl) ?_
        go_wp2_with fail
        go_meet
        case rel => exact ⟨pn, m2, rfl, rfl, rfl, rfl, by rw [← HC.out]; exact KZ.out, HN.out⟩
      · go_wp2_with fail
        generalize hUB : World.alloc VD _ = UB
        have hfE : Frm VD.heap.size [] VD UB := by rw [← hUB]; exact (Frm.refl _ _ _).alloc (Nat.le_refl _) _
        have kz : Blk UB VD.heap.size 55 zero55 := by rw [← hUB]; exact Blk.new VD 55 zero55
        have hS := HS.out.call hfE HS.out.size (by simp)
        obtain ⟨pn, hpn⟩ : ∃ p, p = VD.heap.size := ⟨_, rfl⟩
        rw [← hpn] at kz ⊢
        have hpn2 : V8.heap.size ≤ pn := by rw [hpn]; exact HS.out.size
        have hpe : VD.heap.size ≤ pn := by rw [hpn]; exact Nat.le_refl _
        first | refine ⟨fun _ => hS, ?_⟩ | refine ⟨hS, ?_⟩
        clear HS hUB hpn
        have HS := Lib.hid hS
        have KZ := Lib.hid kz
        have HPN := Lib.hid hpn2
        have HPE := Lib.hid hpe
        have HFE := Lib.hid hfE
        clear hfE hpe hpn2 kz hS
        refine LeftL.one 5 rfl (by kernel_rfl) ?_
        go_wp2_with fail
        refine (HDU.out _ HS.out).mono ?_; rintro e U ⟨m2, rfl, hn⟩
        obtain ⟨C', hC'⟩ : ∃ c, c = refC s' m2 := ⟨_, rfl⟩
        have hc6 : C'.length = 6 := by rw [hC']; rfl
        have hc1 : ∀ u ∈ C', u.oneCell' = true := by rw [hC']; exact refC_one _ _
        rw [← hC']
        have HC := Lib.hid hC'
        have HC6 := Lib.hid hc6
        have HC1 := Lib.hid hc1
        clear hc1 hc6 hC'
        go_wp2_with fail
        have hS := HS.out.call hn.frm HS.out.size (by simp)
        first | refine ⟨fun _ => hS, ?_⟩ | refine ⟨hS, ?_⟩
        have HV0 := HS
        clear HS
        have kz := hn.frm.blk KZ.out KZ.out.lt (by simp)
        have hpl := KZ.out.lt
        clear KZ
        have HS := Lib.hid hS
        have HN := Lib.hid hn
        have KZ := Lib.hid kz
        have HPL := Lib.hid hpl
        clear hpl kz hn hS
        first | (refine LeftL.tkG (v := ?_) 6 rfl HS.out ?_ ?_; rotate_left; · intro V hV; obtain ⟨z1, z2⟩ := HFX.out V hV; clear hV; go_simp; rfl) | refine LeftL.tkN 6 rfl HS.out ?_
        (intro K h; go_simp; refine h _ ?_; clear h K)
        first | (refine LeftL.tkG (v := ?_) 7 rfl HS.out ?_ ?_; rotate_left; · intro V hV; obtain ⟨z1, z2⟩ := HFX.out V hV; clear hV; go_simp; rfl) | refine LeftL.tkN 7 rfl HS.out ?_
        (intro K h; go_simp; refine h _ ?_; clear h K)
        first | (refine LeftL.tkG (v := ?_) 8 rfl HS.out ?_ ?_; rotate_left; · intro V hV; obtain ⟨z1, z2⟩ := HFX.out V hV; clear hV; go_simp; rfl) | refine LeftL.tkN 8 rfl HS.out ?_
        (intro K h; go_simp; refine h _ ?_; clear h K)
        first | (refine LeftL.tkG (v := ?_) 9 rfl HS.out ?_ ?_; rotate_left; · intro V hV; obtain ⟨z1, z2⟩ := HFX.out V hV; clear hV; go_simp; rfl) | refine LeftL.tkN 9 rfl HS.out ?_
        (intro K h; go_simp; refine h _ ?_; clear h K)
        first | (refine LeftL.tkG (v := ?_) 10 rfl HS.out ?_ ?_; rotate_left; · intro V hV; obtain ⟨z1, z2⟩ := HFX.out V hV; clear hV; go_simp; rfl) | refine LeftL.tkN 10 rfl HS.out ?_
        (intro K h; go_simp; refine h _ ?_; clear h K)
        refine LeftL.one 12 rfl (by kernel_rfl) ?_
        refine wpList_storeB (P := Try.prog) (cs := C') rfl rfl KZ.out rfl rfl (by rw [HC6.out]; rfl) (by rw [HC6.out]; exact info55) HC1.out ?_
        have kz := KZ.out.row C'
        have hS := HS.out.setRow (g := pn) (.inr HPN.out) C'.toArray
        have hf2 := (Frm.refl U.heap.size [pn] U).setRow (g := pn) (.inl (by simp)) C'.toArray
        have hn := RNext.fresh HRA.out HV0.out HN.out HPN.out HPL.out (HFAR.out [pn] (by have := HLV.out.frm.size; have := HPN.out; simp; omega)) hf2
        generalize World.setRow _ pn _ = UC at kz hS hn ⊢
        refine wpList_nil ?_
        dsimp only [Act.put]
        first | refine ⟨fun _ => hS, ?_⟩ | refine ⟨hS, ?_⟩
        clear KZ HS HN
        have KZ := Lib.hid kz
        have HS := Lib.hid hS
        have HN := Lib.hid hn
        clear hn hS kz
        refine LeftL.one 13 rfl (by kernel_rfl) ?_
        go_wp2_with fail
        first | refine ⟨fun _ => HS.out, ?_⟩ | refine ⟨HS.out, ?_⟩
        refine LeftL.one 14 rfl (by kernel_rfl) ?_
        go_wp2_with fail
        first | refine ⟨fun _ => HS.out, ?_⟩ | refine ⟨HS.out, ?_⟩
        refine LeftL.one 15 rfl (by kernel_rfl) ?_
        go_wp2_with fail
        first | refine ⟨fun _ => HS.out, ?_⟩ | refine ⟨HS.out, ?_⟩
        refine LeftL.done (by kernel_rfl) ?_
        go_wp2_with fail
        go_meet
        case rel => exact ⟨pn, m2, rfl, rfl, rfl, rfl, by rw [← HC.out]; exact KZ.out, HN.out⟩
    obtain ⟨pn, m2, rfl, rfl, rfl, rfl, kn, hn⟩ := hcut
    obtain ⟨VN, hVN⟩ : ∃ U, U = wc := ⟨_, rfl⟩
    rw [← hVN] at kn hn ⊢
    have kp := hn.frm.blk KP.out KP.out.lt (by simp)
    have hbo := Both.next HLV.out HAP2.out hn (HFAR.out _ HLV.out.own)
    have hap := hn.ap [p] (by have := KP.out.lt; simpa using this) (HFAR.out [p] (by have := HPW.out; simpa using this)) HAP.out
    obtain ⟨C2, hC2⟩ : ∃ c, c = refC s' m2 := ⟨_, rfl⟩
    have hc6 : C2.length = 6 := by rw [hC2]; rfl
    have hc1 : ∀ u ∈ C2, u.oneCell' = true := by rw [hC2]; exact refC_one _ _
    rw [← hC2] at kn
    clear hVN hn KP HAP HAP2 HLV HRA HFX HL55 HL41 HDU HFAR
    have KP := Lib.hid kp
    have KN := Lib.hid kn
    have HB := Lib.hid hbo
    have HAP := Lib.hid hap
    have HC := Lib.hid hC2
    have HC6 := Lib.hid hc6
    have HC1 := Lib.hid hc1
    clear hc1 hc6 hC2 hap hbo kn kp
    go_wp2_with (first | (with_reducible refine atLoad 55 rfl ?_; refine wpList_loadE rfl rfl rfl (load55 KN.out HC6.out) ?_) | (with_reducible refine atStore 55 rfl ?_; refine stop_ ?_))
    refine go_on ?_
    refine wpList_storeB (P := Try.prog) (cs := C2) rfl rfl KP.out rfl rfl (by rw [HB6.out, HC6.out]) (by rw [HC6.out]; exact info55) HC1.out ?_
    have kp := KP.out.row C2
    have hpo := HPO.out
    have hbo := HB.out.frm ((Frm.refl VN.heap.size [p] VN).setRow (g := p) (.inl (by simp)) C2.toArray) (fun x hx hm => by simp at hm; subst hm; exact hpo hx) (by have := HPW.out; simpa using this) HAP.out
    generalize World.setRow VN _ _ = VO at kp hbo ⊢
    have hal : Calls Try.prog 23 #[.pointer (some ⟨k, 0, none⟩), .agg C2.toArray] VO fun e w' => e = .returned (.bool true) ∧ Frm VO.heap.size [] VO w' := by rw [HC.out]; exact alike_any hbo.live.at_ hbo.ref
    clear KP KN HB hpo
    dsimp only [Act.put]
    have KP := Lib.hid kp
    have HB := Lib.hid hbo
    have HAL := Lib.hid hal
    clear hal hbo kp
    go_wp2_with (with_reducible refine atLoad 55 rfl ?_; refine wpList_loadGE rfl rfl rfl (load55 KP.out HC6.out) ?_)
    refine HAL.out.mono ?_; rintro e wz ⟨rfl, hf1⟩
    have hbo := HB.out.still hf1
    have kp := hf1.blk KP.out KP.out.lt (by simp)
    rw [HC.out] at kp
    clear hf1 KP HB HAL
    have KP := Lib.hid kp
    have HB := Lib.hid hbo
    clear hbo kp
    go_wp2_with fail
    exact ⟨⟨i + 1, s', m', m2, by simp [y4, y5], HIL.out, HB.out, KP.out, HPO.out, HAP.out⟩, HMS.out⟩
set_option maxRecDepth 100000 in
theorem incidentPlays_lifted (os : Os) (started : os.Started) (H : Type) (enc : TypeId × Value → H) :
    ReturnsInHanded {} Try.checked os 7 .any (Rows.incidentPlaysSpec.pre6 enc Try.prog Try.f7 Rows.incidentPlaysRow.domain false) (Rows.incidentPlaysSpec.post enc Try.prog Try.f7 false true false false) := by
  refine law_lift (fn := Try.f7) (s := Rows.incidentPlaysSpec) (conds := Rows.incidentPlaysRow.domain) started 3 (by kernel_rfl) Try.func7
      (ChangeSpec.witness6 (enc := enc) (C := Try.checked) false ⟨#[], #[.int .i64 0, .int .i64 0, .slice none 0 0], []⟩ 8 (by kernel_rfl) (by kernel_rfl) (by kernel_rfl) (by kernel_rfl))
      (by rw [Try.params7]; decide +kernel) (by rw [Try.params7]; rfl) (by kernel_rfl) rfl (fun ds h => by match ds, h with | [d1, d2, d3], _ => rfl) ?_
  intro W base args ds ps hval hA
  rw [Try.params7] at hA hval
  obtain ⟨v0, vs0, d0, ds0, p0, q0, hargs, rfl, rfl, h0, r0⟩ := trodAll_cons hA
  obtain ⟨v1, vs1, d1, ds1, p1, q1, rfl, rfl, rfl, h1, r1⟩ := trodAll_cons r0
  obtain ⟨v2, vs2, d2, ds2, p2, q2, rfl, rfl, rfl, h2, r2⟩ := trodAll_cons r1
  obtain ⟨rfl, rfl, rfl⟩ := trodAll_nil r2
  obtain rfl : args = #[v0, v1, v2] := by cases args; simp_all
  obtain ⟨wd, rfl⟩ := okWide_int Try.underlying3 (hval 0 3 v0 rfl rfl)
  obtain ⟨dr, rfl⟩ := okWide_int Try.underlying3 (hval 1 3 v1 rfl rfl)
  obtain ⟨ad, len, cap, b, off, A, rfl, hr, ha⟩ := open_acts (hval 2 31 v2 rfl rfl) h2
  exact plays_walk wd dr ad len cap b off A W hr ha

theorem incidentPlays_over : Rows.incidentPlaysRow.holds Try.pinned (OpenSpec.ofChange Rows.incidentPlaysSpec) :=
  OpenClaim.holds_of_wide 7 Try.f7 rfl rfl rfl rfl rfl rfl rfl ⟨rfl, rfl, rfl, rfl, rfl⟩ rfl rfl rfl rfl rfl (by kernel_rfl) Try.func7 (by kernel_rfl)
    (of_decide_eq_true (by kernel_rfl)) (by unfold Func.isWrapper; first | (rw [if_pos (by decide +kernel)]; kernel_rfl) | (rw [if_neg (by decide +kernel)]; exact ⟨rfl, rfl⟩))
    (fun os started H enc _ => incidentPlays_lifted os started H enc)

/-- The statement. -/
theorem incidentPlays_proved : Rows.IncidentPlaysSaid := incidentPlays_over
end Go.Proofs.Ythgmdilfmeefiaa
