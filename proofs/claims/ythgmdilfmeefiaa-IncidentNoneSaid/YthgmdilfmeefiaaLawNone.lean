/-
  IncidentNone: a book that no call made returns ErrNil; a book keeps and gives away no memory.
-/
import Derived.Test.YthgmdilfmeefiaaJ62
import Derived.Test.YthgmdilfmeefiaaJ67
namespace Go.Proofs.Ythgmdilfmeefiaa
set_option linter.all false
set_option linter.unusedSimpArgs false
set_option linter.unusedVariables false
open Go.ChangeShapes Go.WideShapes Go.ChangeAt Go.RowKit

/-- The memory of an empty book. -/
def emptyR : RMem := ⟨none, 0, 0, 0, fun _ => none, fun _ => 0, fun _ => 0, fun _ => 0, none, 0, 0, 0, none, 0, 0, 0, none, 0, 0, 0, fun _ => none, fun _ => 0, fun _ => 0, fun _ => 0⟩
theorem ref_empty {w : World} {wd dr : Int} (hi : BInv (emptyS wd dr)) : RefAt w (emptyS wd dr) emptyR := by
  refine ⟨⟨fun h => absurd h (Nat.lt_irrefl 0), Nat.zero_le _, fun i hi => absurd hi (Nat.not_lt_zero i)⟩, fun i hi => absurd hi (Nat.not_lt_zero i), ⟨fun h => absurd h (Nat.lt_irrefl 0), Nat.zero_le _, fun i hi => absurd hi (Nat.not_lt_zero i)⟩, ⟨fun h => absurd h (Nat.lt_irrefl 0), Nat.zero_le _, fun i hi => absurd hi (Nat.not_lt_zero i)⟩, ⟨fun h => absurd h (Nat.lt_irrefl 0), Nat.zero_le _, fun i hi => absurd hi (Nat.not_lt_zero i)⟩, fun i hi => absurd hi (Nat.not_lt_zero i), hi⟩
theorem apart_empty (wd dr : Int) (S : List Nat) : Apart (emptyS wd dr) emptyR S :=
  ⟨fun h => absurd h (Nat.lt_irrefl 0), fun h => absurd h (Nat.lt_irrefl 0), fun h => absurd h (Nat.lt_irrefl 0), fun i hi => absurd hi (Nat.not_lt_zero i), fun i hi => absurd hi (Nat.not_lt_zero i)⟩
theorem RNext.later {w U U' : World} {s s' : BS} {m m' : RMem} {X : List Nat → Prop} (hn : RNext w U s s' m m' X) (hf : Frm U.heap.size [] U U') : RNext w U' s s' m m' X :=
  ⟨hn.at_.still hf, hn.frm.call hf hn.frm.size (by simp), hn.ap⟩
theorem RNext.first {w V U : World} {s s' : BS} {m m' : RMem} {X : List Nat → Prop} (hf : Frm w.heap.size [] w V) (hn : RNext V U s s' m m' X) : RNext w U s s' m m' X :=
  ⟨hn.at_, hf.call hn.frm hf.size (by simp), fun S hS hx ha => hn.ap S (fun b hb => Nat.lt_of_lt_of_le (hS b hb) hf.size) hx ha⟩
/-- What is stored into a box made since leaves the book. -/
theorem RNext.fresh {w V U U' : World} {s s' : BS} {m m' : RMem} {X : List Nat → Prop} {p : Nat} (h : RefAt w s m) (hv : Frm w.heap.size [] w V) (hn : RNext V U s s' m m' X) (hp : w.heap.size ≤ p) (hpV : p < V.heap.size) (hX : X [p])
    (hf : Frm U.heap.size [p] U U') : RNext w U' s s' m m' X := RNext.box h hv hn hp hpV hX hf (fun _ _ h => h)
/-- The blocks of a call's lists. -/
def FarX (x : Act_) (q : APos) (S : List Nat) : Prop := (0 < x.r.wh.length → q.rb ∉ S) ∧ (0 < x.p.wh.length → q.pb ∉ S)
theorem far_of {w : World} {x : Act_} {q : APos} (h : ActAt w x q) {S : List Nat} (hS : ∀ b ∈ S, w.heap.size ≤ b) : FarX x q S := by
  refine ⟨fun h0 hm => ?_, fun h0 hm => ?_⟩
  · have h1 := cell_lt (h.r.at_ 0 h0 0 _ rfl)
    have h2 := hS _ hm
    simp at h1
    omega
  · have h1 := cell_lt (h.p.at_ 0 h0 0 _ rfl)
    have h2 := hS _ hm
    simp at h1
    omega
set_option maxRecDepth 100000 in
set_option maxHeartbeats 16000000 in
theorem none_walk (wd dr : Int) (ad : Option Addr) (len cap b off : Nat) (A : Nat → Act_ × APos) (w : World) (hr : RwA w ad b off len A) (ha : ∀ i, i < len → ActAt w (A i).1 (A i).2) :
    Calls Try.prog 8 #[.int .i64 wd, .int .i64 dr, .slice ad len cap] w fun e w' => e = .returned (.bool true) ∧ Frm w.heap.size [] w w' := by
  have hf0 := Try.func8
  obtain ⟨i71, hi71, hz0, hz1, hz2⟩ := info_parts3 info71z
  have hlen := hr.len
  have had := hr.ad
  have hgr : ∀ V, Frm w.heap.size [] w V → Calls Try.prog 13 #[.slice ad len cap] V fun e w' => (e = .returned (.bool true) ∨ e = .returned (.bool false) ∧ ∀ j, j < len → (A j).1.r.wh.length ≤ 30 ∧ (A j).1.p.wh.length ≤ 30) ∧ Frm V.heap.size [] V w' := fun V hV => greats2_any ad b off len cap A V (hr.frm hV (Nat.le_refl _))
  have HR := Lib.hid hr
  have HA := Lib.hid ha
  have HLEN := Lib.hid hlen
  have HAD := Lib.hid had
  have HGR := Lib.hid hgr
  have HI71 := Lib.hid hi71
  have HZ0 := Lib.hid hz0
  have HZ1 := Lib.hid hz1
  have HZ2 := Lib.hid hz2
  clear hz2 hz1 hz0 hi71 hgr had hlen ha hr
  go_enter Try.func8, Try.ntmps8
  go_upto_region 3 with fail
  refine namedC ?_; intro W hW
  have kn : Blk W w.heap.size 64 [.int .i64 0, .int .i64 0, .bool false, .slice none 0 0, .slice none 0 0, .slice none 0 0] := by rw [hW]; refine Blk.alloc' ?_; exact Blk.new w 64 _
  have ka : Blk W (w.heap.size + 1) 33 [.pointer none, .pointer (some ⟨w.heap.size, 0, none⟩)] := by rw [hW]; exact Blk.new' _ 33 [.pointer none, .pointer (some ⟨w.heap.size, 0, none⟩)] (by simp)
  have hf : Frm w.heap.size [] w W := by rw [hW]; repeat (first | with_reducible exact Frm.refl _ _ _ | with_reducible refine Frm.drewN ?_ | with_reducible refine Frm.drew ?_ | ((with_reducible refine Frm.setCell' ?_ ?_); · first | (left; simp; done) | (right; simp; done) | (right; simp; omega)) | ((with_reducible refine Frm.alloc' ?_ ?_); · first | exact Nat.le_refl _ | (simp; done) | (simp; omega)))
  clear hW hf0
  have hp0 : ∀ i : Nat, i < 2 → ∃ p, ∀ V, Frm W.heap.size [] W V → V.cell? ⟨w.heap.size + 1, i, none⟩ = some p ∧ Unmade p V := fun i hi => by
    match i, hi with
    | 0, _ => exact ⟨.pointer none, fun V hV => ⟨(hV.blk ka ka.lt (by simp)).cell 0, .inl rfl⟩⟩
    | 1, _ => exact ⟨.pointer (some ⟨w.heap.size, 0, none⟩), fun V hV => ⟨(hV.blk ka ka.lt (by simp)).cell 1, .inr ⟨_, rfl, (hV.blk kn kn.lt (by simp)).cell 2⟩⟩⟩
  clear kn ka
  have HF := Lib.hid hf
  have HP0 := Lib.hid hp0
  clear hp0 hf
  go_wp2_with fail
  go_loopw [9] (fun s9 wr => ∃ i : Nat, s9 = .int .i64 i ∧ i ≤ 2 ∧ Frm W.heap.size [] W wr) (fun s9 _ => 2 - (intOf s9).toNat)
  case atStart => exact ⟨0, rfl, Nat.zero_le _, Frm.refl _ _ _⟩
  case round =>
    obtain ⟨i, rfl, hi, hfr⟩ := hrel
    by_cases hil : i < 2
    · have hil' : (i : Int) < 2 := by omega
      obtain ⟨y4, y5⟩ := wrapUp hil (by unfold maxLen; omega)
      have hms := meas_up hil
      obtain ⟨p, hp⟩ := HP0.out i hil
      have h16 : ∀ V, Frm W.heap.size [] W V → Calls Try.prog 16 #[p, .int .i64 0] V fun e w' => e = .returned (.tuple #[.slice none 0 0, .int .i64 1]) ∧ Frm V.heap.size [] V w' := fun V hV => none16 (hp V hV).2 0
      have h17 : ∀ V, Frm W.heap.size [] W V → Calls Try.prog 17 #[p, .int .i64 0] V fun e w' => e = .returned (.tuple #[.agg zeroR.toArray, .int .i64 0, .int .i64 1]) ∧ Frm V.heap.size [] V w' := fun V hV => none17 (hp V hV).2 0
      have h19 : ∀ V, Frm W.heap.size [] W V → Calls Try.prog 19 #[p, .int .i64 0] V fun e w' => e = .returned (.tuple #[.slice none 0 0, .int .i64 1]) ∧ Frm V.heap.size [] V w' := fun V hV => none19 (hp V hV).2 0
      have h18 : ∀ V, Frm W.heap.size [] W V → Calls Try.prog 18 #[p] V fun e w' => e = .returned (.slice none 0 0) ∧ Frm V.heap.size [] V w' := fun V hV => none18 (hp V hV).2
      have h15 : ∀ V (j : Int), Frm W.heap.size [] W V → Calls Try.prog 15 #[p, .agg #[.int .i64 j, .int .i64 0, .int .i64 0, .int .i64 0, .int .i64 0, .string ⟨#[]⟩, .string ⟨#[]⟩, .slice none 0 0, .int .i64 0, .int .i64 0, .int .i64 0, .int .i64 0, .int .i64 0, .string ⟨#[]⟩, .slice none 0 0, .int .i64 0]] V fun e w' => (∃ a b : Int, e = .returned (.tuple #[.int .i64 a, .int .i64 b, .int .i64 1])) ∧ Frm V.heap.size [] V w' := fun V j hV => none15 (hp V hV).2 (zeroAct j) zeroPos
      have hc : ∀ V, Frm W.heap.size [] W V → V.cell? ⟨w.heap.size + 1, i, none⟩ = some p := fun V hV => (hp V hV).1
      obtain ⟨V0, hV0⟩ : ∃ V, V = wr := ⟨_, rfl⟩
      rw [← hV0] at hfr ⊢
      clear hp hV0
      have H15 := Lib.hid h15
      have H16 := Lib.hid h16
      have H17 := Lib.hid h17
      have H18 := Lib.hid h18
      have H19 := Lib.hid h19
      have HC := Lib.hid hc
      have HFR := Lib.hid hfr
      have HMS := Lib.hid hms
      have HIL := Lib.hid hil
      clear hil hms hfr hc h19 h18 h17 h16 h15
      go_wp2_with fail
      go_loopw [10] (fun s10 wr => ∃ j : Nat, s10 = .int .i64 j ∧ j ≤ 4 ∧ Frm W.heap.size [] W wr) (fun s10 _ => 4 - (intOf s10).toNat)
      case atStart => exact ⟨0, rfl, Nat.zero_le _, HFR.out⟩
      case round =>
        clear HFR
        obtain ⟨j, rfl, hj, hfr⟩ := hrel
        have c1 := HC.out wr hfr
        by_cases hjl : j < 4
        · have hjl' : (j : Int) < 4 := by omega
          obtain ⟨x4, x5⟩ := wrapUp hjl (by unfold maxLen; omega)
          have hmsj := meas_up hjl
          have HFR := Lib.hid hfr
          have HMSJ := Lib.hid hmsj
          have HJL := Lib.hid hjl
          clear hjl hmsj hfr
          go_wp2_with fail
          refine (H15.out wr j HFR.out).mono ?_; rintro e V1 ⟨⟨r1, r2, rfl⟩, hf1⟩
          have hfr := HFR.out.call hf1 HFR.out.size (by simp)
          clear hf1 HFR
          have HFR := Lib.hid hfr
          clear hfr
          clear c1
          go_wp2_with fail
          exact ⟨⟨j + 1, by simp [x4, x5], HJL.out, HFR.out⟩, HMSJ.out⟩
        have hjl' : ¬ (j : Int) < 4 := by omega
        obtain rfl : j = 4 := by omega
        have HFR := Lib.hid hfr
        clear hfr
        go_wp2_with fail
        refine (H16.out wr HFR.out).mono ?_; rintro e V1 ⟨rfl, hf1⟩
        have hfr := HFR.out.call hf1 HFR.out.size (by simp)
        clear hf1 HFR
        have HFR := Lib.hid hfr
        clear hfr
        clear c1
        have c1 := HC.out _ HFR.out
        go_wp2_with fail
        refine (H17.out V1 HFR.out).mono ?_; rintro e V2 ⟨rfl, hf1⟩
        have hfr := HFR.out.call hf1 HFR.out.size (by simp)
        clear hf1 HFR
        have HFR := Lib.hid hfr
        clear hfr
        go_wp2_with (with_reducible refine atStore 24 rfl ?_; refine stop_ ?_)
        refine go_on ?_
        refine wpList_storeNew (P := Try.prog) (cs := zeroR) rfl rfl rfl rfl rfl info24 (by simp [zeroR, Value.oneCell']) ?_
        intro V3 hf1 k6 hz; clear hz k6
        dsimp only [Act.put]
        have hfr := HFR.out.call hf1 HFR.out.size (by simp)
        clear hf1 HFR
        have HFR := Lib.hid hfr
        clear hfr
        clear c1
        have c1 := HC.out _ HFR.out
        go_wp2_with fail
        refine (H19.out V3 HFR.out).mono ?_; rintro e V4 ⟨rfl, hf1⟩
        have hfr := HFR.out.call hf1 HFR.out.size (by simp)
        clear hf1 HFR
        have HFR := Lib.hid hfr
        clear hfr
        clear c1
        have c1 := HC.out _ HFR.out
        go_wp2_with fail
        refine (H18.out V4 HFR.out).mono ?_; rintro e V5 ⟨rfl, hf1⟩
        have hfr := HFR.out.call hf1 HFR.out.size (by simp)
        clear hf1 HFR
        have HFR := Lib.hid hfr
        clear hfr
        clear c1
        go_wp2_with fail
        exact ⟨⟨i + 1, by simp [y4, y5], HIL.out, HFR.out⟩, HMS.out⟩
    have hil' : ¬ (i : Int) < 2 := by omega
    obtain rfl : i = 2 := by omega
    have hf := HF.out.call hfr HF.out.size (by simp)
    obtain ⟨V0, hV0⟩ : ∃ V, V = wr := ⟨_, rfl⟩
    rw [← hV0] at hf ⊢
    clear hV0 HF hfr HP0
    have HF := Lib.hid hf
    clear hf
    go_wp2_with fail
    refine (HGR.out V0 HF.out).mono ?_; rintro e w1 ⟨he, hf1⟩
    have hf := HF.out.call hf1 HF.out.size (by simp)
    clear hf1 HF HGR
    rcases he with rfl | ⟨rfl, h30⟩
    · have HF := Lib.hid hf
      clear hf
      go_wp2_with fail
      refine (awake_any w1).mono ?_; rintro e wz ⟨rfl, hf1⟩
      have hf := HF.out.call hf1 HF.out.size (by simp)
      clear hf1 HF
      have HF := Lib.hid hf
      clear hf
      go_wp2_with fail
      go_ret
      exact ⟨rfl, HF.out⟩
    have HF := Lib.hid hf
    have H30 := Lib.hid h30
    clear h30 hf
    cases hru : rulesB wd dr
    · have HRU := Lib.hid hru
      clear hru
      go_wp2_with (go_at_call 21; refine (refRules_any _ _ _).mono ?_; rintro e w' ⟨rfl, rfl⟩; rw [HRU.out])
      refine (awake_any w1).mono ?_; rintro e wz ⟨rfl, hf1⟩
      have hf := HF.out.call hf1 HF.out.size (by simp)
      clear hf1 HF
      have HF := Lib.hid hf
      clear hf
      go_wp2_with fail
      go_ret
      exact ⟨rfl, HF.out⟩
    have hnew := new_live wd dr hru HF.out
    have HRU := Lib.hid hru
    have HNEW := Lib.hid hnew
    clear hnew hru
    go_wp2_with (go_at_call 21; refine (refRules_any _ _ _).mono ?_; rintro e w' ⟨rfl, rfl⟩; rw [HRU.out])
    refine HNEW.out.mono ?_; rintro e w2 ⟨k, rfl, hlv, hf1, hk⟩
    clear hf1 hk HF HNEW
    have HL := Lib.hid hlv
    clear hlv
    go_wp2_with (with_reducible refine atStore 55 rfl ?_; refine stop_ ?_)
    refine go_on ?_
    refine wpList_storeNew (P := Try.prog) (cs := refC (emptyS wd dr) emptyR) rfl rfl rfl rfl rfl info55 (refC_one _ _) ?_
    intro w3 hf1 k6 hz; clear hz
    dsimp only [Act.put]
    obtain ⟨p, hp⟩ : ∃ p, p = w2.heap.size := ⟨_, rfl⟩
    rw [← hp] at k6 ⊢
    have hb3 : Both w w3 k (emptyS wd dr) emptyM emptyR := ⟨HL.out.still hf1, ref_empty HL.out.at_.inv, apart_empty _ _ _⟩
    have hpo : p ∉ emptyM.own k (emptyS wd dr) := HL.out.new (by rw [hp]; exact Nat.le_refl _)
    have hpw : w.heap.size ≤ p := by rw [hp]; exact HL.out.frm.size
    clear hf1 hp HL
    have HB := Lib.hid hb3
    have KP := Lib.hid k6
    have HPO := Lib.hid hpo
    have HPW := Lib.hid hpw
    clear hpw hpo k6 hb3
    go_wp2_with fail
    go_loopw [24] (fun s24 wr => ∃ (i : Nat) (s : BS) (m : Mem) (mr : RMem), s24 = .int .i64 i ∧ i ≤ len ∧ Both w wr k s m mr ∧ Blk wr p 55 (refC s mr) ∧ p ∉ m.own k s ∧ Apart s mr [p]) (fun s24 _ => len - (intOf s24).toNat)
    case atStart => exact ⟨0, _, _, _, rfl, Nat.zero_le _, HB.out, KP.out, HPO.out, apart_empty _ _ _⟩
    case round =>
      clear HB KP HPO
      obtain ⟨i, s, m, mr, rfl, hi, hbo, kp, hpo, hap⟩ := hrel
      obtain ⟨V0, hV0⟩ : ∃ V, V = wr := ⟨_, rfl⟩
      rw [← hV0] at hbo kp ⊢
      clear hV0
      by_cases hil : i < len
      rotate_left
      · have hil' : ¬ (i : Int) < (len : Int) := by omega
        obtain rfl : i = len := by omega
        have hal : Calls Try.prog 23 #[.pointer (some ⟨k, 0, none⟩), .agg (refC s mr).toArray] V0 fun e w' => e = .returned (.bool true) ∧ Frm V0.heap.size [] V0 w' := alike_any hbo.live.at_ hbo.ref
        have hf := hbo.live.frm
        obtain ⟨B, hB⟩ : ∃ c, c = refC s mr := ⟨_, rfl⟩
        have hb6 : B.length = 6 := by rw [hB]; rfl
        rw [← hB] at kp hal
        clear hbo hpo hap hB
        have HF := Lib.hid hf
        have HAL := Lib.hid hal
        have KP := Lib.hid kp
        have HB6 := Lib.hid hb6
        clear hb6 kp hal hf
        go_wp2_with (with_reducible refine atLoad 55 rfl ?_; refine wpList_loadE rfl rfl rfl (load55 KP.out HB6.out) ?_)
        refine HAL.out.mono ?_; rintro e V1 ⟨rfl, hf1⟩
        have hf := HF.out.call hf1 HF.out.size (by simp)
        clear hf1 HF HAL KP
        have HF := Lib.hid hf
        clear hf
        go_wp2_with fail
        refine (awake_any V1).mono ?_; rintro e wz ⟨rfl, hf1⟩
        have hf := HF.out.call hf1 HF.out.size (by simp)
        clear hf1 HF
        have HF := Lib.hid hf
        clear hf
        go_wp2_with fail
        go_ret
        exact ⟨rfl, HF.out⟩
      have hil' : (i : Int) < (len : Int) := by omega
      have had := HAD.out (by omega)
      subst had
      obtain ⟨y4, y5⟩ := wrapUp hil HLEN.out
      have hms := meas_up hil
      obtain ⟨x, hx⟩ : ∃ x, x = (A i).1 := ⟨_, rfl⟩
      obtain ⟨q, hq⟩ : ∃ x, x = (A i).2 := ⟨_, rfl⟩
      have hact : ActAt w x q := by rw [hx, hq]; exact HA.out i hil
      have h30 : x.r.wh.length ≤ 30 ∧ x.p.wh.length ≤ 30 := by rw [hx]; exact H30.out i hil
      obtain ⟨n1, hn1⟩ : ∃ c, c = x.r.wh.length := ⟨_, rfl⟩
      obtain ⟨n2, hn2⟩ : ∃ c, c = x.p.wh.length := ⟨_, rfl⟩
      rw [← hn1, ← hn2] at h30
      obtain ⟨C, hC⟩ : ∃ c, c = actC x q := ⟨_, rfl⟩
      have hcl : C.length = 16 := by rw [hC]; rfl
      have hcone : ∀ u ∈ C, u.oneCell' = true := by rw [hC]; exact act_one x q
      have hat : ∀ V, Frm w.heap.size [] w V → ∀ (j : Nat) (v : Value), C[j]? = some v → V.cell? ⟨b, off + i * 16 + j, none⟩ = some v := fun V hV j v hv => (HR.out.frm hV (Nat.le_refl _)).at_ i hil j v (by rw [← hx, ← hq, ← hC]; exact hv)
      have hl41 : ∀ V, Frm w.heap.size [] w V → (loadVar 41 ⟨b, off + i * 16, none⟩).run Try.prog V = .ok (.agg C.toArray) V := fun V hV => run_loadVar_mid V b (off + i * 16) 41 C _ (fun j v hv => hat V hV j v hv) Try.underlying41 rfl (by rw [hcl]; exact info41)
      have hg7 : C[7]? = some (.slice q.ra n1 q.rc) := by rw [hC, hn1]; rfl
      have hg14 : C[14]? = some (.slice q.pa n2 q.pc) := by rw [hC, hn2]; rfl
      obtain ⟨fl1, hfl1⟩ : ∃ f : Nat → List Value, f = fun i => spC (spt x.r.wh i) := ⟨_, rfl⟩
      obtain ⟨fl2, hfl2⟩ : ∃ f : Nat → List Value, f = fun i => spC (spt x.p.wh i) := ⟨_, rfl⟩
      have hrw1 : ∀ V, Frm w.heap.size [] w V → Rw V 2 q.ra q.rb q.ro n1 fl1 := fun V hV => by rw [hfl1, hn1]; exact hact.r.frm hV (Nat.le_refl _)
      have hrw2 : ∀ V, Frm w.heap.size [] w V → Rw V 2 q.pa q.pb q.po n2 fl2 := fun V hV => by rw [hfl2, hn2]; exact hact.p.frm hV (Nat.le_refl _)
      have hle1 : ∀ i, (fl1 i).length = 2 := fun i => by rw [hfl1]; rfl
      have hle2 : ∀ i, (fl2 i).length = 2 := fun i => by rw [hfl2]; rfl
      have hon1 : ∀ u ∈ (List.range n1).flatMap fl1, u.oneCell' = true := by rw [hfl1]; exact spots_one _ _
      have hon2 : ∀ u ∈ (List.range n2).flatMap fl2, u.oneCell' = true := by rw [hfl2]; exact spots_one _ _
      have hdo : ∀ V ad1 b1 o1 c1 ad2 b2 o2 c2, Live w V k s m → Rw V 2 ad1 b1 o1 n1 fl1 → Rw V 2 ad2 b2 o2 n2 fl2 → (0 < n1 → b1 ∉ m.own k s) → Calls Try.prog 15 #[.pointer (some ⟨k, 0, none⟩), .agg ((C.set 7 (.slice ad1 n1 c1)).set 14 (.slice ad2 n2 c2)).toArray] V fun e V' => (∃ v, e = .returned v) ∧ ∃ m', Live w V' k (doS s x).1 m' ∧ Turn k V V' s (doS s x).1 m m' := fun V ad1 b1 o1 c1 ad2 b2 o2 c2 h h1 h2 hb => by
        have e : (C.set 7 (.slice ad1 n1 c1)).set 14 (.slice ad2 n2 c2) = actC x ⟨ad1, b1, o1, c1, ad2, b2, o2, c2⟩ := by rw [hC, hn1, hn2]; rfl
        rw [e]
        rw [hfl1, hn1] at h1
        rw [hfl2, hn2] at h2
        exact (does_live h x ⟨ad1, b1, o1, c1, ad2, b2, o2, c2⟩ ⟨h1, h2⟩ (fun h0 => hb (by omega))).mono fun e w' hh => ⟨⟨_, hh.1⟩, hh.2⟩
      have hdu : ∀ V, Frm w.heap.size [] w V → RefAt V s mr → Calls Try.prog 22 #[.agg (refC s mr).toArray, .agg C.toArray] V fun e w' => ∃ m', e = .returned (.tuple #[.agg (refC (doS s x).1 m').toArray, .int .i64 (doS s x).2.1, .int .i64 (doS s x).2.2.1, .int .i64 (doS s x).2.2.2]) ∧ RNext V w' s (doS s x).1 mr m' (FarX x q) := fun V hV h => by
        rw [hC]; exact due_any h x q (hact.frm hV)
      have hfar : ∀ S, (∀ b ∈ S, w.heap.size ≤ b) → FarX x q S := fun S hS => far_of hact hS
      obtain ⟨s', hs'⟩ : ∃ c, c = (doS s x).1 := ⟨_, rfl⟩
      obtain ⟨d1, hd1⟩ : ∃ c, c = (doS s x).2.1 := ⟨_, rfl⟩
      obtain ⟨d2, hd2⟩ : ∃ c, c = (doS s x).2.2.1 := ⟨_, rfl⟩
      obtain ⟨d3, hd3⟩ : ∃ c, c = (doS s x).2.2.2 := ⟨_, rfl⟩
      obtain ⟨X, hX⟩ : ∃ X, X = FarX x q := ⟨_, rfl⟩
      simp only [← hs', ← hd1, ← hd2, ← hd3] at hdo hdu
      rw [← hX] at hdu hfar
      obtain ⟨B, hB⟩ : ∃ c, c = refC s mr := ⟨_, rfl⟩
      have hb6 : B.length = 6 := by rw [hB]; rfl
      rw [← hB] at hdu kp
      clear hx hq hn1 hn2 hC hact hs' hd1 hd2 hd3 hX hB hat hfl1 hfl2
      have HB := Lib.hid hbo
      have KP := Lib.hid kp
      have HPO := Lib.hid hpo
      have HAP := Lib.hid hap
      have HMS := Lib.hid hms
      have HL41 := Lib.hid hl41
      have HDO := Lib.hid hdo
      have HDU := Lib.hid hdu
      have HFAR := Lib.hid hfar
      have HIL := Lib.hid hil
      have HB6 := Lib.hid hb6
      have HCL := Lib.hid hcl
      have HCONE := Lib.hid hcone
      have H30x := Lib.hid h30
      have HG7 := Lib.hid hg7
      have HG14 := Lib.hid hg14
      have HRW1 := Lib.hid hrw1
      have HRW2 := Lib.hid hrw2
      have HLE1 := Lib.hid hle1
      have HLE2 := Lib.hid hle2
      have HON1 := Lib.hid hon1
      have HON2 := Lib.hid hon2
      clear hon2 hon1 hle2 hle1 hrw2 hrw1 hg14 hg7 h30 hcone hcl hb6 hil hfar hdu hdo hl41 hms hap hpo kp hbo
      go_wp2_with (first | (with_reducible refine atLoad 41 rfl ?_; refine wpList_loadE rfl rfl rfl (HL41.out _ HB.out.live.frm) ?_) | (with_reducible refine atStore 41 rfl ?_; refine stop_ ?_))
      refine go_on ?_
      refine wpList_storeNew (P := Try.prog) (cs := C) rfl rfl rfl rfl (by rw [HCL.out]; rfl) (by rw [HCL.out]; exact info41) HCONE.out ?_
      intro U1 hf1 kx hz; clear hz
      dsimp only [Act.put]
      obtain ⟨px, hpx⟩ : ∃ p, p = V0.heap.size := ⟨_, rfl⟩
      rw [← hpx] at kx ⊢
      have hpxl : V0.heap.size ≤ px := by rw [hpx]; exact Nat.le_refl _
      clear hpx
      have c7 : U1.cell? ⟨px, 7, none⟩ = some (.slice q.ra n1 q.rc) := (kx.cell 7).trans HG7.out
      have hltx : px < U1.heap.size := kx.lt
      have hnex : px ≠ U1.heap.size := Nat.ne_of_lt hltx
      have HF1 := Lib.hid hf1
      have KX := Lib.hid kx
      have HPXL := Lib.hid hpxl
      clear hpxl kx hf1
      go_wp2_with (at_builtin; refine hold ?_; intro qG hG)
      refine hG.1 ?_; clear hG qG
      have hwA : Frm w.heap.size [] w (U1.alloc (Obj.cells #[] 71)) := (HB.out.live.frm.call HF1.out HB.out.live.frm.size (by simp)).alloc (Nat.le_trans HB.out.live.frm.size HF1.out.size) _
      have hrwA := HRW1.out _ hwA
      refine wpList_append_rw rfl (.tmp 144) (.tmp 147) 22 rfl 71 i71 _ 2 16 Try.underlying22 HI71.out HZ0.out HZ1.out HZ2.out rfl _ 0 [] _ rfl (sl_buildEmpty U1 71 2) q.ra q.rb q.ro n1 q.rc ((List.range n1).flatMap fl1) rfl hrwA.ad (flat_len HLE1.out n1) (hrwA.cells HLE1.out (by decide)) HON1.out (by have := H30x.out; unfold maxLen; omega) (by have := H30x.out; omega) ?_
      intro v1 U2 o1 hs hfA hoA
      rw [List.nil_append, Nat.zero_add] at hs
      have hfr : Frm U1.heap.size [] U1 U2 := ((Frm.refl U1.heap.size [] U1).alloc (Nat.le_refl _) _).call hfA (by simp) (fun x hx hm => by simp at hm; omega)
      have hge : ∀ g, o1 = some g → U1.heap.size ≤ g := fun g hg => by
        rcases hoA with h | ⟨x, h, hx⟩
        · rw [hg] at h; cases h; exact Nat.le_refl _
        · rw [hg] at h; cases h; simp at hx; omega
      obtain ⟨a1, e1, rfl⟩ := hs.form
      have kx := hfr.blk KX.out KX.out.lt (by simp)
      have hf1 := HF1.out.call hfr HF1.out.size (by simp)
      have hpg : ∀ g, o1 = some g → px ≠ g := fun g hg e => by have := hge g hg; rw [← e] at this; have := KX.out.lt; omega
      have hog : ∀ g, o1 = some g → V0.heap.size ≤ g := fun g hg => Nat.le_trans HF1.out.size (hge g hg)
      have c7' : U2.cell? ⟨px, 7, none⟩ = some (.slice q.ra n1 q.rc) := (hfr.cell (cell_lt c7) (by simp)).trans c7
      have gg := kx.free 7
      clear hwA hrwA hfA hoA hfr hge KX HF1 c7 hltx hnex
      have HSN := Lib.hid hs
      have KX := Lib.hid kx
      have HF1 := Lib.hid hf1
      have HPG1 := Lib.hid hpg
      have HO1 := Lib.hid hog
      clear hog hpg hf1 kx hs
      go_upto_region 28 with fail
      clear c7' gg
      have kx := KX.out.set 7 (.slice a1 n1 e1)
      have hs := Sl.setCell HSN.out ⟨px, 7, none⟩ (.slice a1 n1 e1) (fun g hg e => HPG1.out g hg e)
      have hf1 := HF1.out.setCell (p := ⟨px, 7, none⟩) (.inr HPXL.out) (.slice a1 n1 e1)
      generalize World.setCell U2 _ _ = U3 at kx hs hf1 ⊢
      obtain ⟨C1, hK⟩ : ∃ c, c = C.set 7 (.slice a1 n1 e1) := ⟨_, rfl⟩
      rw [← hK] at kx
      clear KX HSN HF1
      have KX := Lib.hid kx
      have HS1 := Lib.hid hs
      have HF1 := Lib.hid hf1
      have HC1 := Lib.hid hK
      clear hK hf1 hs kx
      have c14 : U3.cell? ⟨px, 14, none⟩ = some (.slice q.pa n2 q.pc) := (KX.out.cell 14).trans (by rw [HC1.out, List.getElem?_set, if_neg (by omega)]; exact HG14.out)
      have hltx : px < U3.heap.size := KX.out.lt
      have hnex : px ≠ U3.heap.size := Nat.ne_of_lt hltx
      go_wp2_with (at_builtin; refine hold ?_; intro qG hG)
      refine hG.1 ?_; clear hG qG
      have hwA : Frm w.heap.size [] w (U3.alloc (Obj.cells #[] 71)) := (HB.out.live.frm.call HF1.out HB.out.live.frm.size (by simp)).alloc (Nat.le_trans HB.out.live.frm.size HF1.out.size) _
      have hrwA := HRW2.out _ hwA
      refine wpList_append_rw rfl (.tmp 151) (.tmp 154) 22 rfl 71 i71 _ 2 16 Try.underlying22 HI71.out HZ0.out HZ1.out HZ2.out rfl _ 0 [] _ rfl (sl_buildEmpty U3 71 2) q.pa q.pb q.po n2 q.pc ((List.range n2).flatMap fl2) rfl hrwA.ad (flat_len HLE2.out n2) (hrwA.cells HLE2.out (by decide)) HON2.out (by have := H30x.out; unfold maxLen; omega) (by have := H30x.out; omega) ?_
      intro v1 U4 o2 hs hfA hoA
      rw [List.nil_append, Nat.zero_add] at hs
      have hfr : Frm U3.heap.size [] U3 U4 := ((Frm.refl U3.heap.size [] U3).alloc (Nat.le_refl _) _).call hfA (by simp) (fun x hx hm => by simp at hm; omega)
      have hge : ∀ g, o2 = some g → U3.heap.size ≤ g := fun g hg => by
        rcases hoA with h | ⟨x, h, hx⟩
        · rw [hg] at h; cases h; exact Nat.le_refl _
        · rw [hg] at h; cases h; simp at hx; omega
      obtain ⟨a2, e2, rfl⟩ := hs.form
      have kx := hfr.blk KX.out KX.out.lt (by simp)
      have hf1 := HF1.out.call hfr HF1.out.size (by simp)
      have hpg : ∀ g, o2 = some g → px ≠ g := fun g hg e => by have := hge g hg; rw [← e] at this; have := KX.out.lt; omega
      have hog : ∀ g, o2 = some g → V0.heap.size ≤ g := fun g hg => Nat.le_trans HF1.out.size (hge g hg)
      have c14' : U4.cell? ⟨px, 14, none⟩ = some (.slice q.pa n2 q.pc) := (hfr.cell (cell_lt c14) (by simp)).trans c14
      have gg := kx.free 14
      have hs1 := HS1.out.frm hfr HS1.out.lt (by simp)
      have hx12 : ∀ g, o2 = some g → g ∉ o1.toList := fun g hg hm => by have := hge g hg; have := HS1.out.lt g (by simpa using hm); omega
      have hx1 : px ∉ o1.toList := fun hm => HPG1.out px (by simpa using hm) rfl
      clear HS1
      have HS1 := Lib.hid hs1
      have HX12 := Lib.hid hx12
      have HX1 := Lib.hid hx1
      clear hx1 hx12 hs1
      clear hwA hrwA hfA hoA hfr hge KX HF1 c14 hltx hnex
      have HSN := Lib.hid hs
      have KX := Lib.hid kx
      have HF1 := Lib.hid hf1
      have HPG := Lib.hid hpg
      have HO2 := Lib.hid hog
      clear hog hpg hf1 kx hs
      go_upto_region 29 with fail
      clear c14' gg
      have kx := KX.out.set 14 (.slice a2 n2 e2)
      have hs := Sl.setCell HSN.out ⟨px, 14, none⟩ (.slice a2 n2 e2) (fun g hg e => HPG.out g hg e)
      have hf1 := HF1.out.setCell (p := ⟨px, 14, none⟩) (.inr HPXL.out) (.slice a2 n2 e2)
      have hs1 := Sl.setCell HS1.out ⟨px, 14, none⟩ (.slice a2 n2 e2) (fun g hg e => HPG1.out g hg e)
      generalize World.setCell U4 _ _ = U5 at kx hs hf1 hs1 ⊢
      obtain ⟨C2, hK⟩ : ∃ c, c = C1.set 14 (.slice a2 n2 e2) := ⟨_, rfl⟩
      rw [← hK] at kx
      clear KX HSN HF1 HS1 HPG1
      have KX := Lib.hid kx
      have HS2 := Lib.hid hs
      have HF1 := Lib.hid hf1
      have HC2 := Lib.hid hK
      have HS1 := Lib.hid hs1
      clear hs1 hK hf1 hs kx
      have hbo := HB.out.still HF1.out
      have kp := HF1.out.blk KP.out KP.out.lt (by simp)
      have hc2e : C2 = (C.set 7 (.slice a1 n1 e1)).set 14 (.slice a2 n2 e2) := by rw [HC2.out, HC1.out]
      have hl2 : C2.length = 16 := by rw [hc2e, List.length_set, List.length_set]; exact HCL.out
      have hg7 : C2[7]? = some (.slice a1 n1 e1) := by rw [hc2e, List.getElem?_set, if_neg (by omega), List.getElem?_set, if_pos rfl, if_pos (by rw [HCL.out]; omega)]
      have hg14 : C2[14]? = some (.slice a2 n2 e2) := by rw [hc2e, List.getElem?_set, if_pos rfl, if_pos (by rw [List.length_set, HCL.out]; omega)]
      have hld : (loadVar 41 ⟨px, 0, none⟩).run Try.prog U5 = .ok (.agg C2.toArray) U5 := loadVarB KX.out (P := Try.prog) Try.underlying41 rfl (by rw [hl2]; exact info41)
      have hcd : Calls Try.prog 15 #[.pointer (some ⟨k, 0, none⟩), .agg C2.toArray] U5 fun e V' => (∃ v, e = .returned v) ∧ ∃ m', Live w V' k s' m' ∧ Turn k U5 V' s s' m m' := by
        obtain ⟨ad1, b1, q1, f1, ee1, hw1, hb1⟩ := Sl.rwo HS1.out HLE1.out
        obtain ⟨ad2, b2, q2, f2, ee2, hw2, hb2⟩ := Sl.rwo HS2.out HLE2.out
        cases ee1
        cases ee2
        rw [hc2e]
        refine HDO.out U5 _ b1 q1 _ _ b2 q2 _ hbo.live hw1 hw2 (fun h0 hm => ?_)
        have h1 := HO1.out b1 (hb1 h0)
        have h2 := HB.out.live.at_.own_lt b1 hm
        omega
      clear hc2e hl2 HC1 HC2 HDO HLE1 HLE2 HON1 HON2 HG7 HG14 HRW1 HRW2 HCONE HCL
      have HB2 := Lib.hid hbo
      have KP2 := Lib.hid kp
      have HG7 := Lib.hid hg7
      have HG14 := Lib.hid hg14
      have HLD := Lib.hid hld
      have HCD := Lib.hid hcd
      clear hcd hld hg14 hg7 kp hbo
      go_wp2_with (with_reducible refine atLoad 41 rfl ?_; refine wpList_loadE rfl rfl rfl HLD.out ?_)
      refine HCD.out.mono ?_; rintro e U6 ⟨⟨v, rfl⟩, m', hlv, ht⟩
      obtain ⟨hra, hap2⟩ := HB2.out.turn hlv ht
      obtain ⟨kp, hpo⟩ := ht.blk KP2.out HPO.out
      have hown : ∀ g, V0.heap.size ≤ g → g < U5.heap.size → g ∉ m'.own k s' := fun g h1 h2 hm => (ht.own g hm).elim (fun h => by have := HB.out.live.at_.own_lt g h; omega) (fun h => by omega)
      have hownm : ∀ g, V0.heap.size ≤ g → g ∉ m.own k s := fun g h1 hm => by have := HB.out.live.at_.own_lt g hm; omega
      have kx := (ht.blk KX.out (hownm _ HPXL.out)).1
      have hs1 := HS1.out.frm ht.frm HS1.out.lt (fun g hg => hownm g (HO1.out g hg))
      have hs2 := HS2.out.frm ht.frm HS2.out.lt (fun g hg => hownm g (HO2.out g hg))
      have ho1 : ∀ g ∈ o1.toList, V0.heap.size ≤ g ∧ g < U5.heap.size := fun g hg => by
        have hg' : o1 = some g := by simpa using hg
        exact ⟨HO1.out g hg', HS1.out.lt g hg'⟩
      have ho2 : ∀ g ∈ o2.toList, V0.heap.size ≤ g ∧ g < U5.heap.size := fun g hg => by
        have hg' : o2 = some g := by simpa using hg
        exact ⟨HO2.out g hg', HS2.out.lt g hg'⟩
      have hpl := KP.out.lt
      have hw0 := HB.out.live.frm.size
      have hap0 : ∀ S : List Nat, (∀ g ∈ S, V0.heap.size ≤ g) → Apart s mr S := fun S hS => HB.out.ref.new hS
      have c7 : U6.cell? ⟨px, 7, none⟩ = some (.slice a1 n1 e1) := (kx.cell 7).trans HG7.out
      clear ht hownm HB HB2 KP KP2 HPO HS1 HS2 HO1 HO2 KX HLD HCD HF1
      have HLV := Lib.hid hlv
      have HRA := Lib.hid hra
      have HAP2 := Lib.hid hap2
      have KP := Lib.hid kp
      have HPO := Lib.hid hpo
      have HOWN := Lib.hid hown
      have KX := Lib.hid kx
      have HS1 := Lib.hid hs1
      have HS2 := Lib.hid hs2
      have HO1 := Lib.hid ho1
      have HO2 := Lib.hid ho2
      have HPL0 := Lib.hid hpl
      have HW0 := Lib.hid hw0
      have HAP0 := Lib.hid hap0
      clear hap0 hw0 hpl ho2 ho1 hs2 hs1 kx hown hpo kp hap2 hra hlv
      go_wp2_with fail
      refine (spoil_any _ _ _ _ _ U6 HS1.out).mono ?_; rintro e U7 ⟨⟨v, rfl⟩, hfs⟩
      have hlv := HLV.out.frm2 hfs (fun g hg hm => HOWN.out g (HO1.out g hm).1 (HO1.out g hm).2 hg) (fun g hm => Nat.le_trans HW0.out (HO1.out g hm).1)
      have hra := HRA.out.frm hfs (HAP0.out _ (fun g hm => (HO1.out g hm).1))
      have kp := hfs.blk KP.out KP.out.lt (fun hm => by have := (HO1.out _ hm).1; have := HPL0.out; omega)
      have kx := hfs.blk KX.out KX.out.lt (HX1.out)
      have hs2 := HS2.out.frm hfs HS2.out.lt (fun g hg => HX12.out g hg)
      have c14 : U7.cell? ⟨px, 14, none⟩ = some (.slice a2 n2 e2) := (kx.cell 14).trans HG14.out
      clear hfs HLV HRA KP KX HS1 HS2 c7 HX1 HX12
      have HLV := Lib.hid hlv
      have HRA := Lib.hid hra
      have KP := Lib.hid kp
      have KX := Lib.hid kx
      have HS2 := Lib.hid hs2
      clear hs2 kx kp hra hlv
      go_wp2_with fail
      refine (spoil_any _ _ _ _ _ U7 HS2.out).mono ?_; rintro e U8 ⟨⟨v, rfl⟩, hfs⟩
      have hlv := HLV.out.frm2 hfs (fun g hg hm => HOWN.out g (HO2.out g hm).1 (HO2.out g hm).2 hg) (fun g hm => Nat.le_trans HW0.out (HO2.out g hm).1)
      have hra := HRA.out.frm hfs (HAP0.out _ (fun g hm => (HO2.out g hm).1))
      have kp := hfs.blk KP.out KP.out.lt (fun hm => by have := (HO2.out _ hm).1; have := HPL0.out; omega)
      clear hfs HLV HRA KP KX HS2 c14 HOWN HO1 HO2 HAP0 HPL0 HG7 HG14 HPXL
      have hl55 : ∀ U, Frm U8.heap.size [] U8 U → (loadVar 55 ⟨p, 0, none⟩).run Try.prog U = .ok (.agg B.toArray) U := fun U hU => load55 (hU.blk kp kp.lt (by simp)) HB6.out
      have hl41 : ∀ U, Frm U8.heap.size [] U8 U → (loadVar 41 ⟨b, off + i * 16, none⟩).run Try.prog U = .ok (.agg C.toArray) U := fun U hU => HL41.out U (hlv.frm.call hU hlv.frm.size (by simp))
      have hdu : ∀ U, Frm U8.heap.size [] U8 U → Calls Try.prog 22 #[.agg B.toArray, .agg C.toArray] U fun e w' => ∃ m2, e = .returned (.tuple #[.agg (refC s' m2).toArray, .int .i64 d1, .int .i64 d2, .int .i64 d3]) ∧ RNext U w' s s' mr m2 X := fun U hU => HDU.out U (hlv.frm.call hU hlv.frm.size (by simp)) (hra.still hU)
      have hfx : ∀ U, Frm U8.heap.size [] U8 U → True ∧ True := fun _ _ => ⟨trivial, trivial⟩
      clear HL41 HDU
      have HLV := Lib.hid hlv
      have HRA := Lib.hid hra
      have KP := Lib.hid kp
      have HL55 := Lib.hid hl55
      have HL41 := Lib.hid hl41
      have HDU := Lib.hid hdu
      have HFX := Lib.hid hfx
      clear hfx hdu hl41 hl55 kp hra hlv
      go_upto_region 32 with fail
      go_cut [26, 27, 28, 29] from 169 to 179 (fun s14 s15 s16 s17 w' => ∃ (pn : Nat) (m2 : RMem), s14 = .pointer (some ⟨pn, 0, none⟩) ∧ s15 = .int .i64 d1 ∧ s16 = .int .i64 d2 ∧ s17 = .int .i64 d3 ∧ Blk w' pn 55 (refC s' m2) ∧ RNext U8 w' s s' mr m2 X)
      case first =>
        refine wp_region_leftL (fun V => Frm U8.heap.size [] U8 V) 1000 (by kernel_rfl) ?_
        have hS : Frm U8.heap.size [] U8 U8.drew := (Frm.refl _ _ U8).drew
        have HS := Lib.hid hS
        clear hS
        have hS := HS.out
        obtain ⟨VD, hVD⟩ : ∃ U, U = U8.drew := ⟨_, rfl⟩
        rw [← hVD] at hS ⊢
        clear hVD HS
        have HS0 := Lib.hid hS
        have HS := Lib.hid hS
        clear hS
        refine LeftL.take 0 rfl (by kernel_rfl) (fun _ _ d _ _ h => by cases d <;> exact h) (yields_loadE (ty := 55) rfl rfl rfl (HL55.out)) HS.out ?_; (intro K' hK'; go_simp; refine hK' _ ?_; clear hK' K')
        first | (refine LeftL.tkG (v := ?_) 1 rfl HS.out ?_ ?_; rotate_left; · intro V hV; obtain ⟨z1, z2⟩ := HFX.out V hV; clear hV; go_simp; rfl) | refine LeftL.tkN 1 rfl HS.out ?_
        (intro K h; go_simp; refine h _ ?_; clear h K)
        first | (refine LeftL.tkG (v := ?_) 2 rfl HS.out ?_ ?_; rotate_left; · intro V hV; obtain ⟨z1, z2⟩ := HFX.out V hV; clear hV; go_simp; rfl) | refine LeftL.tkN 2 rfl HS.out ?_
        (intro K h; go_simp; refine h _ ?_; clear h K)
        first | (refine LeftL.tkG (v := ?_) 3 rfl HS.out ?_ ?_; rotate_left; · intro V hV; obtain ⟨z1, z2⟩ := HFX.out V hV; clear hV; go_simp; rfl) | refine LeftL.tkN 3 rfl HS.out ?_
        (intro K h; go_simp; refine h _ ?_; clear h K)
        refine LeftL.take 4 rfl (by kernel_rfl) (fun _ _ d _ _ h => by cases d <;> exact h) (yields_loadE (ty := 41) rfl rfl rfl (HL41.out)) HS.out ?_; (intro K' hK'; go_simp; refine hK' _ ?_; clear hK' K')
        refine LeftL.two 5 11 rfl rfl (by kernel_rfl) ?_ ?_
        · go_wp2_with fail
          refine (HDU.out _ HS.out).mono ?_; rintro e U ⟨m2, rfl, hn⟩
          obtain ⟨C', hC'⟩ : ∃ c, c = refC s' m2 := ⟨_, rfl⟩
          have hc6 : C'.length = 6 := by rw [hC']; rfl
          have hc1 : ∀ u ∈ C', u.oneCell' = true := by rw [hC']; exact refC_one _ _
          rw [← hC']
          have HC := Lib.hid hC'
          have HC6 := Lib.hid hc6
          have HC1 := Lib.hid hc1
          clear hc1 hc6 hC'
          go_wp2_with fail
          have hS := HS.out.call hn.frm HS.out.size (by simp)
          first | refine ⟨fun _ => hS, ?_⟩ | refine ⟨hS, ?_⟩
          clear HS
          have hn := hn.first HS0.out
          have HS := Lib.hid hS
          have HN := Lib.hid hn
          clear hn hS
          first | (refine LeftL.tkG (v := ?_) 6 rfl HS.out ?_ ?_; rotate_left; · intro V hV; obtain ⟨z1, z2⟩ := HFX.out V hV; clear hV; go_simp; rfl) | refine LeftL.tkN 6 rfl HS.out ?_
          (intro K h; go_simp; refine h _ ?_; clear h K)
          first | (refine LeftL.tkG (v := ?_) 7 rfl HS.out ?_ ?_; rotate_left; · intro V hV; obtain ⟨z1, z2⟩ := HFX.out V hV; clear hV; go_simp; rfl) | refine LeftL.tkN 7 rfl HS.out ?_
          (intro K h; go_simp; refine h _ ?_; clear h K)
          first | (refine LeftL.tkG (v := ?_) 8 rfl HS.out ?_ ?_; rotate_left; · intro V hV; obtain ⟨z1, z2⟩ := HFX.out V hV; clear hV; go_simp; rfl) | refine LeftL.tkN 8 rfl HS.out ?_
          (intro K h; go_simp; refine h _ ?_; clear h K)
          first | (refine LeftL.tkG (v := ?_) 9 rfl HS.out ?_ ?_; rotate_left; · intro V hV; obtain ⟨z1, z2⟩ := HFX.out V hV; clear hV; go_simp; rfl) | refine LeftL.tkN 9 rfl HS.out ?_
          (intro K h; go_simp; refine h _ ?_; clear h K)
          first | (refine LeftL.tkG (v := ?_) 10 rfl HS.out ?_ ?_; rotate_left; · intro V hV; obtain ⟨z1, z2⟩ := HFX.out V hV; clear hV; go_simp; rfl) | refine LeftL.tkN 10 rfl HS.out ?_
          (intro K h; go_simp; refine h _ ?_; clear h K)
          refine LeftL.one 11 rfl (by kernel_rfl) ?_
          go_wp2_with fail
          generalize hUB : World.alloc U _ = UB
          have hfE : Frm U.heap.size [] U UB := by rw [← hUB]; exact (Frm.refl _ _ _).alloc (Nat.le_refl _) _
          have kz : Blk UB U.heap.size 55 zero55 := by rw [← hUB]; exact Blk.new U 55 zero55
          have hS := HS.out.call hfE HS.out.size (by simp)
          obtain ⟨pn, hpn⟩ : ∃ p, p = U.heap.size := ⟨_, rfl⟩
          rw [← hpn] at kz ⊢
          have hpn2 : U8.heap.size ≤ pn := by rw [hpn]; exact HS.out.size
          have hpe : U.heap.size ≤ pn := by rw [hpn]; exact Nat.le_refl _
          first | refine ⟨fun _ => hS, ?_⟩ | refine ⟨hS, ?_⟩
          clear HS hUB hpn
          have HS := Lib.hid hS
          have KZ := Lib.hid kz
          have HPN := Lib.hid hpn2
          have HPE := Lib.hid hpe
          have HFE := Lib.hid hfE
          clear hfE hpe hpn2 kz hS
          refine LeftL.one 12 rfl (by kernel_rfl) ?_
          refine wpList_storeB (P := Try.prog) (cs := C') rfl rfl KZ.out rfl rfl (by rw [HC6.out]; rfl) (by rw [HC6.out]; exact info55) HC1.out ?_
          have kz := KZ.out.row C'
          have hS := HS.out.setRow (g := pn) (.inr HPN.out) C'.toArray
          have hn := HN.out.later (HFE.out.setRow (g := pn) (.inr HPE.out) C'.toArray)
          generalize World.setRow _ pn _ = UC at kz hS hn ⊢
          refine wpList_nil ?_
          dsimp only [Act.put]
          first | refine ⟨fun _ => hS, ?_⟩ | refine ⟨hS, ?_⟩
          clear KZ HS HN
          have KZ := Lib.hid kz
          have HS := Lib.hid hS
          have HN := Lib.hid hn
          clear hn hS kz
          refine LeftL.one 13 rfl (by kernel_rfl) ?_
          go_wp2_with fail
          first | refine ⟨fun _ => HS.out, ?_⟩ | refine ⟨HS.out, ?_⟩
          refine LeftL.one 14 rfl (by kernel_rfl) ?_
          go_wp2_with fail
          first | refine ⟨fun _ => HS.out, ?_⟩ | refine ⟨HS.out, ?_⟩
          refine LeftL.one 15 rfl (by kernel_rfl) ?_
          go_wp2_with fail
          first | refine ⟨fun _ => HS.out, ?_⟩ | refine ⟨HS.out, ?_⟩
          refine LeftL.done (by kernel_rfl) ?_
          go_wp2_with fail
          go_meet
          case rel => exact ⟨pn, m2, rfl, rfl, rfl, rfl, by rw [← HC.out]; exact KZ.out, HN.out⟩
        · go_wp2_with fail
          generalize hUB : World.alloc VD _ = UB
          have hfE : Frm VD.heap.size [] VD UB := by rw [← hUB]; exact (Frm.refl _ _ _).alloc (Nat.le_refl _) _
          have kz : Blk UB VD.heap.size 55 zero55 := by rw [← hUB]; exact Blk.new VD 55 zero55
          have hS := HS.out.call hfE HS.out.size (by simp)
          obtain ⟨pn, hpn⟩ : ∃ p, p = VD.heap.size := ⟨_, rfl⟩
          rw [← hpn] at kz ⊢
          have hpn2 : U8.heap.size ≤ pn := by rw [hpn]; exact HS.out.size
          have hpe : VD.heap.size ≤ pn := by rw [hpn]; exact Nat.le_refl _
          first | refine ⟨fun _ => hS, ?_⟩ | refine ⟨hS, ?_⟩
          clear HS hUB hpn
          have HS := Lib.hid hS
          have KZ := Lib.hid kz
          have HPN := Lib.hid hpn2
          have HPE := Lib.hid hpe
          have HFE := Lib.hid hfE
          clear hfE hpe hpn2 kz hS
          refine LeftL.one 5 rfl (by kernel_rfl) ?_
          go_wp2_with fail
          refine (HDU.out _ HS.out).mono ?_; rintro e U ⟨m2, rfl, hn⟩
          obtain ⟨C', hC'⟩ : ∃ c, c = refC s' m2 := ⟨_, rfl⟩
          have hc6 : C'.length = 6 := by rw [hC']; rfl
          have hc1 : ∀ u ∈ C', u.oneCell' = true := by rw [hC']; exact refC_one _ _
          rw [← hC']
          have HC := Lib.hid hC'
          have HC6 := Lib.hid hc6
          have HC1 := Lib.hid hc1
          clear hc1 hc6 hC'
          go_wp2_with fail
          have hS := HS.out.call hn.frm HS.out.size (by simp)
          first | refine ⟨fun _ => hS, ?_⟩ | refine ⟨hS, ?_⟩
          have HV0 := HS
          clear HS
          have kz := hn.frm.blk KZ.out KZ.out.lt (by simp)
          have hpl := KZ.out.lt
          clear KZ
          have HS := Lib.hid hS
          have HN := Lib.hid hn
          have KZ := Lib.hid kz
          have HPL := Lib.hid hpl
          clear hpl kz hn hS
          first | (refine LeftL.tkG (v := ?_) 6 rfl HS.out ?_ ?_; rotate_left; · intro V hV; obtain ⟨z1, z2⟩ := HFX.out V hV; clear hV; go_simp; rfl) | refine LeftL.tkN 6 rfl HS.out ?_
          (intro K h; go_simp; refine h _ ?_; clear h K)
          first | (refine LeftL.tkG (v := ?_) 7 rfl HS.out ?_ ?_; rotate_left; · intro V hV; obtain ⟨z1, z2⟩ := HFX.out V hV; clear hV; go_simp; rfl) | refine LeftL.tkN 7 rfl HS.out ?_
          (intro K h; go_simp; refine h _ ?_; clear h K)
          first | (refine LeftL.tkG (v := ?_) 8 rfl HS.out ?_ ?_; rotate_left; · intro V hV; obtain ⟨z1, z2⟩ := HFX.out V hV; clear hV; go_simp; rfl) | refine LeftL.tkN 8 rfl HS.out ?_
          (intro K h; go_simp; refine h _ ?_; clear h K)
          first | (refine LeftL.tkG (v := ?_) 9 rfl HS.out ?_ ?_; rotate_left; · intro V hV; obtain ⟨z1, z2⟩ := HFX.out V hV; clear hV; go_simp; rfl) | refine LeftL.tkN 9 rfl HS.out ?_
          (intro K h; go_simp; refine h _ ?_; clear h K)
          first | (refine LeftL.tkG (v := ?_) 10 rfl HS.out ?_ ?_; rotate_left; · intro V hV; obtain ⟨z1, z2⟩ := HFX.out V hV; clear hV; go_simp; rfl) | refine LeftL.tkN 10 rfl HS.out ?_
          (intro K h; go_simp; refine h _ ?_; clear h K)
          refine LeftL.one 12 rfl (by kernel_rfl) ?_
          refine wpList_storeB (P := Try.prog) (cs := C') rfl rfl KZ.out rfl rfl (by rw [HC6.out]; rfl) (by rw [HC6.out]; exact info55) HC1.out ?_
          have kz := KZ.out.row C'
          have hS := HS.out.setRow (g := pn) (.inr HPN.out) C'.toArray
          have hf2 := (Frm.refl U.heap.size [pn] U).setRow (g := pn) (.inl (by simp)) C'.toArray
          have hn := RNext.fresh HRA.out HV0.out HN.out HPN.out HPL.out (HFAR.out [pn] (by have := HLV.out.frm.size; have := HPN.out; simp; omega)) hf2
          generalize World.setRow _ pn _ = UC at kz hS hn ⊢
          refine wpList_nil ?_
          dsimp only [Act.put]
          first | refine ⟨fun _ => hS, ?_⟩ | refine ⟨hS, ?_⟩
          clear KZ HS HN
          have KZ := Lib.hid kz
          have HS := Lib.hid hS
          have HN := Lib.hid hn
          clear hn hS kz
          refine LeftL.one 13 rfl (by kernel_rfl) ?_
          go_wp2_with fail
          first | refine ⟨fun _ => HS.out, ?_⟩ | refine ⟨HS.out, ?_⟩
          refine LeftL.one 14 rfl (by kernel_rfl) ?_
          go_wp2_with fail
          first | refine ⟨fun _ => HS.out, ?_⟩ | refine ⟨HS.out, ?_⟩
          refine LeftL.one 15 rfl (by kernel_rfl) ?_
          go_wp2_with fail
          first | refine ⟨fun _ => HS.out, ?_⟩ | refine ⟨HS.out, ?_⟩
          refine LeftL.done (by kernel_rfl) ?_
          go_wp2_with fail
          go_meet
          case rel => exact ⟨pn, m2, rfl, rfl, rfl, rfl, by rw [← HC.out]; exact KZ.out, HN.out⟩
      obtain ⟨pn, m2, rfl, rfl, rfl, rfl, kn, hn⟩ := hcut
      obtain ⟨VN, hVN⟩ : ∃ U, U = wc := ⟨_, rfl⟩
      rw [← hVN] at kn hn ⊢
      have kp := hn.frm.blk KP.out KP.out.lt (by simp)
      have hbo := Both.next HLV.out HAP2.out hn (HFAR.out _ HLV.out.own)
      have hap := hn.ap [p] (by have := KP.out.lt; simpa using this) (HFAR.out [p] (by have := HPW.out; simpa using this)) HAP.out
      obtain ⟨C2, hC2⟩ : ∃ c, c = refC s' m2 := ⟨_, rfl⟩
      obtain ⟨n', hn'⟩ : ∃ c, c = s'.reps.length := ⟨_, rfl⟩
      have hnm : n' ≤ 500 := by rw [hn']; exact hbo.ref.inv.max.1
      have hc6 : C2.length = 6 := by rw [hC2]; rfl
      have hc1 : ∀ u ∈ C2, u.oneCell' = true := by rw [hC2]; exact refC_one _ _
      have hg2 : C2[2]? = some (.slice m2.ra n' m2.rc) := by rw [hC2, hn']; rfl
      rw [← hC2] at kn
      clear hVN hn hn' KP HAP HAP2 HLV HRA HFX HL55 HL41 HDU HFAR
      have KP := Lib.hid kp
      have KN := Lib.hid kn
      have HB := Lib.hid hbo
      have HAP := Lib.hid hap
      have HC := Lib.hid hC2
      have HC6 := Lib.hid hc6
      have HC1 := Lib.hid hc1
      have HG2 := Lib.hid hg2
      have HNM := Lib.hid hnm
      clear hnm hg2 hc1 hc6 hC2 hap hbo kn kp
      go_wp2_with (first | (with_reducible refine atLoad 55 rfl ?_; refine wpList_loadE rfl rfl rfl (load55 KN.out HC6.out) ?_) | (with_reducible refine atStore 55 rfl ?_; refine stop_ ?_))
      refine go_on ?_
      refine wpList_storeB (P := Try.prog) (cs := C2) rfl rfl KP.out rfl rfl (by rw [HB6.out, HC6.out]) (by rw [HC6.out]; exact info55) HC1.out ?_
      have kp := KP.out.row C2
      have hpo := HPO.out
      have hbo := HB.out.frm ((Frm.refl VN.heap.size [p] VN).setRow (g := p) (.inl (by simp)) C2.toArray) (fun x hx hm => by simp at hm; subst hm; exact hpo hx) (by have := HPW.out; simpa using this) HAP.out
      generalize World.setRow VN _ _ = VO at kp hbo ⊢
      have c2 : VO.cell? ⟨p, 2, none⟩ = some (.slice m2.ra n' m2.rc) := (kp.cell 2).trans HG2.out
      have e1 : IntKind.i64.wrap ((n' : Int) - 1) = (n' : Int) - 1 := IntWalk.i64_in _ (by have := HNM.out; omega)
      have e2 : wrap64 ((n' : Int) - 1) = (n' : Int) - 1 := IntWalk.wrap64_in _ (by have := HNM.out; omega)
      have hrep := report_far hbo.live.at_ ((n' : Int) - 1)
      clear KP KN HB hpo
      dsimp only [Act.put]
      have KP := Lib.hid kp
      have HB := Lib.hid hbo
      have HREP := Lib.hid hrep
      clear hrep hbo kp
      go_wp2_with fail
      (try simp only [e1, e2])
      refine HREP.out.mono ?_; rintro e VP ⟨⟨R, ra, rn, rc, rcs, ro, oo, oc, rfl, hR7, hRone, hR4, hsl, hrf⟩, hf1⟩
      have hol : ∀ g ∈ m'.own k s', g < VO.heap.size := HB.out.live.at_.own_lt
      have hpl := KP.out.lt
      have hws := HB.out.live.frm.size
      have haps : ∀ S : List Nat, (∀ g ∈ S, VO.heap.size ≤ g) → Apart s' m2 S := fun S hS => HB.out.ref.new hS
      have hbo := HB.out.still hf1
      have kp := hf1.blk KP.out KP.out.lt (by simp)
      have hsz1 := hf1.size
      clear e1 e2 c2 hf1 KP HB HREP HNM HG2
      have KP := Lib.hid kp
      have HB := Lib.hid hbo
      have HR7 := Lib.hid hR7
      have HRONE := Lib.hid hRone
      have HR4 := Lib.hid hR4
      have HSL := Lib.hid hsl
      have HRF := Lib.hid hrf
      have HOL := Lib.hid hol
      have HPLO := Lib.hid hpl
      have HWS := Lib.hid hws
      have HAPS := Lib.hid haps
      have HSZ1 := Lib.hid hsz1
      clear hsz1 haps hws hpl hol hrf hsl hR4 hRone hR7 hbo kp
      go_wp2_with (with_reducible refine atStore 24 rfl ?_; refine stop_ ?_)
      refine go_on ?_
      refine wpList_storeNew (P := Try.prog) (cs := R) rfl rfl rfl rfl (by rw [HR7.out]; rfl) (by rw [HR7.out]; exact info24) HRONE.out ?_
      intro VQ hf1 k6 hz; clear hz
      dsimp only [Act.put]
      obtain ⟨p6, hp6⟩ : ∃ p, p = VP.heap.size := ⟨_, rfl⟩
      rw [← hp6] at k6 ⊢
      have hbo := HB.out.still hf1
      have kp := hf1.blk KP.out KP.out.lt (by simp)
      have hsl := HSL.out.frm hf1 HSL.out.lt (by simp)
      have c4 : VQ.cell? ⟨p6, 4, none⟩ = some (.slice ra rn rc) := (k6.cell 4).trans HR4.out
      have hsz2 := Nat.le_trans HSZ1.out hf1.size
      clear hp6 k6 hf1 KP HB HSL HR7 HRONE HR4 HSZ1
      have KP := Lib.hid kp
      have HB := Lib.hid hbo
      have HSL := Lib.hid hsl
      have HSZ := Lib.hid hsz2
      clear hsz2 hsl hbo kp
      go_wp2_with fail
      refine (spoil_any _ _ _ _ _ VQ HSL.out).mono ?_; rintro e VR ⟨⟨v, rfl⟩, hfs⟩
      have hro : ∀ g ∈ ro.toList, VO.heap.size ≤ g := fun g hg => HRF.out g (by simpa using hg)
      have hbo := HB.out.frm hfs (fun g hg hm => by have := HOL.out g hg; have := hro g hm; omega) (fun g hm => Nat.le_trans HWS.out (hro g hm)) (HAPS.out _ hro)
      have kp := hfs.blk KP.out KP.out.lt (fun hm => by have := hro _ hm; have := HPLO.out; omega)
      have hsz := Nat.le_trans HSZ.out hfs.size
      clear hfs hro c4 KP HB HSL HRF HSZ
      have KP := Lib.hid kp
      have HB := Lib.hid hbo
      have HSZ := Lib.hid hsz
      clear hsz hbo kp
      go_wp2_with fail
      refine (open_call HB.out.live.at_).mono ?_; rintro e VS ⟨v, rfl, hin, hf1⟩
      obtain ⟨own, hs, hog⟩ := hin
      obtain ⟨nn, hnn⟩ : ∃ c, c = (openL s').length := ⟨_, rfl⟩
      rw [← hnn] at hs
      have hnl := hs.n_le
      obtain ⟨oa, ocp, bb, ob, rfl, hoa, hoo, hth⟩ := hs.place
      rw [Nat.mul_one] at hth
      have hBb : 0 < nn → bb ∈ own.toList := fun h => by rw [hoo h]; simp
      have hbo := HB.out.still hf1
      have kp := hf1.blk KP.out KP.out.lt (by simp)
      have hown : ∀ g ∈ own.toList, VO.heap.size ≤ g := fun g hg => Nat.le_trans HSZ.out (hog g (by simpa using hg))
      clear hf1 hs hog hnn KP HB HSZ hoo
      have KP := Lib.hid kp
      have HB := Lib.hid hbo
      have HOWN := Lib.hid hown
      have HNL := Lib.hid hnl
      have HOA := Lib.hid hoa
      have HTH := Lib.hid hth
      have HBB := Lib.hid hBb
      clear hBb hth hoa hnl hown hbo kp
      go_wp2_with fail
      go_loopw [34] (fun s34 wr => ∃ j : Nat, s34 = .int .i64 j ∧ j ≤ nn ∧ (∀ l, l < nn → ∃ v, wr.cell? ⟨bb, ob + l, none⟩ = some v) ∧ (∀ l, l < nn → wr.frozen? ⟨bb, ob + l, none⟩ = false) ∧ Frm VS.heap.size own.toList VS wr) (fun s34 _ => nn - (intOf s34).toNat)
      case atStart => exact ⟨0, rfl, Nat.zero_le _, fun l hl => Option.isSome_iff_exists.1 (HTH.out l hl).1, fun l hl => (HTH.out l hl).2, Frm.refl _ _ _⟩
      case round =>
        clear HTH
        obtain ⟨j, rfl, hj, hcs, hfz, hfr⟩ := hrel
        by_cases hjl : j < nn
        rotate_left
        · have hjl' : ¬ (j : Int) < (nn : Int) := by omega
          have hbo := HB.out.frm hfr (fun g hg hm => by have := HOL.out g hg; have := HOWN.out g hm; omega) (fun g hm => Nat.le_trans HWS.out (HOWN.out g hm)) (HAPS.out _ HOWN.out)
          have kp := hfr.blk KP.out KP.out.lt (fun hm => by have := HOWN.out _ hm; have := HPLO.out; omega)
          rw [HC.out] at kp
          clear hcs hfz hfr
          have KPE := Lib.hid kp
          have HBE := Lib.hid hbo
          clear hbo kp
          go_wp2_with fail
          exact ⟨⟨i + 1, s', m', m2, by simp [y4, y5], HIL.out, HBE.out, KPE.out, HPO.out, HAP.out⟩, HMS.out⟩
        have hjl' : (j : Int) < (nn : Int) := by omega
        obtain ⟨x4, x5⟩ := wrapUp hjl HNL.out
        have hmsj := meas_up hjl
        have hoa := HOA.out (by omega)
        subst hoa
        obtain ⟨v, c1⟩ := hcs j hjl
        have c2 := hfz j hjl
        have hc2 : ∀ l, l < nn → ∃ v, (wr.setCell ⟨bb, ob + j, none⟩ (.int .i64 (-1))).cell? ⟨bb, ob + l, none⟩ = some v := fun l hl => by
          obtain ⟨v, hv⟩ := hcs l hl
          exact cell?_setCell_some hv
        have hf2 : ∀ l, l < nn → (wr.setCell ⟨bb, ob + j, none⟩ (.int .i64 (-1))).frozen? ⟨bb, ob + l, none⟩ = false := fun l hl => (World.frozen?_setCell _ _ _ _).trans (hfz l hl)
        have hfr2 := hfr.setCell (p := ⟨bb, ob + j, none⟩) (.inl (HBB.out (by omega))) (.int .i64 (-1))
        clear hcs hfz hfr
        have HC2 := Lib.hid hc2
        have HF2 := Lib.hid hf2
        have HFR := Lib.hid hfr2
        have HJL := Lib.hid hjl
        have HMSJ := Lib.hid hmsj
        clear hmsj hjl hfr2 hf2 hc2
        go_wp2_with fail
        exact ⟨⟨j + 1, by simp [x4, x5], HJL.out, HC2.out, HF2.out, HFR.out⟩, HMSJ.out⟩
set_option maxRecDepth 100000 in
theorem incidentNone_lifted (os : Os) (started : os.Started) (H : Type) (enc : TypeId × Value → H) :
    ReturnsInHanded {} Try.checked os 8 .any (Rows.incidentNoneSpec.pre6 enc Try.prog Try.f8 Rows.incidentNoneRow.domain false) (Rows.incidentNoneSpec.post enc Try.prog Try.f8 false true false false) := by
  refine law_lift (fn := Try.f8) (s := Rows.incidentNoneSpec) (conds := Rows.incidentNoneRow.domain) started 3 (by kernel_rfl) Try.func8
      (ChangeSpec.witness6 (enc := enc) (C := Try.checked) false ⟨#[], #[.int .i64 0, .int .i64 0, .slice none 0 0], []⟩ 8 (by kernel_rfl) (by kernel_rfl) (by kernel_rfl) (by kernel_rfl))
      (by rw [Try.params8]; decide +kernel) (by rw [Try.params8]; rfl) (by kernel_rfl) rfl (fun ds h => by match ds, h with | [d1, d2, d3], _ => rfl) ?_
  intro W base args ds ps hval hA
  rw [Try.params8] at hA hval
  obtain ⟨v0, vs0, d0, ds0, p0, q0, hargs, rfl, rfl, h0, r0⟩ := trodAll_cons hA
  obtain ⟨v1, vs1, d1, ds1, p1, q1, rfl, rfl, rfl, h1, r1⟩ := trodAll_cons r0
  obtain ⟨v2, vs2, d2, ds2, p2, q2, rfl, rfl, rfl, h2, r2⟩ := trodAll_cons r1
  obtain ⟨rfl, rfl, rfl⟩ := trodAll_nil r2
  obtain rfl : args = #[v0, v1, v2] := by cases args; simp_all
  obtain ⟨wd, rfl⟩ := okWide_int Try.underlying3 (hval 0 3 v0 rfl rfl)
  obtain ⟨dr, rfl⟩ := okWide_int Try.underlying3 (hval 1 3 v1 rfl rfl)
  obtain ⟨ad, len, cap, b, off, A, rfl, hr, ha⟩ := open_acts (hval 2 31 v2 rfl rfl) h2
  exact none_walk wd dr ad len cap b off A W hr ha

theorem incidentNone_over : Rows.incidentNoneRow.holds Try.pinned (OpenSpec.ofChange Rows.incidentNoneSpec) :=
  OpenClaim.holds_of_wide 8 Try.f8 rfl rfl rfl rfl rfl rfl rfl ⟨rfl, rfl, rfl, rfl, rfl⟩ rfl rfl rfl rfl rfl (by kernel_rfl) Try.func8 (by kernel_rfl)
    (of_decide_eq_true (by kernel_rfl)) (by unfold Func.isWrapper; first | (rw [if_pos (by decide +kernel)]; kernel_rfl) | (rw [if_neg (by decide +kernel)]; exact ⟨rfl, rfl⟩))
    (fun os started H enc _ => incidentNone_lifted os started H enc)

/-- The statement. -/
theorem incidentNone_proved : Rows.IncidentNoneSaid := incidentNone_over
end Go.Proofs.Ythgmdilfmeefiaa
