/-
  With one more order: the walk.
-/
import Derived.Test.YtfmigicmfolbjaaDoorM2
namespace Go.Proofs.YtfmigicmfolbjaaDoor
set_option linter.all false
set_option linter.unusedSimpArgs false
set_option linter.unusedVariables false
open Go.ChangeShapes Go.WideShapes Go.ChangeAt Go.RowKit

theorem add_0 (b j : Nat) : (⟨b, 0, none⟩ : Addr).add j = ⟨b, j, none⟩ := by unfold Addr.add; split <;> simp_all
set_option maxRecDepth 100000 in
set_option maxHeartbeats 16000000 in
theorem more_walk (q : RPos) (R : Raw) (o : Int × Int) (w : World) (hr : RawAt w q R) (hg : Glob w) :
    Calls Tryd.prog 10 #[.agg (rawC q R).toArray, .agg (edgeC o).toArray] w fun e w' => e = .returned (.bool true) ∧ Frm w.heap.size [] w w' := by
  have hf0 := Tryd.func10
  obtain ⟨o1, o2⟩ := o
  obtain ⟨i0, hi0⟩ : ∃ i0, Tryd.prog.info? 78 = some i0 := ⟨_, rfl⟩
  have hzz : i0.zero = some (.agg #[.int .i64 0, .int .i64 0]) ∧ i0.size = 2 ∧ i0.bytes = 16 := by cases hi0; exact ⟨rfl, rfl, rfl⟩
  obtain ⟨hz0, hz1, hz2⟩ := hzz
  obtain ⟨n, hn⟩ : ∃ n, n = R.steps.length := ⟨_, rfl⟩
  obtain ⟨m, hm⟩ : ∃ n, n = R.edges.length := ⟨_, rfl⟩
  have hraw : rawC q R = [q.s.v R.starts, .slice q.sa n q.sc, .slice q.ea m q.ec] := by rw [hn, hm]; rfl
  have hone : ∀ u ∈ (List.range m).flatMap (fun i => edgeC (R.edges.getD i (0, 0))), u.oneCell' = true := by rw [hm]; exact edgesC_one R.edges
  rw [hraw]
  have HG := Lib.hid hg
  have HR := Lib.hid hr
  have HI0 := Lib.hid hi0
  have HZ0 := Lib.hid hz0
  have HZ1 := Lib.hid hz1
  have HZ2 := Lib.hid hz2
  have HN := Lib.hid hn
  have HM := Lib.hid hm
  have HRAW := Lib.hid hraw
  have HONE := Lib.hid hone
  clear hone hraw hm hn hz2 hz1 hz0 hi0 hr hg
  go_enter Tryd.func10, Tryd.ntmps10
  go_upto_region 1 with fail
  refine namedC ?_; intro W hW
  obtain ⟨c, hc⟩ : ∃ c, c = w.heap.size := ⟨_, rfl⟩
  obtain ⟨d, hd⟩ : ∃ d, d = c + 1 := ⟨_, rfl⟩
  have k0 : Blk W c 66 [q.s.v R.starts, .slice q.sa n q.sc, .slice q.ea m q.ec] := by rw [hW, hc]; refine Blk.alloc' ?_; exact Blk.new w 66 [q.s.v R.starts, .slice q.sa n q.sc, .slice q.ea m q.ec]
  have k3 : Blk W d 78 [.int .i64 o1, .int .i64 o2] := by rw [hW, hd, hc]; exact Blk.new' _ 78 [.int .i64 o1, .int .i64 o2] (by simp)
  have hf : Frm w.heap.size [] w W := by rw [hW]; repeat (first | with_reducible exact Frm.refl _ _ _ | with_reducible refine Frm.drewN ?_ | with_reducible refine Frm.drew ?_ | ((with_reducible refine Frm.setCell' ?_ ?_); · first | (left; simp; done) | (right; simp; done) | (right; simp; omega)) | ((with_reducible refine Frm.alloc' ?_ ?_); · first | exact Nat.le_refl _ | (simp; done) | (simp; omega)))
  clear hW hf0
  rw [← hc, ← hd]
  have hlo : (loadVar 66 ⟨c, 0, none⟩).run Tryd.prog W = .ok (.agg (rawC q R).toArray) W := load_raw (by rw [HRAW.out]; exact k0)
  have K0 := Lib.hid k0
  have K3 := Lib.hid k3
  have HF := Lib.hid hf
  have HC := Lib.hid hc
  have HD := Lib.hid hd
  have HLO := Lib.hid hlo
  clear hlo hd hc hf k3 k0
  go_wp2_with (with_reducible refine atLoad 66 rfl ?_; refine wpList_loadE rfl rfl rfl HLO.out ?_)
  refine (great_any q R W (HR.out.frm HF.out (Nat.le_refl _))).mono ?_; rintro e w1 ⟨hgr, hf1⟩
  obtain ⟨g, rfl, hgm⟩ := hgr
  have k0 := hf1.blk K0.out K0.out.lt (by simp)
  have k3 := hf1.blk K3.out K3.out.lt (by simp)
  have hf := HF.out.call hf1 HF.out.size (by simp)
  clear hf1 K0 K3 HF HLO
  cases g
  rotate_left
  · clear hgm
    have HF := Lib.hid hf
    clear hf
    go_wp2_with (go_at_call 18; refine (awake_any _ (HG.out.frm HF.out (Nat.le_refl _))).mono ?_; rintro e9 w9 ⟨rfl, hf9⟩; replace HF := Lib.hid (HF.out.call hf9 HF.out.size (by simp)); clear hf9)
    go_ret
    exact ⟨rfl, HF.out⟩
  obtain ⟨hn20, hm200⟩ := hgm rfl
  have hm2 : m ≤ 200 := by have := HM.out; omega
  have hlo : (loadVar 66 ⟨c, 0, none⟩).run Tryd.prog w1 = .ok (.agg (rawC q R).toArray) w1 := load_raw (by rw [HRAW.out]; exact k0)
  clear hgm hn20 hm200
  have K0 := Lib.hid k0
  have K3 := Lib.hid k3
  have HF := Lib.hid hf
  have HM2 := Lib.hid hm2
  have HLO := Lib.hid hlo
  clear hlo hm2 hf k3 k0
  go_wp2_with (with_reducible refine atLoad 66 rfl ?_; refine wpList_loadE rfl rfl rfl HLO.out ?_)
  refine (sound_any q R w1 (HR.out.frm HF.out (Nat.le_refl _)) (HG.out.frm HF.out (Nat.le_refl _))).mono ?_; rintro e w2 ⟨hso, hf1⟩
  obtain ⟨x5, x6, x7, rfl, hx7⟩ := hso.out
  have k0 := hf1.blk K0.out K0.out.lt (by simp)
  have k3 := hf1.blk K3.out K3.out.lt (by simp)
  have hf := HF.out.call hf1 HF.out.size (by simp)
  have hlo : (loadVar 66 ⟨c, 0, none⟩).run Tryd.prog w2 = .ok (.agg (rawC q R).toArray) w2 := load_raw (by rw [HRAW.out]; exact k0)
  clear hf1 hso K0 K3 HF HLO
  have K0 := Lib.hid k0
  have K3 := Lib.hid k3
  have HF := Lib.hid hf
  have HLO := Lib.hid hlo
  have HX7 := Lib.hid hx7
  clear hx7 hlo hf k3 k0
  go_wp2_with (with_reducible refine atLoad 66 rfl ?_; refine wpList_loadE rfl rfl rfl HLO.out ?_)
  refine (ends_any q R w2 (HR.out.frm HF.out (Nat.le_refl _)) (HG.out.frm HF.out (Nat.le_refl _))).mono ?_; rintro e w4 ⟨hen, hf1⟩
  obtain ⟨v8, x9, rfl, hx9, hv8⟩ := hen.out
  have k0 := hf1.blk K0.out K0.out.lt (by simp)
  have k3 := hf1.blk K3.out K3.out.lt (by simp)
  have hf := HF.out.call hf1 HF.out.size (by simp)
  have hlo : (loadVar 66 ⟨c, 0, none⟩).run Tryd.prog w4 = .ok (.agg [q.s.v R.starts, .slice q.sa n q.sc, .slice q.ea m q.ec].toArray) w4 := by
    have := load_raw (w := w4) (b := c) (q := q) (R := R) (by rw [HRAW.out]; exact k0)
    rw [HRAW.out] at this; exact this
  clear hf1 hen K0 K3 HF HLO
  have K0 := Lib.hid k0
  have K3 := Lib.hid k3
  have HF := Lib.hid hf
  have HLO := Lib.hid hlo
  have HX9 := Lib.hid hx9
  have HV8 := Lib.hid hv8
  clear hv8 hx9 hlo hf k3 k0
  go_wp2_with (first | (with_reducible refine atLoad 66 rfl ?_; refine wpList_loadE rfl rfl rfl HLO.out ?_) | (with_reducible refine atStore 66 rfl ?_; refine stop_ ?_))
  refine go_on ?_
  refine wpList_storeNew (P := Tryd.prog) (cs := [q.s.v R.starts, .slice q.sa n q.sc, .slice q.ea m q.ec]) rfl rfl rfl rfl rfl (by kernel_rfl) (by simp [LI.v, Value.oneCell']) ?_
  intro W hf4 k10 hz1
  obtain ⟨p, hp⟩ : ∃ p, p = w4.heap.size := ⟨_, rfl⟩
  have hfW := HF.out.call hf4 HF.out.size (by simp)
  have k0 := hf4.blk K0.out K0.out.lt (by simp)
  have k3 := hf4.blk K3.out K3.out.lt (by simp)
  have hp4 : w4.heap.size ≤ p := by omega
  have hpw : w.heap.size ≤ p := by have := HF.out.size; omega
  rw [← hp] at k10 ⊢
  dsimp only [Act.put]
  have hfx : ∀ V, Frm W.heap.size [] W V → V.cell? ⟨c, 2, none⟩ = some (.slice q.ea m q.ec) := fun V hV => (hV.blk k0 k0.lt (by simp)).cell 2
  have hlo3 : ∀ V, Frm W.heap.size [] W V → (loadVar 78 ⟨d, 0, none⟩).run Tryd.prog V = .ok (.agg #[.int .i64 o1, .int .i64 o2]) V := fun V hV => loadVarB (hV.blk k3 k3.lt (by simp)) (P := Tryd.prog) Tryd.underlying78 rfl (by kernel_rfl)
  have hrw : ∀ V, Frm W.heap.size [] W V → Rw V 2 q.ea q.eb q.eo m fun i => edgeC (R.edges.getD i (0, 0)) := fun V hV => by
    rw [HM.out]
    exact (HR.out.frm (hfW.call hV hfW.size (by simp)) (Nat.le_refl _)).edges
  clear K0 K3 HF HLO hz1 hp k0 k3
  have HF := Lib.hid hfW
  have HF4 := Lib.hid hf4
  have K10 := Lib.hid k10
  have HP4 := Lib.hid hp4
  have HPW := Lib.hid hpw
  have HFX := Lib.hid hfx
  have HLO3 := Lib.hid hlo3
  have HRW := Lib.hid hrw
  clear hrw hlo3 hfx hpw hp4 k10 hf4 hfW
  go_upto_region 6 with fail
  go_cut [38] from 32 to 38 (fun _ w' => MoreAt w w4 w' p R (o1, o2))
  case first =>
    refine wp_region_leftL (fun V => Frm W.heap.size [] W V) 8 (by kernel_rfl) ?_
    have hS : Frm W.heap.size [] W W.drew := (Frm.refl _ _ W).drew
    have HS := Lib.hid hS
    clear hS
    first | (refine LeftL.run (v := ?_) 1 rfl (by kernel_rfl) rfl (fun _ _ d _ _ h => by cases d <;> exact h) ?_ HS.out ?_; rotate_left; (· intro V hV; obtain q0 := HFX.out V hV; clear hV; go_simp; rfl); (intro K' hK'; go_simp; refine hK' _ ?_; clear hK' K')) | (refine LeftL.runG (v := ?_) 1 rfl (by kernel_rfl) rfl (fun _ _ d _ _ h => by cases d <;> exact h) ?_ HS.out ?_; rotate_left; (· intro V hV; obtain q0 := HFX.out V hV; clear hV; go_simp; rfl); (intro K' hK'; go_simp; refine hK' _ ?_; clear hK' K')) | (refine LeftL.take (v := undef) 1 rfl (by kernel_rfl) (fun _ _ d _ _ h => by cases d <;> exact h) (.inr ⟨rfl, rfl⟩) HS.out ?_; (intro K' hK'; go_simp; refine hK' _ ?_; clear hK' K'))
    first | (refine LeftL.run (v := ?_) 2 rfl (by kernel_rfl) rfl (fun _ _ d _ _ h => by cases d <;> exact h) ?_ HS.out ?_; rotate_left; (· intro V hV; obtain q0 := HFX.out V hV; clear hV; go_simp; rfl); (intro K' hK'; go_simp; refine hK' _ ?_; clear hK' K')) | (refine LeftL.runG (v := ?_) 2 rfl (by kernel_rfl) rfl (fun _ _ d _ _ h => by cases d <;> exact h) ?_ HS.out ?_; rotate_left; (· intro V hV; obtain q0 := HFX.out V hV; clear hV; go_simp; rfl); (intro K' hK'; go_simp; refine hK' _ ?_; clear hK' K')) | (refine LeftL.take (v := undef) 2 rfl (by kernel_rfl) (fun _ _ d _ _ h => by cases d <;> exact h) (.inr ⟨rfl, rfl⟩) HS.out ?_; (intro K' hK'; go_simp; refine hK' _ ?_; clear hK' K'))
    refine LeftL.take 4 rfl (by kernel_rfl) (fun _ _ d _ _ h => by cases d <;> exact h) (yields_loadE (ty := 78) rfl rfl rfl (HLO3.out)) HS.out ?_; (intro K' hK'; go_simp; refine hK' _ ?_; clear hK' K')
    refine LeftL.two 0 5 rfl rfl (by kernel_rfl) ?_ ?_
    · go_wp2_with fail
      refine ⟨fun _ => HS.out.alloc (Nat.le_refl _) _, ?_⟩
      refine namedLL ?_; intro U1 hU1
      have hb0 : Blk U1 W.heap.size 78 [] := by rw [hU1]; exact Blk.new' _ 78 [] rfl
      have hS2 : Frm W.heap.size [] W U1 := by rw [hU1]; exact HS.out.alloc (Nat.le_refl _) _
      have hl0 : W.heap.size ≤ W.heap.size := Nat.le_refl _
      clear hU1 HS
      have HL0 := Lib.hid hl0
      clear hl0
      have HB0 := Lib.hid hb0
      have HS := Lib.hid hS2
      clear hS2 hb0
      refine LeftL.two 3 5 rfl rfl (by kernel_rfl) ?_ ?_
      · refine wpList_append_rw rfl (.tmp 32) (.tmp 34) 64 rfl 78 i0 _ 2 16 Tryd.underlying64 HI0.out HZ0.out HZ1.out HZ2.out rfl _ 0 [] _ rfl (sl_empty HB0.out) q.ea q.eb q.eo m q.ec (fun i => edgeC (R.edges.getD i (0, 0))) rfl (HRW.out _ HS.out) (fun _ => rfl) (by omega) HONE.out (by have := HM2.out; unfold maxLen; omega) (by have := HM2.out; omega) ?_
        intro v35 U2 own35 hs35 hf35 ho35
        rw [Nat.zero_add, List.nil_append] at hs35
        have hS2 : Frm W.heap.size [] W U2 := HS.out.call hf35 HS.out.size (fun x hx hm => by simp at hm; have := HL0.out; omega)
        have ho35' : ∀ b, own35 = some b → W.heap.size ≤ b := fun b hb => by
          have hl := HL0.out
          have hz := HS.out.size
          rcases ho35 with h | ⟨g, h, hg⟩ <;> rw [h] at hb <;> cases hb
          · exact hl
          · exact Nat.le_trans hz hg
        clear HS HB0 hf35 ho35
        have HS := Lib.hid hS2
        have HS3 := Lib.hid hs35
        have HO3 := Lib.hid ho35'
        clear ho35' hs35 hS2
        go_wp2_with fail
        refine ⟨fun _ => HS.out, ?_⟩
        refine LeftL.one 5 rfl (by kernel_rfl) ?_
        go_wp2_with fail
        refine ⟨fun _ => HS.out.alloc HS.out.size _, ?_⟩
        refine namedLL ?_; intro U3 hU3
        have hb5 : Blk U3 U2.heap.size 78 [.int .i64 o1, .int .i64 o2] := by rw [hU3]; exact Blk.new' _ 78 [.int .i64 o1, .int .i64 o2] rfl
        have hS2 : Frm W.heap.size [] W U3 := by rw [hU3]; exact HS.out.alloc HS.out.size _
        have hs3 : Sl U3 78 2 v35 m ((List.range m).flatMap fun i => edgeC (R.edges.getD i (0, 0))) own35 := by rw [hU3]; exact HS3.out.alloc _
        clear hU3 HS
        clear HS3
        have HS3 := Lib.hid hs3
        clear hs3
        have HB5 := Lib.hid hb5
        have HS := Lib.hid hS2
        clear hS2 hb5
        refine LeftL.one 6 rfl (by kernel_rfl) ?_
        refine wpList_append_sl _ rfl (.tmp 35) (.tmp 37) 64 rfl 78 i0 _ 2 16 Tryd.underlying64 HI0.out HZ0.out HZ1.out HZ2.out rfl v35 m _ own35 rfl HS3.out ⟨U2.heap.size, 0, none⟩ 1 1 [.int .i64 o1, .int .i64 o2] rfl rfl (fun j u hj => by rw [add_0 _ j, HB5.out.cell j]; exact hj) (by simp [Value.oneCell']) (by have := HM2.out; unfold maxLen; omega) (by have := HM2.out; omega) ?_
        intro v38 U4 own38 hs38 hf38 ho38
        obtain ⟨ad38, cp38, rfl⟩ := hs38.form
        have hS2 : Frm W.heap.size [] W U4 := HS.out.call hf38 HS.out.size (fun x hx hm => by
          have := HO3.out x (by simpa using hm)
          omega)
        have ho38' : ∀ b, own38 = some b → W.heap.size ≤ b := fun b hb => by
          have hz := HS.out.size
          rcases ho38 with h | ⟨g, h, hg⟩
          · exact HO3.out b (by rw [← h]; exact hb)
          · rw [h] at hb; cases hb; exact Nat.le_trans hz hg
        clear HS HS3 HO3 HB5 hf38 ho38
        have g2 : U4.cell? ⟨p, 2, none⟩ = some (.slice q.ea m q.ec) := (hS2.blk K10.out K10.out.lt (by simp)).cell 2
        have g3 : U4.frozen? ⟨p, 2, none⟩ = false := (hS2.blk K10.out K10.out.lt (by simp)).free 2
        have HS := Lib.hid hS2
        have HS3 := Lib.hid hs38
        have HO3 := Lib.hid ho38'
        clear ho38' hs38 hS2
        go_wp2_with fail
        refine ⟨fun _ => HS.out, ?_⟩
        refine LeftL.run (v := ?_) 7 rfl (by kernel_rfl) rfl (fun _ _ d _ _ h => by cases d <;> exact h) ?_ HS.out ?_; rotate_left; (· intro V _; go_simp; rfl); (intro K' hK'; go_simp; refine hK' _ ?_; clear hK' K')
        refine LeftL.one 8 rfl (by kernel_rfl) ?_
        go_wp2_with fail
        refine ⟨fun h => absurd rfl h, ?_⟩
        have hmore := more_done (o := (o1, o2)) HM.out HR.out HF.out HF4.out HS.out (by rw [HRAW.out]; exact K10.out) HPW.out HP4.out HS3.out HO3.out
        have HMORE := Lib.hid hmore
        clear hmore
        refine LeftL.done (by kernel_rfl) ?_
        go_wp2_with fail
        go_meet
        case rel => exact HMORE.out
      · go_wp2_with fail
        refine ⟨fun _ => HS.out.alloc HS.out.size _, ?_⟩
        refine namedLL ?_; intro U2 hU2
        have hb5 : Blk U2 U1.heap.size 78 [.int .i64 o1, .int .i64 o2] := by rw [hU2]; exact Blk.new' _ 78 [.int .i64 o1, .int .i64 o2] rfl
        have hS2 : Frm W.heap.size [] W U2 := by rw [hU2]; exact HS.out.alloc HS.out.size _
        have hb0 : Blk U2 W.heap.size 78 [] := by rw [hU2]; exact HB0.out.alloc _
        have hne : W.heap.size ≠ U1.heap.size := by have := HB0.out.lt; omega
        clear hU2 HS
        clear HB0
        have HB0 := Lib.hid hb0
        clear hb0
        have HNE := Lib.hid hne
        clear hne
        have HB5 := Lib.hid hb5
        have HS := Lib.hid hS2
        clear hS2 hb5
        refine LeftL.one 3 rfl (by kernel_rfl) ?_
        refine wpList_append_rw rfl (.tmp 32) (.tmp 34) 64 rfl 78 i0 _ 2 16 Tryd.underlying64 HI0.out HZ0.out HZ1.out HZ2.out rfl _ 0 [] _ rfl (sl_empty HB0.out) q.ea q.eb q.eo m q.ec (fun i => edgeC (R.edges.getD i (0, 0))) rfl (HRW.out _ HS.out) (fun _ => rfl) (by omega) HONE.out (by have := HM2.out; unfold maxLen; omega) (by have := HM2.out; omega) ?_
        intro v35 U3 own35 hs35 hf35 ho35
        rw [Nat.zero_add, List.nil_append] at hs35
        have hS2 : Frm W.heap.size [] W U3 := HS.out.call hf35 HS.out.size (fun x hx hm => by simp at hm; have := HL0.out; omega)
        have ho35' : ∀ b, own35 = some b → W.heap.size ≤ b := fun b hb => by
          have hl := HL0.out
          have hz := HS.out.size
          rcases ho35 with h | ⟨g, h, hg⟩ <;> rw [h] at hb <;> cases hb
          · exact hl
          · exact Nat.le_trans hz hg
        have hb5 : Blk U3 U1.heap.size 78 [.int .i64 o1, .int .i64 o2] := hf35.blk HB5.out HB5.out.lt (by simpa using fun h => HNE.out h.symm)
        have hne5 : ∀ b, own35 = some b → b ≠ U1.heap.size := fun b hb => by
          have h5 := HB5.out.lt
          have hn := HNE.out
          rcases ho35 with h | ⟨g, h, hg⟩ <;> rw [h] at hb <;> cases hb
          · exact hn
          · omega
        clear HB5
        have HB5 := Lib.hid hb5
        have HNE5 := Lib.hid hne5
        clear hne5 hb5
        clear HS HB0 hf35 ho35
        have HS := Lib.hid hS2
        have HS3 := Lib.hid hs35
        have HO3 := Lib.hid ho35'
        clear ho35' hs35 hS2
        go_wp2_with fail
        refine ⟨fun _ => HS.out, ?_⟩
        refine LeftL.one 6 rfl (by kernel_rfl) ?_
        refine wpList_append_sl _ rfl (.tmp 35) (.tmp 37) 64 rfl 78 i0 _ 2 16 Tryd.underlying64 HI0.out HZ0.out HZ1.out HZ2.out rfl v35 m _ own35 rfl HS3.out ⟨U1.heap.size, 0, none⟩ 1 1 [.int .i64 o1, .int .i64 o2] rfl rfl (fun j u hj => by rw [add_0 _ j, HB5.out.cell j]; exact hj) (by simp [Value.oneCell']) (by have := HM2.out; unfold maxLen; omega) (by have := HM2.out; omega) ?_
        intro v38 U4 own38 hs38 hf38 ho38
        obtain ⟨ad38, cp38, rfl⟩ := hs38.form
        have hS2 : Frm W.heap.size [] W U4 := HS.out.call hf38 HS.out.size (fun x hx hm => by
          have := HO3.out x (by simpa using hm)
          omega)
        have ho38' : ∀ b, own38 = some b → W.heap.size ≤ b := fun b hb => by
          have hz := HS.out.size
          rcases ho38 with h | ⟨g, h, hg⟩
          · exact HO3.out b (by rw [← h]; exact hb)
          · rw [h] at hb; cases hb; exact Nat.le_trans hz hg
        clear HS HS3 HO3 HB5 hf38 ho38
        have g2 : U4.cell? ⟨p, 2, none⟩ = some (.slice q.ea m q.ec) := (hS2.blk K10.out K10.out.lt (by simp)).cell 2
        have g3 : U4.frozen? ⟨p, 2, none⟩ = false := (hS2.blk K10.out K10.out.lt (by simp)).free 2
        have HS := Lib.hid hS2
        have HS3 := Lib.hid hs38
        have HO3 := Lib.hid ho38'
        clear ho38' hs38 hS2
        go_wp2_with fail
        refine ⟨fun _ => HS.out, ?_⟩
        refine LeftL.run (v := ?_) 7 rfl (by kernel_rfl) rfl (fun _ _ d _ _ h => by cases d <;> exact h) ?_ HS.out ?_; rotate_left; (· intro V _; go_simp; rfl); (intro K' hK'; go_simp; refine hK' _ ?_; clear hK' K')
        refine LeftL.one 8 rfl (by kernel_rfl) ?_
        go_wp2_with fail
        refine ⟨fun h => absurd rfl h, ?_⟩
        have hmore := more_done (o := (o1, o2)) HM.out HR.out HF.out HF4.out HS.out (by rw [HRAW.out]; exact K10.out) HPW.out HP4.out HS3.out HO3.out
        have HMORE := Lib.hid hmore
        clear hmore
        refine LeftL.done (by kernel_rfl) ?_
        go_wp2_with fail
        go_meet
        case rel => exact HMORE.out
    · go_wp2_with fail
      refine ⟨fun _ => HS.out.alloc (Nat.le_refl _) _, ?_⟩
      refine namedLL ?_; intro U1 hU1
      have hb5 : Blk U1 W.heap.size 78 [.int .i64 o1, .int .i64 o2] := by rw [hU1]; exact Blk.new' _ 78 [.int .i64 o1, .int .i64 o2] rfl
      have hS2 : Frm W.heap.size [] W U1 := by rw [hU1]; exact HS.out.alloc (Nat.le_refl _) _
      clear hU1 HS
      have HB5 := Lib.hid hb5
      have HS := Lib.hid hS2
      clear hS2 hb5
      refine LeftL.one 0 rfl (by kernel_rfl) ?_
      go_wp2_with fail
      refine ⟨fun _ => HS.out.alloc HS.out.size _, ?_⟩
      refine namedLL ?_; intro U2 hU2
      have hb0 : Blk U2 U1.heap.size 78 [] := by rw [hU2]; exact Blk.new' _ 78 [] rfl
      have hS2 : Frm W.heap.size [] W U2 := by rw [hU2]; exact HS.out.alloc HS.out.size _
      have hl0 : W.heap.size ≤ U1.heap.size := HS.out.size
      have hb5 : Blk U2 W.heap.size 78 [.int .i64 o1, .int .i64 o2] := by rw [hU2]; exact HB5.out.alloc _
      have hne : U1.heap.size ≠ W.heap.size := by have := HB5.out.lt; omega
      clear hU2 HS
      clear HB5
      have HB5 := Lib.hid hb5
      clear hb5
      have HNE := Lib.hid hne
      clear hne
      have HL0 := Lib.hid hl0
      clear hl0
      have HB0 := Lib.hid hb0
      have HS := Lib.hid hS2
      clear hS2 hb0
      refine LeftL.one 3 rfl (by kernel_rfl) ?_
      refine wpList_append_rw rfl (.tmp 32) (.tmp 34) 64 rfl 78 i0 _ 2 16 Tryd.underlying64 HI0.out HZ0.out HZ1.out HZ2.out rfl _ 0 [] _ rfl (sl_empty HB0.out) q.ea q.eb q.eo m q.ec (fun i => edgeC (R.edges.getD i (0, 0))) rfl (HRW.out _ HS.out) (fun _ => rfl) (by omega) HONE.out (by have := HM2.out; unfold maxLen; omega) (by have := HM2.out; omega) ?_
      intro v35 U3 own35 hs35 hf35 ho35
      rw [Nat.zero_add, List.nil_append] at hs35
      have hS2 : Frm W.heap.size [] W U3 := HS.out.call hf35 HS.out.size (fun x hx hm => by simp at hm; have := HL0.out; omega)
      have ho35' : ∀ b, own35 = some b → W.heap.size ≤ b := fun b hb => by
        have hl := HL0.out
        have hz := HS.out.size
        rcases ho35 with h | ⟨g, h, hg⟩ <;> rw [h] at hb <;> cases hb
        · exact hl
        · exact Nat.le_trans hz hg
      have hb5 : Blk U3 W.heap.size 78 [.int .i64 o1, .int .i64 o2] := hf35.blk HB5.out HB5.out.lt (by simpa using fun h => HNE.out h.symm)
      have hne5 : ∀ b, own35 = some b → b ≠ W.heap.size := fun b hb => by
        have h5 := HB5.out.lt
        have hn := HNE.out
        rcases ho35 with h | ⟨g, h, hg⟩ <;> rw [h] at hb <;> cases hb
        · exact hn
        · omega
      clear HB5
      have HB5 := Lib.hid hb5
      have HNE5 := Lib.hid hne5
      clear hne5 hb5
      clear HS HB0 hf35 ho35
      have HS := Lib.hid hS2
      have HS3 := Lib.hid hs35
      have HO3 := Lib.hid ho35'
      clear ho35' hs35 hS2
      go_wp2_with fail
      refine ⟨fun _ => HS.out, ?_⟩
      refine LeftL.one 6 rfl (by kernel_rfl) ?_
      refine wpList_append_sl _ rfl (.tmp 35) (.tmp 37) 64 rfl 78 i0 _ 2 16 Tryd.underlying64 HI0.out HZ0.out HZ1.out HZ2.out rfl v35 m _ own35 rfl HS3.out ⟨W.heap.size, 0, none⟩ 1 1 [.int .i64 o1, .int .i64 o2] rfl rfl (fun j u hj => by rw [add_0 _ j, HB5.out.cell j]; exact hj) (by simp [Value.oneCell']) (by have := HM2.out; unfold maxLen; omega) (by have := HM2.out; omega) ?_
      intro v38 U4 own38 hs38 hf38 ho38
      obtain ⟨ad38, cp38, rfl⟩ := hs38.form
      have hS2 : Frm W.heap.size [] W U4 := HS.out.call hf38 HS.out.size (fun x hx hm => by
        have := HO3.out x (by simpa using hm)
        omega)
      have ho38' : ∀ b, own38 = some b → W.heap.size ≤ b := fun b hb => by
        have hz := HS.out.size
        rcases ho38 with h | ⟨g, h, hg⟩
        · exact HO3.out b (by rw [← h]; exact hb)
        · rw [h] at hb; cases hb; exact Nat.le_trans hz hg
      clear HS HS3 HO3 HB5 hf38 ho38
      have g2 : U4.cell? ⟨p, 2, none⟩ = some (.slice q.ea m q.ec) := (hS2.blk K10.out K10.out.lt (by simp)).cell 2
      have g3 : U4.frozen? ⟨p, 2, none⟩ = false := (hS2.blk K10.out K10.out.lt (by simp)).free 2
      have HS := Lib.hid hS2
      have HS3 := Lib.hid hs38
      have HO3 := Lib.hid ho38'
      clear ho38' hs38 hS2
      go_wp2_with fail
      refine ⟨fun _ => HS.out, ?_⟩
      refine LeftL.run (v := ?_) 7 rfl (by kernel_rfl) rfl (fun _ _ d _ _ h => by cases d <;> exact h) ?_ HS.out ?_; rotate_left; (· intro V _; go_simp; rfl); (intro K' hK'; go_simp; refine hK' _ ?_; clear hK' K')
      refine LeftL.one 8 rfl (by kernel_rfl) ?_
      go_wp2_with fail
      refine ⟨fun h => absurd rfl h, ?_⟩
      have hmore := more_done (o := (o1, o2)) HM.out HR.out HF.out HF4.out HS.out (by rw [HRAW.out]; exact K10.out) HPW.out HP4.out HS3.out HO3.out
      have HMORE := Lib.hid hmore
      clear hmore
      refine LeftL.done (by kernel_rfl) ?_
      go_wp2_with fail
      go_meet
      case rel => exact HMORE.out
  clear HFX HLO3 HRW K10 HP4 HPW HF HF4
  obtain ⟨q2, k10, hr2, hf, hf4⟩ := hcut
  obtain ⟨R2, hR2⟩ : ∃ R2, R2 = R.more (o1, o2) := ⟨_, rfl⟩
  rw [← hR2] at k10 hr2
  obtain ⟨w5, hw5⟩ : ∃ V, V = wc := ⟨_, rfl⟩
  rw [← hw5] at k10 hr2 hf hf4 ⊢
  have hlo : (loadVar 66 ⟨p, 0, none⟩).run Tryd.prog w5 = .ok (.agg (rawC q2 R2).toArray) w5 := load_raw k10
  clear hw5
  by_cases h9 : x9 = 0
  rotate_left
  · clear k10 hr2 hf4 hlo hR2
    have d9 : decide (x9 = 0) = false := by simp [h9]
    have HF := Lib.hid hf
    clear hf
    go_wp2_with (go_at_call 18; refine (awake_any _ (HG.out.frm HF.out (Nat.le_refl _))).mono ?_; rintro e9 w9 ⟨rfl, hf9⟩; replace HF := Lib.hid (HF.out.call hf9 HF.out.size (by simp)); clear hf9)
    go_ret
    exact ⟨rfl, HF.out⟩
  subst h9
  have hP := HX9.out.1 rfl
  obtain ⟨P, hP⟩ := Option.isSome_iff_exists.1 hP
  obtain ⟨own8, hs8⟩ := HV8.out P hP
  obtain ⟨l8, hl8⟩ : ∃ l, l = endsL P 16 := ⟨_, rfl⟩
  rw [← hl8] at hs8
  obtain ⟨ad8, b8, off8, cap8, rfl, hr8⟩ := ints_at0 hs8
  obtain ⟨n8, hn8⟩ : ∃ n, n = l8.length := ⟨_, rfl⟩
  rw [← hn8] at hr8 ⊢
  clear hs8
  clear HX9 HV8
  have HF := Lib.hid hf
  have HF4 := Lib.hid hf4
  have K10 := Lib.hid k10
  have HR2 := Lib.hid hr2
  have HLO := Lib.hid hlo
  have HP := Lib.hid hP
  have HL8 := Lib.hid hl8
  have HS8 := Lib.hid hr8
  have HN8 := Lib.hid hn8
  have HRE := Lib.hid hR2
  clear hR2 hn8 hr8 hl8 hP hlo hr2 k10 hf4 hf
  go_wp2_with (with_reducible refine atLoad 66 rfl ?_; refine wpList_loadGE rfl rfl rfl HLO.out ?_)
  refine (refCheck_any q2 R2 w5 HR2.out).mono ?_; rintro e w6 ⟨rfl, hf1⟩
  have k10 := hf1.blk K10.out K10.out.lt (by simp)
  have hf4 := HF4.out.call hf1 HF4.out.size (by simp)
  have hf := HF.out.call hf1 HF.out.size (by simp)
  have hr2 := HR2.out.frm hf1 (Nat.le_refl _)
  have hlo : (loadVar 66 ⟨p, 0, none⟩).run Tryd.prog w6 = .ok (.agg (rawC q2 R2).toArray) w6 := load_raw k10
  clear hf1 K10 HF4 HF HR2 HLO
  cases hb : (plannedO R2).isSome
  · clear k10 hr2 hf4 hlo
    have HF := Lib.hid hf
    have HB := Lib.hid hb
    clear hb hf
    go_wp2_with (go_at_call 18; refine (awake_any _ (HG.out.frm HF.out (Nat.le_refl _))).mono ?_; rintro e9 w9 ⟨rfl, hf9⟩; replace HF := Lib.hid (HF.out.call hf9 HF.out.size (by simp)); clear hf9)
    go_ret
    exact ⟨rfl, HF.out⟩
  obtain ⟨Q, hQ⟩ := Option.isSome_iff_exists.1 hb
  have hwi : Wider P Q := more_wider (o := (o1, o2)) HP.out (by rw [← HRE.out]; exact hQ)
  have hPK := planned_ok HP.out
  have hQK := planned_ok hQ
  have HF := Lib.hid hf
  have HF4 := Lib.hid hf4
  have K10 := Lib.hid k10
  have HR2 := Lib.hid hr2
  have HLO := Lib.hid hlo
  have HB := Lib.hid hb
  have HQ := Lib.hid hQ
  have HWI := Lib.hid hwi
  have HPK := Lib.hid hPK
  have HQK := Lib.hid hQK
  clear hQK hPK hwi hQ hb hlo hr2 k10 hf4 hf
  go_wp2_with (with_reducible refine atLoad 66 rfl ?_; refine wpList_loadE rfl rfl rfl HLO.out ?_)
  refine (sound_any q2 R2 w6 HR2.out (HG.out.frm HF.out (Nat.le_refl _))).mono ?_; rintro e w7 ⟨hso, hf1⟩
  obtain ⟨x11, x12, x13, rfl, hx13⟩ := hso.out
  have k10 := hf1.blk K10.out K10.out.lt (by simp)
  have hf4 := HF4.out.call hf1 HF4.out.size (by simp)
  have hf := HF.out.call hf1 HF.out.size (by simp)
  have hr2 := HR2.out.frm hf1 (Nat.le_refl _)
  have hlo : (loadVar 66 ⟨p, 0, none⟩).run Tryd.prog w7 = .ok (.agg (rawC q2 R2).toArray) w7 := load_raw k10
  have h13 : x7 = 0 → x13 = 0 := fun h => by
    obtain ⟨P1, h1, h2⟩ := HX7.out.1 h
    rw [HP.out] at h1
    cases h1
    exact hx13.2 ⟨Q, HQ.out, HWI.out.sound HPK.out HQK.out h2⟩
  clear hf1 hso K10 HF4 HF HR2 HLO hx13 HX7
  have HF := Lib.hid hf
  have HF4 := Lib.hid hf4
  have HR2 := Lib.hid hr2
  have HLO := Lib.hid hlo
  have K10 := Lib.hid k10
  have H13 := Lib.hid h13
  clear h13 k10 hlo hr2 hf4 hf
  go_wp2_with (with_reducible refine atLoad 66 rfl ?_; refine wpList_loadE rfl rfl rfl HLO.out ?_)
  refine (ends_any q2 R2 w7 HR2.out (HG.out.frm HF.out (Nat.le_refl _))).mono ?_; rintro e w8 ⟨hen, hf1⟩
  obtain ⟨v14, x15, rfl, hx15, hv14⟩ := hen.out
  obtain rfl : x15 = 0 := hx15.2 HB.out
  obtain ⟨own14, hs14⟩ := hv14 Q HQ.out
  obtain ⟨l14, hl14⟩ : ∃ l, l = endsL Q 16 := ⟨_, rfl⟩
  rw [← hl14] at hs14
  obtain ⟨ad14, b14, off14, cap14, rfl, hr14⟩ := ints_at0 hs14
  obtain ⟨n14, hn14⟩ : ∃ n, n = l14.length := ⟨_, rfl⟩
  rw [← hn14] at hr14 ⊢
  clear hs14
  have hf4 := HF4.out.call hf1 HF4.out.size (by simp)
  have hf := HF.out.call hf1 HF.out.size (by simp)
  have hs8 := HS8.out.frm hf4 (Nat.le_refl _)
  have hlen := hs8.len
  have hin : ∀ i, i < n8 → inF (at0 l14) n14 (at0 l8 i) = true := fun i hi => by
    have hi' : i < l8.length := by rw [← HN8.out]; exact hi
    have hm8 : l8.getD i 0 ∈ endsL P 16 := by
      rw [← HL8.out]
      simp [List.getD_eq_getElem?_getD, hi']
    have hm14 := HWI.out.endsL hm8
    rw [← hl14] at hm14
    obtain ⟨j, hj, he⟩ := List.getElem_of_mem hm14
    rw [hn14]
    refine inF_yes (i := j) hj ?_
    simp only [at0]
    congr 1
    rw [← he]
    simp [List.getD_eq_getElem?_getD, hj]
  clear hf1 hen HF4 HF HR2 HLO K10 hx15 hv14 HS8 hl14 hn14 HB HQ HWI HPK HQK HP HL8 HN8 HRE hf4
  have hz13 : x7 = 0 → x13 = 0 := H13.out
  have HF := Lib.hid hf
  have HS8 := Lib.hid hs8
  have HS14 := Lib.hid hr14
  have HIN := Lib.hid hin
  have HLEN := Lib.hid hlen
  clear hlen hin hr14 hs8 hf
  have hall : ∀ (hh : (x7 = 0 ∧ x13 = 0) ∨ ¬ x7 = 0), True := fun _ => trivial
  clear hall
  by_cases h7 : x7 = 0
  · have h8 := hz13 h7
    subst h7
    subst h8
    clear hz13 H13
    go_wp2_with fail
    go_loopw [16] (fun s16 wr => ∃ i : Nat, s16 = .int .i64 i ∧ i ≤ n8 ∧ Frm w8.heap.size [] w8 wr) (fun s16 _ => n8 - (intOf s16).toNat)
    case atStart => exact ⟨0, rfl, Nat.zero_le _, Frm.refl _ _ _⟩
    case round =>
      obtain ⟨i, rfl, hi, hfr⟩ := hrel
      by_cases hi8 : i < n8
      · have hin' : (i : Int) < (n8 : Int) := by omega
        obtain ⟨y4, y5⟩ := wrapUp hi8 HLEN.out
        have hms := meas_up hi8
        have had := HS8.out.ad (by omega)
        subst had
        have c8 : wr.cell? ⟨b8, off8 + i, none⟩ = some (.int .i64 (at0 l8 i)) := (HS8.out.frm hfr (Nat.le_refl _)).cellI hi8
        have hia := in_any ad14 b14 off14 n14 cap14 (at0 l14) (at0 l8 i) wr (HS14.out.frm hfr (Nat.le_refl _))
        rw [HIN.out i hi8] at hia
        obtain ⟨x, hx⟩ : ∃ x, x = at0 l8 i := ⟨_, rfl⟩
        rw [← hx] at c8 hia
        clear hx
        have HI8 := Lib.hid hi8
        have HFR := Lib.hid hfr
        have HIA := Lib.hid hia
        have HMS := Lib.hid hms
        clear hms hia hfr hi8
        go_wp2_with (go_at_call 26; refine HIA.out.mono ?_; rintro e w9 ⟨rfl, hf9⟩; replace HFR := Lib.hid (HFR.out.call hf9 HFR.out.size (by simp)); clear hf9)
        (try simp only [y4, y5])
        exact ⟨⟨i + 1, by simp, HI8.out, HFR.out⟩, HMS.out⟩
      · have hin' : ¬ (i : Int) < (n8 : Int) := by omega
        have hf := HF.out.call hfr HF.out.size (by simp)
        clear HF hfr
        have HF := Lib.hid hf
        clear hf
        go_wp2_with (go_at_call 18; refine (awake_any _ (HG.out.frm HF.out (Nat.le_refl _))).mono ?_; rintro e9 w9 ⟨rfl, hf9⟩; replace HF := Lib.hid (HF.out.call hf9 HF.out.size (by simp)); clear hf9)
        go_ret
        exact ⟨rfl, HF.out⟩
  · clear hz13 H13
    have d7 : decide (x7 = 0) = false := by simp [h7]
    go_wp2_with fail
    go_loopw [16] (fun s16 wr => ∃ i : Nat, s16 = .int .i64 i ∧ i ≤ n8 ∧ Frm w8.heap.size [] w8 wr) (fun s16 _ => n8 - (intOf s16).toNat)
    case atStart => exact ⟨0, rfl, Nat.zero_le _, Frm.refl _ _ _⟩
    case round =>
      obtain ⟨i, rfl, hi, hfr⟩ := hrel
      by_cases hi8 : i < n8
      · have hin' : (i : Int) < (n8 : Int) := by omega
        obtain ⟨y4, y5⟩ := wrapUp hi8 HLEN.out
        have hms := meas_up hi8
        have had := HS8.out.ad (by omega)
        subst had
        have c8 : wr.cell? ⟨b8, off8 + i, none⟩ = some (.int .i64 (at0 l8 i)) := (HS8.out.frm hfr (Nat.le_refl _)).cellI hi8
        have hia := in_any ad14 b14 off14 n14 cap14 (at0 l14) (at0 l8 i) wr (HS14.out.frm hfr (Nat.le_refl _))
        rw [HIN.out i hi8] at hia
        obtain ⟨x, hx⟩ : ∃ x, x = at0 l8 i := ⟨_, rfl⟩
        rw [← hx] at c8 hia
        clear hx
        have HI8 := Lib.hid hi8
        have HFR := Lib.hid hfr
        have HIA := Lib.hid hia
        have HMS := Lib.hid hms
        clear hms hia hfr hi8
        go_wp2_with (go_at_call 26; refine HIA.out.mono ?_; rintro e w9 ⟨rfl, hf9⟩; replace HFR := Lib.hid (HFR.out.call hf9 HFR.out.size (by simp)); clear hf9)
        (try simp only [y4, y5])
        exact ⟨⟨i + 1, by simp, HI8.out, HFR.out⟩, HMS.out⟩
      · have hin' : ¬ (i : Int) < (n8 : Int) := by omega
        have hf := HF.out.call hfr HF.out.size (by simp)
        clear HF hfr
        have HF := Lib.hid hf
        clear hf
        go_wp2_with (go_at_call 18; refine (awake_any _ (HG.out.frm HF.out (Nat.le_refl _))).mono ?_; rintro e9 w9 ⟨rfl, hf9⟩; replace HF := Lib.hid (HF.out.call hf9 HF.out.size (by simp)); clear hf9)
        go_ret
        exact ⟨rfl, HF.out⟩
/-! the row -/
set_option maxRecDepth 100000 in
theorem careMore_lifted (os : Os) (started : os.Started) (H : Type) (enc : TypeId × Value → H) :
    ReturnsInHanded {} Tryd.checked os 10 .any (fun w args => (Rows.careMoreSpec.pre enc Tryd.prog Tryd.f10 [] false w args ∧ laidMetH Tryd.prog laidR w) ∧ sizedMet enc Tryd.prog Tryd.f10 (OpenSpec.ofChange Rows.careMoreSpec) false w args) (Rows.careMoreSpec.post enc Tryd.prog Tryd.f10 false true false false) := by
  refine law_liftL (fn := Tryd.f10) (s := Rows.careMoreSpec) started 2 (by kernel_rfl) Tryd.func10
      (ChangeSpec.witness_shaped (enc := enc) (C := Tryd.checked) (os := os) (X := fun w _ => laidMetH Tryd.prog laidR w) false (World.doorLaid Tryd.prog 400 os)
        #[.agg #[.slice none 0 0, .slice none 0 0, .slice none 0 0], .agg #[.int .i64 0, .int .i64 0]] 8 rfl
        (World.shaped_of_RefB (by kernel_rfl) (by kernel_rfl)) (by kernel_rfl) (by kernel_rfl) (by kernel_rfl) (door_met os _))
      (by rw [Tryd.params10]; decide +kernel) (by rw [Tryd.params10]; rfl) (by kernel_rfl) rfl (fun ds h => by match ds, h with | [d1, d2], _ => rfl) ?_
  intro W base args ds ps hval hA hgl
  rw [Tryd.params10] at hA hval
  obtain ⟨v0, vs0, d0, ds0, p0, q0, hargs, rfl, rfl, h0, r0⟩ := trodAll_cons hA
  obtain ⟨v1, vs1, d1, ds1, p1, q1, rfl, rfl, rfl, h1, r1⟩ := trodAll_cons r0
  obtain ⟨rfl, rfl, rfl⟩ := trodAll_nil r1
  obtain rfl : args = #[v0, v1] := by cases args; simp_all
  obtain ⟨q, R, rfl, hr⟩ := open_plan (hval 0 66 v0 rfl rfl) h0
  obtain ⟨o, rfl⟩ := open_order (hval 1 78 v1 rfl rfl)
  exact more_walk q R o W hr hgl

theorem careMore_over : Rows.CareMoreSaid :=
  OpenClaim.holds_of_wide 10 Tryd.f10 rfl rfl rfl rfl rfl rfl rfl ⟨rfl, rfl, rfl, rfl, rfl⟩ rfl rfl rfl rfl rfl (by kernel_rfl) Tryd.func10 (by kernel_rfl)
    (of_decide_eq_true (by kernel_rfl)) (by unfold Func.isWrapper; first | (rw [if_pos (by decide +kernel)]; kernel_rfl) | (rw [if_neg (by decide +kernel)]; exact ⟨rfl, rfl⟩))
    (fun os started H enc _ => careMore_lifted os started H enc)
end Go.Proofs.YtfmigicmfolbjaaDoor
