/-
  Event 6: a word that was sent is heard.
-/
import Derived.Test.YthmladcepkdheaaHapB
namespace Go.Proofs.Ythmladcepkdheaa
open Go.RowKit

section
variable {P : Program}
theorem LeftL.runG {l : List Oper} {Q : Exit → Act → World → Prop} {S : World → Prop} {t : Nat} {done : List Nat} {a : Act} {w : World} (i : Nat) {o : Oper} {v : Value} (ho : l[i]? = some o) (hB : takeC l t done i = true) (hw : Region.wanted o (yielded l.toArray a.tmps) = true)
    (hQ : ∀ c a d v w, Q (.panic c) (a.put d v) w → Q (.panic c) a w) (hy : ∀ w, S w → (execOp a.eval o).run P w = .ok (.value v) w) (hS : S w)
    (h : ∀ K' : Act → Prop, (∀ a, LeftL P l Q S t (done ++ [i]) a w → K' a) → K' (a.put o.dst v)) : LeftL P l Q S t done a w :=
  LeftL.take i ho hB hQ (.inl ⟨hw, hy⟩) hS h
theorem run_loadB {S : World → Prop} {o : Oper} {a : Act} {ty : TypeId} {x : Operand} (ho : o.op = .load ty x)
    {b T : Nat} {cs : List Value} (hS : ∀ w, S w → Blk w b T cs) (hx : a.eval x = .pointer (some ⟨b, 0, none⟩)) {d : TypeDesc} (hu : P.underlying ty = some d) (hd : rowB d = true) (hi : (P.info? ty).map (·.size) = some cs.length) :
    ∀ w, S w → (execOp a.eval o).run P w = .ok (.value (.agg cs.toArray)) w := fun w hw => by
  unfold execOp
  simp only [ho, hx, Instr.loadAt, Instr.sureAddr, Sem.run_bind, Sem.run_pure, Result.andThen_ok, loadVarB (hS w hw) hu hd hi]
end

theorem wordsL_get {l : List (Int × Int × Int)} {j : Nat} {x : Int × Int × Int} (h : l[j]? = some x) : ∀ (i : Nat) (v : Value), (wordL x)[i]? = some v → (wordsL l)[j * 3 + i]? = some v := by
  induction l generalizing j with
  | nil => cases h
  | cons y l ih =>
    intro i v hv
    have ey : ∀ y : Int × Int × Int, (wordL y).length = 3 := fun _ => rfl
    cases j with
    | zero =>
      cases h
      show (wordL x ++ wordsL l)[0 * 3 + i]? = some v
      have := (List.getElem?_eq_some_iff.1 hv).1
      rw [Nat.zero_mul, Nat.zero_add, List.getElem?_append_left this]; exact hv
    | succ j =>
      show (wordL y ++ wordsL l)[(j + 1) * 3 + i]? = some v
      rw [List.getElem?_append_right (by simp; omega)]
      have := ih (by simpa using h) i v hv
      rw [show (j + 1) * 3 + i - (wordL y).length = j * 3 + i by simp; omega]
      exact this

set_option maxRecDepth 100000 in
set_option maxHeartbeats 8000000 in
theorem happen6a {o w : World} {Y : List (Nat × Obj)} {m : WM} {ws : WS} (h : WAt o w Y m ws) (n k : Nat) (hk : k = n % ws.ns.length) (hn : n < 256) (hpos : 1 ≤ ws.ns.length) (hlen : ws.ns.length ≤ 1000) (hs0 : ws.sent.length = 0) :
    Calls Try.prog 41 #[.agg (m.cells ws).toArray, .agg #[.int .u8 6, .int .u8 n]] w (Hap o Y m (ws, true)) := by
  obtain ⟨adS, capS, hvS⟩ := h.rowS.form
  have HVS := Lib.hid hvS
  clear hvS
  have hpl : m.ps.length = ws.ns.length := by rw [← h.ns]; simp
  obtain ⟨g, off, cap, hvN, hownN, hcl, hcm⟩ := h.rowN.pos (by omega)
  have hkl : k < ws.ns.length := by rw [hk]; exact Nat.mod_lt _ (by omega)
  obtain ⟨p, hp, hps⟩ := h.node hkl
  go_enter Try.func41, Try.ntmps41
  iterate 16 go_step
  refine named ?_; intro W hW
  have hb : Blk W w.heap.size 75 (m.cells ws) := by rw [hW]; repeat (first | exact Blk.new w 75 (m.cells ws) | refine Blk.alloc' ?_)
  have hx : Blk W (w.heap.size + 1) 80 [.int .u8 6, .int .u8 n] := by rw [hW]; repeat (first | exact Blk.new' _ 80 [.int .u8 6, .int .u8 n] (by simp) | refine Blk.alloc' ?_)
  have hz : Blk W (w.heap.size + 2) 75 zero75 := by rw [hW]; repeat (first | exact Blk.new' _ 75 zero75 (by simp) | refine Blk.alloc' ?_)
  have hf : Frm w.heap.size [] w W := by rw [hW]; repeat (first | with_reducible exact Frm.refl _ _ _ | with_reducible refine Frm.drewN ?_ | with_reducible refine Frm.drew ?_ | ((with_reducible refine Frm.setCell' ?_ ?_); · first | (left; simp; done) | (right; simp; done) | (right; simp; omega)) | ((with_reducible refine Frm.alloc' ?_ ?_); · first | exact Nat.le_refl _ | (simp; done) | (simp; omega)))
  clear hW
  have h1 : WAt o W ((w.heap.size, .cells (m.cells ws).toArray 75 (0, 0)) :: (w.heap.size + 2, .cells zero75.toArray 75 (0, 0)) :: (w.heap.size + 1, .cells [Value.int .u8 6, Value.int .u8 n].toArray 80 (0, 0)) :: Y) m ws := h.blocks hf [(w.heap.size, .cells (m.cells ws).toArray 75 (0, 0)), (w.heap.size + 2, .cells zero75.toArray 75 (0, 0)), (w.heap.size + 1, .cells [Value.int .u8 6, Value.int .u8 n].toArray 80 (0, 0))] (by
    intro x hx
    simp only [List.mem_cons, List.not_mem_nil, or_false] at hx
    rcases hx with rfl | rfl | rfl
    · exact ⟨Nat.le_refl _, hb⟩
    · exact ⟨by simp, hz⟩
    · exact ⟨by simp, hx⟩)
  have hY : ∀ z ∈ Y, z.1 ≠ w.heap.size ∧ z.1 ≠ w.heap.size + 2 := fun z hz => by have := h.sys.ltX z (by simp [hz]); omega
  have x0 : W.cell? ⟨w.heap.size + 1, 0, none⟩ = some (.int .u8 6) := hx.cell 0
  have x1 : W.cell? ⟨w.heap.size + 1, 1, none⟩ = some (.int .u8 n) := hx.cell 1
  have c1 : W.cell? ⟨w.heap.size, 1, none⟩ = some (.slice (some ⟨g, off, none⟩) m.ps.length cap) := by rw [← hvN]; exact hb.cell 1
  have z : W.cell? ⟨g, off + k, none⟩ = some (.pointer (some ⟨p.b, 0, none⟩)) := h1.ptrCell hvN hp
  rw [hpl] at c1
  have hk' : (n : Int) % (ws.ns.length : Int) = (k : Int) := by rw [hk]; omega
  have hkl' : (k : Int) < (ws.ns.length : Int) := by omega
  have HB := Lib.hid hb
  have HX := Lib.hid hx
  have HZ := Lib.hid hz
  have HF := Lib.hid hf
  have H1 := Lib.hid h1
  have HP := Lib.hid hp
  have HPS := Lib.hid hps
  have HPL := Lib.hid hpl
  have HVN := Lib.hid hvN
  have HWA := Lib.hid h
  have HK := Lib.hid hk
  have HK2 := Lib.hid hk'
  have HKL := Lib.hid hkl
  have HY := Lib.hid hY
  clear hY hkl hk' hk h hvN hpl hps hp h1 hf hz hx hb
  have hk' := HK2.out
  have c2 : W.cell? ⟨w.heap.size, 2, none⟩ = some (.slice adS 0 capS) := by rw [← hs0, ← HVS.out]; exact HB.out.cell 2
  have HS0 := Lib.hid hs0
  clear hs0
  go_wp2_with (first | (with_reducible refine atLoad 75 rfl ?_; refine wpList_loadB (P := Try.prog) (ty := 75) (b := w.heap.size) (T := 75) (cs := m.cells ws) rfl rfl HB.out rfl Try.underlying75 rfl (m.cells_info ws) ?_) | (with_reducible refine atStore 75 rfl ?_; refine hold ?_; intro qG hG))
  refine hG.1 ?_; clear hG qG
  refine wpList_storeB (P := Try.prog) (cs := m.cells ws) rfl rfl HZ.out rfl rfl rfl (m.cells_info ws) H1.out.cells_one ?_
  have h8 := H1.out.result (fun z hz => (HY.out z hz).2) (m.cells ws).toArray
  have hb8 := HZ.out.row (m.cells ws)
  generalize W.setRow (w.heap.size + 2) (m.cells ws).toArray = w8 at h8 hb8 ⊢
  have H8 := Lib.hid h8
  have HB8 := Lib.hid hb8
  clear hb8 h8
  clear x0 x1 c1 c2 z
  go_wp2_with fail
  refine bodyPost_ret (results_ct Try.results41 HB8.out rfl Try.underlying75 rfl (m.cells_info ws)) rfl ?_
  exact ⟨m, rfl, rfl, H8.out⟩

set_option maxRecDepth 100000 in
set_option maxHeartbeats 8000000 in
theorem happen6b {o w : World} {Y : List (Nat × Obj)} {m : WM} {ws : WS} {N : Nat} (h : WAt o w Y m ws) (n k : Nat) (hk : k = n % ws.ns.length) (hn : n < 256) (hpos : 1 ≤ ws.ns.length) (hlen : ws.ns.length ≤ 1000) (hs0 : 0 < ws.sent.length) (hsent : ws.sent.length ≤ 100000)
    (j : Nat) (hj : j = n % ws.sent.length) (i : Nat) (q : Int) (hx : ws.sent[j]? = some (2, (i : Int) + 1, q)) (hi : i < ws.ns.length) (hfit : ∀ (i : Nat) (s : NS), ws.ns[i]? = some s → s.Fits N) (hN : N ≤ 100000) (hok : ((ws.node i).hear 2 (i + 1) q).2 = 0) :
    Calls Try.prog 41 #[.agg (m.cells ws).toArray, .agg #[.int .u8 6, .int .u8 n]] w (Hap o Y m (ws.put i ((ws.node i).hear 2 (i + 1) q).1, true)) := by
  obtain ⟨gS, offS, capS, hvS, hownS, hcS, hcmS⟩ := h.rowS.pos hs0
  obtain ⟨x, hxx⟩ : ∃ x : Int × Int × Int, x = (2, (i : Int) + 1, q) := ⟨_, rfl⟩
  rw [← hxx] at hx
  have HVS := Lib.hid hvS
  have HOK := Lib.hid hok
  have HFIT := Lib.hid hfit
  have HXX := Lib.hid hxx
  clear hxx hfit hok hvS
  have hpl : m.ps.length = ws.ns.length := by rw [← h.ns]; simp
  obtain ⟨g, off, cap, hvN, hownN, hcl, hcm⟩ := h.rowN.pos (by omega)
  have hkl : k < ws.ns.length := by rw [hk]; exact Nat.mod_lt _ (by omega)
  obtain ⟨p, hp, hps⟩ := h.node hkl
  go_enter Try.func41, Try.ntmps41
  iterate 16 go_step
  refine named ?_; intro W hW
  have hb : Blk W w.heap.size 75 (m.cells ws) := by rw [hW]; repeat (first | exact Blk.new w 75 (m.cells ws) | refine Blk.alloc' ?_)
  have hx : Blk W (w.heap.size + 1) 80 [.int .u8 6, .int .u8 n] := by rw [hW]; repeat (first | exact Blk.new' _ 80 [.int .u8 6, .int .u8 n] (by simp) | refine Blk.alloc' ?_)
  have hz : Blk W (w.heap.size + 2) 75 zero75 := by rw [hW]; repeat (first | exact Blk.new' _ 75 zero75 (by simp) | refine Blk.alloc' ?_)
  have hf : Frm w.heap.size [] w W := by rw [hW]; repeat (first | with_reducible exact Frm.refl _ _ _ | with_reducible refine Frm.drewN ?_ | with_reducible refine Frm.drew ?_ | ((with_reducible refine Frm.setCell' ?_ ?_); · first | (left; simp; done) | (right; simp; done) | (right; simp; omega)) | ((with_reducible refine Frm.alloc' ?_ ?_); · first | exact Nat.le_refl _ | (simp; done) | (simp; omega)))
  clear hW
  have h1 : WAt o W ((w.heap.size, .cells (m.cells ws).toArray 75 (0, 0)) :: (w.heap.size + 2, .cells zero75.toArray 75 (0, 0)) :: (w.heap.size + 1, .cells [Value.int .u8 6, Value.int .u8 n].toArray 80 (0, 0)) :: Y) m ws := h.blocks hf [(w.heap.size, .cells (m.cells ws).toArray 75 (0, 0)), (w.heap.size + 2, .cells zero75.toArray 75 (0, 0)), (w.heap.size + 1, .cells [Value.int .u8 6, Value.int .u8 n].toArray 80 (0, 0))] (by
    intro x hx
    simp only [List.mem_cons, List.not_mem_nil, or_false] at hx
    rcases hx with rfl | rfl | rfl
    · exact ⟨Nat.le_refl _, hb⟩
    · exact ⟨by simp, hz⟩
    · exact ⟨by simp, hx⟩)
  have hY : ∀ z ∈ Y, z.1 ≠ w.heap.size ∧ z.1 ≠ w.heap.size + 2 := fun z hz => by have := h.sys.ltX z (by simp [hz]); omega
  have x0 : W.cell? ⟨w.heap.size + 1, 0, none⟩ = some (.int .u8 6) := hx.cell 0
  have x1 : W.cell? ⟨w.heap.size + 1, 1, none⟩ = some (.int .u8 n) := hx.cell 1
  have c1 : W.cell? ⟨w.heap.size, 1, none⟩ = some (.slice (some ⟨g, off, none⟩) m.ps.length cap) := by rw [← hvN]; exact hb.cell 1
  have z : W.cell? ⟨g, off + k, none⟩ = some (.pointer (some ⟨p.b, 0, none⟩)) := h1.ptrCell hvN hp
  rw [hpl] at c1
  have hk' : (n : Int) % (ws.ns.length : Int) = (k : Int) := by rw [hk]; omega
  have hkl' : (k : Int) < (ws.ns.length : Int) := by omega
  have HB := Lib.hid hb
  have HX := Lib.hid hx
  have HZ := Lib.hid hz
  have HF := Lib.hid hf
  have H1 := Lib.hid h1
  have HP := Lib.hid hp
  have HPS := Lib.hid hps
  have HPL := Lib.hid hpl
  have HVN := Lib.hid hvN
  have HWA := Lib.hid h
  have HK := Lib.hid hk
  have HK2 := Lib.hid hk'
  have HKL := Lib.hid hkl
  have HY := Lib.hid hY
  clear hY hkl hk' hk h hvN hpl hps hp h1 hf hz hx hb
  have hk' := HK2.out
  have hjl : j < ws.sent.length := by rw [hj]; exact Nat.mod_lt _ hs0
  have hj2 : (n : Int) % (ws.sent.length : Int) = (j : Int) := by rw [hj]; omega
  have hj3 : (j : Int) < (ws.sent.length : Int) := by omega
  have c2 : W.cell? ⟨w.heap.size, 2, none⟩ = some (.slice (some ⟨gS, offS, none⟩) ws.sent.length capS) := by rw [← HVS.out]; exact HB.out.cell 2
  have hs0' : ¬ (ws.sent.length : Int) = 0 := by omega
  have HJ := Lib.hid hj
  have HX1 := Lib.hid hx
  clear hx hj
  go_wp2_with fail
  clear c1 z c2
  have hfx : ∀ V, Frm W.heap.size [] W V → V.cell? ⟨w.heap.size, 2, none⟩ = some (.slice (some ⟨gS, offS, none⟩) ws.sent.length capS) ∧ V.cell? ⟨w.heap.size + 1, 1, none⟩ = some (.int .u8 n) ∧
      V.cell? ⟨gS, offS + j * 3, none⟩ = some (.int .i64 x.1) ∧ V.cell? ⟨gS, offS + j * 3 + 1, none⟩ = some (.int .i64 x.2.1) ∧ V.cell? ⟨gS, offS + j * 3 + 2, none⟩ = some (.int .i64 x.2.2) := fun V hV => by
    have h2 := H1.out.quiet hV
    have hb : Blk V w.heap.size 75 (m.cells ws) := h2.sys.ext (w.heap.size, .cells (m.cells ws).toArray 75 (0, 0)) (by simp)
    have hx : Blk V (w.heap.size + 1) 80 [.int .u8 6, .int .u8 n] := h2.sys.ext (w.heap.size + 1, .cells [Value.int .u8 6, Value.int .u8 n].toArray 80 (0, 0)) (by simp)
    have hr := h2.rowS
    rw [HVS.out] at hr
    have hw := wordsL_get HX1.out
    have hlen : j * 3 + 2 < (wordsL ws.sent).length := (List.getElem?_eq_some_iff.1 (hw 2 _ rfl)).1
    refine ⟨by rw [← HVS.out]; exact hb.cell 2, hx.cell 1, ?_, ?_, ?_⟩
    · exact (hr.cell (j * 3) (by omega)).trans (hw 0 _ rfl)
    · exact (hr.cell (j * 3 + 1) (by omega)).trans (hw 1 _ rfl)
    · exact (hr.cell (j * 3 + 2) (by omega)).trans (hw 2 _ rfl)
  refine wp_region_leftL (fun V => Frm W.heap.size [] W V) 100 (by kernel_rfl) ?_
  have hS : Frm W.heap.size [] W W.drew := (Frm.refl _ _ W).drew
  have HFX := Lib.hid hfx
  have HS := Lib.hid hS
  clear hS hfx
  refine LeftL.run (v := ?_) 0 rfl (by kernel_rfl) rfl (fun _ _ d _ _ h => by cases d <;> exact h) ?_ HS.out ?_; rotate_left; (· intro V hV; obtain ⟨y2, x1, z0, z1, z2⟩ := HFX.out V hV; clear hV; go_simp; rfl); (intro K' hK'; go_simp; refine hK' _ ?_; clear hK' K')
  refine LeftL.run (v := ?_) 1 rfl (by kernel_rfl) rfl (fun _ _ d _ _ h => by cases d <;> exact h) ?_ HS.out ?_; rotate_left; (· intro V hV; obtain ⟨y2, x1, z0, z1, z2⟩ := HFX.out V hV; clear hV; go_simp; rfl); (intro K' hK'; go_simp; refine hK' _ ?_; clear hK' K')
  refine LeftL.run (v := ?_) 2 rfl (by kernel_rfl) rfl (fun _ _ d _ _ h => by cases d <;> exact h) ?_ HS.out ?_; rotate_left; (· intro V hV; obtain ⟨y2, x1, z0, z1, z2⟩ := HFX.out V hV; clear hV; go_simp; rfl); (intro K' hK'; go_simp; refine hK' _ ?_; clear hK' K')
  refine LeftL.run (v := ?_) 3 rfl (by kernel_rfl) rfl (fun _ _ d _ _ h => by cases d <;> exact h) ?_ HS.out ?_; rotate_left; (· intro V hV; obtain ⟨y2, x1, z0, z1, z2⟩ := HFX.out V hV; clear hV; go_simp; rfl); (intro K' hK'; go_simp; refine hK' _ ?_; clear hK' K')
  refine LeftL.run (v := ?_) 4 rfl (by kernel_rfl) rfl (fun _ _ d _ _ h => by cases d <;> exact h) ?_ HS.out ?_; rotate_left; (· intro V hV; obtain ⟨y2, x1, z0, z1, z2⟩ := HFX.out V hV; clear hV; go_simp; rfl); (intro K' hK'; go_simp; refine hK' _ ?_; clear hK' K')
  refine LeftL.run (v := ?_) 5 rfl (by kernel_rfl) rfl (fun _ _ d _ _ h => by cases d <;> exact h) ?_ HS.out ?_; rotate_left; (· intro V hV; obtain ⟨y2, x1, z0, z1, z2⟩ := HFX.out V hV; clear hV; go_simp; rfl); (intro K' hK'; go_simp; refine hK' _ ?_; clear hK' K')
  refine LeftL.run (v := ?_) 6 rfl (by kernel_rfl) rfl (fun _ _ d _ _ h => by cases d <;> exact h) ?_ HS.out ?_; rotate_left; (· intro V hV; obtain ⟨y2, x1, z0, z1, z2⟩ := HFX.out V hV; clear hV; go_simp; rfl); (intro K' hK'; go_simp; refine hK' _ ?_; clear hK' K')
  refine LeftL.run (v := ?_) 7 rfl (by kernel_rfl) rfl (fun _ _ d _ _ h => by cases d <;> exact h) ?_ HS.out ?_; rotate_left; (· intro V hV; obtain ⟨y2, x1, z0, z1, z2⟩ := HFX.out V hV; clear hV; go_simp; rfl); (intro K' hK'; go_simp; refine hK' _ ?_; clear hK' K')
  have hne : ¬ ws.sent = [] := fun e => by rw [e] at hs0; simp at hs0
  have e2 : IntKind.i64.wrap (n : Int) = (n : Int) := IntWalk.i64_in _ (by omega)
  have e3 : (n : Int).tmod (ws.sent.length : Int) = (j : Int) := by rw [← hj2]; exact Int.tmod_eq_emod_of_nonneg (by omega)
  have e5 : IntKind.i64.wrap (j : Int) = (j : Int) := IntWalk.i64_in _ (by omega)
  refine LeftL.run (v := ?_) 8 rfl (by kernel_rfl) rfl (fun _ _ d _ _ h => by cases d <;> exact h) ?_ HS.out ?_; rotate_left; (· intro V hV; obtain ⟨y2, x1, z0, z1, z2⟩ := HFX.out V hV; clear hV; go_simp; rfl); (intro K' hK'; go_simp; refine hK' _ ?_; clear hK' K')
  clear hne e2 e3 e5
  refine LeftL.run (v := ?_) 9 rfl (by kernel_rfl) rfl (fun _ _ d _ _ h => by cases d <;> exact h) ?_ HS.out ?_; rotate_left; (· intro V hV; obtain ⟨y2, x1, z0, z1, z2⟩ := HFX.out V hV; clear hV; go_simp; rfl); (intro K' hK'; go_simp; refine hK' _ ?_; clear hK' K')
  refine LeftL.run (v := ?_) 10 rfl (by kernel_rfl) rfl (fun _ _ d _ _ h => by cases d <;> exact h) ?_ HS.out ?_; rotate_left; (· intro V hV; obtain ⟨y2, x1, z0, z1, z2⟩ := HFX.out V hV; clear hV; go_simp; rfl); (intro K' hK'; go_simp; refine hK' _ ?_; clear hK' K')
  refine LeftL.one 11 rfl (by kernel_rfl) ?_
  go_wp2_with fail
  generalize hw3 : (W.alloc (Obj.cells #[Value.int .i64 0, Value.int .i64 0, Value.int .i64 0] 41 (0, 0))).drew = w3
  have hb3 : Blk w3 W.heap.size 41 (wordL (0, 0, 0)) := by rw [← hw3]; exact (Blk.new' W 41 (wordL (0, 0, 0)) rfl).drew
  have hf3 : Frm W.heap.size [] W w3 := by rw [← hw3]; repeat (first | with_reducible exact Frm.refl _ _ _ | with_reducible refine Frm.drewN ?_ | with_reducible refine Frm.drew ?_ | ((with_reducible refine Frm.setCell' ?_ ?_); · first | (left; simp; done) | (right; simp; done) | (right; simp; omega)) | ((with_reducible refine Frm.alloc' ?_ ?_); · first | exact Nat.le_refl _ | (simp; done) | (simp; omega)))
  have h4 := H1.out.beside hf3 (Nat.le_refl _) hb3
  clear HS hw3
  refine ⟨fun _ => hf3, ?_⟩
  refine LeftL.one 12 rfl (by kernel_rfl) ?_
  refine wpList_storeB (P := Try.prog) (ty := 41) (cs := wordL x) rfl rfl hb3 rfl rfl rfl (wordL_info _) (wordL_one _) ?_
  have h5 := h4.turnHead (fun y hy => by have := H1.out.sys.ltX y (by simp only [List.mem_append]; exact .inr hy); omega) (wordL x).toArray
  have hf4 := hf3.setRow (g := W.heap.size) (.inr (Nat.le_refl _)) (wordL x).toArray
  generalize w3.setRow W.heap.size (wordL x).toArray = w4 at h5 hf4 ⊢
  clear h4 hb3 hf3 w3
  have H4 := Lib.hid h5
  clear h5
  refine wpList_nil ?_
  refine ⟨fun _ => hf4, ?_⟩
  clear hf4
  refine LeftL.done (by kernel_rfl) ?_
  have hw4 : Blk w4 W.heap.size 41 (wordL x) := H4.out.sys.ext (W.heap.size, .cells (wordL x).toArray 41 (0, 0)) (by simp)
  have hb4 : Blk w4 w.heap.size 75 (m.cells ws) := H4.out.sys.ext (w.heap.size, .cells (m.cells ws).toArray 75 (0, 0)) (by simp)
  have HW4 := Lib.hid hw4
  have HB4 := Lib.hid hb4
  clear hw4 hb4 HFX
  clear x0 x1
  have d0 : w4.cell? ⟨W.heap.size, 0, none⟩ = some (.int .i64 2) := by have := HW4.out.cell 0; rw [HXX.out] at this; exact this
  go_wp2_with fail
  clear d0
  obtain ⟨pi, hpi, hpis⟩ := H4.out.node hi
  have hfx : ∀ V, (Blk V w.heap.size 75 (m.cells ws) ∧ Blk V W.heap.size 41 (wordL x) ∧ V.cell? ⟨g, off + i, none⟩ = some (.pointer (some ⟨pi.b, 0, none⟩))) →
      V.cell? ⟨w.heap.size, 1, none⟩ = some (.slice (some ⟨g, off, none⟩) ws.ns.length cap) ∧ V.cell? ⟨W.heap.size, 0, none⟩ = some (.int .i64 2) ∧ V.cell? ⟨W.heap.size, 1, none⟩ = some (.int .i64 ((i : Int) + 1)) ∧ V.cell? ⟨W.heap.size, 2, none⟩ = some (.int .i64 q) ∧ V.cell? ⟨g, off + i, none⟩ = some (.pointer (some ⟨pi.b, 0, none⟩)) := by
    rintro V ⟨v1, v2, v3⟩
    rw [HXX.out] at v2
    exact ⟨by rw [← HPL.out, ← HVN.out]; exact v1.cell 1, v2.cell 0, v2.cell 1, v2.cell 2, v3⟩
  have hS : Blk w4.drew w.heap.size 75 (m.cells ws) ∧ Blk w4.drew W.heap.size 41 (wordL x) ∧ w4.drew.cell? ⟨g, off + i, none⟩ = some (.pointer (some ⟨pi.b, 0, none⟩)) := ⟨HB4.out.drew, HW4.out.drew, H4.out.ptrCell HVN.out hpi⟩
  refine wp_region_leftL (fun V => Blk V w.heap.size 75 (m.cells ws) ∧ Blk V W.heap.size 41 (wordL x) ∧ V.cell? ⟨g, off + i, none⟩ = some (.pointer (some ⟨pi.b, 0, none⟩))) 100 (by kernel_rfl) ?_
  have hfi : pi.s.Fits N := by rw [hpis]; exact HFIT.out i _ (ws.node_at hi)
  have b1 : (1 : Int) ≤ (i : Int) + 1 := by omega
  have b2 : (i : Int) + 1 ≤ (ws.ns.length : Int) := by omega
  have b3 : (i : Int) < (ws.ns.length : Int) := by omega
  have b4 : (i : Int) + 1 - 1 = (i : Int) := by omega
  have b5 : IntKind.i64.wrap (i : Int) = (i : Int) := IntWalk.i64_in _ (by omega)
  have HFX := Lib.hid hfx
  have HS := Lib.hid hS
  have HPI := Lib.hid hpi
  have HPIS := Lib.hid hpis
  have HFI := Lib.hid hfi
  have HI := Lib.hid hi
  clear hi hfi hpis hpi hS hfx
  refine LeftL.take 0 rfl (by kernel_rfl) (fun _ _ d _ _ h => by cases d <;> exact h) (yields_loadB (ty := 75) rfl rfl (fun V hV => hV.1) rfl Try.underlying75 rfl (m.cells_info ws)) HS.out ?_; (intro K' hK'; go_simp; refine hK' _ ?_; clear hK' K')
  refine LeftL.run (v := ?_) 1 rfl (by kernel_rfl) rfl (fun _ _ d _ _ h => by cases d <;> exact h) ?_ HS.out ?_; rotate_left; (· intro V hV; obtain ⟨y1, d0, d1, d2, zp⟩ := HFX.out V hV; clear hV; go_simp; rfl); (intro K' hK'; go_simp; refine hK' _ ?_; clear hK' K')
  refine LeftL.run (v := ?_) 2 rfl (by kernel_rfl) rfl (fun _ _ d _ _ h => by cases d <;> exact h) ?_ HS.out ?_; rotate_left; (· intro V hV; obtain ⟨y1, d0, d1, d2, zp⟩ := HFX.out V hV; clear hV; go_simp; rfl); (intro K' hK'; go_simp; refine hK' _ ?_; clear hK' K')
  refine LeftL.run (v := ?_) 3 rfl (by kernel_rfl) rfl (fun _ _ d _ _ h => by cases d <;> exact h) ?_ HS.out ?_; rotate_left; (· intro V hV; obtain ⟨y1, d0, d1, d2, zp⟩ := HFX.out V hV; clear hV; go_simp; rfl); (intro K' hK'; go_simp; refine hK' _ ?_; clear hK' K')
  refine LeftL.run (v := ?_) 4 rfl (by kernel_rfl) rfl (fun _ _ d _ _ h => by cases d <;> exact h) ?_ HS.out ?_; rotate_left; (· intro V hV; obtain ⟨y1, d0, d1, d2, zp⟩ := HFX.out V hV; clear hV; go_simp; rfl); (intro K' hK'; go_simp; refine hK' _ ?_; clear hK' K')
  refine LeftL.runG (v := ?_) 5 rfl (by kernel_rfl) rfl (fun _ _ d _ _ h => by cases d <;> exact h) ?_ HS.out ?_; rotate_left; (· intro V hV; obtain ⟨y1, d0, d1, d2, zp⟩ := HFX.out V hV; clear hV; go_simp; rfl); (intro K' hK'; go_simp; refine hK' _ ?_; clear hK' K')
  refine LeftL.runG (v := ?_) 6 rfl (by kernel_rfl) rfl (fun _ _ d _ _ h => by cases d <;> exact h) ?_ HS.out ?_; rotate_left; (· intro V hV; obtain ⟨y1, d0, d1, d2, zp⟩ := HFX.out V hV; clear hV; go_simp; rfl); (intro K' hK'; go_simp; refine hK' _ ?_; clear hK' K')
  refine LeftL.runG (v := ?_) 7 rfl (by kernel_rfl) rfl (fun _ _ d _ _ h => by cases d <;> exact h) ?_ HS.out ?_; rotate_left; (· intro V hV; obtain ⟨y1, d0, d1, d2, zp⟩ := HFX.out V hV; clear hV; go_simp; rfl); (intro K' hK'; go_simp; refine hK' _ ?_; clear hK' K')
  refine LeftL.runG (v := ?_) 8 rfl (by kernel_rfl) rfl (fun _ _ d _ _ h => by cases d <;> exact h) ?_ HS.out ?_; rotate_left; (· intro V hV; obtain ⟨y1, d0, d1, d2, zp⟩ := HFX.out V hV; clear hV; go_simp; rfl); (intro K' hK'; go_simp; refine hK' _ ?_; clear hK' K')
  refine LeftL.runG (v := ?_) 9 rfl (by kernel_rfl) rfl (fun _ _ d _ _ h => by cases d <;> exact h) ?_ HS.out ?_; rotate_left; (· intro V hV; obtain ⟨y1, d0, d1, d2, zp⟩ := HFX.out V hV; clear hV; go_simp; rfl); (intro K' hK'; go_simp; refine hK' _ ?_; clear hK' K')
  refine LeftL.runG (v := ?_) 10 rfl (by kernel_rfl) rfl (fun _ _ d _ _ h => by cases d <;> exact h) ?_ HS.out ?_; rotate_left; (· intro V hV; obtain ⟨y1, d0, d1, d2, zp⟩ := HFX.out V hV; clear hV; go_simp; rfl); (intro K' hK'; go_simp; refine hK' _ ?_; clear hK' K')
  refine LeftL.run (v := ?_) 11 rfl (by kernel_rfl) rfl (fun _ _ d _ _ h => by cases d <;> exact h) ?_ HS.out ?_; rotate_left; (· intro V hV; obtain ⟨y1, d0, d1, d2, zp⟩ := HFX.out V hV; clear hV; go_simp; rfl); (intro K' hK'; go_simp; refine hK' _ ?_; clear hK' K')
  refine LeftL.run (v := ?_) 12 rfl (by kernel_rfl) rfl (fun _ _ d _ _ h => by cases d <;> exact h) ?_ HS.out ?_; rotate_left; (· intro V hV; obtain ⟨y1, d0, d1, d2, zp⟩ := HFX.out V hV; clear hV; go_simp; rfl); (intro K' hK'; go_simp; refine hK' _ ?_; clear hK' K')
  refine LeftL.runG (v := ?_) 13 rfl (by kernel_rfl) rfl (fun _ _ d _ _ h => by cases d <;> exact h) ?_ HS.out ?_; rotate_left; (· intro V hV; obtain ⟨y1, d0, d1, d2, zp⟩ := HFX.out V hV; clear hV; go_simp; rfl); (intro K' hK'; go_simp; refine hK' _ ?_; clear hK' K')
  refine LeftL.runG (v := ?_) 14 rfl (by kernel_rfl) rfl (fun _ _ d _ _ h => by cases d <;> exact h) ?_ HS.out ?_; rotate_left; (· intro V hV; obtain ⟨y1, d0, d1, d2, zp⟩ := HFX.out V hV; clear hV; go_simp; rfl); (intro K' hK'; go_simp; refine hK' _ ?_; clear hK' K')
  refine LeftL.runG (v := ?_) 15 rfl (by kernel_rfl) rfl (fun _ _ d _ _ h => by cases d <;> exact h) ?_ HS.out ?_; rotate_left; (· intro V hV; obtain ⟨y1, d0, d1, d2, zp⟩ := HFX.out V hV; clear hV; go_simp; rfl); (intro K' hK'; go_simp; refine hK' _ ?_; clear hK' K')
  refine LeftL.runG (v := ?_) 16 rfl (by kernel_rfl) rfl (fun _ _ d _ _ h => by cases d <;> exact h) ?_ HS.out ?_; rotate_left; (· intro V hV; obtain ⟨y1, d0, d1, d2, zp⟩ := HFX.out V hV; clear hV; go_simp; rfl); (intro K' hK'; go_simp; refine hK' _ ?_; clear hK' K')
  refine LeftL.runG (v := ?_) 17 rfl (by kernel_rfl) rfl (fun _ _ d _ _ h => by cases d <;> exact h) ?_ HS.out ?_; rotate_left; (· intro V hV; obtain ⟨y1, d0, d1, d2, zp⟩ := HFX.out V hV; clear hV; go_simp; rfl); (intro K' hK'; go_simp; refine hK' _ ?_; clear hK' K')
  refine LeftL.runG (v := ?_) 18 rfl (by kernel_rfl) rfl (fun _ _ d _ _ h => by cases d <;> exact h) ?_ HS.out ?_; rotate_left; (· intro V hV; obtain ⟨y1, d0, d1, d2, zp⟩ := HFX.out V hV; clear hV; go_simp; rfl); (intro K' hK'; go_simp; refine hK' _ ?_; clear hK' K')
  refine LeftL.runG (v := ?_) 19 rfl (by kernel_rfl) rfl (fun _ _ d _ _ h => by cases d <;> exact h) ?_ HS.out ?_; rotate_left; (· intro V hV; obtain ⟨y1, d0, d1, d2, zp⟩ := HFX.out V hV; clear hV; go_simp; rfl); (intro K' hK'; go_simp; refine hK' _ ?_; clear hK' K')
  refine LeftL.runG (v := ?_) 20 rfl (by kernel_rfl) rfl (fun _ _ d _ _ h => by cases d <;> exact h) ?_ HS.out ?_; rotate_left; (· intro V hV; obtain ⟨y1, d0, d1, d2, zp⟩ := HFX.out V hV; clear hV; go_simp; rfl); (intro K' hK'; go_simp; refine hK' _ ?_; clear hK' K')
  refine LeftL.one 21 rfl (by kernel_rfl) ?_
  go_wp2_with fail
  refine (sysHearN (H4.out.quiet (Frm.refl _ _ w4).drew).sys HPI.out HFI.out hN (2, (i : Int) + 1, q)).mono ?_; rintro e w6 ⟨rfl, own', h6⟩
  have h6 := (H4.out.quiet (Frm.refl _ _ w4).drew).nodeNext HPI.out h6
  rw [HPIS.out] at h6 ⊢
  dsimp only at h6 ⊢
  rw [HOK.out]
  have hS2 : Blk w6 w.heap.size 75 (m.cells ws) ∧ Blk w6 W.heap.size 41 (wordL x) ∧ w6.cell? ⟨g, off + i, none⟩ = some (.pointer (some ⟨pi.b, 0, none⟩)) :=
    ⟨h6.sys.ext (w.heap.size, .cells (m.cells ws).toArray 75 (0, 0)) (by simp), h6.sys.ext (W.heap.size, .cells (wordL x).toArray 41 (0, 0)) (by simp), h6.ptrCell (p := ⟨pi.b, own', ((ws.node i).hear 2 ((i : Int) + 1) q).1⟩) HVN.out (get_set_eq HPI.out)⟩
  have h6 := h6.less (fun y hy => List.mem_cons_of_mem _ hy)
  have H6 := Lib.hid h6
  clear h6
  clear HS
  have hWs : w.heap.size + 2 < W.heap.size := HZ.out.lt
  have HS := Lib.hid hS2
  have HWS := Lib.hid hWs
  clear hWs hS2
  go_wp2_with fail
  first | refine ⟨fun _ => HS.out, ?_⟩ | refine ⟨HS.out, ?_⟩
  refine LeftL.runG (v := ?_) 22 rfl (by kernel_rfl) rfl (fun _ _ d _ _ h => by cases d <;> exact h) ?_ HS.out ?_; rotate_left; (· intro V hV; obtain ⟨y1, d0, d1, d2, zp⟩ := HFX.out V hV; clear hV; go_simp; rfl); (intro K' hK'; go_simp; refine hK' _ ?_; clear hK' K')
  refine LeftL.run (v := ?_) 23 rfl (by kernel_rfl) rfl (fun _ _ d _ _ h => by cases d <;> exact h) ?_ HS.out ?_; rotate_left; (· intro V hV; obtain ⟨y1, d0, d1, d2, zp⟩ := HFX.out V hV; clear hV; go_simp; rfl); (intro K' hK'; go_simp; refine hK' _ ?_; clear hK' K')
  refine LeftL.one 24 rfl (by kernel_rfl) ?_
  have hz2 : Blk w6 (w.heap.size + 2) 75 zero75 := H6.out.sys.ext (w.heap.size + 2, .cells zero75.toArray 75 (0, 0)) (by simp)
  refine wpList_storeB (P := Try.prog) (cs := m.cells ws) rfl rfl hz2 rfl rfl rfl (m.cells_info ws) H1.out.cells_one ?_
  have h4 := H6.out.result (fun z hz => (HY.out z hz).2) (m.cells ws).toArray
  have hb4 := hz2.row (m.cells ws)
  have hS4 := And.intro (HS.out.1.row_other (g := w.heap.size + 2) (m.cells ws).toArray (by omega)) (And.intro (HS.out.2.1.row_other (g := w.heap.size + 2) (m.cells ws).toArray (by have := HWS.out; omega)) (h4.ptrCell (p := ⟨pi.b, own', ((ws.node i).hear 2 ((i : Int) + 1) q).1⟩) HVN.out (get_set_eq HPI.out)))
  generalize w6.setRow (w.heap.size + 2) (m.cells ws).toArray = W4 at h4 hb4 hS4 ⊢
  clear HS hz2
  have HS := Lib.hid hS4
  have HB4 := Lib.hid hb4
  have H4 := Lib.hid h4
  clear hS4 hb4 h4
  refine wpList_nil ?_
  refine ⟨fun _ => HS.out, ?_⟩
  refine LeftL.one 25 rfl (by kernel_rfl) ?_
  go_wp2_with fail
  first | refine ⟨fun _ => HS.out, ?_⟩ | refine ⟨HS.out, ?_⟩
  refine LeftL.done (by kernel_rfl) ?_
  go_wp2_with fail
  refine bodyPost_ret (results_ct Try.results41 HB4.out rfl Try.underlying75 rfl (m.cells_info ws)) rfl ?_
  exact ⟨{ m with ps := m.ps.set i ⟨pi.b, own', ((ws.node i).hear 2 ((i : Int) + 1) q).1⟩ }, rfl, ptrs_set (p' := ⟨pi.b, own', ((ws.node i).hear 2 ((i : Int) + 1) q).1⟩) HPI.out rfl, H4.out⟩
end Go.Proofs.Ythmladcepkdheaa
