/- The functions of the program in the engine's form, written by a program out of the loaded translation, and checked against it by the kernel. Conditions: none. -/
import Derived.Test.YtcmllambknfleaaKC16
import Derived.Test.YtcmllambknfleaaJfHolds
set_option maxRecDepth 100000
set_option linter.unusedVariables false
namespace Go.Proofs.Ytcmllambknfleaa.E
open Go
/-! laws.FnExactHolds -/
noncomputable def e12 : Env := ⟨Try.prog, [1, 5], 69, [(10, 0)]⟩
noncomputable def c12 : C :=
  .seq (.reg [
    ⟨some 1, none, .box true (.tmp 0)⟩,
    ⟨some 2, none, .mov (.const (.bool false))⟩]) (.seq (.reg [
    ⟨some 3, none, .mov (.const (.int .i64 1048576))⟩]) (.seq (.reg [
    ⟨some 11, none, .load false 13 (.tmp 1)⟩,
    ⟨some 12, none, .mov (.tmp 3)⟩,
    ⟨some 13, none, .call 30 [.tmp 11, .tmp 12]⟩,
    ⟨some 3, none, .mov (.tmp 13)⟩]) (.seq (.seq (.reg [
    ⟨some 14, none, .mov (.tmp 3)⟩,
    ⟨some 15, none, .bin .lss (.tmp 14) (.const (.int .i64 0))⟩]) (.cond (.tmp 15) (.seq (.reg [
    ⟨some 2, none, .mov (.const (.bool true))⟩]) (.ret)) (.skip))) (.seq (.reg [
    ⟨some 16, none, .load false 13 (.tmp 1)⟩,
    ⟨some 17, none, .call 32 [.tmp 16]⟩,
    ⟨some 18, none, .call 49 [.tmp 17]⟩,
    ⟨some 4, none, .mov (.tmp 18)⟩]) (.seq (.reg [
    ⟨some 19, none, .load false 13 (.tmp 1)⟩,
    ⟨some 20, none, .call 32 [.tmp 19]⟩,
    ⟨some 5, none, .alloc true [.int .i64 0, .int .i64 0, .int .i64 0, .slice none 0 0, .slice none 0 0, .int .i64 0, .int .i64 0, .int .i64 0, .slice none 0 0, .int .i64 0, .int .i64 0, .int .i64 0, .int .i64 0]⟩,
    ⟨none, none, .store 13 (.tmp 5) (.tmp 20)⟩]) (.seq (.reg [
    ⟨some 21, none, .load false 13 (.tmp 5)⟩,
    ⟨some 22, none, .call 50 [.tmp 21]⟩,
    ⟨some 6, none, .mov (.tmp 22)⟩]) (.seq (.seq (.reg [
    ⟨some 23, none, .mov (.tmp 6)⟩,
    ⟨some 24, none, .mov (.tmp 4)⟩,
    ⟨some 25, none, .call 46 [.tmp 23, .tmp 24]⟩,
    ⟨some 26, none, .not (.tmp 25)⟩]) (.cond (.tmp 26) (.seq (.reg [
    ⟨some 2, none, .mov (.const (.bool false))⟩]) (.ret)) (.skip))) (.seq (.seq (.zreg [27, 28, 29, 30, 31] [
    ⟨some 27, none, .load false 13 (.tmp 5)⟩,
    ⟨some 28, none, .load false 13 (.tmp 1)⟩] [
    ⟨some 29, none, .call 32 [.tmp 28]⟩,
    ⟨some 30, none, .call 27 [.tmp 27, .tmp 29]⟩,
    ⟨some 31, none, .not (.tmp 30)⟩]) (.cond (.tmp 31) (.seq (.reg [
    ⟨some 2, none, .mov (.const (.bool false))⟩]) (.ret)) (.skip))) (.seq (.reg [
    ⟨some 7, none, .mov (.const (.int .i64 1))⟩]) (.seq (.reg [
    ⟨some 32, none, .load false 13 (.tmp 5)⟩,
    ⟨some 33, none, .mov (.tmp 7)⟩,
    ⟨some 34, none, .call 28 [.tmp 32, .tmp 33]⟩,
    ⟨some 7, none, .mov (.tmp 34)⟩]) (.seq (.seq (.reg [
    ⟨some 35, none, .mov (.tmp 7)⟩,
    ⟨some 36, none, .bin .lss (.tmp 35) (.const (.int .i64 0))⟩,
    ⟨some 37, none, .mov (.tmp 36)⟩,
    ⟨some 38, some (37, false), .mov (.tmp 6)⟩,
    ⟨some 39, some (37, false), .mov (.tmp 4)⟩,
    ⟨some 40, some (37, false), .call 46 [.tmp 38, .tmp 39]⟩,
    ⟨some 41, some (37, false), .not (.tmp 40)⟩,
    ⟨some 42, none, .pick (.tmp 37) (.const (.bool true)) (.tmp 41)⟩]) (.cond (.tmp 42) (.seq (.reg [
    ⟨some 2, none, .mov (.const (.bool false))⟩]) (.ret)) (.skip))) (.seq (.reg [
    ⟨some 8, none, .mov (.const (.int .i64 1))⟩]) (.seq (.reg [
    ⟨some 43, none, .mov (.tmp 6)⟩,
    ⟨some 44, none, .mov (.tmp 8)⟩,
    ⟨some 45, none, .call 47 [.tmp 43, .tmp 44]⟩,
    ⟨some 8, none, .mov (.tmp 45)⟩]) (.seq (.reg [
    ⟨some 9, none, .mov (.const (.int .i64 1))⟩]) (.seq (.reg [
    ⟨some 46, none, .mov (.tmp 6)⟩,
    ⟨some 47, none, .mov (.tmp 9)⟩,
    ⟨some 48, none, .call 48 [.tmp 46, .tmp 47]⟩,
    ⟨some 9, none, .mov (.tmp 48)⟩]) (.seq (.seq (.reg [
    ⟨some 49, none, .mov (.tmp 9)⟩,
    ⟨some 50, none, .bin .lss (.tmp 49) (.const (.int .i64 0))⟩]) (.cond (.tmp 50) (.seq (.reg [
    ⟨some 2, none, .mov (.const (.bool false))⟩]) (.ret)) (.skip))) (.seq (.seq (.reg [
    ⟨some 51, none, .mov (.tmp 9)⟩,
    ⟨some 52, none, .mov (.tmp 8)⟩,
    ⟨some 53, none, .bin .neq (.tmp 51) (.tmp 52)⟩]) (.cond (.tmp 53) (.seq (.reg [
    ⟨some 2, none, .mov (.const (.bool false))⟩]) (.ret)) (.skip))) (.seq (.reg [
    ⟨some 54, none, .load false 13 (.tmp 1)⟩,
    ⟨some 55, none, .call 32 [.tmp 54]⟩,
    ⟨some 56, none, .call 50 [.tmp 55]⟩,
    ⟨some 10, none, .mov (.tmp 56)⟩]) (.seq (.seq (.reg [
    ⟨some 57, none, .mov (.tmp 10)⟩,
    ⟨some 58, none, .mov (.tmp 4)⟩,
    ⟨some 59, none, .call 46 [.tmp 57, .tmp 58]⟩,
    ⟨some 60, none, .not (.tmp 59)⟩]) (.cond (.tmp 60) (.seq (.reg [
    ⟨some 2, none, .mov (.const (.bool false))⟩]) (.ret)) (.skip))) (.seq (.reg [
    ⟨some 9, none, .mov (.const (.int .i64 1))⟩]) (.seq (.reg [
    ⟨some 61, none, .mov (.tmp 6)⟩,
    ⟨some 62, none, .mov (.tmp 9)⟩,
    ⟨some 63, none, .call 48 [.tmp 61, .tmp 62]⟩,
    ⟨some 9, none, .mov (.tmp 63)⟩]) (.seq (.seq (.reg [
    ⟨some 64, none, .mov (.tmp 9)⟩,
    ⟨some 65, none, .bin .lss (.tmp 64) (.const (.int .i64 0))⟩]) (.cond (.tmp 65) (.seq (.reg [
    ⟨some 2, none, .mov (.const (.bool false))⟩]) (.ret)) (.skip))) (.seq (.seq (.reg [
    ⟨some 66, none, .mov (.tmp 9)⟩,
    ⟨some 67, none, .mov (.tmp 8)⟩,
    ⟨some 68, none, .bin .neq (.tmp 66) (.tmp 67)⟩]) (.cond (.tmp 68) (.seq (.reg [
    ⟨some 2, none, .mov (.const (.bool false))⟩]) (.ret)) (.skip))) (.seq (.reg [
    ⟨some 2, none, .mov (.const (.bool true))⟩]) (.ret)))))))))))))))))))))))))
theorem t12 : Try.f12.body.bind (trC e12) = some c12 := by kernel_rfl
theorem r12 : Try.f12.results.toList.mapM (trR Try.prog) = some [.tmp 2] := by kernel_rfl
theorem fn12 {args : List Value} {M : Mem} {post : Value → Mem → Prop} (hl : args.length ≤ 69) (h : VC e12 c12 (fnQ [.tmp 2] post) (initS args 69) M) : Fn Try.prog 12 args M post :=
  Fn.of' (E := e12) Try.func12 t12 rfl r12 mixed hl h
end Go.Proofs.Ytcmllambknfleaa.E
/- The law on Holds. Conditions: none. -/
set_option linter.unusedVariables false
set_option linter.unusedSimpArgs false
set_option maxHeartbeats 8000000
set_option maxRecDepth 100000
namespace Go.Proofs.Ytcmllambknfleaa.E
open Go
open Classical
theorem holds_len_le (H : Heap) : (H.holds).length ≤ H.cells.length := by
  unfold Heap.holds
  split
  · rw [heldL_len]; exact Nat.le_refl _
  · simp
theorem fnExactHolds_q {M : Mem} {x : HS} (hx : RHVR M x) : Qt Try.prog 12 [x.v] M (.bool true) := by
  refine qt_of (fnA_of (fun h => fn12 (by simp) h) ?_)
  repeat' (first
    | (refine k_L ?_; first | refine a_p rfl ?_ | (refine k_bx ?_; refine a_bx rfl rfl ?_) | (refine k_c ?_; refine a_cq rfl (fun m hm => szHeap_q (by omega) (by omega) (hx.le (ro_of hm (by (fail_if_success apply pm_bad); (repeat (first | exact pm_nil | (apply pm_cons; repeat (first | exact pk_h | apply pk_t)))); fail_if_success focus skip)))) ?_))
    | refine a_n ?_
    | (refine k_V ?_; first | refine v_rv ?_ | refine v_seq ?_ | refine v_reg ?_ | refine v_skip ?_ | (refine v_cd rfl (fun hb => ?_) (fun hb => ?_) <;> try (exfalso; omega)))
    | refine s_r ?_)
  · exact fa_q (by simp) (fun _ _ => rfl) rfl
  have hb' : x.H.bulk ≤ 1048576 := by
    by_cases h : x.H.bulk ≤ 1048576
    · exact h
    · rw [if_neg h] at *; omega
  have hpn := pairsN_nonneg x.H.cells
  have hb2 := hb'
  unfold Heap.bulk at hb2
  have hll := holds_len_le x.H
  have hT : ∀ L : List Bool, mkT wB 1 L = 1 + 1 * (L.length : Int) := fun L => mkT_const (w := wB) (c := 1) (fun _ => rfl) L 1
  have hT0 := hT x.H.holds
  refine g_c rfl (toHeap_a hb' hx) (fun v As' hq => ?_)
  obtain ⟨y, rfl, hy, rfl⟩ := hq
  refine g_c rfl (fna_ro (fun m hm => specHolds_a (x := y) (has_star hm))) (fun v As' hq => ?_)
  obtain ⟨_, ⟨ws, rfl, rfl⟩, rfl⟩ := hq
  rw [hy]
  repeat' (first
    | (refine k_L ?_; refine a_p rfl ?_)
    | refine a_n ?_
    | (refine k_V ?_; first | refine v_seq ?_ | refine v_reg ?_))
  refine g_c rfl (toHeap_a hb' hx) (fun v As' hq => ?_)
  obtain ⟨z, rfl, hz, rfl⟩ := hq
  repeat' (first
    | (refine k_L ?_; first | refine a_p rfl ?_ | (refine k_st ?_; refine g_sw rfl rfl rfl rfl (Nat.le_of_ble_eq_true rfl) ?_) | (refine k_al ?_; refine a_al ?_))
    | refine a_n ?_
    | (refine k_V ?_; first | refine v_seq ?_ | refine v_reg ?_)
    | refine sk_zero ?_
    | refine sk_succ ?_
    | refine wk_nil ?_
    | refine wk_cons ?_)
  refine g_c rfl (fna_ro (fun m hm => implHolds_a (x := z) (has_star hm))) (fun v As' hq => ?_)
  obtain ⟨_, ⟨gs, rfl, rfl⟩, rfl⟩ := hq
  rw [hz]
  repeat' (first
    | (refine k_L ?_; first | refine a_p rfl ?_ | (refine k_c ?_; refine a_cq rfl (fun m hm => qt_e (eqBoolS_q (has_p (Bs := [slA 1 bv gs x.H.holds]) hm).sl (has_p (Bs := [slA 1 bv ws x.H.holds]) hm).sl) (congrArg Value.bool (decide_eq_true rfl))) ?_))
    | refine a_n ?_
    | (refine k_V ?_; first | refine v_seq ?_ | refine v_reg ?_ | refine v_zreg ?_ | refine v_skip ?_ | refine v_cf rfl ?_))
  refine g_c rfl (toHeap_a hb' hx) (fun v As' hq => ?_)
  obtain ⟨u, rfl, hu, rfl⟩ := hq
  repeat' (first
    | (refine k_L ?_; first | refine a_p rfl ?_ | (refine k_c ?_; refine a_cq rfl (fun m hm => qt_e (eqHeap_q (x := z.hs) (y := u.hs) (has_p hm).b (has_p hm).b) (congrArg Value.bool (decide_eq_true (hz.trans hu.symm)))) ?_))
    | refine a_n ?_
    | (refine k_V ?_; first | refine v_seq ?_ | refine v_reg ?_ | refine v_skip ?_ | refine v_cf rfl ?_))
  have he := endH_eq 1 z.H
  rw [hz] at he
  refine g_c rfl (markHeap_d (x := z) (k := 1) (by omega) (by rw [hz]; omega)) (fun v As' hq => ?_)
  obtain ⟨rfl, rfl⟩ := hq
  rw [hz]
  repeat' (first
    | (refine k_L ?_; first | refine a_p rfl ?_ | (refine k_g ?_; first | refine a_gy rfl rfl ?_ | (refine a_gd rfl (fun hb => ?_) (fun hb => ?_) <;> try (exfalso; omega))) | (refine k_c ?_; refine a_cq rfl (fun m hm => qt_e (eqBoolS_q (has_p (Bs := [slA 1 bv gs x.H.holds]) hm).sl (has_p (Bs := [slA 1 bv ws x.H.holds]) hm).sl) (congrArg Value.bool (decide_eq_true rfl))) ?_))
    | refine a_n ?_
    | (refine k_V ?_; first | refine v_seq ?_ | refine v_reg ?_ | refine v_skip ?_ | refine v_cf rfl ?_))
  refine g_c rfl (markBoolS_a (sd := gs) (L := x.H.holds) (k := 1) (by omega) (by omega)) (fun v As' hq => ?_)
  obtain ⟨rfl, rfl⟩ := hq
  repeat' (first
    | (refine k_L ?_; first | refine a_p rfl ?_ | (refine k_c ?_; refine a_cq rfl (fun m hm => heldBoolS_q (xs := x.H.holds) (k := 1) (by omega) (by omega) (by have := (has_p (Bs := [slA 1 bv gs (mkG gB wB 1 x.H.holds)]) hm).sl; rw [mkG_len] at this; exact this)) ?_))
    | refine a_n ?_
    | (refine k_V ?_; first | refine v_seq ?_ | refine v_reg ?_ | refine v_skip ?_ | (refine v_cd rfl (fun hb => ?_) (fun hb => ?_) <;> try (exfalso; omega)) | (refine v_cn rfl (fun hb => ?_) (fun hb => ?_) <;> try (exfalso; omega))))
  refine g_c rfl (toHeap_a hb' hx) (fun v As' hq => ?_)
  obtain ⟨t, rfl, ht, rfl⟩ := hq
  refine g_c rfl (fna_ro (fun m hm => implHolds_a (x := t) (has_star hm))) (fun v As' hq => ?_)
  obtain ⟨_, ⟨hd, rfl, rfl⟩, rfl⟩ := hq
  rw [ht]
  repeat' (first
    | (refine k_L ?_; first | refine a_p rfl ?_ | (refine k_c ?_; first | refine a_cq rfl (fun m hm => qt_e (eqBoolS_q (has_p (Bs := [slA 1 bv hd x.H.holds]) hm).sl (has_p (Bs := [slA 1 bv ws x.H.holds]) hm).sl) (congrArg Value.bool (decide_eq_true rfl))) ?_ | refine a_cq rfl (fun m hm => heldBoolS_q (xs := x.H.holds) (k := 1) (by omega) (by omega) (by have := (has_p (Bs := [slA 1 bv gs (mkG gB wB 1 x.H.holds)]) hm).sl; rw [mkG_len] at this; exact this)) ?_))
    | refine a_n ?_
    | (refine k_V ?_; first | refine v_rv ?_ | refine v_seq ?_ | refine v_reg ?_ | refine v_skip ?_ | refine v_cf rfl ?_ | (refine v_cd rfl (fun hb => ?_) (fun hb => ?_) <;> try (exfalso; omega)) | (refine v_cn rfl (fun hb => ?_) (fun hb => ?_) <;> try (exfalso; omega))))
  exact fa_q (by simp) (fun _ _ => rfl) rfl
end Go.Proofs.Ytcmllambknfleaa.E
/- The row of Holds. Conditions: none. -/
set_option linter.unusedVariables false
set_option linter.unusedSimpArgs false
set_option maxRecDepth 100000
namespace Go.Proofs.Ytcmllambknfleaa.E
open Go Go.ChangeShapes Go.WideShapes Go.ChangeAt Go.RowKit
theorem liftedHolds (os : Os) (started : os.Started) (H : Type) (enc : TypeId × Value → H) :
    ReturnsInHanded {} Try.checked os 12 .any (Rows.fnExactHoldsSpec.pre6 enc Try.prog Try.f12 Rows.fnExactHoldsRow.domain false) (Rows.fnExactHoldsSpec.post enc Try.prog Try.f12 false true false false) := by
  refine returnsInHanded_of_change_sized (C := Try.checked) ownknob started (by kernel_rfl) Try.func12
    (ChangeSpec.witness6 (enc := enc) (C := Try.checked) false ⟨#[], #[.agg #[.int .i64 0, .int .i64 0, .int .i64 0, .slice none 0 0, .slice none 0 0, .int .i64 0, .int .i64 0, .int .i64 0, .slice none 0 0, .int .i64 0, .int .i64 0, .int .i64 0, .int .i64 0]], []⟩ 8 (by kernel_rfl) (by kernel_rfl) (by kernel_rfl) (by kernel_rfl)) ?_
  intro W base args ds gs before hval0 hW hcnd hsz0 _
  have hval : ∀ (j : Nat) t v, Try.f12.params[j]? = some t → args[j]? = some v → Value.okWide Try.prog W .any base t v := hval0
  have hW' := hW
  obtain ⟨p, q, hA0, hV, rfl, hfz, hnd⟩ := hW
  have hA : DataW.TrodAll enc Try.prog W 0 (fun _ => true) true [43] args.toList ds p := hA0
  obtain ⟨v0, d0, rfl, rfl, h0⟩ := trodAll_one hA
  obtain ⟨rfl, rfl⟩ := trodVars_none hV
  obtain ⟨cs, rfl, _⟩ := okWide_struct und_heap (hval 0 43 v0 rfl rfl)
  clear hA0 hval0 hsz0
  have h0k := h0
  obtain ⟨fuel, h0'⟩ := h0
  obtain ⟨x, e, hx⟩ := open_heap h0'
  have e : cs = (hv x.H x.rs x.cs x.gs).toArray := by
    have : cs.toList = hv x.H x.rs x.cs x.gs := e
    rw [← this]
  subst e
  have hlt : ∀ x ∈ p, x.block < W.heap.size := fun x hx => by simpa using hW'.lt x (by simp [hx])
  have hq : Fn Try.prog 12 [x.v] (memOf W) (fun v M' => v = .bool true ∧ (memOf W).le M') := (fnExactHolds_q hx).mono fun v M' ⟨h1, h2⟩ => ⟨h1, by rw [h2]; exact Mem.le_refl _⟩
  refine (row_of hq).mono fun e W' ⟨he, bel⟩ => ?_
  subst he
  have hT := Below.trod laid (by kernel_rfl) (of_decide_eq_true (by kernel_rfl)) h0k bel hlt
  exact ⟨_, rfl, _, _, _, [], _, [], hW', trodAll_mk1 (shut_bool und_bool _), trodAll_mk1 hT, rfl, bel.frame _, fun h => by cases h⟩
end Go.Proofs.Ytcmllambknfleaa.E
namespace Go.Proofs.Ytcmllambknfleaa
open Go.ChangeShapes Go.WideShapes Go.ChangeAt Go.RowKit
/-- The row, under a short name, for the claim. -/
theorem fnExactHolds_holds : Rows.FnExactHoldsSaid :=
  OpenClaim.holds_of_wide 12 Try.f12 rfl rfl rfl rfl rfl rfl rfl ⟨rfl, rfl, rfl, rfl, rfl⟩ rfl rfl rfl rfl rfl (by kernel_rfl) Try.func12 jfHolds
    (of_decide_eq_true (by kernel_rfl)) (by unfold Func.isWrapper; first | (rw [if_pos (by decide +kernel)]; kernel_rfl) | (rw [if_neg (by decide +kernel)]; exact ⟨rfl, rfl⟩))
    (fun os started H enc _ => E.liftedHolds os started H enc)
end Go.Proofs.Ytcmllambknfleaa
