/- Counted and Holds, both sides. Conditions: none. -/
import Derived.Test.YtcmllambknfleaaKC15
import Derived.Test.YtcmllambknfleaaJfCounted
set_option linter.unusedVariables false
set_option linter.unusedSimpArgs false
set_option maxHeartbeats 8000000
set_option maxRecDepth 100000
namespace Go.Proofs.Ytcmllambknfleaa.E
open Go
open Classical
noncomputable def Heap.counted (H : Heap) : Int := if okH H = 0 then sumT H (heldL H) H.cells.length else 0
theorem implCounted_q {m : Mem} {x : HX} (h : Has m x.body) : Qt Try.prog 43 [x.v] m (.int .i64 x.H.counted) := by
  unfold Heap.counted
  by_cases hS : okH x.H = 0
  · have hs1 := (okH_sound x.H).1 hS
    refine qt_of (fnA_of (fun h => fn43 (by simp) h) ?_)
    refine v_seq (v_reg (a_nwh x rfl (fun b => ?_)))
    have hs : ∀ m', star [hdA b x.hdr, ro m] m' → Has m' (hp b x) := fun m' s => has_new h s (by (fail_if_success apply pm_bad); (repeat (first | exact pm_nil | (apply pm_cons; repeat (first | exact pk_h | apply pk_t)))); fail_if_success focus skip) (F := [])
    have hr : ∀ m', star [hdA b x.hdr, ro m] m' → m.le m' := fun m' s => ro_of s (by (fail_if_success apply pm_bad); (repeat (first | exact pm_nil | (apply pm_cons; repeat (first | exact pk_h | apply pk_t)))); fail_if_success focus skip) (F := [hdA b x.hdr])
    repeat' (first
      | (refine k_L ?_; first | refine a_p rfl ?_ | (refine k_ls ?_; refine g_ls rfl ?_) | (refine k_c ?_; refine a_cq rfl (fun m hm => qt_e (sound_q (x := x) (has_g h hm)) (congrArg Value.bool (decide_eq_true hS))) ?_))
      | refine a_n ?_
      | (refine k_V ?_; first | refine v_seq ?_ | refine v_reg ?_ | refine v_skip ?_ | refine v_cf rfl ?_))
    refine l_fix (fun m' hm' => ?_)
    refine g_c rfl (holds_a (hs m' hm') hs1.r1 hs1.r2 hs1.r4) (fun v As' hq => ?_)
    obtain ⟨sd, rfl, rfl⟩ := hq
    repeat' (first
      | (refine k_L ?_; first | (refine k_ad ?_; refine g_ad rfl rfl ?_) | (refine k_su ?_; refine g_su rfl rfl ?_) | (refine k_ml ?_; refine g_ml rfl rfl ?_) | refine a_p rfl ?_ | (refine k_g ?_; first | refine a_gy rfl rfl ?_ | refine a_gn rfl rfl ?_ | refine a_gu rfl ?_ | (refine a_gd rfl (fun hb => ?_) (fun hb => ?_) <;> try (exfalso; omega)) | (refine a_ge rfl (fun hb => ?_) (fun hb => ?_) <;> try (exfalso; omega)) | (refine a_gne rfl (fun hb => ?_) (fun hb => ?_) <;> try (exfalso; omega)) | (refine a_gnd rfl (fun hb => ?_) (fun hb => ?_) <;> try (exfalso; omega))) | (refine k_l ?_; refine g_l rfl ?_) | (refine k_i ?_; refine g_i rfl rfl ?_) | (refine k_ls ?_; refine g_ls rfl ?_) | (refine k_st ?_; first | refine g_st rfl rfl rfl rfl ?_ | refine g_sw rfl rfl rfl rfl (Nat.le_of_ble_eq_true rfl) ?_) | (refine k_al ?_; refine a_al ?_) | (refine k_bx ?_; refine a_bx rfl rfl ?_) | (refine k_bl ?_; refine a_bl rfl ?_) | (refine k_p ?_; first | (refine a_pd rfl (fun hb => ?_) (fun hb => ?_) <;> try (exfalso; omega)) | (refine a_pe rfl (fun hb => ?_) (fun hb => ?_) <;> try (exfalso; omega)) | (refine a_pne rfl (fun hb => ?_) (fun hb => ?_) <;> try (exfalso; omega)) | (refine a_pnd rfl (fun hb => ?_) (fun hb => ?_) <;> try (exfalso; omega))))
      | refine a_n ?_
      | (refine k_V ?_; first | refine v_rv ?_ | refine v_seq ?_ | refine v_reg ?_ | refine v_dreg ?_ | refine v_zreg ?_ | refine v_bs ?_ | refine v_br ?_ | refine v_bd ?_ | refine v_bc ?_ | refine v_bk ?_ | refine v_bb ?_ | refine v_ret ?_ | refine v_exit ?_ | refine v_skip ?_ | refine v_ct rfl ?_ | refine v_cf rfl ?_ | (refine v_cd rfl (fun hb => ?_) (fun hb => ?_) <;> try (exfalso; omega)) | (refine v_ce rfl (fun hb => ?_) (fun hb => ?_) <;> try (exfalso; omega)) | (refine v_cn rfl (fun hb => ?_) (fun hb => ?_) <;> try (exfalso; omega)) | (refine v_cnd rfl (fun hb => ?_) (fun hb => ?_) <;> try (exfalso; omega)))
      | refine s_n ?_
      | refine s_r ?_
      | refine s_e ?_
      | refine b_n ?_
      | refine b_r ?_
      | refine b_e ?_
      | refine b_o rfl ?_
      | refine r_rt ?_
      | refine r_bk rfl ?_
      | refine r_ex rfl rfl ?_
      | refine sk_zero ?_
      | refine sk_succ ?_
      | refine wk_nil ?_
      | refine wk_cons ?_)
    refine g_c rfl (sum_a (L := heldL x.H) (hs m' hm') hs1.r1 hs1.r2 (by rw [heldL_len, x.len])) (fun v As' hq => ?_)
    obtain ⟨rfl, rfl⟩ := hq
    repeat' (first
      | (refine k_L ?_; refine a_p rfl ?_)
      | refine a_n ?_
      | (refine k_V ?_; refine v_ret ?_))
    exact fa_r (As' := [ro m]) (fun _ _ => rfl) ((Pm.ent (As1 := [ro m']) (by (fail_if_success apply pm_bad); (repeat (first | exact pm_nil | (apply pm_cons; repeat (first | exact pk_h | apply pk_t)))); fail_if_success focus skip)).trans (ent_ro (hr m' hm'))) ⟨by rw [if_pos hS, x.len], rfl⟩
  · refine qt_of (fnA_of (fun h => fn43 (by simp) h) ?_)
    refine v_seq (v_reg (a_nwh x rfl (fun b => ?_)))
    repeat' (first
      | (refine k_L ?_; first | refine a_p rfl ?_ | (refine k_ls ?_; refine g_ls rfl ?_) | (refine k_c ?_; refine a_cq rfl (fun m hm => qt_e (sound_q (x := x) (has_g h hm)) (congrArg Value.bool (decide_eq_false hS))) ?_))
      | refine a_n ?_
      | (refine k_V ?_; first | refine v_rv ?_ | refine v_seq ?_ | refine v_reg ?_ | refine v_ct rfl ?_)
      | refine s_r ?_)
    exact fa_q (by simp) (fun _ _ => rfl) (by rw [if_neg hS])
theorem specCounted_q {m : Mem} {x : HX} (h : Has m x.body) : Qt Try.prog 42 [x.v] m (.int .i64 x.H.counted) := by
  unfold Heap.counted
  by_cases hS : okH x.H = 0
  · have hs1 := (okH_sound x.H).1 hS
    refine qt_of (fnA_of (fun h => fn42 (by simp) h) ?_)
    refine v_seq (v_reg (a_nwh x rfl (fun b => ?_)))
    have hs : ∀ m', star [hdA b x.hdr, ro m] m' → Has m' (hp b x) := fun m' s => has_new h s (by (fail_if_success apply pm_bad); (repeat (first | exact pm_nil | (apply pm_cons; repeat (first | exact pk_h | apply pk_t)))); fail_if_success focus skip) (F := [])
    have hr : ∀ m', star [hdA b x.hdr, ro m] m' → m.le m' := fun m' s => ro_of s (by (fail_if_success apply pm_bad); (repeat (first | exact pm_nil | (apply pm_cons; repeat (first | exact pk_h | apply pk_t)))); fail_if_success focus skip) (F := [hdA b x.hdr])
    repeat' (first
      | (refine k_L ?_; first | refine a_p rfl ?_ | (refine k_ls ?_; refine g_ls rfl ?_) | (refine k_c ?_; refine a_cq rfl (fun m hm => qt_e (specHeapOk_q (x := x) (has_g h hm)) (by rw [hS])) ?_))
      | refine a_n ?_
      | (refine k_V ?_; first | refine v_seq ?_ | refine v_reg ?_ | refine v_skip ?_ | refine v_cf rfl ?_))
    refine l_fix (fun m' hm' => ?_)
    refine g_c rfl (l2holds_a (hs m' hm') hs1.r1 hs1.r2 hs1.r4) (fun v As' hq => ?_)
    obtain ⟨sd, rfl, rfl⟩ := hq
    repeat' (first
      | (refine k_L ?_; first | (refine k_ad ?_; refine g_ad rfl rfl ?_) | (refine k_su ?_; refine g_su rfl rfl ?_) | (refine k_ml ?_; refine g_ml rfl rfl ?_) | refine a_p rfl ?_ | (refine k_g ?_; first | refine a_gy rfl rfl ?_ | refine a_gn rfl rfl ?_ | refine a_gu rfl ?_ | (refine a_gd rfl (fun hb => ?_) (fun hb => ?_) <;> try (exfalso; omega)) | (refine a_ge rfl (fun hb => ?_) (fun hb => ?_) <;> try (exfalso; omega)) | (refine a_gne rfl (fun hb => ?_) (fun hb => ?_) <;> try (exfalso; omega)) | (refine a_gnd rfl (fun hb => ?_) (fun hb => ?_) <;> try (exfalso; omega))) | (refine k_l ?_; refine g_l rfl ?_) | (refine k_i ?_; refine g_i rfl rfl ?_) | (refine k_ls ?_; refine g_ls rfl ?_) | (refine k_st ?_; first | refine g_st rfl rfl rfl rfl ?_ | refine g_sw rfl rfl rfl rfl (Nat.le_of_ble_eq_true rfl) ?_) | (refine k_al ?_; refine a_al ?_) | (refine k_bx ?_; refine a_bx rfl rfl ?_) | (refine k_bl ?_; refine a_bl rfl ?_) | (refine k_p ?_; first | (refine a_pd rfl (fun hb => ?_) (fun hb => ?_) <;> try (exfalso; omega)) | (refine a_pe rfl (fun hb => ?_) (fun hb => ?_) <;> try (exfalso; omega)) | (refine a_pne rfl (fun hb => ?_) (fun hb => ?_) <;> try (exfalso; omega)) | (refine a_pnd rfl (fun hb => ?_) (fun hb => ?_) <;> try (exfalso; omega))))
      | refine a_n ?_
      | (refine k_V ?_; first | refine v_rv ?_ | refine v_seq ?_ | refine v_reg ?_ | refine v_dreg ?_ | refine v_zreg ?_ | refine v_bs ?_ | refine v_br ?_ | refine v_bd ?_ | refine v_bc ?_ | refine v_bk ?_ | refine v_bb ?_ | refine v_ret ?_ | refine v_exit ?_ | refine v_skip ?_ | refine v_ct rfl ?_ | refine v_cf rfl ?_ | (refine v_cd rfl (fun hb => ?_) (fun hb => ?_) <;> try (exfalso; omega)) | (refine v_ce rfl (fun hb => ?_) (fun hb => ?_) <;> try (exfalso; omega)) | (refine v_cn rfl (fun hb => ?_) (fun hb => ?_) <;> try (exfalso; omega)) | (refine v_cnd rfl (fun hb => ?_) (fun hb => ?_) <;> try (exfalso; omega)))
      | refine s_n ?_
      | refine s_r ?_
      | refine s_e ?_
      | refine b_n ?_
      | refine b_r ?_
      | refine b_e ?_
      | refine b_o rfl ?_
      | refine r_rt ?_
      | refine r_bk rfl ?_
      | refine r_ex rfl rfl ?_
      | refine sk_zero ?_
      | refine sk_succ ?_
      | refine wk_nil ?_
      | refine wk_cons ?_)
    refine g_c rfl (l2sum_a (L := heldL x.H) (hs m' hm') hs1.r1 hs1.r2 (by rw [heldL_len, x.len]) (fun i c hi hc => ?_)) (fun v As' hq => ?_)
    · obtain ⟨c', hc', hst, _⟩ := held_ok hs1.r2 hs1.r4 (heldL_at hi)
      rw [hc] at hc'; cases hc'; exact hst
    obtain ⟨rfl, rfl⟩ := hq
    repeat' (first
      | (refine k_L ?_; refine a_p rfl ?_)
      | refine a_n ?_
      | (refine k_V ?_; refine v_ret ?_))
    exact fa_r (As' := [ro m]) (fun _ _ => rfl) ((Pm.ent (As1 := [ro m']) (by (fail_if_success apply pm_bad); (repeat (first | exact pm_nil | (apply pm_cons; repeat (first | exact pk_h | apply pk_t)))); fail_if_success focus skip)).trans (ent_ro (hr m' hm'))) ⟨by rw [if_pos hS, x.len], rfl⟩
  · refine qt_of (fnA_of (fun h => fn42 (by simp) h) ?_)
    refine v_seq (v_reg (a_nwh x rfl (fun b => ?_)))
    repeat' (first
      | (refine k_L ?_; first | refine a_p rfl ?_ | (refine k_ls ?_; refine g_ls rfl ?_) | (refine k_c ?_; refine a_cq rfl (fun m hm => specHeapOk_q (x := x) (has_g h hm)) ?_))
      | refine a_n ?_
      | (refine k_V ?_; first | refine v_rv ?_ | refine v_seq ?_ | refine v_reg ?_ | (refine v_cn rfl (fun hb => ?_) (fun hb => ?_) <;> try (exfalso; omega)))
      | refine s_r ?_)
    exact fa_q (by simp) (fun _ _ => rfl) (by rw [if_neg hS])
noncomputable def Heap.holds (H : Heap) : List Bool := if okH H = 0 then heldL H else []
theorem implHolds_a {m : Mem} {x : HX} (h : Has m x.body) : FnA Try.prog 50 [x.v] [ro m] (fun v As => ∃ E, (∃ sd : D, v = .slice sd.a x.H.holds.length sd.cap ∧ E = [slA 1 bv sd x.H.holds]) ∧ As = E ++ [ro m]) := by
  unfold Heap.holds
  refine fnA_of (fun h => fn50 (by simp) h) ?_
  refine v_seq (v_reg (a_nwh x rfl (fun b => ?_)))
  have hs : ∀ m', star [hdA b x.hdr, ro m] m' → Has m' (hp b x) := fun m' s => has_new h s (by (fail_if_success apply pm_bad); (repeat (first | exact pm_nil | (apply pm_cons; repeat (first | exact pk_h | apply pk_t)))); fail_if_success focus skip) (F := [])
  have hr : ∀ m', star [hdA b x.hdr, ro m] m' → m.le m' := fun m' s => ro_of s (by (fail_if_success apply pm_bad); (repeat (first | exact pm_nil | (apply pm_cons; repeat (first | exact pk_h | apply pk_t)))); fail_if_success focus skip) (F := [hdA b x.hdr])
  by_cases hS : okH x.H = 0
  · have hs1 := (okH_sound x.H).1 hS
    rw [if_pos hS]
    repeat' (first
      | (refine k_L ?_; first | refine a_p rfl ?_ | (refine k_ls ?_; refine g_ls rfl ?_) | (refine k_c ?_; refine a_cq rfl (fun m hm => qt_e (sound_q (x := x) (has_g h hm)) (congrArg Value.bool (decide_eq_true hS))) ?_))
      | refine a_n ?_
      | (refine k_V ?_; first | refine v_seq ?_ | refine v_reg ?_ | refine v_skip ?_ | refine v_cf rfl ?_))
    refine l_fix (fun m' hm' => ?_)
    refine g_c rfl (holds_a (hs m' hm') hs1.r1 hs1.r2 hs1.r4) (fun v As' hq => ?_)
    obtain ⟨sd, rfl, rfl⟩ := hq
    repeat' (first
      | (refine k_L ?_; refine a_p rfl ?_)
      | refine a_n ?_
      | (refine k_V ?_; refine v_ret ?_))
    exact fa_r (As' := [slA 1 bv sd (heldL x.H), ro m]) (fun _ _ => rfl) (Ent.cons (ent_ro (hr m' hm'))) ⟨_, ⟨sd, rfl, rfl⟩, rfl⟩
  · rw [if_neg hS]
    repeat' (first
      | (refine k_L ?_; first | refine a_p rfl ?_ | (refine k_ls ?_; refine g_ls rfl ?_) | (refine k_c ?_; refine a_cq rfl (fun m hm => qt_e (sound_q (x := x) (has_g h hm)) (congrArg Value.bool (decide_eq_false hS))) ?_))
      | refine a_n ?_
      | (refine k_V ?_; first | refine v_rv ?_ | refine v_seq ?_ | refine v_reg ?_ | refine v_ct rfl ?_)
      | refine s_r ?_)
    exact fa_r (As' := [slA 1 bv ⟨none, 0⟩ [], ro m]) (fun _ _ => rfl) ((Pm.ent (As1 := [ro m]) (by (fail_if_success apply pm_bad); (repeat (first | exact pm_nil | (apply pm_cons; repeat (first | exact pk_h | apply pk_t)))); fail_if_success focus skip)).trans ent_new) ⟨_, ⟨⟨none, 0⟩, rfl, rfl⟩, rfl⟩
theorem specHolds_a {m : Mem} {x : HX} (h : Has m x.body) : FnA Try.prog 49 [x.v] [ro m] (fun v As => ∃ E, (∃ sd : D, v = .slice sd.a x.H.holds.length sd.cap ∧ E = [slA 1 bv sd x.H.holds]) ∧ As = E ++ [ro m]) := by
  unfold Heap.holds
  refine fnA_of (fun h => fn49 (by simp) h) ?_
  refine v_seq (v_reg (a_nwh x rfl (fun b => ?_)))
  have hs : ∀ m', star [hdA b x.hdr, ro m] m' → Has m' (hp b x) := fun m' s => has_new h s (by (fail_if_success apply pm_bad); (repeat (first | exact pm_nil | (apply pm_cons; repeat (first | exact pk_h | apply pk_t)))); fail_if_success focus skip) (F := [])
  have hr : ∀ m', star [hdA b x.hdr, ro m] m' → m.le m' := fun m' s => ro_of s (by (fail_if_success apply pm_bad); (repeat (first | exact pm_nil | (apply pm_cons; repeat (first | exact pk_h | apply pk_t)))); fail_if_success focus skip) (F := [hdA b x.hdr])
  by_cases hS : okH x.H = 0
  · have hs1 := (okH_sound x.H).1 hS
    rw [if_pos hS]
    repeat' (first
      | (refine k_L ?_; first | refine a_p rfl ?_ | (refine k_ls ?_; refine g_ls rfl ?_) | (refine k_c ?_; refine a_cq rfl (fun m hm => qt_e (specHeapOk_q (x := x) (has_g h hm)) (by rw [hS])) ?_))
      | refine a_n ?_
      | (refine k_V ?_; first | refine v_seq ?_ | refine v_reg ?_ | refine v_skip ?_ | refine v_cf rfl ?_))
    refine l_fix (fun m' hm' => ?_)
    refine g_c rfl (l2holds_a (hs m' hm') hs1.r1 hs1.r2 hs1.r4) (fun v As' hq => ?_)
    obtain ⟨sd, rfl, rfl⟩ := hq
    repeat' (first
      | (refine k_L ?_; refine a_p rfl ?_)
      | refine a_n ?_
      | (refine k_V ?_; refine v_ret ?_))
    exact fa_r (As' := [slA 1 bv sd (heldL x.H), ro m]) (fun _ _ => rfl) (Ent.cons (ent_ro (hr m' hm'))) ⟨_, ⟨sd, rfl, rfl⟩, rfl⟩
  · rw [if_neg hS]
    repeat' (first
      | (refine k_L ?_; first | refine a_p rfl ?_ | (refine k_ls ?_; refine g_ls rfl ?_) | (refine k_c ?_; refine a_cq rfl (fun m hm => specHeapOk_q (x := x) (has_g h hm)) ?_))
      | refine a_n ?_
      | (refine k_V ?_; first | refine v_rv ?_ | refine v_seq ?_ | refine v_reg ?_ | (refine v_cn rfl (fun hb => ?_) (fun hb => ?_) <;> try (exfalso; omega)))
      | refine s_r ?_)
    exact fa_r (As' := [slA 1 bv ⟨none, 0⟩ [], ro m]) (fun _ _ => rfl) ((Pm.ent (As1 := [ro m]) (by (fail_if_success apply pm_bad); (repeat (first | exact pm_nil | (apply pm_cons; repeat (first | exact pk_h | apply pk_t)))); fail_if_success focus skip)).trans ent_new) ⟨_, ⟨⟨none, 0⟩, rfl, rfl⟩, rfl⟩
end Go.Proofs.Ytcmllambknfleaa.E
/- The functions of the program in the engine's form, written by a program out of the loaded translation, and checked against it by the kernel. Conditions: none. -/
set_option maxRecDepth 100000
set_option linter.unusedVariables false
namespace Go.Proofs.Ytcmllambknfleaa.E
open Go
/-! laws.FnExactCounted -/
noncomputable def e10 : Env := ⟨Try.prog, [1, 5], 27, [(10, 0)]⟩
noncomputable def c10 : C :=
  .seq (.reg [
    ⟨some 1, none, .box true (.tmp 0)⟩,
    ⟨some 2, none, .mov (.const (.bool false))⟩]) (.seq (.reg [
    ⟨some 3, none, .mov (.const (.int .i64 1048576))⟩]) (.seq (.reg [
    ⟨some 7, none, .load false 13 (.tmp 1)⟩,
    ⟨some 8, none, .mov (.tmp 3)⟩,
    ⟨some 9, none, .call 30 [.tmp 7, .tmp 8]⟩,
    ⟨some 3, none, .mov (.tmp 9)⟩]) (.seq (.seq (.reg [
    ⟨some 10, none, .mov (.tmp 3)⟩,
    ⟨some 11, none, .bin .lss (.tmp 10) (.const (.int .i64 0))⟩]) (.cond (.tmp 11) (.seq (.reg [
    ⟨some 2, none, .mov (.const (.bool true))⟩]) (.ret)) (.skip))) (.seq (.reg [
    ⟨some 12, none, .load false 13 (.tmp 1)⟩,
    ⟨some 13, none, .call 32 [.tmp 12]⟩,
    ⟨some 14, none, .call 42 [.tmp 13]⟩,
    ⟨some 4, none, .mov (.tmp 14)⟩]) (.seq (.reg [
    ⟨some 15, none, .load false 13 (.tmp 1)⟩,
    ⟨some 16, none, .call 32 [.tmp 15]⟩,
    ⟨some 5, none, .alloc true [.int .i64 0, .int .i64 0, .int .i64 0, .slice none 0 0, .slice none 0 0, .int .i64 0, .int .i64 0, .int .i64 0, .slice none 0 0, .int .i64 0, .int .i64 0, .int .i64 0, .int .i64 0]⟩,
    ⟨none, none, .store 13 (.tmp 5) (.tmp 16)⟩]) (.seq (.reg [
    ⟨some 17, none, .load false 13 (.tmp 5)⟩,
    ⟨some 18, none, .call 43 [.tmp 17]⟩,
    ⟨some 6, none, .mov (.tmp 18)⟩]) (.seq (.seq (.reg [
    ⟨some 19, none, .mov (.tmp 6)⟩,
    ⟨some 20, none, .mov (.tmp 4)⟩,
    ⟨some 21, none, .bin .neq (.tmp 19) (.tmp 20)⟩]) (.cond (.tmp 21) (.seq (.reg [
    ⟨some 2, none, .mov (.const (.bool false))⟩]) (.ret)) (.skip))) (.seq (.seq (.zreg [22, 23, 24, 25, 26] [
    ⟨some 22, none, .load false 13 (.tmp 5)⟩,
    ⟨some 23, none, .load false 13 (.tmp 1)⟩] [
    ⟨some 24, none, .call 32 [.tmp 23]⟩,
    ⟨some 25, none, .call 27 [.tmp 22, .tmp 24]⟩,
    ⟨some 26, none, .not (.tmp 25)⟩]) (.cond (.tmp 26) (.seq (.reg [
    ⟨some 2, none, .mov (.const (.bool false))⟩]) (.ret)) (.skip))) (.seq (.reg [
    ⟨some 2, none, .mov (.const (.bool true))⟩]) (.ret))))))))))
theorem t10 : Try.f10.body.bind (trC e10) = some c10 := by kernel_rfl
theorem r10 : Try.f10.results.toList.mapM (trR Try.prog) = some [.tmp 2] := by kernel_rfl
theorem fn10 {args : List Value} {M : Mem} {post : Value → Mem → Prop} (hl : args.length ≤ 27) (h : VC e10 c10 (fnQ [.tmp 2] post) (initS args 27) M) : Fn Try.prog 10 args M post :=
  Fn.of' (E := e10) Try.func10 t10 rfl r10 mixed hl h
end Go.Proofs.Ytcmllambknfleaa.E
/- The law on Counted. Conditions: none. -/
set_option linter.unusedVariables false
set_option linter.unusedSimpArgs false
set_option maxHeartbeats 4000000
set_option maxRecDepth 100000
namespace Go.Proofs.Ytcmllambknfleaa.E
open Go
open Classical
theorem fnExactCounted_q {M : Mem} {x : HS} (hx : RHVR M x) : Qt Try.prog 10 [x.v] M (.bool true) := by
  refine qt_of (fnA_of (fun h => fn10 (by simp) h) ?_)
  repeat' (first
    | (refine k_L ?_; first | refine a_p rfl ?_ | (refine k_bx ?_; refine a_bx rfl rfl ?_) | (refine k_c ?_; refine a_cq rfl (fun m hm => szHeap_q (by omega) (by omega) (hx.le (ro_of hm (by (fail_if_success apply pm_bad); (repeat (first | exact pm_nil | (apply pm_cons; repeat (first | exact pk_h | apply pk_t)))); fail_if_success focus skip)))) ?_))
    | refine a_n ?_
    | (refine k_V ?_; first | refine v_rv ?_ | refine v_seq ?_ | refine v_reg ?_ | refine v_skip ?_ | (refine v_cd rfl (fun hb => ?_) (fun hb => ?_) <;> try (exfalso; omega)))
    | refine s_r ?_)
  · exact fa_q (by simp) (fun _ _ => rfl) rfl
  have hb' : x.H.bulk ≤ 1048576 := by
    by_cases h : x.H.bulk ≤ 1048576
    · exact h
    · rw [if_neg h] at *; omega
  refine g_c rfl (toHeap_a hb' hx) (fun v As' hq => ?_)
  obtain ⟨y, rfl, hy, rfl⟩ := hq
  repeat' (first
    | (refine k_L ?_; first | refine a_p rfl ?_ | (refine k_c ?_; refine a_cq rfl (fun m hm => qt_e (specCounted_q (x := y) (has_p hm)) (by rw [hy])) ?_))
    | refine a_n ?_
    | (refine k_V ?_; first | refine v_seq ?_ | refine v_reg ?_))
  refine g_c rfl (toHeap_a hb' hx) (fun v As' hq => ?_)
  obtain ⟨z, rfl, hz, rfl⟩ := hq
  repeat' (first
    | (refine k_L ?_; first | refine a_p rfl ?_ | (refine k_st ?_; refine g_sw rfl rfl rfl rfl (Nat.le_of_ble_eq_true rfl) ?_) | (refine k_al ?_; refine a_al ?_) | (refine k_c ?_; refine a_cq rfl (fun m hm => qt_e (implCounted_q (x := z) (has_p hm)) (by rw [hz])) ?_))
    | refine a_n ?_
    | (refine k_V ?_; first | refine v_seq ?_ | refine v_reg ?_ | refine v_zreg ?_ | refine v_skip ?_ | (refine v_cn rfl (fun hb => ?_) (fun hb => ?_) <;> try (exfalso; omega)))
    | refine sk_zero ?_
    | refine sk_succ ?_
    | refine wk_nil ?_
    | refine wk_cons ?_)
  refine g_c rfl (toHeap_a hb' hx) (fun v As' hq => ?_)
  obtain ⟨u, rfl, hu, rfl⟩ := hq
  repeat' (first
    | (refine k_L ?_; first | refine a_p rfl ?_ | (refine k_c ?_; refine a_cq rfl (fun m hm => qt_e (eqHeap_q (x := z.hs) (y := u.hs) (has_p hm).b (has_p hm).b) (congrArg Value.bool (decide_eq_true (hz.trans hu.symm)))) ?_))
    | refine a_n ?_
    | (refine k_V ?_; first | refine v_rv ?_ | refine v_skip ?_ | refine v_cf rfl ?_))
  exact fa_q (by simp) (fun _ _ => rfl) rfl
end Go.Proofs.Ytcmllambknfleaa.E
/- The row of Counted. Conditions: none. -/
set_option linter.unusedVariables false
set_option linter.unusedSimpArgs false
set_option maxRecDepth 100000
namespace Go.Proofs.Ytcmllambknfleaa.E
open Go Go.ChangeShapes Go.WideShapes Go.ChangeAt Go.RowKit
theorem liftedCounted (os : Os) (started : os.Started) (H : Type) (enc : TypeId × Value → H) :
    ReturnsInHanded {} Try.checked os 10 .any (Rows.fnExactCountedSpec.pre6 enc Try.prog Try.f10 Rows.fnExactCountedRow.domain false) (Rows.fnExactCountedSpec.post enc Try.prog Try.f10 false true false false) := by
  refine returnsInHanded_of_change_sized (C := Try.checked) ownknob started (by kernel_rfl) Try.func10
    (ChangeSpec.witness6 (enc := enc) (C := Try.checked) false ⟨#[], #[.agg #[.int .i64 0, .int .i64 0, .int .i64 0, .slice none 0 0, .slice none 0 0, .int .i64 0, .int .i64 0, .int .i64 0, .slice none 0 0, .int .i64 0, .int .i64 0, .int .i64 0, .int .i64 0]], []⟩ 8 (by kernel_rfl) (by kernel_rfl) (by kernel_rfl) (by kernel_rfl)) ?_
  intro W base args ds gs before hval0 hW hcnd hsz0 _
  have hval : ∀ (j : Nat) t v, Try.f10.params[j]? = some t → args[j]? = some v → Value.okWide Try.prog W .any base t v := hval0
  have hW' := hW
  obtain ⟨p, q, hA0, hV, rfl, hfz, hnd⟩ := hW
  have hA : DataW.TrodAll enc Try.prog W 0 (fun _ => true) true [43] args.toList ds p := hA0
  obtain ⟨v0, d0, rfl, rfl, h0⟩ := trodAll_one hA
  obtain ⟨rfl, rfl⟩ := trodVars_none hV
  obtain ⟨cs, rfl, _⟩ := okWide_struct und_heap (hval 0 43 v0 rfl rfl)
  clear hA0 hval0 hsz0
  have h0k := h0
  obtain ⟨fuel, h0'⟩ := h0
  obtain ⟨x, e, hx⟩ := open_heap h0'
  have e : cs = (hv x.H x.rs x.cs x.gs).toArray := by
    have : cs.toList = hv x.H x.rs x.cs x.gs := e
    rw [← this]
  subst e
  have hlt : ∀ x ∈ p, x.block < W.heap.size := fun x hx => by simpa using hW'.lt x (by simp [hx])
  have hq : Fn Try.prog 10 [x.v] (memOf W) (fun v M' => v = .bool true ∧ (memOf W).le M') := (fnExactCounted_q hx).mono fun v M' ⟨h1, h2⟩ => ⟨h1, by rw [h2]; exact Mem.le_refl _⟩
  refine (row_of hq).mono fun e W' ⟨he, bel⟩ => ?_
  subst he
  have hT := Below.trod laid (by kernel_rfl) (of_decide_eq_true (by kernel_rfl)) h0k bel hlt
  exact ⟨_, rfl, _, _, _, [], _, [], hW', trodAll_mk1 (shut_bool und_bool _), trodAll_mk1 hT, rfl, bel.frame _, fun h => by cases h⟩
end Go.Proofs.Ytcmllambknfleaa.E
namespace Go.Proofs.Ytcmllambknfleaa
open Go.ChangeShapes Go.WideShapes Go.ChangeAt Go.RowKit
/-- The row, under a short name, for the claim. -/
theorem fnExactCounted_holds : Rows.FnExactCountedSaid :=
  OpenClaim.holds_of_wide 10 Try.f10 rfl rfl rfl rfl rfl rfl rfl ⟨rfl, rfl, rfl, rfl, rfl⟩ rfl rfl rfl rfl rfl (by kernel_rfl) Try.func10 jfCounted
    (of_decide_eq_true (by kernel_rfl)) (by unfold Func.isWrapper; first | (rw [if_pos (by decide +kernel)]; kernel_rfl) | (rw [if_neg (by decide +kernel)]; exact ⟨rfl, rfl⟩))
    (fun os started H enc _ => E.liftedCounted os started H enc)
end Go.Proofs.Ytcmllambknfleaa
