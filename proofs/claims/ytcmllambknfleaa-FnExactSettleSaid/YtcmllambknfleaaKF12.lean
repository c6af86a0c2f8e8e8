/- A part of the proof. Conditions: none. -/
import Derived.Test.YtcmllambknfleaaKF11
import Derived.Test.YtcmllambknfleaaJfSettle
set_option linter.unusedVariables false
set_option linter.unusedSimpArgs false
set_option maxHeartbeats 8000000
set_option maxRecDepth 100000
namespace Go.Proofs.Ytcmllambknfleaa.E
open Go
open Classical
theorem settleA_ok (H : Heap) : OkK H.settleA := by
  unfold Heap.settleA
  split
  · rename_i h
    exact .inl (settle_sound ((okH_sound H).1 h))
  · exact .inr rfl
theorem eqSettled_q {x y : HX} {n k n2 k2 : Int} {m : Mem} (hx : Has m x.body) (hy : Has m y.body) (e : x.H = y.H) (en : n = k) (en2 : n2 = k2) : Qt Try.prog 57 [x.vn2 n n2, y.vn2 k k2] m (.bool true) := by
  refine qt_of (fnA_of (fun h => fn57 (by simp) h) ?_)
  subst en en2
  repeat' (first
    | (refine k_L ?_; first | refine a_p rfl ?_ | (refine k_bx ?_; refine a_bx rfl rfl ?_) | (refine k_c ?_; refine a_cq rfl (fun m hm => qt_e (eqHeap_q (x := x.hs) (y := y.hs) (has_g hx hm).b (has_g hy hm).b) (congrArg Value.bool (decide_eq_true e))) ?_))
    | refine a_n ?_
    | (refine k_V ?_; first | refine v_rv ?_ | refine v_seq ?_ | refine v_reg ?_ | refine v_skip ?_ | refine v_cf rfl ?_ | (refine v_cn rfl (fun hb => ?_) (fun hb => ?_) <;> try (exfalso; omega))))
  all_goals exact fa_q (by simp) (fun _ _ => rfl) rfl
theorem markSettled_a {x : HX} {n n2 k : Int} (h0 : 0 ≤ k) (hb : endH k x.H ≤ 4611686018427387904) : FnA Try.prog 58 [x.vn2 n n2, .int .i64 k] x.body (fun v As => v = .int .i64 (endH k x.H) ∧ ∃ y : HX, y.hs = gH k x.hs ∧ As = y.body) := by
  refine fnA_of (fun h => fn58 (by simp) h) ?_
  repeat' (first
    | (refine k_L ?_; first | refine a_p rfl ?_ | (refine k_bx ?_; refine a_bx rfl rfl ?_))
    | refine a_n ?_
    | (refine k_V ?_; first | refine v_seq ?_ | refine v_reg ?_))
  refine g_c rfl (markHeap_a (x := x) (k := k) h0 hb) (fun v As' hq => ?_)
  obtain ⟨rfl, gn, hgn, rfl⟩ := hq
  repeat' (first
    | (refine k_L ?_; refine a_p rfl ?_)
    | refine a_n ?_
    | (refine k_V ?_; first | refine v_seq ?_ | refine v_reg ?_ | refine v_ret ?_))
  exact fa_r (As' := gn.body) (fun _ _ => rfl) (Pm.ent (by (fail_if_success apply pm_bad); (repeat (first | exact pm_nil | (apply pm_cons; repeat (first | exact pk_h | apply pk_t)))); fail_if_success focus skip)) ⟨rfl, gn, hgn, rfl⟩
theorem heldSettled_q {x y : HX} {n n2 k : Int} {m : Mem} (h0 : 0 ≤ k) (hb : 0 ≤ endH k x.H ∧ endH k x.H ≤ 4611686018427387904) (hy : y.hs = gH k x.hs) (h : Has m y.body) : Qt Try.prog 59 [x.vn2 n n2, .int .i64 k] m (.int .i64 (endH k x.H)) := by
  refine qt_of (fnA_of (fun h => fn59 (by simp) h) ?_)
  repeat' (first
    | (refine k_L ?_; first | refine a_p rfl ?_ | (refine k_bx ?_; refine a_bx rfl rfl ?_) | (refine k_c ?_; refine a_cq rfl (fun m hm => heldHeap_a (x := x) (k := k) h0 hb.2 hy (has_g h hm)) ?_))
    | refine a_n ?_
    | (refine k_V ?_; first | refine v_seq ?_ | refine v_reg ?_ | refine v_ret ?_ | refine v_skip ?_ | (refine v_cd rfl (fun hb => ?_) (fun hb => ?_) <;> try (exfalso; omega))))
  exact fa_q (by simp) (fun _ _ => rfl) rfl
theorem fnExactSettle_q {M : Mem} {x : HS} (hx : RHVR M x) : Qt Try.prog 15 [x.v] M (.bool true) := by
  refine qt_of (fnA_of (fun h => fn15 (by simp) h) ?_)
  repeat' (first
    | (refine k_L ?_; first | refine a_p rfl ?_ | (refine k_bx ?_; refine a_bx rfl rfl ?_) | (refine k_c ?_; refine a_cq rfl (fun m hm => szHeap_q (by omega) (by omega) (hx.le (ro_of hm (by (fail_if_success apply pm_bad); (repeat (first | exact pm_nil | (apply pm_cons; repeat (first | exact pk_h | apply pk_t)))); fail_if_success focus skip)))) ?_))
    | refine a_n ?_
    | (refine k_V ?_; first | refine v_rv ?_ | refine v_seq ?_ | refine v_reg ?_ | refine v_skip ?_ | (refine v_cd rfl (fun hb => ?_) (fun hb => ?_) <;> try (exfalso; omega)))
    | refine s_r ?_)
  · exact fa_q (by simp) (fun _ _ => rfl) rfl
  have hb' : x.H.bulk ≤ 1048576 := by
    by_cases h : x.H.bulk ≤ 1048576
    · exact h
    · rw [if_neg h] at *; omega
  have hpn := pairsN_nonneg x.H.cells
  have hb2 := hb'
  unfold Heap.bulk at hb2
  obtain ⟨k1, k2⟩ := (settleA_ok x.H).fin
  refine g_c rfl (toHeap_a hb' hx) (fun v As' hq => ?_)
  obtain ⟨y, rfl, hy, rfl⟩ := hq
  repeat' (first
    | (refine k_L ?_; first | (refine k_ad ?_; refine g_ad rfl rfl ?_) | (refine k_su ?_; refine g_su rfl rfl ?_) | (refine k_ml ?_; refine g_ml rfl rfl ?_) | refine a_p rfl ?_ | (refine k_g ?_; first | refine a_gy rfl rfl ?_ | refine a_gn rfl rfl ?_ | refine a_gu rfl ?_ | (refine a_gd rfl (fun hb => ?_) (fun hb => ?_) <;> try (exfalso; omega)) | (refine a_ge rfl (fun hb => ?_) (fun hb => ?_) <;> try (exfalso; omega)) | (refine a_gne rfl (fun hb => ?_) (fun hb => ?_) <;> try (exfalso; omega)) | (refine a_gnd rfl (fun hb => ?_) (fun hb => ?_) <;> try (exfalso; omega))) | (refine k_l ?_; refine g_l rfl ?_) | (refine k_i ?_; refine g_i rfl rfl ?_) | (refine k_ls ?_; refine g_ls rfl ?_) | (refine k_st ?_; first | refine g_st rfl rfl rfl rfl ?_ | refine g_sw rfl rfl rfl rfl (Nat.le_of_ble_eq_true rfl) ?_) | (refine k_al ?_; refine a_al ?_) | (refine k_bx ?_; refine a_bx rfl rfl ?_) | (refine k_bl ?_; refine a_bl rfl ?_) | (refine k_p ?_; first | (refine a_pd rfl (fun hb => ?_) (fun hb => ?_) <;> try (exfalso; omega)) | (refine a_pe rfl (fun hb => ?_) (fun hb => ?_) <;> try (exfalso; omega)) | (refine a_pne rfl (fun hb => ?_) (fun hb => ?_) <;> try (exfalso; omega)) | (refine a_pnd rfl (fun hb => ?_) (fun hb => ?_) <;> try (exfalso; omega))))
    | refine a_n ?_
    | (refine k_V ?_; first | refine v_rv ?_ | refine v_seq ?_ | refine v_reg ?_ | refine v_dreg ?_ | refine v_zreg ?_ | refine v_bs ?_ | refine v_br ?_ | refine v_bd ?_ | refine v_bc ?_ | refine v_bk ?_ | refine v_bb ?_ | refine v_ret ?_ | refine v_exit ?_ | refine v_skip ?_ | refine v_ct rfl ?_ | refine v_cf rfl ?_ | (refine v_cd rfl (fun hb => ?_) (fun hb => ?_) <;> try (exfalso; omega)) | (refine v_ce rfl (fun hb => ?_) (fun hb => ?_) <;> try (exfalso; omega)) | (refine v_cn rfl (fun hb => ?_) (fun hb => ?_) <;> try (exfalso; omega)) | (refine v_cnd rfl (fun hb => ?_) (fun hb => ?_) <;> try (exfalso; omega)))
    | refine s_n ?_
    | refine s_r ?_
    | refine s_e ?_
    | refine b_n ?_
    | refine b_r ?_
    | refine b_e ?_
    | refine b_o rfl ?_
    | refine r_rt ?_
    | refine r_bk rfl ?_
    | refine r_ex rfl rfl ?_
    | refine sk_zero ?_
    | refine sk_succ ?_
    | refine wk_nil ?_
    | refine wk_cons ?_)
  refine g_c rfl (fna_ro (q := fun v E => ∃ u : HX, v = u.vn2 (settleG y.H) (settleD y.H) ∧ u.H = y.H.settleA ∧ E = u.body) (fun m hm => specSettle_a (x := y) (has_star hm))) (fun v As' hq => ?_)
  obtain ⟨_, ⟨ws, rfl, hw, rfl⟩, rfl⟩ := hq
  rw [hy] at hw ⊢
  repeat' (first
    | (refine k_L ?_; first | refine a_p rfl ?_ | (refine k_st ?_; refine g_sw rfl rfl rfl rfl (Nat.le_of_ble_eq_true rfl) ?_) | (refine k_al ?_; refine a_al ?_))
    | refine a_n ?_
    | (refine k_V ?_; first | refine v_seq ?_ | refine v_reg ?_)
    | refine sk_zero ?_
    | refine sk_succ ?_
    | refine wk_nil ?_
    | refine wk_cons ?_)
  refine g_c rfl (toHeap_a hb' hx) (fun v As' hq => ?_)
  obtain ⟨z, rfl, hz, rfl⟩ := hq
  repeat' (first
    | (refine k_L ?_; first | refine a_p rfl ?_ | (refine k_st ?_; refine g_sw rfl rfl rfl rfl (Nat.le_of_ble_eq_true rfl) ?_) | (refine k_al ?_; refine a_al ?_))
    | refine a_n ?_
    | (refine k_V ?_; first | refine v_seq ?_ | refine v_reg ?_)
    | refine sk_zero ?_
    | refine sk_succ ?_
    | refine wk_nil ?_
    | refine wk_cons ?_)
  refine g_c rfl (fna_ro (q := fun v E => ∃ u : HX, v = u.vn2 (settleG z.H) (settleD z.H) ∧ u.H = z.H.settleA ∧ E = u.body) (fun m hm => implSettle_a (x := z) (has_star hm))) (fun v As' hq => ?_)
  obtain ⟨_, ⟨gs, rfl, hg, rfl⟩, rfl⟩ := hq
  rw [hz] at hg ⊢
  repeat' (first
    | (refine k_L ?_; first | refine a_p rfl ?_ | (refine k_st ?_; refine g_sw rfl rfl rfl rfl (Nat.le_of_ble_eq_true rfl) ?_) | (refine k_al ?_; refine a_al ?_) | (refine k_c ?_; refine a_cq rfl (fun m hm => eqSettled_q (x := gs) (y := ws) (has_p (Bs := gs.body) hm) (has_p (Bs := ws.body) hm) (hg.trans hw.symm) rfl rfl) ?_))
    | refine a_n ?_
    | (refine k_V ?_; first | refine v_seq ?_ | refine v_reg ?_ | refine v_zreg ?_ | refine v_skip ?_ | refine v_cf rfl ?_)
    | refine sk_zero ?_
    | refine sk_succ ?_
    | refine wk_nil ?_
    | refine wk_cons ?_)
  refine g_c rfl (toHeap_a hb' hx) (fun v As' hq => ?_)
  obtain ⟨u, rfl, hu, rfl⟩ := hq
  repeat' (first
    | (refine k_L ?_; first | refine a_p rfl ?_ | (refine k_c ?_; refine a_cq rfl (fun m hm => qt_e (eqHeap_q (x := z.hs) (y := u.hs) (has_p hm).b (has_p hm).b) (congrArg Value.bool (decide_eq_true (hz.trans hu.symm)))) ?_))
    | refine a_n ?_
    | (refine k_V ?_; first | refine v_seq ?_ | refine v_reg ?_ | refine v_skip ?_ | refine v_cf rfl ?_))
  have he := endH_eq 1 z.H
  rw [hz] at he
  refine g_c rfl (markHeap_d (x := z) (k := 1) (by omega) (by rw [hz]; omega)) (fun v As' hq => ?_)
  obtain ⟨rfl, rfl⟩ := hq
  rw [hz]
  repeat' (first
    | (refine k_L ?_; first | refine a_p rfl ?_ | (refine k_g ?_; first | refine a_gy rfl rfl ?_ | (refine a_gd rfl (fun hb => ?_) (fun hb => ?_) <;> try (exfalso; omega))) | (refine k_c ?_; refine a_cq rfl (fun m hm => eqSettled_q (x := gs) (y := ws) (has_p (Bs := gs.body) hm) (has_p (Bs := ws.body) hm) (hg.trans hw.symm) rfl rfl) ?_))
    | refine a_n ?_
    | (refine k_V ?_; first | refine v_seq ?_ | refine v_reg ?_ | refine v_skip ?_ | refine v_cf rfl ?_))
  refine g_c rfl (markSettled_a (x := gs) (k := 1) (by omega) (by rw [hg]; omega)) (fun v As' hq => ?_)
  obtain ⟨rfl, gn, hgn, rfl⟩ := hq
  rw [hg]
  repeat' (first
    | (refine k_L ?_; first | refine a_p rfl ?_ | (refine k_c ?_; refine a_cq rfl (fun m hm => qt_e (heldSettled_q (x := gs) (k := 1) (by omega) (by rw [hg]; omega) hgn (has_p (Bs := gn.body) hm)) (by rw [hg])) ?_))
    | refine a_n ?_
    | (refine k_V ?_; first | refine v_seq ?_ | refine v_reg ?_ | refine v_skip ?_ | (refine v_cd rfl (fun hb => ?_) (fun hb => ?_) <;> try (exfalso; omega)) | (refine v_cn rfl (fun hb => ?_) (fun hb => ?_) <;> try (exfalso; omega))))
  refine g_c rfl (toHeap_a hb' hx) (fun v As' hq => ?_)
  obtain ⟨t, rfl, ht, rfl⟩ := hq
  repeat' (first
    | (refine k_L ?_; first | (refine k_ad ?_; refine g_ad rfl rfl ?_) | (refine k_su ?_; refine g_su rfl rfl ?_) | (refine k_ml ?_; refine g_ml rfl rfl ?_) | refine a_p rfl ?_ | (refine k_g ?_; first | refine a_gy rfl rfl ?_ | refine a_gn rfl rfl ?_ | refine a_gu rfl ?_ | (refine a_gd rfl (fun hb => ?_) (fun hb => ?_) <;> try (exfalso; omega)) | (refine a_ge rfl (fun hb => ?_) (fun hb => ?_) <;> try (exfalso; omega)) | (refine a_gne rfl (fun hb => ?_) (fun hb => ?_) <;> try (exfalso; omega)) | (refine a_gnd rfl (fun hb => ?_) (fun hb => ?_) <;> try (exfalso; omega))) | (refine k_l ?_; refine g_l rfl ?_) | (refine k_i ?_; refine g_i rfl rfl ?_) | (refine k_ls ?_; refine g_ls rfl ?_) | (refine k_st ?_; first | refine g_st rfl rfl rfl rfl ?_ | refine g_sw rfl rfl rfl rfl (Nat.le_of_ble_eq_true rfl) ?_) | (refine k_al ?_; refine a_al ?_) | (refine k_bx ?_; refine a_bx rfl rfl ?_) | (refine k_bl ?_; refine a_bl rfl ?_) | (refine k_p ?_; first | (refine a_pd rfl (fun hb => ?_) (fun hb => ?_) <;> try (exfalso; omega)) | (refine a_pe rfl (fun hb => ?_) (fun hb => ?_) <;> try (exfalso; omega)) | (refine a_pne rfl (fun hb => ?_) (fun hb => ?_) <;> try (exfalso; omega)) | (refine a_pnd rfl (fun hb => ?_) (fun hb => ?_) <;> try (exfalso; omega))))
    | refine a_n ?_
    | (refine k_V ?_; first | refine v_rv ?_ | refine v_seq ?_ | refine v_reg ?_ | refine v_dreg ?_ | refine v_zreg ?_ | refine v_bs ?_ | refine v_br ?_ | refine v_bd ?_ | refine v_bc ?_ | refine v_bk ?_ | refine v_bb ?_ | refine v_ret ?_ | refine v_exit ?_ | refine v_skip ?_ | refine v_ct rfl ?_ | refine v_cf rfl ?_ | (refine v_cd rfl (fun hb => ?_) (fun hb => ?_) <;> try (exfalso; omega)) | (refine v_ce rfl (fun hb => ?_) (fun hb => ?_) <;> try (exfalso; omega)) | (refine v_cn rfl (fun hb => ?_) (fun hb => ?_) <;> try (exfalso; omega)) | (refine v_cnd rfl (fun hb => ?_) (fun hb => ?_) <;> try (exfalso; omega)))
    | refine s_n ?_
    | refine s_r ?_
    | refine s_e ?_
    | refine b_n ?_
    | refine b_r ?_
    | refine b_e ?_
    | refine b_o rfl ?_
    | refine r_rt ?_
    | refine r_bk rfl ?_
    | refine r_ex rfl rfl ?_
    | refine sk_zero ?_
    | refine sk_succ ?_
    | refine wk_nil ?_
    | refine wk_cons ?_)
  refine g_c rfl (fna_ro (q := fun v E => ∃ u : HX, v = u.vn2 (settleG t.H) (settleD t.H) ∧ u.H = t.H.settleA ∧ E = u.body) (fun m hm => implSettle_a (x := t) (has_star hm))) (fun v As' hq => ?_)
  obtain ⟨_, ⟨hd, rfl, hh, rfl⟩, rfl⟩ := hq
  rw [ht] at hh ⊢
  repeat' (first
    | (refine k_L ?_; first | refine a_p rfl ?_ | (refine k_st ?_; refine g_sw rfl rfl rfl rfl (Nat.le_of_ble_eq_true rfl) ?_) | (refine k_al ?_; refine a_al ?_) | (refine k_c ?_; first | refine a_cq rfl (fun m hm => eqSettled_q (x := hd) (y := ws) (has_p (Bs := hd.body) hm) (has_p (Bs := ws.body) hm) (hh.trans hw.symm) rfl rfl) ?_ | refine a_cq rfl (fun m hm => qt_e (heldSettled_q (x := gs) (k := 1) (by omega) (by rw [hg]; omega) hgn (has_p (Bs := gn.body) hm)) (by rw [hg])) ?_))
    | refine a_n ?_
    | (refine k_V ?_; first | refine v_rv ?_ | refine v_seq ?_ | refine v_reg ?_ | refine v_skip ?_ | refine v_cf rfl ?_ | (refine v_cd rfl (fun hb => ?_) (fun hb => ?_) <;> try (exfalso; omega)) | (refine v_cn rfl (fun hb => ?_) (fun hb => ?_) <;> try (exfalso; omega)))
    | refine sk_zero ?_
    | refine sk_succ ?_
    | refine wk_nil ?_
    | refine wk_cons ?_)
  exact fa_q (by simp) (fun _ _ => rfl) rfl
end Go.Proofs.Ytcmllambknfleaa.E
set_option linter.unusedVariables false
set_option linter.unusedSimpArgs false
set_option maxRecDepth 100000
namespace Go.Proofs.Ytcmllambknfleaa.E
open Go Go.ChangeShapes Go.WideShapes Go.ChangeAt Go.RowKit
theorem liftedSettle (os : Os) (started : os.Started) (H : Type) (enc : TypeId × Value → H) :
    ReturnsInHanded {} Try.checked os 15 .any (Rows.fnExactSettleSpec.pre6 enc Try.prog Try.f15 Rows.fnExactSettleRow.domain false) (Rows.fnExactSettleSpec.post enc Try.prog Try.f15 false true false false) := by
  refine returnsInHanded_of_change_sized (C := Try.checked) ownknob started (by kernel_rfl) Try.func15
    (ChangeSpec.witness6 (enc := enc) (C := Try.checked) false ⟨#[], #[.agg #[.int .i64 0, .int .i64 0, .int .i64 0, .slice none 0 0, .slice none 0 0, .int .i64 0, .int .i64 0, .int .i64 0, .slice none 0 0, .int .i64 0, .int .i64 0, .int .i64 0, .int .i64 0]], []⟩ 8 (by kernel_rfl) (by kernel_rfl) (by kernel_rfl) (by kernel_rfl)) ?_
  intro W base args ds gs before hval0 hW hcnd hsz0 _
  have hval : ∀ (j : Nat) t v, Try.f15.params[j]? = some t → args[j]? = some v → Value.okWide Try.prog W .any base t v := hval0
  have hW' := hW
  obtain ⟨p, q, hA0, hV, rfl, hfz, hnd⟩ := hW
  have hA : DataW.TrodAll enc Try.prog W 0 (fun _ => true) true [43] args.toList ds p := hA0
  obtain ⟨v0, d0, rfl, rfl, h0⟩ := trodAll_one hA
  obtain ⟨rfl, rfl⟩ := trodVars_none hV
  obtain ⟨cs, rfl, _⟩ := okWide_struct und_heap (hval 0 43 v0 rfl rfl)
  clear hA0 hval0 hsz0
  have h0k := h0
  obtain ⟨fuel, h0'⟩ := h0
  obtain ⟨x, e, hx⟩ := open_heap h0'
  have e : cs = (hv x.H x.rs x.cs x.gs).toArray := by
    have : cs.toList = hv x.H x.rs x.cs x.gs := e
    rw [← this]
  subst e
  have hlt : ∀ x ∈ p, x.block < W.heap.size := fun x hx => by simpa using hW'.lt x (by simp [hx])
  have hq : Fn Try.prog 15 [x.v] (memOf W) (fun v M' => v = .bool true ∧ (memOf W).le M') := (fnExactSettle_q hx).mono fun v M' ⟨h1, h2⟩ => ⟨h1, by rw [h2]; exact Mem.le_refl _⟩
  refine (row_of hq).mono fun e W' ⟨he, bel⟩ => ?_
  subst he
  have hT := Below.trod laid (by kernel_rfl) (of_decide_eq_true (by kernel_rfl)) h0k bel hlt
  exact ⟨_, rfl, _, _, _, [], _, [], hW', trodAll_mk1 (shut_bool und_bool _), trodAll_mk1 hT, rfl, bel.frame _, fun h => by cases h⟩
end Go.Proofs.Ytcmllambknfleaa.E
namespace Go.Proofs.Ytcmllambknfleaa
open Go.ChangeShapes Go.WideShapes Go.ChangeAt Go.RowKit
/-- The row, under a short name, for the claim. -/
theorem fnExactSettle_holds : Rows.FnExactSettleSaid :=
  OpenClaim.holds_of_wide 15 Try.f15 rfl rfl rfl rfl rfl rfl rfl ⟨rfl, rfl, rfl, rfl, rfl⟩ rfl rfl rfl rfl rfl (by kernel_rfl) Try.func15 jfSettle
    (of_decide_eq_true (by kernel_rfl)) (by unfold Func.isWrapper; first | (rw [if_pos (by decide +kernel)]; kernel_rfl) | (rw [if_neg (by decide +kernel)]; exact ⟨rfl, rfl⟩))
    (fun os started H enc _ => E.liftedSettle os started H enc)
end Go.Proofs.Ytcmllambknfleaa
