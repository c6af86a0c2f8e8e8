/- A part of the proof. Conditions: none. -/
import Derived.Test.YtcmllambknfleaaKE11
import Derived.Test.YtcmllambknfleaaJfStep
set_option linter.unusedVariables false
set_option linter.unusedSimpArgs false
set_option maxHeartbeats 8000000
set_option maxRecDepth 100000
namespace Go.Proofs.Ytcmllambknfleaa.E
open Go
open Classical
theorem l3sweep_a {a : Nat} {x : HX} (h : Sound x.H) (hph : x.H.phase = 3) : FnA Try.prog 168 [ptr a] (hp a x) (fun v As => ∃ z : HX, As = hp a z ∧ z.H = x.H.sweepU) := by
  obtain ⟨q1, q2, q3⟩ := sound_gray h
  have hl := x.len
  have hnc : x.hdr.nc = x.xs.length := rfl
  have hhd : x.hdr.hand = x.H.hand := rfl
  have h0 := h.r1.hand
  refine fnA_of (fun h => fn168 (by simp) h) ?_
  unfold Heap.sweepU
  by_cases hh : x.H.hand = x.H.cells.length
  · rw [if_pos hh]
    repeat' (first
      | (refine k_L ?_; first | refine a_p rfl ?_ | (refine k_l ?_; refine g_l rfl ?_) | (refine g_c rfl (l3phase_a (x := x)) (fun v As' hq => ?_); subst hq))
      | refine a_n ?_
      | (refine k_V ?_; first | refine v_seq ?_ | refine v_reg ?_ | refine v_dreg ?_ | refine v_ret ?_ | (refine v_cd rfl (fun hb => ?_) (fun hb => ?_) <;> try (exfalso; omega)))
      | refine s_r ?_)
    exact fa_r (fun _ _ => rfl) (Pm.ent (fin (x.ph 4 0))) ⟨_, rfl, ph_H rfl⟩
  · rw [if_neg hh]
    obtain ⟨k, hk⟩ := Int.eq_ofNat_of_zero_le h0.1
    have hk' : x.hdr.hand = k := hk
    obtain ⟨y, gy, gc⟩ := HX.at (x := x) (i := k) (by omega)
    have gk := HX.gc gy
    have gy' : x.xs[x.hdr.hand.toNat]? = some y := by rw [hk']; exact gy
    have hpl := h.r2.pl (List.mem_of_getElem? gc)
    have hus := h.r3
    have hnn := pairsN_nonneg x.H.cells
    have hun := pairsN_units h.r2
    have hrm := h.r1.room
    unfold R3 at hus
    have hud : x.hdr.used = x.H.used := rfl
    rw [hk, gk]
    repeat' (first
      | (refine k_L ?_; first | (refine k_ad ?_; refine g_ad rfl rfl ?_) | (refine k_su ?_; refine g_su rfl rfl ?_) | refine a_p rfl ?_ | (refine k_g ?_; first | refine a_gy rfl rfl ?_ | refine a_gn rfl rfl ?_ | (refine a_gd rfl (fun hb => ?_) (fun hb => ?_) <;> try (exfalso; omega))) | (refine k_l ?_; refine g_l rfl ?_) | (refine k_i ?_; refine g_i rfl rfl ?_) | (refine k_ls ?_; refine g_ls rfl ?_) | (refine k_st ?_; first | refine g_st rfl rfl rfl rfl ?_ | refine g_sw rfl rfl rfl rfl (Nat.le_of_ble_eq_true rfl) ?_) | (refine k_al ?_; refine a_al ?_) | (refine a_c0 CS.zero gy' rfl rfl rfl rfl rfl rfl rfl ?_))
      | refine a_n ?_
      | (refine k_V ?_; first | refine v_seq ?_ | refine v_reg ?_ | refine v_dreg ?_ | refine v_skip ?_ | refine v_cf rfl ?_ | (refine v_cd rfl (fun hb => ?_) (fun hb => ?_) <;> try (exfalso; omega)))
      | refine sk_zero ?_
      | refine sk_succ ?_
      | refine wk_nil ?_
      | refine wk_cons ?_)
    · refine fa_n (fun _ _ => rfl) (Pm.ent (fin { x with used := x.used - (1 + y.c.pairs.length), xs := x.xs.set x.hdr.hand.toNat CS.zero, hand := x.hand + 1 })) ⟨_, rfl, ?_⟩
      rw [if_pos ⟨by assumption, by assumption⟩]
      show ({ x.H with used := x.used - (1 + y.c.pairs.length), cells := (x.xs.set x.hdr.hand.toNat CS.zero).map (·.c), hand := x.hand + 1 } : Heap) = _
      rw [List.map_set, hk', show x.hand = k from hk]
      rfl
    all_goals refine fa_n (fun _ _ => rfl) (Pm.ent (fin { x with xs := x.xs.set x.hdr.hand.toNat (y.s_color 0), hand := x.hand + 1 })) ⟨_, rfl, ?_⟩
    all_goals rw [if_neg (fun h => by first | exact absurd h.1 (by assumption) | exact absurd h.2 (by assumption))]
    all_goals show ({ x.H with cells := (x.xs.set x.hdr.hand.toNat (y.s_color 0)).map (·.c), hand := x.hand + 1 } : Heap) = _
    all_goals rw [List.map_set, hk', show x.hand = k from hk]
    all_goals rfl
theorem l3free_q {m : Mem} {a : Nat} {x : HX} (h : Has m (hp a x)) : Qt Try.prog 178 [ptr a] m (.int .i64 (frG x.H x.xs.length)) := by
  have hb0 := h.lens
  have hl := x.len
  have hnc : x.hdr.nc = x.xs.length := rfl
  refine qt_of (fnA_of (fun h => fn178 (by simp) h) ?_)
  obtain ⟨f1, f2, f3, f4⟩ := frG_ok x.H x.xs.length
  repeat' (first
    | (refine k_L ?_; first | refine a_p rfl ?_ | (refine k_l ?_; refine g_l rfl ?_))
    | refine a_n ?_
    | (refine k_V ?_; first | refine v_seq ?_ | refine v_reg ?_)
    | refine s_n ?_)
  refine g_range x.xs.length (fun _ : Unit => [(0, .v (ptr a)), (8, .v (.slice x.cd.a x.xs.length x.cd.cap))]) (fun _ => [ro m]) (fun i _ => ∀ j : Nat, j < i → (x.H.getC j).state ≠ 0) () (fun j hj => by omega) (fun i _ hi hv => ?_) (fun _ hv => ?_)
  · obtain ⟨y, gy, gc⟩ := HX.at hi
    have gk := HX.gc gy
    repeat' (first
      | (refine k_L ?_; first | refine a_p rfl ?_ | (refine k_i ?_; refine g_i rfl rfl ?_) | (refine k_ls ?_; refine g_ls rfl ?_) | (refine k_st ?_; refine g_sw rfl rfl rfl rfl (Nat.le_of_ble_eq_true rfl) ?_) | (refine k_al ?_; refine a_al ?_))
      | refine a_n ?_
      | (refine k_V ?_; first | refine v_seq ?_ | refine v_reg ?_ | refine v_ret ?_ | refine v_skip ?_ | (refine v_cd rfl (fun hb => ?_) (fun hb => ?_) <;> try (exfalso; omega)))
      | refine s_r ?_
      | refine r_rt ?_
      | refine sk_zero ?_
      | refine sk_succ ?_
      | refine wk_nil ?_
      | refine wk_cons ?_)
    · refine fa_q (by simp) (fun _ _ => rfl) ?_
      congr 1
      rcases Int.lt_or_le (frG x.H x.xs.length) i with e | e
      · have h1 := (f3 (by omega)).2
        have h2 := hv (frG x.H x.xs.length).toNat (by omega)
        rw [show (((frG x.H x.xs.length).toNat : Nat) : Int) = frG x.H x.xs.length by omega] at h2
        exact absurd h1 h2
      · rcases Int.lt_or_le i (frG x.H x.xs.length) with e2 | e2
        · exact absurd (by rw [gk]; assumption) (f4 i hi e2)
        · omega
    · refine r_nx () (fun j hj => ?_)
      by_cases e : j = i
      · subst e; rw [gk]; assumption
      · exact hv j (by omega)
  · repeat' (first
      | (refine k_L ?_; first | refine a_p rfl ?_ | (refine k_l ?_; refine g_l rfl ?_))
      | refine a_n ?_
      | (refine k_V ?_; first | refine v_seq ?_ | refine v_reg ?_ | refine v_ret ?_))
    refine fa_q (by simp) (fun _ _ => rfl) ?_
    congr 1
    rcases Int.lt_or_le (frG x.H x.xs.length) x.xs.length with e | e
    · have h1 := (f3 (by omega)).2
      have h2 := hv (frG x.H x.xs.length).toNat (by omega)
      rw [show (((frG x.H x.xs.length).toNat : Nat) : Int) = frG x.H x.xs.length by omega] at h2
      exact absurd h1 h2
    · rw [hnc]; omega
theorem lead_moved {H K : Heap} {f u : Int} {w : Word} (hf : Formed H w) (hw : w.kind = 2 → (H.getC w.at_).state = 1) (h0 : 0 ≤ f) (hfu : f < u) (hsu : (H.getC u).state = 1) (hK : ∀ j : Int, K.getC j = if j.toNat = u.toNat then Cell.gone f else if j.toNat = f.toNat then H.getC u else H.getC j) : K.lead w = w.redir u f := by
  unfold Heap.lead Word.redir
  by_cases hk : w.kind = 2
  · have hat := hf.at hk
    have h1 := hw hk
    by_cases e : w.at_ = u
    · have : K.getC w.at_ = Cell.gone f := by rw [hK, if_pos (by omega)]
      rw [this, if_pos ⟨hk, rfl⟩, if_pos ⟨hk, e⟩]
      have : w.num = 0 := by
        rcases hf with x | x | x
        · omega
        · omega
        · exact x.2.1
      cases w
      simp only at hk this
      simp only [Cell.gone, hk, this]
    · have n1 : ¬ (w.kind = 2 ∧ (K.getC w.at_).state = 2) := by
        rintro ⟨_, h2⟩
        rw [hK, if_neg (by omega)] at h2
        split at h2 <;> omega
      rw [if_neg n1, if_neg (fun h => e h.2)]
  · have n1 : ¬ (w.kind = 2 ∧ (K.getC w.at_).state = 2) := fun h => hk h.1
    rw [if_neg n1, if_neg (fun h => hk h.1)]
theorem l3move_a {a : Nat} {x : HX} (h : Sound x.H) (hph : x.H.phase = 4) : FnA Try.prog 169 [ptr a] (hp a x) (fun v As => ∃ z : HX, As = hp a z ∧ z.H = x.H.moveU) := by
  obtain ⟨q1, q2, q3⟩ := sound_gray h
  have hl := x.len
  have hnc : x.hdr.nc = x.xs.length := rfl
  have hnr : x.hdr.nr = x.regs.length := rfl
  refine fnA_of (fun h => fn169 (by simp) h) ?_
  unfold Heap.moveU
  rw [hl]
  obtain ⟨f1, f2, f3, f4⟩ := frG_ok x.H x.xs.length
  obtain ⟨u1, u2, u3, u4⟩ := luG_ok x.H x.xs.length
  generalize hv1 : frG x.H x.xs.length = f at *
  generalize hv2 : luG x.H x.xs.length = u at *
  repeat' (first
    | (refine k_L ?_; first | (refine k_su ?_; refine g_su rfl rfl ?_) | refine a_p rfl ?_ | (refine k_l ?_; refine g_l rfl ?_) | (refine a_cq rfl (fun m hm => l3free_q (x := x) (sep_has hm (by (fail_if_success apply pm_bad); (repeat (first | exact pm_nil | (apply pm_cons; repeat (first | exact pk_h | apply pk_t)))); fail_if_success focus skip))) ?_))
    | refine a_n ?_
    | (refine k_V ?_; first | refine v_seq ?_ | refine v_reg ?_))
  rw [hv1]
  refine v_mono (Q := seqA (Jx (fun _ : Unit => [(0, .v (ptr a)), (2, .v (.int .i64 f)), (3, .v (.int .i64 u))]) (fun _ => hp a x) (fun _ => True)) (fun _ _ _ => False)) ?_ ?_
  · refine v_blk ?_
    refine v_loop (fun k : Nat => [(0, .v (ptr a)), (2, .v (.int .i64 f)), (3, .v (.int .i64 ((k : Int) - 1)))]) (fun _ => hp a x) (fun n k => n = k ∧ k ≤ x.xs.length ∧ luG x.H k = u) ⟨_, x.xs.length, ⟨rfl, rfl, rfl, trivial⟩, Ent.refl _, rfl, Nat.le_refl _, hv2⟩ ?_
    rintro n k ⟨rfl, hk, hlu⟩
    cases n with
    | zero =>
      have hu1 : u = -1 := hlu.symm
      subst hu1
      repeat' (first
        | (refine k_L ?_; first | refine a_p rfl ?_ | (refine k_g ?_; refine a_gn rfl rfl ?_))
        | refine a_n ?_
        | (refine k_V ?_; first | refine v_seq ?_ | refine v_reg ?_ | refine v_exit ?_ | refine v_cf rfl ?_)
        | refine s_n ?_
        | refine s_e ?_
        | refine b_e ?_)
      exact j_i () trivial
    | succ n =>
      obtain ⟨y, gy, gc⟩ := HX.at (x := x) (i := n) (by omega)
      have gk := HX.gc gy
      have eu : luG x.H (n + 1) = if y.c.state = 1 then (n : Int) else luG x.H n := by show (if _ then _ else _) = _; rw [gk]
      have en : ((n + 1 : Nat) : Int) - 1 = n := by omega
      rw [en]
      repeat' (first
        | (refine k_L ?_; first | (refine k_su ?_; refine g_su rfl rfl ?_) | refine a_p rfl ?_ | (refine k_g ?_; refine a_gy rfl rfl ?_) | (refine k_l ?_; refine g_l rfl ?_) | (refine k_i ?_; refine g_i rfl rfl ?_))
        | refine a_n ?_
        | (refine k_V ?_; first | refine v_seq ?_ | refine v_reg ?_ | refine v_br ?_ | refine v_exit ?_ | refine v_skip ?_ | (refine v_cn rfl (fun hb => ?_) (fun hb => ?_) <;> try (exfalso; omega)))
        | refine s_n ?_
        | refine s_e ?_
        | refine b_n ?_
        | refine b_e ?_)
      · exact ⟨n, n, by omega, ⟨rfl, rfl, rfl, trivial⟩, Ent.refl _, rfl, by omega, by rw [eu, if_neg (by assumption)] at hlu; exact hlu⟩
      · have hun : u = n := by rw [← hlu, eu, if_pos (by assumption)]
        subst hun
        exact j_i () trivial
  rintro y S' As' hq
  cases y with
  | ret => exact hq.elim
  | ext i => exact hq.elim
  | nrm =>
  obtain ⟨_, hl', he', _⟩ := hq
  refine v_weak _ hl' (VA.ent he' ?_)
  by_cases hfu : u ≤ f
  · rw [if_pos hfu]
    repeat' (first
      | (refine k_L ?_; first | refine a_p rfl ?_ | (refine g_c rfl (l3phase_a (x := x)) (fun v As' hq => ?_); subst hq))
      | refine a_n ?_
      | (refine k_V ?_; first | refine v_seq ?_ | refine v_reg ?_ | refine v_ret ?_ | (refine v_cd rfl (fun hb => ?_) (fun hb => ?_) <;> try (exfalso; omega)))
      | refine s_r ?_)
    exact fa_r (fun _ _ => rfl) (Pm.ent (fin (x.ph 5 0))) ⟨_, rfl, ph_H rfl⟩
  · rw [if_neg hfu]
    have sf := (f3 (by omega)).2
    have su := u3 (by omega)
    have fu0 : f < u := by omega
    obtain ⟨fn, rfl⟩ := Int.eq_ofNat_of_zero_le f1
    obtain ⟨un, rfl⟩ := Int.eq_ofNat_of_zero_le (by omega : 0 ≤ u)
    obtain ⟨yf, gf, _⟩ := HX.at (x := x) (i := fn) (by omega)
    obtain ⟨yu, gu, _⟩ := HX.at (x := x) (i := un) (by omega)
    have cf := HX.gc gf
    have cu := HX.gc gu
    have gu2 : (x.xs.set fn yu)[un]? = some yu := by rw [List.getElem?_set, if_neg (by omega)]; exact gu
    have lf := (List.getElem?_eq_some_iff.1 gf).1
    have lu := (List.getElem?_eq_some_iff.1 gu).1
    repeat' (first
      | (refine k_L ?_; first | refine a_p rfl ?_ | (refine k_l ?_; refine g_l rfl ?_) | (refine k_i ?_; refine g_i rfl rfl ?_) | (refine k_ls ?_; refine g_ls rfl ?_))
      | refine a_n ?_
      | (refine k_V ?_; first | refine v_seq ?_ | refine v_reg ?_ | refine v_dreg ?_ | refine v_skip ?_ | (refine v_cd rfl (fun hb => ?_) (fun hb => ?_) <;> try (exfalso; omega))))
    refine LA.ent (Bs := [slA 8 csv x.cd x.xs, prA x.xs, hdA a x.hdr, slA 3 wv x.rd x.regs, slA 1 iv x.gd x.gray]) ?_ ?_
    · refine Ent.trans (Pm.ent (As1 := [clA x.cd x.xs, hdA a x.hdr, slA 3 wv x.rd x.regs, slA 1 iv x.gd x.gray]) (by (fail_if_success apply pm_bad); (repeat (first | exact pm_nil | (apply pm_cons; repeat (first | exact pk_h | apply pk_t)))); fail_if_success focus skip)) ?_
      exact cl_open.trans (Pm.ent (by (fail_if_success apply pm_bad); (repeat (first | exact pm_nil | (apply pm_cons; repeat (first | exact pk_h | apply pk_t)))); fail_if_success focus skip))
    refine a_st rfl rfl rfl rfl (up_h (u_cell (y' := yu) gf)) ?_
    repeat' (first
      | (refine k_L ?_; first | refine a_p rfl ?_ | (refine k_l ?_; refine g_l rfl ?_) | (refine k_i ?_; refine g_i rfl rfl ?_))
      | refine a_n ?_
      | (refine k_V ?_; first | refine v_seq ?_ | refine v_reg ?_))
    refine a_st rfl rfl rfl rfl (up_h (u_cell (y' := CS.gone fn) gu2)) ?_
    refine LA.ent (Bs := hp a ({ x with xs := (x.xs.set fn yu).set un (CS.gone fn) } : HX)) ?_ ?_
    · refine Ent.trans (Pm.ent (As1 := [prA x.xs, slA 8 csv x.cd ((x.xs.set fn yu).set un (CS.gone fn)), hdA a x.hdr, slA 3 wv x.rd x.regs, slA 1 iv x.gd x.gray]) (by (fail_if_success apply pm_bad); (repeat (first | exact pm_nil | (apply pm_cons; repeat (first | exact pk_h | apply pk_t)))); fail_if_success focus skip)) ?_
      refine (pr_move gf gu (by omega) (g := CS.gone fn) rfl rfl).trans ?_
      refine Ent.trans (Pm.ent (As1 := [slA 8 csv x.cd ((x.xs.set fn yu).set un (CS.gone fn)), prA ((x.xs.set fn yu).set un (CS.gone fn)), hdA a x.hdr, slA 3 wv x.rd x.regs, slA 1 iv x.gd x.gray]) (by (fail_if_success apply pm_bad); (repeat (first | exact pm_nil | (apply pm_cons; repeat (first | exact pk_h | apply pk_t)))); fail_if_success focus skip)) ?_
      refine cl_close.trans ?_
      exact Pm.ent (fin _ (h2 := by simp [HX.hdr]) (e1 := by simp [HX.hdr]))
    repeat' (first
      | (refine k_L ?_; first | refine a_p rfl ?_ | (refine k_l ?_; refine g_l rfl ?_))
      | refine a_n ?_
      | (refine k_V ?_; first | refine v_seq ?_ | refine v_reg ?_)
      | refine s_n ?_)
    have hC : ∀ (L : List Word) (j : Int), (HX.H { x with xs := (x.xs.set fn yu).set un (CS.gone fn), regs := L }).getC j = if j.toNat = ((un : Nat) : Int).toNat then Cell.gone fn else if j.toNat = ((fn : Nat) : Int).toNat then x.H.getC un else x.H.getC j := fun L j => by
      rw [getC_L]
      show getL (((x.xs.set fn yu).set un (CS.gone fn)).map (·.c)) j = _
      rw [List.map_set, List.map_set, getL_set (by simp; omega), getL_set (by simp; omega), Int.toNat_natCast, Int.toNat_natCast, cu]
      rfl
    refine g_range x.regs.length (fun q : List Word => [(0, .v (ptr a))]) (fun q => hp a ({ x with xs := (x.xs.set fn yu).set un (CS.gone fn), regs := q } : HX)) (fun i q => q = (x.regs.take i).map (fun w => w.redir un fn) ++ x.regs.drop i) x.regs (by simp) (fun i q hi hv => ?_) (fun q hv => ?_)
    · subst hv
      obtain ⟨w, gw⟩ : ∃ w, x.regs[i]? = some w := ⟨_, List.getElem?_eq_getElem hi⟩
      obtain ⟨wf, wu⟩ := reg_used h.r4 (show w ∈ x.H.regs from List.mem_of_getElem? gw)
      have hlm : ((x.regs.take i).map (fun w => w.redir un fn)).length = i := by rw [List.length_map, List.length_take]; omega
      have gw2 : ((x.regs.take i).map (fun w => w.redir un fn) ++ x.regs.drop i)[i]? = some w := by
        rw [List.getElem?_append_right (by omega), hlm, Nat.sub_self, List.getElem?_drop]; exact gw
      have nx : ∀ w', ((x.regs.take i).map (fun w => w.redir un fn) ++ x.regs.drop i).set i w' = (x.regs.take i).map (fun w => w.redir un fn) ++ w' :: x.regs.drop (i + 1) := fun w' => by
        rw [List.set_append_right _ _ (by omega), hlm, Nat.sub_self, List.drop_eq_getElem_cons hi]; rfl
      have nw : x.regs[i] = w := (List.getElem?_eq_some_iff.1 gw).2
      have nx2 : ∀ w', w' = w.redir un fn → (x.regs.take i).map (fun w => w.redir un fn) ++ w' :: x.regs.drop (i + 1) = (x.regs.take (i + 1)).map (fun w => w.redir un fn) ++ x.regs.drop (i + 1) := fun w' e => by
        rw [List.take_add_one, gw, e]; simp
      generalize hL : (x.regs.take i).map (fun w => w.redir un fn) ++ x.regs.drop i = L at *
      have hLl : L.length = x.regs.length := by rw [← hL, List.length_append, hlm, List.length_drop]; omega
      have hld := lead_moved (H := x.H) (K := HX.H { x with xs := (x.xs.set fn yu).set un (CS.gone fn), regs := L }) wf (fun hk => (wu hk).1) f1 fu0 su (hC L)
      have hnL : (HX.hdr { x with xs := (x.xs.set fn yu).set un (CS.gone fn), regs := L }).nr = L.length := rfl
      repeat' (first
        | (refine k_L ?_; first | refine a_p rfl ?_ | (refine k_l ?_; refine g_l rfl ?_) | (refine k_i ?_; refine g_i rfl rfl ?_) | (refine k_ls ?_; refine g_ls rfl ?_) | (refine k_st ?_; refine g_st rfl rfl rfl rfl ?_) | (refine k_q ?_; refine a_q rfl (fun m hm => qt_e (l1resolve_q (x := { x with xs := (x.xs.set fn yu).set un (CS.gone fn), regs := L }) (sep_has hm (by (fail_if_success apply pm_bad); (repeat (first | exact pm_nil | (apply pm_cons; repeat (first | exact pk_h | apply pk_t)))); fail_if_success focus skip)) (fun hk => by have := wf.at hk; rw [HX.len]; simp; omega)) (by rw [hld])) ?_))
        | refine a_n ?_
        | (refine k_V ?_; first | refine v_seq ?_ | refine v_reg ?_ | refine v_dreg ?_))
      refine r_nx (L.set i (w.redir un fn)) ?_ (he := Pm.ent (fin _ (h1 := by simp [HX.hdr])))
      rw [nx]
      exact nx2 _ rfl
    · subst hv
      repeat' (first
        | (refine k_L ?_; first | (refine k_ad ?_; refine g_ad rfl rfl ?_) | (refine k_su ?_; refine g_su rfl rfl ?_) | (refine k_ml ?_; refine g_ml rfl rfl ?_) | refine a_p rfl ?_ | (refine k_g ?_; first | refine a_gy rfl rfl ?_ | refine a_gn rfl rfl ?_ | refine a_gu rfl ?_ | (refine a_gd rfl (fun hb => ?_) (fun hb => ?_) <;> try (exfalso; omega)) | (refine a_ge rfl (fun hb => ?_) (fun hb => ?_) <;> try (exfalso; omega)) | (refine a_gne rfl (fun hb => ?_) (fun hb => ?_) <;> try (exfalso; omega)) | (refine a_gnd rfl (fun hb => ?_) (fun hb => ?_) <;> try (exfalso; omega))) | (refine k_l ?_; refine g_l rfl ?_) | (refine k_i ?_; refine g_i rfl rfl ?_) | (refine k_ls ?_; refine g_ls rfl ?_) | (refine k_st ?_; first | refine g_st rfl rfl rfl rfl ?_ | refine g_sw rfl rfl rfl rfl (Nat.le_of_ble_eq_true rfl) ?_) | (refine k_al ?_; refine a_al ?_) | (refine k_bx ?_; refine a_bx rfl rfl ?_) | (refine k_bl ?_; refine a_bl rfl ?_) | (refine k_p ?_; first | (refine a_pd rfl (fun hb => ?_) (fun hb => ?_) <;> try (exfalso; omega)) | (refine a_pe rfl (fun hb => ?_) (fun hb => ?_) <;> try (exfalso; omega)) | (refine a_pne rfl (fun hb => ?_) (fun hb => ?_) <;> try (exfalso; omega)) | (refine a_pnd rfl (fun hb => ?_) (fun hb => ?_) <;> try (exfalso; omega))))
        | refine a_n ?_
        | (refine k_V ?_; first | refine v_rv ?_ | refine v_seq ?_ | refine v_reg ?_ | refine v_dreg ?_ | refine v_zreg ?_ | refine v_bs ?_ | refine v_br ?_ | refine v_bd ?_ | refine v_bc ?_ | refine v_bk ?_ | refine v_bb ?_ | refine v_ret ?_ | refine v_exit ?_ | refine v_skip ?_ | refine v_ct rfl ?_ | refine v_cf rfl ?_ | (refine v_cd rfl (fun hb => ?_) (fun hb => ?_) <;> try (exfalso; omega)) | (refine v_ce rfl (fun hb => ?_) (fun hb => ?_) <;> try (exfalso; omega)) | (refine v_cn rfl (fun hb => ?_) (fun hb => ?_) <;> try (exfalso; omega)) | (refine v_cnd rfl (fun hb => ?_) (fun hb => ?_) <;> try (exfalso; omega)))
        | refine s_n ?_
        | refine s_r ?_
        | refine s_e ?_
        | refine b_n ?_
        | refine b_r ?_
        | refine b_e ?_
        | refine b_o rfl ?_
        | refine r_rt ?_
        | refine r_bk rfl ?_
        | refine r_ex rfl rfl ?_
        | refine sk_zero ?_
        | refine sk_succ ?_
        | refine wk_nil ?_
        | refine wk_cons ?_)
      refine fa_n (fun _ _ => rfl) (Pm.ent (by (fail_if_success apply pm_bad); (repeat (first | exact pm_nil | (apply pm_cons; repeat (first | exact pk_h | apply pk_t)))); fail_if_success focus skip)) ⟨_, rfl, ?_⟩
      unfold HX.H Heap.moved
      simp only [List.map_set, List.take_of_length_le (Nat.le_refl _), List.drop_length, List.append_nil, Int.toNat_natCast]
      have cu' : (Heap.mk x.room x.used x.born x.regs (x.xs.map (·.c)) x.phase x.hand x.sub x.gray x.per x.start x.rounds x.forced).getC un = yu.c := cu
      rw [cu']
      rfl
end Go.Proofs.Ytcmllambknfleaa.E
set_option linter.unusedVariables false
set_option linter.unusedSimpArgs false
set_option maxHeartbeats 8000000
set_option maxRecDepth 100000
namespace Go.Proofs.Ytcmllambknfleaa.E
open Go
open Classical
theorem u_pair {cd : D} {ys : List CS} {i k : Nat} {y : CS} {p p' : Pair} (hi : ys[i]? = some y) (hk : y.c.pairs[k]? = some p) : UpA (clA cd ys) y.d.b (y.d.o + k * 6) (pv p') (clA cd (ys.set i (y.s_pair k p'))) := up_cp (j := 0) hi hk (by simp [pv]) rfl
theorem l3mend_a {a : Nat} {x : HX} (h : Sound x.H) (hph : x.H.phase = 5) : FnA Try.prog 170 [ptr a] (hp a x) (fun v As => ∃ z : HX, As = hp a z ∧ z.H = x.H.mendU) := by
  obtain ⟨q1, q2, q3⟩ := sound_gray h
  have hl := x.len
  have hnc : x.hdr.nc = x.xs.length := rfl
  have hhd : x.hdr.hand = x.H.hand := rfl
  have hsb : x.hdr.sub = x.H.sub := rfl
  have h0 := h.r1.hand
  have hs0 := h.r1.sub
  refine fnA_of (fun h => fn170 (by simp) h) ?_
  unfold Heap.mendU
  by_cases hh : x.H.hand = x.H.cells.length
  · rw [if_pos hh]
    repeat' (first
      | (refine k_L ?_; first | refine a_p rfl ?_ | (refine k_l ?_; refine g_l rfl ?_) | (refine g_c rfl (l3phase_a (x := x)) (fun v As' hq => ?_); subst hq))
      | refine a_n ?_
      | (refine k_V ?_; first | refine v_seq ?_ | refine v_reg ?_ | refine v_dreg ?_ | refine v_ret ?_ | (refine v_cd rfl (fun hb => ?_) (fun hb => ?_) <;> try (exfalso; omega)))
      | refine s_r ?_)
    exact fa_r (fun _ _ => rfl) (Pm.ent (fin (x.ph 6 x.xs.length))) ⟨_, rfl, ph_H (by rw [if_pos rfl, hl])⟩
  · rw [if_neg hh]
    obtain ⟨k, hk⟩ := Int.eq_ofNat_of_zero_le h0.1
    have hk' : x.hdr.hand = k := hk
    obtain ⟨y, gy, gc⟩ := HX.at (x := x) (i := k) (by omega)
    have gk := HX.gc gy
    have gy' : x.xs[x.hdr.hand.toNat]? = some y := by rw [hk']; exact gy
    have hpl := h.r2.pl (List.mem_of_getElem? gc)
    rw [hk, gk]
    by_cases hlt : x.H.sub < y.c.pairs.length
    · obtain ⟨s, hs⟩ := Int.eq_ofNat_of_zero_le hs0.1
      have hs' : x.hdr.sub = s := hs
      obtain ⟨p, gp⟩ : ∃ p, y.c.pairs[s]? = some p := ⟨_, List.getElem?_eq_getElem (by omega)⟩
      have gp' : y.c.pairs[x.hdr.sub.toNat]? = some p := by rw [hs']; exact gp
      rw [hs, show ((s : Int)).toNat = s by omega, gp]
      simp only
      obtain ⟨f1, f2, _⟩ := h.r4.pairs k y.c gc s p gp
      repeat' (first
        | (refine k_L ?_; first | refine a_p rfl ?_ | (refine k_l ?_; refine g_l rfl ?_) | (refine k_i ?_; refine g_i rfl rfl ?_) | (refine k_ls ?_; refine g_ls rfl ?_) | (refine k_st ?_; refine g_sw rfl rfl rfl rfl (Nat.le_of_ble_eq_true rfl) ?_) | (refine k_al ?_; refine a_al ?_) | (refine k_c ?_; first | refine a_cq rfl (fun m hm => l1resolve_q (x := x) (w := p.key) (sep_has hm (by (fail_if_success apply pm_bad); (repeat (first | exact pm_nil | (apply pm_cons; repeat (first | exact pk_h | apply pk_t)))); fail_if_success focus skip)) (fun hk => f1.at hk)) ?_ | refine a_cq rfl (fun m hm => l1resolve_q (x := x) (w := p.val) (sep_has hm (by (fail_if_success apply pm_bad); (repeat (first | exact pm_nil | (apply pm_cons; repeat (first | exact pk_h | apply pk_t)))); fail_if_success focus skip)) (fun hk => f2.at hk)) ?_))
        | refine a_n ?_
        | (refine k_V ?_; first | refine v_seq ?_ | refine v_reg ?_ | refine v_dreg ?_ | refine v_skip ?_ | (refine v_cd rfl (fun hb => ?_) (fun hb => ?_) <;> try (exfalso; omega)))
        | refine sk_zero ?_
        | refine sk_succ ?_
        | refine wk_nil ?_
        | refine wk_cons ?_)
      refine a_st rfl rfl rfl rfl (up_t (up_t (up_h (u_pair (p' := ⟨x.H.lead p.key, x.H.lead p.val⟩) gy' gp')))) ?_
      repeat' (first
        | (refine k_L ?_; first | (refine k_ad ?_; refine g_ad rfl rfl ?_) | refine a_p rfl ?_ | (refine k_l ?_; refine g_l rfl ?_) | (refine k_st ?_; refine g_st rfl rfl rfl rfl ?_))
        | refine a_n ?_
        | (refine k_V ?_; first | refine v_seq ?_ | refine v_reg ?_ | refine v_ret ?_)
        | refine s_r ?_)
      refine fa_r (fun _ _ => rfl) (Pm.ent (fin ({ x with xs := x.xs.set x.hdr.hand.toNat (y.s_pair x.hdr.sub.toNat ⟨x.H.lead p.key, x.H.lead p.val⟩), sub := x.sub + 1 } : HX))) ⟨_, rfl, ?_⟩
      show ({ x.H with cells := ((x.xs.set x.hdr.hand.toNat (y.s_pair x.hdr.sub.toNat ⟨x.H.lead p.key, x.H.lead p.val⟩)).map (·.c)), sub := x.sub + 1 } : Heap) = _
      rw [List.map_set, hk', hs', show x.sub = s from hs]
      unfold CS.s_pair
      simp only [Int.toNat_natCast]
      rw [hk]
      rfl
    · have gp : y.c.pairs[x.H.sub.toNat]? = none := List.getElem?_eq_none (by omega)
      rw [gp]
      simp only
      repeat' (first
        | (refine k_L ?_; first | (refine k_ad ?_; refine g_ad rfl rfl ?_) | refine a_p rfl ?_ | (refine k_l ?_; refine g_l rfl ?_) | (refine k_i ?_; refine g_i rfl rfl ?_) | (refine k_st ?_; refine g_st rfl rfl rfl rfl ?_))
        | refine a_n ?_
        | (refine k_V ?_; first | refine v_seq ?_ | refine v_reg ?_ | refine v_dreg ?_ | refine v_skip ?_ | (refine v_cd rfl (fun hb => ?_) (fun hb => ?_) <;> try (exfalso; omega))))
      refine fa_n (fun _ _ => rfl) (Pm.ent (fin ({ x with hand := x.hand + 1, sub := 0 } : HX))) ⟨_, rfl, ?_⟩
      show ({ x.H with hand := x.hand + 1, sub := 0 } : Heap) = _
      rw [show x.hand = k from hk]
theorem l3close_a {a : Nat} {x : HX} (h : Sound x.H) (hph : x.H.phase = 6) : FnA Try.prog 171 [ptr a] (hp a x) (fun v As => ∃ z : HX, As = hp a z ∧ z.H = x.H.closeU) := by
  obtain ⟨q1, q2, q3⟩ := sound_gray h
  have hl := x.len
  have hnc : x.hdr.nc = x.xs.length := rfl
  have hhd : x.hdr.hand = x.H.hand := rfl
  have h0 := h.r1.hand
  have hrd := h.r1.rounds
  have hrd' : x.hdr.rounds = x.H.rounds := rfl
  have hre : (x.ph 0 0).hdr.rounds = x.H.rounds := rfl
  refine fnA_of (fun h => fn171 (by simp) h) ?_
  refine v_kn (p := x.xs.length ≤ x.cd.cap) (kn_t (kn_t (kn_h kc_cl))) (fun hcap => ?_)
  have hcap' : x.hdr.cd.cap = x.cd.cap := rfl
  unfold Heap.closeU
  by_cases hh : x.H.hand = 0
  · rw [if_pos hh]
    repeat' (first
      | (refine k_L ?_; first | (refine k_ad ?_; refine g_ad rfl rfl ?_) | refine a_p rfl ?_ | (refine k_l ?_; refine g_l rfl ?_) | (refine k_st ?_; refine g_st rfl rfl rfl rfl ?_) | (refine g_c rfl (l3phase_a (x := x)) (fun v As' hq => ?_); subst hq))
      | refine a_n ?_
      | (refine k_V ?_; first | refine v_seq ?_ | refine v_reg ?_ | refine v_ret ?_ | refine v_skip ?_ | (refine v_cd rfl (fun hb => ?_) (fun hb => ?_) <;> try (exfalso; omega)))
      | refine s_r ?_)
    · refine fa_r (fun _ _ => rfl) (Pm.ent (fin ({ x.ph 0 0 with rounds := x.rounds + 1 } : HX))) ⟨_, rfl, ?_⟩
      rw [if_pos (show x.H.rounds < 1000000000 by omega)]
      rfl
    · refine fa_r (fun _ _ => rfl) (Pm.ent (fin (x.ph 0 0))) ⟨_, rfl, ?_⟩
      rw [if_neg (show ¬ x.H.rounds < 1000000000 by omega)]
      rfl
  · rw [if_neg hh]
    obtain ⟨k, hk⟩ := Int.eq_ofNat_of_zero_le (show 0 ≤ x.H.hand - 1 by omega)
    have hk' : x.hdr.hand - 1 = k := hk
    obtain ⟨y, gy, gc⟩ := HX.at (x := x) (i := k) (by omega)
    have gk := HX.gc gy
    have gy' : x.xs[(x.hdr.hand - 1).toNat]? = some y := by rw [hk']; exact gy
    have gz : (x.xs.set (x.hdr.hand - 1).toNat CS.zero)[(x.hdr.hand - 1).toNat]? = some CS.zero := by
      rw [List.getElem?_set, if_pos rfl, if_pos (List.getElem?_eq_some_iff.1 gy').1]
    have hsh : (x.hdr.s_hand (x.hdr.hand - 1)).hand = x.hdr.hand - 1 := rfl
    have hsn : (x.hdr.s_hand (x.hdr.hand - 1)).nc = x.xs.length := rfl
    have hsc : (x.hdr.s_hand (x.hdr.hand - 1)).cd.cap = x.cd.cap := rfl
    have ghand : x.H.getC (x.H.hand - 1) = y.c := by rw [hk]; exact gk
    have eA : y.c.state = 2 → x.H.closeA = (x.xs.set (x.hdr.hand - 1).toNat CS.zero).map (·.c) := fun e => by
      unfold Heap.closeA
      rw [ghand, if_pos e, List.map_set]; rfl
    have eB : y.c.state ≠ 2 → x.H.closeA = x.H.cells := fun e => by
      unfold Heap.closeA
      rw [ghand, if_neg e]
    have sA : y.c.state = 2 → (getL x.H.closeA (x.H.hand - 1)).state = 0 := fun e => by
      rw [eA e, List.map_set, getL_set (by rw [List.length_map]; omega), if_pos (by rw [hhd])]; rfl
    have sB : y.c.state ≠ 2 → (getL x.H.closeA (x.H.hand - 1)).state = y.c.state := fun e => by
      rw [eB e, ← getC_L, ghand]
    repeat' (first
      | (refine k_L ?_; first | (refine k_su ?_; refine g_su rfl rfl ?_) | refine a_p rfl ?_ | (refine k_g ?_; first | refine a_gy rfl rfl ?_ | refine a_gn rfl rfl ?_ | (refine a_gd rfl (fun hb => ?_) (fun hb => ?_) <;> try (exfalso; omega))) | (refine k_l ?_; refine g_l rfl ?_) | (refine k_i ?_; refine g_i rfl rfl ?_) | (refine k_st ?_; refine g_st rfl rfl rfl rfl ?_) | (refine a_c0 CS.zero gy' rfl rfl rfl rfl rfl rfl rfl ?_) | (refine g_tk rfl rfl ?_))
      | refine a_n ?_
      | (refine k_V ?_; first | refine v_seq ?_ | refine v_reg ?_ | refine v_dreg ?_ | refine v_skip ?_ | refine v_ct rfl ?_ | refine v_cf rfl ?_ | (refine v_cd rfl (fun hb => ?_) (fun hb => ?_) <;> try (exfalso; omega))))
    · have hs2 : y.c.state = 2 := by assumption
      have hn : x.H.hand = x.H.cells.length := by omega
      rw [if_pos ⟨hn, sA hs2⟩, eA hs2]
      refine fa_n (As' := hp a ({ x with hand := x.hand - 1, xs := (x.xs.set (x.hdr.hand - 1).toNat CS.zero).take (x.hdr.hand - 1).toNat } : HX)) (fun _ _ => rfl) ?_ ⟨_, rfl, ?_⟩
      · refine (cl_take (k := (x.hdr.hand - 1).toNat) (by rw [List.length_set]; omega)).trans ?_
        exact Pm.ent (fin _ (h2 := by rw [List.length_take, List.length_set]; show (x.hdr.hand - 1).toNat = _; omega))
      · show ({ x.H with hand := x.hand - 1, cells := (((x.xs.set (x.hdr.hand - 1).toNat CS.zero).take (x.hdr.hand - 1).toNat).map (·.c)) } : Heap) = _
        rw [List.map_take, show (x.hdr.hand - 1).toNat = (x.H.hand - 1).toNat by omega]
        rfl
    · have hs2 : y.c.state = 2 := by assumption
      rw [if_neg (fun h => by have := h.1; omega), eA hs2]
      exact fa_n (fun _ _ => rfl) (Pm.ent (fin { x with hand := x.hand - 1, xs := x.xs.set (x.hdr.hand - 1).toNat CS.zero })) ⟨_, rfl, rfl⟩
    · have hs2 : y.c.state ≠ 2 := by assumption
      have hs0 : y.c.state = 0 := by assumption
      have hn : x.H.hand = x.H.cells.length := by omega
      rw [if_pos ⟨hn, by rw [sB hs2]; exact hs0⟩, eB hs2]
      refine fa_n (As' := hp a ({ x with hand := x.hand - 1, xs := x.xs.take (x.hdr.hand - 1).toNat } : HX)) (fun _ _ => rfl) ?_ ⟨_, rfl, ?_⟩
      · refine Ent.trans (Pm.ent (As1 := [clA x.cd x.xs, hdA a ((x.hdr.s_hand (x.hdr.hand - 1)).s_cd x.cd (x.hdr.hand - 1).toNat), slA 3 wv x.rd x.regs, slA 1 iv x.gd x.gray]) (by (fail_if_success apply pm_bad); (repeat (first | exact pm_nil | (apply pm_cons; repeat (first | exact pk_h | apply pk_t)))); fail_if_success focus skip)) ?_
        refine (cl_take (k := (x.hdr.hand - 1).toNat) (by omega)).trans ?_
        exact Pm.ent (fin _ (h2 := by rw [List.length_take]; show (x.hdr.hand - 1).toNat = _; omega))
      · show ({ x.H with hand := x.hand - 1, cells := ((x.xs.take (x.hdr.hand - 1).toNat).map (·.c)) } : Heap) = _
        rw [List.map_take, show (x.hdr.hand - 1).toNat = (x.H.hand - 1).toNat by omega]
        rfl
    · have hs2 : y.c.state ≠ 2 := by assumption
      have hs0 : ¬ y.c.state = 0 := by assumption
      rw [if_neg (fun h => hs0 (by have := h.2; rw [sB hs2] at this; exact this)), eB hs2]
      exact fa_n (fun _ _ => rfl) (Pm.ent (fin { x with hand := x.hand - 1 })) ⟨_, rfl, rfl⟩
    · have hs2 : y.c.state ≠ 2 := by assumption
      rw [if_neg (fun h => by have := h.1; omega), eB hs2]
      exact fa_n (fun _ _ => rfl) (Pm.ent (fin { x with hand := x.hand - 1 })) ⟨_, rfl, rfl⟩
theorem l3unit_a {a : Nat} {x : HX} (h : Sound x.H) (hph : x.H.phase ≠ 0) : FnA Try.prog 155 [ptr a] (hp a x) (fun v As => ∃ z : HX, As = hp a z ∧ z.H = x.H.unitH) := by
  have h5 := h.r1.phase
  have hp' : x.hdr.phase = x.H.phase := rfl
  refine fnA_of (fun h => fn155 (by simp) h) ?_
  unfold Heap.unitH
  rcases (by omega : x.H.phase = 1 ∨ x.H.phase = 2 ∨ x.H.phase = 3 ∨ x.H.phase = 4 ∨ x.H.phase = 5 ∨ x.H.phase = 6) with e | e | e | e | e | e
  · have hc : x.H.phase = 1 := e
    repeat' (first
      | (refine k_L ?_; first | refine a_p rfl ?_ | (refine k_l ?_; refine g_l rfl ?_) | (refine g_c rfl (l3roots_a h e) (fun v As' hq => ?_); obtain ⟨z, rfl, hz⟩ := hq))
      | refine a_n ?_
      | (refine k_V ?_; first | refine v_seq ?_ | refine v_reg ?_ | refine v_bs ?_ | (refine v_cd rfl (fun hb => ?_) (fun hb => ?_) <;> try (exfalso; omega)))
      | refine b_n ?_)
    refine fa_n (fun _ _ => rfl) (Pm.ent (fin z)) ⟨_, rfl, ?_⟩
    rw [hz]
    repeat (first | rw [if_pos e] | rw [if_neg (by omega)])
  · have hc : x.H.phase = 2 := e
    repeat' (first
      | (refine k_L ?_; first | refine a_p rfl ?_ | (refine k_l ?_; refine g_l rfl ?_) | (refine g_c rfl (l3mark_a h e) (fun v As' hq => ?_); obtain ⟨z, rfl, hz⟩ := hq))
      | refine a_n ?_
      | (refine k_V ?_; first | refine v_seq ?_ | refine v_reg ?_ | refine v_bs ?_ | (refine v_cd rfl (fun hb => ?_) (fun hb => ?_) <;> try (exfalso; omega)))
      | refine b_n ?_)
    refine fa_n (fun _ _ => rfl) (Pm.ent (fin z)) ⟨_, rfl, ?_⟩
    rw [hz]
    repeat (first | rw [if_pos e] | rw [if_neg (by omega)])
  · have hc : x.H.phase = 3 := e
    repeat' (first
      | (refine k_L ?_; first | refine a_p rfl ?_ | (refine k_l ?_; refine g_l rfl ?_) | (refine g_c rfl (l3sweep_a h e) (fun v As' hq => ?_); obtain ⟨z, rfl, hz⟩ := hq))
      | refine a_n ?_
      | (refine k_V ?_; first | refine v_seq ?_ | refine v_reg ?_ | refine v_bs ?_ | (refine v_cd rfl (fun hb => ?_) (fun hb => ?_) <;> try (exfalso; omega)))
      | refine b_n ?_)
    refine fa_n (fun _ _ => rfl) (Pm.ent (fin z)) ⟨_, rfl, ?_⟩
    rw [hz]
    repeat (first | rw [if_pos e] | rw [if_neg (by omega)])
  · have hc : x.H.phase = 4 := e
    repeat' (first
      | (refine k_L ?_; first | refine a_p rfl ?_ | (refine k_l ?_; refine g_l rfl ?_) | (refine g_c rfl (l3move_a h e) (fun v As' hq => ?_); obtain ⟨z, rfl, hz⟩ := hq))
      | refine a_n ?_
      | (refine k_V ?_; first | refine v_seq ?_ | refine v_reg ?_ | refine v_bs ?_ | (refine v_cd rfl (fun hb => ?_) (fun hb => ?_) <;> try (exfalso; omega)))
      | refine b_n ?_)
    refine fa_n (fun _ _ => rfl) (Pm.ent (fin z)) ⟨_, rfl, ?_⟩
    rw [hz]
    repeat (first | rw [if_pos e] | rw [if_neg (by omega)])
  · have hc : x.H.phase = 5 := e
    repeat' (first
      | (refine k_L ?_; first | refine a_p rfl ?_ | (refine k_l ?_; refine g_l rfl ?_) | (refine g_c rfl (l3mend_a h e) (fun v As' hq => ?_); obtain ⟨z, rfl, hz⟩ := hq))
      | refine a_n ?_
      | (refine k_V ?_; first | refine v_seq ?_ | refine v_reg ?_ | refine v_bs ?_ | (refine v_cd rfl (fun hb => ?_) (fun hb => ?_) <;> try (exfalso; omega)))
      | refine b_n ?_)
    refine fa_n (fun _ _ => rfl) (Pm.ent (fin z)) ⟨_, rfl, ?_⟩
    rw [hz]
    repeat (first | rw [if_pos e] | rw [if_neg (by omega)])
  · have hc : x.H.phase = 6 := e
    repeat' (first
      | (refine k_L ?_; first | refine a_p rfl ?_ | (refine k_l ?_; refine g_l rfl ?_) | (refine g_c rfl (l3close_a h e) (fun v As' hq => ?_); obtain ⟨z, rfl, hz⟩ := hq))
      | refine a_n ?_
      | (refine k_V ?_; first | refine v_seq ?_ | refine v_reg ?_ | refine v_bs ?_ | (refine v_cd rfl (fun hb => ?_) (fun hb => ?_) <;> try (exfalso; omega)))
      | refine b_n ?_)
    refine fa_n (fun _ _ => rfl) (Pm.ent (fin z)) ⟨_, rfl, ?_⟩
    rw [hz]
    repeat (first | rw [if_pos e] | rw [if_neg (by omega)])
end Go.Proofs.Ytcmllambknfleaa.E
set_option linter.unusedVariables false
set_option linter.unusedSimpArgs false
set_option maxHeartbeats 8000000
set_option maxRecDepth 100000
namespace Go.Proofs.Ytcmllambknfleaa.E
open Go
open Classical
theorem begin_H {x : HX} : x.begin.H = x.H.beginH := by
  unfold HX.begin Heap.beginH
  by_cases e : x.phase = 0
  · rw [if_pos e, if_pos (show x.H.phase = 0 from e)]; exact enter_H
  · rw [if_neg e, if_neg (show ¬ x.H.phase = 0 from e)]
/-- so many units, at most as many as there are -/
theorem step_a {a : Nat} {x : HX} {n : Int} (h : Sound x.H) (hn : 0 ≤ n ∧ n ≤ 1000000000000) : FnA Try.prog 129 [ptr a, .int .i64 n] (hp a x) (fun v As => ∃ z : HX, v = .int .i64 (min n.toNat (outN x.H) : Nat) ∧ As = hp a z ∧ z.H = iterU (min n.toNat (outN x.H)) x.H) := by
  obtain ⟨ho, hN⟩ := outN_ok h
  refine fnA_of (fun h => fn129 (by simp) h) ?_
  repeat' (first
    | (refine k_L ?_; refine a_p rfl ?_)
    | refine a_n ?_
    | (refine k_V ?_; first | refine v_seq ?_ | refine v_reg ?_))
  generalize hm : min n.toNat (outN x.H) = mx
  have hm1 : mx ≤ outN x.H := by omega
  have hm2 : (mx : Int) ≤ n := by omega
  refine v_mono (Q := seqA (Jx (fun z : HX => [(0, .v (ptr a)), (5, .v (.int .i64 mx))]) (fun z => hp a z) (fun z => z.H = iterU mx x.H)) (fun _ _ _ => False)) ?_ ?_
  · refine v_blk ?_
    refine v_loop (fun q : Nat × HX => [(0, .v (ptr a)), (1, .v (.int .i64 n)), (5, .v (.int .i64 q.1))]) (fun q => hp a q.2) (fun k q => k = mx - q.1 ∧ q.1 ≤ mx ∧ q.2.H = iterU q.1 x.H) ⟨_, (0, x), ⟨rfl, rfl, rfl, trivial⟩, Ent.refl _, rfl, Nat.zero_le _, rfl⟩ ?_
    rintro k ⟨j, z⟩ ⟨rfl, hj, hz⟩
    simp only at hj hz
    dsimp only
    have hs : Sound z.H := by rw [hz]; exact iterU_sound j h
    have hp := out_phase h (j := j) (by omega)
    rw [← hz] at hp
    have hph : z.hdr.phase = z.H.phase := rfl
    by_cases e : j = mx
    · subst e
      by_cases e1 : (j : Int) < n
      · have e0 : z.H.phase = 0 := hp.2 (by omega)
        repeat' (first
          | (refine k_L ?_; first | refine a_p rfl ?_ | (refine k_g ?_; first | refine a_gy rfl rfl ?_ | (refine a_gd rfl (fun hb => ?_) (fun hb => ?_) <;> try (exfalso; omega))) | (refine k_l ?_; refine g_l rfl ?_))
          | refine a_n ?_
          | (refine k_V ?_; first | refine v_seq ?_ | refine v_reg ?_ | refine v_exit ?_ | (refine v_cn rfl (fun hb => ?_) (fun hb => ?_) <;> try (exfalso; omega)))
          | refine s_n ?_
          | refine s_e ?_
          | refine b_e ?_)
        exact j_i z hz
      · repeat' (first
          | (refine k_L ?_; first | refine a_p rfl ?_ | (refine k_g ?_; first | refine a_gn rfl rfl ?_ | (refine a_gd rfl (fun hb => ?_) (fun hb => ?_) <;> try (exfalso; omega))))
          | refine a_n ?_
          | (refine k_V ?_; first | refine v_seq ?_ | refine v_reg ?_ | refine v_exit ?_ | refine v_cf rfl ?_)
          | refine s_n ?_
          | refine s_e ?_
          | refine b_e ?_)
        exact j_i z hz
    · have e0 : z.H.phase ≠ 0 := fun h' => by have := hp.1 h'; omega
      repeat' (first
        | (refine k_L ?_; first | (refine k_ad ?_; refine g_ad rfl rfl ?_) | refine a_p rfl ?_ | (refine k_g ?_; first | refine a_gy rfl rfl ?_ | (refine a_gd rfl (fun hb => ?_) (fun hb => ?_) <;> try (exfalso; omega))) | (refine k_l ?_; refine g_l rfl ?_) | (refine g_c rfl (unit_a hs e0) (fun v As' hq => ?_); obtain ⟨u, rfl, hu⟩ := hq))
        | refine a_n ?_
        | (refine k_V ?_; first | refine v_seq ?_ | refine v_reg ?_ | refine v_bs ?_ | refine v_skip ?_ | (refine v_cn rfl (fun hb => ?_) (fun hb => ?_) <;> try (exfalso; omega)))
        | refine s_n ?_
        | refine b_n ?_)
      refine ⟨mx - (j + 1), (j + 1, u), by omega, ⟨rfl, rfl, rfl, trivial⟩, Pm.ent (by (fail_if_success apply pm_bad); (repeat (first | exact pm_nil | (apply pm_cons; repeat (first | exact pk_h | apply pk_t)))); fail_if_success focus skip), rfl, by show j + 1 ≤ mx; omega, ?_⟩
      show u.H = iterU (j + 1) x.H
      rw [iterU_succ, ← hz]; exact hu
  rintro y S' As' hq
  cases y with
  | ret => exact hq.elim
  | ext i => exact hq.elim
  | nrm =>
  obtain ⟨z, hl', he', hz⟩ := hq
  refine v_weak _ hl' (VA.ent he' ?_)
  repeat' (first
    | (refine k_L ?_; refine a_p rfl ?_)
    | refine a_n ?_
    | (refine k_V ?_; first | refine v_seq ?_ | refine v_reg ?_ | refine v_ret ?_))
  exact fa_r (fun _ _ => rfl) (Pm.ent (fin z)) ⟨z, rfl, rfl, hz⟩
theorem l3step_a {a : Nat} {x : HX} {n : Int} (h : Sound x.H) (hn : 0 ≤ n ∧ n ≤ 1000000000000) : FnA Try.prog 127 [ptr a, .int .i64 n] (hp a x) (fun v As => ∃ z : HX, v = .int .i64 (stepN x.H n : Nat) ∧ As = hp a z ∧ z.H = x.H.stepH n) := by
  refine fnA_of (fun h => fn127 (by simp) h) ?_
  unfold stepN Heap.stepH
  by_cases hn0 : n = 0
  · rw [if_pos hn0, if_pos hn0]
    repeat' (first
      | (refine k_L ?_; refine a_p rfl ?_)
      | refine a_n ?_
      | (refine k_V ?_; first | refine v_rv ?_ | refine v_seq ?_ | refine v_reg ?_ | (refine v_cd rfl (fun hb => ?_) (fun hb => ?_) <;> try (exfalso; omega)))
      | refine s_r ?_)
    exact fa_r (fun _ _ => rfl) (Pm.ent (fin x)) ⟨x, rfl, rfl, rfl⟩
  · rw [if_neg hn0, if_neg hn0]
    unfold stepN
    rw [if_neg hn0]
    have hb := beginH_ok h
    obtain ⟨ho, hN⟩ := outN_ok hb
    have hxp : x.hdr.phase = x.H.phase := rfl
    refine v_seq ?_
    repeat' (first
      | (refine k_L ?_; refine a_p rfl ?_)
      | refine a_n ?_
      | (refine k_V ?_; refine v_reg ?_)
      | refine s_n ?_)
    refine g_cut (fun _ : Unit => [(0, .v (ptr a)), (1, .v (.int .i64 n))]) (fun _ => hp a x) (fun _ => True) ?_ (fun _ _ => ?_)
    · repeat' (first
        | (refine k_L ?_; refine a_p rfl ?_)
        | refine a_n ?_
        | (refine k_V ?_; first | refine v_seq ?_ | refine v_reg ?_ | refine v_skip ?_ | (refine v_cd rfl (fun hb => ?_) (fun hb => ?_) <;> try (exfalso; omega)))
        | refine s_n ?_)
      exact j_i () trivial
    refine g_cut (fun z : HX => [(0, .v (ptr a)), (1, .v (.int .i64 n))]) (fun z => hp a z) (fun z => z.H = x.H.beginH) ?_ (fun w hw => ?_)
    · unfold Heap.beginH
      repeat' (first
        | (refine k_L ?_; first | refine a_p rfl ?_ | (refine k_l ?_; refine g_l rfl ?_) | (refine g_c rfl (l3begin_a (x := x)) (fun v As' hq => ?_); subst hq))
        | refine a_n ?_
        | (refine k_V ?_; first | refine v_seq ?_ | refine v_reg ?_ | refine v_skip ?_ | (refine v_cd rfl (fun hb => ?_) (fun hb => ?_) <;> try (exfalso; omega)))
        | refine s_n ?_)
      · exact j_i (x.ph 1 0) (by rw [if_pos (show x.H.phase = 0 by omega)]; exact ph_H rfl)
      · exact j_i x (by rw [if_neg (show ¬ x.H.phase = 0 by omega)])
    rw [← hw]
    rw [← hw] at hb ho hN
    repeat' (first
      | (refine k_L ?_; refine a_p rfl ?_)
      | refine a_n ?_
      | (refine k_V ?_; first | refine v_seq ?_ | refine v_reg ?_))
    generalize hm : min n.toNat (outN w.H) = mx
    have hm1 : mx ≤ outN w.H := by omega
    have hm2 : (mx : Int) ≤ n := by omega
    refine v_mono (Q := seqA (Jx (fun z : HX => [(0, .v (ptr a)), (5, .v (.int .i64 mx))]) (fun z => hp a z) (fun z => z.H = iterU mx w.H)) (fun _ _ _ => False)) ?_ ?_
    · refine v_blk ?_
      refine v_loop (fun q : Nat × HX => [(0, .v (ptr a)), (1, .v (.int .i64 n)), (5, .v (.int .i64 q.1))]) (fun q => hp a q.2) (fun k q => k = mx - q.1 ∧ q.1 ≤ mx ∧ q.2.H = iterU q.1 w.H) ⟨_, (0, w), ⟨rfl, rfl, rfl, trivial⟩, Ent.refl _, rfl, Nat.zero_le _, rfl⟩ ?_
      rintro k ⟨j, z⟩ ⟨rfl, hj, hz⟩
      simp only at hj hz
      dsimp only
      have hs : Sound z.H := by rw [hz]; exact iterU_sound j hb
      have hp := out_phase hb (j := j) (by omega)
      rw [← hz] at hp
      have hph : z.hdr.phase = z.H.phase := rfl
      by_cases e : j = mx
      · subst e
        by_cases e1 : (j : Int) < n
        · have e0 : z.H.phase = 0 := hp.2 (by omega)
          repeat' (first
            | (refine k_L ?_; first | refine a_p rfl ?_ | (refine k_g ?_; first | refine a_gy rfl rfl ?_ | (refine a_gd rfl (fun hb => ?_) (fun hb => ?_) <;> try (exfalso; omega))) | (refine k_l ?_; refine g_l rfl ?_))
            | refine a_n ?_
            | (refine k_V ?_; first | refine v_seq ?_ | refine v_reg ?_ | refine v_exit ?_ | (refine v_cn rfl (fun hb => ?_) (fun hb => ?_) <;> try (exfalso; omega)))
            | refine s_n ?_
            | refine s_e ?_
            | refine b_e ?_)
          exact j_i z hz
        · repeat' (first
            | (refine k_L ?_; first | refine a_p rfl ?_ | (refine k_g ?_; first | refine a_gn rfl rfl ?_ | (refine a_gd rfl (fun hb => ?_) (fun hb => ?_) <;> try (exfalso; omega))))
            | refine a_n ?_
            | (refine k_V ?_; first | refine v_seq ?_ | refine v_reg ?_ | refine v_exit ?_ | refine v_cf rfl ?_)
            | refine s_n ?_
            | refine s_e ?_
            | refine b_e ?_)
          exact j_i z hz
      · have e0 : z.H.phase ≠ 0 := fun h' => by have := hp.1 h'; omega
        repeat' (first
          | (refine k_L ?_; first | (refine k_ad ?_; refine g_ad rfl rfl ?_) | refine a_p rfl ?_ | (refine k_g ?_; first | refine a_gy rfl rfl ?_ | (refine a_gd rfl (fun hb => ?_) (fun hb => ?_) <;> try (exfalso; omega))) | (refine k_l ?_; refine g_l rfl ?_) | (refine g_c rfl (l3unit_a hs e0) (fun v As' hq => ?_); obtain ⟨u, rfl, hu⟩ := hq))
          | refine a_n ?_
          | (refine k_V ?_; first | refine v_seq ?_ | refine v_reg ?_ | refine v_bs ?_ | refine v_skip ?_ | (refine v_cn rfl (fun hb => ?_) (fun hb => ?_) <;> try (exfalso; omega)))
          | refine s_n ?_
          | refine b_n ?_)
        refine ⟨mx - (j + 1), (j + 1, u), by omega, ⟨rfl, rfl, rfl, trivial⟩, Pm.ent (by (fail_if_success apply pm_bad); (repeat (first | exact pm_nil | (apply pm_cons; repeat (first | exact pk_h | apply pk_t)))); fail_if_success focus skip), rfl, by show j + 1 ≤ mx; omega, ?_⟩
        show u.H = iterU (j + 1) w.H
        rw [iterU_succ, ← hz]; exact hu
    rintro y S' As' hq
    cases y with
    | ret => exact hq.elim
    | ext i => exact hq.elim
    | nrm =>
    obtain ⟨z, hl', he', hz⟩ := hq
    refine v_weak _ hl' (VA.ent he' ?_)
    repeat' (first
      | (refine k_L ?_; refine a_p rfl ?_)
      | refine a_n ?_
      | (refine k_V ?_; first | refine v_seq ?_ | refine v_reg ?_ | refine v_ret ?_))
    exact fa_r (fun _ _ => rfl) (Pm.ent (fin z)) ⟨z, rfl, rfl, hz⟩
end Go.Proofs.Ytcmllambknfleaa.E
set_option linter.unusedVariables false
set_option linter.unusedSimpArgs false
set_option maxHeartbeats 8000000
set_option maxRecDepth 100000
namespace Go.Proofs.Ytcmllambknfleaa.E
open Go
open Classical
noncomputable def Heap.stepA (H : Heap) (n : Int) : Heap := if okH H = 0 ∧ 0 ≤ n ∧ n ≤ 100000 then H.stepH n else Heap.nil
noncomputable def stepAN (H : Heap) (n : Int) : Int := if okH H = 0 ∧ 0 ≤ n ∧ n ≤ 100000 then stepN H n else 0
/-- a heap given with a number -/
def HX.vn (x : HX) (n : Int) : Value := .agg (x.row ++ [Value.int .i64 n]).toArray
def outAN (m : Mem) (K : Heap) (n : Int) (v : Value) (As : List Asr) : Prop := ∃ E, (∃ y : HX, v = y.vn n ∧ y.H = K ∧ E = y.body) ∧ As = E ++ [ro m]
theorem implStep_a {m : Mem} {x : HX} {n : Int} (h : Has m x.body) : FnA Try.prog 63 [x.v, .int .i64 n] [ro m] (outAN m (x.H.stepA n) (stepAN x.H n)) := by
  unfold Heap.stepA stepAN
  refine fnA_of (fun h => fn63 (by simp) h) ?_
  by_cases hS : okH x.H = 0
  · have hs1 := (okH_sound x.H).1 hS
    by_cases hn : 0 ≤ n ∧ n ≤ 100000
    · rw [if_pos ⟨hS, hn⟩, if_pos ⟨hS, hn⟩]
      repeat' (first
        | (refine k_L ?_; first | refine a_p rfl ?_ | (refine k_g ?_; refine a_gy rfl rfl ?_) | (refine k_al ?_; refine a_al ?_) | (refine k_bx ?_; refine a_bx rfl rfl ?_) | (refine k_c ?_; first | refine a_cq rfl (fun m hm => qt_e (sound_q (x := x) (has_g h hm)) (congrArg Value.bool (decide_eq_true hS))) ?_ | refine a_cq rfl (fun m hm => impl.withinQ) ?_) | (refine g_c rfl (twin_a h hs1.r1 hs1.r2) (fun v As' hq => ?_); obtain ⟨b, z, rfl, rfl, hz⟩ := hq))
        | refine a_n ?_
        | (refine k_V ?_; first | refine v_seq ?_ | refine v_reg ?_ | refine v_skip ?_ | (refine v_cd rfl (fun hb => ?_) (fun hb => ?_) <;> try (exfalso; omega)) | (refine v_cnd rfl (fun hb => ?_) (fun hb => ?_) <;> try (exfalso; omega))))
      · have zb : z.begin.H = x.H.beginH := by rw [begin_H, hz]
        repeat' (first
          | (refine k_L ?_; first | refine a_p rfl ?_ | (refine g_c rfl (begin_a (x := z)) (fun v As' hq => ?_); subst hq))
          | refine a_n ?_
          | (refine k_V ?_; first | refine v_seq ?_ | refine v_reg ?_))
        refine g_c rfl (step_a (x := z.begin) (n := n) (by rw [zb]; exact beginH_ok hs1) (by omega)) (fun v As' hq => ?_)
        obtain ⟨u, rfl, rfl, hu⟩ := hq
        rw [zb] at hu ⊢
        repeat' (first
          | (refine k_L ?_; first | (refine k_ad ?_; refine g_ad rfl rfl ?_) | (refine k_su ?_; refine g_su rfl rfl ?_) | (refine k_ml ?_; refine g_ml rfl rfl ?_) | (refine k_g ?_; first | refine a_gy rfl rfl ?_ | refine a_gn rfl rfl ?_ | refine a_gu rfl ?_ | (refine a_gd rfl (fun hb => ?_) (fun hb => ?_) <;> try (exfalso; omega)) | (refine a_ge rfl (fun hb => ?_) (fun hb => ?_) <;> try (exfalso; omega)) | (refine a_gne rfl (fun hb => ?_) (fun hb => ?_) <;> try (exfalso; omega)) | (refine a_gnd rfl (fun hb => ?_) (fun hb => ?_) <;> try (exfalso; omega))) | (refine k_l ?_; refine g_l rfl ?_) | (refine k_i ?_; refine g_i rfl rfl ?_) | (refine k_ls ?_; refine g_ls rfl ?_) | (refine k_st ?_; first | refine g_st rfl rfl rfl rfl ?_ | refine g_sw rfl rfl rfl rfl (Nat.le_of_ble_eq_true rfl) ?_) | (refine k_al ?_; refine a_al ?_) | (refine k_bx ?_; refine a_bx rfl rfl ?_) | (refine k_bl ?_; refine a_bl rfl ?_))
          | refine a_n ?_
          | (refine k_V ?_; first | refine v_rv ?_ | refine v_seq ?_ | refine v_reg ?_ | refine v_dreg ?_ | refine v_zreg ?_ | refine v_bs ?_ | refine v_br ?_ | refine v_bd ?_ | refine v_bc ?_ | refine v_bk ?_ | refine v_bb ?_ | refine v_ret ?_ | refine v_exit ?_ | refine v_skip ?_ | refine v_ct rfl ?_ | refine v_cf rfl ?_ | (refine v_cd rfl (fun hb => ?_) (fun hb => ?_) <;> try (exfalso; omega)) | (refine v_ce rfl (fun hb => ?_) (fun hb => ?_) <;> try (exfalso; omega)) | (refine v_cn rfl (fun hb => ?_) (fun hb => ?_) <;> try (exfalso; omega)) | (refine v_cnd rfl (fun hb => ?_) (fun hb => ?_) <;> try (exfalso; omega)))
          | refine s_n ?_
          | refine s_r ?_
          | refine s_e ?_
          | refine b_n ?_
          | refine b_r ?_
          | refine b_e ?_
          | refine b_o rfl ?_
          | refine r_rt ?_
          | refine r_bk rfl ?_
          | refine r_ex rfl rfl ?_
          | refine sk_zero ?_
          | refine sk_succ ?_
          | refine wk_nil ?_
          | refine wk_cons ?_)
        refine a_p rfl (a_n ?_)
        repeat' (first
          | refine a_n ?_
          | (refine k_V ?_; first | refine v_seq ?_ | refine v_reg ?_))
        refine a_p rfl ?_
        refine a_p rfl ?_
        repeat' (first
          | (refine k_L ?_; (refine k_ls ?_; refine g_ls rfl ?_))
          | refine a_n ?_)
        refine a_p rfl ?_
        refine a_p (sv := .v (u.vn ((min n.toNat (outN x.H.beginH) : Nat)))) rfl ?_
        repeat' (first
          | (refine k_L ?_; (refine k_st ?_; refine g_sw rfl rfl rfl rfl (Nat.le_of_ble_eq_true rfl) ?_))
          | refine a_n ?_
          | (refine k_V ?_; refine v_ret ?_)
          | refine sk_zero ?_
          | refine sk_succ ?_
          | refine wk_nil ?_
          | refine wk_cons ?_)
        refine fa_r (As' := u.body ++ [ro m]) (fun _ _ => rfl) (Pm.ent (by (fail_if_success apply pm_bad); (repeat (first | exact pm_nil | (apply pm_cons; repeat (first | exact pk_h | apply pk_t)))); fail_if_success focus skip)) ⟨_, ⟨u, ?_, ?_, rfl⟩, rfl⟩
        · unfold stepN
          rw [if_neg (by omega)]; rfl
        · unfold Heap.stepH stepN
          rw [if_neg (by omega), if_neg (by omega)]; exact hu
      · refine g_c rfl (step_a (x := z) (n := n) (by rw [hz]; exact hs1) (by omega)) (fun v As' hq => ?_)
        obtain ⟨u, rfl, rfl, hu⟩ := hq
        have e0 : min n.toNat (outN z.H) = 0 := by omega
        rw [e0] at hu ⊢
        repeat' (first
          | (refine k_L ?_; first | (refine k_ad ?_; refine g_ad rfl rfl ?_) | (refine k_su ?_; refine g_su rfl rfl ?_) | (refine k_ml ?_; refine g_ml rfl rfl ?_) | (refine k_g ?_; first | refine a_gy rfl rfl ?_ | refine a_gn rfl rfl ?_ | refine a_gu rfl ?_ | (refine a_gd rfl (fun hb => ?_) (fun hb => ?_) <;> try (exfalso; omega)) | (refine a_ge rfl (fun hb => ?_) (fun hb => ?_) <;> try (exfalso; omega)) | (refine a_gne rfl (fun hb => ?_) (fun hb => ?_) <;> try (exfalso; omega)) | (refine a_gnd rfl (fun hb => ?_) (fun hb => ?_) <;> try (exfalso; omega))) | (refine k_l ?_; refine g_l rfl ?_) | (refine k_i ?_; refine g_i rfl rfl ?_) | (refine k_ls ?_; refine g_ls rfl ?_) | (refine k_st ?_; first | refine g_st rfl rfl rfl rfl ?_ | refine g_sw rfl rfl rfl rfl (Nat.le_of_ble_eq_true rfl) ?_) | (refine k_al ?_; refine a_al ?_) | (refine k_bx ?_; refine a_bx rfl rfl ?_) | (refine k_bl ?_; refine a_bl rfl ?_))
          | refine a_n ?_
          | (refine k_V ?_; first | refine v_rv ?_ | refine v_seq ?_ | refine v_reg ?_ | refine v_dreg ?_ | refine v_zreg ?_ | refine v_bs ?_ | refine v_br ?_ | refine v_bd ?_ | refine v_bc ?_ | refine v_bk ?_ | refine v_bb ?_ | refine v_ret ?_ | refine v_exit ?_ | refine v_skip ?_ | refine v_ct rfl ?_ | refine v_cf rfl ?_ | (refine v_cd rfl (fun hb => ?_) (fun hb => ?_) <;> try (exfalso; omega)) | (refine v_ce rfl (fun hb => ?_) (fun hb => ?_) <;> try (exfalso; omega)) | (refine v_cn rfl (fun hb => ?_) (fun hb => ?_) <;> try (exfalso; omega)) | (refine v_cnd rfl (fun hb => ?_) (fun hb => ?_) <;> try (exfalso; omega)))
          | refine s_n ?_
          | refine s_r ?_
          | refine s_e ?_
          | refine b_n ?_
          | refine b_r ?_
          | refine b_e ?_
          | refine b_o rfl ?_
          | refine r_rt ?_
          | refine r_bk rfl ?_
          | refine r_ex rfl rfl ?_
          | refine sk_zero ?_
          | refine sk_succ ?_
          | refine wk_nil ?_
          | refine wk_cons ?_)
        refine a_p rfl (a_n ?_)
        repeat' (first
          | refine a_n ?_
          | (refine k_V ?_; first | refine v_seq ?_ | refine v_reg ?_))
        refine a_p rfl ?_
        refine a_p rfl ?_
        repeat' (first
          | (refine k_L ?_; (refine k_ls ?_; refine g_ls rfl ?_))
          | refine a_n ?_)
        refine a_p rfl ?_
        refine a_p (sv := .v (u.vn (((0 : Nat) : Int)))) rfl ?_
        repeat' (first
          | (refine k_L ?_; (refine k_st ?_; refine g_sw rfl rfl rfl rfl (Nat.le_of_ble_eq_true rfl) ?_))
          | refine a_n ?_
          | (refine k_V ?_; refine v_ret ?_)
          | refine sk_zero ?_
          | refine sk_succ ?_
          | refine wk_nil ?_
          | refine wk_cons ?_)
        refine fa_r (As' := u.body ++ [ro m]) (fun _ _ => rfl) (Pm.ent (by (fail_if_success apply pm_bad); (repeat (first | exact pm_nil | (apply pm_cons; repeat (first | exact pk_h | apply pk_t)))); fail_if_success focus skip)) ⟨_, ⟨u, ?_, ?_, rfl⟩, rfl⟩
        · unfold stepN
          rw [if_pos (by omega)]; rfl
        · unfold Heap.stepH
          rw [if_pos (by omega), hu]; exact hz
    · rw [if_neg (fun h => hn h.2), if_neg (fun h => hn h.2)]
      repeat' (first
        | (refine k_L ?_; first | refine a_p rfl ?_ | (refine k_g ?_; refine a_gy rfl rfl ?_) | (refine k_st ?_; refine g_sw rfl rfl rfl rfl (Nat.le_of_ble_eq_true rfl) ?_) | (refine k_al ?_; refine a_al ?_) | (refine k_bx ?_; refine a_bx rfl rfl ?_) | (refine k_c ?_; first | refine a_cq rfl (fun m hm => qt_e (sound_q (x := x) (has_g h hm)) (congrArg Value.bool (decide_eq_true hS))) ?_ | refine a_cq rfl (fun m hm => impl.withinQ) ?_))
        | refine a_n ?_
        | (refine k_V ?_; first | refine v_seq ?_ | refine v_reg ?_ | refine v_ret ?_ | (refine v_cnd rfl (fun hb => ?_) (fun hb => ?_) <;> try (exfalso; omega)))
        | refine s_r ?_
        | refine sk_zero ?_
        | refine sk_succ ?_
        | refine wk_nil ?_
        | refine wk_cons ?_)
      exact fa_r (As' := HX.nil.body ++ [ro m]) (fun _ _ => rfl) nil_ent ⟨_, ⟨HX.nil, rfl, rfl, rfl⟩, rfl⟩
  · rw [if_neg (fun h => hS h.1), if_neg (fun h => hS h.1)]
    repeat' (first
      | (refine k_L ?_; first | refine a_p rfl ?_ | (refine k_g ?_; refine a_gn rfl rfl ?_) | (refine k_st ?_; refine g_sw rfl rfl rfl rfl (Nat.le_of_ble_eq_true rfl) ?_) | (refine k_al ?_; refine a_al ?_) | (refine k_bx ?_; refine a_bx rfl rfl ?_) | (refine k_c ?_; refine a_cq rfl (fun m hm => qt_e (sound_q (x := x) (has_g h hm)) (congrArg Value.bool (decide_eq_false hS))) ?_))
      | refine a_n ?_
      | (refine k_V ?_; first | refine v_seq ?_ | refine v_reg ?_ | refine v_ret ?_ | refine v_ct rfl ?_)
      | refine s_r ?_
      | refine sk_zero ?_
      | refine sk_succ ?_
      | refine wk_nil ?_
      | refine wk_cons ?_)
    exact fa_r (As' := HX.nil.body ++ [ro m]) (fun _ _ => rfl) nil_ent ⟨_, ⟨HX.nil, rfl, rfl, rfl⟩, rfl⟩
theorem specStep_a {m : Mem} {x : HX} {n : Int} (h : Has m x.body) : FnA Try.prog 62 [x.v, .int .i64 n] [ro m] (outAN m (x.H.stepA n) (stepAN x.H n)) := by
  unfold Heap.stepA stepAN
  refine fnA_of (fun h => fn62 (by simp) h) ?_
  by_cases hS : okH x.H = 0
  · have hs1 := (okH_sound x.H).1 hS
    by_cases hn : 0 ≤ n ∧ n ≤ 100000
    · rw [if_pos ⟨hS, hn⟩, if_pos ⟨hS, hn⟩]
      repeat' (first
        | (refine k_L ?_; first | refine a_p rfl ?_ | (refine k_g ?_; first | refine a_gy rfl rfl ?_ | (refine a_gd rfl (fun hb => ?_) (fun hb => ?_) <;> try (exfalso; omega))) | (refine k_al ?_; refine a_al ?_) | (refine k_bx ?_; refine a_bx rfl rfl ?_) | (refine k_c ?_; refine a_cq rfl (fun m hm => qt_e (specHeapOk_q (x := x) (has_g h hm)) (by rw [hS])) ?_) | (refine g_c rfl (l1copy_a h hs1.r1 hs1.r2) (fun v As' hq => ?_); obtain ⟨b, z, rfl, rfl, hz⟩ := hq))
        | refine a_n ?_
        | (refine k_V ?_; first | refine v_seq ?_ | refine v_reg ?_ | refine v_skip ?_ | (refine v_cd rfl (fun hb => ?_) (fun hb => ?_) <;> try (exfalso; omega))))
      refine g_c rfl (l3step_a (x := z) (n := n) (by rw [hz]; exact hs1) (by omega)) (fun v As' hq => ?_)
      obtain ⟨u, rfl, rfl, hu⟩ := hq
      rw [hz] at hu ⊢
      repeat' (first
        | (refine k_L ?_; first | (refine k_ad ?_; refine g_ad rfl rfl ?_) | (refine k_su ?_; refine g_su rfl rfl ?_) | (refine k_ml ?_; refine g_ml rfl rfl ?_) | (refine k_g ?_; first | refine a_gy rfl rfl ?_ | refine a_gn rfl rfl ?_ | refine a_gu rfl ?_ | (refine a_gd rfl (fun hb => ?_) (fun hb => ?_) <;> try (exfalso; omega)) | (refine a_ge rfl (fun hb => ?_) (fun hb => ?_) <;> try (exfalso; omega)) | (refine a_gne rfl (fun hb => ?_) (fun hb => ?_) <;> try (exfalso; omega)) | (refine a_gnd rfl (fun hb => ?_) (fun hb => ?_) <;> try (exfalso; omega))) | (refine k_l ?_; refine g_l rfl ?_) | (refine k_i ?_; refine g_i rfl rfl ?_) | (refine k_ls ?_; refine g_ls rfl ?_) | (refine k_st ?_; first | refine g_st rfl rfl rfl rfl ?_ | refine g_sw rfl rfl rfl rfl (Nat.le_of_ble_eq_true rfl) ?_) | (refine k_al ?_; refine a_al ?_) | (refine k_bx ?_; refine a_bx rfl rfl ?_) | (refine k_bl ?_; refine a_bl rfl ?_))
        | refine a_n ?_
        | (refine k_V ?_; first | refine v_rv ?_ | refine v_seq ?_ | refine v_reg ?_ | refine v_dreg ?_ | refine v_zreg ?_ | refine v_bs ?_ | refine v_br ?_ | refine v_bd ?_ | refine v_bc ?_ | refine v_bk ?_ | refine v_bb ?_ | refine v_ret ?_ | refine v_exit ?_ | refine v_skip ?_ | refine v_ct rfl ?_ | refine v_cf rfl ?_ | (refine v_cd rfl (fun hb => ?_) (fun hb => ?_) <;> try (exfalso; omega)) | (refine v_ce rfl (fun hb => ?_) (fun hb => ?_) <;> try (exfalso; omega)) | (refine v_cn rfl (fun hb => ?_) (fun hb => ?_) <;> try (exfalso; omega)) | (refine v_cnd rfl (fun hb => ?_) (fun hb => ?_) <;> try (exfalso; omega)))
        | refine s_n ?_
        | refine s_r ?_
        | refine s_e ?_
        | refine b_n ?_
        | refine b_r ?_
        | refine b_e ?_
        | refine b_o rfl ?_
        | refine r_rt ?_
        | refine r_bk rfl ?_
        | refine r_ex rfl rfl ?_
        | refine sk_zero ?_
        | refine sk_succ ?_
        | refine wk_nil ?_
        | refine wk_cons ?_)
      refine a_p rfl (a_n ?_)
      repeat' (first
        | refine a_n ?_
        | (refine k_V ?_; first | refine v_seq ?_ | refine v_reg ?_))
      refine a_p rfl ?_
      refine a_p rfl ?_
      repeat' (first
        | (refine k_L ?_; (refine k_ls ?_; refine g_ls rfl ?_))
        | refine a_n ?_)
      refine a_p rfl ?_
      refine a_p (sv := .v (u.vn ((stepN x.H n : Nat)))) rfl ?_
      repeat' (first
        | (refine k_L ?_; (refine k_st ?_; refine g_sw rfl rfl rfl rfl (Nat.le_of_ble_eq_true rfl) ?_))
        | refine a_n ?_
        | (refine k_V ?_; refine v_ret ?_)
        | refine sk_zero ?_
        | refine sk_succ ?_
        | refine wk_nil ?_
        | refine wk_cons ?_)
      exact fa_r (As' := u.body ++ [ro m]) (fun _ _ => rfl) (Pm.ent (by (fail_if_success apply pm_bad); (repeat (first | exact pm_nil | (apply pm_cons; repeat (first | exact pk_h | apply pk_t)))); fail_if_success focus skip)) ⟨_, ⟨u, rfl, hu, rfl⟩, rfl⟩
    · rw [if_neg (fun h => hn h.2), if_neg (fun h => hn h.2)]
      repeat' (first
        | (refine k_L ?_; first | refine a_p rfl ?_ | (refine k_g ?_; first | refine a_gy rfl rfl ?_ | refine a_gn rfl rfl ?_ | (refine a_gd rfl (fun hb => ?_) (fun hb => ?_) <;> try (exfalso; omega))) | (refine k_st ?_; refine g_sw rfl rfl rfl rfl (Nat.le_of_ble_eq_true rfl) ?_) | (refine k_al ?_; refine a_al ?_) | (refine k_bx ?_; refine a_bx rfl rfl ?_) | (refine k_c ?_; refine a_cq rfl (fun m hm => qt_e (specHeapOk_q (x := x) (has_g h hm)) (by rw [hS])) ?_))
        | refine a_n ?_
        | (refine k_V ?_; first | refine v_seq ?_ | refine v_reg ?_ | refine v_ret ?_ | refine v_ct rfl ?_ | (refine v_cd rfl (fun hb => ?_) (fun hb => ?_) <;> try (exfalso; omega)))
        | refine s_r ?_
        | refine sk_zero ?_
        | refine sk_succ ?_
        | refine wk_nil ?_
        | refine wk_cons ?_)
      all_goals exact fa_r (As' := HX.nil.body ++ [ro m]) (fun _ _ => rfl) nil_ent ⟨_, ⟨HX.nil, rfl, rfl, rfl⟩, rfl⟩
  · rw [if_neg (fun h => hS h.1), if_neg (fun h => hS h.1)]
    repeat' (first
      | (refine k_L ?_; first | refine a_p rfl ?_ | (refine k_g ?_; first | refine a_gn rfl rfl ?_ | (refine a_gne rfl (fun hb => ?_) (fun hb => ?_) <;> try (exfalso; omega))) | (refine k_st ?_; refine g_sw rfl rfl rfl rfl (Nat.le_of_ble_eq_true rfl) ?_) | (refine k_al ?_; refine a_al ?_) | (refine k_bx ?_; refine a_bx rfl rfl ?_) | (refine k_c ?_; refine a_cq rfl (fun m hm => specHeapOk_q (x := x) (has_g h hm)) ?_))
      | refine a_n ?_
      | (refine k_V ?_; first | refine v_seq ?_ | refine v_reg ?_ | refine v_ret ?_ | refine v_ct rfl ?_)
      | refine s_r ?_
      | refine sk_zero ?_
      | refine sk_succ ?_
      | refine wk_nil ?_
      | refine wk_cons ?_)
    exact fa_r (As' := HX.nil.body ++ [ro m]) (fun _ _ => rfl) nil_ent ⟨_, ⟨HX.nil, rfl, rfl, rfl⟩, rfl⟩
end Go.Proofs.Ytcmllambknfleaa.E
set_option linter.unusedVariables false
set_option linter.unusedSimpArgs false
set_option maxHeartbeats 8000000
set_option maxRecDepth 100000
namespace Go.Proofs.Ytcmllambknfleaa.E
open Go
open Classical
theorem stepA_ok (H : Heap) (n : Int) : OkK (H.stepA n) := by
  unfold Heap.stepA
  split
  · rename_i h
    exact .inl (stepH_ok ((okH_sound H).1 h.1) n)
  · exact .inr rfl
theorem eqStepped_q {x y : HX} {n k : Int} {m : Mem} (hx : Has m x.body) (hy : Has m y.body) (e : x.H = y.H) (en : n = k) : Qt Try.prog 64 [x.vn n, y.vn k] m (.bool true) := by
  refine qt_of (fnA_of (fun h => fn64 (by simp) h) ?_)
  subst en
  repeat' (first
    | (refine k_L ?_; first | refine a_p rfl ?_ | (refine k_bx ?_; refine a_bx rfl rfl ?_) | (refine k_c ?_; refine a_cq rfl (fun m hm => qt_e (eqHeap_q (x := x.hs) (y := y.hs) (has_g hx hm).b (has_g hy hm).b) (congrArg Value.bool (decide_eq_true e))) ?_))
    | refine a_n ?_
    | (refine k_V ?_; first | refine v_rv ?_ | refine v_seq ?_ | refine v_reg ?_ | refine v_skip ?_ | refine v_cf rfl ?_ | (refine v_cn rfl (fun hb => ?_) (fun hb => ?_) <;> try (exfalso; omega))))
  all_goals exact fa_q (by simp) (fun _ _ => rfl) rfl
theorem markStepped_a {x : HX} {n k : Int} (h0 : 0 ≤ k) (hb : endH k x.H ≤ 4611686018427387904) : FnA Try.prog 65 [x.vn n, .int .i64 k] x.body (fun v As => v = .int .i64 (endH k x.H) ∧ ∃ y : HX, y.hs = gH k x.hs ∧ As = y.body) := by
  refine fnA_of (fun h => fn65 (by simp) h) ?_
  repeat' (first
    | (refine k_L ?_; first | refine a_p rfl ?_ | (refine k_bx ?_; refine a_bx rfl rfl ?_))
    | refine a_n ?_
    | (refine k_V ?_; first | refine v_seq ?_ | refine v_reg ?_))
  refine g_c rfl (markHeap_a (x := x) (k := k) h0 hb) (fun v As' hq => ?_)
  obtain ⟨rfl, gn, hgn, rfl⟩ := hq
  repeat' (first
    | (refine k_L ?_; refine a_p rfl ?_)
    | refine a_n ?_
    | (refine k_V ?_; first | refine v_seq ?_ | refine v_reg ?_ | refine v_ret ?_))
  exact fa_r (As' := gn.body) (fun _ _ => rfl) (Pm.ent (by (fail_if_success apply pm_bad); (repeat (first | exact pm_nil | (apply pm_cons; repeat (first | exact pk_h | apply pk_t)))); fail_if_success focus skip)) ⟨rfl, gn, hgn, rfl⟩
theorem heldStepped_q {x y : HX} {n k : Int} {m : Mem} (h0 : 0 ≤ k) (hb : 0 ≤ endH k x.H ∧ endH k x.H ≤ 4611686018427387904) (hy : y.hs = gH k x.hs) (h : Has m y.body) : Qt Try.prog 66 [x.vn n, .int .i64 k] m (.int .i64 (endH k x.H)) := by
  refine qt_of (fnA_of (fun h => fn66 (by simp) h) ?_)
  repeat' (first
    | (refine k_L ?_; first | refine a_p rfl ?_ | (refine k_bx ?_; refine a_bx rfl rfl ?_) | (refine k_c ?_; refine a_cq rfl (fun m hm => heldHeap_a (x := x) (k := k) h0 hb.2 hy (has_g h hm)) ?_))
    | refine a_n ?_
    | (refine k_V ?_; first | refine v_seq ?_ | refine v_reg ?_ | refine v_ret ?_ | refine v_skip ?_ | (refine v_cd rfl (fun hb => ?_) (fun hb => ?_) <;> try (exfalso; omega))))
  exact fa_q (by simp) (fun _ _ => rfl) rfl
theorem fnExactStep_q {M : Mem} {x : HS} {i : Int} (hx : RHVR M x) : Qt Try.prog 17 [x.v, .int .i64 i] M (.bool true) := by
  refine qt_of (fnA_of (fun h => fn17 (by simp) h) ?_)
  repeat' (first
    | (refine k_L ?_; first | refine a_p rfl ?_ | (refine k_bx ?_; refine a_bx rfl rfl ?_) | (refine k_c ?_; refine a_cq rfl (fun m hm => szHeap_q (by omega) (by omega) (hx.le (ro_of hm (by (fail_if_success apply pm_bad); (repeat (first | exact pm_nil | (apply pm_cons; repeat (first | exact pk_h | apply pk_t)))); fail_if_success focus skip)))) ?_))
    | refine a_n ?_
    | (refine k_V ?_; first | refine v_rv ?_ | refine v_seq ?_ | refine v_reg ?_ | refine v_skip ?_ | (refine v_cd rfl (fun hb => ?_) (fun hb => ?_) <;> try (exfalso; omega)))
    | refine s_r ?_)
  · exact fa_q (by simp) (fun _ _ => rfl) rfl
  have hb' : x.H.bulk ≤ 1048576 := by
    by_cases h : x.H.bulk ≤ 1048576
    · exact h
    · rw [if_neg h] at *; omega
  have hpn := pairsN_nonneg x.H.cells
  have hb2 := hb'
  unfold Heap.bulk at hb2
  obtain ⟨k1, k2⟩ := (stepA_ok x.H i).fin
  refine g_c rfl (toHeap_a hb' hx) (fun v As' hq => ?_)
  obtain ⟨y, rfl, hy, rfl⟩ := hq
  repeat' (first
    | (refine k_L ?_; refine a_p rfl ?_)
    | refine a_n ?_)
  refine g_c rfl (fna_ro (q := fun v E => ∃ u : HX, v = u.vn (stepAN y.H i) ∧ u.H = y.H.stepA i ∧ E = u.body) (fun m hm => specStep_a (x := y) (has_star hm))) (fun v As' hq => ?_)
  obtain ⟨_, ⟨ws, rfl, hw, rfl⟩, rfl⟩ := hq
  rw [hy] at hw ⊢
  repeat' (first
    | (refine k_L ?_; first | refine a_p rfl ?_ | (refine k_st ?_; refine g_sw rfl rfl rfl rfl (Nat.le_of_ble_eq_true rfl) ?_) | (refine k_al ?_; refine a_al ?_))
    | refine a_n ?_
    | (refine k_V ?_; first | refine v_seq ?_ | refine v_reg ?_)
    | refine sk_zero ?_
    | refine sk_succ ?_
    | refine wk_nil ?_
    | refine wk_cons ?_)
  refine g_c rfl (toHeap_a hb' hx) (fun v As' hq => ?_)
  obtain ⟨z, rfl, hz, rfl⟩ := hq
  repeat' (first
    | (refine k_L ?_; first | refine a_p rfl ?_ | (refine k_st ?_; refine g_sw rfl rfl rfl rfl (Nat.le_of_ble_eq_true rfl) ?_) | (refine k_al ?_; refine a_al ?_))
    | refine a_n ?_
    | (refine k_V ?_; first | refine v_seq ?_ | refine v_reg ?_)
    | refine sk_zero ?_
    | refine sk_succ ?_
    | refine wk_nil ?_
    | refine wk_cons ?_)
  refine g_c rfl (fna_ro (q := fun v E => ∃ u : HX, v = u.vn (stepAN z.H i) ∧ u.H = z.H.stepA i ∧ E = u.body) (fun m hm => implStep_a (x := z) (has_star hm))) (fun v As' hq => ?_)
  obtain ⟨_, ⟨gs, rfl, hg, rfl⟩, rfl⟩ := hq
  rw [hz] at hg ⊢
  repeat' (first
    | (refine k_L ?_; first | refine a_p rfl ?_ | (refine k_st ?_; refine g_sw rfl rfl rfl rfl (Nat.le_of_ble_eq_true rfl) ?_) | (refine k_al ?_; refine a_al ?_) | (refine k_c ?_; refine a_cq rfl (fun m hm => eqStepped_q (x := gs) (y := ws) (has_p (Bs := gs.body) hm) (has_p (Bs := ws.body) hm) (hg.trans hw.symm) rfl) ?_))
    | refine a_n ?_
    | (refine k_V ?_; first | refine v_seq ?_ | refine v_reg ?_ | refine v_zreg ?_ | refine v_skip ?_ | refine v_cf rfl ?_)
    | refine sk_zero ?_
    | refine sk_succ ?_
    | refine wk_nil ?_
    | refine wk_cons ?_)
  refine g_c rfl (toHeap_a hb' hx) (fun v As' hq => ?_)
  obtain ⟨u, rfl, hu, rfl⟩ := hq
  repeat' (first
    | (refine k_L ?_; first | refine a_p rfl ?_ | (refine k_c ?_; refine a_cq rfl (fun m hm => qt_e (eqHeap_q (x := z.hs) (y := u.hs) (has_p hm).b (has_p hm).b) (congrArg Value.bool (decide_eq_true (hz.trans hu.symm)))) ?_))
    | refine a_n ?_
    | (refine k_V ?_; first | refine v_seq ?_ | refine v_reg ?_ | refine v_skip ?_ | refine v_cf rfl ?_))
  have he := endH_eq 1 z.H
  rw [hz] at he
  refine g_c rfl (markHeap_d (x := z) (k := 1) (by omega) (by rw [hz]; omega)) (fun v As' hq => ?_)
  obtain ⟨rfl, rfl⟩ := hq
  rw [hz]
  repeat' (first
    | (refine k_L ?_; first | refine a_p rfl ?_ | (refine k_g ?_; first | refine a_gy rfl rfl ?_ | (refine a_gd rfl (fun hb => ?_) (fun hb => ?_) <;> try (exfalso; omega))) | (refine k_c ?_; refine a_cq rfl (fun m hm => eqStepped_q (x := gs) (y := ws) (has_p (Bs := gs.body) hm) (has_p (Bs := ws.body) hm) (hg.trans hw.symm) rfl) ?_))
    | refine a_n ?_
    | (refine k_V ?_; first | refine v_seq ?_ | refine v_reg ?_ | refine v_skip ?_ | refine v_cf rfl ?_))
  refine g_c rfl (markStepped_a (x := gs) (k := 1) (by omega) (by rw [hg]; omega)) (fun v As' hq => ?_)
  obtain ⟨rfl, gn, hgn, rfl⟩ := hq
  rw [hg]
  repeat' (first
    | (refine k_L ?_; first | refine a_p rfl ?_ | (refine k_c ?_; refine a_cq rfl (fun m hm => qt_e (heldStepped_q (x := gs) (k := 1) (by omega) (by rw [hg]; omega) hgn (has_p (Bs := gn.body) hm)) (by rw [hg])) ?_))
    | refine a_n ?_
    | (refine k_V ?_; first | refine v_seq ?_ | refine v_reg ?_ | refine v_skip ?_ | (refine v_cd rfl (fun hb => ?_) (fun hb => ?_) <;> try (exfalso; omega)) | (refine v_cn rfl (fun hb => ?_) (fun hb => ?_) <;> try (exfalso; omega))))
  refine g_c rfl (toHeap_a hb' hx) (fun v As' hq => ?_)
  obtain ⟨t, rfl, ht, rfl⟩ := hq
  repeat' (first
    | (refine k_L ?_; refine a_p rfl ?_)
    | refine a_n ?_)
  refine g_c rfl (fna_ro (q := fun v E => ∃ u : HX, v = u.vn (stepAN t.H i) ∧ u.H = t.H.stepA i ∧ E = u.body) (fun m hm => implStep_a (x := t) (has_star hm))) (fun v As' hq => ?_)
  obtain ⟨_, ⟨hd, rfl, hh, rfl⟩, rfl⟩ := hq
  rw [ht] at hh ⊢
  repeat' (first
    | (refine k_L ?_; first | refine a_p rfl ?_ | (refine k_st ?_; refine g_sw rfl rfl rfl rfl (Nat.le_of_ble_eq_true rfl) ?_) | (refine k_al ?_; refine a_al ?_) | (refine k_c ?_; first | refine a_cq rfl (fun m hm => eqStepped_q (x := hd) (y := ws) (has_p (Bs := hd.body) hm) (has_p (Bs := ws.body) hm) (hh.trans hw.symm) rfl) ?_ | refine a_cq rfl (fun m hm => qt_e (heldStepped_q (x := gs) (k := 1) (by omega) (by rw [hg]; omega) hgn (has_p (Bs := gn.body) hm)) (by rw [hg])) ?_))
    | refine a_n ?_
    | (refine k_V ?_; first | refine v_rv ?_ | refine v_seq ?_ | refine v_reg ?_ | refine v_skip ?_ | refine v_cf rfl ?_ | (refine v_cd rfl (fun hb => ?_) (fun hb => ?_) <;> try (exfalso; omega)) | (refine v_cn rfl (fun hb => ?_) (fun hb => ?_) <;> try (exfalso; omega)))
    | refine sk_zero ?_
    | refine sk_succ ?_
    | refine wk_nil ?_
    | refine wk_cons ?_)
  exact fa_q (by simp) (fun _ _ => rfl) rfl
end Go.Proofs.Ytcmllambknfleaa.E
set_option linter.unusedVariables false
set_option linter.unusedSimpArgs false
set_option maxRecDepth 100000
namespace Go.Proofs.Ytcmllambknfleaa.E
open Go Go.ChangeShapes Go.WideShapes Go.ChangeAt Go.RowKit
theorem liftedStep (os : Os) (started : os.Started) (H : Type) (enc : TypeId × Value → H) :
    ReturnsInHanded {} Try.checked os 17 .any (Rows.fnExactStepSpec.pre6 enc Try.prog Try.f17 Rows.fnExactStepRow.domain false) (Rows.fnExactStepSpec.post enc Try.prog Try.f17 false true false false) := by
  refine returnsInHanded_of_change_sized (C := Try.checked) ownknob started (by kernel_rfl) Try.func17
    (ChangeSpec.witness6 (enc := enc) (C := Try.checked) false ⟨#[], #[.agg #[.int .i64 0, .int .i64 0, .int .i64 0, .slice none 0 0, .slice none 0 0, .int .i64 0, .int .i64 0, .int .i64 0, .slice none 0 0, .int .i64 0, .int .i64 0, .int .i64 0, .int .i64 0], .int .i64 0], []⟩ 8 (by kernel_rfl) (by kernel_rfl) (by kernel_rfl) (by kernel_rfl)) ?_
  intro W base args ds gs before hval0 hW hcnd hsz0 _
  have hval : ∀ (j : Nat) t v, Try.f17.params[j]? = some t → args[j]? = some v → Value.okWide Try.prog W .any base t v := hval0
  have hW' := hW
  obtain ⟨p, q, hA0, hV, rfl, hfz, hnd⟩ := hW
  have hA : DataW.TrodAll enc Try.prog W 0 (fun _ => true) true [43, 3] args.toList ds p := hA0
  obtain ⟨v0, v1, d0, d1, p0, p1, rfl, rfl, rfl, h0, h1⟩ := trodAll_two hA
  obtain ⟨rfl, rfl⟩ := trodVars_none hV
  obtain ⟨cs, rfl, _⟩ := okWide_struct und_heap (hval 0 43 v0 rfl rfl)
  obtain ⟨a1, rfl, rfl, rfl, wa1⟩ := open_int und_int (hval 1 3 v1 rfl rfl) h1
  clear hA0 hval0 hsz0
  have h0k := h0
  obtain ⟨fuel, h0'⟩ := h0
  obtain ⟨x, e, hx⟩ := open_heap h0'
  have e : cs = (hv x.H x.rs x.cs x.gs).toArray := by
    have : cs.toList = hv x.H x.rs x.cs x.gs := e
    rw [← this]
  subst e
  have hlt0 : ∀ x ∈ p0, x.block < W.heap.size := fun x hx => by simpa using hW'.lt x (by simp [hx])
  have hq : Fn Try.prog 17 [x.v, .int .i64 a1] (memOf W) (fun v M' => v = .bool true ∧ (memOf W).le M') := (fnExactStep_q hx).mono fun v M' ⟨h1, h2⟩ => ⟨h1, by rw [h2]; exact Mem.le_refl _⟩
  refine (row_of hq).mono fun e W' ⟨he, bel⟩ => ?_
  subst he
  have hT0 := Below.trod laid (by kernel_rfl) (of_decide_eq_true (by kernel_rfl)) h0k bel hlt0
  exact ⟨_, rfl, _, _, _, [], _, [], hW', trodAll_mk1 (shut_bool und_bool _), trodAll_cons_mk hT0 (trodAll_mk1 (shut_int und_int wa1)), rfl, bel.frame _, fun h => by cases h⟩
end Go.Proofs.Ytcmllambknfleaa.E
namespace Go.Proofs.Ytcmllambknfleaa
open Go.ChangeShapes Go.WideShapes Go.ChangeAt Go.RowKit
/-- The row, under a short name, for the claim. -/
theorem fnExactStep_holds : Rows.FnExactStepSaid :=
  OpenClaim.holds_of_wide 17 Try.f17 rfl rfl rfl rfl rfl rfl rfl ⟨rfl, rfl, rfl, rfl, rfl⟩ rfl rfl rfl rfl rfl (by kernel_rfl) Try.func17 jfStep
    (of_decide_eq_true (by kernel_rfl)) (by unfold Func.isWrapper; first | (rw [if_pos (by decide +kernel)]; kernel_rfl) | (rw [if_neg (by decide +kernel)]; exact ⟨rfl, rfl⟩))
    (fun os started H enc _ => E.liftedStep os started H enc)
end Go.Proofs.Ytcmllambknfleaa
