/- What is reached, the reference's. Conditions: none. -/
import Derived.Test.YtcmllambknfleaaKC11
import Derived.Test.YtcmllambknfleaaJfLive
set_option linter.unusedVariables false
set_option linter.unusedSimpArgs false
set_option maxHeartbeats 8000000
set_option maxRecDepth 100000
namespace Go.Proofs.Ytcmllambknfleaa.E
open Go
open Classical
theorem l2mark_n {m : Mem} {a N : Nat} {x : HX} {w : Word} {s : List Bool × List Int} {S : Nat → Prop} {sd kd : D} (h : Has m (hp a x)) (h1 : R1 x.H) (h2 : R2 x.H) (hf : Formed x.H w) (hk : Mk x.H S s) (hN : s.1.length = N) :
    FnA Try.prog 151 [ptr a, .slice sd.a N sd.cap, .slice kd.a s.2.length kd.cap, wa w] [slA 1 bv sd s.1, slA 1 iv kd s.2, ro m] (fun v As => ∃ kd' : D, v = .slice kd'.a (mkW x.H s w).2.length kd'.cap ∧ As = [slA 1 bv sd (mkW x.H s w).1, slA 1 iv kd' (mkW x.H s w).2, ro m]) := by
  subst hN
  exact l2mark_a h h1 h2 hf hk
theorem grow_drop {H : Heap} {S : Nat → Prop} {s t : List Bool × List Int} {h : Nat} (hk : Mk H S s) (g : Grow s t) (hl : h ≤ s.2.length) :
    (∀ j : Nat, t.1[j]? = some true → s.1[j]? = some true ∨ (j : Int) ∈ t.2.drop h) ∧ ∀ j : Nat, (j : Int) ∈ s.2.drop h → (j : Int) ∈ t.2.drop h := by
  obtain ⟨e, he⟩ := g.pre
  have hd : t.2.drop h = s.2.drop h ++ e := by rw [← he, List.drop_append_of_le_length hl]
  refine ⟨fun j hj => ?_, fun j hj => by rw [hd]; exact List.mem_append_left _ hj⟩
  rcases g.new j hj with h' | h'
  · exact .inl h'
  · rw [← he] at h'
    rcases List.mem_append.1 h' with h' | h'
    · obtain ⟨k, e1, e2⟩ := hk.stk _ h'
      have : j = k := by omega
      subst this; exact .inl e2
    · right; rw [hd]; exact List.mem_append_right _ h'
abbrev sqA (sd kd : D) (s : List Bool × List Int) : List Asr := [slA 1 bv sd s.1, slA 1 iv kd s.2]
theorem l2reach_a {m : Mem} {a : Nat} {x : HX} (h : Has m (hp a x)) (h1 : R1 x.H) (h2 : R2 x.H) (h4 : R4 x.H) : FnA Try.prog 116 [ptr a] [ro m] (fun v As => ∃ (sd kd : D) (Q : List Int), v = .tuple #[.slice sd.a (reachL x.H).length sd.cap, .slice kd.a Q.length kd.cap] ∧ As = [slA 1 bv sd (reachL x.H), ro m]) := by
  have hb0 := h.lens
  have hl := x.len
  have hc1 := h1.cells
  have hc2 := h1.room
  refine fnA_of (fun h => fn116 (by simp) h) ?_
  repeat' (first
    | (refine k_L ?_; first | refine a_p rfl ?_ | (refine k_l ?_; refine g_l rfl ?_) | (refine a_mk (f := bv) (n := (x.xs.length : Int)) (k := (x.xs.length : Int)) false (fun _ => rfl) rfl rfl rfl (by omega) (by omega) (fun sd hsd => ?_)))
    | refine a_n ?_
    | (refine k_V ?_; first | refine v_seq ?_ | refine v_reg ?_)
    | refine s_n ?_)
  have hm0 := mk0 x.H (Reached x.H)
  rw [hl] at hm0
  refine VA.ent (ent_new (f := iv) (size := 1)) ?_
  have hreg : ∀ w, w ∈ x.H.regs → ∀ j, x.H.tgt w = some j → j < x.H.cells.length ∧ Reached x.H j := fun w hw j hj => ⟨(tgt_lt h2 (h4.regs w hw).1 hj).1, .reg hw hj⟩
  refine g_range x.regs.length (fun q : PQ => [(0, .v (ptr a)), (4, .v (.slice sd.a x.xs.length sd.cap)), (5, .v (.slice q.2.a q.1.2.length q.2.cap)), (22, .v (.slice x.rd.a x.regs.length x.rd.cap))]) (fun q => sqA sd q.2 q.1 ++ [ro m])
    (fun i q => MkA x.H (Reached x.H) q.1 ∧ ∀ w, w ∈ x.H.regs.take i → Hit x.H q.1.1 w) (((List.replicate x.xs.length false, []), ⟨none, 0⟩) : PQ) ⟨hm0, by simp⟩ (fun i q hi hv => ?_) (fun q hv => ?_) (hent := Pm.ent (by (fail_if_success apply pm_bad); (repeat (first | exact pm_nil | (apply pm_cons; repeat (first | exact pk_h | apply pk_t)))); fail_if_success focus skip))
  · obtain ⟨w, gw⟩ : ∃ w, x.regs[i]? = some w := ⟨_, List.getElem?_eq_getElem hi⟩
    have hwm : w ∈ x.H.regs := List.mem_of_getElem? gw
    obtain ⟨n1, n2, n3⟩ := hv.1.next (hreg w hwm)
    repeat' (first
      | (refine k_L ?_; first | refine a_p rfl ?_ | (refine k_i ?_; refine g_i rfl rfl ?_) | (refine k_ls ?_; refine g_ls rfl ?_) | (refine k_st ?_; refine g_sw rfl rfl rfl rfl (Nat.le_of_ble_eq_true rfl) ?_) | (refine k_al ?_; refine a_al ?_))
      | refine a_n ?_
      | (refine k_V ?_; first | refine v_seq ?_ | refine v_reg ?_)
      | refine sk_zero ?_
      | refine sk_succ ?_
      | refine wk_nil ?_
      | refine wk_cons ?_)
    refine g_c rfl (l2mark_n (sd := sd) (kd := q.2) (w := w) (s := q.1) (S := Reached x.H) h h1 h2 (h4.regs w hwm).1 hv.1.ok (hv.1.ok.len.trans hl)) (fun v As' hq => ?_)
    obtain ⟨kd', rfl, rfl⟩ := hq
    repeat' (first
      | (refine k_L ?_; refine a_p rfl ?_)
      | refine a_n ?_)
    refine r_nx ((mkW x.H q.1 w, kd') : PQ) ⟨n1, fun w' hw' => ?_⟩ (he := Pm.ent (by (fail_if_success apply pm_bad); (repeat (first | exact pm_nil | (apply pm_cons; repeat (first | exact pk_h | apply pk_t)))); fail_if_success focus skip))
    rw [List.take_add_one, List.mem_append] at hw'
    rcases hw' with hw' | hw'
    · exact (hv.2 w' hw').grow n2
    · rw [show x.H.regs[i]? = some w from gw] at hw'
      simp only [Option.toList_some, List.mem_singleton] at hw'
      subst hw'; exact n3
  · obtain ⟨hv1, hv2⟩ := hv
    rw [List.take_of_length_le (by exact Nat.le_refl _)] at hv2
    repeat' (first
      | (refine k_L ?_; refine a_p rfl ?_)
      | refine a_n ?_
      | (refine k_V ?_; first | refine v_seq ?_ | refine v_reg ?_))
    refine g_c rfl (l2wants_a h h1) (fun v As' hq => ?_)
    obtain ⟨ld, L, rfl, hp, rfl⟩ := hq
    have hlL := hp.length_eq
    have hleL := rootsTo_len x.H x.H.cells.length
    have hLr : ∀ g, g ∈ L → ∃ (i : Nat) (c : Cell), g = i ∧ x.H.cells[i]? = some c ∧ Root c := fun g hg => by
      obtain ⟨k, h1, h2, h3⟩ := rootsTo_mem (hp.mem_iff.1 hg)
      obtain ⟨y, gy, gc⟩ := HX.at (x := x) (i := k) (by omega)
      rw [getC_nat gc] at h2
      exact ⟨k, _, h3, gc, h2⟩
    have hrL : ∀ (i : Nat) c, x.H.cells[i]? = some c → Root c → (i : Int) ∈ L := fun i c hc hr => by
      refine hp.mem_iff.2 ?_
      unfold rootsTo
      refine List.mem_map.2 ⟨i, List.mem_filter.2 ⟨List.mem_range.2 (List.getElem?_eq_some_iff.1 hc).1, ?_⟩, rfl⟩
      rw [getC_nat hc]; simpa using hr
    repeat' (first
      | (refine k_L ?_; refine a_p rfl ?_)
      | refine a_n ?_
      | refine s_n ?_)
    refine g_range L.length (fun q : PQ => [(0, .v (ptr a)), (4, .v (.slice sd.a x.xs.length sd.cap)), (5, .v (.slice q.2.a q.1.2.length q.2.cap)), (35, .v (.slice ld.a L.length ld.cap))]) (fun q => sqA sd q.2 q.1 ++ [slA 1 iv ld L, ro m])
      (fun i q => MkA x.H (Reached x.H) q.1 ∧ (∀ w, w ∈ x.H.regs → Hit x.H q.1.1 w) ∧ ∀ j : Nat, (j : Int) ∈ L.take i → q.1.1[j]? = some true) q ⟨hv1, hv2, by simp⟩ (fun i q hi hv => ?_) (fun q hv => ?_) (hent := Pm.ent (by (fail_if_success apply pm_bad); (repeat (first | exact pm_nil | (apply pm_cons; repeat (first | exact pk_h | apply pk_t)))); fail_if_success focus skip))
    · obtain ⟨hv1, hv2, hv3⟩ := hv
      obtain ⟨g, gg⟩ : ∃ g, L[i]? = some g := ⟨_, List.getElem?_eq_getElem hi⟩
      obtain ⟨k, c, rfl, hkc, hr⟩ := hLr g (List.mem_of_getElem? gg)
      have hkl := (List.getElem?_eq_some_iff.1 hkc).1
      obtain ⟨n1, n2, n3⟩ := hv1.next (w := ⟨2, 0, k⟩) (fun j hj => by
        rw [tgt_root hkc hr.1] at hj
        cases hj
        exact ⟨hkl, .root hkc hr⟩)
      repeat' (first
        | (refine k_L ?_; first | refine a_p rfl ?_ | (refine k_l ?_; refine g_l rfl ?_) | (refine k_i ?_; refine g_i rfl rfl ?_))
        | refine a_n ?_
        | (refine k_V ?_; first | refine v_seq ?_ | refine v_reg ?_))
      refine g_c rfl (l2mark_n (sd := sd) (kd := q.2) (w := ⟨2, 0, k⟩) (s := q.1) (S := Reached x.H) h h1 h2 (formed_at hkl) hv1.ok (hv1.ok.len.trans hl)) (fun v As' hq => ?_)
      obtain ⟨kd', rfl, rfl⟩ := hq
      repeat' (first
        | (refine k_L ?_; refine a_p rfl ?_)
        | refine a_n ?_)
      refine r_nx ((mkW x.H q.1 ⟨2, 0, k⟩, kd') : PQ) ⟨n1, fun w' hw' => (hv2 w' hw').grow n2, fun j hj => ?_⟩ (he := Pm.ent (by (fail_if_success apply pm_bad); (repeat (first | exact pm_nil | (apply pm_cons; repeat (first | exact pk_h | apply pk_t)))); fail_if_success focus skip))
      rw [List.take_add_one, List.mem_append] at hj
      rcases hj with hj | hj
      · exact n2.mono j (hv3 j hj)
      · rw [gg] at hj
        simp only [Option.toList_some, List.mem_singleton] at hj
        have : j = k := by omega
        subst this
        exact n3 j (tgt_root hkc hr.1)
    · obtain ⟨hv1, hv2, hv3⟩ := hv
      rw [List.take_of_length_le (Nat.le_refl _)] at hv3
      have hfull : Full x.H q.1.1 := ⟨hv2, fun i c hc hr => hv3 i (hrL i c hc hr)⟩
      have hcl : Closed x.H q.1.1 fun j => (j : Int) ∈ q.1.2.drop 0 := fun i c hi hn => absurd (hv1.all i hi) hn
      have hok := hv1.ok
      clear hv1 hv2 hv3
      repeat' (first
        | (refine k_L ?_; refine a_p rfl ?_)
        | refine a_n ?_
        | (refine k_V ?_; first | refine v_seq ?_ | refine v_reg ?_)
        | refine s_n ?_)
      refine v_blk ?_
      refine v_loop (fun q : PQ × Nat => [(0, .v (ptr a)), (4, .v (.slice sd.a x.xs.length sd.cap)), (5, .v (.slice q.1.2.a q.1.1.2.length q.1.2.cap)), (10, .v (.int .i64 q.2))]) (fun q => sqA sd q.1.2 q.1.1 ++ [ro m])
        (fun k q => k = 2 * q.1.1.1.count false + q.1.1.2.length - q.2 ∧ q.2 ≤ q.1.1.2.length ∧ Mk x.H (Reached x.H) q.1.1 ∧ Full x.H q.1.1.1 ∧ Closed x.H q.1.1.1 fun j => (j : Int) ∈ q.1.1.2.drop q.2) ⟨_, (q, 0), ⟨rfl, rfl, rfl, rfl, trivial⟩, Pm.ent (by (fail_if_success apply pm_bad); (repeat (first | exact pm_nil | (apply pm_cons; repeat (first | exact pk_h | apply pk_t)))); fail_if_success focus skip), rfl, Nat.zero_le _, hok, hfull, hcl⟩ ?_
      clear hok hfull hcl
      rintro k ⟨⟨⟨seen, stk⟩, kd⟩, hd⟩ ⟨rfl, hle, hok, hfull, hcl⟩
      have hcnt := hok.cnt
      dsimp only at hok hfull hcl hle hcnt ⊢
      by_cases hlt : hd < stk.length
      · obtain ⟨g, gg⟩ : ∃ g, stk[hd]? = some g := ⟨_, List.getElem?_eq_getElem hlt⟩
        obtain ⟨j, rfl, hj⟩ := hok.stk g (List.mem_of_getElem? gg)
        simp only at hj
        have hjl : j < x.xs.length := by
          have := (List.getElem?_eq_some_iff.1 hj).1
          have := hok.len
          simp only at this
          omega
        obtain ⟨y, gy, gc⟩ := HX.at hjl
        have hpl := h2.pl (List.mem_of_getElem? gc)
        have hpr := h4.pairs j y.c gc
        have hS : ∀ (k : Nat) p, y.c.pairs[k]? = some p → ∀ w, (w = p.key ∨ w = p.val) → Formed x.H w ∧ ∀ j', x.H.tgt w = some j' → j' < x.H.cells.length ∧ Reached x.H j' := fun k p hp w hw => by
          have hf : Formed x.H w := by
            rcases hw with rfl | rfl
            · exact (hpr k p hp).1
            · exact (hpr k p hp).2.1
          exact ⟨hf, fun j' hj' => ⟨(tgt_lt h2 hf hj').1, .pair (hok.snd j hj) gc (List.mem_of_getElem? hp) hw hj'⟩⟩
        repeat' (first
          | (refine k_L ?_; first | refine a_p rfl ?_ | (refine k_l ?_; refine g_l rfl ?_) | (refine k_i ?_; refine g_i rfl rfl ?_))
          | refine a_n ?_
          | (refine k_V ?_; first | refine v_seq ?_ | refine v_reg ?_ | refine v_dreg ?_ | refine v_bs ?_ | refine v_skip ?_ | (refine v_cd rfl (fun hb => ?_) (fun hb => ?_) <;> try (exfalso; omega)))
          | refine s_n ?_)
        refine g_range y.c.pairs.length (fun q : PQ => [(0, .v (ptr a)), (4, .v (.slice sd.a x.xs.length sd.cap)), (5, .v (.slice q.2.a q.1.2.length q.2.cap)), (10, .v (.int .i64 hd)), (64, .v (.slice y.d.a y.c.pairs.length y.d.cap))]) (fun q => sqA sd q.2 q.1 ++ [ro m])
          (fun k q => Mk x.H (Reached x.H) q.1 ∧ (∀ p, p ∈ y.c.pairs.take k → Hit x.H q.1.1 p.key ∧ Hit x.H q.1.1 p.val) ∧ Grow (seen, stk) q.1) (((seen, stk), kd) : PQ) ⟨hok, by simp, Grow.refl _⟩ (fun k q hk hv => ?_) (fun q hv => ?_) (hent := Pm.ent (by (fail_if_success apply pm_bad); (repeat (first | exact pm_nil | (apply pm_cons; repeat (first | exact pk_h | apply pk_t)))); fail_if_success focus skip))
        · obtain ⟨p, gp⟩ : ∃ p, y.c.pairs[k]? = some p := ⟨_, List.getElem?_eq_getElem hk⟩
          obtain ⟨hv1, hv2, hv3⟩ := hv
          obtain ⟨k1, k2⟩ := hS k p gp p.key (.inl rfl)
          obtain ⟨v1, v2⟩ := hS k p gp p.val (.inr rfl)
          obtain ⟨n1, n2, n3⟩ := mkW_ok hv1 k2
          obtain ⟨o1, o2, o3⟩ := mkW_ok n1 v2
          repeat' (first
            | (refine k_L ?_; first | refine a_p rfl ?_ | (refine k_i ?_; refine g_i rfl rfl ?_) | (refine k_ls ?_; refine g_ls rfl ?_) | (refine k_st ?_; refine g_sw rfl rfl rfl rfl (Nat.le_of_ble_eq_true rfl) ?_) | (refine k_al ?_; refine a_al ?_))
            | refine a_n ?_
            | (refine k_V ?_; first | refine v_seq ?_ | refine v_reg ?_)
            | refine sk_zero ?_
            | refine sk_succ ?_
            | refine wk_nil ?_
            | refine wk_cons ?_)
          refine g_c rfl (l2mark_n (sd := sd) (kd := q.2) (w := p.key) (s := q.1) (S := Reached x.H) h h1 h2 k1 hv1 (hv1.len.trans hl)) (fun v As' hq => ?_)
          obtain ⟨kd', rfl, rfl⟩ := hq
          repeat' (first
            | (refine k_L ?_; refine a_p rfl ?_)
            | refine a_n ?_
            | (refine k_V ?_; refine v_reg ?_))
          refine g_c rfl (l2mark_n (sd := sd) (kd := kd') (w := p.val) (s := mkW x.H q.1 p.key) (S := Reached x.H) h h1 h2 v1 n1 (n1.len.trans hl)) (fun v As' hq => ?_)
          obtain ⟨kd'', rfl, rfl⟩ := hq
          repeat' (first
            | (refine k_L ?_; refine a_p rfl ?_)
            | refine a_n ?_)
          refine r_nx ((mkW x.H (mkW x.H q.1 p.key) p.val, kd'') : PQ) ⟨o1, fun p' hp' => ?_, (hv3.trans n2).trans o2⟩ (he := Pm.ent (by (fail_if_success apply pm_bad); (repeat (first | exact pm_nil | (apply pm_cons; repeat (first | exact pk_h | apply pk_t)))); fail_if_success focus skip))
          rw [List.take_add_one, List.mem_append] at hp'
          rcases hp' with hp' | hp'
          · exact ⟨((hv2 p' hp').1.grow n2).grow o2, ((hv2 p' hp').2.grow n2).grow o2⟩
          · rw [gp] at hp'
            simp only [Option.toList_some, List.mem_singleton] at hp'
            subst hp'; exact ⟨n3.grow o2, o3⟩
        · obtain ⟨hv1, hv2, hv3⟩ := hv
          rw [List.take_of_length_le (Nat.le_refl _)] at hv2
          obtain ⟨gd1, gd2⟩ := grow_drop (h := hd + 1) hok hv3 hlt
          have hmsr := hv3.msr
          obtain ⟨ex, hex⟩ := hv3.pre
          have hlq : stk.length ≤ q.1.2.length := by rw [← hex]; simp
          dsimp only at gd1 gd2 hmsr
          repeat' (first
            | (refine k_L ?_; first | (refine k_ad ?_; refine g_ad rfl rfl ?_) | refine a_p rfl ?_)
            | refine a_n ?_
            | (refine k_V ?_; refine v_reg ?_)
            | refine s_n ?_)
          refine ⟨_, (q, hd + 1), ?_, ⟨rfl, rfl, rfl, rfl, trivial⟩, Pm.ent (by (fail_if_success apply pm_bad); (repeat (first | exact pm_nil | (apply pm_cons; repeat (first | exact pk_h | apply pk_t)))); fail_if_success focus skip), rfl, ?_, hv1, ⟨fun w hw => (hfull.regs w hw).grow hv3, fun i c hc hr => hv3.mono i (hfull.roots i c hc hr)⟩, fun i c hi hn hc p hp => ?_⟩
          · dsimp only; omega
          · dsimp only; omega
          · rcases gd1 i hi with hi' | hi'
            · by_cases e : i = j
              · subst e; rw [gc] at hc; cases hc; exact hv2 p hp
              · have := hcl i c hi' (by
                  intro hm
                  rw [List.drop_eq_getElem_cons hlt] at hm
                  rcases List.mem_cons.1 hm with hm | hm
                  · have hgj : stk[hd] = (j : Int) := by
                      have := List.getElem?_eq_getElem hlt
                      rw [gg] at this; exact (Option.some.inj this).symm
                    rw [hgj] at hm; omega
                  · exact hn (gd2 i hm)) hc p hp
                exact ⟨this.1.grow hv3, this.2.grow hv3⟩
            · exact absurd hi' hn
      · have e0 : stk.drop hd = [] := List.drop_eq_nil_of_le (by omega)
        have e := reach_end hok hfull (fun i c hi _ => hcl i c hi (by rw [e0]; simp))
        simp only at e
        subst e
        repeat' (first
          | (refine k_L ?_; refine a_p rfl ?_)
          | refine a_n ?_
          | (refine k_V ?_; first | refine v_seq ?_ | refine v_reg ?_ | refine v_ret ?_ | refine v_exit ?_ | (refine v_cd rfl (fun hb => ?_) (fun hb => ?_) <;> try (exfalso; omega))))
        exact fa_r (As' := [slA 1 bv sd (reachL x.H), ro m]) (fun _ _ => rfl) (Pm.ent (by (fail_if_success apply pm_bad); (repeat (first | exact pm_nil | (apply pm_cons; repeat (first | exact pk_h | apply pk_t)))); fail_if_success focus skip)) ⟨sd, kd, stk, by rw [reachL_len, hl], rfl⟩
end Go.Proofs.Ytcmllambknfleaa.E
/- Live, the reference's. Conditions: none. -/
set_option linter.unusedVariables false
set_option linter.unusedSimpArgs false
set_option maxHeartbeats 8000000
set_option maxRecDepth 100000
namespace Go.Proofs.Ytcmllambknfleaa.E
open Go
open Classical
theorem reachL_at {H : Heap} {i : Nat} (h : (reachL H)[i]? = some true) : Reached H i := by
  unfold reachL at h
  rw [List.getElem?_map] at h
  by_cases hi : i < H.cells.length
  · rw [List.getElem?_range hi] at h
    simpa using h
  · rw [List.getElem?_eq_none (by simp; omega)] at h
    cases h
theorem l2live_a {m : Mem} {a : Nat} {x : HX} (h : Has m (hp a x)) (h1 : R1 x.H) (h2 : R2 x.H) (h4 : R4 x.H) : FnA Try.prog 110 [ptr a] [ro m] (fun v As => v = .int .i64 (sumT x.H (reachL x.H) x.xs.length) ∧ As = [ro m]) := by
  refine fnA_of (fun h => fn110 (by simp) h) ?_
  repeat' (first
    | (refine k_L ?_; refine a_p rfl ?_)
    | refine a_n ?_
    | (refine k_V ?_; first | refine v_seq ?_ | refine v_reg ?_))
  refine g_c rfl (l2reach_a h h1 h2 h4) (fun v As' hq => ?_)
  obtain ⟨sd, kd, Q, rfl, rfl⟩ := hq
  repeat' (first
    | (refine k_L ?_; refine a_p rfl ?_)
    | refine a_n ?_
    | (refine k_V ?_; first | refine v_seq ?_ | refine v_reg ?_))
  refine g_c rfl (l2sum_a (L := reachL x.H) h h1 h2 (by rw [reachL_len, x.len]) (fun i c hi hc => ?_)) (fun v As' hq => ?_)
  · obtain ⟨c', hc', hs, _⟩ := reached_ok h2 h4 (reachL_at hi)
    rw [hc] at hc'; cases hc'; exact hs
  obtain ⟨rfl, rfl⟩ := hq
  repeat' (first
    | (refine k_L ?_; refine a_p rfl ?_)
    | refine a_n ?_
    | (refine k_V ?_; refine v_ret ?_))
  exact fa_r (As' := [ro m]) (fun _ _ => rfl) (Pm.ent (by (fail_if_success apply pm_bad); (repeat (first | exact pm_nil | (apply pm_cons; repeat (first | exact pk_h | apply pk_t)))); fail_if_success focus skip)) ⟨rfl, rfl⟩
theorem specLive_q {m : Mem} {x : HX} (h : Has m x.body) : Qt Try.prog 40 [x.v] m (.int .i64 x.H.live) := by
  unfold Heap.live
  by_cases hS : okH x.H = 0
  · have hs1 := (okH_sound x.H).1 hS
    refine qt_of (fnA_of (fun h => fn40 (by simp) h) ?_)
    refine v_seq (v_reg (a_nwh x rfl (fun b => ?_)))
    have hs : ∀ m', star [hdA b x.hdr, ro m] m' → Has m' (hp b x) := fun m' s => has_new h s (by (fail_if_success apply pm_bad); (repeat (first | exact pm_nil | (apply pm_cons; repeat (first | exact pk_h | apply pk_t)))); fail_if_success focus skip) (F := [])
    have hr : ∀ m', star [hdA b x.hdr, ro m] m' → m.le m' := fun m' s => ro_of s (by (fail_if_success apply pm_bad); (repeat (first | exact pm_nil | (apply pm_cons; repeat (first | exact pk_h | apply pk_t)))); fail_if_success focus skip) (F := [hdA b x.hdr])
    repeat' (first
      | (refine k_L ?_; first | refine a_p rfl ?_ | (refine k_ls ?_; refine g_ls rfl ?_) | (refine k_c ?_; refine a_cq rfl (fun m hm => qt_e (specHeapOk_q (x := x) (has_g h hm)) (by rw [hS])) ?_))
      | refine a_n ?_
      | (refine k_V ?_; first | refine v_seq ?_ | refine v_reg ?_ | refine v_skip ?_ | refine v_cf rfl ?_))
    refine l_fix (fun m' hm' => ?_)
    refine g_c rfl (l2live_a (hs m' hm') hs1.r1 hs1.r2 hs1.r4) (fun v As' hq => ?_)
    obtain ⟨rfl, rfl⟩ := hq
    repeat' (first
      | (refine k_L ?_; refine a_p rfl ?_)
      | refine a_n ?_
      | (refine k_V ?_; refine v_ret ?_))
    exact fa_r (As' := [ro m]) (fun _ _ => rfl) ((Pm.ent (As1 := [ro m']) (by (fail_if_success apply pm_bad); (repeat (first | exact pm_nil | (apply pm_cons; repeat (first | exact pk_h | apply pk_t)))); fail_if_success focus skip)).trans (ent_ro (hr m' hm'))) ⟨by rw [if_pos hS, x.len], rfl⟩
  · refine qt_of (fnA_of (fun h => fn40 (by simp) h) ?_)
    refine v_seq (v_reg (a_nwh x rfl (fun b => ?_)))
    repeat' (first
      | (refine k_L ?_; first | refine a_p rfl ?_ | (refine k_ls ?_; refine g_ls rfl ?_) | (refine k_c ?_; refine a_cq rfl (fun m hm => specHeapOk_q (x := x) (has_g h hm)) ?_))
      | refine a_n ?_
      | (refine k_V ?_; first | refine v_rv ?_ | refine v_seq ?_ | refine v_reg ?_ | (refine v_cn rfl (fun hb => ?_) (fun hb => ?_) <;> try (exfalso; omega)))
      | refine s_r ?_)
    exact fa_q (by simp) (fun _ _ => rfl) (by rw [if_neg hS])
end Go.Proofs.Ytcmllambknfleaa.E
/- The functions of the program in the engine's form, written by a program out of the loaded translation, and checked against it by the kernel. Conditions: none. -/
set_option maxRecDepth 100000
set_option linter.unusedVariables false
namespace Go.Proofs.Ytcmllambknfleaa.E
open Go
/-! laws.FnExactLive -/
noncomputable def e9 : Env := ⟨Try.prog, [1, 5], 27, [(10, 0)]⟩
noncomputable def c9 : C :=
  .seq (.reg [
    ⟨some 1, none, .box true (.tmp 0)⟩,
    ⟨some 2, none, .mov (.const (.bool false))⟩]) (.seq (.reg [
    ⟨some 3, none, .mov (.const (.int .i64 1048576))⟩]) (.seq (.reg [
    ⟨some 7, none, .load false 13 (.tmp 1)⟩,
    ⟨some 8, none, .mov (.tmp 3)⟩,
    ⟨some 9, none, .call 30 [.tmp 7, .tmp 8]⟩,
    ⟨some 3, none, .mov (.tmp 9)⟩]) (.seq (.seq (.reg [
    ⟨some 10, none, .mov (.tmp 3)⟩,
    ⟨some 11, none, .bin .lss (.tmp 10) (.const (.int .i64 0))⟩]) (.cond (.tmp 11) (.seq (.reg [
    ⟨some 2, none, .mov (.const (.bool true))⟩]) (.ret)) (.skip))) (.seq (.reg [
    ⟨some 12, none, .load false 13 (.tmp 1)⟩,
    ⟨some 13, none, .call 32 [.tmp 12]⟩,
    ⟨some 14, none, .call 40 [.tmp 13]⟩,
    ⟨some 4, none, .mov (.tmp 14)⟩]) (.seq (.reg [
    ⟨some 15, none, .load false 13 (.tmp 1)⟩,
    ⟨some 16, none, .call 32 [.tmp 15]⟩,
    ⟨some 5, none, .alloc true [.int .i64 0, .int .i64 0, .int .i64 0, .slice none 0 0, .slice none 0 0, .int .i64 0, .int .i64 0, .int .i64 0, .slice none 0 0, .int .i64 0, .int .i64 0, .int .i64 0, .int .i64 0]⟩,
    ⟨none, none, .store 13 (.tmp 5) (.tmp 16)⟩]) (.seq (.reg [
    ⟨some 17, none, .load false 13 (.tmp 5)⟩,
    ⟨some 18, none, .call 41 [.tmp 17]⟩,
    ⟨some 6, none, .mov (.tmp 18)⟩]) (.seq (.seq (.reg [
    ⟨some 19, none, .mov (.tmp 6)⟩,
    ⟨some 20, none, .mov (.tmp 4)⟩,
    ⟨some 21, none, .bin .neq (.tmp 19) (.tmp 20)⟩]) (.cond (.tmp 21) (.seq (.reg [
    ⟨some 2, none, .mov (.const (.bool false))⟩]) (.ret)) (.skip))) (.seq (.seq (.zreg [22, 23, 24, 25, 26] [
    ⟨some 22, none, .load false 13 (.tmp 5)⟩,
    ⟨some 23, none, .load false 13 (.tmp 1)⟩] [
    ⟨some 24, none, .call 32 [.tmp 23]⟩,
    ⟨some 25, none, .call 27 [.tmp 22, .tmp 24]⟩,
    ⟨some 26, none, .not (.tmp 25)⟩]) (.cond (.tmp 26) (.seq (.reg [
    ⟨some 2, none, .mov (.const (.bool false))⟩]) (.ret)) (.skip))) (.seq (.reg [
    ⟨some 2, none, .mov (.const (.bool true))⟩]) (.ret))))))))))
theorem t9 : Try.f9.body.bind (trC e9) = some c9 := by kernel_rfl
theorem r9 : Try.f9.results.toList.mapM (trR Try.prog) = some [.tmp 2] := by kernel_rfl
theorem fn9 {args : List Value} {M : Mem} {post : Value → Mem → Prop} (hl : args.length ≤ 27) (h : VC e9 c9 (fnQ [.tmp 2] post) (initS args 27) M) : Fn Try.prog 9 args M post :=
  Fn.of' (E := e9) Try.func9 t9 rfl r9 mixed hl h
end Go.Proofs.Ytcmllambknfleaa.E
/- The law on Live. Conditions: none. -/
set_option linter.unusedVariables false
set_option linter.unusedSimpArgs false
set_option maxHeartbeats 4000000
set_option maxRecDepth 100000
namespace Go.Proofs.Ytcmllambknfleaa.E
open Go
open Classical
theorem fnExactLive_q {M : Mem} {x : HS} (hx : RHVR M x) : Qt Try.prog 9 [x.v] M (.bool true) := by
  refine qt_of (fnA_of (fun h => fn9 (by simp) h) ?_)
  repeat' (first
    | (refine k_L ?_; first | refine a_p rfl ?_ | (refine k_bx ?_; refine a_bx rfl rfl ?_) | (refine k_c ?_; refine a_cq rfl (fun m hm => szHeap_q (by omega) (by omega) (hx.le (ro_of hm (by (fail_if_success apply pm_bad); (repeat (first | exact pm_nil | (apply pm_cons; repeat (first | exact pk_h | apply pk_t)))); fail_if_success focus skip)))) ?_))
    | refine a_n ?_
    | (refine k_V ?_; first | refine v_rv ?_ | refine v_seq ?_ | refine v_reg ?_ | refine v_skip ?_ | (refine v_cd rfl (fun hb => ?_) (fun hb => ?_) <;> try (exfalso; omega)))
    | refine s_r ?_)
  · exact fa_q (by simp) (fun _ _ => rfl) rfl
  have hb' : x.H.bulk ≤ 1048576 := by
    by_cases h : x.H.bulk ≤ 1048576
    · exact h
    · rw [if_neg h] at *; omega
  refine g_c rfl (toHeap_a hb' hx) (fun v As' hq => ?_)
  obtain ⟨y, rfl, hy, rfl⟩ := hq
  repeat' (first
    | (refine k_L ?_; first | refine a_p rfl ?_ | (refine k_c ?_; refine a_cq rfl (fun m hm => qt_e (specLive_q (x := y) (has_p hm)) (by rw [hy])) ?_))
    | refine a_n ?_
    | (refine k_V ?_; first | refine v_seq ?_ | refine v_reg ?_))
  refine g_c rfl (toHeap_a hb' hx) (fun v As' hq => ?_)
  obtain ⟨z, rfl, hz, rfl⟩ := hq
  repeat' (first
    | (refine k_L ?_; first | refine a_p rfl ?_ | (refine k_st ?_; refine g_sw rfl rfl rfl rfl (Nat.le_of_ble_eq_true rfl) ?_) | (refine k_al ?_; refine a_al ?_) | (refine k_c ?_; refine a_cq rfl (fun m hm => qt_e (implLive_q (x := z) (has_p hm)) (by rw [hz])) ?_))
    | refine a_n ?_
    | (refine k_V ?_; first | refine v_seq ?_ | refine v_reg ?_ | refine v_zreg ?_ | refine v_skip ?_ | (refine v_cn rfl (fun hb => ?_) (fun hb => ?_) <;> try (exfalso; omega)))
    | refine sk_zero ?_
    | refine sk_succ ?_
    | refine wk_nil ?_
    | refine wk_cons ?_)
  refine g_c rfl (toHeap_a hb' hx) (fun v As' hq => ?_)
  obtain ⟨u, rfl, hu, rfl⟩ := hq
  repeat' (first
    | (refine k_L ?_; first | refine a_p rfl ?_ | (refine k_c ?_; refine a_cq rfl (fun m hm => qt_e (eqHeap_q (x := z.hs) (y := u.hs) (has_p hm).b (has_p hm).b) (congrArg Value.bool (decide_eq_true (hz.trans hu.symm)))) ?_))
    | refine a_n ?_
    | (refine k_V ?_; first | refine v_rv ?_ | refine v_skip ?_ | refine v_cf rfl ?_))
  exact fa_q (by simp) (fun _ _ => rfl) rfl
end Go.Proofs.Ytcmllambknfleaa.E
/- The row of Live. Conditions: none. -/
set_option linter.unusedVariables false
set_option linter.unusedSimpArgs false
set_option maxRecDepth 100000
namespace Go.Proofs.Ytcmllambknfleaa.E
open Go Go.ChangeShapes Go.WideShapes Go.ChangeAt Go.RowKit
theorem liftedLive (os : Os) (started : os.Started) (H : Type) (enc : TypeId × Value → H) :
    ReturnsInHanded {} Try.checked os 9 .any (Rows.fnExactLiveSpec.pre6 enc Try.prog Try.f9 Rows.fnExactLiveRow.domain false) (Rows.fnExactLiveSpec.post enc Try.prog Try.f9 false true false false) := by
  refine returnsInHanded_of_change_sized (C := Try.checked) ownknob started (by kernel_rfl) Try.func9
    (ChangeSpec.witness6 (enc := enc) (C := Try.checked) false ⟨#[], #[.agg #[.int .i64 0, .int .i64 0, .int .i64 0, .slice none 0 0, .slice none 0 0, .int .i64 0, .int .i64 0, .int .i64 0, .slice none 0 0, .int .i64 0, .int .i64 0, .int .i64 0, .int .i64 0]], []⟩ 8 (by kernel_rfl) (by kernel_rfl) (by kernel_rfl) (by kernel_rfl)) ?_
  intro W base args ds gs before hval0 hW hcnd hsz0 _
  have hval : ∀ (j : Nat) t v, Try.f9.params[j]? = some t → args[j]? = some v → Value.okWide Try.prog W .any base t v := hval0
  have hW' := hW
  obtain ⟨p, q, hA0, hV, rfl, hfz, hnd⟩ := hW
  have hA : DataW.TrodAll enc Try.prog W 0 (fun _ => true) true [43] args.toList ds p := hA0
  obtain ⟨v0, d0, rfl, rfl, h0⟩ := trodAll_one hA
  obtain ⟨rfl, rfl⟩ := trodVars_none hV
  obtain ⟨cs, rfl, _⟩ := okWide_struct und_heap (hval 0 43 v0 rfl rfl)
  clear hA0 hval0 hsz0
  have h0k := h0
  obtain ⟨fuel, h0'⟩ := h0
  obtain ⟨x, e, hx⟩ := open_heap h0'
  have e : cs = (hv x.H x.rs x.cs x.gs).toArray := by
    have : cs.toList = hv x.H x.rs x.cs x.gs := e
    rw [← this]
  subst e
  have hlt : ∀ x ∈ p, x.block < W.heap.size := fun x hx => by simpa using hW'.lt x (by simp [hx])
  have hq : Fn Try.prog 9 [x.v] (memOf W) (fun v M' => v = .bool true ∧ (memOf W).le M') := (fnExactLive_q hx).mono fun v M' ⟨h1, h2⟩ => ⟨h1, by rw [h2]; exact Mem.le_refl _⟩
  refine (row_of hq).mono fun e W' ⟨he, bel⟩ => ?_
  subst he
  have hT := Below.trod laid (by kernel_rfl) (of_decide_eq_true (by kernel_rfl)) h0k bel hlt
  exact ⟨_, rfl, _, _, _, [], _, [], hW', trodAll_mk1 (shut_bool und_bool _), trodAll_mk1 hT, rfl, bel.frame _, fun h => by cases h⟩
end Go.Proofs.Ytcmllambknfleaa.E
namespace Go.Proofs.Ytcmllambknfleaa
open Go.ChangeShapes Go.WideShapes Go.ChangeAt Go.RowKit
/-- The row, under a short name, for the claim. -/
theorem fnExactLive_holds : Rows.FnExactLiveSaid :=
  OpenClaim.holds_of_wide 9 Try.f9 rfl rfl rfl rfl rfl rfl rfl ⟨rfl, rfl, rfl, rfl, rfl⟩ rfl rfl rfl rfl rfl (by kernel_rfl) Try.func9 jfLive
    (of_decide_eq_true (by kernel_rfl)) (by unfold Func.isWrapper; first | (rw [if_pos (by decide +kernel)]; kernel_rfl) | (rw [if_neg (by decide +kernel)]; exact ⟨rfl, rfl⟩))
    (fun os started H enc _ => E.liftedLive os started H enc)
end Go.Proofs.Ytcmllambknfleaa
