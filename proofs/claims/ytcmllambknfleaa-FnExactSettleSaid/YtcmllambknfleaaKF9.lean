/- A part of the proof. Conditions: none. -/
import Derived.Test.YtcmllambknfleaaKF8
set_option linter.unusedVariables false
set_option linter.unusedSimpArgs false
set_option maxHeartbeats 8000000
set_option maxRecDepth 100000
namespace Go.Proofs.Ytcmllambknfleaa.E
open Go
open Classical
theorem l2mark_a {m : Mem} {a : Nat} {x : HX} {w : Word} {s : List Bool × List Int} {S : Nat → Prop} {sd kd : D} (h : Has m (hp a x)) (h1 : R1 x.H) (h2 : R2 x.H) (hf : Formed x.H w) (hk : Mk x.H S s) :
    FnA Try.prog 151 [ptr a, .slice sd.a s.1.length sd.cap, .slice kd.a s.2.length kd.cap, wa w] [slA 1 bv sd s.1, slA 1 iv kd s.2, ro m] (fun v As => ∃ kd' : D, v = .slice kd'.a (mkW x.H s w).2.length kd'.cap ∧ As = [slA 1 bv sd (mkW x.H s w).1, slA 1 iv kd' (mkW x.H s w).2, ro m]) := by
  have hc := h1.cells
  have hr := h1.room
  have hcn := hk.cnt
  have hln := hk.len
  refine fnA_of (fun h => fn151 (by simp) h) ?_
  have hat := fun hk2 => hf.at hk2
  by_cases hk2 : w.kind = 2
  · have ht : x.H.tgt w = some (x.H.lead w).at_.toNat := by unfold Heap.tgt; rw [if_pos (lead_kind.2 hk2)]
    have hl := tgt_lt h2 hf ht
    generalize (x.H.lead w).at_.toNat = j at ht hl
    have e : x.H.lead w = ⟨2, (x.H.lead w).num, (j : Int)⟩ := by rw [← hl.2.1, ← hl.2.2]
    cases hb : s.1[j]? with
    | none => rw [List.getElem?_eq_none_iff] at hb; omega
    | some b =>
      cases b with
      | true =>
        have em : mkW x.H s w = s := by unfold mkW; rw [ht]; simp [hb]
        repeat' (first
          | (refine k_L ?_; first | refine a_p rfl ?_ | (refine k_g ?_; refine a_gy rfl rfl ?_) | (refine k_l ?_; refine g_l rfl ?_) | (refine k_i ?_; refine g_i rfl rfl ?_) | (refine k_st ?_; refine g_sw rfl rfl rfl rfl (Nat.le_of_ble_eq_true rfl) ?_) | (refine k_al ?_; refine a_al ?_) | (refine k_bx ?_; refine a_bx rfl rfl ?_) | (refine k_c ?_; refine a_cq rfl (fun m hm => qt_e (l1resolve_q (has_g h hm) hat) (congrArg wa e)) ?_))
          | refine a_n ?_
          | (refine k_V ?_; first | refine v_seq ?_ | refine v_reg ?_ | refine v_ret ?_ | refine v_ct rfl ?_)
          | refine s_r ?_
          | refine sk_zero ?_
          | refine sk_succ ?_
          | refine wk_nil ?_
          | refine wk_cons ?_)
        exact fa_r (As' := [slA 1 bv sd s.1, slA 1 iv kd s.2, ro m]) (fun _ _ => rfl) (Pm.ent (by (fail_if_success apply pm_bad); (repeat (first | exact pm_nil | (apply pm_cons; repeat (first | exact pk_h | apply pk_t)))); fail_if_success focus skip)) ⟨kd, by rw [em], by rw [em]⟩
      | false =>
        have em : mkW x.H s w = (s.1.set j true, s.2 ++ [(j : Int)]) := by unfold mkW; rw [ht]; simp [hb]
        repeat' (first
          | (refine k_L ?_; first | refine a_p rfl ?_ | (refine k_g ?_; refine a_gy rfl rfl ?_) | (refine k_l ?_; refine g_l rfl ?_) | (refine k_i ?_; refine g_i rfl rfl ?_) | (refine k_st ?_; first | refine g_st rfl rfl rfl rfl ?_ | refine g_sw rfl rfl rfl rfl (Nat.le_of_ble_eq_true rfl) ?_) | (refine k_al ?_; refine a_al ?_) | (refine k_bx ?_; refine a_bx rfl rfl ?_) | (refine k_bl ?_; refine a_bl rfl ?_) | (refine k_c ?_; refine a_cq rfl (fun m hm => qt_e (l1resolve_q (has_g h hm) hat) (congrArg wa e)) ?_) | (refine g_ai rfl rfl (by omega) (fun e' => ?_)))
          | refine a_n ?_
          | (refine k_V ?_; first | refine v_seq ?_ | refine v_reg ?_ | refine v_ret ?_ | refine v_skip ?_ | refine v_cf rfl ?_)
          | refine sk_zero ?_
          | refine sk_succ ?_
          | refine wk_nil ?_
          | refine wk_cons ?_)
        exact fa_r (As' := [slA 1 bv sd (s.1.set j true), slA 1 iv e' (s.2 ++ [(j : Int)]), ro m]) (fun _ _ => rfl) (Pm.ent (by (fail_if_success apply pm_bad); (repeat (first | exact pm_nil | (apply pm_cons; repeat (first | exact pk_h | apply pk_t)))); fail_if_success focus skip)) ⟨e', by rw [em], by rw [em]⟩
  · have ht : x.H.tgt w = none := by unfold Heap.tgt; rw [if_neg (fun h => hk2 (lead_kind.1 h))]
    have em : mkW x.H s w = s := by unfold mkW; rw [ht]
    have hk3 : ¬ (x.H.lead w).kind = 2 := fun h => hk2 (lead_kind.1 h)
    repeat' (first
      | (refine k_L ?_; first | refine a_p rfl ?_ | (refine k_g ?_; first | refine a_gn rfl rfl ?_ | (refine a_gne rfl (fun hb => ?_) (fun hb => ?_) <;> try (exfalso; omega))) | (refine k_st ?_; refine g_sw rfl rfl rfl rfl (Nat.le_of_ble_eq_true rfl) ?_) | (refine k_al ?_; refine a_al ?_) | (refine k_bx ?_; refine a_bx rfl rfl ?_) | (refine k_c ?_; refine a_cq rfl (fun m hm => l1resolve_q (has_g h hm) hat) ?_))
      | refine a_n ?_
      | (refine k_V ?_; first | refine v_seq ?_ | refine v_reg ?_ | refine v_ret ?_ | refine v_ct rfl ?_)
      | refine s_r ?_
      | refine sk_zero ?_
      | refine sk_succ ?_
      | refine wk_nil ?_
      | refine wk_cons ?_)
    all_goals first | exact absurd ‹(x.H.lead w).kind = 2› hk3 | skip
    exact fa_r (As' := [slA 1 bv sd s.1, slA 1 iv kd s.2, ro m]) (fun _ _ => rfl) (Pm.ent (by (fail_if_success apply pm_bad); (repeat (first | exact pm_nil | (apply pm_cons; repeat (first | exact pk_h | apply pk_t)))); fail_if_success focus skip)) ⟨kd, by rw [em], by rw [em]⟩
end Go.Proofs.Ytcmllambknfleaa.E
set_option linter.unusedVariables false
set_option linter.unusedSimpArgs false
set_option maxHeartbeats 8000000
set_option maxRecDepth 100000
namespace Go.Proofs.Ytcmllambknfleaa.E
open Go
open Classical
theorem l2mark_n {m : Mem} {a N : Nat} {x : HX} {w : Word} {s : List Bool × List Int} {S : Nat → Prop} {sd kd : D} (h : Has m (hp a x)) (h1 : R1 x.H) (h2 : R2 x.H) (hf : Formed x.H w) (hk : Mk x.H S s) (hN : s.1.length = N) :
    FnA Try.prog 151 [ptr a, .slice sd.a N sd.cap, .slice kd.a s.2.length kd.cap, wa w] [slA 1 bv sd s.1, slA 1 iv kd s.2, ro m] (fun v As => ∃ kd' : D, v = .slice kd'.a (mkW x.H s w).2.length kd'.cap ∧ As = [slA 1 bv sd (mkW x.H s w).1, slA 1 iv kd' (mkW x.H s w).2, ro m]) := by
  subst hN
  exact l2mark_a h h1 h2 hf hk
abbrev sqA (sd kd : D) (s : List Bool × List Int) : List Asr := [slA 1 bv sd s.1, slA 1 iv kd s.2]
end Go.Proofs.Ytcmllambknfleaa.E
set_option linter.unusedVariables false
set_option linter.unusedSimpArgs false
set_option maxRecDepth 100000
namespace Go.Proofs.Ytcmllambknfleaa.E
open Go
open Classical
section
variable {α : Type} {g : Int → α → α} {w : α → Int}
def mkG (g : Int → α → α) (w : α → Int) : Int → List α → List α
  | _, [] => []
  | k, x :: r => g k x :: mkG g w (k + w x) r
def mkT (w : α → Int) : Int → List α → Int
  | k, [] => k
  | k, x :: r => mkT w (k + w x) r
theorem mkT_ge (hw : ∀ x, 0 ≤ w x) : ∀ (xs : List α) (k : Int), k ≤ mkT w k xs
  | [], k => Int.le_refl _
  | x :: r, k => by have := mkT_ge hw r (k + w x); have := hw x; simp only [mkT]; omega
theorem mkT_append : ∀ (xs ys : List α) (k : Int), mkT w k (xs ++ ys) = mkT w (mkT w k xs) ys
  | [], _, _ => rfl
  | x :: r, ys, k => by simp only [List.cons_append, mkT]; exact mkT_append r ys _
theorem mkG_append : ∀ (xs ys : List α) (k : Int), mkG g w k (xs ++ ys) = mkG g w k xs ++ mkG g w (mkT w k xs) ys
  | [], _, _ => rfl
  | x :: r, ys, k => by simp only [List.cons_append, mkG, mkT]; rw [mkG_append r ys]
theorem mkG_len : ∀ (xs : List α) (k : Int), (mkG g w k xs).length = xs.length
  | [], _ => rfl
  | x :: r, k => by simp only [mkG, List.length_cons]; rw [mkG_len r]
theorem mkT_take {xs : List α} {i : Nat} {x : α} (h : xs[i]? = some x) (k : Int) : mkT w k (xs.take (i + 1)) = mkT w k (xs.take i) + w x := by
  rw [List.take_add_one, h, Option.toList_some, mkT_append]; rfl
theorem mkG_take {xs : List α} {i : Nat} {x : α} (h : xs[i]? = some x) (k : Int) : mkG g w k (xs.take (i + 1)) = mkG g w k (xs.take i) ++ [g (mkT w k (xs.take i)) x] := by
  rw [List.take_add_one, h, Option.toList_some, mkG_append]; rfl
theorem mkT_le (hw : ∀ x, 0 ≤ w x) (xs : List α) (k : Int) (i : Nat) : mkT w k (xs.take i) ≤ mkT w k xs := by
  have : mkT w k xs = mkT w (mkT w k (xs.take i)) (xs.drop i) := by rw [← mkT_append, List.take_append_drop]
  rw [this]; exact mkT_ge hw _ _
theorem mkG_get {xs : List α} {i : Nat} {x : α} (h : xs[i]? = some x) (k : Int) : (mkG g w k xs)[i]? = some (g (mkT w k (xs.take i)) x) := by
  have hi := (List.getElem?_eq_some_iff.1 h).1
  have e : mkG g w k xs = mkG g w k (xs.take (i + 1)) ++ mkG g w (mkT w k (xs.take (i + 1))) (xs.drop (i + 1)) := by rw [← mkG_append, List.take_append_drop]
  rw [e, mkG_take h, List.append_assoc, List.getElem?_append_right (by rw [mkG_len, List.length_take]; omega)]
  rw [mkG_len, List.length_take, Nat.min_eq_left (by omega), Nat.sub_self]; rfl
theorem mid_get {xs : List α} {i : Nat} {x : α} (h : xs[i]? = some x) (k : Int) : (mkG g w k (xs.take i) ++ xs.drop i)[i]? = some x := by
  have hi := (List.getElem?_eq_some_iff.1 h).1
  rw [List.getElem?_append_right (by rw [mkG_len, List.length_take]; omega), mkG_len, List.length_take, Nat.min_eq_left (by omega), Nat.sub_self, List.getElem?_drop]; exact h
theorem mid_set {xs : List α} {i : Nat} {x y : α} (h : xs[i]? = some x) {k kk : Int} (hk : kk = mkT w k (xs.take i)) (hy : y = g kk x) : (mkG g w k (xs.take i) ++ xs.drop i).set i y = mkG g w k (xs.take (i + 1)) ++ xs.drop (i + 1) := by
  have hi := (List.getElem?_eq_some_iff.1 h).1
  rw [List.set_append_right _ _ (by rw [mkG_len, List.length_take]; omega), mkG_len, List.length_take, Nat.min_eq_left (by omega), Nat.sub_self, mkG_take h, hy, hk]
  rw [List.drop_eq_getElem_cons hi, List.set_cons_zero]
  simp
end
theorem set_get {α : Type} {l : List α} {i : Nat} {x y : α} (h : l[i]? = some x) : (l.set i y)[i]? = some y := by
  rw [List.getElem?_set_self (List.getElem?_eq_some_iff.1 h).1]
theorem OffL.refl (M : Mem) (L : List Nat) : OffL M L M := fun _ _ h _ => h
theorem OffL.off {M0 M M' : Mem} {L : List Nat} {b : Nat} (h : OffL M0 L M) (o : Off M b M') (hb : b ∈ L) : OffL M0 L M' := fun c k e hc => by
  rw [o c (fun e' => hc (e' ▸ hb))]; exact h c k e hc
theorem OffL.trans {M0 M M' : Mem} {L : List Nat} (h : OffL M0 L M) (o : OffL M L M') : OffL M0 L M' := fun c k e hc => o c k (h c k e hc) hc
theorem OffL.mono {M M' : Mem} {L L' : List Nat} (h : OffL M L M') (l : ∀ b, b ∈ L → b ∈ L') : OffL M L' M' := fun c k e hc => h c k e (fun m => hc (l c m))
theorem OffL.le {M0 M M' : Mem} {L : List Nat} (h : OffL M L M') (l : M0.le M) (hn : ∀ b, b ∈ L → M0 b = none) : M0.le M' := fun c k e => h c k (l c k e) (fun m => by rw [hn c m] at e; cases e)
def gW (k : Int) (_ : Word) : Word := ⟨k, k + 1, k + 1 + 1⟩
def gP (k : Int) (_ : Pair) : Pair := ⟨⟨k, k + 1, k + 1 + 1⟩, ⟨k + 1 + 1 + 1, k + 1 + 1 + 1 + 1, k + 1 + 1 + 1 + 1 + 1⟩⟩
def gI (k : Int) (_ : Int) : Int := k
def wW (_ : Word) : Int := 3
def wP (_ : Pair) : Int := 6
def wI (_ : Int) : Int := 1
theorem mkT_const {α : Type} {w : α → Int} {c : Int} (h : ∀ x, w x = c) : ∀ (xs : List α) (k : Int), mkT w k xs = k + c * xs.length
  | [], k => by simp [mkT]
  | x :: r, k => by simp only [mkT, List.length_cons]; rw [mkT_const h r, h, Int.natCast_add, Int.mul_add]; omega
theorem markWordS_f {M : Mem} {va : Value} {xs : List Word} {k : Int} (h0 : 0 ≤ k) (hb : mkT wW k xs ≤ 4611686018427387904) (ha : Sl M 3 wv va xs) :
    Fn Try.prog 75 [va, .int .i64 k] M (fun v M' => v = .int .i64 (mkT wW k xs) ∧ OffL M (own va) M' ∧ Sl M' 3 wv va (mkG gW wW k xs)) := by
  obtain ⟨aa, ca, ea⟩ := ha.len
  have hbd := ha.bound
  refine fn75 (by simp) ?_
  subst ea
  repeat' (first
    | (refine vl_pure rfl ?_)
    | (refine vl_nil ?_)
    | (refine VC.seq ?_)
    | (refine VC.regV ?_)
    | (refine VC.block ?_))
  refine VC.loop (α := Nat × Int) (fun p => [(0, .v (.slice aa xs.length ca)), (1, .v (.int .i64 p.2)), (5, .v (.int .i64 p.1))]) (fun n p M' => n = xs.length - p.1 ∧ p.1 ≤ xs.length ∧ p.2 = mkT wW k (xs.take p.1) ∧ OffL M (own (.slice aa xs.length ca)) M' ∧ Sl M' 3 wv (.slice aa xs.length ca) (mkG gW wW k (xs.take p.1) ++ xs.drop p.1))
    ⟨_, (0, k), M, ⟨rfl, rfl, rfl, trivial⟩, Mem.le_refl _, rfl, Nat.zero_le _, rfl, OffL.refl _ _, ha⟩ ?_
  rintro n ⟨i, kk⟩ M2 ⟨rfl, hi, hkk, hoff, hsl⟩
  dsimp only at hi hkk hoff hsl ⊢
  repeat' (first
    | (refine vl_pure rfl ?_)
    | (refine vl_nil ?_)
    | (refine VC.seq ?_)
    | (refine VC.regV ?_)
    | (refine seqQ_n ?_))
  refine VC.cond _ rfl (fun h => ?_) (fun h => ?_)
  · have hi : i < xs.length := by simpa using h
    obtain ⟨x, gx⟩ : ∃ x, xs[i]? = some x := ⟨_, List.getElem?_eq_getElem hi⟩
    obtain ⟨b, o, rfl, c1⟩ := hsl.at2 (fun _ => rfl) (mid_get gx k)
    have hk1 := mkT_take (w := wW) gx k
    have hk2 := mkT_le (w := wW) (fun _ => by unfold wW; omega) xs k (i + 1)
    have hk3 := mkT_ge (w := wW) (fun _ => by unfold wW; omega) (xs.take i) k
    have hwx : wW x = 3 := rfl
    repeat' (first
      | (refine vl_pure rfl ?_)
      | (refine VC.seq ?_)
      | (refine VC.regV ?_)
      | (refine vl_idx rfl rfl (by omega) ?_)
      | (refine VC.block ?_)
      | (refine VC.skip ?_))
    refine vl_sts (⟨kk, x.num, x.at_⟩) hsl (fun _ => rfl) (mid_get gx k) (i := i) (j := 0) rfl rfl rfl rfl (Nat.le_of_ble_eq_true rfl) rfl (fun M1 o1 s1 => ?_)
    repeat' (first
      | (refine vl_add rfl rfl (by omega) ?_)
      | (refine vl_pure rfl ?_)
      | (refine vl_nil ?_)
      | (refine VC.seq ?_)
      | (refine VC.regV ?_)
      | (refine vl_idx rfl rfl (by omega) ?_))
    refine vl_sts (⟨kk, kk + 1, x.at_⟩) s1 (fun _ => rfl) (set_get (mid_get gx k)) (i := i) (j := 1) rfl rfl rfl rfl (Nat.le_of_ble_eq_true rfl) rfl (fun M2 o2 s2 => ?_)
    rw [List.set_set] at s2
    repeat' (first
      | (refine vl_add rfl rfl (by omega) ?_)
      | (refine vl_pure rfl ?_)
      | (refine vl_nil ?_)
      | (refine VC.seq ?_)
      | (refine VC.regV ?_)
      | (refine vl_idx rfl rfl (by omega) ?_))
    refine vl_sts (gW kk x) s2 (fun _ => rfl) (set_get (mid_get gx k)) (i := i) (j := 2) rfl rfl rfl rfl (Nat.le_of_ble_eq_true rfl) rfl (fun M3 o3 s3 => ?_)
    rw [List.set_set] at s3
    repeat' (first
      | (refine vl_add rfl rfl (by omega) ?_)
      | (refine vl_pure rfl ?_)
      | (refine vl_nil ?_)
      | (refine VC.regV ?_)
      | (refine seqQ_n ?_))
    refine ⟨_, (i + 1, _), _, ?_, ⟨rfl, rfl, rfl, trivial⟩, Mem.le_refl _, rfl, hi, ?_, (((hoff.off o1 (by simp [own])).off o2 (by simp [own])).off o3 (by simp [own])), ?_⟩
    · dsimp only; omega
    · dsimp only; omega
    · rw [mid_set (g := gW) gx hkk rfl] at s3; exact s3
  · have hi : ¬ i < xs.length := by simpa using h
    repeat' (first
      | (refine vl_pure rfl ?_)
      | (refine vl_nil ?_)
      | (refine VC.seq ?_)
      | (refine VC.regV ?_)
      | (refine VC.ret ?_)
      | (refine VC.exit ?_))
    rw [List.drop_of_length_le (by omega), List.append_nil, List.take_of_length_le (by omega)] at hsl
    rw [List.take_of_length_le (by omega)] at hkk
    exact fnQ_r rfl (Mem.le_refl _) ⟨by rw [hkk], hoff, hsl⟩
theorem markPairS_f {M : Mem} {va : Value} {xs : List Pair} {k : Int} (h0 : 0 ≤ k) (hb : mkT wP k xs ≤ 4611686018427387904) (ha : Sl M 6 pv va xs) :
    Fn Try.prog 131 [va, .int .i64 k] M (fun v M' => v = .int .i64 (mkT wP k xs) ∧ OffL M (own va) M' ∧ Sl M' 6 pv va (mkG gP wP k xs)) := by
  obtain ⟨aa, ca, ea⟩ := ha.len
  have hbd := ha.bound
  refine fn131 (by simp) ?_
  subst ea
  repeat' (first
    | (refine vl_pure rfl ?_)
    | (refine vl_nil ?_)
    | (refine VC.seq ?_)
    | (refine VC.regV ?_)
    | (refine VC.block ?_))
  refine VC.loop (α := Nat × Int) (fun p => [(0, .v (.slice aa xs.length ca)), (1, .v (.int .i64 p.2)), (5, .v (.int .i64 p.1))]) (fun n p M' => n = xs.length - p.1 ∧ p.1 ≤ xs.length ∧ p.2 = mkT wP k (xs.take p.1) ∧ OffL M (own (.slice aa xs.length ca)) M' ∧ Sl M' 6 pv (.slice aa xs.length ca) (mkG gP wP k (xs.take p.1) ++ xs.drop p.1))
    ⟨_, (0, k), M, ⟨rfl, rfl, rfl, trivial⟩, Mem.le_refl _, rfl, Nat.zero_le _, rfl, OffL.refl _ _, ha⟩ ?_
  rintro n ⟨i, kk⟩ M2 ⟨rfl, hi, hkk, hoff, hsl⟩
  dsimp only at hi hkk hoff hsl ⊢
  repeat' (first
    | (refine vl_pure rfl ?_)
    | (refine vl_nil ?_)
    | (refine VC.seq ?_)
    | (refine VC.regV ?_)
    | (refine seqQ_n ?_))
  refine VC.cond _ rfl (fun h => ?_) (fun h => ?_)
  · have hi : i < xs.length := by simpa using h
    obtain ⟨x, gx⟩ : ∃ x, xs[i]? = some x := ⟨_, List.getElem?_eq_getElem hi⟩
    obtain ⟨b, o, rfl, c1⟩ := hsl.at2 (fun _ => rfl) (mid_get gx k)
    have hk1 := mkT_take (w := wP) gx k
    have hk2 := mkT_le (w := wP) (fun _ => by unfold wP; omega) xs k (i + 1)
    have hk3 := mkT_ge (w := wP) (fun _ => by unfold wP; omega) (xs.take i) k
    have hwx : wP x = 6 := rfl
    repeat' (first
      | (refine vl_pure rfl ?_)
      | (refine VC.seq ?_)
      | (refine VC.regV ?_)
      | (refine vl_idx rfl rfl (by omega) ?_)
      | (refine VC.block ?_)
      | (refine VC.skip ?_))
    refine vl_sts (⟨⟨kk, x.key.num, x.key.at_⟩, x.val⟩) hsl (fun _ => rfl) (mid_get gx k) (i := i) (j := 0) rfl rfl rfl rfl (Nat.le_of_ble_eq_true rfl) rfl (fun M1 o1 s1 => ?_)
    repeat' (first
      | (refine vl_add rfl rfl (by omega) ?_)
      | (refine vl_pure rfl ?_)
      | (refine vl_nil ?_)
      | (refine VC.seq ?_)
      | (refine VC.regV ?_)
      | (refine vl_idx rfl rfl (by omega) ?_))
    refine vl_sts (⟨⟨kk, kk + 1, x.key.at_⟩, x.val⟩) s1 (fun _ => rfl) (set_get (mid_get gx k)) (i := i) (j := 1) rfl rfl rfl rfl (Nat.le_of_ble_eq_true rfl) rfl (fun M2 o2 s2 => ?_)
    rw [List.set_set] at s2
    repeat' (first
      | (refine vl_add rfl rfl (by omega) ?_)
      | (refine vl_pure rfl ?_)
      | (refine vl_nil ?_)
      | (refine VC.seq ?_)
      | (refine VC.regV ?_)
      | (refine vl_idx rfl rfl (by omega) ?_))
    refine vl_sts (⟨⟨kk, kk + 1, kk + 1 + 1⟩, x.val⟩) s2 (fun _ => rfl) (set_get (mid_get gx k)) (i := i) (j := 2) rfl rfl rfl rfl (Nat.le_of_ble_eq_true rfl) rfl (fun M3 o3 s3 => ?_)
    rw [List.set_set] at s3
    repeat' (first
      | (refine vl_add rfl rfl (by omega) ?_)
      | (refine vl_pure rfl ?_)
      | (refine vl_nil ?_)
      | (refine VC.seq ?_)
      | (refine VC.regV ?_)
      | (refine vl_idx rfl rfl (by omega) ?_))
    refine vl_sts (⟨⟨kk, kk + 1, kk + 1 + 1⟩, ⟨kk + 1 + 1 + 1, x.val.num, x.val.at_⟩⟩) s3 (fun _ => rfl) (set_get (mid_get gx k)) (i := i) (j := 3) rfl rfl rfl rfl (Nat.le_of_ble_eq_true rfl) rfl (fun M4 o4 s4 => ?_)
    rw [List.set_set] at s4
    repeat' (first
      | (refine vl_add rfl rfl (by omega) ?_)
      | (refine vl_pure rfl ?_)
      | (refine vl_nil ?_)
      | (refine VC.seq ?_)
      | (refine VC.regV ?_)
      | (refine vl_idx rfl rfl (by omega) ?_))
    refine vl_sts (⟨⟨kk, kk + 1, kk + 1 + 1⟩, ⟨kk + 1 + 1 + 1, kk + 1 + 1 + 1 + 1, x.val.at_⟩⟩) s4 (fun _ => rfl) (set_get (mid_get gx k)) (i := i) (j := 4) rfl rfl rfl rfl (Nat.le_of_ble_eq_true rfl) rfl (fun M5 o5 s5 => ?_)
    rw [List.set_set] at s5
    repeat' (first
      | (refine vl_add rfl rfl (by omega) ?_)
      | (refine vl_pure rfl ?_)
      | (refine vl_nil ?_)
      | (refine VC.seq ?_)
      | (refine VC.regV ?_)
      | (refine vl_idx rfl rfl (by omega) ?_))
    refine vl_sts (gP kk x) s5 (fun _ => rfl) (set_get (mid_get gx k)) (i := i) (j := 5) rfl rfl rfl rfl (Nat.le_of_ble_eq_true rfl) rfl (fun M6 o6 s6 => ?_)
    rw [List.set_set] at s6
    repeat' (first
      | (refine vl_add rfl rfl (by omega) ?_)
      | (refine vl_pure rfl ?_)
      | (refine vl_nil ?_)
      | (refine VC.regV ?_)
      | (refine seqQ_n ?_))
    refine ⟨_, (i + 1, _), _, ?_, ⟨rfl, rfl, rfl, trivial⟩, Mem.le_refl _, rfl, hi, ?_, ((((((hoff.off o1 (by simp [own])).off o2 (by simp [own])).off o3 (by simp [own])).off o4 (by simp [own])).off o5 (by simp [own])).off o6 (by simp [own])), ?_⟩
    · dsimp only; omega
    · dsimp only; omega
    · rw [mid_set (g := gP) gx hkk rfl] at s6; exact s6
  · have hi : ¬ i < xs.length := by simpa using h
    repeat' (first
      | (refine vl_pure rfl ?_)
      | (refine vl_nil ?_)
      | (refine VC.seq ?_)
      | (refine VC.regV ?_)
      | (refine VC.ret ?_)
      | (refine VC.exit ?_))
    rw [List.drop_of_length_le (by omega), List.append_nil, List.take_of_length_le (by omega)] at hsl
    rw [List.take_of_length_le (by omega)] at hkk
    exact fnQ_r rfl (Mem.le_refl _) ⟨by rw [hkk], hoff, hsl⟩
theorem markIntS_f {M : Mem} {va : Value} {xs : List Int} {k : Int} (h0 : 0 ≤ k) (hb : mkT wI k xs ≤ 4611686018427387904) (ha : Sl M 1 iv va xs) :
    Fn Try.prog 77 [va, .int .i64 k] M (fun v M' => v = .int .i64 (mkT wI k xs) ∧ OffL M (own va) M' ∧ Sl M' 1 iv va (mkG gI wI k xs)) := by
  obtain ⟨aa, ca, ea⟩ := ha.len
  have hbd := ha.bound
  refine fn77 (by simp) ?_
  subst ea
  repeat' (first
    | (refine vl_pure rfl ?_)
    | (refine vl_nil ?_)
    | (refine VC.seq ?_)
    | (refine VC.regV ?_)
    | (refine VC.block ?_))
  refine VC.loop (α := Nat × Int) (fun p => [(0, .v (.slice aa xs.length ca)), (1, .v (.int .i64 p.2)), (5, .v (.int .i64 p.1))]) (fun n p M' => n = xs.length - p.1 ∧ p.1 ≤ xs.length ∧ p.2 = mkT wI k (xs.take p.1) ∧ OffL M (own (.slice aa xs.length ca)) M' ∧ Sl M' 1 iv (.slice aa xs.length ca) (mkG gI wI k (xs.take p.1) ++ xs.drop p.1))
    ⟨_, (0, k), M, ⟨rfl, rfl, rfl, trivial⟩, Mem.le_refl _, rfl, Nat.zero_le _, rfl, OffL.refl _ _, ha⟩ ?_
  rintro n ⟨i, kk⟩ M2 ⟨rfl, hi, hkk, hoff, hsl⟩
  dsimp only at hi hkk hoff hsl ⊢
  repeat' (first
    | (refine vl_pure rfl ?_)
    | (refine vl_nil ?_)
    | (refine VC.seq ?_)
    | (refine VC.regV ?_)
    | (refine seqQ_n ?_))
  refine VC.cond _ rfl (fun h => ?_) (fun h => ?_)
  · have hi : i < xs.length := by simpa using h
    obtain ⟨x, gx⟩ : ∃ x, xs[i]? = some x := ⟨_, List.getElem?_eq_getElem hi⟩
    obtain ⟨b, o, rfl, c1⟩ := hsl.at2 (fun _ => rfl) (mid_get gx k)
    have hk1 := mkT_take (w := wI) gx k
    have hk2 := mkT_le (w := wI) (fun _ => by unfold wI; omega) xs k (i + 1)
    have hk3 := mkT_ge (w := wI) (fun _ => by unfold wI; omega) (xs.take i) k
    have hwx : wI x = 1 := rfl
    repeat' (first
      | (refine vl_pure rfl ?_)
      | (refine VC.seq ?_)
      | (refine VC.regV ?_)
      | (refine vl_idx rfl rfl (by omega) ?_)
      | (refine VC.block ?_)
      | (refine VC.skip ?_))
    refine vl_sts (gI kk x) hsl (fun _ => rfl) (mid_get gx k) (i := i) (j := 0) rfl rfl rfl rfl (Nat.le_of_ble_eq_true rfl) rfl (fun M1 o1 s1 => ?_)
    repeat' (first
      | (refine vl_add rfl rfl (by omega) ?_)
      | (refine vl_pure rfl ?_)
      | (refine vl_nil ?_)
      | (refine VC.regV ?_)
      | (refine seqQ_n ?_))
    refine ⟨_, (i + 1, _), _, ?_, ⟨rfl, rfl, rfl, trivial⟩, Mem.le_refl _, rfl, hi, ?_, (hoff.off o1 (by simp [own])), ?_⟩
    · dsimp only; omega
    · dsimp only; omega
    · rw [mid_set (g := gI) gx hkk rfl] at s1; exact s1
  · have hi : ¬ i < xs.length := by simpa using h
    repeat' (first
      | (refine vl_pure rfl ?_)
      | (refine vl_nil ?_)
      | (refine VC.seq ?_)
      | (refine VC.regV ?_)
      | (refine VC.ret ?_)
      | (refine VC.exit ?_))
    rw [List.drop_of_length_le (by omega), List.append_nil, List.take_of_length_le (by omega)] at hsl
    rw [List.take_of_length_le (by omega)] at hkk
    exact fnQ_r rfl (Mem.le_refl _) ⟨by rw [hkk], hoff, hsl⟩
theorem heldWordS_q {M : Mem} {va : Value} {xs : List Word} {k : Int} (h0 : 0 ≤ k) (hb : mkT wW k xs ≤ 4611686018427387904) (ha : Sl M 3 wv va (mkG gW wW k xs)) :
    Qt Try.prog 78 [va, .int .i64 k] M (.int .i64 (mkT wW k xs)) := by
  obtain ⟨aa, ca, ea⟩ := ha.len
  have hbd := ha.bound
  rw [mkG_len] at ea hbd
  refine fn78 (by simp) ?_
  subst ea
  repeat' (first
    | (refine vl_pure rfl ?_)
    | (refine vl_nil ?_)
    | (refine VC.seq ?_)
    | (refine VC.regV ?_)
    | (refine VC.block ?_))
  refine VC.loop (α := Nat × Int) (fun p => [(0, .v (.slice aa xs.length ca)), (1, .v (.int .i64 p.2)), (5, .v (.int .i64 p.1))]) (fun n p M' => n = xs.length - p.1 ∧ p.1 ≤ xs.length ∧ p.2 = mkT wW k (xs.take p.1) ∧ M' = M)
    ⟨_, (0, k), M, ⟨rfl, rfl, rfl, trivial⟩, Mem.le_refl _, rfl, Nat.zero_le _, rfl, rfl⟩ ?_
  rintro n ⟨i, kk⟩ M2 ⟨rfl, hi, hkk, rfl⟩
  dsimp only at hi hkk ⊢
  repeat' (first
    | (refine vl_pure rfl ?_)
    | (refine vl_nil ?_)
    | (refine VC.seq ?_)
    | (refine VC.regV ?_)
    | (refine seqQ_n ?_))
  refine VC.cond _ rfl (fun h => ?_) (fun h => ?_)
  · have hi : i < xs.length := by simpa using h
    obtain ⟨x, gx⟩ : ∃ x, xs[i]? = some x := ⟨_, List.getElem?_eq_getElem hi⟩
    obtain ⟨b, o, rfl, c1⟩ := ha.at2 (fun _ => rfl) (mkG_get gx k)
    rw [← hkk] at c1
    have hk1 := mkT_take (w := wW) gx k
    have hk2 := mkT_le (w := wW) (fun _ => by unfold wW; omega) xs k (i + 1)
    have hk3 := mkT_ge (w := wW) (fun _ => by unfold wW; omega) (xs.take i) k
    have hwx : wW x = 3 := rfl
    repeat' (first
      | (refine vl_add rfl rfl (by omega) ?_)
      | (refine vl_pure rfl ?_)
      | (refine vl_ld rfl (by first | exact cells_cell c1 (j := 0) rfl | exact cells_cell c1 (j := 1) rfl | exact cells_cell c1 (j := 2) rfl) ?_)
      | (refine vl_nil ?_)
      | (refine VC.seq ?_)
      | (refine VC.regV ?_)
      | (refine vl_idx rfl rfl (by omega) ?_)
      | (refine VC.block ?_)
      | (refine VC.ret ?_)
      | (refine VC.skip ?_)
      | (refine seqQ_n ?_)
      | (refine seqQ_r ?_)
      | (refine blkQ_r ?_)
      | (refine VC.cond _ rfl (fun hb => ?_) (fun hb => ?_)))
    any_goals (simp [gW] at hb; done)
    refine ⟨_, (i + 1, _), _, ?_, ⟨rfl, rfl, rfl, trivial⟩, Mem.le_refl _, rfl, hi, ?_, rfl⟩
    · dsimp only; omega
    · dsimp only; omega
  · have hi : ¬ i < xs.length := by simpa using h
    repeat' (first
      | (refine vl_pure rfl ?_)
      | (refine vl_nil ?_)
      | (refine VC.seq ?_)
      | (refine VC.regV ?_)
      | (refine VC.ret ?_)
      | (refine VC.exit ?_))
    rw [List.take_of_length_le (by omega)] at hkk
    exact fnQ_r rfl (Mem.le_refl _) ⟨by rw [hkk], rfl⟩
theorem heldPairS_q {M : Mem} {va : Value} {xs : List Pair} {k : Int} (h0 : 0 ≤ k) (hb : mkT wP k xs ≤ 4611686018427387904) (ha : Sl M 6 pv va (mkG gP wP k xs)) :
    Qt Try.prog 132 [va, .int .i64 k] M (.int .i64 (mkT wP k xs)) := by
  obtain ⟨aa, ca, ea⟩ := ha.len
  have hbd := ha.bound
  rw [mkG_len] at ea hbd
  refine fn132 (by simp) ?_
  subst ea
  repeat' (first
    | (refine vl_pure rfl ?_)
    | (refine vl_nil ?_)
    | (refine VC.seq ?_)
    | (refine VC.regV ?_)
    | (refine VC.block ?_))
  refine VC.loop (α := Nat × Int) (fun p => [(0, .v (.slice aa xs.length ca)), (1, .v (.int .i64 p.2)), (5, .v (.int .i64 p.1))]) (fun n p M' => n = xs.length - p.1 ∧ p.1 ≤ xs.length ∧ p.2 = mkT wP k (xs.take p.1) ∧ M' = M)
    ⟨_, (0, k), M, ⟨rfl, rfl, rfl, trivial⟩, Mem.le_refl _, rfl, Nat.zero_le _, rfl, rfl⟩ ?_
  rintro n ⟨i, kk⟩ M2 ⟨rfl, hi, hkk, rfl⟩
  dsimp only at hi hkk ⊢
  repeat' (first
    | (refine vl_pure rfl ?_)
    | (refine vl_nil ?_)
    | (refine VC.seq ?_)
    | (refine VC.regV ?_)
    | (refine seqQ_n ?_))
  refine VC.cond _ rfl (fun h => ?_) (fun h => ?_)
  · have hi : i < xs.length := by simpa using h
    obtain ⟨x, gx⟩ : ∃ x, xs[i]? = some x := ⟨_, List.getElem?_eq_getElem hi⟩
    obtain ⟨b, o, rfl, c1⟩ := ha.at2 (fun _ => rfl) (mkG_get gx k)
    rw [← hkk] at c1
    have hk1 := mkT_take (w := wP) gx k
    have hk2 := mkT_le (w := wP) (fun _ => by unfold wP; omega) xs k (i + 1)
    have hk3 := mkT_ge (w := wP) (fun _ => by unfold wP; omega) (xs.take i) k
    have hwx : wP x = 6 := rfl
    repeat' (first
      | (refine vl_add rfl rfl (by omega) ?_)
      | (refine vl_pure rfl ?_)
      | (refine vl_ld rfl (by first | exact cells_cell c1 (j := 0) rfl | exact cells_cell c1 (j := 1) rfl | exact cells_cell c1 (j := 2) rfl | exact cells_cell c1 (j := 3) rfl | exact cells_cell c1 (j := 4) rfl | exact cells_cell c1 (j := 5) rfl) ?_)
      | (refine vl_nil ?_)
      | (refine VC.seq ?_)
      | (refine VC.regV ?_)
      | (refine vl_idx rfl rfl (by omega) ?_)
      | (refine VC.block ?_)
      | (refine VC.ret ?_)
      | (refine VC.skip ?_)
      | (refine seqQ_n ?_)
      | (refine seqQ_r ?_)
      | (refine blkQ_r ?_)
      | (refine VC.cond _ rfl (fun hb => ?_) (fun hb => ?_)))
    any_goals (simp [gP] at hb; done)
    refine ⟨_, (i + 1, _), _, ?_, ⟨rfl, rfl, rfl, trivial⟩, Mem.le_refl _, rfl, hi, ?_, rfl⟩
    · dsimp only; omega
    · dsimp only; omega
  · have hi : ¬ i < xs.length := by simpa using h
    repeat' (first
      | (refine vl_pure rfl ?_)
      | (refine vl_nil ?_)
      | (refine VC.seq ?_)
      | (refine VC.regV ?_)
      | (refine VC.ret ?_)
      | (refine VC.exit ?_))
    rw [List.take_of_length_le (by omega)] at hkk
    exact fnQ_r rfl (Mem.le_refl _) ⟨by rw [hkk], rfl⟩
theorem heldIntS_q {M : Mem} {va : Value} {xs : List Int} {k : Int} (h0 : 0 ≤ k) (hb : mkT wI k xs ≤ 4611686018427387904) (ha : Sl M 1 iv va (mkG gI wI k xs)) :
    Qt Try.prog 80 [va, .int .i64 k] M (.int .i64 (mkT wI k xs)) := by
  obtain ⟨aa, ca, ea⟩ := ha.len
  have hbd := ha.bound
  rw [mkG_len] at ea hbd
  refine fn80 (by simp) ?_
  subst ea
  repeat' (first
    | (refine vl_pure rfl ?_)
    | (refine vl_nil ?_)
    | (refine VC.seq ?_)
    | (refine VC.regV ?_)
    | (refine VC.block ?_))
  refine VC.loop (α := Nat × Int) (fun p => [(0, .v (.slice aa xs.length ca)), (1, .v (.int .i64 p.2)), (5, .v (.int .i64 p.1))]) (fun n p M' => n = xs.length - p.1 ∧ p.1 ≤ xs.length ∧ p.2 = mkT wI k (xs.take p.1) ∧ M' = M)
    ⟨_, (0, k), M, ⟨rfl, rfl, rfl, trivial⟩, Mem.le_refl _, rfl, Nat.zero_le _, rfl, rfl⟩ ?_
  rintro n ⟨i, kk⟩ M2 ⟨rfl, hi, hkk, rfl⟩
  dsimp only at hi hkk ⊢
  repeat' (first
    | (refine vl_pure rfl ?_)
    | (refine vl_nil ?_)
    | (refine VC.seq ?_)
    | (refine VC.regV ?_)
    | (refine seqQ_n ?_))
  refine VC.cond _ rfl (fun h => ?_) (fun h => ?_)
  · have hi : i < xs.length := by simpa using h
    obtain ⟨x, gx⟩ : ∃ x, xs[i]? = some x := ⟨_, List.getElem?_eq_getElem hi⟩
    obtain ⟨b, o, rfl, c1⟩ := ha.at2 (fun _ => rfl) (mkG_get gx k)
    rw [← hkk] at c1
    have hk1 := mkT_take (w := wI) gx k
    have hk2 := mkT_le (w := wI) (fun _ => by unfold wI; omega) xs k (i + 1)
    have hk3 := mkT_ge (w := wI) (fun _ => by unfold wI; omega) (xs.take i) k
    have hwx : wI x = 1 := rfl
    repeat' (first
      | (refine vl_add rfl rfl (by omega) ?_)
      | (refine vl_pure rfl ?_)
      | (refine vl_ld rfl (by first | exact cells_cell c1 (j := 0) rfl) ?_)
      | (refine vl_nil ?_)
      | (refine VC.seq ?_)
      | (refine VC.regV ?_)
      | (refine vl_idx rfl rfl (by omega) ?_)
      | (refine VC.block ?_)
      | (refine VC.ret ?_)
      | (refine VC.skip ?_)
      | (refine seqQ_n ?_)
      | (refine seqQ_r ?_)
      | (refine blkQ_r ?_)
      | (refine VC.cond _ rfl (fun hb => ?_) (fun hb => ?_)))
    any_goals (simp [gI] at hb; done)
    refine ⟨_, (i + 1, _), _, ?_, ⟨rfl, rfl, rfl, trivial⟩, Mem.le_refl _, rfl, hi, ?_, rfl⟩
    · dsimp only; omega
    · dsimp only; omega
  · have hi : ¬ i < xs.length := by simpa using h
    repeat' (first
      | (refine vl_pure rfl ?_)
      | (refine vl_nil ?_)
      | (refine VC.seq ?_)
      | (refine VC.regV ?_)
      | (refine VC.ret ?_)
      | (refine VC.exit ?_))
    rw [List.take_of_length_le (by omega)] at hkk
    exact fnQ_r rfl (Mem.le_refl _) ⟨by rw [hkk], rfl⟩
end Go.Proofs.Ytcmllambknfleaa.E
set_option linter.unusedVariables false
set_option linter.unusedSimpArgs false
set_option maxRecDepth 100000
namespace Go.Proofs.Ytcmllambknfleaa.E
open Go
open Classical
theorem Sl.congr {M : Mem} {α : Type} {f : α → List Value} {size : Nat} {v : Value} {xs ys : List α} (h : Sl M size f v xs) (e : xs.map f = ys.map f) : Sl M size f v ys := by
  have hl : xs.length = ys.length := by have := congrArg List.length e; simpa using this
  have hf : xs.flatMap f = ys.flatMap f := by rw [List.flatMap_def, List.flatMap_def, e]
  rcases h with ⟨c, h1, h2, rfl⟩ | ⟨b, o, cap, row, h1, hM, hc, h2, hr, he⟩
  · exact .inl ⟨c, h1, h2, by cases ys with | nil => rfl | cons y r => simp at hl⟩
  · rw [hl] at h1 hc h2 he
    exact .inr ⟨b, o, cap, row, h1, hM, hc, h2, hr, by rw [he, hf]⟩
def gC (k : Int) (c : Cell) : Cell := ⟨k, k + 1, k + 1 + 1, k + 1 + 1 + 1, k + 1 + 1 + 1 + 1, k + 1 + 1 + 1 + 1 + 1, k + 1 + 1 + 1 + 1 + 1 + 1, mkG gP wP (k + 1 + 1 + 1 + 1 + 1 + 1 + 1) c.pairs⟩
def wC (c : Cell) : Int := 7 + 6 * c.pairs.length
def gCS (k : Int) (y : CS) : CS := ⟨gC k y.c, y.sa, y.cap⟩
def wCS (y : CS) : Int := wC y.c
/-- scalars of a cell that are marked, the pairs as they are -/
def hCS (k : Int) (y : CS) : CS := ⟨⟨k, k + 1, k + 1 + 1, k + 1 + 1 + 1, k + 1 + 1 + 1 + 1, k + 1 + 1 + 1 + 1 + 1, k + 1 + 1 + 1 + 1 + 1 + 1, y.c.pairs⟩, y.sa, y.cap⟩
theorem csv_hCS (k : Int) (y : CS) : csv (hCS k y) = csv (gCS k y) := by
  simp only [csv, cv, hCS, gCS, gC, mkG_len]
theorem gCS_s (k : Int) (y : CS) : (gCS k y).s = y.s := by simp only [CS.s, gCS, gC, mkG_len]
theorem wCS_nn (y : CS) : 0 ≤ wCS y := by unfold wCS wC; omega
theorem wP_T (xs : List Pair) (k : Int) : mkT wP k xs = k + 6 * xs.length := mkT_const (w := wP) (c := 6) (fun _ => rfl) xs k
theorem mkG_gCS_c : ∀ (xs : List CS) (k : Int), (mkG gCS wCS k xs).map (·.c) = mkG gC wC k (xs.map (·.c))
  | [], _ => rfl
  | x :: r, k => by simp only [mkG, List.map_cons]; rw [mkG_gCS_c r]; rfl
theorem mkT_wCS : ∀ (xs : List CS) (k : Int), mkT wCS k xs = mkT wC k (xs.map (·.c))
  | [], _ => rfl
  | x :: r, k => by simp only [mkT, List.map_cons]; rw [mkT_wCS r]; rfl
theorem mkG_own : ∀ (xs : List CS) (k : Int), ((mkG gCS wCS k xs).flatMap fun y => own y.s) = xs.flatMap fun y => own y.s
  | [], _ => rfl
  | x :: r, k => by simp only [mkG, List.flatMap_cons, gCS_s]; rw [mkG_own r]
theorem flat_apart {α β : Type} {f : α → List β} : ∀ {xs : List α} {i j : Nat} {x y : α}, (xs.flatMap f).Nodup → xs[i]? = some x → xs[j]? = some y → i ≠ j → ∀ b, b ∈ f x → b ∉ f y
  | [], i, _, x, _, _, h, _, _, _, _, _ => by simp at h
  | z :: r, i, j, x, y, hn, hi, hj, hij, b, hb, hc => by
    rw [List.flatMap_cons, List.nodup_append] at hn
    obtain ⟨_, hr, hd⟩ := hn
    cases i with
    | zero =>
      cases j with
      | zero => exact hij rfl
      | succ j =>
        simp only [List.getElem?_cons_zero, Option.some.injEq] at hi
        simp only [List.getElem?_cons_succ] at hj
        subst hi
        exact hd b hb b (List.mem_flatMap.2 ⟨y, List.mem_of_getElem? hj, hc⟩) rfl
    | succ i =>
      simp only [List.getElem?_cons_succ] at hi
      cases j with
      | zero =>
        simp only [List.getElem?_cons_zero, Option.some.injEq] at hj
        subst hj
        exact hd b hc b (List.mem_flatMap.2 ⟨x, List.mem_of_getElem? hi, hb⟩) rfl
      | succ j =>
        simp only [List.getElem?_cons_succ] at hj
        exact flat_apart hr hi hj (by omega) b hb hc
theorem mid_own {xs : List CS} {i : Nat} {k : Int} : ((mkG gCS wCS k (xs.take i) ++ xs.drop i).flatMap fun y => own y.s) = xs.flatMap fun y => own y.s := by
  rw [List.flatMap_append, mkG_own, ← List.flatMap_append, List.take_append_drop]
theorem markCellS_f {M : Mem} {va : Value} {xs : List CS} {k : Int} (h0 : 0 ≤ k) (hb : mkT wCS k xs ≤ 4611686018427387904) (ha : CL M va xs) (hnd : (fpC va xs).Nodup) :
    Fn Try.prog 76 [va, .int .i64 k] M (fun v M' => v = .int .i64 (mkT wCS k xs) ∧ OffL M (fpC va xs) M' ∧ CL M' va (mkG gCS wCS k xs)) := by
  obtain ⟨aa, ca, ea⟩ := ha.sl.len
  have hbd := ha.sl.bound
  refine fn76 (by simp) ?_
  subst ea
  repeat' (first
    | (refine vl_pure rfl ?_)
    | (refine vl_nil ?_)
    | (refine VC.seq ?_)
    | (refine VC.regV ?_)
    | (refine VC.block ?_))
  refine VC.loop (α := Nat × Int) (fun p => [(0, .v (.slice aa xs.length ca)), (1, .v (.int .i64 p.2)), (5, .v (.int .i64 p.1))]) (fun n p M' => n = xs.length - p.1 ∧ p.1 ≤ xs.length ∧ p.2 = mkT wCS k (xs.take p.1) ∧ OffL M (fpC (.slice aa xs.length ca) xs) M' ∧ CL M' (.slice aa xs.length ca) (mkG gCS wCS k (xs.take p.1) ++ xs.drop p.1))
    ⟨_, (0, k), M, ⟨rfl, rfl, rfl, trivial⟩, Mem.le_refl _, rfl, Nat.zero_le _, rfl, OffL.refl _ _, ha⟩ ?_
  rintro n ⟨i, kk⟩ M2 ⟨rfl, hi, hkk, hoff, hcl⟩
  dsimp only at hi hkk hoff hcl ⊢
  repeat' (first
    | (refine vl_pure rfl ?_)
    | (refine vl_nil ?_)
    | (refine VC.seq ?_)
    | (refine VC.regV ?_)
    | (refine seqQ_n ?_))
  refine VC.cond _ rfl (fun h => ?_) (fun h => ?_)
  · have hi : i < xs.length := by simpa using h
    obtain ⟨x, gx⟩ : ∃ x, xs[i]? = some x := ⟨_, List.getElem?_eq_getElem hi⟩
    obtain ⟨hsl, hps⟩ := hcl
    obtain ⟨b, o, rfl, c1⟩ := hsl.at2 (fun _ => rfl) (mid_get gx k)
    have hk1 := mkT_take (w := wCS) gx k
    have hk2 := mkT_le (w := wCS) wCS_nn xs k (i + 1)
    have hk3 := mkT_ge (w := wCS) wCS_nn (xs.take i) k
    have hwx : wCS x = 7 + 6 * x.c.pairs.length := rfl
    repeat' (first
      | (refine vl_pure rfl ?_)
      | (refine VC.seq ?_)
      | (refine VC.regV ?_)
      | (refine vl_idx rfl rfl (by omega) ?_)
      | (refine VC.block ?_)
      | (refine VC.skip ?_))
    refine vl_sts ⟨⟨kk, x.c.kind, x.c.weak, x.c.last, x.c.born, x.c.color, x.c.to, x.c.pairs⟩, x.sa, x.cap⟩ hsl (fun _ => rfl) (mid_get gx k) (i := i) (j := 0) rfl rfl rfl rfl (Nat.le_of_ble_eq_true rfl) rfl (fun M3 o3 s3 => ?_)
    repeat' (first
      | (refine vl_add rfl rfl (by omega) ?_)
      | (refine vl_pure rfl ?_)
      | (refine vl_nil ?_)
      | (refine VC.seq ?_)
      | (refine VC.regV ?_)
      | (refine vl_idx rfl rfl (by omega) ?_))
    refine vl_sts ⟨⟨kk, kk + 1, x.c.weak, x.c.last, x.c.born, x.c.color, x.c.to, x.c.pairs⟩, x.sa, x.cap⟩ s3 (fun _ => rfl) (set_get (mid_get gx k)) (i := i) (j := 1) rfl rfl rfl rfl (Nat.le_of_ble_eq_true rfl) rfl (fun M4 o4 s4 => ?_)
    rw [List.set_set] at s4
    repeat' (first
      | (refine vl_add rfl rfl (by omega) ?_)
      | (refine vl_pure rfl ?_)
      | (refine vl_nil ?_)
      | (refine VC.seq ?_)
      | (refine VC.regV ?_)
      | (refine vl_idx rfl rfl (by omega) ?_))
    refine vl_sts ⟨⟨kk, kk + 1, kk + 1 + 1, x.c.last, x.c.born, x.c.color, x.c.to, x.c.pairs⟩, x.sa, x.cap⟩ s4 (fun _ => rfl) (set_get (mid_get gx k)) (i := i) (j := 2) rfl rfl rfl rfl (Nat.le_of_ble_eq_true rfl) rfl (fun M5 o5 s5 => ?_)
    rw [List.set_set] at s5
    repeat' (first
      | (refine vl_add rfl rfl (by omega) ?_)
      | (refine vl_pure rfl ?_)
      | (refine vl_nil ?_)
      | (refine VC.seq ?_)
      | (refine VC.regV ?_)
      | (refine vl_idx rfl rfl (by omega) ?_))
    refine vl_sts ⟨⟨kk, kk + 1, kk + 1 + 1, kk + 1 + 1 + 1, x.c.born, x.c.color, x.c.to, x.c.pairs⟩, x.sa, x.cap⟩ s5 (fun _ => rfl) (set_get (mid_get gx k)) (i := i) (j := 3) rfl rfl rfl rfl (Nat.le_of_ble_eq_true rfl) rfl (fun M6 o6 s6 => ?_)
    rw [List.set_set] at s6
    repeat' (first
      | (refine vl_add rfl rfl (by omega) ?_)
      | (refine vl_pure rfl ?_)
      | (refine vl_nil ?_)
      | (refine VC.seq ?_)
      | (refine VC.regV ?_)
      | (refine vl_idx rfl rfl (by omega) ?_))
    refine vl_sts ⟨⟨kk, kk + 1, kk + 1 + 1, kk + 1 + 1 + 1, kk + 1 + 1 + 1 + 1, x.c.color, x.c.to, x.c.pairs⟩, x.sa, x.cap⟩ s6 (fun _ => rfl) (set_get (mid_get gx k)) (i := i) (j := 4) rfl rfl rfl rfl (Nat.le_of_ble_eq_true rfl) rfl (fun M7 o7 s7 => ?_)
    rw [List.set_set] at s7
    repeat' (first
      | (refine vl_add rfl rfl (by omega) ?_)
      | (refine vl_pure rfl ?_)
      | (refine vl_nil ?_)
      | (refine VC.seq ?_)
      | (refine VC.regV ?_)
      | (refine vl_idx rfl rfl (by omega) ?_))
    refine vl_sts ⟨⟨kk, kk + 1, kk + 1 + 1, kk + 1 + 1 + 1, kk + 1 + 1 + 1 + 1, kk + 1 + 1 + 1 + 1 + 1, x.c.to, x.c.pairs⟩, x.sa, x.cap⟩ s7 (fun _ => rfl) (set_get (mid_get gx k)) (i := i) (j := 5) rfl rfl rfl rfl (Nat.le_of_ble_eq_true rfl) rfl (fun M8 o8 s8 => ?_)
    rw [List.set_set] at s8
    repeat' (first
      | (refine vl_add rfl rfl (by omega) ?_)
      | (refine vl_pure rfl ?_)
      | (refine vl_nil ?_)
      | (refine VC.seq ?_)
      | (refine VC.regV ?_)
      | (refine vl_idx rfl rfl (by omega) ?_))
    refine vl_sts (hCS kk x) s8 (fun _ => rfl) (set_get (mid_get gx k)) (i := i) (j := 6) rfl rfl rfl rfl (Nat.le_of_ble_eq_true rfl) rfl (fun M9 o9 s9 => ?_)
    rw [List.set_set] at s9
    have oo : Off M2 b M9 := (((((o3.trans o4).trans o5).trans o6).trans o7).trans o8).trans o9
    obtain ⟨b', o', e', c2⟩ := s9.at2 (fun _ => rfl) (set_get (mid_get gx k))
    cases e'
    have hnc := (List.nodup_append.1 hnd)
    have hbo : own (.slice (some ⟨b, o, none⟩) xs.length ca) = [b] := rfl
    have hbn : ∀ (j : Nat) (y : CS), (mkG gCS wCS k (xs.take i) ++ xs.drop i)[j]? = some y → b ∉ own y.s := fun j y hj hm =>
      hnc.2.2 b (by rw [hbo]; simp) b (by rw [← mid_own (xs := xs) (i := i) (k := k)]; exact List.mem_flatMap.2 ⟨y, List.mem_of_getElem? hj, hm⟩) rfl
    have hpx : Sl M9 6 pv x.s x.c.pairs := (hps x (List.mem_of_getElem? (mid_get gx k))).off oo (hbn i x (mid_get gx k))
    have hT := wP_T x.c.pairs (kk + 1 + 1 + 1 + 1 + 1 + 1 + 1)
    have fp : cell M9 b (o + i * 8 + 7) = some x.s := cells_cell c2 (j := 7) rfl
    repeat' (first
      | (refine vl_add rfl rfl (by omega) ?_)
      | (refine vl_pure rfl ?_)
      | (refine vl_ld rfl (by first | exact fp) ?_)
      | (refine vl_nil ?_)
      | (refine VC.seq ?_)
      | (refine VC.regV ?_)
      | (refine vl_idx rfl rfl (by omega) ?_))
    refine vl_c rfl (markPairS_f (by omega) (by omega) hpx) (fun v M10 hq => ?_)
    obtain ⟨rfl, o10, s10⟩ := hq
    repeat' (first
      | (refine vl_add rfl rfl (by omega) ?_)
      | (refine vl_pure rfl ?_)
      | (refine vl_nil ?_)
      | (refine VC.regV ?_)
      | (refine seqQ_n ?_))
    
    have hsub : ∀ c, c ∈ own x.s → c ∈ fpC (.slice (some ⟨b, o, none⟩) xs.length ca) xs := fun c hc => by
      unfold fpC; exact List.mem_append.2 (.inr (List.mem_flatMap.2 ⟨x, List.mem_of_getElem? gx, hc⟩))
    have hsl10 := s9.offL o10 (fun c hc hc' => by
      rw [hbo] at hc; simp only [List.mem_singleton] at hc; subst hc
      exact hbn i x (mid_get gx k) hc')
    have hset : ((mkG gCS wCS k (xs.take i) ++ xs.drop i).set i (hCS kk x)).map csv = (mkG gCS wCS k (xs.take (i + 1)) ++ xs.drop (i + 1)).map csv := by
      rw [← mid_set (g := gCS) gx hkk rfl, List.map_set, List.map_set, csv_hCS]
    refine ⟨_, (i + 1, _), _, ?_, ⟨rfl, rfl, rfl, trivial⟩, Mem.le_refl _, rfl, hi, ?_, ?_, hsl10.congr hset, ?_⟩
    · dsimp only; omega
    · dsimp only; rw [hT]; omega
    · exact (hoff.off oo (by simp [fpC, hbo])).trans (o10.mono hsub)
    · intro y hy
      dsimp only at hy
      rw [← mid_set (g := gCS) gx hkk rfl] at hy
      obtain ⟨j, hj⟩ := List.mem_iff_getElem?.1 hy
      by_cases hji : j = i
      · subst hji
        rw [set_get (mid_get gx k)] at hj
        cases hj
        rw [gCS_s]; exact s10
      · rw [List.getElem?_set_ne (by omega)] at hj
        have := (hps y (List.mem_of_getElem? hj)).off oo (hbn j y hj)
        refine this.offL o10 (fun c hc hc' => ?_)
        have hnd2 : ((mkG gCS wCS k (xs.take i) ++ xs.drop i).flatMap fun (y : CS) => own y.s).Nodup := by rw [mid_own]; exact hnc.2.1
        exact flat_apart hnd2 hj (mid_get gx k) hji c hc hc'
  · have hi : ¬ i < xs.length := by simpa using h
    repeat' (first
      | (refine vl_pure rfl ?_)
      | (refine vl_nil ?_)
      | (refine VC.seq ?_)
      | (refine VC.regV ?_)
      | (refine VC.ret ?_)
      | (refine VC.exit ?_))
    rw [List.drop_of_length_le (by omega), List.append_nil, List.take_of_length_le (by omega)] at hcl
    rw [List.take_of_length_le (by omega)] at hkk
    exact fnQ_r rfl (Mem.le_refl _) ⟨by rw [hkk], hoff, hcl⟩
end Go.Proofs.Ytcmllambknfleaa.E
set_option linter.unusedVariables false
set_option linter.unusedSimpArgs false
set_option maxRecDepth 100000
namespace Go.Proofs.Ytcmllambknfleaa.E
open Go
open Classical
theorem heldCellS_q {M : Mem} {va : Value} {xs : List CS} {k : Int} (h0 : 0 ≤ k) (hb : mkT wCS k xs ≤ 4611686018427387904) (hcl : CL M va (mkG gCS wCS k xs)) :
    Qt Try.prog 79 [va, .int .i64 k] M (.int .i64 (mkT wCS k xs)) := by
  obtain ⟨ha, hps⟩ := hcl
  obtain ⟨aa, ca, ea⟩ := ha.len
  have hbd := ha.bound
  rw [mkG_len] at ea hbd
  refine fn79 (by simp) ?_
  subst ea
  repeat' (first
    | (refine vl_pure rfl ?_)
    | (refine vl_nil ?_)
    | (refine VC.seq ?_)
    | (refine VC.regV ?_)
    | (refine VC.block ?_))
  refine VC.loop (α := Nat × Int) (fun p => [(0, .v (.slice aa xs.length ca)), (1, .v (.int .i64 p.2)), (5, .v (.int .i64 p.1))]) (fun n p M' => n = xs.length - p.1 ∧ p.1 ≤ xs.length ∧ p.2 = mkT wCS k (xs.take p.1) ∧ M' = M)
    ⟨_, (0, k), M, ⟨rfl, rfl, rfl, trivial⟩, Mem.le_refl _, rfl, Nat.zero_le _, rfl, rfl⟩ ?_
  rintro n ⟨i, kk⟩ M2 ⟨rfl, hi, hkk, rfl⟩
  dsimp only at hi hkk ⊢
  repeat' (first
    | (refine vl_pure rfl ?_)
    | (refine vl_nil ?_)
    | (refine VC.seq ?_)
    | (refine VC.regV ?_)
    | (refine seqQ_n ?_))
  refine VC.cond _ rfl (fun h => ?_) (fun h => ?_)
  · have hi : i < xs.length := by simpa using h
    obtain ⟨x, gx⟩ : ∃ x, xs[i]? = some x := ⟨_, List.getElem?_eq_getElem hi⟩
    have hgm := List.mem_of_getElem? (mkG_get (g := gCS) (w := wCS) gx k)
    obtain ⟨b, o, rfl, c1⟩ := ha.at2 (fun _ => rfl) (mkG_get gx k)
    rw [← hkk] at c1 hgm
    have hk1 := mkT_take (w := wCS) gx k
    have hk2 := mkT_le (w := wCS) wCS_nn xs k (i + 1)
    have hk3 := mkT_ge (w := wCS) wCS_nn (xs.take i) k
    have hwx : wCS x = 7 + 6 * x.c.pairs.length := rfl
    have hT := wP_T x.c.pairs (kk + 1 + 1 + 1 + 1 + 1 + 1 + 1)
    have hp := hps _ hgm
    have q := heldPairS_q (k := kk + 1 + 1 + 1 + 1 + 1 + 1 + 1) (xs := x.c.pairs) (by omega) (by omega) hp
    repeat' (first
      | (refine vl_add rfl rfl (by omega) ?_)
      | (refine vl_pure rfl ?_)
      | (refine vl_ld rfl (by first | exact cells_cell c1 (j := 0) rfl | exact cells_cell c1 (j := 1) rfl | exact cells_cell c1 (j := 2) rfl | exact cells_cell c1 (j := 3) rfl | exact cells_cell c1 (j := 4) rfl | exact cells_cell c1 (j := 5) rfl | exact cells_cell c1 (j := 6) rfl | exact cells_cell c1 (j := 7) rfl) ?_)
      | (refine vl_nil ?_)
      | (refine VC.seq ?_)
      | (refine VC.regV ?_)
      | (refine vl_idx rfl rfl (by omega) ?_)
      | (refine vl_cq rfl (q) ?_)
      | (refine VC.block ?_)
      | (refine VC.ret ?_)
      | (refine VC.skip ?_)
      | (refine seqQ_n ?_)
      | (refine seqQ_r ?_)
      | (refine blkQ_r ?_)
      | (refine VC.cond _ rfl (fun hb => ?_) (fun hb => ?_)))
    any_goals (simp [gCS, gC] at hb; done)
    any_goals (simp at hb; omega)
    refine ⟨_, (i + 1, _), _, ?_, ⟨rfl, rfl, rfl, trivial⟩, Mem.le_refl _, rfl, hi, ?_, rfl⟩
    · dsimp only; omega
    · dsimp only; rw [hT]; omega
  · have hi : ¬ i < xs.length := by simpa using h
    repeat' (first
      | (refine vl_pure rfl ?_)
      | (refine vl_nil ?_)
      | (refine VC.seq ?_)
      | (refine VC.regV ?_)
      | (refine VC.ret ?_)
      | (refine VC.exit ?_))
    rw [List.take_of_length_le (by omega)] at hkk
    exact fnQ_r rfl (Mem.le_refl _) ⟨by rw [hkk], rfl⟩
/-- what marks make of a heap, and where they end -/
def gH (k : Int) (x : HS) : HS :=
  ⟨{ x.H with regs := mkG gW wW k x.H.regs, cells := mkG gC wC (mkT wW k x.H.regs) x.H.cells, gray := mkG gI wI (mkT wC (mkT wW k x.H.regs) x.H.cells) x.H.gray }, x.rs, x.cs, x.gs, mkG gCS wCS (mkT wW k x.H.regs) x.xs⟩
def endH (k : Int) (H : Heap) : Int := mkT wI (mkT wC (mkT wW k H.regs) H.cells) H.gray
theorem mkT_wC : ∀ (cs : List Cell) (k : Int), mkT wC k cs = k + 7 * cs.length + 6 * pairsN cs
  | [], k => by simp [mkT, pairsN]
  | c :: r, k => by
    have e : pairsN (c :: r) = c.pairs.length + pairsN r := by simp [pairsN]
    simp only [mkT, List.length_cons, e]; rw [mkT_wC r]; simp only [wC, Int.natCast_add]; omega
theorem endH_eq (k : Int) (H : Heap) : endH k H = k + 3 * H.regs.length + 7 * H.cells.length + 6 * pairsN H.cells + H.gray.length := by
  unfold endH
  rw [mkT_const (w := wI) (c := 1) (fun _ => rfl), mkT_wC, mkT_const (w := wW) (c := 3) (fun _ => rfl)]; omega
theorem markHeap_f {M : Mem} {x : HS} {k : Int} (h0 : 0 ≤ k) (hb : endH k x.H ≤ 4611686018427387904) (hx : WHV M x) :
    Fn Try.prog 28 [x.v, .int .i64 k] M (fun v M' => v = .int .i64 (endH k x.H) ∧ OffL M x.fp M' ∧ RHV M' (gH k x)) := by
  have hp := pairsN_nonneg x.H.cells
  have e0 := endH_eq k x.H
  have e1 := mkT_const (w := wW) (c := 3) (fun _ => rfl) x.H.regs k
  have e2 := mkT_wC x.H.cells (mkT wW k x.H.regs)
  have e3 := mkT_const (w := wI) (c := 1) (fun _ => rfl) x.H.gray (mkT wC (mkT wW k x.H.regs) x.H.cells)
  have e4 := mkT_wCS x.xs (mkT wW k x.H.regs)
  rw [hx.r.eq] at e4
  have hnd := hx.nd
  simp only [HS.fp, List.nodup_append] at hnd
  obtain ⟨_, ⟨hn2, _, hn3⟩, hn1⟩ := hnd
  refine fn28 (by simp) ?_
  repeat' (first
    | (refine vl_pure rfl ?_)
    | (refine vl_nil ?_)
    | (refine VC.seq ?_)
    | (refine VC.regV ?_)
    | (refine vl_box rfl rfl ?_))
  refine vl_c rfl (markWordS_f h0 (by omega) hx.r.regs) (fun v M1 hq => ?_)
  obtain ⟨rfl, o1, s1⟩ := hq
  repeat' (first
    | (refine vl_pure rfl ?_)
    | (refine vl_nil ?_)
    | (refine VC.seq ?_)
    | (refine VC.regV ?_))
  have c1 : CL M1 x.cs x.xs := ⟨hx.r.cl.sl.offL o1 (fun b h h' => hn1 b h' b (by simp [fpC, h]) rfl), fun y hy => (hx.r.cl.ps y hy).offL o1 (fun b h h' => hn1 b h' b (by
    simp only [fpC, List.mem_append, List.mem_flatMap]; exact .inl (.inr ⟨y, hy, h⟩)) rfl)⟩
  have g1 := hx.r.gray.offL o1 (fun b h h' => hn1 b h' b (by simp [h]) rfl)
  refine vl_c rfl (markCellS_f (k := mkT wW k x.H.regs) (by omega) (by omega) c1 hn2) (fun v M2 hq => ?_)
  obtain ⟨rfl, o2, s2⟩ := hq
  repeat' (first
    | (refine vl_pure rfl ?_)
    | (refine vl_nil ?_)
    | (refine VC.seq ?_)
    | (refine VC.regV ?_))
  have g2 := g1.offL o2 (fun b h h' => hn3 b h' b h rfl)
  have r2 := s1.offL o2 (fun b h h' => hn1 b h b (by simp [h']) rfl)
  rw [e4]
  refine vl_c rfl (markIntS_f (by omega) (by omega) g2) (fun v M3 hq => ?_)
  obtain ⟨rfl, o3, s3⟩ := hq
  repeat' (first
    | (refine vl_pure rfl ?_)
    | (refine vl_nil ?_)
    | (refine VC.seq ?_)
    | (refine VC.regV ?_)
    | (refine VC.ret ?_))
  refine fnQ_r rfl (Mem.le_refl _) ⟨rfl, ?_, ⟨r2.offL o3 (fun b h h' => hn1 b h b (by simp [h']) rfl), ⟨s2.sl.offL o3 (fun b h h' => hn3 b (by simp [fpC, h]) b h' rfl), fun y hy => (s2.ps y hy).offL o3 (fun b h h' => hn3 b ?_ b h' rfl)⟩, ?_, s3⟩⟩
  · refine ((o1.mono (fun b h => ?_)).trans (o2.mono (fun b h => ?_))).trans (o3.mono (fun b h => ?_)) <;> simp [HS.fp, h]
  · refine List.mem_append.2 (.inr ?_)
    rw [← mkG_own (k := mkT wW k x.H.regs)]
    exact List.mem_flatMap.2 ⟨y, hy, h⟩
  · show (mkG gCS wCS _ x.xs).map (·.c) = _
    rw [mkG_gCS_c, hx.r.eq]; rfl
theorem heldHeap_q {M : Mem} {x : HS} {k : Int} (h0 : 0 ≤ k) (hb : endH k x.H ≤ 4611686018427387904) (he : x.xs.map (·.c) = x.H.cells) (hx : RHV M (gH k x)) :
    Qt Try.prog 29 [(gH k x).v, .int .i64 k] M (.int .i64 (endH k x.H)) := by
  have hp := pairsN_nonneg x.H.cells
  have e0 := endH_eq k x.H
  have e1 := mkT_const (w := wW) (c := 3) (fun _ => rfl) x.H.regs k
  have e2 := mkT_wC x.H.cells (mkT wW k x.H.regs)
  have e3 := mkT_const (w := wI) (c := 1) (fun _ => rfl) x.H.gray (mkT wC (mkT wW k x.H.regs) x.H.cells)
  have e4 := mkT_wCS x.xs (mkT wW k x.H.regs)
  rw [he] at e4
  have q1 := heldWordS_q h0 (by omega) hx.regs
  have q2 := heldCellS_q (k := mkT wW k x.H.regs) (xs := x.xs) (by omega) (by omega) hx.cl
  rw [e4] at q2
  have q3 := heldIntS_q (k := mkT wC (mkT wW k x.H.regs) x.H.cells) (by omega) (by omega) hx.gray
  refine fn29 (by simp) ?_
  repeat' (first
    | (refine vl_pure rfl ?_)
    | (refine vl_nil ?_)
    | (refine VC.seq ?_)
    | (refine VC.regV ?_)
    | (refine vl_box rfl rfl ?_)
    | (refine vl_cq rfl (q1) ?_)
    | (refine vl_cq rfl (q2) ?_)
    | (refine vl_cq rfl (q3) ?_)
    | (refine VC.ret ?_)
    | (refine VC.skip ?_)
    | (refine seqQ_n ?_)
    | (refine seqQ_r ?_)
    | (refine VC.cond _ rfl (fun hb => ?_) (fun hb => ?_)))
  any_goals (simp at hb; omega)
  exact fnQ_r rfl (Mem.le_refl _) (q_end rfl)
/-- the same, of the heap's value as it was handed out -/
theorem heldHeap_q' {M : Mem} {x : HS} {k : Int} (h0 : 0 ≤ k) (hb : endH k x.H ≤ 4611686018427387904) (he : x.xs.map (·.c) = x.H.cells) (hx : RHV M (gH k x)) :
    Qt Try.prog 29 [x.v, .int .i64 k] M (.int .i64 (endH k x.H)) := heldHeap_q h0 hb he hx
end Go.Proofs.Ytcmllambknfleaa.E
set_option linter.unusedVariables false
set_option linter.unusedSimpArgs false
set_option maxHeartbeats 8000000
set_option maxRecDepth 100000
namespace Go.Proofs.Ytcmllambknfleaa.E
open Go
open Classical
theorem fna_ro {P : Program} {f : FuncId} {args : List Value} {Bs : List Asr} {q : Value → List Asr → Prop} (h : ∀ m, star Bs m → FnA P f args [ro m] (fun v As => ∃ E, q v E ∧ As = E ++ [ro m])) : FnA P f args Bs (fun v As => ∃ E, q v E ∧ As = E ++ Bs) :=
  ⟨fun m hm => ((h m hm).out m ⟨m, emp, disj_emp _, (un_emp _).symm, rfl, rfl⟩).mono fun v M' ⟨As', m', l, s, E, hq, e⟩ => by
    subst e
    obtain ⟨a, b, d, rfl, h1, ⟨b1, b2, d2, rfl, h2, h3⟩⟩ := star_append.1 s
    have h2 : b1 = m := h2
    have h3 : b2 = emp := h3
    subst h2; subst h3
    rw [un_emp] at d l
    exact ⟨E ++ Bs, _, l, star_append.2 ⟨a, b1, d, rfl, h1, hm⟩, E, hq, rfl⟩⟩
theorem has_star {m : Mem} {Bs : List Asr} (h : star Bs m) : Has m Bs := ⟨m, Mem.le_refl _, h⟩
theorem Has.sl {α : Type} {f : α → List Value} {size : Nat} {d : D} {xs : List α} {m : Mem} (h : Has m [slA size f d xs]) : Sl m size f (.slice d.a xs.length d.cap) xs := by
  obtain ⟨a, l, b, c, dj, rfl, h1, _⟩ := h
  exact h1.1.le (Mem.le_trans (le_l _ _) l)
theorem own_nd (v : Value) : (own v).Nodup := by unfold own; split <;> simp
theorem pr_nd : ∀ {ys : List CS} {m : Mem}, prA ys m → (ys.flatMap fun y => own y.s).Nodup ∧ ∀ b, b ∈ (ys.flatMap fun y => own y.s) → m b ≠ none
  | [], m, _ => ⟨by simp, by simp⟩
  | y :: r, m, h => by
    obtain ⟨a, b, d, rfl, h1, h2⟩ := h
    obtain ⟨n1, n2⟩ := pr_nd (ys := r) (m := b) h2
    have ho : ∀ c, c ∈ own y.s → a c ≠ none := fun c hc => h1.1.own_some hc
    rw [List.flatMap_cons]
    refine ⟨List.nodup_append.2 ⟨own_nd _, n1, fun c hc e he hce => ?_⟩, fun c hc => ?_⟩
    · subst hce
      rcases d c with hd | hd
      · exact ho c hc hd
      · exact n2 c he hd
    · rcases List.mem_append.1 hc with hc | hc
      · cases ha : a c with
        | none => exact absurd ha (ho c hc)
        | some k => rw [un_l ha]; simp
      · cases hb : b c with
        | none => exact absurd hb (n2 c hc)
        | some k => rw [un_r d hb]; simp
theorem body_whv {x : HX} {m : Mem} (h : star x.body m) : WHV m x.hs := by
  refine ⟨body_r h, ?_⟩
  obtain ⟨a, r, d, rfl, h1, b, r2, d2, rfl, h2, c, r3, d3, rfl, h3, _⟩ := h
  obtain ⟨b1, b2, d4, rfl, k1, k2⟩ := star2.1 h2
  obtain ⟨p1, p2⟩ := pr_nd k2
  have o1 : ∀ e, e ∈ own (.slice x.rd.a x.regs.length x.rd.cap) → a e ≠ none := fun e he => h1.1.own_some he
  have o2 : ∀ e, e ∈ own (.slice x.cd.a x.xs.length x.cd.cap) → b1 e ≠ none := fun e he => k1.1.own_some he
  have o3 : ∀ e, e ∈ own (.slice x.gd.a x.gray.length x.gd.cap) → c e ≠ none := fun e he => h3.1.own_some he
  have q2 : ∀ e, e ∈ fpC (.slice x.cd.a x.xs.length x.cd.cap) x.xs → (b1.un b2) e ≠ none := fun e he => by
    rcases List.mem_append.1 he with he | he
    · cases hb : b1 e with
      | none => exact absurd hb (o2 e he)
      | some k => rw [un_l hb]; simp
    · cases hb : b2 e with
      | none => exact absurd hb (p2 e he)
      | some k => rw [un_r d4 hb]; simp
  show (own _ ++ (fpC _ _ ++ own _)).Nodup
  refine List.nodup_append.2 ⟨own_nd _, List.nodup_append.2 ⟨List.nodup_append.2 ⟨own_nd _, p1, fun e he f hf hef => ?_⟩, own_nd _, fun e he f hf hef => ?_⟩, fun e he f hf hef => ?_⟩
  · subst hef
    rcases d4 e with h | h
    · exact o2 e he h
    · exact p2 e hf h
  · subst hef
    rcases d2 e with h | h
    · exact q2 e he h
    · exact o3 e hf (un_none.1 h).1
  · subst hef
    rcases d e with h | h
    · exact o1 e he h
    · rcases List.mem_append.1 hf with hf | hf
      · exact q2 e hf (un_none.1 h).1
      · exact o3 e hf (un_none.1 (un_none.1 h).2).1
theorem markHeap_d {x : HX} {k : Int} (h0 : 0 ≤ k) (hb : endH k x.H ≤ 4611686018427387904) : FnA Try.prog 28 [x.v, .int .i64 k] x.body (fun v As => v = .int .i64 (endH k x.H) ∧ As = []) :=
  ⟨fun m hm => (markHeap_f h0 hb (body_whv hm)).mono fun v M' ⟨h1, _, _⟩ => ⟨[], emp, fun _ _ h => (by cases h), rfl, h1, rfl⟩⟩
end Go.Proofs.Ytcmllambknfleaa.E
set_option maxRecDepth 100000
set_option linter.unusedVariables false
namespace Go.Proofs.Ytcmllambknfleaa.E
open Go
noncomputable def e119 : Env := ⟨Try.prog, [5, 36], 40, []⟩
noncomputable def c119 : C :=
  .seq (.reg [
    ⟨some 1, none, .box false (.tmp 0)⟩,
    ⟨some 2, none, .mov (.const (.pointer none))⟩]) (.seq (.reg [
    ⟨some 6, none, .bslice false 0 3 [] []⟩,
    ⟨some 7, none, .faddr 3 (.tmp 1)⟩,
    ⟨some 8, none, .load true 1 (.tmp 7)⟩,
    ⟨some 9, none, .app 3 24 [.int .i64 0, .int .i64 0, .int .i64 0] (.tmp 6) (.tmp 8)⟩,
    ⟨some 10, none, .faddr 3 (.tmp 1)⟩,
    ⟨none, none, .store 1 (.tmp 10) (.tmp 9)⟩]) (.seq (.reg [
    ⟨some 11, none, .bslice false 0 1 [] []⟩,
    ⟨some 12, none, .faddr 8 (.tmp 1)⟩,
    ⟨some 13, none, .load true 1 (.tmp 12)⟩,
    ⟨some 14, none, .app 1 8 [.int .i64 0] (.tmp 11) (.tmp 13)⟩,
    ⟨some 15, none, .faddr 8 (.tmp 1)⟩,
    ⟨none, none, .store 1 (.tmp 15) (.tmp 14)⟩]) (.seq (.reg [
    ⟨some 16, none, .faddr 4 (.tmp 1)⟩,
    ⟨some 17, none, .load true 1 (.tmp 16)⟩,
    ⟨some 3, none, .mov (.tmp 17)⟩]) (.seq (.reg [
    ⟨some 18, none, .mov (.tmp 3)⟩,
    ⟨some 19, none, .lenS (.tmp 18)⟩,
    ⟨some 20, none, .mkslice 8 80 [.int .i64 0, .int .i64 0, .int .i64 0, .int .i64 0, .int .i64 0, .int .i64 0, .int .i64 0, .slice none 0 0] (.const (.int .i64 0)) (.tmp 19)⟩,
    ⟨some 21, none, .faddr 4 (.tmp 1)⟩,
    ⟨none, none, .store 1 (.tmp 21) (.tmp 20)⟩]) (.seq (.seq (.reg [
    ⟨some 22, none, .mov (.tmp 3)⟩,
    ⟨some 23, none, .lenS (.tmp 22)⟩,
    ⟨some 24, none, .mov (.const (.int .i64 0))⟩]) (.block 0 (.loop (.seq (.reg [
    ⟨some 25, none, .bin .lss (.tmp 24) (.tmp 23)⟩]) (.seq (.cond (.tmp 25) (.skip) (.exit 0)) (.seq (.block 1 (.seq (.reg [
    ⟨some 26, none, .iaddr 8 (.tmp 22) (.tmp 24)⟩,
    ⟨some 27, none, .load false 8 (.tmp 26)⟩,
    ⟨some 5, none, .alloc true [.int .i64 0, .int .i64 0, .int .i64 0, .int .i64 0, .int .i64 0, .int .i64 0, .int .i64 0, .slice none 0 0]⟩,
    ⟨none, none, .store 8 (.tmp 5) (.tmp 27)⟩]) (.seq (.reg [
    ⟨some 28, none, .bslice false 0 6 [] []⟩,
    ⟨some 29, none, .faddr 7 (.tmp 5)⟩,
    ⟨some 30, none, .load true 1 (.tmp 29)⟩,
    ⟨some 31, none, .app 6 48 [.int .i64 0, .int .i64 0, .int .i64 0, .int .i64 0, .int .i64 0, .int .i64 0] (.tmp 28) (.tmp 30)⟩,
    ⟨some 32, none, .faddr 7 (.tmp 5)⟩,
    ⟨none, none, .store 1 (.tmp 32) (.tmp 31)⟩]) (.reg [
    ⟨some 33, none, .faddr 4 (.tmp 1)⟩,
    ⟨some 34, none, .load true 1 (.tmp 33)⟩,
    ⟨some 35, none, .load false 8 (.tmp 5)⟩,
    ⟨some 36, none, .bslice true 1 8 [.int .i64 0, .int .i64 0, .int .i64 0, .int .i64 0, .int .i64 0, .int .i64 0, .int .i64 0, .slice none 0 0] [(0, 8, .tmp 35)]⟩,
    ⟨some 37, none, .app 8 80 [.int .i64 0, .int .i64 0, .int .i64 0, .int .i64 0, .int .i64 0, .int .i64 0, .int .i64 0, .slice none 0 0] (.tmp 34) (.tmp 36)⟩,
    ⟨some 38, none, .faddr 4 (.tmp 1)⟩,
    ⟨none, none, .store 1 (.tmp 38) (.tmp 37)⟩])))) (.reg [
    ⟨some 39, none, .bin .add (.tmp 24) (.const (.int .i64 1))⟩,
    ⟨some 24, none, .mov (.tmp 39)⟩]))))))) (.seq (.reg [
    ⟨some 2, none, .mov (.tmp 1)⟩]) (.ret)))))))
theorem t119 : Try.f119.body.bind (trC e119) = some c119 := by kernel_rfl
theorem r119 : Try.f119.results.toList.mapM (trR Try.prog) = some [.tmp 2] := by kernel_rfl
theorem fn119 {args : List Value} {M : Mem} {post : Value → Mem → Prop} (hl : args.length ≤ 40) (h : VC e119 c119 (fnQ [.tmp 2] post) (initS args 40) M) : Fn Try.prog 119 args M post :=
  Fn.of' (E := e119) Try.func119 t119 rfl r119 mixed hl h
noncomputable def e160 : Env := ⟨Try.prog, [], 45, [(3, 17)]⟩
noncomputable def c160 : C :=
  .seq (.reg [
    ⟨some 2, none, .mov (.const (.int .i64 0))⟩]) (.seq (.block 0 (.seq (.reg [
    ⟨some 4, none, .mov (.tmp 0)⟩,
    ⟨some 5, none, .nilCheck (.tmp 4)⟩,
    ⟨some 6, none, .faddr 5 (.tmp 5)⟩,
    ⟨some 7, none, .load true 1 (.tmp 6)⟩,
    ⟨some 8, none, .bin .eql (.tmp 7) (.const (.int .i64 2))⟩,
    ⟨some 9, none, .mov (.tmp 8)⟩,
    ⟨some 10, some (9, true), .mov (.tmp 0)⟩,
    ⟨some 11, some (9, true), .nilCheck (.tmp 10)⟩,
    ⟨some 12, some (9, true), .faddr 8 (.tmp 11)⟩,
    ⟨some 13, some (9, true), .load true 1 (.tmp 12)⟩,
    ⟨some 14, some (9, true), .lenS (.tmp 13)⟩,
    ⟨some 15, some (9, true), .bin .gtr (.tmp 14) (.const (.int .i64 0))⟩,
    ⟨some 16, none, .pick (.tmp 9) (.tmp 15) (.const (.bool false))⟩,
    ⟨some 3, none, .mov (.tmp 16)⟩]) (.cond (.tmp 3) (.seq (.reg [
    ⟨some 17, none, .mov (.tmp 0)⟩,
    ⟨some 18, none, .nilCheck (.tmp 17)⟩,
    ⟨some 19, none, .faddr 8 (.tmp 18)⟩,
    ⟨some 20, none, .load true 1 (.tmp 19)⟩,
    ⟨some 21, none, .iaddr 1 (.tmp 20) (.const (.int .i64 0))⟩,
    ⟨some 22, none, .load true 1 (.tmp 21)⟩,
    ⟨some 2, none, .mov (.tmp 22)⟩]) (.ret)) (.seq (.dreg 17 [
    ⟨some 24, none, .mov (.tmp 0)⟩,
    ⟨some 25, none, .nilCheck (.tmp 24)⟩,
    ⟨some 26, none, .faddr 5 (.tmp 25)⟩,
    ⟨some 27, none, .load true 1 (.tmp 26)⟩,
    ⟨some 28, none, .bin .eql (.tmp 27) (.const (.int .i64 5))⟩,
    ⟨some 29, none, .mov (.tmp 28)⟩,
    ⟨some 30, some (29, true), .mov (.tmp 0)⟩,
    ⟨some 31, some (29, true), .nilCheck (.tmp 30)⟩,
    ⟨some 32, some (29, true), .faddr 6 (.tmp 31)⟩,
    ⟨some 33, some (29, true), .load true 1 (.tmp 32)⟩,
    ⟨some 34, some (29, true), .mov (.tmp 0)⟩,
    ⟨some 35, some (29, true), .nilCheck (.tmp 34)⟩,
    ⟨some 36, some (29, true), .faddr 4 (.tmp 35)⟩,
    ⟨some 37, some (29, true), .load true 1 (.tmp 36)⟩,
    ⟨some 38, some (29, true), .lenS (.tmp 37)⟩,
    ⟨some 39, some (29, true), .bin .lss (.tmp 33) (.tmp 38)⟩,
    ⟨some 40, none, .pick (.tmp 29) (.tmp 39) (.const (.bool false))⟩,
    ⟨some 23, none, .mov (.tmp 40)⟩]) (.cond (.tmp 23) (.seq (.reg [
    ⟨some 41, none, .mov (.tmp 0)⟩,
    ⟨some 42, none, .nilCheck (.tmp 41)⟩,
    ⟨some 43, none, .faddr 6 (.tmp 42)⟩,
    ⟨some 44, none, .load true 1 (.tmp 43)⟩,
    ⟨some 2, none, .mov (.tmp 44)⟩]) (.ret)) (.skip)))))) (.seq (.reg [
    ⟨some 2, none, .mov (.const (.int .i64 (-1)))⟩]) (.ret)))
theorem t160 : Try.f160.body.bind (trC e160) = some c160 := by kernel_rfl
theorem r160 : Try.f160.results.toList.mapM (trR Try.prog) = some [.tmp 2] := by kernel_rfl
theorem fn160 {args : List Value} {M : Mem} {post : Value → Mem → Prop} (hl : args.length ≤ 45) (h : VC e160 c160 (fnQ [.tmp 2] post) (initS args 45) M) : Fn Try.prog 160 args M post :=
  Fn.of' (E := e160) Try.func160 t160 rfl r160 mixed hl h
noncomputable def e124 : Env := ⟨Try.prog, [11, 103], 152, []⟩
noncomputable def c124 : C :=
  .seq (.reg [
    ⟨some 1, none, .box false (.tmp 0)⟩,
    ⟨some 2, none, .mov (.const (.int .i64 0))⟩,
    ⟨some 3, none, .mov (.const (.int .i64 0))⟩]) (.seq (.reg [
    ⟨some 14, none, .load true 1 (.tmp 1)⟩,
    ⟨some 15, none, .call 115 [.tmp 14]⟩,
    ⟨some 4, none, .alloc false [.slice none 0 0]⟩,
    ⟨none, none, .store 1 (.tmp 4) (.tmp 15)⟩]) (.seq (.reg [
    ⟨some 16, none, .mkfn 159 [] [.tmp 1, .tmp 4]⟩,
    ⟨some 5, none, .mov (.tmp 16)⟩]) (.seq (.seq (.reg [
    ⟨some 17, none, .load true 1 (.tmp 1)⟩,
    ⟨some 18, none, .nilCheck (.tmp 17)⟩,
    ⟨some 19, none, .faddr 4 (.tmp 18)⟩,
    ⟨some 20, none, .load true 1 (.tmp 19)⟩,
    ⟨some 21, none, .lenS (.tmp 20)⟩,
    ⟨some 22, none, .mov (.const (.int .i64 0))⟩]) (.block 0 (.loop (.seq (.reg [
    ⟨some 23, none, .bin .lss (.tmp 22) (.tmp 21)⟩]) (.seq (.cond (.tmp 23) (.skip) (.exit 0)) (.seq (.block 1 (.seq (.reg [
    ⟨some 24, none, .mov (.tmp 22)⟩,
    ⟨some 6, none, .mov (.tmp 24)⟩]) (.seq (.reg [
    ⟨some 25, none, .load true 1 (.tmp 1)⟩,
    ⟨some 26, none, .nilCheck (.tmp 25)⟩,
    ⟨some 27, none, .faddr 4 (.tmp 26)⟩,
    ⟨some 28, none, .load true 1 (.tmp 27)⟩,
    ⟨some 29, none, .mov (.tmp 6)⟩,
    ⟨some 30, none, .iaddr 8 (.tmp 28) (.tmp 29)⟩,
    ⟨some 7, none, .mov (.tmp 30)⟩]) (.seq (.seq (.reg [
    ⟨some 31, none, .load true 1 (.tmp 4)⟩,
    ⟨some 32, none, .mov (.tmp 6)⟩,
    ⟨some 33, none, .iaddr 1 (.tmp 31) (.tmp 32)⟩,
    ⟨some 34, none, .load true 1 (.tmp 33)⟩,
    ⟨some 35, none, .not (.tmp 34)⟩]) (.cond (.tmp 35) (.exit 1) (.skip))) (.seq (.reg [
    ⟨some 8, none, .mov (.const (.slice none 0 0))⟩]) (.seq (.reg [
    ⟨some 36, none, .load true 1 (.tmp 1)⟩,
    ⟨some 37, none, .nilCheck (.tmp 36)⟩,
    ⟨some 38, none, .faddr 7 (.tmp 37)⟩,
    ⟨some 39, none, .load true 1 (.tmp 38)⟩,
    ⟨some 9, none, .mov (.tmp 39)⟩]) (.seq (.seq (.reg [
    ⟨some 40, none, .mov (.tmp 7)⟩,
    ⟨some 41, none, .nilCheck (.tmp 40)⟩,
    ⟨some 42, none, .faddr 7 (.tmp 41)⟩,
    ⟨some 43, none, .load true 1 (.tmp 42)⟩,
    ⟨some 44, none, .lenS (.tmp 43)⟩,
    ⟨some 45, none, .mov (.const (.int .i64 0))⟩]) (.block 2 (.loop (.seq (.reg [
    ⟨some 46, none, .bin .lss (.tmp 45) (.tmp 44)⟩]) (.seq (.cond (.tmp 46) (.skip) (.exit 2)) (.seq (.block 3 (.seq (.reg [
    ⟨some 47, none, .mov (.tmp 45)⟩,
    ⟨some 48, none, .iaddr 6 (.tmp 43) (.tmp 45)⟩,
    ⟨some 49, none, .load false 6 (.tmp 48)⟩,
    ⟨some 11, none, .alloc true [.int .i64 0, .int .i64 0, .int .i64 0, .int .i64 0, .int .i64 0, .int .i64 0]⟩,
    ⟨some 10, none, .mov (.tmp 47)⟩,
    ⟨none, none, .store 6 (.tmp 11) (.tmp 49)⟩]) (.seq (.seq (.reg [
    ⟨some 50, none, .mov (.tmp 7)⟩,
    ⟨some 51, none, .nilCheck (.tmp 50)⟩,
    ⟨some 52, none, .faddr 2 (.tmp 51)⟩,
    ⟨some 53, none, .load true 1 (.tmp 52)⟩,
    ⟨some 54, none, .bin .and (.tmp 53) (.const (.int .i64 1))⟩,
    ⟨some 55, none, .bin .neq (.tmp 54) (.const (.int .i64 0))⟩,
    ⟨some 56, none, .mov (.tmp 55)⟩,
    ⟨some 57, some (56, true), .mov (.tmp 5)⟩,
    ⟨some 58, some (56, true), .faddr 0 (.tmp 11)⟩,
    ⟨some 59, some (56, true), .load false 3 (.tmp 58)⟩,
    ⟨some 60, some (56, true), .callv (.tmp 57) [.tmp 59]⟩,
    ⟨some 61, none, .pick (.tmp 56) (.tmp 60) (.const (.bool false))⟩,
    ⟨some 62, none, .mov (.tmp 61)⟩,
    ⟨some 63, some (62, false), .mov (.tmp 7)⟩,
    ⟨some 64, some (62, false), .nilCheck (.tmp 63)⟩,
    ⟨some 65, some (62, false), .faddr 2 (.tmp 64)⟩,
    ⟨some 66, some (62, false), .load true 1 (.tmp 65)⟩,
    ⟨some 67, some (62, false), .bin .and (.tmp 66) (.const (.int .i64 2))⟩,
    ⟨some 68, some (62, false), .bin .neq (.tmp 67) (.const (.int .i64 0))⟩,
    ⟨some 69, some (62, false), .mov (.tmp 68)⟩,
    ⟨some 70, some (69, true), .mov (.tmp 5)⟩,
    ⟨some 71, some (69, true), .faddr 3 (.tmp 11)⟩,
    ⟨some 72, some (69, true), .load false 3 (.tmp 71)⟩,
    ⟨some 73, some (69, true), .callv (.tmp 70) [.tmp 72]⟩,
    ⟨some 74, some (62, false), .pick (.tmp 69) (.tmp 73) (.const (.bool false))⟩,
    ⟨some 75, none, .pick (.tmp 62) (.const (.bool true)) (.tmp 74)⟩]) (.cond (.tmp 75) (.seq (.reg [
    ⟨some 76, none, .mov (.tmp 2)⟩,
    ⟨some 77, none, .bin .add (.tmp 76) (.const (.int .i64 1))⟩,
    ⟨some 2, none, .mov (.tmp 77)⟩]) (.seq (.reg [
    ⟨some 78, none, .load true 1 (.tmp 1)⟩,
    ⟨some 79, none, .nilCheck (.tmp 78)⟩,
    ⟨some 80, none, .faddr 1 (.tmp 79)⟩,
    ⟨some 81, none, .load true 1 (.tmp 80)⟩,
    ⟨some 82, none, .bin .sub (.tmp 81) (.const (.int .i64 1))⟩,
    ⟨some 83, none, .nilCheck (.tmp 78)⟩,
    ⟨some 84, none, .faddr 1 (.tmp 83)⟩,
    ⟨none, none, .store 1 (.tmp 84) (.tmp 82)⟩]) (.seq (.seq (.reg [
    ⟨some 85, none, .mov (.tmp 6)⟩,
    ⟨some 86, none, .load true 1 (.tmp 1)⟩,
    ⟨some 87, none, .call 160 [.tmp 86]⟩,
    ⟨some 88, none, .bin .eql (.tmp 85) (.tmp 87)⟩,
    ⟨some 89, none, .mov (.tmp 88)⟩,
    ⟨some 90, some (89, true), .mov (.tmp 10)⟩,
    ⟨some 91, some (89, true), .mov (.tmp 9)⟩,
    ⟨some 92, some (89, true), .bin .lss (.tmp 90) (.tmp 91)⟩,
    ⟨some 93, none, .pick (.tmp 89) (.tmp 92) (.const (.bool false))⟩]) (.cond (.tmp 93) (.reg [
    ⟨some 94, none, .load true 1 (.tmp 1)⟩,
    ⟨some 95, none, .nilCheck (.tmp 94)⟩,
    ⟨some 96, none, .faddr 7 (.tmp 95)⟩,
    ⟨some 97, none, .load true 1 (.tmp 96)⟩,
    ⟨some 98, none, .bin .sub (.tmp 97) (.const (.int .i64 1))⟩,
    ⟨some 99, none, .nilCheck (.tmp 94)⟩,
    ⟨some 100, none, .faddr 7 (.tmp 99)⟩,
    ⟨none, none, .store 1 (.tmp 100) (.tmp 98)⟩]) (.skip))) (.exit 3)))) (.skip))) (.reg [
    ⟨some 101, none, .mov (.tmp 8)⟩,
    ⟨some 102, none, .load false 6 (.tmp 11)⟩,
    ⟨some 103, none, .bslice true 1 6 [.int .i64 0, .int .i64 0, .int .i64 0, .int .i64 0, .int .i64 0, .int .i64 0] [(0, 6, .tmp 102)]⟩,
    ⟨some 104, none, .app 6 48 [.int .i64 0, .int .i64 0, .int .i64 0, .int .i64 0, .int .i64 0, .int .i64 0] (.tmp 101) (.tmp 103)⟩,
    ⟨some 8, none, .mov (.tmp 104)⟩])))) (.reg [
    ⟨some 105, none, .bin .add (.tmp 45) (.const (.int .i64 1))⟩,
    ⟨some 45, none, .mov (.tmp 105)⟩]))))))) (.reg [
    ⟨some 106, none, .mov (.tmp 7)⟩,
    ⟨some 107, none, .mov (.tmp 8)⟩,
    ⟨some 108, none, .nilCheck (.tmp 106)⟩,
    ⟨some 109, none, .faddr 7 (.tmp 108)⟩,
    ⟨none, none, .store 1 (.tmp 109) (.tmp 107)⟩])))))))) (.reg [
    ⟨some 110, none, .bin .add (.tmp 22) (.const (.int .i64 1))⟩,
    ⟨some 22, none, .mov (.tmp 110)⟩]))))))) (.seq (.seq (.reg [
    ⟨some 111, none, .load true 1 (.tmp 1)⟩,
    ⟨some 112, none, .nilCheck (.tmp 111)⟩,
    ⟨some 113, none, .faddr 4 (.tmp 112)⟩,
    ⟨some 114, none, .load true 1 (.tmp 113)⟩,
    ⟨some 115, none, .lenS (.tmp 114)⟩,
    ⟨some 116, none, .mov (.const (.int .i64 0))⟩]) (.block 4 (.loop (.seq (.reg [
    ⟨some 117, none, .bin .lss (.tmp 116) (.tmp 115)⟩]) (.seq (.cond (.tmp 117) (.skip) (.exit 4)) (.seq (.block 5 (.seq (.reg [
    ⟨some 118, none, .mov (.tmp 116)⟩,
    ⟨some 12, none, .mov (.tmp 118)⟩]) (.seq (.reg [
    ⟨some 119, none, .load true 1 (.tmp 1)⟩,
    ⟨some 120, none, .nilCheck (.tmp 119)⟩,
    ⟨some 121, none, .faddr 4 (.tmp 120)⟩,
    ⟨some 122, none, .load true 1 (.tmp 121)⟩,
    ⟨some 123, none, .mov (.tmp 12)⟩,
    ⟨some 124, none, .iaddr 8 (.tmp 122) (.tmp 123)⟩,
    ⟨some 13, none, .mov (.tmp 124)⟩]) (.seq (.reg [
    ⟨some 125, none, .mov (.tmp 13)⟩,
    ⟨some 126, none, .nilCheck (.tmp 125)⟩,
    ⟨some 127, none, .faddr 0 (.tmp 126)⟩,
    ⟨some 128, none, .load true 1 (.tmp 127)⟩,
    ⟨some 129, none, .bin .eql (.tmp 128) (.const (.int .i64 1))⟩,
    ⟨some 130, none, .mov (.tmp 129)⟩,
    ⟨some 131, some (130, true), .load true 1 (.tmp 4)⟩,
    ⟨some 132, some (130, true), .mov (.tmp 12)⟩,
    ⟨some 133, some (130, true), .iaddr 1 (.tmp 131) (.tmp 132)⟩,
    ⟨some 134, some (130, true), .load true 1 (.tmp 133)⟩,
    ⟨some 135, some (130, true), .not (.tmp 134)⟩,
    ⟨some 136, none, .pick (.tmp 130) (.tmp 135) (.const (.bool false))⟩,
    ⟨some 137, none, .mov (.tmp 136)⟩,
    ⟨some 138, some (137, true), .mov (.tmp 13)⟩,
    ⟨some 139, some (137, true), .nilCheck (.tmp 138)⟩,
    ⟨some 140, some (137, true), .faddr 3 (.tmp 139)⟩,
    ⟨some 141, some (137, true), .load true 1 (.tmp 140)⟩,
    ⟨some 142, some (137, true), .bin .eql (.tmp 141) (.const (.int .i64 1))⟩,
    ⟨some 143, none, .pick (.tmp 137) (.tmp 142) (.const (.bool false))⟩]) (.cond (.tmp 143) (.seq (.reg [
    ⟨some 144, none, .mov (.tmp 13)⟩,
    ⟨some 145, none, .nilCheck (.tmp 144)⟩,
    ⟨some 146, none, .faddr 3 (.tmp 145)⟩,
    ⟨none, none, .store 1 (.tmp 146) (.const (.int .i64 2))⟩]) (.reg [
    ⟨some 147, none, .mov (.tmp 3)⟩,
    ⟨some 148, none, .bin .add (.tmp 147) (.const (.int .i64 1))⟩,
    ⟨some 3, none, .mov (.tmp 148)⟩])) (.skip)))))) (.reg [
    ⟨some 149, none, .bin .add (.tmp 116) (.const (.int .i64 1))⟩,
    ⟨some 116, none, .mov (.tmp 149)⟩]))))))) (.seq (.reg [
    ⟨some 150, none, .mov (.tmp 2)⟩,
    ⟨some 151, none, .mov (.tmp 3)⟩,
    ⟨some 2, none, .mov (.tmp 150)⟩,
    ⟨some 3, none, .mov (.tmp 151)⟩]) (.ret))))))
theorem t124 : Try.f124.body.bind (trC e124) = some c124 := by kernel_rfl
theorem r124 : Try.f124.results.toList.mapM (trR Try.prog) = some [.tmp 2, .tmp 3] := by kernel_rfl
theorem fn124 {args : List Value} {M : Mem} {post : Value → Mem → Prop} (hl : args.length ≤ 152) (h : VC e124 c124 (fnQ [.tmp 2, .tmp 3] post) (initS args 152) M) : Fn Try.prog 124 args M post :=
  Fn.of' (E := e124) Try.func124 t124 rfl r124 mixed hl h
noncomputable def e159 : Env := ⟨Try.prog, [3], 18, []⟩
noncomputable def c159 : C :=
  .seq (.reg [
    ⟨some 3, none, .box true (.tmp 0)⟩,
    ⟨some 4, none, .mov (.const (.bool false))⟩]) (.seq (.reg [
    ⟨some 6, none, .load true 1 (.tmp 1)⟩,
    ⟨some 7, none, .load false 3 (.tmp 3)⟩,
    ⟨some 8, none, .call 150 [.tmp 6, .tmp 7]⟩,
    ⟨some 5, none, .mov (.tmp 8)⟩]) (.seq (.reg [
    ⟨some 9, none, .mov (.tmp 5)⟩,
    ⟨some 10, none, .bin .geq (.tmp 9) (.const (.int .i64 0))⟩,
    ⟨some 11, none, .mov (.tmp 10)⟩,
    ⟨some 12, some (11, true), .load true 1 (.tmp 2)⟩,
    ⟨some 13, some (11, true), .mov (.tmp 5)⟩,
    ⟨some 14, some (11, true), .iaddr 1 (.tmp 12) (.tmp 13)⟩,
    ⟨some 15, some (11, true), .load true 1 (.tmp 14)⟩,
    ⟨some 16, some (11, true), .not (.tmp 15)⟩,
    ⟨some 17, none, .pick (.tmp 11) (.tmp 16) (.const (.bool false))⟩,
    ⟨some 4, none, .mov (.tmp 17)⟩]) (.ret)))
theorem t159 : Try.f159.body.bind (trC e159) = some c159 := by kernel_rfl
theorem r159 : Try.f159.results.toList.mapM (trR Try.prog) = some [.tmp 4] := by kernel_rfl
theorem fn159 {args : List Value} {M : Mem} {post : Value → Mem → Prop} (hl : args.length ≤ 18) (h : VC e159 c159 (fnQ [.tmp 4] post) (initS args 18) M) : Fn Try.prog 159 args M post :=
  Fn.of' (E := e159) Try.func159 t159 rfl r159 mixed hl h
noncomputable def e56 : Env := ⟨Try.prog, [1, 2], 23, []⟩
noncomputable def c56 : C :=
  .seq (.reg [
    ⟨some 1, none, .box true (.tmp 0)⟩,
    ⟨some 2, none, .alloc true [.int .i64 0, .int .i64 0, .int .i64 0, .slice none 0 0, .slice none 0 0, .int .i64 0, .int .i64 0, .int .i64 0, .slice none 0 0, .int .i64 0, .int .i64 0, .int .i64 0, .int .i64 0, .int .i64 0, .int .i64 0]⟩]) (.seq (.seq (.reg [
    ⟨some 6, none, .load false 13 (.tmp 1)⟩,
    ⟨some 7, none, .call 105 [.tmp 6]⟩,
    ⟨some 8, none, .not (.tmp 7)⟩]) (.cond (.tmp 8) (.seq (.reg [
    ⟨some 9, none, .build [.int .i64 0, .int .i64 0, .int .i64 0, .slice none 0 0, .slice none 0 0, .int .i64 0, .int .i64 0, .int .i64 0, .slice none 0 0, .int .i64 0, .int .i64 0, .int .i64 0, .int .i64 0, .int .i64 0, .int .i64 0] []⟩,
    ⟨none, none, .store 15 (.tmp 2) (.tmp 9)⟩]) (.ret)) (.skip))) (.seq (.reg [
    ⟨some 10, none, .load false 13 (.tmp 1)⟩,
    ⟨some 11, none, .call 119 [.tmp 10]⟩,
    ⟨some 3, none, .mov (.tmp 11)⟩]) (.seq (.reg [
    ⟨some 13, none, .mov (.tmp 3)⟩,
    ⟨some 14, none, .call 124 [.tmp 13]⟩,
    ⟨some 12, none, .mov (.tmp 14)⟩,
    ⟨some 15, none, .ext (.tmp 12) 0⟩,
    ⟨some 16, none, .ext (.tmp 12) 1⟩,
    ⟨some 4, none, .mov (.tmp 15)⟩,
    ⟨some 5, none, .mov (.tmp 16)⟩]) (.seq (.reg [
    ⟨some 17, none, .mov (.tmp 3)⟩,
    ⟨some 18, none, .nilCheck (.tmp 17)⟩,
    ⟨some 19, none, .load false 13 (.tmp 18)⟩,
    ⟨some 20, none, .mov (.tmp 4)⟩,
    ⟨some 21, none, .mov (.tmp 5)⟩,
    ⟨some 22, none, .build [.int .i64 0, .int .i64 0, .int .i64 0, .slice none 0 0, .slice none 0 0, .int .i64 0, .int .i64 0, .int .i64 0, .slice none 0 0, .int .i64 0, .int .i64 0, .int .i64 0, .int .i64 0, .int .i64 0, .int .i64 0] [(0, 13, .tmp 19), (13, 1, .tmp 20), (14, 1, .tmp 21)]⟩,
    ⟨none, none, .store 15 (.tmp 2) (.tmp 22)⟩]) (.ret)))))
theorem t56 : Try.f56.body.bind (trC e56) = some c56 := by kernel_rfl
theorem r56 : Try.f56.results.toList.mapM (trR Try.prog) = some [.cell 2 false 15] := by kernel_rfl
theorem fn56 {args : List Value} {M : Mem} {post : Value → Mem → Prop} (hl : args.length ≤ 23) (h : VC e56 c56 (fnQ [.cell 2 false 15] post) (initS args 23) M) : Fn Try.prog 56 args M post :=
  Fn.of' (E := e56) Try.func56 t56 rfl r56 mixed hl h
end Go.Proofs.Ytcmllambknfleaa.E
set_option linter.unusedVariables false
set_option linter.unusedSimpArgs false
namespace Go.Proofs.Ytcmllambknfleaa.E
open Go
open Classical
def Cell.zero : Cell := ⟨0, 0, 0, 0, 0, 0, 0, []⟩
theorem set_gt {α : Type} {l : List α} {i j : Nat} {a c : α} (h : (l.set i a)[j]? = some c) : (j = i ∧ c = a ∧ i < l.length) ∨ (j ≠ i ∧ l[j]? = some c) := by
  rw [List.getElem?_set] at h
  split at h
  · rename_i e
    subst e
    split at h
    · rename_i hl; cases h; exact .inl ⟨rfl, rfl, hl⟩
    · cases h
  · rename_i e; exact .inr ⟨fun e' => e e'.symm, h⟩
def getL (cs : List Cell) (j : Int) : Cell := cs.getD j.toNat Cell.zero
theorem getC_L (H : Heap) (j : Int) : H.getC j = getL H.cells j := rfl
theorem getL_set {cs : List Cell} {i : Nat} {a : Cell} {j : Int} (hi : i < cs.length) : getL (cs.set i a) j = if j.toNat = i then a else getL cs j := by
  unfold getL
  rw [List.getD_eq_getElem?_getD, List.getD_eq_getElem?_getD, List.getElem?_set]
  by_cases e : i = j.toNat
  · rw [if_pos e, if_pos hi, if_pos e.symm]; rfl
  · rw [if_neg e, if_neg (fun h => e h.symm)]
theorem getL_some {cs : List Cell} {j : Int} (h0 : 0 ≤ j) (h1 : j < cs.length) : cs[j.toNat]? = some (getL cs j) := by
  unfold getL
  rw [List.getD_eq_getElem?_getD, List.getElem?_eq_getElem (by omega)]; rfl
theorem units_set : ∀ {cs : List Cell} {i : Nat} {c d : Cell}, cs[i]? = some c → unitsN (cs.set i d) = unitsN cs - c.units + d.units
  | [], i, c, d, h => by simp at h
  | a :: r, 0, c, d, h => by
    simp only [List.getElem?_cons_zero, Option.some.injEq] at h
    subst h
    simp only [unitsN, List.set_cons_zero, List.map_cons, List.sum_cons]; omega
  | a :: r, i + 1, c, d, h => by
    simp only [List.getElem?_cons_succ] at h
    have := units_set (d := d) h
    simp only [unitsN, List.set_cons_succ, List.map_cons, List.sum_cons] at this ⊢; omega
theorem R2.bare {H : Heap} (h : R2 H) {i : Nat} {c : Cell} (hc : H.cells[i]? = some c) (hu : c.state ≠ 1) : Bare c := by
  rcases h.each i c hc with h | h | h
  · exact h.2.1
  · exact h.2.1
  · exact absurd h.1 hu
theorem R2.state {H : Heap} (h : R2 H) {i : Nat} {c : Cell} (hc : H.cells[i]? = some c) (hp : H.phase < 4) : c.state = 0 ∨ c.state = 1 := by
  rcases h.each i c hc with h | h | h
  · exact .inl h.1
  · have := h.2.2.1; omega
  · exact .inr h.1
theorem orig {l : List Cell} {i j : Nat} {c d e : Cell} (hc : l[i]? = some c) (hd : (l.set i e)[j]? = some d) : ∃ d0, l[j]? = some d0 ∧ (j = i ∧ d0 = c ∧ d = e ∨ j ≠ i ∧ d = d0) := by
  rcases set_gt hd with ⟨rfl, rfl, _⟩ | ⟨h, hd⟩
  · exact ⟨c, hc, .inl ⟨rfl, rfl, rfl⟩⟩
  · exact ⟨d, hd, .inr ⟨h, rfl⟩⟩
theorem leads_of {H H' : Heap} {w : Word} {m m' : Prop} (hs : ∀ j, (H'.getC j).state = (H.getC j).state) (hd : ∀ j, Doomed H' j → Doomed H j) (hm : m → m') (h : LeadsWell H w m) : LeadsWell H' w m' := fun hk => by
  rw [hs]
  rcases h hk with ⟨a, b⟩ | ⟨a, b⟩
  · exact .inl ⟨a, fun h => b (hd _ h)⟩
  · exact .inr ⟨a, hm b⟩
theorem formed_len {H H' : Heap} {w : Word} (hl : H'.cells.length = H.cells.length) (h : Formed H w) : Formed H' w := by unfold Formed at *; rw [hl]; exact h
/-- words lead as before -/
theorem r4_frame {H H' : Heap} (h : R4 H) (hl : H'.cells.length = H.cells.length) (hr : H'.regs = H.regs) (hs : ∀ j, (H'.getC j).state = (H.getC j).state) (hd : ∀ j, Doomed H' j ↔ Doomed H j)
    (ho : ∀ (j : Nat) d, H'.cells[j]? = some d → ∃ d0, H.cells[j]? = some d0 ∧ d.pairs = d0.pairs ∧ (Root d → Root d0))
    (hm : ∀ (j k : Nat) d p, H.cells[j]? = some d → d.pairs[k]? = some p → Mended H' j k → Mended H j k) : R4 H' := by
  refine ⟨fun w hw => ?_, fun i c hc hdm hrt => ?_, fun i c hc k p hp => ?_⟩
  · obtain ⟨a, b⟩ := h.regs w (by rw [← hr]; exact hw)
    exact ⟨formed_len hl a, leads_of hs (fun j => (hd j).1) id b⟩
  · obtain ⟨d0, h0, _, h2⟩ := ho i c hc
    exact h.roots i d0 h0 ((hd i).1 hdm) (h2 hrt)
  · obtain ⟨d0, h0, h1, _⟩ := ho i c hc
    rw [h1] at hp
    obtain ⟨a, b, g⟩ := h.pairs i d0 h0 k p hp
    refine ⟨formed_len hl a, formed_len hl b, fun hn => ?_⟩
    obtain ⟨g1, g2⟩ := g (fun h' => hn ((hd i).2 h'))
    have hmm : ¬ Mended H i k → ¬ Mended H' i k := fun a b => a (hm i k d0 p h0 hp b)
    exact ⟨leads_of hs (fun j => (hd j).1) hmm g1, leads_of hs (fun j => (hd j).1) hmm g2⟩
theorem r6_0 {H : Heap} (hp : H.phase = 0 ∨ H.phase = 4) : R6 H ↔ H.hand = 0 ∧ H.sub = 0 := by unfold R6; rw [if_pos hp]
theorem r6_2 {H : Heap} (hp : H.phase = 2) : R6 H ↔ H.hand = 0 ∧ (match H.gray with | [] => H.sub = 0 | g :: _ => H.sub ≤ (H.getC g).pairs.length) := by unfold R6; rw [if_neg (by omega), if_pos hp]; exact Iff.rfl
theorem r6_5 {H : Heap} (hp : H.phase = 5) : R6 H ↔ (if H.hand < H.cells.length ∧ (H.getC H.hand).state = 1 then H.sub ≤ (H.getC H.hand).pairs.length else H.sub = 0) := by unfold R6; rw [if_neg (by omega), if_neg (by omega), if_pos hp]
theorem r6_e {H : Heap} (hp : H.phase ≠ 0 ∧ H.phase ≠ 4 ∧ H.phase ≠ 2 ∧ H.phase ≠ 5) : R6 H ↔ H.sub = 0 := by unfold R6; rw [if_neg (by omega), if_neg (by omega), if_neg (by omega)]
theorem R7.nil {H : Heap} (hp : ¬ Marking H) : R7 H := fun h => absurd h hp
theorem R8.nil {H : Heap} (hp : H.phase ≠ 6) : R8 H := fun h => absurd h hp
/-- what shading leaves as it was -/
structure Sh (H K : Heap) : Prop where
  sound : Sound H → Sound K
  room : K.room = H.room
  used : K.used = H.used
  born : K.born = H.born
  regs : K.regs = H.regs
  phase : K.phase = H.phase
  hand : K.hand = H.hand
  sub : K.sub = H.sub
  per : K.per = H.per
  start : K.start = H.start
  rounds : K.rounds = H.rounds
  forced : K.forced = H.forced
  len : K.cells.length = H.cells.length
  cell : ∀ j : Int, (K.getC j).state = (H.getC j).state ∧ (K.getC j).pairs = (H.getC j).pairs ∧ (K.getC j).last = (H.getC j).last ∧ ((H.getC j).color ≠ 0 → (K.getC j).color = (H.getC j).color)
  gray : H.gray <+: K.gray
theorem Sh.refl (H : Heap) : Sh H H := ⟨id, rfl, rfl, rfl, rfl, rfl, rfl, rfl, rfl, rfl, rfl, rfl, rfl, fun _ => ⟨rfl, rfl, rfl, fun _ => rfl⟩, List.prefix_refl _⟩
theorem Sh.trans {H K L : Heap} (h : Sh H K) (k : Sh K L) : Sh H L :=
  ⟨fun s => k.sound (h.sound s), k.room.trans h.room, k.used.trans h.used, k.born.trans h.born, k.regs.trans h.regs, k.phase.trans h.phase, k.hand.trans h.hand, k.sub.trans h.sub, k.per.trans h.per, k.start.trans h.start, k.rounds.trans h.rounds, k.forced.trans h.forced, k.len.trans h.len,
   fun j => ⟨(k.cell j).1.trans (h.cell j).1, (k.cell j).2.1.trans (h.cell j).2.1, (k.cell j).2.2.1.trans (h.cell j).2.2.1, fun hc => by
     have := (h.cell j).2.2.2 hc
     rw [(k.cell j).2.2.2 (by rw [this]; exact hc), this]⟩, h.gray.trans k.gray⟩
end Go.Proofs.Ytcmllambknfleaa.E
set_option linter.unusedVariables false
set_option linter.unusedSimpArgs false
namespace Go.Proofs.Ytcmllambknfleaa.E
open Go
open Classical
noncomputable def luG (H : Heap) : Nat → Int
  | 0 => -1
  | k + 1 => if (H.getC k).state = 1 then (k : Int) else luG H k
end Go.Proofs.Ytcmllambknfleaa.E
set_option linter.unusedVariables false
set_option linter.unusedSimpArgs false
namespace Go.Proofs.Ytcmllambknfleaa.E
open Go
open Classical
noncomputable def wgt (c : Cell) : Int := if c.color = 0 then 408 else if c.color = 1 then 204 else 0
noncomputable def wN (cs : List Cell) : Int := (cs.map wgt).sum
noncomputable def Heap.M (H : Heap) : Int :=
  if H.phase = 1 then 8000001 + H.cells.length - H.hand
  else if H.phase = 2 then 4000201 + wN H.cells - H.sub
  else if H.phase = 3 then 3000001 + H.cells.length - H.hand
  else if H.phase = 4 then 2000002 + luG H H.cells.length
  else if H.phase = 5 then 10201 + (H.cells.length - H.hand) * 202 - H.sub
  else if H.phase = 6 then H.hand + 1 else 0
end Go.Proofs.Ytcmllambknfleaa.E
set_option maxRecDepth 100000
set_option linter.unusedVariables false
namespace Go.Proofs.Ytcmllambknfleaa.E
open Go
noncomputable def e117 : Env := ⟨Try.prog, [1, 5, 7, 8, 10, 25, 49, 56, 71], 75, []⟩
noncomputable def c117 : C :=
  .seq (.reg [
    ⟨some 1, none, .box true (.tmp 0)⟩,
    ⟨some 2, none, .mov (.const (.pointer none))⟩]) (.seq (.reg [
    ⟨some 13, none, .load false 13 (.tmp 1)⟩,
    ⟨some 3, none, .alloc false [.int .i64 0, .int .i64 0, .int .i64 0, .slice none 0 0, .slice none 0 0, .int .i64 0, .int .i64 0, .int .i64 0, .slice none 0 0, .int .i64 0, .int .i64 0, .int .i64 0, .int .i64 0]⟩,
    ⟨none, none, .store 13 (.tmp 3) (.tmp 13)⟩]) (.seq (.reg [
    ⟨some 14, none, .faddr 3 (.tmp 3)⟩,
    ⟨none, none, .store 1 (.tmp 14) (.const (.slice none 0 0))⟩]) (.seq (.seq (.reg [
    ⟨some 15, none, .faddr 3 (.tmp 1)⟩,
    ⟨some 16, none, .load true 1 (.tmp 15)⟩,
    ⟨some 17, none, .lenS (.tmp 16)⟩,
    ⟨some 18, none, .mov (.const (.int .i64 0))⟩]) (.block 0 (.loop (.seq (.reg [
    ⟨some 19, none, .bin .lss (.tmp 18) (.tmp 17)⟩]) (.seq (.cond (.tmp 19) (.skip) (.exit 0)) (.seq (.block 1 (.seq (.reg [
    ⟨some 20, none, .iaddr 3 (.tmp 16) (.tmp 18)⟩,
    ⟨some 21, none, .load false 3 (.tmp 20)⟩,
    ⟨some 5, none, .alloc true [.int .i64 0, .int .i64 0, .int .i64 0]⟩,
    ⟨none, none, .store 3 (.tmp 5) (.tmp 21)⟩]) (.reg [
    ⟨some 22, none, .faddr 3 (.tmp 3)⟩,
    ⟨some 23, none, .load true 1 (.tmp 22)⟩,
    ⟨some 24, none, .load false 3 (.tmp 5)⟩,
    ⟨some 25, none, .bslice true 1 3 [.int .i64 0, .int .i64 0, .int .i64 0] [(0, 3, .tmp 24)]⟩,
    ⟨some 26, none, .app 3 24 [.int .i64 0, .int .i64 0, .int .i64 0] (.tmp 23) (.tmp 25)⟩,
    ⟨some 27, none, .faddr 3 (.tmp 3)⟩,
    ⟨none, none, .store 1 (.tmp 27) (.tmp 26)⟩]))) (.reg [
    ⟨some 28, none, .bin .add (.tmp 18) (.const (.int .i64 1))⟩,
    ⟨some 18, none, .mov (.tmp 28)⟩]))))))) (.seq (.reg [
    ⟨some 29, none, .faddr 4 (.tmp 3)⟩,
    ⟨none, none, .store 1 (.tmp 29) (.const (.slice none 0 0))⟩]) (.seq (.seq (.reg [
    ⟨some 30, none, .faddr 4 (.tmp 1)⟩,
    ⟨some 31, none, .load true 1 (.tmp 30)⟩,
    ⟨some 32, none, .lenS (.tmp 31)⟩,
    ⟨some 33, none, .mov (.const (.int .i64 0))⟩]) (.block 2 (.loop (.seq (.reg [
    ⟨some 34, none, .bin .lss (.tmp 33) (.tmp 32)⟩]) (.seq (.cond (.tmp 34) (.skip) (.exit 2)) (.seq (.block 3 (.seq (.reg [
    ⟨some 35, none, .iaddr 8 (.tmp 31) (.tmp 33)⟩,
    ⟨some 36, none, .load false 8 (.tmp 35)⟩,
    ⟨some 7, none, .alloc true [.int .i64 0, .int .i64 0, .int .i64 0, .int .i64 0, .int .i64 0, .int .i64 0, .int .i64 0, .slice none 0 0]⟩,
    ⟨none, none, .store 8 (.tmp 7) (.tmp 36)⟩]) (.seq (.reg [
    ⟨some 37, none, .load false 8 (.tmp 7)⟩,
    ⟨some 8, none, .alloc true [.int .i64 0, .int .i64 0, .int .i64 0, .int .i64 0, .int .i64 0, .int .i64 0, .int .i64 0, .slice none 0 0]⟩,
    ⟨none, none, .store 8 (.tmp 8) (.tmp 37)⟩]) (.seq (.reg [
    ⟨some 38, none, .faddr 7 (.tmp 8)⟩,
    ⟨none, none, .store 1 (.tmp 38) (.const (.slice none 0 0))⟩]) (.seq (.seq (.reg [
    ⟨some 39, none, .faddr 7 (.tmp 7)⟩,
    ⟨some 40, none, .load true 1 (.tmp 39)⟩,
    ⟨some 41, none, .lenS (.tmp 40)⟩,
    ⟨some 42, none, .mov (.const (.int .i64 0))⟩]) (.block 4 (.loop (.seq (.reg [
    ⟨some 43, none, .bin .lss (.tmp 42) (.tmp 41)⟩]) (.seq (.cond (.tmp 43) (.skip) (.exit 4)) (.seq (.block 5 (.seq (.reg [
    ⟨some 44, none, .iaddr 6 (.tmp 40) (.tmp 42)⟩,
    ⟨some 45, none, .load false 6 (.tmp 44)⟩,
    ⟨some 10, none, .alloc true [.int .i64 0, .int .i64 0, .int .i64 0, .int .i64 0, .int .i64 0, .int .i64 0]⟩,
    ⟨none, none, .store 6 (.tmp 10) (.tmp 45)⟩]) (.reg [
    ⟨some 46, none, .faddr 7 (.tmp 8)⟩,
    ⟨some 47, none, .load true 1 (.tmp 46)⟩,
    ⟨some 48, none, .load false 6 (.tmp 10)⟩,
    ⟨some 49, none, .bslice true 1 6 [.int .i64 0, .int .i64 0, .int .i64 0, .int .i64 0, .int .i64 0, .int .i64 0] [(0, 6, .tmp 48)]⟩,
    ⟨some 50, none, .app 6 48 [.int .i64 0, .int .i64 0, .int .i64 0, .int .i64 0, .int .i64 0, .int .i64 0] (.tmp 47) (.tmp 49)⟩,
    ⟨some 51, none, .faddr 7 (.tmp 8)⟩,
    ⟨none, none, .store 1 (.tmp 51) (.tmp 50)⟩]))) (.reg [
    ⟨some 52, none, .bin .add (.tmp 42) (.const (.int .i64 1))⟩,
    ⟨some 42, none, .mov (.tmp 52)⟩]))))))) (.reg [
    ⟨some 53, none, .faddr 4 (.tmp 3)⟩,
    ⟨some 54, none, .load true 1 (.tmp 53)⟩,
    ⟨some 55, none, .load false 8 (.tmp 8)⟩,
    ⟨some 56, none, .bslice true 1 8 [.int .i64 0, .int .i64 0, .int .i64 0, .int .i64 0, .int .i64 0, .int .i64 0, .int .i64 0, .slice none 0 0] [(0, 8, .tmp 55)]⟩,
    ⟨some 57, none, .app 8 80 [.int .i64 0, .int .i64 0, .int .i64 0, .int .i64 0, .int .i64 0, .int .i64 0, .int .i64 0, .slice none 0 0] (.tmp 54) (.tmp 56)⟩,
    ⟨some 58, none, .faddr 4 (.tmp 3)⟩,
    ⟨none, none, .store 1 (.tmp 58) (.tmp 57)⟩])))))) (.reg [
    ⟨some 59, none, .bin .add (.tmp 33) (.const (.int .i64 1))⟩,
    ⟨some 33, none, .mov (.tmp 59)⟩]))))))) (.seq (.reg [
    ⟨some 60, none, .faddr 8 (.tmp 3)⟩,
    ⟨none, none, .store 1 (.tmp 60) (.const (.slice none 0 0))⟩]) (.seq (.seq (.reg [
    ⟨some 61, none, .faddr 8 (.tmp 1)⟩,
    ⟨some 62, none, .load true 1 (.tmp 61)⟩,
    ⟨some 63, none, .lenS (.tmp 62)⟩,
    ⟨some 64, none, .mov (.const (.int .i64 0))⟩]) (.block 6 (.loop (.seq (.reg [
    ⟨some 65, none, .bin .lss (.tmp 64) (.tmp 63)⟩]) (.seq (.cond (.tmp 65) (.skip) (.exit 6)) (.seq (.block 7 (.seq (.reg [
    ⟨some 66, none, .iaddr 1 (.tmp 62) (.tmp 64)⟩,
    ⟨some 67, none, .load true 1 (.tmp 66)⟩,
    ⟨some 12, none, .mov (.tmp 67)⟩]) (.reg [
    ⟨some 68, none, .faddr 8 (.tmp 3)⟩,
    ⟨some 69, none, .load true 1 (.tmp 68)⟩,
    ⟨some 70, none, .mov (.tmp 12)⟩,
    ⟨some 71, none, .bslice true 1 1 [.int .i64 0] [(0, 1, .tmp 70)]⟩,
    ⟨some 72, none, .app 1 8 [.int .i64 0] (.tmp 69) (.tmp 71)⟩,
    ⟨some 73, none, .faddr 8 (.tmp 3)⟩,
    ⟨none, none, .store 1 (.tmp 73) (.tmp 72)⟩]))) (.reg [
    ⟨some 74, none, .bin .add (.tmp 64) (.const (.int .i64 1))⟩,
    ⟨some 64, none, .mov (.tmp 74)⟩]))))))) (.seq (.reg [
    ⟨some 2, none, .mov (.tmp 3)⟩]) (.ret)))))))))
theorem t117 : Try.f117.body.bind (trC e117) = some c117 := by kernel_rfl
theorem r117 : Try.f117.results.toList.mapM (trR Try.prog) = some [.tmp 2] := by kernel_rfl
theorem fn117 {args : List Value} {M : Mem} {post : Value → Mem → Prop} (hl : args.length ≤ 75) (h : VC e117 c117 (fnQ [.tmp 2] post) (initS args 75) M) : Fn Try.prog 117 args M post :=
  Fn.of' (E := e117) Try.func117 t117 rfl r117 mixed hl h
noncomputable def e158 : Env := ⟨Try.prog, [8, 28], 65, []⟩
noncomputable def c158 : C :=
  .seq (.reg [
    ⟨some 6, none, .mov (.const (.slice none 0 0))⟩]) (.seq (.seq (.reg [
    ⟨some 9, none, .mov (.tmp 0)⟩,
    ⟨some 10, none, .nilCheck (.tmp 9)⟩,
    ⟨some 11, none, .faddr 4 (.tmp 10)⟩,
    ⟨some 12, none, .load true 1 (.tmp 11)⟩,
    ⟨some 13, none, .mov (.tmp 1)⟩,
    ⟨some 14, none, .iaddr 8 (.tmp 12) (.tmp 13)⟩,
    ⟨some 15, none, .faddr 7 (.tmp 14)⟩,
    ⟨some 16, none, .load true 1 (.tmp 15)⟩,
    ⟨some 17, none, .lenS (.tmp 16)⟩,
    ⟨some 18, none, .mov (.const (.int .i64 0))⟩]) (.block 0 (.loop (.seq (.reg [
    ⟨some 19, none, .bin .lss (.tmp 18) (.tmp 17)⟩]) (.seq (.cond (.tmp 19) (.skip) (.exit 0)) (.seq (.block 1 (.seq (.reg [
    ⟨some 20, none, .mov (.tmp 18)⟩,
    ⟨some 21, none, .iaddr 6 (.tmp 16) (.tmp 18)⟩,
    ⟨some 22, none, .load false 6 (.tmp 21)⟩,
    ⟨some 8, none, .alloc true [.int .i64 0, .int .i64 0, .int .i64 0, .int .i64 0, .int .i64 0, .int .i64 0]⟩,
    ⟨some 7, none, .mov (.tmp 20)⟩,
    ⟨none, none, .store 6 (.tmp 8) (.tmp 22)⟩]) (.seq (.reg [
    ⟨some 23, none, .mov (.tmp 7)⟩,
    ⟨some 24, none, .mov (.tmp 2)⟩,
    ⟨some 25, none, .bin .neq (.tmp 23) (.tmp 24)⟩]) (.cond (.tmp 25) (.reg [
    ⟨some 26, none, .mov (.tmp 6)⟩,
    ⟨some 27, none, .load false 6 (.tmp 8)⟩,
    ⟨some 28, none, .bslice true 1 6 [.int .i64 0, .int .i64 0, .int .i64 0, .int .i64 0, .int .i64 0, .int .i64 0] [(0, 6, .tmp 27)]⟩,
    ⟨some 29, none, .app 6 48 [.int .i64 0, .int .i64 0, .int .i64 0, .int .i64 0, .int .i64 0, .int .i64 0] (.tmp 26) (.tmp 28)⟩,
    ⟨some 6, none, .mov (.tmp 29)⟩]) (.skip))))) (.reg [
    ⟨some 30, none, .bin .add (.tmp 18) (.const (.int .i64 1))⟩,
    ⟨some 18, none, .mov (.tmp 30)⟩]))))))) (.seq (.reg [
    ⟨some 31, none, .mov (.tmp 0)⟩,
    ⟨some 32, none, .nilCheck (.tmp 31)⟩,
    ⟨some 33, none, .faddr 4 (.tmp 32)⟩,
    ⟨some 34, none, .load true 1 (.tmp 33)⟩,
    ⟨some 35, none, .mov (.tmp 1)⟩,
    ⟨some 36, none, .mov (.tmp 6)⟩,
    ⟨some 37, none, .iaddr 8 (.tmp 34) (.tmp 35)⟩,
    ⟨some 38, none, .faddr 7 (.tmp 37)⟩,
    ⟨none, none, .store 1 (.tmp 38) (.tmp 36)⟩]) (.seq (.reg [
    ⟨some 39, none, .mov (.tmp 0)⟩,
    ⟨some 40, none, .nilCheck (.tmp 39)⟩,
    ⟨some 41, none, .faddr 1 (.tmp 40)⟩,
    ⟨some 42, none, .load true 1 (.tmp 41)⟩,
    ⟨some 43, none, .bin .sub (.tmp 42) (.const (.int .i64 1))⟩,
    ⟨some 44, none, .nilCheck (.tmp 39)⟩,
    ⟨some 45, none, .faddr 1 (.tmp 44)⟩,
    ⟨none, none, .store 1 (.tmp 45) (.tmp 43)⟩]) (.seq (.reg [
    ⟨some 46, none, .mov (.tmp 2)⟩,
    ⟨some 47, none, .mov (.tmp 0)⟩,
    ⟨some 48, none, .nilCheck (.tmp 47)⟩,
    ⟨some 49, none, .faddr 7 (.tmp 48)⟩,
    ⟨some 50, none, .load true 1 (.tmp 49)⟩,
    ⟨some 51, none, .bin .lss (.tmp 46) (.tmp 50)⟩,
    ⟨some 52, none, .mov (.tmp 51)⟩,
    ⟨some 53, some (52, true), .mov (.tmp 0)⟩,
    ⟨some 54, some (52, true), .call 174 [.tmp 53]⟩,
    ⟨some 55, some (52, true), .mov (.tmp 1)⟩,
    ⟨some 56, some (52, true), .bin .eql (.tmp 54) (.tmp 55)⟩,
    ⟨some 57, none, .pick (.tmp 52) (.tmp 56) (.const (.bool false))⟩]) (.cond (.tmp 57) (.reg [
    ⟨some 58, none, .mov (.tmp 0)⟩,
    ⟨some 59, none, .nilCheck (.tmp 58)⟩,
    ⟨some 60, none, .faddr 7 (.tmp 59)⟩,
    ⟨some 61, none, .load true 1 (.tmp 60)⟩,
    ⟨some 62, none, .bin .sub (.tmp 61) (.const (.int .i64 1))⟩,
    ⟨some 63, none, .nilCheck (.tmp 58)⟩,
    ⟨some 64, none, .faddr 7 (.tmp 63)⟩,
    ⟨none, none, .store 1 (.tmp 64) (.tmp 62)⟩]) (.skip))))))
theorem t158 : Try.f158.body.bind (trC e158) = some c158 := by kernel_rfl
theorem r158 : Try.f158.results.toList.mapM (trR Try.prog) = some [] := by kernel_rfl
theorem fn158 {args : List Value} {M : Mem} {post : Value → Mem → Prop} (hl : args.length ≤ 65) (h : VC e158 c158 (fnQ [] post) (initS args 65) M) : Fn Try.prog 158 args M post :=
  Fn.of' (E := e158) Try.func158 t158 rfl r158 mixed hl h
noncomputable def e174 : Env := ⟨Try.prog, [], 43, [(3, 17)]⟩
noncomputable def c174 : C :=
  .seq (.reg [
    ⟨some 2, none, .mov (.const (.int .i64 0))⟩]) (.seq (.seq (.reg [
    ⟨some 3, none, .mov (.tmp 0)⟩,
    ⟨some 4, none, .nilCheck (.tmp 3)⟩,
    ⟨some 5, none, .faddr 5 (.tmp 4)⟩,
    ⟨some 6, none, .load true 1 (.tmp 5)⟩,
    ⟨some 7, none, .bin .eql (.tmp 6) (.const (.int .i64 2))⟩,
    ⟨some 8, none, .mov (.tmp 7)⟩,
    ⟨some 9, some (8, true), .mov (.tmp 0)⟩,
    ⟨some 10, some (8, true), .nilCheck (.tmp 9)⟩,
    ⟨some 11, some (8, true), .faddr 8 (.tmp 10)⟩,
    ⟨some 12, some (8, true), .load true 1 (.tmp 11)⟩,
    ⟨some 13, some (8, true), .lenS (.tmp 12)⟩,
    ⟨some 14, some (8, true), .bin .gtr (.tmp 13) (.const (.int .i64 0))⟩,
    ⟨some 15, none, .pick (.tmp 8) (.tmp 14) (.const (.bool false))⟩]) (.cond (.tmp 15) (.seq (.reg [
    ⟨some 16, none, .mov (.tmp 0)⟩,
    ⟨some 17, none, .nilCheck (.tmp 16)⟩,
    ⟨some 18, none, .faddr 8 (.tmp 17)⟩,
    ⟨some 19, none, .load true 1 (.tmp 18)⟩,
    ⟨some 20, none, .iaddr 1 (.tmp 19) (.const (.int .i64 0))⟩,
    ⟨some 21, none, .load true 1 (.tmp 20)⟩,
    ⟨some 2, none, .mov (.tmp 21)⟩]) (.ret)) (.skip))) (.seq (.seq (.dreg 17 [
    ⟨some 22, none, .mov (.tmp 0)⟩,
    ⟨some 23, none, .nilCheck (.tmp 22)⟩,
    ⟨some 24, none, .faddr 5 (.tmp 23)⟩,
    ⟨some 25, none, .load true 1 (.tmp 24)⟩,
    ⟨some 26, none, .bin .eql (.tmp 25) (.const (.int .i64 5))⟩,
    ⟨some 27, none, .mov (.tmp 26)⟩,
    ⟨some 28, some (27, true), .mov (.tmp 0)⟩,
    ⟨some 29, some (27, true), .nilCheck (.tmp 28)⟩,
    ⟨some 30, some (27, true), .faddr 6 (.tmp 29)⟩,
    ⟨some 31, some (27, true), .load true 1 (.tmp 30)⟩,
    ⟨some 32, some (27, true), .mov (.tmp 0)⟩,
    ⟨some 33, some (27, true), .nilCheck (.tmp 32)⟩,
    ⟨some 34, some (27, true), .faddr 4 (.tmp 33)⟩,
    ⟨some 35, some (27, true), .load true 1 (.tmp 34)⟩,
    ⟨some 36, some (27, true), .lenS (.tmp 35)⟩,
    ⟨some 37, some (27, true), .bin .lss (.tmp 31) (.tmp 36)⟩,
    ⟨some 38, none, .pick (.tmp 27) (.tmp 37) (.const (.bool false))⟩]) (.cond (.tmp 38) (.seq (.reg [
    ⟨some 39, none, .mov (.tmp 0)⟩,
    ⟨some 40, none, .nilCheck (.tmp 39)⟩,
    ⟨some 41, none, .faddr 6 (.tmp 40)⟩,
    ⟨some 42, none, .load true 1 (.tmp 41)⟩,
    ⟨some 2, none, .mov (.tmp 42)⟩]) (.ret)) (.skip))) (.seq (.reg [
    ⟨some 2, none, .mov (.const (.int .i64 (-1)))⟩]) (.ret))))
theorem t174 : Try.f174.body.bind (trC e174) = some c174 := by kernel_rfl
theorem r174 : Try.f174.results.toList.mapM (trR Try.prog) = some [.tmp 2] := by kernel_rfl
theorem fn174 {args : List Value} {M : Mem} {post : Value → Mem → Prop} (hl : args.length ≤ 43) (h : VC e174 c174 (fnQ [.tmp 2] post) (initS args 43) M) : Fn Try.prog 174 args M post :=
  Fn.of' (E := e174) Try.func174 t174 rfl r174 mixed hl h
noncomputable def e157 : Env := ⟨Try.prog, [5, 7], 22, []⟩
noncomputable def c157 : C :=
  .seq (.reg [
    ⟨some 5, none, .box true (.tmp 2)⟩,
    ⟨some 6, none, .mov (.const (.bool false))⟩]) (.seq (.reg [
    ⟨some 8, none, .mov (.tmp 0)⟩,
    ⟨some 9, none, .load false 3 (.tmp 5)⟩,
    ⟨some 10, none, .call 104 [.tmp 8, .tmp 9]⟩,
    ⟨some 7, none, .alloc true [.int .i64 0, .int .i64 0, .int .i64 0]⟩,
    ⟨none, none, .store 3 (.tmp 7) (.tmp 10)⟩]) (.seq (.reg [
    ⟨some 11, none, .faddr 0 (.tmp 7)⟩,
    ⟨some 12, none, .load true 1 (.tmp 11)⟩,
    ⟨some 13, none, .bin .eql (.tmp 12) (.const (.int .i64 2))⟩,
    ⟨some 14, none, .mov (.tmp 13)⟩,
    ⟨some 15, some (14, true), .mov (.tmp 1)⟩,
    ⟨some 16, some (14, true), .faddr 2 (.tmp 7)⟩,
    ⟨some 17, some (14, true), .load true 1 (.tmp 16)⟩,
    ⟨some 18, some (14, true), .iaddr 1 (.tmp 15) (.tmp 17)⟩,
    ⟨some 19, some (14, true), .load true 1 (.tmp 18)⟩,
    ⟨some 20, some (14, true), .not (.tmp 19)⟩,
    ⟨some 21, none, .pick (.tmp 14) (.tmp 20) (.const (.bool false))⟩,
    ⟨some 6, none, .mov (.tmp 21)⟩]) (.ret)))
theorem t157 : Try.f157.body.bind (trC e157) = some c157 := by kernel_rfl
theorem r157 : Try.f157.results.toList.mapM (trR Try.prog) = some [.tmp 6] := by kernel_rfl
theorem fn157 {args : List Value} {M : Mem} {post : Value → Mem → Prop} (hl : args.length ≤ 22) (h : VC e157 c157 (fnQ [.tmp 6] post) (initS args 22) M) : Fn Try.prog 157 args M post :=
  Fn.of' (E := e157) Try.func157 t157 rfl r157 mixed hl h
noncomputable def e123 : Env := ⟨Try.prog, [8], 125, []⟩
noncomputable def c123 : C :=
  .seq (.reg [
    ⟨some 2, none, .mov (.const (.int .i64 0))⟩,
    ⟨some 3, none, .mov (.const (.int .i64 0))⟩]) (.seq (.reg [
    ⟨some 12, none, .mov (.tmp 0)⟩,
    ⟨some 13, none, .call 114 [.tmp 12]⟩,
    ⟨some 4, none, .mov (.tmp 13)⟩]) (.seq (.reg [
    ⟨some 5, none, .mov (.const (.int .i64 0))⟩]) (.seq (.seq (.reg [
    ⟨some 14, none, .mov (.tmp 0)⟩,
    ⟨some 15, none, .nilCheck (.tmp 14)⟩,
    ⟨some 16, none, .faddr 4 (.tmp 15)⟩,
    ⟨some 17, none, .load true 1 (.tmp 16)⟩,
    ⟨some 18, none, .lenS (.tmp 17)⟩,
    ⟨some 19, none, .mov (.const (.int .i64 0))⟩]) (.block 0 (.loop (.seq (.reg [
    ⟨some 20, none, .bin .lss (.tmp 19) (.tmp 18)⟩]) (.seq (.cond (.tmp 20) (.skip) (.exit 0)) (.seq (.block 1 (.seq (.reg [
    ⟨some 21, none, .mov (.tmp 19)⟩,
    ⟨some 6, none, .mov (.tmp 21)⟩]) (.seq (.seq (.reg [
    ⟨some 22, none, .mov (.tmp 4)⟩,
    ⟨some 23, none, .mov (.tmp 6)⟩,
    ⟨some 24, none, .iaddr 1 (.tmp 22) (.tmp 23)⟩,
    ⟨some 25, none, .load true 1 (.tmp 24)⟩,
    ⟨some 26, none, .not (.tmp 25)⟩]) (.cond (.tmp 26) (.exit 1) (.skip))) (.seq (.reg [
    ⟨some 27, none, .mov (.tmp 0)⟩,
    ⟨some 28, none, .nilCheck (.tmp 27)⟩,
    ⟨some 29, none, .faddr 4 (.tmp 28)⟩,
    ⟨some 30, none, .load true 1 (.tmp 29)⟩,
    ⟨some 31, none, .mov (.tmp 6)⟩,
    ⟨some 32, none, .iaddr 8 (.tmp 30) (.tmp 31)⟩,
    ⟨some 33, none, .faddr 7 (.tmp 32)⟩,
    ⟨some 34, none, .load true 1 (.tmp 33)⟩,
    ⟨some 35, none, .lenS (.tmp 34)⟩,
    ⟨some 36, none, .bin .sub (.tmp 35) (.const (.int .i64 1))⟩,
    ⟨some 7, none, .mov (.tmp 36)⟩]) (.block 2 (.loop (.seq (.seq (.reg [
    ⟨some 37, none, .mov (.tmp 7)⟩,
    ⟨some 38, none, .bin .geq (.tmp 37) (.const (.int .i64 0))⟩]) (.cond (.tmp 38) (.skip) (.exit 2))) (.seq (.block 3 (.seq (.reg [
    ⟨some 41, none, .mov (.tmp 0)⟩,
    ⟨some 42, none, .nilCheck (.tmp 41)⟩,
    ⟨some 43, none, .faddr 4 (.tmp 42)⟩,
    ⟨some 44, none, .load true 1 (.tmp 43)⟩,
    ⟨some 45, none, .mov (.tmp 6)⟩,
    ⟨some 46, none, .iaddr 8 (.tmp 44) (.tmp 45)⟩,
    ⟨some 47, none, .faddr 7 (.tmp 46)⟩,
    ⟨some 48, none, .load true 1 (.tmp 47)⟩,
    ⟨some 49, none, .mov (.tmp 7)⟩,
    ⟨some 50, none, .iaddr 6 (.tmp 48) (.tmp 49)⟩,
    ⟨some 51, none, .load false 6 (.tmp 50)⟩,
    ⟨some 8, none, .alloc true [.int .i64 0, .int .i64 0, .int .i64 0, .int .i64 0, .int .i64 0, .int .i64 0]⟩,
    ⟨none, none, .store 6 (.tmp 8) (.tmp 51)⟩]) (.seq (.reg [
    ⟨some 52, none, .mov (.tmp 0)⟩,
    ⟨some 53, none, .nilCheck (.tmp 52)⟩,
    ⟨some 54, none, .faddr 4 (.tmp 53)⟩,
    ⟨some 55, none, .load true 1 (.tmp 54)⟩,
    ⟨some 56, none, .mov (.tmp 6)⟩,
    ⟨some 57, none, .iaddr 8 (.tmp 55) (.tmp 56)⟩,
    ⟨some 58, none, .faddr 2 (.tmp 57)⟩,
    ⟨some 59, none, .load true 1 (.tmp 58)⟩,
    ⟨some 9, none, .mov (.tmp 59)⟩]) (.seq (.reg [
    ⟨some 60, none, .mov (.tmp 9)⟩,
    ⟨some 61, none, .bin .and (.tmp 60) (.const (.int .i64 1))⟩,
    ⟨some 62, none, .bin .gtr (.tmp 61) (.const (.int .i64 0))⟩,
    ⟨some 63, none, .mov (.tmp 62)⟩,
    ⟨some 64, some (63, true), .mov (.tmp 0)⟩,
    ⟨some 65, some (63, true), .mov (.tmp 4)⟩,
    ⟨some 66, some (63, true), .faddr 0 (.tmp 8)⟩,
    ⟨some 67, some (63, true), .load false 3 (.tmp 66)⟩,
    ⟨some 68, some (63, true), .call 157 [.tmp 64, .tmp 65, .tmp 67]⟩,
    ⟨some 69, none, .pick (.tmp 63) (.tmp 68) (.const (.bool false))⟩,
    ⟨some 70, none, .mov (.tmp 69)⟩,
    ⟨some 71, some (70, false), .mov (.tmp 9)⟩,
    ⟨some 72, some (70, false), .bin .and (.tmp 71) (.const (.int .i64 2))⟩,
    ⟨some 73, some (70, false), .bin .gtr (.tmp 72) (.const (.int .i64 0))⟩,
    ⟨some 74, some (70, false), .mov (.tmp 73)⟩,
    ⟨some 75, some (74, true), .mov (.tmp 0)⟩,
    ⟨some 76, some (74, true), .mov (.tmp 4)⟩,
    ⟨some 77, some (74, true), .faddr 3 (.tmp 8)⟩,
    ⟨some 78, some (74, true), .load false 3 (.tmp 77)⟩,
    ⟨some 79, some (74, true), .call 157 [.tmp 75, .tmp 76, .tmp 78]⟩,
    ⟨some 80, some (70, false), .pick (.tmp 74) (.tmp 79) (.const (.bool false))⟩,
    ⟨some 81, none, .pick (.tmp 70) (.const (.bool true)) (.tmp 80)⟩]) (.cond (.tmp 81) (.seq (.reg [
    ⟨some 82, none, .mov (.tmp 0)⟩,
    ⟨some 83, none, .mov (.tmp 6)⟩,
    ⟨some 84, none, .mov (.tmp 7)⟩,
    ⟨some 85, none, .call 158 [.tmp 82, .tmp 83, .tmp 84]⟩]) (.reg [
    ⟨some 86, none, .mov (.tmp 5)⟩,
    ⟨some 87, none, .bin .add (.tmp 86) (.const (.int .i64 1))⟩,
    ⟨some 5, none, .mov (.tmp 87)⟩])) (.skip)))))) (.reg [
    ⟨some 39, none, .mov (.tmp 7)⟩,
    ⟨some 40, none, .bin .sub (.tmp 39) (.const (.int .i64 1))⟩,
    ⟨some 7, none, .mov (.tmp 40)⟩]))))))))) (.reg [
    ⟨some 88, none, .bin .add (.tmp 19) (.const (.int .i64 1))⟩,
    ⟨some 19, none, .mov (.tmp 88)⟩]))))))) (.seq (.reg [
    ⟨some 10, none, .mov (.const (.int .i64 0))⟩]) (.seq (.seq (.reg [
    ⟨some 89, none, .mov (.tmp 0)⟩,
    ⟨some 90, none, .nilCheck (.tmp 89)⟩,
    ⟨some 91, none, .faddr 4 (.tmp 90)⟩,
    ⟨some 92, none, .load true 1 (.tmp 91)⟩,
    ⟨some 93, none, .lenS (.tmp 92)⟩,
    ⟨some 94, none, .mov (.const (.int .i64 0))⟩]) (.block 4 (.loop (.seq (.reg [
    ⟨some 95, none, .bin .lss (.tmp 94) (.tmp 93)⟩]) (.seq (.cond (.tmp 95) (.skip) (.exit 4)) (.seq (.block 5 (.seq (.reg [
    ⟨some 96, none, .mov (.tmp 94)⟩,
    ⟨some 11, none, .mov (.tmp 96)⟩]) (.seq (.reg [
    ⟨some 97, none, .mov (.tmp 0)⟩,
    ⟨some 98, none, .nilCheck (.tmp 97)⟩,
    ⟨some 99, none, .faddr 4 (.tmp 98)⟩,
    ⟨some 100, none, .load true 1 (.tmp 99)⟩,
    ⟨some 101, none, .mov (.tmp 11)⟩,
    ⟨some 102, none, .iaddr 8 (.tmp 100) (.tmp 101)⟩,
    ⟨some 103, none, .faddr 3 (.tmp 102)⟩,
    ⟨some 104, none, .load true 1 (.tmp 103)⟩,
    ⟨some 105, none, .bin .eql (.tmp 104) (.const (.int .i64 1))⟩,
    ⟨some 106, none, .mov (.tmp 105)⟩,
    ⟨some 107, some (106, true), .mov (.tmp 4)⟩,
    ⟨some 108, some (106, true), .mov (.tmp 11)⟩,
    ⟨some 109, some (106, true), .iaddr 1 (.tmp 107) (.tmp 108)⟩,
    ⟨some 110, some (106, true), .load true 1 (.tmp 109)⟩,
    ⟨some 111, some (106, true), .not (.tmp 110)⟩,
    ⟨some 112, none, .pick (.tmp 106) (.tmp 111) (.const (.bool false))⟩]) (.cond (.tmp 112) (.seq (.reg [
    ⟨some 113, none, .mov (.tmp 0)⟩,
    ⟨some 114, none, .nilCheck (.tmp 113)⟩,
    ⟨some 115, none, .faddr 4 (.tmp 114)⟩,
    ⟨some 116, none, .load true 1 (.tmp 115)⟩,
    ⟨some 117, none, .mov (.tmp 11)⟩,
    ⟨some 118, none, .iaddr 8 (.tmp 116) (.tmp 117)⟩,
    ⟨some 119, none, .faddr 3 (.tmp 118)⟩,
    ⟨none, none, .store 1 (.tmp 119) (.const (.int .i64 2))⟩]) (.reg [
    ⟨some 120, none, .mov (.tmp 10)⟩,
    ⟨some 121, none, .bin .add (.tmp 120) (.const (.int .i64 1))⟩,
    ⟨some 10, none, .mov (.tmp 121)⟩])) (.skip))))) (.reg [
    ⟨some 122, none, .bin .add (.tmp 94) (.const (.int .i64 1))⟩,
    ⟨some 94, none, .mov (.tmp 122)⟩]))))))) (.seq (.reg [
    ⟨some 123, none, .mov (.tmp 5)⟩,
    ⟨some 124, none, .mov (.tmp 10)⟩,
    ⟨some 2, none, .mov (.tmp 123)⟩,
    ⟨some 3, none, .mov (.tmp 124)⟩]) (.ret)))))))
theorem t123 : Try.f123.body.bind (trC e123) = some c123 := by kernel_rfl
theorem r123 : Try.f123.results.toList.mapM (trR Try.prog) = some [.tmp 2, .tmp 3] := by kernel_rfl
theorem fn123 {args : List Value} {M : Mem} {post : Value → Mem → Prop} (hl : args.length ≤ 125) (h : VC e123 c123 (fnQ [.tmp 2, .tmp 3] post) (initS args 125) M) : Fn Try.prog 123 args M post :=
  Fn.of' (E := e123) Try.func123 t123 rfl r123 mixed hl h
noncomputable def e55 : Env := ⟨Try.prog, [1, 2], 23, []⟩
noncomputable def c55 : C :=
  .seq (.reg [
    ⟨some 1, none, .box true (.tmp 0)⟩,
    ⟨some 2, none, .alloc true [.int .i64 0, .int .i64 0, .int .i64 0, .slice none 0 0, .slice none 0 0, .int .i64 0, .int .i64 0, .int .i64 0, .slice none 0 0, .int .i64 0, .int .i64 0, .int .i64 0, .int .i64 0, .int .i64 0, .int .i64 0]⟩]) (.seq (.seq (.reg [
    ⟨some 6, none, .load false 13 (.tmp 1)⟩,
    ⟨some 7, none, .call 31 [.tmp 6]⟩,
    ⟨some 8, none, .bin .neq (.tmp 7) (.const (.int .i64 0))⟩]) (.cond (.tmp 8) (.seq (.reg [
    ⟨some 9, none, .build [.int .i64 0, .int .i64 0, .int .i64 0, .slice none 0 0, .slice none 0 0, .int .i64 0, .int .i64 0, .int .i64 0, .slice none 0 0, .int .i64 0, .int .i64 0, .int .i64 0, .int .i64 0, .int .i64 0, .int .i64 0] []⟩,
    ⟨none, none, .store 15 (.tmp 2) (.tmp 9)⟩]) (.ret)) (.skip))) (.seq (.reg [
    ⟨some 10, none, .load false 13 (.tmp 1)⟩,
    ⟨some 11, none, .call 117 [.tmp 10]⟩,
    ⟨some 3, none, .mov (.tmp 11)⟩]) (.seq (.reg [
    ⟨some 13, none, .mov (.tmp 3)⟩,
    ⟨some 14, none, .call 123 [.tmp 13]⟩,
    ⟨some 12, none, .mov (.tmp 14)⟩,
    ⟨some 15, none, .ext (.tmp 12) 0⟩,
    ⟨some 16, none, .ext (.tmp 12) 1⟩,
    ⟨some 4, none, .mov (.tmp 15)⟩,
    ⟨some 5, none, .mov (.tmp 16)⟩]) (.seq (.reg [
    ⟨some 17, none, .mov (.tmp 3)⟩,
    ⟨some 18, none, .nilCheck (.tmp 17)⟩,
    ⟨some 19, none, .load false 13 (.tmp 18)⟩,
    ⟨some 20, none, .mov (.tmp 4)⟩,
    ⟨some 21, none, .mov (.tmp 5)⟩,
    ⟨some 22, none, .build [.int .i64 0, .int .i64 0, .int .i64 0, .slice none 0 0, .slice none 0 0, .int .i64 0, .int .i64 0, .int .i64 0, .slice none 0 0, .int .i64 0, .int .i64 0, .int .i64 0, .int .i64 0, .int .i64 0, .int .i64 0] [(0, 13, .tmp 19), (13, 1, .tmp 20), (14, 1, .tmp 21)]⟩,
    ⟨none, none, .store 15 (.tmp 2) (.tmp 22)⟩]) (.ret)))))
theorem t55 : Try.f55.body.bind (trC e55) = some c55 := by kernel_rfl
theorem r55 : Try.f55.results.toList.mapM (trR Try.prog) = some [.cell 2 false 15] := by kernel_rfl
theorem fn55 {args : List Value} {M : Mem} {post : Value → Mem → Prop} (hl : args.length ≤ 23) (h : VC e55 c55 (fnQ [.cell 2 false 15] post) (initS args 23) M) : Fn Try.prog 55 args M post :=
  Fn.of' (E := e55) Try.func55 t55 rfl r55 mixed hl h
end Go.Proofs.Ytcmllambknfleaa.E
