/- The laws' marks of cells and heaps. Conditions: none. -/
import Derived.Test.YtpcakglnklpjoaaLawD
set_option linter.unusedVariables false
set_option linter.unusedSimpArgs false
set_option maxRecDepth 100000
namespace Go.Proofs.Ytpcakglnklpjoaa.E
open Go
open Classical
theorem Sl.congr {M : Mem} {α : Type} {f : α → List Value} {size : Nat} {v : Value} {xs ys : List α} (h : Sl M size f v xs) (e : xs.map f = ys.map f) : Sl M size f v ys := by
  have hl : xs.length = ys.length := by have := congrArg List.length e; simpa using this
  have hf : xs.flatMap f = ys.flatMap f := by rw [List.flatMap_def, List.flatMap_def, e]
  rcases h with ⟨c, h1, h2, rfl⟩ | ⟨b, o, cap, row, h1, hM, hc, h2, hr, he⟩
  · exact .inl ⟨c, h1, h2, by cases ys with | nil => rfl | cons y r => simp at hl⟩
  · rw [hl] at h1 hc h2 he
    exact .inr ⟨b, o, cap, row, h1, hM, hc, h2, hr, by rw [he, hf]⟩
def gC (k : Int) (c : Cell) : Cell := ⟨k, k + 1, k + 1 + 1, k + 1 + 1 + 1, k + 1 + 1 + 1 + 1, k + 1 + 1 + 1 + 1 + 1, k + 1 + 1 + 1 + 1 + 1 + 1, mkG gP wP (k + 1 + 1 + 1 + 1 + 1 + 1 + 1) c.pairs⟩
def wC (c : Cell) : Int := 7 + 6 * c.pairs.length
def gCS (k : Int) (y : CS) : CS := ⟨gC k y.c, y.sa, y.cap⟩
def wCS (y : CS) : Int := wC y.c
/-- scalars of a cell that are marked, the pairs as they are -/
def hCS (k : Int) (y : CS) : CS := ⟨⟨k, k + 1, k + 1 + 1, k + 1 + 1 + 1, k + 1 + 1 + 1 + 1, k + 1 + 1 + 1 + 1 + 1, k + 1 + 1 + 1 + 1 + 1 + 1, y.c.pairs⟩, y.sa, y.cap⟩
theorem csv_hCS (k : Int) (y : CS) : csv (hCS k y) = csv (gCS k y) := by
  simp only [csv, cv, hCS, gCS, gC, mkG_len]
theorem gCS_s (k : Int) (y : CS) : (gCS k y).s = y.s := by simp only [CS.s, gCS, gC, mkG_len]
theorem wCS_nn (y : CS) : 0 ≤ wCS y := by unfold wCS wC; omega
theorem wP_T (xs : List Pair) (k : Int) : mkT wP k xs = k + 6 * xs.length := mkT_const (w := wP) (c := 6) (fun _ => rfl) xs k
theorem mkG_gCS_c : ∀ (xs : List CS) (k : Int), (mkG gCS wCS k xs).map (·.c) = mkG gC wC k (xs.map (·.c))
  | [], _ => rfl
  | x :: r, k => by simp only [mkG, List.map_cons]; rw [mkG_gCS_c r]; rfl
theorem mkT_wCS : ∀ (xs : List CS) (k : Int), mkT wCS k xs = mkT wC k (xs.map (·.c))
  | [], _ => rfl
  | x :: r, k => by simp only [mkT, List.map_cons]; rw [mkT_wCS r]; rfl
theorem mkG_own : ∀ (xs : List CS) (k : Int), ((mkG gCS wCS k xs).flatMap fun y => own y.s) = xs.flatMap fun y => own y.s
  | [], _ => rfl
  | x :: r, k => by simp only [mkG, List.flatMap_cons, gCS_s]; rw [mkG_own r]
theorem flat_apart {α β : Type} {f : α → List β} : ∀ {xs : List α} {i j : Nat} {x y : α}, (xs.flatMap f).Nodup → xs[i]? = some x → xs[j]? = some y → i ≠ j → ∀ b, b ∈ f x → b ∉ f y
  | [], i, _, x, _, _, h, _, _, _, _, _ => by simp at h
  | z :: r, i, j, x, y, hn, hi, hj, hij, b, hb, hc => by
    rw [List.flatMap_cons, List.nodup_append] at hn
    obtain ⟨_, hr, hd⟩ := hn
    cases i with
    | zero =>
      cases j with
      | zero => exact hij rfl
      | succ j =>
        simp only [List.getElem?_cons_zero, Option.some.injEq] at hi
        simp only [List.getElem?_cons_succ] at hj
        subst hi
        exact hd b hb b (List.mem_flatMap.2 ⟨y, List.mem_of_getElem? hj, hc⟩) rfl
    | succ i =>
      simp only [List.getElem?_cons_succ] at hi
      cases j with
      | zero =>
        simp only [List.getElem?_cons_zero, Option.some.injEq] at hj
        subst hj
        exact hd b hc b (List.mem_flatMap.2 ⟨x, List.mem_of_getElem? hi, hb⟩) rfl
      | succ j =>
        simp only [List.getElem?_cons_succ] at hj
        exact flat_apart hr hi hj (by omega) b hb hc
theorem mid_own {xs : List CS} {i : Nat} {k : Int} : ((mkG gCS wCS k (xs.take i) ++ xs.drop i).flatMap fun y => own y.s) = xs.flatMap fun y => own y.s := by
  rw [List.flatMap_append, mkG_own, ← List.flatMap_append, List.take_append_drop]
theorem markCellS_f {M : Mem} {va : Value} {xs : List CS} {k : Int} (h0 : 0 ≤ k) (hb : mkT wCS k xs ≤ 4611686018427387904) (ha : CL M va xs) (hnd : (fpC va xs).Nodup) :
    Fn Try.prog 76 [va, .int .i64 k] M (fun v M' => v = .int .i64 (mkT wCS k xs) ∧ OffL M (fpC va xs) M' ∧ CL M' va (mkG gCS wCS k xs)) := by
  obtain ⟨aa, ca, ea⟩ := ha.sl.len
  have hbd := ha.sl.bound
  refine fn76 (by simp) ?_
  subst ea
  repeat' (first
    | (refine vl_add rfl rfl (by omega) ?_)
    | (refine vl_sub rfl rfl (by omega) ?_)
    | (refine vl_pure rfl ?_)
    | (refine vl_gy rfl rfl ?_)
    | (refine vl_gn rfl rfl ?_)
    | (refine vl_gu rfl ?_)
    | (refine vl_nil ?_)
    | (refine VC.seq ?_)
    | (refine VC.regV ?_)
    | (refine vl_idx rfl rfl (by omega) ?_)
    | (refine vl_alloc ?_)
    | (refine vl_stw rfl rfl rfl rfl rfl (Nat.le_of_ble_eq_true rfl) ?_)
    | (refine sk_zero ?_)
    | (refine sk_succ ?_)
    | (refine wk_nil ?_)
    | (refine wk_cons ?_)
    | (refine vl_box rfl rfl ?_)
    | (refine vl_bsl rfl ?_)
    | (refine VC.dregV ?_)
    | (refine VC.block ?_)
    | (refine VC.ret ?_)
    | (refine VC.exit ?_)
    | (refine VC.skip ?_)
    | (refine seqQ_n ?_)
    | (refine seqQ_r ?_)
    | (refine seqQ_e ?_)
    | (refine blkQ_n ?_)
    | (refine blkQ_r ?_)
    | (refine blkQ_e ?_)
    | (refine blkQ_o rfl ?_)
    | (refine vl_gs rfl (fun hb => ?_) (fun hb => ?_))
    | (refine vl_ps rfl (fun hb => ?_) (fun hb => ?_)))
  refine VC.loop (α := Nat × Int) (fun p => [(0, .v (.slice aa xs.length ca)), (1, .v (.int .i64 p.2)), (5, .v (.int .i64 p.1))]) (fun n p M' => n = xs.length - p.1 ∧ p.1 ≤ xs.length ∧ p.2 = mkT wCS k (xs.take p.1) ∧ OffL M (fpC (.slice aa xs.length ca) xs) M' ∧ CL M' (.slice aa xs.length ca) (mkG gCS wCS k (xs.take p.1) ++ xs.drop p.1))
    ⟨_, (0, k), M, ⟨rfl, rfl, rfl, trivial⟩, Mem.le_refl _, rfl, Nat.zero_le _, rfl, OffL.refl _ _, ha⟩ ?_
  rintro n ⟨i, kk⟩ M2 ⟨rfl, hi, hkk, hoff, hcl⟩
  dsimp only at hi hkk hoff hcl ⊢
  repeat' (first
    | (refine vl_add rfl rfl (by omega) ?_)
    | (refine vl_sub rfl rfl (by omega) ?_)
    | (refine vl_pure rfl ?_)
    | (refine vl_gy rfl rfl ?_)
    | (refine vl_gn rfl rfl ?_)
    | (refine vl_gu rfl ?_)
    | (refine vl_nil ?_)
    | (refine VC.seq ?_)
    | (refine VC.regV ?_)
    | (refine vl_idx rfl rfl (by omega) ?_)
    | (refine vl_alloc ?_)
    | (refine vl_stw rfl rfl rfl rfl rfl (Nat.le_of_ble_eq_true rfl) ?_)
    | (refine sk_zero ?_)
    | (refine sk_succ ?_)
    | (refine wk_nil ?_)
    | (refine wk_cons ?_)
    | (refine vl_box rfl rfl ?_)
    | (refine vl_bsl rfl ?_)
    | (refine VC.dregV ?_)
    | (refine VC.block ?_)
    | (refine VC.ret ?_)
    | (refine VC.exit ?_)
    | (refine VC.skip ?_)
    | (refine seqQ_n ?_)
    | (refine seqQ_r ?_)
    | (refine seqQ_e ?_)
    | (refine blkQ_n ?_)
    | (refine blkQ_r ?_)
    | (refine blkQ_e ?_)
    | (refine blkQ_o rfl ?_)
    | (refine vl_gs rfl (fun hb => ?_) (fun hb => ?_))
    | (refine vl_ps rfl (fun hb => ?_) (fun hb => ?_)))
  refine VC.cond _ rfl (fun h => ?_) (fun h => ?_)
  · have hi : i < xs.length := by simpa using h
    obtain ⟨x, gx⟩ : ∃ x, xs[i]? = some x := ⟨_, List.getElem?_eq_getElem hi⟩
    obtain ⟨hsl, hps⟩ := hcl
    obtain ⟨b, o, rfl, c1⟩ := hsl.at2 (fun _ => rfl) (mid_get gx k)
    have hk1 := mkT_take (w := wCS) gx k
    have hk2 := mkT_le (w := wCS) wCS_nn xs k (i + 1)
    have hk3 := mkT_ge (w := wCS) wCS_nn (xs.take i) k
    have hwx : wCS x = 7 + 6 * x.c.pairs.length := rfl
    repeat' (first
      | (refine vl_add rfl rfl (by omega) ?_)
      | (refine vl_sub rfl rfl (by omega) ?_)
      | (refine vl_pure rfl ?_)
      | (refine vl_gy rfl rfl ?_)
      | (refine vl_gn rfl rfl ?_)
      | (refine vl_gu rfl ?_)
      | (refine vl_nil ?_)
      | (refine VC.seq ?_)
      | (refine VC.regV ?_)
      | (refine vl_idx rfl rfl (by omega) ?_)
      | (refine vl_alloc ?_)
      | (refine vl_stw rfl rfl rfl rfl rfl (Nat.le_of_ble_eq_true rfl) ?_)
      | (refine sk_zero ?_)
      | (refine sk_succ ?_)
      | (refine wk_nil ?_)
      | (refine wk_cons ?_)
      | (refine vl_box rfl rfl ?_)
      | (refine vl_bsl rfl ?_)
      | (refine VC.dregV ?_)
      | (refine VC.block ?_)
      | (refine VC.ret ?_)
      | (refine VC.exit ?_)
      | (refine VC.skip ?_)
      | (refine seqQ_n ?_)
      | (refine seqQ_r ?_)
      | (refine seqQ_e ?_)
      | (refine blkQ_n ?_)
      | (refine blkQ_r ?_)
      | (refine blkQ_e ?_)
      | (refine blkQ_o rfl ?_)
      | (refine vl_gs rfl (fun hb => ?_) (fun hb => ?_))
      | (refine vl_ps rfl (fun hb => ?_) (fun hb => ?_)))
    refine vl_sts ⟨⟨kk, x.c.kind, x.c.weak, x.c.last, x.c.born, x.c.color, x.c.to, x.c.pairs⟩, x.sa, x.cap⟩ hsl (fun _ => rfl) (mid_get gx k) (i := i) (j := 0) rfl rfl rfl rfl (Nat.le_of_ble_eq_true rfl) rfl (fun M3 o3 s3 => ?_)
    repeat' (first
      | (refine vl_add rfl rfl (by omega) ?_)
      | (refine vl_sub rfl rfl (by omega) ?_)
      | (refine vl_pure rfl ?_)
      | (refine vl_gy rfl rfl ?_)
      | (refine vl_gn rfl rfl ?_)
      | (refine vl_gu rfl ?_)
      | (refine vl_nil ?_)
      | (refine VC.seq ?_)
      | (refine VC.regV ?_)
      | (refine vl_idx rfl rfl (by omega) ?_)
      | (refine vl_alloc ?_)
      | (refine vl_stw rfl rfl rfl rfl rfl (Nat.le_of_ble_eq_true rfl) ?_)
      | (refine sk_zero ?_)
      | (refine sk_succ ?_)
      | (refine wk_nil ?_)
      | (refine wk_cons ?_)
      | (refine vl_box rfl rfl ?_)
      | (refine vl_bsl rfl ?_)
      | (refine VC.dregV ?_)
      | (refine VC.block ?_)
      | (refine VC.ret ?_)
      | (refine VC.exit ?_)
      | (refine VC.skip ?_)
      | (refine seqQ_n ?_)
      | (refine seqQ_r ?_)
      | (refine seqQ_e ?_)
      | (refine blkQ_n ?_)
      | (refine blkQ_r ?_)
      | (refine blkQ_e ?_)
      | (refine blkQ_o rfl ?_)
      | (refine vl_gs rfl (fun hb => ?_) (fun hb => ?_))
      | (refine vl_ps rfl (fun hb => ?_) (fun hb => ?_)))
    refine vl_sts ⟨⟨kk, kk + 1, x.c.weak, x.c.last, x.c.born, x.c.color, x.c.to, x.c.pairs⟩, x.sa, x.cap⟩ s3 (fun _ => rfl) (set_get (mid_get gx k)) (i := i) (j := 1) rfl rfl rfl rfl (Nat.le_of_ble_eq_true rfl) rfl (fun M4 o4 s4 => ?_)
    rw [List.set_set] at s4
    repeat' (first
      | (refine vl_add rfl rfl (by omega) ?_)
      | (refine vl_sub rfl rfl (by omega) ?_)
      | (refine vl_pure rfl ?_)
      | (refine vl_gy rfl rfl ?_)
      | (refine vl_gn rfl rfl ?_)
      | (refine vl_gu rfl ?_)
      | (refine vl_nil ?_)
      | (refine VC.seq ?_)
      | (refine VC.regV ?_)
      | (refine vl_idx rfl rfl (by omega) ?_)
      | (refine vl_alloc ?_)
      | (refine vl_stw rfl rfl rfl rfl rfl (Nat.le_of_ble_eq_true rfl) ?_)
      | (refine sk_zero ?_)
      | (refine sk_succ ?_)
      | (refine wk_nil ?_)
      | (refine wk_cons ?_)
      | (refine vl_box rfl rfl ?_)
      | (refine vl_bsl rfl ?_)
      | (refine VC.dregV ?_)
      | (refine VC.block ?_)
      | (refine VC.ret ?_)
      | (refine VC.exit ?_)
      | (refine VC.skip ?_)
      | (refine seqQ_n ?_)
      | (refine seqQ_r ?_)
      | (refine seqQ_e ?_)
      | (refine blkQ_n ?_)
      | (refine blkQ_r ?_)
      | (refine blkQ_e ?_)
      | (refine blkQ_o rfl ?_)
      | (refine vl_gs rfl (fun hb => ?_) (fun hb => ?_))
      | (refine vl_ps rfl (fun hb => ?_) (fun hb => ?_)))
    refine vl_sts ⟨⟨kk, kk + 1, kk + 1 + 1, x.c.last, x.c.born, x.c.color, x.c.to, x.c.pairs⟩, x.sa, x.cap⟩ s4 (fun _ => rfl) (set_get (mid_get gx k)) (i := i) (j := 2) rfl rfl rfl rfl (Nat.le_of_ble_eq_true rfl) rfl (fun M5 o5 s5 => ?_)
    rw [List.set_set] at s5
    repeat' (first
      | (refine vl_add rfl rfl (by omega) ?_)
      | (refine vl_sub rfl rfl (by omega) ?_)
      | (refine vl_pure rfl ?_)
      | (refine vl_gy rfl rfl ?_)
      | (refine vl_gn rfl rfl ?_)
      | (refine vl_gu rfl ?_)
      | (refine vl_nil ?_)
      | (refine VC.seq ?_)
      | (refine VC.regV ?_)
      | (refine vl_idx rfl rfl (by omega) ?_)
      | (refine vl_alloc ?_)
      | (refine vl_stw rfl rfl rfl rfl rfl (Nat.le_of_ble_eq_true rfl) ?_)
      | (refine sk_zero ?_)
      | (refine sk_succ ?_)
      | (refine wk_nil ?_)
      | (refine wk_cons ?_)
      | (refine vl_box rfl rfl ?_)
      | (refine vl_bsl rfl ?_)
      | (refine VC.dregV ?_)
      | (refine VC.block ?_)
      | (refine VC.ret ?_)
      | (refine VC.exit ?_)
      | (refine VC.skip ?_)
      | (refine seqQ_n ?_)
      | (refine seqQ_r ?_)
      | (refine seqQ_e ?_)
      | (refine blkQ_n ?_)
      | (refine blkQ_r ?_)
      | (refine blkQ_e ?_)
      | (refine blkQ_o rfl ?_)
      | (refine vl_gs rfl (fun hb => ?_) (fun hb => ?_))
      | (refine vl_ps rfl (fun hb => ?_) (fun hb => ?_)))
    refine vl_sts ⟨⟨kk, kk + 1, kk + 1 + 1, kk + 1 + 1 + 1, x.c.born, x.c.color, x.c.to, x.c.pairs⟩, x.sa, x.cap⟩ s5 (fun _ => rfl) (set_get (mid_get gx k)) (i := i) (j := 3) rfl rfl rfl rfl (Nat.le_of_ble_eq_true rfl) rfl (fun M6 o6 s6 => ?_)
    rw [List.set_set] at s6
    repeat' (first
      | (refine vl_add rfl rfl (by omega) ?_)
      | (refine vl_sub rfl rfl (by omega) ?_)
      | (refine vl_pure rfl ?_)
      | (refine vl_gy rfl rfl ?_)
      | (refine vl_gn rfl rfl ?_)
      | (refine vl_gu rfl ?_)
      | (refine vl_nil ?_)
      | (refine VC.seq ?_)
      | (refine VC.regV ?_)
      | (refine vl_idx rfl rfl (by omega) ?_)
      | (refine vl_alloc ?_)
      | (refine vl_stw rfl rfl rfl rfl rfl (Nat.le_of_ble_eq_true rfl) ?_)
      | (refine sk_zero ?_)
      | (refine sk_succ ?_)
      | (refine wk_nil ?_)
      | (refine wk_cons ?_)
      | (refine vl_box rfl rfl ?_)
      | (refine vl_bsl rfl ?_)
      | (refine VC.dregV ?_)
      | (refine VC.block ?_)
      | (refine VC.ret ?_)
      | (refine VC.exit ?_)
      | (refine VC.skip ?_)
      | (refine seqQ_n ?_)
      | (refine seqQ_r ?_)
      | (refine seqQ_e ?_)
      | (refine blkQ_n ?_)
      | (refine blkQ_r ?_)
      | (refine blkQ_e ?_)
      | (refine blkQ_o rfl ?_)
      | (refine vl_gs rfl (fun hb => ?_) (fun hb => ?_))
      | (refine vl_ps rfl (fun hb => ?_) (fun hb => ?_)))
    refine vl_sts ⟨⟨kk, kk + 1, kk + 1 + 1, kk + 1 + 1 + 1, kk + 1 + 1 + 1 + 1, x.c.color, x.c.to, x.c.pairs⟩, x.sa, x.cap⟩ s6 (fun _ => rfl) (set_get (mid_get gx k)) (i := i) (j := 4) rfl rfl rfl rfl (Nat.le_of_ble_eq_true rfl) rfl (fun M7 o7 s7 => ?_)
    rw [List.set_set] at s7
    repeat' (first
      | (refine vl_add rfl rfl (by omega) ?_)
      | (refine vl_sub rfl rfl (by omega) ?_)
      | (refine vl_pure rfl ?_)
      | (refine vl_gy rfl rfl ?_)
      | (refine vl_gn rfl rfl ?_)
      | (refine vl_gu rfl ?_)
      | (refine vl_nil ?_)
      | (refine VC.seq ?_)
      | (refine VC.regV ?_)
      | (refine vl_idx rfl rfl (by omega) ?_)
      | (refine vl_alloc ?_)
      | (refine vl_stw rfl rfl rfl rfl rfl (Nat.le_of_ble_eq_true rfl) ?_)
      | (refine sk_zero ?_)
      | (refine sk_succ ?_)
      | (refine wk_nil ?_)
      | (refine wk_cons ?_)
      | (refine vl_box rfl rfl ?_)
      | (refine vl_bsl rfl ?_)
      | (refine VC.dregV ?_)
      | (refine VC.block ?_)
      | (refine VC.ret ?_)
      | (refine VC.exit ?_)
      | (refine VC.skip ?_)
      | (refine seqQ_n ?_)
      | (refine seqQ_r ?_)
      | (refine seqQ_e ?_)
      | (refine blkQ_n ?_)
      | (refine blkQ_r ?_)
      | (refine blkQ_e ?_)
      | (refine blkQ_o rfl ?_)
      | (refine vl_gs rfl (fun hb => ?_) (fun hb => ?_))
      | (refine vl_ps rfl (fun hb => ?_) (fun hb => ?_)))
    refine vl_sts ⟨⟨kk, kk + 1, kk + 1 + 1, kk + 1 + 1 + 1, kk + 1 + 1 + 1 + 1, kk + 1 + 1 + 1 + 1 + 1, x.c.to, x.c.pairs⟩, x.sa, x.cap⟩ s7 (fun _ => rfl) (set_get (mid_get gx k)) (i := i) (j := 5) rfl rfl rfl rfl (Nat.le_of_ble_eq_true rfl) rfl (fun M8 o8 s8 => ?_)
    rw [List.set_set] at s8
    repeat' (first
      | (refine vl_add rfl rfl (by omega) ?_)
      | (refine vl_sub rfl rfl (by omega) ?_)
      | (refine vl_pure rfl ?_)
      | (refine vl_gy rfl rfl ?_)
      | (refine vl_gn rfl rfl ?_)
      | (refine vl_gu rfl ?_)
      | (refine vl_nil ?_)
      | (refine VC.seq ?_)
      | (refine VC.regV ?_)
      | (refine vl_idx rfl rfl (by omega) ?_)
      | (refine vl_alloc ?_)
      | (refine vl_stw rfl rfl rfl rfl rfl (Nat.le_of_ble_eq_true rfl) ?_)
      | (refine sk_zero ?_)
      | (refine sk_succ ?_)
      | (refine wk_nil ?_)
      | (refine wk_cons ?_)
      | (refine vl_box rfl rfl ?_)
      | (refine vl_bsl rfl ?_)
      | (refine VC.dregV ?_)
      | (refine VC.block ?_)
      | (refine VC.ret ?_)
      | (refine VC.exit ?_)
      | (refine VC.skip ?_)
      | (refine seqQ_n ?_)
      | (refine seqQ_r ?_)
      | (refine seqQ_e ?_)
      | (refine blkQ_n ?_)
      | (refine blkQ_r ?_)
      | (refine blkQ_e ?_)
      | (refine blkQ_o rfl ?_)
      | (refine vl_gs rfl (fun hb => ?_) (fun hb => ?_))
      | (refine vl_ps rfl (fun hb => ?_) (fun hb => ?_)))
    refine vl_sts (hCS kk x) s8 (fun _ => rfl) (set_get (mid_get gx k)) (i := i) (j := 6) rfl rfl rfl rfl (Nat.le_of_ble_eq_true rfl) rfl (fun M9 o9 s9 => ?_)
    rw [List.set_set] at s9
    have oo : Off M2 b M9 := (((((o3.trans o4).trans o5).trans o6).trans o7).trans o8).trans o9
    obtain ⟨b', o', e', c2⟩ := s9.at2 (fun _ => rfl) (set_get (mid_get gx k))
    cases e'
    have hnc := (List.nodup_append.1 hnd)
    have hbo : own (.slice (some ⟨b, o, none⟩) xs.length ca) = [b] := rfl
    have hbn : ∀ (j : Nat) (y : CS), (mkG gCS wCS k (xs.take i) ++ xs.drop i)[j]? = some y → b ∉ own y.s := fun j y hj hm =>
      hnc.2.2 b (by rw [hbo]; simp) b (by rw [← mid_own (xs := xs) (i := i) (k := k)]; exact List.mem_flatMap.2 ⟨y, List.mem_of_getElem? hj, hm⟩) rfl
    have hpx : Sl M9 6 pv x.s x.c.pairs := (hps x (List.mem_of_getElem? (mid_get gx k))).off oo (hbn i x (mid_get gx k))
    have hT := wP_T x.c.pairs (kk + 1 + 1 + 1 + 1 + 1 + 1 + 1)
    have fp : cell M9 b (o + i * 8 + 7) = some x.s := cells_cell c2 (j := 7) rfl
    repeat' (first
      | (refine vl_add rfl rfl (by omega) ?_)
      | (refine vl_sub rfl rfl (by omega) ?_)
      | (refine vl_pure rfl ?_)
      | (refine vl_gy rfl rfl ?_)
      | (refine vl_gn rfl rfl ?_)
      | (refine vl_gu rfl ?_)
      | (refine vl_ld rfl (by first | exact fp) ?_)
      | (refine vl_nil ?_)
      | (refine VC.seq ?_)
      | (refine VC.regV ?_)
      | (refine vl_idx rfl rfl (by omega) ?_)
      | (refine vl_lds rfl (by first | exact fp) ?_)
      | (refine vl_alloc ?_)
      | (refine vl_stw rfl rfl rfl rfl rfl (Nat.le_of_ble_eq_true rfl) ?_)
      | (refine sk_zero ?_)
      | (refine sk_succ ?_)
      | (refine wk_nil ?_)
      | (refine wk_cons ?_)
      | (refine vl_box rfl rfl ?_)
      | (refine vl_bsl rfl ?_)
      | (refine VC.dregV ?_)
      | (refine VC.block ?_)
      | (refine VC.ret ?_)
      | (refine VC.exit ?_)
      | (refine VC.skip ?_)
      | (refine seqQ_n ?_)
      | (refine seqQ_r ?_)
      | (refine seqQ_e ?_)
      | (refine blkQ_n ?_)
      | (refine blkQ_r ?_)
      | (refine blkQ_e ?_)
      | (refine blkQ_o rfl ?_)
      | (refine vl_gs rfl (fun hb => ?_) (fun hb => ?_))
      | (refine vl_ps rfl (fun hb => ?_) (fun hb => ?_)))
    refine vl_c rfl (markPairS_f (by omega) (by omega) hpx) (fun v M10 hq => ?_)
    obtain ⟨rfl, o10, s10⟩ := hq
    repeat' (first
      | (refine vl_add rfl rfl (by omega) ?_)
      | (refine vl_sub rfl rfl (by omega) ?_)
      | (refine vl_pure rfl ?_)
      | (refine vl_gy rfl rfl ?_)
      | (refine vl_gn rfl rfl ?_)
      | (refine vl_gu rfl ?_)
      | (refine vl_nil ?_)
      | (refine VC.seq ?_)
      | (refine VC.regV ?_)
      | (refine vl_idx rfl rfl (by omega) ?_)
      | (refine vl_alloc ?_)
      | (refine vl_stw rfl rfl rfl rfl rfl (Nat.le_of_ble_eq_true rfl) ?_)
      | (refine sk_zero ?_)
      | (refine sk_succ ?_)
      | (refine wk_nil ?_)
      | (refine wk_cons ?_)
      | (refine vl_box rfl rfl ?_)
      | (refine vl_bsl rfl ?_)
      | (refine VC.dregV ?_)
      | (refine VC.block ?_)
      | (refine VC.ret ?_)
      | (refine VC.exit ?_)
      | (refine VC.skip ?_)
      | (refine seqQ_n ?_)
      | (refine seqQ_r ?_)
      | (refine seqQ_e ?_)
      | (refine blkQ_n ?_)
      | (refine blkQ_r ?_)
      | (refine blkQ_e ?_)
      | (refine blkQ_o rfl ?_)
      | (refine vl_gs rfl (fun hb => ?_) (fun hb => ?_))
      | (refine vl_ps rfl (fun hb => ?_) (fun hb => ?_))
      | (refine VC.cond _ rfl (fun hb => ?_) (fun hb => ?_)))
    
    have hsub : ∀ c, c ∈ own x.s → c ∈ fpC (.slice (some ⟨b, o, none⟩) xs.length ca) xs := fun c hc => by
      unfold fpC; exact List.mem_append.2 (.inr (List.mem_flatMap.2 ⟨x, List.mem_of_getElem? gx, hc⟩))
    have hsl10 := s9.offL o10 (fun c hc hc' => by
      rw [hbo] at hc; simp only [List.mem_singleton] at hc; subst hc
      exact hbn i x (mid_get gx k) hc')
    have hset : ((mkG gCS wCS k (xs.take i) ++ xs.drop i).set i (hCS kk x)).map csv = (mkG gCS wCS k (xs.take (i + 1)) ++ xs.drop (i + 1)).map csv := by
      rw [← mid_set (g := gCS) gx hkk rfl, List.map_set, List.map_set, csv_hCS]
    refine ⟨_, (i + 1, _), _, ?_, ⟨rfl, rfl, rfl, trivial⟩, Mem.le_refl _, rfl, hi, ?_, ?_, hsl10.congr hset, ?_⟩
    · dsimp only; omega
    · dsimp only; rw [hT]; omega
    · exact (hoff.off oo (by simp [fpC, hbo])).trans (o10.mono hsub)
    · intro y hy
      dsimp only at hy
      rw [← mid_set (g := gCS) gx hkk rfl] at hy
      obtain ⟨j, hj⟩ := List.mem_iff_getElem?.1 hy
      by_cases hji : j = i
      · subst hji
        rw [set_get (mid_get gx k)] at hj
        cases hj
        rw [gCS_s]; exact s10
      · rw [List.getElem?_set_ne (by omega)] at hj
        have := (hps y (List.mem_of_getElem? hj)).off oo (hbn j y hj)
        refine this.offL o10 (fun c hc hc' => ?_)
        have hnd2 : ((mkG gCS wCS k (xs.take i) ++ xs.drop i).flatMap fun (y : CS) => own y.s).Nodup := by rw [mid_own]; exact hnc.2.1
        exact flat_apart hnd2 hj (mid_get gx k) hji c hc hc'
  · have hi : ¬ i < xs.length := by simpa using h
    repeat' (first
      | (refine vl_add rfl rfl (by omega) ?_)
      | (refine vl_sub rfl rfl (by omega) ?_)
      | (refine vl_pure rfl ?_)
      | (refine vl_gy rfl rfl ?_)
      | (refine vl_gn rfl rfl ?_)
      | (refine vl_gu rfl ?_)
      | (refine vl_nil ?_)
      | (refine VC.seq ?_)
      | (refine VC.regV ?_)
      | (refine vl_idx rfl rfl (by omega) ?_)
      | (refine vl_alloc ?_)
      | (refine vl_stw rfl rfl rfl rfl rfl (Nat.le_of_ble_eq_true rfl) ?_)
      | (refine sk_zero ?_)
      | (refine sk_succ ?_)
      | (refine wk_nil ?_)
      | (refine wk_cons ?_)
      | (refine vl_box rfl rfl ?_)
      | (refine vl_bsl rfl ?_)
      | (refine VC.dregV ?_)
      | (refine VC.block ?_)
      | (refine VC.ret ?_)
      | (refine VC.exit ?_)
      | (refine VC.skip ?_)
      | (refine seqQ_n ?_)
      | (refine seqQ_r ?_)
      | (refine seqQ_e ?_)
      | (refine blkQ_n ?_)
      | (refine blkQ_r ?_)
      | (refine blkQ_e ?_)
      | (refine blkQ_o rfl ?_)
      | (refine vl_gs rfl (fun hb => ?_) (fun hb => ?_))
      | (refine vl_ps rfl (fun hb => ?_) (fun hb => ?_))
      | (refine VC.cond _ rfl (fun hb => ?_) (fun hb => ?_)))
    rw [List.drop_of_length_le (by omega), List.append_nil, List.take_of_length_le (by omega)] at hcl
    rw [List.take_of_length_le (by omega)] at hkk
    exact fnQ_r rfl (Mem.le_refl _) ⟨by rw [hkk], hoff, hcl⟩
end Go.Proofs.Ytpcakglnklpjoaa.E
