/- The laws' sizes, copies and comparisons of cells and heaps. Conditions: none. -/
import Derived.Test.YtpcakglnklpjoaaLawB
set_option linter.unusedVariables false
set_option linter.unusedSimpArgs false
set_option maxRecDepth 100000
namespace Go.Proofs.Ytpcakglnklpjoaa.E
open Go
open Classical
/-- cells in memory, each with its pairs -/
structure CL (M : Mem) (v : Value) (ys : List CS) : Prop where
  sl : Sl M 8 csv v ys
  ps : ∀ y, y ∈ ys → Sl M 6 pv y.s y.c.pairs
def fpC (v : Value) (ys : List CS) : List Nat := own v ++ ys.flatMap fun y => own y.s
/-- a heap and where it lies -/
structure HS where
  H : Heap
  rs : Value
  cs : Value
  gs : Value
  xs : List CS
def HS.v (x : HS) : Value := .agg (hv x.H x.rs x.cs x.gs).toArray
def HS.fp (x : HS) : List Nat := own x.rs ++ (fpC x.cs x.xs ++ own x.gs)
structure RHV (M : Mem) (x : HS) : Prop where
  regs : Sl M 3 wv x.rs x.H.regs
  cl : CL M x.cs x.xs
  eq : x.xs.map (·.c) = x.H.cells
  gray : Sl M 1 iv x.gs x.H.gray
/-- .. and what may be another's, to be read alone -/
structure CLR (M : Mem) (v : Value) (ys : List CS) : Prop where
  sl : SlR M 8 csv v ys
  ps : ∀ y, y ∈ ys → SlR M 6 pv y.s y.c.pairs
structure RHVR (M : Mem) (x : HS) : Prop where
  regs : SlR M 3 wv x.rs x.H.regs
  cl : CLR M x.cs x.xs
  eq : x.xs.map (·.c) = x.H.cells
  gray : SlR M 1 iv x.gs x.H.gray
structure WHV (M : Mem) (x : HS) : Prop where
  r : RHV M x
  nd : x.fp.Nodup
/-- memory is as it was but for some blocks -/
def OffL (M : Mem) (L : List Nat) (M' : Mem) : Prop := ∀ b k, M b = some k → b ∉ L → M' b = some k
theorem Sl.own_some {M : Mem} {α : Type} {f : α → List Value} {size : Nat} {v : Value} {xs : List α} (h : Sl M size f v xs) {c : Nat} (hc : c ∈ own v) : M c ≠ none := by
  rcases h with ⟨c, rfl, _⟩ | ⟨b, o, cap, row, rfl, hM, _⟩
  · simp [own] at hc
  · simp [own] at hc; subst hc; rw [hM]; simp
theorem Sl.offL {M M' : Mem} {α : Type} {f : α → List Value} {size : Nat} {v : Value} {xs : List α} {L : List Nat} (h : Sl M size f v xs) (o : OffL M L M') (hb : ∀ b, b ∈ own v → b ∉ L) : Sl M' size f v xs := by
  rcases h with h | ⟨b', o', cap, row, rfl, hM, h3⟩
  · exact .inl h
  · exact .inr ⟨b', o', cap, row, rfl, o _ _ hM (hb _ (by simp [own])), h3⟩
theorem CL.le {M M' : Mem} {v : Value} {ys : List CS} (h : CL M v ys) (l : M.le M') : CL M' v ys := ⟨h.sl.le l, fun y hy => (h.ps y hy).le l⟩
theorem CLR.le {M M' : Mem} {v : Value} {ys : List CS} (h : CLR M v ys) (l : M.le M') : CLR M' v ys := ⟨h.sl.le l, fun y hy => (h.ps y hy).le l⟩
theorem RHVR.le {M M' : Mem} {x : HS} (h : RHVR M x) (l : M.le M') : RHVR M' x := ⟨h.regs.le l, h.cl.le l, h.eq, h.gray.le l⟩
theorem RHV.le {M M' : Mem} {x : HS} (h : RHV M x) (l : M.le M') : RHV M' x := ⟨h.regs.le l, h.cl.le l, h.eq, h.gray.le l⟩
theorem WHV.le {M M' : Mem} {x : HS} (h : WHV M x) (l : M.le M') : WHV M' x := ⟨h.r.le l, h.nd⟩
theorem RHV.fp_some {M : Mem} {x : HS} (h : RHV M x) {b : Nat} (hb : b ∈ x.fp) : M b ≠ none := by
  simp only [HS.fp, fpC, List.mem_append, List.mem_flatMap] at hb
  rcases hb with hb | (hb | ⟨y, hy, hb⟩) | hb
  · exact h.regs.own_some hb
  · exact h.cl.sl.own_some hb
  · exact (h.cl.ps y hy).own_some hb
  · exact h.gray.own_some hb
theorem RHV.offL {M M' : Mem} {x : HS} {L : List Nat} (h : RHV M x) (o : OffL M L M') (hb : ∀ b, b ∈ x.fp → b ∉ L) : RHV M' x where
  regs := h.regs.offL o fun b m => hb b (by simp [HS.fp, m])
  cl := ⟨h.cl.sl.offL o fun b m => hb b (by simp [HS.fp, fpC, m]), fun y hy => (h.cl.ps y hy).offL o fun b m => hb b (by
    simp only [HS.fp, fpC, List.mem_append, List.mem_flatMap]; exact .inr (.inl (.inr ⟨y, hy, m⟩)))⟩
  eq := h.eq
  gray := h.gray.offL o fun b m => hb b (by simp [HS.fp, m])
theorem WHV.offL {M M' : Mem} {x : HS} {L : List Nat} (h : WHV M x) (o : OffL M L M') (hb : ∀ b, b ∈ x.fp → b ∉ L) : WHV M' x := ⟨h.r.offL o hb, h.nd⟩

theorem eqHeap_q {M : Mem} {x y : HS} (hx : RHV M x) (hy : RHV M y) : Qt Try.prog 27 [x.v, y.v] M (.bool (decide (x.H = y.H))) := by
  refine fn27 (by simp) ?_
  repeat' (first
    | (refine vl_add rfl rfl (by omega) ?_)
    | (refine vl_sub rfl rfl (by omega) ?_)
    | (refine vl_pure rfl ?_)
    | (refine vl_gy rfl rfl ?_)
    | (refine vl_gn rfl rfl ?_)
    | (refine vl_gu rfl ?_)
    | (refine vl_nil ?_)
    | (refine VC.seq ?_)
    | (refine VC.regV ?_)
    | (refine vl_idx rfl rfl (by omega) ?_)
    | (refine vl_alloc ?_)
    | (refine vl_stw rfl rfl rfl rfl rfl (Nat.le_of_ble_eq_true rfl) ?_)
    | (refine sk_zero ?_)
    | (refine sk_succ ?_)
    | (refine wk_nil ?_)
    | (refine wk_cons ?_)
    | (refine vl_box rfl rfl ?_)
    | (refine vl_bsl rfl ?_)
    | (refine vl_q rfl (eqWordS_q hx.regs hy.regs) ?_)
    | (refine vl_cq rfl (eqWordS_q hx.regs hy.regs) ?_)
    | (refine vl_q rfl (eqCellS_q hx.cl.sl hy.cl.sl hx.cl.ps hy.cl.ps) ?_)
    | (refine vl_cq rfl (eqCellS_q hx.cl.sl hy.cl.sl hx.cl.ps hy.cl.ps) ?_)
    | (refine vl_q rfl (eqIntS_q hx.gray hy.gray) ?_)
    | (refine vl_cq rfl (eqIntS_q hx.gray hy.gray) ?_)
    | (refine VC.dregV ?_)
    | (refine VC.block ?_)
    | (refine VC.ret ?_)
    | (refine VC.exit ?_)
    | (refine VC.skip ?_)
    | (refine seqQ_n ?_)
    | (refine seqQ_r ?_)
    | (refine seqQ_e ?_)
    | (refine blkQ_n ?_)
    | (refine blkQ_r ?_)
    | (refine blkQ_e ?_)
    | (refine blkQ_o rfl ?_)
    | (refine vl_gs rfl (fun hb => ?_) (fun hb => ?_))
    | (refine vl_ps rfl (fun hb => ?_) (fun hb => ?_))
    | (refine VC.cond _ rfl (fun hb => ?_) (fun hb => ?_)))
  all_goals (refine fnQ_r rfl (Mem.le_refl _) (q_end ?_))
  all_goals (obtain ⟨⟨⟩, _, _, _, _⟩ := x; obtain ⟨⟨⟩, _, _, _, _⟩ := y; have e1 := hx.eq; have e2 := hy.eq; simp_all)
/-- what counts against the laws' bound -/
def Heap.bulk (H : Heap) : Int := H.regs.length + (H.cells.length + pairsN H.cells) + H.gray.length
theorem szHeap_q {M : Mem} {x : HS} {l : Int} (h0 : 0 ≤ l) (h1 : l ≤ 1048576) (hx : RHVR M x) : Qt Try.prog 30 [x.v, .int .i64 l] M (.int .i64 (if x.H.bulk ≤ l then l - x.H.bulk else -1)) := by
  have hl : (x.xs.length : Int) = x.H.cells.length := by rw [← hx.eq]; simp
  have e := hx.eq
  have hnn := pairsN_nonneg x.H.cells
  unfold Heap.bulk
  refine fn30 (by simp) ?_
  by_cases g1 : (x.H.regs.length : Int) ≤ l
  · have q1 := szWordS_q h0 h1 hx.regs
    rw [if_pos g1] at q1
    have q2 := szCellS_q (l := l - x.H.regs.length) (by omega) (by omega) hx.cl.sl hx.cl.ps
    rw [e, hl] at q2
    by_cases g2 : (x.H.cells.length : Int) + pairsN x.H.cells ≤ l - x.H.regs.length
    · rw [if_pos g2] at q2
      have q3 := szIntS_q (l := l - x.H.regs.length - (x.H.cells.length + pairsN x.H.cells)) (by omega) (by omega) hx.gray
      repeat' (first
        | (refine vl_add rfl rfl (by omega) ?_)
        | (refine vl_sub rfl rfl (by omega) ?_)
        | (refine vl_pure rfl ?_)
        | (refine vl_gy rfl rfl ?_)
        | (refine vl_gn rfl rfl ?_)
        | (refine vl_gu rfl ?_)
        | (refine vl_nil ?_)
        | (refine VC.seq ?_)
        | (refine VC.regV ?_)
        | (refine vl_idx rfl rfl (by omega) ?_)
        | (refine vl_alloc ?_)
        | (refine vl_stw rfl rfl rfl rfl rfl (Nat.le_of_ble_eq_true rfl) ?_)
        | (refine sk_zero ?_)
        | (refine sk_succ ?_)
        | (refine wk_nil ?_)
        | (refine wk_cons ?_)
        | (refine vl_box rfl rfl ?_)
        | (refine vl_bsl rfl ?_)
        | (refine vl_q rfl (q1) ?_)
        | (refine vl_cq rfl (q1) ?_)
        | (refine vl_q rfl (q2) ?_)
        | (refine vl_cq rfl (q2) ?_)
        | (refine vl_q rfl (q3) ?_)
        | (refine vl_cq rfl (q3) ?_)
        | (refine VC.dregV ?_)
        | (refine VC.block ?_)
        | (refine VC.ret ?_)
        | (refine VC.exit ?_)
        | (refine VC.skip ?_)
        | (refine seqQ_n ?_)
        | (refine seqQ_r ?_)
        | (refine seqQ_e ?_)
        | (refine blkQ_n ?_)
        | (refine blkQ_r ?_)
        | (refine blkQ_e ?_)
        | (refine blkQ_o rfl ?_)
        | (refine vl_gs rfl (fun hb => ?_) (fun hb => ?_))
        | (refine vl_ps rfl (fun hb => ?_) (fun hb => ?_))
        | (refine VC.cond _ rfl (fun hb => ?_) (fun hb => ?_)))
      all_goals (refine fnQ_r rfl (Mem.le_refl _) (q_end ?_))
      all_goals simp only [decide_eq_true_eq, decide_eq_false_iff_not] at *
      · omega
      · omega
      · by_cases g3 : (x.H.gray.length : Int) ≤ l - x.H.regs.length - (x.H.cells.length + pairsN x.H.cells)
        · rw [if_pos g3] at *; omega
        · rw [if_neg (by omega)]
      · by_cases g3 : (x.H.gray.length : Int) ≤ l - x.H.regs.length - (x.H.cells.length + pairsN x.H.cells)
        · rw [if_pos g3, if_pos (by omega)]; congr 1; omega
        · rw [if_neg g3] at *; omega
    · rw [if_neg g2] at q2
      repeat' (first
        | (refine vl_add rfl rfl (by omega) ?_)
        | (refine vl_sub rfl rfl (by omega) ?_)
        | (refine vl_pure rfl ?_)
        | (refine vl_gy rfl rfl ?_)
        | (refine vl_gn rfl rfl ?_)
        | (refine vl_gu rfl ?_)
        | (refine vl_nil ?_)
        | (refine VC.seq ?_)
        | (refine VC.regV ?_)
        | (refine vl_idx rfl rfl (by omega) ?_)
        | (refine vl_alloc ?_)
        | (refine vl_stw rfl rfl rfl rfl rfl (Nat.le_of_ble_eq_true rfl) ?_)
        | (refine sk_zero ?_)
        | (refine sk_succ ?_)
        | (refine wk_nil ?_)
        | (refine wk_cons ?_)
        | (refine vl_box rfl rfl ?_)
        | (refine vl_bsl rfl ?_)
        | (refine vl_q rfl (q1) ?_)
        | (refine vl_cq rfl (q1) ?_)
        | (refine vl_q rfl (q2) ?_)
        | (refine vl_cq rfl (q2) ?_)
        | (exact absurd hb (by decide))
        | (refine VC.dregV ?_)
        | (refine VC.block ?_)
        | (refine VC.ret ?_)
        | (refine VC.exit ?_)
        | (refine VC.skip ?_)
        | (refine seqQ_n ?_)
        | (refine seqQ_r ?_)
        | (refine seqQ_e ?_)
        | (refine blkQ_n ?_)
        | (refine blkQ_r ?_)
        | (refine blkQ_e ?_)
        | (refine blkQ_o rfl ?_)
        | (refine vl_gs rfl (fun hb => ?_) (fun hb => ?_))
        | (refine vl_ps rfl (fun hb => ?_) (fun hb => ?_))
        | (refine VC.cond _ rfl (fun hb => ?_) (fun hb => ?_)))
      all_goals (refine fnQ_r rfl (Mem.le_refl _) (q_end ?_))
      all_goals simp only [decide_eq_true_eq, decide_eq_false_iff_not] at *
      · omega
      · rw [if_neg (by omega)]
  · have q1 := szWordS_q h0 h1 hx.regs
    rw [if_neg g1] at q1
    repeat' (first
      | (refine vl_add rfl rfl (by omega) ?_)
      | (refine vl_sub rfl rfl (by omega) ?_)
      | (refine vl_pure rfl ?_)
      | (refine vl_gy rfl rfl ?_)
      | (refine vl_gn rfl rfl ?_)
      | (refine vl_gu rfl ?_)
      | (refine vl_nil ?_)
      | (refine VC.seq ?_)
      | (refine VC.regV ?_)
      | (refine vl_idx rfl rfl (by omega) ?_)
      | (refine vl_alloc ?_)
      | (refine vl_stw rfl rfl rfl rfl rfl (Nat.le_of_ble_eq_true rfl) ?_)
      | (refine sk_zero ?_)
      | (refine sk_succ ?_)
      | (refine wk_nil ?_)
      | (refine wk_cons ?_)
      | (refine vl_box rfl rfl ?_)
      | (refine vl_bsl rfl ?_)
      | (refine vl_q rfl (q1) ?_)
      | (refine vl_cq rfl (q1) ?_)
      | (exact absurd hb (by decide))
      | (refine VC.dregV ?_)
      | (refine VC.block ?_)
      | (refine VC.ret ?_)
      | (refine VC.exit ?_)
      | (refine VC.skip ?_)
      | (refine seqQ_n ?_)
      | (refine seqQ_r ?_)
      | (refine seqQ_e ?_)
      | (refine blkQ_n ?_)
      | (refine blkQ_r ?_)
      | (refine blkQ_e ?_)
      | (refine blkQ_o rfl ?_)
      | (refine vl_gs rfl (fun hb => ?_) (fun hb => ?_))
      | (refine vl_ps rfl (fun hb => ?_) (fun hb => ?_))
      | (refine VC.cond _ rfl (fun hb => ?_) (fun hb => ?_)))
    all_goals (refine fnQ_r rfl (Mem.le_refl _) (q_end ?_))
    rw [if_neg (by omega)]
theorem toCell_f {M : Mem} {x : CS} (hn : x.c.pairs.length ≤ 1048576) (ha : SlR M 6 pv x.s x.c.pairs) : Fn Try.prog 140 [ca x] M (fun v M' => ∃ b y, v = ca y ∧ y.c = x.c ∧ M b = none ∧ Off M b M' ∧ own y.s = [b] ∧ Sl M' 6 pv y.s y.c.pairs) := by
  refine fn140 (by simp) ?_
  repeat' (first
    | (refine vl_add rfl rfl (by omega) ?_)
    | (refine vl_sub rfl rfl (by omega) ?_)
    | (refine vl_pure rfl ?_)
    | (refine vl_gy rfl rfl ?_)
    | (refine vl_gn rfl rfl ?_)
    | (refine vl_gu rfl ?_)
    | (refine vl_nil ?_)
    | (refine VC.seq ?_)
    | (refine VC.regV ?_)
    | (refine vl_idx rfl rfl (by omega) ?_)
    | (refine vl_alloc ?_)
    | (refine vl_stw rfl rfl rfl rfl rfl (Nat.le_of_ble_eq_true rfl) ?_)
    | (refine sk_zero ?_)
    | (refine sk_succ ?_)
    | (refine wk_nil ?_)
    | (refine wk_cons ?_)
    | (refine vl_box rfl rfl ?_)
    | (refine vl_bsl rfl ?_)
    | (refine VC.dregV ?_)
    | (refine VC.block ?_)
    | (refine VC.ret ?_)
    | (refine VC.exit ?_)
    | (refine VC.skip ?_)
    | (refine seqQ_n ?_)
    | (refine seqQ_r ?_)
    | (refine seqQ_e ?_)
    | (refine blkQ_n ?_)
    | (refine blkQ_r ?_)
    | (refine blkQ_e ?_)
    | (refine blkQ_o rfl ?_)
    | (refine vl_gs rfl (fun hb => ?_) (fun hb => ?_))
    | (refine vl_ps rfl (fun hb => ?_) (fun hb => ?_))
    | (refine VC.cond _ rfl (fun hb => ?_) (fun hb => ?_)))
  refine vl_c rfl (toPairS_f hn ha) (fun v M1 hq => ?_)
  obtain ⟨b, hb, ho, hw, hs⟩ := hq
  obtain ⟨sa, cap, rfl⟩ := hs.len
  repeat' (first
    | (refine vl_add rfl rfl (by omega) ?_)
    | (refine vl_sub rfl rfl (by omega) ?_)
    | (refine vl_pure rfl ?_)
    | (refine vl_gy rfl rfl ?_)
    | (refine vl_gn rfl rfl ?_)
    | (refine vl_gu rfl ?_)
    | (refine vl_nil ?_)
    | (refine VC.seq ?_)
    | (refine VC.regV ?_)
    | (refine vl_idx rfl rfl (by omega) ?_)
    | (refine vl_alloc ?_)
    | (refine vl_stw rfl rfl rfl rfl rfl (Nat.le_of_ble_eq_true rfl) ?_)
    | (refine sk_zero ?_)
    | (refine sk_succ ?_)
    | (refine wk_nil ?_)
    | (refine wk_cons ?_)
    | (refine vl_box rfl rfl ?_)
    | (refine vl_bsl rfl ?_)
    | (refine VC.dregV ?_)
    | (refine VC.block ?_)
    | (refine VC.ret ?_)
    | (refine VC.exit ?_)
    | (refine VC.skip ?_)
    | (refine seqQ_n ?_)
    | (refine seqQ_r ?_)
    | (refine seqQ_e ?_)
    | (refine blkQ_n ?_)
    | (refine blkQ_r ?_)
    | (refine blkQ_e ?_)
    | (refine blkQ_o rfl ?_)
    | (refine vl_gs rfl (fun hb => ?_) (fun hb => ?_))
    | (refine vl_ps rfl (fun hb => ?_) (fun hb => ?_))
    | (refine VC.cond _ rfl (fun hb => ?_) (fun hb => ?_)))
  exact fnQ_r rfl (Mem.le_refl _) ⟨b, ⟨x.c, sa, cap⟩, rfl, rfl, hb, ho, hw, hs⟩
theorem grow_get {α : Type} {z : α} {ys : List α} {n i : Nat} (hl : ys.length = i) (hi : i < n) : (ys ++ List.replicate (n - i) z)[i]? = some z := by
  subst hl
  rw [List.getElem?_append_right (Nat.le_refl _), Nat.sub_self]
  obtain ⟨m, hm⟩ : ∃ m, n - ys.length = m + 1 := ⟨n - ys.length - 1, by omega⟩
  rw [hm, List.replicate_succ, List.getElem?_cons_zero]
theorem grow_set {α : Type} {z y : α} {ys : List α} {n i : Nat} (hl : ys.length = i) (hi : i < n) : (ys ++ List.replicate (n - i) z).set i y = (ys ++ [y]) ++ List.replicate (n - (i + 1)) z := by
  subst hl
  rw [List.set_append_right _ _ (Nat.le_refl _), Nat.sub_self]
  obtain ⟨m, hm⟩ : ∃ m, n - ys.length = m + 1 := ⟨n - ys.length - 1, by omega⟩
  rw [hm, List.replicate_succ, List.set_cons_zero, show n - (ys.length + 1) = m by omega]
  simp
def zCS : CS := ⟨⟨0, 0, 0, 0, 0, 0, 0, []⟩, none, 0⟩
theorem toCellS_f {M : Mem} {va : Value} {xs : List CS} (hn : xs.length ≤ 1048576) (hp : ∀ x, x ∈ xs → x.c.pairs.length ≤ 1048576) (ha : CLR M va xs) :
    Fn Try.prog 93 [va] M (fun v M' => ∃ ys : List CS, ys.map (·.c) = xs.map (·.c) ∧ CL M' v ys ∧ (fpC v ys).Nodup ∧ (∀ b, b ∈ fpC v ys → M b = none) ∧ M.le M') := by
  obtain ⟨aa, ca, ea⟩ := ha.sl.len
  refine fn93 (by simp) ?_
  subst ea
  repeat' (first
    | (refine vl_add rfl rfl (by omega) ?_)
    | (refine vl_sub rfl rfl (by omega) ?_)
    | (refine vl_pure rfl ?_)
    | (refine vl_gy rfl rfl ?_)
    | (refine vl_gn rfl rfl ?_)
    | (refine vl_gu rfl ?_)
    | (refine vl_nil ?_)
    | (refine VC.seq ?_)
    | (refine VC.regV ?_)
    | (refine vl_idx rfl rfl (by omega) ?_)
    | (refine vl_alloc ?_)
    | (refine vl_stw rfl rfl rfl rfl rfl (Nat.le_of_ble_eq_true rfl) ?_)
    | (refine sk_zero ?_)
    | (refine sk_succ ?_)
    | (refine wk_nil ?_)
    | (refine wk_cons ?_)
    | (refine vl_box rfl rfl ?_)
    | (refine vl_bsl rfl ?_)
    | (refine VC.dregV ?_)
    | (refine VC.block ?_)
    | (refine VC.ret ?_)
    | (refine VC.exit ?_)
    | (refine VC.skip ?_)
    | (refine seqQ_n ?_)
    | (refine seqQ_r ?_)
    | (refine seqQ_e ?_)
    | (refine blkQ_n ?_)
    | (refine blkQ_r ?_)
    | (refine blkQ_e ?_)
    | (refine blkQ_o rfl ?_)
    | (refine vl_gs rfl (fun hb => ?_) (fun hb => ?_))
    | (refine vl_ps rfl (fun hb => ?_) (fun hb => ?_))
    | (refine VC.cond _ rfl (fun hb => ?_) (fun hb => ?_)))
  refine vl_mks (f := csv) zCS (fun _ => rfl) rfl rfl rfl (Nat.le_refl _) (by omega) (by omega) (fun b M1 hMb hoff hsl => ?_)
  repeat' (first
    | (refine vl_add rfl rfl (by omega) ?_)
    | (refine vl_sub rfl rfl (by omega) ?_)
    | (refine vl_pure rfl ?_)
    | (refine vl_gy rfl rfl ?_)
    | (refine vl_gn rfl rfl ?_)
    | (refine vl_gu rfl ?_)
    | (refine vl_nil ?_)
    | (refine VC.seq ?_)
    | (refine VC.regV ?_)
    | (refine vl_idx rfl rfl (by omega) ?_)
    | (refine vl_alloc ?_)
    | (refine vl_stw rfl rfl rfl rfl rfl (Nat.le_of_ble_eq_true rfl) ?_)
    | (refine sk_zero ?_)
    | (refine sk_succ ?_)
    | (refine wk_nil ?_)
    | (refine wk_cons ?_)
    | (refine vl_box rfl rfl ?_)
    | (refine vl_bsl rfl ?_)
    | (refine VC.dregV ?_)
    | (refine VC.block ?_)
    | (refine VC.ret ?_)
    | (refine VC.exit ?_)
    | (refine VC.skip ?_)
    | (refine seqQ_n ?_)
    | (refine seqQ_r ?_)
    | (refine seqQ_e ?_)
    | (refine blkQ_n ?_)
    | (refine blkQ_r ?_)
    | (refine blkQ_e ?_)
    | (refine blkQ_o rfl ?_)
    | (refine vl_gs rfl (fun hb => ?_) (fun hb => ?_))
    | (refine vl_ps rfl (fun hb => ?_) (fun hb => ?_)))
  refine VC.loop (α := Nat) (fun i => [(0, .v (.slice aa xs.length ca)), (3, .v (.slice (some ⟨b, 0, none⟩) xs.length xs.length)), (4, .v (.int .i64 i))])
    (fun k i M' => k = xs.length - i ∧ i ≤ xs.length ∧ M.le M' ∧ ∃ ys : List CS, ys.length = i ∧ ys.map (·.c) = (xs.map (·.c)).take i ∧ Sl M' 8 csv (.slice (some ⟨b, 0, none⟩) xs.length xs.length) (ys ++ List.replicate (xs.length - i) zCS) ∧
      (b :: ys.flatMap fun y => own y.s).Nodup ∧ (∀ c, c ∈ (ys.flatMap fun y => own y.s) → M c = none) ∧ ∀ y, y ∈ ys → Sl M' 6 pv y.s y.c.pairs)
    ⟨_, 0, _, ⟨rfl, rfl, rfl, trivial⟩, Mem.le_refl _, rfl, Nat.zero_le _, hoff.le hMb, [], rfl, rfl, hsl, by simp, by simp, by simp⟩ ?_
  rintro k i M2 ⟨rfl, hi, hle, ys, hyl, hyc, hsl, hnd, hfr, hps⟩
  repeat' (first
    | (refine vl_add rfl rfl (by omega) ?_)
    | (refine vl_sub rfl rfl (by omega) ?_)
    | (refine vl_pure rfl ?_)
    | (refine vl_gy rfl rfl ?_)
    | (refine vl_gn rfl rfl ?_)
    | (refine vl_gu rfl ?_)
    | (refine vl_nil ?_)
    | (refine VC.seq ?_)
    | (refine VC.regV ?_)
    | (refine vl_idx rfl rfl (by omega) ?_)
    | (refine vl_alloc ?_)
    | (refine vl_stw rfl rfl rfl rfl rfl (Nat.le_of_ble_eq_true rfl) ?_)
    | (refine sk_zero ?_)
    | (refine sk_succ ?_)
    | (refine wk_nil ?_)
    | (refine wk_cons ?_)
    | (refine vl_box rfl rfl ?_)
    | (refine vl_bsl rfl ?_)
    | (refine VC.dregV ?_)
    | (refine VC.block ?_)
    | (refine VC.ret ?_)
    | (refine VC.exit ?_)
    | (refine VC.skip ?_)
    | (refine seqQ_n ?_)
    | (refine seqQ_r ?_)
    | (refine seqQ_e ?_)
    | (refine blkQ_n ?_)
    | (refine blkQ_r ?_)
    | (refine blkQ_e ?_)
    | (refine blkQ_o rfl ?_)
    | (refine vl_gs rfl (fun hb => ?_) (fun hb => ?_))
    | (refine vl_ps rfl (fun hb => ?_) (fun hb => ?_)))
  refine VC.cond _ rfl (fun h => ?_) (fun h => ?_)
  · have hi : i < xs.length := by simpa using h
    obtain ⟨x, gx⟩ : ∃ x, xs[i]? = some x := ⟨_, List.getElem?_eq_getElem hi⟩
    have hxm := List.mem_of_getElem? gx
    obtain ⟨b1, o1, rfl, h1⟩ := (ha.sl.le hle).at2 (fun _ => rfl) gx
    repeat' (first
      | (refine vl_add rfl rfl (by omega) ?_)
      | (refine vl_sub rfl rfl (by omega) ?_)
      | (refine vl_pure rfl ?_)
      | (refine vl_gy rfl rfl ?_)
      | (refine vl_gn rfl rfl ?_)
      | (refine vl_gu rfl ?_)
      | (refine vl_ld rfl (by first | exact h1) ?_)
      | (refine vl_nil ?_)
      | (refine VC.seq ?_)
      | (refine VC.regV ?_)
      | (refine vl_idx rfl rfl (by omega) ?_)
      | (refine vl_lds rfl (by first | exact h1) ?_)
      | (refine vl_alloc ?_)
      | (refine vl_stw rfl rfl rfl rfl rfl (Nat.le_of_ble_eq_true rfl) ?_)
      | (refine sk_zero ?_)
      | (refine sk_succ ?_)
      | (refine wk_nil ?_)
      | (refine wk_cons ?_)
      | (refine vl_box rfl rfl ?_)
      | (refine vl_bsl rfl ?_)
      | (refine VC.dregV ?_)
      | (refine VC.block ?_)
      | (refine VC.ret ?_)
      | (refine VC.exit ?_)
      | (refine VC.skip ?_)
      | (refine seqQ_n ?_)
      | (refine seqQ_r ?_)
      | (refine seqQ_e ?_)
      | (refine blkQ_n ?_)
      | (refine blkQ_r ?_)
      | (refine blkQ_e ?_)
      | (refine blkQ_o rfl ?_)
      | (refine vl_gs rfl (fun hb => ?_) (fun hb => ?_))
      | (refine vl_ps rfl (fun hb => ?_) (fun hb => ?_)))
    refine vl_c rfl (toCell_f (hp x hxm) ((ha.ps x hxm).le hle)) (fun v M3 hq => ?_)
    obtain ⟨b', y, rfl, hyx, hb', ho', hw', hs'⟩ := hq
    repeat' (first
      | (refine vl_add rfl rfl (by omega) ?_)
      | (refine vl_sub rfl rfl (by omega) ?_)
      | (refine vl_pure rfl ?_)
      | (refine vl_gy rfl rfl ?_)
      | (refine vl_gn rfl rfl ?_)
      | (refine vl_gu rfl ?_)
      | (refine vl_nil ?_)
      | (refine VC.seq ?_)
      | (refine VC.regV ?_)
      | (refine vl_idx rfl rfl (by omega) ?_)
      | (refine vl_alloc ?_)
      | (refine vl_stw rfl rfl rfl rfl rfl (Nat.le_of_ble_eq_true rfl) ?_)
      | (refine sk_zero ?_)
      | (refine sk_succ ?_)
      | (refine wk_nil ?_)
      | (refine wk_cons ?_)
      | (refine vl_box rfl rfl ?_)
      | (refine vl_bsl rfl ?_)
      | (refine VC.dregV ?_)
      | (refine VC.block ?_)
      | (refine VC.ret ?_)
      | (refine VC.exit ?_)
      | (refine VC.skip ?_)
      | (refine seqQ_n ?_)
      | (refine seqQ_r ?_)
      | (refine seqQ_e ?_)
      | (refine blkQ_n ?_)
      | (refine blkQ_r ?_)
      | (refine blkQ_e ?_)
      | (refine blkQ_o rfl ?_)
      | (refine vl_gs rfl (fun hb => ?_) (fun hb => ?_))
      | (refine vl_ps rfl (fun hb => ?_) (fun hb => ?_)))
    have hs3 := hsl.le (ho'.le hb')
    refine vl_sts y hs3 (fun _ => rfl) (grow_get hyl hi) (i := i) (j := 0) rfl rfl rfl rfl (Nat.le_of_ble_eq_true rfl) rfl (fun M4 o4 s4 => ?_)
    rw [grow_set hyl hi] at s4
    have hMb2 : M2 b ≠ none := hsl.own_some (by simp [own])
    have hbb : b' ≠ b := fun e => hMb2 (by rw [← e]; exact hb')
    have hold : ∀ c, c ∈ (ys.flatMap fun y => own y.s) → M2 c ≠ none := by
      intro c hc
      obtain ⟨y', hy', hc'⟩ := List.mem_flatMap.1 hc
      exact (hps y' hy').own_some hc'
    repeat' (first
      | (refine vl_add rfl rfl (by omega) ?_)
      | (refine vl_sub rfl rfl (by omega) ?_)
      | (refine vl_pure rfl ?_)
      | (refine vl_gy rfl rfl ?_)
      | (refine vl_gn rfl rfl ?_)
      | (refine vl_gu rfl ?_)
      | (refine vl_nil ?_)
      | (refine VC.seq ?_)
      | (refine VC.regV ?_)
      | (refine vl_idx rfl rfl (by omega) ?_)
      | (refine vl_alloc ?_)
      | (refine vl_stw rfl rfl rfl rfl rfl (Nat.le_of_ble_eq_true rfl) ?_)
      | (refine sk_zero ?_)
      | (refine sk_succ ?_)
      | (refine wk_nil ?_)
      | (refine wk_cons ?_)
      | (refine vl_box rfl rfl ?_)
      | (refine vl_bsl rfl ?_)
      | (refine VC.dregV ?_)
      | (refine VC.block ?_)
      | (refine VC.ret ?_)
      | (refine VC.exit ?_)
      | (refine VC.skip ?_)
      | (refine seqQ_n ?_)
      | (refine seqQ_r ?_)
      | (refine seqQ_e ?_)
      | (refine blkQ_n ?_)
      | (refine blkQ_r ?_)
      | (refine blkQ_e ?_)
      | (refine blkQ_o rfl ?_)
      | (refine vl_gs rfl (fun hb => ?_) (fun hb => ?_))
      | (refine vl_ps rfl (fun hb => ?_) (fun hb => ?_))
      | (refine VC.cond _ rfl (fun hb => ?_) (fun hb => ?_)))
    refine ⟨_, i + 1, _, ?_, ⟨rfl, rfl, rfl, trivial⟩, Mem.le_refl _, rfl, hi, ?_, ys ++ [y], by simp [hyl], ?_, s4, ?_, ?_, ?_⟩
    · omega
    · exact o4.keep (Mem.le_trans hle (ho'.le hb')) hMb
    · rw [List.map_append, hyc, List.take_add_one, List.getElem?_map, gx]; simp [hyx]
    · rw [List.flatMap_append, ← List.cons_append]
      refine List.nodup_append.2 ⟨hnd, by simp [hw'], ?_⟩
      intro c hc d hd e
      simp only [List.flatMap_cons, List.flatMap_nil, List.append_nil, hw', List.mem_singleton] at hd
      subst hd; subst e
      rcases List.mem_cons.1 hc with e | hc
      · exact hbb e
      · exact hold _ hc hb'
    · intro c hc
      rw [List.flatMap_append, List.mem_append] at hc
      rcases hc with hc | hc
      · exact hfr c hc
      · simp only [List.flatMap_cons, List.flatMap_nil, List.append_nil, hw', List.mem_singleton] at hc
        subst hc; exact none_of_le hle hb'
    · intro y' hy'
      rcases List.mem_append.1 hy' with hy' | hy'
      · refine ((hps y' hy').le (ho'.le hb')).off o4 fun hm => ?_
        exact (List.nodup_cons.1 hnd).1 (List.mem_flatMap.2 ⟨y', hy', hm⟩)
      · simp only [List.mem_singleton] at hy'
        subst hy'
        exact hs'.off o4 (by rw [hw']; simpa using hbb.symm)
  · have hi : ¬ i < xs.length := by simpa using h
    have e : i = xs.length := by omega
    subst e
    repeat' (first
      | (refine vl_add rfl rfl (by omega) ?_)
      | (refine vl_sub rfl rfl (by omega) ?_)
      | (refine vl_pure rfl ?_)
      | (refine vl_gy rfl rfl ?_)
      | (refine vl_gn rfl rfl ?_)
      | (refine vl_gu rfl ?_)
      | (refine vl_nil ?_)
      | (refine VC.seq ?_)
      | (refine VC.regV ?_)
      | (refine vl_idx rfl rfl (by omega) ?_)
      | (refine vl_alloc ?_)
      | (refine vl_stw rfl rfl rfl rfl rfl (Nat.le_of_ble_eq_true rfl) ?_)
      | (refine sk_zero ?_)
      | (refine sk_succ ?_)
      | (refine wk_nil ?_)
      | (refine wk_cons ?_)
      | (refine vl_box rfl rfl ?_)
      | (refine vl_bsl rfl ?_)
      | (refine VC.dregV ?_)
      | (refine VC.block ?_)
      | (refine VC.ret ?_)
      | (refine VC.exit ?_)
      | (refine VC.skip ?_)
      | (refine seqQ_n ?_)
      | (refine seqQ_r ?_)
      | (refine seqQ_e ?_)
      | (refine blkQ_n ?_)
      | (refine blkQ_r ?_)
      | (refine blkQ_e ?_)
      | (refine blkQ_o rfl ?_)
      | (refine vl_gs rfl (fun hb => ?_) (fun hb => ?_))
      | (refine vl_ps rfl (fun hb => ?_) (fun hb => ?_))
      | (refine VC.cond _ rfl (fun hb => ?_) (fun hb => ?_)))
    rw [Nat.sub_self, List.replicate_zero, List.append_nil] at hsl
    rw [List.take_of_length_le (by simp)] at hyc
    refine fnQ_r rfl (Mem.le_refl _) ⟨ys, hyc, ⟨hsl, hps⟩, hnd, ?_, hle⟩
    intro c hc
    rcases List.mem_cons.1 hc with e | hc
    · subst e; exact hMb
    · exact hfr c hc
theorem pairs_bulk {cs : List Cell} {c : Cell} (h : c ∈ cs) : (c.pairs.length : Int) ≤ pairsN cs := by
  induction cs with
  | nil => cases h
  | cons d r ih =>
    have e : pairsN (d :: r) = d.pairs.length + pairsN r := by simp [pairsN]
    have := pairsN_nonneg r
    rcases List.mem_cons.1 h with rfl | h
    · omega
    · have := ih h; omega
theorem toHeap_f {M : Mem} {x : HS} (hb : x.H.bulk ≤ 1048576) (hx : RHVR M x) :
    Fn Try.prog 32 [x.v] M (fun v M' => ∃ y : HS, v = y.v ∧ y.H = x.H ∧ WHV M' y ∧ (∀ b, b ∈ y.fp → M b = none) ∧ M.le M') := by
  have hl : x.xs.length = x.H.cells.length := by rw [← hx.eq]; simp
  have hnn := pairsN_nonneg x.H.cells
  unfold Heap.bulk at hb
  refine fn32 (by simp) ?_
  repeat' (first
    | (refine vl_add rfl rfl (by omega) ?_)
    | (refine vl_sub rfl rfl (by omega) ?_)
    | (refine vl_pure rfl ?_)
    | (refine vl_gy rfl rfl ?_)
    | (refine vl_gn rfl rfl ?_)
    | (refine vl_gu rfl ?_)
    | (refine vl_nil ?_)
    | (refine VC.seq ?_)
    | (refine VC.regV ?_)
    | (refine vl_idx rfl rfl (by omega) ?_)
    | (refine vl_alloc ?_)
    | (refine vl_stw rfl rfl rfl rfl rfl (Nat.le_of_ble_eq_true rfl) ?_)
    | (refine sk_zero ?_)
    | (refine sk_succ ?_)
    | (refine wk_nil ?_)
    | (refine wk_cons ?_)
    | (refine vl_box rfl rfl ?_)
    | (refine vl_bsl rfl ?_)
    | (refine VC.dregV ?_)
    | (refine VC.block ?_)
    | (refine VC.ret ?_)
    | (refine VC.exit ?_)
    | (refine VC.skip ?_)
    | (refine seqQ_n ?_)
    | (refine seqQ_r ?_)
    | (refine seqQ_e ?_)
    | (refine blkQ_n ?_)
    | (refine blkQ_r ?_)
    | (refine blkQ_e ?_)
    | (refine blkQ_o rfl ?_)
    | (refine vl_gs rfl (fun hb => ?_) (fun hb => ?_))
    | (refine vl_ps rfl (fun hb => ?_) (fun hb => ?_))
    | (refine VC.cond _ rfl (fun hb => ?_) (fun hb => ?_)))
  refine vl_c rfl (toWordS_f (by omega) hx.regs) (fun v M1 hq => ?_)
  obtain ⟨b1, hb1, ho1, hw1, hs1⟩ := hq
  obtain ⟨sa1, cap1, rfl⟩ := hs1.len
  repeat' (first
    | (refine vl_add rfl rfl (by omega) ?_)
    | (refine vl_sub rfl rfl (by omega) ?_)
    | (refine vl_pure rfl ?_)
    | (refine vl_gy rfl rfl ?_)
    | (refine vl_gn rfl rfl ?_)
    | (refine vl_gu rfl ?_)
    | (refine vl_nil ?_)
    | (refine VC.seq ?_)
    | (refine VC.regV ?_)
    | (refine vl_idx rfl rfl (by omega) ?_)
    | (refine vl_alloc ?_)
    | (refine vl_stw rfl rfl rfl rfl rfl (Nat.le_of_ble_eq_true rfl) ?_)
    | (refine sk_zero ?_)
    | (refine sk_succ ?_)
    | (refine wk_nil ?_)
    | (refine wk_cons ?_)
    | (refine vl_box rfl rfl ?_)
    | (refine vl_bsl rfl ?_)
    | (refine VC.dregV ?_)
    | (refine VC.block ?_)
    | (refine VC.ret ?_)
    | (refine VC.exit ?_)
    | (refine VC.skip ?_)
    | (refine seqQ_n ?_)
    | (refine seqQ_r ?_)
    | (refine seqQ_e ?_)
    | (refine blkQ_n ?_)
    | (refine blkQ_r ?_)
    | (refine blkQ_e ?_)
    | (refine blkQ_o rfl ?_)
    | (refine vl_gs rfl (fun hb => ?_) (fun hb => ?_))
    | (refine vl_ps rfl (fun hb => ?_) (fun hb => ?_))
    | (refine VC.cond _ rfl (fun hb => ?_) (fun hb => ?_)))
  have hx1 := hx.le (ho1.le hb1)
  refine vl_c rfl (toCellS_f (by omega) (fun y hy => ?_) hx1.cl) (fun v M2 hq => ?_)
  · have := pairs_bulk (cs := x.H.cells) (c := y.c) (by rw [← hx.eq]; exact List.mem_map_of_mem hy)
    omega
  obtain ⟨ys, hyc, hcl, hnd, hfr, hle⟩ := hq
  obtain ⟨sa2, cap2, rfl⟩ := hcl.sl.len
  repeat' (first
    | (refine vl_add rfl rfl (by omega) ?_)
    | (refine vl_sub rfl rfl (by omega) ?_)
    | (refine vl_pure rfl ?_)
    | (refine vl_gy rfl rfl ?_)
    | (refine vl_gn rfl rfl ?_)
    | (refine vl_gu rfl ?_)
    | (refine vl_nil ?_)
    | (refine VC.seq ?_)
    | (refine VC.regV ?_)
    | (refine vl_idx rfl rfl (by omega) ?_)
    | (refine vl_alloc ?_)
    | (refine vl_stw rfl rfl rfl rfl rfl (Nat.le_of_ble_eq_true rfl) ?_)
    | (refine sk_zero ?_)
    | (refine sk_succ ?_)
    | (refine wk_nil ?_)
    | (refine wk_cons ?_)
    | (refine vl_box rfl rfl ?_)
    | (refine vl_bsl rfl ?_)
    | (refine VC.dregV ?_)
    | (refine VC.block ?_)
    | (refine VC.ret ?_)
    | (refine VC.exit ?_)
    | (refine VC.skip ?_)
    | (refine seqQ_n ?_)
    | (refine seqQ_r ?_)
    | (refine seqQ_e ?_)
    | (refine blkQ_n ?_)
    | (refine blkQ_r ?_)
    | (refine blkQ_e ?_)
    | (refine blkQ_o rfl ?_)
    | (refine vl_gs rfl (fun hb => ?_) (fun hb => ?_))
    | (refine vl_ps rfl (fun hb => ?_) (fun hb => ?_))
    | (refine VC.cond _ rfl (fun hb => ?_) (fun hb => ?_)))
  have hx2 := hx1.le hle
  refine vl_c rfl (toIntS_f (by omega) hx2.gray) (fun v M3 hq => ?_)
  obtain ⟨b3, hb3, ho3, hw3, hs3⟩ := hq
  obtain ⟨sa3, cap3, rfl⟩ := hs3.len
  repeat' (first
    | (refine vl_add rfl rfl (by omega) ?_)
    | (refine vl_sub rfl rfl (by omega) ?_)
    | (refine vl_pure rfl ?_)
    | (refine vl_gy rfl rfl ?_)
    | (refine vl_gn rfl rfl ?_)
    | (refine vl_gu rfl ?_)
    | (refine vl_nil ?_)
    | (refine VC.seq ?_)
    | (refine VC.regV ?_)
    | (refine vl_idx rfl rfl (by omega) ?_)
    | (refine vl_alloc ?_)
    | (refine vl_stw rfl rfl rfl rfl rfl (Nat.le_of_ble_eq_true rfl) ?_)
    | (refine sk_zero ?_)
    | (refine sk_succ ?_)
    | (refine wk_nil ?_)
    | (refine wk_cons ?_)
    | (refine vl_box rfl rfl ?_)
    | (refine vl_bsl rfl ?_)
    | (refine VC.dregV ?_)
    | (refine VC.block ?_)
    | (refine VC.ret ?_)
    | (refine VC.exit ?_)
    | (refine VC.skip ?_)
    | (refine seqQ_n ?_)
    | (refine seqQ_r ?_)
    | (refine seqQ_e ?_)
    | (refine blkQ_n ?_)
    | (refine blkQ_r ?_)
    | (refine blkQ_e ?_)
    | (refine blkQ_o rfl ?_)
    | (refine vl_gs rfl (fun hb => ?_) (fun hb => ?_))
    | (refine vl_ps rfl (fun hb => ?_) (fun hb => ?_))
    | (refine VC.cond _ rfl (fun hb => ?_) (fun hb => ?_)))
  refine fnQ_r rfl (Mem.le_refl _) ⟨⟨x.H, .slice sa1 x.H.regs.length cap1, .slice sa2 ys.length cap2, .slice sa3 x.H.gray.length cap3, ys⟩, rfl, rfl, ⟨⟨(hs1.le hle).le (ho3.le hb3), hcl.le (ho3.le hb3), ?_, hs3⟩, ?_⟩, ?_, Mem.le_trans (Mem.le_trans (ho1.le hb1) hle) (ho3.le hb3)⟩
  · rw [hyc, hx.eq]
  · simp only [HS.fp, hw1, hw3]
    have h2 : ∀ b, b ∈ fpC (.slice sa2 ys.length cap2) ys → M2 b ≠ none := by
      intro b hb
      simp only [fpC, List.mem_append, List.mem_flatMap] at hb
      rcases hb with hb | ⟨y, hy, hb⟩
      · exact hcl.sl.own_some hb
      · exact (hcl.ps y hy).own_some hb
    have h1 : M1 b1 ≠ none := hs1.own_some (by rw [hw1]; simp)
    refine List.nodup_append.2 ⟨by simp, List.nodup_append.2 ⟨hnd, by simp, ?_⟩, ?_⟩
    · intro c hc d hd e
      simp only [List.mem_singleton] at hd
      subst hd; subst e
      exact h2 _ hc hb3
    · intro c hc d hd e
      simp only [List.mem_singleton] at hc
      subst hc; subst e
      rcases List.mem_append.1 hd with hd | hd
      · exact h1 (hfr _ hd)
      · simp only [List.mem_singleton] at hd
        subst hd
        exact h1 (none_of_le hle hb3)
  · intro b hb
    simp only [HS.fp, hw1, hw3, List.mem_append, List.mem_singleton] at hb
    rcases hb with rfl | hb | rfl
    · exact hb1
    · exact none_of_le (ho1.le hb1) (hfr b hb)
    · exact none_of_le (ho1.le hb1) (none_of_le hle hb3)
end Go.Proofs.Ytpcakglnklpjoaa.E
