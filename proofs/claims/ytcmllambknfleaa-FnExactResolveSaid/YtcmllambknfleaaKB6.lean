/- The laws' sizes, copies and comparisons of cells and heaps. Conditions: none. -/
import Derived.Test.YtcmllambknfleaaKB5
set_option linter.unusedVariables false
set_option linter.unusedSimpArgs false
set_option maxRecDepth 100000
namespace Go.Proofs.Ytcmllambknfleaa.E
open Go
open Classical
/-- cells in memory, each with its pairs -/
structure CL (M : Mem) (v : Value) (ys : List CS) : Prop where
  sl : Sl M 8 csv v ys
  ps : ∀ y, y ∈ ys → Sl M 6 pv y.s y.c.pairs
def fpC (v : Value) (ys : List CS) : List Nat := own v ++ ys.flatMap fun y => own y.s
/-- a heap and where it lies -/
structure HS where
  H : Heap
  rs : Value
  cs : Value
  gs : Value
  xs : List CS
def HS.v (x : HS) : Value := .agg (hv x.H x.rs x.cs x.gs).toArray
def HS.fp (x : HS) : List Nat := own x.rs ++ (fpC x.cs x.xs ++ own x.gs)
structure RHV (M : Mem) (x : HS) : Prop where
  regs : Sl M 3 wv x.rs x.H.regs
  cl : CL M x.cs x.xs
  eq : x.xs.map (·.c) = x.H.cells
  gray : Sl M 1 iv x.gs x.H.gray
/-- .. and what may be another's, to be read alone -/
structure CLR (M : Mem) (v : Value) (ys : List CS) : Prop where
  sl : SlR M 8 csv v ys
  ps : ∀ y, y ∈ ys → SlR M 6 pv y.s y.c.pairs
structure RHVR (M : Mem) (x : HS) : Prop where
  regs : SlR M 3 wv x.rs x.H.regs
  cl : CLR M x.cs x.xs
  eq : x.xs.map (·.c) = x.H.cells
  gray : SlR M 1 iv x.gs x.H.gray
structure WHV (M : Mem) (x : HS) : Prop where
  r : RHV M x
  nd : x.fp.Nodup
/-- memory is as it was but for some blocks -/
def OffL (M : Mem) (L : List Nat) (M' : Mem) : Prop := ∀ b k, M b = some k → b ∉ L → M' b = some k
theorem Sl.own_some {M : Mem} {α : Type} {f : α → List Value} {size : Nat} {v : Value} {xs : List α} (h : Sl M size f v xs) {c : Nat} (hc : c ∈ own v) : M c ≠ none := by
  rcases h with ⟨c, rfl, _⟩ | ⟨b, o, cap, row, rfl, hM, _⟩
  · simp [own] at hc
  · simp [own] at hc; subst hc; rw [hM]; simp
theorem Sl.offL {M M' : Mem} {α : Type} {f : α → List Value} {size : Nat} {v : Value} {xs : List α} {L : List Nat} (h : Sl M size f v xs) (o : OffL M L M') (hb : ∀ b, b ∈ own v → b ∉ L) : Sl M' size f v xs := by
  rcases h with h | ⟨b', o', cap, row, rfl, hM, h3⟩
  · exact .inl h
  · exact .inr ⟨b', o', cap, row, rfl, o _ _ hM (hb _ (by simp [own])), h3⟩
theorem CL.le {M M' : Mem} {v : Value} {ys : List CS} (h : CL M v ys) (l : M.le M') : CL M' v ys := ⟨h.sl.le l, fun y hy => (h.ps y hy).le l⟩
theorem CLR.le {M M' : Mem} {v : Value} {ys : List CS} (h : CLR M v ys) (l : M.le M') : CLR M' v ys := ⟨h.sl.le l, fun y hy => (h.ps y hy).le l⟩
theorem RHVR.le {M M' : Mem} {x : HS} (h : RHVR M x) (l : M.le M') : RHVR M' x := ⟨h.regs.le l, h.cl.le l, h.eq, h.gray.le l⟩
theorem RHV.le {M M' : Mem} {x : HS} (h : RHV M x) (l : M.le M') : RHV M' x := ⟨h.regs.le l, h.cl.le l, h.eq, h.gray.le l⟩
theorem WHV.le {M M' : Mem} {x : HS} (h : WHV M x) (l : M.le M') : WHV M' x := ⟨h.r.le l, h.nd⟩
theorem RHV.fp_some {M : Mem} {x : HS} (h : RHV M x) {b : Nat} (hb : b ∈ x.fp) : M b ≠ none := by
  simp only [HS.fp, fpC, List.mem_append, List.mem_flatMap] at hb
  rcases hb with hb | (hb | ⟨y, hy, hb⟩) | hb
  · exact h.regs.own_some hb
  · exact h.cl.sl.own_some hb
  · exact (h.cl.ps y hy).own_some hb
  · exact h.gray.own_some hb
theorem RHV.offL {M M' : Mem} {x : HS} {L : List Nat} (h : RHV M x) (o : OffL M L M') (hb : ∀ b, b ∈ x.fp → b ∉ L) : RHV M' x where
  regs := h.regs.offL o fun b m => hb b (by simp [HS.fp, m])
  cl := ⟨h.cl.sl.offL o fun b m => hb b (by simp [HS.fp, fpC, m]), fun y hy => (h.cl.ps y hy).offL o fun b m => hb b (by
    simp only [HS.fp, fpC, List.mem_append, List.mem_flatMap]; exact .inr (.inl (.inr ⟨y, hy, m⟩)))⟩
  eq := h.eq
  gray := h.gray.offL o fun b m => hb b (by simp [HS.fp, m])
theorem WHV.offL {M M' : Mem} {x : HS} {L : List Nat} (h : WHV M x) (o : OffL M L M') (hb : ∀ b, b ∈ x.fp → b ∉ L) : WHV M' x := ⟨h.r.offL o hb, h.nd⟩

theorem eqHeap_q {M : Mem} {x y : HS} (hx : RHV M x) (hy : RHV M y) : Qt Try.prog 27 [x.v, y.v] M (.bool (decide (x.H = y.H))) := by
  refine fn27 (by simp) ?_
  repeat' (first
    | (refine vl_add rfl rfl (by omega) ?_)
    | (refine vl_sub rfl rfl (by omega) ?_)
    | (refine vl_mul rfl rfl (by omega) ?_)
    | (refine vl_pure rfl ?_)
    | (refine vl_gy rfl rfl ?_)
    | (refine vl_gn rfl rfl ?_)
    | (refine vl_gu rfl ?_)
    | (refine vl_nil ?_)
    | (refine VC.seq ?_)
    | (refine VC.regV ?_)
    | (refine vl_idx rfl rfl (by omega) ?_)
    | (refine vl_alloc ?_)
    | (refine vl_stw rfl rfl rfl rfl (by first | rfl | assumption) (Nat.le_of_ble_eq_true rfl) ?_)
    | (refine sk_zero ?_)
    | (refine sk_succ ?_)
    | (refine wk_nil ?_)
    | (refine wk_cons ?_)
    | (refine vl_box rfl rfl ?_)
    | (refine vl_bsl rfl ?_)
    | (refine vl_q rfl (eqWordS_q hx.regs hy.regs) ?_)
    | (refine vl_cq rfl (eqWordS_q hx.regs hy.regs) ?_)
    | (refine vl_q rfl (eqCellS_q hx.cl.sl hy.cl.sl hx.cl.ps hy.cl.ps) ?_)
    | (refine vl_cq rfl (eqCellS_q hx.cl.sl hy.cl.sl hx.cl.ps hy.cl.ps) ?_)
    | (refine vl_q rfl (eqIntS_q hx.gray hy.gray) ?_)
    | (refine vl_cq rfl (eqIntS_q hx.gray hy.gray) ?_)
    | (refine VC.dregV ?_)
    | (refine VC.block ?_)
    | (refine VC.ret ?_)
    | (refine VC.exit ?_)
    | (refine VC.skip ?_)
    | (refine seqQ_n ?_)
    | (refine seqQ_r ?_)
    | (refine seqQ_e ?_)
    | (refine blkQ_n ?_)
    | (refine blkQ_r ?_)
    | (refine blkQ_e ?_)
    | (refine blkQ_o rfl ?_)
    | (refine vl_gs rfl (fun hb => ?_) (fun hb => ?_))
    | (refine vl_ps rfl (fun hb => ?_) (fun hb => ?_))
    | (refine VC.cond _ rfl (fun hb => ?_) (fun hb => ?_)))
  all_goals (refine fnQ_r rfl (Mem.le_refl _) (q_end ?_))
  all_goals (obtain ⟨⟨⟩, _, _, _, _⟩ := x; obtain ⟨⟨⟩, _, _, _, _⟩ := y; have e1 := hx.eq; have e2 := hy.eq; simp_all)
/-- what counts against the laws' bound -/
def Heap.bulk (H : Heap) : Int := H.regs.length + (H.cells.length + pairsN H.cells) + H.gray.length
theorem szHeap_q {M : Mem} {x : HS} {l : Int} (h0 : 0 ≤ l) (h1 : l ≤ 1048576) (hx : RHVR M x) : Qt Try.prog 30 [x.v, .int .i64 l] M (.int .i64 (if x.H.bulk ≤ l then l - x.H.bulk else -1)) := by
  have hl : (x.xs.length : Int) = x.H.cells.length := by rw [← hx.eq]; simp
  have e := hx.eq
  have hnn := pairsN_nonneg x.H.cells
  unfold Heap.bulk
  refine fn30 (by simp) ?_
  by_cases g1 : (x.H.regs.length : Int) ≤ l
  · have q1 := szWordS_q h0 h1 hx.regs
    rw [if_pos g1] at q1
    have q2 := szCellS_q (l := l - x.H.regs.length) (by omega) (by omega) hx.cl.sl hx.cl.ps
    rw [e, hl] at q2
    by_cases g2 : (x.H.cells.length : Int) + pairsN x.H.cells ≤ l - x.H.regs.length
    · rw [if_pos g2] at q2
      have q3 := szIntS_q (l := l - x.H.regs.length - (x.H.cells.length + pairsN x.H.cells)) (by omega) (by omega) hx.gray
      repeat' (first
        | (refine vl_add rfl rfl (by omega) ?_)
        | (refine vl_sub rfl rfl (by omega) ?_)
        | (refine vl_mul rfl rfl (by omega) ?_)
        | (refine vl_pure rfl ?_)
        | (refine vl_gy rfl rfl ?_)
        | (refine vl_gn rfl rfl ?_)
        | (refine vl_gu rfl ?_)
        | (refine vl_nil ?_)
        | (refine VC.seq ?_)
        | (refine VC.regV ?_)
        | (refine vl_idx rfl rfl (by omega) ?_)
        | (refine vl_alloc ?_)
        | (refine vl_stw rfl rfl rfl rfl (by first | rfl | assumption) (Nat.le_of_ble_eq_true rfl) ?_)
        | (refine sk_zero ?_)
        | (refine sk_succ ?_)
        | (refine wk_nil ?_)
        | (refine wk_cons ?_)
        | (refine vl_box rfl rfl ?_)
        | (refine vl_bsl rfl ?_)
        | (refine vl_q rfl (q1) ?_)
        | (refine vl_cq rfl (q1) ?_)
        | (refine vl_q rfl (q2) ?_)
        | (refine vl_cq rfl (q2) ?_)
        | (refine vl_q rfl (q3) ?_)
        | (refine vl_cq rfl (q3) ?_)
        | (refine VC.dregV ?_)
        | (refine VC.block ?_)
        | (refine VC.ret ?_)
        | (refine VC.exit ?_)
        | (refine VC.skip ?_)
        | (refine seqQ_n ?_)
        | (refine seqQ_r ?_)
        | (refine seqQ_e ?_)
        | (refine blkQ_n ?_)
        | (refine blkQ_r ?_)
        | (refine blkQ_e ?_)
        | (refine blkQ_o rfl ?_)
        | (refine vl_gs rfl (fun hb => ?_) (fun hb => ?_))
        | (refine vl_ps rfl (fun hb => ?_) (fun hb => ?_))
        | (refine VC.cond _ rfl (fun hb => ?_) (fun hb => ?_)))
      all_goals (refine fnQ_r rfl (Mem.le_refl _) (q_end ?_))
      all_goals simp only [decide_eq_true_eq, decide_eq_false_iff_not] at *
      · omega
      · omega
      · by_cases g3 : (x.H.gray.length : Int) ≤ l - x.H.regs.length - (x.H.cells.length + pairsN x.H.cells)
        · rw [if_pos g3] at *; omega
        · rw [if_neg (by omega)]
      · by_cases g3 : (x.H.gray.length : Int) ≤ l - x.H.regs.length - (x.H.cells.length + pairsN x.H.cells)
        · rw [if_pos g3, if_pos (by omega)]; congr 1; omega
        · rw [if_neg g3] at *; omega
    · rw [if_neg g2] at q2
      repeat' (first
        | (refine vl_add rfl rfl (by omega) ?_)
        | (refine vl_sub rfl rfl (by omega) ?_)
        | (refine vl_mul rfl rfl (by omega) ?_)
        | (refine vl_pure rfl ?_)
        | (refine vl_gy rfl rfl ?_)
        | (refine vl_gn rfl rfl ?_)
        | (refine vl_gu rfl ?_)
        | (refine vl_nil ?_)
        | (refine VC.seq ?_)
        | (refine VC.regV ?_)
        | (refine vl_idx rfl rfl (by omega) ?_)
        | (refine vl_alloc ?_)
        | (refine vl_stw rfl rfl rfl rfl (by first | rfl | assumption) (Nat.le_of_ble_eq_true rfl) ?_)
        | (refine sk_zero ?_)
        | (refine sk_succ ?_)
        | (refine wk_nil ?_)
        | (refine wk_cons ?_)
        | (refine vl_box rfl rfl ?_)
        | (refine vl_bsl rfl ?_)
        | (refine vl_q rfl (q1) ?_)
        | (refine vl_cq rfl (q1) ?_)
        | (refine vl_q rfl (q2) ?_)
        | (refine vl_cq rfl (q2) ?_)
        | (exact absurd hb (by decide))
        | (refine VC.dregV ?_)
        | (refine VC.block ?_)
        | (refine VC.ret ?_)
        | (refine VC.exit ?_)
        | (refine VC.skip ?_)
        | (refine seqQ_n ?_)
        | (refine seqQ_r ?_)
        | (refine seqQ_e ?_)
        | (refine blkQ_n ?_)
        | (refine blkQ_r ?_)
        | (refine blkQ_e ?_)
        | (refine blkQ_o rfl ?_)
        | (refine vl_gs rfl (fun hb => ?_) (fun hb => ?_))
        | (refine vl_ps rfl (fun hb => ?_) (fun hb => ?_))
        | (refine VC.cond _ rfl (fun hb => ?_) (fun hb => ?_)))
      all_goals (refine fnQ_r rfl (Mem.le_refl _) (q_end ?_))
      all_goals simp only [decide_eq_true_eq, decide_eq_false_iff_not] at *
      · omega
      · rw [if_neg (by omega)]
  · have q1 := szWordS_q h0 h1 hx.regs
    rw [if_neg g1] at q1
    repeat' (first
      | (refine vl_add rfl rfl (by omega) ?_)
      | (refine vl_sub rfl rfl (by omega) ?_)
      | (refine vl_mul rfl rfl (by omega) ?_)
      | (refine vl_pure rfl ?_)
      | (refine vl_gy rfl rfl ?_)
      | (refine vl_gn rfl rfl ?_)
      | (refine vl_gu rfl ?_)
      | (refine vl_nil ?_)
      | (refine VC.seq ?_)
      | (refine VC.regV ?_)
      | (refine vl_idx rfl rfl (by omega) ?_)
      | (refine vl_alloc ?_)
      | (refine vl_stw rfl rfl rfl rfl (by first | rfl | assumption) (Nat.le_of_ble_eq_true rfl) ?_)
      | (refine sk_zero ?_)
      | (refine sk_succ ?_)
      | (refine wk_nil ?_)
      | (refine wk_cons ?_)
      | (refine vl_box rfl rfl ?_)
      | (refine vl_bsl rfl ?_)
      | (refine vl_q rfl (q1) ?_)
      | (refine vl_cq rfl (q1) ?_)
      | (exact absurd hb (by decide))
      | (refine VC.dregV ?_)
      | (refine VC.block ?_)
      | (refine VC.ret ?_)
      | (refine VC.exit ?_)
      | (refine VC.skip ?_)
      | (refine seqQ_n ?_)
      | (refine seqQ_r ?_)
      | (refine seqQ_e ?_)
      | (refine blkQ_n ?_)
      | (refine blkQ_r ?_)
      | (refine blkQ_e ?_)
      | (refine blkQ_o rfl ?_)
      | (refine vl_gs rfl (fun hb => ?_) (fun hb => ?_))
      | (refine vl_ps rfl (fun hb => ?_) (fun hb => ?_))
      | (refine VC.cond _ rfl (fun hb => ?_) (fun hb => ?_)))
    all_goals (refine fnQ_r rfl (Mem.le_refl _) (q_end ?_))
    rw [if_neg (by omega)]
theorem toCell_f {M : Mem} {x : CS} (hn : x.c.pairs.length ≤ 1048576) (ha : SlR M 6 pv x.s x.c.pairs) : Fn Try.prog 140 [ca x] M (fun v M' => ∃ b y, v = ca y ∧ y.c = x.c ∧ M b = none ∧ Off M b M' ∧ own y.s = [b] ∧ Sl M' 6 pv y.s y.c.pairs) := by
  refine fn140 (by simp) ?_
  repeat' (first
    | (refine vl_add rfl rfl (by omega) ?_)
    | (refine vl_sub rfl rfl (by omega) ?_)
    | (refine vl_mul rfl rfl (by omega) ?_)
    | (refine vl_pure rfl ?_)
    | (refine vl_gy rfl rfl ?_)
    | (refine vl_gn rfl rfl ?_)
    | (refine vl_gu rfl ?_)
    | (refine vl_nil ?_)
    | (refine VC.seq ?_)
    | (refine VC.regV ?_)
    | (refine vl_idx rfl rfl (by omega) ?_)
    | (refine vl_alloc ?_)
    | (refine vl_stw rfl rfl rfl rfl (by first | rfl | assumption) (Nat.le_of_ble_eq_true rfl) ?_)
    | (refine sk_zero ?_)
    | (refine sk_succ ?_)
    | (refine wk_nil ?_)
    | (refine wk_cons ?_)
    | (refine vl_box rfl rfl ?_)
    | (refine vl_bsl rfl ?_)
    | (refine VC.dregV ?_)
    | (refine VC.block ?_)
    | (refine VC.ret ?_)
    | (refine VC.exit ?_)
    | (refine VC.skip ?_)
    | (refine seqQ_n ?_)
    | (refine seqQ_r ?_)
    | (refine seqQ_e ?_)
    | (refine blkQ_n ?_)
    | (refine blkQ_r ?_)
    | (refine blkQ_e ?_)
    | (refine blkQ_o rfl ?_)
    | (refine vl_gs rfl (fun hb => ?_) (fun hb => ?_))
    | (refine vl_ps rfl (fun hb => ?_) (fun hb => ?_))
    | (refine VC.cond _ rfl (fun hb => ?_) (fun hb => ?_)))
  refine vl_c rfl (toPairS_f hn ha) (fun v M1 hq => ?_)
  obtain ⟨b, hb, ho, hw, hs⟩ := hq
  obtain ⟨sa, cap, rfl⟩ := hs.len
  repeat' (first
    | (refine vl_add rfl rfl (by omega) ?_)
    | (refine vl_sub rfl rfl (by omega) ?_)
    | (refine vl_mul rfl rfl (by omega) ?_)
    | (refine vl_pure rfl ?_)
    | (refine vl_gy rfl rfl ?_)
    | (refine vl_gn rfl rfl ?_)
    | (refine vl_gu rfl ?_)
    | (refine vl_nil ?_)
    | (refine VC.seq ?_)
    | (refine VC.regV ?_)
    | (refine vl_idx rfl rfl (by omega) ?_)
    | (refine vl_alloc ?_)
    | (refine vl_stw rfl rfl rfl rfl (by first | rfl | assumption) (Nat.le_of_ble_eq_true rfl) ?_)
    | (refine sk_zero ?_)
    | (refine sk_succ ?_)
    | (refine wk_nil ?_)
    | (refine wk_cons ?_)
    | (refine vl_box rfl rfl ?_)
    | (refine vl_bsl rfl ?_)
    | (refine VC.dregV ?_)
    | (refine VC.block ?_)
    | (refine VC.ret ?_)
    | (refine VC.exit ?_)
    | (refine VC.skip ?_)
    | (refine seqQ_n ?_)
    | (refine seqQ_r ?_)
    | (refine seqQ_e ?_)
    | (refine blkQ_n ?_)
    | (refine blkQ_r ?_)
    | (refine blkQ_e ?_)
    | (refine blkQ_o rfl ?_)
    | (refine vl_gs rfl (fun hb => ?_) (fun hb => ?_))
    | (refine vl_ps rfl (fun hb => ?_) (fun hb => ?_))
    | (refine VC.cond _ rfl (fun hb => ?_) (fun hb => ?_)))
  exact fnQ_r rfl (Mem.le_refl _) ⟨b, ⟨x.c, sa, cap⟩, rfl, rfl, hb, ho, hw, hs⟩
theorem grow_get {α : Type} {z : α} {ys : List α} {n i : Nat} (hl : ys.length = i) (hi : i < n) : (ys ++ List.replicate (n - i) z)[i]? = some z := by
  subst hl
  rw [List.getElem?_append_right (Nat.le_refl _), Nat.sub_self]
  obtain ⟨m, hm⟩ : ∃ m, n - ys.length = m + 1 := ⟨n - ys.length - 1, by omega⟩
  rw [hm, List.replicate_succ, List.getElem?_cons_zero]
theorem grow_set {α : Type} {z y : α} {ys : List α} {n i : Nat} (hl : ys.length = i) (hi : i < n) : (ys ++ List.replicate (n - i) z).set i y = (ys ++ [y]) ++ List.replicate (n - (i + 1)) z := by
  subst hl
  rw [List.set_append_right _ _ (Nat.le_refl _), Nat.sub_self]
  obtain ⟨m, hm⟩ : ∃ m, n - ys.length = m + 1 := ⟨n - ys.length - 1, by omega⟩
  rw [hm, List.replicate_succ, List.set_cons_zero, show n - (ys.length + 1) = m by omega]
  simp
def zCS : CS := ⟨⟨0, 0, 0, 0, 0, 0, 0, []⟩, none, 0⟩
theorem toCellS_f {M : Mem} {va : Value} {xs : List CS} (hn : xs.length ≤ 1048576) (hp : ∀ x, x ∈ xs → x.c.pairs.length ≤ 1048576) (ha : CLR M va xs) :
    Fn Try.prog 93 [va] M (fun v M' => ∃ ys : List CS, ys.map (·.c) = xs.map (·.c) ∧ CL M' v ys ∧ (fpC v ys).Nodup ∧ (∀ b, b ∈ fpC v ys → M b = none) ∧ M.le M') := by
  obtain ⟨aa, ca, ea⟩ := ha.sl.len
  refine fn93 (by simp) ?_
  subst ea
  repeat' (first
    | (refine vl_add rfl rfl (by omega) ?_)
    | (refine vl_sub rfl rfl (by omega) ?_)
    | (refine vl_mul rfl rfl (by omega) ?_)
    | (refine vl_pure rfl ?_)
    | (refine vl_gy rfl rfl ?_)
    | (refine vl_gn rfl rfl ?_)
    | (refine vl_gu rfl ?_)
    | (refine vl_nil ?_)
    | (refine VC.seq ?_)
    | (refine VC.regV ?_)
    | (refine vl_idx rfl rfl (by omega) ?_)
    | (refine vl_alloc ?_)
    | (refine vl_stw rfl rfl rfl rfl (by first | rfl | assumption) (Nat.le_of_ble_eq_true rfl) ?_)
    | (refine sk_zero ?_)
    | (refine sk_succ ?_)
    | (refine wk_nil ?_)
    | (refine wk_cons ?_)
    | (refine vl_box rfl rfl ?_)
    | (refine vl_bsl rfl ?_)
    | (refine VC.dregV ?_)
    | (refine VC.block ?_)
    | (refine VC.ret ?_)
    | (refine VC.exit ?_)
    | (refine VC.skip ?_)
    | (refine seqQ_n ?_)
    | (refine seqQ_r ?_)
    | (refine seqQ_e ?_)
    | (refine blkQ_n ?_)
    | (refine blkQ_r ?_)
    | (refine blkQ_e ?_)
    | (refine blkQ_o rfl ?_)
    | (refine vl_gs rfl (fun hb => ?_) (fun hb => ?_))
    | (refine vl_ps rfl (fun hb => ?_) (fun hb => ?_))
    | (refine VC.cond _ rfl (fun hb => ?_) (fun hb => ?_)))
  refine vl_mks (f := csv) zCS (fun _ => rfl) rfl rfl rfl (Nat.le_refl _) (by omega) (by omega) (fun b M1 hMb hoff hsl => ?_)
  repeat' (first
    | (refine vl_add rfl rfl (by omega) ?_)
    | (refine vl_sub rfl rfl (by omega) ?_)
    | (refine vl_mul rfl rfl (by omega) ?_)
    | (refine vl_pure rfl ?_)
    | (refine vl_gy rfl rfl ?_)
    | (refine vl_gn rfl rfl ?_)
    | (refine vl_gu rfl ?_)
    | (refine vl_nil ?_)
    | (refine VC.seq ?_)
    | (refine VC.regV ?_)
    | (refine vl_idx rfl rfl (by omega) ?_)
    | (refine vl_alloc ?_)
    | (refine vl_stw rfl rfl rfl rfl (by first | rfl | assumption) (Nat.le_of_ble_eq_true rfl) ?_)
    | (refine sk_zero ?_)
    | (refine sk_succ ?_)
    | (refine wk_nil ?_)
    | (refine wk_cons ?_)
    | (refine vl_box rfl rfl ?_)
    | (refine vl_bsl rfl ?_)
    | (refine VC.dregV ?_)
    | (refine VC.block ?_)
    | (refine VC.ret ?_)
    | (refine VC.exit ?_)
    | (refine VC.skip ?_)
    | (refine seqQ_n ?_)
    | (refine seqQ_r ?_)
    | (refine seqQ_e ?_)
    | (refine blkQ_n ?_)
    | (refine blkQ_r ?_)
    | (refine blkQ_e ?_)
    | (refine blkQ_o rfl ?_)
    | (refine vl_gs rfl (fun hb => ?_) (fun hb => ?_))
    | (refine vl_ps rfl (fun hb => ?_) (fun hb => ?_)))
  refine VC.loop (α := Nat) (fun i => [(0, .v (.slice aa xs.length ca)), (3, .v (.slice (some ⟨b, 0, none⟩) xs.length xs.length)), (4, .v (.int .i64 i))])
    (fun k i M' => k = xs.length - i ∧ i ≤ xs.length ∧ M.le M' ∧ ∃ ys : List CS, ys.length = i ∧ ys.map (·.c) = (xs.map (·.c)).take i ∧ Sl M' 8 csv (.slice (some ⟨b, 0, none⟩) xs.length xs.length) (ys ++ List.replicate (xs.length - i) zCS) ∧
      (b :: ys.flatMap fun y => own y.s).Nodup ∧ (∀ c, c ∈ (ys.flatMap fun y => own y.s) → M c = none) ∧ ∀ y, y ∈ ys → Sl M' 6 pv y.s y.c.pairs)
    ⟨_, 0, _, ⟨rfl, rfl, rfl, trivial⟩, Mem.le_refl _, rfl, Nat.zero_le _, hoff.le hMb, [], rfl, rfl, hsl, by simp, by simp, by simp⟩ ?_
  rintro k i M2 ⟨rfl, hi, hle, ys, hyl, hyc, hsl, hnd, hfr, hps⟩
  repeat' (first
    | (refine vl_add rfl rfl (by omega) ?_)
    | (refine vl_sub rfl rfl (by omega) ?_)
    | (refine vl_mul rfl rfl (by omega) ?_)
    | (refine vl_pure rfl ?_)
    | (refine vl_gy rfl rfl ?_)
    | (refine vl_gn rfl rfl ?_)
    | (refine vl_gu rfl ?_)
    | (refine vl_nil ?_)
    | (refine VC.seq ?_)
    | (refine VC.regV ?_)
    | (refine vl_idx rfl rfl (by omega) ?_)
    | (refine vl_alloc ?_)
    | (refine vl_stw rfl rfl rfl rfl (by first | rfl | assumption) (Nat.le_of_ble_eq_true rfl) ?_)
    | (refine sk_zero ?_)
    | (refine sk_succ ?_)
    | (refine wk_nil ?_)
    | (refine wk_cons ?_)
    | (refine vl_box rfl rfl ?_)
    | (refine vl_bsl rfl ?_)
    | (refine VC.dregV ?_)
    | (refine VC.block ?_)
    | (refine VC.ret ?_)
    | (refine VC.exit ?_)
    | (refine VC.skip ?_)
    | (refine seqQ_n ?_)
    | (refine seqQ_r ?_)
    | (refine seqQ_e ?_)
    | (refine blkQ_n ?_)
    | (refine blkQ_r ?_)
    | (refine blkQ_e ?_)
    | (refine blkQ_o rfl ?_)
    | (refine vl_gs rfl (fun hb => ?_) (fun hb => ?_))
    | (refine vl_ps rfl (fun hb => ?_) (fun hb => ?_)))
  refine VC.cond _ rfl (fun h => ?_) (fun h => ?_)
  · have hi : i < xs.length := by simpa using h
    obtain ⟨x, gx⟩ : ∃ x, xs[i]? = some x := ⟨_, List.getElem?_eq_getElem hi⟩
    have hxm := List.mem_of_getElem? gx
    obtain ⟨b1, o1, rfl, h1⟩ := (ha.sl.le hle).at2 (fun _ => rfl) gx
    repeat' (first
      | (refine vl_add rfl rfl (by omega) ?_)
      | (refine vl_sub rfl rfl (by omega) ?_)
      | (refine vl_mul rfl rfl (by omega) ?_)
      | (refine vl_pure rfl ?_)
      | (refine vl_gy rfl rfl ?_)
      | (refine vl_gn rfl rfl ?_)
      | (refine vl_gu rfl ?_)
      | (refine vl_ld rfl (by first | exact h1) ?_)
      | (refine vl_nil ?_)
      | (refine VC.seq ?_)
      | (refine VC.regV ?_)
      | (refine vl_idx rfl rfl (by omega) ?_)
      | (refine vl_lds rfl (by first | exact h1) ?_)
      | (refine vl_alloc ?_)
      | (refine vl_stw rfl rfl rfl rfl (by first | rfl | assumption) (Nat.le_of_ble_eq_true rfl) ?_)
      | (refine sk_zero ?_)
      | (refine sk_succ ?_)
      | (refine wk_nil ?_)
      | (refine wk_cons ?_)
      | (refine vl_box rfl rfl ?_)
      | (refine vl_bsl rfl ?_)
      | (refine VC.dregV ?_)
      | (refine VC.block ?_)
      | (refine VC.ret ?_)
      | (refine VC.exit ?_)
      | (refine VC.skip ?_)
      | (refine seqQ_n ?_)
      | (refine seqQ_r ?_)
      | (refine seqQ_e ?_)
      | (refine blkQ_n ?_)
      | (refine blkQ_r ?_)
      | (refine blkQ_e ?_)
      | (refine blkQ_o rfl ?_)
      | (refine vl_gs rfl (fun hb => ?_) (fun hb => ?_))
      | (refine vl_ps rfl (fun hb => ?_) (fun hb => ?_)))
    refine vl_c rfl (toCell_f (hp x hxm) ((ha.ps x hxm).le hle)) (fun v M3 hq => ?_)
    obtain ⟨b', y, rfl, hyx, hb', ho', hw', hs'⟩ := hq
    repeat' (first
      | (refine vl_add rfl rfl (by omega) ?_)
      | (refine vl_sub rfl rfl (by omega) ?_)
      | (refine vl_mul rfl rfl (by omega) ?_)
      | (refine vl_pure rfl ?_)
      | (refine vl_gy rfl rfl ?_)
      | (refine vl_gn rfl rfl ?_)
      | (refine vl_gu rfl ?_)
      | (refine vl_nil ?_)
      | (refine VC.seq ?_)
      | (refine VC.regV ?_)
      | (refine vl_idx rfl rfl (by omega) ?_)
      | (refine vl_alloc ?_)
      | (refine vl_stw rfl rfl rfl rfl (by first | rfl | assumption) (Nat.le_of_ble_eq_true rfl) ?_)
      | (refine sk_zero ?_)
      | (refine sk_succ ?_)
      | (refine wk_nil ?_)
      | (refine wk_cons ?_)
      | (refine vl_box rfl rfl ?_)
      | (refine vl_bsl rfl ?_)
      | (refine VC.dregV ?_)
      | (refine VC.block ?_)
      | (refine VC.ret ?_)
      | (refine VC.exit ?_)
      | (refine VC.skip ?_)
      | (refine seqQ_n ?_)
      | (refine seqQ_r ?_)
      | (refine seqQ_e ?_)
      | (refine blkQ_n ?_)
      | (refine blkQ_r ?_)
      | (refine blkQ_e ?_)
      | (refine blkQ_o rfl ?_)
      | (refine vl_gs rfl (fun hb => ?_) (fun hb => ?_))
      | (refine vl_ps rfl (fun hb => ?_) (fun hb => ?_)))
    have hs3 := hsl.le (ho'.le hb')
    refine vl_sts y hs3 (fun _ => rfl) (grow_get hyl hi) (i := i) (j := 0) rfl rfl rfl rfl (Nat.le_of_ble_eq_true rfl) rfl (fun M4 o4 s4 => ?_)
    rw [grow_set hyl hi] at s4
    have hMb2 : M2 b ≠ none := hsl.own_some (by simp [own])
    have hbb : b' ≠ b := fun e => hMb2 (by rw [← e]; exact hb')
    have hold : ∀ c, c ∈ (ys.flatMap fun y => own y.s) → M2 c ≠ none := by
      intro c hc
      obtain ⟨y', hy', hc'⟩ := List.mem_flatMap.1 hc
      exact (hps y' hy').own_some hc'
    repeat' (first
      | (refine vl_add rfl rfl (by omega) ?_)
      | (refine vl_sub rfl rfl (by omega) ?_)
      | (refine vl_mul rfl rfl (by omega) ?_)
      | (refine vl_pure rfl ?_)
      | (refine vl_gy rfl rfl ?_)
      | (refine vl_gn rfl rfl ?_)
      | (refine vl_gu rfl ?_)
      | (refine vl_nil ?_)
      | (refine VC.seq ?_)
      | (refine VC.regV ?_)
      | (refine vl_idx rfl rfl (by omega) ?_)
      | (refine vl_alloc ?_)
      | (refine vl_stw rfl rfl rfl rfl (by first | rfl | assumption) (Nat.le_of_ble_eq_true rfl) ?_)
      | (refine sk_zero ?_)
      | (refine sk_succ ?_)
      | (refine wk_nil ?_)
      | (refine wk_cons ?_)
      | (refine vl_box rfl rfl ?_)
      | (refine vl_bsl rfl ?_)
      | (refine VC.dregV ?_)
      | (refine VC.block ?_)
      | (refine VC.ret ?_)
      | (refine VC.exit ?_)
      | (refine VC.skip ?_)
      | (refine seqQ_n ?_)
      | (refine seqQ_r ?_)
      | (refine seqQ_e ?_)
      | (refine blkQ_n ?_)
      | (refine blkQ_r ?_)
      | (refine blkQ_e ?_)
      | (refine blkQ_o rfl ?_)
      | (refine vl_gs rfl (fun hb => ?_) (fun hb => ?_))
      | (refine vl_ps rfl (fun hb => ?_) (fun hb => ?_))
      | (refine VC.cond _ rfl (fun hb => ?_) (fun hb => ?_)))
    refine ⟨_, i + 1, _, ?_, ⟨rfl, rfl, rfl, trivial⟩, Mem.le_refl _, rfl, hi, ?_, ys ++ [y], by simp [hyl], ?_, s4, ?_, ?_, ?_⟩
    · omega
    · exact o4.keep (Mem.le_trans hle (ho'.le hb')) hMb
    · rw [List.map_append, hyc, List.take_add_one, List.getElem?_map, gx]; simp [hyx]
    · rw [List.flatMap_append, ← List.cons_append]
      refine List.nodup_append.2 ⟨hnd, by simp [hw'], ?_⟩
      intro c hc d hd e
      simp only [List.flatMap_cons, List.flatMap_nil, List.append_nil, hw', List.mem_singleton] at hd
      subst hd; subst e
      rcases List.mem_cons.1 hc with e | hc
      · exact hbb e
      · exact hold _ hc hb'
    · intro c hc
      rw [List.flatMap_append, List.mem_append] at hc
      rcases hc with hc | hc
      · exact hfr c hc
      · simp only [List.flatMap_cons, List.flatMap_nil, List.append_nil, hw', List.mem_singleton] at hc
        subst hc; exact none_of_le hle hb'
    · intro y' hy'
      rcases List.mem_append.1 hy' with hy' | hy'
      · refine ((hps y' hy').le (ho'.le hb')).off o4 fun hm => ?_
        exact (List.nodup_cons.1 hnd).1 (List.mem_flatMap.2 ⟨y', hy', hm⟩)
      · simp only [List.mem_singleton] at hy'
        subst hy'
        exact hs'.off o4 (by rw [hw']; simpa using hbb.symm)
  · have hi : ¬ i < xs.length := by simpa using h
    have e : i = xs.length := by omega
    subst e
    repeat' (first
      | (refine vl_add rfl rfl (by omega) ?_)
      | (refine vl_sub rfl rfl (by omega) ?_)
      | (refine vl_mul rfl rfl (by omega) ?_)
      | (refine vl_pure rfl ?_)
      | (refine vl_gy rfl rfl ?_)
      | (refine vl_gn rfl rfl ?_)
      | (refine vl_gu rfl ?_)
      | (refine vl_nil ?_)
      | (refine VC.seq ?_)
      | (refine VC.regV ?_)
      | (refine vl_idx rfl rfl (by omega) ?_)
      | (refine vl_alloc ?_)
      | (refine vl_stw rfl rfl rfl rfl (by first | rfl | assumption) (Nat.le_of_ble_eq_true rfl) ?_)
      | (refine sk_zero ?_)
      | (refine sk_succ ?_)
      | (refine wk_nil ?_)
      | (refine wk_cons ?_)
      | (refine vl_box rfl rfl ?_)
      | (refine vl_bsl rfl ?_)
      | (refine VC.dregV ?_)
      | (refine VC.block ?_)
      | (refine VC.ret ?_)
      | (refine VC.exit ?_)
      | (refine VC.skip ?_)
      | (refine seqQ_n ?_)
      | (refine seqQ_r ?_)
      | (refine seqQ_e ?_)
      | (refine blkQ_n ?_)
      | (refine blkQ_r ?_)
      | (refine blkQ_e ?_)
      | (refine blkQ_o rfl ?_)
      | (refine vl_gs rfl (fun hb => ?_) (fun hb => ?_))
      | (refine vl_ps rfl (fun hb => ?_) (fun hb => ?_))
      | (refine VC.cond _ rfl (fun hb => ?_) (fun hb => ?_)))
    rw [Nat.sub_self, List.replicate_zero, List.append_nil] at hsl
    rw [List.take_of_length_le (by simp)] at hyc
    refine fnQ_r rfl (Mem.le_refl _) ⟨ys, hyc, ⟨hsl, hps⟩, hnd, ?_, hle⟩
    intro c hc
    rcases List.mem_cons.1 hc with e | hc
    · subst e; exact hMb
    · exact hfr c hc
theorem pairs_bulk {cs : List Cell} {c : Cell} (h : c ∈ cs) : (c.pairs.length : Int) ≤ pairsN cs := by
  induction cs with
  | nil => cases h
  | cons d r ih =>
    have e : pairsN (d :: r) = d.pairs.length + pairsN r := by simp [pairsN]
    have := pairsN_nonneg r
    rcases List.mem_cons.1 h with rfl | h
    · omega
    · have := ih h; omega
theorem toHeap_f {M : Mem} {x : HS} (hb : x.H.bulk ≤ 1048576) (hx : RHVR M x) :
    Fn Try.prog 32 [x.v] M (fun v M' => ∃ y : HS, v = y.v ∧ y.H = x.H ∧ WHV M' y ∧ (∀ b, b ∈ y.fp → M b = none) ∧ M.le M') := by
  have hl : x.xs.length = x.H.cells.length := by rw [← hx.eq]; simp
  have hnn := pairsN_nonneg x.H.cells
  unfold Heap.bulk at hb
  refine fn32 (by simp) ?_
  repeat' (first
    | (refine vl_add rfl rfl (by omega) ?_)
    | (refine vl_sub rfl rfl (by omega) ?_)
    | (refine vl_mul rfl rfl (by omega) ?_)
    | (refine vl_pure rfl ?_)
    | (refine vl_gy rfl rfl ?_)
    | (refine vl_gn rfl rfl ?_)
    | (refine vl_gu rfl ?_)
    | (refine vl_nil ?_)
    | (refine VC.seq ?_)
    | (refine VC.regV ?_)
    | (refine vl_idx rfl rfl (by omega) ?_)
    | (refine vl_alloc ?_)
    | (refine vl_stw rfl rfl rfl rfl (by first | rfl | assumption) (Nat.le_of_ble_eq_true rfl) ?_)
    | (refine sk_zero ?_)
    | (refine sk_succ ?_)
    | (refine wk_nil ?_)
    | (refine wk_cons ?_)
    | (refine vl_box rfl rfl ?_)
    | (refine vl_bsl rfl ?_)
    | (refine VC.dregV ?_)
    | (refine VC.block ?_)
    | (refine VC.ret ?_)
    | (refine VC.exit ?_)
    | (refine VC.skip ?_)
    | (refine seqQ_n ?_)
    | (refine seqQ_r ?_)
    | (refine seqQ_e ?_)
    | (refine blkQ_n ?_)
    | (refine blkQ_r ?_)
    | (refine blkQ_e ?_)
    | (refine blkQ_o rfl ?_)
    | (refine vl_gs rfl (fun hb => ?_) (fun hb => ?_))
    | (refine vl_ps rfl (fun hb => ?_) (fun hb => ?_))
    | (refine VC.cond _ rfl (fun hb => ?_) (fun hb => ?_)))
  refine vl_c rfl (toWordS_f (by omega) hx.regs) (fun v M1 hq => ?_)
  obtain ⟨b1, hb1, ho1, hw1, hs1⟩ := hq
  obtain ⟨sa1, cap1, rfl⟩ := hs1.len
  repeat' (first
    | (refine vl_add rfl rfl (by omega) ?_)
    | (refine vl_sub rfl rfl (by omega) ?_)
    | (refine vl_mul rfl rfl (by omega) ?_)
    | (refine vl_pure rfl ?_)
    | (refine vl_gy rfl rfl ?_)
    | (refine vl_gn rfl rfl ?_)
    | (refine vl_gu rfl ?_)
    | (refine vl_nil ?_)
    | (refine VC.seq ?_)
    | (refine VC.regV ?_)
    | (refine vl_idx rfl rfl (by omega) ?_)
    | (refine vl_alloc ?_)
    | (refine vl_stw rfl rfl rfl rfl (by first | rfl | assumption) (Nat.le_of_ble_eq_true rfl) ?_)
    | (refine sk_zero ?_)
    | (refine sk_succ ?_)
    | (refine wk_nil ?_)
    | (refine wk_cons ?_)
    | (refine vl_box rfl rfl ?_)
    | (refine vl_bsl rfl ?_)
    | (refine VC.dregV ?_)
    | (refine VC.block ?_)
    | (refine VC.ret ?_)
    | (refine VC.exit ?_)
    | (refine VC.skip ?_)
    | (refine seqQ_n ?_)
    | (refine seqQ_r ?_)
    | (refine seqQ_e ?_)
    | (refine blkQ_n ?_)
    | (refine blkQ_r ?_)
    | (refine blkQ_e ?_)
    | (refine blkQ_o rfl ?_)
    | (refine vl_gs rfl (fun hb => ?_) (fun hb => ?_))
    | (refine vl_ps rfl (fun hb => ?_) (fun hb => ?_))
    | (refine VC.cond _ rfl (fun hb => ?_) (fun hb => ?_)))
  have hx1 := hx.le (ho1.le hb1)
  refine vl_c rfl (toCellS_f (by omega) (fun y hy => ?_) hx1.cl) (fun v M2 hq => ?_)
  · have := pairs_bulk (cs := x.H.cells) (c := y.c) (by rw [← hx.eq]; exact List.mem_map_of_mem hy)
    omega
  obtain ⟨ys, hyc, hcl, hnd, hfr, hle⟩ := hq
  obtain ⟨sa2, cap2, rfl⟩ := hcl.sl.len
  repeat' (first
    | (refine vl_add rfl rfl (by omega) ?_)
    | (refine vl_sub rfl rfl (by omega) ?_)
    | (refine vl_mul rfl rfl (by omega) ?_)
    | (refine vl_pure rfl ?_)
    | (refine vl_gy rfl rfl ?_)
    | (refine vl_gn rfl rfl ?_)
    | (refine vl_gu rfl ?_)
    | (refine vl_nil ?_)
    | (refine VC.seq ?_)
    | (refine VC.regV ?_)
    | (refine vl_idx rfl rfl (by omega) ?_)
    | (refine vl_alloc ?_)
    | (refine vl_stw rfl rfl rfl rfl (by first | rfl | assumption) (Nat.le_of_ble_eq_true rfl) ?_)
    | (refine sk_zero ?_)
    | (refine sk_succ ?_)
    | (refine wk_nil ?_)
    | (refine wk_cons ?_)
    | (refine vl_box rfl rfl ?_)
    | (refine vl_bsl rfl ?_)
    | (refine VC.dregV ?_)
    | (refine VC.block ?_)
    | (refine VC.ret ?_)
    | (refine VC.exit ?_)
    | (refine VC.skip ?_)
    | (refine seqQ_n ?_)
    | (refine seqQ_r ?_)
    | (refine seqQ_e ?_)
    | (refine blkQ_n ?_)
    | (refine blkQ_r ?_)
    | (refine blkQ_e ?_)
    | (refine blkQ_o rfl ?_)
    | (refine vl_gs rfl (fun hb => ?_) (fun hb => ?_))
    | (refine vl_ps rfl (fun hb => ?_) (fun hb => ?_))
    | (refine VC.cond _ rfl (fun hb => ?_) (fun hb => ?_)))
  have hx2 := hx1.le hle
  refine vl_c rfl (toIntS_f (by omega) hx2.gray) (fun v M3 hq => ?_)
  obtain ⟨b3, hb3, ho3, hw3, hs3⟩ := hq
  obtain ⟨sa3, cap3, rfl⟩ := hs3.len
  repeat' (first
    | (refine vl_add rfl rfl (by omega) ?_)
    | (refine vl_sub rfl rfl (by omega) ?_)
    | (refine vl_mul rfl rfl (by omega) ?_)
    | (refine vl_pure rfl ?_)
    | (refine vl_gy rfl rfl ?_)
    | (refine vl_gn rfl rfl ?_)
    | (refine vl_gu rfl ?_)
    | (refine vl_nil ?_)
    | (refine VC.seq ?_)
    | (refine VC.regV ?_)
    | (refine vl_idx rfl rfl (by omega) ?_)
    | (refine vl_alloc ?_)
    | (refine vl_stw rfl rfl rfl rfl (by first | rfl | assumption) (Nat.le_of_ble_eq_true rfl) ?_)
    | (refine sk_zero ?_)
    | (refine sk_succ ?_)
    | (refine wk_nil ?_)
    | (refine wk_cons ?_)
    | (refine vl_box rfl rfl ?_)
    | (refine vl_bsl rfl ?_)
    | (refine VC.dregV ?_)
    | (refine VC.block ?_)
    | (refine VC.ret ?_)
    | (refine VC.exit ?_)
    | (refine VC.skip ?_)
    | (refine seqQ_n ?_)
    | (refine seqQ_r ?_)
    | (refine seqQ_e ?_)
    | (refine blkQ_n ?_)
    | (refine blkQ_r ?_)
    | (refine blkQ_e ?_)
    | (refine blkQ_o rfl ?_)
    | (refine vl_gs rfl (fun hb => ?_) (fun hb => ?_))
    | (refine vl_ps rfl (fun hb => ?_) (fun hb => ?_))
    | (refine VC.cond _ rfl (fun hb => ?_) (fun hb => ?_)))
  refine fnQ_r rfl (Mem.le_refl _) ⟨⟨x.H, .slice sa1 x.H.regs.length cap1, .slice sa2 ys.length cap2, .slice sa3 x.H.gray.length cap3, ys⟩, rfl, rfl, ⟨⟨(hs1.le hle).le (ho3.le hb3), hcl.le (ho3.le hb3), ?_, hs3⟩, ?_⟩, ?_, Mem.le_trans (Mem.le_trans (ho1.le hb1) hle) (ho3.le hb3)⟩
  · rw [hyc, hx.eq]
  · simp only [HS.fp, hw1, hw3]
    have h2 : ∀ b, b ∈ fpC (.slice sa2 ys.length cap2) ys → M2 b ≠ none := by
      intro b hb
      simp only [fpC, List.mem_append, List.mem_flatMap] at hb
      rcases hb with hb | ⟨y, hy, hb⟩
      · exact hcl.sl.own_some hb
      · exact (hcl.ps y hy).own_some hb
    have h1 : M1 b1 ≠ none := hs1.own_some (by rw [hw1]; simp)
    refine List.nodup_append.2 ⟨by simp, List.nodup_append.2 ⟨hnd, by simp, ?_⟩, ?_⟩
    · intro c hc d hd e
      simp only [List.mem_singleton] at hd
      subst hd; subst e
      exact h2 _ hc hb3
    · intro c hc d hd e
      simp only [List.mem_singleton] at hc
      subst hc; subst e
      rcases List.mem_append.1 hd with hd | hd
      · exact h1 (hfr _ hd)
      · simp only [List.mem_singleton] at hd
        subst hd
        exact h1 (none_of_le hle hb3)
  · intro b hb
    simp only [HS.fp, hw1, hw3, List.mem_append, List.mem_singleton] at hb
    rcases hb with rfl | hb | rfl
    · exact hb1
    · exact none_of_le (ho1.le hb1) (hfr b hb)
    · exact none_of_le (ho1.le hb1) (none_of_le hle hb3)
end Go.Proofs.Ytcmllambknfleaa.E
/- A heap that was handed in, opened. Conditions: none. -/
set_option linter.unusedVariables false
set_option linter.unusedSimpArgs false
set_option maxRecDepth 100000
namespace Go.Proofs.Ytcmllambknfleaa.E
open Go Go.ChangeShapes Go.WideShapes Go.ChangeAt Go.RowKit
instance : Inhabited Word := ⟨⟨0, 0, 0⟩⟩
instance : Inhabited Pair := ⟨⟨default, default⟩⟩
instance : Inhabited CS := ⟨⟨⟨0, 0, 0, 0, 0, 0, 0, []⟩, none, 0⟩⟩
theorem und_word : Try.prog.underlying 49 = some (.struct (fsOf Try.prog 49)) := by kernel_rfl
theorem fs_word : (fsOf Try.prog 49).toList.map (fun f => (f.type, f.offset)) = [(3, 0), (2, 1), (3, 2)] := by kernel_rfl
theorem cof_word : Try.prog.cellsOf 49 = 3 := by kernel_rfl
theorem und_pair : Try.prog.underlying 148 = some (.struct (fsOf Try.prog 148)) := by kernel_rfl
theorem fs_pair : (fsOf Try.prog 148).toList.map (fun f => (f.type, f.offset)) = [(49, 0), (49, 3)] := by kernel_rfl
theorem cof_pair : Try.prog.cellsOf 148 = 6 := by kernel_rfl
theorem und_cell : Try.prog.underlying 123 = some (.struct (fsOf Try.prog 123)) := by kernel_rfl
theorem fs_cell : (fsOf Try.prog 123).toList.map (fun f => (f.type, f.offset)) = [(3, 0), (3, 1), (3, 2), (3, 3), (3, 4), (3, 5), (3, 6), (121, 7)] := by kernel_rfl
theorem cof_cell : Try.prog.cellsOf 123 = 8 := by kernel_rfl
theorem und_heap : Try.prog.underlying 43 = some (.struct (fsOf Try.prog 43)) := by kernel_rfl
theorem fs_heap : (fsOf Try.prog 43).toList.map (fun f => (f.type, f.offset)) = [(3, 0), (3, 1), (3, 2), (40, 3), (41, 4), (3, 5), (3, 6), (3, 7), (33, 8), (3, 9), (3, 10), (3, 11), (3, 12)] := by kernel_rfl
theorem cof_heap : Try.prog.cellsOf 43 = 13 := by kernel_rfl
theorem und_words : Try.prog.underlying 40 = some (.slice 49) := by kernel_rfl
theorem und_pairs : Try.prog.underlying 121 = some (.slice 148) := by kernel_rfl
theorem und_cells : Try.prog.underlying 41 = some (.slice 123) := by kernel_rfl
theorem und_ints : Try.prog.underlying 33 = some (.slice 3) := by kernel_rfl
theorem cof_words : Try.prog.cellsOf 40 = 1 := by kernel_rfl
theorem cof_pairs : Try.prog.cellsOf 121 = 1 := by kernel_rfl
theorem cof_cells : Try.prog.cellsOf 41 = 1 := by kernel_rfl
theorem cof_ints : Try.prog.cellsOf 33 = 1 := by kernel_rfl
section
variable {H : Type} {enc : TypeId × Value → H} {W : World} {spare : Nat → Bool} {held : Bool}
theorem open_word : ∀ n cs y, DataW.trod enc Try.prog W 0 spare held n 49 cs = some y → ∃ x : Word, cs = wv x ∧ True := by
  intro n cs y h
  obtain ⟨hl, m, hf⟩ := open_struct und_word fs_word h
  rw [cof_word] at hl
  obtain ⟨_, h0⟩ := hf 0 _ _ rfl
  obtain ⟨_, h1⟩ := hf 1 _ _ rfl
  obtain ⟨_, h2⟩ := hf 2 _ _ rfl
  obtain ⟨a, ha⟩ := open_i h0
  obtain ⟨b, hb⟩ := open_i64 h1
  obtain ⟨c, hc⟩ := open_i h2
  refine ⟨⟨a, b, c⟩, ?_, trivial⟩
  match cs, hl with
  | [v0, v1, v2], _ =>
    simp at ha hb hc
    subst ha; subst hb; subst hc; rfl
theorem open_pair : ∀ n cs y, DataW.trod enc Try.prog W 0 spare held n 148 cs = some y → ∃ x : Pair, cs = pv x ∧ True := by
  intro n cs y h
  obtain ⟨hl, m, hf⟩ := open_struct und_pair fs_pair h
  rw [cof_pair] at hl
  obtain ⟨_, h0⟩ := hf 0 _ _ rfl
  obtain ⟨_, h1⟩ := hf 1 _ _ rfl
  rw [cof_word] at h0 h1
  obtain ⟨a, ha, _⟩ := open_word _ _ _ h0
  obtain ⟨b, hb, _⟩ := open_word _ _ _ h1
  refine ⟨⟨a, b⟩, ?_, trivial⟩
  match cs, hl with
  | [v0, v1, v2, v3, v4, v5], _ =>
    simp [wv] at ha hb
    obtain ⟨rfl, rfl, rfl⟩ := ha
    obtain ⟨rfl, rfl, rfl⟩ := hb
    rfl
theorem open_int1 : ∀ n cs y, DataW.trod enc Try.prog W 0 spare held n 3 cs = some y → ∃ x : Int, cs = iv x ∧ True := by
  intro n cs y h
  obtain ⟨k, e, _⟩ := DataW.trod_int und_int h
  exact ⟨k, e, trivial⟩
theorem open_cell : ∀ n cs y, DataW.trod enc Try.prog W 0 spare held n 123 cs = some y → ∃ x : CS, cs = csv x ∧ SlR (memOf W) 6 pv x.s x.c.pairs := by
  intro n cs y h
  obtain ⟨hl, m, hf⟩ := open_struct und_cell fs_cell h
  rw [cof_cell] at hl
  obtain ⟨_, h0⟩ := hf 0 _ _ rfl
  obtain ⟨_, h1⟩ := hf 1 _ _ rfl
  obtain ⟨_, h2⟩ := hf 2 _ _ rfl
  obtain ⟨_, h3⟩ := hf 3 _ _ rfl
  obtain ⟨_, h4⟩ := hf 4 _ _ rfl
  obtain ⟨_, h5⟩ := hf 5 _ _ rfl
  obtain ⟨_, h6⟩ := hf 6 _ _ rfl
  obtain ⟨_, h7⟩ := hf 7 _ _ rfl
  obtain ⟨a0, e0⟩ := open_i h0
  obtain ⟨a1, e1⟩ := open_i h1
  obtain ⟨a2, e2⟩ := open_i h2
  obtain ⟨a3, e3⟩ := open_i h3
  obtain ⟨a4, e4⟩ := open_i h4
  obtain ⟨a5, e5⟩ := open_i h5
  obtain ⟨a6, e6⟩ := open_i h6
  rw [cof_pairs] at h7
  obtain ⟨v, ps, e7, hs, _⟩ := open_sl (f := pv) (Q := fun _ => True) (fun _ => rfl) (by omega) und_pairs cof_pair open_pair h7
  obtain ⟨sa, cap, rfl⟩ := hs.len
  have e7 := take_one e7
  refine ⟨⟨⟨a0, a1, a2, a3, a4, a5, a6, ps⟩, sa, cap⟩, ?_, hs⟩
  match cs, hl with
  | [v0, v1, v2, v3, v4, v5, v6, v7], _ =>
    simp at e0 e1 e2 e3 e4 e5 e6 e7
    subst e0; subst e1; subst e2; subst e3; subst e4; subst e5; subst e6; subst e7; rfl
theorem open_heap {n : Nat} {cs : List Value} {y : DataW H × List MemPlace} (h : DataW.trod enc Try.prog W 0 spare held n 43 cs = some y) : ∃ x : HS, cs = hv x.H x.rs x.cs x.gs ∧ RHVR (memOf W) x := by
  obtain ⟨hl, m, hf⟩ := open_struct und_heap fs_heap h
  rw [cof_heap] at hl
  obtain ⟨_, h0⟩ := hf 0 _ _ rfl
  obtain ⟨_, h1⟩ := hf 1 _ _ rfl
  obtain ⟨_, h2⟩ := hf 2 _ _ rfl
  obtain ⟨_, h3⟩ := hf 3 _ _ rfl
  obtain ⟨_, h4⟩ := hf 4 _ _ rfl
  obtain ⟨_, h5⟩ := hf 5 _ _ rfl
  obtain ⟨_, h6⟩ := hf 6 _ _ rfl
  obtain ⟨_, h7⟩ := hf 7 _ _ rfl
  obtain ⟨_, h8⟩ := hf 8 _ _ rfl
  obtain ⟨_, h9⟩ := hf 9 _ _ rfl
  obtain ⟨_, h10⟩ := hf 10 _ _ rfl
  obtain ⟨_, h11⟩ := hf 11 _ _ rfl
  obtain ⟨_, h12⟩ := hf 12 _ _ rfl
  obtain ⟨a0, e0⟩ := open_i h0
  obtain ⟨a1, e1⟩ := open_i h1
  obtain ⟨a2, e2⟩ := open_i h2
  rw [cof_words] at h3
  obtain ⟨rv, rs, e3, hs3, _⟩ := open_sl (f := wv) (Q := fun _ => True) (fun _ => rfl) (by omega) und_words cof_word open_word h3
  rw [cof_cells] at h4
  obtain ⟨cv', ys, e4, hs4, hq4⟩ := open_sl (f := csv) (size := 8) (Q := fun x : CS => SlR (memOf W) 6 pv x.s x.c.pairs) (fun _ => rfl) (by omega) und_cells cof_cell open_cell h4
  obtain ⟨a5, e5⟩ := open_i h5
  obtain ⟨a6, e6⟩ := open_i h6
  obtain ⟨a7, e7⟩ := open_i h7
  rw [cof_ints] at h8
  obtain ⟨gv, gs, e8, hs8, _⟩ := open_sl (f := iv) (size := 1) (Q := fun _ => True) (fun _ => rfl) (by omega) und_ints cof_int open_int1 h8
  obtain ⟨a9, e9⟩ := open_i h9
  obtain ⟨a10, e10⟩ := open_i h10
  obtain ⟨a11, e11⟩ := open_i h11
  obtain ⟨a12, e12⟩ := open_i h12
  have e3 := take_one e3
  have e4 := take_one e4
  have e8 := take_one e8
  refine ⟨⟨⟨a0, a1, a2, rs, ys.map (·.c), a5, a6, a7, gs, a9, a10, a11, a12⟩, rv, cv', gv, ys⟩, ?_, ⟨hs3, ⟨hs4, hq4⟩, rfl, hs8⟩⟩
  match cs, hl with
  | [v0, v1, v2, v3, v4, v5, v6, v7, v8, v9, v10, v11, v12], _ =>
    simp at e0 e1 e2 e3 e4 e5 e6 e7 e8 e9 e10 e11 e12
    subst e0; subst e1; subst e2; subst e3; subst e4; subst e5; subst e6; subst e7; subst e8; subst e9; subst e10; subst e11; subst e12; rfl
end
end Go.Proofs.Ytcmllambknfleaa.E
/- The engine's second storey: memory as separate pieces; what is asked of code over such pieces. Conditions: none. -/
set_option linter.unusedVariables false
set_option linter.unusedSimpArgs false
namespace Go.Proofs.Ytcmllambknfleaa.E
open Go

/-! ### Pieces of memory -/
abbrev Asr := Mem → Prop
def Mem.un (a b : Mem) : Mem := fun x => match a x with | some k => some k | none => b x
def Disj (a b : Mem) : Prop := ∀ x, a x = none ∨ b x = none
theorem Disj.symm {a b : Mem} (h : Disj a b) : Disj b a := fun x => (h x).symm
theorem un_l {a b : Mem} {x : Nat} {k : Bk} (h : a x = some k) : a.un b x = some k := by unfold Mem.un; rw [h]
theorem un_n {a b : Mem} {x : Nat} (h : a x = none) : a.un b x = b x := by unfold Mem.un; rw [h]
theorem un_r {a b : Mem} (d : Disj a b) {x : Nat} {k : Bk} (h : b x = some k) : a.un b x = some k := by
  rcases d x with e | e
  · rw [un_n e]; exact h
  · rw [h] at e; cases e
theorem le_l (a b : Mem) : a.le (a.un b) := fun x k h => un_l h
theorem le_r {a b : Mem} (d : Disj a b) : b.le (a.un b) := fun x k h => un_r d h
theorem un_none {a b : Mem} {x : Nat} : a.un b x = none ↔ a x = none ∧ b x = none := by
  unfold Mem.un
  cases h : a x <;> simp
theorem un_comm {a b : Mem} (d : Disj a b) : a.un b = b.un a := by
  funext x
  rcases d x with e | e
  · rw [un_n e]; cases h : b x with
    | none => rw [un_n h, e]
    | some k => rw [un_l h]
  · rw [un_n (a := b) e]; cases h : a x with
    | none => rw [un_n h, e]
    | some k => rw [un_l h]
theorem un_assoc (a b c : Mem) : (a.un b).un c = a.un (b.un c) := by
  funext x
  unfold Mem.un
  cases h : a x <;> simp
theorem disj_un {a b c : Mem} : Disj a (b.un c) ↔ Disj a b ∧ Disj a c := by
  constructor
  · intro h
    refine ⟨fun x => ?_, fun x => ?_⟩ <;> rcases h x with e | e
    · exact .inl e
    · exact .inr (un_none.1 e).1
    · exact .inl e
    · exact .inr (un_none.1 e).2
  · rintro ⟨h1, h2⟩ x
    rcases h1 x with e | e
    · exact .inl e
    · rcases h2 x with e' | e'
      · exact .inl e'
      · exact .inr (un_none.2 ⟨e, e'⟩)
theorem disj_un' {a b c : Mem} : Disj (a.un b) c ↔ Disj a c ∧ Disj b c := by
  constructor
  · intro h; have := disj_un.1 h.symm; exact ⟨this.1.symm, this.2.symm⟩
  · rintro ⟨h1, h2⟩; exact (disj_un.2 ⟨h1.symm, h2.symm⟩).symm
theorem un_upd_l {a b : Mem} {x : Nat} (k : Bk) : (a.un b).upd x k = (a.upd x k).un b := by
  funext y
  by_cases e : y = x
  · subst e; rw [Mem.upd_same, un_l (Mem.upd_same _ _ _)]
  · rw [Mem.upd_ne _ _ e]; unfold Mem.un; rw [Mem.upd_ne _ _ e]
theorem un_upd_r {a b : Mem} {x : Nat} (k : Bk) (h : a x = none) : (a.un b).upd x k = a.un (b.upd x k) := by
  funext y
  by_cases e : y = x
  · subst e; rw [Mem.upd_same, un_n h, Mem.upd_same]
  · rw [Mem.upd_ne _ _ e]; unfold Mem.un; rw [Mem.upd_ne _ _ e]
theorem Disj.upd {a b : Mem} (d : Disj a b) {x : Nat} (k : Bk) (h : b x = none) : Disj (a.upd x k) b := by
  intro y
  by_cases e : y = x
  · subst e; exact .inr h
  · rw [Mem.upd_ne _ _ e]; exact d y
def one (b : Nat) (k : Bk) : Mem := fun x => if x = b then some k else none
theorem one_same (b : Nat) (k : Bk) : one b k b = some k := by simp [one]
theorem one_ne {b x : Nat} (k : Bk) (h : x ≠ b) : one b k x = none := by simp [one, h]
theorem one_upd (b : Nat) (k k' : Bk) : (one b k).upd b k' = one b k' := by
  funext x; unfold Mem.upd one; split <;> simp_all
theorem upd_one {m : Mem} {b : Nat} (k : Bk) (h : m b = none) : m.upd b k = (one b k).un m := by
  funext x
  by_cases e : x = b
  · subst e; rw [Mem.upd_same, un_l (one_same _ _)]
  · rw [Mem.upd_ne _ _ e, un_n (one_ne _ e)]
theorem disj_one {m : Mem} {b : Nat} (k : Bk) (h : m b = none) : Disj (one b k) m := by
  intro x
  by_cases e : x = b
  · subst e; exact .inr h
  · exact .inl (one_ne _ e)
def emp : Mem := fun _ => none
theorem emp_un (m : Mem) : emp.un m = m := rfl
theorem un_emp (m : Mem) : m.un emp = m := by
  funext x; unfold Mem.un emp; cases m x <;> rfl
theorem disj_emp (m : Mem) : Disj m emp := fun _ => .inr rfl

def star : List Asr → Asr
  | [], m => m = emp
  | A :: r, m => ∃ a b, Disj a b ∧ m = a.un b ∧ A a ∧ star r b
theorem star_append {As Bs : List Asr} : ∀ {m : Mem}, star (As ++ Bs) m ↔ ∃ a b, Disj a b ∧ m = a.un b ∧ star As a ∧ star Bs b := by
  induction As with
  | nil =>
    intro m
    constructor
    · intro h; exact ⟨emp, m, fun _ => .inl rfl, (emp_un m).symm, rfl, h⟩
    · rintro ⟨a, b, d, rfl, rfl, h⟩; rw [emp_un]; exact h
  | cons A r ih =>
    intro m
    constructor
    · rintro ⟨a, b, d, rfl, hA, h⟩
      obtain ⟨c, e, d2, rfl, h1, h2⟩ := ih.1 h
      obtain ⟨d3, d4⟩ := disj_un.1 d
      exact ⟨a.un c, e, disj_un'.2 ⟨d4, d2⟩, (un_assoc _ _ _).symm, ⟨a, c, d3, rfl, hA, h1⟩, h2⟩
    · rintro ⟨x, e, d, rfl, ⟨a, c, d2, rfl, hA, h1⟩, h2⟩
      obtain ⟨d3, d4⟩ := disj_un'.1 d
      exact ⟨a, c.un e, disj_un.2 ⟨d2, d3⟩, un_assoc _ _ _, hA, ih.2 ⟨c, e, d4, rfl, h1, h2⟩⟩
theorem star_swap {A B : Asr} {r : List Asr} {m : Mem} (h : star (A :: B :: r) m) : star (B :: A :: r) m := by
  obtain ⟨a, x, d, rfl, hA, b, c, d2, rfl, hB, hr⟩ := h
  obtain ⟨d3, d4⟩ := disj_un.1 d
  refine ⟨b, a.un c, disj_un.2 ⟨d3.symm, d2⟩, ?_, hB, a, c, d4, rfl, hA, hr⟩
  rw [← un_assoc, un_comm d3, un_assoc]
theorem star_cons_mono {A B : Asr} {r s : List Asr} {m : Mem} (h : star (A :: r) m) (h1 : ∀ m, A m → B m) (h2 : ∀ m, star r m → star s m) : star (B :: s) m := by
  obtain ⟨a, b, d, e, hA, hr⟩ := h
  exact ⟨a, b, d, e, h1 _ hA, h2 _ hr⟩
/-- one piece, found among others -/
structure Pk (As : List Asr) (A : Asr) (r : List Asr) : Prop where
  out : ∀ m, star As m → star (A :: r) m
theorem pk_h {A : Asr} {r : List Asr} : Pk (A :: r) A r := ⟨fun _ h => h⟩
theorem pk_t {A B : Asr} {r r' : List Asr} (h : Pk r A r') : Pk (B :: r) A (B :: r') :=
  ⟨fun m hm => star_swap (star_cons_mono hm (fun _ h => h) h.out)⟩
/-- some pieces, found among others -/
structure Pm (As As1 F : List Asr) : Prop where
  out : ∀ m, star As m → star (As1 ++ F) m
theorem pm_nil {F : List Asr} : Pm F [] F := ⟨fun _ h => h⟩
theorem pm_cons {As As' As1 F : List Asr} {A : Asr} (h : Pk As A As') (h2 : Pm As' As1 F) : Pm As (A :: As1) F :=
  ⟨fun m hm => star_cons_mono (h.out m hm) (fun _ h => h) h2.out⟩
/-- what follows, some pieces dropped -/
structure Ent (As Bs : List Asr) : Prop where
  out : ∀ m, star As m → ∃ m', m'.le m ∧ star Bs m'
theorem Ent.refl (As : List Asr) : Ent As As := ⟨fun m h => ⟨m, Mem.le_refl _, h⟩⟩
theorem Pm.ent {As As1 F : List Asr} (h : Pm As As1 F) : Ent As As1 := ⟨fun m hm => by
  obtain ⟨a, b, d, rfl, h1, h2⟩ := star_append.1 (h.out m hm)
  exact ⟨a, le_l _ _, h1⟩⟩
theorem Ent.trans {A B C : List Asr} (h : Ent A B) (k : Ent B C) : Ent A C := ⟨fun m hm => by
  obtain ⟨m1, l1, s1⟩ := h.out m hm
  obtain ⟨m2, l2, s2⟩ := k.out m1 s1
  exact ⟨m2, Mem.le_trans l2 l1, s2⟩⟩

/-! ### The frame -/
theorem Fn.frame {P : Program} {f : FuncId} {args : List Value} {a b : Mem} {post : Value → Mem → Prop} (d : Disj a b) (h : Fn P f args a post) :
    Fn P f args (a.un b) (fun v M' => ∃ m', post v m' ∧ Disj m' b ∧ M' = m'.un b) := by
  refine ⟨fun w hw => ?_⟩
  have hwa : Sat w a := hw.le (le_l _ _)
  have hwb : Sat w b := hw.le (le_r d)
  refine (h.out w hwa).mono fun e w' ⟨v, m', he, hp, hs, ht⟩ => ?_
  have hd : Disj m' b := by
    intro x
    cases h1 : m' x with
    | none => exact .inl rfl
    | some k =>
      right
      cases h2 : b x with
      | none => rfl
      | some k2 =>
        have hlt := (hwb x k2 h2).lt
        rcases ht.dom x (by rw [h1]; simp) with h3 | h3
        · rcases d x with h4 | h4
          · exact absurd h4 h3
          · rw [h2] at h4; cases h4
        · omega
  refine ⟨v, m'.un b, he, ⟨m', hp, hd, rfl⟩, ?_, ⟨ht.os, ht.tape, ht.output, ht.size, ?_, ?_⟩⟩
  · intro x k hk
    cases h1 : m' x with
    | some k1 => rw [un_l h1] at hk; cases hk; exact hs x _ h1
    | none =>
      rw [un_n h1] at hk
      have hb := hwb x k hk
      refine hb.of_eq (ht.keep x hb.lt ?_)
      rcases d x with h4 | h4
      · exact h4
      · rw [hk] at h4; cases h4
  · intro x hx hn
    exact ht.keep x hx (un_none.1 hn).1
  · intro x hx
    cases h1 : m' x with
    | some k1 =>
      rcases ht.dom x (by rw [h1]; simp) with h3 | h3
      · exact .inl fun e => h3 (un_none.1 e).1
      · exact .inr h3
    | none =>
      rw [un_n h1] at hx
      exact .inl fun e => hx (un_none.1 e).2
theorem Fn.le {P : Program} {f : FuncId} {args : List Value} {m M : Mem} {post : Value → Mem → Prop} (l : m.le M) (h : Fn P f args m post) : Fn P f args M post := by
  refine ⟨fun w hw => (h.out w (hw.le l)).mono fun e w' ⟨v, m', he, hp, hs, ht⟩ => ⟨v, m', he, hp, hs, ht.os, ht.tape, ht.output, ht.size, fun b hb hn => ht.keep b hb ?_, fun b hb => ?_⟩⟩
  · cases h : m b with
    | none => rfl
    | some k => rw [l b k h] at hn; cases hn
  · rcases ht.dom b hb with h | h
    · refine .inl fun e => h ?_
      cases h' : m b with
      | none => rfl
      | some k => rw [l b k h'] at e; cases e
    · exact .inr h

/-! ### What is asked, over pieces -/
def upQ (Q : X → St → List Asr → Prop) : X → St → Mem → Prop := fun x S M => ∃ As m, m.le M ∧ star As m ∧ Q x S As
structure VA (E : Env) (c : C) (Q : X → St → List Asr → Prop) (S : St) (As : List Asr) : Prop where
  out : ∀ m, star As m → VC E c (upQ Q) S m
def upP (post : St → List Asr → Prop) : St → Mem → Prop := fun S M => ∃ As m, m.le M ∧ star As m ∧ post S As
structure LA (P : Program) (l : List I) (post : St → List Asr → Prop) (S : St) (As : List Asr) : Prop where
  out : ∀ m, star As m → VL P l (upP post) S m
/-- A CALL, over pieces. -/
structure FnA (P : Program) (f : FuncId) (args : List Value) (As : List Asr) (post : Value → List Asr → Prop) : Prop where
  out : ∀ m, star As m → Fn P f args m (fun v M' => ∃ As' m', m'.le M' ∧ star As' m' ∧ post v As')
theorem FnA.mono {P : Program} {f : FuncId} {args : List Value} {As : List Asr} {post post' : Value → List Asr → Prop} (h : FnA P f args As post) (k : ∀ v As', post v As' → post' v As') : FnA P f args As post' :=
  ⟨fun m hm => (h.out m hm).mono fun v M' ⟨As', m', l, s, p⟩ => ⟨As', m', l, s, k _ _ p⟩⟩
theorem FnA.frame {P : Program} {f : FuncId} {args : List Value} {As F : List Asr} {post : Value → List Asr → Prop} (h : FnA P f args As post) : FnA P f args (As ++ F) (fun v As' => ∃ As1, post v As1 ∧ As' = As1 ++ F) :=
  ⟨fun m hm => by
    obtain ⟨a, b, d, rfl, h1, h2⟩ := star_append.1 hm
    refine ((h.out a h1).frame d).mono ?_
    rintro v M' ⟨m', ⟨As', m1, l1, s1, hp⟩, hd, rfl⟩
    have hd1 : Disj m1 b := fun x => by
      rcases hd x with e | e
      · left
        cases h : m1 x with
        | none => rfl
        | some k => rw [l1 x k h] at e; cases e
      · exact .inr e
    refine ⟨As' ++ F, m1.un b, ?_, star_append.2 ⟨m1, b, hd1, rfl, s1, h2⟩, As', hp, rfl⟩
    intro x k hk
    cases h : m1 x with
    | some k1 => rw [un_l h] at hk; cases hk; exact un_l (l1 x _ h)
    | none => rw [un_n h] at hk; exact un_r hd hk⟩
theorem FnA.ent {P : Program} {f : FuncId} {args : List Value} {As Bs : List Asr} {post : Value → List Asr → Prop} (h : FnA P f args Bs post) (e : Ent As Bs) : FnA P f args As post :=
  ⟨fun m hm => by obtain ⟨m', l, s⟩ := e.out m hm; exact (h.out m' s).le l⟩
theorem upP_of {post : St → List Asr → Prop} {S : St} {As : List Asr} {m : Mem} (s : star As m) (h : post S As) : upP post S m := ⟨As, m, Mem.le_refl _, s, h⟩

theorem vcK_mono {P : Program} {c : K} {d : Option Nat} {p p' : St → Mem → Prop} (k : ∀ S M, p S M → p' S M) {S : St} {M : Mem} (h : vcK P c d p S M) : vcK P c d p' S M := by
  have am : ∀ {size bytes : Nat} {s : Value} {src : List Value} {n : Nat} {q q' : Value → Mem → Prop}, (∀ v M, q v M → q' v M) → appM M size bytes s src n q → appM M size bytes s src n q' := by
    intro size bytes s src n q q' kq h
    unfold appM at *
    split at h
    · obtain ⟨h1, h2, h3, h4⟩ := h
      refine ⟨h1, h2, h3, ?_⟩
      rcases h4 with ⟨h5, h6⟩ | ⟨h5, h6⟩
      · exact .inl ⟨h5, kq _ _ h6⟩
      · exact .inr ⟨h5, fun b c z e1 e2 e3 => kq _ _ (h6 b c z e1 e2 e3)⟩
    · obtain ⟨cs, h1, h2, h4⟩ := h
      refine ⟨cs, h1, h2, ?_⟩
      rcases h4 with ⟨h5, h6, h7⟩ | ⟨h5, h6, h7⟩
      · exact .inl ⟨h5, h6, kq _ _ h7⟩
      · exact .inr ⟨h5, h6, fun b c z e1 e2 e3 => kq _ _ (h7 b c z e1 e2 e3)⟩
    · exact h
  cases c
  case call => obtain ⟨args, h1, h2⟩ := h; exact ⟨args, h1, h2.mono fun v M' h => k _ _ h⟩
  case callv => obtain ⟨g, u, c, args, h1, h2, h3, h4⟩ := h; exact ⟨g, u, c, args, h1, h2, h3, h4.mono fun v M' h => k _ _ h⟩
  case store =>
    obtain ⟨v, h1, h2, h3, h4⟩ := h
    refine ⟨v, h1, h2, h3, ?_⟩
    rcases h4 with ⟨s, o, cs, a1, a2, a3, a4⟩ | ⟨b, o, cs, a1, a2, a3, a4⟩
    · exact .inl ⟨s, o, cs, a1, a2, a3, k _ _ a4⟩
    · exact .inr ⟨b, o, cs, a1, a2, a3, k _ _ a4⟩
  case alloc ow z =>
    cases ow with
    | false => exact fun b hb => k _ _ (h b hb)
    | true => obtain ⟨sv, h1, h2⟩ := h; exact ⟨sv, h1, k _ _ h2⟩
  case box ow x =>
    cases ow with
    | false => obtain ⟨v, h1, h2⟩ := h; exact ⟨v, h1, fun b hb => k _ _ (h2 b hb)⟩
    | true => obtain ⟨sv, h1, h2⟩ := h; exact ⟨sv, h1, k _ _ h2⟩
  case bslice ow len size z ps =>
    cases ow with
    | false => obtain ⟨v, h1, h2⟩ := h; exact ⟨v, h1, fun b hb => k _ _ (h2 b hb)⟩
    | true => obtain ⟨sv, h1, h2⟩ := h; exact ⟨sv, h1, k _ _ h2⟩
  case mkslice => obtain ⟨n, m, h1, h2, h3, h4, h5, h6⟩ := h; exact ⟨n, m, h1, h2, h3, h4, h5, fun b hb => k _ _ (h6 b hb)⟩
  case app => obtain ⟨sv, src, n, h1, h2, h3, h4⟩ := h; exact ⟨sv, src, n, h1, h2, h3, am (fun _ _ h => k _ _ h) h4⟩
  case appz => obtain ⟨sv, n, h1, h2, h3, h4, h5⟩ := h; exact ⟨sv, n, h1, h2, h3, h4, am (fun _ _ h => k _ _ h) h5⟩
  case mkmap => exact fun b hb => k _ _ (h b hb)
  case mupd => obtain ⟨b, es, c, j, v, h1, h2, h3, h4, h5, h6⟩ := h; exact ⟨b, es, c, j, v, h1, h2, h3, h4, h5, k _ _ h6⟩
  case mdel => obtain ⟨b, es, c, j, h1, h2, h3, h4, h5⟩ := h; exact ⟨b, es, c, j, h1, h2, h3, h4, k _ _ h5⟩
  all_goals (obtain ⟨sv, h1, h2⟩ := h; exact ⟨sv, h1, k _ _ h2⟩)
theorem vcO_mono {P : Program} {i : I} {p p' : St → Mem → Prop} (k : ∀ S M, p S M → p' S M) {S : St} {M : Mem} (h : vcO P i p S M) : vcO P i p' S M := by
  unfold vcO at *
  split at h
  · exact vcK_mono k h
  · split at h
    · exact ⟨fun e => vcK_mono k (h.1 e), fun e => k _ _ (h.2 e)⟩
    · exact k _ _ h
    · exact h
theorem VL.mono {P : Program} {l : List I} {post post' : St → Mem → Prop} (k : ∀ S M, post S M → post' S M) {S : St} {M : Mem} (h : VL P l post S M) : VL P l post' S M := by
  refine ⟨?_⟩
  have h := h.out
  revert S M
  induction l with
  | nil => intro S M _ h; exact k S M h
  | cons i r ih =>
    intro S M _ h
    have ih' : ∀ S M, vcL P r post S M → vcL P r post' S M := fun S M h => ih ⟨h⟩ h
    show vcO P i (vcL P r post') S M
    have h : vcO P i (vcL P r post) S M := h
    exact vcO_mono ih' h
section
variable {E : Env} {Q : X → St → List Asr → Prop} {S : St} {As Bs : List Asr} {K : St → List Asr → Prop}
def seqA (K : St → List Asr → Prop) (Q : X → St → List Asr → Prop) : X → St → List Asr → Prop
  | .nrm => K
  | x => Q x
def blkA (id : Nat) (Q : X → St → List Asr → Prop) : X → St → List Asr → Prop
  | .ext i => if i = id then Q .nrm else Q (.ext i)
  | x => Q x
theorem VA.ent {c : C} (e : Ent As Bs) (h : VA E c Q S Bs) : VA E c Q S As :=
  ⟨fun m hm => by obtain ⟨m', l, s⟩ := e.out m hm; exact VC.drop l (h.out m' s)⟩
theorem VA.pk {A : Asr} {c : C} (e : Pk As A Bs) (h : VA E c Q S (A :: Bs)) : VA E c Q S As := ⟨fun m hm => h.out m (e.out m hm)⟩
theorem v_reg {l : List I} (h : LA E.P l (Q .nrm) S As) : VA E (.reg l) Q S As :=
  ⟨fun m hm => VC.regV (h.out m hm)⟩
theorem v_dreg {n : Nat} {l : List I} (h : LA E.P l (Q .nrm) (fun t => junkD (dsOf l n) (S t)) As) : VA E (.dreg n l) Q S As :=
  ⟨fun m hm => VC.dregV (h.out m hm)⟩
theorem v_zreg {ds : List Nat} {zs cs : List I} (h : LA E.P zs (fun S' _ => LA E.P cs (Q .nrm) S' As) (fun t => junkD ds (S t)) []) : VA E (.zreg ds zs cs) Q S As :=
  ⟨fun m hm => VC.zreg (VL.mono (fun S' M' ⟨_, _, _, _, h⟩ => (h.out m hm).out) (h.out emp rfl)).out⟩
theorem v_seq {a b : C} (h : VA E a (seqA (VA E b Q) Q) S As) : VA E (.seq a b) Q S As :=
  ⟨fun m hm => VC.seq ((h.out m hm).mono fun x S M ⟨As', m', l, s, hq⟩ => by
    cases x with
    | nrm => exact VC.drop l (hq.out m' s)
    | ret => exact ⟨As', m', l, s, hq⟩
    | ext i => exact ⟨As', m', l, s, hq⟩)⟩
theorem v_cond {x : Operand} {a b : C} (t : Bool) (hx : ev S x = some (.bool t)) (h1 : t = true → VA E a Q S As) (h2 : t = false → VA E b Q S As) : VA E (.cond x a b) Q S As :=
  ⟨fun m hm => VC.cond t hx (fun e => (h1 e).out m hm) (fun e => (h2 e).out m hm)⟩
theorem v_blk {id : Nat} {c : C} (h : VA E c (blkA id Q) S As) : VA E (.block id c) Q S As :=
  ⟨fun m hm => VC.block ((h.out m hm).mono fun x S M ⟨As', m', l, s, hq⟩ => by
    cases x with
    | nrm => exact ⟨As', m', l, s, hq⟩
    | ret => exact ⟨As', m', l, s, hq⟩
    | ext i =>
      unfold blkA at hq
      unfold blkQ
      simp only at hq ⊢
      split
      · rename_i e; rw [if_pos e] at hq; exact ⟨As', m', l, s, hq⟩
      · rename_i e; rw [if_neg e] at hq; exact ⟨As', m', l, s, hq⟩)⟩
theorem v_skip (h : Q .nrm S As) : VA E .skip Q S As := ⟨fun m hm => VC.skip ⟨As, m, Mem.le_refl _, hm, h⟩⟩
theorem v_ret (h : Q .ret S As) : VA E .ret Q S As := ⟨fun m hm => VC.ret ⟨As, m, Mem.le_refl _, hm, h⟩⟩
theorem v_exit {id : Nat} (h : Q (.ext id) S As) : VA E (.exit id) Q S As := ⟨fun m hm => VC.exit ⟨As, m, Mem.le_refl _, hm, h⟩⟩
theorem v_mono {c : C} {Q' : X → St → List Asr → Prop} (h : VA E c Q S As) (k : ∀ x S As, Q x S As → Q' x S As) : VA E c Q' S As :=
  ⟨fun m hm => (h.out m hm).mono fun x S M ⟨As', m', l, s, hq⟩ => ⟨As', m', l, s, k _ _ _ hq⟩⟩
/-- what is proved once of what follows, by whatever way one comes to it -/
theorem v_cut {a b : C} (J : St → List Asr → Prop) (h : VA E a (seqA J Q) S As) (h2 : ∀ S As, J S As → VA E b Q S As) : VA E (.seq a b) Q S As :=
  v_seq (v_mono h fun x S As hq => by cases x <;> first | exact h2 _ _ hq | exact hq)
theorem v_weak {c : C} (l : List (Nat × SV)) (hS : leA l S) (h : VA E c Q (ofL l) As) : VA E c Q S As :=
  ⟨fun m hm => VC.weak l hS (Mem.le_refl _) (h.out m hm)⟩
/-- A LOOP: the slots and the pieces at its head, and what holds there when at most k rounds are to come. -/
theorem v_loop {c : C} {α : Type} (T : α → List (Nat × SV)) (At : α → List Asr) (Inv : Nat → α → Prop) (h0 : ∃ k x, leA (T x) S ∧ Ent As (At x) ∧ Inv k x)
    (h : ∀ k x, Inv k x → VA E c (seqA (fun S' As' => ∃ k' x', k' < k ∧ leA (T x') S' ∧ Ent As' (At x') ∧ Inv k' x') Q) (ofL (T x)) (At x)) : VA E (.loop c) Q S As :=
  ⟨fun m hm => by
    obtain ⟨k0, x0, a1, a2, a3⟩ := h0
    obtain ⟨m0, l0, s0⟩ := a2.out m hm
    refine VC.loop T (fun k x M => Inv k x ∧ star (At x) M) ⟨k0, x0, m0, a1, l0, a3, s0⟩ ?_
    rintro k x M ⟨hi, hs⟩
    refine ((h k x hi).out M hs).mono ?_
    rintro y S' M' ⟨As', m', l, s, hq⟩
    cases y with
    | nrm =>
      obtain ⟨k', x', b1, b2, b3, b4⟩ := hq
      obtain ⟨m2, l2, s2⟩ := b3.out m' s
      exact ⟨k', x', m2, b1, b2, Mem.le_trans l2 l, b4, s2⟩
    | ret => exact ⟨As', m', l, s, hq⟩
    | ext i => exact ⟨As', m', l, s, hq⟩⟩
theorem v_ct {x : Operand} {a b : C} (hx : ev S x = some (.bool true)) (h : VA E a Q S As) : VA E (.cond x a b) Q S As := v_cond true hx (fun _ => h) (fun e => by cases e)
theorem v_cf {x : Operand} {a b : C} (hx : ev S x = some (.bool false)) (h : VA E b Q S As) : VA E (.cond x a b) Q S As := v_cond false hx (fun e => by cases e) (fun _ => h)
theorem v_cd {x : Operand} {a b : C} {p : Prop} {_ : Decidable p} (hx : ev S x = some (.bool (decide p))) (h1 : p → VA E a Q S As) (h2 : ¬ p → VA E b Q S As) : VA E (.cond x a b) Q S As :=
  v_cond _ hx (fun h => h1 (of_decide_eq_true h)) (fun h => h2 (of_decide_eq_false h))
theorem v_ce {x : Operand} {a b : C} {u w : Int} (hx : ev S x = some (.bool (u == w))) (h1 : u = w → VA E a Q S As) (h2 : u ≠ w → VA E b Q S As) : VA E (.cond x a b) Q S As :=
  v_cond _ hx (fun h => h1 (by simpa using h)) (fun h => h2 (by simpa using h))
theorem v_cn {x : Operand} {a b : C} {u w : Int} (hx : ev S x = some (.bool (u != w))) (h1 : u ≠ w → VA E a Q S As) (h2 : u = w → VA E b Q S As) : VA E (.cond x a b) Q S As :=
  v_cond _ hx (fun h => h1 (by simpa using h)) (fun h => h2 (by simpa using h))
theorem v_cnd {x : Operand} {a b : C} {p : Prop} {_ : Decidable p} (hx : ev S x = some (.bool (!decide p))) (h1 : ¬ p → VA E a Q S As) (h2 : p → VA E b Q S As) : VA E (.cond x a b) Q S As :=
  v_cond _ hx (fun h => h1 (by simpa using h)) (fun h => h2 (by simpa using h))
theorem s_n (h : K S As) : seqA K Q .nrm S As := h
theorem s_r (h : Q .ret S As) : seqA K Q .ret S As := h
theorem s_e {i : Nat} (h : Q (.ext i) S As) : seqA K Q (.ext i) S As := h
theorem b_n {id : Nat} (h : Q .nrm S As) : blkA id Q .nrm S As := h
theorem b_r {id : Nat} (h : Q .ret S As) : blkA id Q .ret S As := h
theorem b_e {id : Nat} (h : Q .nrm S As) : blkA id Q (.ext id) S As := by unfold blkA; simp only [if_true]; exact h
theorem b_o {id i : Nat} (hi : Nat.beq i id = false) (h : Q (.ext i) S As) : blkA id Q (.ext i) S As := by
  have e : i ≠ id := fun e => by subst e; simp at hi
  unfold blkA; simp only [if_neg e]; exact h
end

/-! ### A function -/
def fnA (rs : List RV) (post : Value → List Asr → Prop) : X → St → List Asr → Prop
  | .ext _, _, _ => False
  | _, S, As => ∃ v As', (∀ m, star As m → resV S m rs = some v) ∧ Ent As As' ∧ post v As'
theorem fa_r {rl : List RV} {S : St} {As As' : List Asr} {v : Value} {post : Value → List Asr → Prop} (h : ∀ m, star As m → resV S m rl = some v) (e : Ent As As') (hp : post v As') : fnA rl post .ret S As := ⟨v, As', h, e, hp⟩
theorem fa_n {rl : List RV} {S : St} {As As' : List Asr} {v : Value} {post : Value → List Asr → Prop} (h : ∀ m, star As m → resV S m rl = some v) (e : Ent As As') (hp : post v As') : fnA rl post .nrm S As := ⟨v, As', h, e, hp⟩
theorem rvs_le {S : St} {m M : Mem} (l : m.le M) : ∀ {rs : List RV} {vs : List Value}, rvs S m rs = some vs → rvs S M rs = some vs
  | [], vs, h => h
  | r :: t, vs, h => by
    simp only [rvs] at h ⊢
    split at h
    · rename_i v l' h1 h2
      have h1' : rvV S M r = some v := by
        cases r with
        | tmp t => exact h1
        | cell t one n =>
          simp only [rvV] at h1 ⊢
          split at h1
          · exact h1
          · rename_i b o hl
            split at h1
            · rename_i cs hM; rw [l _ _ hM]; exact h1
            · cases h1
          · cases h1
      rw [h1', rvs_le l h2]; exact h
    · cases h
theorem resV_le {S : St} {m M : Mem} (l : m.le M) {rs : List RV} {v : Value} (h : resV S m rs = some v) : resV S M rs = some v := by
  unfold resV at *
  cases h1 : rvs S m rs with
  | none => rw [h1] at h; cases h
  | some vs => rw [rvs_le l h1]; rw [h1] at h; exact h
theorem fnA_of {E : Env} {c : C} {f : FuncId} {args : List Value} {nt : Nat} {rl : List RV} {P : Program} {As : List Asr} {post : Value → List Asr → Prop}
    (hf : ∀ {M : Mem} {p : Value → Mem → Prop}, VC E c (fnQ rl p) (initS args nt) M → Fn P f args M p) (h : VA E c (fnA rl post) (initS args nt) As) : FnA P f args As post :=
  ⟨fun m hm => hf ((h.out m hm).mono fun x S M ⟨As', m', l, s, hq⟩ => by
    cases x with
    | ext i => exact hq
    | nrm =>
      obtain ⟨v, As2, h1, h2, h3⟩ := hq
      obtain ⟨m2, l2, s2⟩ := h2.out m' s
      exact ⟨v, m2, resV_le l (h1 m' s), Mem.le_trans l2 l, As2, m2, Mem.le_refl _, s2, h3⟩
    | ret =>
      obtain ⟨v, As2, h1, h2, h3⟩ := hq
      obtain ⟨m2, l2, s2⟩ := h2.out m' s
      exact ⟨v, m2, resV_le l (h1 m' s), Mem.le_trans l2 l, As2, m2, Mem.le_refl _, s2, h3⟩)⟩
end Go.Proofs.Ytcmllambknfleaa.E
/- The engine's second storey: the rules by which operations are walked over pieces; slices, boxes and maps as pieces. Conditions: none. -/
set_option linter.unusedVariables false
set_option linter.unusedSimpArgs false
namespace Go.Proofs.Ytcmllambknfleaa.E
open Go

/-! ### Reading and writing pieces -/
theorem cell_le {m M : Mem} (l : m.le M) {b o : Nat} {v : Value} (h : cell m b o = some v) : cell M b o = some v := by
  unfold cell at *
  cases hm : m b with
  | none => rw [hm] at h; cases h
  | some k => rw [l _ _ hm]; rw [hm] at h; exact h
theorem cells_le {m M : Mem} (l : m.le M) {b o n : Nat} {v : List Value} (h : cells m b o n = some v) : cells M b o n = some v := by
  unfold cells at *
  cases hm : m b with
  | none => rw [hm] at h; cases h
  | some k => rw [l _ _ hm]; rw [hm] at h; exact h
structure RdA (A : Asr) (b o : Nat) (v : Value) : Prop where
  out : ∀ m, A m → cell m b o = some v
structure Rd (As : List Asr) (b o : Nat) (v : Value) : Prop where
  out : ∀ m, star As m → cell m b o = some v
theorem rd_h {A : Asr} {r : List Asr} {b o : Nat} {v : Value} (h : RdA A b o v) : Rd (A :: r) b o v :=
  ⟨fun m ⟨a, c, d, e, hA, hr⟩ => by subst e; exact cell_le (le_l _ _) (h.out a hA)⟩
theorem rd_t {A : Asr} {r : List Asr} {b o : Nat} {v : Value} (h : Rd r b o v) : Rd (A :: r) b o v :=
  ⟨fun m ⟨a, c, d, e, hA, hr⟩ => by subst e; exact cell_le (le_r d) (h.out c hr)⟩
structure RsA (A : Asr) (b o n : Nat) (v : List Value) : Prop where
  out : ∀ m, A m → cells m b o n = some v
structure Rs (As : List Asr) (b o n : Nat) (v : List Value) : Prop where
  out : ∀ m, star As m → cells m b o n = some v
theorem rs_h {A : Asr} {r : List Asr} {b o n : Nat} {v : List Value} (h : RsA A b o n v) : Rs (A :: r) b o n v :=
  ⟨fun m ⟨a, c, d, e, hA, hr⟩ => by subst e; exact cells_le (le_l _ _) (h.out a hA)⟩
theorem rs_t {A : Asr} {r : List Asr} {b o n : Nat} {v : List Value} (h : Rs r b o n v) : Rs (A :: r) b o n v :=
  ⟨fun m ⟨a, c, d, e, hA, hr⟩ => by subst e; exact cells_le (le_r d) (h.out c hr)⟩
structure UpA (A : Asr) (b o : Nat) (vs : List Value) (A' : Asr) : Prop where
  out : ∀ m, A m → ∃ row, m b = some (.row row) ∧ o + vs.length ≤ row.length ∧ A' (m.upd b (.row (wr row o vs)))
structure Up (As : List Asr) (b o : Nat) (vs : List Value) (As' : List Asr) : Prop where
  out : ∀ m, star As m → ∃ row, m b = some (.row row) ∧ o + vs.length ≤ row.length ∧ star As' (m.upd b (.row (wr row o vs)))
theorem up_h {A A' : Asr} {r : List Asr} {b o : Nat} {vs : List Value} (h : UpA A b o vs A') : Up (A :: r) b o vs (A' :: r) :=
  ⟨fun m ⟨a, c, d, e, hA, hr⟩ => by
    subst e
    obtain ⟨row, h1, h2, h3⟩ := h.out a hA
    have hc : c b = none := by
      rcases d b with e | e
      · rw [h1] at e; cases e
      · exact e
    exact ⟨row, un_l h1, h2, _, c, d.upd _ hc, un_upd_l _, h3, hr⟩⟩
theorem up_t {A : Asr} {r r' : List Asr} {b o : Nat} {vs : List Value} (h : Up r b o vs r') : Up (A :: r) b o vs (A :: r') :=
  ⟨fun m ⟨a, c, d, e, hA, hr⟩ => by
    subst e
    obtain ⟨row, h1, h2, h3⟩ := h.out c hr
    have ha : a b = none := by
      rcases d b with e | e
      · exact e
      · rw [h1] at e; cases e
    exact ⟨row, un_r d h1, h2, a, _, (d.symm.upd _ ha).symm, un_upd_r _ ha, hA, h3⟩⟩
/-- something that is so of whatever memory holds these pieces -/
structure KnA (A : Asr) (p : Prop) : Prop where
  out : ∀ m, A m → p
structure Kn (As : List Asr) (p : Prop) : Prop where
  out : ∀ m, star As m → p
theorem kn_h {A : Asr} {r : List Asr} {p : Prop} (h : KnA A p) : Kn (A :: r) p := ⟨fun m ⟨a, c, d, e, hA, hr⟩ => h.out a hA⟩
theorem kn_t {A : Asr} {r : List Asr} {p : Prop} (h : Kn r p) : Kn (A :: r) p := ⟨fun m ⟨a, c, d, e, hA, hr⟩ => h.out c hr⟩

/-! ### Slices, boxes, maps as pieces -/
structure D where
  a : Option Addr
  cap : Nat
def D.b (d : D) : Nat := match d.a with | some x => x.block | none => 0
def D.o (d : D) : Nat := match d.a with | some x => x.off | none => 0
def D.v (d : D) (n : Nat) : Value := .slice d.a n d.cap
def slA (size : Nat) {α : Type} (f : α → List Value) (d : D) (xs : List α) : Asr := fun m => Sl m size f (.slice d.a xs.length d.cap) xs ∧ ∀ b, b ∉ own (.slice d.a xs.length d.cap) → m b = none
def bx (b : Nat) (vs : List Value) : Asr := fun m => m = one b (.row vs)
section
variable {α : Type} {f : α → List Value} {size : Nat} {d : D} {xs : List α}
theorem D.plain {m : Mem} (h : slA size f d xs m) : d.a = none ∨ d.a = some ⟨d.b, d.o, none⟩ := by
  rcases h.1 with ⟨c, e, _⟩ | ⟨b, o, cap, row, e, _⟩
  · simp only [Value.slice.injEq] at e; exact .inl e.1
  · right
    simp only [Value.slice.injEq] at e
    have : d.a = some ⟨b, o, none⟩ := e.1
    unfold D.b D.o; rw [this]
theorem D.som {m : Mem} (h : slA size f d xs m) {i : Nat} {e : α} (hi : xs[i]? = some e) : d.a = some ⟨d.b, d.o, none⟩ := by
  rcases h.1 with ⟨c, e, _, e2⟩ | ⟨b, o, cap, row, e, _⟩
  · subst e2; simp at hi
  · simp only [Value.slice.injEq] at e
    have : d.a = some ⟨b, o, none⟩ := e.1
    unfold D.b D.o; rw [this]
theorem D.own_b {m : Mem} (h : slA size f d xs m) {i : Nat} {e : α} (hi : xs[i]? = some e) (n : Nat) : own (.slice d.a n d.cap) = [d.b] := by
  rw [D.som h hi]; rfl
theorem rs_sl {i : Nat} {e : α} (hs : ∀ x, (f x).length = size) (hi : xs[i]? = some e) : RsA (slA size f d xs) d.b (d.o + i * size) size (f e) :=
  ⟨fun m h => by
    obtain ⟨b, o, ha, hc⟩ := h.1.at2 hs hi
    have e1 : d.b = b := by unfold D.b; rw [ha]
    have e2 : d.o = o := by unfold D.o; rw [ha]
    rw [e1, e2]; exact hc⟩
theorem rd_sl {i j : Nat} {e : α} {v : Value} (hs : ∀ x, (f x).length = size) (hi : xs[i]? = some e) (hj : (f e)[j]? = some v) : RdA (slA size f d xs) d.b (d.o + i * size + j) v :=
  ⟨fun m h => cells_cell ((rs_sl hs hi).out m h) hj⟩
theorem cells_sub {M : Mem} {b o n j k : Nat} {vs ws : List Value} (h : cells M b o n = some vs) (hj : j + k ≤ vs.length) (hw : (vs.drop j).take k = ws) : cells M b (o + j) k = some ws := by
  obtain ⟨cs, hM, hle, rfl⟩ := cells_row h
  simp only [List.length_take, List.length_drop] at hj
  have key : (if o + j + k ≤ cs.length then some ((cs.drop (o + j)).take k) else none) = some ws := by
    rw [if_pos (by omega)]
    congr 1
    rw [← hw, List.drop_take, List.drop_drop, List.take_take]
    congr 1; omega
  unfold cells
  rcases hM with hM | ⟨_, _, hM⟩ <;> rw [hM] <;> exact key
theorem rs_slp {i j k : Nat} {e : α} {ws : List Value} (hs : ∀ x, (f x).length = size) (hi : xs[i]? = some e) (hj : j + k ≤ size) (hw : ((f e).drop j).take k = ws) : RsA (slA size f d xs) d.b (d.o + i * size + j) k ws :=
  ⟨fun m h => cells_sub ((rs_sl hs hi).out m h) (by rw [hs]; exact hj) hw⟩
theorem up_sl {i j : Nat} {e e' : α} {vs : List Value} (hs : ∀ x, (f x).length = size) (hi : xs[i]? = some e) (hj : j + vs.length ≤ size) (hf : f e' = wr (f e) j vs) : UpA (slA size f d xs) d.b (d.o + i * size + j) vs (slA size f d (xs.set i e')) :=
  ⟨fun m h => by
    have ha := D.som h hi
    have h1 := h.1
    have h2 := h.2
    rw [ha] at h1 h2
    obtain ⟨row, g1, g2, g3⟩ := h1.wr hs hi hj hf
    refine ⟨row, g1, by omega, ?_, ?_⟩
    · rw [List.length_set, ha]; exact g3
    · intro b hb
      rw [List.length_set, ha] at hb
      have hne : b ≠ d.b := fun e => hb (by simp [own, e])
      rw [Mem.upd_ne _ _ hne]; exact h2 b hb⟩
/-- a slice's address is a plain one -/
theorem bs_sl {i : Nat} {e : α} (hi : xs[i]? = some e) : KnA (slA size f d xs) (d.a = some ⟨d.b, d.o, none⟩) := ⟨fun m h => D.som h hi⟩
theorem pl_sl : KnA (slA size f d xs) (d.a = none ∨ d.a = some ⟨d.b, d.o, none⟩) := ⟨fun m h => D.plain h⟩
theorem bd_sl : KnA (slA size f d xs) (xs.length ≤ 140737488355328) := ⟨fun m h => h.1.bound⟩
theorem cp_sl : KnA (slA size f d xs) (xs.length ≤ d.cap) := ⟨fun m h => by
  rcases h.1 with ⟨c, e, _, e2⟩ | ⟨b, o, cap, row, e, hM, hc, _⟩
  · subst e2; simp
  · simp only [Value.slice.injEq] at e
    rw [e.2.2]; exact hc⟩
theorem own_len (a : Option Addr) (n n' cap cap' : Nat) : own (.slice a n cap) = own (.slice a n' cap') := by cases a <;> rfl
theorem flat_take (hs : ∀ x, (f x).length = size) (xs : List α) (k : Nat) (hk : k ≤ xs.length) : (xs.flatMap f).take (k * size) = (xs.take k).flatMap f := by
  have h2 : xs.flatMap f = (xs.take k).flatMap f ++ (xs.drop k).flatMap f := by rw [← List.flatMap_append, List.take_append_drop]
  rw [h2, List.take_left' (by rw [flat_len hs, List.length_take, Nat.min_eq_left hk])]
theorem flat_drop (hs : ∀ x, (f x).length = size) (xs : List α) (k : Nat) (hk : k ≤ xs.length) : (xs.flatMap f).drop (k * size) = (xs.drop k).flatMap f := by
  have h2 : xs.flatMap f = (xs.take k).flatMap f ++ (xs.drop k).flatMap f := by rw [← List.flatMap_append, List.take_append_drop]
  rw [h2, List.drop_left' (by rw [flat_len hs, List.length_take, Nat.min_eq_left hk])]
/-- the first k elements alone -/
theorem sl_take (hs : ∀ x, (f x).length = size) {k : Nat} {m : Mem} (h : slA size f d xs m) (hk : k ≤ xs.length) : slA size f d (xs.take k) m := by
  have hl : (xs.take k).length = k := by simp; omega
  refine ⟨?_, fun b hb => h.2 b (by rw [own_len _ _ (xs.take k).length _ d.cap]; exact hb)⟩
  rcases h.1 with ⟨c, e, e1, e2⟩ | ⟨b, o, cap, row, e, hM, hc, hb, hr, he⟩
  · subst e2; left; exact ⟨c, by simpa using e, e1, by simp⟩
  · right
    refine ⟨b, o, cap, row, ?_, hM, by omega, by omega, hr, ?_⟩
    · rw [hl]; simp only [Value.slice.injEq, true_and] at e ⊢; exact ⟨e.1, e.2⟩
    · rw [hl, ← flat_take hs xs k hk, ← he, List.take_take]
      congr 1
      have := Nat.mul_le_mul_right size hk
      omega
def D.drop (d : D) (size k : Nat) : D := ⟨match d.a with | some ⟨b, o, none⟩ => some (if d.cap = k then ⟨b, o, none⟩ else ⟨b, o + k * size, none⟩) | x => x, d.cap - k⟩
theorem own_drop (k n n' : Nat) : own (.slice (d.drop size k).a n (d.drop size k).cap) = own (.slice d.a n' d.cap) := by
  unfold D.drop
  obtain ⟨a, cap⟩ := d
  cases a with
  | none => rfl
  | some a =>
    obtain ⟨b, o, sp⟩ := a
    cases sp with
    | none => simp only; split <;> rfl
    | some s => rfl
theorem sl_drop (hs : ∀ x, (f x).length = size) {k : Nat} {m : Mem} (h : slA size f d xs m) (hk : k ≤ xs.length) : slA size f (d.drop size k) (xs.drop k) m := by
  have hl : (xs.drop k).length = xs.length - k := by simp
  refine ⟨?_, fun b hb => h.2 b (by rw [own_drop _ _ xs.length] at hb; exact hb)⟩
  rcases h.1 with ⟨c, e, e1, e2⟩ | ⟨b, o, cap, row, e, hM, hc, hb, hr, he⟩
  · subst e2
    have hk0 : k = 0 := by simpa using hk
    subst hk0
    obtain ⟨a, cp⟩ := d
    simp only [List.length_nil, Value.slice.injEq] at e
    obtain ⟨ea, _, ec⟩ := e
    subst ea; subst ec; subst e1
    exact .inl ⟨0, by simp [D.drop], rfl, rfl⟩
  · obtain ⟨a, cp⟩ := d
    simp only [Value.slice.injEq] at e
    obtain ⟨ea, _, ec⟩ := e
    subst ea; subst ec
    right
    unfold D.drop
    simp only
    by_cases hck : cp = k
    · rw [if_pos hck]
      have hkl : k = xs.length := by omega
      refine ⟨b, o, cp - k, row, by rw [hl], hM, by omega, by omega, ?_, ?_⟩
      · have : (cp - k) * size = 0 := by rw [show cp - k = 0 by omega]; simp
        omega
      · rw [hl, show xs.length - k = 0 by omega, hkl]; simp
    · rw [if_neg hck]
      have e2 : cp * size = k * size + (cp - k) * size := by rw [← Nat.add_mul]; congr 1; omega
      refine ⟨b, o + k * size, cp - k, row, by rw [hl], hM, by omega, by omega, by omega, ?_⟩
      rw [hl, ← flat_drop hs xs k hk, ← he, List.drop_take, List.drop_drop]
      congr 1
      rw [Nat.sub_mul]
theorem rd_bx {b o : Nat} {vs : List Value} {v : Value} (h : vs[o]? = some v) : RdA (bx b vs) b o v := ⟨fun m hm => by
  have hm : m = one b (.row vs) := hm
  subst hm; unfold cell; rw [one_same]; exact h⟩
theorem rs_bx {b o n : Nat} {vs ws : List Value} (ho : o + n ≤ vs.length) (h : (vs.drop o).take n = ws) : RsA (bx b vs) b o n ws := ⟨fun m hm => by
  have hm : m = one b (.row vs) := hm
  subst hm; unfold cells; rw [one_same]; simp only; rw [if_pos ho, h]⟩
theorem up_bx {b o : Nat} {vs ws : List Value} {A : Asr} (ho : o + ws.length ≤ vs.length) (hA : WrK vs o ws (fun c => A = bx b c)) : UpA (bx b vs) b o ws A := ⟨fun m hm => by
  have hm : m = one b (.row vs) := hm
  have := hA.out
  subst hm; subst this
  exact ⟨vs, one_same _ _, ho, one_upd _ _ _⟩⟩
end

/-! ### Maps -/
def keyI (e : MapEntry) : Int := match e.key with | .int _ j => j | _ => 0
def mpA (b : Nat) (g : Int → Option Value) : Asr := fun m => ∃ es c, m = one b (.mp es c) ∧ mpInts es.toList = true ∧ (es.toList.map keyI).Nodup ∧ ∀ j, mpFind j es.toList = g j
theorem keyIs_iff {j : Int} {e : MapEntry} (h : (match e.key with | .int .i64 _ => true | _ => false) = true) : keyIs j e = decide (keyI e = j) := by
  unfold keyIs keyI
  split at h
  · rename_i i hk; rw [hk]; simp only; by_cases h : i = j <;> simp [h]
  · cases h
theorem mpFind_cons {j : Int} {e : MapEntry} {r : List MapEntry} (h : (match e.key with | .int .i64 _ => true | _ => false) = true) : mpFind j (e :: r) = if keyI e = j then some e.val else mpFind j r := by
  unfold keyI
  split at h
  · rename_i i hk; simp only [mpFind, hk]
  · cases h
theorem mpFind_none {j : Int} : ∀ {l : List MapEntry}, mpInts l = true → (mpFind j l = none ↔ j ∉ l.map keyI)
  | [], _ => by simp [mpFind]
  | e :: r, h => by
    simp only [mpInts, Bool.and_eq_true] at h
    rw [mpFind_cons h.1]
    by_cases hk : keyI e = j
    · simp [hk]
    · rw [if_neg hk, mpFind_none h.2, List.map_cons, List.mem_cons, not_or]; exact ⟨fun a => ⟨fun e => hk e.symm, a⟩, fun a => a.2⟩
theorem mp_set {j : Int} {y : Value} : ∀ {l : List MapEntry} {i : Nat}, mpInts l = true → l.findIdx? (keyIs j) = some i →
    let l' := l.modify i fun e => { e with key := .int .i64 j, val := y }
    mpInts l' = true ∧ l'.map keyI = l.map keyI ∧ ∀ j', mpFind j' l' = if j' = j then some y else mpFind j' l
  | [], i, _, hi => by simp at hi
  | e :: r, i, h, hi => by
    simp only [mpInts, Bool.and_eq_true] at h
    rw [List.findIdx?_cons, keyIs_iff h.1] at hi
    by_cases hk : keyI e = j
    · simp only [hk, decide_true, if_true, Option.some.injEq] at hi
      subst hi
      simp only [List.modify_zero_cons]
      refine ⟨by simp only [mpInts, Bool.true_and]; exact h.2, ?_, ?_⟩
      · simp only [List.map_cons, List.cons.injEq, and_true]; rw [hk]; rfl
      · intro j'
        rw [mpFind_cons (by rfl), mpFind_cons h.1]
        have : keyI { key := Value.int IntKind.i64 j, val := y, born := e.born } = j := rfl
        simp only [this, hk]
        by_cases h' : j' = j
        · rw [if_pos h'.symm, if_pos h']
        · rw [if_neg (fun e => h' (Eq.symm e)), if_neg (fun e => h' (Eq.symm e)), if_neg h']
    · simp only [hk, decide_false, Bool.false_eq_true, if_false, Option.map_eq_some_iff] at hi
      obtain ⟨i', hi', rfl⟩ := hi
      obtain ⟨a1, a2, a3⟩ := mp_set (y := y) h.2 hi'
      simp only [List.modify_succ_cons]
      refine ⟨by simp only [mpInts, Bool.and_eq_true]; exact ⟨h.1, a1⟩, ?_, ?_⟩
      · simp only [List.map_cons, List.cons.injEq, true_and]; exact a2
      · intro j'
        rw [mpFind_cons h.1, mpFind_cons h.1, a3 j']
        by_cases h' : keyI e = j'
        · rw [if_pos h', if_pos h', if_neg (fun e' => hk (h'.trans e'))]
        · rw [if_neg h', if_neg h']
theorem mp_push {j : Int} {y : Value} {c : Nat} : ∀ {l : List MapEntry}, mpInts l = true → l.findIdx? (keyIs j) = none →
    let l' := l ++ [⟨.int .i64 j, y, c⟩]
    mpInts l' = true ∧ j ∉ l.map keyI ∧ l'.map keyI = l.map keyI ++ [j] ∧ ∀ j', mpFind j' l' = if j' = j then some y else mpFind j' l
  | [], _, _ => by
    refine ⟨rfl, by simp, rfl, fun j' => ?_⟩
    simp only [List.nil_append, mpFind]
    by_cases h : j' = j
    · rw [if_pos h.symm, if_pos h]
    · rw [if_neg (fun e => h (Eq.symm e)), if_neg h]
  | e :: r, h, hi => by
    simp only [mpInts, Bool.and_eq_true] at h
    rw [List.findIdx?_cons, keyIs_iff h.1] at hi
    by_cases hk : keyI e = j
    · simp [hk] at hi
    · simp only [hk, decide_false, Bool.false_eq_true, if_false, Option.map_eq_none_iff] at hi
      obtain ⟨a1, a2, a3, a4⟩ := mp_push (y := y) (c := c) h.2 hi
      refine ⟨by simp only [List.cons_append, mpInts, Bool.and_eq_true]; exact ⟨h.1, a1⟩, ?_, by simp only [List.cons_append, List.map_cons, a3], ?_⟩
      · simp only [List.map_cons, List.mem_cons, not_or]; exact ⟨fun e => hk e.symm, a2⟩
      · intro j'
        rw [List.cons_append, mpFind_cons h.1, mpFind_cons h.1, a4 j']
        by_cases h' : keyI e = j'
        · rw [if_pos h', if_pos h', if_neg (fun e' => hk (h'.trans e'))]
        · rw [if_neg h', if_neg h']
theorem mp_del {j : Int} : ∀ {l : List MapEntry} {i : Nat}, mpInts l = true → (l.map keyI).Nodup → l.findIdx? (keyIs j) = some i →
    mpInts (l.eraseIdx i) = true ∧ ((l.eraseIdx i).map keyI).Nodup ∧ ∀ j', mpFind j' (l.eraseIdx i) = if j' = j then none else mpFind j' l
  | [], i, _, _, hi => by simp at hi
  | e :: r, i, h, hn, hi => by
    simp only [mpInts, Bool.and_eq_true] at h
    simp only [List.map_cons, List.nodup_cons] at hn
    rw [List.findIdx?_cons, keyIs_iff h.1] at hi
    by_cases hk : keyI e = j
    · simp only [hk, decide_true, if_true, Option.some.injEq] at hi
      subst hi
      simp only [List.eraseIdx_zero, List.tail_cons]
      refine ⟨h.2, hn.2, fun j' => ?_⟩
      rw [mpFind_cons h.1]
      by_cases h' : j' = j
      · rw [if_pos h', h']; exact (mpFind_none h.2).2 (by rw [← hk]; exact hn.1)
      · rw [if_neg h', if_neg (fun e' => h' (by rw [← e', hk]))]
    · simp only [hk, decide_false, Bool.false_eq_true, if_false, Option.map_eq_some_iff] at hi
      obtain ⟨i', hi', rfl⟩ := hi
      obtain ⟨a1, a2, a3⟩ := mp_del h.2 hn.2 hi'
      simp only [List.eraseIdx_cons_succ]
      refine ⟨by simp only [mpInts, Bool.and_eq_true]; exact ⟨h.1, a1⟩, ?_, fun j' => ?_⟩
      · simp only [List.map_cons, List.nodup_cons]
        refine ⟨fun hm => hn.1 ?_, a2⟩
        exact List.Sublist.subset ((List.eraseIdx_sublist _ _).map keyI) hm
      · rw [mpFind_cons h.1, mpFind_cons h.1, a3 j']
        by_cases h' : keyI e = j'
        · rw [if_pos h', if_pos h', if_neg (fun e' => hk (h'.trans e'))]
        · rw [if_neg h', if_neg h']
theorem mpSet_A {b : Nat} {g : Int → Option Value} {es : Array MapEntry} {c : Nat} {j : Int} {y : Value} (h1 : mpInts es.toList = true) (h2 : (es.toList.map keyI).Nodup) (h3 : ∀ j, mpFind j es.toList = g j) :
    mpA b (fun i => if i = j then some y else g i) (one b (mpSet es c (.int .i64 j) j y)) := by
  unfold mpSet
  cases hf : es.toList.findIdx? (keyIs j) with
  | some i =>
    obtain ⟨a1, a2, a3⟩ := mp_set (y := y) h1 hf
    refine ⟨_, c, rfl, ?_⟩
    rw [Array.toList_modify]
    exact ⟨a1, by rw [a2]; exact h2, fun j' => by rw [a3 j', h3 j']⟩
  | none =>
    obtain ⟨a1, a2, a3, a4⟩ := mp_push (y := y) (c := c) h1 hf
    refine ⟨_, c + 1, rfl, ?_⟩
    rw [Array.toList_push]
    exact ⟨a1, by rw [a3]; exact List.nodup_append.2 ⟨h2, by simp, fun x hx y hy e => by simp at hy; subst hy; subst e; exact a2 hx⟩, fun j' => by rw [a4 j', h3 j']⟩
theorem mpDel_A {b : Nat} {g : Int → Option Value} {es : Array MapEntry} {c : Nat} {j : Int} (h1 : mpInts es.toList = true) (h2 : (es.toList.map keyI).Nodup) (h3 : ∀ j, mpFind j es.toList = g j) :
    mpA b (fun i => if i = j then none else g i) (one b (mpDel es c j)) := by
  unfold mpDel
  cases hf : es.toList.findIdx? (keyIs j) with
  | some i =>
    obtain ⟨a1, a2, a3⟩ := mp_del h1 h2 hf
    refine ⟨_, c, rfl, ?_⟩
    rw [Array.toList_eraseIdxIfInBounds]
    exact ⟨a1, a2, fun j' => by rw [a3 j', h3 j']⟩
  | none =>
    refine ⟨es, c, rfl, h1, h2, fun j' => ?_⟩
    rw [h3 j']
    show g j' = if j' = j then none else g j'
    by_cases e : j' = j
    · rw [if_pos e, e, ← h3 j]
      refine (mpFind_none h1).2 fun hm => ?_
      obtain ⟨x, hx, hk⟩ := List.mem_map.1 hm
      have := List.findIdx?_eq_none_iff.1 hf x hx
      have hx2 : ∀ {l : List MapEntry}, mpInts l = true → x ∈ l → (match x.key with | .int .i64 _ => true | _ => false) = true := by
        intro l
        induction l with
        | nil => intro _ h; cases h
        | cons e r ih =>
          intro h hm
          simp only [mpInts, Bool.and_eq_true] at h
          rcases List.mem_cons.1 hm with rfl | hm
          · exact h.1
          · exact ih h.2 hm
      rw [keyIs_iff (hx2 h1 hx), hk] at this
      simp at this
    · rw [if_neg e]
end Go.Proofs.Ytcmllambknfleaa.E
/- The engine's second storey: the rules of the walk over pieces. Conditions: none. -/
set_option linter.unusedVariables false
set_option linter.unusedSimpArgs false
namespace Go.Proofs.Ytcmllambknfleaa.E
open Go

/-! ### More memory does no harm -/
def UpC (p : St → Mem → Prop) : Prop := ∀ S M M', M.le M' → p S M → p S M'
theorem upP_up (post : St → List Asr → Prop) : UpC (upP post) := fun S M M' l ⟨As, m, h1, h2, h3⟩ => ⟨As, m, Mem.le_trans h1 l, h2, h3⟩
theorem le_none {M M' : Mem} (l : M.le M') {b : Nat} (h : M' b = none) : M b = none := by
  cases e : M b with
  | none => rfl
  | some k => rw [l b k e] at h; cases h
theorem Qt.up {P : Program} {f : FuncId} {args : List Value} {M M' : Mem} {v : Value} (l : M.le M') (h : Qt P f args M v) : Qt P f args M' v := by
  have hd : Disj M (fun x => match M x with | none => M' x | some _ => none) := fun x => by
    cases e : M x with
    | none => exact .inl rfl
    | some k => right; simp only [e]
  have he : M.un (fun x => match M x with | none => M' x | some _ => none) = M' := by
    funext x
    cases e : M x with
    | none => rw [un_n e]; simp only [e]
    | some k => rw [un_l e, l x k e]
  have := Fn.frame hd h
  rw [he] at this
  refine this.mono ?_
  rintro v' M1 ⟨m', ⟨h1, h2⟩, _, h3⟩
  subst h2
  exact ⟨h1, h3.trans he⟩
theorem fe_up {P : Program} {f : Nat → SV} {M M' : Mem} (l : M.le M') {k : K} {sv : SV} (h : FE P f M k sv) : FE P f M' k sv := by
  rcases h with h | h
  · exact .inl h
  · right
    cases k <;> (try (exact h.elim)) <;> (try exact h)
    case load one n x =>
      obtain ⟨b, o, cs, v, h1, h2, h3, h4⟩ := h
      exact ⟨b, o, cs, v, h1, h2.imp (l _ _) (fun ⟨t, fr, e⟩ => ⟨t, fr, l _ _ e⟩), h3, h4⟩
    case alloc ow z => cases ow <;> first | exact h.elim | exact h
    case box ow z => cases ow <;> first | exact h.elim | exact h
    case bslice ow len size z ps => cases ow <;> first | exact h.elim | exact h
    case look one z ok x i =>
      obtain ⟨es, c, j, h1, h2⟩ := h
      refine ⟨es, c, j, h1.imp id (fun ⟨b, e1, e2⟩ => ⟨b, e1, l _ _ e2⟩), h2⟩
    case qcall g xs =>
      obtain ⟨args, r, h1, h2, h3⟩ := h
      exact ⟨args, r, h1, h2.up l, h3⟩
theorem srcV_up {M M' : Mem} (l : M.le M') {size : Nat} {v : Value} {s : List Value × Nat} (h : srcC.srcV M size v = some s) : srcC.srcV M' size v = some s := by
  unfold srcC.srcV at *
  split at h
  · exact h
  · rename_i b o k c
    split at h
    · rename_i cs hM; simp only [l _ _ hM]; exact h
    · cases h
  · exact h
  · cases h
theorem src_up {f : Nat → SV} {M M' : Mem} (l : M.le M') {size : Nat} {x : Operand} {s : List Value × Nat} (h : srcC f M size x = some s) : srcC f M' size x = some s := by
  unfold srcC at *
  split at h
  · split at h
    · exact h
    · exact srcV_up l h
    · cases h
  · exact srcV_up l h
  · cases h
theorem appM_up {M M' : Mem} (l : M.le M') {size bytes : Nat} {s : Value} {src : List Value} {k : Nat} {q : Value → Mem → Prop} (hq : ∀ v M M', M.le M' → q v M → q v M') (h : appM M size bytes s src k q) : appM M' size bytes s src k q := by
  unfold appM at *
  split at h
  · obtain ⟨h1, h2, h3, h4⟩ := h
    refine ⟨h1, h2, h3, ?_⟩
    rcases h4 with ⟨h5, h6⟩ | ⟨h5, h6⟩
    · exact .inl ⟨h5, hq _ _ _ l h6⟩
    · exact .inr ⟨h5, fun b c z e1 e2 e3 => hq _ _ _ (Mem.upd_le_upd l _ _) (h6 b c z (le_none l e1) e2 e3)⟩
  · obtain ⟨cs, h1, h2, h4⟩ := h
    refine ⟨cs, l _ _ h1, h2, ?_⟩
    rcases h4 with ⟨h5, h6, h7⟩ | ⟨h5, h6, h7⟩
    · exact .inl ⟨h5, h6, hq _ _ _ (Mem.upd_le_upd l _ _) h7⟩
    · exact .inr ⟨h5, h6, fun b c z e1 e2 e3 => hq _ _ _ (Mem.upd_le_upd l _ _) (h7 b c z (le_none l e1) e2 e3)⟩
  · exact h
theorem vcK_up {P : Program} {k : K} {d : Option Nat} {p : St → Mem → Prop} (hp : UpC p) {S : St} {M M' : Mem} (l : M.le M') (h : vcK P k d p S M) : vcK P k d p S M' := by
  have flo : (∃ sv, FE P S M k sv ∧ p (if sv.isBox then putB S d sv else put S d sv) M) → ∃ sv, FE P S M' k sv ∧ p (if sv.isBox then putB S d sv else put S d sv) M' :=
    fun ⟨sv, h1, h2⟩ => ⟨sv, fe_up l h1, hp _ _ _ l h2⟩
  cases k
  case call => obtain ⟨args, h1, h2⟩ := h; exact ⟨args, h1, h2.le l⟩
  case callv => obtain ⟨g, u, c, args, h1, h2, h3, h4⟩ := h; exact ⟨g, u, c, args, h1, h2, h3, h4.le l⟩
  case store =>
    obtain ⟨v, h1, h2, h3, h4⟩ := h
    refine ⟨v, h1, h2, h3, ?_⟩
    rcases h4 with ⟨s, o, cs, a1, a2, a3, a4⟩ | ⟨b, o, cs, a1, a2, a3, a4⟩
    · exact .inl ⟨s, o, cs, a1, a2, a3, hp _ _ _ l a4⟩
    · exact .inr ⟨b, o, cs, a1, l _ _ a2, a3, hp _ _ _ (Mem.upd_le_upd l _ _) a4⟩
  case alloc ow z =>
    cases ow with
    | false => exact fun b hb => hp _ _ _ (Mem.upd_le_upd l _ _) (h b (le_none l hb))
    | true => exact flo h
  case box ow x =>
    cases ow with
    | false => obtain ⟨v, h1, h2⟩ := h; exact ⟨v, h1, fun b hb => hp _ _ _ (Mem.upd_le_upd l _ _) (h2 b (le_none l hb))⟩
    | true => exact flo h
  case bslice ow len size z ps =>
    cases ow with
    | false => obtain ⟨v, h1, h2⟩ := h; exact ⟨v, h1, fun b hb => hp _ _ _ (Mem.upd_le_upd l _ _) (h2 b (le_none l hb))⟩
    | true => exact flo h
  case mkslice => obtain ⟨n, m, h1, h2, h3, h4, h5, h6⟩ := h; exact ⟨n, m, h1, h2, h3, h4, h5, fun b hb => hp _ _ _ (Mem.upd_le_upd l _ _) (h6 b (le_none l hb))⟩
  case app => obtain ⟨sv, src, n, h1, h2, h3, h4⟩ := h; exact ⟨sv, src, n, h1, src_up l h2, h3, appM_up l (fun _ _ _ l h => hp _ _ _ l h) h4⟩
  case appz => obtain ⟨sv, n, h1, h2, h3, h4, h5⟩ := h; exact ⟨sv, n, h1, h2, h3, h4, appM_up l (fun _ _ _ l h => hp _ _ _ l h) h5⟩
  case mkmap => exact fun b hb => hp _ _ _ (Mem.upd_le_upd l _ _) (h b (le_none l hb))
  case mupd => obtain ⟨b, es, c, j, v, h1, h2, h3, h4, h5, h6⟩ := h; exact ⟨b, es, c, j, v, h1, l _ _ h2, h3, h4, h5, hp _ _ _ (Mem.upd_le_upd l _ _) h6⟩
  case mdel => obtain ⟨b, es, c, j, h1, h2, h3, h4, h5⟩ := h; exact ⟨b, es, c, j, h1, l _ _ h2, h3, h4, hp _ _ _ (Mem.upd_le_upd l _ _) h5⟩
  all_goals exact flo h
theorem vcL_up {P : Program} {p : St → Mem → Prop} (hp : UpC p) : ∀ l : List I, UpC (vcL P l p)
  | [] => hp
  | i :: r => fun S M M' le h => by
    have ih := vcL_up (P := P) hp r
    show vcO P i (vcL P r p) S M'
    have h : vcO P i (vcL P r p) S M := h
    unfold vcO at *
    split at h
    · exact vcK_up ih le h
    · split at h
      · exact ⟨fun e => vcK_up ih le (h.1 e), fun e => ih _ _ _ le (h.2 e)⟩
      · exact ih _ _ _ le h
      · exact h
theorem LA.at {P : Program} {l : List I} {post : St → List Asr → Prop} {S : St} {As : List Asr} (h : LA P l post S As) {m M : Mem} (s : star As m) (le : m.le M) : VL P l (upP post) S M :=
  ⟨vcL_up (upP_up post) l S m M le (h.out m s).out⟩

/-! ### The rules -/
section
variable {P : Program} {S : St} {As : List Asr} {post : St → List Asr → Prop} {r : List I} {d : Option Nat}
theorem a_n (h : post S As) : LA P [] post S As := ⟨fun m hm => vl_nil (upP_of hm h)⟩
theorem a_p {k : K} {sv : SV} (h : pe S k = some sv) (hp : LA P r post (put S d sv) As) : LA P (⟨d, none, k⟩ :: r) post S As := ⟨fun m hm => vl_pure h (hp.out m hm)⟩
theorem a_ad {x y : Operand} {a b : Int} (hx : ev S x = some (.int .i64 a)) (hy : ev S y = some (.int .i64 b)) (hb : -9223372036854775808 ≤ a + b ∧ a + b ≤ 9223372036854775807)
    (hp : LA P r post (put S d (.v (.int .i64 (a + b)))) As) : LA P (⟨d, none, .bin .add x y⟩ :: r) post S As := ⟨fun m hm => vl_add hx hy hb (hp.out m hm)⟩
theorem a_su {x y : Operand} {a b : Int} (hx : ev S x = some (.int .i64 a)) (hy : ev S y = some (.int .i64 b)) (hb : -9223372036854775808 ≤ a - b ∧ a - b ≤ 9223372036854775807)
    (hp : LA P r post (put S d (.v (.int .i64 (a - b)))) As) : LA P (⟨d, none, .bin .sub x y⟩ :: r) post S As := ⟨fun m hm => vl_sub hx hy hb (hp.out m hm)⟩
theorem a_ml {x y : Operand} {a b : Int} (hx : ev S x = some (.int .i64 a)) (hy : ev S y = some (.int .i64 b)) (hb : -9223372036854775808 ≤ a * b ∧ a * b ≤ 9223372036854775807)
    (hp : LA P r post (put S d (.v (.int .i64 (a * b)))) As) : LA P (⟨d, none, .bin .mul x y⟩ :: r) post S As := ⟨fun m hm => vl_mul hx hy hb (hp.out m hm)⟩
/-- an element's address -/
theorem a_i {e : D} {x y : Operand} {size n cap : Nat} {k : IntKind} {i : Int} (hx : ev S x = some (.slice e.a n cap)) (hy : ev S y = some (.int k i)) (hb : Kn As (e.a = some ⟨e.b, e.o, none⟩)) (hi : 0 ≤ i ∧ i < n)
    (hp : LA P r post (put S d (.v (.pointer (some ⟨e.b, e.o + i.toNat * size, none⟩)))) As) : LA P (⟨d, none, .iaddr size x y⟩ :: r) post S As :=
  ⟨fun m hm => vl_idx (by rw [hx, hb.out m hm]) hy hi (hp.out m hm)⟩
theorem a_l {n : Nat} {x : Operand} {b o : Nat} {v : Value} (hx : lc S x = some (.mm b o)) (hv : Rd As b o v) (hp : LA P r post (put S d (.v v)) As) : LA P (⟨d, none, .load true n x⟩ :: r) post S As :=
  ⟨fun m hm => vl_ld hx (hv.out m hm) (hp.out m hm)⟩
theorem a_ls {n : Nat} {x : Operand} {b o : Nat} {vs : List Value} (hx : lc S x = some (.mm b o)) (hv : Rs As b o n vs) (hp : LA P r post (put S d (.v (.agg vs.toArray))) As) : LA P (⟨d, none, .load false n x⟩ :: r) post S As :=
  ⟨fun m hm => vl_lds hx (hv.out m hm) (hp.out m hm)⟩
theorem a_al {z : List Value} (hp : LA P r post (putB S d (.box z)) As) : LA P (⟨d, none, .alloc true z⟩ :: r) post S As := ⟨fun m hm => vl_alloc (hp.out m hm)⟩
theorem a_bx {x : Operand} {v : Value} {cs : List Value} (hx : ev S x = some v) (hc : v.cells.toList = cs) (hp : LA P r post (putB S d (.box cs)) As) : LA P (⟨d, none, .box true x⟩ :: r) post S As := ⟨fun m hm => vl_box hx hc (hp.out m hm)⟩
theorem a_bl {len size : Nat} {z cs : List Value} {ps : List (Nat × Nat × Operand)} (hf : fillP S z ps = some cs) (hp : LA P r post (putB S d (.bsl cs len)) As) : LA P (⟨d, none, .bslice true len size z ps⟩ :: r) post S As := ⟨fun _ hm => vl_bsl hf (hp.out _ hm)⟩
theorem a_q {g : FuncId} {xs : List Operand} {args : List Value} {v : Value} (hx : evs S xs = some args) (hq : ∀ m, star As m → Qt P g args m v) (hp : LA P r post (put S d (.v v)) As) : LA P (⟨d, none, .qcall g xs⟩ :: r) post S As := ⟨fun m hm => vl_q hx (hq m hm) (hp.out m hm)⟩
theorem a_cq {g : FuncId} {xs : List Operand} {args : List Value} {v : Value} (hx : evs S xs = some args) (hq : ∀ m, star As m → Qt P g args m v) (hp : LA P r post (put S d (.v v)) As) : LA P (⟨d, none, .call g xs⟩ :: r) post S As := ⟨fun m hm => vl_cq hx (hq m hm) (hp.out m hm)⟩
theorem a_c {g : FuncId} {xs : List Operand} {args : List Value} {As1 F : List Asr} {q : Value → List Asr → Prop} (hx : evs S xs = some args) (hq : FnA P g args As1 q) (hm : Pm As As1 F) (hp : ∀ v As', q v As' → LA P r post (put S d (.v v)) (As' ++ F)) :
    LA P (⟨d, none, .call g xs⟩ :: r) post S As :=
  ⟨fun m s => vl_c hx ((hq.frame (F := F)).out m (hm.out m s)) (fun v M' ⟨As', m', l, s', As1', h1, e⟩ => by subst e; exact (hp v As1' h1).at s' l)⟩
theorem a_cv {g : FuncId} {x : Operand} {u c : Array Value} {xs : List Operand} {args : List Value} {As1 F : List Asr} {q : Value → List Asr → Prop} (hf : ev S x = some (.func (.func g) u c)) (hok : fnOk P g = true) (hx : evs S xs = some args) (hq : FnA P g (u.toList ++ args ++ c.toList) As1 q) (hm : Pm As As1 F)
    (hp : ∀ v As', q v As' → LA P r post (put S d (.v v)) (As' ++ F)) : LA P (⟨d, none, .callv x xs⟩ :: r) post S As :=
  ⟨fun m s => vl_cv hf hok hx ((hq.frame (F := F)).out m (hm.out m s)) (fun v M' ⟨As', m', l, s', As1', h1, e⟩ => by subst e; exact (hp v As1' h1).at s' l)⟩
/-- a function value that only looks -/
theorem a_cvq {g : FuncId} {x : Operand} {u c : Array Value} {xs : List Operand} {args : List Value} {v : Value} (hf : ev S x = some (.func (.func g) u c)) (hok : fnOk P g = true) (hx : evs S xs = some args) (hq : ∀ m, star As m → Qt P g (u.toList ++ args ++ c.toList) m v)
    (hp : LA P r post (put S d (.v v)) As) : LA P (⟨d, none, .callv x xs⟩ :: r) post S As :=
  ⟨fun m s => vl_cv hf hok hx (hq m s) (fun v' M' ⟨h1, h2⟩ => by subst h1; rw [h2]; exact hp.out m s)⟩
/-- stores -/
theorem a_sw {n : Nat} {x y : Operand} {s o : Nat} {cs : List Value} {v : Value} (hx : lc S x = some (.bx s o)) (hb : S s = .box cs) (hy : ev S y = some v) (hn : v.cells.size = n) (hpl : plainCells v.cells.toList = true) (hle : o + n ≤ cs.length)
    (hw : WrK cs o v.cells.toList (fun cs' => LA P r post (upF S s (.box cs')) As)) : LA P (⟨d, none, .store n x y⟩ :: r) post S As := ⟨fun m hm => vl_stb hx hb hy hn hpl hle rfl (hw.out.out m hm)⟩
theorem a_st {n : Nat} {x y : Operand} {b o : Nat} {v : Value} {As' : List Asr} (hx : lc S x = some (.mm b o)) (hy : ev S y = some v) (hn : v.cells.size = n) (hpl : plainCells v.cells.toList = true) (hu : Up As b o v.cells.toList As')
    (hp : LA P r post S As') : LA P (⟨d, none, .store n x y⟩ :: r) post S As :=
  ⟨fun m hm => by
    obtain ⟨row, h1, h2, h3⟩ := hu.out m hm
    exact vl_stm hx h1 hy hn hpl (by simp only [Array.length_toList] at h2; omega) (hp.out _ h3)⟩
/-- guards -/
theorem a_gy {s : Nat} {w : Bool} {k : K} {b : Bool} (hs : S s = .v (.bool b)) (hb : b = w) (hp : LA P (⟨d, none, k⟩ :: r) post S As) : LA P (⟨d, some (s, w), k⟩ :: r) post S As := ⟨fun m hm => vl_gy hs hb (hp.out m hm)⟩
theorem a_gn {s : Nat} {w : Bool} {k : K} {b : Bool} (hs : S s = .v (.bool b)) (hb : b = !w) (hp : LA P r post (put S d (.v undef)) As) : LA P (⟨d, some (s, w), k⟩ :: r) post S As := ⟨fun m hm => vl_gn hs hb (hp.out m hm)⟩
theorem a_gu {s : Nat} {w : Bool} {k : K} (hs : S s = .v undef) (hp : LA P r post (put S d (.v undef)) As) : LA P (⟨d, some (s, w), k⟩ :: r) post S As := ⟨fun m hm => vl_gu hs (hp.out m hm)⟩
theorem a_gs {s : Nat} {wt : Bool} {k : K} {b : Bool} (hs : S s = .v (.bool b)) (h1 : b = true → LA P (⟨d, some (s, wt), k⟩ :: r) post (upF S s (.v (.bool true))) As) (h2 : b = false → LA P (⟨d, some (s, wt), k⟩ :: r) post (upF S s (.v (.bool false))) As) : LA P (⟨d, some (s, wt), k⟩ :: r) post S As := by
  cases b
  · have := h2 rfl; rwa [upF_self hs] at this
  · have := h1 rfl; rwa [upF_self hs] at this
theorem a_gd {s : Nat} {wt : Bool} {k : K} {p : Prop} {_ : Decidable p} (hs : S s = .v (.bool (decide p))) (h1 : p → LA P (⟨d, some (s, wt), k⟩ :: r) post (upF S s (.v (.bool true))) As) (h2 : ¬ p → LA P (⟨d, some (s, wt), k⟩ :: r) post (upF S s (.v (.bool false))) As) : LA P (⟨d, some (s, wt), k⟩ :: r) post S As :=
  a_gs hs (fun h => h1 (of_decide_eq_true h)) (fun h => h2 (of_decide_eq_false h))
theorem a_ge {s : Nat} {wt : Bool} {k : K} {u w : Int} (hs : S s = .v (.bool (u == w))) (h1 : u = w → LA P (⟨d, some (s, wt), k⟩ :: r) post (upF S s (.v (.bool true))) As) (h2 : u ≠ w → LA P (⟨d, some (s, wt), k⟩ :: r) post (upF S s (.v (.bool false))) As) : LA P (⟨d, some (s, wt), k⟩ :: r) post S As :=
  a_gs hs (fun h => h1 (by simpa using h)) (fun h => h2 (by simpa using h))
theorem a_gne {s : Nat} {wt : Bool} {k : K} {u w : Int} (hs : S s = .v (.bool (u != w))) (h1 : u ≠ w → LA P (⟨d, some (s, wt), k⟩ :: r) post (upF S s (.v (.bool true))) As) (h2 : u = w → LA P (⟨d, some (s, wt), k⟩ :: r) post (upF S s (.v (.bool false))) As) : LA P (⟨d, some (s, wt), k⟩ :: r) post S As :=
  a_gs hs (fun h => h1 (by simpa using h)) (fun h => h2 (by simpa using h))
theorem a_gnd {s : Nat} {wt : Bool} {k : K} {p : Prop} {_ : Decidable p} (hs : S s = .v (.bool (!decide p))) (h1 : ¬ p → LA P (⟨d, some (s, wt), k⟩ :: r) post (upF S s (.v (.bool true))) As) (h2 : p → LA P (⟨d, some (s, wt), k⟩ :: r) post (upF S s (.v (.bool false))) As) : LA P (⟨d, some (s, wt), k⟩ :: r) post S As :=
  a_gs hs (fun h => h1 (by simpa using h)) (fun h => h2 (by simpa using h))
theorem a_ps {s : Nat} {x y : Operand} {b : Bool} (hs : S s = .v (.bool b)) (h1 : b = true → LA P (⟨d, none, .pick (.tmp s) x y⟩ :: r) post (upF S s (.v (.bool true))) As) (h2 : b = false → LA P (⟨d, none, .pick (.tmp s) x y⟩ :: r) post (upF S s (.v (.bool false))) As) : LA P (⟨d, none, .pick (.tmp s) x y⟩ :: r) post S As := by
  cases b
  · have := h2 rfl; rwa [upF_self hs] at this
  · have := h1 rfl; rwa [upF_self hs] at this
theorem a_pd {s : Nat} {x y : Operand} {p : Prop} {_ : Decidable p} (hs : S s = .v (.bool (decide p))) (h1 : p → LA P (⟨d, none, .pick (.tmp s) x y⟩ :: r) post (upF S s (.v (.bool true))) As) (h2 : ¬ p → LA P (⟨d, none, .pick (.tmp s) x y⟩ :: r) post (upF S s (.v (.bool false))) As) : LA P (⟨d, none, .pick (.tmp s) x y⟩ :: r) post S As :=
  a_ps hs (fun h => h1 (of_decide_eq_true h)) (fun h => h2 (of_decide_eq_false h))
theorem a_pe {s : Nat} {x y : Operand} {u w : Int} (hs : S s = .v (.bool (u == w))) (h1 : u = w → LA P (⟨d, none, .pick (.tmp s) x y⟩ :: r) post (upF S s (.v (.bool true))) As) (h2 : u ≠ w → LA P (⟨d, none, .pick (.tmp s) x y⟩ :: r) post (upF S s (.v (.bool false))) As) : LA P (⟨d, none, .pick (.tmp s) x y⟩ :: r) post S As :=
  a_ps hs (fun h => h1 (by simpa using h)) (fun h => h2 (by simpa using h))
theorem a_pne {s : Nat} {x y : Operand} {u w : Int} (hs : S s = .v (.bool (u != w))) (h1 : u ≠ w → LA P (⟨d, none, .pick (.tmp s) x y⟩ :: r) post (upF S s (.v (.bool true))) As) (h2 : u = w → LA P (⟨d, none, .pick (.tmp s) x y⟩ :: r) post (upF S s (.v (.bool false))) As) : LA P (⟨d, none, .pick (.tmp s) x y⟩ :: r) post S As :=
  a_ps hs (fun h => h1 (by simpa using h)) (fun h => h2 (by simpa using h))
theorem a_pnd {s : Nat} {x y : Operand} {p : Prop} {_ : Decidable p} (hs : S s = .v (.bool (!decide p))) (h1 : ¬ p → LA P (⟨d, none, .pick (.tmp s) x y⟩ :: r) post (upF S s (.v (.bool true))) As) (h2 : p → LA P (⟨d, none, .pick (.tmp s) x y⟩ :: r) post (upF S s (.v (.bool false))) As) : LA P (⟨d, none, .pick (.tmp s) x y⟩ :: r) post S As :=
  a_ps hs (fun h => h1 (by simpa using h)) (fun h => h2 (by simpa using h))
/-- new memory -/
theorem star_new {A : Asr} {m : Mem} {b : Nat} {k : Bk} (s : star As m) (hb : m b = none) (hA : A (one b k)) : star (A :: As) (m.upd b k) :=
  ⟨one b k, m, disj_one k hb, upd_one k hb, hA, s⟩
theorem a_nw {x : Operand} {v : Value} {vs : List Value} (hx : ev S x = some v) (hc : v.cells.toList = vs) (hp : ∀ b, LA P r post (put S d (.v (.pointer (some ⟨b, 0, none⟩)))) (bx b vs :: As)) : LA P (⟨d, none, .box false x⟩ :: r) post S As :=
  ⟨fun m hm => ⟨⟨v, hx, fun b hb => by subst hc; exact ((hp b).out _ (star_new hm hb rfl)).out⟩⟩⟩
theorem a_nz {z : List Value} (hp : ∀ b, LA P r post (put S d (.v (.pointer (some ⟨b, 0, none⟩)))) (bx b z :: As)) : LA P (⟨d, none, .alloc false z⟩ :: r) post S As :=
  ⟨fun m hm => ⟨fun b hb => ((hp b).out _ (star_new hm hb rfl)).out⟩⟩
theorem a_ns {α : Type} {f : α → List Value} {len size : Nat} {z cs : List Value} {ps : List (Nat × Nat × Operand)} (xs : List α) (hs : ∀ x, (f x).length = size) (hf : fillP S z ps = some cs) (hc : cs = xs.flatMap f) (hl : xs.length = len) (hb : len ≤ 140737488355328)
    (hp : ∀ e : D, e.cap = len → LA P r post (put S d (.v (.slice e.a len len))) (slA size f e xs :: As)) : LA P (⟨d, none, .bslice false len size z ps⟩ :: r) post S As :=
  ⟨fun m hm => ⟨⟨cs, hf, fun b hMb => by
    refine ((hp ⟨some ⟨b, 0, none⟩, len⟩ rfl).out _ (star_new hm hMb ⟨?_, ?_⟩)).out
    · right
      refine ⟨b, 0, len, cs, rfl, one_same _ _, by omega, by omega, ?_, ?_⟩
      · rw [hc, flat_len hs, hl]; omega
      · rw [List.drop_zero, hc]
        exact List.take_of_length_le (by rw [flat_len hs]; exact Nat.le_refl _)
    · intro c hc'
      exact one_ne _ (fun e => hc' (by subst e; simp [own]))⟩⟩⟩
theorem a_mk {α : Type} {f : α → List Value} {size bytes : Nat} {z : List Value} (e : α) {l c : Operand} {n k : Int} (hs : ∀ x, (f x).length = size) (hz : f e = z)
    (hl : ev S l = some (.int .i64 n)) (hc : ev S c = some (.int .i64 k)) (hnm : 0 ≤ n ∧ n ≤ k) (hb : k * bytes ≤ 140737488355328 ∧ k ≤ 140737488355328)
    (hp : ∀ g : D, g.cap = k.toNat → LA P r post (put S d (.v (.slice g.a n.toNat g.cap))) (slA size f g (List.replicate n.toNat e) :: As)) : LA P (⟨d, none, .mkslice size bytes z l c⟩ :: r) post S As :=
  ⟨fun m hm => ⟨⟨n.toNat, k.toNat, by rw [hl]; congr 2; omega, by rw [hc]; congr 2; omega, by omega, by
      have : ((k.toNat * bytes : Nat) : Int) ≤ 140737488355328 := by rw [Int.natCast_mul, Int.toNat_of_nonneg (by omega)]; exact hb.1
      omega, by omega, fun b hMb => by
    subst hz
    refine ((hp ⟨some ⟨b, 0, none⟩, k.toNat⟩ rfl).out _ (star_new hm hMb ⟨?_, ?_⟩)).out
    · right
      refine ⟨b, 0, k.toNat, _, rfl, one_same _ _, by simp; omega, by simp; omega, ?_, ?_⟩
      · rw [zrep_flat, flat_len hs]; simp
      · rw [zrep_flat, List.drop_zero, List.length_replicate]
        have : (List.replicate k.toNat e).flatMap f = (List.replicate n.toNat e).flatMap f ++ (List.replicate (k.toNat - n.toNat) e).flatMap f := by
          rw [← List.flatMap_append, List.replicate_append_replicate, show n.toNat + (k.toNat - n.toNat) = k.toNat by omega]
        rw [this, List.take_left' (by rw [flat_len hs]; simp)]
    · intro c hc'
      exact one_ne _ (fun e => hc' (by subst e; simp [own]))⟩⟩⟩
theorem Sl.own_s {M : Mem} {α : Type} {f : α → List Value} {size : Nat} {v : Value} {xs : List α} (h : Sl M size f v xs) {c : Nat} (hc : c ∈ own v) : M c ≠ none := by
  rcases h with ⟨c, rfl, _⟩ | ⟨b, o, cap, row, rfl, hM, _⟩
  · simp [own] at hc
  · simp [own] at hc; subst hc; rw [hM]; simp
/-- an append: where the slice lies now -/
theorem app_star {α : Type} {f : α → List Value} {size : Nat} {e : D} {xs zs : List α} {R : List Asr} {m M' : Mem} {v' : Value} (s : star (slA size f e xs :: R) m) (ha : AppE m (.slice e.a xs.length e.cap) v' M') (hs : Sl M' size f v' (xs ++ zs)) :
    ∃ e' : D, v' = .slice e'.a (xs ++ zs).length e'.cap ∧ ∃ m', m'.le M' ∧ star (slA size f e' (xs ++ zs) :: R) m' := by
  obtain ⟨a, c, dj, rfl, hA, hR⟩ := s
  obtain ⟨a', cap', rfl⟩ := hs.len
  refine ⟨⟨a', cap'⟩, rfl, ?_⟩
  have sub : ∀ (L : List Nat) (M1 : Mem), Sl M1 size f (.slice a' (xs ++ zs).length cap') (xs ++ zs) → (∀ b, b ∈ own (.slice a' (xs ++ zs).length cap') → b ∈ L) → Sl (fun b => if b ∈ L then M1 b else none) size f (.slice a' (xs ++ zs).length cap') (xs ++ zs) := by
    intro L M1 h hL
    rcases h with h | ⟨b, o, cap, row, e1, hM, h3⟩
    · exact .inl h
    · refine .inr ⟨b, o, cap, row, e1, ?_, h3⟩
      have : b ∈ L := hL b (by rw [e1]; simp [own])
      simp only [this, if_true]; exact hM
  rcases ha with ⟨rfl, ho⟩ | ⟨b, hoff, ho, hb⟩
  · refine ⟨a.un c, Mem.le_refl _, a, c, dj, rfl, ⟨?_, ?_⟩, hR⟩
    · rcases hs with h | ⟨b, o, cap, row, e1, hM, h3⟩
      · exact .inl h
      · refine .inr ⟨b, o, cap, row, e1, ?_, h3⟩
        have hbo : b ∈ own (.slice e.a xs.length e.cap) := by rw [← ho, e1]; simp [own]
        have hac : a b ≠ none := Sl.own_s hA.1 hbo
        cases h : a b with
        | none => exact absurd h hac
        | some k => rw [un_l h] at hM; exact hM
    · intro b hb
      exact hA.2 b (by rw [← ho]; exact hb)
  · have hcb : c b = none := by
      rcases hb with hb | hb
      · have : a b ≠ none := Sl.own_s hA.1 (by rw [hb]; simp)
        rcases dj b with h | h
        · exact absurd h this
        · exact h
      · exact (un_none.1 hb).2
    refine ⟨Mem.un (fun x => if x ∈ [b] then M' x else none) c, ?_, _, c, ?_, rfl, ⟨sub [b] M' hs (fun x hx => by rw [ho] at hx; exact hx), ?_⟩, hR⟩
    · intro x k hk
      by_cases hx : x = b
      · subst hx
        cases h : M' x with
        | none => rw [un_n (by simp [h])] at hk; rw [hcb] at hk; cases hk
        | some k' => rw [un_l (by simp; exact h)] at hk; exact hk
      · rw [un_n (by simp [hx])] at hk
        rw [hoff x hx]; exact un_r dj hk
    · intro x
      by_cases hx : x = b
      · subst hx; exact .inr hcb
      · exact .inl (by simp [hx])
    · intro x hx
      rw [ho] at hx
      simp only [hx, if_false]
theorem a_ap {α : Type} {f : α → List Value} {size bytes : Nat} {z : List Value} {xs : List α} {e : D} {R : List Asr} {t : Nat} {cs : List Value} {k : Nat} (zs : List α) {s : Operand} (hm : Pk As (slA size f e xs) R) (hs : ∀ x, (f x).length = size) (h0 : 0 < size ∧ 0 < bytes)
    (hv : ev S s = some (.slice e.a xs.length e.cap)) (ht : S t = .bsl cs k) (hc : cs = zs.flatMap f) (hk : zs.length = k) (hpl : plainCells cs = true) (hb : ((xs.length : Int) + k) * bytes ≤ 140737488355328)
    (hp : ∀ e' : D, LA P r post (put S d (.v (.slice e'.a (xs ++ zs).length e'.cap))) (slA size f e' (xs ++ zs) :: R)) : LA P (⟨d, none, .app size bytes z s (.tmp t)⟩ :: r) post S As :=
  ⟨fun m hm' => by
    have st := hm.out m hm'
    have hsl : Sl m size f (.slice e.a xs.length e.cap) xs := by
      obtain ⟨a, c, dj, e1, hA, hR⟩ := st
      exact hA.1.le (by rw [e1]; exact le_l _ _)
    subst hc
    refine ⟨⟨_, zs.flatMap f, zs.length, hv, ?_, hpl, appM_sl hs hsl h0.1 h0.2 ?_ (fun v' M' ha hs' => ?_)⟩⟩
    · unfold srcC
      simp only [ht]
      rw [hk, if_pos (by rw [flat_len hs, hk])]
    · have : (((xs.length + zs.length) * bytes : Nat) : Int) ≤ 140737488355328 := by rw [Int.natCast_mul, Int.natCast_add, hk]; exact hb
      omega
    · obtain ⟨e', rfl, m', l, s'⟩ := app_star st ha hs'
      exact ((hp e').at s' l).out⟩
/-- .. of what another slice holds -/
theorem a_as {α : Type} {f : α → List Value} {size bytes : Nat} {z : List Value} {xs zs : List α} {e g : D} {R : List Asr} {t : Nat} {s : Operand} (hm : Pk As (slA size f e xs) R) (hs : ∀ x, (f x).length = size) (h0 : 0 < size ∧ 0 < bytes)
    (hv : ev S s = some (.slice e.a xs.length e.cap)) (ht : S t = .v (.slice g.a zs.length g.cap)) (hg : ∀ m, star As m → Sl m size f (.slice g.a zs.length g.cap) zs) (hpl : plainCells (zs.flatMap f) = true) (hb : ((xs.length : Int) + zs.length) * bytes ≤ 140737488355328)
    (hp : ∀ e' : D, LA P r post (put S d (.v (.slice e'.a (xs ++ zs).length e'.cap))) (slA size f e' (xs ++ zs) :: R)) : LA P (⟨d, none, .app size bytes z s (.tmp t)⟩ :: r) post S As :=
  ⟨fun m hm' => by
    have st := hm.out m hm'
    have hsl : Sl m size f (.slice e.a xs.length e.cap) xs := by
      obtain ⟨a, c, dj, e1, hA, hR⟩ := st
      exact hA.1.le (by rw [e1]; exact le_l _ _)
    refine ⟨⟨_, zs.flatMap f, zs.length, hv, srcC_sl hs (hg m hm') ht, hpl, appM_sl hs hsl h0.1 h0.2 ?_ (fun v' M' ha hs' => ?_)⟩⟩
    · have : (((xs.length + zs.length) * bytes : Nat) : Int) ≤ 140737488355328 := by rw [Int.natCast_mul, Int.natCast_add]; exact hb
      omega
    · obtain ⟨e', rfl, m', l, s'⟩ := app_star st ha hs'
      exact ((hp e').at s' l).out⟩
/-- .. of zeros -/
theorem a_az {α : Type} {f : α → List Value} {size bytes : Nat} {z : List Value} {xs : List α} {e : D} {R : List Asr} {k : Int} (y : α) {s x : Operand} (hm : Pk As (slA size f e xs) R) (hs : ∀ x, (f x).length = size) (h0 : 0 < size ∧ 0 < bytes) (hz : f y = z)
    (hv : ev S s = some (.slice e.a xs.length e.cap)) (hx : ev S x = some (.int .i64 k)) (hk : 0 ≤ k ∧ k ≤ 140737488355328) (hpl : plainCells z = true) (hb : ((xs.length : Int) + k) * bytes ≤ 140737488355328)
    (hp : ∀ e' : D, LA P r post (put S d (.v (.slice e'.a (xs ++ List.replicate k.toNat y).length e'.cap))) (slA size f e' (xs ++ List.replicate k.toNat y) :: R)) : LA P (⟨d, none, .appz size bytes z s x⟩ :: r) post S As :=
  ⟨fun m hm' => by
    have st := hm.out m hm'
    have hsl : Sl m size f (.slice e.a xs.length e.cap) xs := by
      obtain ⟨a, c, dj, e1, hA, hR⟩ := st
      exact hA.1.le (by rw [e1]; exact le_l _ _)
    subst hz
    refine ⟨⟨_, k.toNat, hv, by rw [hx]; congr 2; omega, by omega, hpl, ?_⟩⟩
    have := appM_sl (bytes := bytes) (zs := List.replicate k.toNat y) (post := fun v' M' => vcL P r (upP post) (put S d (.v v')) M') hs hsl h0.1 h0.2 ?_ (fun v' M' ha hs' => ?_)
    · rw [List.length_replicate] at this
      rw [zrep_flat]; exact this
    · have : (((xs.length + k.toNat) * bytes : Nat) : Int) ≤ 140737488355328 := by rw [Int.natCast_mul, Int.natCast_add, Int.toNat_of_nonneg hk.1]; exact hb
      rw [List.length_replicate]; omega
    · obtain ⟨e', rfl, m', l, s'⟩ := app_star st ha hs'
      exact ((hp e').at s' l).out⟩
/-- parts of slices -/
theorem a_tk {e : D} {x : Operand} {hi : Option Operand} {size n : Nat} {k : IntKind} {i : Int} (hx : ev S x = some (.slice e.a n e.cap)) (hh : optEv S hi = some (some (.int k i))) (hb : Kn As (e.a = none ∨ e.a = some ⟨e.b, e.o, none⟩)) (hi0 : 0 ≤ i ∧ i ≤ e.cap)
    (hp : LA P r post (put S d (.v (.slice e.a i.toNat e.cap))) As) : LA P (⟨d, none, .slc size x none hi⟩ :: r) post S As :=
  ⟨fun m hm => by
    refine vl_pure (sv := .v (.slice e.a i.toNat e.cap)) ?_ (hp.out m hm)
    have h1 : bnd (some (.int k i)) n = some i.toNat := by show (if 0 ≤ i then some i.toNat else none) = _; rw [if_pos hi0.1]
    have h2 : optEv S none = some none := rfl
    have h3 : bnd none 0 = some 0 := rfl
    simp only [pe, hx, hh, h2, slcV, h1, h3]
    rw [if_pos ⟨Nat.zero_le _, by omega⟩]
    rcases hb.out m hm with h | h <;> rw [h] <;> simp⟩
theorem a_dr {e : D} {x : Operand} {lo : Option Operand} {size n : Nat} {k : IntKind} {i : Int} (hx : ev S x = some (.slice e.a n e.cap)) (hl : optEv S lo = some (some (.int k i))) (hb : Kn As (e.a = none ∨ e.a = some ⟨e.b, e.o, none⟩)) (hi0 : 0 ≤ i ∧ i ≤ n) (hc : Kn As (n ≤ e.cap))
    (hp : LA P r post (put S d (.v (.slice (e.drop size i.toNat).a (n - i.toNat) (e.drop size i.toNat).cap))) As) : LA P (⟨d, none, .slc size x lo none⟩ :: r) post S As :=
  ⟨fun m hm => by
    refine vl_pure (sv := .v (.slice (e.drop size i.toNat).a (n - i.toNat) (e.drop size i.toNat).cap)) ?_ (hp.out m hm)
    have hcap := hc.out m hm
    have h1 : bnd (some (.int k i)) 0 = some i.toNat := by show (if 0 ≤ i then some i.toNat else none) = _; rw [if_pos hi0.1]
    have h2 : optEv S none = some none := rfl
    have h3 : bnd none n = some n := rfl
    simp only [pe, hx, hl, h2, slcV, h1, h3]
    rw [if_pos ⟨by omega, by omega⟩]
    obtain ⟨a, cp⟩ := e
    rcases hb.out m hm with h | h
    · have h' : a = none := h
      subst h'; rfl
    · have h' : a = some ⟨D.b ⟨a, cp⟩, D.o ⟨a, cp⟩, none⟩ := h
      generalize D.b ⟨a, cp⟩ = b0, D.o ⟨a, cp⟩ = o0 at h'
      subst h'
      rfl⟩
/-- maps -/
theorem a_mm (hp : ∀ b, LA P r post (put S d (.v (.map (some b)))) (mpA b (fun _ => none) :: As)) : LA P (⟨d, none, .mkmap⟩ :: r) post S As :=
  ⟨fun m hm => ⟨fun b hb => ((hp b).out _ (star_new hm hb ⟨#[], 0, rfl, rfl, by simp, fun j => rfl⟩)).out⟩⟩
theorem a_lk {one : Bool} {z : Value} {ok : Bool} {x i : Operand} {b : Nat} {g : Int → Option Value} {R : List Asr} {j : Int} {v : Value} (hm : Pk As (mpA b g) R) (hx : ev S x = some (.map (some b))) (hi : ev S i = some (.int .i64 j))
    (hv : (if ok then .tuple #[(g j).getD z, .bool (g j).isSome] else (g j).getD z) = v) (hp : LA P r post (put S d (.v v)) As) : LA P (⟨d, none, .look one z ok x i⟩ :: r) post S As :=
  ⟨fun m hm' => by
    obtain ⟨a, c, dj, e1, ⟨es, clk, e2, h1, h2, h3⟩, hR⟩ := hm.out m hm'
    refine ⟨vcK_fe (k := .look one z ok x i) (sv := .v v) rfl (.inr ⟨es, clk, j, .inr ⟨b, hx, ?_⟩, hi, h1, ?_⟩) (hp.out m hm').out⟩
    · rw [e1]; exact un_l (by rw [e2]; exact one_same _ _)
    · rw [h3 j, hv]⟩
theorem a_mu {x i y : Operand} {b : Nat} {g : Int → Option Value} {R : List Asr} {j : Int} {v : Value} (hm : Pk As (mpA b g) R) (hx : ev S x = some (.map (some b))) (hi : ev S i = some (.int .i64 j)) (hy : ev S y = some v)
    (hp : LA P r post (put S d (.v undef)) (mpA b (fun i => if i = j then some v else g i) :: R)) : LA P (⟨d, none, .mupd x i y⟩ :: r) post S As :=
  ⟨fun m hm' => by
    obtain ⟨a, c, dj, e1, ⟨es, clk, e2, h1, h2, h3⟩, hR⟩ := hm.out m hm'
    subst e1; subst e2
    refine ⟨⟨b, es, clk, j, v, hx, un_l (one_same _ _), hi, hy, h1, (hp.out _ ?_).out⟩⟩
    have hcb : c b = none := by
      rcases dj b with h | h
      · rw [one_same] at h; cases h
      · exact h
    rw [un_upd_l, one_upd]
    exact ⟨_, c, disj_one _ hcb, rfl, mpSet_A h1 h2 h3, hR⟩⟩
theorem a_md {x i : Operand} {b : Nat} {g : Int → Option Value} {R : List Asr} {j : Int} (hm : Pk As (mpA b g) R) (hx : ev S x = some (.map (some b))) (hi : ev S i = some (.int .i64 j))
    (hp : LA P r post (put S d (.v (.tuple #[]))) (mpA b (fun i => if i = j then none else g i) :: R)) : LA P (⟨d, none, .mdel x i⟩ :: r) post S As :=
  ⟨fun m hm' => by
    obtain ⟨a, c, dj, e1, ⟨es, clk, e2, h1, h2, h3⟩, hR⟩ := hm.out m hm'
    subst e1; subst e2
    refine ⟨⟨b, es, clk, j, hx, un_l (one_same _ _), hi, h1, (hp.out _ ?_).out⟩⟩
    have hcb : c b = none := by
      rcases dj b with h | h
      · rw [one_same] at h; cases h
      · exact h
    rw [un_upd_l, one_upd]
    exact ⟨_, c, disj_one _ hcb, rfl, mpDel_A h1 h2 h3, hR⟩⟩
/-- other pieces for these -/
theorem LA.ent {l : List I} {Bs : List Asr} (e : Ent As Bs) (h : LA P l post S Bs) : LA P l post S As :=
  ⟨fun m hm => by obtain ⟨m', l', s⟩ := e.out m hm; exact h.at s l'⟩
theorem LA.pk {l : List I} {A : Asr} {R : List Asr} (e : Pk As A R) (h : LA P l post S (A :: R)) : LA P l post S As := ⟨fun m hm => h.out m (e.out m hm)⟩
end
end Go.Proofs.Ytcmllambknfleaa.E
/- What a sound heap is, in plain words. Conditions: none. -/
set_option linter.unusedVariables false
set_option linter.unusedSimpArgs false
namespace Go.Proofs.Ytcmllambknfleaa.E
open Go
def Formed (H : Heap) (w : Word) : Prop := (w.kind = 0 ∧ w.num = 0 ∧ w.at_ = 0) ∨ (w.kind = 1 ∧ w.at_ = 0) ∨ (w.kind = 2 ∧ w.num = 0 ∧ 0 ≤ w.at_ ∧ w.at_ < H.cells.length)
def Bare (c : Cell) : Prop := c.kind = 0 ∧ c.weak = 0 ∧ c.last = 0 ∧ c.born = 0 ∧ c.color = 0 ∧ c.pairs = []
def Doomed (H : Heap) (i : Int) : Prop := H.phase = 3 ∧ (H.getC i).state = 1 ∧ (H.getC i).color = 0 ∧ H.hand ≤ i
def Marking (H : Heap) : Prop := H.phase = 1 ∨ H.phase = 2
def Mended (H : Heap) (i k : Int) : Prop := H.phase ≠ 4 ∧ (H.phase = 5 → i < H.hand ∨ i = H.hand ∧ k < H.sub)
def Root (c : Cell) : Prop := c.state = 1 ∧ (c.last = 1 ∨ c.last = 2)
def LeadsWell (H : Heap) (w : Word) (moved : Prop) : Prop := w.kind = 2 → ((H.getC w.at_).state = 1 ∧ ¬ Doomed H w.at_) ∨ ((H.getC w.at_).state = 2 ∧ moved)
def White (H : Heap) (w : Word) : Prop := w.kind = 2 ∧ (H.getC w.at_).color = 0
structure R1 (H : Heap) : Prop where
  room : 1 ≤ H.room ∧ H.room ≤ 4000
  regs : H.regs.length = 16
  cells : (H.cells.length : Int) ≤ 2 * H.room
  gray : H.gray.length ≤ H.cells.length
  born : 0 ≤ H.born ∧ H.born ≤ 1000000000
  rounds : 0 ≤ H.rounds ∧ H.rounds ≤ 1000000000
  forced : 0 ≤ H.forced ∧ H.forced ≤ 1000000000
  per : 0 ≤ H.per ∧ H.per ≤ 64
  start : 0 ≤ H.start ∧ H.start ≤ 4000
  phase : 0 ≤ H.phase ∧ H.phase ≤ 6
  hand : 0 ≤ H.hand ∧ H.hand ≤ H.cells.length
  sub : 0 ≤ H.sub ∧ H.sub ≤ 200
def UsedOk (H : Heap) (c : Cell) : Prop := c.state = 1 ∧ (0 ≤ c.kind ∧ c.kind ≤ 255) ∧ (0 ≤ c.weak ∧ c.weak ≤ 3) ∧ (0 ≤ c.last ∧ c.last ≤ 3) ∧ (1 ≤ c.born ∧ c.born ≤ H.born) ∧ (0 ≤ c.color ∧ c.color ≤ 2) ∧ c.to = 0 ∧ c.pairs.length ≤ 200
def MovedOk (H : Heap) (i : Int) (c : Cell) : Prop := c.state = 2 ∧ Bare c ∧ 4 ≤ H.phase ∧ (0 ≤ c.to ∧ c.to < i) ∧ (H.getC c.to).state = 1 ∧ (H.phase = 4 → ∀ k : Int, 0 ≤ k → k < c.to → (H.getC k).state ≠ 0)
structure R2 (H : Heap) : Prop where
  each : ∀ (i : Nat) c, H.cells[i]? = some c → (c.state = 0 ∧ Bare c ∧ c.to = 0) ∨ MovedOk H i c ∨ UsedOk H c
  born : ∀ (i j : Nat) c d, H.cells[i]? = some c → H.cells[j]? = some d → i < j → c.state = 1 → d.state = 1 → c.born ≠ d.born
  to : ∀ (i j : Nat) c d, H.cells[i]? = some c → H.cells[j]? = some d → i < j → c.state = 2 → d.state = 2 → c.to ≠ d.to
/-- the units that a cell takes -/
def Cell.units (c : Cell) : Int := if c.state = 1 then 1 + c.pairs.length else 0
def unitsN (cs : List Cell) : Int := (cs.map Cell.units).sum
def R3 (H : Heap) : Prop := unitsN H.cells = H.used ∧ H.used ≤ H.room
structure R4 (H : Heap) : Prop where
  regs : ∀ w, w ∈ H.regs → Formed H w ∧ LeadsWell H w False
  roots : ∀ (i : Nat) c, H.cells[i]? = some c → Doomed H i → ¬ Root c
  pairs : ∀ (i : Nat) c, H.cells[i]? = some c → ∀ (k : Nat) p, c.pairs[k]? = some p → Formed H p.key ∧ Formed H p.val ∧ (¬ Doomed H i → LeadsWell H p.key (¬ Mended H i k) ∧ LeadsWell H p.val (¬ Mended H i k))
structure R5 (H : Heap) : Prop where
  mark : Marking H → H.gray.Nodup ∧ (∀ g, g ∈ H.gray → 0 ≤ g ∧ g < H.cells.length ∧ (H.getC g).state = 1 ∧ (H.getC g).color = 1) ∧ ∀ (i : Nat) c, H.cells[i]? = some c → c.color = 1 → (i : Int) ∈ H.gray
  else_ : ¬ Marking H → H.gray = [] ∧ ∀ (i : Nat) c, H.cells[i]? = some c → c.color ≠ 1 ∧ (c.color = 2 → H.phase = 3 ∧ H.hand ≤ i)
def R6 (H : Heap) : Prop :=
  if H.phase = 0 ∨ H.phase = 4 then H.hand = 0 ∧ H.sub = 0
  else if H.phase = 2 then H.hand = 0 ∧ (match H.gray with | [] => H.sub = 0 | g :: _ => H.sub ≤ (H.getC g).pairs.length)
  else if H.phase = 5 then (if H.hand < H.cells.length ∧ (H.getC H.hand).state = 1 then H.sub ≤ (H.getC H.hand).pairs.length else H.sub = 0)
  else H.sub = 0
/-- how many pairs of a cell have been gone through -/
def scanned (H : Heap) (i : Int) (c : Cell) : Int :=
  if c.color = 2 then c.pairs.length else if H.phase = 2 ∧ H.gray.head? = some i then H.sub else 0
def R7 (H : Heap) : Prop := Marking H → ∀ (i : Nat) c, H.cells[i]? = some c → (Root c → c.color = 0 → H.phase ≠ 2 ∧ H.hand ≤ i) ∧ ∀ (k : Nat) p, c.pairs[k]? = some p → (k : Int) < scanned H i c → ¬ White H p.key ∧ ¬ White H p.val
def R8 (H : Heap) : Prop := H.phase = 6 → ∀ (i : Nat) c, H.cells[i]? = some c → H.hand ≤ i → c.state ≠ 2
open Classical in
noncomputable def okH (H : Heap) : Int :=
  if ¬ R1 H then 1 else if ¬ R2 H then 2 else if ¬ R3 H then 3 else if ¬ R4 H then 4 else if ¬ R5 H then 5 else if ¬ R6 H then 6 else if ¬ R7 H then 7 else if ¬ R8 H then 8 else 0
structure Sound (H : Heap) : Prop where
  r1 : R1 H
  r2 : R2 H
  r3 : R3 H
  r4 : R4 H
  r5 : R5 H
  r6 : R6 H
  r7 : R7 H
  r8 : R8 H
theorem okH_sound (H : Heap) : okH H = 0 ↔ Sound H := by
  unfold okH
  constructor
  · intro h
    repeat' split at h
    all_goals first
      | (cases h; done)
      | (rename_i h1 h2 h3 h4 h5 h6 h7 h8; exact ⟨Classical.not_not.1 h1, Classical.not_not.1 h2, Classical.not_not.1 h3, Classical.not_not.1 h4, Classical.not_not.1 h5, Classical.not_not.1 h6, Classical.not_not.1 h7, Classical.not_not.1 h8⟩)
  · intro ⟨h1, h2, h3, h4, h5, h6, h7, h8⟩
    simp [h1, h2, h3, h4, h5, h6, h7, h8]
end Go.Proofs.Ytcmllambknfleaa.E
