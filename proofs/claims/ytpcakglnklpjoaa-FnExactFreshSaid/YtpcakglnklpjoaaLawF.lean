/- The laws' marks of heaps, written and found again. Conditions: none. -/
import Derived.Test.YtpcakglnklpjoaaLawE
set_option linter.unusedVariables false
set_option linter.unusedSimpArgs false
set_option maxRecDepth 100000
namespace Go.Proofs.Ytpcakglnklpjoaa.E
open Go
open Classical
theorem heldCellS_q {M : Mem} {va : Value} {xs : List CS} {k : Int} (h0 : 0 ≤ k) (hb : mkT wCS k xs ≤ 4611686018427387904) (hcl : CL M va (mkG gCS wCS k xs)) :
    Qt Try.prog 79 [va, .int .i64 k] M (.int .i64 (mkT wCS k xs)) := by
  obtain ⟨ha, hps⟩ := hcl
  obtain ⟨aa, ca, ea⟩ := ha.len
  have hbd := ha.bound
  rw [mkG_len] at ea hbd
  refine fn79 (by simp) ?_
  subst ea
  repeat' (first
    | (refine vl_add rfl rfl (by omega) ?_)
    | (refine vl_sub rfl rfl (by omega) ?_)
    | (refine vl_pure rfl ?_)
    | (refine vl_gy rfl rfl ?_)
    | (refine vl_gn rfl rfl ?_)
    | (refine vl_gu rfl ?_)
    | (refine vl_nil ?_)
    | (refine VC.seq ?_)
    | (refine VC.regV ?_)
    | (refine vl_idx rfl rfl (by omega) ?_)
    | (refine vl_alloc ?_)
    | (refine vl_stw rfl rfl rfl rfl rfl (Nat.le_of_ble_eq_true rfl) ?_)
    | (refine sk_zero ?_)
    | (refine sk_succ ?_)
    | (refine wk_nil ?_)
    | (refine wk_cons ?_)
    | (refine vl_box rfl rfl ?_)
    | (refine vl_bsl rfl ?_)
    | (refine VC.dregV ?_)
    | (refine VC.block ?_)
    | (refine VC.ret ?_)
    | (refine VC.exit ?_)
    | (refine VC.skip ?_)
    | (refine seqQ_n ?_)
    | (refine seqQ_r ?_)
    | (refine seqQ_e ?_)
    | (refine blkQ_n ?_)
    | (refine blkQ_r ?_)
    | (refine blkQ_e ?_)
    | (refine blkQ_o rfl ?_)
    | (refine vl_gs rfl (fun hb => ?_) (fun hb => ?_))
    | (refine vl_ps rfl (fun hb => ?_) (fun hb => ?_)))
  refine VC.loop (α := Nat × Int) (fun p => [(0, .v (.slice aa xs.length ca)), (1, .v (.int .i64 p.2)), (5, .v (.int .i64 p.1))]) (fun n p M' => n = xs.length - p.1 ∧ p.1 ≤ xs.length ∧ p.2 = mkT wCS k (xs.take p.1) ∧ M' = M)
    ⟨_, (0, k), M, ⟨rfl, rfl, rfl, trivial⟩, Mem.le_refl _, rfl, Nat.zero_le _, rfl, rfl⟩ ?_
  rintro n ⟨i, kk⟩ M2 ⟨rfl, hi, hkk, rfl⟩
  dsimp only at hi hkk ⊢
  repeat' (first
    | (refine vl_add rfl rfl (by omega) ?_)
    | (refine vl_sub rfl rfl (by omega) ?_)
    | (refine vl_pure rfl ?_)
    | (refine vl_gy rfl rfl ?_)
    | (refine vl_gn rfl rfl ?_)
    | (refine vl_gu rfl ?_)
    | (refine vl_nil ?_)
    | (refine VC.seq ?_)
    | (refine VC.regV ?_)
    | (refine vl_idx rfl rfl (by omega) ?_)
    | (refine vl_alloc ?_)
    | (refine vl_stw rfl rfl rfl rfl rfl (Nat.le_of_ble_eq_true rfl) ?_)
    | (refine sk_zero ?_)
    | (refine sk_succ ?_)
    | (refine wk_nil ?_)
    | (refine wk_cons ?_)
    | (refine vl_box rfl rfl ?_)
    | (refine vl_bsl rfl ?_)
    | (refine VC.dregV ?_)
    | (refine VC.block ?_)
    | (refine VC.ret ?_)
    | (refine VC.exit ?_)
    | (refine VC.skip ?_)
    | (refine seqQ_n ?_)
    | (refine seqQ_r ?_)
    | (refine seqQ_e ?_)
    | (refine blkQ_n ?_)
    | (refine blkQ_r ?_)
    | (refine blkQ_e ?_)
    | (refine blkQ_o rfl ?_)
    | (refine vl_gs rfl (fun hb => ?_) (fun hb => ?_))
    | (refine vl_ps rfl (fun hb => ?_) (fun hb => ?_)))
  refine VC.cond _ rfl (fun h => ?_) (fun h => ?_)
  · have hi : i < xs.length := by simpa using h
    obtain ⟨x, gx⟩ : ∃ x, xs[i]? = some x := ⟨_, List.getElem?_eq_getElem hi⟩
    have hgm := List.mem_of_getElem? (mkG_get (g := gCS) (w := wCS) gx k)
    obtain ⟨b, o, rfl, c1⟩ := ha.at2 (fun _ => rfl) (mkG_get gx k)
    rw [← hkk] at c1 hgm
    have hk1 := mkT_take (w := wCS) gx k
    have hk2 := mkT_le (w := wCS) wCS_nn xs k (i + 1)
    have hk3 := mkT_ge (w := wCS) wCS_nn (xs.take i) k
    have hwx : wCS x = 7 + 6 * x.c.pairs.length := rfl
    have hT := wP_T x.c.pairs (kk + 1 + 1 + 1 + 1 + 1 + 1 + 1)
    have hp := hps _ hgm
    have q := heldPairS_q (k := kk + 1 + 1 + 1 + 1 + 1 + 1 + 1) (xs := x.c.pairs) (by omega) (by omega) hp
    repeat' (first
      | (refine vl_add rfl rfl (by omega) ?_)
      | (refine vl_sub rfl rfl (by omega) ?_)
      | (refine vl_pure rfl ?_)
      | (refine vl_gy rfl rfl ?_)
      | (refine vl_gn rfl rfl ?_)
      | (refine vl_gu rfl ?_)
      | (refine vl_ld rfl (by first | exact cells_cell c1 (j := 0) rfl | exact cells_cell c1 (j := 1) rfl | exact cells_cell c1 (j := 2) rfl | exact cells_cell c1 (j := 3) rfl | exact cells_cell c1 (j := 4) rfl | exact cells_cell c1 (j := 5) rfl | exact cells_cell c1 (j := 6) rfl | exact cells_cell c1 (j := 7) rfl) ?_)
      | (refine vl_nil ?_)
      | (refine VC.seq ?_)
      | (refine VC.regV ?_)
      | (refine vl_idx rfl rfl (by omega) ?_)
      | (refine vl_lds rfl (by first | exact cells_cell c1 (j := 0) rfl | exact cells_cell c1 (j := 1) rfl | exact cells_cell c1 (j := 2) rfl | exact cells_cell c1 (j := 3) rfl | exact cells_cell c1 (j := 4) rfl | exact cells_cell c1 (j := 5) rfl | exact cells_cell c1 (j := 6) rfl | exact cells_cell c1 (j := 7) rfl) ?_)
      | (refine vl_alloc ?_)
      | (refine vl_stw rfl rfl rfl rfl rfl (Nat.le_of_ble_eq_true rfl) ?_)
      | (refine sk_zero ?_)
      | (refine sk_succ ?_)
      | (refine wk_nil ?_)
      | (refine wk_cons ?_)
      | (refine vl_box rfl rfl ?_)
      | (refine vl_bsl rfl ?_)
      | (refine vl_q rfl (q) ?_)
      | (refine vl_cq rfl (q) ?_)
      | (refine VC.dregV ?_)
      | (refine VC.block ?_)
      | (refine VC.ret ?_)
      | (refine VC.exit ?_)
      | (refine VC.skip ?_)
      | (refine seqQ_n ?_)
      | (refine seqQ_r ?_)
      | (refine seqQ_e ?_)
      | (refine blkQ_n ?_)
      | (refine blkQ_r ?_)
      | (refine blkQ_e ?_)
      | (refine blkQ_o rfl ?_)
      | (refine vl_gs rfl (fun hb => ?_) (fun hb => ?_))
      | (refine vl_ps rfl (fun hb => ?_) (fun hb => ?_))
      | (refine VC.cond _ rfl (fun hb => ?_) (fun hb => ?_)))
    any_goals (simp [gCS, gC] at hb; done)
    any_goals (simp at hb; omega)
    refine ⟨_, (i + 1, _), _, ?_, ⟨rfl, rfl, rfl, trivial⟩, Mem.le_refl _, rfl, hi, ?_, rfl⟩
    · dsimp only; omega
    · dsimp only; rw [hT]; omega
  · have hi : ¬ i < xs.length := by simpa using h
    repeat' (first
      | (refine vl_add rfl rfl (by omega) ?_)
      | (refine vl_sub rfl rfl (by omega) ?_)
      | (refine vl_pure rfl ?_)
      | (refine vl_gy rfl rfl ?_)
      | (refine vl_gn rfl rfl ?_)
      | (refine vl_gu rfl ?_)
      | (refine vl_nil ?_)
      | (refine VC.seq ?_)
      | (refine VC.regV ?_)
      | (refine vl_idx rfl rfl (by omega) ?_)
      | (refine vl_alloc ?_)
      | (refine vl_stw rfl rfl rfl rfl rfl (Nat.le_of_ble_eq_true rfl) ?_)
      | (refine sk_zero ?_)
      | (refine sk_succ ?_)
      | (refine wk_nil ?_)
      | (refine wk_cons ?_)
      | (refine vl_box rfl rfl ?_)
      | (refine vl_bsl rfl ?_)
      | (refine VC.dregV ?_)
      | (refine VC.block ?_)
      | (refine VC.ret ?_)
      | (refine VC.exit ?_)
      | (refine VC.skip ?_)
      | (refine seqQ_n ?_)
      | (refine seqQ_r ?_)
      | (refine seqQ_e ?_)
      | (refine blkQ_n ?_)
      | (refine blkQ_r ?_)
      | (refine blkQ_e ?_)
      | (refine blkQ_o rfl ?_)
      | (refine vl_gs rfl (fun hb => ?_) (fun hb => ?_))
      | (refine vl_ps rfl (fun hb => ?_) (fun hb => ?_))
      | (refine VC.cond _ rfl (fun hb => ?_) (fun hb => ?_)))
    rw [List.take_of_length_le (by omega)] at hkk
    exact fnQ_r rfl (Mem.le_refl _) ⟨by rw [hkk], rfl⟩
/-- what marks make of a heap, and where they end -/
def gH (k : Int) (x : HS) : HS :=
  ⟨{ x.H with regs := mkG gW wW k x.H.regs, cells := mkG gC wC (mkT wW k x.H.regs) x.H.cells, gray := mkG gI wI (mkT wC (mkT wW k x.H.regs) x.H.cells) x.H.gray }, x.rs, x.cs, x.gs, mkG gCS wCS (mkT wW k x.H.regs) x.xs⟩
def endH (k : Int) (H : Heap) : Int := mkT wI (mkT wC (mkT wW k H.regs) H.cells) H.gray
theorem wC_nn (c : Cell) : 0 ≤ wC c := by unfold wC; omega
theorem mkT_wC : ∀ (cs : List Cell) (k : Int), mkT wC k cs = k + 7 * cs.length + 6 * pairsN cs
  | [], k => by simp [mkT, pairsN]
  | c :: r, k => by
    have e : pairsN (c :: r) = c.pairs.length + pairsN r := by simp [pairsN]
    simp only [mkT, List.length_cons, e]; rw [mkT_wC r]; simp only [wC, Int.natCast_add]; omega
theorem endH_eq (k : Int) (H : Heap) : endH k H = k + 3 * H.regs.length + 7 * H.cells.length + 6 * pairsN H.cells + H.gray.length := by
  unfold endH
  rw [mkT_const (w := wI) (c := 1) (fun _ => rfl), mkT_wC, mkT_const (w := wW) (c := 3) (fun _ => rfl)]; omega
theorem markHeap_f {M : Mem} {x : HS} {k : Int} (h0 : 0 ≤ k) (hb : endH k x.H ≤ 4611686018427387904) (hx : WHV M x) :
    Fn Try.prog 28 [x.v, .int .i64 k] M (fun v M' => v = .int .i64 (endH k x.H) ∧ OffL M x.fp M' ∧ RHV M' (gH k x)) := by
  have hp := pairsN_nonneg x.H.cells
  have e0 := endH_eq k x.H
  have e1 := mkT_const (w := wW) (c := 3) (fun _ => rfl) x.H.regs k
  have e2 := mkT_wC x.H.cells (mkT wW k x.H.regs)
  have e3 := mkT_const (w := wI) (c := 1) (fun _ => rfl) x.H.gray (mkT wC (mkT wW k x.H.regs) x.H.cells)
  have e4 := mkT_wCS x.xs (mkT wW k x.H.regs)
  rw [hx.r.eq] at e4
  have hnd := hx.nd
  simp only [HS.fp, List.nodup_append] at hnd
  obtain ⟨_, ⟨hn2, _, hn3⟩, hn1⟩ := hnd
  refine fn28 (by simp) ?_
  repeat' (first
    | (refine vl_add rfl rfl (by omega) ?_)
    | (refine vl_sub rfl rfl (by omega) ?_)
    | (refine vl_pure rfl ?_)
    | (refine vl_gy rfl rfl ?_)
    | (refine vl_gn rfl rfl ?_)
    | (refine vl_gu rfl ?_)
    | (refine vl_nil ?_)
    | (refine VC.seq ?_)
    | (refine VC.regV ?_)
    | (refine vl_idx rfl rfl (by omega) ?_)
    | (refine vl_alloc ?_)
    | (refine vl_stw rfl rfl rfl rfl rfl (Nat.le_of_ble_eq_true rfl) ?_)
    | (refine sk_zero ?_)
    | (refine sk_succ ?_)
    | (refine wk_nil ?_)
    | (refine wk_cons ?_)
    | (refine vl_box rfl rfl ?_)
    | (refine vl_bsl rfl ?_)
    | (refine VC.dregV ?_)
    | (refine VC.block ?_)
    | (refine VC.ret ?_)
    | (refine VC.exit ?_)
    | (refine VC.skip ?_)
    | (refine seqQ_n ?_)
    | (refine seqQ_r ?_)
    | (refine seqQ_e ?_)
    | (refine blkQ_n ?_)
    | (refine blkQ_r ?_)
    | (refine blkQ_e ?_)
    | (refine blkQ_o rfl ?_)
    | (refine vl_gs rfl (fun hb => ?_) (fun hb => ?_))
    | (refine vl_ps rfl (fun hb => ?_) (fun hb => ?_))
    | (refine VC.cond _ rfl (fun hb => ?_) (fun hb => ?_)))
  refine vl_c rfl (markWordS_f h0 (by omega) hx.r.regs) (fun v M1 hq => ?_)
  obtain ⟨rfl, o1, s1⟩ := hq
  repeat' (first
    | (refine vl_add rfl rfl (by omega) ?_)
    | (refine vl_sub rfl rfl (by omega) ?_)
    | (refine vl_pure rfl ?_)
    | (refine vl_gy rfl rfl ?_)
    | (refine vl_gn rfl rfl ?_)
    | (refine vl_gu rfl ?_)
    | (refine vl_nil ?_)
    | (refine VC.seq ?_)
    | (refine VC.regV ?_)
    | (refine vl_idx rfl rfl (by omega) ?_)
    | (refine vl_alloc ?_)
    | (refine vl_stw rfl rfl rfl rfl rfl (Nat.le_of_ble_eq_true rfl) ?_)
    | (refine sk_zero ?_)
    | (refine sk_succ ?_)
    | (refine wk_nil ?_)
    | (refine wk_cons ?_)
    | (refine vl_box rfl rfl ?_)
    | (refine vl_bsl rfl ?_)
    | (refine VC.dregV ?_)
    | (refine VC.block ?_)
    | (refine VC.ret ?_)
    | (refine VC.exit ?_)
    | (refine VC.skip ?_)
    | (refine seqQ_n ?_)
    | (refine seqQ_r ?_)
    | (refine seqQ_e ?_)
    | (refine blkQ_n ?_)
    | (refine blkQ_r ?_)
    | (refine blkQ_e ?_)
    | (refine blkQ_o rfl ?_)
    | (refine vl_gs rfl (fun hb => ?_) (fun hb => ?_))
    | (refine vl_ps rfl (fun hb => ?_) (fun hb => ?_))
    | (refine VC.cond _ rfl (fun hb => ?_) (fun hb => ?_)))
  have c1 : CL M1 x.cs x.xs := ⟨hx.r.cl.sl.offL o1 (fun b h h' => hn1 b h' b (by simp [fpC, h]) rfl), fun y hy => (hx.r.cl.ps y hy).offL o1 (fun b h h' => hn1 b h' b (by
    simp only [fpC, List.mem_append, List.mem_flatMap]; exact .inl (.inr ⟨y, hy, h⟩)) rfl)⟩
  have g1 := hx.r.gray.offL o1 (fun b h h' => hn1 b h' b (by simp [h]) rfl)
  refine vl_c rfl (markCellS_f (k := mkT wW k x.H.regs) (by omega) (by omega) c1 hn2) (fun v M2 hq => ?_)
  obtain ⟨rfl, o2, s2⟩ := hq
  repeat' (first
    | (refine vl_add rfl rfl (by omega) ?_)
    | (refine vl_sub rfl rfl (by omega) ?_)
    | (refine vl_pure rfl ?_)
    | (refine vl_gy rfl rfl ?_)
    | (refine vl_gn rfl rfl ?_)
    | (refine vl_gu rfl ?_)
    | (refine vl_nil ?_)
    | (refine VC.seq ?_)
    | (refine VC.regV ?_)
    | (refine vl_idx rfl rfl (by omega) ?_)
    | (refine vl_alloc ?_)
    | (refine vl_stw rfl rfl rfl rfl rfl (Nat.le_of_ble_eq_true rfl) ?_)
    | (refine sk_zero ?_)
    | (refine sk_succ ?_)
    | (refine wk_nil ?_)
    | (refine wk_cons ?_)
    | (refine vl_box rfl rfl ?_)
    | (refine vl_bsl rfl ?_)
    | (refine VC.dregV ?_)
    | (refine VC.block ?_)
    | (refine VC.ret ?_)
    | (refine VC.exit ?_)
    | (refine VC.skip ?_)
    | (refine seqQ_n ?_)
    | (refine seqQ_r ?_)
    | (refine seqQ_e ?_)
    | (refine blkQ_n ?_)
    | (refine blkQ_r ?_)
    | (refine blkQ_e ?_)
    | (refine blkQ_o rfl ?_)
    | (refine vl_gs rfl (fun hb => ?_) (fun hb => ?_))
    | (refine vl_ps rfl (fun hb => ?_) (fun hb => ?_))
    | (refine VC.cond _ rfl (fun hb => ?_) (fun hb => ?_)))
  have g2 := g1.offL o2 (fun b h h' => hn3 b h' b h rfl)
  have r2 := s1.offL o2 (fun b h h' => hn1 b h b (by simp [h']) rfl)
  rw [e4]
  refine vl_c rfl (markIntS_f (by omega) (by omega) g2) (fun v M3 hq => ?_)
  obtain ⟨rfl, o3, s3⟩ := hq
  repeat' (first
    | (refine vl_add rfl rfl (by omega) ?_)
    | (refine vl_sub rfl rfl (by omega) ?_)
    | (refine vl_pure rfl ?_)
    | (refine vl_gy rfl rfl ?_)
    | (refine vl_gn rfl rfl ?_)
    | (refine vl_gu rfl ?_)
    | (refine vl_nil ?_)
    | (refine VC.seq ?_)
    | (refine VC.regV ?_)
    | (refine vl_idx rfl rfl (by omega) ?_)
    | (refine vl_alloc ?_)
    | (refine vl_stw rfl rfl rfl rfl rfl (Nat.le_of_ble_eq_true rfl) ?_)
    | (refine sk_zero ?_)
    | (refine sk_succ ?_)
    | (refine wk_nil ?_)
    | (refine wk_cons ?_)
    | (refine vl_box rfl rfl ?_)
    | (refine vl_bsl rfl ?_)
    | (refine VC.dregV ?_)
    | (refine VC.block ?_)
    | (refine VC.ret ?_)
    | (refine VC.exit ?_)
    | (refine VC.skip ?_)
    | (refine seqQ_n ?_)
    | (refine seqQ_r ?_)
    | (refine seqQ_e ?_)
    | (refine blkQ_n ?_)
    | (refine blkQ_r ?_)
    | (refine blkQ_e ?_)
    | (refine blkQ_o rfl ?_)
    | (refine vl_gs rfl (fun hb => ?_) (fun hb => ?_))
    | (refine vl_ps rfl (fun hb => ?_) (fun hb => ?_))
    | (refine VC.cond _ rfl (fun hb => ?_) (fun hb => ?_)))
  refine fnQ_r rfl (Mem.le_refl _) ⟨rfl, ?_, ⟨r2.offL o3 (fun b h h' => hn1 b h b (by simp [h']) rfl), ⟨s2.sl.offL o3 (fun b h h' => hn3 b (by simp [fpC, h]) b h' rfl), fun y hy => (s2.ps y hy).offL o3 (fun b h h' => hn3 b ?_ b h' rfl)⟩, ?_, s3⟩⟩
  · refine ((o1.mono (fun b h => ?_)).trans (o2.mono (fun b h => ?_))).trans (o3.mono (fun b h => ?_)) <;> simp [HS.fp, h]
  · refine List.mem_append.2 (.inr ?_)
    rw [← mkG_own (k := mkT wW k x.H.regs)]
    exact List.mem_flatMap.2 ⟨y, hy, h⟩
  · show (mkG gCS wCS _ x.xs).map (·.c) = _
    rw [mkG_gCS_c, hx.r.eq]; rfl
theorem heldHeap_q {M : Mem} {x : HS} {k : Int} (h0 : 0 ≤ k) (hb : endH k x.H ≤ 4611686018427387904) (he : x.xs.map (·.c) = x.H.cells) (hx : RHV M (gH k x)) :
    Qt Try.prog 29 [(gH k x).v, .int .i64 k] M (.int .i64 (endH k x.H)) := by
  have hp := pairsN_nonneg x.H.cells
  have e0 := endH_eq k x.H
  have e1 := mkT_const (w := wW) (c := 3) (fun _ => rfl) x.H.regs k
  have e2 := mkT_wC x.H.cells (mkT wW k x.H.regs)
  have e3 := mkT_const (w := wI) (c := 1) (fun _ => rfl) x.H.gray (mkT wC (mkT wW k x.H.regs) x.H.cells)
  have e4 := mkT_wCS x.xs (mkT wW k x.H.regs)
  rw [he] at e4
  have q1 := heldWordS_q h0 (by omega) hx.regs
  have q2 := heldCellS_q (k := mkT wW k x.H.regs) (xs := x.xs) (by omega) (by omega) hx.cl
  rw [e4] at q2
  have q3 := heldIntS_q (k := mkT wC (mkT wW k x.H.regs) x.H.cells) (by omega) (by omega) hx.gray
  refine fn29 (by simp) ?_
  repeat' (first
    | (refine vl_add rfl rfl (by omega) ?_)
    | (refine vl_sub rfl rfl (by omega) ?_)
    | (refine vl_pure rfl ?_)
    | (refine vl_gy rfl rfl ?_)
    | (refine vl_gn rfl rfl ?_)
    | (refine vl_gu rfl ?_)
    | (refine vl_nil ?_)
    | (refine VC.seq ?_)
    | (refine VC.regV ?_)
    | (refine vl_idx rfl rfl (by omega) ?_)
    | (refine vl_alloc ?_)
    | (refine vl_stw rfl rfl rfl rfl rfl (Nat.le_of_ble_eq_true rfl) ?_)
    | (refine sk_zero ?_)
    | (refine sk_succ ?_)
    | (refine wk_nil ?_)
    | (refine wk_cons ?_)
    | (refine vl_box rfl rfl ?_)
    | (refine vl_bsl rfl ?_)
    | (refine vl_q rfl (q1) ?_)
    | (refine vl_cq rfl (q1) ?_)
    | (refine vl_q rfl (q2) ?_)
    | (refine vl_cq rfl (q2) ?_)
    | (refine vl_q rfl (q3) ?_)
    | (refine vl_cq rfl (q3) ?_)
    | (refine VC.dregV ?_)
    | (refine VC.block ?_)
    | (refine VC.ret ?_)
    | (refine VC.exit ?_)
    | (refine VC.skip ?_)
    | (refine seqQ_n ?_)
    | (refine seqQ_r ?_)
    | (refine seqQ_e ?_)
    | (refine blkQ_n ?_)
    | (refine blkQ_r ?_)
    | (refine blkQ_e ?_)
    | (refine blkQ_o rfl ?_)
    | (refine vl_gs rfl (fun hb => ?_) (fun hb => ?_))
    | (refine vl_ps rfl (fun hb => ?_) (fun hb => ?_))
    | (refine VC.cond _ rfl (fun hb => ?_) (fun hb => ?_)))
  any_goals (simp at hb; omega)
  exact fnQ_r rfl (Mem.le_refl _) (q_end rfl)
/-- the same, of the heap's value as it was handed out -/
theorem heldHeap_q' {M : Mem} {x : HS} {k : Int} (h0 : 0 ≤ k) (hb : endH k x.H ≤ 4611686018427387904) (he : x.xs.map (·.c) = x.H.cells) (hx : RHV M (gH k x)) :
    Qt Try.prog 29 [x.v, .int .i64 k] M (.int .i64 (endH k x.H)) := heldHeap_q h0 hb he hx
end Go.Proofs.Ytpcakglnklpjoaa.E
