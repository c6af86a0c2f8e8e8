/- A part of the proof. Conditions: none. -/
import Derived.Test.YtcmllambknfleaaKE8
set_option linter.unusedVariables false
set_option linter.unusedSimpArgs false
set_option maxRecDepth 100000
namespace Go.Proofs.Ytcmllambknfleaa.E
open Go
open Classical
theorem Sl.congr {M : Mem} {α : Type} {f : α → List Value} {size : Nat} {v : Value} {xs ys : List α} (h : Sl M size f v xs) (e : xs.map f = ys.map f) : Sl M size f v ys := by
  have hl : xs.length = ys.length := by have := congrArg List.length e; simpa using this
  have hf : xs.flatMap f = ys.flatMap f := by rw [List.flatMap_def, List.flatMap_def, e]
  rcases h with ⟨c, h1, h2, rfl⟩ | ⟨b, o, cap, row, h1, hM, hc, h2, hr, he⟩
  · exact .inl ⟨c, h1, h2, by cases ys with | nil => rfl | cons y r => simp at hl⟩
  · rw [hl] at h1 hc h2 he
    exact .inr ⟨b, o, cap, row, h1, hM, hc, h2, hr, by rw [he, hf]⟩
def gC (k : Int) (c : Cell) : Cell := ⟨k, k + 1, k + 1 + 1, k + 1 + 1 + 1, k + 1 + 1 + 1 + 1, k + 1 + 1 + 1 + 1 + 1, k + 1 + 1 + 1 + 1 + 1 + 1, mkG gP wP (k + 1 + 1 + 1 + 1 + 1 + 1 + 1) c.pairs⟩
def wC (c : Cell) : Int := 7 + 6 * c.pairs.length
def gCS (k : Int) (y : CS) : CS := ⟨gC k y.c, y.sa, y.cap⟩
def wCS (y : CS) : Int := wC y.c
/-- scalars of a cell that are marked, the pairs as they are -/
def hCS (k : Int) (y : CS) : CS := ⟨⟨k, k + 1, k + 1 + 1, k + 1 + 1 + 1, k + 1 + 1 + 1 + 1, k + 1 + 1 + 1 + 1 + 1, k + 1 + 1 + 1 + 1 + 1 + 1, y.c.pairs⟩, y.sa, y.cap⟩
theorem csv_hCS (k : Int) (y : CS) : csv (hCS k y) = csv (gCS k y) := by
  simp only [csv, cv, hCS, gCS, gC, mkG_len]
theorem gCS_s (k : Int) (y : CS) : (gCS k y).s = y.s := by simp only [CS.s, gCS, gC, mkG_len]
theorem wCS_nn (y : CS) : 0 ≤ wCS y := by unfold wCS wC; omega
theorem wP_T (xs : List Pair) (k : Int) : mkT wP k xs = k + 6 * xs.length := mkT_const (w := wP) (c := 6) (fun _ => rfl) xs k
theorem mkG_gCS_c : ∀ (xs : List CS) (k : Int), (mkG gCS wCS k xs).map (·.c) = mkG gC wC k (xs.map (·.c))
  | [], _ => rfl
  | x :: r, k => by simp only [mkG, List.map_cons]; rw [mkG_gCS_c r]; rfl
theorem mkT_wCS : ∀ (xs : List CS) (k : Int), mkT wCS k xs = mkT wC k (xs.map (·.c))
  | [], _ => rfl
  | x :: r, k => by simp only [mkT, List.map_cons]; rw [mkT_wCS r]; rfl
theorem mkG_own : ∀ (xs : List CS) (k : Int), ((mkG gCS wCS k xs).flatMap fun y => own y.s) = xs.flatMap fun y => own y.s
  | [], _ => rfl
  | x :: r, k => by simp only [mkG, List.flatMap_cons, gCS_s]; rw [mkG_own r]
theorem flat_apart {α β : Type} {f : α → List β} : ∀ {xs : List α} {i j : Nat} {x y : α}, (xs.flatMap f).Nodup → xs[i]? = some x → xs[j]? = some y → i ≠ j → ∀ b, b ∈ f x → b ∉ f y
  | [], i, _, x, _, _, h, _, _, _, _, _ => by simp at h
  | z :: r, i, j, x, y, hn, hi, hj, hij, b, hb, hc => by
    rw [List.flatMap_cons, List.nodup_append] at hn
    obtain ⟨_, hr, hd⟩ := hn
    cases i with
    | zero =>
      cases j with
      | zero => exact hij rfl
      | succ j =>
        simp only [List.getElem?_cons_zero, Option.some.injEq] at hi
        simp only [List.getElem?_cons_succ] at hj
        subst hi
        exact hd b hb b (List.mem_flatMap.2 ⟨y, List.mem_of_getElem? hj, hc⟩) rfl
    | succ i =>
      simp only [List.getElem?_cons_succ] at hi
      cases j with
      | zero =>
        simp only [List.getElem?_cons_zero, Option.some.injEq] at hj
        subst hj
        exact hd b hc b (List.mem_flatMap.2 ⟨x, List.mem_of_getElem? hi, hb⟩) rfl
      | succ j =>
        simp only [List.getElem?_cons_succ] at hj
        exact flat_apart hr hi hj (by omega) b hb hc
theorem mid_own {xs : List CS} {i : Nat} {k : Int} : ((mkG gCS wCS k (xs.take i) ++ xs.drop i).flatMap fun y => own y.s) = xs.flatMap fun y => own y.s := by
  rw [List.flatMap_append, mkG_own, ← List.flatMap_append, List.take_append_drop]
theorem markCellS_f {M : Mem} {va : Value} {xs : List CS} {k : Int} (h0 : 0 ≤ k) (hb : mkT wCS k xs ≤ 4611686018427387904) (ha : CL M va xs) (hnd : (fpC va xs).Nodup) :
    Fn Try.prog 76 [va, .int .i64 k] M (fun v M' => v = .int .i64 (mkT wCS k xs) ∧ OffL M (fpC va xs) M' ∧ CL M' va (mkG gCS wCS k xs)) := by
  obtain ⟨aa, ca, ea⟩ := ha.sl.len
  have hbd := ha.sl.bound
  refine fn76 (by simp) ?_
  subst ea
  repeat' (first
    | (refine vl_pure rfl ?_)
    | (refine vl_nil ?_)
    | (refine VC.seq ?_)
    | (refine VC.regV ?_)
    | (refine VC.block ?_))
  refine VC.loop (α := Nat × Int) (fun p => [(0, .v (.slice aa xs.length ca)), (1, .v (.int .i64 p.2)), (5, .v (.int .i64 p.1))]) (fun n p M' => n = xs.length - p.1 ∧ p.1 ≤ xs.length ∧ p.2 = mkT wCS k (xs.take p.1) ∧ OffL M (fpC (.slice aa xs.length ca) xs) M' ∧ CL M' (.slice aa xs.length ca) (mkG gCS wCS k (xs.take p.1) ++ xs.drop p.1))
    ⟨_, (0, k), M, ⟨rfl, rfl, rfl, trivial⟩, Mem.le_refl _, rfl, Nat.zero_le _, rfl, OffL.refl _ _, ha⟩ ?_
  rintro n ⟨i, kk⟩ M2 ⟨rfl, hi, hkk, hoff, hcl⟩
  dsimp only at hi hkk hoff hcl ⊢
  repeat' (first
    | (refine vl_pure rfl ?_)
    | (refine vl_nil ?_)
    | (refine VC.seq ?_)
    | (refine VC.regV ?_)
    | (refine seqQ_n ?_))
  refine VC.cond _ rfl (fun h => ?_) (fun h => ?_)
  · have hi : i < xs.length := by simpa using h
    obtain ⟨x, gx⟩ : ∃ x, xs[i]? = some x := ⟨_, List.getElem?_eq_getElem hi⟩
    obtain ⟨hsl, hps⟩ := hcl
    obtain ⟨b, o, rfl, c1⟩ := hsl.at2 (fun _ => rfl) (mid_get gx k)
    have hk1 := mkT_take (w := wCS) gx k
    have hk2 := mkT_le (w := wCS) wCS_nn xs k (i + 1)
    have hk3 := mkT_ge (w := wCS) wCS_nn (xs.take i) k
    have hwx : wCS x = 7 + 6 * x.c.pairs.length := rfl
    repeat' (first
      | (refine vl_pure rfl ?_)
      | (refine VC.seq ?_)
      | (refine VC.regV ?_)
      | (refine vl_idx rfl rfl (by omega) ?_)
      | (refine VC.block ?_)
      | (refine VC.skip ?_))
    refine vl_sts ⟨⟨kk, x.c.kind, x.c.weak, x.c.last, x.c.born, x.c.color, x.c.to, x.c.pairs⟩, x.sa, x.cap⟩ hsl (fun _ => rfl) (mid_get gx k) (i := i) (j := 0) rfl rfl rfl rfl (Nat.le_of_ble_eq_true rfl) rfl (fun M3 o3 s3 => ?_)
    repeat' (first
      | (refine vl_add rfl rfl (by omega) ?_)
      | (refine vl_pure rfl ?_)
      | (refine vl_nil ?_)
      | (refine VC.seq ?_)
      | (refine VC.regV ?_)
      | (refine vl_idx rfl rfl (by omega) ?_))
    refine vl_sts ⟨⟨kk, kk + 1, x.c.weak, x.c.last, x.c.born, x.c.color, x.c.to, x.c.pairs⟩, x.sa, x.cap⟩ s3 (fun _ => rfl) (set_get (mid_get gx k)) (i := i) (j := 1) rfl rfl rfl rfl (Nat.le_of_ble_eq_true rfl) rfl (fun M4 o4 s4 => ?_)
    rw [List.set_set] at s4
    repeat' (first
      | (refine vl_add rfl rfl (by omega) ?_)
      | (refine vl_pure rfl ?_)
      | (refine vl_nil ?_)
      | (refine VC.seq ?_)
      | (refine VC.regV ?_)
      | (refine vl_idx rfl rfl (by omega) ?_))
    refine vl_sts ⟨⟨kk, kk + 1, kk + 1 + 1, x.c.last, x.c.born, x.c.color, x.c.to, x.c.pairs⟩, x.sa, x.cap⟩ s4 (fun _ => rfl) (set_get (mid_get gx k)) (i := i) (j := 2) rfl rfl rfl rfl (Nat.le_of_ble_eq_true rfl) rfl (fun M5 o5 s5 => ?_)
    rw [List.set_set] at s5
    repeat' (first
      | (refine vl_add rfl rfl (by omega) ?_)
      | (refine vl_pure rfl ?_)
      | (refine vl_nil ?_)
      | (refine VC.seq ?_)
      | (refine VC.regV ?_)
      | (refine vl_idx rfl rfl (by omega) ?_))
    refine vl_sts ⟨⟨kk, kk + 1, kk + 1 + 1, kk + 1 + 1 + 1, x.c.born, x.c.color, x.c.to, x.c.pairs⟩, x.sa, x.cap⟩ s5 (fun _ => rfl) (set_get (mid_get gx k)) (i := i) (j := 3) rfl rfl rfl rfl (Nat.le_of_ble_eq_true rfl) rfl (fun M6 o6 s6 => ?_)
    rw [List.set_set] at s6
    repeat' (first
      | (refine vl_add rfl rfl (by omega) ?_)
      | (refine vl_pure rfl ?_)
      | (refine vl_nil ?_)
      | (refine VC.seq ?_)
      | (refine VC.regV ?_)
      | (refine vl_idx rfl rfl (by omega) ?_))
    refine vl_sts ⟨⟨kk, kk + 1, kk + 1 + 1, kk + 1 + 1 + 1, kk + 1 + 1 + 1 + 1, x.c.color, x.c.to, x.c.pairs⟩, x.sa, x.cap⟩ s6 (fun _ => rfl) (set_get (mid_get gx k)) (i := i) (j := 4) rfl rfl rfl rfl (Nat.le_of_ble_eq_true rfl) rfl (fun M7 o7 s7 => ?_)
    rw [List.set_set] at s7
    repeat' (first
      | (refine vl_add rfl rfl (by omega) ?_)
      | (refine vl_pure rfl ?_)
      | (refine vl_nil ?_)
      | (refine VC.seq ?_)
      | (refine VC.regV ?_)
      | (refine vl_idx rfl rfl (by omega) ?_))
    refine vl_sts ⟨⟨kk, kk + 1, kk + 1 + 1, kk + 1 + 1 + 1, kk + 1 + 1 + 1 + 1, kk + 1 + 1 + 1 + 1 + 1, x.c.to, x.c.pairs⟩, x.sa, x.cap⟩ s7 (fun _ => rfl) (set_get (mid_get gx k)) (i := i) (j := 5) rfl rfl rfl rfl (Nat.le_of_ble_eq_true rfl) rfl (fun M8 o8 s8 => ?_)
    rw [List.set_set] at s8
    repeat' (first
      | (refine vl_add rfl rfl (by omega) ?_)
      | (refine vl_pure rfl ?_)
      | (refine vl_nil ?_)
      | (refine VC.seq ?_)
      | (refine VC.regV ?_)
      | (refine vl_idx rfl rfl (by omega) ?_))
    refine vl_sts (hCS kk x) s8 (fun _ => rfl) (set_get (mid_get gx k)) (i := i) (j := 6) rfl rfl rfl rfl (Nat.le_of_ble_eq_true rfl) rfl (fun M9 o9 s9 => ?_)
    rw [List.set_set] at s9
    have oo : Off M2 b M9 := (((((o3.trans o4).trans o5).trans o6).trans o7).trans o8).trans o9
    obtain ⟨b', o', e', c2⟩ := s9.at2 (fun _ => rfl) (set_get (mid_get gx k))
    cases e'
    have hnc := (List.nodup_append.1 hnd)
    have hbo : own (.slice (some ⟨b, o, none⟩) xs.length ca) = [b] := rfl
    have hbn : ∀ (j : Nat) (y : CS), (mkG gCS wCS k (xs.take i) ++ xs.drop i)[j]? = some y → b ∉ own y.s := fun j y hj hm =>
      hnc.2.2 b (by rw [hbo]; simp) b (by rw [← mid_own (xs := xs) (i := i) (k := k)]; exact List.mem_flatMap.2 ⟨y, List.mem_of_getElem? hj, hm⟩) rfl
    have hpx : Sl M9 6 pv x.s x.c.pairs := (hps x (List.mem_of_getElem? (mid_get gx k))).off oo (hbn i x (mid_get gx k))
    have hT := wP_T x.c.pairs (kk + 1 + 1 + 1 + 1 + 1 + 1 + 1)
    have fp : cell M9 b (o + i * 8 + 7) = some x.s := cells_cell c2 (j := 7) rfl
    repeat' (first
      | (refine vl_add rfl rfl (by omega) ?_)
      | (refine vl_pure rfl ?_)
      | (refine vl_ld rfl (by first | exact fp) ?_)
      | (refine vl_nil ?_)
      | (refine VC.seq ?_)
      | (refine VC.regV ?_)
      | (refine vl_idx rfl rfl (by omega) ?_))
    refine vl_c rfl (markPairS_f (by omega) (by omega) hpx) (fun v M10 hq => ?_)
    obtain ⟨rfl, o10, s10⟩ := hq
    repeat' (first
      | (refine vl_add rfl rfl (by omega) ?_)
      | (refine vl_pure rfl ?_)
      | (refine vl_nil ?_)
      | (refine VC.regV ?_)
      | (refine seqQ_n ?_))
    
    have hsub : ∀ c, c ∈ own x.s → c ∈ fpC (.slice (some ⟨b, o, none⟩) xs.length ca) xs := fun c hc => by
      unfold fpC; exact List.mem_append.2 (.inr (List.mem_flatMap.2 ⟨x, List.mem_of_getElem? gx, hc⟩))
    have hsl10 := s9.offL o10 (fun c hc hc' => by
      rw [hbo] at hc; simp only [List.mem_singleton] at hc; subst hc
      exact hbn i x (mid_get gx k) hc')
    have hset : ((mkG gCS wCS k (xs.take i) ++ xs.drop i).set i (hCS kk x)).map csv = (mkG gCS wCS k (xs.take (i + 1)) ++ xs.drop (i + 1)).map csv := by
      rw [← mid_set (g := gCS) gx hkk rfl, List.map_set, List.map_set, csv_hCS]
    refine ⟨_, (i + 1, _), _, ?_, ⟨rfl, rfl, rfl, trivial⟩, Mem.le_refl _, rfl, hi, ?_, ?_, hsl10.congr hset, ?_⟩
    · dsimp only; omega
    · dsimp only; rw [hT]; omega
    · exact (hoff.off oo (by simp [fpC, hbo])).trans (o10.mono hsub)
    · intro y hy
      dsimp only at hy
      rw [← mid_set (g := gCS) gx hkk rfl] at hy
      obtain ⟨j, hj⟩ := List.mem_iff_getElem?.1 hy
      by_cases hji : j = i
      · subst hji
        rw [set_get (mid_get gx k)] at hj
        cases hj
        rw [gCS_s]; exact s10
      · rw [List.getElem?_set_ne (by omega)] at hj
        have := (hps y (List.mem_of_getElem? hj)).off oo (hbn j y hj)
        refine this.offL o10 (fun c hc hc' => ?_)
        have hnd2 : ((mkG gCS wCS k (xs.take i) ++ xs.drop i).flatMap fun (y : CS) => own y.s).Nodup := by rw [mid_own]; exact hnc.2.1
        exact flat_apart hnd2 hj (mid_get gx k) hji c hc hc'
  · have hi : ¬ i < xs.length := by simpa using h
    repeat' (first
      | (refine vl_pure rfl ?_)
      | (refine vl_nil ?_)
      | (refine VC.seq ?_)
      | (refine VC.regV ?_)
      | (refine VC.ret ?_)
      | (refine VC.exit ?_))
    rw [List.drop_of_length_le (by omega), List.append_nil, List.take_of_length_le (by omega)] at hcl
    rw [List.take_of_length_le (by omega)] at hkk
    exact fnQ_r rfl (Mem.le_refl _) ⟨by rw [hkk], hoff, hcl⟩
end Go.Proofs.Ytcmllambknfleaa.E
set_option linter.unusedVariables false
set_option linter.unusedSimpArgs false
set_option maxRecDepth 100000
namespace Go.Proofs.Ytcmllambknfleaa.E
open Go
open Classical
theorem heldCellS_q {M : Mem} {va : Value} {xs : List CS} {k : Int} (h0 : 0 ≤ k) (hb : mkT wCS k xs ≤ 4611686018427387904) (hcl : CL M va (mkG gCS wCS k xs)) :
    Qt Try.prog 79 [va, .int .i64 k] M (.int .i64 (mkT wCS k xs)) := by
  obtain ⟨ha, hps⟩ := hcl
  obtain ⟨aa, ca, ea⟩ := ha.len
  have hbd := ha.bound
  rw [mkG_len] at ea hbd
  refine fn79 (by simp) ?_
  subst ea
  repeat' (first
    | (refine vl_pure rfl ?_)
    | (refine vl_nil ?_)
    | (refine VC.seq ?_)
    | (refine VC.regV ?_)
    | (refine VC.block ?_))
  refine VC.loop (α := Nat × Int) (fun p => [(0, .v (.slice aa xs.length ca)), (1, .v (.int .i64 p.2)), (5, .v (.int .i64 p.1))]) (fun n p M' => n = xs.length - p.1 ∧ p.1 ≤ xs.length ∧ p.2 = mkT wCS k (xs.take p.1) ∧ M' = M)
    ⟨_, (0, k), M, ⟨rfl, rfl, rfl, trivial⟩, Mem.le_refl _, rfl, Nat.zero_le _, rfl, rfl⟩ ?_
  rintro n ⟨i, kk⟩ M2 ⟨rfl, hi, hkk, rfl⟩
  dsimp only at hi hkk ⊢
  repeat' (first
    | (refine vl_pure rfl ?_)
    | (refine vl_nil ?_)
    | (refine VC.seq ?_)
    | (refine VC.regV ?_)
    | (refine seqQ_n ?_))
  refine VC.cond _ rfl (fun h => ?_) (fun h => ?_)
  · have hi : i < xs.length := by simpa using h
    obtain ⟨x, gx⟩ : ∃ x, xs[i]? = some x := ⟨_, List.getElem?_eq_getElem hi⟩
    have hgm := List.mem_of_getElem? (mkG_get (g := gCS) (w := wCS) gx k)
    obtain ⟨b, o, rfl, c1⟩ := ha.at2 (fun _ => rfl) (mkG_get gx k)
    rw [← hkk] at c1 hgm
    have hk1 := mkT_take (w := wCS) gx k
    have hk2 := mkT_le (w := wCS) wCS_nn xs k (i + 1)
    have hk3 := mkT_ge (w := wCS) wCS_nn (xs.take i) k
    have hwx : wCS x = 7 + 6 * x.c.pairs.length := rfl
    have hT := wP_T x.c.pairs (kk + 1 + 1 + 1 + 1 + 1 + 1 + 1)
    have hp := hps _ hgm
    have q := heldPairS_q (k := kk + 1 + 1 + 1 + 1 + 1 + 1 + 1) (xs := x.c.pairs) (by omega) (by omega) hp
    repeat' (first
      | (refine vl_add rfl rfl (by omega) ?_)
      | (refine vl_pure rfl ?_)
      | (refine vl_ld rfl (by first | exact cells_cell c1 (j := 0) rfl | exact cells_cell c1 (j := 1) rfl | exact cells_cell c1 (j := 2) rfl | exact cells_cell c1 (j := 3) rfl | exact cells_cell c1 (j := 4) rfl | exact cells_cell c1 (j := 5) rfl | exact cells_cell c1 (j := 6) rfl | exact cells_cell c1 (j := 7) rfl) ?_)
      | (refine vl_nil ?_)
      | (refine VC.seq ?_)
      | (refine VC.regV ?_)
      | (refine vl_idx rfl rfl (by omega) ?_)
      | (refine vl_cq rfl (q) ?_)
      | (refine VC.block ?_)
      | (refine VC.ret ?_)
      | (refine VC.skip ?_)
      | (refine seqQ_n ?_)
      | (refine seqQ_r ?_)
      | (refine blkQ_r ?_)
      | (refine VC.cond _ rfl (fun hb => ?_) (fun hb => ?_)))
    any_goals (simp [gCS, gC] at hb; done)
    any_goals (simp at hb; omega)
    refine ⟨_, (i + 1, _), _, ?_, ⟨rfl, rfl, rfl, trivial⟩, Mem.le_refl _, rfl, hi, ?_, rfl⟩
    · dsimp only; omega
    · dsimp only; rw [hT]; omega
  · have hi : ¬ i < xs.length := by simpa using h
    repeat' (first
      | (refine vl_pure rfl ?_)
      | (refine vl_nil ?_)
      | (refine VC.seq ?_)
      | (refine VC.regV ?_)
      | (refine VC.ret ?_)
      | (refine VC.exit ?_))
    rw [List.take_of_length_le (by omega)] at hkk
    exact fnQ_r rfl (Mem.le_refl _) ⟨by rw [hkk], rfl⟩
/-- what marks make of a heap, and where they end -/
def gH (k : Int) (x : HS) : HS :=
  ⟨{ x.H with regs := mkG gW wW k x.H.regs, cells := mkG gC wC (mkT wW k x.H.regs) x.H.cells, gray := mkG gI wI (mkT wC (mkT wW k x.H.regs) x.H.cells) x.H.gray }, x.rs, x.cs, x.gs, mkG gCS wCS (mkT wW k x.H.regs) x.xs⟩
def endH (k : Int) (H : Heap) : Int := mkT wI (mkT wC (mkT wW k H.regs) H.cells) H.gray
theorem mkT_wC : ∀ (cs : List Cell) (k : Int), mkT wC k cs = k + 7 * cs.length + 6 * pairsN cs
  | [], k => by simp [mkT, pairsN]
  | c :: r, k => by
    have e : pairsN (c :: r) = c.pairs.length + pairsN r := by simp [pairsN]
    simp only [mkT, List.length_cons, e]; rw [mkT_wC r]; simp only [wC, Int.natCast_add]; omega
theorem endH_eq (k : Int) (H : Heap) : endH k H = k + 3 * H.regs.length + 7 * H.cells.length + 6 * pairsN H.cells + H.gray.length := by
  unfold endH
  rw [mkT_const (w := wI) (c := 1) (fun _ => rfl), mkT_wC, mkT_const (w := wW) (c := 3) (fun _ => rfl)]; omega
theorem markHeap_f {M : Mem} {x : HS} {k : Int} (h0 : 0 ≤ k) (hb : endH k x.H ≤ 4611686018427387904) (hx : WHV M x) :
    Fn Try.prog 28 [x.v, .int .i64 k] M (fun v M' => v = .int .i64 (endH k x.H) ∧ OffL M x.fp M' ∧ RHV M' (gH k x)) := by
  have hp := pairsN_nonneg x.H.cells
  have e0 := endH_eq k x.H
  have e1 := mkT_const (w := wW) (c := 3) (fun _ => rfl) x.H.regs k
  have e2 := mkT_wC x.H.cells (mkT wW k x.H.regs)
  have e3 := mkT_const (w := wI) (c := 1) (fun _ => rfl) x.H.gray (mkT wC (mkT wW k x.H.regs) x.H.cells)
  have e4 := mkT_wCS x.xs (mkT wW k x.H.regs)
  rw [hx.r.eq] at e4
  have hnd := hx.nd
  simp only [HS.fp, List.nodup_append] at hnd
  obtain ⟨_, ⟨hn2, _, hn3⟩, hn1⟩ := hnd
  refine fn28 (by simp) ?_
  repeat' (first
    | (refine vl_pure rfl ?_)
    | (refine vl_nil ?_)
    | (refine VC.seq ?_)
    | (refine VC.regV ?_)
    | (refine vl_box rfl rfl ?_))
  refine vl_c rfl (markWordS_f h0 (by omega) hx.r.regs) (fun v M1 hq => ?_)
  obtain ⟨rfl, o1, s1⟩ := hq
  repeat' (first
    | (refine vl_pure rfl ?_)
    | (refine vl_nil ?_)
    | (refine VC.seq ?_)
    | (refine VC.regV ?_))
  have c1 : CL M1 x.cs x.xs := ⟨hx.r.cl.sl.offL o1 (fun b h h' => hn1 b h' b (by simp [fpC, h]) rfl), fun y hy => (hx.r.cl.ps y hy).offL o1 (fun b h h' => hn1 b h' b (by
    simp only [fpC, List.mem_append, List.mem_flatMap]; exact .inl (.inr ⟨y, hy, h⟩)) rfl)⟩
  have g1 := hx.r.gray.offL o1 (fun b h h' => hn1 b h' b (by simp [h]) rfl)
  refine vl_c rfl (markCellS_f (k := mkT wW k x.H.regs) (by omega) (by omega) c1 hn2) (fun v M2 hq => ?_)
  obtain ⟨rfl, o2, s2⟩ := hq
  repeat' (first
    | (refine vl_pure rfl ?_)
    | (refine vl_nil ?_)
    | (refine VC.seq ?_)
    | (refine VC.regV ?_))
  have g2 := g1.offL o2 (fun b h h' => hn3 b h' b h rfl)
  have r2 := s1.offL o2 (fun b h h' => hn1 b h b (by simp [h']) rfl)
  rw [e4]
  refine vl_c rfl (markIntS_f (by omega) (by omega) g2) (fun v M3 hq => ?_)
  obtain ⟨rfl, o3, s3⟩ := hq
  repeat' (first
    | (refine vl_pure rfl ?_)
    | (refine vl_nil ?_)
    | (refine VC.seq ?_)
    | (refine VC.regV ?_)
    | (refine VC.ret ?_))
  refine fnQ_r rfl (Mem.le_refl _) ⟨rfl, ?_, ⟨r2.offL o3 (fun b h h' => hn1 b h b (by simp [h']) rfl), ⟨s2.sl.offL o3 (fun b h h' => hn3 b (by simp [fpC, h]) b h' rfl), fun y hy => (s2.ps y hy).offL o3 (fun b h h' => hn3 b ?_ b h' rfl)⟩, ?_, s3⟩⟩
  · refine ((o1.mono (fun b h => ?_)).trans (o2.mono (fun b h => ?_))).trans (o3.mono (fun b h => ?_)) <;> simp [HS.fp, h]
  · refine List.mem_append.2 (.inr ?_)
    rw [← mkG_own (k := mkT wW k x.H.regs)]
    exact List.mem_flatMap.2 ⟨y, hy, h⟩
  · show (mkG gCS wCS _ x.xs).map (·.c) = _
    rw [mkG_gCS_c, hx.r.eq]; rfl
theorem heldHeap_q {M : Mem} {x : HS} {k : Int} (h0 : 0 ≤ k) (hb : endH k x.H ≤ 4611686018427387904) (he : x.xs.map (·.c) = x.H.cells) (hx : RHV M (gH k x)) :
    Qt Try.prog 29 [(gH k x).v, .int .i64 k] M (.int .i64 (endH k x.H)) := by
  have hp := pairsN_nonneg x.H.cells
  have e0 := endH_eq k x.H
  have e1 := mkT_const (w := wW) (c := 3) (fun _ => rfl) x.H.regs k
  have e2 := mkT_wC x.H.cells (mkT wW k x.H.regs)
  have e3 := mkT_const (w := wI) (c := 1) (fun _ => rfl) x.H.gray (mkT wC (mkT wW k x.H.regs) x.H.cells)
  have e4 := mkT_wCS x.xs (mkT wW k x.H.regs)
  rw [he] at e4
  have q1 := heldWordS_q h0 (by omega) hx.regs
  have q2 := heldCellS_q (k := mkT wW k x.H.regs) (xs := x.xs) (by omega) (by omega) hx.cl
  rw [e4] at q2
  have q3 := heldIntS_q (k := mkT wC (mkT wW k x.H.regs) x.H.cells) (by omega) (by omega) hx.gray
  refine fn29 (by simp) ?_
  repeat' (first
    | (refine vl_pure rfl ?_)
    | (refine vl_nil ?_)
    | (refine VC.seq ?_)
    | (refine VC.regV ?_)
    | (refine vl_box rfl rfl ?_)
    | (refine vl_cq rfl (q1) ?_)
    | (refine vl_cq rfl (q2) ?_)
    | (refine vl_cq rfl (q3) ?_)
    | (refine VC.ret ?_)
    | (refine VC.skip ?_)
    | (refine seqQ_n ?_)
    | (refine seqQ_r ?_)
    | (refine VC.cond _ rfl (fun hb => ?_) (fun hb => ?_)))
  any_goals (simp at hb; omega)
  exact fnQ_r rfl (Mem.le_refl _) (q_end rfl)
/-- the same, of the heap's value as it was handed out -/
theorem heldHeap_q' {M : Mem} {x : HS} {k : Int} (h0 : 0 ≤ k) (hb : endH k x.H ≤ 4611686018427387904) (he : x.xs.map (·.c) = x.H.cells) (hx : RHV M (gH k x)) :
    Qt Try.prog 29 [x.v, .int .i64 k] M (.int .i64 (endH k x.H)) := heldHeap_q h0 hb he hx
end Go.Proofs.Ytcmllambknfleaa.E
set_option linter.unusedVariables false
set_option linter.unusedSimpArgs false
set_option maxHeartbeats 8000000
set_option maxRecDepth 100000
namespace Go.Proofs.Ytcmllambknfleaa.E
open Go
open Classical
theorem fna_ro {P : Program} {f : FuncId} {args : List Value} {Bs : List Asr} {q : Value → List Asr → Prop} (h : ∀ m, star Bs m → FnA P f args [ro m] (fun v As => ∃ E, q v E ∧ As = E ++ [ro m])) : FnA P f args Bs (fun v As => ∃ E, q v E ∧ As = E ++ Bs) :=
  ⟨fun m hm => ((h m hm).out m ⟨m, emp, disj_emp _, (un_emp _).symm, rfl, rfl⟩).mono fun v M' ⟨As', m', l, s, E, hq, e⟩ => by
    subst e
    obtain ⟨a, b, d, rfl, h1, ⟨b1, b2, d2, rfl, h2, h3⟩⟩ := star_append.1 s
    have h2 : b1 = m := h2
    have h3 : b2 = emp := h3
    subst h2; subst h3
    rw [un_emp] at d l
    exact ⟨E ++ Bs, _, l, star_append.2 ⟨a, b1, d, rfl, h1, hm⟩, E, hq, rfl⟩⟩
theorem has_star {m : Mem} {Bs : List Asr} (h : star Bs m) : Has m Bs := ⟨m, Mem.le_refl _, h⟩
theorem own_nd (v : Value) : (own v).Nodup := by unfold own; split <;> simp
theorem pr_nd : ∀ {ys : List CS} {m : Mem}, prA ys m → (ys.flatMap fun y => own y.s).Nodup ∧ ∀ b, b ∈ (ys.flatMap fun y => own y.s) → m b ≠ none
  | [], m, _ => ⟨by simp, by simp⟩
  | y :: r, m, h => by
    obtain ⟨a, b, d, rfl, h1, h2⟩ := h
    obtain ⟨n1, n2⟩ := pr_nd (ys := r) (m := b) h2
    have ho : ∀ c, c ∈ own y.s → a c ≠ none := fun c hc => h1.1.own_some hc
    rw [List.flatMap_cons]
    refine ⟨List.nodup_append.2 ⟨own_nd _, n1, fun c hc e he hce => ?_⟩, fun c hc => ?_⟩
    · subst hce
      rcases d c with hd | hd
      · exact ho c hc hd
      · exact n2 c he hd
    · rcases List.mem_append.1 hc with hc | hc
      · cases ha : a c with
        | none => exact absurd ha (ho c hc)
        | some k => rw [un_l ha]; simp
      · cases hb : b c with
        | none => exact absurd hb (n2 c hc)
        | some k => rw [un_r d hb]; simp
theorem body_whv {x : HX} {m : Mem} (h : star x.body m) : WHV m x.hs := by
  refine ⟨body_r h, ?_⟩
  obtain ⟨a, r, d, rfl, h1, b, r2, d2, rfl, h2, c, r3, d3, rfl, h3, _⟩ := h
  obtain ⟨b1, b2, d4, rfl, k1, k2⟩ := star2.1 h2
  obtain ⟨p1, p2⟩ := pr_nd k2
  have o1 : ∀ e, e ∈ own (.slice x.rd.a x.regs.length x.rd.cap) → a e ≠ none := fun e he => h1.1.own_some he
  have o2 : ∀ e, e ∈ own (.slice x.cd.a x.xs.length x.cd.cap) → b1 e ≠ none := fun e he => k1.1.own_some he
  have o3 : ∀ e, e ∈ own (.slice x.gd.a x.gray.length x.gd.cap) → c e ≠ none := fun e he => h3.1.own_some he
  have q2 : ∀ e, e ∈ fpC (.slice x.cd.a x.xs.length x.cd.cap) x.xs → (b1.un b2) e ≠ none := fun e he => by
    rcases List.mem_append.1 he with he | he
    · cases hb : b1 e with
      | none => exact absurd hb (o2 e he)
      | some k => rw [un_l hb]; simp
    · cases hb : b2 e with
      | none => exact absurd hb (p2 e he)
      | some k => rw [un_r d4 hb]; simp
  show (own _ ++ (fpC _ _ ++ own _)).Nodup
  refine List.nodup_append.2 ⟨own_nd _, List.nodup_append.2 ⟨List.nodup_append.2 ⟨own_nd _, p1, fun e he f hf hef => ?_⟩, own_nd _, fun e he f hf hef => ?_⟩, fun e he f hf hef => ?_⟩
  · subst hef
    rcases d4 e with h | h
    · exact o2 e he h
    · exact p2 e hf h
  · subst hef
    rcases d2 e with h | h
    · exact q2 e he h
    · exact o3 e hf (un_none.1 h).1
  · subst hef
    rcases d e with h | h
    · exact o1 e he h
    · rcases List.mem_append.1 hf with hf | hf
      · exact q2 e hf (un_none.1 h).1
      · exact o3 e hf (un_none.1 (un_none.1 h).2).1
theorem markHeap_d {x : HX} {k : Int} (h0 : 0 ≤ k) (hb : endH k x.H ≤ 4611686018427387904) : FnA Try.prog 28 [x.v, .int .i64 k] x.body (fun v As => v = .int .i64 (endH k x.H) ∧ As = []) :=
  ⟨fun m hm => (markHeap_f h0 hb (body_whv hm)).mono fun v M' ⟨h1, _, _⟩ => ⟨[], emp, fun _ _ h => (by cases h), rfl, h1, rfl⟩⟩
end Go.Proofs.Ytcmllambknfleaa.E
set_option maxRecDepth 100000
set_option linter.unusedVariables false
namespace Go.Proofs.Ytcmllambknfleaa.E
open Go
noncomputable def e119 : Env := ⟨Try.prog, [5, 36], 40, []⟩
noncomputable def c119 : C :=
  .seq (.reg [
    ⟨some 1, none, .box false (.tmp 0)⟩,
    ⟨some 2, none, .mov (.const (.pointer none))⟩]) (.seq (.reg [
    ⟨some 6, none, .bslice false 0 3 [] []⟩,
    ⟨some 7, none, .faddr 3 (.tmp 1)⟩,
    ⟨some 8, none, .load true 1 (.tmp 7)⟩,
    ⟨some 9, none, .app 3 24 [.int .i64 0, .int .i64 0, .int .i64 0] (.tmp 6) (.tmp 8)⟩,
    ⟨some 10, none, .faddr 3 (.tmp 1)⟩,
    ⟨none, none, .store 1 (.tmp 10) (.tmp 9)⟩]) (.seq (.reg [
    ⟨some 11, none, .bslice false 0 1 [] []⟩,
    ⟨some 12, none, .faddr 8 (.tmp 1)⟩,
    ⟨some 13, none, .load true 1 (.tmp 12)⟩,
    ⟨some 14, none, .app 1 8 [.int .i64 0] (.tmp 11) (.tmp 13)⟩,
    ⟨some 15, none, .faddr 8 (.tmp 1)⟩,
    ⟨none, none, .store 1 (.tmp 15) (.tmp 14)⟩]) (.seq (.reg [
    ⟨some 16, none, .faddr 4 (.tmp 1)⟩,
    ⟨some 17, none, .load true 1 (.tmp 16)⟩,
    ⟨some 3, none, .mov (.tmp 17)⟩]) (.seq (.reg [
    ⟨some 18, none, .mov (.tmp 3)⟩,
    ⟨some 19, none, .lenS (.tmp 18)⟩,
    ⟨some 20, none, .mkslice 8 80 [.int .i64 0, .int .i64 0, .int .i64 0, .int .i64 0, .int .i64 0, .int .i64 0, .int .i64 0, .slice none 0 0] (.const (.int .i64 0)) (.tmp 19)⟩,
    ⟨some 21, none, .faddr 4 (.tmp 1)⟩,
    ⟨none, none, .store 1 (.tmp 21) (.tmp 20)⟩]) (.seq (.seq (.reg [
    ⟨some 22, none, .mov (.tmp 3)⟩,
    ⟨some 23, none, .lenS (.tmp 22)⟩,
    ⟨some 24, none, .mov (.const (.int .i64 0))⟩]) (.block 0 (.loop (.seq (.reg [
    ⟨some 25, none, .bin .lss (.tmp 24) (.tmp 23)⟩]) (.seq (.cond (.tmp 25) (.skip) (.exit 0)) (.seq (.block 1 (.seq (.reg [
    ⟨some 26, none, .iaddr 8 (.tmp 22) (.tmp 24)⟩,
    ⟨some 27, none, .load false 8 (.tmp 26)⟩,
    ⟨some 5, none, .alloc true [.int .i64 0, .int .i64 0, .int .i64 0, .int .i64 0, .int .i64 0, .int .i64 0, .int .i64 0, .slice none 0 0]⟩,
    ⟨none, none, .store 8 (.tmp 5) (.tmp 27)⟩]) (.seq (.reg [
    ⟨some 28, none, .bslice false 0 6 [] []⟩,
    ⟨some 29, none, .faddr 7 (.tmp 5)⟩,
    ⟨some 30, none, .load true 1 (.tmp 29)⟩,
    ⟨some 31, none, .app 6 48 [.int .i64 0, .int .i64 0, .int .i64 0, .int .i64 0, .int .i64 0, .int .i64 0] (.tmp 28) (.tmp 30)⟩,
    ⟨some 32, none, .faddr 7 (.tmp 5)⟩,
    ⟨none, none, .store 1 (.tmp 32) (.tmp 31)⟩]) (.reg [
    ⟨some 33, none, .faddr 4 (.tmp 1)⟩,
    ⟨some 34, none, .load true 1 (.tmp 33)⟩,
    ⟨some 35, none, .load false 8 (.tmp 5)⟩,
    ⟨some 36, none, .bslice true 1 8 [.int .i64 0, .int .i64 0, .int .i64 0, .int .i64 0, .int .i64 0, .int .i64 0, .int .i64 0, .slice none 0 0] [(0, 8, .tmp 35)]⟩,
    ⟨some 37, none, .app 8 80 [.int .i64 0, .int .i64 0, .int .i64 0, .int .i64 0, .int .i64 0, .int .i64 0, .int .i64 0, .slice none 0 0] (.tmp 34) (.tmp 36)⟩,
    ⟨some 38, none, .faddr 4 (.tmp 1)⟩,
    ⟨none, none, .store 1 (.tmp 38) (.tmp 37)⟩])))) (.reg [
    ⟨some 39, none, .bin .add (.tmp 24) (.const (.int .i64 1))⟩,
    ⟨some 24, none, .mov (.tmp 39)⟩]))))))) (.seq (.reg [
    ⟨some 2, none, .mov (.tmp 1)⟩]) (.ret)))))))
theorem t119 : Try.f119.body.bind (trC e119) = some c119 := by kernel_rfl
theorem r119 : Try.f119.results.toList.mapM (trR Try.prog) = some [.tmp 2] := by kernel_rfl
theorem fn119 {args : List Value} {M : Mem} {post : Value → Mem → Prop} (hl : args.length ≤ 40) (h : VC e119 c119 (fnQ [.tmp 2] post) (initS args 40) M) : Fn Try.prog 119 args M post :=
  Fn.of' (E := e119) Try.func119 t119 rfl r119 mixed hl h
noncomputable def e120 : Env := ⟨Try.prog, [30], 34, []⟩
noncomputable def c120 : C :=
  .seq (.reg [
    ⟨some 4, none, .mov (.tmp 0)⟩,
    ⟨some 5, none, .call 147 [.tmp 4]⟩,
    ⟨some 6, none, .mov (.tmp 5)⟩,
    ⟨some 7, some (6, true), .mov (.tmp 0)⟩,
    ⟨some 8, some (6, true), .nilCheck (.tmp 7)⟩,
    ⟨some 9, some (6, true), .faddr 4 (.tmp 8)⟩,
    ⟨some 10, some (6, true), .load true 1 (.tmp 9)⟩,
    ⟨some 11, some (6, true), .mov (.tmp 1)⟩,
    ⟨some 12, some (6, true), .iaddr 8 (.tmp 10) (.tmp 11)⟩,
    ⟨some 13, some (6, true), .faddr 5 (.tmp 12)⟩,
    ⟨some 14, some (6, true), .load true 1 (.tmp 13)⟩,
    ⟨some 15, some (6, true), .bin .eql (.tmp 14) (.const (.int .i64 0))⟩,
    ⟨some 16, none, .pick (.tmp 6) (.tmp 15) (.const (.bool false))⟩]) (.cond (.tmp 16) (.seq (.reg [
    ⟨some 17, none, .mov (.tmp 0)⟩,
    ⟨some 18, none, .nilCheck (.tmp 17)⟩,
    ⟨some 19, none, .faddr 4 (.tmp 18)⟩,
    ⟨some 20, none, .load true 1 (.tmp 19)⟩,
    ⟨some 21, none, .mov (.tmp 1)⟩,
    ⟨some 22, none, .iaddr 8 (.tmp 20) (.tmp 21)⟩,
    ⟨some 23, none, .faddr 5 (.tmp 22)⟩,
    ⟨none, none, .store 1 (.tmp 23) (.const (.int .i64 1))⟩]) (.reg [
    ⟨some 24, none, .mov (.tmp 0)⟩,
    ⟨some 25, none, .mov (.tmp 0)⟩,
    ⟨some 26, none, .nilCheck (.tmp 25)⟩,
    ⟨some 27, none, .faddr 8 (.tmp 26)⟩,
    ⟨some 28, none, .load true 1 (.tmp 27)⟩,
    ⟨some 29, none, .mov (.tmp 1)⟩,
    ⟨some 30, none, .bslice true 1 1 [.int .i64 0] [(0, 1, .tmp 29)]⟩,
    ⟨some 31, none, .app 1 8 [.int .i64 0] (.tmp 28) (.tmp 30)⟩,
    ⟨some 32, none, .nilCheck (.tmp 24)⟩,
    ⟨some 33, none, .faddr 8 (.tmp 32)⟩,
    ⟨none, none, .store 1 (.tmp 33) (.tmp 31)⟩])) (.skip))
theorem t120 : Try.f120.body.bind (trC e120) = some c120 := by kernel_rfl
theorem r120 : Try.f120.results.toList.mapM (trR Try.prog) = some [] := by kernel_rfl
theorem fn120 {args : List Value} {M : Mem} {post : Value → Mem → Prop} (hl : args.length ≤ 34) (h : VC e120 c120 (fnQ [] post) (initS args 34) M) : Fn Try.prog 120 args M post :=
  Fn.of' (E := e120) Try.func120 t120 rfl r120 mixed hl h
noncomputable def e179 : Env := ⟨Try.prog, [3], 25, []⟩
noncomputable def c179 : C :=
  .seq (.reg [
    ⟨some 3, none, .box true (.tmp 1)⟩,
    ⟨some 4, none, .mov (.const (.bool false))⟩]) (.seq (.reg [
    ⟨some 6, none, .mov (.tmp 0)⟩,
    ⟨some 7, none, .load false 3 (.tmp 3)⟩,
    ⟨some 8, none, .call 150 [.tmp 6, .tmp 7]⟩,
    ⟨some 5, none, .mov (.tmp 8)⟩]) (.seq (.seq (.reg [
    ⟨some 9, none, .mov (.tmp 5)⟩,
    ⟨some 10, none, .bin .lss (.tmp 9) (.const (.int .i64 0))⟩,
    ⟨some 11, none, .mov (.tmp 10)⟩,
    ⟨some 12, some (11, false), .mov (.tmp 0)⟩,
    ⟨some 13, some (11, false), .nilCheck (.tmp 12)⟩,
    ⟨some 14, some (11, false), .faddr 4 (.tmp 13)⟩,
    ⟨some 15, some (11, false), .load true 1 (.tmp 14)⟩,
    ⟨some 16, some (11, false), .mov (.tmp 5)⟩,
    ⟨some 17, some (11, false), .iaddr 8 (.tmp 15) (.tmp 16)⟩,
    ⟨some 18, some (11, false), .faddr 5 (.tmp 17)⟩,
    ⟨some 19, some (11, false), .load true 1 (.tmp 18)⟩,
    ⟨some 20, some (11, false), .bin .neq (.tmp 19) (.const (.int .i64 0))⟩,
    ⟨some 21, none, .pick (.tmp 11) (.const (.bool true)) (.tmp 20)⟩]) (.cond (.tmp 21) (.seq (.reg [
    ⟨some 4, none, .mov (.const (.bool false))⟩]) (.ret)) (.skip))) (.seq (.reg [
    ⟨some 22, none, .mov (.tmp 0)⟩,
    ⟨some 23, none, .mov (.tmp 5)⟩,
    ⟨some 24, none, .call 120 [.tmp 22, .tmp 23]⟩]) (.seq (.reg [
    ⟨some 4, none, .mov (.const (.bool true))⟩]) (.ret)))))
theorem t179 : Try.f179.body.bind (trC e179) = some c179 := by kernel_rfl
theorem r179 : Try.f179.results.toList.mapM (trR Try.prog) = some [.tmp 4] := by kernel_rfl
theorem fn179 {args : List Value} {M : Mem} {post : Value → Mem → Prop} (hl : args.length ≤ 25) (h : VC e179 c179 (fnQ [.tmp 4] post) (initS args 25) M) : Fn Try.prog 179 args M post :=
  Fn.of' (E := e179) Try.func179 t179 rfl r179 mixed hl h
noncomputable def e162 : Env := ⟨Try.prog, [], 24, []⟩
noncomputable def c162 : C :=
  .seq (.reg [
    ⟨some 4, none, .mov (.tmp 0)⟩,
    ⟨some 5, none, .mov (.tmp 0)⟩,
    ⟨some 6, none, .mov (.tmp 0)⟩,
    ⟨some 7, none, .mov (.tmp 1)⟩,
    ⟨some 8, none, .nilCheck (.tmp 4)⟩,
    ⟨some 9, none, .faddr 5 (.tmp 8)⟩,
    ⟨none, none, .store 1 (.tmp 9) (.tmp 7)⟩,
    ⟨some 10, none, .nilCheck (.tmp 5)⟩,
    ⟨some 11, none, .faddr 6 (.tmp 10)⟩,
    ⟨none, none, .store 1 (.tmp 11) (.const (.int .i64 0))⟩,
    ⟨some 12, none, .nilCheck (.tmp 6)⟩,
    ⟨some 13, none, .faddr 7 (.tmp 12)⟩,
    ⟨none, none, .store 1 (.tmp 13) (.const (.int .i64 0))⟩]) (.seq (.reg [
    ⟨some 14, none, .mov (.tmp 1)⟩,
    ⟨some 15, none, .bin .eql (.tmp 14) (.const (.int .i64 6))⟩]) (.cond (.tmp 15) (.reg [
    ⟨some 16, none, .mov (.tmp 0)⟩,
    ⟨some 17, none, .mov (.tmp 0)⟩,
    ⟨some 18, none, .nilCheck (.tmp 17)⟩,
    ⟨some 19, none, .faddr 4 (.tmp 18)⟩,
    ⟨some 20, none, .load true 1 (.tmp 19)⟩,
    ⟨some 21, none, .lenS (.tmp 20)⟩,
    ⟨some 22, none, .nilCheck (.tmp 16)⟩,
    ⟨some 23, none, .faddr 6 (.tmp 22)⟩,
    ⟨none, none, .store 1 (.tmp 23) (.tmp 21)⟩]) (.skip)))
theorem t162 : Try.f162.body.bind (trC e162) = some c162 := by kernel_rfl
theorem r162 : Try.f162.results.toList.mapM (trR Try.prog) = some [] := by kernel_rfl
theorem fn162 {args : List Value} {M : Mem} {post : Value → Mem → Prop} (hl : args.length ≤ 24) (h : VC e162 c162 (fnQ [] post) (initS args 24) M) : Fn Try.prog 162 args M post :=
  Fn.of' (E := e162) Try.func162 t162 rfl r162 mixed hl h
noncomputable def e156 : Env := ⟨Try.prog, [], 263, [(5, 11), (13, 9), (15, 11), (24, 9), (25, 10), (26, 9), (27, 16), (36, 12), (37, 10), (38, 21)]⟩
noncomputable def c156 : C :=
  .seq (.reg [
    ⟨some 6, none, .mov (.tmp 0)⟩,
    ⟨some 7, none, .nilCheck (.tmp 6)⟩,
    ⟨some 8, none, .faddr 4 (.tmp 7)⟩,
    ⟨some 9, none, .load true 1 (.tmp 8)⟩,
    ⟨some 10, none, .lenS (.tmp 9)⟩,
    ⟨some 2, none, .mov (.tmp 10)⟩]) (.seq (.reg [
    ⟨some 11, none, .mov (.tmp 0)⟩,
    ⟨some 12, none, .nilCheck (.tmp 11)⟩,
    ⟨some 13, none, .faddr 5 (.tmp 12)⟩,
    ⟨some 14, none, .load true 1 (.tmp 13)⟩]) (.block 0 (.seq (.reg [
    ⟨some 16, none, .bin .eql (.tmp 14) (.const (.int .i64 1))⟩,
    ⟨some 15, none, .mov (.tmp 16)⟩]) (.cond (.tmp 15) (.seq (.seq (.reg [
    ⟨some 17, none, .mov (.tmp 0)⟩,
    ⟨some 18, none, .nilCheck (.tmp 17)⟩,
    ⟨some 19, none, .faddr 6 (.tmp 18)⟩,
    ⟨some 20, none, .load true 1 (.tmp 19)⟩,
    ⟨some 21, none, .mov (.tmp 2)⟩,
    ⟨some 22, none, .bin .eql (.tmp 20) (.tmp 21)⟩]) (.cond (.tmp 22) (.seq (.reg [
    ⟨some 23, none, .mov (.tmp 0)⟩,
    ⟨some 24, none, .call 162 [.tmp 23, .const (.int .i64 2)]⟩]) (.ret)) (.skip))) (.seq (.seq (.dreg 11 [
    ⟨some 25, none, .mov (.tmp 0)⟩,
    ⟨some 26, none, .nilCheck (.tmp 25)⟩,
    ⟨some 27, none, .faddr 4 (.tmp 26)⟩,
    ⟨some 28, none, .load true 1 (.tmp 27)⟩,
    ⟨some 29, none, .mov (.tmp 0)⟩,
    ⟨some 30, none, .nilCheck (.tmp 29)⟩,
    ⟨some 31, none, .faddr 6 (.tmp 30)⟩,
    ⟨some 32, none, .load true 1 (.tmp 31)⟩,
    ⟨some 33, none, .iaddr 8 (.tmp 28) (.tmp 32)⟩,
    ⟨some 34, none, .load false 8 (.tmp 33)⟩,
    ⟨some 35, none, .qcall 145 [.tmp 34]⟩]) (.cond (.tmp 35) (.reg [
    ⟨some 36, none, .mov (.tmp 0)⟩,
    ⟨some 37, none, .mov (.tmp 0)⟩,
    ⟨some 38, none, .nilCheck (.tmp 37)⟩,
    ⟨some 39, none, .faddr 6 (.tmp 38)⟩,
    ⟨some 40, none, .load true 1 (.tmp 39)⟩,
    ⟨some 41, none, .call 120 [.tmp 36, .tmp 40]⟩]) (.skip))) (.reg [
    ⟨some 42, none, .mov (.tmp 0)⟩,
    ⟨some 43, none, .nilCheck (.tmp 42)⟩,
    ⟨some 44, none, .faddr 6 (.tmp 43)⟩,
    ⟨some 45, none, .load true 1 (.tmp 44)⟩,
    ⟨some 46, none, .bin .add (.tmp 45) (.const (.int .i64 1))⟩,
    ⟨some 47, none, .nilCheck (.tmp 42)⟩,
    ⟨some 48, none, .faddr 6 (.tmp 47)⟩,
    ⟨none, none, .store 1 (.tmp 48) (.tmp 46)⟩]))) (.seq (.reg [
    ⟨some 50, none, .bin .eql (.tmp 14) (.const (.int .i64 2))⟩,
    ⟨some 49, none, .mov (.tmp 50)⟩]) (.cond (.tmp 49) (.reg [
    ⟨some 51, none, .mov (.tmp 0)⟩,
    ⟨some 52, none, .call 172 [.tmp 51]⟩]) (.seq (.reg [
    ⟨some 54, none, .bin .eql (.tmp 14) (.const (.int .i64 3))⟩,
    ⟨some 53, none, .mov (.tmp 54)⟩]) (.cond (.tmp 53) (.seq (.seq (.reg [
    ⟨some 55, none, .mov (.tmp 0)⟩,
    ⟨some 56, none, .nilCheck (.tmp 55)⟩,
    ⟨some 57, none, .faddr 6 (.tmp 56)⟩,
    ⟨some 58, none, .load true 1 (.tmp 57)⟩,
    ⟨some 59, none, .mov (.tmp 2)⟩,
    ⟨some 60, none, .bin .eql (.tmp 58) (.tmp 59)⟩]) (.cond (.tmp 60) (.seq (.reg [
    ⟨some 61, none, .mov (.tmp 0)⟩,
    ⟨some 62, none, .call 162 [.tmp 61, .const (.int .i64 4)]⟩]) (.ret)) (.skip))) (.seq (.dreg 9 [
    ⟨some 63, none, .mov (.tmp 0)⟩,
    ⟨some 64, none, .nilCheck (.tmp 63)⟩,
    ⟨some 65, none, .faddr 4 (.tmp 64)⟩,
    ⟨some 66, none, .load true 1 (.tmp 65)⟩,
    ⟨some 67, none, .mov (.tmp 0)⟩,
    ⟨some 68, none, .nilCheck (.tmp 67)⟩,
    ⟨some 69, none, .faddr 6 (.tmp 68)⟩,
    ⟨some 70, none, .load true 1 (.tmp 69)⟩,
    ⟨some 71, none, .iaddr 8 (.tmp 66) (.tmp 70)⟩,
    ⟨some 3, none, .mov (.tmp 71)⟩]) (.seq (.seq (.reg [
    ⟨some 72, none, .mov (.tmp 3)⟩,
    ⟨some 73, none, .nilCheck (.tmp 72)⟩,
    ⟨some 74, none, .faddr 0 (.tmp 73)⟩,
    ⟨some 75, none, .load true 1 (.tmp 74)⟩,
    ⟨some 76, none, .bin .eql (.tmp 75) (.const (.int .i64 1))⟩,
    ⟨some 77, none, .mov (.tmp 76)⟩,
    ⟨some 78, some (77, true), .mov (.tmp 3)⟩,
    ⟨some 79, some (77, true), .nilCheck (.tmp 78)⟩,
    ⟨some 80, some (77, true), .faddr 5 (.tmp 79)⟩,
    ⟨some 81, some (77, true), .load true 1 (.tmp 80)⟩,
    ⟨some 82, some (77, true), .bin .eql (.tmp 81) (.const (.int .i64 0))⟩,
    ⟨some 83, none, .pick (.tmp 77) (.tmp 82) (.const (.bool false))⟩]) (.cond (.tmp 83) (.seq (.dreg 11 [
    ⟨some 84, none, .mov (.tmp 0)⟩,
    ⟨some 85, none, .nilCheck (.tmp 84)⟩,
    ⟨some 86, none, .faddr 1 (.tmp 85)⟩,
    ⟨some 87, none, .load true 1 (.tmp 86)⟩,
    ⟨some 88, none, .mov (.tmp 3)⟩,
    ⟨some 89, none, .nilCheck (.tmp 88)⟩,
    ⟨some 90, none, .load false 8 (.tmp 89)⟩,
    ⟨some 91, none, .qcall 142 [.tmp 90]⟩,
    ⟨some 92, none, .bin .sub (.tmp 87) (.tmp 91)⟩,
    ⟨some 93, none, .nilCheck (.tmp 84)⟩,
    ⟨some 94, none, .faddr 1 (.tmp 93)⟩,
    ⟨none, none, .store 1 (.tmp 94) (.tmp 92)⟩]) (.reg [
    ⟨some 95, none, .mov (.tmp 3)⟩,
    ⟨some 96, none, .build [.int .i64 0, .int .i64 0, .int .i64 0, .int .i64 0, .int .i64 0, .int .i64 0, .int .i64 0, .slice none 0 0] []⟩,
    ⟨some 97, none, .nilCheck (.tmp 95)⟩,
    ⟨none, none, .store 8 (.tmp 97) (.tmp 96)⟩])) (.reg [
    ⟨some 98, none, .mov (.tmp 3)⟩,
    ⟨some 99, none, .nilCheck (.tmp 98)⟩,
    ⟨some 100, none, .faddr 5 (.tmp 99)⟩,
    ⟨none, none, .store 1 (.tmp 100) (.const (.int .i64 0))⟩]))) (.reg [
    ⟨some 101, none, .mov (.tmp 0)⟩,
    ⟨some 102, none, .nilCheck (.tmp 101)⟩,
    ⟨some 103, none, .faddr 6 (.tmp 102)⟩,
    ⟨some 104, none, .load true 1 (.tmp 103)⟩,
    ⟨some 105, none, .bin .add (.tmp 104) (.const (.int .i64 1))⟩,
    ⟨some 106, none, .nilCheck (.tmp 101)⟩,
    ⟨some 107, none, .faddr 6 (.tmp 106)⟩,
    ⟨none, none, .store 1 (.tmp 107) (.tmp 105)⟩])))) (.seq (.reg [
    ⟨some 109, none, .bin .eql (.tmp 14) (.const (.int .i64 4))⟩,
    ⟨some 108, none, .mov (.tmp 109)⟩]) (.cond (.tmp 108) (.reg [
    ⟨some 110, none, .mov (.tmp 0)⟩,
    ⟨some 111, none, .call 173 [.tmp 110]⟩]) (.seq (.reg [
    ⟨some 113, none, .bin .eql (.tmp 14) (.const (.int .i64 5))⟩,
    ⟨some 112, none, .mov (.tmp 113)⟩]) (.cond (.tmp 112) (.seq (.seq (.reg [
    ⟨some 114, none, .mov (.tmp 0)⟩,
    ⟨some 115, none, .nilCheck (.tmp 114)⟩,
    ⟨some 116, none, .faddr 6 (.tmp 115)⟩,
    ⟨some 117, none, .load true 1 (.tmp 116)⟩,
    ⟨some 118, none, .mov (.tmp 2)⟩,
    ⟨some 119, none, .bin .eql (.tmp 117) (.tmp 118)⟩]) (.cond (.tmp 119) (.seq (.reg [
    ⟨some 120, none, .mov (.tmp 0)⟩,
    ⟨some 121, none, .call 162 [.tmp 120, .const (.int .i64 6)]⟩]) (.ret)) (.skip))) (.seq (.dreg 9 [
    ⟨some 122, none, .mov (.tmp 0)⟩,
    ⟨some 123, none, .nilCheck (.tmp 122)⟩,
    ⟨some 124, none, .faddr 4 (.tmp 123)⟩,
    ⟨some 125, none, .load true 1 (.tmp 124)⟩,
    ⟨some 126, none, .mov (.tmp 0)⟩,
    ⟨some 127, none, .nilCheck (.tmp 126)⟩,
    ⟨some 128, none, .faddr 6 (.tmp 127)⟩,
    ⟨some 129, none, .load true 1 (.tmp 128)⟩,
    ⟨some 130, none, .iaddr 8 (.tmp 125) (.tmp 129)⟩,
    ⟨some 4, none, .mov (.tmp 130)⟩]) (.seq (.seq (.dreg 10 [
    ⟨some 131, none, .mov (.tmp 0)⟩,
    ⟨some 132, none, .nilCheck (.tmp 131)⟩,
    ⟨some 133, none, .faddr 7 (.tmp 132)⟩,
    ⟨some 134, none, .load true 1 (.tmp 133)⟩,
    ⟨some 135, none, .mov (.tmp 4)⟩,
    ⟨some 136, none, .nilCheck (.tmp 135)⟩,
    ⟨some 137, none, .faddr 7 (.tmp 136)⟩,
    ⟨some 138, none, .load true 1 (.tmp 137)⟩,
    ⟨some 139, none, .lenS (.tmp 138)⟩,
    ⟨some 140, none, .bin .lss (.tmp 134) (.tmp 139)⟩]) (.cond (.tmp 140) (.seq (.dreg 9 [
    ⟨some 141, none, .mov (.tmp 4)⟩,
    ⟨some 142, none, .nilCheck (.tmp 141)⟩,
    ⟨some 143, none, .faddr 7 (.tmp 142)⟩,
    ⟨some 144, none, .load true 1 (.tmp 143)⟩,
    ⟨some 145, none, .mov (.tmp 0)⟩,
    ⟨some 146, none, .nilCheck (.tmp 145)⟩,
    ⟨some 147, none, .faddr 7 (.tmp 146)⟩,
    ⟨some 148, none, .load true 1 (.tmp 147)⟩,
    ⟨some 149, none, .iaddr 6 (.tmp 144) (.tmp 148)⟩,
    ⟨some 5, none, .mov (.tmp 149)⟩]) (.seq (.dreg 16 [
    ⟨some 150, none, .mov (.tmp 5)⟩,
    ⟨some 151, none, .mov (.tmp 5)⟩,
    ⟨some 152, none, .mov (.tmp 0)⟩,
    ⟨some 153, none, .mov (.tmp 5)⟩,
    ⟨some 154, none, .nilCheck (.tmp 153)⟩,
    ⟨some 155, none, .faddr 0 (.tmp 154)⟩,
    ⟨some 156, none, .load false 3 (.tmp 155)⟩,
    ⟨some 157, none, .qcall 107 [.tmp 152, .tmp 156]⟩,
    ⟨some 158, none, .mov (.tmp 0)⟩,
    ⟨some 159, none, .mov (.tmp 5)⟩,
    ⟨some 160, none, .nilCheck (.tmp 159)⟩,
    ⟨some 161, none, .faddr 3 (.tmp 160)⟩,
    ⟨some 162, none, .load false 3 (.tmp 161)⟩,
    ⟨some 163, none, .qcall 107 [.tmp 158, .tmp 162]⟩,
    ⟨some 164, none, .nilCheck (.tmp 150)⟩,
    ⟨some 165, none, .faddr 0 (.tmp 164)⟩,
    ⟨none, none, .store 3 (.tmp 165) (.tmp 157)⟩,
    ⟨some 166, none, .nilCheck (.tmp 151)⟩,
    ⟨some 167, none, .faddr 3 (.tmp 166)⟩,
    ⟨none, none, .store 3 (.tmp 167) (.tmp 163)⟩]) (.seq (.reg [
    ⟨some 168, none, .mov (.tmp 0)⟩,
    ⟨some 169, none, .nilCheck (.tmp 168)⟩,
    ⟨some 170, none, .faddr 7 (.tmp 169)⟩,
    ⟨some 171, none, .load true 1 (.tmp 170)⟩,
    ⟨some 172, none, .bin .add (.tmp 171) (.const (.int .i64 1))⟩,
    ⟨some 173, none, .nilCheck (.tmp 168)⟩,
    ⟨some 174, none, .faddr 7 (.tmp 173)⟩,
    ⟨none, none, .store 1 (.tmp 174) (.tmp 172)⟩]) (.ret)))) (.skip))) (.seq (.reg [
    ⟨some 175, none, .mov (.tmp 0)⟩,
    ⟨some 176, none, .nilCheck (.tmp 175)⟩,
    ⟨some 177, none, .faddr 6 (.tmp 176)⟩,
    ⟨some 178, none, .load true 1 (.tmp 177)⟩,
    ⟨some 179, none, .bin .add (.tmp 178) (.const (.int .i64 1))⟩,
    ⟨some 180, none, .nilCheck (.tmp 175)⟩,
    ⟨some 181, none, .faddr 6 (.tmp 180)⟩,
    ⟨none, none, .store 1 (.tmp 181) (.tmp 179)⟩]) (.reg [
    ⟨some 182, none, .mov (.tmp 0)⟩,
    ⟨some 183, none, .nilCheck (.tmp 182)⟩,
    ⟨some 184, none, .faddr 7 (.tmp 183)⟩,
    ⟨none, none, .store 1 (.tmp 184) (.const (.int .i64 0))⟩]))))) (.seq (.reg [
    ⟨some 186, none, .bin .eql (.tmp 14) (.const (.int .i64 6))⟩,
    ⟨some 185, none, .mov (.tmp 186)⟩]) (.cond (.tmp 185) (.seq (.seq (.reg [
    ⟨some 187, none, .mov (.tmp 0)⟩,
    ⟨some 188, none, .nilCheck (.tmp 187)⟩,
    ⟨some 189, none, .faddr 6 (.tmp 188)⟩,
    ⟨some 190, none, .load true 1 (.tmp 189)⟩,
    ⟨some 191, none, .bin .eql (.tmp 190) (.const (.int .i64 0))⟩]) (.cond (.tmp 191) (.seq (.reg [
    ⟨some 192, none, .mov (.tmp 0)⟩,
    ⟨some 193, none, .call 162 [.tmp 192, .const (.int .i64 0)]⟩]) (.seq (.reg [
    ⟨some 194, none, .mov (.tmp 0)⟩,
    ⟨some 195, none, .mov (.tmp 0)⟩,
    ⟨some 196, none, .nilCheck (.tmp 195)⟩,
    ⟨some 197, none, .faddr 11 (.tmp 196)⟩,
    ⟨some 198, none, .load true 1 (.tmp 197)⟩,
    ⟨some 199, none, .bin .add (.tmp 198) (.const (.int .i64 1))⟩,
    ⟨some 200, none, .min (.tmp 199) (.const (.int .i64 1000000000))⟩,
    ⟨some 201, none, .nilCheck (.tmp 194)⟩,
    ⟨some 202, none, .faddr 11 (.tmp 201)⟩,
    ⟨none, none, .store 1 (.tmp 202) (.tmp 200)⟩]) (.ret))) (.skip))) (.seq (.reg [
    ⟨some 203, none, .mov (.tmp 0)⟩,
    ⟨some 204, none, .nilCheck (.tmp 203)⟩,
    ⟨some 205, none, .faddr 6 (.tmp 204)⟩,
    ⟨some 206, none, .load true 1 (.tmp 205)⟩,
    ⟨some 207, none, .bin .sub (.tmp 206) (.const (.int .i64 1))⟩,
    ⟨some 208, none, .nilCheck (.tmp 203)⟩,
    ⟨some 209, none, .faddr 6 (.tmp 208)⟩,
    ⟨none, none, .store 1 (.tmp 209) (.tmp 207)⟩]) (.seq (.seq (.dreg 12 [
    ⟨some 210, none, .mov (.tmp 0)⟩,
    ⟨some 211, none, .nilCheck (.tmp 210)⟩,
    ⟨some 212, none, .faddr 4 (.tmp 211)⟩,
    ⟨some 213, none, .load true 1 (.tmp 212)⟩,
    ⟨some 214, none, .mov (.tmp 0)⟩,
    ⟨some 215, none, .nilCheck (.tmp 214)⟩,
    ⟨some 216, none, .faddr 6 (.tmp 215)⟩,
    ⟨some 217, none, .load true 1 (.tmp 216)⟩,
    ⟨some 218, none, .iaddr 8 (.tmp 213) (.tmp 217)⟩,
    ⟨some 219, none, .faddr 0 (.tmp 218)⟩,
    ⟨some 220, none, .load true 1 (.tmp 219)⟩,
    ⟨some 221, none, .bin .eql (.tmp 220) (.const (.int .i64 2))⟩]) (.cond (.tmp 221) (.dreg 10 [
    ⟨some 222, none, .mov (.tmp 0)⟩,
    ⟨some 223, none, .nilCheck (.tmp 222)⟩,
    ⟨some 224, none, .faddr 4 (.tmp 223)⟩,
    ⟨some 225, none, .load true 1 (.tmp 224)⟩,
    ⟨some 226, none, .mov (.tmp 0)⟩,
    ⟨some 227, none, .nilCheck (.tmp 226)⟩,
    ⟨some 228, none, .faddr 6 (.tmp 227)⟩,
    ⟨some 229, none, .load true 1 (.tmp 228)⟩,
    ⟨some 230, none, .build [.int .i64 0, .int .i64 0, .int .i64 0, .int .i64 0, .int .i64 0, .int .i64 0, .int .i64 0, .slice none 0 0] []⟩,
    ⟨some 231, none, .iaddr 8 (.tmp 225) (.tmp 229)⟩,
    ⟨none, none, .store 8 (.tmp 231) (.tmp 230)⟩]) (.skip))) (.seq (.dreg 21 [
    ⟨some 232, none, .mov (.tmp 0)⟩,
    ⟨some 233, none, .nilCheck (.tmp 232)⟩,
    ⟨some 234, none, .faddr 6 (.tmp 233)⟩,
    ⟨some 235, none, .load true 1 (.tmp 234)⟩,
    ⟨some 236, none, .mov (.tmp 2)⟩,
    ⟨some 237, none, .bin .sub (.tmp 236) (.const (.int .i64 1))⟩,
    ⟨some 238, none, .bin .eql (.tmp 235) (.tmp 237)⟩,
    ⟨some 239, none, .mov (.tmp 238)⟩,
    ⟨some 240, some (239, true), .mov (.tmp 0)⟩,
    ⟨some 241, some (239, true), .nilCheck (.tmp 240)⟩,
    ⟨some 242, some (239, true), .faddr 4 (.tmp 241)⟩,
    ⟨some 243, some (239, true), .load true 1 (.tmp 242)⟩,
    ⟨some 244, some (239, true), .mov (.tmp 0)⟩,
    ⟨some 245, some (239, true), .nilCheck (.tmp 244)⟩,
    ⟨some 246, some (239, true), .faddr 6 (.tmp 245)⟩,
    ⟨some 247, some (239, true), .load true 1 (.tmp 246)⟩,
    ⟨some 248, some (239, true), .iaddr 8 (.tmp 243) (.tmp 247)⟩,
    ⟨some 249, some (239, true), .faddr 0 (.tmp 248)⟩,
    ⟨some 250, some (239, true), .load true 1 (.tmp 249)⟩,
    ⟨some 251, some (239, true), .bin .eql (.tmp 250) (.const (.int .i64 0))⟩,
    ⟨some 252, none, .pick (.tmp 239) (.tmp 251) (.const (.bool false))⟩]) (.cond (.tmp 252) (.reg [
    ⟨some 253, none, .mov (.tmp 0)⟩,
    ⟨some 254, none, .mov (.tmp 0)⟩,
    ⟨some 255, none, .nilCheck (.tmp 254)⟩,
    ⟨some 256, none, .faddr 4 (.tmp 255)⟩,
    ⟨some 257, none, .load true 1 (.tmp 256)⟩,
    ⟨some 258, none, .mov (.tmp 2)⟩,
    ⟨some 259, none, .bin .sub (.tmp 258) (.const (.int .i64 1))⟩,
    ⟨some 260, none, .slc 8 (.tmp 257) none (some (.tmp 259))⟩,
    ⟨some 261, none, .nilCheck (.tmp 253)⟩,
    ⟨some 262, none, .faddr 4 (.tmp 261)⟩,
    ⟨none, none, .store 1 (.tmp 262) (.tmp 260)⟩]) (.skip)))))) (.skip)))))))))))))))
theorem t156 : Try.f156.body.bind (trC e156) = some c156 := by kernel_rfl
theorem r156 : Try.f156.results.toList.mapM (trR Try.prog) = some [] := by kernel_rfl
theorem fn156 {args : List Value} {M : Mem} {post : Value → Mem → Prop} (hl : args.length ≤ 263) (h : VC e156 c156 (fnQ [] post) (initS args 263) M) : Fn Try.prog 156 args M post :=
  Fn.of' (E := e156) Try.func156 t156 rfl r156 mixed hl h
noncomputable def e172 : Env := ⟨Try.prog, [3, 6], 90, [(1, 11), (2, 10), (3, 11)]⟩
noncomputable def c172 : C :=
  .seq (.seq (.reg [
    ⟨some 7, none, .mov (.tmp 0)⟩,
    ⟨some 8, none, .nilCheck (.tmp 7)⟩,
    ⟨some 9, none, .faddr 8 (.tmp 8)⟩,
    ⟨some 10, none, .load true 1 (.tmp 9)⟩,
    ⟨some 11, none, .lenS (.tmp 10)⟩,
    ⟨some 12, none, .bin .gtr (.tmp 11) (.const (.int .i64 0))⟩]) (.cond (.tmp 12) (.seq (.dreg 11 [
    ⟨some 13, none, .mov (.tmp 0)⟩,
    ⟨some 14, none, .nilCheck (.tmp 13)⟩,
    ⟨some 15, none, .faddr 4 (.tmp 14)⟩,
    ⟨some 16, none, .load true 1 (.tmp 15)⟩,
    ⟨some 17, none, .mov (.tmp 0)⟩,
    ⟨some 18, none, .nilCheck (.tmp 17)⟩,
    ⟨some 19, none, .faddr 8 (.tmp 18)⟩,
    ⟨some 20, none, .load true 1 (.tmp 19)⟩,
    ⟨some 21, none, .iaddr 1 (.tmp 20) (.const (.int .i64 0))⟩,
    ⟨some 22, none, .load true 1 (.tmp 21)⟩,
    ⟨some 23, none, .iaddr 8 (.tmp 16) (.tmp 22)⟩,
    ⟨some 2, none, .mov (.tmp 23)⟩]) (.seq (.seq (.dreg 10 [
    ⟨some 24, none, .mov (.tmp 0)⟩,
    ⟨some 25, none, .nilCheck (.tmp 24)⟩,
    ⟨some 26, none, .faddr 7 (.tmp 25)⟩,
    ⟨some 27, none, .load true 1 (.tmp 26)⟩,
    ⟨some 28, none, .mov (.tmp 2)⟩,
    ⟨some 29, none, .nilCheck (.tmp 28)⟩,
    ⟨some 30, none, .faddr 7 (.tmp 29)⟩,
    ⟨some 31, none, .load true 1 (.tmp 30)⟩,
    ⟨some 32, none, .lenS (.tmp 31)⟩,
    ⟨some 33, none, .bin .lss (.tmp 27) (.tmp 32)⟩]) (.cond (.tmp 33) (.seq (.dreg 11 [
    ⟨some 34, none, .mov (.tmp 2)⟩,
    ⟨some 35, none, .nilCheck (.tmp 34)⟩,
    ⟨some 36, none, .faddr 7 (.tmp 35)⟩,
    ⟨some 37, none, .load true 1 (.tmp 36)⟩,
    ⟨some 38, none, .mov (.tmp 0)⟩,
    ⟨some 39, none, .nilCheck (.tmp 38)⟩,
    ⟨some 40, none, .faddr 7 (.tmp 39)⟩,
    ⟨some 41, none, .load true 1 (.tmp 40)⟩,
    ⟨some 42, none, .iaddr 6 (.tmp 37) (.tmp 41)⟩,
    ⟨some 43, none, .load false 6 (.tmp 42)⟩,
    ⟨some 3, none, .alloc true [.int .i64 0, .int .i64 0, .int .i64 0, .int .i64 0, .int .i64 0, .int .i64 0]⟩,
    ⟨none, none, .store 6 (.tmp 3) (.tmp 43)⟩]) (.seq (.reg [
    ⟨some 44, none, .mov (.tmp 0)⟩,
    ⟨some 45, none, .faddr 0 (.tmp 3)⟩,
    ⟨some 46, none, .load false 3 (.tmp 45)⟩,
    ⟨some 47, none, .call 179 [.tmp 44, .tmp 46]⟩]) (.seq (.reg [
    ⟨some 48, none, .mov (.tmp 0)⟩,
    ⟨some 49, none, .faddr 3 (.tmp 3)⟩,
    ⟨some 50, none, .load false 3 (.tmp 49)⟩,
    ⟨some 51, none, .call 179 [.tmp 48, .tmp 50]⟩]) (.seq (.reg [
    ⟨some 52, none, .mov (.tmp 0)⟩,
    ⟨some 53, none, .nilCheck (.tmp 52)⟩,
    ⟨some 54, none, .faddr 7 (.tmp 53)⟩,
    ⟨some 55, none, .load true 1 (.tmp 54)⟩,
    ⟨some 56, none, .bin .add (.tmp 55) (.const (.int .i64 1))⟩,
    ⟨some 57, none, .nilCheck (.tmp 52)⟩,
    ⟨some 58, none, .faddr 7 (.tmp 57)⟩,
    ⟨none, none, .store 1 (.tmp 58) (.tmp 56)⟩]) (.ret))))) (.skip))) (.seq (.reg [
    ⟨some 59, none, .mov (.tmp 2)⟩,
    ⟨some 60, none, .nilCheck (.tmp 59)⟩,
    ⟨some 61, none, .faddr 5 (.tmp 60)⟩,
    ⟨none, none, .store 1 (.tmp 61) (.const (.int .i64 2))⟩]) (.seq (.reg [
    ⟨some 62, none, .mov (.tmp 0)⟩,
    ⟨some 63, none, .mov (.tmp 0)⟩,
    ⟨some 64, none, .nilCheck (.tmp 63)⟩,
    ⟨some 65, none, .faddr 8 (.tmp 64)⟩,
    ⟨some 66, none, .load true 1 (.tmp 65)⟩,
    ⟨some 67, none, .slc 1 (.tmp 66) (some (.const (.int .i64 1))) none⟩,
    ⟨some 68, none, .nilCheck (.tmp 62)⟩,
    ⟨some 69, none, .faddr 8 (.tmp 68)⟩,
    ⟨none, none, .store 1 (.tmp 69) (.tmp 67)⟩]) (.seq (.reg [
    ⟨some 70, none, .mov (.tmp 0)⟩,
    ⟨some 71, none, .nilCheck (.tmp 70)⟩,
    ⟨some 72, none, .faddr 7 (.tmp 71)⟩,
    ⟨none, none, .store 1 (.tmp 72) (.const (.int .i64 0))⟩]) (.ret)))))) (.skip))) (.seq (.reg [
    ⟨some 4, none, .mov (.const (.bool false))⟩]) (.seq (.seq (.reg [
    ⟨some 73, none, .mov (.tmp 0)⟩,
    ⟨some 74, none, .nilCheck (.tmp 73)⟩,
    ⟨some 75, none, .faddr 3 (.tmp 74)⟩,
    ⟨some 76, none, .load true 1 (.tmp 75)⟩,
    ⟨some 77, none, .lenS (.tmp 76)⟩,
    ⟨some 78, none, .mov (.const (.int .i64 0))⟩]) (.block 0 (.loop (.seq (.reg [
    ⟨some 79, none, .bin .lss (.tmp 78) (.tmp 77)⟩]) (.seq (.cond (.tmp 79) (.skip) (.exit 0)) (.seq (.block 1 (.seq (.reg [
    ⟨some 80, none, .iaddr 3 (.tmp 76) (.tmp 78)⟩,
    ⟨some 81, none, .load false 3 (.tmp 80)⟩,
    ⟨some 6, none, .alloc true [.int .i64 0, .int .i64 0, .int .i64 0]⟩,
    ⟨none, none, .store 3 (.tmp 6) (.tmp 81)⟩]) (.seq (.reg [
    ⟨some 82, none, .mov (.tmp 0)⟩,
    ⟨some 83, none, .load false 3 (.tmp 6)⟩,
    ⟨some 84, none, .call 179 [.tmp 82, .tmp 83]⟩]) (.cond (.tmp 84) (.reg [
    ⟨some 4, none, .mov (.const (.bool true))⟩]) (.skip))))) (.reg [
    ⟨some 85, none, .bin .add (.tmp 78) (.const (.int .i64 1))⟩,
    ⟨some 78, none, .mov (.tmp 85)⟩]))))))) (.seq (.reg [
    ⟨some 86, none, .mov (.tmp 4)⟩,
    ⟨some 87, none, .not (.tmp 86)⟩]) (.cond (.tmp 87) (.reg [
    ⟨some 88, none, .mov (.tmp 0)⟩,
    ⟨some 89, none, .call 162 [.tmp 88, .const (.int .i64 3)]⟩]) (.skip)))))
theorem t172 : Try.f172.body.bind (trC e172) = some c172 := by kernel_rfl
theorem r172 : Try.f172.results.toList.mapM (trR Try.prog) = some [] := by kernel_rfl
theorem fn172 {args : List Value} {M : Mem} {post : Value → Mem → Prop} (hl : args.length ≤ 90) (h : VC e172 c172 (fnQ [] post) (initS args 90) M) : Fn Try.prog 172 args M post :=
  Fn.of' (E := e172) Try.func172 t172 rfl r172 mixed hl h
noncomputable def e173 : Env := ⟨Try.prog, [5, 7], 88, [(11, 13)]⟩
noncomputable def c173 : C :=
  .seq (.reg [
    ⟨some 8, none, .mov (.tmp 0)⟩,
    ⟨some 9, none, .nilCheck (.tmp 8)⟩,
    ⟨some 10, none, .faddr 4 (.tmp 9)⟩,
    ⟨some 11, none, .load true 1 (.tmp 10)⟩,
    ⟨some 12, none, .lenS (.tmp 11)⟩,
    ⟨some 2, none, .mov (.tmp 12)⟩,
    ⟨some 3, none, .mov (.const (.int .i64 (-1)))⟩]) (.seq (.seq (.reg [
    ⟨some 13, none, .mov (.tmp 0)⟩,
    ⟨some 14, none, .nilCheck (.tmp 13)⟩,
    ⟨some 15, none, .faddr 4 (.tmp 14)⟩,
    ⟨some 16, none, .load true 1 (.tmp 15)⟩,
    ⟨some 17, none, .lenS (.tmp 16)⟩,
    ⟨some 18, none, .mov (.const (.int .i64 0))⟩]) (.block 0 (.loop (.seq (.reg [
    ⟨some 19, none, .bin .lss (.tmp 18) (.tmp 17)⟩]) (.seq (.cond (.tmp 19) (.skip) (.exit 0)) (.seq (.block 1 (.seq (.reg [
    ⟨some 20, none, .mov (.tmp 18)⟩,
    ⟨some 21, none, .iaddr 8 (.tmp 16) (.tmp 18)⟩,
    ⟨some 22, none, .load false 8 (.tmp 21)⟩,
    ⟨some 5, none, .alloc true [.int .i64 0, .int .i64 0, .int .i64 0, .int .i64 0, .int .i64 0, .int .i64 0, .int .i64 0, .slice none 0 0]⟩,
    ⟨some 4, none, .mov (.tmp 20)⟩,
    ⟨none, none, .store 8 (.tmp 5) (.tmp 22)⟩]) (.seq (.seq (.reg [
    ⟨some 23, none, .faddr 0 (.tmp 5)⟩,
    ⟨some 24, none, .load true 1 (.tmp 23)⟩,
    ⟨some 25, none, .bin .eql (.tmp 24) (.const (.int .i64 0))⟩]) (.cond (.tmp 25) (.reg [
    ⟨some 26, none, .mov (.tmp 2)⟩,
    ⟨some 27, none, .mov (.tmp 4)⟩,
    ⟨some 28, none, .min (.tmp 26) (.tmp 27)⟩,
    ⟨some 2, none, .mov (.tmp 28)⟩]) (.skip))) (.seq (.reg [
    ⟨some 29, none, .faddr 0 (.tmp 5)⟩,
    ⟨some 30, none, .load true 1 (.tmp 29)⟩,
    ⟨some 31, none, .bin .eql (.tmp 30) (.const (.int .i64 1))⟩]) (.cond (.tmp 31) (.reg [
    ⟨some 32, none, .mov (.tmp 4)⟩,
    ⟨some 3, none, .mov (.tmp 32)⟩]) (.skip)))))) (.reg [
    ⟨some 33, none, .bin .add (.tmp 18) (.const (.int .i64 1))⟩,
    ⟨some 18, none, .mov (.tmp 33)⟩]))))))) (.seq (.seq (.reg [
    ⟨some 34, none, .mov (.tmp 2)⟩,
    ⟨some 35, none, .mov (.tmp 3)⟩,
    ⟨some 36, none, .bin .geq (.tmp 34) (.tmp 35)⟩]) (.cond (.tmp 36) (.seq (.reg [
    ⟨some 37, none, .mov (.tmp 0)⟩,
    ⟨some 38, none, .call 162 [.tmp 37, .const (.int .i64 5)]⟩]) (.ret)) (.skip))) (.seq (.dreg 13 [
    ⟨some 39, none, .mov (.tmp 0)⟩,
    ⟨some 40, none, .nilCheck (.tmp 39)⟩,
    ⟨some 41, none, .faddr 4 (.tmp 40)⟩,
    ⟨some 42, none, .load true 1 (.tmp 41)⟩,
    ⟨some 43, none, .mov (.tmp 2)⟩,
    ⟨some 44, none, .mov (.tmp 0)⟩,
    ⟨some 45, none, .nilCheck (.tmp 44)⟩,
    ⟨some 46, none, .faddr 4 (.tmp 45)⟩,
    ⟨some 47, none, .load true 1 (.tmp 46)⟩,
    ⟨some 48, none, .mov (.tmp 3)⟩,
    ⟨some 49, none, .iaddr 8 (.tmp 47) (.tmp 48)⟩,
    ⟨some 50, none, .load false 8 (.tmp 49)⟩,
    ⟨some 51, none, .iaddr 8 (.tmp 42) (.tmp 43)⟩,
    ⟨none, none, .store 8 (.tmp 51) (.tmp 50)⟩]) (.seq (.reg [
    ⟨some 52, none, .mov (.tmp 0)⟩,
    ⟨some 53, none, .nilCheck (.tmp 52)⟩,
    ⟨some 54, none, .faddr 4 (.tmp 53)⟩,
    ⟨some 55, none, .load true 1 (.tmp 54)⟩,
    ⟨some 56, none, .mov (.tmp 3)⟩,
    ⟨some 57, none, .mov (.tmp 2)⟩,
    ⟨some 58, none, .build [.int .i64 0, .int .i64 0, .int .i64 0, .int .i64 0, .int .i64 0, .int .i64 0, .int .i64 0, .slice none 0 0] [(0, 1, .const (.int .i64 2)), (6, 1, .tmp 57)]⟩,
    ⟨some 59, none, .iaddr 8 (.tmp 55) (.tmp 56)⟩,
    ⟨none, none, .store 8 (.tmp 59) (.tmp 58)⟩]) (.seq (.reg [
    ⟨some 60, none, .mov (.tmp 0)⟩,
    ⟨some 61, none, .nilCheck (.tmp 60)⟩,
    ⟨some 62, none, .faddr 3 (.tmp 61)⟩,
    ⟨some 63, none, .load true 1 (.tmp 62)⟩,
    ⟨some 64, none, .lenS (.tmp 63)⟩,
    ⟨some 65, none, .mov (.const (.int .i64 0))⟩]) (.block 2 (.loop (.seq (.reg [
    ⟨some 66, none, .bin .lss (.tmp 65) (.tmp 64)⟩]) (.seq (.cond (.tmp 66) (.skip) (.exit 2)) (.seq (.block 3 (.seq (.reg [
    ⟨some 67, none, .mov (.tmp 65)⟩,
    ⟨some 68, none, .iaddr 3 (.tmp 63) (.tmp 65)⟩,
    ⟨some 69, none, .load false 3 (.tmp 68)⟩,
    ⟨some 7, none, .alloc true [.int .i64 0, .int .i64 0, .int .i64 0]⟩,
    ⟨some 6, none, .mov (.tmp 67)⟩,
    ⟨none, none, .store 3 (.tmp 7) (.tmp 69)⟩]) (.seq (.reg [
    ⟨some 70, none, .faddr 0 (.tmp 7)⟩,
    ⟨some 71, none, .load true 1 (.tmp 70)⟩,
    ⟨some 72, none, .bin .eql (.tmp 71) (.const (.int .i64 2))⟩,
    ⟨some 73, none, .mov (.tmp 72)⟩,
    ⟨some 74, some (73, true), .faddr 2 (.tmp 7)⟩,
    ⟨some 75, some (73, true), .load true 1 (.tmp 74)⟩,
    ⟨some 76, some (73, true), .mov (.tmp 3)⟩,
    ⟨some 77, some (73, true), .bin .eql (.tmp 75) (.tmp 76)⟩,
    ⟨some 78, none, .pick (.tmp 73) (.tmp 77) (.const (.bool false))⟩]) (.cond (.tmp 78) (.reg [
    ⟨some 79, none, .mov (.tmp 0)⟩,
    ⟨some 80, none, .nilCheck (.tmp 79)⟩,
    ⟨some 81, none, .faddr 3 (.tmp 80)⟩,
    ⟨some 82, none, .load true 1 (.tmp 81)⟩,
    ⟨some 83, none, .mov (.tmp 6)⟩,
    ⟨some 84, none, .mov (.tmp 2)⟩,
    ⟨some 85, none, .iaddr 3 (.tmp 82) (.tmp 83)⟩,
    ⟨some 86, none, .faddr 2 (.tmp 85)⟩,
    ⟨none, none, .store 1 (.tmp 86) (.tmp 84)⟩]) (.skip))))) (.reg [
    ⟨some 87, none, .bin .add (.tmp 65) (.const (.int .i64 1))⟩,
    ⟨some 65, none, .mov (.tmp 87)⟩])))))))))))
theorem t173 : Try.f173.body.bind (trC e173) = some c173 := by kernel_rfl
theorem r173 : Try.f173.results.toList.mapM (trR Try.prog) = some [] := by kernel_rfl
theorem fn173 {args : List Value} {M : Mem} {post : Value → Mem → Prop} (hl : args.length ≤ 88) (h : VC e173 c173 (fnQ [] post) (initS args 88) M) : Fn Try.prog 173 args M post :=
  Fn.of' (E := e173) Try.func173 t173 rfl r173 mixed hl h
noncomputable def e128 : Env := ⟨Try.prog, [], 9, []⟩
noncomputable def c128 : C :=
  .seq (.reg [
    ⟨some 2, none, .mov (.tmp 0)⟩,
    ⟨some 3, none, .nilCheck (.tmp 2)⟩,
    ⟨some 4, none, .faddr 5 (.tmp 3)⟩,
    ⟨some 5, none, .load true 1 (.tmp 4)⟩,
    ⟨some 6, none, .bin .eql (.tmp 5) (.const (.int .i64 0))⟩]) (.cond (.tmp 6) (.reg [
    ⟨some 7, none, .mov (.tmp 0)⟩,
    ⟨some 8, none, .call 162 [.tmp 7, .const (.int .i64 1)]⟩]) (.skip))
theorem t128 : Try.f128.body.bind (trC e128) = some c128 := by kernel_rfl
theorem r128 : Try.f128.results.toList.mapM (trR Try.prog) = some [] := by kernel_rfl
theorem fn128 {args : List Value} {M : Mem} {post : Value → Mem → Prop} (hl : args.length ≤ 9) (h : VC e128 c128 (fnQ [] post) (initS args 9) M) : Fn Try.prog 128 args M post :=
  Fn.of' (E := e128) Try.func128 t128 rfl r128 mixed hl h
noncomputable def e129 : Env := ⟨Try.prog, [], 21, []⟩
noncomputable def c129 : C :=
  .seq (.reg [
    ⟨some 4, none, .mov (.const (.int .i64 0))⟩]) (.seq (.reg [
    ⟨some 5, none, .mov (.const (.int .i64 0))⟩]) (.seq (.block 0 (.loop (.seq (.seq (.reg [
    ⟨some 6, none, .mov (.tmp 5)⟩,
    ⟨some 7, none, .mov (.tmp 1)⟩,
    ⟨some 8, none, .bin .lss (.tmp 6) (.tmp 7)⟩,
    ⟨some 9, none, .mov (.tmp 8)⟩,
    ⟨some 10, some (9, true), .mov (.tmp 0)⟩,
    ⟨some 11, some (9, true), .nilCheck (.tmp 10)⟩,
    ⟨some 12, some (9, true), .faddr 5 (.tmp 11)⟩,
    ⟨some 13, some (9, true), .load true 1 (.tmp 12)⟩,
    ⟨some 14, some (9, true), .bin .neq (.tmp 13) (.const (.int .i64 0))⟩,
    ⟨some 15, none, .pick (.tmp 9) (.tmp 14) (.const (.bool false))⟩]) (.cond (.tmp 15) (.skip) (.exit 0))) (.block 1 (.seq (.reg [
    ⟨some 16, none, .mov (.tmp 0)⟩,
    ⟨some 17, none, .call 156 [.tmp 16]⟩]) (.reg [
    ⟨some 18, none, .mov (.tmp 5)⟩,
    ⟨some 19, none, .bin .add (.tmp 18) (.const (.int .i64 1))⟩,
    ⟨some 5, none, .mov (.tmp 19)⟩])))))) (.seq (.reg [
    ⟨some 20, none, .mov (.tmp 5)⟩,
    ⟨some 4, none, .mov (.tmp 20)⟩]) (.ret))))
theorem t129 : Try.f129.body.bind (trC e129) = some c129 := by kernel_rfl
theorem r129 : Try.f129.results.toList.mapM (trR Try.prog) = some [.tmp 4] := by kernel_rfl
theorem fn129 {args : List Value} {M : Mem} {post : Value → Mem → Prop} (hl : args.length ≤ 21) (h : VC e129 c129 (fnQ [.tmp 4] post) (initS args 21) M) : Fn Try.prog 129 args M post :=
  Fn.of' (E := e129) Try.func129 t129 rfl r129 mixed hl h
noncomputable def e63 : Env := ⟨Try.prog, [2, 4], 30, []⟩
noncomputable def c63 : C :=
  .seq (.reg [
    ⟨some 2, none, .box true (.tmp 0)⟩,
    ⟨some 4, none, .alloc true [.int .i64 0, .int .i64 0, .int .i64 0, .slice none 0 0, .slice none 0 0, .int .i64 0, .int .i64 0, .int .i64 0, .slice none 0 0, .int .i64 0, .int .i64 0, .int .i64 0, .int .i64 0, .int .i64 0]⟩]) (.seq (.seq (.reg [
    ⟨some 7, none, .load false 13 (.tmp 2)⟩,
    ⟨some 8, none, .call 105 [.tmp 7]⟩,
    ⟨some 9, none, .not (.tmp 8)⟩,
    ⟨some 10, none, .mov (.tmp 9)⟩,
    ⟨some 11, some (10, false), .mov (.tmp 1)⟩,
    ⟨some 12, some (10, false), .call 71 [.tmp 11, .const (.int .i64 0), .const (.int .i64 100000)]⟩,
    ⟨some 13, some (10, false), .not (.tmp 12)⟩,
    ⟨some 14, none, .pick (.tmp 10) (.const (.bool true)) (.tmp 13)⟩]) (.cond (.tmp 14) (.seq (.reg [
    ⟨some 15, none, .build [.int .i64 0, .int .i64 0, .int .i64 0, .slice none 0 0, .slice none 0 0, .int .i64 0, .int .i64 0, .int .i64 0, .slice none 0 0, .int .i64 0, .int .i64 0, .int .i64 0, .int .i64 0, .int .i64 0] []⟩,
    ⟨none, none, .store 14 (.tmp 4) (.tmp 15)⟩]) (.ret)) (.skip))) (.seq (.reg [
    ⟨some 16, none, .load false 13 (.tmp 2)⟩,
    ⟨some 17, none, .call 119 [.tmp 16]⟩,
    ⟨some 5, none, .mov (.tmp 17)⟩]) (.seq (.seq (.reg [
    ⟨some 18, none, .mov (.tmp 1)⟩,
    ⟨some 19, none, .bin .gtr (.tmp 18) (.const (.int .i64 0))⟩]) (.cond (.tmp 19) (.reg [
    ⟨some 20, none, .mov (.tmp 5)⟩,
    ⟨some 21, none, .call 128 [.tmp 20]⟩]) (.skip))) (.seq (.reg [
    ⟨some 22, none, .mov (.tmp 5)⟩,
    ⟨some 23, none, .mov (.tmp 1)⟩,
    ⟨some 24, none, .call 129 [.tmp 22, .tmp 23]⟩,
    ⟨some 6, none, .mov (.tmp 24)⟩]) (.seq (.reg [
    ⟨some 25, none, .mov (.tmp 5)⟩,
    ⟨some 26, none, .nilCheck (.tmp 25)⟩,
    ⟨some 27, none, .load false 13 (.tmp 26)⟩,
    ⟨some 28, none, .mov (.tmp 6)⟩,
    ⟨some 29, none, .build [.int .i64 0, .int .i64 0, .int .i64 0, .slice none 0 0, .slice none 0 0, .int .i64 0, .int .i64 0, .int .i64 0, .slice none 0 0, .int .i64 0, .int .i64 0, .int .i64 0, .int .i64 0, .int .i64 0] [(0, 13, .tmp 27), (13, 1, .tmp 28)]⟩,
    ⟨none, none, .store 14 (.tmp 4) (.tmp 29)⟩]) (.ret))))))
theorem t63 : Try.f63.body.bind (trC e63) = some c63 := by kernel_rfl
theorem r63 : Try.f63.results.toList.mapM (trR Try.prog) = some [.cell 4 false 14] := by kernel_rfl
theorem fn63 {args : List Value} {M : Mem} {post : Value → Mem → Prop} (hl : args.length ≤ 30) (h : VC e63 c63 (fnQ [.cell 4 false 14] post) (initS args 30) M) : Fn Try.prog 63 args M post :=
  Fn.of' (E := e63) Try.func63 t63 rfl r63 mixed hl h
end Go.Proofs.Ytcmllambknfleaa.E
set_option linter.unusedVariables false
set_option linter.unusedSimpArgs false
set_option maxHeartbeats 4000000
set_option maxRecDepth 100000
namespace Go.Proofs.Ytcmllambknfleaa.E
open Go
open Classical
/-- the phase is another -/
def HX.enter (x : HX) (p : Int) : HX := { x with phase := p, hand := if p = 6 then x.xs.length else 0, sub := 0 }
theorem enter_a {a : Nat} {x : HX} {p : Int} : FnA Try.prog 162 [ptr a, .int .i64 p] (hp a x) (fun v As => As = hp a (x.enter p)) := by
  refine fnA_of (fun h => fn162 (by simp) h) ?_
  repeat' (first
    | (refine k_L ?_; first | refine a_p rfl ?_ | (refine k_l ?_; refine g_l rfl ?_) | (refine k_st ?_; refine g_st rfl rfl rfl rfl ?_))
    | refine a_n ?_
    | (refine k_V ?_; first | refine v_seq ?_ | refine v_reg ?_ | refine v_skip ?_ | (refine v_cd rfl (fun hb => ?_) (fun hb => ?_) <;> try (exfalso; omega))))
  · subst hb; exact fa_n (fun _ _ => rfl) (Pm.ent (fin _)) rfl
  · refine fa_n (fun _ _ => rfl) (Pm.ent (fin (x.enter p) (e1 := ?_))) rfl
    unfold HX.enter; rw [if_neg hb]; rfl
def HX.begin (x : HX) : HX := if x.phase = 0 then x.enter 1 else x
theorem begin_a {a : Nat} {x : HX} : FnA Try.prog 128 [ptr a] (hp a x) (fun v As => As = hp a x.begin) := by
  refine fnA_of (fun h => fn128 (by simp) h) ?_
  unfold HX.begin
  repeat' (first
    | (refine k_L ?_; first | refine a_p rfl ?_ | (refine k_l ?_; refine g_l rfl ?_) | (refine g_c rfl enter_a (fun v As' hq => ?_); subst hq))
    | refine a_n ?_
    | (refine k_V ?_; first | refine v_seq ?_ | refine v_reg ?_ | refine v_skip ?_ | (refine v_cd rfl (fun hb => ?_) (fun hb => ?_) <;> try (exfalso; omega))))
  · rw [if_pos (show x.phase = 0 from hb)]; exact fa_n (fun _ _ => rfl) (Pm.ent (fin _)) rfl
  · rw [if_neg (show ¬ x.phase = 0 from hb)]; exact fa_n (fun _ _ => rfl) (Pm.ent (fin _)) rfl
/-- a cell is shaded -/
def HX.shade (x : HX) (i : Nat) (y : CS) (e : D) : HX := { x with xs := x.xs.set i (y.s_color 1), gray := x.gray ++ [(i : Int)], gd := e }
theorem shade_a {a : Nat} {x : HX} {i : Nat} {y : CS} (hi : x.xs[i]? = some y) (hg : x.gray.length ≤ 1000000) : FnA Try.prog 120 [ptr a, .int .i64 i] (hp a x) (fun v As => ∃ z : HX, As = hp a z ∧ if Marking x.H ∧ y.c.color = 0 then ∃ e, z = x.shade i y e else z = x) := by
  have hlt := (List.getElem?_eq_some_iff.1 hi).1
  refine fnA_of (fun h => fn120 (by simp) h) ?_
  repeat' (first
    | (refine k_L ?_; first | refine a_p rfl ?_ | (refine k_g ?_; first | refine a_gy rfl rfl ?_ | refine a_gn rfl rfl ?_ | (refine a_gd rfl (fun hb => ?_) (fun hb => ?_) <;> try (exfalso; omega))) | (refine k_l ?_; refine g_l rfl ?_) | (refine k_i ?_; refine g_i rfl rfl ?_) | (refine k_st ?_; refine g_st rfl rfl rfl rfl ?_) | (refine k_bl ?_; refine a_bl rfl ?_) | (refine k_c ?_; refine a_cq rfl (fun m hm => marking_q (ph_g (x := x) hm)) ?_) | (refine g_ai rfl rfl (by omega) (fun e' => ?_)))
    | refine a_n ?_
    | (refine k_V ?_; first | refine v_seq ?_ | refine v_reg ?_ | refine v_skip ?_ | refine v_cf rfl ?_ | (refine v_cd rfl (fun hb => ?_) (fun hb => ?_) <;> try (exfalso; omega))))
  · refine fa_n (fun _ _ => rfl) (Pm.ent (fin (x.shade i y e'))) ⟨_, rfl, ?_⟩
    rw [if_pos ⟨‹_›, ‹_›⟩]; exact ⟨_, rfl⟩
  all_goals refine fa_n (fun _ _ => rfl) (Pm.ent (fin x)) ⟨_, rfl, ?_⟩
  all_goals rw [if_neg (by simp_all)]
end Go.Proofs.Ytcmllambknfleaa.E
set_option linter.unusedVariables false
set_option linter.unusedSimpArgs false
namespace Go.Proofs.Ytcmllambknfleaa.E
open Go
open Classical
def Cell.zero : Cell := ⟨0, 0, 0, 0, 0, 0, 0, []⟩
def Cell.col (c : Cell) (k : Int) : Cell := { c with color := k }
theorem set_gt {α : Type} {l : List α} {i j : Nat} {a c : α} (h : (l.set i a)[j]? = some c) : (j = i ∧ c = a ∧ i < l.length) ∨ (j ≠ i ∧ l[j]? = some c) := by
  rw [List.getElem?_set] at h
  split at h
  · rename_i e
    subst e
    split at h
    · rename_i hl; cases h; exact .inl ⟨rfl, rfl, hl⟩
    · cases h
  · rename_i e; exact .inr ⟨fun e' => e e'.symm, h⟩
def getL (cs : List Cell) (j : Int) : Cell := cs.getD j.toNat Cell.zero
theorem getC_L (H : Heap) (j : Int) : H.getC j = getL H.cells j := rfl
theorem getL_at {cs : List Cell} {i : Nat} {c : Cell} {j : Int} (h : cs[i]? = some c) (e : j.toNat = i) : getL cs j = c := by
  unfold getL; rw [e, List.getD_eq_getElem?_getD, h]; rfl
theorem getL_set {cs : List Cell} {i : Nat} {a : Cell} {j : Int} (hi : i < cs.length) : getL (cs.set i a) j = if j.toNat = i then a else getL cs j := by
  unfold getL
  rw [List.getD_eq_getElem?_getD, List.getD_eq_getElem?_getD, List.getElem?_set]
  by_cases e : i = j.toNat
  · rw [if_pos e, if_pos hi, if_pos e.symm]; rfl
  · rw [if_neg e, if_neg (fun h => e h.symm)]
theorem getL_some {cs : List Cell} {j : Int} (h0 : 0 ≤ j) (h1 : j < cs.length) : cs[j.toNat]? = some (getL cs j) := by
  unfold getL
  rw [List.getD_eq_getElem?_getD, List.getElem?_eq_getElem (by omega)]; rfl
theorem units_set : ∀ {cs : List Cell} {i : Nat} {c d : Cell}, cs[i]? = some c → unitsN (cs.set i d) = unitsN cs - c.units + d.units
  | [], i, c, d, h => by simp at h
  | a :: r, 0, c, d, h => by
    simp only [List.getElem?_cons_zero, Option.some.injEq] at h
    subst h
    simp only [unitsN, List.set_cons_zero, List.map_cons, List.sum_cons]; omega
  | a :: r, i + 1, c, d, h => by
    simp only [List.getElem?_cons_succ] at h
    have := units_set (d := d) h
    simp only [unitsN, List.set_cons_succ, List.map_cons, List.sum_cons] at this ⊢; omega
theorem nodup_len : ∀ (n : Nat) (l : List Int), l.Nodup → (∀ g, g ∈ l → 0 ≤ g ∧ g < n) → l.length ≤ n
  | 0, l, _, h => by
    cases l with
    | nil => simp
    | cons a r => have := h a (by simp); omega
  | n + 1, l, hn, h => by
    by_cases hm : (n : Int) ∈ l
    · have h1 := nodup_len n (l.erase n) (hn.erase _) (fun g hg => by
        have h2 := h g (List.mem_of_mem_erase hg)
        have h3 := (hn.mem_erase_iff.1 hg).1
        omega)
      rw [List.length_erase_of_mem hm] at h1
      omega
    · have := nodup_len n l hn (fun g hg => by
        have h2 := h g hg
        have : g ≠ n := fun e => hm (by rw [← e]; exact hg)
        omega)
      omega
theorem R2.bare {H : Heap} (h : R2 H) {i : Nat} {c : Cell} (hc : H.cells[i]? = some c) (hu : c.state ≠ 1) : Bare c := by
  rcases h.each i c hc with h | h | h
  · exact h.2.1
  · exact h.2.1
  · exact absurd h.1 hu
theorem R2.state {H : Heap} (h : R2 H) {i : Nat} {c : Cell} (hc : H.cells[i]? = some c) (hp : H.phase < 4) : c.state = 0 ∨ c.state = 1 := by
  rcases h.each i c hc with h | h | h
  · exact .inl h.1
  · have := h.2.2.1; omega
  · exact .inr h.1
theorem orig {l : List Cell} {i j : Nat} {c d e : Cell} (hc : l[i]? = some c) (hd : (l.set i e)[j]? = some d) : ∃ d0, l[j]? = some d0 ∧ (j = i ∧ d0 = c ∧ d = e ∨ j ≠ i ∧ d = d0) := by
  rcases set_gt hd with ⟨rfl, rfl, _⟩ | ⟨h, hd⟩
  · exact ⟨c, hc, .inl ⟨rfl, rfl, rfl⟩⟩
  · exact ⟨d, hd, .inr ⟨h, rfl⟩⟩
/-- a cell of another colour -/
theorem col_state {H H' : Heap} {i : Nat} {c : Cell} {k : Int} (hc : H.cells[i]? = some c) (e1 : H'.cells = H.cells.set i (c.col k)) (j : Int) : (H'.getC j).state = (H.getC j).state ∧ (H'.getC j).pairs = (H.getC j).pairs ∧ (H'.getC j).to = (H.getC j).to := by
  have hlt := (List.getElem?_eq_some_iff.1 hc).1
  rw [getC_L, getC_L, e1, getL_set hlt]
  by_cases e : j.toNat = i
  · rw [if_pos e, getL_at hc e]; exact ⟨rfl, rfl, rfl⟩
  · rw [if_neg e]; exact ⟨rfl, rfl, rfl⟩
theorem col_r2 {H H' : Heap} {i : Nat} {c : Cell} {k : Int} (h : R2 H) (hc : H.cells[i]? = some c) (hu : c.state = 1) (hk : 0 ≤ k ∧ k ≤ 2) (e1 : H'.cells = H.cells.set i (c.col k)) (e2 : H'.born = H.born) (e3 : H'.phase = H.phase) : R2 H' := by
  have gs := fun j => (col_state hc e1 j).1
  refine ⟨fun j d hd => ?_, fun j l d e hd he hjl h1 h2 => ?_, fun j l d e hd he hjl h1 h2 => ?_⟩
  · rw [e1] at hd
    obtain ⟨d0, hd0, ⟨rfl, rfl, rfl⟩ | ⟨_, rfl⟩⟩ := orig hc hd
    · obtain ⟨_, a2, a3, a4, a5, a6, a7⟩ := h.used hd0 hu
      exact .inr (.inr ⟨hu, a2, a3, a4, by rw [e2]; exact a5, hk, a7⟩)
    · rcases h.each j d hd0 with h1 | h1 | h1
      · exact .inl h1
      · obtain ⟨a1, a2, a3, a4, a5, a6⟩ := h1
        exact .inr (.inl ⟨a1, a2, by rw [e3]; exact a3, a4, by rw [gs]; exact a5, fun hp k h0 h1 => by rw [gs]; exact a6 (by rw [← e3]; exact hp) k h0 h1⟩)
      · obtain ⟨a1, a2, a3, a4, a5, a6⟩ := h1
        exact .inr (.inr ⟨a1, a2, a3, a4, by rw [e2]; exact a5, a6⟩)
  · rw [e1] at hd he
    obtain ⟨d0, hd0, x⟩ := orig hc hd
    obtain ⟨f0, he0, y⟩ := orig hc he
    have b1 : d.born = d0.born ∧ d.state = d0.state := by rcases x with ⟨_, rfl, rfl⟩ | ⟨_, rfl⟩ <;> exact ⟨rfl, rfl⟩
    have b2 : e.born = f0.born ∧ e.state = f0.state := by rcases y with ⟨_, rfl, rfl⟩ | ⟨_, rfl⟩ <;> exact ⟨rfl, rfl⟩
    rw [b1.1, b2.1]
    exact h.born j l d0 f0 hd0 he0 hjl (b1.2 ▸ h1) (b2.2 ▸ h2)
  · rw [e1] at hd he
    obtain ⟨d0, hd0, x⟩ := orig hc hd
    obtain ⟨f0, he0, y⟩ := orig hc he
    have b1 : d.to = d0.to ∧ d.state = d0.state := by rcases x with ⟨_, rfl, rfl⟩ | ⟨_, rfl⟩ <;> exact ⟨rfl, rfl⟩
    have b2 : e.to = f0.to ∧ e.state = f0.state := by rcases y with ⟨_, rfl, rfl⟩ | ⟨_, rfl⟩ <;> exact ⟨rfl, rfl⟩
    rw [b1.1, b2.1]
    exact h.to j l d0 f0 hd0 he0 hjl (b1.2 ▸ h1) (b2.2 ▸ h2)
theorem col_r3 {H H' : Heap} {i : Nat} {c : Cell} {k : Int} (h : R3 H) (hc : H.cells[i]? = some c) (e1 : H'.cells = H.cells.set i (c.col k)) (e2 : H'.used = H.used) (e3 : H'.room = H.room) : R3 H' := by
  unfold R3 at *
  rw [e1, e2, e3, units_set hc]
  have : (c.col k).units = c.units := rfl
  rw [this]; omega
theorem leads_of {H H' : Heap} {w : Word} {m m' : Prop} (hs : ∀ j, (H'.getC j).state = (H.getC j).state) (hd : ∀ j, Doomed H' j → Doomed H j) (hm : m → m') (h : LeadsWell H w m) : LeadsWell H' w m' := fun hk => by
  rw [hs]
  rcases h hk with ⟨a, b⟩ | ⟨a, b⟩
  · exact .inl ⟨a, fun h => b (hd _ h)⟩
  · exact .inr ⟨a, hm b⟩
theorem formed_len {H H' : Heap} {w : Word} (hl : H'.cells.length = H.cells.length) (h : Formed H w) : Formed H' w := by unfold Formed at *; rw [hl]; exact h
/-- words lead as before -/
theorem r4_frame {H H' : Heap} (h : R4 H) (hl : H'.cells.length = H.cells.length) (hr : H'.regs = H.regs) (hs : ∀ j, (H'.getC j).state = (H.getC j).state) (hd : ∀ j, Doomed H' j ↔ Doomed H j)
    (ho : ∀ (j : Nat) d, H'.cells[j]? = some d → ∃ d0, H.cells[j]? = some d0 ∧ d.pairs = d0.pairs ∧ (Root d → Root d0))
    (hm : ∀ (j k : Nat) d p, H.cells[j]? = some d → d.pairs[k]? = some p → Mended H' j k → Mended H j k) : R4 H' := by
  refine ⟨fun w hw => ?_, fun i c hc hdm hrt => ?_, fun i c hc k p hp => ?_⟩
  · obtain ⟨a, b⟩ := h.regs w (by rw [← hr]; exact hw)
    exact ⟨formed_len hl a, leads_of hs (fun j => (hd j).1) id b⟩
  · obtain ⟨d0, h0, _, h2⟩ := ho i c hc
    exact h.roots i d0 h0 ((hd i).1 hdm) (h2 hrt)
  · obtain ⟨d0, h0, h1, _⟩ := ho i c hc
    rw [h1] at hp
    obtain ⟨a, b, g⟩ := h.pairs i d0 h0 k p hp
    refine ⟨formed_len hl a, formed_len hl b, fun hn => ?_⟩
    obtain ⟨g1, g2⟩ := g (fun h' => hn ((hd i).2 h'))
    have hmm : ¬ Mended H i k → ¬ Mended H' i k := fun a b => a (hm i k d0 p h0 hp b)
    exact ⟨leads_of hs (fun j => (hd j).1) hmm g1, leads_of hs (fun j => (hd j).1) hmm g2⟩
theorem same_orig {H H' : Heap} (e : H'.cells = H.cells) : ∀ (j : Nat) d, H'.cells[j]? = some d → ∃ d0, H.cells[j]? = some d0 ∧ d.pairs = d0.pairs ∧ (Root d → Root d0) := fun j d hd => ⟨d, by rw [← e]; exact hd, rfl, id⟩
theorem col_orig {H H' : Heap} {i : Nat} {c : Cell} {k : Int} (hc : H.cells[i]? = some c) (e : H'.cells = H.cells.set i (c.col k)) : ∀ (j : Nat) d, H'.cells[j]? = some d → ∃ d0, H.cells[j]? = some d0 ∧ d.pairs = d0.pairs ∧ (Root d → Root d0) := fun j d hd => by
  rw [e] at hd
  obtain ⟨d0, hd0, ⟨rfl, rfl, rfl⟩ | ⟨_, rfl⟩⟩ := orig hc hd
  · exact ⟨_, hd0, rfl, id⟩
  · exact ⟨d, hd0, rfl, id⟩
theorem not_mend {H : Heap} (hp : H.phase ≠ 4 ∧ H.phase ≠ 5) (i k : Int) : Mended H i k := ⟨hp.1, fun h => absurd h hp.2⟩
theorem not_doom {H : Heap} (hp : H.phase ≠ 3) (i : Int) : ¬ Doomed H i := fun h => hp h.1
theorem r6_0 {H : Heap} (hp : H.phase = 0 ∨ H.phase = 4) : R6 H ↔ H.hand = 0 ∧ H.sub = 0 := by unfold R6; rw [if_pos hp]
theorem r6_2 {H : Heap} (hp : H.phase = 2) : R6 H ↔ H.hand = 0 ∧ (match H.gray with | [] => H.sub = 0 | g :: _ => H.sub ≤ (H.getC g).pairs.length) := by unfold R6; rw [if_neg (by omega), if_pos hp]; exact Iff.rfl
theorem r6_5 {H : Heap} (hp : H.phase = 5) : R6 H ↔ (if H.hand < H.cells.length ∧ (H.getC H.hand).state = 1 then H.sub ≤ (H.getC H.hand).pairs.length else H.sub = 0) := by unfold R6; rw [if_neg (by omega), if_neg (by omega), if_pos hp]
theorem r6_e {H : Heap} (hp : H.phase ≠ 0 ∧ H.phase ≠ 4 ∧ H.phase ≠ 2 ∧ H.phase ≠ 5) : R6 H ↔ H.sub = 0 := by unfold R6; rw [if_neg (by omega), if_neg (by omega), if_neg (by omega)]
theorem r6_2s {H : Heap} (hp : H.phase = 2) (hh : H.hand = 0) (hs : H.sub = 0) : R6 H := by
  refine (r6_2 hp).2 ⟨hh, ?_⟩
  rw [hs]
  cases H.gray with
  | nil => rfl
  | cons a r => simp
theorem R7.nil {H : Heap} (hp : ¬ Marking H) : R7 H := fun h => absurd h hp
theorem R8.nil {H : Heap} (hp : H.phase ≠ 6) : R8 H := fun h => absurd h hp
/-- the heap with cell i shaded -/
def Heap.gray1 (H : Heap) (i : Nat) (c : Cell) : Heap := { H with cells := H.cells.set i (c.col 1), gray := H.gray ++ [(i : Int)] }
theorem gray1_sound {H : Heap} {i : Nat} {c : Cell} (h : Sound H) (hm : Marking H) (hc : H.cells[i]? = some c) (hu : c.state = 1) (hw : c.color = 0) : Sound (H.gray1 i c) := by
  have hp : H.phase ≠ 3 ∧ H.phase ≠ 4 ∧ H.phase ≠ 5 ∧ H.phase ≠ 6 := by rcases hm with e | e <;> rw [e] <;> omega
  have hp12 : H.phase = 1 ∨ H.phase = 2 := hm
  have hlt := (List.getElem?_eq_some_iff.1 hc).1
  have hcs := fun j => col_state (H := H) (H' := H.gray1 i c) (k := 1) hc rfl j
  obtain ⟨g1, g2, g3⟩ := h.r5.mark hm
  have hi : (i : Int) ∉ H.gray := fun hi => by
    have := (g2 _ hi).2.2.2
    rw [getC_nat hc, hw] at this; omega
  have gn : (H.gray ++ [(i : Int)]).Nodup := List.nodup_append.2 ⟨g1, by simp, fun a ha b hb => by simp at hb; subst hb; exact fun e => hi (by rw [← e]; exact ha)⟩
  have gC : ∀ j : Int, (H.gray1 i c).getC j = if j.toNat = i then c.col 1 else H.getC j := fun j => by
    rw [getC_L, getC_L]; exact getL_set hlt
  have gm : ∀ g, g ∈ H.gray ++ [(i : Int)] → 0 ≤ g ∧ g < H.cells.length := fun g hg => by
    rcases List.mem_append.1 hg with hg | hg
    · exact ⟨(g2 g hg).1, (g2 g hg).2.1⟩
    · simp at hg; subst hg; omega
  have hl : (H.gray1 i c).cells.length = H.cells.length := by simp [Heap.gray1]
  have w_of : ∀ w, White (H.gray1 i c) w → White H w := fun w hw' => by
    refine ⟨hw'.1, ?_⟩
    have := hw'.2
    rw [gC] at this
    split at this
    · simp [Cell.col] at this
    · exact this
  refine ⟨?_, col_r2 h.r2 hc hu (by omega) rfl rfl rfl, col_r3 h.r3 hc rfl rfl rfl, ?_, ⟨fun _ => ⟨gn, fun g hg => ?_, fun j d hd hdc => ?_⟩, fun hn => absurd hm hn⟩, ?_, fun _ j d hd => ?_, R8.nil hp.2.2.2⟩
  · refine { h.r1 with cells := by rw [hl]; exact h.r1.cells, gray := ?_, hand := by rw [hl]; exact h.r1.hand }
    rw [hl]; exact nodup_len _ _ gn gm
  · exact r4_frame h.r4 hl rfl (fun j => (hcs j).1) (fun j => ⟨fun h => absurd h.1 hp.1, fun h => absurd h.1 hp.1⟩) (col_orig hc rfl) (fun _ _ _ _ _ _ _ => not_mend ⟨hp.2.1, hp.2.2.1⟩ _ _)
  · refine ⟨(gm g hg).1, by rw [hl]; exact (gm g hg).2, ?_⟩
    rw [gC]
    by_cases e : g.toNat = i
    · rw [if_pos e]; exact ⟨hu, rfl⟩
    · rw [if_neg e]
      rcases List.mem_append.1 hg with hg | hg
      · exact (g2 g hg).2.2
      · simp at hg; subst hg; simp at e
  · show (j : Int) ∈ H.gray ++ [(i : Int)]
    obtain ⟨d0, hd0, ⟨rfl, rfl, rfl⟩ | ⟨_, rfl⟩⟩ := orig hc hd
    · simp
    · exact List.mem_append_left _ (g3 j d hd0 hdc)
  · have h6 := h.r6
    unfold R6 at h6 ⊢
    show if H.phase = 0 ∨ H.phase = 4 then _ else if H.phase = 2 then _ else if H.phase = 5 then _ else _
    by_cases p2 : H.phase = 2
    · rw [if_neg (by omega), if_pos p2] at h6 ⊢
      refine ⟨h6.1, ?_⟩
      have h7 := h6.2
      show match H.gray ++ [(i : Int)] with | [] => H.sub = 0 | g :: _ => H.sub ≤ ((H.gray1 i c).getC g).pairs.length
      cases hg : H.gray with
      | nil =>
        rw [hg] at h7
        simp only [List.nil_append] at h7 ⊢
        omega
      | cons a r =>
        rw [hg] at h7
        simp only [List.cons_append] at h7 ⊢
        rw [(hcs a).2.1]; exact h7
    · rw [if_neg (by omega), if_neg p2, if_neg (by omega)] at h6 ⊢
      exact h6
  · obtain ⟨d0, hd0, x⟩ := orig hc hd
    obtain ⟨a, b⟩ := h.r7 hm j d0 hd0
    refine ⟨fun hr hcol => ?_, fun k p hk hsc => ?_⟩
    · rcases x with ⟨rfl, rfl, rfl⟩ | ⟨_, rfl⟩
      · simp [Cell.col] at hcol
      · exact a hr hcol
    · have hpr : d.pairs = d0.pairs := by rcases x with ⟨_, rfl, rfl⟩ | ⟨_, rfl⟩ <;> rfl
      rw [hpr] at hk
      have : (k : Int) < scanned H j d0 := by
        unfold scanned at hsc ⊢
        have hph : (H.gray1 i c).phase = H.phase := rfl
        have hsub : (H.gray1 i c).sub = H.sub := rfl
        have hhd : (H.gray1 i c).gray.head? = some (j : Int) → H.phase = 2 → (H.gray.head? = some (j : Int)) ∨ H.sub = 0 := by
          intro h1 h2
          have h6 := h.r6
          unfold R6 at h6
          rw [if_neg (by omega), if_pos h2] at h6
          have h1 : (H.gray ++ [(i : Int)]).head? = some (j : Int) := h1
          cases hg : H.gray with
          | nil => rw [hg] at h6; exact .inr h6.2
          | cons a r => rw [hg] at h1; left; simpa using h1
        rw [hph, hsub] at hsc
        rcases x with ⟨rfl, rfl, rfl⟩ | ⟨_, rfl⟩
        · have hcol : ¬ (d0.col 1).color = 2 := by simp [Cell.col]
          rw [if_neg hcol] at hsc
          rw [if_neg (show ¬ d0.color = 2 by omega)]
          split at hsc
          · rename_i e
            rcases hhd e.2 e.1 with h' | h'
            · rw [if_pos ⟨e.1, h'⟩]; exact hsc
            · omega
          · omega
        · by_cases e2 : d.color = 2
          · rw [if_pos e2] at hsc ⊢; exact hsc
          · rw [if_neg e2] at hsc ⊢
            split at hsc
            · rename_i e
              rcases hhd e.2 e.1 with h' | h'
              · rw [if_pos ⟨e.1, h'⟩]; exact hsc
              · omega
            · omega
      obtain ⟨b1, b2⟩ := b k p hk this
      exact ⟨fun h => b1 (w_of _ h), fun h => b2 (w_of _ h)⟩
noncomputable def Heap.shadeH (H : Heap) (i : Nat) : Heap := if Marking H ∧ (H.getC i).color = 0 then H.gray1 i (H.getC i) else H
/-- what shading leaves as it was -/
structure Sh (H K : Heap) : Prop where
  sound : Sound H → Sound K
  room : K.room = H.room
  used : K.used = H.used
  born : K.born = H.born
  regs : K.regs = H.regs
  phase : K.phase = H.phase
  hand : K.hand = H.hand
  sub : K.sub = H.sub
  per : K.per = H.per
  start : K.start = H.start
  rounds : K.rounds = H.rounds
  forced : K.forced = H.forced
  len : K.cells.length = H.cells.length
  cell : ∀ j : Int, (K.getC j).state = (H.getC j).state ∧ (K.getC j).pairs = (H.getC j).pairs ∧ (K.getC j).last = (H.getC j).last ∧ ((H.getC j).color ≠ 0 → (K.getC j).color = (H.getC j).color)
  gray : H.gray <+: K.gray
theorem Sh.refl (H : Heap) : Sh H H := ⟨id, rfl, rfl, rfl, rfl, rfl, rfl, rfl, rfl, rfl, rfl, rfl, rfl, fun _ => ⟨rfl, rfl, rfl, fun _ => rfl⟩, List.prefix_refl _⟩
theorem Sh.trans {H K L : Heap} (h : Sh H K) (k : Sh K L) : Sh H L :=
  ⟨fun s => k.sound (h.sound s), k.room.trans h.room, k.used.trans h.used, k.born.trans h.born, k.regs.trans h.regs, k.phase.trans h.phase, k.hand.trans h.hand, k.sub.trans h.sub, k.per.trans h.per, k.start.trans h.start, k.rounds.trans h.rounds, k.forced.trans h.forced, k.len.trans h.len,
   fun j => ⟨(k.cell j).1.trans (h.cell j).1, (k.cell j).2.1.trans (h.cell j).2.1, (k.cell j).2.2.1.trans (h.cell j).2.2.1, fun hc => by
     have := (h.cell j).2.2.2 hc
     rw [(k.cell j).2.2.2 (by rw [this]; exact hc), this]⟩, h.gray.trans k.gray⟩
theorem shadeH_ok {H : Heap} {i : Nat} (hi : i < H.cells.length) (hu : (H.getC i).state = 1) : Sh H (H.shadeH i) ∧ (Marking H → ((H.shadeH i).getC i).color ≠ 0) := by
  unfold Heap.shadeH
  have hc := getL_some (cs := H.cells) (j := i) (by omega) (by omega)
  rw [show ((i : Int)).toNat = i by omega, ← getC_L] at hc
  split
  · rename_i hm
    refine ⟨⟨fun h => gray1_sound h hm.1 hc hu hm.2, rfl, rfl, rfl, rfl, rfl, rfl, rfl, rfl, rfl, rfl, rfl, by simp [Heap.gray1], fun j => ?_, List.prefix_append _ _⟩, fun _ => ?_⟩
    · have e : (H.gray1 i (H.getC i)).getC j = if j.toNat = i then (H.getC i).col 1 else H.getC j := by rw [getC_L, getC_L]; exact getL_set hi
      rw [e]
      split
      · rename_i e
        have : H.getC j = H.getC i := by rw [getC_L, getL_at hc e]
        rw [this]
        exact ⟨rfl, rfl, rfl, fun h => absurd hm.2 h⟩
      · exact ⟨rfl, rfl, rfl, fun _ => rfl⟩
    · have e : (H.gray1 i (H.getC i)).getC i = if ((i : Int)).toNat = i then (H.getC i).col 1 else H.getC i := by rw [getC_L, getC_L]; exact getL_set hi
      rw [e, if_pos (by omega)]; simp [Cell.col]
  · rename_i hm
    exact ⟨Sh.refl H, fun h e => hm ⟨h, e⟩⟩
theorem Sh.white {H K : Heap} (h : Sh H K) {w : Word} (hw : ¬ White H w) : ¬ White K w := fun h' => hw ⟨h'.1, by
  have := h'.2
  by_cases e : (H.getC w.at_).color = 0
  · exact e
  · rw [(h.cell _).2.2.2 e] at this; exact absurd this e⟩
noncomputable def Heap.shadeW (H : Heap) (w : Word) : Heap := if w.kind = 2 then H.shadeH w.at_.toNat else H
theorem shadeW_ok {H : Heap} {w : Word} (hf : Formed H w) (hu : w.kind = 2 → (H.getC w.at_).state = 1) : Sh H (H.shadeW w) ∧ (Marking H → ¬ White (H.shadeW w) w) := by
  unfold Heap.shadeW
  split
  · rename_i hk
    have ha := hf.at hk
    have e : ((w.at_.toNat : Nat) : Int) = w.at_ := by omega
    obtain ⟨a, b⟩ := shadeH_ok (H := H) (i := w.at_.toNat) (by omega) (by rw [e]; exact hu hk)
    refine ⟨a, fun hm hw => b hm ?_⟩
    rw [e]; exact hw.2
  · rename_i hk
    exact ⟨Sh.refl H, fun _ hw => hk hw.1⟩
end Go.Proofs.Ytcmllambknfleaa.E
set_option linter.unusedVariables false
set_option linter.unusedSimpArgs false
namespace Go.Proofs.Ytcmllambknfleaa.E
open Go
open Classical
def Heap.enterH (H : Heap) (p : Int) : Heap := { H with phase := p, hand := if p = 6 then H.cells.length else 0, sub := 0 }
theorem reg_used {H : Heap} (h : R4 H) {w : Word} (hw : w ∈ H.regs) : Formed H w ∧ (w.kind = 2 → (H.getC w.at_).state = 1 ∧ ¬ Doomed H w.at_) := by
  obtain ⟨a, b⟩ := h.regs w hw
  refine ⟨a, fun hk => ?_⟩
  rcases b hk with h | h
  · exact h
  · exact h.2.elim
theorem pair_used {H : Heap} (h : R4 H) {i : Nat} {c : Cell} (hc : H.cells[i]? = some c) {k : Nat} {p : Pair} (hp : c.pairs[k]? = some p) (hm : Mended H i k) (hd : ¬ Doomed H i) {w : Word} (hw : w = p.key ∨ w = p.val) : Formed H w ∧ (w.kind = 2 → (H.getC w.at_).state = 1 ∧ ¬ Doomed H w.at_) := by
  obtain ⟨a, b, g⟩ := h.pairs i c hc k p hp
  obtain ⟨g1, g2⟩ := g hd
  have key : ∀ w, LeadsWell H w (¬ Mended H i k) → (w.kind = 2 → (H.getC w.at_).state = 1 ∧ ¬ Doomed H w.at_) := fun w hw hk => by
    rcases hw hk with h | h
    · exact h
    · exact absurd hm h.2
  rcases hw with rfl | rfl
  · exact ⟨a, key _ g1⟩
  · exact ⟨b, key _ g2⟩
noncomputable def Heap.rootsU (H : Heap) : Heap := if H.hand = H.cells.length then H.enterH 2 else { (if Root (H.getC H.hand) then H.shadeH H.hand.toNat else H) with hand := H.hand + 1 }
theorem enter2_sound {H : Heap} (h : Sound H) (hp : H.phase = 1) (hh : H.hand = H.cells.length) : Sound (H.enterH 2) := by
  have hm : Marking H := .inl hp
  refine ⟨{ h.r1 with phase := by simp [Heap.enterH], hand := by simp [Heap.enterH], sub := by simp [Heap.enterH] }, ⟨fun j d hd => ?_, h.r2.born, h.r2.to⟩, h.r3, ?_, ⟨fun _ => h.r5.mark hm, fun hn => absurd (.inr rfl) hn⟩, ?_, fun _ j d hd => ?_, R8.nil (by simp [Heap.enterH])⟩
  · rcases h.r2.each j d hd with h1 | h1 | h1
    · exact .inl h1
    · have := h1.2.2.1; omega
    · exact .inr (.inr h1)
  · exact r4_frame h.r4 rfl rfl (fun _ => rfl) (fun j => ⟨fun h => by have := h.1; simp [Heap.enterH] at this, fun h => by have := h.1; omega⟩) (same_orig rfl) (fun _ _ _ _ _ _ _ => not_mend (by omega) _ _)
  · exact r6_2s rfl rfl rfl
  · obtain ⟨a, b⟩ := h.r7 hm j d hd
    have hj : j < H.cells.length := (List.getElem?_eq_some_iff.1 hd).1
    refine ⟨fun hr hc => ?_, fun k p hk hs => ?_⟩
    · have := (a hr hc).2; omega
    · refine b k p hk ?_
      unfold scanned at hs ⊢
      split at hs
      · rename_i e; rw [if_pos e]; exact hs
      · split at hs
        · have : (H.enterH 2).sub = 0 := rfl
          omega
        · omega
theorem hand1_sound {H : Heap} (h : Sound H) (hp : H.phase = 1) (hh : H.hand < H.cells.length) (hr : Root (H.getC H.hand) → (H.getC H.hand).color ≠ 0) : Sound { H with hand := H.hand + 1 } := by
  have hm : Marking H := .inl hp
  have h0 := h.r1.hand
  refine ⟨{ h.r1 with hand := by show 0 ≤ H.hand + 1 ∧ H.hand + 1 ≤ H.cells.length; omega }, ⟨fun j d hd => h.r2.each j d hd, h.r2.born, h.r2.to⟩, h.r3, ?_, ⟨fun _ => h.r5.mark hm, fun hn => absurd hm hn⟩, ?_, fun _ j d hd => ?_, R8.nil (by show H.phase ≠ 6; omega)⟩
  · exact r4_frame h.r4 rfl rfl (fun _ => rfl) (fun j => ⟨fun h => by have := h.1; simp only at this; omega, fun h => by have := h.1; omega⟩) (same_orig rfl) (fun _ _ _ _ _ _ _ => not_mend (by omega) _ _)
  · exact (r6_e (by simp only; omega)).2 ((r6_e (H := H) (by omega)).1 h.r6)
  · obtain ⟨a, b⟩ := h.r7 hm j d hd
    refine ⟨fun hr' hc => ⟨(a hr' hc).1, ?_⟩, fun k p hk hs => b k p hk hs⟩
    have h2 := (a hr' hc).2
    have : (j : Int) ≠ H.hand := fun e => by
      rw [← e, getC_nat (H := H) hd] at hr
      exact hr hr' hc
    show H.hand + 1 ≤ j
    omega
theorem rootsU_sound {H : Heap} (h : Sound H) (hp : H.phase = 1) : Sound H.rootsU := by
  unfold Heap.rootsU
  have h0 := h.r1.hand
  by_cases hh : H.hand = H.cells.length
  · rw [if_pos hh]; exact enter2_sound h hp hh
  · rw [if_neg hh]
    by_cases hr : Root (H.getC H.hand)
    · rw [if_pos hr]
      have e : ((H.hand.toNat : Nat) : Int) = H.hand := by omega
      obtain ⟨a, b⟩ := shadeH_ok (H := H) (i := H.hand.toNat) (by omega) (by rw [e]; exact hr.1)
      have := hand1_sound (a.sound h) (by rw [a.phase, hp]) (by rw [a.hand, a.len]; omega) (fun _ => by rw [a.hand]; rw [e] at b; exact b (.inl hp))
      rw [a.hand] at this
      exact this
    · rw [if_neg hr]
      exact hand1_sound h hp (by omega) (fun h' => absurd h' hr)
noncomputable def Heap.shadeL (H : Heap) (ws : List Word) : Heap := ws.foldl Heap.shadeW H
theorem shadeL_ok : ∀ (ws : List Word) (H : Heap), (∀ w, w ∈ ws → Formed H w ∧ (w.kind = 2 → (H.getC w.at_).state = 1)) → Sh H (H.shadeL ws) ∧ (Marking H → ∀ w, w ∈ ws → ¬ White (H.shadeL ws) w)
  | [], H, _ => ⟨Sh.refl H, fun _ w hw => by cases hw⟩
  | w :: r, H, h => by
    obtain ⟨a, b⟩ := shadeW_ok (h w (by simp)).1 (h w (by simp)).2
    obtain ⟨k1, k2⟩ := shadeL_ok r (H.shadeW w) (fun v hv => ⟨formed_len a.len (h v (by simp [hv])).1, fun hk => by rw [(a.cell _).1]; exact (h v (by simp [hv])).2 hk⟩)
    refine ⟨a.trans k1, fun hm v hv => ?_⟩
    have hm' : Marking (H.shadeW w) := by unfold Marking at *; rw [a.phase]; exact hm
    rcases List.mem_cons.1 hv with rfl | hv
    · exact k1.white (b hm)
    · exact k2 hm' v hv
/-- a gray cell whose pairs were gone through -/
def Heap.black (H : Heap) (g : Int) (r : List Int) : Heap := { H with cells := H.cells.set g.toNat ((H.getC g).col 2), gray := r, sub := 0 }
theorem black_sound {H : Heap} {g : Int} {r : List Int} (h : Sound H) (hp : H.phase = 2) (hg : H.gray = g :: r) (hs : (H.getC g).pairs.length ≤ H.sub) : Sound (H.black g r) := by
  have hm : Marking H := .inr hp
  obtain ⟨g1, g2, g3⟩ := h.r5.mark hm
  obtain ⟨b0, b1, b2, b3⟩ := g2 g (by rw [hg]; simp)
  have hc := getL_some (cs := H.cells) b0 b1
  rw [← getC_L] at hc
  have hlt := (List.getElem?_eq_some_iff.1 hc).1
  have e1 : (H.black g r).cells = H.cells.set g.toNat ((H.getC g).col 2) := rfl
  have hcs := fun j => col_state hc e1 j
  have gC : ∀ j : Int, (H.black g r).getC j = if j.toNat = g.toNat then (H.getC g).col 2 else H.getC j := fun j => by
    rw [getC_L, getC_L]; exact getL_set hlt
  rw [hg] at g1 g2 g3
  have hgr := List.nodup_cons.1 g1
  have hl : (H.black g r).cells.length = H.cells.length := by simp [Heap.black]
  have w_of : ∀ w, White (H.black g r) w → White H w := fun w hw' => by
    refine ⟨hw'.1, ?_⟩
    have := hw'.2
    rw [gC] at this
    split at this
    · simp [Cell.col] at this
    · exact this
  refine ⟨{ h.r1 with cells := by rw [hl]; exact h.r1.cells, hand := by rw [hl]; exact h.r1.hand, gray := ?_, sub := by simp [Heap.black] }, col_r2 h.r2 hc b2 (by omega) e1 rfl rfl, col_r3 h.r3 hc e1 rfl rfl, ?_, ⟨fun _ => ⟨hgr.2, fun a ha => ?_, fun j d hd hdc => ?_⟩, fun hn => absurd hm hn⟩, ?_, fun _ j d hd => ?_, R8.nil (by show H.phase ≠ 6; omega)⟩
  · have := h.r1.gray
    rw [hg] at this
    rw [hl]; simp only [List.length_cons] at this
    show r.length ≤ _
    omega
  · exact r4_frame h.r4 hl rfl (fun j => (hcs j).1) (fun j => ⟨fun h => by have : H.phase = 3 := h.1; omega, fun h => by have := h.1; omega⟩) (col_orig hc e1) (fun _ _ _ _ _ _ _ => not_mend (by omega) _ _)
  · obtain ⟨a0, a1, a2, a3⟩ := g2 a (by simp only [List.mem_cons]; exact .inr ha)
    have hne : a.toNat ≠ g.toNat := fun e => hgr.1 (by rw [show g = a by omega]; exact ha)
    refine ⟨a0, by rw [hl]; exact a1, ?_⟩
    rw [gC, if_neg hne]; exact ⟨a2, a3⟩
  · obtain ⟨d0, hd0, ⟨rfl, rfl, rfl⟩ | ⟨hne, rfl⟩⟩ := orig hc hd
    · simp [Cell.col] at hdc
    · rcases List.mem_cons.1 (g3 j d hd0 hdc) with h | h
      · omega
      · exact h
  · exact r6_2s hp ((r6_2 hp).1 h.r6).1 rfl
  · obtain ⟨d0, hd0, x⟩ := orig hc hd
    obtain ⟨a, b⟩ := h.r7 hm j d0 hd0
    refine ⟨fun hr hcol => ?_, fun k p hk hsc => ?_⟩
    · rcases x with ⟨rfl, rfl, rfl⟩ | ⟨_, rfl⟩
      · simp [Cell.col] at hcol
      · exact a hr hcol
    · have hpr : d.pairs = d0.pairs := by rcases x with ⟨_, rfl, rfl⟩ | ⟨_, rfl⟩ <;> rfl
      rw [hpr] at hk
      have hsc2 : (k : Int) < scanned H j d0 := by
        unfold scanned at hsc ⊢
        rcases x with ⟨rfl, rfl, rfl⟩ | ⟨_, rfl⟩
        · have hkl := (List.getElem?_eq_some_iff.1 hk).1
          rw [if_neg (by omega), if_pos ⟨hp, by rw [hg]; simp; omega⟩]
          omega
        · split at hsc
          · rename_i e; rw [if_pos e]; exact hsc
          · split at hsc
            · have : (H.black g r).sub = 0 := rfl
              omega
            · omega
      obtain ⟨b1, b2⟩ := b k p hk hsc2
      exact ⟨fun h => b1 (w_of _ h), fun h => b2 (w_of _ h)⟩
/-- one more pair gone through -/
theorem sub1_sound {H : Heap} {g : Int} {r : List Int} {p : Pair} (h : Sound H) (hp : H.phase = 2) (hg : H.gray = g :: r) (hs : (H.getC g).pairs[H.sub.toNat]? = some p) (hk : ¬ White H p.key) (hv : ¬ White H p.val) : Sound { H with sub := H.sub + 1 } := by
  have hm : Marking H := .inr hp
  obtain ⟨g1, g2, g3⟩ := h.r5.mark hm
  obtain ⟨b0, b1, b2, b3⟩ := g2 g (by rw [hg]; simp)
  have hc := getL_some (cs := H.cells) b0 b1
  rw [← getC_L] at hc
  have hlt := (List.getElem?_eq_some_iff.1 hs).1
  have h0 := h.r1.sub
  have hpl := (h.r2.used hc b2).2.2.2.2.2.2.2
  refine ⟨{ h.r1 with sub := by show 0 ≤ H.sub + 1 ∧ H.sub + 1 ≤ 200; omega }, ⟨fun j d hd => h.r2.each j d hd, h.r2.born, h.r2.to⟩, h.r3, ?_, ⟨fun _ => h.r5.mark hm, fun hn => absurd hm hn⟩, ?_, fun _ j d hd => ?_, R8.nil (by show H.phase ≠ 6; omega)⟩
  · exact r4_frame h.r4 rfl rfl (fun _ => rfl) (fun j => ⟨fun h => by have : H.phase = 3 := h.1; omega, fun h => by have := h.1; omega⟩) (same_orig rfl) (fun _ _ _ _ _ _ _ => not_mend (by omega) _ _)
  · have h6 := (r6_2 hp).1 h.r6
    refine (r6_2 (H := { H with sub := H.sub + 1 }) hp).2 ⟨h6.1, ?_⟩
    show match H.gray with | [] => H.sub + 1 = 0 | g :: _ => H.sub + 1 ≤ ((H.getC g).pairs.length : Int)
    rw [hg]
    show H.sub + 1 ≤ ((H.getC g).pairs.length : Int)
    omega
  · obtain ⟨a, b⟩ := h.r7 hm j d hd
    refine ⟨fun hr' hc => a hr' hc, fun k q hq hsc => ?_⟩
    by_cases hlt2 : (k : Int) < scanned H j d
    · exact b k q hq hlt2
    · unfold scanned at hsc hlt2
      by_cases e : d.color = 2
      · rw [if_pos e] at hsc hlt2; exact absurd hsc hlt2
      · rw [if_neg e] at hsc hlt2
        by_cases e2 : H.phase = 2 ∧ H.gray.head? = some (j : Int)
        · rw [if_pos e2] at hsc hlt2
          have e3 : g = j := by have := e2.2; rw [hg] at this; simpa using this
          rw [e3, getC_nat (H := H) hd] at hs
          simp only at hsc
          have : H.sub.toNat = k := by omega
          rw [this, hq] at hs
          cases hs
          exact ⟨hk, hv⟩
        · rw [if_neg e2] at hsc; omega
theorem enter3_sound {H : Heap} (h : Sound H) (hp : H.phase = 2) (hg : H.gray = []) (hw : ∀ w, w ∈ H.regs → ¬ White H w) : Sound (H.enterH 3) := by
  have hm : Marking H := .inr hp
  obtain ⟨_, _, g3⟩ := h.r5.mark hm
  rw [hg] at g3
  have nd : ∀ i, ¬ Doomed H i := fun i => not_doom (by omega) i
  refine ⟨{ h.r1 with phase := by simp [Heap.enterH], hand := by simp [Heap.enterH], sub := by simp [Heap.enterH] }, ⟨fun j d hd => ?_, h.r2.born, h.r2.to⟩, h.r3, ⟨fun w hwr => ?_, fun i c hc hd hr => ?_, fun i c hc k p hk => ?_⟩, ⟨fun hn => ?_, fun _ => ⟨hg, fun i c hc => ?_⟩⟩, ?_, R7.nil ?_, R8.nil (by simp [Heap.enterH])⟩
  · rcases h.r2.each j d hd with h1 | h1 | h1
    · exact .inl h1
    · have := h1.2.2.1; omega
    · exact .inr (.inr h1)
  · obtain ⟨a, b⟩ := reg_used h.r4 hwr
    exact ⟨a, fun hk => .inl ⟨(b hk).1, fun hd => hw w hwr ⟨hk, hd.2.2.1⟩⟩⟩
  · have hcol : c.color = 0 := by have := hd.2.2.1; rw [← getC_nat hc]; exact this
    have := (h.r7 hm i c hc).1 hr hcol
    exact this.1 hp
  · obtain ⟨a, b, _⟩ := h.r4.pairs i c hc k p hk
    refine ⟨a, b, fun hn => ?_⟩
    have hu : c.state = 1 := by
      rcases Decidable.em (c.state = 1) with e | e
      · exact e
      · have := (h.r2.bare hc e).2.2.2.2.2; rw [this] at hk; simp at hk
    have hcol : c.color = 2 := by
      have h1 : c.color ≠ 0 := fun e => hn ⟨rfl, by show (H.getC i).state = 1; rw [getC_nat (H := H) hc]; exact hu, by show (H.getC i).color = 0; rw [getC_nat (H := H) hc]; exact e, by show (0 : Int) ≤ i; omega⟩
      have h2 : c.color ≠ 1 := fun e => by have := g3 i c hc e; cases this
      have h3 := (h.r2.used hc hu).2.2.2.2.2.1
      omega
    have hkl := (List.getElem?_eq_some_iff.1 hk).1
    obtain ⟨w1, w2⟩ := (h.r7 hm i c hc).2 k p hk (by unfold scanned; rw [if_pos hcol]; omega)
    have m := fun w hw => (pair_used h.r4 hc hk (not_mend (by omega) _ _) (nd i) (w := w) hw).2
    exact ⟨fun hk => .inl ⟨(m p.key (.inl rfl) hk).1, fun hd => w1 ⟨hk, hd.2.2.1⟩⟩, fun hk => .inl ⟨(m p.val (.inr rfl) hk).1, fun hd => w2 ⟨hk, hd.2.2.1⟩⟩⟩
  · rcases hn with e | e <;> simp [Heap.enterH] at e
  · exact ⟨fun e => absurd (g3 i c hc e) (by simp), fun _ => ⟨rfl, by show (0 : Int) ≤ i; omega⟩⟩
  · exact (r6_e (by simp [Heap.enterH])).2 rfl
  · rintro (e | e) <;> simp [Heap.enterH] at e
noncomputable def Heap.markU (H : Heap) : Heap := match H.gray with
  | g :: r => match (H.getC g).pairs[H.sub.toNat]? with
    | some p => { (H.shadeW p.key).shadeW p.val with sub := H.sub + 1 }
    | none => H.black g r
  | [] => if ∃ w, w ∈ H.regs ∧ White H w then H.shadeL H.regs else H.enterH 3
theorem markP {H : Heap} {g : Int} {r : List Int} {p : Pair} (h : Sound H) (hp : H.phase = 2) (hg : H.gray = g :: r) (hs : (H.getC g).pairs[H.sub.toNat]? = some p) :
    (Formed H p.key ∧ (p.key.kind = 2 → (H.getC p.key.at_).state = 1)) ∧ Formed H p.val ∧ (p.val.kind = 2 → (H.getC p.val.at_).state = 1) := by
  obtain ⟨g1, g2, g3⟩ := h.r5.mark (.inr hp)
  obtain ⟨b0, b1, b2, b3⟩ := g2 g (by rw [hg]; simp)
  have hc := getL_some (cs := H.cells) b0 b1
  rw [← getC_L] at hc
  have m := fun w hw => pair_used h.r4 hc hs (not_mend (by omega) _ _) (not_doom (by omega) _) (w := w) hw
  exact ⟨⟨(m _ (.inl rfl)).1, fun hk => ((m _ (.inl rfl)).2 hk).1⟩, (m _ (.inr rfl)).1, fun hk => ((m _ (.inr rfl)).2 hk).1⟩
theorem markP2 {H : Heap} {g : Int} {r : List Int} {p : Pair} (h : Sound H) (hp : H.phase = 2) (hg : H.gray = g :: r) (hs : (H.getC g).pairs[H.sub.toNat]? = some p) :
    Sh H ((H.shadeW p.key).shadeW p.val) ∧ ¬ White ((H.shadeW p.key).shadeW p.val) p.key ∧ ¬ White ((H.shadeW p.key).shadeW p.val) p.val := by
  have hm : Marking H := .inr hp
  obtain ⟨⟨k1, k2⟩, v1, v2⟩ := markP h hp hg hs
  obtain ⟨a, b⟩ := shadeW_ok k1 k2
  obtain ⟨c, d⟩ := shadeW_ok (H := H.shadeW p.key) (w := p.val) (formed_len a.len v1) (fun hk => by rw [(a.cell _).1]; exact v2 hk)
  exact ⟨a.trans c, c.white (b hm), d (by unfold Marking at *; rw [a.phase]; exact hm)⟩
theorem markU_sound {H : Heap} (h : Sound H) (hp : H.phase = 2) : Sound H.markU := by
  have hm : Marking H := .inr hp
  unfold Heap.markU
  cases hg : H.gray with
  | nil =>
    simp only
    have hr := fun w hw => reg_used h.r4 (w := w) hw
    by_cases hx : ∃ w, w ∈ H.regs ∧ White H w
    · rw [if_pos hx]
      exact (shadeL_ok H.regs H (fun w hw => ⟨(hr w hw).1, fun hk => ((hr w hw).2 hk).1⟩)).1.sound h
    · rw [if_neg hx]
      exact enter3_sound h hp hg (fun w hw h' => hx ⟨w, hw, h'⟩)
  | cons g r =>
    simp only
    cases hs : (H.getC g).pairs[H.sub.toNat]? with
    | none =>
      simp only
      have := List.getElem?_eq_none_iff.1 hs
      have h0 := h.r1.sub
      exact black_sound h hp hg (by omega)
    | some p =>
      simp only
      obtain ⟨a, b, c⟩ := markP2 h hp hg hs
      obtain ⟨r', hr'⟩ := a.gray
      rw [hg] at hr'
      have := sub1_sound (g := g) (r := r ++ r') (p := p) (a.sound h) (by rw [a.phase, hp]) (by rw [← hr']; rfl) (by rw [(a.cell g).2.1, a.sub]; exact hs) b c
      rw [a.sub] at this
      exact this
end Go.Proofs.Ytcmllambknfleaa.E
