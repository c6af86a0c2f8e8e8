/- A part of the proof. Conditions: none. -/
import Derived.Test.YtcmllambknfleaaKF3
set_option linter.unusedVariables false
set_option linter.unusedSimpArgs false
set_option maxRecDepth 100000
namespace Go.Proofs.Ytcmllambknfleaa.E
open Go
open Classical
def wa (w : Word) : Value := .agg (wv w).toArray
def pa (p : Pair) : Value := .agg (pv p).toArray
def ca (x : CS) : Value := .agg (csv x).toArray
def aa (a : Act) : Value := .agg (av a).toArray
theorem eqWord_q {M : Mem} {a b : Word} : Qt Try.prog 37 [wa a, wa b] M (.bool (decide (a = b))) := by
  refine fn37 (by simp) ?_
  repeat' (first
    | (refine vl_pure rfl ?_)
    | (refine vl_nil ?_)
    | (refine VC.seq ?_)
    | (refine VC.regV ?_)
    | (refine vl_box rfl rfl ?_)
    | (refine VC.ret ?_)
    | (refine VC.skip ?_)
    | (refine seqQ_n ?_)
    | (refine seqQ_r ?_)
    | (refine VC.cond _ rfl (fun hb => ?_) (fun hb => ?_)))
  all_goals (refine fnQ_r rfl (Mem.le_refl _) (q_end ?_))
  all_goals (cases a; cases b; simp_all)
theorem eqPair_q {M : Mem} {a b : Pair} : Qt Try.prog 176 [pa a, pa b] M (.bool (decide (a = b))) := by
  refine fn176 (by simp) ?_
  repeat' (first
    | (refine vl_pure rfl ?_)
    | (refine vl_nil ?_)
    | (refine VC.seq ?_)
    | (refine VC.regV ?_)
    | (refine vl_box rfl rfl ?_)
    | (refine vl_cq rfl (eqWord_q (a := a.key) (b := b.key)) ?_)
    | (refine vl_cq rfl (eqWord_q (a := a.val) (b := b.val)) ?_)
    | (refine VC.ret ?_)
    | (refine VC.skip ?_)
    | (refine seqQ_n ?_)
    | (refine seqQ_r ?_)
    | (refine VC.cond _ rfl (fun hb => ?_) (fun hb => ?_)))
  all_goals (refine fnQ_r rfl (Mem.le_refl _) (q_end ?_))
  all_goals (cases a; cases b; simp_all)
theorem eqWordS_q {M : Mem} {va vb : Value} {xs ys : List Word} (ha : Sl M 3 wv va xs) (hb : Sl M 3 wv vb ys) : Qt Try.prog 72 [va, vb] M (.bool (decide (xs = ys))) := by
  obtain ⟨aa, ca, ea⟩ := ha.len
  obtain ⟨ab, cb, eb⟩ := hb.len
  refine fn72 (by simp) ?_
  subst ea; subst eb
  repeat' (first
    | (refine vl_pure rfl ?_)
    | (refine vl_nil ?_)
    | (refine VC.seq ?_)
    | (refine VC.regV ?_)
    | (refine seqQ_n ?_))
  refine VC.cond _ rfl (fun h => ?_) (fun h => ?_)
  · repeat' (first
      | (refine vl_pure rfl ?_)
      | (refine vl_nil ?_)
      | (refine VC.seq ?_)
      | (refine VC.regV ?_)
      | (refine VC.ret ?_)
      | (refine seqQ_r ?_))
    refine fnQ_r rfl (Mem.le_refl _) (q_end ?_)
    have : xs ≠ ys := fun e => by have e2 := congrArg List.length e; first | (simp only [List.length_map] at e2; simp [e2] at h) | (simp [e2] at h)
    simp [this]
  have hbd := ha.bound
  have hl : xs.length = ys.length := Int.ofNat_inj.1 (by simpa using h)
  repeat' (first
    | (refine vl_pure rfl ?_)
    | (refine vl_nil ?_)
    | (refine VC.seq ?_)
    | (refine VC.regV ?_)
    | (refine VC.block ?_)
    | (refine VC.skip ?_))
  refine VC.loop (α := Nat) (fun i => [(0, .v (.slice aa xs.length ca)), (1, .v (.slice ab ys.length cb)), (5, .v (.int .i64 i))]) (fun k i M' => k = xs.length - i ∧ i ≤ xs.length ∧ M' = M ∧ xs.take i = ys.take i)
    ⟨_, 0, M, ⟨rfl, rfl, rfl, trivial⟩, Mem.le_refl _, rfl, Nat.zero_le _, rfl, by simp⟩ ?_
  rintro k i M' ⟨rfl, hi, rfl, hpre⟩
  repeat' (first
    | (refine vl_pure rfl ?_)
    | (refine vl_nil ?_)
    | (refine VC.seq ?_)
    | (refine VC.regV ?_)
    | (refine seqQ_n ?_))
  refine VC.cond _ rfl (fun h => ?_) (fun h => ?_)
  · have hi : i < xs.length := by simpa using h
    obtain ⟨x, gx⟩ : ∃ x, xs[i]? = some x := ⟨_, List.getElem?_eq_getElem hi⟩
    obtain ⟨y, gy⟩ : ∃ y, ys[i]? = some y := ⟨_, List.getElem?_eq_getElem (hl ▸ hi)⟩
    obtain ⟨b1, o1, rfl, h1⟩ := ha.at2 (fun _ => rfl) gx
    obtain ⟨b2, o2, rfl, h2⟩ := hb.at2 (fun _ => rfl) gy
    repeat' (first
      | (refine vl_pure rfl ?_)
      | (refine vl_nil ?_)
      | (refine VC.seq ?_)
      | (refine vl_idx rfl rfl (by omega) ?_)
      | (refine vl_lds rfl (by first | exact h1 | exact h2) ?_)
      | (refine vl_q rfl (eqWord_q) ?_)
      | (refine VC.dregV ?_)
      | (refine VC.block ?_)
      | (refine VC.skip ?_)
      | (refine seqQ_n ?_))
    refine VC.cond _ rfl (fun h => ?_) (fun h => ?_)
    · repeat' (first
        | (refine vl_pure rfl ?_)
        | (refine vl_nil ?_)
        | (refine VC.seq ?_)
        | (refine VC.regV ?_)
        | (refine VC.ret ?_)
        | (refine seqQ_r ?_)
        | (refine blkQ_r ?_))
      refine fnQ_r rfl (Mem.le_refl _) (q_end ?_)
      have : xs ≠ ys := fun e => by subst e; rw [gx] at gy; cases gy; simp at h
      simp [this]
    · have hxy : x = y := by simpa using h
      repeat' (first
        | (refine vl_add rfl rfl (by omega) ?_)
        | (refine vl_pure rfl ?_)
        | (refine vl_nil ?_)
        | (refine VC.regV ?_)
        | (refine VC.skip ?_)
        | (refine seqQ_n ?_))
      refine ⟨_, i + 1, _, ?_, ⟨rfl, rfl, rfl, trivial⟩, Mem.le_refl _, rfl, hi, rfl, ?_⟩
      · omega
      · rw [List.take_add_one, List.take_add_one, hpre, gx, gy, hxy]
  · have hi : ¬ i < xs.length := by simpa using h
    repeat' (first
      | (refine vl_pure rfl ?_)
      | (refine vl_nil ?_)
      | (refine VC.seq ?_)
      | (refine VC.regV ?_)
      | (refine VC.ret ?_)
      | (refine VC.exit ?_))
    refine fnQ_r rfl (Mem.le_refl _) (q_end ?_)
    have hxy : xs = ys := by
      have e : i = xs.length := by omega
      subst e
      rw [List.take_of_length_le (by simp), List.take_of_length_le (by simp [hl])] at hpre
      exact hpre
    simp [hxy]

theorem eqPairS_q {M : Mem} {va vb : Value} {xs ys : List Pair} (ha : Sl M 6 pv va xs) (hb : Sl M 6 pv vb ys) : Qt Try.prog 163 [va, vb] M (.bool (decide (xs = ys))) := by
  obtain ⟨aa, ca, ea⟩ := ha.len
  obtain ⟨ab, cb, eb⟩ := hb.len
  refine fn163 (by simp) ?_
  subst ea; subst eb
  repeat' (first
    | (refine vl_pure rfl ?_)
    | (refine vl_nil ?_)
    | (refine VC.seq ?_)
    | (refine VC.regV ?_)
    | (refine seqQ_n ?_))
  refine VC.cond _ rfl (fun h => ?_) (fun h => ?_)
  · repeat' (first
      | (refine vl_pure rfl ?_)
      | (refine vl_nil ?_)
      | (refine VC.seq ?_)
      | (refine VC.regV ?_)
      | (refine VC.ret ?_)
      | (refine seqQ_r ?_))
    refine fnQ_r rfl (Mem.le_refl _) (q_end ?_)
    have : xs ≠ ys := fun e => by have e2 := congrArg List.length e; first | (simp only [List.length_map] at e2; simp [e2] at h) | (simp [e2] at h)
    simp [this]
  have hbd := ha.bound
  have hl : xs.length = ys.length := Int.ofNat_inj.1 (by simpa using h)
  repeat' (first
    | (refine vl_pure rfl ?_)
    | (refine vl_nil ?_)
    | (refine VC.seq ?_)
    | (refine VC.regV ?_)
    | (refine VC.block ?_)
    | (refine VC.skip ?_))
  refine VC.loop (α := Nat) (fun i => [(0, .v (.slice aa xs.length ca)), (1, .v (.slice ab ys.length cb)), (5, .v (.int .i64 i))]) (fun k i M' => k = xs.length - i ∧ i ≤ xs.length ∧ M' = M ∧ xs.take i = ys.take i)
    ⟨_, 0, M, ⟨rfl, rfl, rfl, trivial⟩, Mem.le_refl _, rfl, Nat.zero_le _, rfl, by simp⟩ ?_
  rintro k i M' ⟨rfl, hi, rfl, hpre⟩
  repeat' (first
    | (refine vl_pure rfl ?_)
    | (refine vl_nil ?_)
    | (refine VC.seq ?_)
    | (refine VC.regV ?_)
    | (refine seqQ_n ?_))
  refine VC.cond _ rfl (fun h => ?_) (fun h => ?_)
  · have hi : i < xs.length := by simpa using h
    obtain ⟨x, gx⟩ : ∃ x, xs[i]? = some x := ⟨_, List.getElem?_eq_getElem hi⟩
    obtain ⟨y, gy⟩ : ∃ y, ys[i]? = some y := ⟨_, List.getElem?_eq_getElem (hl ▸ hi)⟩
    obtain ⟨b1, o1, rfl, h1⟩ := ha.at2 (fun _ => rfl) gx
    obtain ⟨b2, o2, rfl, h2⟩ := hb.at2 (fun _ => rfl) gy
    repeat' (first
      | (refine vl_pure rfl ?_)
      | (refine vl_nil ?_)
      | (refine VC.seq ?_)
      | (refine vl_idx rfl rfl (by omega) ?_)
      | (refine vl_lds rfl (by first | exact h1 | exact h2) ?_)
      | (refine vl_q rfl (eqPair_q) ?_)
      | (refine VC.dregV ?_)
      | (refine VC.block ?_)
      | (refine VC.skip ?_)
      | (refine seqQ_n ?_))
    refine VC.cond _ rfl (fun h => ?_) (fun h => ?_)
    · repeat' (first
        | (refine vl_pure rfl ?_)
        | (refine vl_nil ?_)
        | (refine VC.seq ?_)
        | (refine VC.regV ?_)
        | (refine VC.ret ?_)
        | (refine seqQ_r ?_)
        | (refine blkQ_r ?_))
      refine fnQ_r rfl (Mem.le_refl _) (q_end ?_)
      have : xs ≠ ys := fun e => by subst e; rw [gx] at gy; cases gy; simp at h
      simp [this]
    · have hxy : x = y := by simpa using h
      repeat' (first
        | (refine vl_add rfl rfl (by omega) ?_)
        | (refine vl_pure rfl ?_)
        | (refine vl_nil ?_)
        | (refine VC.regV ?_)
        | (refine VC.skip ?_)
        | (refine seqQ_n ?_))
      refine ⟨_, i + 1, _, ?_, ⟨rfl, rfl, rfl, trivial⟩, Mem.le_refl _, rfl, hi, rfl, ?_⟩
      · omega
      · rw [List.take_add_one, List.take_add_one, hpre, gx, gy, hxy]
  · have hi : ¬ i < xs.length := by simpa using h
    repeat' (first
      | (refine vl_pure rfl ?_)
      | (refine vl_nil ?_)
      | (refine VC.seq ?_)
      | (refine VC.regV ?_)
      | (refine VC.ret ?_)
      | (refine VC.exit ?_))
    refine fnQ_r rfl (Mem.le_refl _) (q_end ?_)
    have hxy : xs = ys := by
      have e : i = xs.length := by omega
      subst e
      rw [List.take_of_length_le (by simp), List.take_of_length_le (by simp [hl])] at hpre
      exact hpre
    simp [hxy]

theorem eqIntS_q {M : Mem} {va vb : Value} {xs ys : List Int} (ha : Sl M 1 iv va xs) (hb : Sl M 1 iv vb ys) : Qt Try.prog 74 [va, vb] M (.bool (decide (xs = ys))) := by
  obtain ⟨aa, ca, ea⟩ := ha.len
  obtain ⟨ab, cb, eb⟩ := hb.len
  refine fn74 (by simp) ?_
  subst ea; subst eb
  repeat' (first
    | (refine vl_pure rfl ?_)
    | (refine vl_nil ?_)
    | (refine VC.seq ?_)
    | (refine VC.regV ?_)
    | (refine seqQ_n ?_))
  refine VC.cond _ rfl (fun h => ?_) (fun h => ?_)
  · repeat' (first
      | (refine vl_pure rfl ?_)
      | (refine vl_nil ?_)
      | (refine VC.seq ?_)
      | (refine VC.regV ?_)
      | (refine VC.ret ?_)
      | (refine seqQ_r ?_))
    refine fnQ_r rfl (Mem.le_refl _) (q_end ?_)
    have : xs ≠ ys := fun e => by have e2 := congrArg List.length e; first | (simp only [List.length_map] at e2; simp [e2] at h) | (simp [e2] at h)
    simp [this]
  have hbd := ha.bound
  have hl : xs.length = ys.length := Int.ofNat_inj.1 (by simpa using h)
  repeat' (first
    | (refine vl_pure rfl ?_)
    | (refine vl_nil ?_)
    | (refine VC.seq ?_)
    | (refine VC.regV ?_)
    | (refine VC.block ?_)
    | (refine VC.skip ?_))
  refine VC.loop (α := Nat) (fun i => [(0, .v (.slice aa xs.length ca)), (1, .v (.slice ab ys.length cb)), (5, .v (.int .i64 i))]) (fun k i M' => k = xs.length - i ∧ i ≤ xs.length ∧ M' = M ∧ xs.take i = ys.take i)
    ⟨_, 0, M, ⟨rfl, rfl, rfl, trivial⟩, Mem.le_refl _, rfl, Nat.zero_le _, rfl, by simp⟩ ?_
  rintro k i M' ⟨rfl, hi, rfl, hpre⟩
  repeat' (first
    | (refine vl_pure rfl ?_)
    | (refine vl_nil ?_)
    | (refine VC.seq ?_)
    | (refine VC.regV ?_)
    | (refine seqQ_n ?_))
  refine VC.cond _ rfl (fun h => ?_) (fun h => ?_)
  · have hi : i < xs.length := by simpa using h
    obtain ⟨x, gx⟩ : ∃ x, xs[i]? = some x := ⟨_, List.getElem?_eq_getElem hi⟩
    obtain ⟨y, gy⟩ : ∃ y, ys[i]? = some y := ⟨_, List.getElem?_eq_getElem (hl ▸ hi)⟩
    obtain ⟨b1, o1, rfl, h1⟩ := ha.at2 (fun _ => rfl) gx
    obtain ⟨b2, o2, rfl, h2⟩ := hb.at2 (fun _ => rfl) gy
    repeat' (first
      | (refine vl_pure rfl ?_)
      | (refine vl_ld rfl (by first | exact cells_cell h1 (j := 0) rfl | exact cells_cell h2 (j := 0) rfl) ?_)
      | (refine vl_nil ?_)
      | (refine VC.seq ?_)
      | (refine vl_idx rfl rfl (by omega) ?_)
      | (refine VC.dregV ?_)
      | (refine VC.block ?_)
      | (refine VC.skip ?_)
      | (refine seqQ_n ?_))
    refine VC.cond _ rfl (fun h => ?_) (fun h => ?_)
    · repeat' (first
        | (refine vl_pure rfl ?_)
        | (refine vl_nil ?_)
        | (refine VC.seq ?_)
        | (refine VC.regV ?_)
        | (refine VC.ret ?_)
        | (refine seqQ_r ?_)
        | (refine blkQ_r ?_))
      refine fnQ_r rfl (Mem.le_refl _) (q_end ?_)
      have : xs ≠ ys := fun e => by subst e; rw [gx] at gy; cases gy; simp at h
      simp [this]
    · have hxy : x = y := by simpa using h
      repeat' (first
        | (refine vl_add rfl rfl (by omega) ?_)
        | (refine vl_pure rfl ?_)
        | (refine vl_nil ?_)
        | (refine VC.regV ?_)
        | (refine VC.skip ?_)
        | (refine seqQ_n ?_))
      refine ⟨_, i + 1, _, ?_, ⟨rfl, rfl, rfl, trivial⟩, Mem.le_refl _, rfl, hi, rfl, ?_⟩
      · omega
      · rw [List.take_add_one, List.take_add_one, hpre, gx, gy, hxy]
  · have hi : ¬ i < xs.length := by simpa using h
    repeat' (first
      | (refine vl_pure rfl ?_)
      | (refine vl_nil ?_)
      | (refine VC.seq ?_)
      | (refine VC.regV ?_)
      | (refine VC.ret ?_)
      | (refine VC.exit ?_))
    refine fnQ_r rfl (Mem.le_refl _) (q_end ?_)
    have hxy : xs = ys := by
      have e : i = xs.length := by omega
      subst e
      rw [List.take_of_length_le (by simp), List.take_of_length_le (by simp [hl])] at hpre
      exact hpre
    simp [hxy]

theorem eqCell_q {M : Mem} {a b : CS} (ga : Sl M 6 pv a.s a.c.pairs) (gb : Sl M 6 pv b.s b.c.pairs) : Qt Try.prog 130 [ca a, ca b] M (.bool (decide (a.c = b.c))) := by
  refine fn130 (by simp) ?_
  repeat' (first
    | (refine vl_pure rfl ?_)
    | (refine vl_nil ?_)
    | (refine VC.seq ?_)
    | (refine VC.regV ?_)
    | (refine vl_box rfl rfl ?_)
    | (refine vl_cq rfl (eqPairS_q ga gb) ?_)
    | (refine VC.ret ?_)
    | (refine VC.skip ?_)
    | (refine seqQ_n ?_)
    | (refine seqQ_r ?_)
    | (refine VC.cond _ rfl (fun hb => ?_) (fun hb => ?_)))
  all_goals (refine fnQ_r rfl (Mem.le_refl _) (q_end ?_))
  all_goals (obtain ⟨⟨⟩, _, _⟩ := a; obtain ⟨⟨⟩, _, _⟩ := b; simp_all)
theorem eqCellS_q {M : Mem} {va vb : Value} {xs ys : List CS} (ha : Sl M 8 csv va xs) (hb : Sl M 8 csv vb ys) (hx : ∀ x, x ∈ xs → Sl M 6 pv x.s x.c.pairs) (hy : ∀ x, x ∈ ys → Sl M 6 pv x.s x.c.pairs) : Qt Try.prog 73 [va, vb] M (.bool (decide (xs.map (·.c) = ys.map (·.c)))) := by
  obtain ⟨aa, ca, ea⟩ := ha.len
  obtain ⟨ab, cb, eb⟩ := hb.len
  refine fn73 (by simp) ?_
  subst ea; subst eb
  repeat' (first
    | (refine vl_pure rfl ?_)
    | (refine vl_nil ?_)
    | (refine VC.seq ?_)
    | (refine VC.regV ?_)
    | (refine seqQ_n ?_))
  refine VC.cond _ rfl (fun h => ?_) (fun h => ?_)
  · repeat' (first
      | (refine vl_pure rfl ?_)
      | (refine vl_nil ?_)
      | (refine VC.seq ?_)
      | (refine VC.regV ?_)
      | (refine VC.ret ?_)
      | (refine seqQ_r ?_))
    refine fnQ_r rfl (Mem.le_refl _) (q_end ?_)
    have : xs.map (·.c) ≠ ys.map (·.c) := fun e => by have e2 := congrArg List.length e; first | (simp only [List.length_map] at e2; simp [e2] at h) | (simp [e2] at h)
    simp [this]
  have hbd := ha.bound
  have hl : xs.length = ys.length := Int.ofNat_inj.1 (by simpa using h)
  repeat' (first
    | (refine vl_pure rfl ?_)
    | (refine vl_nil ?_)
    | (refine VC.seq ?_)
    | (refine VC.regV ?_)
    | (refine VC.block ?_)
    | (refine VC.skip ?_))
  refine VC.loop (α := Nat) (fun i => [(0, .v (.slice aa xs.length ca)), (1, .v (.slice ab ys.length cb)), (5, .v (.int .i64 i))]) (fun k i M' => k = xs.length - i ∧ i ≤ xs.length ∧ M' = M ∧ (xs.map (·.c)).take i = (ys.map (·.c)).take i)
    ⟨_, 0, M, ⟨rfl, rfl, rfl, trivial⟩, Mem.le_refl _, rfl, Nat.zero_le _, rfl, by simp⟩ ?_
  rintro k i M' ⟨rfl, hi, rfl, hpre⟩
  repeat' (first
    | (refine vl_pure rfl ?_)
    | (refine vl_nil ?_)
    | (refine VC.seq ?_)
    | (refine VC.regV ?_)
    | (refine seqQ_n ?_))
  refine VC.cond _ rfl (fun h => ?_) (fun h => ?_)
  · have hi : i < xs.length := by simpa using h
    obtain ⟨x, gx⟩ : ∃ x, xs[i]? = some x := ⟨_, List.getElem?_eq_getElem hi⟩
    obtain ⟨y, gy⟩ : ∃ y, ys[i]? = some y := ⟨_, List.getElem?_eq_getElem (hl ▸ hi)⟩
    obtain ⟨b1, o1, rfl, h1⟩ := ha.at2 (fun _ => rfl) gx
    obtain ⟨b2, o2, rfl, h2⟩ := hb.at2 (fun _ => rfl) gy
    repeat' (first
      | (refine vl_pure rfl ?_)
      | (refine vl_nil ?_)
      | (refine VC.seq ?_)
      | (refine vl_idx rfl rfl (by omega) ?_)
      | (refine vl_lds rfl (by first | exact h1 | exact h2) ?_)
      | (refine vl_q rfl (eqCell_q (hx _ (List.mem_of_getElem? gx)) (hy _ (List.mem_of_getElem? gy))) ?_)
      | (refine VC.dregV ?_)
      | (refine VC.block ?_)
      | (refine VC.skip ?_)
      | (refine seqQ_n ?_))
    refine VC.cond _ rfl (fun h => ?_) (fun h => ?_)
    · repeat' (first
        | (refine vl_pure rfl ?_)
        | (refine vl_nil ?_)
        | (refine VC.seq ?_)
        | (refine VC.regV ?_)
        | (refine VC.ret ?_)
        | (refine seqQ_r ?_)
        | (refine blkQ_r ?_))
      refine fnQ_r rfl (Mem.le_refl _) (q_end ?_)
      have : xs.map (·.c) ≠ ys.map (·.c) := fun e => by have e1 := congrArg (·[i]?) e; simp only [List.getElem?_map, gx, gy, Option.map_some, Option.some.injEq] at e1; simp [e1] at h
      simp [this]
    · have hxy : x.c = y.c := by simpa using h
      repeat' (first
        | (refine vl_add rfl rfl (by omega) ?_)
        | (refine vl_pure rfl ?_)
        | (refine vl_nil ?_)
        | (refine VC.regV ?_)
        | (refine VC.skip ?_)
        | (refine seqQ_n ?_))
      refine ⟨_, i + 1, _, ?_, ⟨rfl, rfl, rfl, trivial⟩, Mem.le_refl _, rfl, hi, rfl, ?_⟩
      · omega
      · rw [List.take_add_one, List.take_add_one, hpre, List.getElem?_map, List.getElem?_map, gx, gy, Option.map_some, Option.map_some, hxy]
  · have hi : ¬ i < xs.length := by simpa using h
    repeat' (first
      | (refine vl_pure rfl ?_)
      | (refine vl_nil ?_)
      | (refine VC.seq ?_)
      | (refine VC.regV ?_)
      | (refine VC.ret ?_)
      | (refine VC.exit ?_))
    refine fnQ_r rfl (Mem.le_refl _) (q_end ?_)
    have hxy : xs.map (·.c) = ys.map (·.c) := by
      have e : i = xs.length := by omega
      subst e
      rw [List.take_of_length_le (by simp), List.take_of_length_le (by simp [hl])] at hpre
      exact hpre
    simp [hxy]

end Go.Proofs.Ytcmllambknfleaa.E
set_option maxRecDepth 100000
set_option linter.unusedVariables false
namespace Go.Proofs.Ytcmllambknfleaa.E
open Go
noncomputable def e81 : Env := ⟨Try.prog, [], 12, []⟩
noncomputable def c81 : C :=
  .seq (.reg [
    ⟨some 4, none, .mov (.const (.int .i64 0))⟩]) (.seq (.reg [
    ⟨some 5, none, .mov (.tmp 1)⟩,
    ⟨some 6, none, .mov (.tmp 0)⟩,
    ⟨some 7, none, .lenS (.tmp 6)⟩,
    ⟨some 8, none, .bin .sub (.tmp 5) (.tmp 7)⟩,
    ⟨some 1, none, .mov (.tmp 8)⟩]) (.seq (.seq (.reg [
    ⟨some 9, none, .mov (.tmp 1)⟩,
    ⟨some 10, none, .bin .lss (.tmp 9) (.const (.int .i64 0))⟩]) (.cond (.tmp 10) (.seq (.reg [
    ⟨some 4, none, .mov (.const (.int .i64 (-1)))⟩]) (.ret)) (.skip))) (.seq (.reg [
    ⟨some 11, none, .mov (.tmp 1)⟩,
    ⟨some 4, none, .mov (.tmp 11)⟩]) (.ret))))
theorem t81 : Try.f81.body.bind (trC e81) = some c81 := by kernel_rfl
theorem r81 : Try.f81.results.toList.mapM (trR Try.prog) = some [.tmp 4] := by kernel_rfl
theorem fn81 {args : List Value} {M : Mem} {post : Value → Mem → Prop} (hl : args.length ≤ 12) (h : VC e81 c81 (fnQ [.tmp 4] post) (initS args 12) M) : Fn Try.prog 81 args M post :=
  Fn.of' (E := e81) Try.func81 t81 rfl r81 mixed hl h
noncomputable def e164 : Env := ⟨Try.prog, [], 12, []⟩
noncomputable def c164 : C :=
  .seq (.reg [
    ⟨some 4, none, .mov (.const (.int .i64 0))⟩]) (.seq (.reg [
    ⟨some 5, none, .mov (.tmp 1)⟩,
    ⟨some 6, none, .mov (.tmp 0)⟩,
    ⟨some 7, none, .lenS (.tmp 6)⟩,
    ⟨some 8, none, .bin .sub (.tmp 5) (.tmp 7)⟩,
    ⟨some 1, none, .mov (.tmp 8)⟩]) (.seq (.seq (.reg [
    ⟨some 9, none, .mov (.tmp 1)⟩,
    ⟨some 10, none, .bin .lss (.tmp 9) (.const (.int .i64 0))⟩]) (.cond (.tmp 10) (.seq (.reg [
    ⟨some 4, none, .mov (.const (.int .i64 (-1)))⟩]) (.ret)) (.skip))) (.seq (.reg [
    ⟨some 11, none, .mov (.tmp 1)⟩,
    ⟨some 4, none, .mov (.tmp 11)⟩]) (.ret))))
theorem t164 : Try.f164.body.bind (trC e164) = some c164 := by kernel_rfl
theorem r164 : Try.f164.results.toList.mapM (trR Try.prog) = some [.tmp 4] := by kernel_rfl
theorem fn164 {args : List Value} {M : Mem} {post : Value → Mem → Prop} (hl : args.length ≤ 12) (h : VC e164 c164 (fnQ [.tmp 4] post) (initS args 12) M) : Fn Try.prog 164 args M post :=
  Fn.of' (E := e164) Try.func164 t164 rfl r164 mixed hl h
noncomputable def e133 : Env := ⟨Try.prog, [2], 12, []⟩
noncomputable def c133 : C :=
  .seq (.reg [
    ⟨some 2, none, .box true (.tmp 0)⟩,
    ⟨some 4, none, .mov (.const (.int .i64 0))⟩]) (.seq (.reg [
    ⟨some 5, none, .faddr 7 (.tmp 2)⟩,
    ⟨some 6, none, .load true 1 (.tmp 5)⟩,
    ⟨some 7, none, .mov (.tmp 1)⟩,
    ⟨some 8, none, .call 164 [.tmp 6, .tmp 7]⟩,
    ⟨some 1, none, .mov (.tmp 8)⟩]) (.seq (.seq (.reg [
    ⟨some 9, none, .mov (.tmp 1)⟩,
    ⟨some 10, none, .bin .lss (.tmp 9) (.const (.int .i64 0))⟩]) (.cond (.tmp 10) (.seq (.reg [
    ⟨some 4, none, .mov (.const (.int .i64 (-1)))⟩]) (.ret)) (.skip))) (.seq (.reg [
    ⟨some 11, none, .mov (.tmp 1)⟩,
    ⟨some 4, none, .mov (.tmp 11)⟩]) (.ret))))
theorem t133 : Try.f133.body.bind (trC e133) = some c133 := by kernel_rfl
theorem r133 : Try.f133.results.toList.mapM (trR Try.prog) = some [.tmp 4] := by kernel_rfl
theorem fn133 {args : List Value} {M : Mem} {post : Value → Mem → Prop} (hl : args.length ≤ 12) (h : VC e133 c133 (fnQ [.tmp 4] post) (initS args 12) M) : Fn Try.prog 133 args M post :=
  Fn.of' (E := e133) Try.func133 t133 rfl r133 mixed hl h
noncomputable def e82 : Env := ⟨Try.prog, [], 27, []⟩
noncomputable def c82 : C :=
  .seq (.reg [
    ⟨some 4, none, .mov (.const (.int .i64 0))⟩]) (.seq (.reg [
    ⟨some 6, none, .mov (.tmp 1)⟩,
    ⟨some 7, none, .mov (.tmp 0)⟩,
    ⟨some 8, none, .lenS (.tmp 7)⟩,
    ⟨some 9, none, .bin .sub (.tmp 6) (.tmp 8)⟩,
    ⟨some 1, none, .mov (.tmp 9)⟩]) (.seq (.seq (.reg [
    ⟨some 10, none, .mov (.tmp 1)⟩,
    ⟨some 11, none, .bin .lss (.tmp 10) (.const (.int .i64 0))⟩]) (.cond (.tmp 11) (.seq (.reg [
    ⟨some 4, none, .mov (.const (.int .i64 (-1)))⟩]) (.ret)) (.skip))) (.seq (.seq (.reg [
    ⟨some 5, none, .mov (.const (.int .i64 0))⟩]) (.block 0 (.loop (.seq (.seq (.reg [
    ⟨some 12, none, .mov (.tmp 5)⟩,
    ⟨some 13, none, .mov (.tmp 0)⟩,
    ⟨some 14, none, .lenS (.tmp 13)⟩,
    ⟨some 15, none, .bin .lss (.tmp 12) (.tmp 14)⟩]) (.cond (.tmp 15) (.skip) (.exit 0))) (.seq (.block 1 (.seq (.reg [
    ⟨some 18, none, .mov (.tmp 0)⟩,
    ⟨some 19, none, .mov (.tmp 5)⟩,
    ⟨some 20, none, .iaddr 8 (.tmp 18) (.tmp 19)⟩,
    ⟨some 21, none, .load false 8 (.tmp 20)⟩,
    ⟨some 22, none, .mov (.tmp 1)⟩,
    ⟨some 23, none, .call 133 [.tmp 21, .tmp 22]⟩,
    ⟨some 1, none, .mov (.tmp 23)⟩]) (.seq (.reg [
    ⟨some 24, none, .mov (.tmp 1)⟩,
    ⟨some 25, none, .bin .lss (.tmp 24) (.const (.int .i64 0))⟩]) (.cond (.tmp 25) (.seq (.reg [
    ⟨some 4, none, .mov (.const (.int .i64 (-1)))⟩]) (.ret)) (.skip))))) (.reg [
    ⟨some 16, none, .mov (.tmp 5)⟩,
    ⟨some 17, none, .bin .add (.tmp 16) (.const (.int .i64 1))⟩,
    ⟨some 5, none, .mov (.tmp 17)⟩])))))) (.seq (.reg [
    ⟨some 26, none, .mov (.tmp 1)⟩,
    ⟨some 4, none, .mov (.tmp 26)⟩]) (.ret)))))
theorem t82 : Try.f82.body.bind (trC e82) = some c82 := by kernel_rfl
theorem r82 : Try.f82.results.toList.mapM (trR Try.prog) = some [.tmp 4] := by kernel_rfl
theorem fn82 {args : List Value} {M : Mem} {post : Value → Mem → Prop} (hl : args.length ≤ 27) (h : VC e82 c82 (fnQ [.tmp 4] post) (initS args 27) M) : Fn Try.prog 82 args M post :=
  Fn.of' (E := e82) Try.func82 t82 rfl r82 mixed hl h
noncomputable def e83 : Env := ⟨Try.prog, [], 12, []⟩
noncomputable def c83 : C :=
  .seq (.reg [
    ⟨some 4, none, .mov (.const (.int .i64 0))⟩]) (.seq (.reg [
    ⟨some 5, none, .mov (.tmp 1)⟩,
    ⟨some 6, none, .mov (.tmp 0)⟩,
    ⟨some 7, none, .lenS (.tmp 6)⟩,
    ⟨some 8, none, .bin .sub (.tmp 5) (.tmp 7)⟩,
    ⟨some 1, none, .mov (.tmp 8)⟩]) (.seq (.seq (.reg [
    ⟨some 9, none, .mov (.tmp 1)⟩,
    ⟨some 10, none, .bin .lss (.tmp 9) (.const (.int .i64 0))⟩]) (.cond (.tmp 10) (.seq (.reg [
    ⟨some 4, none, .mov (.const (.int .i64 (-1)))⟩]) (.ret)) (.skip))) (.seq (.reg [
    ⟨some 11, none, .mov (.tmp 1)⟩,
    ⟨some 4, none, .mov (.tmp 11)⟩]) (.ret))))
theorem t83 : Try.f83.body.bind (trC e83) = some c83 := by kernel_rfl
theorem r83 : Try.f83.results.toList.mapM (trR Try.prog) = some [.tmp 4] := by kernel_rfl
theorem fn83 {args : List Value} {M : Mem} {post : Value → Mem → Prop} (hl : args.length ≤ 12) (h : VC e83 c83 (fnQ [.tmp 4] post) (initS args 12) M) : Fn Try.prog 83 args M post :=
  Fn.of' (E := e83) Try.func83 t83 rfl r83 mixed hl h
noncomputable def e30 : Env := ⟨Try.prog, [2], 24, []⟩
noncomputable def c30 : C :=
  .seq (.reg [
    ⟨some 2, none, .box true (.tmp 0)⟩,
    ⟨some 4, none, .mov (.const (.int .i64 0))⟩]) (.seq (.reg [
    ⟨some 5, none, .faddr 3 (.tmp 2)⟩,
    ⟨some 6, none, .load true 1 (.tmp 5)⟩,
    ⟨some 7, none, .mov (.tmp 1)⟩,
    ⟨some 8, none, .call 81 [.tmp 6, .tmp 7]⟩,
    ⟨some 1, none, .mov (.tmp 8)⟩]) (.seq (.seq (.reg [
    ⟨some 9, none, .mov (.tmp 1)⟩,
    ⟨some 10, none, .bin .lss (.tmp 9) (.const (.int .i64 0))⟩]) (.cond (.tmp 10) (.seq (.reg [
    ⟨some 4, none, .mov (.const (.int .i64 (-1)))⟩]) (.ret)) (.skip))) (.seq (.reg [
    ⟨some 11, none, .faddr 4 (.tmp 2)⟩,
    ⟨some 12, none, .load true 1 (.tmp 11)⟩,
    ⟨some 13, none, .mov (.tmp 1)⟩,
    ⟨some 14, none, .call 82 [.tmp 12, .tmp 13]⟩,
    ⟨some 1, none, .mov (.tmp 14)⟩]) (.seq (.seq (.reg [
    ⟨some 15, none, .mov (.tmp 1)⟩,
    ⟨some 16, none, .bin .lss (.tmp 15) (.const (.int .i64 0))⟩]) (.cond (.tmp 16) (.seq (.reg [
    ⟨some 4, none, .mov (.const (.int .i64 (-1)))⟩]) (.ret)) (.skip))) (.seq (.reg [
    ⟨some 17, none, .faddr 8 (.tmp 2)⟩,
    ⟨some 18, none, .load true 1 (.tmp 17)⟩,
    ⟨some 19, none, .mov (.tmp 1)⟩,
    ⟨some 20, none, .call 83 [.tmp 18, .tmp 19]⟩,
    ⟨some 1, none, .mov (.tmp 20)⟩]) (.seq (.seq (.reg [
    ⟨some 21, none, .mov (.tmp 1)⟩,
    ⟨some 22, none, .bin .lss (.tmp 21) (.const (.int .i64 0))⟩]) (.cond (.tmp 22) (.seq (.reg [
    ⟨some 4, none, .mov (.const (.int .i64 (-1)))⟩]) (.ret)) (.skip))) (.seq (.reg [
    ⟨some 23, none, .mov (.tmp 1)⟩,
    ⟨some 4, none, .mov (.tmp 23)⟩]) (.ret))))))))
theorem t30 : Try.f30.body.bind (trC e30) = some c30 := by kernel_rfl
theorem r30 : Try.f30.results.toList.mapM (trR Try.prog) = some [.tmp 4] := by kernel_rfl
theorem fn30 {args : List Value} {M : Mem} {post : Value → Mem → Prop} (hl : args.length ≤ 24) (h : VC e30 c30 (fnQ [.tmp 4] post) (initS args 24) M) : Fn Try.prog 30 args M post :=
  Fn.of' (E := e30) Try.func30 t30 rfl r30 mixed hl h
noncomputable def e35 : Env := ⟨Try.prog, [1, 2, 3], 14, []⟩
noncomputable def c35 : C :=
  .seq (.reg [
    ⟨some 1, none, .box true (.tmp 0)⟩,
    ⟨some 2, none, .alloc true [.int .i64 0, .int .i64 0, .int .i64 0]⟩]) (.seq (.reg [
    ⟨some 3, none, .alloc true [.int .i64 0, .int .i64 0, .int .i64 0]⟩]) (.seq (.reg [
    ⟨some 4, none, .faddr 0 (.tmp 1)⟩,
    ⟨some 5, none, .load true 1 (.tmp 4)⟩,
    ⟨some 6, none, .faddr 0 (.tmp 3)⟩,
    ⟨none, none, .store 1 (.tmp 6) (.tmp 5)⟩]) (.seq (.reg [
    ⟨some 7, none, .faddr 1 (.tmp 1)⟩,
    ⟨some 8, none, .load true 1 (.tmp 7)⟩,
    ⟨some 9, none, .faddr 1 (.tmp 3)⟩,
    ⟨none, none, .store 1 (.tmp 9) (.tmp 8)⟩]) (.seq (.reg [
    ⟨some 10, none, .faddr 2 (.tmp 1)⟩,
    ⟨some 11, none, .load true 1 (.tmp 10)⟩,
    ⟨some 12, none, .faddr 2 (.tmp 3)⟩,
    ⟨none, none, .store 1 (.tmp 12) (.tmp 11)⟩]) (.seq (.reg [
    ⟨some 13, none, .load false 3 (.tmp 3)⟩,
    ⟨none, none, .store 3 (.tmp 2) (.tmp 13)⟩]) (.ret))))))
theorem t35 : Try.f35.body.bind (trC e35) = some c35 := by kernel_rfl
theorem r35 : Try.f35.results.toList.mapM (trR Try.prog) = some [.cell 2 false 3] := by kernel_rfl
theorem fn35 {args : List Value} {M : Mem} {post : Value → Mem → Prop} (hl : args.length ≤ 14) (h : VC e35 c35 (fnQ [.cell 2 false 3] post) (initS args 14) M) : Fn Try.prog 35 args M post :=
  Fn.of' (E := e35) Try.func35 t35 rfl r35 mixed hl h
noncomputable def e92 : Env := ⟨Try.prog, [], 23, []⟩
noncomputable def c92 : C :=
  .seq (.reg [
    ⟨some 2, none, .mov (.const (.slice none 0 0))⟩]) (.seq (.reg [
    ⟨some 5, none, .mov (.tmp 0)⟩,
    ⟨some 6, none, .lenS (.tmp 5)⟩,
    ⟨some 7, none, .mkslice 3 24 [.int .i64 0, .int .i64 0, .int .i64 0] (.tmp 6) (.tmp 6)⟩,
    ⟨some 3, none, .mov (.tmp 7)⟩]) (.seq (.seq (.reg [
    ⟨some 4, none, .mov (.const (.int .i64 0))⟩]) (.block 0 (.loop (.seq (.seq (.reg [
    ⟨some 8, none, .mov (.tmp 4)⟩,
    ⟨some 9, none, .mov (.tmp 0)⟩,
    ⟨some 10, none, .lenS (.tmp 9)⟩,
    ⟨some 11, none, .bin .lss (.tmp 8) (.tmp 10)⟩]) (.cond (.tmp 11) (.skip) (.exit 0))) (.seq (.block 1 (.reg [
    ⟨some 14, none, .mov (.tmp 3)⟩,
    ⟨some 15, none, .mov (.tmp 4)⟩,
    ⟨some 16, none, .mov (.tmp 0)⟩,
    ⟨some 17, none, .mov (.tmp 4)⟩,
    ⟨some 18, none, .iaddr 3 (.tmp 16) (.tmp 17)⟩,
    ⟨some 19, none, .load false 3 (.tmp 18)⟩,
    ⟨some 20, none, .call 35 [.tmp 19]⟩,
    ⟨some 21, none, .iaddr 3 (.tmp 14) (.tmp 15)⟩,
    ⟨none, none, .store 3 (.tmp 21) (.tmp 20)⟩])) (.reg [
    ⟨some 12, none, .mov (.tmp 4)⟩,
    ⟨some 13, none, .bin .add (.tmp 12) (.const (.int .i64 1))⟩,
    ⟨some 4, none, .mov (.tmp 13)⟩])))))) (.seq (.reg [
    ⟨some 22, none, .mov (.tmp 3)⟩,
    ⟨some 2, none, .mov (.tmp 22)⟩]) (.ret))))
theorem t92 : Try.f92.body.bind (trC e92) = some c92 := by kernel_rfl
theorem r92 : Try.f92.results.toList.mapM (trR Try.prog) = some [.tmp 2] := by kernel_rfl
theorem fn92 {args : List Value} {M : Mem} {post : Value → Mem → Prop} (hl : args.length ≤ 23) (h : VC e92 c92 (fnQ [.tmp 2] post) (initS args 23) M) : Fn Try.prog 92 args M post :=
  Fn.of' (E := e92) Try.func92 t92 rfl r92 mixed hl h
noncomputable def e177 : Env := ⟨Try.prog, [1, 2, 3], 13, []⟩
noncomputable def c177 : C :=
  .seq (.reg [
    ⟨some 1, none, .box true (.tmp 0)⟩,
    ⟨some 2, none, .alloc true [.int .i64 0, .int .i64 0, .int .i64 0, .int .i64 0, .int .i64 0, .int .i64 0]⟩]) (.seq (.reg [
    ⟨some 3, none, .alloc true [.int .i64 0, .int .i64 0, .int .i64 0, .int .i64 0, .int .i64 0, .int .i64 0]⟩]) (.seq (.reg [
    ⟨some 4, none, .faddr 0 (.tmp 1)⟩,
    ⟨some 5, none, .load false 3 (.tmp 4)⟩,
    ⟨some 6, none, .call 35 [.tmp 5]⟩,
    ⟨some 7, none, .faddr 0 (.tmp 3)⟩,
    ⟨none, none, .store 3 (.tmp 7) (.tmp 6)⟩]) (.seq (.reg [
    ⟨some 8, none, .faddr 3 (.tmp 1)⟩,
    ⟨some 9, none, .load false 3 (.tmp 8)⟩,
    ⟨some 10, none, .call 35 [.tmp 9]⟩,
    ⟨some 11, none, .faddr 3 (.tmp 3)⟩,
    ⟨none, none, .store 3 (.tmp 11) (.tmp 10)⟩]) (.seq (.reg [
    ⟨some 12, none, .load false 6 (.tmp 3)⟩,
    ⟨none, none, .store 6 (.tmp 2) (.tmp 12)⟩]) (.ret)))))
theorem t177 : Try.f177.body.bind (trC e177) = some c177 := by kernel_rfl
theorem r177 : Try.f177.results.toList.mapM (trR Try.prog) = some [.cell 2 false 6] := by kernel_rfl
theorem fn177 {args : List Value} {M : Mem} {post : Value → Mem → Prop} (hl : args.length ≤ 13) (h : VC e177 c177 (fnQ [.cell 2 false 6] post) (initS args 13) M) : Fn Try.prog 177 args M post :=
  Fn.of' (E := e177) Try.func177 t177 rfl r177 mixed hl h
noncomputable def e165 : Env := ⟨Try.prog, [], 23, []⟩
noncomputable def c165 : C :=
  .seq (.reg [
    ⟨some 2, none, .mov (.const (.slice none 0 0))⟩]) (.seq (.reg [
    ⟨some 5, none, .mov (.tmp 0)⟩,
    ⟨some 6, none, .lenS (.tmp 5)⟩,
    ⟨some 7, none, .mkslice 6 48 [.int .i64 0, .int .i64 0, .int .i64 0, .int .i64 0, .int .i64 0, .int .i64 0] (.tmp 6) (.tmp 6)⟩,
    ⟨some 3, none, .mov (.tmp 7)⟩]) (.seq (.seq (.reg [
    ⟨some 4, none, .mov (.const (.int .i64 0))⟩]) (.block 0 (.loop (.seq (.seq (.reg [
    ⟨some 8, none, .mov (.tmp 4)⟩,
    ⟨some 9, none, .mov (.tmp 0)⟩,
    ⟨some 10, none, .lenS (.tmp 9)⟩,
    ⟨some 11, none, .bin .lss (.tmp 8) (.tmp 10)⟩]) (.cond (.tmp 11) (.skip) (.exit 0))) (.seq (.block 1 (.reg [
    ⟨some 14, none, .mov (.tmp 3)⟩,
    ⟨some 15, none, .mov (.tmp 4)⟩,
    ⟨some 16, none, .mov (.tmp 0)⟩,
    ⟨some 17, none, .mov (.tmp 4)⟩,
    ⟨some 18, none, .iaddr 6 (.tmp 16) (.tmp 17)⟩,
    ⟨some 19, none, .load false 6 (.tmp 18)⟩,
    ⟨some 20, none, .call 177 [.tmp 19]⟩,
    ⟨some 21, none, .iaddr 6 (.tmp 14) (.tmp 15)⟩,
    ⟨none, none, .store 6 (.tmp 21) (.tmp 20)⟩])) (.reg [
    ⟨some 12, none, .mov (.tmp 4)⟩,
    ⟨some 13, none, .bin .add (.tmp 12) (.const (.int .i64 1))⟩,
    ⟨some 4, none, .mov (.tmp 13)⟩])))))) (.seq (.reg [
    ⟨some 22, none, .mov (.tmp 3)⟩,
    ⟨some 2, none, .mov (.tmp 22)⟩]) (.ret))))
theorem t165 : Try.f165.body.bind (trC e165) = some c165 := by kernel_rfl
theorem r165 : Try.f165.results.toList.mapM (trR Try.prog) = some [.tmp 2] := by kernel_rfl
theorem fn165 {args : List Value} {M : Mem} {post : Value → Mem → Prop} (hl : args.length ≤ 23) (h : VC e165 c165 (fnQ [.tmp 2] post) (initS args 23) M) : Fn Try.prog 165 args M post :=
  Fn.of' (E := e165) Try.func165 t165 rfl r165 mixed hl h
noncomputable def e140 : Env := ⟨Try.prog, [1, 2, 3], 30, []⟩
noncomputable def c140 : C :=
  .seq (.reg [
    ⟨some 1, none, .box true (.tmp 0)⟩,
    ⟨some 2, none, .alloc true [.int .i64 0, .int .i64 0, .int .i64 0, .int .i64 0, .int .i64 0, .int .i64 0, .int .i64 0, .slice none 0 0]⟩]) (.seq (.reg [
    ⟨some 3, none, .alloc true [.int .i64 0, .int .i64 0, .int .i64 0, .int .i64 0, .int .i64 0, .int .i64 0, .int .i64 0, .slice none 0 0]⟩]) (.seq (.reg [
    ⟨some 4, none, .faddr 0 (.tmp 1)⟩,
    ⟨some 5, none, .load true 1 (.tmp 4)⟩,
    ⟨some 6, none, .faddr 0 (.tmp 3)⟩,
    ⟨none, none, .store 1 (.tmp 6) (.tmp 5)⟩]) (.seq (.reg [
    ⟨some 7, none, .faddr 1 (.tmp 1)⟩,
    ⟨some 8, none, .load true 1 (.tmp 7)⟩,
    ⟨some 9, none, .faddr 1 (.tmp 3)⟩,
    ⟨none, none, .store 1 (.tmp 9) (.tmp 8)⟩]) (.seq (.reg [
    ⟨some 10, none, .faddr 2 (.tmp 1)⟩,
    ⟨some 11, none, .load true 1 (.tmp 10)⟩,
    ⟨some 12, none, .faddr 2 (.tmp 3)⟩,
    ⟨none, none, .store 1 (.tmp 12) (.tmp 11)⟩]) (.seq (.reg [
    ⟨some 13, none, .faddr 3 (.tmp 1)⟩,
    ⟨some 14, none, .load true 1 (.tmp 13)⟩,
    ⟨some 15, none, .faddr 3 (.tmp 3)⟩,
    ⟨none, none, .store 1 (.tmp 15) (.tmp 14)⟩]) (.seq (.reg [
    ⟨some 16, none, .faddr 4 (.tmp 1)⟩,
    ⟨some 17, none, .load true 1 (.tmp 16)⟩,
    ⟨some 18, none, .faddr 4 (.tmp 3)⟩,
    ⟨none, none, .store 1 (.tmp 18) (.tmp 17)⟩]) (.seq (.reg [
    ⟨some 19, none, .faddr 5 (.tmp 1)⟩,
    ⟨some 20, none, .load true 1 (.tmp 19)⟩,
    ⟨some 21, none, .faddr 5 (.tmp 3)⟩,
    ⟨none, none, .store 1 (.tmp 21) (.tmp 20)⟩]) (.seq (.reg [
    ⟨some 22, none, .faddr 6 (.tmp 1)⟩,
    ⟨some 23, none, .load true 1 (.tmp 22)⟩,
    ⟨some 24, none, .faddr 6 (.tmp 3)⟩,
    ⟨none, none, .store 1 (.tmp 24) (.tmp 23)⟩]) (.seq (.reg [
    ⟨some 25, none, .faddr 7 (.tmp 1)⟩,
    ⟨some 26, none, .load true 1 (.tmp 25)⟩,
    ⟨some 27, none, .call 165 [.tmp 26]⟩,
    ⟨some 28, none, .faddr 7 (.tmp 3)⟩,
    ⟨none, none, .store 1 (.tmp 28) (.tmp 27)⟩]) (.seq (.reg [
    ⟨some 29, none, .load false 8 (.tmp 3)⟩,
    ⟨none, none, .store 8 (.tmp 2) (.tmp 29)⟩]) (.ret)))))))))))
theorem t140 : Try.f140.body.bind (trC e140) = some c140 := by kernel_rfl
theorem r140 : Try.f140.results.toList.mapM (trR Try.prog) = some [.cell 2 false 8] := by kernel_rfl
theorem fn140 {args : List Value} {M : Mem} {post : Value → Mem → Prop} (hl : args.length ≤ 30) (h : VC e140 c140 (fnQ [.cell 2 false 8] post) (initS args 30) M) : Fn Try.prog 140 args M post :=
  Fn.of' (E := e140) Try.func140 t140 rfl r140 mixed hl h
noncomputable def e93 : Env := ⟨Try.prog, [], 23, []⟩
noncomputable def c93 : C :=
  .seq (.reg [
    ⟨some 2, none, .mov (.const (.slice none 0 0))⟩]) (.seq (.reg [
    ⟨some 5, none, .mov (.tmp 0)⟩,
    ⟨some 6, none, .lenS (.tmp 5)⟩,
    ⟨some 7, none, .mkslice 8 80 [.int .i64 0, .int .i64 0, .int .i64 0, .int .i64 0, .int .i64 0, .int .i64 0, .int .i64 0, .slice none 0 0] (.tmp 6) (.tmp 6)⟩,
    ⟨some 3, none, .mov (.tmp 7)⟩]) (.seq (.seq (.reg [
    ⟨some 4, none, .mov (.const (.int .i64 0))⟩]) (.block 0 (.loop (.seq (.seq (.reg [
    ⟨some 8, none, .mov (.tmp 4)⟩,
    ⟨some 9, none, .mov (.tmp 0)⟩,
    ⟨some 10, none, .lenS (.tmp 9)⟩,
    ⟨some 11, none, .bin .lss (.tmp 8) (.tmp 10)⟩]) (.cond (.tmp 11) (.skip) (.exit 0))) (.seq (.block 1 (.reg [
    ⟨some 14, none, .mov (.tmp 3)⟩,
    ⟨some 15, none, .mov (.tmp 4)⟩,
    ⟨some 16, none, .mov (.tmp 0)⟩,
    ⟨some 17, none, .mov (.tmp 4)⟩,
    ⟨some 18, none, .iaddr 8 (.tmp 16) (.tmp 17)⟩,
    ⟨some 19, none, .load false 8 (.tmp 18)⟩,
    ⟨some 20, none, .call 140 [.tmp 19]⟩,
    ⟨some 21, none, .iaddr 8 (.tmp 14) (.tmp 15)⟩,
    ⟨none, none, .store 8 (.tmp 21) (.tmp 20)⟩])) (.reg [
    ⟨some 12, none, .mov (.tmp 4)⟩,
    ⟨some 13, none, .bin .add (.tmp 12) (.const (.int .i64 1))⟩,
    ⟨some 4, none, .mov (.tmp 13)⟩])))))) (.seq (.reg [
    ⟨some 22, none, .mov (.tmp 3)⟩,
    ⟨some 2, none, .mov (.tmp 22)⟩]) (.ret))))
theorem t93 : Try.f93.body.bind (trC e93) = some c93 := by kernel_rfl
theorem r93 : Try.f93.results.toList.mapM (trR Try.prog) = some [.tmp 2] := by kernel_rfl
theorem fn93 {args : List Value} {M : Mem} {post : Value → Mem → Prop} (hl : args.length ≤ 23) (h : VC e93 c93 (fnQ [.tmp 2] post) (initS args 23) M) : Fn Try.prog 93 args M post :=
  Fn.of' (E := e93) Try.func93 t93 rfl r93 mixed hl h
noncomputable def e94 : Env := ⟨Try.prog, [], 22, []⟩
noncomputable def c94 : C :=
  .seq (.reg [
    ⟨some 2, none, .mov (.const (.slice none 0 0))⟩]) (.seq (.reg [
    ⟨some 5, none, .mov (.tmp 0)⟩,
    ⟨some 6, none, .lenS (.tmp 5)⟩,
    ⟨some 7, none, .mkslice 1 8 [.int .i64 0] (.tmp 6) (.tmp 6)⟩,
    ⟨some 3, none, .mov (.tmp 7)⟩]) (.seq (.seq (.reg [
    ⟨some 4, none, .mov (.const (.int .i64 0))⟩]) (.block 0 (.loop (.seq (.seq (.reg [
    ⟨some 8, none, .mov (.tmp 4)⟩,
    ⟨some 9, none, .mov (.tmp 0)⟩,
    ⟨some 10, none, .lenS (.tmp 9)⟩,
    ⟨some 11, none, .bin .lss (.tmp 8) (.tmp 10)⟩]) (.cond (.tmp 11) (.skip) (.exit 0))) (.seq (.block 1 (.reg [
    ⟨some 14, none, .mov (.tmp 3)⟩,
    ⟨some 15, none, .mov (.tmp 4)⟩,
    ⟨some 16, none, .mov (.tmp 0)⟩,
    ⟨some 17, none, .mov (.tmp 4)⟩,
    ⟨some 18, none, .iaddr 1 (.tmp 16) (.tmp 17)⟩,
    ⟨some 19, none, .load true 1 (.tmp 18)⟩,
    ⟨some 20, none, .iaddr 1 (.tmp 14) (.tmp 15)⟩,
    ⟨none, none, .store 1 (.tmp 20) (.tmp 19)⟩])) (.reg [
    ⟨some 12, none, .mov (.tmp 4)⟩,
    ⟨some 13, none, .bin .add (.tmp 12) (.const (.int .i64 1))⟩,
    ⟨some 4, none, .mov (.tmp 13)⟩])))))) (.seq (.reg [
    ⟨some 21, none, .mov (.tmp 3)⟩,
    ⟨some 2, none, .mov (.tmp 21)⟩]) (.ret))))
theorem t94 : Try.f94.body.bind (trC e94) = some c94 := by kernel_rfl
theorem r94 : Try.f94.results.toList.mapM (trR Try.prog) = some [.tmp 2] := by kernel_rfl
theorem fn94 {args : List Value} {M : Mem} {post : Value → Mem → Prop} (hl : args.length ≤ 22) (h : VC e94 c94 (fnQ [.tmp 2] post) (initS args 22) M) : Fn Try.prog 94 args M post :=
  Fn.of' (E := e94) Try.func94 t94 rfl r94 mixed hl h
noncomputable def e32 : Env := ⟨Try.prog, [1, 2, 3], 47, []⟩
noncomputable def c32 : C :=
  .seq (.reg [
    ⟨some 1, none, .box true (.tmp 0)⟩,
    ⟨some 2, none, .alloc true [.int .i64 0, .int .i64 0, .int .i64 0, .slice none 0 0, .slice none 0 0, .int .i64 0, .int .i64 0, .int .i64 0, .slice none 0 0, .int .i64 0, .int .i64 0, .int .i64 0, .int .i64 0]⟩]) (.seq (.reg [
    ⟨some 3, none, .alloc true [.int .i64 0, .int .i64 0, .int .i64 0, .slice none 0 0, .slice none 0 0, .int .i64 0, .int .i64 0, .int .i64 0, .slice none 0 0, .int .i64 0, .int .i64 0, .int .i64 0, .int .i64 0]⟩]) (.seq (.reg [
    ⟨some 4, none, .faddr 0 (.tmp 1)⟩,
    ⟨some 5, none, .load true 1 (.tmp 4)⟩,
    ⟨some 6, none, .faddr 0 (.tmp 3)⟩,
    ⟨none, none, .store 1 (.tmp 6) (.tmp 5)⟩]) (.seq (.reg [
    ⟨some 7, none, .faddr 1 (.tmp 1)⟩,
    ⟨some 8, none, .load true 1 (.tmp 7)⟩,
    ⟨some 9, none, .faddr 1 (.tmp 3)⟩,
    ⟨none, none, .store 1 (.tmp 9) (.tmp 8)⟩]) (.seq (.reg [
    ⟨some 10, none, .faddr 2 (.tmp 1)⟩,
    ⟨some 11, none, .load true 1 (.tmp 10)⟩,
    ⟨some 12, none, .faddr 2 (.tmp 3)⟩,
    ⟨none, none, .store 1 (.tmp 12) (.tmp 11)⟩]) (.seq (.reg [
    ⟨some 13, none, .faddr 3 (.tmp 1)⟩,
    ⟨some 14, none, .load true 1 (.tmp 13)⟩,
    ⟨some 15, none, .call 92 [.tmp 14]⟩,
    ⟨some 16, none, .faddr 3 (.tmp 3)⟩,
    ⟨none, none, .store 1 (.tmp 16) (.tmp 15)⟩]) (.seq (.reg [
    ⟨some 17, none, .faddr 4 (.tmp 1)⟩,
    ⟨some 18, none, .load true 1 (.tmp 17)⟩,
    ⟨some 19, none, .call 93 [.tmp 18]⟩,
    ⟨some 20, none, .faddr 4 (.tmp 3)⟩,
    ⟨none, none, .store 1 (.tmp 20) (.tmp 19)⟩]) (.seq (.reg [
    ⟨some 21, none, .faddr 5 (.tmp 1)⟩,
    ⟨some 22, none, .load true 1 (.tmp 21)⟩,
    ⟨some 23, none, .faddr 5 (.tmp 3)⟩,
    ⟨none, none, .store 1 (.tmp 23) (.tmp 22)⟩]) (.seq (.reg [
    ⟨some 24, none, .faddr 6 (.tmp 1)⟩,
    ⟨some 25, none, .load true 1 (.tmp 24)⟩,
    ⟨some 26, none, .faddr 6 (.tmp 3)⟩,
    ⟨none, none, .store 1 (.tmp 26) (.tmp 25)⟩]) (.seq (.reg [
    ⟨some 27, none, .faddr 7 (.tmp 1)⟩,
    ⟨some 28, none, .load true 1 (.tmp 27)⟩,
    ⟨some 29, none, .faddr 7 (.tmp 3)⟩,
    ⟨none, none, .store 1 (.tmp 29) (.tmp 28)⟩]) (.seq (.reg [
    ⟨some 30, none, .faddr 8 (.tmp 1)⟩,
    ⟨some 31, none, .load true 1 (.tmp 30)⟩,
    ⟨some 32, none, .call 94 [.tmp 31]⟩,
    ⟨some 33, none, .faddr 8 (.tmp 3)⟩,
    ⟨none, none, .store 1 (.tmp 33) (.tmp 32)⟩]) (.seq (.reg [
    ⟨some 34, none, .faddr 9 (.tmp 1)⟩,
    ⟨some 35, none, .load true 1 (.tmp 34)⟩,
    ⟨some 36, none, .faddr 9 (.tmp 3)⟩,
    ⟨none, none, .store 1 (.tmp 36) (.tmp 35)⟩]) (.seq (.reg [
    ⟨some 37, none, .faddr 10 (.tmp 1)⟩,
    ⟨some 38, none, .load true 1 (.tmp 37)⟩,
    ⟨some 39, none, .faddr 10 (.tmp 3)⟩,
    ⟨none, none, .store 1 (.tmp 39) (.tmp 38)⟩]) (.seq (.reg [
    ⟨some 40, none, .faddr 11 (.tmp 1)⟩,
    ⟨some 41, none, .load true 1 (.tmp 40)⟩,
    ⟨some 42, none, .faddr 11 (.tmp 3)⟩,
    ⟨none, none, .store 1 (.tmp 42) (.tmp 41)⟩]) (.seq (.reg [
    ⟨some 43, none, .faddr 12 (.tmp 1)⟩,
    ⟨some 44, none, .load true 1 (.tmp 43)⟩,
    ⟨some 45, none, .faddr 12 (.tmp 3)⟩,
    ⟨none, none, .store 1 (.tmp 45) (.tmp 44)⟩]) (.seq (.reg [
    ⟨some 46, none, .load false 13 (.tmp 3)⟩,
    ⟨none, none, .store 13 (.tmp 2) (.tmp 46)⟩]) (.ret))))))))))))))))
theorem t32 : Try.f32.body.bind (trC e32) = some c32 := by kernel_rfl
theorem r32 : Try.f32.results.toList.mapM (trR Try.prog) = some [.cell 2 false 13] := by kernel_rfl
theorem fn32 {args : List Value} {M : Mem} {post : Value → Mem → Prop} (hl : args.length ≤ 47) (h : VC e32 c32 (fnQ [.cell 2 false 13] post) (initS args 47) M) : Fn Try.prog 32 args M post :=
  Fn.of' (E := e32) Try.func32 t32 rfl r32 mixed hl h
noncomputable def e75 : Env := ⟨Try.prog, [], 34, []⟩
noncomputable def c75 : C :=
  .seq (.reg [
    ⟨some 4, none, .mov (.const (.int .i64 0))⟩]) (.seq (.seq (.reg [
    ⟨some 5, none, .mov (.const (.int .i64 0))⟩]) (.block 0 (.loop (.seq (.seq (.reg [
    ⟨some 6, none, .mov (.tmp 5)⟩,
    ⟨some 7, none, .mov (.tmp 0)⟩,
    ⟨some 8, none, .lenS (.tmp 7)⟩,
    ⟨some 9, none, .bin .lss (.tmp 6) (.tmp 8)⟩]) (.cond (.tmp 9) (.skip) (.exit 0))) (.seq (.block 1 (.seq (.reg [
    ⟨some 12, none, .mov (.tmp 0)⟩,
    ⟨some 13, none, .mov (.tmp 5)⟩,
    ⟨some 14, none, .mov (.tmp 1)⟩,
    ⟨some 15, none, .iaddr 3 (.tmp 12) (.tmp 13)⟩,
    ⟨some 16, none, .faddr 0 (.tmp 15)⟩,
    ⟨none, none, .store 1 (.tmp 16) (.tmp 14)⟩]) (.seq (.reg [
    ⟨some 17, none, .mov (.tmp 1)⟩,
    ⟨some 18, none, .bin .add (.tmp 17) (.const (.int .i64 1))⟩,
    ⟨some 1, none, .mov (.tmp 18)⟩]) (.seq (.reg [
    ⟨some 19, none, .mov (.tmp 0)⟩,
    ⟨some 20, none, .mov (.tmp 5)⟩,
    ⟨some 21, none, .mov (.tmp 1)⟩,
    ⟨some 22, none, .iaddr 3 (.tmp 19) (.tmp 20)⟩,
    ⟨some 23, none, .faddr 1 (.tmp 22)⟩,
    ⟨none, none, .store 1 (.tmp 23) (.tmp 21)⟩]) (.seq (.reg [
    ⟨some 24, none, .mov (.tmp 1)⟩,
    ⟨some 25, none, .bin .add (.tmp 24) (.const (.int .i64 1))⟩,
    ⟨some 1, none, .mov (.tmp 25)⟩]) (.seq (.reg [
    ⟨some 26, none, .mov (.tmp 0)⟩,
    ⟨some 27, none, .mov (.tmp 5)⟩,
    ⟨some 28, none, .mov (.tmp 1)⟩,
    ⟨some 29, none, .iaddr 3 (.tmp 26) (.tmp 27)⟩,
    ⟨some 30, none, .faddr 2 (.tmp 29)⟩,
    ⟨none, none, .store 1 (.tmp 30) (.tmp 28)⟩]) (.reg [
    ⟨some 31, none, .mov (.tmp 1)⟩,
    ⟨some 32, none, .bin .add (.tmp 31) (.const (.int .i64 1))⟩,
    ⟨some 1, none, .mov (.tmp 32)⟩]))))))) (.reg [
    ⟨some 10, none, .mov (.tmp 5)⟩,
    ⟨some 11, none, .bin .add (.tmp 10) (.const (.int .i64 1))⟩,
    ⟨some 5, none, .mov (.tmp 11)⟩])))))) (.seq (.reg [
    ⟨some 33, none, .mov (.tmp 1)⟩,
    ⟨some 4, none, .mov (.tmp 33)⟩]) (.ret)))
theorem t75 : Try.f75.body.bind (trC e75) = some c75 := by kernel_rfl
theorem r75 : Try.f75.results.toList.mapM (trR Try.prog) = some [.tmp 4] := by kernel_rfl
theorem fn75 {args : List Value} {M : Mem} {post : Value → Mem → Prop} (hl : args.length ≤ 34) (h : VC e75 c75 (fnQ [.tmp 4] post) (initS args 34) M) : Fn Try.prog 75 args M post :=
  Fn.of' (E := e75) Try.func75 t75 rfl r75 mixed hl h
noncomputable def e78 : Env := ⟨Try.prog, [], 40, []⟩
noncomputable def c78 : C :=
  .seq (.reg [
    ⟨some 4, none, .mov (.const (.int .i64 0))⟩]) (.seq (.seq (.reg [
    ⟨some 5, none, .mov (.const (.int .i64 0))⟩]) (.block 0 (.loop (.seq (.seq (.reg [
    ⟨some 6, none, .mov (.tmp 5)⟩,
    ⟨some 7, none, .mov (.tmp 0)⟩,
    ⟨some 8, none, .lenS (.tmp 7)⟩,
    ⟨some 9, none, .bin .lss (.tmp 6) (.tmp 8)⟩]) (.cond (.tmp 9) (.skip) (.exit 0))) (.seq (.block 1 (.seq (.seq (.reg [
    ⟨some 12, none, .mov (.tmp 0)⟩,
    ⟨some 13, none, .mov (.tmp 5)⟩,
    ⟨some 14, none, .iaddr 3 (.tmp 12) (.tmp 13)⟩,
    ⟨some 15, none, .faddr 0 (.tmp 14)⟩,
    ⟨some 16, none, .load true 1 (.tmp 15)⟩,
    ⟨some 17, none, .mov (.tmp 1)⟩,
    ⟨some 18, none, .bin .neq (.tmp 16) (.tmp 17)⟩]) (.cond (.tmp 18) (.seq (.reg [
    ⟨some 4, none, .mov (.const (.int .i64 (-1)))⟩]) (.ret)) (.skip))) (.seq (.reg [
    ⟨some 19, none, .mov (.tmp 1)⟩,
    ⟨some 20, none, .bin .add (.tmp 19) (.const (.int .i64 1))⟩,
    ⟨some 1, none, .mov (.tmp 20)⟩]) (.seq (.seq (.reg [
    ⟨some 21, none, .mov (.tmp 0)⟩,
    ⟨some 22, none, .mov (.tmp 5)⟩,
    ⟨some 23, none, .iaddr 3 (.tmp 21) (.tmp 22)⟩,
    ⟨some 24, none, .faddr 1 (.tmp 23)⟩,
    ⟨some 25, none, .load true 1 (.tmp 24)⟩,
    ⟨some 26, none, .mov (.tmp 1)⟩,
    ⟨some 27, none, .bin .neq (.tmp 25) (.tmp 26)⟩]) (.cond (.tmp 27) (.seq (.reg [
    ⟨some 4, none, .mov (.const (.int .i64 (-1)))⟩]) (.ret)) (.skip))) (.seq (.reg [
    ⟨some 28, none, .mov (.tmp 1)⟩,
    ⟨some 29, none, .bin .add (.tmp 28) (.const (.int .i64 1))⟩,
    ⟨some 1, none, .mov (.tmp 29)⟩]) (.seq (.seq (.reg [
    ⟨some 30, none, .mov (.tmp 0)⟩,
    ⟨some 31, none, .mov (.tmp 5)⟩,
    ⟨some 32, none, .iaddr 3 (.tmp 30) (.tmp 31)⟩,
    ⟨some 33, none, .faddr 2 (.tmp 32)⟩,
    ⟨some 34, none, .load true 1 (.tmp 33)⟩,
    ⟨some 35, none, .mov (.tmp 1)⟩,
    ⟨some 36, none, .bin .neq (.tmp 34) (.tmp 35)⟩]) (.cond (.tmp 36) (.seq (.reg [
    ⟨some 4, none, .mov (.const (.int .i64 (-1)))⟩]) (.ret)) (.skip))) (.reg [
    ⟨some 37, none, .mov (.tmp 1)⟩,
    ⟨some 38, none, .bin .add (.tmp 37) (.const (.int .i64 1))⟩,
    ⟨some 1, none, .mov (.tmp 38)⟩]))))))) (.reg [
    ⟨some 10, none, .mov (.tmp 5)⟩,
    ⟨some 11, none, .bin .add (.tmp 10) (.const (.int .i64 1))⟩,
    ⟨some 5, none, .mov (.tmp 11)⟩])))))) (.seq (.reg [
    ⟨some 39, none, .mov (.tmp 1)⟩,
    ⟨some 4, none, .mov (.tmp 39)⟩]) (.ret)))
theorem t78 : Try.f78.body.bind (trC e78) = some c78 := by kernel_rfl
theorem r78 : Try.f78.results.toList.mapM (trR Try.prog) = some [.tmp 4] := by kernel_rfl
theorem fn78 {args : List Value} {M : Mem} {post : Value → Mem → Prop} (hl : args.length ≤ 40) (h : VC e78 c78 (fnQ [.tmp 4] post) (initS args 40) M) : Fn Try.prog 78 args M post :=
  Fn.of' (E := e78) Try.func78 t78 rfl r78 mixed hl h
noncomputable def e131 : Env := ⟨Try.prog, [], 61, []⟩
noncomputable def c131 : C :=
  .seq (.reg [
    ⟨some 4, none, .mov (.const (.int .i64 0))⟩]) (.seq (.seq (.reg [
    ⟨some 5, none, .mov (.const (.int .i64 0))⟩]) (.block 0 (.loop (.seq (.seq (.reg [
    ⟨some 6, none, .mov (.tmp 5)⟩,
    ⟨some 7, none, .mov (.tmp 0)⟩,
    ⟨some 8, none, .lenS (.tmp 7)⟩,
    ⟨some 9, none, .bin .lss (.tmp 6) (.tmp 8)⟩]) (.cond (.tmp 9) (.skip) (.exit 0))) (.seq (.block 1 (.seq (.reg [
    ⟨some 12, none, .mov (.tmp 0)⟩,
    ⟨some 13, none, .mov (.tmp 5)⟩,
    ⟨some 14, none, .mov (.tmp 1)⟩,
    ⟨some 15, none, .iaddr 6 (.tmp 12) (.tmp 13)⟩,
    ⟨some 16, none, .faddr 0 (.tmp 15)⟩,
    ⟨some 17, none, .faddr 0 (.tmp 16)⟩,
    ⟨none, none, .store 1 (.tmp 17) (.tmp 14)⟩]) (.seq (.reg [
    ⟨some 18, none, .mov (.tmp 1)⟩,
    ⟨some 19, none, .bin .add (.tmp 18) (.const (.int .i64 1))⟩,
    ⟨some 1, none, .mov (.tmp 19)⟩]) (.seq (.reg [
    ⟨some 20, none, .mov (.tmp 0)⟩,
    ⟨some 21, none, .mov (.tmp 5)⟩,
    ⟨some 22, none, .mov (.tmp 1)⟩,
    ⟨some 23, none, .iaddr 6 (.tmp 20) (.tmp 21)⟩,
    ⟨some 24, none, .faddr 0 (.tmp 23)⟩,
    ⟨some 25, none, .faddr 1 (.tmp 24)⟩,
    ⟨none, none, .store 1 (.tmp 25) (.tmp 22)⟩]) (.seq (.reg [
    ⟨some 26, none, .mov (.tmp 1)⟩,
    ⟨some 27, none, .bin .add (.tmp 26) (.const (.int .i64 1))⟩,
    ⟨some 1, none, .mov (.tmp 27)⟩]) (.seq (.reg [
    ⟨some 28, none, .mov (.tmp 0)⟩,
    ⟨some 29, none, .mov (.tmp 5)⟩,
    ⟨some 30, none, .mov (.tmp 1)⟩,
    ⟨some 31, none, .iaddr 6 (.tmp 28) (.tmp 29)⟩,
    ⟨some 32, none, .faddr 0 (.tmp 31)⟩,
    ⟨some 33, none, .faddr 2 (.tmp 32)⟩,
    ⟨none, none, .store 1 (.tmp 33) (.tmp 30)⟩]) (.seq (.reg [
    ⟨some 34, none, .mov (.tmp 1)⟩,
    ⟨some 35, none, .bin .add (.tmp 34) (.const (.int .i64 1))⟩,
    ⟨some 1, none, .mov (.tmp 35)⟩]) (.seq (.reg [
    ⟨some 36, none, .mov (.tmp 0)⟩,
    ⟨some 37, none, .mov (.tmp 5)⟩,
    ⟨some 38, none, .mov (.tmp 1)⟩,
    ⟨some 39, none, .iaddr 6 (.tmp 36) (.tmp 37)⟩,
    ⟨some 40, none, .faddr 3 (.tmp 39)⟩,
    ⟨some 41, none, .faddr 0 (.tmp 40)⟩,
    ⟨none, none, .store 1 (.tmp 41) (.tmp 38)⟩]) (.seq (.reg [
    ⟨some 42, none, .mov (.tmp 1)⟩,
    ⟨some 43, none, .bin .add (.tmp 42) (.const (.int .i64 1))⟩,
    ⟨some 1, none, .mov (.tmp 43)⟩]) (.seq (.reg [
    ⟨some 44, none, .mov (.tmp 0)⟩,
    ⟨some 45, none, .mov (.tmp 5)⟩,
    ⟨some 46, none, .mov (.tmp 1)⟩,
    ⟨some 47, none, .iaddr 6 (.tmp 44) (.tmp 45)⟩,
    ⟨some 48, none, .faddr 3 (.tmp 47)⟩,
    ⟨some 49, none, .faddr 1 (.tmp 48)⟩,
    ⟨none, none, .store 1 (.tmp 49) (.tmp 46)⟩]) (.seq (.reg [
    ⟨some 50, none, .mov (.tmp 1)⟩,
    ⟨some 51, none, .bin .add (.tmp 50) (.const (.int .i64 1))⟩,
    ⟨some 1, none, .mov (.tmp 51)⟩]) (.seq (.reg [
    ⟨some 52, none, .mov (.tmp 0)⟩,
    ⟨some 53, none, .mov (.tmp 5)⟩,
    ⟨some 54, none, .mov (.tmp 1)⟩,
    ⟨some 55, none, .iaddr 6 (.tmp 52) (.tmp 53)⟩,
    ⟨some 56, none, .faddr 3 (.tmp 55)⟩,
    ⟨some 57, none, .faddr 2 (.tmp 56)⟩,
    ⟨none, none, .store 1 (.tmp 57) (.tmp 54)⟩]) (.reg [
    ⟨some 58, none, .mov (.tmp 1)⟩,
    ⟨some 59, none, .bin .add (.tmp 58) (.const (.int .i64 1))⟩,
    ⟨some 1, none, .mov (.tmp 59)⟩]))))))))))))) (.reg [
    ⟨some 10, none, .mov (.tmp 5)⟩,
    ⟨some 11, none, .bin .add (.tmp 10) (.const (.int .i64 1))⟩,
    ⟨some 5, none, .mov (.tmp 11)⟩])))))) (.seq (.reg [
    ⟨some 60, none, .mov (.tmp 1)⟩,
    ⟨some 4, none, .mov (.tmp 60)⟩]) (.ret)))
theorem t131 : Try.f131.body.bind (trC e131) = some c131 := by kernel_rfl
theorem r131 : Try.f131.results.toList.mapM (trR Try.prog) = some [.tmp 4] := by kernel_rfl
theorem fn131 {args : List Value} {M : Mem} {post : Value → Mem → Prop} (hl : args.length ≤ 61) (h : VC e131 c131 (fnQ [.tmp 4] post) (initS args 61) M) : Fn Try.prog 131 args M post :=
  Fn.of' (E := e131) Try.func131 t131 rfl r131 mixed hl h
noncomputable def e132 : Env := ⟨Try.prog, [], 73, []⟩
noncomputable def c132 : C :=
  .seq (.reg [
    ⟨some 4, none, .mov (.const (.int .i64 0))⟩]) (.seq (.seq (.reg [
    ⟨some 5, none, .mov (.const (.int .i64 0))⟩]) (.block 0 (.loop (.seq (.seq (.reg [
    ⟨some 6, none, .mov (.tmp 5)⟩,
    ⟨some 7, none, .mov (.tmp 0)⟩,
    ⟨some 8, none, .lenS (.tmp 7)⟩,
    ⟨some 9, none, .bin .lss (.tmp 6) (.tmp 8)⟩]) (.cond (.tmp 9) (.skip) (.exit 0))) (.seq (.block 1 (.seq (.seq (.reg [
    ⟨some 12, none, .mov (.tmp 0)⟩,
    ⟨some 13, none, .mov (.tmp 5)⟩,
    ⟨some 14, none, .iaddr 6 (.tmp 12) (.tmp 13)⟩,
    ⟨some 15, none, .faddr 0 (.tmp 14)⟩,
    ⟨some 16, none, .faddr 0 (.tmp 15)⟩,
    ⟨some 17, none, .load true 1 (.tmp 16)⟩,
    ⟨some 18, none, .mov (.tmp 1)⟩,
    ⟨some 19, none, .bin .neq (.tmp 17) (.tmp 18)⟩]) (.cond (.tmp 19) (.seq (.reg [
    ⟨some 4, none, .mov (.const (.int .i64 (-1)))⟩]) (.ret)) (.skip))) (.seq (.reg [
    ⟨some 20, none, .mov (.tmp 1)⟩,
    ⟨some 21, none, .bin .add (.tmp 20) (.const (.int .i64 1))⟩,
    ⟨some 1, none, .mov (.tmp 21)⟩]) (.seq (.seq (.reg [
    ⟨some 22, none, .mov (.tmp 0)⟩,
    ⟨some 23, none, .mov (.tmp 5)⟩,
    ⟨some 24, none, .iaddr 6 (.tmp 22) (.tmp 23)⟩,
    ⟨some 25, none, .faddr 0 (.tmp 24)⟩,
    ⟨some 26, none, .faddr 1 (.tmp 25)⟩,
    ⟨some 27, none, .load true 1 (.tmp 26)⟩,
    ⟨some 28, none, .mov (.tmp 1)⟩,
    ⟨some 29, none, .bin .neq (.tmp 27) (.tmp 28)⟩]) (.cond (.tmp 29) (.seq (.reg [
    ⟨some 4, none, .mov (.const (.int .i64 (-1)))⟩]) (.ret)) (.skip))) (.seq (.reg [
    ⟨some 30, none, .mov (.tmp 1)⟩,
    ⟨some 31, none, .bin .add (.tmp 30) (.const (.int .i64 1))⟩,
    ⟨some 1, none, .mov (.tmp 31)⟩]) (.seq (.seq (.reg [
    ⟨some 32, none, .mov (.tmp 0)⟩,
    ⟨some 33, none, .mov (.tmp 5)⟩,
    ⟨some 34, none, .iaddr 6 (.tmp 32) (.tmp 33)⟩,
    ⟨some 35, none, .faddr 0 (.tmp 34)⟩,
    ⟨some 36, none, .faddr 2 (.tmp 35)⟩,
    ⟨some 37, none, .load true 1 (.tmp 36)⟩,
    ⟨some 38, none, .mov (.tmp 1)⟩,
    ⟨some 39, none, .bin .neq (.tmp 37) (.tmp 38)⟩]) (.cond (.tmp 39) (.seq (.reg [
    ⟨some 4, none, .mov (.const (.int .i64 (-1)))⟩]) (.ret)) (.skip))) (.seq (.reg [
    ⟨some 40, none, .mov (.tmp 1)⟩,
    ⟨some 41, none, .bin .add (.tmp 40) (.const (.int .i64 1))⟩,
    ⟨some 1, none, .mov (.tmp 41)⟩]) (.seq (.seq (.reg [
    ⟨some 42, none, .mov (.tmp 0)⟩,
    ⟨some 43, none, .mov (.tmp 5)⟩,
    ⟨some 44, none, .iaddr 6 (.tmp 42) (.tmp 43)⟩,
    ⟨some 45, none, .faddr 3 (.tmp 44)⟩,
    ⟨some 46, none, .faddr 0 (.tmp 45)⟩,
    ⟨some 47, none, .load true 1 (.tmp 46)⟩,
    ⟨some 48, none, .mov (.tmp 1)⟩,
    ⟨some 49, none, .bin .neq (.tmp 47) (.tmp 48)⟩]) (.cond (.tmp 49) (.seq (.reg [
    ⟨some 4, none, .mov (.const (.int .i64 (-1)))⟩]) (.ret)) (.skip))) (.seq (.reg [
    ⟨some 50, none, .mov (.tmp 1)⟩,
    ⟨some 51, none, .bin .add (.tmp 50) (.const (.int .i64 1))⟩,
    ⟨some 1, none, .mov (.tmp 51)⟩]) (.seq (.seq (.reg [
    ⟨some 52, none, .mov (.tmp 0)⟩,
    ⟨some 53, none, .mov (.tmp 5)⟩,
    ⟨some 54, none, .iaddr 6 (.tmp 52) (.tmp 53)⟩,
    ⟨some 55, none, .faddr 3 (.tmp 54)⟩,
    ⟨some 56, none, .faddr 1 (.tmp 55)⟩,
    ⟨some 57, none, .load true 1 (.tmp 56)⟩,
    ⟨some 58, none, .mov (.tmp 1)⟩,
    ⟨some 59, none, .bin .neq (.tmp 57) (.tmp 58)⟩]) (.cond (.tmp 59) (.seq (.reg [
    ⟨some 4, none, .mov (.const (.int .i64 (-1)))⟩]) (.ret)) (.skip))) (.seq (.reg [
    ⟨some 60, none, .mov (.tmp 1)⟩,
    ⟨some 61, none, .bin .add (.tmp 60) (.const (.int .i64 1))⟩,
    ⟨some 1, none, .mov (.tmp 61)⟩]) (.seq (.seq (.reg [
    ⟨some 62, none, .mov (.tmp 0)⟩,
    ⟨some 63, none, .mov (.tmp 5)⟩,
    ⟨some 64, none, .iaddr 6 (.tmp 62) (.tmp 63)⟩,
    ⟨some 65, none, .faddr 3 (.tmp 64)⟩,
    ⟨some 66, none, .faddr 2 (.tmp 65)⟩,
    ⟨some 67, none, .load true 1 (.tmp 66)⟩,
    ⟨some 68, none, .mov (.tmp 1)⟩,
    ⟨some 69, none, .bin .neq (.tmp 67) (.tmp 68)⟩]) (.cond (.tmp 69) (.seq (.reg [
    ⟨some 4, none, .mov (.const (.int .i64 (-1)))⟩]) (.ret)) (.skip))) (.reg [
    ⟨some 70, none, .mov (.tmp 1)⟩,
    ⟨some 71, none, .bin .add (.tmp 70) (.const (.int .i64 1))⟩,
    ⟨some 1, none, .mov (.tmp 71)⟩]))))))))))))) (.reg [
    ⟨some 10, none, .mov (.tmp 5)⟩,
    ⟨some 11, none, .bin .add (.tmp 10) (.const (.int .i64 1))⟩,
    ⟨some 5, none, .mov (.tmp 11)⟩])))))) (.seq (.reg [
    ⟨some 72, none, .mov (.tmp 1)⟩,
    ⟨some 4, none, .mov (.tmp 72)⟩]) (.ret)))
theorem t132 : Try.f132.body.bind (trC e132) = some c132 := by kernel_rfl
theorem r132 : Try.f132.results.toList.mapM (trR Try.prog) = some [.tmp 4] := by kernel_rfl
theorem fn132 {args : List Value} {M : Mem} {post : Value → Mem → Prop} (hl : args.length ≤ 73) (h : VC e132 c132 (fnQ [.tmp 4] post) (initS args 73) M) : Fn Try.prog 132 args M post :=
  Fn.of' (E := e132) Try.func132 t132 rfl r132 mixed hl h
noncomputable def e76 : Env := ⟨Try.prog, [], 69, []⟩
noncomputable def c76 : C :=
  .seq (.reg [
    ⟨some 4, none, .mov (.const (.int .i64 0))⟩]) (.seq (.seq (.reg [
    ⟨some 5, none, .mov (.const (.int .i64 0))⟩]) (.block 0 (.loop (.seq (.seq (.reg [
    ⟨some 6, none, .mov (.tmp 5)⟩,
    ⟨some 7, none, .mov (.tmp 0)⟩,
    ⟨some 8, none, .lenS (.tmp 7)⟩,
    ⟨some 9, none, .bin .lss (.tmp 6) (.tmp 8)⟩]) (.cond (.tmp 9) (.skip) (.exit 0))) (.seq (.block 1 (.seq (.reg [
    ⟨some 12, none, .mov (.tmp 0)⟩,
    ⟨some 13, none, .mov (.tmp 5)⟩,
    ⟨some 14, none, .mov (.tmp 1)⟩,
    ⟨some 15, none, .iaddr 8 (.tmp 12) (.tmp 13)⟩,
    ⟨some 16, none, .faddr 0 (.tmp 15)⟩,
    ⟨none, none, .store 1 (.tmp 16) (.tmp 14)⟩]) (.seq (.reg [
    ⟨some 17, none, .mov (.tmp 1)⟩,
    ⟨some 18, none, .bin .add (.tmp 17) (.const (.int .i64 1))⟩,
    ⟨some 1, none, .mov (.tmp 18)⟩]) (.seq (.reg [
    ⟨some 19, none, .mov (.tmp 0)⟩,
    ⟨some 20, none, .mov (.tmp 5)⟩,
    ⟨some 21, none, .mov (.tmp 1)⟩,
    ⟨some 22, none, .iaddr 8 (.tmp 19) (.tmp 20)⟩,
    ⟨some 23, none, .faddr 1 (.tmp 22)⟩,
    ⟨none, none, .store 1 (.tmp 23) (.tmp 21)⟩]) (.seq (.reg [
    ⟨some 24, none, .mov (.tmp 1)⟩,
    ⟨some 25, none, .bin .add (.tmp 24) (.const (.int .i64 1))⟩,
    ⟨some 1, none, .mov (.tmp 25)⟩]) (.seq (.reg [
    ⟨some 26, none, .mov (.tmp 0)⟩,
    ⟨some 27, none, .mov (.tmp 5)⟩,
    ⟨some 28, none, .mov (.tmp 1)⟩,
    ⟨some 29, none, .iaddr 8 (.tmp 26) (.tmp 27)⟩,
    ⟨some 30, none, .faddr 2 (.tmp 29)⟩,
    ⟨none, none, .store 1 (.tmp 30) (.tmp 28)⟩]) (.seq (.reg [
    ⟨some 31, none, .mov (.tmp 1)⟩,
    ⟨some 32, none, .bin .add (.tmp 31) (.const (.int .i64 1))⟩,
    ⟨some 1, none, .mov (.tmp 32)⟩]) (.seq (.reg [
    ⟨some 33, none, .mov (.tmp 0)⟩,
    ⟨some 34, none, .mov (.tmp 5)⟩,
    ⟨some 35, none, .mov (.tmp 1)⟩,
    ⟨some 36, none, .iaddr 8 (.tmp 33) (.tmp 34)⟩,
    ⟨some 37, none, .faddr 3 (.tmp 36)⟩,
    ⟨none, none, .store 1 (.tmp 37) (.tmp 35)⟩]) (.seq (.reg [
    ⟨some 38, none, .mov (.tmp 1)⟩,
    ⟨some 39, none, .bin .add (.tmp 38) (.const (.int .i64 1))⟩,
    ⟨some 1, none, .mov (.tmp 39)⟩]) (.seq (.reg [
    ⟨some 40, none, .mov (.tmp 0)⟩,
    ⟨some 41, none, .mov (.tmp 5)⟩,
    ⟨some 42, none, .mov (.tmp 1)⟩,
    ⟨some 43, none, .iaddr 8 (.tmp 40) (.tmp 41)⟩,
    ⟨some 44, none, .faddr 4 (.tmp 43)⟩,
    ⟨none, none, .store 1 (.tmp 44) (.tmp 42)⟩]) (.seq (.reg [
    ⟨some 45, none, .mov (.tmp 1)⟩,
    ⟨some 46, none, .bin .add (.tmp 45) (.const (.int .i64 1))⟩,
    ⟨some 1, none, .mov (.tmp 46)⟩]) (.seq (.reg [
    ⟨some 47, none, .mov (.tmp 0)⟩,
    ⟨some 48, none, .mov (.tmp 5)⟩,
    ⟨some 49, none, .mov (.tmp 1)⟩,
    ⟨some 50, none, .iaddr 8 (.tmp 47) (.tmp 48)⟩,
    ⟨some 51, none, .faddr 5 (.tmp 50)⟩,
    ⟨none, none, .store 1 (.tmp 51) (.tmp 49)⟩]) (.seq (.reg [
    ⟨some 52, none, .mov (.tmp 1)⟩,
    ⟨some 53, none, .bin .add (.tmp 52) (.const (.int .i64 1))⟩,
    ⟨some 1, none, .mov (.tmp 53)⟩]) (.seq (.reg [
    ⟨some 54, none, .mov (.tmp 0)⟩,
    ⟨some 55, none, .mov (.tmp 5)⟩,
    ⟨some 56, none, .mov (.tmp 1)⟩,
    ⟨some 57, none, .iaddr 8 (.tmp 54) (.tmp 55)⟩,
    ⟨some 58, none, .faddr 6 (.tmp 57)⟩,
    ⟨none, none, .store 1 (.tmp 58) (.tmp 56)⟩]) (.seq (.reg [
    ⟨some 59, none, .mov (.tmp 1)⟩,
    ⟨some 60, none, .bin .add (.tmp 59) (.const (.int .i64 1))⟩,
    ⟨some 1, none, .mov (.tmp 60)⟩]) (.reg [
    ⟨some 61, none, .mov (.tmp 0)⟩,
    ⟨some 62, none, .mov (.tmp 5)⟩,
    ⟨some 63, none, .iaddr 8 (.tmp 61) (.tmp 62)⟩,
    ⟨some 64, none, .faddr 7 (.tmp 63)⟩,
    ⟨some 65, none, .load true 1 (.tmp 64)⟩,
    ⟨some 66, none, .mov (.tmp 1)⟩,
    ⟨some 67, none, .call 131 [.tmp 65, .tmp 66]⟩,
    ⟨some 1, none, .mov (.tmp 67)⟩])))))))))))))))) (.reg [
    ⟨some 10, none, .mov (.tmp 5)⟩,
    ⟨some 11, none, .bin .add (.tmp 10) (.const (.int .i64 1))⟩,
    ⟨some 5, none, .mov (.tmp 11)⟩])))))) (.seq (.reg [
    ⟨some 68, none, .mov (.tmp 1)⟩,
    ⟨some 4, none, .mov (.tmp 68)⟩]) (.ret)))
theorem t76 : Try.f76.body.bind (trC e76) = some c76 := by kernel_rfl
theorem r76 : Try.f76.results.toList.mapM (trR Try.prog) = some [.tmp 4] := by kernel_rfl
theorem fn76 {args : List Value} {M : Mem} {post : Value → Mem → Prop} (hl : args.length ≤ 69) (h : VC e76 c76 (fnQ [.tmp 4] post) (initS args 69) M) : Fn Try.prog 76 args M post :=
  Fn.of' (E := e76) Try.func76 t76 rfl r76 mixed hl h
noncomputable def e79 : Env := ⟨Try.prog, [], 85, []⟩
noncomputable def c79 : C :=
  .seq (.reg [
    ⟨some 4, none, .mov (.const (.int .i64 0))⟩]) (.seq (.seq (.reg [
    ⟨some 5, none, .mov (.const (.int .i64 0))⟩]) (.block 0 (.loop (.seq (.seq (.reg [
    ⟨some 6, none, .mov (.tmp 5)⟩,
    ⟨some 7, none, .mov (.tmp 0)⟩,
    ⟨some 8, none, .lenS (.tmp 7)⟩,
    ⟨some 9, none, .bin .lss (.tmp 6) (.tmp 8)⟩]) (.cond (.tmp 9) (.skip) (.exit 0))) (.seq (.block 1 (.seq (.seq (.reg [
    ⟨some 12, none, .mov (.tmp 0)⟩,
    ⟨some 13, none, .mov (.tmp 5)⟩,
    ⟨some 14, none, .iaddr 8 (.tmp 12) (.tmp 13)⟩,
    ⟨some 15, none, .faddr 0 (.tmp 14)⟩,
    ⟨some 16, none, .load true 1 (.tmp 15)⟩,
    ⟨some 17, none, .mov (.tmp 1)⟩,
    ⟨some 18, none, .bin .neq (.tmp 16) (.tmp 17)⟩]) (.cond (.tmp 18) (.seq (.reg [
    ⟨some 4, none, .mov (.const (.int .i64 (-1)))⟩]) (.ret)) (.skip))) (.seq (.reg [
    ⟨some 19, none, .mov (.tmp 1)⟩,
    ⟨some 20, none, .bin .add (.tmp 19) (.const (.int .i64 1))⟩,
    ⟨some 1, none, .mov (.tmp 20)⟩]) (.seq (.seq (.reg [
    ⟨some 21, none, .mov (.tmp 0)⟩,
    ⟨some 22, none, .mov (.tmp 5)⟩,
    ⟨some 23, none, .iaddr 8 (.tmp 21) (.tmp 22)⟩,
    ⟨some 24, none, .faddr 1 (.tmp 23)⟩,
    ⟨some 25, none, .load true 1 (.tmp 24)⟩,
    ⟨some 26, none, .mov (.tmp 1)⟩,
    ⟨some 27, none, .bin .neq (.tmp 25) (.tmp 26)⟩]) (.cond (.tmp 27) (.seq (.reg [
    ⟨some 4, none, .mov (.const (.int .i64 (-1)))⟩]) (.ret)) (.skip))) (.seq (.reg [
    ⟨some 28, none, .mov (.tmp 1)⟩,
    ⟨some 29, none, .bin .add (.tmp 28) (.const (.int .i64 1))⟩,
    ⟨some 1, none, .mov (.tmp 29)⟩]) (.seq (.seq (.reg [
    ⟨some 30, none, .mov (.tmp 0)⟩,
    ⟨some 31, none, .mov (.tmp 5)⟩,
    ⟨some 32, none, .iaddr 8 (.tmp 30) (.tmp 31)⟩,
    ⟨some 33, none, .faddr 2 (.tmp 32)⟩,
    ⟨some 34, none, .load true 1 (.tmp 33)⟩,
    ⟨some 35, none, .mov (.tmp 1)⟩,
    ⟨some 36, none, .bin .neq (.tmp 34) (.tmp 35)⟩]) (.cond (.tmp 36) (.seq (.reg [
    ⟨some 4, none, .mov (.const (.int .i64 (-1)))⟩]) (.ret)) (.skip))) (.seq (.reg [
    ⟨some 37, none, .mov (.tmp 1)⟩,
    ⟨some 38, none, .bin .add (.tmp 37) (.const (.int .i64 1))⟩,
    ⟨some 1, none, .mov (.tmp 38)⟩]) (.seq (.seq (.reg [
    ⟨some 39, none, .mov (.tmp 0)⟩,
    ⟨some 40, none, .mov (.tmp 5)⟩,
    ⟨some 41, none, .iaddr 8 (.tmp 39) (.tmp 40)⟩,
    ⟨some 42, none, .faddr 3 (.tmp 41)⟩,
    ⟨some 43, none, .load true 1 (.tmp 42)⟩,
    ⟨some 44, none, .mov (.tmp 1)⟩,
    ⟨some 45, none, .bin .neq (.tmp 43) (.tmp 44)⟩]) (.cond (.tmp 45) (.seq (.reg [
    ⟨some 4, none, .mov (.const (.int .i64 (-1)))⟩]) (.ret)) (.skip))) (.seq (.reg [
    ⟨some 46, none, .mov (.tmp 1)⟩,
    ⟨some 47, none, .bin .add (.tmp 46) (.const (.int .i64 1))⟩,
    ⟨some 1, none, .mov (.tmp 47)⟩]) (.seq (.seq (.reg [
    ⟨some 48, none, .mov (.tmp 0)⟩,
    ⟨some 49, none, .mov (.tmp 5)⟩,
    ⟨some 50, none, .iaddr 8 (.tmp 48) (.tmp 49)⟩,
    ⟨some 51, none, .faddr 4 (.tmp 50)⟩,
    ⟨some 52, none, .load true 1 (.tmp 51)⟩,
    ⟨some 53, none, .mov (.tmp 1)⟩,
    ⟨some 54, none, .bin .neq (.tmp 52) (.tmp 53)⟩]) (.cond (.tmp 54) (.seq (.reg [
    ⟨some 4, none, .mov (.const (.int .i64 (-1)))⟩]) (.ret)) (.skip))) (.seq (.reg [
    ⟨some 55, none, .mov (.tmp 1)⟩,
    ⟨some 56, none, .bin .add (.tmp 55) (.const (.int .i64 1))⟩,
    ⟨some 1, none, .mov (.tmp 56)⟩]) (.seq (.seq (.reg [
    ⟨some 57, none, .mov (.tmp 0)⟩,
    ⟨some 58, none, .mov (.tmp 5)⟩,
    ⟨some 59, none, .iaddr 8 (.tmp 57) (.tmp 58)⟩,
    ⟨some 60, none, .faddr 5 (.tmp 59)⟩,
    ⟨some 61, none, .load true 1 (.tmp 60)⟩,
    ⟨some 62, none, .mov (.tmp 1)⟩,
    ⟨some 63, none, .bin .neq (.tmp 61) (.tmp 62)⟩]) (.cond (.tmp 63) (.seq (.reg [
    ⟨some 4, none, .mov (.const (.int .i64 (-1)))⟩]) (.ret)) (.skip))) (.seq (.reg [
    ⟨some 64, none, .mov (.tmp 1)⟩,
    ⟨some 65, none, .bin .add (.tmp 64) (.const (.int .i64 1))⟩,
    ⟨some 1, none, .mov (.tmp 65)⟩]) (.seq (.seq (.reg [
    ⟨some 66, none, .mov (.tmp 0)⟩,
    ⟨some 67, none, .mov (.tmp 5)⟩,
    ⟨some 68, none, .iaddr 8 (.tmp 66) (.tmp 67)⟩,
    ⟨some 69, none, .faddr 6 (.tmp 68)⟩,
    ⟨some 70, none, .load true 1 (.tmp 69)⟩,
    ⟨some 71, none, .mov (.tmp 1)⟩,
    ⟨some 72, none, .bin .neq (.tmp 70) (.tmp 71)⟩]) (.cond (.tmp 72) (.seq (.reg [
    ⟨some 4, none, .mov (.const (.int .i64 (-1)))⟩]) (.ret)) (.skip))) (.seq (.reg [
    ⟨some 73, none, .mov (.tmp 1)⟩,
    ⟨some 74, none, .bin .add (.tmp 73) (.const (.int .i64 1))⟩,
    ⟨some 1, none, .mov (.tmp 74)⟩]) (.seq (.reg [
    ⟨some 75, none, .mov (.tmp 0)⟩,
    ⟨some 76, none, .mov (.tmp 5)⟩,
    ⟨some 77, none, .iaddr 8 (.tmp 75) (.tmp 76)⟩,
    ⟨some 78, none, .faddr 7 (.tmp 77)⟩,
    ⟨some 79, none, .load true 1 (.tmp 78)⟩,
    ⟨some 80, none, .mov (.tmp 1)⟩,
    ⟨some 81, none, .call 132 [.tmp 79, .tmp 80]⟩,
    ⟨some 1, none, .mov (.tmp 81)⟩]) (.seq (.reg [
    ⟨some 82, none, .mov (.tmp 1)⟩,
    ⟨some 83, none, .bin .lss (.tmp 82) (.const (.int .i64 0))⟩]) (.cond (.tmp 83) (.seq (.reg [
    ⟨some 4, none, .mov (.const (.int .i64 (-1)))⟩]) (.ret)) (.skip))))))))))))))))))) (.reg [
    ⟨some 10, none, .mov (.tmp 5)⟩,
    ⟨some 11, none, .bin .add (.tmp 10) (.const (.int .i64 1))⟩,
    ⟨some 5, none, .mov (.tmp 11)⟩])))))) (.seq (.reg [
    ⟨some 84, none, .mov (.tmp 1)⟩,
    ⟨some 4, none, .mov (.tmp 84)⟩]) (.ret)))
theorem t79 : Try.f79.body.bind (trC e79) = some c79 := by kernel_rfl
theorem r79 : Try.f79.results.toList.mapM (trR Try.prog) = some [.tmp 4] := by kernel_rfl
theorem fn79 {args : List Value} {M : Mem} {post : Value → Mem → Prop} (hl : args.length ≤ 85) (h : VC e79 c79 (fnQ [.tmp 4] post) (initS args 85) M) : Fn Try.prog 79 args M post :=
  Fn.of' (E := e79) Try.func79 t79 rfl r79 mixed hl h
noncomputable def e77 : Env := ⟨Try.prog, [], 19, []⟩
noncomputable def c77 : C :=
  .seq (.reg [
    ⟨some 4, none, .mov (.const (.int .i64 0))⟩]) (.seq (.seq (.reg [
    ⟨some 5, none, .mov (.const (.int .i64 0))⟩]) (.block 0 (.loop (.seq (.seq (.reg [
    ⟨some 6, none, .mov (.tmp 5)⟩,
    ⟨some 7, none, .mov (.tmp 0)⟩,
    ⟨some 8, none, .lenS (.tmp 7)⟩,
    ⟨some 9, none, .bin .lss (.tmp 6) (.tmp 8)⟩]) (.cond (.tmp 9) (.skip) (.exit 0))) (.seq (.block 1 (.seq (.reg [
    ⟨some 12, none, .mov (.tmp 0)⟩,
    ⟨some 13, none, .mov (.tmp 5)⟩,
    ⟨some 14, none, .mov (.tmp 1)⟩,
    ⟨some 15, none, .iaddr 1 (.tmp 12) (.tmp 13)⟩,
    ⟨none, none, .store 1 (.tmp 15) (.tmp 14)⟩]) (.reg [
    ⟨some 16, none, .mov (.tmp 1)⟩,
    ⟨some 17, none, .bin .add (.tmp 16) (.const (.int .i64 1))⟩,
    ⟨some 1, none, .mov (.tmp 17)⟩]))) (.reg [
    ⟨some 10, none, .mov (.tmp 5)⟩,
    ⟨some 11, none, .bin .add (.tmp 10) (.const (.int .i64 1))⟩,
    ⟨some 5, none, .mov (.tmp 11)⟩])))))) (.seq (.reg [
    ⟨some 18, none, .mov (.tmp 1)⟩,
    ⟨some 4, none, .mov (.tmp 18)⟩]) (.ret)))
theorem t77 : Try.f77.body.bind (trC e77) = some c77 := by kernel_rfl
theorem r77 : Try.f77.results.toList.mapM (trR Try.prog) = some [.tmp 4] := by kernel_rfl
theorem fn77 {args : List Value} {M : Mem} {post : Value → Mem → Prop} (hl : args.length ≤ 19) (h : VC e77 c77 (fnQ [.tmp 4] post) (initS args 19) M) : Fn Try.prog 77 args M post :=
  Fn.of' (E := e77) Try.func77 t77 rfl r77 mixed hl h
noncomputable def e80 : Env := ⟨Try.prog, [], 21, []⟩
noncomputable def c80 : C :=
  .seq (.reg [
    ⟨some 4, none, .mov (.const (.int .i64 0))⟩]) (.seq (.seq (.reg [
    ⟨some 5, none, .mov (.const (.int .i64 0))⟩]) (.block 0 (.loop (.seq (.seq (.reg [
    ⟨some 6, none, .mov (.tmp 5)⟩,
    ⟨some 7, none, .mov (.tmp 0)⟩,
    ⟨some 8, none, .lenS (.tmp 7)⟩,
    ⟨some 9, none, .bin .lss (.tmp 6) (.tmp 8)⟩]) (.cond (.tmp 9) (.skip) (.exit 0))) (.seq (.block 1 (.seq (.seq (.reg [
    ⟨some 12, none, .mov (.tmp 0)⟩,
    ⟨some 13, none, .mov (.tmp 5)⟩,
    ⟨some 14, none, .iaddr 1 (.tmp 12) (.tmp 13)⟩,
    ⟨some 15, none, .load true 1 (.tmp 14)⟩,
    ⟨some 16, none, .mov (.tmp 1)⟩,
    ⟨some 17, none, .bin .neq (.tmp 15) (.tmp 16)⟩]) (.cond (.tmp 17) (.seq (.reg [
    ⟨some 4, none, .mov (.const (.int .i64 (-1)))⟩]) (.ret)) (.skip))) (.reg [
    ⟨some 18, none, .mov (.tmp 1)⟩,
    ⟨some 19, none, .bin .add (.tmp 18) (.const (.int .i64 1))⟩,
    ⟨some 1, none, .mov (.tmp 19)⟩]))) (.reg [
    ⟨some 10, none, .mov (.tmp 5)⟩,
    ⟨some 11, none, .bin .add (.tmp 10) (.const (.int .i64 1))⟩,
    ⟨some 5, none, .mov (.tmp 11)⟩])))))) (.seq (.reg [
    ⟨some 20, none, .mov (.tmp 1)⟩,
    ⟨some 4, none, .mov (.tmp 20)⟩]) (.ret)))
theorem t80 : Try.f80.body.bind (trC e80) = some c80 := by kernel_rfl
theorem r80 : Try.f80.results.toList.mapM (trR Try.prog) = some [.tmp 4] := by kernel_rfl
theorem fn80 {args : List Value} {M : Mem} {post : Value → Mem → Prop} (hl : args.length ≤ 21) (h : VC e80 c80 (fnQ [.tmp 4] post) (initS args 21) M) : Fn Try.prog 80 args M post :=
  Fn.of' (E := e80) Try.func80 t80 rfl r80 mixed hl h
noncomputable def e28 : Env := ⟨Try.prog, [2], 18, []⟩
noncomputable def c28 : C :=
  .seq (.reg [
    ⟨some 2, none, .box true (.tmp 0)⟩,
    ⟨some 4, none, .mov (.const (.int .i64 0))⟩]) (.seq (.reg [
    ⟨some 5, none, .faddr 3 (.tmp 2)⟩,
    ⟨some 6, none, .load true 1 (.tmp 5)⟩,
    ⟨some 7, none, .mov (.tmp 1)⟩,
    ⟨some 8, none, .call 75 [.tmp 6, .tmp 7]⟩,
    ⟨some 1, none, .mov (.tmp 8)⟩]) (.seq (.reg [
    ⟨some 9, none, .faddr 4 (.tmp 2)⟩,
    ⟨some 10, none, .load true 1 (.tmp 9)⟩,
    ⟨some 11, none, .mov (.tmp 1)⟩,
    ⟨some 12, none, .call 76 [.tmp 10, .tmp 11]⟩,
    ⟨some 1, none, .mov (.tmp 12)⟩]) (.seq (.reg [
    ⟨some 13, none, .faddr 8 (.tmp 2)⟩,
    ⟨some 14, none, .load true 1 (.tmp 13)⟩,
    ⟨some 15, none, .mov (.tmp 1)⟩,
    ⟨some 16, none, .call 77 [.tmp 14, .tmp 15]⟩,
    ⟨some 1, none, .mov (.tmp 16)⟩]) (.seq (.reg [
    ⟨some 17, none, .mov (.tmp 1)⟩,
    ⟨some 4, none, .mov (.tmp 17)⟩]) (.ret)))))
theorem t28 : Try.f28.body.bind (trC e28) = some c28 := by kernel_rfl
theorem r28 : Try.f28.results.toList.mapM (trR Try.prog) = some [.tmp 4] := by kernel_rfl
theorem fn28 {args : List Value} {M : Mem} {post : Value → Mem → Prop} (hl : args.length ≤ 18) (h : VC e28 c28 (fnQ [.tmp 4] post) (initS args 18) M) : Fn Try.prog 28 args M post :=
  Fn.of' (E := e28) Try.func28 t28 rfl r28 mixed hl h
noncomputable def e29 : Env := ⟨Try.prog, [2], 24, []⟩
noncomputable def c29 : C :=
  .seq (.reg [
    ⟨some 2, none, .box true (.tmp 0)⟩,
    ⟨some 4, none, .mov (.const (.int .i64 0))⟩]) (.seq (.reg [
    ⟨some 5, none, .faddr 3 (.tmp 2)⟩,
    ⟨some 6, none, .load true 1 (.tmp 5)⟩,
    ⟨some 7, none, .mov (.tmp 1)⟩,
    ⟨some 8, none, .call 78 [.tmp 6, .tmp 7]⟩,
    ⟨some 1, none, .mov (.tmp 8)⟩]) (.seq (.seq (.reg [
    ⟨some 9, none, .mov (.tmp 1)⟩,
    ⟨some 10, none, .bin .lss (.tmp 9) (.const (.int .i64 0))⟩]) (.cond (.tmp 10) (.seq (.reg [
    ⟨some 4, none, .mov (.const (.int .i64 (-1)))⟩]) (.ret)) (.skip))) (.seq (.reg [
    ⟨some 11, none, .faddr 4 (.tmp 2)⟩,
    ⟨some 12, none, .load true 1 (.tmp 11)⟩,
    ⟨some 13, none, .mov (.tmp 1)⟩,
    ⟨some 14, none, .call 79 [.tmp 12, .tmp 13]⟩,
    ⟨some 1, none, .mov (.tmp 14)⟩]) (.seq (.seq (.reg [
    ⟨some 15, none, .mov (.tmp 1)⟩,
    ⟨some 16, none, .bin .lss (.tmp 15) (.const (.int .i64 0))⟩]) (.cond (.tmp 16) (.seq (.reg [
    ⟨some 4, none, .mov (.const (.int .i64 (-1)))⟩]) (.ret)) (.skip))) (.seq (.reg [
    ⟨some 17, none, .faddr 8 (.tmp 2)⟩,
    ⟨some 18, none, .load true 1 (.tmp 17)⟩,
    ⟨some 19, none, .mov (.tmp 1)⟩,
    ⟨some 20, none, .call 80 [.tmp 18, .tmp 19]⟩,
    ⟨some 1, none, .mov (.tmp 20)⟩]) (.seq (.seq (.reg [
    ⟨some 21, none, .mov (.tmp 1)⟩,
    ⟨some 22, none, .bin .lss (.tmp 21) (.const (.int .i64 0))⟩]) (.cond (.tmp 22) (.seq (.reg [
    ⟨some 4, none, .mov (.const (.int .i64 (-1)))⟩]) (.ret)) (.skip))) (.seq (.reg [
    ⟨some 23, none, .mov (.tmp 1)⟩,
    ⟨some 4, none, .mov (.tmp 23)⟩]) (.ret))))))))
theorem t29 : Try.f29.body.bind (trC e29) = some c29 := by kernel_rfl
theorem r29 : Try.f29.results.toList.mapM (trR Try.prog) = some [.tmp 4] := by kernel_rfl
theorem fn29 {args : List Value} {M : Mem} {post : Value → Mem → Prop} (hl : args.length ≤ 24) (h : VC e29 c29 (fnQ [.tmp 4] post) (initS args 24) M) : Fn Try.prog 29 args M post :=
  Fn.of' (E := e29) Try.func29 t29 rfl r29 mixed hl h
end Go.Proofs.Ytcmllambknfleaa.E
set_option linter.unusedVariables false
set_option linter.unusedSimpArgs false
set_option maxRecDepth 100000
namespace Go.Proofs.Ytcmllambknfleaa.E
open Go
open Classical
theorem szWordS_q {M : Mem} {va : Value} {xs : List Word} {l : Int} (h0 : 0 ≤ l) (h1 : l ≤ 1048576) (ha : SlR M 3 wv va xs) : Qt Try.prog 81 [va, .int .i64 l] M (.int .i64 (if (xs.length : Int) ≤ l then l - xs.length else -1)) := by
  obtain ⟨aa, ca, ea⟩ := ha.len
  have hbd := ha.bound
  refine fn81 (by simp) ?_
  subst ea
  repeat' (first
    | (refine vl_sub rfl rfl (by omega) ?_)
    | (refine vl_pure rfl ?_)
    | (refine vl_nil ?_)
    | (refine VC.seq ?_)
    | (refine VC.regV ?_)
    | (refine VC.ret ?_)
    | (refine VC.skip ?_)
    | (refine seqQ_n ?_)
    | (refine seqQ_r ?_)
    | (refine VC.cond _ rfl (fun hb => ?_) (fun hb => ?_)))
  all_goals (refine fnQ_r rfl (Mem.le_refl _) (q_end ?_))
  · have h : l - (xs.length : Int) < 0 := by simpa using hb
    rw [if_neg (by omega)]
  · have h : ¬ l - (xs.length : Int) < 0 := by simpa using hb
    rw [if_pos (by omega)]
theorem szPairS_q {M : Mem} {va : Value} {xs : List Pair} {l : Int} (h0 : 0 ≤ l) (h1 : l ≤ 1048576) (ha : SlR M 6 pv va xs) : Qt Try.prog 164 [va, .int .i64 l] M (.int .i64 (if (xs.length : Int) ≤ l then l - xs.length else -1)) := by
  obtain ⟨aa, ca, ea⟩ := ha.len
  have hbd := ha.bound
  refine fn164 (by simp) ?_
  subst ea
  repeat' (first
    | (refine vl_sub rfl rfl (by omega) ?_)
    | (refine vl_pure rfl ?_)
    | (refine vl_nil ?_)
    | (refine VC.seq ?_)
    | (refine VC.regV ?_)
    | (refine VC.ret ?_)
    | (refine VC.skip ?_)
    | (refine seqQ_n ?_)
    | (refine seqQ_r ?_)
    | (refine VC.cond _ rfl (fun hb => ?_) (fun hb => ?_)))
  all_goals (refine fnQ_r rfl (Mem.le_refl _) (q_end ?_))
  · have h : l - (xs.length : Int) < 0 := by simpa using hb
    rw [if_neg (by omega)]
  · have h : ¬ l - (xs.length : Int) < 0 := by simpa using hb
    rw [if_pos (by omega)]
theorem szIntS_q {M : Mem} {va : Value} {xs : List Int} {l : Int} (h0 : 0 ≤ l) (h1 : l ≤ 1048576) (ha : SlR M 1 iv va xs) : Qt Try.prog 83 [va, .int .i64 l] M (.int .i64 (if (xs.length : Int) ≤ l then l - xs.length else -1)) := by
  obtain ⟨aa, ca, ea⟩ := ha.len
  have hbd := ha.bound
  refine fn83 (by simp) ?_
  subst ea
  repeat' (first
    | (refine vl_sub rfl rfl (by omega) ?_)
    | (refine vl_pure rfl ?_)
    | (refine vl_nil ?_)
    | (refine VC.seq ?_)
    | (refine VC.regV ?_)
    | (refine VC.ret ?_)
    | (refine VC.skip ?_)
    | (refine seqQ_n ?_)
    | (refine seqQ_r ?_)
    | (refine VC.cond _ rfl (fun hb => ?_) (fun hb => ?_)))
  all_goals (refine fnQ_r rfl (Mem.le_refl _) (q_end ?_))
  · have h : l - (xs.length : Int) < 0 := by simpa using hb
    rw [if_neg (by omega)]
  · have h : ¬ l - (xs.length : Int) < 0 := by simpa using hb
    rw [if_pos (by omega)]
theorem szCell_q {M : Mem} {x : CS} {l : Int} (h0 : 0 ≤ l) (h1 : l ≤ 1048576) (ha : SlR M 6 pv x.s x.c.pairs) : Qt Try.prog 133 [ca x, .int .i64 l] M (.int .i64 (if (x.c.pairs.length : Int) ≤ l then l - x.c.pairs.length else -1)) := by
  refine fn133 (by simp) ?_
  repeat' (first
    | (refine vl_pure rfl ?_)
    | (refine vl_nil ?_)
    | (refine VC.seq ?_)
    | (refine VC.regV ?_)
    | (refine vl_box rfl rfl ?_)
    | (refine vl_cq rfl (szPairS_q h0 h1 ha) ?_)
    | (refine VC.ret ?_)
    | (refine VC.skip ?_)
    | (refine seqQ_n ?_)
    | (refine seqQ_r ?_)
    | (refine VC.cond _ rfl (fun hb => ?_) (fun hb => ?_)))
  all_goals (refine fnQ_r rfl (Mem.le_refl _) (q_end ?_))
  · by_cases h : (x.c.pairs.length : Int) ≤ l
    · rw [if_pos h] at hb; simp at hb; omega
    · rw [if_neg h]
  · rfl
/-- how many pairs some cells have -/
def pairsN (cs : List Cell) : Int := (cs.map fun c => (c.pairs.length : Int)).sum
theorem pairsN_nonneg (cs : List Cell) : 0 ≤ pairsN cs := by
  unfold pairsN
  induction cs with
  | nil => simp
  | cons c r ih => simp only [List.map_cons, List.sum_cons]; omega
theorem pairsN_take {cs : List Cell} {i : Nat} {c : Cell} (h : cs[i]? = some c) : pairsN (cs.take (i + 1)) = pairsN (cs.take i) + c.pairs.length := by
  unfold pairsN
  rw [List.take_add_one, h, List.map_append, List.sum_append]; simp
theorem pairsN_le (cs : List Cell) (i : Nat) : pairsN (cs.take i) ≤ pairsN cs := by
  have h : pairsN cs = pairsN (cs.take i) + pairsN (cs.drop i) := by
    unfold pairsN
    rw [← List.sum_append, ← List.map_append, List.take_append_drop]
  have := pairsN_nonneg (cs.drop i)
  omega
theorem szCellS_q {M : Mem} {va : Value} {xs : List CS} {l : Int} (h0 : 0 ≤ l) (h1 : l ≤ 1048576) (ha : SlR M 8 csv va xs) (hx : ∀ x, x ∈ xs → SlR M 6 pv x.s x.c.pairs) :
    Qt Try.prog 82 [va, .int .i64 l] M (.int .i64 (if (xs.length : Int) + pairsN (xs.map (·.c)) ≤ l then l - (xs.length + pairsN (xs.map (·.c))) else -1)) := by
  obtain ⟨aa, ca, ea⟩ := ha.len
  have hbd := ha.bound
  have hnn := pairsN_nonneg (xs.map (·.c))
  refine fn82 (by simp) ?_
  subst ea
  repeat' (first
    | (refine vl_sub rfl rfl (by omega) ?_)
    | (refine vl_pure rfl ?_)
    | (refine vl_nil ?_)
    | (refine VC.seq ?_)
    | (refine VC.regV ?_)
    | (refine seqQ_n ?_))
  refine VC.cond _ rfl (fun h => ?_) (fun h => ?_)
  · repeat' (first
      | (refine vl_pure rfl ?_)
      | (refine vl_nil ?_)
      | (refine VC.seq ?_)
      | (refine VC.regV ?_)
      | (refine VC.ret ?_)
      | (refine seqQ_r ?_))
    refine fnQ_r rfl (Mem.le_refl _) (q_end ?_)
    have h : l - (xs.length : Int) < 0 := by simpa using h
    rw [if_neg (by omega)]
  have hl : ¬ l - (xs.length : Int) < 0 := by simpa using h
  repeat' (first
    | (refine vl_pure rfl ?_)
    | (refine vl_nil ?_)
    | (refine VC.seq ?_)
    | (refine VC.regV ?_)
    | (refine VC.block ?_)
    | (refine VC.skip ?_))
  refine VC.loop (α := Nat × Int) (fun p => [(0, .v (.slice aa xs.length ca)), (1, .v (.int .i64 p.2)), (5, .v (.int .i64 p.1))]) (fun k p M' => k = xs.length - p.1 ∧ p.1 ≤ xs.length ∧ M' = M ∧ 0 ≤ p.2 ∧ p.2 = l - xs.length - pairsN ((xs.map (·.c)).take p.1))
    ⟨_, (0, _), M, ⟨rfl, rfl, rfl, trivial⟩, Mem.le_refl _, rfl, Nat.zero_le _, rfl, by dsimp only; omega, by simp [pairsN]⟩ ?_
  rintro k ⟨i, l'⟩ M' ⟨rfl, hi, rfl, hp, hpre⟩
  dsimp only at hi hp hpre ⊢
  repeat' (first
    | (refine vl_pure rfl ?_)
    | (refine vl_nil ?_)
    | (refine VC.seq ?_)
    | (refine VC.regV ?_)
    | (refine seqQ_n ?_))
  refine VC.cond _ rfl (fun h => ?_) (fun h => ?_)
  · have hi : i < xs.length := by simpa using h
    obtain ⟨x, gx⟩ : ∃ x, xs[i]? = some x := ⟨_, List.getElem?_eq_getElem hi⟩
    obtain ⟨b1, o1, rfl, c1⟩ := ha.at2 (fun _ => rfl) gx
    have hnt := pairsN_nonneg ((xs.map (·.c)).take i)
    have htk := pairsN_take (cs := xs.map (·.c)) (i := i) (c := x.c) (by rw [List.getElem?_map, gx]; rfl)
    have hle := pairsN_le (xs.map (·.c)) (i + 1)
    repeat' (first
      | (refine vl_pure rfl ?_)
      | (refine vl_nil ?_)
      | (refine VC.seq ?_)
      | (refine VC.regV ?_)
      | (refine vl_idx rfl rfl (by omega) ?_)
      | (refine vl_lds rfl (by first | exact c1) ?_)
      | (refine vl_cq rfl (szCell_q (x := x) (l := l') hp (by omega) (hx _ (List.mem_of_getElem? gx))) ?_)
      | (refine VC.block ?_)
      | (refine VC.skip ?_)
      | (refine seqQ_n ?_))
    refine VC.cond _ rfl (fun h => ?_) (fun h => ?_)
    · repeat' (first
        | (refine vl_pure rfl ?_)
        | (refine vl_nil ?_)
        | (refine VC.seq ?_)
        | (refine VC.regV ?_)
        | (refine VC.ret ?_)
        | (refine seqQ_r ?_)
        | (refine blkQ_r ?_))
      refine fnQ_r rfl (Mem.le_refl _) (q_end ?_)
      by_cases hq : (x.c.pairs.length : Int) ≤ l'
      · rw [if_pos hq] at h; simp at h; omega
      · rw [if_neg (by omega)]
    · by_cases hq : (x.c.pairs.length : Int) ≤ l'
      · rw [if_pos hq]
        repeat' (first
          | (refine vl_add rfl rfl (by omega) ?_)
          | (refine vl_pure rfl ?_)
          | (refine vl_nil ?_)
          | (refine VC.regV ?_)
          | (refine VC.skip ?_)
          | (refine seqQ_n ?_))
        refine ⟨_, (i + 1, _), _, ?_, ⟨rfl, rfl, rfl, trivial⟩, Mem.le_refl _, rfl, hi, rfl, ?_, ?_⟩
        · dsimp only; omega
        · dsimp only; omega
        · dsimp only; omega
      · rw [if_neg hq] at h; simp at h
  · have hi : ¬ i < xs.length := by simpa using h
    repeat' (first
      | (refine vl_pure rfl ?_)
      | (refine vl_nil ?_)
      | (refine VC.seq ?_)
      | (refine VC.regV ?_)
      | (refine VC.ret ?_)
      | (refine VC.exit ?_))
    refine fnQ_r rfl (Mem.le_refl _) (q_end ?_)
    have e : i = xs.length := by omega
    rw [e, List.take_of_length_le (by simp)] at hpre
    rw [if_pos (by omega), hpre]
    congr 1; omega
theorem toWord_q {M : Mem} {a : Word} : Qt Try.prog 35 [wa a] M (wa a) := by
  refine fn35 (by simp) ?_
  repeat' (first
    | (refine vl_pure rfl ?_)
    | (refine vl_nil ?_)
    | (refine VC.seq ?_)
    | (refine VC.regV ?_)
    | (refine vl_alloc ?_)
    | (refine vl_stw rfl rfl rfl rfl (by first | rfl | assumption) (Nat.le_of_ble_eq_true rfl) ?_)
    | (refine sk_zero ?_)
    | (refine sk_succ ?_)
    | (refine wk_nil ?_)
    | (refine wk_cons ?_)
    | (refine vl_box rfl rfl ?_)
    | (refine VC.ret ?_))
  refine fnQ_r rfl (Mem.le_refl _) (q_end ?_)
  rfl
theorem toPair_q {M : Mem} {a : Pair} : Qt Try.prog 177 [pa a] M (pa a) := by
  refine fn177 (by simp) ?_
  repeat' (first
    | (refine vl_pure rfl ?_)
    | (refine vl_nil ?_)
    | (refine VC.seq ?_)
    | (refine VC.regV ?_)
    | (refine vl_alloc ?_)
    | (refine vl_stw rfl rfl rfl rfl (by first | rfl | assumption) (Nat.le_of_ble_eq_true rfl) ?_)
    | (refine sk_zero ?_)
    | (refine sk_succ ?_)
    | (refine wk_nil ?_)
    | (refine wk_cons ?_)
    | (refine vl_box rfl rfl ?_)
    | (refine vl_cq rfl (toWord_q (a := a.key)) ?_)
    | (refine vl_cq rfl (toWord_q (a := a.val)) ?_)
    | (refine VC.ret ?_))
  refine fnQ_r rfl (Mem.le_refl _) (q_end ?_)
  rfl
/-- a row filled from the left -/
def fillL {α : Type} (z : α) (xs : List α) (i : Nat) : List α := xs.take i ++ List.replicate (xs.length - i) z
theorem fillL_zero {α : Type} (z : α) (xs : List α) : fillL z xs 0 = List.replicate xs.length z := by simp [fillL]
theorem fillL_all {α : Type} (z : α) (xs : List α) {i : Nat} (h : xs.length ≤ i) : fillL z xs i = xs := by
  unfold fillL; rw [List.take_of_length_le h, show xs.length - i = 0 by omega]; simp
theorem fillL_get {α : Type} {z : α} {xs : List α} {i : Nat} (h : i < xs.length) : (fillL z xs i)[i]? = some z := by
  unfold fillL
  rw [List.getElem?_append_right (by simp; omega), List.length_take, Nat.min_eq_left (by omega), Nat.sub_self]
  obtain ⟨n, hn⟩ : ∃ n, xs.length - i = n + 1 := ⟨xs.length - i - 1, by omega⟩
  rw [hn, List.replicate_succ, List.getElem?_cons_zero]
theorem fillL_set {α : Type} {z x : α} {xs : List α} {i : Nat} (h : xs[i]? = some x) : (fillL z xs i).set i x = fillL z xs (i + 1) := by
  have hi := (List.getElem?_eq_some_iff.1 h).1
  unfold fillL
  rw [List.set_append_right _ _ (by simp; omega), List.take_add_one, h]
  simp only [List.length_take, Nat.min_eq_left (Nat.le_of_lt hi), Nat.sub_self]
  obtain ⟨n, hn⟩ : ∃ n, xs.length - i = n + 1 := ⟨xs.length - i - 1, by omega⟩
  rw [hn, List.replicate_succ, List.set_cons_zero, show xs.length - (i + 1) = n by omega]
  simp
theorem toWordS_f {M : Mem} {va : Value} {xs : List Word} (hn : xs.length ≤ 1048576) (ha : SlR M 3 wv va xs) : Fn Try.prog 92 [va] M (fun v M' => ∃ b, M b = none ∧ Off M b M' ∧ own v = [b] ∧ Sl M' 3 wv v xs) := by
  obtain ⟨aa, ca, ea⟩ := ha.len
  refine fn92 (by simp) ?_
  subst ea
  repeat' (first
    | (refine vl_pure rfl ?_)
    | (refine vl_nil ?_)
    | (refine VC.seq ?_)
    | (refine VC.regV ?_))
  refine vl_mks (f := wv) ⟨0, 0, 0⟩ (fun _ => rfl) rfl rfl rfl (Nat.le_refl _) (by omega) (by omega) (fun b M1 hMb hoff hsl => ?_)
  rw [← fillL_zero] at hsl
  repeat' (first
    | (refine vl_pure rfl ?_)
    | (refine vl_nil ?_)
    | (refine VC.seq ?_)
    | (refine VC.regV ?_)
    | (refine VC.block ?_))
  refine VC.loop (α := Nat) (fun i => [(0, .v (.slice aa xs.length ca)), (3, .v (.slice (some ⟨b, 0, none⟩) xs.length xs.length)), (4, .v (.int .i64 i))]) (fun k i M' => k = xs.length - i ∧ i ≤ xs.length ∧ Off M b M' ∧ Sl M' 3 wv (.slice (some ⟨b, 0, none⟩) xs.length xs.length) (fillL ⟨0, 0, 0⟩ xs i))
    ⟨_, 0, _, ⟨rfl, rfl, rfl, trivial⟩, Mem.le_refl _, rfl, Nat.zero_le _, hoff, hsl⟩ ?_
  rintro k i M2 ⟨rfl, hi, hoff, hsl⟩
  repeat' (first
    | (refine vl_pure rfl ?_)
    | (refine vl_nil ?_)
    | (refine VC.seq ?_)
    | (refine VC.regV ?_)
    | (refine seqQ_n ?_))
  refine VC.cond _ rfl (fun h => ?_) (fun h => ?_)
  · have hi : i < xs.length := by simpa using h
    obtain ⟨x, gx⟩ : ∃ x, xs[i]? = some x := ⟨_, List.getElem?_eq_getElem hi⟩
    obtain ⟨b1, o1, rfl, h1⟩ := (ha.le (hoff.le hMb)).at2 (fun _ => rfl) gx
    repeat' (first
      | (refine vl_pure rfl ?_)
      | (refine VC.seq ?_)
      | (refine VC.regV ?_)
      | (refine vl_idx rfl rfl (by omega) ?_)
      | (refine vl_lds rfl (by first | exact h1) ?_)
      | (refine vl_cq rfl (toWord_q) ?_)
      | (refine VC.block ?_)
      | (refine VC.skip ?_))
    refine vl_sts x hsl (fun _ => rfl) (fillL_get hi) (i := i) (j := 0) rfl rfl rfl rfl (Nat.le_of_ble_eq_true rfl) rfl (fun M3 o3 s3 => ?_)
    rw [fillL_set gx] at s3
    repeat' (first
      | (refine vl_add rfl rfl (by omega) ?_)
      | (refine vl_pure rfl ?_)
      | (refine vl_nil ?_)
      | (refine VC.regV ?_)
      | (refine seqQ_n ?_))
    refine ⟨_, i + 1, _, ?_, ⟨rfl, rfl, rfl, trivial⟩, Mem.le_refl _, rfl, hi, hoff.trans o3, s3⟩
    omega
  · have hi : ¬ i < xs.length := by simpa using h
    repeat' (first
      | (refine vl_pure rfl ?_)
      | (refine vl_nil ?_)
      | (refine VC.seq ?_)
      | (refine VC.regV ?_)
      | (refine VC.ret ?_)
      | (refine VC.exit ?_))
    refine fnQ_r rfl (Mem.le_refl _) ⟨b, hMb, hoff, rfl, ?_⟩
    rwa [fillL_all _ _ (by omega)] at hsl
theorem toPairS_f {M : Mem} {va : Value} {xs : List Pair} (hn : xs.length ≤ 1048576) (ha : SlR M 6 pv va xs) : Fn Try.prog 165 [va] M (fun v M' => ∃ b, M b = none ∧ Off M b M' ∧ own v = [b] ∧ Sl M' 6 pv v xs) := by
  obtain ⟨aa, ca, ea⟩ := ha.len
  refine fn165 (by simp) ?_
  subst ea
  repeat' (first
    | (refine vl_pure rfl ?_)
    | (refine vl_nil ?_)
    | (refine VC.seq ?_)
    | (refine VC.regV ?_))
  refine vl_mks (f := pv) ⟨⟨0, 0, 0⟩, ⟨0, 0, 0⟩⟩ (fun _ => rfl) rfl rfl rfl (Nat.le_refl _) (by omega) (by omega) (fun b M1 hMb hoff hsl => ?_)
  rw [← fillL_zero] at hsl
  repeat' (first
    | (refine vl_pure rfl ?_)
    | (refine vl_nil ?_)
    | (refine VC.seq ?_)
    | (refine VC.regV ?_)
    | (refine VC.block ?_))
  refine VC.loop (α := Nat) (fun i => [(0, .v (.slice aa xs.length ca)), (3, .v (.slice (some ⟨b, 0, none⟩) xs.length xs.length)), (4, .v (.int .i64 i))]) (fun k i M' => k = xs.length - i ∧ i ≤ xs.length ∧ Off M b M' ∧ Sl M' 6 pv (.slice (some ⟨b, 0, none⟩) xs.length xs.length) (fillL ⟨⟨0, 0, 0⟩, ⟨0, 0, 0⟩⟩ xs i))
    ⟨_, 0, _, ⟨rfl, rfl, rfl, trivial⟩, Mem.le_refl _, rfl, Nat.zero_le _, hoff, hsl⟩ ?_
  rintro k i M2 ⟨rfl, hi, hoff, hsl⟩
  repeat' (first
    | (refine vl_pure rfl ?_)
    | (refine vl_nil ?_)
    | (refine VC.seq ?_)
    | (refine VC.regV ?_)
    | (refine seqQ_n ?_))
  refine VC.cond _ rfl (fun h => ?_) (fun h => ?_)
  · have hi : i < xs.length := by simpa using h
    obtain ⟨x, gx⟩ : ∃ x, xs[i]? = some x := ⟨_, List.getElem?_eq_getElem hi⟩
    obtain ⟨b1, o1, rfl, h1⟩ := (ha.le (hoff.le hMb)).at2 (fun _ => rfl) gx
    repeat' (first
      | (refine vl_pure rfl ?_)
      | (refine VC.seq ?_)
      | (refine VC.regV ?_)
      | (refine vl_idx rfl rfl (by omega) ?_)
      | (refine vl_lds rfl (by first | exact h1) ?_)
      | (refine vl_cq rfl (toPair_q) ?_)
      | (refine VC.block ?_)
      | (refine VC.skip ?_))
    refine vl_sts x hsl (fun _ => rfl) (fillL_get hi) (i := i) (j := 0) rfl rfl rfl rfl (Nat.le_of_ble_eq_true rfl) rfl (fun M3 o3 s3 => ?_)
    rw [fillL_set gx] at s3
    repeat' (first
      | (refine vl_add rfl rfl (by omega) ?_)
      | (refine vl_pure rfl ?_)
      | (refine vl_nil ?_)
      | (refine VC.regV ?_)
      | (refine seqQ_n ?_))
    refine ⟨_, i + 1, _, ?_, ⟨rfl, rfl, rfl, trivial⟩, Mem.le_refl _, rfl, hi, hoff.trans o3, s3⟩
    omega
  · have hi : ¬ i < xs.length := by simpa using h
    repeat' (first
      | (refine vl_pure rfl ?_)
      | (refine vl_nil ?_)
      | (refine VC.seq ?_)
      | (refine VC.regV ?_)
      | (refine VC.ret ?_)
      | (refine VC.exit ?_))
    refine fnQ_r rfl (Mem.le_refl _) ⟨b, hMb, hoff, rfl, ?_⟩
    rwa [fillL_all _ _ (by omega)] at hsl
theorem toIntS_f {M : Mem} {va : Value} {xs : List Int} (hn : xs.length ≤ 1048576) (ha : SlR M 1 iv va xs) : Fn Try.prog 94 [va] M (fun v M' => ∃ b, M b = none ∧ Off M b M' ∧ own v = [b] ∧ Sl M' 1 iv v xs) := by
  obtain ⟨aa, ca, ea⟩ := ha.len
  refine fn94 (by simp) ?_
  subst ea
  repeat' (first
    | (refine vl_pure rfl ?_)
    | (refine vl_nil ?_)
    | (refine VC.seq ?_)
    | (refine VC.regV ?_))
  refine vl_mks (f := iv) 0 (fun _ => rfl) rfl rfl rfl (Nat.le_refl _) (by omega) (by omega) (fun b M1 hMb hoff hsl => ?_)
  rw [← fillL_zero] at hsl
  repeat' (first
    | (refine vl_pure rfl ?_)
    | (refine vl_nil ?_)
    | (refine VC.seq ?_)
    | (refine VC.regV ?_)
    | (refine VC.block ?_))
  refine VC.loop (α := Nat) (fun i => [(0, .v (.slice aa xs.length ca)), (3, .v (.slice (some ⟨b, 0, none⟩) xs.length xs.length)), (4, .v (.int .i64 i))]) (fun k i M' => k = xs.length - i ∧ i ≤ xs.length ∧ Off M b M' ∧ Sl M' 1 iv (.slice (some ⟨b, 0, none⟩) xs.length xs.length) (fillL 0 xs i))
    ⟨_, 0, _, ⟨rfl, rfl, rfl, trivial⟩, Mem.le_refl _, rfl, Nat.zero_le _, hoff, hsl⟩ ?_
  rintro k i M2 ⟨rfl, hi, hoff, hsl⟩
  repeat' (first
    | (refine vl_pure rfl ?_)
    | (refine vl_nil ?_)
    | (refine VC.seq ?_)
    | (refine VC.regV ?_)
    | (refine seqQ_n ?_))
  refine VC.cond _ rfl (fun h => ?_) (fun h => ?_)
  · have hi : i < xs.length := by simpa using h
    obtain ⟨x, gx⟩ : ∃ x, xs[i]? = some x := ⟨_, List.getElem?_eq_getElem hi⟩
    obtain ⟨b1, o1, rfl, h1⟩ := (ha.le (hoff.le hMb)).at2 (fun _ => rfl) gx
    repeat' (first
      | (refine vl_pure rfl ?_)
      | (refine vl_ld rfl (by first | exact cells_cell h1 (j := 0) rfl) ?_)
      | (refine VC.seq ?_)
      | (refine VC.regV ?_)
      | (refine vl_idx rfl rfl (by omega) ?_)
      | (refine VC.block ?_)
      | (refine VC.skip ?_))
    refine vl_sts x hsl (fun _ => rfl) (fillL_get hi) (i := i) (j := 0) rfl rfl rfl rfl (Nat.le_of_ble_eq_true rfl) rfl (fun M3 o3 s3 => ?_)
    rw [fillL_set gx] at s3
    repeat' (first
      | (refine vl_add rfl rfl (by omega) ?_)
      | (refine vl_pure rfl ?_)
      | (refine vl_nil ?_)
      | (refine VC.regV ?_)
      | (refine seqQ_n ?_))
    refine ⟨_, i + 1, _, ?_, ⟨rfl, rfl, rfl, trivial⟩, Mem.le_refl _, rfl, hi, hoff.trans o3, s3⟩
    omega
  · have hi : ¬ i < xs.length := by simpa using h
    repeat' (first
      | (refine vl_pure rfl ?_)
      | (refine vl_nil ?_)
      | (refine VC.seq ?_)
      | (refine VC.regV ?_)
      | (refine VC.ret ?_)
      | (refine VC.exit ?_))
    refine fnQ_r rfl (Mem.le_refl _) ⟨b, hMb, hoff, rfl, ?_⟩
    rwa [fillL_all _ _ (by omega)] at hsl
end Go.Proofs.Ytcmllambknfleaa.E
set_option linter.unusedVariables false
set_option linter.unusedSimpArgs false
set_option maxRecDepth 100000
namespace Go.Proofs.Ytcmllambknfleaa.E
open Go
open Classical
/-- cells in memory, each with its pairs -/
structure CL (M : Mem) (v : Value) (ys : List CS) : Prop where
  sl : Sl M 8 csv v ys
  ps : ∀ y, y ∈ ys → Sl M 6 pv y.s y.c.pairs
def fpC (v : Value) (ys : List CS) : List Nat := own v ++ ys.flatMap fun y => own y.s
/-- a heap and where it lies -/
structure HS where
  H : Heap
  rs : Value
  cs : Value
  gs : Value
  xs : List CS
def HS.v (x : HS) : Value := .agg (hv x.H x.rs x.cs x.gs).toArray
def HS.fp (x : HS) : List Nat := own x.rs ++ (fpC x.cs x.xs ++ own x.gs)
structure RHV (M : Mem) (x : HS) : Prop where
  regs : Sl M 3 wv x.rs x.H.regs
  cl : CL M x.cs x.xs
  eq : x.xs.map (·.c) = x.H.cells
  gray : Sl M 1 iv x.gs x.H.gray
/-- .. and what may be another's, to be read alone -/
structure CLR (M : Mem) (v : Value) (ys : List CS) : Prop where
  sl : SlR M 8 csv v ys
  ps : ∀ y, y ∈ ys → SlR M 6 pv y.s y.c.pairs
structure RHVR (M : Mem) (x : HS) : Prop where
  regs : SlR M 3 wv x.rs x.H.regs
  cl : CLR M x.cs x.xs
  eq : x.xs.map (·.c) = x.H.cells
  gray : SlR M 1 iv x.gs x.H.gray
structure WHV (M : Mem) (x : HS) : Prop where
  r : RHV M x
  nd : x.fp.Nodup
/-- memory is as it was but for some blocks -/
def OffL (M : Mem) (L : List Nat) (M' : Mem) : Prop := ∀ b k, M b = some k → b ∉ L → M' b = some k
theorem Sl.own_some {M : Mem} {α : Type} {f : α → List Value} {size : Nat} {v : Value} {xs : List α} (h : Sl M size f v xs) {c : Nat} (hc : c ∈ own v) : M c ≠ none := by
  rcases h with ⟨c, rfl, _⟩ | ⟨b, o, cap, row, rfl, hM, _⟩
  · simp [own] at hc
  · simp [own] at hc; subst hc; rw [hM]; simp
theorem Sl.offL {M M' : Mem} {α : Type} {f : α → List Value} {size : Nat} {v : Value} {xs : List α} {L : List Nat} (h : Sl M size f v xs) (o : OffL M L M') (hb : ∀ b, b ∈ own v → b ∉ L) : Sl M' size f v xs := by
  rcases h with h | ⟨b', o', cap, row, rfl, hM, h3⟩
  · exact .inl h
  · exact .inr ⟨b', o', cap, row, rfl, o _ _ hM (hb _ (by simp [own])), h3⟩
theorem CL.le {M M' : Mem} {v : Value} {ys : List CS} (h : CL M v ys) (l : M.le M') : CL M' v ys := ⟨h.sl.le l, fun y hy => (h.ps y hy).le l⟩
theorem CLR.le {M M' : Mem} {v : Value} {ys : List CS} (h : CLR M v ys) (l : M.le M') : CLR M' v ys := ⟨h.sl.le l, fun y hy => (h.ps y hy).le l⟩
theorem RHVR.le {M M' : Mem} {x : HS} (h : RHVR M x) (l : M.le M') : RHVR M' x := ⟨h.regs.le l, h.cl.le l, h.eq, h.gray.le l⟩
theorem RHV.le {M M' : Mem} {x : HS} (h : RHV M x) (l : M.le M') : RHV M' x := ⟨h.regs.le l, h.cl.le l, h.eq, h.gray.le l⟩
theorem WHV.le {M M' : Mem} {x : HS} (h : WHV M x) (l : M.le M') : WHV M' x := ⟨h.r.le l, h.nd⟩
theorem RHV.offL {M M' : Mem} {x : HS} {L : List Nat} (h : RHV M x) (o : OffL M L M') (hb : ∀ b, b ∈ x.fp → b ∉ L) : RHV M' x where
  regs := h.regs.offL o fun b m => hb b (by simp [HS.fp, m])
  cl := ⟨h.cl.sl.offL o fun b m => hb b (by simp [HS.fp, fpC, m]), fun y hy => (h.cl.ps y hy).offL o fun b m => hb b (by
    simp only [HS.fp, fpC, List.mem_append, List.mem_flatMap]; exact .inr (.inl (.inr ⟨y, hy, m⟩)))⟩
  eq := h.eq
  gray := h.gray.offL o fun b m => hb b (by simp [HS.fp, m])
theorem WHV.offL {M M' : Mem} {x : HS} {L : List Nat} (h : WHV M x) (o : OffL M L M') (hb : ∀ b, b ∈ x.fp → b ∉ L) : WHV M' x := ⟨h.r.offL o hb, h.nd⟩

theorem eqHeap_q {M : Mem} {x y : HS} (hx : RHV M x) (hy : RHV M y) : Qt Try.prog 27 [x.v, y.v] M (.bool (decide (x.H = y.H))) := by
  refine fn27 (by simp) ?_
  repeat' (first
    | (refine vl_pure rfl ?_)
    | (refine vl_nil ?_)
    | (refine VC.seq ?_)
    | (refine VC.regV ?_)
    | (refine vl_box rfl rfl ?_)
    | (refine vl_cq rfl (eqWordS_q hx.regs hy.regs) ?_)
    | (refine vl_cq rfl (eqCellS_q hx.cl.sl hy.cl.sl hx.cl.ps hy.cl.ps) ?_)
    | (refine vl_cq rfl (eqIntS_q hx.gray hy.gray) ?_)
    | (refine VC.ret ?_)
    | (refine VC.skip ?_)
    | (refine seqQ_n ?_)
    | (refine seqQ_r ?_)
    | (refine VC.cond _ rfl (fun hb => ?_) (fun hb => ?_)))
  all_goals (refine fnQ_r rfl (Mem.le_refl _) (q_end ?_))
  all_goals (obtain ⟨⟨⟩, _, _, _, _⟩ := x; obtain ⟨⟨⟩, _, _, _, _⟩ := y; have e1 := hx.eq; have e2 := hy.eq; simp_all)
/-- what counts against the laws' bound -/
def Heap.bulk (H : Heap) : Int := H.regs.length + (H.cells.length + pairsN H.cells) + H.gray.length
theorem szHeap_q {M : Mem} {x : HS} {l : Int} (h0 : 0 ≤ l) (h1 : l ≤ 1048576) (hx : RHVR M x) : Qt Try.prog 30 [x.v, .int .i64 l] M (.int .i64 (if x.H.bulk ≤ l then l - x.H.bulk else -1)) := by
  have hl : (x.xs.length : Int) = x.H.cells.length := by rw [← hx.eq]; simp
  have e := hx.eq
  have hnn := pairsN_nonneg x.H.cells
  unfold Heap.bulk
  refine fn30 (by simp) ?_
  by_cases g1 : (x.H.regs.length : Int) ≤ l
  · have q1 := szWordS_q h0 h1 hx.regs
    rw [if_pos g1] at q1
    have q2 := szCellS_q (l := l - x.H.regs.length) (by omega) (by omega) hx.cl.sl hx.cl.ps
    rw [e, hl] at q2
    by_cases g2 : (x.H.cells.length : Int) + pairsN x.H.cells ≤ l - x.H.regs.length
    · rw [if_pos g2] at q2
      have q3 := szIntS_q (l := l - x.H.regs.length - (x.H.cells.length + pairsN x.H.cells)) (by omega) (by omega) hx.gray
      repeat' (first
        | (refine vl_pure rfl ?_)
        | (refine vl_nil ?_)
        | (refine VC.seq ?_)
        | (refine VC.regV ?_)
        | (refine vl_box rfl rfl ?_)
        | (refine vl_cq rfl (q1) ?_)
        | (refine vl_cq rfl (q2) ?_)
        | (refine vl_cq rfl (q3) ?_)
        | (refine VC.ret ?_)
        | (refine VC.skip ?_)
        | (refine seqQ_n ?_)
        | (refine seqQ_r ?_)
        | (refine VC.cond _ rfl (fun hb => ?_) (fun hb => ?_)))
      all_goals (refine fnQ_r rfl (Mem.le_refl _) (q_end ?_))
      all_goals simp only [decide_eq_true_eq, decide_eq_false_iff_not] at *
      · omega
      · omega
      · by_cases g3 : (x.H.gray.length : Int) ≤ l - x.H.regs.length - (x.H.cells.length + pairsN x.H.cells)
        · rw [if_pos g3] at *; omega
        · rw [if_neg (by omega)]
      · by_cases g3 : (x.H.gray.length : Int) ≤ l - x.H.regs.length - (x.H.cells.length + pairsN x.H.cells)
        · rw [if_pos g3, if_pos (by omega)]; congr 1; omega
        · rw [if_neg g3] at *; omega
    · rw [if_neg g2] at q2
      repeat' (first
        | (refine vl_pure rfl ?_)
        | (refine vl_nil ?_)
        | (refine VC.seq ?_)
        | (refine VC.regV ?_)
        | (refine vl_box rfl rfl ?_)
        | (refine vl_cq rfl (q1) ?_)
        | (refine vl_cq rfl (q2) ?_)
        | (exact absurd hb (by decide))
        | (refine VC.ret ?_)
        | (refine VC.skip ?_)
        | (refine seqQ_n ?_)
        | (refine seqQ_r ?_)
        | (refine VC.cond _ rfl (fun hb => ?_) (fun hb => ?_)))
      all_goals (refine fnQ_r rfl (Mem.le_refl _) (q_end ?_))
      all_goals simp only [decide_eq_true_eq, decide_eq_false_iff_not] at *
      · omega
      · rw [if_neg (by omega)]
  · have q1 := szWordS_q h0 h1 hx.regs
    rw [if_neg g1] at q1
    repeat' (first
      | (refine vl_pure rfl ?_)
      | (refine vl_nil ?_)
      | (refine VC.seq ?_)
      | (refine VC.regV ?_)
      | (refine vl_box rfl rfl ?_)
      | (refine vl_cq rfl (q1) ?_)
      | (exact absurd hb (by decide))
      | (refine VC.ret ?_)
      | (refine seqQ_n ?_)
      | (refine seqQ_r ?_)
      | (refine VC.cond _ rfl (fun hb => ?_) (fun hb => ?_)))
    all_goals (refine fnQ_r rfl (Mem.le_refl _) (q_end ?_))
    rw [if_neg (by omega)]
theorem toCell_f {M : Mem} {x : CS} (hn : x.c.pairs.length ≤ 1048576) (ha : SlR M 6 pv x.s x.c.pairs) : Fn Try.prog 140 [ca x] M (fun v M' => ∃ b y, v = ca y ∧ y.c = x.c ∧ M b = none ∧ Off M b M' ∧ own y.s = [b] ∧ Sl M' 6 pv y.s y.c.pairs) := by
  refine fn140 (by simp) ?_
  repeat' (first
    | (refine vl_pure rfl ?_)
    | (refine vl_nil ?_)
    | (refine VC.seq ?_)
    | (refine VC.regV ?_)
    | (refine vl_alloc ?_)
    | (refine vl_stw rfl rfl rfl rfl (by first | rfl | assumption) (Nat.le_of_ble_eq_true rfl) ?_)
    | (refine sk_zero ?_)
    | (refine sk_succ ?_)
    | (refine wk_nil ?_)
    | (refine wk_cons ?_)
    | (refine vl_box rfl rfl ?_))
  refine vl_c rfl (toPairS_f hn ha) (fun v M1 hq => ?_)
  obtain ⟨b, hb, ho, hw, hs⟩ := hq
  obtain ⟨sa, cap, rfl⟩ := hs.len
  repeat' (first
    | (refine vl_pure rfl ?_)
    | (refine vl_nil ?_)
    | (refine VC.seq ?_)
    | (refine VC.regV ?_)
    | (refine vl_stw rfl rfl rfl rfl (by first | rfl | assumption) (Nat.le_of_ble_eq_true rfl) ?_)
    | (refine sk_zero ?_)
    | (refine sk_succ ?_)
    | (refine wk_nil ?_)
    | (refine wk_cons ?_)
    | (refine VC.ret ?_))
  exact fnQ_r rfl (Mem.le_refl _) ⟨b, ⟨x.c, sa, cap⟩, rfl, rfl, hb, ho, hw, hs⟩
theorem grow_get {α : Type} {z : α} {ys : List α} {n i : Nat} (hl : ys.length = i) (hi : i < n) : (ys ++ List.replicate (n - i) z)[i]? = some z := by
  subst hl
  rw [List.getElem?_append_right (Nat.le_refl _), Nat.sub_self]
  obtain ⟨m, hm⟩ : ∃ m, n - ys.length = m + 1 := ⟨n - ys.length - 1, by omega⟩
  rw [hm, List.replicate_succ, List.getElem?_cons_zero]
theorem grow_set {α : Type} {z y : α} {ys : List α} {n i : Nat} (hl : ys.length = i) (hi : i < n) : (ys ++ List.replicate (n - i) z).set i y = (ys ++ [y]) ++ List.replicate (n - (i + 1)) z := by
  subst hl
  rw [List.set_append_right _ _ (Nat.le_refl _), Nat.sub_self]
  obtain ⟨m, hm⟩ : ∃ m, n - ys.length = m + 1 := ⟨n - ys.length - 1, by omega⟩
  rw [hm, List.replicate_succ, List.set_cons_zero, show n - (ys.length + 1) = m by omega]
  simp
def zCS : CS := ⟨⟨0, 0, 0, 0, 0, 0, 0, []⟩, none, 0⟩
theorem toCellS_f {M : Mem} {va : Value} {xs : List CS} (hn : xs.length ≤ 1048576) (hp : ∀ x, x ∈ xs → x.c.pairs.length ≤ 1048576) (ha : CLR M va xs) :
    Fn Try.prog 93 [va] M (fun v M' => ∃ ys : List CS, ys.map (·.c) = xs.map (·.c) ∧ CL M' v ys ∧ (fpC v ys).Nodup ∧ (∀ b, b ∈ fpC v ys → M b = none) ∧ M.le M') := by
  obtain ⟨aa, ca, ea⟩ := ha.sl.len
  refine fn93 (by simp) ?_
  subst ea
  repeat' (first
    | (refine vl_pure rfl ?_)
    | (refine vl_nil ?_)
    | (refine VC.seq ?_)
    | (refine VC.regV ?_))
  refine vl_mks (f := csv) zCS (fun _ => rfl) rfl rfl rfl (Nat.le_refl _) (by omega) (by omega) (fun b M1 hMb hoff hsl => ?_)
  repeat' (first
    | (refine vl_pure rfl ?_)
    | (refine vl_nil ?_)
    | (refine VC.seq ?_)
    | (refine VC.regV ?_)
    | (refine VC.block ?_))
  refine VC.loop (α := Nat) (fun i => [(0, .v (.slice aa xs.length ca)), (3, .v (.slice (some ⟨b, 0, none⟩) xs.length xs.length)), (4, .v (.int .i64 i))])
    (fun k i M' => k = xs.length - i ∧ i ≤ xs.length ∧ M.le M' ∧ ∃ ys : List CS, ys.length = i ∧ ys.map (·.c) = (xs.map (·.c)).take i ∧ Sl M' 8 csv (.slice (some ⟨b, 0, none⟩) xs.length xs.length) (ys ++ List.replicate (xs.length - i) zCS) ∧
      (b :: ys.flatMap fun y => own y.s).Nodup ∧ (∀ c, c ∈ (ys.flatMap fun y => own y.s) → M c = none) ∧ ∀ y, y ∈ ys → Sl M' 6 pv y.s y.c.pairs)
    ⟨_, 0, _, ⟨rfl, rfl, rfl, trivial⟩, Mem.le_refl _, rfl, Nat.zero_le _, hoff.le hMb, [], rfl, rfl, hsl, by simp, by simp, by simp⟩ ?_
  rintro k i M2 ⟨rfl, hi, hle, ys, hyl, hyc, hsl, hnd, hfr, hps⟩
  repeat' (first
    | (refine vl_pure rfl ?_)
    | (refine vl_nil ?_)
    | (refine VC.seq ?_)
    | (refine VC.regV ?_)
    | (refine seqQ_n ?_))
  refine VC.cond _ rfl (fun h => ?_) (fun h => ?_)
  · have hi : i < xs.length := by simpa using h
    obtain ⟨x, gx⟩ : ∃ x, xs[i]? = some x := ⟨_, List.getElem?_eq_getElem hi⟩
    have hxm := List.mem_of_getElem? gx
    obtain ⟨b1, o1, rfl, h1⟩ := (ha.sl.le hle).at2 (fun _ => rfl) gx
    repeat' (first
      | (refine vl_pure rfl ?_)
      | (refine VC.seq ?_)
      | (refine VC.regV ?_)
      | (refine vl_idx rfl rfl (by omega) ?_)
      | (refine vl_lds rfl (by first | exact h1) ?_)
      | (refine VC.block ?_)
      | (refine VC.skip ?_))
    refine vl_c rfl (toCell_f (hp x hxm) ((ha.ps x hxm).le hle)) (fun v M3 hq => ?_)
    obtain ⟨b', y, rfl, hyx, hb', ho', hw', hs'⟩ := hq
    repeat' (first
      | (refine vl_idx rfl rfl (by omega) ?_))
    have hs3 := hsl.le (ho'.le hb')
    refine vl_sts y hs3 (fun _ => rfl) (grow_get hyl hi) (i := i) (j := 0) rfl rfl rfl rfl (Nat.le_of_ble_eq_true rfl) rfl (fun M4 o4 s4 => ?_)
    rw [grow_set hyl hi] at s4
    have hMb2 : M2 b ≠ none := hsl.own_some (by simp [own])
    have hbb : b' ≠ b := fun e => hMb2 (by rw [← e]; exact hb')
    have hold : ∀ c, c ∈ (ys.flatMap fun y => own y.s) → M2 c ≠ none := by
      intro c hc
      obtain ⟨y', hy', hc'⟩ := List.mem_flatMap.1 hc
      exact (hps y' hy').own_some hc'
    repeat' (first
      | (refine vl_add rfl rfl (by omega) ?_)
      | (refine vl_pure rfl ?_)
      | (refine vl_nil ?_)
      | (refine VC.regV ?_)
      | (refine seqQ_n ?_))
    refine ⟨_, i + 1, _, ?_, ⟨rfl, rfl, rfl, trivial⟩, Mem.le_refl _, rfl, hi, ?_, ys ++ [y], by simp [hyl], ?_, s4, ?_, ?_, ?_⟩
    · omega
    · exact o4.keep (Mem.le_trans hle (ho'.le hb')) hMb
    · rw [List.map_append, hyc, List.take_add_one, List.getElem?_map, gx]; simp [hyx]
    · rw [List.flatMap_append, ← List.cons_append]
      refine List.nodup_append.2 ⟨hnd, by simp [hw'], ?_⟩
      intro c hc d hd e
      simp only [List.flatMap_cons, List.flatMap_nil, List.append_nil, hw', List.mem_singleton] at hd
      subst hd; subst e
      rcases List.mem_cons.1 hc with e | hc
      · exact hbb e
      · exact hold _ hc hb'
    · intro c hc
      rw [List.flatMap_append, List.mem_append] at hc
      rcases hc with hc | hc
      · exact hfr c hc
      · simp only [List.flatMap_cons, List.flatMap_nil, List.append_nil, hw', List.mem_singleton] at hc
        subst hc; exact none_of_le hle hb'
    · intro y' hy'
      rcases List.mem_append.1 hy' with hy' | hy'
      · refine ((hps y' hy').le (ho'.le hb')).off o4 fun hm => ?_
        exact (List.nodup_cons.1 hnd).1 (List.mem_flatMap.2 ⟨y', hy', hm⟩)
      · simp only [List.mem_singleton] at hy'
        subst hy'
        exact hs'.off o4 (by rw [hw']; simpa using hbb.symm)
  · have hi : ¬ i < xs.length := by simpa using h
    have e : i = xs.length := by omega
    subst e
    repeat' (first
      | (refine vl_pure rfl ?_)
      | (refine vl_nil ?_)
      | (refine VC.seq ?_)
      | (refine VC.regV ?_)
      | (refine VC.ret ?_)
      | (refine VC.exit ?_))
    rw [Nat.sub_self, List.replicate_zero, List.append_nil] at hsl
    rw [List.take_of_length_le (by simp)] at hyc
    refine fnQ_r rfl (Mem.le_refl _) ⟨ys, hyc, ⟨hsl, hps⟩, hnd, ?_, hle⟩
    intro c hc
    rcases List.mem_cons.1 hc with e | hc
    · subst e; exact hMb
    · exact hfr c hc
theorem pairs_bulk {cs : List Cell} {c : Cell} (h : c ∈ cs) : (c.pairs.length : Int) ≤ pairsN cs := by
  induction cs with
  | nil => cases h
  | cons d r ih =>
    have e : pairsN (d :: r) = d.pairs.length + pairsN r := by simp [pairsN]
    have := pairsN_nonneg r
    rcases List.mem_cons.1 h with rfl | h
    · omega
    · have := ih h; omega
theorem toHeap_f {M : Mem} {x : HS} (hb : x.H.bulk ≤ 1048576) (hx : RHVR M x) :
    Fn Try.prog 32 [x.v] M (fun v M' => ∃ y : HS, v = y.v ∧ y.H = x.H ∧ WHV M' y ∧ (∀ b, b ∈ y.fp → M b = none) ∧ M.le M') := by
  have hl : x.xs.length = x.H.cells.length := by rw [← hx.eq]; simp
  have hnn := pairsN_nonneg x.H.cells
  unfold Heap.bulk at hb
  refine fn32 (by simp) ?_
  repeat' (first
    | (refine vl_pure rfl ?_)
    | (refine vl_nil ?_)
    | (refine VC.seq ?_)
    | (refine VC.regV ?_)
    | (refine vl_alloc ?_)
    | (refine vl_stw rfl rfl rfl rfl (by first | rfl | assumption) (Nat.le_of_ble_eq_true rfl) ?_)
    | (refine sk_zero ?_)
    | (refine sk_succ ?_)
    | (refine wk_nil ?_)
    | (refine wk_cons ?_)
    | (refine vl_box rfl rfl ?_))
  refine vl_c rfl (toWordS_f (by omega) hx.regs) (fun v M1 hq => ?_)
  obtain ⟨b1, hb1, ho1, hw1, hs1⟩ := hq
  obtain ⟨sa1, cap1, rfl⟩ := hs1.len
  repeat' (first
    | (refine vl_pure rfl ?_)
    | (refine vl_nil ?_)
    | (refine VC.seq ?_)
    | (refine VC.regV ?_)
    | (refine vl_stw rfl rfl rfl rfl (by first | rfl | assumption) (Nat.le_of_ble_eq_true rfl) ?_)
    | (refine sk_zero ?_)
    | (refine sk_succ ?_)
    | (refine wk_nil ?_)
    | (refine wk_cons ?_))
  have hx1 := hx.le (ho1.le hb1)
  refine vl_c rfl (toCellS_f (by omega) (fun y hy => ?_) hx1.cl) (fun v M2 hq => ?_)
  · have := pairs_bulk (cs := x.H.cells) (c := y.c) (by rw [← hx.eq]; exact List.mem_map_of_mem hy)
    omega
  obtain ⟨ys, hyc, hcl, hnd, hfr, hle⟩ := hq
  obtain ⟨sa2, cap2, rfl⟩ := hcl.sl.len
  repeat' (first
    | (refine vl_pure rfl ?_)
    | (refine vl_nil ?_)
    | (refine VC.seq ?_)
    | (refine VC.regV ?_)
    | (refine vl_stw rfl rfl rfl rfl (by first | rfl | assumption) (Nat.le_of_ble_eq_true rfl) ?_)
    | (refine sk_zero ?_)
    | (refine sk_succ ?_)
    | (refine wk_nil ?_)
    | (refine wk_cons ?_))
  have hx2 := hx1.le hle
  refine vl_c rfl (toIntS_f (by omega) hx2.gray) (fun v M3 hq => ?_)
  obtain ⟨b3, hb3, ho3, hw3, hs3⟩ := hq
  obtain ⟨sa3, cap3, rfl⟩ := hs3.len
  repeat' (first
    | (refine vl_pure rfl ?_)
    | (refine vl_nil ?_)
    | (refine VC.seq ?_)
    | (refine VC.regV ?_)
    | (refine vl_stw rfl rfl rfl rfl (by first | rfl | assumption) (Nat.le_of_ble_eq_true rfl) ?_)
    | (refine sk_zero ?_)
    | (refine sk_succ ?_)
    | (refine wk_nil ?_)
    | (refine wk_cons ?_)
    | (refine VC.ret ?_))
  refine fnQ_r rfl (Mem.le_refl _) ⟨⟨x.H, .slice sa1 x.H.regs.length cap1, .slice sa2 ys.length cap2, .slice sa3 x.H.gray.length cap3, ys⟩, rfl, rfl, ⟨⟨(hs1.le hle).le (ho3.le hb3), hcl.le (ho3.le hb3), ?_, hs3⟩, ?_⟩, ?_, Mem.le_trans (Mem.le_trans (ho1.le hb1) hle) (ho3.le hb3)⟩
  · rw [hyc, hx.eq]
  · simp only [HS.fp, hw1, hw3]
    have h2 : ∀ b, b ∈ fpC (.slice sa2 ys.length cap2) ys → M2 b ≠ none := by
      intro b hb
      simp only [fpC, List.mem_append, List.mem_flatMap] at hb
      rcases hb with hb | ⟨y, hy, hb⟩
      · exact hcl.sl.own_some hb
      · exact (hcl.ps y hy).own_some hb
    have h1 : M1 b1 ≠ none := hs1.own_some (by rw [hw1]; simp)
    refine List.nodup_append.2 ⟨by simp, List.nodup_append.2 ⟨hnd, by simp, ?_⟩, ?_⟩
    · intro c hc d hd e
      simp only [List.mem_singleton] at hd
      subst hd; subst e
      exact h2 _ hc hb3
    · intro c hc d hd e
      simp only [List.mem_singleton] at hc
      subst hc; subst e
      rcases List.mem_append.1 hd with hd | hd
      · exact h1 (hfr _ hd)
      · simp only [List.mem_singleton] at hd
        subst hd
        exact h1 (none_of_le hle hb3)
  · intro b hb
    simp only [HS.fp, hw1, hw3, List.mem_append, List.mem_singleton] at hb
    rcases hb with rfl | hb | rfl
    · exact hb1
    · exact none_of_le (ho1.le hb1) (hfr b hb)
    · exact none_of_le (ho1.le hb1) (none_of_le hle hb3)
end Go.Proofs.Ytcmllambknfleaa.E
set_option linter.unusedVariables false
set_option linter.unusedSimpArgs false
set_option maxRecDepth 100000
namespace Go.Proofs.Ytcmllambknfleaa.E
open Go Go.ChangeShapes Go.WideShapes Go.ChangeAt Go.RowKit
instance : Inhabited Word := ⟨⟨0, 0, 0⟩⟩
instance : Inhabited Pair := ⟨⟨default, default⟩⟩
instance : Inhabited CS := ⟨⟨⟨0, 0, 0, 0, 0, 0, 0, []⟩, none, 0⟩⟩
theorem und_word : Try.prog.underlying 49 = some (.struct (fsOf Try.prog 49)) := by kernel_rfl
theorem fs_word : (fsOf Try.prog 49).toList.map (fun f => (f.type, f.offset)) = [(3, 0), (2, 1), (3, 2)] := by kernel_rfl
theorem cof_word : Try.prog.cellsOf 49 = 3 := by kernel_rfl
theorem und_pair : Try.prog.underlying 148 = some (.struct (fsOf Try.prog 148)) := by kernel_rfl
theorem fs_pair : (fsOf Try.prog 148).toList.map (fun f => (f.type, f.offset)) = [(49, 0), (49, 3)] := by kernel_rfl
theorem cof_pair : Try.prog.cellsOf 148 = 6 := by kernel_rfl
theorem und_cell : Try.prog.underlying 123 = some (.struct (fsOf Try.prog 123)) := by kernel_rfl
theorem fs_cell : (fsOf Try.prog 123).toList.map (fun f => (f.type, f.offset)) = [(3, 0), (3, 1), (3, 2), (3, 3), (3, 4), (3, 5), (3, 6), (121, 7)] := by kernel_rfl
theorem cof_cell : Try.prog.cellsOf 123 = 8 := by kernel_rfl
theorem und_heap : Try.prog.underlying 43 = some (.struct (fsOf Try.prog 43)) := by kernel_rfl
theorem fs_heap : (fsOf Try.prog 43).toList.map (fun f => (f.type, f.offset)) = [(3, 0), (3, 1), (3, 2), (40, 3), (41, 4), (3, 5), (3, 6), (3, 7), (33, 8), (3, 9), (3, 10), (3, 11), (3, 12)] := by kernel_rfl
theorem cof_heap : Try.prog.cellsOf 43 = 13 := by kernel_rfl
theorem und_words : Try.prog.underlying 40 = some (.slice 49) := by kernel_rfl
theorem und_pairs : Try.prog.underlying 121 = some (.slice 148) := by kernel_rfl
theorem und_cells : Try.prog.underlying 41 = some (.slice 123) := by kernel_rfl
theorem und_ints : Try.prog.underlying 33 = some (.slice 3) := by kernel_rfl
theorem cof_words : Try.prog.cellsOf 40 = 1 := by kernel_rfl
theorem cof_pairs : Try.prog.cellsOf 121 = 1 := by kernel_rfl
theorem cof_cells : Try.prog.cellsOf 41 = 1 := by kernel_rfl
theorem cof_ints : Try.prog.cellsOf 33 = 1 := by kernel_rfl
section
variable {H : Type} {enc : TypeId × Value → H} {W : World} {spare : Nat → Bool} {held : Bool}
theorem open_word : ∀ n cs y, DataW.trod enc Try.prog W 0 spare held n 49 cs = some y → ∃ x : Word, cs = wv x ∧ True := by
  intro n cs y h
  obtain ⟨hl, m, hf⟩ := open_struct und_word fs_word h
  rw [cof_word] at hl
  obtain ⟨_, h0⟩ := hf 0 _ _ rfl
  obtain ⟨_, h1⟩ := hf 1 _ _ rfl
  obtain ⟨_, h2⟩ := hf 2 _ _ rfl
  obtain ⟨a, ha⟩ := open_i h0
  obtain ⟨b, hb⟩ := open_i64 h1
  obtain ⟨c, hc⟩ := open_i h2
  refine ⟨⟨a, b, c⟩, ?_, trivial⟩
  match cs, hl with
  | [v0, v1, v2], _ =>
    simp at ha hb hc
    subst ha; subst hb; subst hc; rfl
theorem open_pair : ∀ n cs y, DataW.trod enc Try.prog W 0 spare held n 148 cs = some y → ∃ x : Pair, cs = pv x ∧ True := by
  intro n cs y h
  obtain ⟨hl, m, hf⟩ := open_struct und_pair fs_pair h
  rw [cof_pair] at hl
  obtain ⟨_, h0⟩ := hf 0 _ _ rfl
  obtain ⟨_, h1⟩ := hf 1 _ _ rfl
  rw [cof_word] at h0 h1
  obtain ⟨a, ha, _⟩ := open_word _ _ _ h0
  obtain ⟨b, hb, _⟩ := open_word _ _ _ h1
  refine ⟨⟨a, b⟩, ?_, trivial⟩
  match cs, hl with
  | [v0, v1, v2, v3, v4, v5], _ =>
    simp [wv] at ha hb
    obtain ⟨rfl, rfl, rfl⟩ := ha
    obtain ⟨rfl, rfl, rfl⟩ := hb
    rfl
theorem open_int1 : ∀ n cs y, DataW.trod enc Try.prog W 0 spare held n 3 cs = some y → ∃ x : Int, cs = iv x ∧ True := by
  intro n cs y h
  obtain ⟨k, e, _⟩ := DataW.trod_int und_int h
  exact ⟨k, e, trivial⟩
theorem open_cell : ∀ n cs y, DataW.trod enc Try.prog W 0 spare held n 123 cs = some y → ∃ x : CS, cs = csv x ∧ SlR (memOf W) 6 pv x.s x.c.pairs := by
  intro n cs y h
  obtain ⟨hl, m, hf⟩ := open_struct und_cell fs_cell h
  rw [cof_cell] at hl
  obtain ⟨_, h0⟩ := hf 0 _ _ rfl
  obtain ⟨_, h1⟩ := hf 1 _ _ rfl
  obtain ⟨_, h2⟩ := hf 2 _ _ rfl
  obtain ⟨_, h3⟩ := hf 3 _ _ rfl
  obtain ⟨_, h4⟩ := hf 4 _ _ rfl
  obtain ⟨_, h5⟩ := hf 5 _ _ rfl
  obtain ⟨_, h6⟩ := hf 6 _ _ rfl
  obtain ⟨_, h7⟩ := hf 7 _ _ rfl
  obtain ⟨a0, e0⟩ := open_i h0
  obtain ⟨a1, e1⟩ := open_i h1
  obtain ⟨a2, e2⟩ := open_i h2
  obtain ⟨a3, e3⟩ := open_i h3
  obtain ⟨a4, e4⟩ := open_i h4
  obtain ⟨a5, e5⟩ := open_i h5
  obtain ⟨a6, e6⟩ := open_i h6
  rw [cof_pairs] at h7
  obtain ⟨v, ps, e7, hs, _⟩ := open_sl (f := pv) (Q := fun _ => True) (fun _ => rfl) (by omega) und_pairs cof_pair open_pair h7
  obtain ⟨sa, cap, rfl⟩ := hs.len
  have e7 := take_one e7
  refine ⟨⟨⟨a0, a1, a2, a3, a4, a5, a6, ps⟩, sa, cap⟩, ?_, hs⟩
  match cs, hl with
  | [v0, v1, v2, v3, v4, v5, v6, v7], _ =>
    simp at e0 e1 e2 e3 e4 e5 e6 e7
    subst e0; subst e1; subst e2; subst e3; subst e4; subst e5; subst e6; subst e7; rfl
theorem open_heap {n : Nat} {cs : List Value} {y : DataW H × List MemPlace} (h : DataW.trod enc Try.prog W 0 spare held n 43 cs = some y) : ∃ x : HS, cs = hv x.H x.rs x.cs x.gs ∧ RHVR (memOf W) x := by
  obtain ⟨hl, m, hf⟩ := open_struct und_heap fs_heap h
  rw [cof_heap] at hl
  obtain ⟨_, h0⟩ := hf 0 _ _ rfl
  obtain ⟨_, h1⟩ := hf 1 _ _ rfl
  obtain ⟨_, h2⟩ := hf 2 _ _ rfl
  obtain ⟨_, h3⟩ := hf 3 _ _ rfl
  obtain ⟨_, h4⟩ := hf 4 _ _ rfl
  obtain ⟨_, h5⟩ := hf 5 _ _ rfl
  obtain ⟨_, h6⟩ := hf 6 _ _ rfl
  obtain ⟨_, h7⟩ := hf 7 _ _ rfl
  obtain ⟨_, h8⟩ := hf 8 _ _ rfl
  obtain ⟨_, h9⟩ := hf 9 _ _ rfl
  obtain ⟨_, h10⟩ := hf 10 _ _ rfl
  obtain ⟨_, h11⟩ := hf 11 _ _ rfl
  obtain ⟨_, h12⟩ := hf 12 _ _ rfl
  obtain ⟨a0, e0⟩ := open_i h0
  obtain ⟨a1, e1⟩ := open_i h1
  obtain ⟨a2, e2⟩ := open_i h2
  rw [cof_words] at h3
  obtain ⟨rv, rs, e3, hs3, _⟩ := open_sl (f := wv) (Q := fun _ => True) (fun _ => rfl) (by omega) und_words cof_word open_word h3
  rw [cof_cells] at h4
  obtain ⟨cv', ys, e4, hs4, hq4⟩ := open_sl (f := csv) (size := 8) (Q := fun x : CS => SlR (memOf W) 6 pv x.s x.c.pairs) (fun _ => rfl) (by omega) und_cells cof_cell open_cell h4
  obtain ⟨a5, e5⟩ := open_i h5
  obtain ⟨a6, e6⟩ := open_i h6
  obtain ⟨a7, e7⟩ := open_i h7
  rw [cof_ints] at h8
  obtain ⟨gv, gs, e8, hs8, _⟩ := open_sl (f := iv) (size := 1) (Q := fun _ => True) (fun _ => rfl) (by omega) und_ints cof_int open_int1 h8
  obtain ⟨a9, e9⟩ := open_i h9
  obtain ⟨a10, e10⟩ := open_i h10
  obtain ⟨a11, e11⟩ := open_i h11
  obtain ⟨a12, e12⟩ := open_i h12
  have e3 := take_one e3
  have e4 := take_one e4
  have e8 := take_one e8
  refine ⟨⟨⟨a0, a1, a2, rs, ys.map (·.c), a5, a6, a7, gs, a9, a10, a11, a12⟩, rv, cv', gv, ys⟩, ?_, ⟨hs3, ⟨hs4, hq4⟩, rfl, hs8⟩⟩
  match cs, hl with
  | [v0, v1, v2, v3, v4, v5, v6, v7, v8, v9, v10, v11, v12], _ =>
    simp at e0 e1 e2 e3 e4 e5 e6 e7 e8 e9 e10 e11 e12
    subst e0; subst e1; subst e2; subst e3; subst e4; subst e5; subst e6; subst e7; subst e8; subst e9; subst e10; subst e11; subst e12; rfl
end
end Go.Proofs.Ytcmllambknfleaa.E
