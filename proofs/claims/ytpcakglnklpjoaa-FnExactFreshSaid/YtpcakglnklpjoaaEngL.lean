/- The engine, part L: the theorem on drawn orders. Conditions: none. -/
import Derived.Test.YtpcakglnklpjoaaEngK
set_option linter.unusedVariables false
set_option linter.unusedSimpArgs false
namespace Go.Proofs.Ytpcakglnklpjoaa.E
open Go

structure DC (ops : Array Oper) (l : List I) (n : Nat) : Prop where
  h1 : ∀ i, i < n → ∃ x d, l[i]? = some x ∧ floatK x.k = true ∧ x.d = some d
  h2 : ∀ i j, i < n → j < n → i ≠ j → dOf l i ≠ dOf l j
  h3 : ∀ i, i < n → ∀ t, t ∈ slotsAt l i → ∀ j, j < n → dOf l j = some t → j < i ∧ Region.waitsFor .any ops i j = true
  h4 : ∀ i x, i < n → l[i]? = some x → boxK x.k = true → ∀ j, j < n → ∀ t, t ∈ slotsAt l j → dOf l i ≠ some t
  h5 : ∀ i o, ops[i]? = some o → ∀ e ∈ o.after, Region.binds .any e = true → e.on < i
  h6 : n = ops.size ∨ (n < ops.size ∧ Region.sinkB .any ops n = true ∧ Region.chainB .any ops n = true)
theorem DC.of {ops : Array Oper} {l : List I} {n : Nat} (h : drawB ops l n = true) : DC ops l n := by
  unfold drawB at h
  simp only [Bool.and_eq_true] at h
  obtain ⟨⟨⟨⟨⟨a1, a2⟩, a3⟩, a4⟩, a5⟩, a6⟩ := h
  have b2 : ∀ i j, i < n → j < i → dOf l i ≠ dOf l j := by
    intro i j hi hj
    have := List.all_eq_true.1 (List.all_eq_true.1 a2 i (List.mem_range.2 hi)) j (List.mem_range.2 hj)
    simpa using this
  refine ⟨?_, ?_, ?_, ?_, ?_, ?_⟩
  · intro i hi
    have := List.all_eq_true.1 a1 i (List.mem_range.2 hi)
    split at this
    · rename_i x hx
      simp only [Bool.and_eq_true] at this
      obtain ⟨d, hd⟩ := Option.isSome_iff_exists.1 this.2
      exact ⟨x, d, hx, this.1, hd⟩
    · cases this
  · intro i j hi hj hne
    rcases Nat.lt_or_gt_of_ne hne with h | h
    · exact fun e => b2 j i hj h e.symm
    · exact b2 i j hi h
  · intro i hi t ht j hj hd
    have := List.all_eq_true.1 (List.all_eq_true.1 (List.all_eq_true.1 a3 i (List.mem_range.2 hi)) t ht) j (List.mem_range.2 hj)
    rw [hd] at this
    simpa using this
  · intro i x hi hx hb j hj t ht hd
    have := List.all_eq_true.1 a4 i (List.mem_range.2 hi)
    rw [hx] at this
    simp only [hb, Bool.not_true, Bool.false_or] at this
    have := List.all_eq_true.1 this j (List.mem_range.2 hj)
    simp only [Bool.not_eq_true'] at this
    have h2 := List.any_eq_false.1 this t ht
    rw [hd] at h2
    simp at h2
  · intro i o ho e he hb
    have hi : i < ops.size := (Array.getElem?_eq_some_iff.1 ho).1
    have := List.all_eq_true.1 a5 i (List.mem_range.2 hi)
    rw [ho] at this
    have := Array.all_eq_true_iff_forall_mem.1 this e he
    rw [hb] at this
    simpa using this
  · simp only [Bool.or_eq_true, beq_iff_eq, Bool.and_eq_true, decide_eq_true_eq] at a6
    rcases a6 with h | ⟨⟨h1, h2⟩, h3⟩
    · exact .inl h
    · exact .inr ⟨h1, h2, h3⟩

/-- the slots when these of the floating operations have been done -/
def Gs (l : List I) (n : Nat) (rs : Nat → SV) (f0 : Nat → SV) (listed : Nat → Bool) : Nat → SV := fun t =>
  match (List.range n).find? (fun i => listed i && dOf l i == some t) with
  | some i => rs i
  | none => f0 t

section
variable {P : Program} {W0 : World} {M0 M M' : Mem} {β : Nat → Nat} {S : St} {f g f0 : Nat → SV} {n nt : Nat} {a : Act} {w w' : World} {own : List Nat} {ops : Array Oper} {l : List I} {rs rs' : Nat → SV} {ls ls' : Nat → Bool}

theorem Gs_hit (hD : DC ops l n) {i t : Nat} (hi : i < n) (h1 : ls i = true) (h2 : dOf l i = some t) : Gs l n rs f0 ls t = rs i := by
  unfold Gs
  cases hf : (List.range n).find? (fun i => ls i && dOf l i == some t) with
  | none =>
    have := List.find?_eq_none.1 hf i (List.mem_range.2 hi)
    simp [h1, h2] at this
  | some j =>
    have hj := List.find?_some hf
    have hjn := List.mem_range.1 (List.mem_of_find?_eq_some hf)
    simp only [Bool.and_eq_true, beq_iff_eq] at hj
    by_cases e : i = j
    · subst e; rfl
    · exact absurd (h2.trans hj.2.symm) (hD.h2 i j hi hjn e)
theorem Gs_miss {t : Nat} (h : ∀ i, i < n → ls i = true → dOf l i ≠ some t) : Gs l n rs f0 ls t = f0 t := by
  unfold Gs
  cases hf : (List.range n).find? (fun i => ls i && dOf l i == some t) with
  | none => rfl
  | some j =>
    have hj := List.find?_some hf
    have hjn := List.mem_range.1 (List.mem_of_find?_eq_some hf)
    simp only [Bool.and_eq_true, beq_iff_eq] at hj
    exact absurd hj.2 (h j hjn hj.1)
theorem Gs_cases (hD : DC ops l n) (t : Nat) : (∃ i, i < n ∧ ls i = true ∧ dOf l i = some t ∧ Gs l n rs f0 ls t = rs i) ∨ ((∀ i, i < n → ls i = true → dOf l i ≠ some t) ∧ Gs l n rs f0 ls t = f0 t) := by
  by_cases h : ∃ i, i < n ∧ ls i = true ∧ dOf l i = some t
  · obtain ⟨i, a1, a2, a3⟩ := h
    exact .inl ⟨i, a1, a2, a3, Gs_hit hD a1 a2 a3⟩
  · have : ∀ i, i < n → ls i = true → dOf l i ≠ some t := fun i a1 a2 a3 => h ⟨i, a1, a2, a3⟩
    exact .inr ⟨this, Gs_miss this⟩
theorem Gs_step (hD : DC ops l n) {i d : Nat} (hi : i < n) (hd : dOf l i = some d) (hu : ls i = false) (hl : ∀ j, ls' j = (ls j || j == i)) (hrs : ∀ j, j < n → ls j = true → rs' j = rs j) :
    Gs l n rs' f0 ls' = upF (Gs l n rs f0 ls) d (rs' i) := by
  funext t
  simp only [upF_eq]
  by_cases e : t = d
  · subst e
    rw [if_pos rfl]
    exact Gs_hit hD hi (by rw [hl]; simp) hd
  · rw [if_neg e]
    rcases Gs_cases (rs := rs) (f0 := f0) (ls := ls) hD t with ⟨j, a1, a2, a3, a4⟩ | ⟨a1, a2⟩
    · rw [a4, Gs_hit hD a1 (by rw [hl, a2]; rfl) a3]
      exact hrs j a1 a2
    · rw [a2]
      refine Gs_miss fun j b1 b2 b3 => ?_
      rw [hl] at b2
      simp only [Bool.or_eq_true, beq_iff_eq] at b2
      rcases b2 with b2 | b2
      · exact a1 j b1 b2 b3
      · subst b2; rw [hd] at b3; exact e (Option.some.inj b3).symm
theorem Gs_rs (hD : DC ops l n) (hrs : ∀ j, j < n → ls j = true → rs' j = rs j) : Gs l n rs' f0 ls = Gs l n rs f0 ls := by
  funext t
  rcases Gs_cases (rs := rs) (f0 := f0) (ls := ls) hD t with ⟨j, a1, a2, a3, a4⟩ | ⟨a1, a2⟩
  · rw [a4, Gs_hit hD a1 a2 a3]; exact hrs j a1 a2
  · rw [a2]; exact Gs_miss a1

/-- where a pointer into a box comes from -/
theorem FO_bp {x : I} {s o : Nat} (h : FO P f M x (.bp s o)) : ∃ t, t ∈ x.slots ∧ ((∃ cs, f t = .box cs ∧ t = s) ∨ ∃ o', f t = .bp s o') := by
  have key : FE P f M x.k (.bp s o) → ∃ t, t ∈ x.slots ∧ ((∃ cs, f t = .box cs ∧ t = s) ∨ ∃ o', f t = .bp s o') := by
    intro hfe
    rcases hfe with hfe | hfe
    · cases hk : x.k <;> rw [hk] at hfe <;> simp only [pe] at hfe
      case faddr off y =>
        split at hfe
        · rename_i s' o' hl
          simp only [Option.some.injEq, SV.bp.injEq] at hfe
          obtain ⟨rfl, rfl⟩ := hfe
          cases y with
          | tmp t =>
            refine ⟨t, by unfold I.slots; rw [hk]; simp [K.ops, tmpsOf], ?_⟩
            simp only [lc] at hl
            cases hf : f t with
            | v y => rw [hf] at hl; obtain ⟨b, o', e', _⟩ := lcV_mm hl; cases e'
            | box cs => rw [hf] at hl; simp only [Option.some.injEq, Lc.bx.injEq] at hl; exact .inl ⟨cs, rfl, hl.1⟩
            | bp s' o'' => rw [hf] at hl; simp only [Option.some.injEq, Lc.bx.injEq] at hl; exact .inr ⟨o'', by rw [hl.1]⟩
            | _ => rw [hf] at hl; cases hl
          | const x => obtain ⟨b, o', e', _⟩ := lcV_mm hl; cases e'
          | global g => simp [lc] at hl
          | func g => simp [lc] at hl
        · simp at hfe
        · cases hfe
      all_goals first
        | (cases hfe; done)
        | (simp only [Option.map_eq_some_iff] at hfe; obtain ⟨_, _, h2⟩ := hfe; cases h2; done)
        | ((repeat' split at hfe) <;> first | (cases hfe; done) | (simp only [Option.map_eq_some_iff] at hfe; obtain ⟨_, _, h2⟩ := hfe; cases h2; done))
    · cases hk : x.k <;> rw [hk] at hfe <;> first
        | (exact hfe.elim)
        | (obtain ⟨b, o, cs, v, _, _, _, h⟩ := hfe; cases h; done)
        | (obtain ⟨es, c, j, _, _, _, h⟩ := hfe; cases h; done)
        | (obtain ⟨args, r, _, _, h⟩ := hfe; cases h; done)
        | skip
      case alloc ow z => cases ow <;> first | exact hfe.elim | cases hfe
      case box ow z => cases ow <;> first | exact hfe.elim | (obtain ⟨_, _, h⟩ := hfe; cases h)
      case bslice ow len size z ps => cases ow <;> first | exact hfe.elim | (obtain ⟨_, _, h⟩ := hfe; cases h)
  unfold FO at h
  cases hg : x.g with
  | none => rw [hg] at h; exact key h
  | some p =>
    obtain ⟨s', want⟩ := p
    rw [hg] at h
    simp only at h
    split at h
    · rcases h with ⟨_, h⟩ | ⟨_, h⟩
      · exact key h
      · cases h
    · cases h
    · exact h.elim
theorem FO_box {x : I} {sv : SV} (hb : sv.isBox = true) (h : FO P f M x sv) : boxK x.k = true := by
  have key : FE P f M x.k sv → boxK x.k = true := by
    intro hfe
    rcases hfe with hfe | hfe
    · exfalso
      have : ∀ {k : K} {sv : SV}, pe f k = some sv → sv.isBox = false := by
        intro k sv h
        cases k <;> simp only [pe] at h
        all_goals first
          | (cases h; done)
          | (simp only [Option.map_eq_some_iff] at h; obtain ⟨_, _, rfl⟩ := h; rfl)
          | ((repeat' split at h) <;> first | (cases h; done) | (simp only [Option.some.injEq] at h; subst h; rfl) | (simp only [Option.map_eq_some_iff] at h; obtain ⟨_, _, rfl⟩ := h; rfl))
      rw [this hfe] at hb; cases hb
    · cases hk : x.k <;> rw [hk] at hfe <;> first
        | (exact hfe.elim)
        | (obtain ⟨b, o, cs, v, _, _, _, rfl⟩ := hfe; cases hb; done)
        | (obtain ⟨es, c, j, _, _, _, rfl⟩ := hfe; cases hb; done)
        | (obtain ⟨args, r, _, _, rfl⟩ := hfe; cases hb; done)
        | rfl
  unfold FO at h
  cases hg : x.g with
  | none => rw [hg] at h; exact key h
  | some p =>
    obtain ⟨s', want⟩ := p
    rw [hg] at h
    simp only at h
    split at h
    · rcases h with ⟨_, h⟩ | ⟨_, h⟩
      · exact key h
      · subst h; cases hb
    · subst h; cases hb
    · exact h.elim
end
end Go.Proofs.Ytpcakglnklpjoaa.E
