/- The engine, part J: a list of operations, in the order of the text and in whatever order a region draws. Conditions: none. -/
import Derived.Test.YtpcakglnklpjoaaEngI
set_option linter.unusedVariables false
set_option linter.unusedSimpArgs false
namespace Go.Proofs.Ytpcakglnklpjoaa.E
open Go

def slotOf (ops : Array Oper) (j : Nat) : Option Nat := (ops[j]?).bind (·.dst)
def dLt (nt : Nat) : Option Nat → Bool
  | some d => decide (d < nt)
  | none => true
def dOwn (own : List Nat) : Option Nat → Bool
  | some d => own.contains d
  | none => false
def trI (P : Program) (q : Bool) (own : List Nat) (nt : Nat) (ops : Array Oper) (o : Oper) : Option I :=
  match trK P q (dOwn own o.dst) o.op with
  | none => none
  | some k => if dstOk o.dst k && dLt nt o.dst then
      match o.guard with
      | none => some ⟨o.dst, none, k⟩
      | some (j, want) => match slotOf ops j with
        | some s => some ⟨o.dst, some (s, want), k⟩
        | none => none
    else none
def trL (P : Program) (own : List Nat) (nt : Nat) (ops : Array Oper) : Nat → List Oper → Option (List I)
  | _, [] => some []
  | n, o :: r => match trI P (decide (0 < n)) own nt ops o, trL P own nt ops (n - 1) r with
    | some i, some l => some (i :: l)
    | _, _ => none

def vcO (P : Program) (i : I) (post : St → Mem → Prop) (S : St) (M : Mem) : Prop :=
  match i.g with
  | none => vcK P i.k i.d post S M
  | some (s, want) => match S s with
    | .v (.bool b) => (b = want → vcK P i.k i.d post S M) ∧ (b ≠ want → post (put S i.d (.v undef)) M)
    | .v _ => post (put S i.d (.v undef)) M
    | _ => False
def vcL (P : Program) : List I → (St → Mem → Prop) → St → Mem → Prop
  | [], post => post
  | i :: r, post => vcO P i (vcL P r post)

section
variable {P : Program} {W0 : World} {M0 M M' : Mem} {β : Nat → Nat} {S : St} {f : Nat → SV} {n nt : Nat} {a : Act} {w w' : World} {own : List Nat} {ops : Array Oper}

theorem trI_some {q : Bool} {o : Oper} {i : I} (h : trI P q own nt ops o = some i) : ∃ ow, trK P q ow o.op = some i.k ∧ i.d = o.dst ∧ dstOk o.dst i.k = true ∧ (∀ t, o.dst = some t → t < nt) ∧
    ((o.guard = none ∧ i.g = none) ∨ ∃ j want s, o.guard = some (j, want) ∧ slotOf ops j = some s ∧ i.g = some (s, want)) := by
  unfold trI at h
  split at h
  · cases h
  · rename_i k hk
    split at h
    · rename_i hc
      simp only [Bool.and_eq_true] at hc
      obtain ⟨h1, h2⟩ := hc
      have h2' : ∀ t, o.dst = some t → t < nt := by
        intro t ht
        rw [ht] at h2
        simpa [dLt] using h2
      split at h
      · rename_i hg
        cases h
        exact ⟨_, hk, rfl, h1, h2', .inl ⟨hg, rfl⟩⟩
      · rename_i j want hg
        split at h
        · rename_i s hs
          cases h
          exact ⟨_, hk, rfl, h1, h2', .inr ⟨j, want, s, hg, hs, rfl⟩⟩
        · cases h
    · cases h
theorem yielded_bool (hR : RepF W0 M0 β f n M a w) {j s : Nat} {b : Bool} (hs : slotOf ops j = some s) (hf : f s = .v (.bool b)) : yielded ops a.tmps j = some b := by
  unfold yielded
  have hv := hR.sv s
  rw [hf] at hv
  have hv' : a.tmps.getD s undef = .bool b := hv
  have hsome : a.tmps[s]? = some (.bool b) := by
    rcases Nat.lt_or_ge s a.tmps.size with h | h
    · rw [Array.getElem?_eq_getElem h]; simp [h] at hv'; rw [hv']
    · simp [Array.getElem?_eq_none h, undef] at hv'
  unfold slotOf at hs
  rw [hs]
  simp only [Option.bind_some, hsome]
theorem yielded_other (hR : RepF W0 M0 β f n M a w) {j s : Nat} {x : Value} (hs : slotOf ops j = some s) (hf : f s = .v x) (hx : ∀ b, x ≠ .bool b) : yielded ops a.tmps j = none := by
  unfold yielded
  have hv := hR.sv s
  rw [hf] at hv
  have hv' : a.tmps.getD s undef = x := hv
  unfold slotOf at hs
  rw [hs]
  simp only [Option.bind_some]
  cases ht : a.tmps[s]? with
  | none => rfl
  | some y =>
    have : y = x := by
      simp only [Array.getD_eq_getD_getElem?, ht, Option.getD_some] at hv'; exact hv'
    subst this
    cases y <;> first | rfl | exact absurd rfl (hx _)

/-- ONE OPERATION, ITS GUARD AND ALL. -/
theorem vcO_sound {q : Bool} {o : Oper} {i : I} {K : Act → World → Prop} {Q : Exit → Act → World → Prop} {post : St → Mem → Prop} (hR : RepF W0 M0 β S nt M a w) (hi : trI P q own nt ops o = some i) (h : vcO P i post S M)
    (hK : ∀ S' M' a' w' β', post S' M' → RepF W0 M0 β' S' nt M' a' w' → K a' w') :
    if Region.wanted o (yielded ops a.tmps) then o.wp P a w K Q else K (a.put o.dst undef) w := by
  obtain ⟨ow, hk, hd, hdo, hlt, hg⟩ := trI_some hi
  have hlt' := hlt
  have hrun : vcK P i.k i.d post S M → o.wp P a w K Q := fun hv => vcK_sound hR hk hlt' hdo (hd ▸ hv) hK
  have hskip : post (put S i.d (.v undef)) M → K (a.put o.dst undef) w := fun hv => by
    rw [hd] at hv
    refine hK _ _ _ _ β hv ?_
    rw [upO_put]
    cases hdst : o.dst with
    | none => exact hR
    | some t => exact hR.put (hlt' t hdst) rfl
  unfold vcO at h
  rcases hg with ⟨hg, hig⟩ | ⟨j, want, s, hg, hs, hig⟩
  · rw [hig] at h
    rw [if_pos (by simp [Region.wanted, hg])]
    exact hrun h
  · rw [hig] at h
    simp only at h
    split at h
    · rename_i b hb
      have hy := yielded_bool hR hs hb
      by_cases hbw : b = want
      · rw [if_pos (by simp [Region.wanted, hg, hy, hbw])]
        exact hrun (h.1 hbw)
      · rw [if_neg (by simp [Region.wanted, hg, hy, hbw])]
        exact hskip (h.2 hbw)
    · rename_i x hnb hb
      have hy := yielded_other hR hs hb (fun b e => hnb b e)
      rw [if_neg (by simp [Region.wanted, hg, hy])]
      exact hskip h
    · exact h.elim

/-- A LIST OF OPERATIONS, in the order of the text. -/
theorem vcL_sound {Q : Exit → Act → World → Prop} {post : St → Mem → Prop}
    (hK : ∀ S' M' a' w' β', post S' M' → RepF W0 M0 β' S' nt M' a' w' → Q .normal a' w') :
    ∀ {l : List Oper} {il : List I} {q : Nat} {S : St} {M : Mem} {β : Nat → Nat} {a : Act} {w : World}, trL P own nt ops q l = some il → RepF W0 M0 β S nt M a w → vcL P il post S M → wpList P ops Q l a w
  | [], il, q, S, M, β, a, w, hl, hR, h => by
    simp only [trL, Option.some.injEq] at hl
    subst hl
    exact hK _ _ _ _ β h hR
  | o :: r, il, q, S, M, β, a, w, hl, hR, h => by
    simp only [trL] at hl
    split at hl
    · rename_i i l' h1 h2
      simp only [Option.some.injEq] at hl
      subst hl
      have := vcO_sound (Q := Q) (K := wpList P ops Q r) hR h1 h (fun S' M' a' w' β' hp hr => vcL_sound hK h2 hr hp)
      unfold wpList
      split
      · rename_i hw; rw [if_pos hw] at this; exact .inl this
      · rename_i hw; rw [if_neg hw] at this; exact this
    · cases hl
end
end Go.Proofs.Ytpcakglnklpjoaa.E
