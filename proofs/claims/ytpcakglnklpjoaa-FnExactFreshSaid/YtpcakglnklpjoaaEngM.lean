/- The engine, part M: a region that draws its order. Conditions: none. -/
import Derived.Test.YtpcakglnklpjoaaEngL
set_option linter.unusedVariables false
set_option linter.unusedSimpArgs false
namespace Go.Proofs.Ytpcakglnklpjoaa.E
open Go

section
variable {P : Program} {W0 : World} {M0 M M' : Mem} {β : Nat → Nat} {S : St} {f g f0 : Nat → SV} {n nt : Nat} {a : Act} {w w' : World} {own : List Nat} {ops : Array Oper} {l : List I} {rs rs' : Nat → SV} {ls ls' : Nat → Bool}

def inD (l : List I) (n : Nat) (s : Nat) : Prop := ∃ j, j < n ∧ dOf l j = some s
theorem junkD_spec {t s o : Nat} (ht : junkD (dsOf l n) (S t) = .bp s o) : ¬ inD l n s := by
  rintro ⟨j, hj, hd⟩
  have hin : s ∈ dsOf l n := by
    unfold dsOf
    rw [List.mem_filterMap]
    unfold dOf at hd
    cases hlj : l[j]? with
    | none => rw [hlj] at hd; cases hd
    | some x =>
      rw [hlj] at hd
      refine ⟨x, ?_, hd⟩
      apply List.mem_of_getElem? (i := j)
      rw [List.getElem?_take, if_pos hj, hlj]
  cases hS : S t with
  | bp s' o' =>
    rw [hS] at ht
    simp only [junkD] at ht
    split at ht
    · cases ht
    · rename_i hc
      cases ht
      exact hc (by simpa using hin)
  | _ => rw [hS] at ht; cases ht
theorem junkD_le (ds : List Nat) (g : Nat → SV) : leF (fun t => junkD ds (g t)) g := by
  intro t
  show junkD ds (g t) = .junk ∨ junkD ds (g t) = g t
  cases g t with
  | bp s o => simp only [junkD]; split <;> simp
  | _ => right; rfl

/-- what the order of the text comes to, up to place k -/
structure Lex (P : Program) (l : List I) (n : Nat) (f0 : Nat → SV) (M : Mem) (k : Nat) (rs : Nat → SV) : Prop where
  fo : ∀ i, i < k → ∃ x, l[i]? = some x ∧ FO P (Gs l n rs f0 (fun j => decide (j < i))) M x (rs i)
  nb : ∀ i s o, i < k → rs i = .bp s o → ¬ inD l n s
theorem lex_bp (hD : DC ops l n) (hn0 : ∀ t s o, f0 t = .bp s o → ¬ inD l n s) {k : Nat} (hk : k ≤ n) (h : Lex P l n f0 M k rs) (hls : ∀ j, ls j = true → j < k) {t s o : Nat} (e : Gs l n rs f0 ls t = .bp s o) : ¬ inD l n s := by
  rcases Gs_cases (rs := rs) (f0 := f0) (ls := ls) hD t with ⟨i, a1, a2, a3, a4⟩ | ⟨a1, a2⟩
  · rw [a4] at e; exact h.nb i s o (hls i a2) e
  · rw [a2] at e; exact hn0 t s o e
theorem lex_next (hD : DC ops l n) (hn0 : ∀ t s o, f0 t = .bp s o → ¬ inD l n s) {k : Nat} (hk : k < n) (h : Lex P l n f0 M k rs) {x : I} (hx : l[k]? = some x) {sv : SV} (hfo : FO P (Gs l n rs f0 (fun j => decide (j < k))) M x sv) :
    Lex P l n f0 M (k + 1) (fun j => if j = k then sv else rs j) := by
  have hg : ∀ i, i ≤ k → Gs l n (fun j => if j = k then sv else rs j) f0 (fun j => decide (j < i)) = Gs l n rs f0 (fun j => decide (j < i)) := by
    intro i hi
    refine Gs_rs hD fun j _ hj => ?_
    simp only [decide_eq_true_eq] at hj
    rw [if_neg (by omega)]
  refine ⟨fun i hi => ?_, fun i s o hi => ?_⟩
  · rw [hg i (by omega)]
    by_cases e : i = k
    · subst e; simp only [if_true]; exact ⟨x, hx, hfo⟩
    · simp only [e, if_false]; exact h.fo i (by omega)
  · by_cases e : i = k
    · subst e
      simp only [if_true]
      intro hsv
      subst hsv
      obtain ⟨t, ht, hc⟩ := FO_bp hfo
      have hslot : t ∈ slotsAt l i := by unfold slotsAt; rw [hx]; exact ht
      rcases hc with ⟨cs, hb, rfl⟩ | ⟨o', hb⟩
      · rintro ⟨j, hj, hd⟩
        have h3 := hD.h3 i hk t hslot j hj hd
        have hv : Gs l n rs f0 (fun j => decide (j < i)) t = rs j := Gs_hit hD hj (by simpa using h3.1) hd
        rw [hb] at hv
        obtain ⟨y, hy, hyfo⟩ := h.fo j h3.1
        have := FO_box (sv := rs j) (by rw [← hv]; rfl) hyfo
        exact hD.h4 j y hj hy this i hk t hslot hd
      · exact lex_bp hD hn0 (by omega) h (fun j hj => by simpa using hj) hb
    · simp only [e, if_false]; exact h.nb i s o (by omega)
/-- the floating part, in the order of the text -/
theorem lex_of (hD : DC ops l n) (hlen : l.length = ops.size) (hn0 : ∀ t s o, S t = .bp s o → ¬ inD l n s) {post : St → Mem → Prop} (h : vcL P l post S M) :
    ∀ k, k ≤ n → ∃ rs S', Lex P l n S M k rs ∧ vcL P (l.drop k) post S' M ∧ S' = Gs l n rs S (fun j => decide (j < k)) := by
  intro k
  induction k with
  | zero =>
    intro _
    refine ⟨fun _ => .junk, S, ⟨fun i hi => absurd hi (Nat.not_lt_zero _), fun i s o hi => absurd hi (Nat.not_lt_zero _)⟩, h, ?_⟩
    funext t
    exact (Gs_miss fun i _ hi => by simp at hi).symm
  | succ k ih =>
    intro hk
    obtain ⟨rs, S', hL, hv, hg⟩ := ih (by omega)
    obtain ⟨x, d, hx, hf, hd⟩ := hD.h1 k (by omega)
    have hklt : k < l.length := (List.getElem?_eq_some_iff.1 hx).1
    have hdr : l.drop k = x :: l.drop (k + 1) := by
      rw [List.drop_eq_getElem_cons hklt]
      congr 1
      exact (List.getElem?_eq_some_iff.1 hx).2
    rw [hdr] at hv
    obtain ⟨sv, hfo, hp⟩ := FO_of_vcO hf hv
    rw [hg] at hfo
    have hdk : dOf l k = some d := by unfold dOf; rw [hx]; exact hd
    refine ⟨_, _, lex_next hD hn0 (by omega) hL hx hfo, hp, ?_⟩
    · have e1 : putX S' x.d sv = upF S' d sv := by
        rw [hd]
        unfold putX
        cases hbx : sv.isBox with
        | false => simp only [Bool.false_eq_true, if_false, put]
        | true =>
          simp only [if_true, putB]
          funext t
          simp only [upF_eq]
          by_cases e : t = d
          · rw [if_pos e, if_pos e]
          · rw [if_neg e, if_neg e]
            cases hst : S' t with
            | bp s o =>
              simp only [junkB]
              rw [if_neg]
              intro es
              subst es
              rw [hg] at hst
              exact lex_bp hD hn0 (by omega) hL (fun j hj => by simpa using hj) hst ⟨k, by omega, hdk⟩
            | _ => rfl
      rw [e1, hg]
      have hstep := Gs_step (ls := fun j => decide (j < k)) (ls' := fun j => decide (j < k + 1)) (rs := rs) (rs' := fun j => if j = k then sv else rs j) (f0 := S) hD (show k < n by omega) hdk (by simp)
        (fun j => by
          by_cases h1 : j < k
          · simp [h1, show j < k + 1 by omega]
          · by_cases h2 : j = k
            · subst h2; simp
            · simp [h1, h2, show ¬ j < k + 1 by omega])
        (fun j _ hj => by
          simp only [decide_eq_true_eq] at hj
          exact if_neg (by omega))
      rw [hstep]
      simp only [if_true]

/-! ### Whatever order -/
theorem waits_spec {i j : Nat} {o : Oper} (ho : ops[i]? = some o) (h : Region.waitsFor .any ops i j = true) : ∃ e ∈ o.after, Region.binds .any e = true ∧ e.on = j := by
  obtain ⟨oj, hoj, e, he, hb, hon⟩ := Region.waitsFor_spec h
  rw [ho] at hoj
  cases hoj
  exact ⟨e, he, hb, hon⟩
theorem trL_len : ∀ {lo : List Oper} {q : Nat} {il : List I}, trL P own nt ops q lo = some il → il.length = lo.length
  | [], q, il, h => by simp only [trL, Option.some.injEq] at h; subst h; rfl
  | o :: r, q, il, h => by
    simp only [trL] at h
    split at h
    · rename_i i l' h1 h2
      simp only [Option.some.injEq] at h
      subst h
      simp [trL_len h2]
    · cases h
theorem trL_get : ∀ {lo : List Oper} {q : Nat} {il : List I}, trL P own nt ops q lo = some il → ∀ i o, lo[i]? = some o → ∃ x, il[i]? = some x ∧ trI P (decide (i < q)) own nt ops o = some x
  | [], q, il, h, i, o, ho => by simp at ho
  | o' :: r, q, il, h, i, o, ho => by
    simp only [trL] at h
    split at h
    · rename_i y l' h1 h2
      simp only [Option.some.injEq] at h
      subst h
      cases i with
      | zero =>
        simp only [List.getElem?_cons_zero, Option.some.injEq] at ho
        subst ho
        exact ⟨y, by simp, h1⟩
      | succ i =>
        simp only [List.getElem?_cons_succ] at ho
        obtain ⟨x, hx, ht⟩ := trL_get h2 i o ho
        refine ⟨x, by simpa using hx, ?_⟩
        rw [← ht]
        congr 1
        simp only [decide_eq_decide]; omega
    · cases h
/-- one floating operation, when its turn comes -/
theorem float_step (hD : DC ops l n) (hn0 : ∀ t s o, f0 t = .bp s o → ¬ inD l n s) (hL : Lex P l n f0 M n rs) {q i : Nat} {o : Oper} {x : I} (hi : i < n) (ho : ops[i]? = some o) (hx : l[i]? = some x) (htr : trI P (decide (i < q)) own nt ops o = some x)
    (hun : ls i = false) (hdep : ∀ j, j < n → Region.waitsFor .any ops i j = true → ls j = true) (hR : RepF W0 M0 β (Gs l n rs f0 ls) nt M a w) {K : Act → World → Prop} {Q : Exit → Act → World → Prop}
    (hK : ∀ a' w' β' , RepF W0 M0 β' (Gs l n rs f0 (fun j => ls j || j == i)) nt M a' w' → K a' w') : wpOp P ops Q i K a w := by
  obtain ⟨ow, hk, hd, hdo, hlt, hg⟩ := trI_some htr
  obtain ⟨y, d, hy, hfl, hyd⟩ := hD.h1 i hi
  rw [hx] at hy
  cases hy
  obtain ⟨y, hy, hfo⟩ := hL.fo i hi
  rw [hx] at hy
  cases hy
  have hod : o.dst = some d := by rw [← hd]; exact hyd
  have hdi : dOf l i = some d := by unfold dOf; rw [hx]; exact hyd
  -- what it looks at is as it is in the order of the text
  have hag : ∀ t, t ∈ x.slots → Gs l n rs f0 (fun j => decide (j < i)) t = Gs l n rs f0 ls t ∧ ∀ s o, Gs l n rs f0 (fun j => decide (j < i)) t = .bp s o → Gs l n rs f0 (fun j => decide (j < i)) s = Gs l n rs f0 ls s := by
    intro t ht
    have hslot : t ∈ slotsAt l i := by unfold slotsAt; rw [hx]; exact ht
    refine ⟨?_, fun s o' hs => ?_⟩
    · rcases Gs_cases (rs := rs) (f0 := f0) (ls := ls) hD t with ⟨j, a1, a2, a3, a4⟩ | ⟨a1, a2⟩
      · rw [a4]
        have h3 := hD.h3 i hi t hslot j a1 a3
        exact Gs_hit hD a1 (by simpa using h3.1) a3
      · rw [a2]
        refine Gs_miss fun j hj hjl hjd => ?_
        have h3 := hD.h3 i hi t hslot j hj hjd
        exact a1 j hj (hdep j hj h3.2) hjd
    · have hnd := lex_bp hD hn0 (Nat.le_refl n) hL (ls := fun j => decide (j < i)) (fun j hj => by simp only [decide_eq_true_eq] at hj; omega) hs
      rw [Gs_miss (fun j hj _ hjd => hnd ⟨j, hj, hjd⟩), Gs_miss (fun j hj _ hjd => hnd ⟨j, hj, hjd⟩)]
  have hfo' := FO_agree hag hfo
  have hnext : ∀ a' w' β', RepF W0 M0 β' (upO (Gs l n rs f0 ls) o.dst (rs i)) nt M a' w' → K a' w' := by
    intro a' w' β' hR'
    refine hK a' w' β' ?_
    rw [hod] at hR'
    rw [Gs_step (rs := rs) hD hi hdi hun (fun j => rfl) (fun j _ _ => rfl)]
    exact hR'
  have hnb : (rs i).isBox = true → ∃ d, o.dst = some d ∧ ∀ t o', t ≠ d → Gs l n rs f0 ls t ≠ .bp d o' := by
    intro _
    refine ⟨d, hod, fun t o' _ e => ?_⟩
    have hall : ∀ t s o, Gs l n rs f0 ls t = .bp s o → ¬ inD l n s := by
      intro t s o e
      rcases Gs_cases (rs := rs) (f0 := f0) (ls := ls) hD t with ⟨j, a1, a2, a3, a4⟩ | ⟨a1, a2⟩
      · rw [a4] at e; exact hL.nb j s o a1 e
      · rw [a2] at e; exact hn0 t s o e
    exact hall t d o' e ⟨i, hi, hdi⟩
  have hrun : FE P (Gs l n rs f0 ls) M x.k (rs i) → o.wp P a w K Q := fun hfe => fe_exec hR hk hfe (fun t ht => hlt t ht) hnb hnext
  unfold wpOp
  rw [ho]
  simp only
  unfold FO at hfo'
  rcases hg with ⟨hg, hig⟩ | ⟨j, want, s, hg, hs, hig⟩
  · rw [hig] at hfo'
    rw [if_pos (by simp [Region.wanted, hg])]
    exact .inl (hrun hfo')
  · rw [hig] at hfo'
    simp only at hfo'
    split at hfo'
    · rename_i b hb
      have hy := yielded_bool hR hs hb
      rcases hfo' with ⟨hbw, hfe⟩ | ⟨hbw, hsv⟩
      · rw [if_pos (by simp [Region.wanted, hg, hy, hbw])]
        exact .inl (hrun hfe)
      · rw [if_neg (by simp [Region.wanted, hg, hy, hbw])]
        refine hnext _ _ β ?_
        rw [hod, hsv]
        exact hR.put (hlt d hod) rfl
    · rename_i v hnb' hb
      have hy := yielded_other hR hs hb (fun b e => hnb' b e)
      rw [if_neg (by simp [Region.wanted, hg, hy])]
      refine hnext _ _ β ?_
      rw [hod, hfo']
      exact hR.put (hlt d hod) rfl
    · exact hfo'.elim
end
end Go.Proofs.Ytpcakglnklpjoaa.E
