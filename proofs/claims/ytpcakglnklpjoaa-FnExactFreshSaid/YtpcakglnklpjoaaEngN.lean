/- The engine, part N: a drawn region, whole. Conditions: none. -/
import Derived.Test.YtpcakglnklpjoaaEngM
set_option linter.unusedVariables false
set_option linter.unusedSimpArgs false
namespace Go.Proofs.Ytpcakglnklpjoaa.E
open Go

section
variable {P : Program} {W0 : World} {M0 M M' : Mem} {β : Nat → Nat} {S : St} {f g f0 : Nat → SV} {n nt : Nat} {a : Act} {w w' : World} {own : List Nat} {ops : Array Oper} {l : List I} {rs rs' : Nat → SV} {ls ls' : Nat → Bool}

theorem getD_true_false {listed : Array Bool} {i : Nat} (hi : i < listed.size) : listed.getD i true = listed.getD i false := by simp [hi]
theorem listed_set {listed : Array Bool} {i j : Nat} (hi : i < listed.size) : (listed.setIfInBounds i true).getD j false = (listed.getD j false || j == i) := by
  by_cases e : j = i
  · subst e; simp [hi]
  · rw [getD_set_ne false (Ne.symm e)]
    have : (j == i) = false := by simpa using e
    rw [this]; simp

/-- THE CHAIN. -/
theorem chain_any (hD : DC ops l n) {q : Nat} (htr : trL P own nt ops q ops.toList = some l) {Q : Exit → Act → World → Prop} {post : St → Mem → Prop}
    (hK : ∀ S' M' a' w' β', post S' M' → RepF W0 M0 β' S' nt M' a' w' → Q .normal a' w') :
    ∀ (m t : Nat) (listed : Array Bool) (S : St) (M : Mem) (β : Nat → Nat) (a : Act) (w : World), ops.size - t = m → n ≤ t → t ≤ ops.size → listed.size = ops.size → (∀ j, j < ops.size → listed.getD j false = decide (j < t)) →
      vcL P (l.drop t) post S M → RepF W0 M0 β S nt M a w → wpAny P .any ops Q m listed a w := by
  have hlen : l.length = ops.size := by rw [trL_len htr]; simp
  have hunl : ∀ {listed : Array Bool} {t j : Nat}, listed.size = ops.size → (∀ j, j < ops.size → listed.getD j false = decide (j < t)) → j ∈ Region.ready .any ops listed → j < ops.size ∧ ¬ j < t := by
    intro listed t j hsz hl hj
    obtain ⟨h0, o, ho, _⟩ := mem_ready.1 hj
    have hjs : j < ops.size := (Array.getElem?_eq_some_iff.1 ho).1
    refine ⟨hjs, fun h => ?_⟩
    rw [getD_true_false (by omega), hl j hjs] at h0
    simp [h] at h0
  intro m
  induction m with
  | zero =>
    intro t listed S M β a w hm hn ht hsz hl hv hR
    have hte : t = ops.size := by omega
    subst hte
    have hr : Region.ready .any ops listed = [] := by
      apply List.eq_nil_iff_forall_not_mem.2
      intro j hj
      have := hunl hsz hl hj; omega
    refine ⟨hr, ?_⟩
    rw [show l.drop ops.size = [] from List.drop_eq_nil_of_le (by omega)] at hv
    exact hK _ _ _ _ β hv hR
  | succ m ih =>
    intro t listed S M β a w hm hn ht hsz hl hv hR
    have hts : t < ops.size := by omega
    obtain ⟨o, ho⟩ : ∃ o, ops[t]? = some o := ⟨_, Array.getElem?_eq_getElem hts⟩
    have hready : t ∈ Region.ready .any ops listed := by
      refine mem_ready.2 ⟨by rw [getD_true_false (by omega), hl t hts]; simp, o, ho, fun e he hb => ?_⟩
      have := hD.h5 t o ho e he hb
      rw [hl e.on (by omega)]; simpa using this
    refine ⟨fun h => (by rw [h] at hready; cases hready), fun i hi => ?_⟩
    have hit : i = t := by
      obtain ⟨h1, h2⟩ := hunl hsz hl hi
      by_cases e : i = t
      · exact e
      · exfalso
        have hgt : t < i := by omega
        have hne : n ≠ ops.size := by omega
        rcases hD.h6 with h | ⟨_, _, hc⟩
        · exact hne h
        · have h1 := List.all_eq_true.1 hc i (List.mem_range.2 (by omega))
          simp only [Bool.or_eq_true, decide_eq_true_eq] at h1
          rcases h1 with h1 | h1
          · omega
          · obtain ⟨h0, o', ho', hall⟩ := mem_ready.1 hi
            obtain ⟨e', he', hb', hon⟩ := waits_spec ho' h1
            have := hall e' he' hb'
            rw [hon, hl (i - 1) (by omega)] at this
            simp at this; omega
    subst hit
    have hdr : l.drop i = l[i]'(by omega) :: l.drop (i + 1) := List.drop_eq_getElem_cons (by omega)
    rw [hdr] at hv
    obtain ⟨x, hx, htx⟩ := trL_get htr i o (by rw [Array.getElem?_toList]; exact ho)
    have hxe : l[i]'(by omega) = x := by
      have := List.getElem?_eq_getElem (l := l) (i := i) (by omega)
      rw [hx] at this; exact (Option.some.inj this).symm
    rw [hxe] at hv
    have hstep := vcO_sound (Q := Q) (K := wpAny P .any ops Q m (listed.setIfInBounds i true)) hR htx hv (fun S' M' a' w' β' hp hr => by
      refine ih (i + 1) (listed.setIfInBounds i true) S' M' β' a' w' (by omega) (by omega) (by omega) (by simpa using hsz) ?_ hp hr
      intro j hj
      rw [listed_set (by omega), hl j hj]
      by_cases e : j = i
      · subst e; simp
      · have : (j == i) = false := by simpa using e
        rw [this]
        by_cases h1 : j < i
        · simp [h1, show j < i + 1 by omega]
        · simp [h1, show ¬ j < i + 1 by omega])
    unfold wpOp
    rw [ho]
    simp only
    split
    · rename_i hw; rw [if_pos hw] at hstep; exact .inl hstep
    · rename_i hw; rw [if_neg hw] at hstep; exact hstep

theorem least_mem : ∀ {U : List Nat}, U ≠ [] → ∃ i, i ∈ U ∧ ∀ j, j ∈ U → i ≤ j
  | [], h => absurd rfl h
  | [x], _ => ⟨x, by simp, fun j hj => by simp at hj; omega⟩
  | x :: y :: r, _ => by
    obtain ⟨i, hi, hm⟩ := least_mem (U := y :: r) (by simp)
    by_cases h : x ≤ i
    · exact ⟨x, by simp, fun j hj => by
        rcases List.mem_cons.1 hj with h' | h'
        · omega
        · have := hm j h'; omega⟩
    · exact ⟨i, List.mem_cons_of_mem _ hi, fun j hj => by
        rcases List.mem_cons.1 hj with h' | h'
        · omega
        · exact hm j h'⟩

/-- WHATEVER ORDER. -/
theorem float_any (hD : DC ops l n) (hnl : n ≤ ops.size) (htr : trL P own nt ops n ops.toList = some l) (hn0 : ∀ t s o, S t = .bp s o → ¬ inD l n s) (hL : Lex P l n S M n rs) {Q : Exit → Act → World → Prop}
    (htail : ∀ (listed : Array Bool) (a : Act) (w : World) (β : Nat → Nat), listed.size = ops.size → (∀ j, j < ops.size → listed.getD j false = decide (j < n)) → RepF W0 M0 β (Gs l n rs S (fun j => decide (j < n))) nt M a w → wpAny P .any ops Q (ops.size - n) listed a w) :
    ∀ (m : Nat) (U : List Nat) (listed : Array Bool) (a : Act) (w : World) (β : Nat → Nat), U.length = m → U.Nodup → (∀ i, i ∈ U ↔ i < n ∧ listed.getD i false = false) → HeadInv .any ops n listed →
      RepF W0 M0 β (Gs l n rs S (fun j => listed.getD j false)) nt M a w → wpAny P .any ops Q (m + (ops.size - n)) listed a w := by
  intro m
  induction m with
  | zero =>
    intro U listed a w β hU hnd hmem inv hR
    rw [Nat.zero_add]
    have hU0 : U = [] := List.eq_nil_of_length_eq_zero hU
    subst hU0
    have hall : ∀ j, j < n → listed.getD j false = true := by
      intro j hj
      cases h : listed.getD j false with
      | true => rfl
      | false => have := (hmem j).2 ⟨hj, h⟩; cases this
    refine htail listed a w β inv.size (fun j hj => ?_) ?_
    · by_cases h : j < n
      · rw [hall j h]; simp [h]
      · have := inv.tail j (by omega)
        rcases Nat.lt_or_ge j ops.size with h' | h'
        · have := inv.tail j (by omega) h'
          rw [getD_true_false (by rw [inv.size]; omega)] at this
          rw [this]; simp [h]
        · omega
    · have : Gs l n rs S (fun j => listed.getD j false) = Gs l n rs S (fun j => decide (j < n)) := by
        funext t
        rcases Gs_cases (rs := rs) (f0 := S) (ls := fun j => listed.getD j false) hD t with ⟨j, a1, a2, a3, a4⟩ | ⟨a1, a2⟩
        · rw [a4, Gs_hit hD a1 (by simpa using a1) a3]
        · rw [a2]
          exact (Gs_miss fun j hj _ hd => a1 j hj (hall j hj) hd).symm
      rw [this] at hR
      exact hR
  | succ m ih =>
    intro U listed a w β hU hnd hmem inv hR
    rw [Nat.add_right_comm]
    have hUne : U ≠ [] := by intro h; subst h; cases hU
    -- some one is ready
    obtain ⟨i0, hi0, hleast⟩ := least_mem hUne
    obtain ⟨hi0n, hi0u⟩ := (hmem i0).1 hi0
    have hi0s : i0 < ops.size := by omega
    have hready0 : i0 ∈ Region.ready .any ops listed := by
      obtain ⟨o, ho⟩ : ∃ o, ops[i0]? = some o := ⟨_, Array.getElem?_eq_getElem hi0s⟩
      refine mem_ready.2 ⟨by rw [getD_true_false (by rw [inv.size]; omega)]; exact hi0u, o, ho, fun e he hb => ?_⟩
      have hlt := hD.h5 i0 o ho e he hb
      cases hle : listed.getD e.on false with
      | true => rfl
      | false =>
        have := hleast e.on ((hmem e.on).2 ⟨by omega, hle⟩)
        omega
    refine ⟨fun h => (by rw [h] at hready0; cases hready0), fun i hi => ?_⟩
    obtain ⟨hun, o, ho, hall⟩ := mem_ready.1 hi
    have his : i < ops.size := (Array.getElem?_eq_some_iff.1 ho).1
    have hin : i < n := by
      rcases hD.h6 with h | ⟨hn, hs, hc⟩
      · omega
      · rcases Nat.lt_or_ge i n with h | h
        · exact h
        · exact absurd hi (tail_waits hs hc hn inv _ i0 rfl hi0n (by rw [getD_true_false (by rw [inv.size]; omega)]; exact hi0u) i h)
    rw [getD_true_false (by rw [inv.size]; omega)] at hun
    obtain ⟨x, hx, htx⟩ := trL_get htr i o (by rw [Array.getElem?_toList]; exact ho)
    refine float_step (ls := fun j => listed.getD j false) hD hn0 hL hin ho hx htx hun (fun j hj hw => ?_) hR ?_
    · obtain ⟨e, he, hb, hon⟩ := waits_spec ho hw
      have := hall e he hb
      rw [hon] at this; exact this
    · intro a' w' β' hR'
      have hiU : i ∈ U := (hmem i).2 ⟨hin, hun⟩
      refine ih (U.erase i) (listed.setIfInBounds i true) a' w' β' ?_ (hnd.erase i) ?_ (inv.set hi hin) ?_
      · rw [List.length_erase_of_mem hiU]; omega
      · intro j
        rw [hnd.mem_erase_iff, hmem j, listed_set (by rw [inv.size]; omega)]
        constructor
        · rintro ⟨h1, h2, h3⟩
          refine ⟨h2, ?_⟩
          rw [h3]; simpa using h1
        · rintro ⟨h1, h2⟩
          simp only [Bool.or_eq_false_iff, beq_eq_false_iff_ne, ne_eq] at h2
          exact ⟨h2.2, h1, h2.1⟩
      · have : (fun j => (listed.setIfInBounds i true).getD j false) = fun j => (listed.getD j false || j == i) := by
          funext j; exact listed_set (by rw [inv.size]; omega)
        rw [this]; exact hR'

/-- A REGION THAT DRAWS ITS ORDER. -/
theorem draw_sound {id : Nat} (hm : P.follows .mixedOrders = true) (htr : trL P own nt ops n ops.toList = some l) (hB : drawB ops l n = true) {Q : Exit → Act → World → Prop} {post : St → Mem → Prop}
    (hR : RepF W0 M0 β S nt M a w) (h : vcL P l post (fun t => junkD (dsOf l n) (S t)) M)
    (hK : ∀ S' M' a' w' β', post S' M' → RepF W0 M0 β' S' nt M' a' w' → Q .normal a' w') : (Code.region id ops true).wp P Q a w := by
  have hD := DC.of hB
  have hlen : l.length = ops.size := by rw [trL_len htr]; simp
  have hnl : n ≤ ops.size := by rcases hD.h6 with h | h <;> omega
  have hn0 : ∀ t s o, (fun t => junkD (dsOf l n) (S t)) t = .bp s o → ¬ inD l n s := fun t s o e => junkD_spec e
  have hRj := hR.weak (junkD_le (dsOf l n) S)
  generalize (fun t => junkD (dsOf l n) (S t)) = S0 at h hn0 hRj
  obtain ⟨rs, S1, hL, hv, hg⟩ := lex_of hD hlen hn0 h n (Nat.le_refl n)
  have hR1 : RepF W0 M0 β S0 nt M a { w with drawn := w.drawn + 1 } := hRj.step (M' := M) (w' := { w with drawn := w.drawn + 1 }) (fun b k e => (hR.sat b k e).of_eq rfl) ⟨rfl, rfl, rfl, Nat.le_refl _, fun _ _ _ => rfl, fun _ h => .inl h⟩
  refine wp_region_any hm ?_
  have hinit : ∀ j, (Array.replicate ops.size false).getD j false = false := fun j => getD_replicate_false _ j
  have hG0 : Gs l n rs S0 (fun j => (Array.replicate ops.size false).getD j false) = S0 := by
    funext t
    exact Gs_miss fun i _ hi => by rw [hinit] at hi; cases hi
  have := float_any (W0 := W0) (M0 := M0) (Q := Q) hD hnl htr hn0 hL (fun listed a w β hsz hall hR' => by
    rw [← hg] at hR'
    exact chain_any hD htr hK (ops.size - n) n listed S1 M β a w rfl (Nat.le_refl n) hnl hsz hall hv hR')
    n (List.range n) (Array.replicate ops.size false) a { w with drawn := w.drawn + 1 } β (by simp) List.nodup_range (fun i => by rw [hinit]; simp)
    ⟨by simp, fun j oj _ hj => (by rw [hinit] at hj; cases hj), fun t _ ht => (by simp [ht])⟩ (by rw [hG0]; exact hR1)
  rw [show n + (ops.size - n) = ops.size by omega] at this
  exact this
end
end Go.Proofs.Ytpcakglnklpjoaa.E
