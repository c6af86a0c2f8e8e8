/- From a contract of the engine to a row: the memory of a world, arguments opened, what is left below. Conditions: none. -/
import Derived.Test.YtpcakglnklpjoaaSl
import Derived.Test.YtpcakglnklpjoaaRows
import Derived.Deep.Slices
import Derived.ProofKit
import Derived.OpenShut
import Derived.Carry
import Derived.SizedLaws
import Derived.Below
set_option linter.unusedVariables false
set_option linter.unusedSimpArgs false
namespace Go.Proofs.Ytpcakglnklpjoaa.E
open Go Go.RowKit
/-- all cells of a world, to be read -/
def memOf (W : World) : Mem := fun b =>
  match W.heap[b]? with
  | some (.cells cs t fr) => some (.ro cs.toList t fr)
  | _ => none
theorem memOf_sat (W : World) : Sat W (memOf W) := by
  intro b k h
  unfold memOf at h
  split at h
  · rename_i cs t fr e
    cases h
    show W.heap[b]? = _
    rw [e]
  · cases h
theorem memOf_cells {W : World} {b : Nat} {cs : Array Value} {t : TypeId} {fr : Nat × Nat} (h : W.heap[b]? = some (.cells cs t fr)) : memOf W b = some (.ro cs.toList t fr) := by
  unfold memOf; rw [h]
theorem row_of {P : Program} {f : FuncId} {args : List Value} {W : World} {r : Value} (h : Fn P f args (memOf W) (fun v M' => v = r ∧ (memOf W).le M')) :
    Calls P f args.toArray W (fun e W' => e = .returned r ∧ Below W.heap.size W W') := by
  refine (h.out W (memOf_sat W)).mono ?_
  rintro e W' ⟨v, M', rfl, ⟨rfl, hle⟩, hs, st⟩
  refine ⟨rfl, ⟨st.os, st.tape, st.output, st.size, fun k hk => ?_⟩⟩
  cases e : memOf W k with
  | none => exact st.keep k hk e
  | some x =>
    have h2 := hs _ _ (hle _ _ e)
    unfold memOf at e
    split at e
    · rename_i cs t fr e'
      cases e
      rw [e']
      exact h2
    · cases e

/-! ### Arguments -/
section
variable {H : Type} {enc : TypeId × Value → H} {P : Program} {W : World} {spare : Nat → Bool} {held : Bool}
def fsOf (P : Program) (t : TypeId) : Array Field :=
  match P.underlying t with
  | some (.struct fs) => fs
  | _ => #[]
theorem open_struct {t : TypeId} {fuel : Nat} {cs : List Value} {x : DataW H × List MemPlace} {l : List (TypeId × Nat)} (ht : P.underlying t = some (.struct (fsOf P t))) (hl : (fsOf P t).toList.map (fun f => (f.type, f.offset)) = l)
    (h : DataW.trod enc P W 0 spare held fuel t cs = some x) : cs.length = P.cellsOf t ∧ ∃ n, ∀ (i : Nat) u o, l[i]? = some (u, o) → ∃ y, DataW.trod enc P W 0 spare held n u ((cs.drop o).take (P.cellsOf u)) = some y := by
  obtain ⟨xs, n, _, _, hlen, hx, hf⟩ := DataW.trod_struct ht h
  refine ⟨hlen, n, fun i u o hi => ?_⟩
  subst hl
  rw [List.getElem?_map] at hi
  cases hg : (fsOf P t).toList[i]? with
  | none => rw [hg] at hi; cases hi
  | some f =>
    rw [hg] at hi
    simp only [Option.map_some, Option.some.injEq, Prod.mk.injEq] at hi
    obtain ⟨rfl, rfl⟩ := hi
    have hg' : (fsOf P t)[i]? = some f := by rw [← Array.getElem?_toList]; exact hg
    have hi := (Array.getElem?_eq_some_iff.1 hg').1
    refine ⟨xs[i]'(by omega), ?_⟩
    rw [hf i f hg', List.getElem?_eq_getElem (by omega)]
theorem cells_heap {a : Addr} {n : Nat} {cs : List Value} (h : W.cells? 0 a n = some cs) (hn : 0 < n) : ∃ c t fr, a.spot = none ∧ W.heap[a.block]? = some (.cells c t fr) ∧ cs.length = n ∧ ∀ j, j < n → c[a.off + j]? = cs[j]? ∧ a.off + j < c.size := by
  obtain ⟨_, hlen, hc⟩ := World.cells?_some h
  have key : ∀ j, j < n → W.cell? (a.add j) = cs[j]? := fun j hj => hc j hj
  have h0 := key 0 hn
  have e0 : a.add 0 = a := by unfold Addr.add; simp
  rw [e0, List.getElem?_eq_getElem (by omega)] at h0
  unfold World.cell? at h0
  split at h0
  · rename_i c t fr hh
    split at h0
    · cases h0
    · rename_i hs
      have hsn : a.spot = none := by cases e : a.spot with
        | none => rfl
        | some _ => rw [e] at hs; simp at hs
      refine ⟨c, t, fr, hsn, hh, hlen, fun j hj => ?_⟩
      have hk := key j hj
      have ea : a.add j = ⟨a.block, a.off + j, none⟩ := by
        cases a with
        | mk b o s => simp only at hsn; subst hsn; exact add_none b o j
      rw [ea] at hk
      simp only [World.cell?, hh] at hk
      simp at hk
      refine ⟨hk, ?_⟩
      rw [List.getElem?_eq_getElem (by omega)] at hk
      exact (Array.getElem?_eq_some_iff.1 hk).1
  · cases h0
theorem flat_of {α : Type} {f : α → List Value} {size : Nat} (hs : ∀ x, (f x).length = size) (row : List Value) (o : Nat) (X : Nat → α) : ∀ n, (∀ i, i < n → ∀ j, j < size → row[o + i * size + j]? = (f (X i))[j]?) →
    (row.drop o).take (n * size) = ((List.range n).map X).flatMap f
  | 0, _ => by simp
  | n + 1, h => by
    have ih := flat_of hs row o X n (fun i hi j hj => h i (by omega) j hj)
    rw [List.range_succ, List.map_append, List.flatMap_append, ← ih, Nat.succ_mul, List.take_add]
    congr 1
    simp only [List.map_cons, List.map_nil, List.flatMap_cons, List.flatMap_nil, List.append_nil]
    apply List.ext_getElem?
    intro j
    rw [List.getElem?_take]
    split
    · rename_i hj
      rw [List.drop_drop, List.getElem?_drop]
      exact h n (by omega) j hj
    · rename_i hj
      rw [List.getElem?_eq_none (by rw [hs]; omega)]
/-- a slice that was handed in -/
theorem open_sl {α : Type} [Inhabited α] {f : α → List Value} {size : Nat} {Q : α → Prop} {t e : TypeId} {fuel : Nat} {cs : List Value} {x : DataW H × List MemPlace} (hs : ∀ x, (f x).length = size) (hs0 : 0 < size)
    (ht : P.underlying t = some (.slice e)) (hc : P.cellsOf e = size) (he : ∀ n cs y, DataW.trod enc P W 0 spare held n e cs = some y → ∃ x, cs = f x ∧ Q x)
    (h : DataW.trod enc P W 0 spare held fuel t cs = some x) : ∃ v xs, cs = [v] ∧ SlR (memOf W) size f v xs ∧ ∀ x, x ∈ xs → Q x := by
  rcases Deep.open_slice ht h with ⟨rfl, _⟩ | ⟨a, len, cap, m, n, D, Pl, rfl, _, hlc, hcm, hm, _, hel⟩
  · exact ⟨_, [], rfl, .inl ⟨none, 0, rfl, rfl⟩, by simp⟩
  · have hlm : len ≤ m := by rw [hm]; split <;> omega
    obtain ⟨X, hX⟩ := Deep.choose_lt (n := len) (p := fun i y => W.cells? 0 (a.add (i * size)) size = some (f y) ∧ Q y) (fun i hi => by
      obtain ⟨cs', h1, h2⟩ := hel i (by omega)
      obtain ⟨y, rfl, hq⟩ := he _ _ _ h2
      rw [hc] at h1
      exact ⟨y, h1, hq⟩)
    refine ⟨_, (List.range len).map X, rfl, ?_, ?_⟩
    · by_cases h0 : len = 0
      · subst h0; exact .inl ⟨_, _, rfl, rfl⟩
      · obtain ⟨c, u, fr, hsp, hh, _, _⟩ := cells_heap (hX 0 (by omega)).1 hs0
        have e0 : a.add (0 * size) = a := by unfold Addr.add; simp
        rw [e0] at hsp hh
        have ea : a = ⟨a.block, a.off, none⟩ := by cases a; simp only at hsp; subst hsp; rfl
        have hcell : ∀ i, i < len → ∀ j, j < size → c.toList[a.off + i * size + j]? = (f (X i))[j]? ∧ a.off + i * size + j < c.size := by
          intro i hi j hj
          obtain ⟨c', u', fr', hsp', hh', _, hj'⟩ := cells_heap (hX i hi).1 hs0
          have e1 : a.add (i * size) = ⟨a.block, a.off + i * size, none⟩ := by rw [ea]; exact add_none _ _ _
          rw [e1] at hh' hj'
          rw [hh] at hh'
          cases hh'
          obtain ⟨k1, k2⟩ := hj' j hj
          exact ⟨by rw [Array.getElem?_toList]; exact k1, k2⟩
        have hlast := (hcell (len - 1) (by omega) (size - 1) (by omega)).2
        have hml : (len - 1) * size + size = len * size := by rw [← Nat.succ_mul]; congr 1; omega
        refine .inr ⟨a.block, a.off, cap, c.toList, ?_, .inr ⟨u, fr, memOf_cells hh⟩, ?_, ?_, ?_⟩
        · rw [← ea]; simp
        · simp; simp [maxLen] at hcm; omega
        · simp only [List.length_map, List.length_range, Array.length_toList]; omega
        · simp only [List.length_map, List.length_range]
          exact flat_of hs _ _ X len (fun i hi j hj => (hcell i hi j hj).1)
    · intro y hy
      obtain ⟨i, hi, rfl⟩ := List.mem_map.1 hy
      exact (hX i (by simpa using hi)).2
theorem take_one {cs : List Value} {o : Nat} {x : Value} (h : (cs.drop o).take 1 = [x]) : cs[o]? = some x := by
  have := congrArg (·[0]?) h
  simpa [List.getElem?_take, List.getElem?_drop] using this
end
end Go.Proofs.Ytpcakglnklpjoaa.E
