/- Slices in memory: written, made, appended to; and the rules of the walk for them. Conditions: none. -/
import Derived.Test.YtpcakglnklpjoaaModel
set_option linter.unusedVariables false
set_option linter.unusedSimpArgs false
namespace Go.Proofs.Ytpcakglnklpjoaa.E
open Go

/-- two memories that differ in one block at most -/
def Off (M : Mem) (b : Nat) (M' : Mem) : Prop := ∀ c, c ≠ b → M' c = M c
theorem Off.upd (M : Mem) (b : Nat) (k : Bk) : Off M b (M.upd b k) := fun c h => Mem.upd_ne _ _ h
theorem Off.le {M M' : Mem} {b : Nat} (h : Off M b M') (hb : M b = none) : M.le M' := fun c k e => by
  rw [h c (fun e' => by subst e'; rw [hb] at e; cases e)]; exact e
theorem Off.keep {M0 M M' : Mem} {b : Nat} (h : Off M b M') (l : M0.le M) (hb : M0 b = none) : M0.le M' := fun c k e => by
  rw [h c (fun e' => by subst e'; rw [hb] at e; cases e)]; exact l c k e
theorem Off.trans {A B C : Mem} {b : Nat} (h : Off A b B) (k : Off B b C) : Off A b C := fun c e => (k c e).trans (h c e)
/-- the blocks of a slice: one, or none -/
def own : Value → List Nat
  | .slice (some a) _ _ => [a.block]
  | _ => []
theorem none_of_le {M0 M : Mem} (l : M0.le M) {b : Nat} (h : M b = none) : M0 b = none := by
  cases e : M0 b with
  | none => rfl
  | some k => rw [l b k e] at h; cases h

section
variable {M M' : Mem} {α : Type} {f : α → List Value} {size : Nat} {v : Value} {xs : List α}
theorem Sl.bound (h : Sl M size f v xs) : xs.length ≤ 140737488355328 := by
  rcases h with ⟨c, rfl, rfl, rfl⟩ | ⟨b, o, cap, row, rfl, hM, hc, h2, hr, he⟩
  · simp
  · omega
theorem Sl.off (h : Sl M size f v xs) {b : Nat} (o : Off M b M') (hb : b ∉ own v) : Sl M' size f v xs := by
  rcases h with h | ⟨b', o', cap, row, rfl, hM, h3⟩
  · exact .inl h
  · refine .inr ⟨b', o', cap, row, rfl, ?_, h3⟩
    rw [o b' (fun e => hb (by simp [own, e]))]; exact hM
theorem Sl.at2 {sa : Option Addr} {n cap : Nat} (h : Sl M size f (.slice sa n cap) xs) (hs : ∀ x, (f x).length = size) {i : Nat} {x : α} (hx : xs[i]? = some x) :
    ∃ b o, sa = some ⟨b, o, none⟩ ∧ cells M b (o + i * size) size = some (f x) := by
  have hi := (List.getElem?_eq_some_iff.1 hx).1
  obtain ⟨b, o, cap', e, hc⟩ := h.at hs (i := (i : Int)) (by omega) (by omega) hx
  cases e
  exact ⟨b, o, rfl, hc⟩
theorem Sl.nil : Sl M size f (.slice none 0 0) ([] : List α) := .inl ⟨0, rfl, rfl, rfl⟩
theorem Sl.lenEq {sa : Option Addr} {n cap : Nat} (h : Sl M size f (.slice sa n cap) xs) : n = xs.length := by
  obtain ⟨a, c, e⟩ := h.len; cases e; rfl
end

/-- a slice in memory that may be another's: to be read alone -/
def SlR (M : Mem) (size : Nat) {α : Type} (f : α → List Value) (v : Value) (xs : List α) : Prop :=
  (∃ a c, v = .slice a 0 c ∧ xs = []) ∨
  ∃ b o cap row, v = .slice (some ⟨b, o, none⟩) xs.length cap ∧ (M b = some (.row row) ∨ ∃ t fr, M b = some (.ro row t fr)) ∧ xs.length ≤ 9223372036854775807 ∧ o + xs.length * size ≤ row.length ∧ (row.drop o).take (xs.length * size) = xs.flatMap f
section
variable {M M' : Mem} {α : Type} {f : α → List Value} {size : Nat} {v : Value} {xs : List α}
theorem Sl.r (h : Sl M size f v xs) : SlR M size f v xs := by
  rcases h with ⟨c, h1, h2, h3⟩ | ⟨b, o, cap, row, rfl, hM, hc, h2, hr, he⟩
  · exact .inl ⟨_, _, h1, h3⟩
  · exact .inr ⟨b, o, cap, row, rfl, .inl hM, by omega, by have := Nat.mul_le_mul_right size hc; omega, he⟩
theorem SlR.le (h : SlR M size f v xs) (l : M.le M') : SlR M' size f v xs := by
  rcases h with h | ⟨b, o, cap, row, h1, h2, h3⟩
  · exact .inl h
  · exact .inr ⟨b, o, cap, row, h1, h2.imp (l _ _) (fun ⟨t, fr, e⟩ => ⟨t, fr, l _ _ e⟩), h3⟩
theorem SlR.len (h : SlR M size f v xs) : ∃ a cap, v = .slice a xs.length cap := by
  rcases h with ⟨a, c, rfl, rfl⟩ | ⟨b, o, cap, row, rfl, _⟩
  · exact ⟨a, c, rfl⟩
  · exact ⟨_, cap, rfl⟩
theorem SlR.bound (h : SlR M size f v xs) : xs.length ≤ 9223372036854775807 := by
  rcases h with ⟨a, c, rfl, rfl⟩ | ⟨b, o, cap, row, rfl, hM, h2, hr, he⟩
  · simp
  · omega
theorem SlR.at2 {sa : Option Addr} {n cap : Nat} (h : SlR M size f (.slice sa n cap) xs) (hs : ∀ x, (f x).length = size) {i : Nat} {x : α} (hx : xs[i]? = some x) :
    ∃ b o, sa = some ⟨b, o, none⟩ ∧ cells M b (o + i * size) size = some (f x) := by
  have hi := (List.getElem?_eq_some_iff.1 hx).1
  rcases h with ⟨a, c, e, rfl⟩ | ⟨b, o, cap, row, e, hM, h2, hr, he⟩
  · simp at hi
  · cases e
    refine ⟨b, o, rfl, ?_⟩
    have hmul2 : (i + 1) * size ≤ xs.length * size := Nat.mul_le_mul_right _ (by omega)
    rw [Nat.succ_mul] at hmul2
    have key : (if o + i * size + size ≤ row.length then some ((row.drop (o + i * size)).take size) else none) = some (f x) := by
      rw [if_pos (by omega)]
      congr 1
      rw [← flat_get hs xs i x hx, ← he, ← List.drop_drop, List.drop_take, List.take_take]
      congr 1
      omega
    unfold cells
    rcases hM with hM | ⟨_, _, hM⟩ <;> rw [hM] <;> exact key
end
theorem wr_append_left (vs : List Value) : ∀ (cs ds : List Value) (o : Nat), o + vs.length ≤ cs.length → wr (cs ++ ds) o vs = wr cs o vs ++ ds := by
  induction vs with
  | nil => intros; rfl
  | cons x r ih =>
    intro cs ds o h
    simp only [List.length_cons] at h
    simp only [wr]
    rw [List.set_append_left _ _ (by omega), ih _ _ _ (by simp; omega)]
theorem wr_append_right (vs : List Value) : ∀ (cs ds : List Value) (o : Nat), cs.length ≤ o → wr (cs ++ ds) o vs = cs ++ wr ds (o - cs.length) vs := by
  induction vs with
  | nil => intros; rfl
  | cons x r ih =>
    intro cs ds o h
    simp only [wr]
    rw [List.set_append_right _ _ h, ih _ _ _ (by omega), show o + 1 - cs.length = o - cs.length + 1 by omega]
theorem wr_all (vs : List Value) : ∀ (cs : List Value), cs.length = vs.length → wr cs 0 vs = vs := by
  intro cs h
  apply List.ext_getElem?
  intro j
  rw [wr_get _ _ _ _ (by omega)]
  by_cases hj : j < vs.length
  · rw [if_pos (by omega)]; simp
  · rw [if_neg (by omega), List.getElem?_eq_none (by omega), List.getElem?_eq_none (by omega)]
/-- one element's cells written, in a row of elements -/
theorem flat_wr {α : Type} {f : α → List Value} {size : Nat} (hs : ∀ x, (f x).length = size) {j : Nat} {vs : List Value} (hj : j + vs.length ≤ size) :
    ∀ (xs : List α) (i : Nat) (x x' : α), xs[i]? = some x → f x' = wr (f x) j vs → wr (xs.flatMap f) (i * size + j) vs = (xs.set i x').flatMap f
  | [], i, x, x', h, _ => by simp at h
  | y :: r, 0, x, x', h, hx => by
    simp only [List.getElem?_cons_zero, Option.some.injEq] at h
    subst h
    simp only [Nat.zero_mul, Nat.zero_add, List.flatMap_cons, List.set_cons_zero]
    rw [wr_append_left _ _ _ _ (by rw [hs]; exact hj), hx]
  | y :: r, i + 1, x, x', h, hx => by
    simp only [List.getElem?_cons_succ] at h
    simp only [List.flatMap_cons, List.set_cons_succ]
    rw [wr_append_right _ _ _ _ (by rw [hs, Nat.succ_mul]; omega), hs, ← flat_wr hs hj r i x x' h hx]
    congr 2
    rw [Nat.succ_mul]; omega
theorem wr_drop (vs : List Value) : ∀ (cs : List Value) (o d : Nat), (wr cs (o + d) vs).drop o = wr (cs.drop o) d vs := by
  induction vs with
  | nil => intros; rfl
  | cons x r ih =>
    intro cs o d
    simp only [wr]
    rw [show o + d + 1 = o + (d + 1) by omega, ih, List.drop_set, if_neg (by omega), show o + d - o = d by omega]
theorem wr_take (vs : List Value) : ∀ (cs : List Value) (o n : Nat), o + vs.length ≤ n → (wr cs o vs).take n = wr (cs.take n) o vs := by
  induction vs with
  | nil => intros; rfl
  | cons x r ih =>
    intro cs o n h
    simp only [List.length_cons] at h
    simp only [wr]
    rw [ih _ _ _ (by omega), List.take_set]
section
variable {M M' : Mem} {α : Type} {f : α → List Value} {size : Nat} {v : Value} {xs : List α}
/-- cells of one element written -/
theorem Sl.wr {b o n cap : Nat} (h : Sl M size f (.slice (some ⟨b, o, none⟩) n cap) xs) (hs : ∀ x, (f x).length = size) {i j : Nat} {x x' : α} {vs : List Value} (hx : xs[i]? = some x) (hj : j + vs.length ≤ size) (hf : f x' = E.wr (f x) j vs) :
    ∃ row, M b = some (.row row) ∧ o + i * size + j + vs.length ≤ row.length ∧ Sl (M.upd b (.row (E.wr row (o + i * size + j) vs))) size f (.slice (some ⟨b, o, none⟩) n cap) (xs.set i x') := by
  rcases h with ⟨c, e, _⟩ | ⟨b', o', cap', row, e, hM, hc, h2, hr, he⟩
  · cases e
  · cases e
    have hi := (List.getElem?_eq_some_iff.1 hx).1
    have hm : (i + 1) * size ≤ xs.length * size := Nat.mul_le_mul_right _ (by omega)
    have hm2 : xs.length * size ≤ cap * size := Nat.mul_le_mul_right _ hc
    rw [Nat.succ_mul] at hm
    refine ⟨row, hM, by omega, .inr ⟨b, o, cap, _, by simp, Mem.upd_same _ _ _, by simp; exact hc, by simp; exact h2, by rw [wr_length]; exact hr, ?_⟩⟩
    rw [Nat.add_assoc, wr_drop, List.length_set, wr_take _ _ _ _ (by omega), he, flat_wr hs hj xs i x x' hx hf]
end

section
variable {P : Program} {S : St} {M : Mem} {post : St → Mem → Prop} {r : List I} {d : Option Nat}
/-- a store into an element of a slice -/
theorem vl_sts {α : Type} {f : α → List Value} {size : Nat} {xs : List α} {n cap : Nat} {w : Nat} {x y : Operand} {b o i j : Nat} {v : Value} {e : α} (e' : α)
    (h : Sl M size f (.slice (some ⟨b, o, none⟩) n cap) xs) (hs : ∀ x, (f x).length = size) (hi : xs[i]? = some e)
    (hx : lc S x = some (.mm b (o + i * size + j))) (hy : ev S y = some v) (hn : v.cells.size = w) (hpl : plainCells v.cells.toList = true) (hj : j + v.cells.toList.length ≤ size) (hf : f e' = wr (f e) j v.cells.toList)
    (hp : ∀ M', Off M b M' → Sl M' size f (.slice (some ⟨b, o, none⟩) n cap) (xs.set i e') → VL P r post S M') : VL P (⟨d, none, .store w x y⟩ :: r) post S M := by
  obtain ⟨row, hM, hle, hsl⟩ := h.wr hs hi hj hf
  refine vl_stm hx hM hy hn hpl ?_ (hp _ (Off.upd _ _ _) hsl)
  simp only [Array.length_toList] at hle; omega
theorem zrep_flat {α : Type} {f : α → List Value} (z : α) (n : Nat) : zrep (f z) n = (List.replicate n z).flatMap f := by
  unfold zrep
  induction n with
  | zero => rfl
  | succ n ih => simp only [List.replicate_succ, List.flatten_cons, List.flatMap_cons, ih]
/-- a new slice -/
theorem vl_mks {α : Type} {f : α → List Value} {size bytes : Nat} {z : List Value} (e : α) {l c : Operand} {n m : Nat} (hs : ∀ x, (f x).length = size) (hz : f e = z)
    (hl : ev S l = some (.int .i64 n)) (hc : ev S c = some (.int .i64 m)) (hnm : n ≤ m) (hb : m * bytes ≤ 140737488355328) (hb2 : m ≤ 140737488355328)
    (hp : ∀ b M', M b = none → Off M b M' → Sl M' size f (.slice (some ⟨b, 0, none⟩) n m) (List.replicate n e) → VL P r post (put S d (.v (.slice (some ⟨b, 0, none⟩) n m))) M') : VL P (⟨d, none, .mkslice size bytes z l c⟩ :: r) post S M := by
  refine ⟨⟨n, m, hl, hc, hnm, hb, hb2, fun b hMb => (hp b _ hMb (Off.upd _ _ _) ?_).out⟩⟩
  refine .inr ⟨b, 0, m, _, by simp, Mem.upd_same _ _ _, by simpa using hnm, by simp; omega, ?_, ?_⟩
  · subst hz; rw [zrep_flat, flat_len hs]; simp
  · subst hz
    rw [zrep_flat, List.drop_zero, List.length_replicate]
    have : (List.replicate m e).flatMap f = (List.replicate n e).flatMap f ++ (List.replicate (m - n) e).flatMap f := by
      rw [← List.flatMap_append, List.replicate_append_replicate, show n + (m - n) = m by omega]
    rw [this, List.take_left' (by rw [flat_len hs]; simp)]
/-- an append, as it shows in elements -/
def AppE (M : Mem) (v : Value) (v' : Value) (M' : Mem) : Prop := (M' = M ∧ own v' = own v) ∨ ∃ b, Off M b M' ∧ own v' = [b] ∧ (own v = [b] ∨ M b = none)
theorem wr_mid {A B vs : List Value} {o : Nat} : ∀ cs : List Value, o ≤ cs.length → (wr cs o vs).take o = cs.take o := by
  induction vs generalizing o with
  | nil => intros; rfl
  | cons x r ih =>
    intro cs h
    simp only [wr]
    have h1 := wr_take [x] cs o
    apply List.ext_getElem?
    intro j
    rw [List.getElem?_take, List.getElem?_take]
    by_cases hj : j < o
    · rw [if_pos hj, if_pos hj]
      have e : (wr (cs.set o x) (o + 1) r)[j]? = (cs.set o x)[j]? := by
        have := ih (o := o + 1) (cs.set o x)
        by_cases hle : o + 1 ≤ (cs.set o x).length
        · have := congrArg (·[j]?) (this hle)
          simpa [List.getElem?_take, show j < o + 1 by omega] using this
        · have hl : o = cs.length := by simp at hle; omega
          subst hl
          have hw : ∀ (r : List Value) (cs : List Value) (o : Nat), cs.length < o → wr cs o r = cs := by
            intro r
            induction r with
            | nil => intros; rfl
            | cons y r ih => intro cs o h; simp only [wr]; rw [List.set_eq_of_length_le (by omega), ih _ _ (by omega)]
          rw [hw _ _ _ (by simp)]
      rw [e, List.getElem?_set_ne (by omega)]
    · rw [if_neg hj, if_neg hj]
theorem appM_sl {α : Type} {f : α → List Value} {size bytes : Nat} {v : Value} {xs zs : List α} {post : Value → Mem → Prop} (hs : ∀ x, (f x).length = size) (h : Sl M size f v xs) (hs0 : 0 < size) (hby : 0 < bytes)
    (hb : (xs.length + zs.length) * bytes ≤ 140737488355328)
    (hp : ∀ v' M', AppE M v v' M' → Sl M' size f v' (xs ++ zs) → post v' M') : appM M size bytes v (zs.flatMap f) zs.length post := by
  have hlz : (zs.flatMap f).length = zs.length * size := flat_len hs zs
  have hlx : (xs.flatMap f).length = xs.length * size := flat_len hs xs
  have hle : xs.length + zs.length ≤ 140737488355328 := Nat.le_trans (Nat.le_mul_of_pos_right _ hby) hb
  rcases h with ⟨c, rfl, rfl, rfl⟩ | ⟨b, o, cap, row, rfl, hM, hc, h2, hr, he⟩
  · refine ⟨rfl, rfl, by simpa using hb, ?_⟩
    by_cases hz : zs = []
    · subst hz
      exact .inl ⟨rfl, hp _ _ (.inl ⟨rfl, rfl⟩) (.inl ⟨0, rfl, rfl, rfl⟩)⟩
    · refine .inr ⟨List.length_pos_iff.2 hz, fun b cap' ys hMb hk hy => hp _ _ (.inr ⟨b, Off.upd _ _ _, rfl, .inr hMb⟩) (.inr ⟨b, 0, cap', _, by simp, Mem.upd_same _ _ _, by simpa using hk, by simp at hle ⊢; exact hle, ?_, ?_⟩)⟩
      · have : cap' * size = zs.length * size + (cap' - zs.length) * size := by rw [← Nat.add_mul]; congr 1; omega
        rw [List.length_append, hlz, hy, this]; omega
      · rw [List.drop_zero, List.nil_append, ← hlz, List.take_left]
  · refine ⟨row, hM, hb, ?_⟩
    have hcs : xs.length * size ≤ cap * size := Nat.mul_le_mul_right _ hc
    by_cases hfit : xs.length + zs.length ≤ cap
    · have hm : (xs.length + zs.length) * size ≤ cap * size := Nat.mul_le_mul_right _ hfit
      have hm2 := hm
      rw [Nat.add_mul] at hm2
      refine .inl ⟨hfit, by omega, hp _ _ (.inr ⟨b, Off.upd _ _ _, rfl, .inl rfl⟩) (.inr ⟨b, o, cap, _, by simp, Mem.upd_same _ _ _, by simpa using hfit, by simpa using hle, by rw [wr_length]; exact hr, ?_⟩)⟩
      rw [wr_drop, List.flatMap_append, List.length_append, Nat.add_mul]
      have hdl : (row.drop o).length = row.length - o := List.length_drop
      apply List.ext_getElem?
      intro j
      rw [List.getElem?_take, wr_get _ _ _ _ (by rw [hlz, hdl]; omega), List.getElem?_append, hlx, hlz]
      have hx : ∀ j, j < xs.length * size → (row.drop o)[j]? = (xs.flatMap f)[j]? := fun j hj => by rw [← he, List.getElem?_take, if_pos hj]
      by_cases h1 : j < xs.length * size
      · rw [if_pos (by omega), if_neg (by omega), if_pos h1, hx j h1]
      · by_cases h3 : j < xs.length * size + zs.length * size
        · rw [if_pos h3, if_pos (by omega), if_neg h1]
        · rw [if_neg h3, if_neg h1, List.getElem?_eq_none (by omega)]
    · refine .inr ⟨by omega, by omega, fun b' cap' ys hMb hk hy => hp _ _ (.inr ⟨b', Off.upd _ _ _, rfl, .inr hMb⟩) (.inr ⟨b', 0, cap', _, by simp, Mem.upd_same _ _ _, by simpa using hk, by simpa using hle, ?_, ?_⟩)⟩
      · have : cap' * size = (xs.length + zs.length) * size + (cap' - (xs.length + zs.length)) * size := by rw [← Nat.add_mul]; congr 1; omega
        rw [he, List.length_append, List.length_append, hlx, hlz, hy, this, Nat.add_mul]; omega
      · rw [he, List.drop_zero, List.flatMap_append, List.length_append, Nat.add_mul]
        rw [List.take_left' (by rw [List.length_append, hlx, hlz])]
/-- an append of elements that a private slice holds -/
theorem vl_app {α : Type} {f : α → List Value} {size bytes : Nat} {z : List Value} {xs : List α} (zs : List α) {s x : Operand} {v : Value} (h : Sl M size f v xs) (hs : ∀ x, (f x).length = size) (hs0 : 0 < size) (hby : 0 < bytes)
    (hv : ev S s = some v) (hx : srcC S M size x = some (zs.flatMap f, zs.length)) (hpl : plainCells (zs.flatMap f) = true) (hb : (xs.length + zs.length) * bytes ≤ 140737488355328)
    (hp : ∀ v' M', AppE M v v' M' → Sl M' size f v' (xs ++ zs) → VL P r post (put S d (.v v')) M') : VL P (⟨d, none, .app size bytes z s x⟩ :: r) post S M :=
  ⟨⟨v, _, _, hv, hx, hpl, appM_sl hs h hs0 hby hb (fun v' M' a b => (hp v' M' a b).out)⟩⟩
/-- a slice in memory as the source of an append -/
theorem srcC_sl {α : Type} {f : α → List Value} {size : Nat} {zs : List α} {t : Nat} {v : Value} (hs : ∀ x, (f x).length = size) (h : Sl M size f v zs) (hv : S t = .v v) : srcC S M size (.tmp t) = some (zs.flatMap f, zs.length) := by
  unfold srcC
  simp only [hv]
  rcases h with ⟨c, rfl, rfl, rfl⟩ | ⟨b, o, cap, row, rfl, hM, hc, h2, hr, he⟩
  · rfl
  · have hcs : zs.length * size ≤ cap * size := Nat.mul_le_mul_right _ hc
    unfold srcC.srcV
    simp only [hM]
    rw [if_pos (by omega), he]
end
end Go.Proofs.Ytpcakglnklpjoaa.E
