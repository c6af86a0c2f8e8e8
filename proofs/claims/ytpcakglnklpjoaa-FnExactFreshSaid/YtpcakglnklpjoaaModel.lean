/- The heap as data: words, pairs, cells, heaps, and how they lie in memory. Conditions: none. -/
import Derived.Test.YtpcakglnklpjoaaEngP
set_option linter.unusedVariables false
set_option linter.unusedSimpArgs false
namespace Go.Proofs.Ytpcakglnklpjoaa.E
open Go

structure Word where
  kind : Int
  num : Int
  at_ : Int
structure Pair where
  key : Word
  val : Word
structure Cell where
  state : Int
  kind : Int
  weak : Int
  last : Int
  born : Int
  color : Int
  to : Int
  pairs : List Pair
structure Heap where
  room : Int
  used : Int
  born : Int
  regs : List Word
  cells : List Cell
  phase : Int
  hand : Int
  sub : Int
  gray : List Int
  per : Int
  start : Int
  rounds : Int
  forced : Int

structure Act where
  op : Int
  a : Int
  b : Int
  c : Int
  n : Int
def av (a : Act) : List Value := [.int .i64 a.op, .int .i64 a.a, .int .i64 a.b, .int .i64 a.c, .int .i64 a.n]
def wv (w : Word) : List Value := [.int .i64 w.kind, .int .i64 w.num, .int .i64 w.at_]
def pv (p : Pair) : List Value := [.int .i64 p.key.kind, .int .i64 p.key.num, .int .i64 p.key.at_, .int .i64 p.val.kind, .int .i64 p.val.num, .int .i64 p.val.at_]
def cv (c : Cell) (sa : Option Addr) (cap : Nat) : List Value := [.int .i64 c.state, .int .i64 c.kind, .int .i64 c.weak, .int .i64 c.last, .int .i64 c.born, .int .i64 c.color, .int .i64 c.to, .slice sa c.pairs.length cap]
def hv (H : Heap) (rs cs gs : Value) : List Value := [.int .i64 H.room, .int .i64 H.used, .int .i64 H.born, rs, cs, .int .i64 H.phase, .int .i64 H.hand, .int .i64 H.sub, gs, .int .i64 H.per, .int .i64 H.start, .int .i64 H.rounds, .int .i64 H.forced]
def iv (n : Int) : List Value := [.int .i64 n]
def bv (b : Bool) : List Value := [.bool b]

/-- a slice in memory, whose elements are told as cells, 'size' each -/
def Sl (M : Mem) (size : Nat) {α : Type} (f : α → List Value) (v : Value) (xs : List α) : Prop :=
  (∃ c, v = .slice none 0 c ∧ c = 0 ∧ xs = []) ∨
  ∃ b o cap row, v = .slice (some ⟨b, o, none⟩) xs.length cap ∧ M b = some (.row row) ∧ xs.length ≤ cap ∧ xs.length ≤ 140737488355328 ∧ o + cap * size ≤ row.length ∧ (row.drop o).take (xs.length * size) = xs.flatMap f

theorem flat_get {α : Type} {f : α → List Value} {size : Nat} (hs : ∀ x, (f x).length = size) : ∀ (xs : List α) (i : Nat) (x : α), xs[i]? = some x → ((xs.flatMap f).drop (i * size)).take size = f x
  | [], i, x, h => by simp at h
  | y :: r, 0, x, h => by
    simp only [List.getElem?_cons_zero, Option.some.injEq] at h
    subst h
    simp only [Nat.zero_mul, List.drop_zero, List.flatMap_cons]
    rw [List.take_append_of_le_length (by rw [hs]; exact Nat.le_refl _)]
    rw [← hs y, List.take_length]
  | y :: r, i + 1, x, h => by
    simp only [List.getElem?_cons_succ] at h
    rw [List.flatMap_cons, Nat.succ_mul, Nat.add_comm, ← List.drop_drop]
    have : (f y ++ List.flatMap f r).drop size = List.flatMap f r := by rw [← hs y, List.drop_left]
    rw [this]
    exact flat_get hs r i x h
theorem flat_len {α : Type} {f : α → List Value} {size : Nat} (hs : ∀ x, (f x).length = size) (xs : List α) : (xs.flatMap f).length = xs.length * size := by
  induction xs with
  | nil => simp
  | cons x r ih => rw [List.flatMap_cons, List.length_append, hs, ih, List.length_cons, Nat.succ_mul, Nat.add_comm]

section
variable {M M' : Mem} {α : Type} {f : α → List Value} {size : Nat} {v : Value} {xs : List α}
theorem Sl.len (h : Sl M size f v xs) : ∃ a cap, v = .slice a xs.length cap := by
  rcases h with ⟨c, rfl, rfl, rfl⟩ | ⟨b, o, cap, row, rfl, _⟩
  · exact ⟨none, 0, rfl⟩
  · exact ⟨_, cap, rfl⟩
theorem Sl.le (h : Sl M size f v xs) (l : M.le M') : Sl M' size f v xs := by
  rcases h with h | ⟨b, o, cap, row, h1, h2, h3⟩
  · exact .inl h
  · exact .inr ⟨b, o, cap, row, h1, l _ _ h2, h3⟩
theorem Sl.at (hs : ∀ x, (f x).length = size) (h : Sl M size f v xs) {i : Int} (h0 : 0 ≤ i) (h1 : i < xs.length) {x : α} (hx : xs[i.toNat]? = some x) :
    ∃ b o cap, v = .slice (some ⟨b, o, none⟩) xs.length cap ∧ cells M b (o + i.toNat * size) size = some (f x) := by
  rcases h with ⟨c, rfl, rfl, rfl⟩ | ⟨b, o, cap, row, rfl, hM, hc, _, hr, he⟩
  · simp at h1; omega
  · refine ⟨b, o, cap, rfl, ?_⟩
    have hi : i.toNat < xs.length := by omega
    have hmul : (i.toNat + 1) * size ≤ cap * size := Nat.mul_le_mul_right _ (by omega)
    rw [Nat.succ_mul] at hmul
    unfold cells
    rw [hM]
    simp only
    rw [if_pos (by omega)]
    congr 1
    rw [← flat_get hs xs i.toNat x hx, ← he, ← List.drop_drop, List.drop_take, List.take_take]
    congr 1
    have hmul2 : (i.toNat + 1) * size ≤ xs.length * size := Nat.mul_le_mul_right _ (by omega)
    rw [Nat.succ_mul] at hmul2
    omega
end
theorem cells_cell {M : Mem} {b o n : Nat} {vs : List Value} (h : cells M b o n = some vs) {j : Nat} {v : Value} (hj : vs[j]? = some v) : cell M b (o + j) = some v := by
  obtain ⟨cs, hM, hle, rfl⟩ := cells_row h
  unfold cell
  rw [List.getElem?_take] at hj
  split at hj
  · rw [List.getElem?_drop] at hj
    rcases hM with hM | ⟨_, _, hM⟩ <;> rw [hM] <;> exact hj
  · cases hj
theorem row_cell {M : Mem} {b : Nat} {cs : List Value} (h : M b = some (.row cs)) (j : Nat) : cell M b j = cs[j]? := by
  unfold cell; rw [h]
theorem row_cells {M : Mem} {b : Nat} {cs : List Value} (h : M b = some (.row cs)) : cells M b 0 cs.length = some cs := by
  unfold cells; rw [h]; simp

/-- a cell with its pairs' slice -/
structure CS where
  c : Cell
  sa : Option Addr
  cap : Nat
def CS.s (x : CS) : Value := .slice x.sa x.c.pairs.length x.cap
def csv (x : CS) : List Value := cv x.c x.sa x.cap
/-- THE HEAP IN MEMORY, at block a, to be read. -/
structure RH (M : Mem) (a : Nat) (H : Heap) : Prop where
  out : ∃ rs cs gs, ∃ (xs : List CS), M a = some (.row (hv H rs cs gs)) ∧ Sl M 3 wv rs H.regs ∧ Sl M 8 csv cs xs ∧ xs.map (·.c) = H.cells ∧ Sl M 1 iv gs H.gray ∧ ∀ x, x ∈ xs → Sl M 6 pv x.s x.c.pairs
theorem RH.le {M M' : Mem} {a : Nat} {H : Heap} (h : RH M a H) (l : M.le M') : RH M' a H := by
  obtain ⟨rs, cs, gs, xs, h1, h2, h3, h4, h5, h6⟩ := h.out
  exact ⟨rs, cs, gs, xs, l _ _ h1, h2.le l, h3.le l, h4, h5.le l, fun x hx => (h6 x hx).le l⟩

def Heap.getC (H : Heap) (i : Int) : Cell := H.cells.getD i.toNat ⟨0, 0, 0, 0, 0, 0, 0, []⟩
theorem RH.cellAt {M : Mem} {a : Nat} {H : Heap} (h : RH M a H) {i : Int} (h0 : 0 ≤ i) (h1 : i < H.cells.length) :
    ∃ rs gs b o cap sa sc, M a = some (.row (hv H rs (.slice (some ⟨b, o, none⟩) H.cells.length cap) gs)) ∧ cells M b (o + i.toNat * 8) 8 = some (cv (H.getC i) sa sc) ∧ Sl M 6 pv (.slice sa (H.getC i).pairs.length sc) (H.getC i).pairs := by
  obtain ⟨rs, cs, gs, xs, g1, g2, g3, g4, g5, g6⟩ := h.out
  have hl : xs.length = H.cells.length := by rw [← g4]; simp
  have hi : i.toNat < xs.length := by omega
  obtain ⟨x, hx⟩ : ∃ x, xs[i.toNat]? = some x := ⟨_, List.getElem?_eq_getElem hi⟩
  obtain ⟨b, o, cap, rfl, hc⟩ := g3.at (f := csv) (fun _ => rfl) h0 (by omega) hx
  have hxc : H.getC i = x.c := by
    unfold Heap.getC
    rw [← g4, List.getD_eq_getElem?_getD, List.getElem?_map, hx]; rfl
  rw [hl] at g1
  exact ⟨rs, gs, b, o, cap, x.sa, x.cap, g1, by rw [hxc]; exact hc, by rw [hxc]; exact g6 x (List.mem_of_getElem? hx)⟩
end Go.Proofs.Ytpcakglnklpjoaa.E
