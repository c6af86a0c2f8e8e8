/- The engine, part A: memory as a partial map of blocks, states of slots, the operations of a function with their types resolved, and what each of them does. Conditions: none. -/
import Derived.Calls
import Derived.Tactics
import Derived.Deep.LoopGhost
import Derived.StillTail
import Derived.Laws.Sem
import Derived.Laws.World
import Derived.Laws.Cells
import Derived.Laws.CopyRow
import Derived.KernelRfl
set_option linter.unusedVariables false
set_option linter.unusedSimpArgs false
namespace Go.Proofs.Ytpcakglnklpjoaa.E
open Go

/-! ### Memory -/
inductive Bk where
  | row (cs : List Value)
  | ro (cs : List Value) (t : TypeId) (fr : Nat × Nat)
  | mp (es : Array MapEntry) (clk : Nat)

abbrev Mem := Nat → Option Bk
def Mem.upd (M : Mem) (b : Nat) (k : Bk) : Mem := fun x => if x = b then some k else M x
theorem Mem.upd_same (M : Mem) (b : Nat) (k : Bk) : M.upd b k b = some k := by simp [Mem.upd]
theorem Mem.upd_ne (M : Mem) {b x : Nat} (k : Bk) (h : x ≠ b) : M.upd b k x = M x := by simp [Mem.upd, h]
theorem Mem.upd_upd (M : Mem) (b : Nat) (k k' : Bk) : (M.upd b k).upd b k' = M.upd b k' := by
  funext x; unfold Mem.upd; split <;> rfl
theorem Mem.upd_comm (M : Mem) {b c : Nat} (k k' : Bk) (h : b ≠ c) : (M.upd b k).upd c k' = (M.upd c k').upd b k := by
  funext x; unfold Mem.upd; by_cases h1 : x = c <;> by_cases h2 : x = b <;> simp_all
/-- a part of a memory -/
def Mem.le (M M' : Mem) : Prop := ∀ b k, M b = some k → M' b = some k
theorem Mem.le_refl (M : Mem) : M.le M := fun _ _ h => h
theorem Mem.le_trans {A B C : Mem} (h : A.le B) (h' : B.le C) : A.le C := fun b k e => h' b k (h b k e)
theorem Mem.le_upd {M M' : Mem} (h : M.le M') {b : Nat} (hb : M b = none) (k : Bk) : M.le (M'.upd b k) := by
  intro x kx hx
  have : x ≠ b := fun e => by subst e; rw [hb] at hx; cases hx
  rw [Mem.upd_ne _ _ this]; exact h _ _ hx
theorem Mem.upd_le_upd {M M' : Mem} (h : M.le M') (b : Nat) (k : Bk) : (M.upd b k).le (M'.upd b k) := by
  intro x kx hx
  by_cases hxb : x = b
  · subst hxb; rw [Mem.upd_same] at *; exact hx
  · rw [Mem.upd_ne _ _ hxb] at *; exact h _ _ hx

def holds (w : World) (b : Nat) : Bk → Prop
  | .row cs => ∃ t, w.heap[b]? = some (.cells cs.toArray t (0, 0))
  | .ro cs t fr => w.heap[b]? = some (.cells cs.toArray t fr)
  | .mp es c => w.heap[b]? = some (.map es c)
theorem holds.lt {w : World} {b : Nat} {k : Bk} (h : holds w b k) : b < w.heap.size := by
  cases k with
  | row cs => obtain ⟨t, h⟩ := h; exact (Array.getElem?_eq_some_iff.1 h).1
  | ro cs t fr => exact (Array.getElem?_eq_some_iff.1 h).1
  | mp es c => exact (Array.getElem?_eq_some_iff.1 h).1
theorem holds.of_eq {w w' : World} {b : Nat} {k : Bk} (h : holds w b k) (e : w'.heap[b]? = w.heap[b]?) : holds w' b k := by
  cases k with
  | row cs => obtain ⟨t, h⟩ := h; exact ⟨t, e.trans h⟩
  | ro cs t fr => exact e.trans h
  | mp es c => exact e.trans h

theorem holds.ro {w : World} {b : Nat} {cs : List Value} (h : holds w b (.row cs)) : ∃ t fr, holds w b (.ro cs t fr) := let ⟨t, h⟩ := h; ⟨t, _, h⟩

def Sat (w : World) (M : Mem) : Prop := ∀ b k, M b = some k → holds w b k
theorem Sat.lt {w : World} {M : Mem} (h : Sat w M) {b : Nat} (hb : M b ≠ none) : b < w.heap.size := by
  cases hk : M b with
  | none => exact absurd hk hb
  | some k => exact (h b k hk).lt
theorem Sat.le {w : World} {M M' : Mem} (h : Sat w M') (l : M.le M') : Sat w M := fun b k e => h b k (l b k e)

structure Stp (w : World) (M : Mem) (w' : World) (M' : Mem) : Prop where
  os : w'.os = w.os
  tape : w'.tape = w.tape
  output : w'.output = w.output
  size : w.heap.size ≤ w'.heap.size
  keep : ∀ b, b < w.heap.size → M b = none → w'.heap[b]? = w.heap[b]?
  dom : ∀ b, M' b ≠ none → M b ≠ none ∨ w.heap.size ≤ b
theorem Stp.refl (w : World) (M : Mem) : Stp w M w M := ⟨rfl, rfl, rfl, Nat.le_refl _, fun _ _ _ => rfl, fun _ h => .inl h⟩
theorem Stp.trans {w w1 w2 : World} {M M1 M2 : Mem} (h : Stp w M w1 M1) (k : Stp w1 M1 w2 M2) : Stp w M w2 M2 where
  os := k.os.trans h.os
  tape := k.tape.trans h.tape
  output := k.output.trans h.output
  size := Nat.le_trans h.size k.size
  keep b hb hM := by
    have h1 : M1 b = none := by
      cases e : M1 b with
      | none => rfl
      | some x => rcases h.dom b (by rw [e]; simp) with h' | h'
                  · exact absurd hM h'
                  · omega
    exact (k.keep b (Nat.lt_of_lt_of_le hb h.size) h1).trans (h.keep b hb hM)
  dom b hb := by
    rcases k.dom b hb with h' | h'
    · exact h.dom b h'
    · exact .inr (Nat.le_trans h.size h')
theorem Stp.le {w w1 : World} {M M1 M2 : Mem} (h : Stp w M w1 M1) (l : M2.le M1) : Stp w M w1 M2 :=
  ⟨h.os, h.tape, h.output, h.size, h.keep, fun b hb => h.dom b (by
    cases e : M2 b with
    | none => exact absurd e hb
    | some k => rw [l b k e]; simp)⟩

/-- WHAT A CALL DOES: from whatever world in which the memory is M, the function returns a value and leaves a memory of which 'post' speaks. All else is as it was. -/
structure Fn (P : Program) (f : FuncId) (args : List Value) (M : Mem) (post : Value → Mem → Prop) : Prop where
  out : ∀ w, Sat w M → Calls P f args.toArray w (fun e w' => ∃ v M', e = .returned v ∧ post v M' ∧ Sat w' M' ∧ Stp w M w' M')
theorem Fn.mono {P : Program} {f : FuncId} {args : List Value} {M : Mem} {post post' : Value → Mem → Prop} (h : Fn P f args M post) (k : ∀ v M', post v M' → post' v M') : Fn P f args M post' :=
  ⟨fun w hw => (h.out w hw).mono fun _ _ ⟨v, M', e, p, s, t⟩ => ⟨v, M', e, k v M' p, s, t⟩⟩
/-- a call that only looks -/
def Qt (P : Program) (f : FuncId) (args : List Value) (M : Mem) (r : Value) : Prop := Fn P f args M (fun v M' => v = r ∧ M' = M)

/-! ### States -/
inductive SV where
  | v (x : Value)
  | box (cs : List Value)
  | bsl (cs : List Value) (n : Nat)
  | bp (s off : Nat)
  | junk
abbrev St := Nat → SV

def SV.isBox : SV → Bool
  | .box _ | .bsl _ _ => true
  | _ => false

def ev (f : Nat → SV) : Operand → Option Value
  | .tmp t => match f t with | .v x => some x | _ => none
  | .const x => some x
  | .global g => some (.pointer (some ⟨g, 0, none⟩))
  | .func g => some (.func (.func g) #[] #[])
def evs (f : Nat → SV) : List Operand → Option (List Value)
  | [] => some []
  | x :: r => match ev f x, evs f r with | some a, some b => some (a :: b) | _, _ => none

inductive Lc where
  | bx (s off : Nat)
  | mm (b off : Nat)
def lcV : Value → Option Lc
  | .pointer (some ⟨b, o, none⟩) => some (.mm b o)
  | _ => none
def lc (f : Nat → SV) : Operand → Option Lc
  | .tmp t => match f t with
    | .box _ => some (.bx t 0)
    | .bp s o => some (.bx s o)
    | .v x => lcV x
    | _ => none
  | .global g => some (.mm g 0)
  | .const x => lcV x
  | _ => none
def bxc : SV → Option (List Value)
  | .box cs => some cs
  | _ => none

/-- a variable read out of a row -/
def rdv (one : Bool) (n : Nat) (cs : List Value) (o : Nat) : Option Value :=
  if one then cs[o]? else if o + n ≤ cs.length then some (.agg ((cs.drop o).take n).toArray) else none
def wr : List Value → Nat → List Value → List Value
  | cs, _, [] => cs
  | cs, o, x :: r => wr (cs.set o x) (o + 1) r
theorem wr_length (vs : List Value) : ∀ cs o, (wr cs o vs).length = cs.length := by
  induction vs with
  | nil => intro cs o; rfl
  | cons x r ih => intro cs o; simp [wr, ih]
theorem wr_get (vs : List Value) : ∀ (cs : List Value) (o j : Nat), o + vs.length ≤ cs.length → (wr cs o vs)[j]? = if o ≤ j ∧ j < o + vs.length then vs[j - o]? else cs[j]? := by
  induction vs with
  | nil => intro cs o j _; simp only [wr, List.length_nil]; rw [if_neg (by omega)]
  | cons x r ih =>
    intro cs o j h
    simp only [List.length_cons] at h
    simp only [wr, List.length_cons]
    rw [ih _ _ _ (by simp; omega)]
    by_cases h1 : o + 1 ≤ j ∧ j < o + 1 + r.length
    · rw [if_pos h1, if_pos (by omega)]
      rw [show j - o = (j - (o + 1)) + 1 by omega, List.getElem?_cons_succ]
    · rw [if_neg h1]
      by_cases h2 : j = o
      · subst h2
        rw [if_pos (by omega)]
        simp [List.getElem?_set]; omega
      · rw [if_neg (by omega), List.getElem?_set_ne (by omega)]

/-! ### Operations, their types resolved -/
inductive K where
  | mov (x : Operand)
  | pick (c a b : Operand)
  | bin (op : BinOp) (x y : Operand)
  | eqB (neg : Bool) (x y : Operand)
  | eqA (neg : Bool) (n : Nat) (x y : Operand)
  | not (x : Operand)
  | conv (k : IntKind) (x : Operand)
  | load (one : Bool) (n : Nat) (x : Operand)
  | nilCheck (x : Operand)
  | faddr (off : Nat) (x : Operand)
  | field (one : Bool) (off n : Nat) (x : Operand)
  | iaddr (size : Nat) (x i : Operand)
  | sidx (x i : Operand)
  | build (zero : List Value) (parts : List (Nat × Nat × Operand))
  | slc (size : Nat) (x : Operand) (lo hi : Option Operand)
  | sslc (x : Operand) (lo hi : Option Operand)
  | lenS (x : Operand)
  | lenT (x : Operand)
  | min (x y : Operand)
  | ext (x : Operand) (i : Nat)
  | mkfn (f : FuncId) (xs ys : List Operand)
  | look (one : Bool) (zero : Value) (ok : Bool) (x i : Operand)
  | alloc (own : Bool) (zero : List Value)
  | box (own : Bool) (x : Operand)
  | bslice (own : Bool) (len size : Nat) (zero : List Value) (parts : List (Nat × Nat × Operand))
  | qcall (f : FuncId) (xs : List Operand)
  | call (f : FuncId) (xs : List Operand)
  | callv (x : Operand) (xs : List Operand)
  | store (n : Nat) (x y : Operand)
  | mkslice (size bytes : Nat) (zero : List Value) (l c : Operand)
  | app (size bytes : Nat) (zero : List Value) (s x : Operand)
  | appz (size bytes : Nat) (zero : List Value) (s x : Operand)
  | mkmap
  | mupd (x k y : Operand)
  | mdel (x k : Operand)

structure I where
  d : Option Nat
  g : Option (Nat × Bool)
  k : K

def K.ops : K → List Operand
  | .mov x | .not x | .conv _ x | .load _ _ x | .nilCheck x | .faddr _ x | .field _ _ _ x | .lenS x | .lenT x | .ext x _ | .box _ x => [x]
  | .pick c a b => [c, a, b]
  | .bin _ x y | .eqB _ x y | .eqA _ _ x y | .iaddr _ x y | .sidx x y | .min x y | .look _ _ _ x y | .store _ x y | .mkslice _ _ _ x y | .app _ _ _ x y | .appz _ _ _ x y | .mdel x y => [x, y]
  | .build _ ps | .bslice _ _ _ _ ps => ps.map (·.2.2)
  | .slc _ x l h | .sslc x l h => x :: (l.toList ++ h.toList)
  | .mkfn _ xs ys => xs ++ ys
  | .alloc _ _ | .mkmap => []
  | .qcall _ xs | .call _ xs => xs
  | .callv x xs => x :: xs
  | .mupd x y z => [x, y, z]
def tmpsOf : List Operand → List Nat
  | [] => []
  | .tmp t :: r => t :: tmpsOf r
  | _ :: r => tmpsOf r
def I.slots (i : I) : List Nat := (match i.g with | some (s, _) => [s] | none => []) ++ tmpsOf i.k.ops

/-! ### Plain values -/
def binI (op : BinOp) (k : IntKind) (a b : Int) : Option Value :=
  match op with
  | .add => some (.int k (k.wrap (a + b)))
  | .sub => some (.int k (k.wrap (a - b)))
  | .mul => some (.int k (k.wrap (a * b)))
  | .quo => if b = 0 then none else some (.int k (k.wrap (a.tdiv b)))
  | .rem => if b = 0 then none else some (.int k (a.tmod b))
  | .and => some (.int k (k.wrap (BitVec.ofInt k.bits a &&& BitVec.ofInt k.bits b).toNat))
  | .or => some (.int k (k.wrap (BitVec.ofInt k.bits a ||| BitVec.ofInt k.bits b).toNat))
  | .eql => some (.bool (a == b))
  | .neq => some (.bool (a != b))
  | .lss => some (.bool (a < b))
  | .leq => some (.bool (a ≤ b))
  | .gtr => some (.bool (a > b))
  | .geq => some (.bool (a ≥ b))
  | _ => none
def binS (op : BinOp) (a b : ByteArray) : Option Value :=
  match op with
  | .add => if ((a.size + b.size : Nat) : Int) > 9223372036854775807 then none else some (.string (a ++ b))
  | .eql => some (.bool (a.toList == b.toList))
  | .neq => some (.bool !(a.toList == b.toList))
  | _ => none
def binV (op : BinOp) : Value → Value → Option Value
  | .int k a, .int k' b => if k = k' then binI op k a b else none
  | .string a, .string b => binS op a b
  | _, _ => none
/-- two structs of plain cells, held against each other -/
def eqCells : List Value → List Value → Option Bool
  | [], [] => some true
  | .int k a :: r, .int k' b :: r' => if k = k' then (if a == b then eqCells r r' else some false) else none
  | .bool a :: r, .bool b :: r' => if a == b then eqCells r r' else some false
  | _, _ => none
def eqAgg (n : Nat) : Value → Value → Option Bool
  | .agg a, .agg b => if a.size = n ∧ b.size = n then eqCells a.toList b.toList else none
  | _, _ => none
def bnd : Option Value → Nat → Option Nat
  | none, d => some d
  | some (.int _ n), _ => if 0 ≤ n then some n.toNat else none
  | _, _ => none
def slcV (size : Nat) (x : Value) (lo hi : Option Value) : Option Value :=
  match x with
  | .slice a len cap =>
    match bnd lo 0, bnd hi len with
    | some l, some h => if l ≤ h ∧ h ≤ cap then
        match a with
        | none => some (.slice none (h - l) (cap - l))
        | some ⟨b, o, none⟩ => some (.slice (some (if cap = l then ⟨b, o, none⟩ else ⟨b, o + l * size, none⟩)) (h - l) (cap - l))
        | _ => none
      else none
    | _, _ => none
  | _ => none
def sslcV (x : Value) (lo hi : Option Value) : Option Value :=
  match x with
  | .string s => match bnd lo 0, bnd hi s.size with
    | some l, some h => if l ≤ h ∧ h ≤ s.size then some (.string (s.extract l h)) else none
    | _, _ => none
  | _ => none
def optEv (f : Nat → SV) : Option Operand → Option (Option Value)
  | none => some none
  | some x => (ev f x).map some
/-- the parts of a composite, laid over its zero cells -/
def fillP (f : Nat → SV) : List Value → List (Nat × Nat × Operand) → Option (List Value)
  | cs, [] => some cs
  | cs, (o, n, x) :: r => match ev f x with
    | some y => if y.cells.size = n ∧ o + n ≤ cs.length then fillP f (wr cs o y.cells.toList) r else none
    | none => none
/-- cells of one kind each; what a variable's cells are -/
def plainCells (vs : List Value) : Bool := vs.all (·.oneCell')
/-- the value of an operation that looks at no memory -/
def pe (f : Nat → SV) : K → Option SV
  | .mov x => (ev f x).map .v
  | .pick c a b => match ev f c with
    | some (.bool t) => (ev f (if t then a else b)).map .v
    | _ => none
  | .bin op x y => match ev f x, ev f y with
    | some a, some b => (binV op a b).map .v
    | _, _ => none
  | .eqB neg x y => match ev f x, ev f y with
    | some (.bool a), some (.bool b) => some (.v (.bool (if neg then !(a == b) else a == b)))
    | _, _ => none
  | .eqA neg n x y => match ev f x, ev f y with
    | some a, some b => (eqAgg n a b).map fun t => .v (.bool (if neg then !t else t))
    | _, _ => none
  | .not x => match ev f x with
    | some (.bool a) => some (.v (.bool !a))
    | _ => none
  | .conv k x => match ev f x with
    | some (.int _ n) => some (.v (.int k (k.wrap n)))
    | _ => none
  | .load one n x => match lc f x with
    | some (.bx s o) => match bxc (f s) with
      | some cs => (rdv one n cs o).map .v
      | none => none
    | _ => none
  | .nilCheck x => match ev f x with
    | some (.pointer (some a)) => some (.v (.pointer (some a)))
    | some (.func (.func g) a b) => some (.v (.func (.func g) a b))
    | _ => none
  | .faddr off x => match lc f x with
    | some (.bx s o) => some (.bp s (o + off))
    | some (.mm b o) => some (.v (.pointer (some ⟨b, o + off, none⟩)))
    | none => none
  | .field one off n x => match ev f x with
    | some (.agg cs) => if one then (cs.toList[off]?).map .v else some (.v (.agg ((cs.toList.drop off).take n).toArray))
    | _ => none
  | .iaddr size x i => match ev f x, ev f i with
    | some (.slice (some ⟨b, o, none⟩) len _), some (.int _ n) => if 0 ≤ n ∧ n < len then some (.v (.pointer (some ⟨b, o + n.toNat * size, none⟩))) else none
    | _, _ => none
  | .sidx x i => match ev f x, ev f i with
    | some (.string s), some (.int _ n) => if h : 0 ≤ n ∧ n.toNat < s.size then some (.v (.int .u8 ((s[n.toNat]'h.2).toNat : Int))) else none
    | _, _ => none
  | .build zero ps => (fillP f zero ps).map fun cs => .v (.agg cs.toArray)
  | .slc size x lo hi => match ev f x, optEv f lo, optEv f hi with
    | some a, some l, some h => (slcV size a l h).map .v
    | _, _, _ => none
  | .sslc x lo hi => match ev f x, optEv f lo, optEv f hi with
    | some a, some l, some h => (sslcV a l h).map .v
    | _, _, _ => none
  | .lenS x => match ev f x with
    | some (.slice _ n _) => some (.v (.int .i64 n))
    | _ => none
  | .lenT x => match ev f x with
    | some (.string s) => some (.v (.int .i64 s.size))
    | _ => none
  | .min x y => match ev f x, ev f y with
    | some (.int k a), some (.int _ b) => some (.v (.int k (if b < a then b else a)))
    | _, _ => none
  | .ext x i => match ev f x with
    | some (.tuple vs) => (vs.toList[i]?).map .v
    | _ => none
  | .mkfn g xs ys => match evs f xs, evs f ys with
    | some a, some b => some (.v (.func (.func g) a.toArray b.toArray))
    | _, _ => none
  | _ => none
end Go.Proofs.Ytpcakglnklpjoaa.E
