/- The engine, part B: the translation of an operation, and that what an operation computes without looking at memory is what the machine computes. Conditions: none. -/
import Derived.Test.YtpcakglnklpjoaaEngA
import Derived.Laws.Tables
set_option linter.unusedVariables false
set_option linter.unusedSimpArgs false
namespace Go.Proofs.Ytpcakglnklpjoaa.E
open Go

/-! ### The relation -/
def RSV (W0 : World) (β : Nat → Nat) (M : Mem) (w : World) (x : Value) (t : Nat) : SV → Prop
  | .v y => x = y
  | .box cs => x = .pointer (some ⟨β t, 0, none⟩) ∧ holds w (β t) (.row cs) ∧ M (β t) = none ∧ W0.heap.size ≤ β t
  | .bsl cs k => x = .slice (some ⟨β t, 0, none⟩) k k ∧ holds w (β t) (.row cs) ∧ M (β t) = none ∧ W0.heap.size ≤ β t
  | .bp s o => x = .pointer (some ⟨β s, o, none⟩)
  | .junk => True
structure RepF (W0 : World) (M0 : Mem) (β : Nat → Nat) (f : Nat → SV) (n : Nat) (M : Mem) (a : Act) (w : World) : Prop where
  df : a.defers = []
  sz : a.tmps.size = n
  out : ∀ t, n ≤ t → f t = .junk
  sat : Sat w M
  stp : Stp W0 M0 w M
  sv : ∀ t, RSV W0 β M w (a.tmps.getD t undef) t (f t)
  inj : ∀ t t', (f t).isBox = true → (f t').isBox = true → β t = β t' → t = t'

section
variable {W0 : World} {M0 M : Mem} {β : Nat → Nat} {f : Nat → SV} {n : Nat} {a : Act} {w : World}
theorem RepF.ev (h : RepF W0 M0 β f n M a w) {x : Operand} {v : Value} (e : ev f x = some v) : a.eval x = v := by
  cases x with
  | tmp t =>
    have hs := h.sv t
    simp only [E.ev] at e
    cases hf : f t with
    | v y => rw [hf] at e hs; simp only [Option.some.injEq] at e; subst e; exact hs
    | _ => rw [hf] at e; cases e
  | const x => simpa [E.ev, Act.eval] using e
  | global g => simpa [E.ev, Act.eval] using e
  | func g => simpa [E.ev, Act.eval] using e
theorem RepF.evs (h : RepF W0 M0 β f n M a w) : ∀ {xs : List Operand} {vs : List Value}, evs f xs = some vs → xs.map a.eval = vs
  | [], vs, e => by simp only [E.evs, Option.some.injEq] at e; subst e; rfl
  | x :: r, vs, e => by
    simp only [E.evs] at e
    split at e
    · rename_i v vs' h1 h2
      simp only [Option.some.injEq] at e
      subst e
      simp [h.ev h1, h.evs h2]
    · cases e
theorem lcV_mm {x : Value} {l : Lc} (e : lcV x = some l) : ∃ b o, l = .mm b o ∧ x = .pointer (some ⟨b, o, none⟩) := by
  unfold lcV at e
  split at e
  · simp only [Option.some.injEq] at e; exact ⟨_, _, e.symm, rfl⟩
  · cases e
theorem RepF.lc_bx (h : RepF W0 M0 β f n M a w) {x : Operand} {s o : Nat} (e : lc f x = some (.bx s o)) : a.eval x = .pointer (some ⟨β s, o, none⟩) := by
  cases x with
  | tmp t =>
    have hs := h.sv t
    simp only [lc] at e
    cases hf : f t with
    | v y => rw [hf] at e; obtain ⟨b, o', e', _⟩ := lcV_mm e; cases e'
    | box cs => rw [hf] at e hs; simp only [Option.some.injEq, Lc.bx.injEq] at e; obtain ⟨rfl, rfl⟩ := e; exact hs.1
    | bp s' o' => rw [hf] at e hs; simp only [Option.some.injEq, Lc.bx.injEq] at e; obtain ⟨rfl, rfl⟩ := e; exact hs
    | _ => rw [hf] at e; cases e
  | const x => obtain ⟨b, o', e', _⟩ := lcV_mm e; cases e'
  | global g => simp [lc] at e
  | func g => simp [lc] at e
theorem RepF.lc_mm (h : RepF W0 M0 β f n M a w) {x : Operand} {b o : Nat} (e : lc f x = some (.mm b o)) : a.eval x = .pointer (some ⟨b, o, none⟩) := by
  cases x with
  | tmp t =>
    have hs := h.sv t
    simp only [lc] at e
    cases hf : f t with
    | v y => rw [hf] at e hs; obtain ⟨b', o', e', e2⟩ := lcV_mm e; cases e'; rw [← e2]; exact hs
    | _ => rw [hf] at e; simp at e
  | const x => obtain ⟨b', o', e', e2⟩ := lcV_mm e; cases e'; simpa [Act.eval] using e2
  | global g => simp only [lc, Option.some.injEq, Lc.mm.injEq] at e; obtain ⟨rfl, rfl⟩ := e; rfl
  | func g => simp [lc] at e
theorem RepF.bxc (h : RepF W0 M0 β f n M a w) {s : Nat} {cs : List Value} (e : bxc (f s) = some cs) : f s = .box cs ∧ holds w (β s) (.row cs) := by
  have hs := h.sv s
  cases hf : f s with
  | box c => rw [hf] at e hs; simp only [E.bxc, Option.some.injEq] at e; subst e; exact ⟨rfl, hs.2.1⟩
  | _ => rw [hf] at e; simp [E.bxc] at e
end

/-! ### Runs -/
section
variable {P : Program} {w : World}
theorem add_none (b o i : Nat) : (⟨b, o, none⟩ : Addr).add i = ⟨b, o + i, none⟩ := by unfold Addr.add; split <;> simp_all
theorem cell_of_row {b o : Nat} {cs : List Value} (h : ∃ t fr, holds w b (.ro cs t fr)) : w.cell? ⟨b, o, none⟩ = cs[o]? := by
  obtain ⟨t, fr, h⟩ := h
  unfold holds at h
  simp [World.cell?, h]
def isAggD : TypeDesc → Bool
  | .struct _ | .array _ _ => true
  | _ => false
theorem run_isAgg {t : TypeId} {d : TypeDesc} (hd : P.underlying t = some d) : (isAgg t).run P w = .ok (isAggD d) w := by
  unfold isAgg underlying
  simp only [Sem.run_bind, run_program, Result.andThen_ok, hd, Sem.run_pure]
  cases d <;> rfl
theorem run_loadVar {t : TypeId} {d : TypeDesc} {i : TypeInfo} {b o : Nat} {cs : List Value} {v : Value} (hd : P.underlying t = some d) (hi : P.info? t = some i)
    (hb : ∃ t fr, holds w b (.ro cs t fr)) (hv : rdv (!isAggD d) i.size cs o = some v) : (loadVar t ⟨b, o, none⟩).run P w = .ok v w := by
  unfold loadVar
  simp only [Sem.run_bind, run_isAgg hd, Result.andThen_ok]
  cases hg : isAggD d with
  | false =>
    simp only [hg, Bool.not_false, rdv, if_true] at hv
    simp only [Bool.false_eq_true, if_false, run_load, cell_of_row hb, hv]
  | true =>
    simp only [hg, Bool.not_true, rdv, Bool.false_eq_true, if_false] at hv
    split at hv
    · rename_i hle
      simp only [Option.some.injEq] at hv
      subst hv
      have hl : ((cs.drop o).take i.size).length = i.size := by simp; omega
      have := run_loadCells_list (P := P) w ⟨b, o, none⟩ ((cs.drop o).take i.size) (fun j v hj => by
        rw [add_none, cell_of_row hb]
        rw [List.getElem?_take] at hj
        split at hj
        · rw [List.getElem?_drop] at hj; exact hj
        · cases hj)
      rw [hl] at this
      simp only [if_true, Sem.run_bind, sizeOf, typeInfo, run_program, Result.andThen_ok, hi, Sem.run_pure, this]
    · cases hv
end
theorem run_val {P : Program} {w : World} {v : Value} {s : Sem Value} (h : s.run P w = .ok v w) : (do pure (Next.value (← s)) : Sem Next).run P w = .ok (.value v) w := by
  simp [h]

/-! ### The translation of one operation -/
def elemI (P : Program) (t : TypeId) : Option (TypeId × TypeInfo) :=
  match P.underlying t with
  | some (.slice e) => (P.info? e).map fun i => (e, i)
  | _ => none
def fieldI (P : Program) (t : TypeId) (k : Nat) : Option (Field × TypeInfo) :=
  match P.underlying t with
  | some (.struct fs) => match fs[k]? with
    | some f => (P.info? f.type).map fun i => (f, i)
    | none => none
  | _ => none
def partsI (P : Program) (place : Nat → Option (Nat × Nat)) : List (Nat × Operand) → Option (List (Nat × Nat × Operand))
  | [] => some []
  | (k, x) :: r => match place k, partsI P place r with
    | some (o, n), some r' => some ((o, n, x) :: r')
    | _, _ => none
def trK (P : Program) (q own : Bool) : Op → Option K
  | .move x | .assign x => some (.mov x)
  | .pick c a b => some (.pick c a b)
  | .binOp op t x y _ => match P.underlying t with
    | some (.int _) | some .string => some (.bin op x y)
    | some .bool => match op with
      | .eql => some (.eqB false x y)
      | .neq => some (.eqB true x y)
      | _ => none
    | _ => none
  | .unOp .not _ x => some (.not x)
  | .convert s d x => match P.underlying s, P.underlying d with
    | some (.int _), some (.int k) => some (.conv k x)
    | _, _ => none
  | .load t x => match P.underlying t, P.info? t with
    | some d, some i => some (.load (!isAggD d) i.size x)
    | _, _ => none
  | .nilCheck x => some (.nilCheck x)
  | .fieldAddr t x k => match fieldI P t k with
    | some (f, i) => if i.size = 0 then none else some (.faddr f.offset x)
    | none => none
  | .field t x k => match fieldI P t k with
    | some (f, i) => match P.underlying f.type with
      | some d => some (.field (!isAggD d) f.offset i.size x)
      | none => none
    | none => none
  | .indexAddr t x i => match elemI P t with
    | some (_, e) => some (.iaddr e.size x i)
    | none => none
  | .index t x i => match P.underlying t with
    | some .string => some (.sidx x i)
    | _ => none
  | .extract x i => some (.ext x i)
  | .slice t x lo hi none => match P.underlying t with
    | some .string => some (.sslc x lo hi)
    | some (.slice e) => match P.info? e with
      | some i => some (.slc i.size x lo hi)
      | none => none
    | _ => none
  | .call { callee := .builtin .len, args := ⟨[x]⟩, argTypes := ⟨[t]⟩ } => match P.underlying t with
    | some (.slice _) => some (.lenS x)
    | some .string => some (.lenT x)
    | _ => none
  | .call { callee := .builtin .min, args := ⟨[x, y]⟩, argTypes := ⟨[t, _]⟩ } => match P.underlying t with
    | some (.int _) => some (.min x y)
    | _ => none
  | .makeFunc (.func g) xs ys => some (.mkfn g xs.toList ys.toList)
  | .build t ps => match P.underlying t, (P.info? t).bind (·.zero) with
    | some (.struct fs), some z => match fs.toList.mapM (fun f => (P.info? f.type).map fun i => (f.offset, i.size)) with
      | some pl => (partsI P (pl[·]?) ps.toList).map (.build z.cells.toList)
      | none => none
    | _, _ => none
  | .alloc t => match (P.info? t).bind (·.zero) with
    | some z => some (.alloc own z.cells.toList)
    | none => none
  | .box t x => some (.box own x)
  | .buildSlice t len ps => match elemI P t with
    | some (_, i) => match i.zero with
      | some z => if 0 < len * i.size ∧ len * i.size ≤ 65536 ∧ z.cells.size = i.size then
          (partsI P (fun k => some (k * i.size, i.size)) ps.toList).map (.bslice own len i.size ((List.range (len * i.size)).map fun j => z.cells[j % z.cells.size]!)) else none
      | none => none
    | none => none
  | .call { callee := .value (.func g), args, .. } => match P.funcs[g]? with
    | some fn => if fn.body.isSome && fn.name != "runtime.NumGoroutine" then some (if q then .qcall g args.toList else .call g args.toList) else none
    | none => none
  | .call { callee := .value (.tmp t), args, .. } => some (.callv (.tmp t) args.toList)
  | .store t x y => match P.info? t with
    | some i => some (.store i.size x y)
    | none => none
  | .makeSlice t l c => match elemI P t with
    | some (_, i) => match i.zero with
      | some z => if z.cells.size = i.size ∧ 0 < i.size then some (.mkslice i.size i.bytes z.cells.toList l c) else none
      | none => none
    | none => none
  | .call { callee := .builtin .append, args := ⟨[s, x]⟩, argTypes := ⟨[t, u]⟩ } => match elemI P t with
    | some (_, i) => match i.zero with
      | some z => if z.cells.size = i.size ∧ 0 < i.size ∧ 0 < i.bytes then
          match P.underlying u with
          | some (.int _) => some (.appz i.size i.bytes z.cells.toList s x)
          | some (.slice _) => some (.app i.size i.bytes z.cells.toList s x)
          | some .string => some (.app i.size i.bytes z.cells.toList s x)
          | _ => none
        else none
      | none => none
    | none => none
  | .makeMap t none => some .mkmap
  | .lookup t x i ok => match P.underlying t with
    | some (.map k e) => match P.underlying k, P.underlying e, (P.info? e).bind (·.zero) with
      | some (.int _), some d, some z => some (.look (!isAggD d) z ok x i)
      | _, _, _ => none
    | _ => none
  | .mapUpdate t m k y => match P.underlying t with
    | some (.map k' _) => match P.underlying k' with
      | some (.int _) => some (.mupd m k y)
      | _ => none
    | _ => none
  | .call { callee := .builtin .delete, args := ⟨[m, k]⟩, argTypes := ⟨[t, _]⟩ } => match P.underlying t with
    | some (.map k' _) => match P.underlying k' with
      | some (.int _) => some (.mdel m k)
      | _ => none
    | _ => none
  | _ => none

/-! ### What is computed without memory -/
section
variable {P : Program} {W0 : World} {M0 M : Mem} {β : Nat → Nat} {f : Nat → SV} {n : Nat} {a : Act} {w : World}

theorem run_binV {op : BinOp} {t : TypeId} {d : TypeDesc} {x y : Operand} {u v r : Value} (hd : P.underlying t = some d) (h : binV op u v = some r) :
    (do eqGuard op t x y u v; binOp op t u v : Sem Value).run P w = .ok r w := by
  unfold binV at h
  split at h
  · rename_i k a k' b
    split at h
    · rename_i hk
      subst hk
      have hg : (eqGuard op t x y (.int k a) (.int k b)).run P w = .ok () w := by unfold eqGuard; cases op <;> simp
      simp only [Sem.run_bind, hg, Result.andThen_ok]
      cases op <;> simp only [binI] at h <;> (try simp at h) <;>
        (first
          | (subst h; simp [binOp, Op.intArith, Op.intCmp, Op.intBits]; done)
          | (obtain ⟨h0, rfl⟩ := h; simp [binOp, Op.intDiv, h0]; done))
    · cases h
  · rename_i a b
    have hg : (eqGuard op t x y (.string a) (.string b)).run P w = .ok () w := by unfold eqGuard; cases op <;> simp
    simp only [Sem.run_bind, hg, Result.andThen_ok]
    cases op <;> simp only [binS] at h <;> (try simp at h) <;>
      (first
        | (subst h; simp [binOp, Op.stringOp]; done)
        | (obtain ⟨h0, rfl⟩ := h; have e64 : IntKind.i64.max = 9223372036854775807 := by decide +kernel
           simp [binOp, Op.stringOp, e64]; omega))
  · cases h

/-- what a slot holds behind such an operation -/
def RS (β : Nat → Nat) (x : Value) : SV → Prop
  | .v y => x = y
  | .bp s o => x = .pointer (some ⟨β s, o, none⟩)
  | _ => False

theorem run_fieldAt {t : TypeId} {fs : Array Field} {k : Nat} {fl : Field} {i : TypeInfo} {b o : Nat} (hd : P.underlying t = some (.struct fs)) (hf : fs[k]? = some fl) (hi : P.info? fl.type = some i) (hz : i.size ≠ 0) :
    (Instr.fieldAt t (.pointer (some ⟨b, o, none⟩)) k).run P w = .ok (.pointer (some ⟨b, o + fl.offset, none⟩)) w := by
  simp [Instr.fieldAt, underlying, hd, hf, Instr.sureAddr, fieldPlace, sizeOf, typeInfo, hi, hz, add_none]
theorem fieldI_some {t : TypeId} {k : Nat} {fl : Field} {i : TypeInfo} (h : fieldI P t k = some (fl, i)) : ∃ fs, P.underlying t = some (.struct fs) ∧ fs[k]? = some fl ∧ P.info? fl.type = some i := by
  unfold fieldI at h
  split at h
  · rename_i fs hd
    split at h
    · rename_i f hf
      simp only [Option.map_eq_some_iff, Prod.mk.injEq] at h
      obtain ⟨j, hj, rfl, rfl⟩ := h
      exact ⟨fs, hd, hf, hj⟩
    · cases h
  · cases h
theorem elemI_some {t : TypeId} {e : TypeId} {i : TypeInfo} (h : elemI P t = some (e, i)) : P.underlying t = some (.slice e) ∧ P.info? e = some i := by
  unfold elemI at h
  split at h
  · rename_i e' hd
    simp only [Option.map_eq_some_iff, Prod.mk.injEq] at h
    obtain ⟨j, hj, rfl, rfl⟩ := h
    exact ⟨hd, hj⟩
  · cases h
theorem run_indexAt {t e : TypeId} {i : TypeInfo} {b o len cap : Nat} {k : IntKind} {m : Int} (hd : P.underlying t = some (.slice e)) (hi : P.info? e = some i) (hm : 0 ≤ m ∧ m < len) :
    (Instr.indexAt t (.slice (some ⟨b, o, none⟩) len cap) (.int k m)).run P w = .ok (.pointer (some ⟨b, o + m.toNat * i.size, none⟩)) w := by
  simp [Instr.indexAt, asIntOf, underlying, hd, sizeOf, typeInfo, hi, hm, add_none]
theorem bnd_run {v : Option Value} {d y : Nat} {l : Nat} {code : BoundsCode} (h : bnd v d = some l) (hy : l ≤ y) :
    (match v with | some v => Instr.sliceBound v y code | none => pure d : Sem Nat).run P w = .ok l w := by
  cases v with
  | none => simp only [bnd, Option.some.injEq] at h; subst h; rfl
  | some x =>
    cases x with
    | int k n =>
      simp only [bnd] at h
      split at h
      · rename_i h0
        simp only [Option.some.injEq] at h
        subst h
        have : 0 ≤ n ∧ n ≤ (y : Int) := ⟨h0, by omega⟩
        simp [Instr.sliceBound, asIntOf, this]
      · cases h
    | _ => simp [bnd] at h
theorem sb_run {x : Value} {d y l : Nat} {code : BoundsCode} (h : bnd (some x) d = some l) (hy : l ≤ y) : (Instr.sliceBound x y code).run P w = .ok l w :=
  bnd_run (v := some x) h hy
theorem run_bounds {isS : Bool} {len cap : Nat} {lo hi : Option Value} {l h : Nat} (hl : bnd lo 0 = some l) (hh : bnd hi len = some h) (h1 : l ≤ h) (h2 : h ≤ cap) :
    (Instr.sliceBounds isS len cap lo hi none).run P w = .ok (l, h, cap) w := by
  cases hi with
  | none =>
    simp only [bnd, Option.some.injEq] at hh
    subst hh
    cases lo with
    | none => simp only [bnd, Option.some.injEq] at hl; subst hl; simp [Instr.sliceBounds]
    | some v => simp [Instr.sliceBounds, sb_run (P := P) (w := w) (code := .sliceB) hl h1]
  | some u =>
    have hu := sb_run (P := P) (w := w) (code := (if isS then .sliceAcap else .sliceAlen)) hh h2
    cases lo with
    | none => simp only [bnd, Option.some.injEq] at hl; subst hl; simp [Instr.sliceBounds, hu]
    | some v => simp [Instr.sliceBounds, hu, sb_run (P := P) (w := w) (code := .sliceB) hl h1]
theorem run_slc {t e : TypeId} {i : TypeInfo} {x : Value} {lo hi : Option Value} {r : Value} (hd : P.underlying t = some (.slice e)) (hi' : P.info? e = some i) (h : slcV i.size x lo hi = some r) :
    (Instr.slice t x lo hi none).run P w = .ok r w := by
  unfold slcV at h
  split at h
  · rename_i a len cap
    split at h
    · rename_i l hh hl0 hh0
      split at h
      · rename_i hle
        have hb := run_bounds (P := P) (w := w) (isS := true) hl0 hh0 hle.1 hle.2
        split at h
        · simp only [Option.some.injEq] at h; subst h
          simp [Instr.slice, underlying, hd, hb, sizeOf, typeInfo, hi']
        · simp only [Option.some.injEq] at h; subst h
          simp only [Instr.slice, underlying, Sem.run_bind, run_program, Result.andThen_ok, hd, Sem.run_pure, hb, sizeOf, typeInfo, hi', Option.map_some, add_none]
          split <;> rfl
        · cases h
      · cases h
    · cases h
  · cases h
theorem run_sslc {t : TypeId} {x : Value} {lo hi : Option Value} {r : Value} (hd : P.underlying t = some .string) (h : sslcV x lo hi = some r) :
    (Instr.slice t x lo hi none).run P w = .ok r w := by
  unfold sslcV at h
  split at h
  · rename_i s
    split at h
    · rename_i l hh hl0 hh0
      split at h
      · rename_i hle
        have hb := run_bounds (P := P) (w := w) (isS := false) hl0 hh0 hle.1 hle.2
        simp only [Option.some.injEq] at h; subst h
        simp [Instr.slice, underlying, hd, hb]
      · cases h
    · cases h
  · cases h
theorem RepF.optEv (h : RepF W0 M0 β f n M a w) {x : Option Operand} {v : Option Value} (e : optEv f x = some v) : x.map a.eval = v := by
  cases x with
  | none => simpa [E.optEv] using e
  | some x =>
    simp only [E.optEv, Option.map_eq_some_iff] at e
    obtain ⟨u, hu, rfl⟩ := e
    simp [h.ev hu]

theorem strEv {s : ByteArray} {m : Int} (h : 0 ≤ m ∧ m.toNat < s.size) : (if 0 ≤ m then s[m.toNat]? else none) = some (s[m.toNat]'h.2) := by
  rw [if_pos h.1]
  exact getElem?_pos s m.toNat h.2
theorem run_eqBool {t : TypeId} {d : Nat} {x y : Bool} (hd : P.underlying t = some .bool) : (Op.equalIn (d + 1) t (.bool x) (.bool y)).run P w = .ok (x == y) w := by
  simp [Op.equalIn, underlying, hd]
theorem run_eqB {t : TypeId} {x y : Bool} {p q : Operand} (neg : Bool) (hd : P.underlying t = some .bool) :
    (do eqGuard (if neg then .neq else .eql) t p q (.bool x) (.bool y); binOp (if neg then .neq else .eql) t (.bool x) (.bool y) : Sem Value).run P w = .ok (.bool (if neg then !(x == y) else x == y)) w := by
  have h := run_eqBool (P := P) (w := w) (d := 9999) (x := x) (y := y) hd
  have he : Op.equal t (.bool x) (.bool y) = Op.equalIn (9999 + 1) t (.bool x) (.bool y) := rfl
  cases neg with
  | false =>
    have hg : (eqGuard .eql t p q (.bool x) (.bool y)).run P w = .ok () w := by simp [eqGuard]
    have hb : binOp .eql t (.bool x) (.bool y) = (do pure (.bool (← Op.equal t (.bool x) (.bool y)))) := rfl
    simp only [Bool.false_eq_true, if_false, Sem.run_bind, hg, Result.andThen_ok, hb, he, h, Sem.run_pure]
  | true =>
    have hg : (eqGuard .neq t p q (.bool x) (.bool y)).run P w = .ok () w := by simp [eqGuard]
    have hb : binOp .neq t (.bool x) (.bool y) = (do pure (.bool (!(← Op.equal t (.bool x) (.bool y))))) := rfl
    simp only [if_true, Sem.run_bind, hg, Result.andThen_ok, hb, he, h, Sem.run_pure]

theorem fold_wr (off : Nat) : ∀ (l : List Value) (k : Nat) (cells : Array Value), (l.zipIdx k).foldl (fun cs (x : Value × Nat) => cs.setIfInBounds (off + x.2) x.1) cells = (wr cells.toList (off + k) l).toArray
  | [], k, cells => by simp [wr]
  | x :: r, k, cells => by
    simp only [List.zipIdx_cons, List.foldl_cons, wr]
    rw [fold_wr off r (k + 1)]
    simp [Nat.add_assoc]
theorem fill_run {place : Nat → Option (Nat × Nat)} (hR : RepF W0 M0 β f n M a w) : ∀ {parts : List (Nat × Operand)} {ps : List (Nat × Nat × Operand)} {cs r : List Value}, partsI P place parts = some ps → fillP f cs ps = some r →
    Instr.fill place cs.toArray (parts.map fun x => (x.1, a.eval x.2)) = some r.toArray
  | [], ps, cs, r, hp, hf => by
    simp only [partsI, Option.some.injEq] at hp
    subst hp
    simp only [fillP, Option.some.injEq] at hf
    subst hf
    rfl
  | (k, x) :: t, ps, cs, r, hp, hf => by
    simp only [partsI] at hp
    split at hp
    · rename_i o m r' h1 h2
      simp only [Option.some.injEq] at hp
      subst hp
      simp only [fillP] at hf
      split at hf
      · rename_i y hy
        split at hf
        · rename_i hc
          have ih := fill_run hR h2 hf
          simp only [List.map_cons, Instr.fill, h1, hR.ev hy]
          rw [if_neg (by simp; omega)]
          have := fold_wr o y.cells.toList 0 cs.toArray
          simp only [Nat.add_zero] at this
          rw [← Array.foldl_toList, Array.toList_zipIdx]
          exact (congrArg (fun z => Instr.fill place z (t.map fun x => (x.1, a.eval x.2))) this).trans ih
        · cases hf
      · cases hf
    · cases hp
theorem mapM_run {α γ : Type} {g : α → Sem γ} {h : α → Option γ} (hg : ∀ x y, h x = some y → (g x).run P w = .ok y w) : ∀ {l : List α} {r : List γ}, l.mapM h = some r → (l.mapM g).run P w = .ok r w
  | [], r, e => by simp only [List.mapM_nil, Option.pure_def, Option.some.injEq] at e; subst e; simp
  | x :: t, r, e => by
    simp only [List.mapM_cons, Option.pure_def, Option.bind_eq_bind, Option.bind_eq_some_iff, Option.some.injEq] at e
    obtain ⟨y, hy, r', hr, rfl⟩ := e
    simp only [List.mapM_cons, Sem.run_bind, hg x y hy, Result.andThen_ok, mapM_run hg hr, Sem.run_pure]
theorem run_build {t : TypeId} {fs : Array Field} {z : Value} {i : TypeInfo} {pl : List (Nat × Nat)} {ps : List (Nat × Nat × Operand)} {parts : Array (Nat × Operand)} {cs : List Value}
    (hR : RepF W0 M0 β f n M a w) (hd : P.underlying t = some (.struct fs)) (hi : P.info? t = some i) (hz : i.zero = some z)
    (hpl : fs.toList.mapM (fun f => (P.info? f.type).map fun i => (f.offset, i.size)) = some pl) (hp : partsI P (pl[·]?) parts.toList = some ps) (hf : fillP f z.cells.toList ps = some cs) :
    (Instr.build t (parts.map fun x => (x.1, a.eval x.2))).run P w = .ok (.agg cs.toArray) w := by
  have h1 : (fs.mapM (fun f => do pure (f.offset, ← sizeOf f.type) : Field → Sem (Nat × Nat))).run P w = .ok pl.toArray w := by
    rw [Array.mapM_eq_mapM_toList]
    have := mapM_run (P := P) (w := w) (g := fun f : Field => (do pure (f.offset, ← sizeOf f.type) : Sem (Nat × Nat))) (h := fun f => (P.info? f.type).map fun i => (f.offset, i.size)) (fun x y hxy => by
      simp only [Option.map_eq_some_iff] at hxy
      obtain ⟨j, hj, rfl⟩ := hxy
      simp [sizeOf, typeInfo, hj]) hpl
    simp only [Sem.run_map, this, Result.andThen_ok]
  have h2 := fill_run (P := P) hR hp hf
  have h3 : (fun k : Nat => (pl.toArray)[k]?) = fun k : Nat => pl[k]? := by funext k; simp
  simp only [Instr.build, zeroValue, typeInfo, Sem.run_bind, run_program, Result.andThen_ok, hi, Sem.run_pure, hz, underlying, hd, h1, h3, Array.toList_map]
  simp only [Array.toArray_toList] at h2
  rw [h2]
  rfl

/-- THE PURE OPERATIONS. -/
theorem pe_run (hR : RepF W0 M0 β f n M a w) {o : Oper} {q own : Bool} {k : K} {sv : SV} (hk : trK P q own o.op = some k) (h : pe f k = some sv) :
    ∃ x, (execOp a.eval o).run P w = .ok (.value x) w ∧ RS β x sv := by
  obtain ⟨dst, op, ty, pos, after, guard⟩ := o
  cases op <;> simp only [trK] at hk <;> (try (cases hk; done))
  case move x =>
    cases hk
    simp only [pe, Option.map_eq_some_iff] at h
    obtain ⟨v, hv, rfl⟩ := h
    exact ⟨v, by simp [execOp, hR.ev hv], rfl⟩
  case assign x =>
    cases hk
    simp only [pe, Option.map_eq_some_iff] at h
    obtain ⟨v, hv, rfl⟩ := h
    exact ⟨v, by simp [execOp, hR.ev hv], rfl⟩
  case pick c x y =>
    cases hk
    simp only [pe] at h
    split at h
    · rename_i t ht
      simp only [Option.map_eq_some_iff] at h
      obtain ⟨v, hv, rfl⟩ := h
      refine ⟨v, ?_, rfl⟩
      cases t with
      | true => simp [execOp, hR.ev ht, asBool]; simpa using hR.ev hv
      | false => simp [execOp, hR.ev ht, asBool]; simpa using hR.ev hv
    · cases h
  case binOp op t x y yt =>
    split at hk
    · rename_i k0 hd
      cases hk
      simp only [pe] at h
      split at h
      · rename_i u v hu hv
        simp only [Option.map_eq_some_iff] at h
        obtain ⟨r, hr, rfl⟩ := h
        refine ⟨r, ?_, rfl⟩
        have := run_binV (P := P) (w := w) (t := t) (x := x) (y := y) hd hr
        simp only [execOp, hR.ev hu, hR.ev hv]
        exact run_val this
      · cases h
    · rename_i hd
      cases hk
      simp only [pe] at h
      split at h
      · rename_i u v hu hv
        simp only [Option.map_eq_some_iff] at h
        obtain ⟨r, hr, rfl⟩ := h
        refine ⟨r, ?_, rfl⟩
        have := run_binV (P := P) (w := w) (t := t) (x := x) (y := y) hd hr
        simp only [execOp, hR.ev hu, hR.ev hv]
        exact run_val this
      · cases h
    · rename_i hd
      split at hk
      · cases hk
        simp only [pe] at h
        split at h
        · rename_i u v hu hv
          simp only [Option.some.injEq] at h
          subst h
          refine ⟨_, ?_, rfl⟩
          simp only [execOp, hR.ev hu, hR.ev hv]
          exact run_val (run_eqB false hd)
        · cases h
      · cases hk
        simp only [pe] at h
        split at h
        · rename_i u v hu hv
          simp only [Option.some.injEq] at h
          subst h
          refine ⟨_, ?_, rfl⟩
          simp only [execOp, hR.ev hu, hR.ev hv]
          exact run_val (run_eqB true hd)
        · cases h
      · cases hk
    · cases hk
  case unOp op t x =>
    cases op <;> simp only [trK] at hk <;> (try (cases hk; done))
    cases hk
    simp only [pe] at h
    split at h
    · rename_i u hu
      simp only [Option.some.injEq] at h
      subst h
      refine ⟨_, ?_, rfl⟩
      simp only [execOp, hR.ev hu]
      exact run_val (by simp [Op.unary])
    · cases h
  case convert s d x =>
    split at hk
    · rename_i k0 k1 hs hd
      cases hk
      simp only [pe] at h
      split at h
      · rename_i k2 m hu
        simp only [Option.some.injEq] at h
        subst h
        refine ⟨_, ?_, rfl⟩
        simp only [execOp, hR.ev hu]
        exact run_val (by simp [convert, underlying, hs, hd, Conv.intToInt])
      · cases h
    · cases hk
  case load t x =>
    split at hk
    · rename_i d i hd hi
      cases hk
      simp only [pe] at h
      split at h
      · rename_i s off hl
        split at h
        · rename_i cs hc
          simp only [Option.map_eq_some_iff] at h
          obtain ⟨v, hv, rfl⟩ := h
          refine ⟨v, ?_, rfl⟩
          simp only [execOp, hR.lc_bx hl]
          exact run_val (by simp only [Instr.loadAt, Instr.sureAddr, Sem.run_bind, Sem.run_pure, Result.andThen_ok]; exact run_loadVar hd hi (hR.bxc hc).2.ro hv)
        · cases h
      · cases h
    · cases hk
  case nilCheck x =>
    cases hk
    simp only [pe] at h
    split at h
    · rename_i ad hu
      simp only [Option.some.injEq] at h
      subst h
      exact ⟨_, by simp [execOp, hR.ev hu], rfl⟩
    · rename_i g u v hu
      simp only [Option.some.injEq] at h
      subst h
      exact ⟨_, by simp [execOp, hR.ev hu], rfl⟩
    · cases h
  case fieldAddr t x k =>
    split at hk
    · rename_i fl i hf
      obtain ⟨fs, hd, hfk, hi⟩ := fieldI_some hf
      split at hk
      · cases hk
      · rename_i hz
        cases hk
        simp only [pe] at h
        split at h
        · rename_i s off hl
          simp only [Option.some.injEq] at h
          subst h
          refine ⟨_, ?_, rfl⟩
          simp only [execOp, hR.lc_bx hl]
          exact run_val (run_fieldAt hd hfk hi hz)
        · rename_i b off hl
          simp only [Option.some.injEq] at h
          subst h
          refine ⟨_, ?_, rfl⟩
          simp only [execOp, hR.lc_mm hl]
          exact run_val (run_fieldAt hd hfk hi hz)
        · cases h
    · cases hk
  case field t x k =>
    split at hk
    · rename_i fl i hf
      obtain ⟨fs, hd, hfk, hi⟩ := fieldI_some hf
      split at hk
      · rename_i d hfd
        cases hk
        simp only [pe] at h
        split at h
        · rename_i cs hu
          simp only [execOp, hR.ev hu]
          cases hg : isAggD d with
          | false =>
            simp only [hg, Bool.not_false, if_true, Option.map_eq_some_iff] at h
            obtain ⟨v, hv, rfl⟩ := h
            refine ⟨v, ?_, rfl⟩
            refine run_val ?_
            simp only [Array.getElem?_toList] at hv
            simp only [Instr.field, underlying, Sem.run_bind, run_program, Result.andThen_ok, hd, Sem.run_pure, hfk, asAgg, part, run_isAgg hfd, hg, Bool.false_eq_true, if_false, hv]
          | true =>
            simp only [hg, Bool.not_true, Bool.false_eq_true, if_false, Option.some.injEq] at h
            subst h
            refine ⟨_, ?_, rfl⟩
            refine run_val ?_
            simp only [Instr.field, underlying, Sem.run_bind, run_program, Result.andThen_ok, hd, Sem.run_pure, hfk, asAgg, part, run_isAgg hfd, hg, if_true, sizeOf, typeInfo, hi]
            congr 2
            apply Array.ext'
            simp [Array.toList_extract, List.extract_eq_take_drop]
        · cases h
      · cases hk
    · cases hk
  case indexAddr t x i =>
    split at hk
    · rename_i e ei he
      obtain ⟨hd, hi⟩ := elemI_some he
      cases hk
      simp only [pe] at h
      split at h
      · rename_i b off len cap kk m hu hv
        split at h
        · rename_i hm
          simp only [Option.some.injEq] at h
          subst h
          refine ⟨_, ?_, rfl⟩
          simp only [execOp, hR.ev hu, hR.ev hv]
          exact run_val (run_indexAt hd hi hm)
        · cases h
      · cases h
    · cases hk
  case index t x i =>
    split at hk
    · rename_i hd
      cases hk
      simp only [pe] at h
      split at h
      · rename_i s kk m hu hv
        split at h
        · rename_i hm
          simp only [Option.some.injEq] at h
          subst h
          refine ⟨_, ?_, rfl⟩
          simp only [execOp, hR.ev hu, hR.ev hv]
          refine run_val ?_
          simp only [Instr.index, asIntOf, underlying, Sem.run_bind, run_program, Result.andThen_ok, hd, Sem.run_pure, strEv hm]
        · cases h
      · cases h
    · cases hk
  case extract x i =>
    cases hk
    simp only [pe] at h
    split at h
    · rename_i vs hu
      simp only [Option.map_eq_some_iff] at h
      obtain ⟨v, hv, rfl⟩ := h
      refine ⟨v, ?_, rfl⟩
      simp only [execOp, hR.ev hu]
      refine run_val ?_
      simp only [Array.getElem?_toList] at hv
      simp [Instr.extract, hv]
    · cases h
  case slice t x lo hi mx =>
    cases mx with
    | some _ => simp only [trK] at hk; cases hk
    | none =>
      simp only [trK] at hk
      split at hk
      · rename_i hd
        cases hk
        simp only [pe] at h
        split at h
        · rename_i u l hh hu hl hh0
          simp only [Option.map_eq_some_iff] at h
          obtain ⟨r, hr, rfl⟩ := h
          refine ⟨r, ?_, rfl⟩
          simp only [execOp, hR.ev hu, hR.optEv hl, hR.optEv hh0, Option.map_none]
          refine run_val ?_
          simp only [Instr.sliceAt, underlying, Sem.run_bind, run_program, Result.andThen_ok, hd, Sem.run_pure]
          exact run_sslc hd hr
        · cases h
      · rename_i e hd
        split at hk
        · rename_i i hi'
          cases hk
          simp only [pe] at h
          split at h
          · rename_i u l hh hu hl hh0
            simp only [Option.map_eq_some_iff] at h
            obtain ⟨r, hr, rfl⟩ := h
            refine ⟨r, ?_, rfl⟩
            simp only [execOp, hR.ev hu, hR.optEv hl, hR.optEv hh0, Option.map_none]
            refine run_val ?_
            simp only [Instr.sliceAt, underlying, Sem.run_bind, run_program, Result.andThen_ok, hd, Sem.run_pure]
            exact run_slc hd hi' hr
          · cases h
        · cases hk
      · cases hk
  case makeFunc fn xs ys =>
    cases fn <;> simp only [trK] at hk <;> (try (cases hk; done))
    cases hk
    simp only [pe] at h
    split at h
    · rename_i u v hu hv
      simp only [Option.some.injEq] at h
      subst h
      refine ⟨_, ?_, rfl⟩
      simp only [execOp]
      refine run_val ?_
      have e1 : xs.map a.eval = u.toArray := by rw [← hR.evs hu]; apply Array.ext'; simp
      have e2 : ys.map a.eval = v.toArray := by rw [← hR.evs hv]; apply Array.ext'; simp
      simp [Instr.makeFunc, e1, e2]
    · cases h
  case build t ps =>
    split at hk
    · rename_i fs z hd hz
      split at hk
      · rename_i pl hpl
        simp only [Option.map_eq_some_iff] at hk
        obtain ⟨qs, hq, rfl⟩ := hk
        simp only [pe, Option.map_eq_some_iff] at h
        obtain ⟨cs, hcs, rfl⟩ := h
        refine ⟨_, ?_, rfl⟩
        simp only [execOp]
        refine run_val ?_
        rw [Option.bind_eq_some_iff] at hz
        obtain ⟨i, hi, hz⟩ := hz
        exact run_build hR hd hi hz hpl hq hcs
      · cases hk
    · cases hk
  case call c =>
    obtain ⟨cal, ⟨args⟩, ⟨ats⟩⟩ := c
    cases cal with
    | invoke r m => simp only [trK] at hk; cases hk
    | value x =>
      cases x with
      | func g =>
        simp only [trK] at hk
        split at hk
        · split at hk
          · cases q <;> (simp only [Bool.false_eq_true, if_true, if_false] at hk; cases hk; simp [pe] at h)
          · cases hk
        · cases hk
      | tmp t => simp only [trK] at hk; cases hk; simp [pe] at h
      | const v => simp only [trK] at hk; cases hk
      | global g => simp only [trK] at hk; cases hk
    | builtin b =>
      cases b <;> (try (simp only [trK] at hk; cases hk; done))
      case len =>
        match args, ats with
        | [x], [t] =>
          simp only [trK] at hk
          split at hk
          · rename_i e hd
            cases hk
            simp only [pe] at h
            split at h
            · rename_i ad m cp hu
              simp only [Option.some.injEq] at h
              subst h
              refine ⟨_, ?_, rfl⟩
              simp [execOp, resolve, invoke, builtin, hR.ev hu, Builtin.len_, underlying, hd, goInt]
            · cases h
          · rename_i hd
            cases hk
            simp only [pe] at h
            split at h
            · rename_i s hu
              simp only [Option.some.injEq] at h
              subst h
              refine ⟨_, ?_, rfl⟩
              simp [execOp, resolve, invoke, builtin, hR.ev hu, Builtin.len_, underlying, hd, goInt]
            · cases h
          · cases hk
        | [], _ => simp only [trK] at hk; cases hk
        | _ :: _ :: _, _ => simp only [trK] at hk; cases hk
        | [_], [] => simp only [trK] at hk; cases hk
        | [_], _ :: _ :: _ => simp only [trK] at hk; cases hk
      case min =>
        match args, ats with
        | [x, y], [t, _] =>
          simp only [trK] at hk
          split at hk
          · cases hk
            simp only [pe] at h
            split at h
            · rename_i k1 m1 k2 m2 hu hv
              simp only [Option.some.injEq] at h
              subst h
              refine ⟨_, ?_, rfl⟩
              simp [execOp, resolve, invoke, builtin, hR.ev hu, hR.ev hv, Builtin.min_, Builtin.min2]
            · cases h
          · cases hk
        | [], _ => simp only [trK] at hk; cases hk
        | [_], _ => simp only [trK] at hk; cases hk
        | _ :: _ :: _ :: _, _ => simp only [trK] at hk; cases hk
        | [_, _], [] => simp only [trK] at hk; cases hk
        | [_, _], [_] => simp only [trK] at hk; cases hk
        | [_, _], _ :: _ :: _ :: _ => simp only [trK] at hk; cases hk
      case append =>
        match args, ats with
        | [x, y], [t, _] =>
          simp only [trK] at hk
          (repeat' split at hk) <;> first | (cases hk; simp [pe] at h; done) | (cases hk; done)
        | [], _ => simp only [trK] at hk; cases hk
        | [_], _ => simp only [trK] at hk; cases hk
        | _ :: _ :: _ :: _, _ => simp only [trK] at hk; cases hk
        | [_, _], [] => simp only [trK] at hk; cases hk
        | [_, _], [_] => simp only [trK] at hk; cases hk
        | [_, _], _ :: _ :: _ :: _ => simp only [trK] at hk; cases hk
      case delete =>
        match args, ats with
        | [x, y], [t, _] =>
          simp only [trK] at hk
          (repeat' split at hk) <;> first | (cases hk; simp [pe] at h; done) | (cases hk; done)
        | [], _ => simp only [trK] at hk; cases hk
        | [_], _ => simp only [trK] at hk; cases hk
        | _ :: _ :: _ :: _, _ => simp only [trK] at hk; cases hk
        | [_, _], [] => simp only [trK] at hk; cases hk
        | [_, _], [_] => simp only [trK] at hk; cases hk
        | [_, _], _ :: _ :: _ :: _ => simp only [trK] at hk; cases hk
  case makeMap t r =>
    cases r <;> (simp only [trK] at hk; cases hk)
    simp [pe] at h
  all_goals ((repeat' split at hk) <;> first | (cases hk; simp [pe] at h; done) | (cases hk; done) | (simp only [Option.map_eq_some_iff] at hk; obtain ⟨_, _, rfl⟩ := hk; simp [pe] at h; done))
end
end Go.Proofs.Ytpcakglnklpjoaa.E
