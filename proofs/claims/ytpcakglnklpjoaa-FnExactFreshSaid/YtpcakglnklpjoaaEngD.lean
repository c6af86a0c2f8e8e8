/- The engine, part D: the machine does what part C says of an operation. Conditions: none. -/
import Derived.Test.YtpcakglnklpjoaaEngC
set_option linter.unusedVariables false
set_option linter.unusedSimpArgs false
namespace Go.Proofs.Ytpcakglnklpjoaa.E
open Go

section
variable {P : Program} {W0 : World} {M0 M M' : Mem} {β : Nat → Nat} {f : Nat → SV} {n : Nat} {a : Act} {w w' : World}

/-- cells written into a row -/
theorem setRow_other (w : World) (g b : Nat) (cells : Array Value) (h : b ≠ g) : (w.setRow g cells).heap[b]? = w.heap[b]? := by
  simp only [World.setRow, Array.getElem?_modify]
  rw [if_neg (Ne.symm h)]
theorem wr_eq (vs : List Value) (cs : List Value) (o : Nat) (h : o + vs.length ≤ cs.length) : wr cs o vs = cs.take o ++ vs ++ cs.drop (o + vs.length) := by
  apply List.ext_getElem?
  intro j
  rw [wr_get _ _ _ _ h]
  have hl : (cs.take o).length = o := by simp; omega
  by_cases h1 : j < o
  · rw [if_neg (by omega), List.append_assoc, List.getElem?_append_left (by omega), List.getElem?_take, if_pos h1]
  · by_cases h2 : j < o + vs.length
    · rw [if_pos (by omega), List.append_assoc, List.getElem?_append_right (by omega), hl, List.getElem?_append_left (by omega)]
    · rw [if_neg (by omega), List.getElem?_append_right (by simp [hl]; omega), List.getElem?_drop]
      congr 1
      simp; omega
theorem run_storeVar {t : TypeId} {i : TypeInfo} {b o : Nat} {cs : List Value} {v : Value} (hi : P.info? t = some i) (hb : holds w b (.row cs)) (hv : v.cells.size = i.size) (hp : plainCells v.cells.toList = true)
    (ho : o + v.cells.size ≤ cs.length) : ∃ w', (storeVar t ⟨b, o, none⟩ v).run P w = .ok () w' ∧ holds w' b (.row (wr cs o v.cells.toList)) ∧ (∀ x, x ≠ b → w'.heap[x]? = w.heap[x]?) ∧ w'.heap.size = w.heap.size ∧ w'.os = w.os ∧ w'.tape = w.tape ∧ w'.output = w.output := by
  obtain ⟨ty, hg⟩ := hb
  have hr := run_storeCells_at (P := P) b o ty v.cells.toList 0 cs.toArray w hg (by simp; omega) (fun x hx => List.all_eq_true.1 hp x hx)
  simp only [Nat.add_zero] at hr
  refine ⟨w.setRow b (cs.take o ++ v.cells.toList ++ cs.drop (o + v.cells.toList.length)).toArray, ?_, ?_, ?_, ?_, rfl, rfl, rfl⟩
  · unfold storeVar
    simp only [Sem.run_bind, sizeOf, typeInfo, run_program, Result.andThen_ok, hi, Sem.run_pure, hv]
    simp only [ne_eq, not_true_eq_false, if_false]
    exact hr
  · refine ⟨ty, ?_⟩
    rw [wr_eq _ _ _ (by simpa using ho)]
    exact setRow_heap w b cs.toArray _ ty (0, 0) hg
  · intro x hx; exact setRow_other w b x _ hx
  · simp [World.setRow]
theorem Sat.set (h : Sat w M) {b : Nat} {k : Bk} (hk : holds w' b k) (ho : ∀ x, x ≠ b → w'.heap[x]? = w.heap[x]?) : Sat w' (M.upd b k) := by
  intro x kx e
  by_cases hx : x = b
  · subst hx; rw [Mem.upd_same] at e; cases e; exact hk
  · rw [Mem.upd_ne _ _ hx] at e; exact (h x kx e).of_eq (ho x hx)
theorem Stp.set {b : Nat} {k k0 : Bk} (hb : M b = some k0) (ho : ∀ x, x ≠ b → w'.heap[x]? = w.heap[x]?) (hs : w'.heap.size = w.heap.size) (h1 : w'.os = w.os) (h2 : w'.tape = w.tape) (h3 : w'.output = w.output) :
    Stp w M w' (M.upd b k) :=
  ⟨h1, h2, h3, by omega, fun x _ hx => ho x (fun e => by subst e; rw [hb] at hx; cases hx), fun x hx => by
    by_cases e : x = b
    · subst e; rw [hb]; exact .inl (by simp)
    · rw [Mem.upd_ne _ _ e] at hx; exact .inl hx⟩
/-- a store into a private box -/
theorem RepF.setB {s : Nat} {cs cs' : List Value} (h : RepF W0 M0 β f n M a w) (hf : f s = .box cs) (hk : holds w' (β s) (.row cs')) (ho : ∀ x, x ≠ β s → w'.heap[x]? = w.heap[x]?) (hsz : w'.heap.size = w.heap.size) (h1 : w'.os = w.os) (h2 : w'.tape = w.tape) (h3 : w'.output = w.output) :
    RepF W0 M0 β (upF f s (.box cs')) n M a w' := by
  have hs := h.sv s
  rw [hf] at hs
  obtain ⟨e1, e2, e3, e4⟩ := hs
  have hbox : (f s).isBox = true := by rw [hf]; rfl
  refine ⟨h.df, h.sz, ?_, ?_, ?_, ?_, ?_⟩
  · intro t ht
    simp only [upF_eq]
    rw [if_neg (fun e => by subst e; rw [h.out t ht] at hf; cases hf)]
    exact h.out t ht
  · intro b k e
    refine (h.sat b k e).of_eq (ho b fun e' => ?_)
    subst e'; rw [e3] at e; cases e
  · refine ⟨h1.trans h.stp.os, h2.trans h.stp.tape, h3.trans h.stp.output, by have := h.stp.size; omega, fun b hb hM => ?_, h.stp.dom⟩
    rw [ho b (by omega)]
    exact h.stp.keep b hb hM
  · intro t
    simp only [upF_eq]
    by_cases e : t = s
    · subst e; rw [if_pos rfl]; exact ⟨e1, hk, e3, e4⟩
    · rw [if_neg e]
      have hv := h.sv t
      cases hft : f t with
      | v y => rw [hft] at hv; exact hv
      | junk => trivial
      | bp s' o' => rw [hft] at hv; exact hv
      | box c =>
        rw [hft] at hv
        refine ⟨hv.1, hv.2.1.of_eq (ho _ fun e' => e (h.inj t s (by rw [hft]; rfl) hbox e')), hv.2.2⟩
      | bsl c k =>
        rw [hft] at hv
        refine ⟨hv.1, hv.2.1.of_eq (ho _ fun e' => e (h.inj t s (by rw [hft]; rfl) hbox e')), hv.2.2⟩
  · intro t t' ht ht' e
    have key : ∀ u, (upF f s (.box cs') u).isBox = true → (f u).isBox = true := by
      intro u hu
      simp only [upF_eq] at hu
      by_cases e : u = s
      · subst e; exact hbox
      · rw [if_neg e] at hu; exact hu
    exact h.inj t t' (key t ht) (key t' ht') e

theorem upon_value {o : Oper} {next : Act → World → Prop} {Q : Exit → Act → World → Prop} {x : Value} (hr : (execOp a.eval o).run P w = .ok (.value x) w') (h : next (a.put o.dst x) w') : o.wp P a w next Q := by
  unfold Oper.wp; rw [hr]; exact h
theorem upon_skip {o : Oper} {next : Act → World → Prop} {Q : Exit → Act → World → Prop} (hr : (execOp a.eval o).run P w = .ok .skip w') (h : next (a.put o.dst undef) w') : o.wp P a w next Q := by
  unfold Oper.wp; rw [hr]; exact h
theorem upon_enter {o : Oper} {next : Act → World → Prop} {Q : Exit → Act → World → Prop} {g : FuncId} {args : List Value} {post : Value → Mem → Prop} (hS : Sat w M)
    (hr : (execOp a.eval o).run P w = .ok (.enter g args.toArray) w) (hF : Fn P g args M post)
    (h : ∀ v M' w', post v M' → Sat w' M' → Stp w M w' M' → next (a.put o.dst v) w') : o.wp P a w next Q := by
  unfold Oper.wp; rw [hr]
  exact (hF.out w hS).mono fun e w'' ⟨v, M', he, hp, hs, ht⟩ => by subst he; exact h v M' w'' hp hs ht

theorem callFunc_ok {g : FuncId} {args : Array Value} (h : fnOk P g = true) : (callFunc g args).run P w = .ok (.enter g args) w := by
  unfold fnOk at h
  split at h
  · rename_i fn hf
    simp only [Bool.and_eq_true, bne_iff_ne, ne_eq] at h
    have h1 : (fn.name == "runtime.NumGoroutine") = false := by simpa using h.2
    have h2 : fn.body.isNone = false := by cases hb : fn.body <;> simp_all
    simp only [callFunc, Sem.run_bind, run_program, Result.andThen_ok, hf, h1, h2, Bool.false_eq_true, if_false, Sem.run_pure]
  · cases h
theorem run_callF {o : Oper} {g : FuncId} {xs : Array Operand} {ats : Array TypeId} {args : List Value} (ho : o.op = .call { callee := .value (.func g), args := xs, argTypes := ats })
    (hR : RepF W0 M0 β f n M a w) (he : evs f xs.toList = some args) (hok : fnOk P g = true) : (execOp a.eval o).run P w = .ok (.enter g args.toArray) w := by
  have e1 : xs.map a.eval = args.toArray := by rw [← hR.evs he]; apply Array.ext'; simp
  obtain ⟨dst, op, ty, pos, after, guard⟩ := o
  simp only at ho
  subst ho
  simp [execOp, resolve, Act.eval, Deferred.ofValue, invoke, e1, callFunc_ok hok]
theorem run_callV {o : Oper} {t : Nat} {g : FuncId} {u c : Array Value} {xs : Array Operand} {ats : Array TypeId} {args : List Value} (ho : o.op = .call { callee := .value (.tmp t), args := xs, argTypes := ats })
    (hR : RepF W0 M0 β f n M a w) (hf : ev f (.tmp t) = some (.func (.func g) u c)) (he : evs f xs.toList = some args) (hok : fnOk P g = true) :
    (execOp a.eval o).run P w = .ok (.enter g (u.toList ++ args ++ c.toList).toArray) w := by
  have e1 : xs.map a.eval = args.toArray := by rw [← hR.evs he]; apply Array.ext'; simp
  have e2 := hR.ev hf
  obtain ⟨dst, op, ty, pos, after, guard⟩ := o
  simp only at ho
  subst ho
  simp only [execOp, resolve, Sem.run_bind, e2, Deferred.ofValue, Sem.run_pure, Result.andThen_ok, invoke, e1, callFunc_ok hok]
  congr 2
  apply Array.ext'; simp

/-! ### Maps whose keys are ints -/
theorem findNow_ints {k : IntKind} (j : Int) : ∀ (es : List MapEntry) (i : Nat), mpInts es = true →
    ∃ r, Instr.findNow (.int k) (.int .i64 j) es i = some r ∧ r.map (·.2) = mpFind j es ∧ r.map (·.1) = (es.findIdx? (keyIs j)).map (· + i)
  | [], i, _ => ⟨none, rfl, rfl, rfl⟩
  | e :: t, i, h => by
    simp only [mpInts, Bool.and_eq_true] at h
    obtain ⟨h1, h2⟩ := h
    obtain ⟨key, val, born⟩ := e
    cases key <;> simp at h1
    rename_i k' m
    cases k' <;> simp at h1
    obtain ⟨r, hr, hr1, hr2⟩ := findNow_ints (k := k) j t (i + 1) h2
    by_cases hm : j = m
    · subst hm
      exact ⟨some (i, val), by simp [Instr.findNow, Instr.sameNow], by simp [mpFind], by simp [List.findIdx?_cons, keyIs]⟩
    · have hm' : ¬ m = j := fun e => hm e.symm
      refine ⟨r, ?_, ?_, ?_⟩
      · have : (j == m) = false := by simpa using hm
        simp [Instr.findNow, Instr.sameNow, this, hr]
      · simp [mpFind, hm', hr1]
      · rw [hr2, List.findIdx?_cons]
        have : (m == j) = false := by simpa using hm'
        simp only [keyIs, this, Bool.false_eq_true, if_false]
        cases List.findIdx? (keyIs j) t <;> simp [Nat.add_comm, Nat.add_left_comm]
theorem run_findKey {kt : TypeId} {k : IntKind} {j : Int} {es : List MapEntry} (hk : P.underlying kt = some (.int k)) (h : mpInts es = true) :
    ∃ r, (Instr.findKey kt (.int .i64 j) es).run P w = .ok r w ∧ r.map (·.2) = mpFind j es ∧ r.map (·.1) = es.findIdx? (keyIs j) := by
  obtain ⟨r, hr, h1, h2⟩ := findNow_ints (k := k) j es 0 h
  refine ⟨r, ?_, h1, by rw [h2]; simp⟩
  simp [Instr.findKey, underlying, hk, hr]
theorem run_checkKey {kt : TypeId} {k : IntKind} {j : Int} {e : Bool} (hk : P.underlying kt = some (.int k)) : (Instr.checkKey e 10000 kt (.int .i64 j)).run P w = .ok () w := by
  have : ∀ d, (Instr.checkKey e (d + 1) kt (.int .i64 j)).run P w = .ok () w := fun d => by simp [Instr.checkKey, underlying, hk]
  exact this 9999
theorem run_getObj {b : Nat} {es : Array MapEntry} {c : Nat} (h : holds w b (.mp es c)) : (getObj b).run P w = .ok (.map es c) w := by
  have h' : w.heap[b]? = some (.map es c) := h
  simp [getObj, Sem.run, h']
theorem run_lookup {t kt e : TypeId} {k : IntKind} {z : Value} {i : TypeInfo} {j : Int} {ok : Bool} {x : Value} {es : Array MapEntry} {c : Nat} (ht : P.underlying t = some (.map kt e)) (hk : P.underlying kt = some (.int k))
    (hi : P.info? e = some i) (hz : i.zero = some z) (hx : (x = .map none ∧ es = #[]) ∨ ∃ b, x = .map (some b) ∧ holds w b (.mp es c)) (h : mpInts es.toList = true) :
    (Instr.lookup t x (.int .i64 j) ok).run P w = .ok (if ok then .tuple #[(mpFind j es.toList).getD z, .bool (mpFind j es.toList).isSome] else (mpFind j es.toList).getD z) w := by
  obtain ⟨r, hr, h1, _⟩ := run_findKey (P := P) (w := w) (kt := kt) (j := j) hk h
  have hes : (match x with
    | .map none => pure #[]
    | .map (some r) => do
      let .map es _ ← getObj r | stuck "Lookup: map expected"
      pure es
    | _ => stuck "Lookup: map expected" : Sem (Array MapEntry)).run P w = .ok es w := by
    rcases hx with ⟨rfl, rfl⟩ | ⟨b, rfl, hb⟩
    · rfl
    · simp [run_getObj hb]
  have hzr : (zeroValue e).run P w = .ok z w := by simp [zeroValue, typeInfo, hi, hz]
  rcases hx with ⟨rfl, rfl⟩ | ⟨b, rfl, hb⟩
  · simp only [Instr.lookup, underlying, Sem.run_bind, run_program, Result.andThen_ok, ht, Sem.run_pure, run_checkKey hk, hr]
    cases r with
    | none => simp only [Option.map_none] at h1; rw [← h1]; simp only [Sem.run_bind, hzr, Result.andThen_ok, Sem.run_pure]; cases ok <;> rfl
    | some p => simp only [Option.map_some] at h1; rw [← h1]; simp only [Sem.run_bind, Sem.run_pure, Result.andThen_ok]; cases ok <;> rfl
  · simp only [Instr.lookup, underlying, Sem.run_bind, run_program, Result.andThen_ok, ht, Sem.run_pure, run_getObj hb, run_checkKey hk, hr]
    cases r with
    | none => simp only [Option.map_none] at h1; rw [← h1]; simp only [Sem.run_bind, hzr, Result.andThen_ok, Sem.run_pure]; cases ok <;> rfl
    | some p => simp only [Option.map_some] at h1; rw [← h1]; simp only [Sem.run_bind, Sem.run_pure, Result.andThen_ok]; cases ok <;> rfl
end
end Go.Proofs.Ytpcakglnklpjoaa.E
