/- The engine, part E: the machine carries out each operation as part C says. Conditions: none. -/
import Derived.Test.YtpcakglnklpjoaaEngD
set_option linter.unusedVariables false
set_option linter.unusedSimpArgs false
namespace Go.Proofs.Ytpcakglnklpjoaa.E
open Go

section
variable {P : Program} {W0 : World} {M0 M M' : Mem} {β : Nat → Nat} {f : Nat → SV} {n : Nat} {a : Act} {w w' : World}

/-- f with d set -/
def upO (f : Nat → SV) (d : Option Nat) (sv : SV) : Nat → SV := match d with | some t => upF f t sv | none => f

theorem run_box {t : TypeId} {v : Value} : (Instr.box t v).run P w = .ok (.pointer (some ⟨w.heap.size, 0, none⟩)) (wpush w (.cells v.cells t)) := by
  simp [Instr.box, newVar, newRow, wpush]
theorem run_alloc {t : TypeId} {i : TypeInfo} {z : Value} (hi : P.info? t = some i) (hz : i.zero = some z) : (Instr.alloc t true (.tuple #[])).run P w = .ok (.pointer (some ⟨w.heap.size, 0, none⟩)) (wpush w (.cells z.cells t)) := by
  simp [Instr.alloc, zeroValue, typeInfo, hi, hz, newVar, newRow, wpush]
theorem run_bslice {t e : TypeId} {i : TypeInfo} {z : Value} {len : Nat} {ps : List (Nat × Nat × Operand)} {parts : Array (Nat × Operand)} {cs : List Value} (hR : RepF W0 M0 β f n M a w)
    (he : P.underlying t = some (.slice e)) (hi : P.info? e = some i) (hz : i.zero = some z) (h0 : 0 < len * i.size) (h1 : len * i.size ≤ 65536)
    (hp : partsI P (fun k => some (k * i.size, i.size)) parts.toList = some ps) (hf : fillP f ((List.range (len * i.size)).map fun j => z.cells[j % z.cells.size]!) ps = some cs) :
    (Instr.buildSlice t len (parts.map fun x => (x.1, a.eval x.2))).run P w = .ok (.slice (some ⟨w.heap.size, 0, none⟩) len len) (wpush w (.cells cs.toArray e)) := by
  have h2 := fill_run (P := P) hR hp hf
  have e1 : ((List.range (len * i.size)).map fun j => z.cells[j % z.cells.size]!).toArray = (Array.range (len * i.size)).map fun j => z.cells[j % z.cells.size]! := by
    apply Array.ext'; simp
  rw [e1] at h2
  have h3 : ¬ len * i.size > 2 ^ 24 := by omega
  have h4 : ¬ len * i.size = 0 := by omega
  simp only [Instr.buildSlice, underlying, sizeOf, typeInfo, zeroValue, Sem.run_bind, run_program, Result.andThen_ok, he, Sem.run_pure, hi, h3, h4, if_false, hz, Array.toList_map]
  rw [h2]
  simp [newRow, wpush]

/-- from what operation each of these comes -/
theorem trK_inv {q own : Bool} {op : Op} {k : K} (hk : trK P q own op = some k) : match k with
    | .load one m x => ∃ t d i, op = .load t x ∧ P.underlying t = some d ∧ P.info? t = some i ∧ one = !isAggD d ∧ m = i.size
    | .look one z ok x i => ∃ t kt e ik d inf, op = .lookup t x i ok ∧ P.underlying t = some (.map kt e) ∧ P.underlying kt = some (.int ik) ∧ P.underlying e = some d ∧ P.info? e = some inf ∧ inf.zero = some z
    | .alloc ow z => ∃ t i zv, op = .alloc t ∧ P.info? t = some i ∧ i.zero = some zv ∧ z = zv.cells.toList
    | .box ow x => ∃ t, op = .box t x
    | .bslice ow len size z ps => ∃ t e i zv parts, op = .buildSlice t len parts ∧ P.underlying t = some (.slice e) ∧ P.info? e = some i ∧ i.zero = some zv ∧ 0 < len * i.size ∧ len * i.size ≤ 65536 ∧ size = i.size ∧
        z = ((List.range (len * i.size)).map fun j => zv.cells[j % zv.cells.size]!) ∧ partsI P (fun k => some (k * i.size, i.size)) parts.toList = some ps
    | .qcall g xs => ∃ args ats, op = .call { callee := .value (.func g), args := args, argTypes := ats } ∧ xs = args.toList ∧ fnOk P g = true
    | .call g xs => ∃ args ats, op = .call { callee := .value (.func g), args := args, argTypes := ats } ∧ xs = args.toList ∧ fnOk P g = true
    | .callv x xs => ∃ t args ats, op = .call { callee := .value (.tmp t), args := args, argTypes := ats } ∧ x = .tmp t ∧ xs = args.toList
    | .store m x y => ∃ t i, op = .store t x y ∧ P.info? t = some i ∧ m = i.size
    | .mkslice size bytes z l c => ∃ t e i zv, op = .makeSlice t l c ∧ P.underlying t = some (.slice e) ∧ P.info? e = some i ∧ i.zero = some zv ∧ zv.cells.size = i.size ∧ 0 < i.size ∧ size = i.size ∧ bytes = i.bytes ∧ z = zv.cells.toList
    | .app size bytes z s x => ∃ t u e i zv, op = .call { callee := .builtin .append, args := ⟨[s, x]⟩, argTypes := ⟨[t, u]⟩ } ∧ P.underlying t = some (.slice e) ∧ P.info? e = some i ∧ i.zero = some zv ∧ zv.cells.size = i.size ∧ 0 < i.size ∧ 0 < i.bytes ∧ size = i.size ∧ bytes = i.bytes ∧ z = zv.cells.toList ∧
        ((∃ e', P.underlying u = some (.slice e')) ∨ P.underlying u = some .string)
    | .appz size bytes z s x => ∃ t u e i zv, op = .call { callee := .builtin .append, args := ⟨[s, x]⟩, argTypes := ⟨[t, u]⟩ } ∧ P.underlying t = some (.slice e) ∧ P.info? e = some i ∧ i.zero = some zv ∧ zv.cells.size = i.size ∧ 0 < i.size ∧ 0 < i.bytes ∧ size = i.size ∧ bytes = i.bytes ∧ z = zv.cells.toList ∧
        (∃ ik, P.underlying u = some (.int ik))
    | .mkmap => ∃ t, op = .makeMap t none
    | .mupd m k y => ∃ t kt e ik, op = .mapUpdate t m k y ∧ P.underlying t = some (.map kt e) ∧ P.underlying kt = some (.int ik)
    | .mdel m k => ∃ t u kt e ik, op = .call { callee := .builtin .delete, args := ⟨[m, k]⟩, argTypes := ⟨[t, u]⟩ } ∧ P.underlying t = some (.map kt e) ∧ P.underlying kt = some (.int ik)
    | _ => True := by
  cases op
  case call c =>
    obtain ⟨cal, ⟨args⟩, ⟨ats⟩⟩ := c
    cases cal with
    | invoke r m => simp only [trK] at hk; cases hk
    | value x =>
      cases x with
      | func g =>
        simp only [trK] at hk
        split at hk
        · rename_i fn hf
          split at hk
          · rename_i hc
            have hok : fnOk P g = true := by unfold fnOk; rw [hf]; exact hc
            cases q <;> (simp only [Bool.false_eq_true, if_true, if_false] at hk; cases hk; exact ⟨_, _, rfl, rfl, hok⟩)
          · cases hk
        · cases hk
      | tmp t => simp only [trK] at hk; cases hk; exact ⟨_, _, _, rfl, rfl, rfl⟩
      | const v => simp only [trK] at hk; cases hk
      | global g => simp only [trK] at hk; cases hk
    | builtin b =>
      cases b <;> (try (simp only [trK] at hk; cases hk; done))
      case len =>
        match args, ats with
        | [x], [t] => simp only [trK] at hk; (repeat' split at hk) <;> first | (cases hk; trivial) | (cases hk; done)
        | [], _ => simp only [trK] at hk; cases hk
        | _ :: _ :: _, _ => simp only [trK] at hk; cases hk
        | [_], [] => simp only [trK] at hk; cases hk
        | [_], _ :: _ :: _ => simp only [trK] at hk; cases hk
      case min =>
        match args, ats with
        | [x, y], [t, _] => simp only [trK] at hk; (repeat' split at hk) <;> first | (cases hk; trivial) | (cases hk; done)
        | [], _ => simp only [trK] at hk; cases hk
        | [_], _ => simp only [trK] at hk; cases hk
        | _ :: _ :: _ :: _, _ => simp only [trK] at hk; cases hk
        | [_, _], [] => simp only [trK] at hk; cases hk
        | [_, _], [_] => simp only [trK] at hk; cases hk
        | [_, _], _ :: _ :: _ :: _ => simp only [trK] at hk; cases hk
      case append =>
        match args, ats with
        | [x, y], [t, u] =>
          simp only [trK] at hk
          split at hk
          · rename_i e i he
            obtain ⟨ht, hi⟩ := elemI_some he
            split at hk
            · rename_i z hz
              split at hk
              · rename_i hc
                split at hk
                · rename_i ik hu; cases hk; exact ⟨_, _, _, _, _, rfl, ht, hi, hz, hc.1, hc.2.1, hc.2.2, rfl, rfl, rfl, ik, hu⟩
                · rename_i e' hu; cases hk; exact ⟨_, _, _, _, _, rfl, ht, hi, hz, hc.1, hc.2.1, hc.2.2, rfl, rfl, rfl, .inl ⟨e', hu⟩⟩
                · rename_i hu; cases hk; exact ⟨_, _, _, _, _, rfl, ht, hi, hz, hc.1, hc.2.1, hc.2.2, rfl, rfl, rfl, .inr hu⟩
                · cases hk
              · cases hk
            · cases hk
          · cases hk
        | [], _ => simp only [trK] at hk; cases hk
        | [_], _ => simp only [trK] at hk; cases hk
        | _ :: _ :: _ :: _, _ => simp only [trK] at hk; cases hk
        | [_, _], [] => simp only [trK] at hk; cases hk
        | [_, _], [_] => simp only [trK] at hk; cases hk
        | [_, _], _ :: _ :: _ :: _ => simp only [trK] at hk; cases hk
      case delete =>
        match args, ats with
        | [x, y], [t, _] =>
          simp only [trK] at hk
          split at hk
          · rename_i kt e ht
            split at hk
            · rename_i ik hkt; cases hk; exact ⟨_, _, _, _, _, rfl, ht, hkt⟩
            · cases hk
          · cases hk
        | [], _ => simp only [trK] at hk; cases hk
        | [_], _ => simp only [trK] at hk; cases hk
        | _ :: _ :: _ :: _, _ => simp only [trK] at hk; cases hk
        | [_, _], [] => simp only [trK] at hk; cases hk
        | [_, _], [_] => simp only [trK] at hk; cases hk
        | [_, _], _ :: _ :: _ :: _ => simp only [trK] at hk; cases hk
  case load t x =>
    simp only [trK] at hk
    split at hk
    · rename_i d i hd hi; cases hk; exact ⟨_, _, _, rfl, hd, hi, rfl, rfl⟩
    · cases hk
  case lookup t x i ok =>
    simp only [trK] at hk
    split at hk
    · rename_i kt e ht
      split at hk
      · rename_i ik d z hkt hed hz
        cases hk
        rw [Option.bind_eq_some_iff] at hz
        obtain ⟨inf, hinf, hz⟩ := hz
        exact ⟨_, _, _, _, _, _, rfl, ht, hkt, hed, hinf, hz⟩
      · cases hk
    · cases hk
  case alloc t =>
    simp only [trK] at hk
    split at hk
    · rename_i z hz
      cases hk
      rw [Option.bind_eq_some_iff] at hz
      obtain ⟨inf, hinf, hz⟩ := hz
      exact ⟨_, _, _, rfl, hinf, hz, rfl⟩
    · cases hk
  case box t x => simp only [trK] at hk; cases hk; exact ⟨_, rfl⟩
  case buildSlice t len parts =>
    simp only [trK] at hk
    split at hk
    · rename_i e i he
      obtain ⟨ht, hi⟩ := elemI_some he
      split at hk
      · rename_i z hz
        split at hk
        · rename_i hc
          simp only [Option.map_eq_some_iff] at hk
          obtain ⟨ps, hps, hk⟩ := hk
          cases hk
          exact ⟨_, _, _, _, _, rfl, ht, hi, hz, hc.1, hc.2.1, rfl, rfl, hps⟩
        · cases hk
      · cases hk
    · cases hk
  case store t x y =>
    simp only [trK] at hk
    split at hk
    · rename_i i hi; cases hk; exact ⟨_, _, rfl, hi, rfl⟩
    · cases hk
  case makeSlice t l c =>
    simp only [trK] at hk
    split at hk
    · rename_i e i he
      obtain ⟨ht, hi⟩ := elemI_some he
      split at hk
      · rename_i z hz
        split at hk
        · rename_i hc; cases hk; exact ⟨_, _, _, _, rfl, ht, hi, hz, hc.1, hc.2, rfl, rfl, rfl⟩
        · cases hk
      · cases hk
    · cases hk
  case makeMap t r =>
    cases r with
    | none => simp only [trK] at hk; cases hk; exact ⟨_, rfl⟩
    | some _ => simp only [trK] at hk; cases hk
  case mapUpdate t m k y =>
    simp only [trK] at hk
    split at hk
    · rename_i kt e ht
      split at hk
      · rename_i ik hkt; cases hk; exact ⟨_, _, _, _, rfl, ht, hkt⟩
      · cases hk
    · cases hk
  case unOp op t x => cases op <;> simp only [trK] at hk <;> cases hk; trivial
  case slice t x lo hi mx =>
    cases mx with
    | none => simp only [trK] at hk; (repeat' split at hk) <;> first | (cases hk; trivial) | (cases hk; done)
    | some _ => simp only [trK] at hk; cases hk
  case makeFunc fn xs ys => cases fn <;> simp only [trK] at hk <;> cases hk; trivial
  case build t ps =>
    simp only [trK] at hk
    split at hk
    · split at hk
      · simp only [Option.map_eq_some_iff] at hk
        obtain ⟨_, _, hk⟩ := hk
        cases hk; trivial
      · cases hk
    · cases hk
  all_goals (simp only [trK] at hk; (repeat' split at hk) <;> first | (cases hk; trivial) | (cases hk; done))

/-- WHAT FLOATS, CARRIED OUT. -/
theorem fe_exec (hR : RepF W0 M0 β f n M a w) {o : Oper} {q own : Bool} {k : K} {sv : SV} {next : Act → World → Prop} {Q : Exit → Act → World → Prop} (hk : trK P q own o.op = some k) (h : FE P f M k sv)
    (hd : ∀ t, o.dst = some t → t < n) (hnb : sv.isBox = true → ∃ d, o.dst = some d ∧ ∀ t o', t ≠ d → f t ≠ .bp d o')
    (hK : ∀ a' w' β', RepF W0 M0 β' (upO f o.dst sv) n M a' w' → next a' w') : o.wp P a w next Q := by
  have hdone : ∀ {x : Value} {w'}, RepF W0 M0 β f n M a w' → RS β x sv → RepF W0 M0 β (upO f o.dst sv) n M (a.put o.dst x) w' := by
    intro x w' h1 h2
    unfold upO
    cases hdst : o.dst with
    | none => exact h1
    | some t => exact h1.put (hd t hdst) h2
  have hinv := trK_inv hk
  rcases h with h | h
  · obtain ⟨x, hx, hs⟩ := pe_run hR hk h
    exact upon_value hx (hK _ _ β (hdone hR hs))
  · obtain ⟨dst, op, ty, pos, after, guard⟩ := o
    cases k <;> (try (exact h.elim))
    case load one m x =>
      obtain ⟨b, off, cs, v, hl, hM, hv, rfl⟩ := h
      obtain ⟨t, d, i, rfl, hdd, hi, rfl, rfl⟩ := hinv
      refine upon_value (x := v) ?_ (hK _ _ β (hdone (x := v) hR rfl))
      simp only [execOp, hR.lc_mm hl]
      exact run_val (by simp only [Instr.loadAt, Instr.sureAddr, Sem.run_bind, Sem.run_pure, Result.andThen_ok]; exact run_loadVar hdd hi (hM.elim (fun e => (hR.sat _ _ e).ro) (fun ⟨t, fr, e⟩ => ⟨t, fr, hR.sat _ _ e⟩)) hv)
    case look one z ok x i =>
      obtain ⟨es, c, j, hx, hi, hints, rfl⟩ := h
      obtain ⟨t, kt, e, ik, d, inf, rfl, ht, hkt, hed, hinf, hz⟩ := hinv
      refine upon_value (x := (if ok then .tuple #[(mpFind j es.toList).getD z, .bool (mpFind j es.toList).isSome] else (mpFind j es.toList).getD z)) ?_ (hK _ _ β (hdone hR rfl))
      simp only [execOp, hR.ev hi]
      refine run_val (run_lookup (c := c) ht hkt hinf hz ?_ hints)
      rcases hx with ⟨h1, h2⟩ | ⟨b, h1, h2⟩
      · exact .inl ⟨hR.ev h1, h2⟩
      · exact .inr ⟨b, hR.ev h1, hR.sat _ _ h2⟩
    case alloc ow z =>
      cases ow with
      | false => exact h.elim
      | true =>
        have h : sv = .box z := h
        subst h
        obtain ⟨t, inf, zv, rfl, hinf, hz, rfl⟩ := hinv
        obtain ⟨d, hdst, hno⟩ := hnb rfl
        simp only at hdst
        subst hdst
        have hrun : (execOp a.eval { dst := some d, op := .alloc t, type := ty, pos := pos, after := after, guard := guard }).run P w = .ok (.value (.pointer (some ⟨w.heap.size, 0, none⟩))) (wpush w (.cells zv.cells t)) := by
          simp [execOp, run_alloc (w := w) hinf hz]
        refine upon_value hrun (hK _ _ (fun t => if t = d then w.heap.size else β t) ?_)
        have := hR.putB (x := .pointer (some ⟨w.heap.size, 0, none⟩)) (t0 := t) (cs := zv.cells.toList) (hd d rfl) (.inl ⟨rfl, rfl⟩) hno
        simpa [upO] using this
    case box ow x =>
      cases ow with
      | false => exact h.elim
      | true =>
        obtain ⟨v, hv, rfl⟩ : ∃ v, ev f x = some v ∧ sv = .box v.cells.toList := h
        obtain ⟨t, rfl⟩ := hinv
        obtain ⟨d, hdst, hno⟩ := hnb rfl
        simp only at hdst
        subst hdst
        have hrun : (execOp a.eval { dst := some d, op := .box t x, type := ty, pos := pos, after := after, guard := guard }).run P w = .ok (.value (.pointer (some ⟨w.heap.size, 0, none⟩))) (wpush w (.cells v.cells t)) := by
          simp [execOp, run_box, hR.ev hv]
        refine upon_value hrun (hK _ _ (fun t => if t = d then w.heap.size else β t) ?_)
        have := hR.putB (x := .pointer (some ⟨w.heap.size, 0, none⟩)) (t0 := t) (cs := v.cells.toList) (hd d rfl) (.inl ⟨rfl, rfl⟩) hno
        simpa [upO] using this
    case bslice ow len size z ps =>
      cases ow with
      | false => exact h.elim
      | true =>
        obtain ⟨cs, hcs, rfl⟩ : ∃ cs, fillP f z ps = some cs ∧ sv = .bsl cs len := h
        obtain ⟨t, e, i, zv, parts, rfl, ht, hi, hz, h0, h1, rfl, rfl, hps⟩ := hinv
        obtain ⟨d, hdst, hno⟩ := hnb rfl
        simp only at hdst
        subst hdst
        have hrun : (execOp a.eval { dst := some d, op := .buildSlice t len parts, type := ty, pos := pos, after := after, guard := guard }).run P w = .ok (.value (.slice (some ⟨w.heap.size, 0, none⟩) len len)) (wpush w (.cells cs.toArray e)) := by
          have := run_bslice (w := w) hR ht hi hz h0 h1 hps hcs
          simp [execOp, this]
        refine upon_value hrun (hK _ _ (fun t => if t = d then w.heap.size else β t) ?_)
        have := hR.putB (x := .slice (some ⟨w.heap.size, 0, none⟩) len len) (t0 := e) (cs := cs) (hd d rfl) (.inr ⟨len, rfl, rfl⟩) hno
        simpa [upO] using this
    case qcall g xs =>
      obtain ⟨args, r, hargs, hq, rfl⟩ := h
      obtain ⟨arr, ats, rfl, rfl, hok⟩ := hinv
      refine upon_enter hR.sat (run_callF rfl hR hargs hok) hq ?_
      rintro v M' w' ⟨rfl, rfl⟩ hs ht
      exact hK _ _ β (hdone (hR.step hs ht) rfl)
end
end Go.Proofs.Ytpcakglnklpjoaa.E
