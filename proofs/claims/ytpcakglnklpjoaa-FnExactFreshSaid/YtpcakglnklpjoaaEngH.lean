/- The engine, part H: every operation that part C speaks of, carried out. Conditions: none. -/
import Derived.Test.YtpcakglnklpjoaaEngG
set_option linter.unusedVariables false
set_option linter.unusedSimpArgs false
namespace Go.Proofs.Ytpcakglnklpjoaa.E
open Go

section
variable {P : Program} {W0 : World} {M0 M M' : Mem} {β : Nat → Nat} {S : St} {f : Nat → SV} {n nt : Nat} {a : Act} {w w' : World}

/-! ### append(s, make([]T, k)...) -/
theorem run_zeros {e : TypeId} {i : TypeInfo} {zv : Value} {k : Nat} (hi : P.info? e = some i) (hz : i.zero = some zv) (hzs : zv.cells.size = i.size) (h0 : 0 < i.size) :
    (if k * i.size = 0 then pure #[] else do pure (Builtin.zeroCells (← zeroValue e).cells k) : Sem (Array Value)).run P w = .ok (zrep zv.cells.toList k).toArray w := by
  by_cases hk : k * i.size = 0
  · rcases Nat.mul_eq_zero.1 hk with h | h
    · subst h; simp [zrep]
    · omega
  · simp only [hk, if_false, zeroValue, typeInfo, Sem.run_bind, run_program, Result.andThen_ok, hi, Sem.run_pure, hz, zeroCells_eq]
theorem run_appz_room {t u e ty : TypeId} {ik : IntKind} {i : TypeInfo} {zv : Value} {k b o m cap : Nat} {cs : List Value} (ht : P.underlying t = some (.slice e)) (hu : P.underlying u = some (.int ik)) (hi : P.info? e = some i)
    (hz : i.zero = some zv) (hzs : zv.cells.size = i.size) (h0 : 0 < i.size) (hk : k ≤ 140737488355328) (hbk : k * i.bytes ≤ 140737488355328)
    (hp : plainCells zv.cells.toList = true) (hb : holds w b (.row cs)) (hroom : m + k ≤ cap) (hfit : o + (m + k) * i.size ≤ cs.length) :
    ∃ w', (Builtin.append_ #[t, u] ty #[.slice (some ⟨b, o, none⟩) m cap, .int .i64 k]).run P w = .ok (.slice (some ⟨b, o, none⟩) (m + k) cap) w' ∧
      holds w' b (.row (wr cs (o + m * i.size) (zrep zv.cells.toList k))) ∧ (∀ x, x ≠ b → w'.heap[x]? = w.heap[x]?) ∧ w'.heap.size = w.heap.size ∧ w'.os = w.os ∧ w'.tape = w.tape ∧ w'.output = w.output := by
  obtain ⟨ety, hg⟩ := hb
  have hl : (zrep zv.cells.toList k).length = k * i.size := by rw [zrep_length]; simp [hzs]
  have hfit2 : o + m * i.size + (zrep zv.cells.toList k).length ≤ cs.length := by rw [hl, Nat.add_assoc, ← Nat.add_mul]; exact hfit
  have hr := run_storeCells_at (P := P) b (o + m * i.size) ety (zrep zv.cells.toList k) 0 cs.toArray w hg (by simpa using hfit2) (fun x hx => List.all_eq_true.1 (zrep_plain hp k) x hx)
  simp only [Nat.add_zero] at hr
  have wk : IntKind.i64.wrap (k : Int) = k := IntWalk.i64_in _ (by omega)
  have h1 : ¬ ((k : Int) < 0) := by omega
  have h2 : ¬ ((k : Int) * (i.bytes : Int) > 2 ^ 48) := by rw [← Int.natCast_mul]; omega
  refine ⟨w.setRow b (cs.take (o + m * i.size) ++ zrep zv.cells.toList k ++ cs.drop (o + m * i.size + (zrep zv.cells.toList k).length)).toArray, ?_, ?_, ?_, ?_, rfl, rfl, rfl⟩
  · simp only [Builtin.append_, List.getElem?_toArray, List.getElem?_cons_zero, List.getElem?_cons_succ, underlying, sizeOf, typeInfo, asInt, asIntOf, Sem.run_bind, run_program, Result.andThen_ok, ht, hu, Sem.run_pure, hi, if_true, wk, h1, h2, if_false, Int.toNat_natCast, hroom, Bool.not_true, Bool.false_eq_true, run_zeros hi hz hzs h0, add_none]
    rw [hr]
    rfl
  · refine ⟨ety, ?_⟩
    rw [wr_eq _ _ _ hfit2]
    exact setRow_heap w b cs.toArray _ ety (0, 0) hg
  · intro x hx; exact setRow_other w b x _ hx
  · simp [World.setRow]
theorem run_appz_nil {t u e ty : TypeId} {ik : IntKind} {i : TypeInfo} {zv : Value} (ht : P.underlying t = some (.slice e)) (hu : P.underlying u = some (.int ik)) (hi : P.info? e = some i)
    (hz : i.zero = some zv) (hzs : zv.cells.size = i.size) (h0 : 0 < i.size) :
    (Builtin.append_ #[t, u] ty #[.slice none 0 0, .int .i64 (0 : Nat)]).run P w = .ok (.slice none 0 0) w := by
  have wk : IntKind.i64.wrap ((0 : Nat) : Int) = (0 : Nat) := IntWalk.i64_in _ (by omega)
  have h1 : ¬ (((0 : Nat) : Int) < 0) := by omega
  have h2 : ¬ (((0 : Nat) : Int) * (i.bytes : Int) > 2 ^ 48) := by simp
  simp only [Builtin.append_, List.getElem?_toArray, List.getElem?_cons_zero, List.getElem?_cons_succ, underlying, sizeOf, typeInfo, asInt, asIntOf, Sem.run_bind, run_program, Result.andThen_ok, ht, hu, Sem.run_pure, hi, if_true, wk, h1, h2, if_false, Int.toNat_natCast, Nat.le_refl, Bool.not_true, Bool.false_eq_true, run_zeros hi hz hzs h0, Nat.add_zero]
theorem run_appz_grow {t u e ty : TypeId} {ik : IntKind} {i : TypeInfo} {zv : Value} {sb : Value} {old : List Value} {k m cap : Nat} {base : Option Addr} (ht : P.underlying t = some (.slice e)) (hu : P.underlying u = some (.int ik)) (hi : P.info? e = some i)
    (hzv : i.zero = some zv) (hzs : zv.cells.size = i.size) (h0 : 0 < i.size) (hby : 0 < i.bytes) (hkk : k ≤ 140737488355328) (hsb : sb = .slice base m cap)
    (hold : ∀ w', w'.heap = w.heap → (Builtin.firstCells i.size m sb).run P w' = .ok old.toArray w')
    (hgrow : cap < m + k) (hbytes : (m + k) * i.bytes ≤ 140737488355328) :
    ∃ cap' w1, m + k ≤ cap' ∧ w1.heap = w.heap ∧ w1.os = w.os ∧ w1.tape = w.tape ∧ w1.output = w.output ∧
      (Builtin.append_ #[t, u] ty #[sb, .int .i64 k]).run P w = .ok (.slice (some ⟨w.heap.size, 0, none⟩) (m + k) cap') (wpush w1 (.cells (old ++ zrep zv.cells.toList k ++ zrep zv.cells.toList (cap' - (m + k))).toArray e)) := by
  subst hsb
  have hk : ¬ m + k ≤ cap := by omega
  have hle : m + k ≤ 140737488355328 := Nat.le_trans (Nat.le_mul_of_pos_right _ hby) hbytes
  have hbk : k * i.bytes ≤ 140737488355328 := Nat.le_trans (Nat.mul_le_mul_right _ (by omega)) hbytes
  have h63 : IntKind.i64.max = 9223372036854775807 := by decide +kernel
  have h1 : ¬ (((m + k : Nat) : Int) > IntKind.i64.max ∧ ((True : Prop) ∨ i.bytes = 0)) := by rw [h63]; omega
  have h2 : ¬ (Builtin.nextslicecap (m + k) cap * i.bytes > 2 ^ 48) := by
    have := growslice_fits hgrow hbytes; omega
  have wk : IntKind.i64.wrap (k : Int) = k := IntWalk.i64_in _ (by omega)
  have h3 : ¬ ((k : Int) < 0) := by omega
  have h4 : ¬ ((k : Int) * (i.bytes : Int) > 2 ^ 48) := by rw [← Int.natCast_mul]; omega
  refine ⟨Question.cut (.appendCap (m + k) cap e) (w.tape w.drawn (.appendCap (m + k) cap e)), { w with drawn := w.drawn + 1 }, ?_, rfl, rfl, rfl, rfl, ?_⟩
  · simp only [Question.cut]; omega
  · have e2 : (Builtin.firstCells i.size m (.slice base m cap)).run P { w with drawn := w.drawn + 1 } = .ok old.toArray { w with drawn := w.drawn + 1 } := hold _ rfl
    simp only [Builtin.append_, List.getElem?_toArray, List.getElem?_cons_zero, List.getElem?_cons_succ, underlying, sizeOf, typeInfo, asInt, asIntOf, Sem.run_bind, run_program, Result.andThen_ok, ht, hu, Sem.run_pure, hi, if_true, wk, h3, h4, if_false, Int.toNat_natCast, hk, h1, h2, run_choose, Question.forced, run_askRoom, e2, Bool.not_true, Bool.false_eq_true, run_zeros hi hzv hzs h0, newRow, run_newObj]
    simp only [zeroValue, typeInfo, Sem.run_bind, run_program, Result.andThen_ok, hi, Sem.run_pure, hzv, zeroCells_eq, run_newObj]
    congr 1
    simp [wpush, List.append_assoc]

theorem appMz_done {S : St} {sb : Value} {k : Nat} {next : Act → World → Prop} {post : St → Mem → Prop} {o : Oper} {Q : Exit → Act → World → Prop} {t u e : TypeId} {ik : IntKind} {i : TypeInfo} {zv : Value}
    (hR : RepF W0 M0 β S nt M a w) (hd : ∀ t, o.dst = some t → t < nt) (ht : P.underlying t = some (.slice e)) (hu : P.underlying u = some (.int ik)) (hi : P.info? e = some i) (hz : i.zero = some zv) (hzs : zv.cells.size = i.size) (h0 : 0 < i.size) (hby : 0 < i.bytes)
    (hpl : plainCells zv.cells.toList = true) (hkk : k ≤ 140737488355328)
    (hrun : ∀ v w', (Builtin.append_ #[t, u] o.type #[sb, .int .i64 k]).run P w = .ok v w' → (execOp a.eval o).run P w = .ok (.value v) w')
    (h : appM M i.size i.bytes sb (zrep zv.cells.toList k) k (fun v M' => post (put S o.dst (.v v)) M'))
    (hK : ∀ S' M' a' w' β', post S' M' → RepF W0 M0 β' S' nt M' a' w' → next a' w') : o.wp P a w next Q := by
  unfold appM at h
  split at h
  · rename_i n cap
    obtain ⟨rfl, rfl, hb, h⟩ := h
    rcases h with ⟨rfl, hp⟩ | ⟨hk, h⟩
    · have hr := run_appz_nil (P := P) (w := w) (ty := o.type) ht hu hi hz hzs h0
      refine upon_value (hrun _ _ hr) ?_
      exact put_done hR hd hR.sat (Stp.refl _ _) hp hK
    · obtain ⟨cap', w1, hcap, e1, e2, e3, e4, hr⟩ := run_appz_grow (P := P) (w := w) (ty := o.type) (old := []) ht hu hi hz hzs h0 hby hkk (sb := .slice none 0 0) rfl (fun w' _ => rfl) (by omega) (by simpa using hb)
      refine upon_value (hrun _ _ hr) ?_
      have := h w.heap.size cap' (zrep zv.cells.toList (cap' - (0 + k))) hR.sat.none_size (by omega) (by rw [zrep_length, Nat.zero_add]; simp [hzs])
      simp only [Nat.zero_add, List.nil_append] at this ⊢
      exact alloc_done hR hd e1 e2 e3 e4 holds_push_row this hK
  · rename_i b off n cap
    obtain ⟨cs, hM, hb, h⟩ := h
    rcases h with ⟨hroom, hfit, hp⟩ | ⟨hgrow, hfit, h⟩
    · obtain ⟨w', hr, hh, ho, hsz, e1, e2, e3⟩ := run_appz_room (P := P) (w := w) (ty := o.type) (cap := cap) ht hu hi hz hzs h0 hkk (Nat.le_trans (Nat.mul_le_mul_right _ (Nat.le_add_left k n)) hb) hpl (hR.sat _ _ hM) hroom hfit
      refine upon_value (hrun _ _ hr) ?_
      exact put_done hR hd (hR.sat.set hh ho) (Stp.set hM ho hsz e1 e2 e3) hp hK
    · obtain ⟨cap', w1, hcap, e1, e2, e3, e4, hr⟩ := run_appz_grow (P := P) (w := w) (ty := o.type) (old := (cs.drop off).take (n * i.size)) ht hu hi hz hzs h0 hby hkk (sb := .slice (some ⟨b, off, none⟩) n cap) rfl
        (fun w' hw' => run_firstCells ((hR.sat _ _ hM).of_eq (by rw [hw'])) hfit) hgrow hb
      refine upon_value (hrun _ _ hr) ?_
      have := h w.heap.size cap' (zrep zv.cells.toList (cap' - (n + k))) hR.sat.none_size hcap (by rw [zrep_length]; simp [hzs])
      exact alloc_done hR hd e1 e2 e3 e4 holds_push_row this hK
  · exact h.elim

/-! ### Maps -/
theorem run_setObj {b : Nat} {es : Array MapEntry} {c : Nat} {o : Obj} (h : holds w b (.mp es c)) : (setObj b o).run P w = .ok () { w with heap := w.heap.setIfInBounds b o } := by
  have h' : w.heap[b]? = some (.map es c) := h
  simp [setObj, Sem.run, h']
theorem setMap_facts {b : Nat} {es es' : Array MapEntry} {c c' : Nat} (h : holds w b (.mp es c)) :
    holds { w with heap := w.heap.setIfInBounds b (.map es' c') } b (.mp es' c') ∧ (∀ x, x ≠ b → ({ w with heap := w.heap.setIfInBounds b (.map es' c') } : World).heap[x]? = w.heap[x]?) := by
  have hlt := h.lt
  refine ⟨?_, fun x hx => ?_⟩
  · show (w.heap.setIfInBounds b (.map es' c'))[b]? = _
    simp [hlt]
  · show (w.heap.setIfInBounds b (.map es' c'))[x]? = _
    rw [Array.getElem?_setIfInBounds_ne (Ne.symm hx)]
theorem sameBits_int (j : Int) : Instr.sameBits 10000 (.int .i64 j) (.int .i64 j) = true := by
  have : ∀ d, Instr.sameBits d (.int .i64 j) (.int .i64 j) = true := by intro d; cases d <;> simp [Instr.sameBits]
  exact this _
theorem run_mapUpdate {t kt e : TypeId} {ik : IntKind} {b : Nat} {es : Array MapEntry} {c : Nat} {j : Int} {v : Value} (ht : P.underlying t = some (.map kt e)) (hkt : P.underlying kt = some (.int ik)) (hb : holds w b (.mp es c)) (h : mpInts es.toList = true) :
    ∃ es' c', mpSet es c (.int .i64 j) j v = .mp es' c' ∧ (Instr.mapUpdate t (.map (some b)) (.int .i64 j) v).run P w = .ok () { w with heap := w.heap.setIfInBounds b (.map es' c') } := by
  obtain ⟨r, hr, h1, h2⟩ := run_findKey (P := P) (w := w) (kt := kt) (j := j) hkt h
  unfold mpSet
  cases r with
  | none =>
    simp only [Option.map_none] at h2
    rw [← h2]
    refine ⟨_, _, rfl, ?_⟩
    simp only [Instr.mapUpdate, underlying, Sem.run_bind, run_program, Result.andThen_ok, ht, Sem.run_pure, run_getObj hb, run_checkKey hkt, hr, run_setObj hb]
  | some p =>
    obtain ⟨i, x⟩ := p
    simp only [Option.map_some] at h2
    have h2' := h2
    rw [← h2]
    have hf := (List.findIdx?_eq_some_iff_getElem.1 h2'.symm)
    obtain ⟨hi, hp, _⟩ := hf
    have hi' : i < es.size := by simpa using hi
    have hkey : (((es[i]?).map (·.key)).getD (.int .i64 j)) = .int .i64 j := by
      rw [Array.getElem?_eq_getElem hi']
      simp only [Option.map_some, Option.getD_some]
      have hall : ∀ (l : List MapEntry) (i : Nat) (hi : i < l.length), mpInts l = true → keyIs j l[i] = true → l[i].key = .int .i64 j := by
        intro l
        induction l with
        | nil => intro i hi; exact absurd hi (Nat.not_lt_zero _)
        | cons e t ih =>
          intro i hi hm hk
          simp only [mpInts, Bool.and_eq_true] at hm
          cases i with
          | zero =>
            simp only [List.getElem_cons_zero] at hk ⊢
            unfold keyIs at hk
            cases hek : e.key with
            | int k' m =>
              rw [hek] at hk hm
              cases k' <;> simp at hm
              simp only [beq_iff_eq] at hk
              rw [hk]
            | _ => rw [hek] at hk; cases hk
          | succ i =>
            simp only [List.getElem_cons_succ] at hk ⊢
            exact ih i (by simpa using hi) hm.2 hk
      exact hall es.toList i hi h hp
    refine ⟨_, _, rfl, ?_⟩
    simp only [Instr.mapUpdate, underlying, Sem.run_bind, run_program, Result.andThen_ok, ht, Sem.run_pure, run_getObj hb, run_checkKey hkt, hr, hkey, Instr.keyThatStays, sameBits_int, if_true, run_setObj hb]
theorem run_delete {t u kt e ty : TypeId} {ik : IntKind} {b : Nat} {es : Array MapEntry} {c : Nat} {j : Int} (ht : P.underlying t = some (.map kt e)) (hkt : P.underlying kt = some (.int ik)) (hb : holds w b (.mp es c)) (h : mpInts es.toList = true) :
    ∃ es' c', mpDel es c j = .mp es' c' ∧ (Builtin.delete_ #[t, u] ty #[.map (some b), .int .i64 j]).run P w = .ok (.tuple #[]) { w with heap := w.heap.setIfInBounds b (.map es' c') } := by
  obtain ⟨r, hr, h1, h2⟩ := run_findKey (P := P) (w := w) (kt := kt) (j := j) hkt h
  unfold mpDel
  cases r with
  | none =>
    simp only [Option.map_none] at h2
    rw [← h2]
    refine ⟨_, _, rfl, ?_⟩
    simp only [Builtin.delete_, List.getElem?_toArray, List.getElem?_cons_zero, List.getElem?_cons_succ, underlying, Sem.run_bind, run_program, Result.andThen_ok, ht, Sem.run_pure, run_getObj hb, run_checkKey hkt, hr, run_setObj hb]
  | some p =>
    simp only [Option.map_some] at h2
    rw [← h2]
    refine ⟨_, _, rfl, ?_⟩
    simp only [Builtin.delete_, List.getElem?_toArray, List.getElem?_cons_zero, List.getElem?_cons_succ, underlying, Sem.run_bind, run_program, Result.andThen_ok, ht, Sem.run_pure, run_getObj hb, run_checkKey hkt, hr, run_setObj hb]
end
end Go.Proofs.Ytpcakglnklpjoaa.E
