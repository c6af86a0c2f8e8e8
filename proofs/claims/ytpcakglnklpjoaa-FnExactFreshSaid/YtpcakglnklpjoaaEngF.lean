/- The engine, part F: the operations that write memory or call. Conditions: none. -/
import Derived.Test.YtpcakglnklpjoaaEngE
import Derived.IntWalk
set_option linter.unusedVariables false
set_option linter.unusedSimpArgs false
namespace Go.Proofs.Ytpcakglnklpjoaa.E
open Go

section
variable {P : Program} {W0 : World} {M0 M M' : Mem} {β : Nat → Nat} {f : Nat → SV} {n : Nat} {a : Act} {w w' : World}

theorem upO_put (S : St) (d : Option Nat) (x : SV) : put S d x = upO S d x := by cases d <;> rfl
theorem junkB_le (d : Nat) (g : Nat → SV) : leF (fun t => junkB d (g t)) g := by
  intro t
  show junkB d (g t) = .junk ∨ junkB d (g t) = g t
  cases g t with
  | bp s o => simp only [junkB]; split <;> simp
  | _ => right; rfl
theorem junkB_no (d : Nat) (x : SV) (o : Nat) : junkB d x ≠ .bp d o := by
  cases x with
  | bp s o' =>
    simp only [junkB]
    split
    · intro h; cases h
    · rename_i h; intro e; cases e; exact h rfl
  | _ => intro h; cases h
/-! ### Zero cells -/
theorem zrep_eq (z : Array Value) (m : Nat) : ((List.range (m * z.size)).map fun i => z[i % z.size]!) = zrep z.toList m := by
  induction m with
  | zero => simp [zrep]
  | succ m ih =>
    rw [Nat.succ_mul, List.range_add, List.map_append, ih]
    unfold zrep
    rw [List.replicate_succ', List.flatten_append]
    congr 1
    simp only [List.map_map, List.flatten_cons, List.flatten_nil, List.append_nil]
    apply List.ext_getElem?
    intro j
    by_cases hj : j < z.size
    · simp [hj, List.getElem?_range, Nat.add_comm, Nat.add_mul_mod_self_right, Nat.mod_eq_of_lt hj]
    · simp [hj, List.getElem?_eq_none (Nat.le_of_not_lt hj)]
theorem zrep_length (z : List Value) (m : Nat) : (zrep z m).length = m * z.length := by
  simp [zrep, List.length_flatten, List.map_replicate, List.sum_replicate_nat]
theorem zrep_plain {z : List Value} (h : plainCells z = true) (m : Nat) : plainCells (zrep z m) = true := by
  unfold plainCells at *
  rw [List.all_eq_true] at *
  intro x hx
  unfold zrep at hx
  rw [List.mem_flatten] at hx
  obtain ⟨l, hl, hx⟩ := hx
  rw [(List.mem_replicate.1 hl).2] at hx
  exact h x hx
theorem zero_eq (z : Array Value) (k s : Nat) (hs : z.size = s) : (Array.range (k * s)).map (fun i => z[i % z.size]!) = (zrep z.toList k).toArray := by
  subst hs
  rw [← zrep_eq]
  apply Array.ext'; simp
theorem zeroCells_eq (z : Array Value) (k : Nat) : Builtin.zeroCells z k = (zrep z.toList k).toArray := zero_eq z k _ rfl
theorem run_mkslice {t e : TypeId} {i : TypeInfo} {zv : Value} {l c : Nat} (ht : P.underlying t = some (.slice e)) (hi : P.info? e = some i) (hz : i.zero = some zv) (hs : zv.cells.size = i.size) (h0 : 0 < i.size)
    (hlc : l ≤ c) (hb : c * i.bytes ≤ 140737488355328) (hc : c ≤ 140737488355328) :
    (Instr.makeSlice t (.int .i64 l) (.int .i64 c)).run P w = .ok (.slice (some ⟨w.heap.size, 0, none⟩) l c) (wpush w (.cells (zrep zv.cells.toList c).toArray e)) := by
  have w1 : IntKind.i64.wrap (l : Int) = l := IntWalk.i64_in _ (by omega)
  have w2 : IntKind.i64.wrap (c : Int) = c := IntWalk.i64_in _ (by omega)
  have hbc : ((i.bytes * c : Nat) : Int) ≤ 140737488355328 := by rw [Nat.mul_comm]; omega
  have h1 : ¬ ((i.bytes : Int) * (c : Int) > 2 ^ 48) := by rw [← Int.natCast_mul]; omega
  have h2 : ((decide ((c : Int) < 0) || decide ((i.bytes : Int) * (c : Int) > 2 ^ 48)) || decide ((l : Int) < 0) || decide ((l : Int) > c)) = false := by
    simp only [Bool.or_eq_false_iff, decide_eq_false_iff_not]
    refine ⟨⟨⟨by omega, h1⟩, by omega⟩, by omega⟩
  simp only [Instr.makeSlice, underlying, typeInfo, asInt, asIntOf, Sem.run_bind, run_program, Result.andThen_ok, ht, Sem.run_pure, hi, w1, w2, h2, Bool.false_eq_true, if_false, run_askRoom, sizeOf, Int.toNat_natCast]
  by_cases hcz : c = 0
  · subst hcz
    have e0 : ∀ g : Nat → Value, Array.map g (Array.range 0) = #[] := fun g => by apply Array.ext'; simp
    simp only [Nat.zero_mul, if_true, Sem.run_pure, Result.andThen_ok, newRow, run_newObj, Sem.run_bind, e0]
    rfl
  · have hne : ¬ c * i.size = 0 := by
      intro h; rcases Nat.mul_eq_zero.1 h with h | h <;> omega
    simp only [hne, if_false, zeroValue, typeInfo, Sem.run_bind, run_program, Result.andThen_ok, hi, Sem.run_pure, hz, zero_eq _ c _ hs, newRow, run_newObj]
    rfl

/-! ### Append -/
theorem run_firstCells {b o size k cap : Nat} {cs : List Value} (hb : holds w b (.row cs)) (h : o + k * size ≤ cs.length) :
    (Builtin.firstCells size k (.slice (some ⟨b, o, none⟩) k cap)).run P w = .ok ((cs.drop o).take (k * size)).toArray w := by
  have hl : ((cs.drop o).take (k * size)).length = k * size := by simp; omega
  have := run_loadCells_list (P := P) w ⟨b, o, none⟩ ((cs.drop o).take (k * size)) (fun j v hj => by
    rw [add_none, cell_of_row hb.ro]
    rw [List.getElem?_take] at hj
    split at hj
    · rw [List.getElem?_drop] at hj; exact hj
    · cases hj)
  rw [hl] at this
  exact this
/-- what an append does, once the new cells are known -/
def appRun (P : Program) (w : World) (ats : Array TypeId) (ty : TypeId) (sb sx : Value) (v : Value) (w' : World) : Prop := (Builtin.append_ ats ty #[sb, sx]).run P w = .ok v w'
/-- where the cells of what is appended come from -/
structure Src (P : Program) (w : World) (size : Nat) (u : TypeId) (z : Value) (sx : Value) (src : List Value) (k : Nat) : Prop where
  ty : (∃ e', P.underlying u = some (.slice e')) ∨ P.underlying u = some .string
  len : (Builtin.lenOf sx).run P w = .ok k w
  cells : ∀ w', w'.heap = w.heap → (Builtin.firstCells size k sx).run P w' = .ok src.toArray w'
theorem run_app_room {t u e ty : TypeId} {i : TypeInfo} {zv : Value} {sx : Value} {src : List Value} {k b o m cap : Nat} {cs : List Value} (ht : P.underlying t = some (.slice e)) (hi : P.info? e = some i)
    (hsrc : Src P w i.size u zv sx src k) (hp : plainCells src = true) (hl : src.length = k * i.size) (hb : holds w b (.row cs)) (hroom : m + k ≤ cap) (hfit : o + (m + k) * i.size ≤ cs.length) :
    ∃ w', (Builtin.append_ #[t, u] ty #[.slice (some ⟨b, o, none⟩) m cap, sx]).run P w = .ok (.slice (some ⟨b, o, none⟩) (m + k) cap) w' ∧
      holds w' b (.row (wr cs (o + m * i.size) src)) ∧ (∀ x, x ≠ b → w'.heap[x]? = w.heap[x]?) ∧ w'.heap.size = w.heap.size ∧ w'.os = w.os ∧ w'.tape = w.tape ∧ w'.output = w.output := by
  obtain ⟨ety, hg⟩ := hb
  have hfit2 : o + m * i.size + src.length ≤ cs.length := by rw [hl, Nat.add_assoc, ← Nat.add_mul]; exact hfit
  have hr := run_storeCells_at (P := P) b (o + m * i.size) ety src 0 cs.toArray w hg (by simpa using hfit2) (fun x hx => List.all_eq_true.1 hp x hx)
  simp only [Nat.add_zero] at hr
  refine ⟨w.setRow b (cs.take (o + m * i.size) ++ src ++ cs.drop (o + m * i.size + src.length)).toArray, ?_, ?_, ?_, ?_, rfl, rfl, rfl⟩
  · rcases hsrc.ty with ⟨e', hdu⟩ | hdu
    · simp only [Builtin.append_, List.getElem?_toArray, List.getElem?_cons_zero, List.getElem?_cons_succ, underlying, sizeOf, typeInfo, Sem.run_bind, run_program, Result.andThen_ok, ht, Sem.run_pure, hi, hdu, Bool.false_eq_true, if_false, hsrc.len, hroom, if_true, Bool.not_false, hsrc.cells w rfl, add_none]
      rw [hr]
      rfl
    · simp only [Builtin.append_, List.getElem?_toArray, List.getElem?_cons_zero, List.getElem?_cons_succ, underlying, sizeOf, typeInfo, Sem.run_bind, run_program, Result.andThen_ok, ht, Sem.run_pure, hi, hdu, Bool.false_eq_true, if_false, hsrc.len, hroom, if_true, Bool.not_false, hsrc.cells w rfl, add_none]
      rw [hr]
      rfl
  · refine ⟨ety, ?_⟩
    rw [wr_eq _ _ _ hfit2]
    exact setRow_heap w b cs.toArray _ ety (0, 0) hg
  · intro x hx; exact setRow_other w b x _ hx
  · simp [World.setRow]
theorem run_app_nil {t u e ty : TypeId} {i : TypeInfo} {zv : Value} {sx : Value} {src : List Value} (ht : P.underlying t = some (.slice e)) (hi : P.info? e = some i)
    (hsrc : Src P w i.size u zv sx src 0) :
    (Builtin.append_ #[t, u] ty #[.slice none 0 0, sx]).run P w = .ok (.slice none 0 0) w := by
  rcases hsrc.ty with ⟨e', hdu⟩ | hdu
  · simp only [Builtin.append_, List.getElem?_toArray, List.getElem?_cons_zero, List.getElem?_cons_succ, underlying, sizeOf, typeInfo, Sem.run_bind, run_program, Result.andThen_ok, ht, Sem.run_pure, hi, hdu, Bool.false_eq_true, if_false, hsrc.len, Nat.le_refl, if_true, Bool.not_false, hsrc.cells w rfl, Nat.add_zero]
  · simp only [Builtin.append_, List.getElem?_toArray, List.getElem?_cons_zero, List.getElem?_cons_succ, underlying, sizeOf, typeInfo, Sem.run_bind, run_program, Result.andThen_ok, ht, Sem.run_pure, hi, hdu, Bool.false_eq_true, if_false, hsrc.len, Nat.le_refl, if_true, Bool.not_false, hsrc.cells w rfl, Nat.add_zero]
theorem run_app_grow {t u e ty : TypeId} {i : TypeInfo} {zv : Value} {sx sb : Value} {src old : List Value} {k m cap : Nat} {base : Option Addr} (ht : P.underlying t = some (.slice e)) (hi : P.info? e = some i)
    (hzv : i.zero = some zv) (hzs : zv.cells.size = i.size) (hby : 0 < i.bytes) (hsrc : Src P w i.size u zv sx src k) (hsb : sb = .slice base m cap)
    (hold : ∀ w', w'.heap = w.heap → (Builtin.firstCells i.size m sb).run P w' = .ok old.toArray w')
    (hgrow : cap < m + k) (hbytes : (m + k) * i.bytes ≤ 140737488355328) :
    ∃ cap' w1, m + k ≤ cap' ∧ w1.heap = w.heap ∧ w1.os = w.os ∧ w1.tape = w.tape ∧ w1.output = w.output ∧
      (Builtin.append_ #[t, u] ty #[sb, sx]).run P w = .ok (.slice (some ⟨w.heap.size, 0, none⟩) (m + k) cap') (wpush w1 (.cells (old ++ src ++ zrep zv.cells.toList (cap' - (m + k))).toArray e)) := by
  subst hsb
  have hk : ¬ m + k ≤ cap := by omega
  have hle : m + k ≤ 140737488355328 := Nat.le_trans (Nat.le_mul_of_pos_right _ hby) hbytes
  have h63 : IntKind.i64.max = 9223372036854775807 := by decide +kernel
  have h1 : ¬ (((m + k : Nat) : Int) > IntKind.i64.max ∧ ((False : Prop) ∨ i.bytes = 0)) := by rw [h63]; omega
  have h2 : ¬ (Builtin.nextslicecap (m + k) cap * i.bytes > 2 ^ 48) := by
    have := growslice_fits hgrow hbytes; omega
  refine ⟨Question.cut (.appendCap (m + k) cap e) (w.tape w.drawn (.appendCap (m + k) cap e)), { w with drawn := w.drawn + 1 }, ?_, rfl, rfl, rfl, rfl, ?_⟩
  · simp only [Question.cut]; omega
  · have e1 : (Builtin.firstCells i.size k sx).run P { w with drawn := w.drawn + 1 } = .ok src.toArray { w with drawn := w.drawn + 1 } := hsrc.cells _ rfl
    have e2 : (Builtin.firstCells i.size m (.slice base m cap)).run P { w with drawn := w.drawn + 1 } = .ok old.toArray { w with drawn := w.drawn + 1 } := hold _ rfl
    have h1' : ¬ (((m + k : Nat) : Int) > IntKind.i64.max ∧ ((false = true : Prop) ∨ i.bytes = 0)) := by rw [h63]; omega
    rcases hsrc.ty with ⟨e', hdu⟩ | hdu
    · simp only [Builtin.append_, List.getElem?_toArray, List.getElem?_cons_zero, List.getElem?_cons_succ, underlying, sizeOf, typeInfo, zeroValue, Sem.run_bind, run_program, Result.andThen_ok, ht, Sem.run_pure, hi, hdu, Bool.false_eq_true, if_false, hsrc.len, hk, h1, h2, run_choose, Question.forced, run_askRoom, e1, e2, Bool.not_false, if_true, hzv, zeroCells_eq, newRow, run_newObj]
      congr 1
      simp [wpush, List.append_assoc]
    · simp only [Builtin.append_, List.getElem?_toArray, List.getElem?_cons_zero, List.getElem?_cons_succ, underlying, sizeOf, typeInfo, zeroValue, Sem.run_bind, run_program, Result.andThen_ok, ht, Sem.run_pure, hi, hdu, Bool.false_eq_true, if_false, hsrc.len, hk, h1, h2, run_choose, Question.forced, run_askRoom, e1, e2, Bool.not_false, if_true, hzv, zeroCells_eq, newRow, run_newObj]
      congr 1
      simp [wpush, List.append_assoc]
end
end Go.Proofs.Ytpcakglnklpjoaa.E
