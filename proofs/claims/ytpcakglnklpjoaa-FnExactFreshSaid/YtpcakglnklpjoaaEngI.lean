/- The engine, part I: one operation, carried out, of whatever kind. Conditions: none. -/
import Derived.Test.YtpcakglnklpjoaaEngH
set_option linter.unusedVariables false
set_option linter.unusedSimpArgs false
namespace Go.Proofs.Ytpcakglnklpjoaa.E
open Go

section
variable {P : Program} {W0 : World} {M0 M M' : Mem} {β : Nat → Nat} {S : St} {f : Nat → SV} {n nt : Nat} {a : Act} {w w' : World}

/-- a store has no slot, a new box has one -/
def dstOk (d : Option Nat) : K → Bool
  | .store _ _ _ => d.isNone
  | .alloc _ _ | .box _ _ | .bslice _ _ _ _ _ => d.isSome
  | _ => true

theorem ev_junk (d : Nat) (f : Nat → SV) (x : Operand) : ev (fun t => junkB d (f t)) x = ev f x := by
  cases x with
  | tmp t =>
    simp only [ev]
    cases f t with
    | bp s o =>
      simp only [junkB]
      by_cases h : s = d
      · rw [if_pos h]
      · rw [if_neg h]
    | _ => rfl
  | _ => rfl
theorem fillP_junk (d : Nat) (f : Nat → SV) : ∀ (ps : List (Nat × Nat × Operand)) (cs : List Value), fillP (fun t => junkB d (f t)) cs ps = fillP f cs ps
  | [], cs => rfl
  | (o, m, x) :: r, cs => by
    simp only [fillP, ev_junk]
    cases ev f x with
    | none => rfl
    | some y => simp only []; split <;> first | exact fillP_junk d f r _ | rfl

/-- what floats is carried out in a list of slots -/
theorem fl_sound (hR : RepF W0 M0 β S nt M a w) {o : Oper} {q own : Bool} {k : K} {next : Act → World → Prop} {Q : Exit → Act → World → Prop} {post : St → Mem → Prop} (hk : trK P q own o.op = some k)
    (hd : ∀ t, o.dst = some t → t < nt) (hdo : dstOk o.dst k = true)
    (h : ∃ sv, FE P S M k sv ∧ post (if sv.isBox then putB S o.dst sv else put S o.dst sv) M)
    (hK : ∀ S' M' a' w' β', post S' M' → RepF W0 M0 β' S' nt M' a' w' → next a' w') : o.wp P a w next Q := by
  obtain ⟨sv, hfe, hp⟩ := h
  cases hb : sv.isBox with
  | false =>
    rw [hb] at hp
    simp only [Bool.false_eq_true, if_false] at hp
    refine fe_exec hR hk hfe hd (fun h => by rw [hb] at h; cases h) ?_
    intro a' w' β' hR'
    refine hK _ _ _ _ β' hp ?_
    rw [upO_put]; exact hR'
  | true =>
    rw [hb] at hp
    simp only [if_true] at hp
    have hdst : ∃ d, o.dst = some d := by
      rcases hfe with h | h
      · exfalso
        obtain ⟨x, _, hs⟩ := pe_run (P := P) hR hk h
        cases sv <;> first | (cases hb; done) | exact hs
      · cases k <;> first
          | (exact h.elim)
          | (obtain ⟨b, o, cs, v, _, _, _, rfl⟩ := h; cases hb; done)
          | (obtain ⟨es, c, j, _, _, _, rfl⟩ := h; cases hb; done)
          | (obtain ⟨args, r, _, _, rfl⟩ := h; cases hb; done)
          | (simp only [dstOk] at hdo; exact Option.isSome_iff_exists.1 hdo)
    obtain ⟨d, hdd⟩ := hdst
    rw [hdd] at hp
    simp only [putB] at hp
    have hdl := hd d hdd
    have hR1 := hR.weak (junkB_le d S)
    have hfe' : FE P (fun t => junkB d (S t)) M k sv := by
      rcases hfe with h | h
      · exfalso
        obtain ⟨x, _, hs⟩ := pe_run (P := P) hR hk h
        cases sv <;> first | (cases hb; done) | exact hs
      · cases k <;> first
          | (exact h.elim)
          | (obtain ⟨b, o, cs, v, _, _, _, rfl⟩ := h; cases hb; done)
          | (obtain ⟨es, c, j, _, _, _, rfl⟩ := h; cases hb; done)
          | (obtain ⟨args, r, _, _, rfl⟩ := h; cases hb; done)
          | skip
        case alloc ow z => cases ow <;> first | exact h.elim | exact .inr h
        case box ow x =>
          cases ow with
          | false => exact h.elim
          | true =>
            obtain ⟨v, hv, rfl⟩ : ∃ v, ev S x = some v ∧ sv = .box v.cells.toList := h
            exact .inr ⟨v, by rw [ev_junk]; exact hv, rfl⟩
        case bslice ow len size z ps =>
          cases ow with
          | false => exact h.elim
          | true =>
            obtain ⟨cs, hcs, rfl⟩ : ∃ cs, fillP S z ps = some cs ∧ sv = .bsl cs len := h
            exact .inr ⟨cs, by rw [fillP_junk]; exact hcs, rfl⟩
    refine fe_exec hR1 hk hfe' hd (fun _ => ⟨d, hdd, fun t o' _ => junkB_no d _ o'⟩) ?_
    intro a' w' β' hR'
    refine hK _ _ _ _ β' hp ?_
    rw [hdd] at hR'
    exact hR'

/-- ONE OPERATION, CARRIED OUT. -/
theorem vcK_sound (hR : RepF W0 M0 β S nt M a w) {o : Oper} {q own : Bool} {k : K} {next : Act → World → Prop} {Q : Exit → Act → World → Prop} {post : St → Mem → Prop} (hk : trK P q own o.op = some k)
    (hd : ∀ t, o.dst = some t → t < nt) (hdo : dstOk o.dst k = true) (h : vcK P k o.dst post S M)
    (hK : ∀ S' M' a' w' β', post S' M' → RepF W0 M0 β' S' nt M' a' w' → next a' w') : o.wp P a w next Q := by
  have hinv := trK_inv hk
  cases k
  case call g xs =>
    obtain ⟨args, hargs, hF⟩ := h
    obtain ⟨arr, ats, hop, rfl, hok⟩ := hinv
    refine upon_enter hR.sat (run_callF hop hR hargs hok) hF ?_
    intro v M' w' hp hs ht
    exact put_done hR hd hs ht hp hK
  case callv x xs =>
    obtain ⟨g, u, c, args, hx, hok, hargs, hF⟩ := h
    obtain ⟨t, arr, ats, hop, rfl, rfl⟩ := hinv
    refine upon_enter hR.sat (run_callV hop hR hx hargs hok) hF ?_
    intro v M' w' hp hs ht
    exact put_done hR hd hs ht hp hK
  case store m x y =>
    obtain ⟨v, hv, hm, hpl, h⟩ := h
    obtain ⟨t, i, hop, hi, rfl⟩ := hinv
    have hdn : o.dst = none := by simpa [dstOk] using hdo
    obtain ⟨dst, op, ty, pos, after, guard⟩ := o
    simp only at hop hdn
    subst hop hdn
    rcases h with ⟨s, off, cs, hl, hbx, hle, hp⟩ | ⟨b, off, cs, hl, hM, hle, hp⟩
    · have hsv := hR.sv s
      rw [hbx] at hsv
      obtain ⟨w', hr, hh, ho, hsz, e1, e2, e3⟩ := run_storeVar (P := P) (t := t) (o := off) hi hsv.2.1 hm hpl (by omega)
      refine upon_skip (w' := w') ?_ ?_
      · simp only [execOp, hR.ev hv, hR.lc_bx hl, Instr.storeAt, Instr.sureAddr, Sem.run_bind, Sem.run_pure, Result.andThen_ok, hr]
      · refine hK _ _ _ _ β hp ?_
        exact hR.setB hbx hh ho hsz e1 e2 e3
    · obtain ⟨w', hr, hh, ho, hsz, e1, e2, e3⟩ := run_storeVar (P := P) (t := t) (o := off) hi (hR.sat _ _ hM) hm hpl (by omega)
      refine upon_skip (w' := w') ?_ ?_
      · simp only [execOp, hR.ev hv, hR.lc_mm hl, Instr.storeAt, Instr.sureAddr, Sem.run_bind, Sem.run_pure, Result.andThen_ok, hr]
      · exact hK _ _ _ _ β hp (hR.step (hR.sat.set hh ho) (Stp.set hM ho hsz e1 e2 e3))
  case alloc ow z =>
    cases ow with
    | true => exact fl_sound hR hk hd hdo h hK
    | false =>
      obtain ⟨t, inf, zv, hop, hinf, hz, rfl⟩ := hinv
      have hp := h w.heap.size hR.sat.none_size
      obtain ⟨dst, op, ty, pos, after, guard⟩ := o
      simp only at hop
      subst hop
      have hrun : (execOp a.eval { dst := dst, op := .alloc t, type := ty, pos := pos, after := after, guard := guard }).run P w = .ok (.value (.pointer (some ⟨w.heap.size, 0, none⟩))) (wpush w (.cells zv.cells t)) := by
        simp [execOp, run_alloc (w := w) hinf hz]
      refine upon_value hrun ?_
      exact alloc_done hR hd rfl rfl rfl rfl holds_push_row hp hK
  case box ow x =>
    cases ow with
    | true => exact fl_sound hR hk hd hdo h hK
    | false =>
      obtain ⟨v, hv, h⟩ := h
      obtain ⟨t, hop⟩ := hinv
      have hp := h w.heap.size hR.sat.none_size
      obtain ⟨dst, op, ty, pos, after, guard⟩ := o
      simp only at hop
      subst hop
      have hrun : (execOp a.eval { dst := dst, op := .box t x, type := ty, pos := pos, after := after, guard := guard }).run P w = .ok (.value (.pointer (some ⟨w.heap.size, 0, none⟩))) (wpush w (.cells v.cells t)) := by
        simp [execOp, run_box, hR.ev hv]
      refine upon_value hrun ?_
      exact alloc_done hR hd rfl rfl rfl rfl holds_push_row hp hK
  case bslice ow len size z ps =>
    cases ow with
    | true => exact fl_sound hR hk hd hdo h hK
    | false =>
      obtain ⟨cs, hcs, h⟩ := h
      obtain ⟨t, e, i, zv, parts, hop, ht, hi, hz, h0, h1, rfl, rfl, hps⟩ := hinv
      have hp := h w.heap.size hR.sat.none_size
      obtain ⟨dst, op, ty, pos, after, guard⟩ := o
      simp only at hop
      subst hop
      have hrun : (execOp a.eval { dst := dst, op := .buildSlice t len parts, type := ty, pos := pos, after := after, guard := guard }).run P w = .ok (.value (.slice (some ⟨w.heap.size, 0, none⟩) len len)) (wpush w (.cells cs.toArray e)) := by
        have := run_bslice (w := w) hR ht hi hz h0 h1 hps hcs
        simp [execOp, this]
      refine upon_value hrun ?_
      exact alloc_done hR hd rfl rfl rfl rfl (by have := holds_push_row (w := w) (cs := cs.toArray) (t := e); simpa using this) hp hK
  case mkslice size bytes z l c =>
    obtain ⟨nn, m, hl, hc, hle, hb, hm, h⟩ := h
    obtain ⟨t, e, i, zv, hop, ht, hi, hz, hzs, h0, rfl, rfl, rfl⟩ := hinv
    have hp := h w.heap.size hR.sat.none_size
    obtain ⟨dst, op, ty, pos, after, guard⟩ := o
    simp only at hop
    subst hop
    have hrun : (execOp a.eval { dst := dst, op := .makeSlice t l c, type := ty, pos := pos, after := after, guard := guard }).run P w = .ok (.value (.slice (some ⟨w.heap.size, 0, none⟩) nn m)) (wpush w (.cells (zrep zv.cells.toList m).toArray e)) := by
      simp only [execOp, hR.ev hl, hR.ev hc]
      simp [run_mkslice (w := w) ht hi hz hzs h0 hle hb hm]
    refine upon_value hrun ?_
    exact alloc_done hR hd rfl rfl rfl rfl (by have := holds_push_row (w := w) (cs := (zrep zv.cells.toList m).toArray) (t := e); simpa using this) hp hK
  case app size bytes z s x =>
    obtain ⟨sv, src, k, hs, hsrc, hpl, h⟩ := h
    obtain ⟨t, u, e, i, zv, hop, ht, hi, hz, hzs, h0, hby, rfl, rfl, rfl, hu⟩ := hinv
    obtain ⟨hS, hl⟩ := src_of (P := P) (u := u) (z := zv) hR hsrc hu
    refine appM_done (u := u) hR hd ht hi hz hzs h0 hby hS hpl hl ?_ h hK
    intro v w' hr
    obtain ⟨dst, op, ty, pos, after, guard⟩ := o
    simp only at hop
    subst hop
    simp only at hr
    have e1 : a.eval s = sv := hR.ev hs
    simp [execOp, resolve, invoke, builtin, e1, hr]
  case appz size bytes z s x =>
    obtain ⟨sv, k, hs, hx, hkk, hpl, h⟩ := h
    obtain ⟨t, u, e, i, zv, hop, ht, hi, hz, hzs, h0, hby, rfl, rfl, rfl, ik, hu⟩ := hinv
    refine appMz_done hR hd ht hu hi hz hzs h0 hby hpl hkk ?_ h hK
    intro v w' hr
    obtain ⟨dst, op, ty, pos, after, guard⟩ := o
    simp only at hop
    subst hop
    simp only at hr
    have e1 : a.eval s = sv := hR.ev hs
    have e2 : a.eval x = .int .i64 k := hR.ev hx
    simp [execOp, resolve, invoke, builtin, e1, e2, hr]
  case mkmap =>
    obtain ⟨t, hop⟩ := hinv
    have hp := h w.heap.size hR.sat.none_size
    obtain ⟨dst, op, ty, pos, after, guard⟩ := o
    simp only at hop
    subst hop
    have hrun : (execOp a.eval { dst := dst, op := .makeMap t none, type := ty, pos := pos, after := after, guard := guard }).run P w = .ok (.value (.map (some w.heap.size))) (wpush w (.map #[] 0)) := by
      simp [execOp, Instr.makeMap, wpush]
    refine upon_value hrun ?_
    exact alloc_done hR hd rfl rfl rfl rfl holds_push_mp hp hK
  case mupd m i y =>
    obtain ⟨b, es, c, j, v, hm, hM, hi, hy, hints, hp⟩ := h
    obtain ⟨t, kt, e, ik, hop, ht, hkt⟩ := hinv
    obtain ⟨es', c', hset, hr⟩ := run_mapUpdate (P := P) (v := v) ht hkt (hR.sat _ _ hM) hints
    obtain ⟨f1, f2⟩ := setMap_facts (es' := es') (c' := c') (hR.sat _ _ hM)
    rw [hset] at hp
    obtain ⟨dst, op, ty, pos, after, guard⟩ := o
    simp only at hop
    subst hop
    have hrun : (execOp a.eval { dst := dst, op := .mapUpdate t m i y, type := ty, pos := pos, after := after, guard := guard }).run P w = .ok .skip { w with heap := w.heap.setIfInBounds b (.map es' c') } := by
      simp only [execOp, hR.ev hm, hR.ev hi, hR.ev hy, Sem.run_bind, hr, Result.andThen_ok, Sem.run_pure]
    refine upon_skip hrun ?_
    exact put_done hR hd (hR.sat.set f1 f2) (Stp.set hM f2 (by simp) rfl rfl rfl) hp hK
  case mdel m i =>
    obtain ⟨b, es, c, j, hm, hM, hi, hints, hp⟩ := h
    obtain ⟨t, u, kt, e, ik, hop, ht, hkt⟩ := hinv
    obtain ⟨dst, op, ty, pos, after, guard⟩ := o
    obtain ⟨es', c', hset, hr⟩ := run_delete (P := P) (u := u) (ty := ty) ht hkt (hR.sat _ _ hM) hints
    obtain ⟨f1, f2⟩ := setMap_facts (es' := es') (c' := c') (hR.sat _ _ hM)
    rw [hset] at hp
    simp only at hop
    subst hop
    have e1 := hR.ev hm
    have e2 := hR.ev hi
    have hrun : (execOp a.eval { dst := dst, op := .call { callee := .builtin .delete, args := ⟨[m, i]⟩, argTypes := ⟨[t, u]⟩ }, type := ty, pos := pos, after := after, guard := guard }).run P w = .ok (.value (.tuple #[])) { w with heap := w.heap.setIfInBounds b (.map es' c') } := by
      simp [execOp, resolve, invoke, builtin, e1, e2, hr]
    refine upon_value hrun ?_
    exact put_done hR hd (hR.sat.set f1 f2) (Stp.set hM f2 (by simp) rfl rfl rfl) hp hK
  all_goals exact fl_sound hR hk hd hdo h hK
end
end Go.Proofs.Ytpcakglnklpjoaa.E
