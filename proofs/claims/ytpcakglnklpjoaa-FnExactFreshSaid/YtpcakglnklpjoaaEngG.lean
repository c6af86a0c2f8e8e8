/- The engine, part G: the operations that write memory or call, carried out. Conditions: none. -/
import Derived.Test.YtpcakglnklpjoaaEngF
set_option linter.unusedVariables false
set_option linter.unusedSimpArgs false
namespace Go.Proofs.Ytpcakglnklpjoaa.E
open Go

section
variable {P : Program} {W0 : World} {M0 M M' : Mem} {β : Nat → Nat} {S : St} {f : Nat → SV} {n nt : Nat} {a : Act} {w w' : World}

/-- the cells that an append brings, where the machine finds them -/
theorem src_of (hR : RepF W0 M0 β f n M a w) {size : Nat} {x : Operand} {src : List Value} {k : Nat} {u : TypeId} {z : Value} (h : srcC f M size x = some (src, k))
    (hu : (∃ e', P.underlying u = some (.slice e')) ∨ P.underlying u = some .string) : Src P w size u z (a.eval x) src k ∧ src.length = k * size := by
  have hV : ∀ y, srcC.srcV M size y = some (src, k) → a.eval x = y → Src P w size u z (a.eval x) src k ∧ src.length = k * size := by
    intro y hy e
    rw [e]
    unfold srcC.srcV at hy
    split at hy
    · simp only [Option.some.injEq, Prod.mk.injEq] at hy
      obtain ⟨rfl, rfl⟩ := hy
      exact ⟨⟨hu, rfl, fun w' _ => rfl⟩, by simp⟩
    · rename_i b o k' cap
      split at hy
      · rename_i cs hM
        split at hy
        · rename_i hle
          simp only [Option.some.injEq, Prod.mk.injEq] at hy
          obtain ⟨rfl, rfl⟩ := hy
          refine ⟨⟨hu, rfl, fun w' hw' => ?_⟩, by simp; omega⟩
          exact run_firstCells ((hR.sat _ _ hM).of_eq (by rw [hw'])) hle
        · cases hy
      · cases hy
    · rename_i s
      split at hy
      · rename_i hs
        simp only [Option.some.injEq, Prod.mk.injEq] at hy
        obtain ⟨rfl, rfl⟩ := hy
        subst hs
        refine ⟨⟨hu, rfl, fun w' _ => ?_⟩, by simp⟩
        simp only [Builtin.firstCells, Sem.run_pure]
        congr 1
        apply Array.ext'
        have hx : s.extract 0 s.size = s := by apply ByteArray.ext; simp
        rw [hx]
        simp
      · cases hy
    · cases hy
  cases x with
  | tmp t =>
    simp only [srcC] at h
    have hs := hR.sv t
    split at h
    · rename_i cs k' hf
      rw [hf] at hs
      obtain ⟨e1, e2, e3, e4⟩ := hs
      split at h
      · rename_i hl
        simp only [Option.some.injEq, Prod.mk.injEq] at h
        obtain ⟨rfl, rfl⟩ := h
        have e1' : a.eval (.tmp t) = .slice (some ⟨β t, 0, none⟩) k' k' := e1
        rw [e1']
        refine ⟨⟨hu, rfl, fun w' hw' => ?_⟩, hl⟩
        have := run_firstCells (P := P) (w := w') (size := size) (k := k') (cap := k') (o := 0) (e2.of_eq (by rw [hw'])) (by omega)
        rw [this]
        congr 2
        simp [← hl]
      · cases h
    · rename_i y hf
      rw [hf] at hs
      exact hV y h hs
    · cases h
  | const y => exact hV y h rfl
  | global g => simp [srcC] at h
  | func g => simp [srcC] at h

/-- a value and a memory behind it: into the slot -/
theorem put_done {S : St} {d : Option Nat} {x : Value} {next : Act → World → Prop} {post : St → Mem → Prop} (hR : RepF W0 M0 β S nt M a w) (hd : ∀ t, d = some t → t < nt)
    (hs : Sat w' M') (ht : Stp w M w' M') (hp : post (put S d (.v x)) M')
    (hK : ∀ S' M' a' w' β', post S' M' → RepF W0 M0 β' S' nt M' a' w' → next a' w') : next (a.put d x) w' := by
  refine hK _ _ _ _ β hp ?_
  rw [upO_put]
  have h1 := hR.step hs ht
  cases d with
  | none => exact h1
  | some t => exact h1.put (hd t rfl) rfl
theorem alloc_done {S : St} {d : Option Nat} {x : Value} {o : Obj} {k : Bk} {next : Act → World → Prop} {post : St → Mem → Prop} (hR : RepF W0 M0 β S nt M a w) (hd : ∀ t, d = some t → t < nt)
    {w1 : World} (hw : w1.heap = w.heap) (h1 : w1.os = w.os) (h2 : w1.tape = w.tape) (h3 : w1.output = w.output)
    (hk : holds (wpush w1 o) w1.heap.size k) (hp : post (put S d (.v x)) (M.upd w.heap.size k))
    (hK : ∀ S' M' a' w' β', post S' M' → RepF W0 M0 β' S' nt M' a' w' → next a' w') : next (a.put d x) (wpush w1 o) := by
  have hs1 : Sat w1 M := fun b kb e => (hR.sat b kb e).of_eq (by rw [hw])
  have hst1 : Stp w M w1 M := ⟨h1, h2, h3, by rw [hw]; exact Nat.le_refl _, fun b _ _ => by rw [hw], fun b hb => .inl hb⟩
  have hsz : w1.heap.size = w.heap.size := by rw [hw]
  have hs2 := hs1.push_new hk
  have ht2 := hst1.trans (Stp.push_new (w := w1) (M := M) o k)
  rw [hsz] at hs2 ht2
  exact put_done hR hd hs2 ht2 hp hK
theorem appM_done {S : St} {sb sx : Value} {src : List Value} {k : Nat} {next : Act → World → Prop} {post : St → Mem → Prop} {o : Oper} {Q : Exit → Act → World → Prop} {t u e : TypeId} {i : TypeInfo} {zv : Value}
    (hR : RepF W0 M0 β S nt M a w) (hd : ∀ t, o.dst = some t → t < nt) (ht : P.underlying t = some (.slice e)) (hi : P.info? e = some i) (hz : i.zero = some zv) (hzs : zv.cells.size = i.size) (h0 : 0 < i.size) (hby : 0 < i.bytes)
    (hsrc : Src P w i.size u zv sx src k) (hpl : plainCells src = true) (hl : src.length = k * i.size)
    (hrun : ∀ v w', (Builtin.append_ #[t, u] o.type #[sb, sx]).run P w = .ok v w' → (execOp a.eval o).run P w = .ok (.value v) w')
    (h : appM M i.size i.bytes sb src k (fun v M' => post (put S o.dst (.v v)) M'))
    (hK : ∀ S' M' a' w' β', post S' M' → RepF W0 M0 β' S' nt M' a' w' → next a' w') : o.wp P a w next Q := by
  unfold appM at h
  split at h
  · rename_i n cap
    obtain ⟨rfl, rfl, hb, h⟩ := h
    rcases h with ⟨rfl, hp⟩ | ⟨hk, h⟩
    · have hr := run_app_nil (P := P) (w := w) (ty := o.type) ht hi hsrc
      refine upon_value (hrun _ _ hr) ?_
      exact put_done hR hd hR.sat (Stp.refl _ _) hp hK
    · obtain ⟨cap', w1, hcap, e1, e2, e3, e4, hr⟩ := run_app_grow (P := P) (w := w) (ty := o.type) (old := []) ht hi hz hzs hby hsrc (sb := .slice none 0 0) rfl (fun w' _ => rfl) (by omega) (by simpa using hb)
      refine upon_value (hrun _ _ hr) ?_
      have := h w.heap.size cap' (zrep zv.cells.toList (cap' - (0 + k))) hR.sat.none_size (by omega) (by rw [zrep_length, Nat.zero_add]; simp [hzs])
      simp only [Nat.zero_add, List.nil_append] at this ⊢
      exact alloc_done hR hd e1 e2 e3 e4 holds_push_row this hK
  · rename_i b off n cap
    obtain ⟨cs, hM, hb, h⟩ := h
    rcases h with ⟨hroom, hfit, hp⟩ | ⟨hgrow, hfit, h⟩
    · obtain ⟨w', hr, hh, ho, hsz, e1, e2, e3⟩ := run_app_room (P := P) (w := w) (ty := o.type) (cap := cap) ht hi hsrc hpl hl (hR.sat _ _ hM) hroom hfit
      refine upon_value (hrun _ _ hr) ?_
      exact put_done hR hd (hR.sat.set hh ho) (Stp.set hM ho hsz e1 e2 e3) hp hK
    · obtain ⟨cap', w1, hcap, e1, e2, e3, e4, hr⟩ := run_app_grow (P := P) (w := w) (ty := o.type) (old := (cs.drop off).take (n * i.size)) ht hi hz hzs hby hsrc (sb := .slice (some ⟨b, off, none⟩) n cap) rfl
        (fun w' hw' => run_firstCells ((hR.sat _ _ hM).of_eq (by rw [hw'])) hfit) hgrow hb
      refine upon_value (hrun _ _ hr) ?_
      have := h w.heap.size cap' (zrep zv.cells.toList (cap' - (n + k))) hR.sat.none_size hcap (by rw [zrep_length]; simp [hzs])
      exact alloc_done hR hd e1 e2 e3 e4 holds_push_row this hK
  · exact h.elim
end
end Go.Proofs.Ytpcakglnklpjoaa.E
