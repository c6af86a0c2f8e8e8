/- A part of the proof. Conditions: none. -/
import Derived.Test.YtcmllambknfleaaKD11
import Derived.Test.YtcmllambknfleaaChecked
set_option maxRecDepth 100000
set_option linter.unusedVariables false
namespace Go.Proofs.Ytcmllambknfleaa.E
open Go
noncomputable def e107 : Env := ⟨Try.prog, [3, 4], 31, [(1, 15), (2, 10)]⟩
noncomputable def c107 : C :=
  .seq (.reg [
    ⟨some 3, none, .box true (.tmp 1)⟩,
    ⟨some 4, none, .alloc true [.int .i64 0, .int .i64 0, .int .i64 0]⟩]) (.seq (.seq (.dreg 15 [
    ⟨some 5, none, .faddr 0 (.tmp 3)⟩,
    ⟨some 6, none, .load true 1 (.tmp 5)⟩,
    ⟨some 7, none, .bin .eql (.tmp 6) (.const (.int .i64 2))⟩,
    ⟨some 8, none, .mov (.tmp 7)⟩,
    ⟨some 9, some (8, true), .mov (.tmp 0)⟩,
    ⟨some 10, some (8, true), .nilCheck (.tmp 9)⟩,
    ⟨some 11, some (8, true), .faddr 4 (.tmp 10)⟩,
    ⟨some 12, some (8, true), .load true 1 (.tmp 11)⟩,
    ⟨some 13, some (8, true), .faddr 2 (.tmp 3)⟩,
    ⟨some 14, some (8, true), .load true 1 (.tmp 13)⟩,
    ⟨some 15, some (8, true), .iaddr 8 (.tmp 12) (.tmp 14)⟩,
    ⟨some 16, some (8, true), .faddr 0 (.tmp 15)⟩,
    ⟨some 17, some (8, true), .load true 1 (.tmp 16)⟩,
    ⟨some 18, some (8, true), .bin .eql (.tmp 17) (.const (.int .i64 2))⟩,
    ⟨some 19, none, .pick (.tmp 8) (.tmp 18) (.const (.bool false))⟩]) (.cond (.tmp 19) (.seq (.dreg 10 [
    ⟨some 20, none, .mov (.tmp 0)⟩,
    ⟨some 21, none, .nilCheck (.tmp 20)⟩,
    ⟨some 22, none, .faddr 4 (.tmp 21)⟩,
    ⟨some 23, none, .load true 1 (.tmp 22)⟩,
    ⟨some 24, none, .faddr 2 (.tmp 3)⟩,
    ⟨some 25, none, .load true 1 (.tmp 24)⟩,
    ⟨some 26, none, .iaddr 8 (.tmp 23) (.tmp 25)⟩,
    ⟨some 27, none, .faddr 6 (.tmp 26)⟩,
    ⟨some 28, none, .load true 1 (.tmp 27)⟩,
    ⟨some 29, none, .build [.int .i64 0, .int .i64 0, .int .i64 0] [(0, 1, .const (.int .i64 2)), (2, 1, .tmp 28)]⟩,
    ⟨none, none, .store 3 (.tmp 4) (.tmp 29)⟩]) (.ret)) (.skip))) (.seq (.reg [
    ⟨some 30, none, .load false 3 (.tmp 3)⟩,
    ⟨none, none, .store 3 (.tmp 4) (.tmp 30)⟩]) (.ret)))
theorem t107 : Try.f107.body.bind (trC e107) = some c107 := by kernel_rfl
theorem r107 : Try.f107.results.toList.mapM (trR Try.prog) = some [.cell 4 false 3] := by kernel_rfl
theorem fn107 {args : List Value} {M : Mem} {post : Value → Mem → Prop} (hl : args.length ≤ 31) (h : VC e107 c107 (fnQ [.cell 4 false 3] post) (initS args 31) M) : Fn Try.prog 107 args M post :=
  Fn.of' (E := e107) Try.func107 t107 rfl r107 mixed hl h
noncomputable def e150 : Env := ⟨Try.prog, [3], 12, []⟩
noncomputable def c150 : C :=
  .seq (.reg [
    ⟨some 3, none, .box true (.tmp 1)⟩,
    ⟨some 4, none, .mov (.const (.int .i64 0))⟩]) (.seq (.seq (.reg [
    ⟨some 5, none, .faddr 0 (.tmp 3)⟩,
    ⟨some 6, none, .load true 1 (.tmp 5)⟩,
    ⟨some 7, none, .bin .neq (.tmp 6) (.const (.int .i64 2))⟩]) (.cond (.tmp 7) (.seq (.reg [
    ⟨some 4, none, .mov (.const (.int .i64 (-1)))⟩]) (.ret)) (.skip))) (.seq (.reg [
    ⟨some 8, none, .mov (.tmp 0)⟩,
    ⟨some 9, none, .load false 3 (.tmp 3)⟩,
    ⟨some 10, none, .call 107 [.tmp 8, .tmp 9]⟩,
    ⟨some 11, none, .field true 2 1 (.tmp 10)⟩,
    ⟨some 4, none, .mov (.tmp 11)⟩]) (.ret)))
theorem t150 : Try.f150.body.bind (trC e150) = some c150 := by kernel_rfl
theorem r150 : Try.f150.results.toList.mapM (trR Try.prog) = some [.tmp 4] := by kernel_rfl
theorem fn150 {args : List Value} {M : Mem} {post : Value → Mem → Prop} (hl : args.length ≤ 12) (h : VC e150 c150 (fnQ [.tmp 4] post) (initS args 12) M) : Fn Try.prog 150 args M post :=
  Fn.of' (E := e150) Try.func150 t150 rfl r150 mixed hl h
end Go.Proofs.Ytcmllambknfleaa.E
set_option linter.unusedVariables false
set_option linter.unusedSimpArgs false
namespace Go.Proofs.Ytcmllambknfleaa.E
open Go
section
variable {α : Type} {f : α → List Value} {size : Nat} {d : D} {xs : List α}
theorem own_len (a : Option Addr) (n n' cap cap' : Nat) : own (.slice a n cap) = own (.slice a n' cap') := by cases a <;> rfl
theorem flat_take (hs : ∀ x, (f x).length = size) (xs : List α) (k : Nat) (hk : k ≤ xs.length) : (xs.flatMap f).take (k * size) = (xs.take k).flatMap f := by
  have h2 : xs.flatMap f = (xs.take k).flatMap f ++ (xs.drop k).flatMap f := by rw [← List.flatMap_append, List.take_append_drop]
  rw [h2, List.take_left' (by rw [flat_len hs, List.length_take, Nat.min_eq_left hk])]
theorem flat_drop (hs : ∀ x, (f x).length = size) (xs : List α) (k : Nat) (hk : k ≤ xs.length) : (xs.flatMap f).drop (k * size) = (xs.drop k).flatMap f := by
  have h2 : xs.flatMap f = (xs.take k).flatMap f ++ (xs.drop k).flatMap f := by rw [← List.flatMap_append, List.take_append_drop]
  rw [h2, List.drop_left' (by rw [flat_len hs, List.length_take, Nat.min_eq_left hk])]
/-- the first k elements alone -/
theorem sl_take (hs : ∀ x, (f x).length = size) {k : Nat} {m : Mem} (h : slA size f d xs m) (hk : k ≤ xs.length) : slA size f d (xs.take k) m := by
  have hl : (xs.take k).length = k := by simp; omega
  refine ⟨?_, fun b hb => h.2 b (by rw [own_len _ _ (xs.take k).length _ d.cap]; exact hb)⟩
  rcases h.1 with ⟨c, e, e1, e2⟩ | ⟨b, o, cap, row, e, hM, hc, hb, hr, he⟩
  · subst e2; left; exact ⟨c, by simpa using e, e1, by simp⟩
  · right
    refine ⟨b, o, cap, row, ?_, hM, by omega, by omega, hr, ?_⟩
    · rw [hl]; simp only [Value.slice.injEq, true_and] at e ⊢; exact ⟨e.1, e.2⟩
    · rw [hl, ← flat_take hs xs k hk, ← he, List.take_take]
      congr 1
      have := Nat.mul_le_mul_right size hk
      omega
theorem own_drop (k n n' : Nat) : own (.slice (d.drop size k).a n (d.drop size k).cap) = own (.slice d.a n' d.cap) := by
  unfold D.drop
  obtain ⟨a, cap⟩ := d
  cases a with
  | none => rfl
  | some a =>
    obtain ⟨b, o, sp⟩ := a
    cases sp with
    | none => simp only; split <;> rfl
    | some s => rfl
theorem sl_drop (hs : ∀ x, (f x).length = size) {k : Nat} {m : Mem} (h : slA size f d xs m) (hk : k ≤ xs.length) : slA size f (d.drop size k) (xs.drop k) m := by
  have hl : (xs.drop k).length = xs.length - k := by simp
  refine ⟨?_, fun b hb => h.2 b (by rw [own_drop _ _ xs.length] at hb; exact hb)⟩
  rcases h.1 with ⟨c, e, e1, e2⟩ | ⟨b, o, cap, row, e, hM, hc, hb, hr, he⟩
  · subst e2
    have hk0 : k = 0 := by simpa using hk
    subst hk0
    obtain ⟨a, cp⟩ := d
    simp only [List.length_nil, Value.slice.injEq] at e
    obtain ⟨ea, _, ec⟩ := e
    subst ea; subst ec; subst e1
    exact .inl ⟨0, by simp [D.drop], rfl, rfl⟩
  · obtain ⟨a, cp⟩ := d
    simp only [Value.slice.injEq] at e
    obtain ⟨ea, _, ec⟩ := e
    subst ea; subst ec
    right
    unfold D.drop
    simp only
    by_cases hck : cp = k
    · rw [if_pos hck]
      have hkl : k = xs.length := by omega
      refine ⟨b, o, cp - k, row, by rw [hl], hM, by omega, by omega, ?_, ?_⟩
      · have : (cp - k) * size = 0 := by rw [show cp - k = 0 by omega]; simp
        omega
      · rw [hl, show xs.length - k = 0 by omega, hkl]; simp
    · rw [if_neg hck]
      have e2 : cp * size = k * size + (cp - k) * size := by rw [← Nat.add_mul]; congr 1; omega
      refine ⟨b, o + k * size, cp - k, row, by rw [hl], hM, by omega, by omega, by omega, ?_⟩
      rw [hl, ← flat_drop hs xs k hk, ← he, List.drop_take, List.drop_drop]
      congr 1
      rw [Nat.sub_mul]
end
end Go.Proofs.Ytcmllambknfleaa.E
set_option linter.unusedVariables false
set_option linter.unusedSimpArgs false
namespace Go.Proofs.Ytcmllambknfleaa.E
open Go
section
variable {P : Program} {S : St} {As : List Asr} {post : St → List Asr → Prop} {r : List I} {d : Option Nat}
theorem a_dr {e : D} {x : Operand} {lo : Option Operand} {size n : Nat} {k : IntKind} {i : Int} (hx : ev S x = some (.slice e.a n e.cap)) (hl : optEv S lo = some (some (.int k i))) (hb : Kn As (e.a = none ∨ e.a = some ⟨e.b, e.o, none⟩)) (hi0 : 0 ≤ i ∧ i ≤ n) (hc : Kn As (n ≤ e.cap))
    (hp : LA P r post (put S d (.v (.slice (e.drop size i.toNat).a (n - i.toNat) (e.drop size i.toNat).cap))) As) : LA P (⟨d, none, .slc size x lo none⟩ :: r) post S As :=
  ⟨fun m hm => by
    refine vl_pure (sv := .v (.slice (e.drop size i.toNat).a (n - i.toNat) (e.drop size i.toNat).cap)) ?_ (hp.out m hm)
    have hcap := hc.out m hm
    have h1 : bnd (some (.int k i)) 0 = some i.toNat := by show (if 0 ≤ i then some i.toNat else none) = _; rw [if_pos hi0.1]
    have h2 : optEv S none = some none := rfl
    have h3 : bnd none n = some n := rfl
    simp only [pe, hx, hl, h2, slcV, h1, h3]
    rw [if_pos ⟨by omega, by omega⟩]
    obtain ⟨a, cp⟩ := e
    rcases hb.out m hm with h | h
    · have h' : a = none := h
      subst h'; rfl
    · have h' : a = some ⟨D.b ⟨a, cp⟩, D.o ⟨a, cp⟩, none⟩ := h
      generalize D.b ⟨a, cp⟩ = b0, D.o ⟨a, cp⟩ = o0 at h'
      subst h'
      rfl⟩
end
end Go.Proofs.Ytcmllambknfleaa.E
set_option linter.unusedVariables false
set_option linter.unusedSimpArgs false
namespace Go.Proofs.Ytcmllambknfleaa.E
open Go
theorem cl_close {cd : D} {ys : List CS} {R : List Asr} : Ent (slA 8 csv cd ys :: prA ys :: R) (clA cd ys :: R) := ent_of fun m h => star_in.2 h
section
variable {cd : D} {ys : List CS} {i : Nat} {y : CS}
theorem kc_cl : KnA (clA cd ys) (ys.length ≤ cd.cap) := ⟨fun m h => by
  obtain ⟨a, l, h1⟩ := clA_l h; exact cp_sl.out a h1⟩
/-- a whole cell written over by one that has no pairs -/
theorem up_c0 {y' : CS} (hi : ys[i]? = some y) (hd : y'.d = ⟨none, 0⟩) (hp : y'.c.pairs = []) : ∀ m, clA cd ys m → ∃ row, m cd.b = some (.row row) ∧ cd.o + i * 8 + (csv y').length ≤ row.length ∧ ∃ m', m'.le (m.upd cd.b (.row (wr row (cd.o + i * 8) (csv y')))) ∧ clA cd (ys.set i y') m' := fun m h => by
  obtain ⟨a, b, d, rfl, h1, h2⟩ := star2.1 h
  obtain ⟨row, g1, g2, g3⟩ := (up_sl (j := 0) (vs := csv y') (e' := y') csv_len hi (by rw [csv_len]; exact Nat.le_refl _) (by rw [wr_all _ _ (by rw [csv_len, csv_len])])).out a h1
  have hb : b cd.b = none := by
    rcases d cd.b with e | e
    · rw [g1] at e; cases e
    · exact e
  have hlt := (List.getElem?_eq_some_iff.1 hi).1
  obtain ⟨b1, b2, d2, rfl, k1, k2⟩ := star2.1 (pr_out hi h2)
  rw [Nat.add_zero] at g2 g3
  refine ⟨row, un_l g1, g2, (a.upd cd.b (.row (wr row (cd.o + i * 8) (csv y')))).un b2, ?_, star2.2 ⟨_, b2, ?_, rfl, g3, ?_⟩⟩
  · rw [un_upd_l]
    intro x k hk
    cases hx : (a.upd cd.b (.row (wr row (cd.o + i * 8) (csv y')))) x with
    | some k' => rw [un_l hx] at hk; cases hk; exact un_l hx
    | none =>
      rw [un_n hx] at hk
      rw [un_n hx]; exact un_r d2 hk
  · exact (disj_un.1 d).2.upd _ (un_none.1 hb).2
  · refine pr_in hlt (star2.2 ⟨emp, b2, fun _ => .inl rfl, rfl, ?_, k2⟩)
    rw [hp, hd]
    exact ⟨.inl ⟨0, rfl, rfl, rfl⟩, fun _ _ => rfl⟩
end
end Go.Proofs.Ytcmllambknfleaa.E
set_option maxRecDepth 100000
set_option linter.unusedVariables false
namespace Go.Proofs.Ytcmllambknfleaa.E
open Go
noncomputable def e5 : Env := ⟨Try.prog, [3, 4, 7], 41, []⟩
end Go.Proofs.Ytcmllambknfleaa.E
set_option linter.unusedVariables false
set_option linter.unusedSimpArgs false
set_option maxRecDepth 100000
namespace Go.Proofs.Ytcmllambknfleaa.E
open Go
open Classical
/-- what a word leads to, moved cells seen through -/
def Heap.lead (H : Heap) (w : Word) : Word := if w.kind = 2 ∧ (H.getC w.at_).state = 2 then ⟨2, 0, (H.getC w.at_).to⟩ else w
theorem lead_q {M : Mem} {a : Nat} {x : HS} {w : Word} (h : PH M a x) (hf : w.kind = 2 → 0 ≤ w.at_ ∧ w.at_ < x.H.cells.length) : Qt Try.prog 107 [ptr a, wa w] M (wa (x.H.lead w)) := by
  refine fn107 (by simp) ?_
  unfold Heap.lead
  by_cases hk : w.kind = 2
  · obtain ⟨b, o, cap, y, e, hc, hy, _⟩ := h.v.cellAt (hf hk).1 (hf hk).2
    have f4 : cell M a 4 = _ := (h.at 4).trans (congrArg some e)
    have hat := hf hk
    repeat' (first
      | (refine vl_pure rfl ?_)
      | (refine vl_gy rfl rfl ?_)
      | (refine vl_gn rfl rfl ?_)
      | (refine vl_ld rfl (by first | exact f4 | exact hc | exact cells_cell hc (j := 0) rfl | exact cells_cell hc (j := 6) rfl) ?_)
      | (refine vl_nil ?_)
      | (refine VC.seq ?_)
      | (refine VC.regV ?_)
      | (refine vl_idx rfl rfl (by omega) ?_)
      | (refine vl_alloc ?_)
      | (refine vl_stw rfl rfl rfl rfl (by first | rfl | assumption) (Nat.le_of_ble_eq_true rfl) ?_)
      | (refine sk_zero ?_)
      | (refine sk_succ ?_)
      | (refine wk_nil ?_)
      | (refine wk_cons ?_)
      | (refine vl_box rfl rfl ?_)
      | (refine VC.dregV ?_)
      | (refine VC.ret ?_)
      | (refine VC.skip ?_)
      | (refine seqQ_n ?_)
      | (refine seqQ_r ?_)
      | (refine vl_gs rfl (fun hb => ?_) (fun hb => ?_))
      | (refine VC.cond _ rfl (fun hb => ?_) (fun hb => ?_)))
    all_goals (refine fnQ_r rfl (Mem.le_refl _) (q_end ?_))
    any_goals (exfalso; simp_all; done)
    any_goals (rw [if_pos (by simp_all)]; rw [← hy]; rfl)
    all_goals (rw [if_neg (by simp_all)]; rfl)
  · repeat' (first
      | (refine vl_pure rfl ?_)
      | (refine vl_gy rfl rfl ?_)
      | (refine vl_gn rfl rfl ?_)
      | (refine vl_nil ?_)
      | (refine VC.seq ?_)
      | (refine VC.regV ?_)
      | (refine vl_alloc ?_)
      | (refine vl_stw rfl rfl rfl rfl (by first | rfl | assumption) (Nat.le_of_ble_eq_true rfl) ?_)
      | (refine sk_zero ?_)
      | (refine sk_succ ?_)
      | (refine wk_nil ?_)
      | (refine wk_cons ?_)
      | (refine vl_box rfl rfl ?_)
      | (exfalso; simp_all; done)
      | (refine VC.dregV ?_)
      | (refine VC.ret ?_)
      | (refine VC.skip ?_)
      | (refine seqQ_n ?_)
      | (refine vl_gs rfl (fun hb => ?_) (fun hb => ?_))
      | (refine VC.cond _ rfl (fun hb => ?_) (fun hb => ?_)))
    all_goals (refine fnQ_r rfl (Mem.le_refl _) (q_end ?_))
    all_goals (rw [if_neg (by simp_all)]; rfl)
end Go.Proofs.Ytcmllambknfleaa.E
set_option maxRecDepth 100000
set_option linter.unusedVariables false
namespace Go.Proofs.Ytcmllambknfleaa.E
open Go
noncomputable def e6 : Env := ⟨Try.prog, [1, 5], 27, [(10, 0)]⟩
end Go.Proofs.Ytcmllambknfleaa.E
set_option maxRecDepth 100000
set_option linter.unusedVariables false
namespace Go.Proofs.Ytcmllambknfleaa.E
open Go
noncomputable def e104 : Env := ⟨Try.prog, [3, 4], 31, [(1, 15), (2, 10)]⟩
noncomputable def c104 : C :=
  .seq (.reg [
    ⟨some 3, none, .box true (.tmp 1)⟩,
    ⟨some 4, none, .alloc true [.int .i64 0, .int .i64 0, .int .i64 0]⟩]) (.seq (.seq (.dreg 15 [
    ⟨some 5, none, .faddr 0 (.tmp 3)⟩,
    ⟨some 6, none, .load true 1 (.tmp 5)⟩,
    ⟨some 7, none, .bin .eql (.tmp 6) (.const (.int .i64 2))⟩,
    ⟨some 8, none, .mov (.tmp 7)⟩,
    ⟨some 9, some (8, true), .mov (.tmp 0)⟩,
    ⟨some 10, some (8, true), .nilCheck (.tmp 9)⟩,
    ⟨some 11, some (8, true), .faddr 4 (.tmp 10)⟩,
    ⟨some 12, some (8, true), .load true 1 (.tmp 11)⟩,
    ⟨some 13, some (8, true), .faddr 2 (.tmp 3)⟩,
    ⟨some 14, some (8, true), .load true 1 (.tmp 13)⟩,
    ⟨some 15, some (8, true), .iaddr 8 (.tmp 12) (.tmp 14)⟩,
    ⟨some 16, some (8, true), .faddr 0 (.tmp 15)⟩,
    ⟨some 17, some (8, true), .load true 1 (.tmp 16)⟩,
    ⟨some 18, some (8, true), .bin .eql (.tmp 17) (.const (.int .i64 2))⟩,
    ⟨some 19, none, .pick (.tmp 8) (.tmp 18) (.const (.bool false))⟩]) (.cond (.tmp 19) (.seq (.dreg 10 [
    ⟨some 20, none, .mov (.tmp 0)⟩,
    ⟨some 21, none, .nilCheck (.tmp 20)⟩,
    ⟨some 22, none, .faddr 4 (.tmp 21)⟩,
    ⟨some 23, none, .load true 1 (.tmp 22)⟩,
    ⟨some 24, none, .faddr 2 (.tmp 3)⟩,
    ⟨some 25, none, .load true 1 (.tmp 24)⟩,
    ⟨some 26, none, .iaddr 8 (.tmp 23) (.tmp 25)⟩,
    ⟨some 27, none, .faddr 6 (.tmp 26)⟩,
    ⟨some 28, none, .load true 1 (.tmp 27)⟩,
    ⟨some 29, none, .build [.int .i64 0, .int .i64 0, .int .i64 0] [(0, 1, .const (.int .i64 2)), (2, 1, .tmp 28)]⟩,
    ⟨none, none, .store 3 (.tmp 4) (.tmp 29)⟩]) (.ret)) (.skip))) (.seq (.reg [
    ⟨some 30, none, .load false 3 (.tmp 3)⟩,
    ⟨none, none, .store 3 (.tmp 4) (.tmp 30)⟩]) (.ret)))
theorem t104 : Try.f104.body.bind (trC e104) = some c104 := by kernel_rfl
theorem r104 : Try.f104.results.toList.mapM (trR Try.prog) = some [.cell 4 false 3] := by kernel_rfl
theorem fn104 {args : List Value} {M : Mem} {post : Value → Mem → Prop} (hl : args.length ≤ 31) (h : VC e104 c104 (fnQ [.cell 4 false 3] post) (initS args 31) M) : Fn Try.prog 104 args M post :=
  Fn.of' (E := e104) Try.func104 t104 rfl r104 mixed hl h
end Go.Proofs.Ytcmllambknfleaa.E
set_option linter.unusedVariables false
set_option linter.unusedSimpArgs false
set_option maxHeartbeats 4000000
set_option maxRecDepth 100000
namespace Go.Proofs.Ytcmllambknfleaa.E
open Go
open Classical
section
variable {m : Mem} {a : Nat} {x : HX} {w : Word} {i k n : Int} {mv : Bool}
theorem l1resolve_q (h : Has m (hp a x)) (hf : w.kind = 2 → 0 ≤ w.at_ ∧ w.at_ < x.H.cells.length) : Qt Try.prog 104 [ptr a, wa w] m (wa (x.H.lead w)) := by
  unfold Heap.lead
  by_cases hk : w.kind = 2
  · have hat := hf hk
    rw [x.len] at hat
    obtain ⟨y, gy, gc⟩ := HX.atI (x := x) hat.1 hat.2
    refine qt_of (fnA_of (fun h => fn104 (by simp) h) ?_)
    repeat' (first
      | (refine k_L ?_; first | refine a_p rfl ?_ | (refine k_g ?_; first | refine a_gy rfl rfl ?_ | (refine a_gd rfl (fun hb => ?_) (fun hb => ?_) <;> try (exfalso; omega))) | (refine k_l ?_; refine g_l rfl ?_) | (refine k_i ?_; refine g_i rfl rfl ?_) | (refine k_st ?_; refine g_sw rfl rfl rfl rfl (Nat.le_of_ble_eq_true rfl) ?_) | (refine k_al ?_; refine a_al ?_) | (refine k_bx ?_; refine a_bx rfl rfl ?_))
      | refine a_n ?_
      | (refine k_V ?_; first | refine v_seq ?_ | refine v_reg ?_ | refine v_dreg ?_ | refine v_ret ?_ | refine v_skip ?_ | (refine v_cd rfl (fun hb => ?_) (fun hb => ?_) <;> try (exfalso; omega)))
      | refine s_r ?_
      | refine sk_zero ?_
      | refine sk_succ ?_
      | refine wk_nil ?_
      | refine wk_cons ?_)
    · refine fa_q (by simp) (fun _ _ => rfl) ?_
      rw [if_pos ⟨hk, by rw [gc]; assumption⟩, gc]; rfl
    all_goals refine fa_q (by simp) (fun _ _ => rfl) ?_
    all_goals (rw [if_neg (by rw [gc]; simp_all)]; rfl)
  · refine qt_of (fnA_of (fun h => fn104 (by simp) h) ?_)
    repeat' (first
      | (refine k_L ?_; first | refine a_p rfl ?_ | (refine k_g ?_; first | refine a_gn rfl rfl ?_ | (refine a_gd rfl (fun hb => ?_) (fun hb => ?_) <;> try (exfalso; omega))) | (refine k_st ?_; refine g_sw rfl rfl rfl rfl (Nat.le_of_ble_eq_true rfl) ?_) | (refine k_al ?_; refine a_al ?_) | (refine k_bx ?_; refine a_bx rfl rfl ?_))
      | refine a_n ?_
      | (refine k_V ?_; first | refine v_seq ?_ | refine v_reg ?_ | refine v_dreg ?_ | refine v_ret ?_ | refine v_skip ?_ | refine v_cf rfl ?_)
      | refine sk_zero ?_
      | refine sk_succ ?_
      | refine wk_nil ?_
      | refine wk_cons ?_)
    refine fa_q (by simp) (fun _ _ => rfl) ?_
    rw [if_neg (by simp_all)]; rfl
end
end Go.Proofs.Ytcmllambknfleaa.E
set_option linter.unusedVariables false
set_option linter.unusedSimpArgs false
set_option maxHeartbeats 4000000
set_option maxRecDepth 100000
namespace Go.Proofs.Ytcmllambknfleaa.E
open Go
open Classical
def Heap.toI (H : Heap) (w : Word) : Int := if w.kind = 2 then (H.lead w).at_ else -1
theorem to_q {m : Mem} {a : Nat} {x : HX} {w : Word} (h : Has m (hp a x)) (hf : w.kind = 2 → 0 ≤ w.at_ ∧ w.at_ < x.H.cells.length) : Qt Try.prog 150 [ptr a, wa w] m (.int .i64 (x.H.toI w)) := by
  refine qt_of (fnA_of (fun h => fn150 (by simp) h) ?_)
  unfold Heap.toI
  repeat' (first
    | (refine k_L ?_; first | refine a_p rfl ?_ | (refine k_bx ?_; refine a_bx rfl rfl ?_) | (refine k_c ?_; refine a_cq rfl (fun m hm => lead_q (x := x.hs) (w := w) (has_g h hm).ph hf) ?_))
    | refine a_n ?_
    | (refine k_V ?_; first | refine v_rv ?_ | refine v_seq ?_ | refine v_reg ?_ | refine v_ret ?_ | refine v_skip ?_ | (refine v_cn rfl (fun hb => ?_) (fun hb => ?_) <;> try (exfalso; omega)))
    | refine s_r ?_)
  · exact fa_q (by simp) (fun _ _ => rfl) (by rw [if_neg (by simp_all)])
  · exact fa_q (by simp) (fun _ _ => rfl) (by rw [if_pos (by simp_all)]; rfl)
end Go.Proofs.Ytcmllambknfleaa.E
set_option linter.unusedVariables false
set_option linter.unusedSimpArgs false
set_option maxHeartbeats 8000000
set_option maxRecDepth 100000
namespace Go.Proofs.Ytcmllambknfleaa.E
open Go
open Classical
theorem v_kn {E : Env} {c : C} {Q : X → St → List Asr → Prop} {S : St} {As : List Asr} {p : Prop} (hk : Kn As p) (h : p → VA E c Q S As) : VA E c Q S As := ⟨fun m hm => (h (hk.out m hm)).out m hm⟩
end Go.Proofs.Ytcmllambknfleaa.E
set_option maxRecDepth 100000
set_option linter.unusedVariables false
namespace Go.Proofs.Ytcmllambknfleaa.E
open Go
noncomputable def e179 : Env := ⟨Try.prog, [3], 25, []⟩
noncomputable def c179 : C :=
  .seq (.reg [
    ⟨some 3, none, .box true (.tmp 1)⟩,
    ⟨some 4, none, .mov (.const (.bool false))⟩]) (.seq (.reg [
    ⟨some 6, none, .mov (.tmp 0)⟩,
    ⟨some 7, none, .load false 3 (.tmp 3)⟩,
    ⟨some 8, none, .call 150 [.tmp 6, .tmp 7]⟩,
    ⟨some 5, none, .mov (.tmp 8)⟩]) (.seq (.seq (.reg [
    ⟨some 9, none, .mov (.tmp 5)⟩,
    ⟨some 10, none, .bin .lss (.tmp 9) (.const (.int .i64 0))⟩,
    ⟨some 11, none, .mov (.tmp 10)⟩,
    ⟨some 12, some (11, false), .mov (.tmp 0)⟩,
    ⟨some 13, some (11, false), .nilCheck (.tmp 12)⟩,
    ⟨some 14, some (11, false), .faddr 4 (.tmp 13)⟩,
    ⟨some 15, some (11, false), .load true 1 (.tmp 14)⟩,
    ⟨some 16, some (11, false), .mov (.tmp 5)⟩,
    ⟨some 17, some (11, false), .iaddr 8 (.tmp 15) (.tmp 16)⟩,
    ⟨some 18, some (11, false), .faddr 5 (.tmp 17)⟩,
    ⟨some 19, some (11, false), .load true 1 (.tmp 18)⟩,
    ⟨some 20, some (11, false), .bin .neq (.tmp 19) (.const (.int .i64 0))⟩,
    ⟨some 21, none, .pick (.tmp 11) (.const (.bool true)) (.tmp 20)⟩]) (.cond (.tmp 21) (.seq (.reg [
    ⟨some 4, none, .mov (.const (.bool false))⟩]) (.ret)) (.skip))) (.seq (.reg [
    ⟨some 22, none, .mov (.tmp 0)⟩,
    ⟨some 23, none, .mov (.tmp 5)⟩,
    ⟨some 24, none, .call 120 [.tmp 22, .tmp 23]⟩]) (.seq (.reg [
    ⟨some 4, none, .mov (.const (.bool true))⟩]) (.ret)))))
theorem t179 : Try.f179.body.bind (trC e179) = some c179 := by kernel_rfl
theorem r179 : Try.f179.results.toList.mapM (trR Try.prog) = some [.tmp 4] := by kernel_rfl
theorem fn179 {args : List Value} {M : Mem} {post : Value → Mem → Prop} (hl : args.length ≤ 25) (h : VC e179 c179 (fnQ [.tmp 4] post) (initS args 25) M) : Fn Try.prog 179 args M post :=
  Fn.of' (E := e179) Try.func179 t179 rfl r179 mixed hl h
noncomputable def e162 : Env := ⟨Try.prog, [], 24, []⟩
noncomputable def c162 : C :=
  .seq (.reg [
    ⟨some 4, none, .mov (.tmp 0)⟩,
    ⟨some 5, none, .mov (.tmp 0)⟩,
    ⟨some 6, none, .mov (.tmp 0)⟩,
    ⟨some 7, none, .mov (.tmp 1)⟩,
    ⟨some 8, none, .nilCheck (.tmp 4)⟩,
    ⟨some 9, none, .faddr 5 (.tmp 8)⟩,
    ⟨none, none, .store 1 (.tmp 9) (.tmp 7)⟩,
    ⟨some 10, none, .nilCheck (.tmp 5)⟩,
    ⟨some 11, none, .faddr 6 (.tmp 10)⟩,
    ⟨none, none, .store 1 (.tmp 11) (.const (.int .i64 0))⟩,
    ⟨some 12, none, .nilCheck (.tmp 6)⟩,
    ⟨some 13, none, .faddr 7 (.tmp 12)⟩,
    ⟨none, none, .store 1 (.tmp 13) (.const (.int .i64 0))⟩]) (.seq (.reg [
    ⟨some 14, none, .mov (.tmp 1)⟩,
    ⟨some 15, none, .bin .eql (.tmp 14) (.const (.int .i64 6))⟩]) (.cond (.tmp 15) (.reg [
    ⟨some 16, none, .mov (.tmp 0)⟩,
    ⟨some 17, none, .mov (.tmp 0)⟩,
    ⟨some 18, none, .nilCheck (.tmp 17)⟩,
    ⟨some 19, none, .faddr 4 (.tmp 18)⟩,
    ⟨some 20, none, .load true 1 (.tmp 19)⟩,
    ⟨some 21, none, .lenS (.tmp 20)⟩,
    ⟨some 22, none, .nilCheck (.tmp 16)⟩,
    ⟨some 23, none, .faddr 6 (.tmp 22)⟩,
    ⟨none, none, .store 1 (.tmp 23) (.tmp 21)⟩]) (.skip)))
theorem t162 : Try.f162.body.bind (trC e162) = some c162 := by kernel_rfl
theorem r162 : Try.f162.results.toList.mapM (trR Try.prog) = some [] := by kernel_rfl
theorem fn162 {args : List Value} {M : Mem} {post : Value → Mem → Prop} (hl : args.length ≤ 24) (h : VC e162 c162 (fnQ [] post) (initS args 24) M) : Fn Try.prog 162 args M post :=
  Fn.of' (E := e162) Try.func162 t162 rfl r162 mixed hl h
noncomputable def e156 : Env := ⟨Try.prog, [], 263, [(5, 11), (13, 9), (15, 11), (24, 9), (25, 10), (26, 9), (27, 16), (36, 12), (37, 10), (38, 21)]⟩
noncomputable def c156 : C :=
  .seq (.reg [
    ⟨some 6, none, .mov (.tmp 0)⟩,
    ⟨some 7, none, .nilCheck (.tmp 6)⟩,
    ⟨some 8, none, .faddr 4 (.tmp 7)⟩,
    ⟨some 9, none, .load true 1 (.tmp 8)⟩,
    ⟨some 10, none, .lenS (.tmp 9)⟩,
    ⟨some 2, none, .mov (.tmp 10)⟩]) (.seq (.reg [
    ⟨some 11, none, .mov (.tmp 0)⟩,
    ⟨some 12, none, .nilCheck (.tmp 11)⟩,
    ⟨some 13, none, .faddr 5 (.tmp 12)⟩,
    ⟨some 14, none, .load true 1 (.tmp 13)⟩]) (.block 0 (.seq (.reg [
    ⟨some 16, none, .bin .eql (.tmp 14) (.const (.int .i64 1))⟩,
    ⟨some 15, none, .mov (.tmp 16)⟩]) (.cond (.tmp 15) (.seq (.seq (.reg [
    ⟨some 17, none, .mov (.tmp 0)⟩,
    ⟨some 18, none, .nilCheck (.tmp 17)⟩,
    ⟨some 19, none, .faddr 6 (.tmp 18)⟩,
    ⟨some 20, none, .load true 1 (.tmp 19)⟩,
    ⟨some 21, none, .mov (.tmp 2)⟩,
    ⟨some 22, none, .bin .eql (.tmp 20) (.tmp 21)⟩]) (.cond (.tmp 22) (.seq (.reg [
    ⟨some 23, none, .mov (.tmp 0)⟩,
    ⟨some 24, none, .call 162 [.tmp 23, .const (.int .i64 2)]⟩]) (.ret)) (.skip))) (.seq (.seq (.dreg 11 [
    ⟨some 25, none, .mov (.tmp 0)⟩,
    ⟨some 26, none, .nilCheck (.tmp 25)⟩,
    ⟨some 27, none, .faddr 4 (.tmp 26)⟩,
    ⟨some 28, none, .load true 1 (.tmp 27)⟩,
    ⟨some 29, none, .mov (.tmp 0)⟩,
    ⟨some 30, none, .nilCheck (.tmp 29)⟩,
    ⟨some 31, none, .faddr 6 (.tmp 30)⟩,
    ⟨some 32, none, .load true 1 (.tmp 31)⟩,
    ⟨some 33, none, .iaddr 8 (.tmp 28) (.tmp 32)⟩,
    ⟨some 34, none, .load false 8 (.tmp 33)⟩,
    ⟨some 35, none, .qcall 145 [.tmp 34]⟩]) (.cond (.tmp 35) (.reg [
    ⟨some 36, none, .mov (.tmp 0)⟩,
    ⟨some 37, none, .mov (.tmp 0)⟩,
    ⟨some 38, none, .nilCheck (.tmp 37)⟩,
    ⟨some 39, none, .faddr 6 (.tmp 38)⟩,
    ⟨some 40, none, .load true 1 (.tmp 39)⟩,
    ⟨some 41, none, .call 120 [.tmp 36, .tmp 40]⟩]) (.skip))) (.reg [
    ⟨some 42, none, .mov (.tmp 0)⟩,
    ⟨some 43, none, .nilCheck (.tmp 42)⟩,
    ⟨some 44, none, .faddr 6 (.tmp 43)⟩,
    ⟨some 45, none, .load true 1 (.tmp 44)⟩,
    ⟨some 46, none, .bin .add (.tmp 45) (.const (.int .i64 1))⟩,
    ⟨some 47, none, .nilCheck (.tmp 42)⟩,
    ⟨some 48, none, .faddr 6 (.tmp 47)⟩,
    ⟨none, none, .store 1 (.tmp 48) (.tmp 46)⟩]))) (.seq (.reg [
    ⟨some 50, none, .bin .eql (.tmp 14) (.const (.int .i64 2))⟩,
    ⟨some 49, none, .mov (.tmp 50)⟩]) (.cond (.tmp 49) (.reg [
    ⟨some 51, none, .mov (.tmp 0)⟩,
    ⟨some 52, none, .call 172 [.tmp 51]⟩]) (.seq (.reg [
    ⟨some 54, none, .bin .eql (.tmp 14) (.const (.int .i64 3))⟩,
    ⟨some 53, none, .mov (.tmp 54)⟩]) (.cond (.tmp 53) (.seq (.seq (.reg [
    ⟨some 55, none, .mov (.tmp 0)⟩,
    ⟨some 56, none, .nilCheck (.tmp 55)⟩,
    ⟨some 57, none, .faddr 6 (.tmp 56)⟩,
    ⟨some 58, none, .load true 1 (.tmp 57)⟩,
    ⟨some 59, none, .mov (.tmp 2)⟩,
    ⟨some 60, none, .bin .eql (.tmp 58) (.tmp 59)⟩]) (.cond (.tmp 60) (.seq (.reg [
    ⟨some 61, none, .mov (.tmp 0)⟩,
    ⟨some 62, none, .call 162 [.tmp 61, .const (.int .i64 4)]⟩]) (.ret)) (.skip))) (.seq (.dreg 9 [
    ⟨some 63, none, .mov (.tmp 0)⟩,
    ⟨some 64, none, .nilCheck (.tmp 63)⟩,
    ⟨some 65, none, .faddr 4 (.tmp 64)⟩,
    ⟨some 66, none, .load true 1 (.tmp 65)⟩,
    ⟨some 67, none, .mov (.tmp 0)⟩,
    ⟨some 68, none, .nilCheck (.tmp 67)⟩,
    ⟨some 69, none, .faddr 6 (.tmp 68)⟩,
    ⟨some 70, none, .load true 1 (.tmp 69)⟩,
    ⟨some 71, none, .iaddr 8 (.tmp 66) (.tmp 70)⟩,
    ⟨some 3, none, .mov (.tmp 71)⟩]) (.seq (.seq (.reg [
    ⟨some 72, none, .mov (.tmp 3)⟩,
    ⟨some 73, none, .nilCheck (.tmp 72)⟩,
    ⟨some 74, none, .faddr 0 (.tmp 73)⟩,
    ⟨some 75, none, .load true 1 (.tmp 74)⟩,
    ⟨some 76, none, .bin .eql (.tmp 75) (.const (.int .i64 1))⟩,
    ⟨some 77, none, .mov (.tmp 76)⟩,
    ⟨some 78, some (77, true), .mov (.tmp 3)⟩,
    ⟨some 79, some (77, true), .nilCheck (.tmp 78)⟩,
    ⟨some 80, some (77, true), .faddr 5 (.tmp 79)⟩,
    ⟨some 81, some (77, true), .load true 1 (.tmp 80)⟩,
    ⟨some 82, some (77, true), .bin .eql (.tmp 81) (.const (.int .i64 0))⟩,
    ⟨some 83, none, .pick (.tmp 77) (.tmp 82) (.const (.bool false))⟩]) (.cond (.tmp 83) (.seq (.dreg 11 [
    ⟨some 84, none, .mov (.tmp 0)⟩,
    ⟨some 85, none, .nilCheck (.tmp 84)⟩,
    ⟨some 86, none, .faddr 1 (.tmp 85)⟩,
    ⟨some 87, none, .load true 1 (.tmp 86)⟩,
    ⟨some 88, none, .mov (.tmp 3)⟩,
    ⟨some 89, none, .nilCheck (.tmp 88)⟩,
    ⟨some 90, none, .load false 8 (.tmp 89)⟩,
    ⟨some 91, none, .qcall 142 [.tmp 90]⟩,
    ⟨some 92, none, .bin .sub (.tmp 87) (.tmp 91)⟩,
    ⟨some 93, none, .nilCheck (.tmp 84)⟩,
    ⟨some 94, none, .faddr 1 (.tmp 93)⟩,
    ⟨none, none, .store 1 (.tmp 94) (.tmp 92)⟩]) (.reg [
    ⟨some 95, none, .mov (.tmp 3)⟩,
    ⟨some 96, none, .build [.int .i64 0, .int .i64 0, .int .i64 0, .int .i64 0, .int .i64 0, .int .i64 0, .int .i64 0, .slice none 0 0] []⟩,
    ⟨some 97, none, .nilCheck (.tmp 95)⟩,
    ⟨none, none, .store 8 (.tmp 97) (.tmp 96)⟩])) (.reg [
    ⟨some 98, none, .mov (.tmp 3)⟩,
    ⟨some 99, none, .nilCheck (.tmp 98)⟩,
    ⟨some 100, none, .faddr 5 (.tmp 99)⟩,
    ⟨none, none, .store 1 (.tmp 100) (.const (.int .i64 0))⟩]))) (.reg [
    ⟨some 101, none, .mov (.tmp 0)⟩,
    ⟨some 102, none, .nilCheck (.tmp 101)⟩,
    ⟨some 103, none, .faddr 6 (.tmp 102)⟩,
    ⟨some 104, none, .load true 1 (.tmp 103)⟩,
    ⟨some 105, none, .bin .add (.tmp 104) (.const (.int .i64 1))⟩,
    ⟨some 106, none, .nilCheck (.tmp 101)⟩,
    ⟨some 107, none, .faddr 6 (.tmp 106)⟩,
    ⟨none, none, .store 1 (.tmp 107) (.tmp 105)⟩])))) (.seq (.reg [
    ⟨some 109, none, .bin .eql (.tmp 14) (.const (.int .i64 4))⟩,
    ⟨some 108, none, .mov (.tmp 109)⟩]) (.cond (.tmp 108) (.reg [
    ⟨some 110, none, .mov (.tmp 0)⟩,
    ⟨some 111, none, .call 173 [.tmp 110]⟩]) (.seq (.reg [
    ⟨some 113, none, .bin .eql (.tmp 14) (.const (.int .i64 5))⟩,
    ⟨some 112, none, .mov (.tmp 113)⟩]) (.cond (.tmp 112) (.seq (.seq (.reg [
    ⟨some 114, none, .mov (.tmp 0)⟩,
    ⟨some 115, none, .nilCheck (.tmp 114)⟩,
    ⟨some 116, none, .faddr 6 (.tmp 115)⟩,
    ⟨some 117, none, .load true 1 (.tmp 116)⟩,
    ⟨some 118, none, .mov (.tmp 2)⟩,
    ⟨some 119, none, .bin .eql (.tmp 117) (.tmp 118)⟩]) (.cond (.tmp 119) (.seq (.reg [
    ⟨some 120, none, .mov (.tmp 0)⟩,
    ⟨some 121, none, .call 162 [.tmp 120, .const (.int .i64 6)]⟩]) (.ret)) (.skip))) (.seq (.dreg 9 [
    ⟨some 122, none, .mov (.tmp 0)⟩,
    ⟨some 123, none, .nilCheck (.tmp 122)⟩,
    ⟨some 124, none, .faddr 4 (.tmp 123)⟩,
    ⟨some 125, none, .load true 1 (.tmp 124)⟩,
    ⟨some 126, none, .mov (.tmp 0)⟩,
    ⟨some 127, none, .nilCheck (.tmp 126)⟩,
    ⟨some 128, none, .faddr 6 (.tmp 127)⟩,
    ⟨some 129, none, .load true 1 (.tmp 128)⟩,
    ⟨some 130, none, .iaddr 8 (.tmp 125) (.tmp 129)⟩,
    ⟨some 4, none, .mov (.tmp 130)⟩]) (.seq (.seq (.dreg 10 [
    ⟨some 131, none, .mov (.tmp 0)⟩,
    ⟨some 132, none, .nilCheck (.tmp 131)⟩,
    ⟨some 133, none, .faddr 7 (.tmp 132)⟩,
    ⟨some 134, none, .load true 1 (.tmp 133)⟩,
    ⟨some 135, none, .mov (.tmp 4)⟩,
    ⟨some 136, none, .nilCheck (.tmp 135)⟩,
    ⟨some 137, none, .faddr 7 (.tmp 136)⟩,
    ⟨some 138, none, .load true 1 (.tmp 137)⟩,
    ⟨some 139, none, .lenS (.tmp 138)⟩,
    ⟨some 140, none, .bin .lss (.tmp 134) (.tmp 139)⟩]) (.cond (.tmp 140) (.seq (.dreg 9 [
    ⟨some 141, none, .mov (.tmp 4)⟩,
    ⟨some 142, none, .nilCheck (.tmp 141)⟩,
    ⟨some 143, none, .faddr 7 (.tmp 142)⟩,
    ⟨some 144, none, .load true 1 (.tmp 143)⟩,
    ⟨some 145, none, .mov (.tmp 0)⟩,
    ⟨some 146, none, .nilCheck (.tmp 145)⟩,
    ⟨some 147, none, .faddr 7 (.tmp 146)⟩,
    ⟨some 148, none, .load true 1 (.tmp 147)⟩,
    ⟨some 149, none, .iaddr 6 (.tmp 144) (.tmp 148)⟩,
    ⟨some 5, none, .mov (.tmp 149)⟩]) (.seq (.dreg 16 [
    ⟨some 150, none, .mov (.tmp 5)⟩,
    ⟨some 151, none, .mov (.tmp 5)⟩,
    ⟨some 152, none, .mov (.tmp 0)⟩,
    ⟨some 153, none, .mov (.tmp 5)⟩,
    ⟨some 154, none, .nilCheck (.tmp 153)⟩,
    ⟨some 155, none, .faddr 0 (.tmp 154)⟩,
    ⟨some 156, none, .load false 3 (.tmp 155)⟩,
    ⟨some 157, none, .qcall 107 [.tmp 152, .tmp 156]⟩,
    ⟨some 158, none, .mov (.tmp 0)⟩,
    ⟨some 159, none, .mov (.tmp 5)⟩,
    ⟨some 160, none, .nilCheck (.tmp 159)⟩,
    ⟨some 161, none, .faddr 3 (.tmp 160)⟩,
    ⟨some 162, none, .load false 3 (.tmp 161)⟩,
    ⟨some 163, none, .qcall 107 [.tmp 158, .tmp 162]⟩,
    ⟨some 164, none, .nilCheck (.tmp 150)⟩,
    ⟨some 165, none, .faddr 0 (.tmp 164)⟩,
    ⟨none, none, .store 3 (.tmp 165) (.tmp 157)⟩,
    ⟨some 166, none, .nilCheck (.tmp 151)⟩,
    ⟨some 167, none, .faddr 3 (.tmp 166)⟩,
    ⟨none, none, .store 3 (.tmp 167) (.tmp 163)⟩]) (.seq (.reg [
    ⟨some 168, none, .mov (.tmp 0)⟩,
    ⟨some 169, none, .nilCheck (.tmp 168)⟩,
    ⟨some 170, none, .faddr 7 (.tmp 169)⟩,
    ⟨some 171, none, .load true 1 (.tmp 170)⟩,
    ⟨some 172, none, .bin .add (.tmp 171) (.const (.int .i64 1))⟩,
    ⟨some 173, none, .nilCheck (.tmp 168)⟩,
    ⟨some 174, none, .faddr 7 (.tmp 173)⟩,
    ⟨none, none, .store 1 (.tmp 174) (.tmp 172)⟩]) (.ret)))) (.skip))) (.seq (.reg [
    ⟨some 175, none, .mov (.tmp 0)⟩,
    ⟨some 176, none, .nilCheck (.tmp 175)⟩,
    ⟨some 177, none, .faddr 6 (.tmp 176)⟩,
    ⟨some 178, none, .load true 1 (.tmp 177)⟩,
    ⟨some 179, none, .bin .add (.tmp 178) (.const (.int .i64 1))⟩,
    ⟨some 180, none, .nilCheck (.tmp 175)⟩,
    ⟨some 181, none, .faddr 6 (.tmp 180)⟩,
    ⟨none, none, .store 1 (.tmp 181) (.tmp 179)⟩]) (.reg [
    ⟨some 182, none, .mov (.tmp 0)⟩,
    ⟨some 183, none, .nilCheck (.tmp 182)⟩,
    ⟨some 184, none, .faddr 7 (.tmp 183)⟩,
    ⟨none, none, .store 1 (.tmp 184) (.const (.int .i64 0))⟩]))))) (.seq (.reg [
    ⟨some 186, none, .bin .eql (.tmp 14) (.const (.int .i64 6))⟩,
    ⟨some 185, none, .mov (.tmp 186)⟩]) (.cond (.tmp 185) (.seq (.seq (.reg [
    ⟨some 187, none, .mov (.tmp 0)⟩,
    ⟨some 188, none, .nilCheck (.tmp 187)⟩,
    ⟨some 189, none, .faddr 6 (.tmp 188)⟩,
    ⟨some 190, none, .load true 1 (.tmp 189)⟩,
    ⟨some 191, none, .bin .eql (.tmp 190) (.const (.int .i64 0))⟩]) (.cond (.tmp 191) (.seq (.reg [
    ⟨some 192, none, .mov (.tmp 0)⟩,
    ⟨some 193, none, .call 162 [.tmp 192, .const (.int .i64 0)]⟩]) (.seq (.reg [
    ⟨some 194, none, .mov (.tmp 0)⟩,
    ⟨some 195, none, .mov (.tmp 0)⟩,
    ⟨some 196, none, .nilCheck (.tmp 195)⟩,
    ⟨some 197, none, .faddr 11 (.tmp 196)⟩,
    ⟨some 198, none, .load true 1 (.tmp 197)⟩,
    ⟨some 199, none, .bin .add (.tmp 198) (.const (.int .i64 1))⟩,
    ⟨some 200, none, .min (.tmp 199) (.const (.int .i64 1000000000))⟩,
    ⟨some 201, none, .nilCheck (.tmp 194)⟩,
    ⟨some 202, none, .faddr 11 (.tmp 201)⟩,
    ⟨none, none, .store 1 (.tmp 202) (.tmp 200)⟩]) (.ret))) (.skip))) (.seq (.reg [
    ⟨some 203, none, .mov (.tmp 0)⟩,
    ⟨some 204, none, .nilCheck (.tmp 203)⟩,
    ⟨some 205, none, .faddr 6 (.tmp 204)⟩,
    ⟨some 206, none, .load true 1 (.tmp 205)⟩,
    ⟨some 207, none, .bin .sub (.tmp 206) (.const (.int .i64 1))⟩,
    ⟨some 208, none, .nilCheck (.tmp 203)⟩,
    ⟨some 209, none, .faddr 6 (.tmp 208)⟩,
    ⟨none, none, .store 1 (.tmp 209) (.tmp 207)⟩]) (.seq (.seq (.dreg 12 [
    ⟨some 210, none, .mov (.tmp 0)⟩,
    ⟨some 211, none, .nilCheck (.tmp 210)⟩,
    ⟨some 212, none, .faddr 4 (.tmp 211)⟩,
    ⟨some 213, none, .load true 1 (.tmp 212)⟩,
    ⟨some 214, none, .mov (.tmp 0)⟩,
    ⟨some 215, none, .nilCheck (.tmp 214)⟩,
    ⟨some 216, none, .faddr 6 (.tmp 215)⟩,
    ⟨some 217, none, .load true 1 (.tmp 216)⟩,
    ⟨some 218, none, .iaddr 8 (.tmp 213) (.tmp 217)⟩,
    ⟨some 219, none, .faddr 0 (.tmp 218)⟩,
    ⟨some 220, none, .load true 1 (.tmp 219)⟩,
    ⟨some 221, none, .bin .eql (.tmp 220) (.const (.int .i64 2))⟩]) (.cond (.tmp 221) (.dreg 10 [
    ⟨some 222, none, .mov (.tmp 0)⟩,
    ⟨some 223, none, .nilCheck (.tmp 222)⟩,
    ⟨some 224, none, .faddr 4 (.tmp 223)⟩,
    ⟨some 225, none, .load true 1 (.tmp 224)⟩,
    ⟨some 226, none, .mov (.tmp 0)⟩,
    ⟨some 227, none, .nilCheck (.tmp 226)⟩,
    ⟨some 228, none, .faddr 6 (.tmp 227)⟩,
    ⟨some 229, none, .load true 1 (.tmp 228)⟩,
    ⟨some 230, none, .build [.int .i64 0, .int .i64 0, .int .i64 0, .int .i64 0, .int .i64 0, .int .i64 0, .int .i64 0, .slice none 0 0] []⟩,
    ⟨some 231, none, .iaddr 8 (.tmp 225) (.tmp 229)⟩,
    ⟨none, none, .store 8 (.tmp 231) (.tmp 230)⟩]) (.skip))) (.seq (.dreg 21 [
    ⟨some 232, none, .mov (.tmp 0)⟩,
    ⟨some 233, none, .nilCheck (.tmp 232)⟩,
    ⟨some 234, none, .faddr 6 (.tmp 233)⟩,
    ⟨some 235, none, .load true 1 (.tmp 234)⟩,
    ⟨some 236, none, .mov (.tmp 2)⟩,
    ⟨some 237, none, .bin .sub (.tmp 236) (.const (.int .i64 1))⟩,
    ⟨some 238, none, .bin .eql (.tmp 235) (.tmp 237)⟩,
    ⟨some 239, none, .mov (.tmp 238)⟩,
    ⟨some 240, some (239, true), .mov (.tmp 0)⟩,
    ⟨some 241, some (239, true), .nilCheck (.tmp 240)⟩,
    ⟨some 242, some (239, true), .faddr 4 (.tmp 241)⟩,
    ⟨some 243, some (239, true), .load true 1 (.tmp 242)⟩,
    ⟨some 244, some (239, true), .mov (.tmp 0)⟩,
    ⟨some 245, some (239, true), .nilCheck (.tmp 244)⟩,
    ⟨some 246, some (239, true), .faddr 6 (.tmp 245)⟩,
    ⟨some 247, some (239, true), .load true 1 (.tmp 246)⟩,
    ⟨some 248, some (239, true), .iaddr 8 (.tmp 243) (.tmp 247)⟩,
    ⟨some 249, some (239, true), .faddr 0 (.tmp 248)⟩,
    ⟨some 250, some (239, true), .load true 1 (.tmp 249)⟩,
    ⟨some 251, some (239, true), .bin .eql (.tmp 250) (.const (.int .i64 0))⟩,
    ⟨some 252, none, .pick (.tmp 239) (.tmp 251) (.const (.bool false))⟩]) (.cond (.tmp 252) (.reg [
    ⟨some 253, none, .mov (.tmp 0)⟩,
    ⟨some 254, none, .mov (.tmp 0)⟩,
    ⟨some 255, none, .nilCheck (.tmp 254)⟩,
    ⟨some 256, none, .faddr 4 (.tmp 255)⟩,
    ⟨some 257, none, .load true 1 (.tmp 256)⟩,
    ⟨some 258, none, .mov (.tmp 2)⟩,
    ⟨some 259, none, .bin .sub (.tmp 258) (.const (.int .i64 1))⟩,
    ⟨some 260, none, .slc 8 (.tmp 257) none (some (.tmp 259))⟩,
    ⟨some 261, none, .nilCheck (.tmp 253)⟩,
    ⟨some 262, none, .faddr 4 (.tmp 261)⟩,
    ⟨none, none, .store 1 (.tmp 262) (.tmp 260)⟩]) (.skip)))))) (.skip)))))))))))))))
theorem t156 : Try.f156.body.bind (trC e156) = some c156 := by kernel_rfl
theorem r156 : Try.f156.results.toList.mapM (trR Try.prog) = some [] := by kernel_rfl
theorem fn156 {args : List Value} {M : Mem} {post : Value → Mem → Prop} (hl : args.length ≤ 263) (h : VC e156 c156 (fnQ [] post) (initS args 263) M) : Fn Try.prog 156 args M post :=
  Fn.of' (E := e156) Try.func156 t156 rfl r156 mixed hl h
noncomputable def e172 : Env := ⟨Try.prog, [3, 6], 90, [(1, 11), (2, 10), (3, 11)]⟩
noncomputable def c172 : C :=
  .seq (.seq (.reg [
    ⟨some 7, none, .mov (.tmp 0)⟩,
    ⟨some 8, none, .nilCheck (.tmp 7)⟩,
    ⟨some 9, none, .faddr 8 (.tmp 8)⟩,
    ⟨some 10, none, .load true 1 (.tmp 9)⟩,
    ⟨some 11, none, .lenS (.tmp 10)⟩,
    ⟨some 12, none, .bin .gtr (.tmp 11) (.const (.int .i64 0))⟩]) (.cond (.tmp 12) (.seq (.dreg 11 [
    ⟨some 13, none, .mov (.tmp 0)⟩,
    ⟨some 14, none, .nilCheck (.tmp 13)⟩,
    ⟨some 15, none, .faddr 4 (.tmp 14)⟩,
    ⟨some 16, none, .load true 1 (.tmp 15)⟩,
    ⟨some 17, none, .mov (.tmp 0)⟩,
    ⟨some 18, none, .nilCheck (.tmp 17)⟩,
    ⟨some 19, none, .faddr 8 (.tmp 18)⟩,
    ⟨some 20, none, .load true 1 (.tmp 19)⟩,
    ⟨some 21, none, .iaddr 1 (.tmp 20) (.const (.int .i64 0))⟩,
    ⟨some 22, none, .load true 1 (.tmp 21)⟩,
    ⟨some 23, none, .iaddr 8 (.tmp 16) (.tmp 22)⟩,
    ⟨some 2, none, .mov (.tmp 23)⟩]) (.seq (.seq (.dreg 10 [
    ⟨some 24, none, .mov (.tmp 0)⟩,
    ⟨some 25, none, .nilCheck (.tmp 24)⟩,
    ⟨some 26, none, .faddr 7 (.tmp 25)⟩,
    ⟨some 27, none, .load true 1 (.tmp 26)⟩,
    ⟨some 28, none, .mov (.tmp 2)⟩,
    ⟨some 29, none, .nilCheck (.tmp 28)⟩,
    ⟨some 30, none, .faddr 7 (.tmp 29)⟩,
    ⟨some 31, none, .load true 1 (.tmp 30)⟩,
    ⟨some 32, none, .lenS (.tmp 31)⟩,
    ⟨some 33, none, .bin .lss (.tmp 27) (.tmp 32)⟩]) (.cond (.tmp 33) (.seq (.dreg 11 [
    ⟨some 34, none, .mov (.tmp 2)⟩,
    ⟨some 35, none, .nilCheck (.tmp 34)⟩,
    ⟨some 36, none, .faddr 7 (.tmp 35)⟩,
    ⟨some 37, none, .load true 1 (.tmp 36)⟩,
    ⟨some 38, none, .mov (.tmp 0)⟩,
    ⟨some 39, none, .nilCheck (.tmp 38)⟩,
    ⟨some 40, none, .faddr 7 (.tmp 39)⟩,
    ⟨some 41, none, .load true 1 (.tmp 40)⟩,
    ⟨some 42, none, .iaddr 6 (.tmp 37) (.tmp 41)⟩,
    ⟨some 43, none, .load false 6 (.tmp 42)⟩,
    ⟨some 3, none, .alloc true [.int .i64 0, .int .i64 0, .int .i64 0, .int .i64 0, .int .i64 0, .int .i64 0]⟩,
    ⟨none, none, .store 6 (.tmp 3) (.tmp 43)⟩]) (.seq (.reg [
    ⟨some 44, none, .mov (.tmp 0)⟩,
    ⟨some 45, none, .faddr 0 (.tmp 3)⟩,
    ⟨some 46, none, .load false 3 (.tmp 45)⟩,
    ⟨some 47, none, .call 179 [.tmp 44, .tmp 46]⟩]) (.seq (.reg [
    ⟨some 48, none, .mov (.tmp 0)⟩,
    ⟨some 49, none, .faddr 3 (.tmp 3)⟩,
    ⟨some 50, none, .load false 3 (.tmp 49)⟩,
    ⟨some 51, none, .call 179 [.tmp 48, .tmp 50]⟩]) (.seq (.reg [
    ⟨some 52, none, .mov (.tmp 0)⟩,
    ⟨some 53, none, .nilCheck (.tmp 52)⟩,
    ⟨some 54, none, .faddr 7 (.tmp 53)⟩,
    ⟨some 55, none, .load true 1 (.tmp 54)⟩,
    ⟨some 56, none, .bin .add (.tmp 55) (.const (.int .i64 1))⟩,
    ⟨some 57, none, .nilCheck (.tmp 52)⟩,
    ⟨some 58, none, .faddr 7 (.tmp 57)⟩,
    ⟨none, none, .store 1 (.tmp 58) (.tmp 56)⟩]) (.ret))))) (.skip))) (.seq (.reg [
    ⟨some 59, none, .mov (.tmp 2)⟩,
    ⟨some 60, none, .nilCheck (.tmp 59)⟩,
    ⟨some 61, none, .faddr 5 (.tmp 60)⟩,
    ⟨none, none, .store 1 (.tmp 61) (.const (.int .i64 2))⟩]) (.seq (.reg [
    ⟨some 62, none, .mov (.tmp 0)⟩,
    ⟨some 63, none, .mov (.tmp 0)⟩,
    ⟨some 64, none, .nilCheck (.tmp 63)⟩,
    ⟨some 65, none, .faddr 8 (.tmp 64)⟩,
    ⟨some 66, none, .load true 1 (.tmp 65)⟩,
    ⟨some 67, none, .slc 1 (.tmp 66) (some (.const (.int .i64 1))) none⟩,
    ⟨some 68, none, .nilCheck (.tmp 62)⟩,
    ⟨some 69, none, .faddr 8 (.tmp 68)⟩,
    ⟨none, none, .store 1 (.tmp 69) (.tmp 67)⟩]) (.seq (.reg [
    ⟨some 70, none, .mov (.tmp 0)⟩,
    ⟨some 71, none, .nilCheck (.tmp 70)⟩,
    ⟨some 72, none, .faddr 7 (.tmp 71)⟩,
    ⟨none, none, .store 1 (.tmp 72) (.const (.int .i64 0))⟩]) (.ret)))))) (.skip))) (.seq (.reg [
    ⟨some 4, none, .mov (.const (.bool false))⟩]) (.seq (.seq (.reg [
    ⟨some 73, none, .mov (.tmp 0)⟩,
    ⟨some 74, none, .nilCheck (.tmp 73)⟩,
    ⟨some 75, none, .faddr 3 (.tmp 74)⟩,
    ⟨some 76, none, .load true 1 (.tmp 75)⟩,
    ⟨some 77, none, .lenS (.tmp 76)⟩,
    ⟨some 78, none, .mov (.const (.int .i64 0))⟩]) (.block 0 (.loop (.seq (.reg [
    ⟨some 79, none, .bin .lss (.tmp 78) (.tmp 77)⟩]) (.seq (.cond (.tmp 79) (.skip) (.exit 0)) (.seq (.block 1 (.seq (.reg [
    ⟨some 80, none, .iaddr 3 (.tmp 76) (.tmp 78)⟩,
    ⟨some 81, none, .load false 3 (.tmp 80)⟩,
    ⟨some 6, none, .alloc true [.int .i64 0, .int .i64 0, .int .i64 0]⟩,
    ⟨none, none, .store 3 (.tmp 6) (.tmp 81)⟩]) (.seq (.reg [
    ⟨some 82, none, .mov (.tmp 0)⟩,
    ⟨some 83, none, .load false 3 (.tmp 6)⟩,
    ⟨some 84, none, .call 179 [.tmp 82, .tmp 83]⟩]) (.cond (.tmp 84) (.reg [
    ⟨some 4, none, .mov (.const (.bool true))⟩]) (.skip))))) (.reg [
    ⟨some 85, none, .bin .add (.tmp 78) (.const (.int .i64 1))⟩,
    ⟨some 78, none, .mov (.tmp 85)⟩]))))))) (.seq (.reg [
    ⟨some 86, none, .mov (.tmp 4)⟩,
    ⟨some 87, none, .not (.tmp 86)⟩]) (.cond (.tmp 87) (.reg [
    ⟨some 88, none, .mov (.tmp 0)⟩,
    ⟨some 89, none, .call 162 [.tmp 88, .const (.int .i64 3)]⟩]) (.skip)))))
theorem t172 : Try.f172.body.bind (trC e172) = some c172 := by kernel_rfl
theorem r172 : Try.f172.results.toList.mapM (trR Try.prog) = some [] := by kernel_rfl
theorem fn172 {args : List Value} {M : Mem} {post : Value → Mem → Prop} (hl : args.length ≤ 90) (h : VC e172 c172 (fnQ [] post) (initS args 90) M) : Fn Try.prog 172 args M post :=
  Fn.of' (E := e172) Try.func172 t172 rfl r172 mixed hl h
noncomputable def e173 : Env := ⟨Try.prog, [5, 7], 88, [(11, 13)]⟩
noncomputable def c173 : C :=
  .seq (.reg [
    ⟨some 8, none, .mov (.tmp 0)⟩,
    ⟨some 9, none, .nilCheck (.tmp 8)⟩,
    ⟨some 10, none, .faddr 4 (.tmp 9)⟩,
    ⟨some 11, none, .load true 1 (.tmp 10)⟩,
    ⟨some 12, none, .lenS (.tmp 11)⟩,
    ⟨some 2, none, .mov (.tmp 12)⟩,
    ⟨some 3, none, .mov (.const (.int .i64 (-1)))⟩]) (.seq (.seq (.reg [
    ⟨some 13, none, .mov (.tmp 0)⟩,
    ⟨some 14, none, .nilCheck (.tmp 13)⟩,
    ⟨some 15, none, .faddr 4 (.tmp 14)⟩,
    ⟨some 16, none, .load true 1 (.tmp 15)⟩,
    ⟨some 17, none, .lenS (.tmp 16)⟩,
    ⟨some 18, none, .mov (.const (.int .i64 0))⟩]) (.block 0 (.loop (.seq (.reg [
    ⟨some 19, none, .bin .lss (.tmp 18) (.tmp 17)⟩]) (.seq (.cond (.tmp 19) (.skip) (.exit 0)) (.seq (.block 1 (.seq (.reg [
    ⟨some 20, none, .mov (.tmp 18)⟩,
    ⟨some 21, none, .iaddr 8 (.tmp 16) (.tmp 18)⟩,
    ⟨some 22, none, .load false 8 (.tmp 21)⟩,
    ⟨some 5, none, .alloc true [.int .i64 0, .int .i64 0, .int .i64 0, .int .i64 0, .int .i64 0, .int .i64 0, .int .i64 0, .slice none 0 0]⟩,
    ⟨some 4, none, .mov (.tmp 20)⟩,
    ⟨none, none, .store 8 (.tmp 5) (.tmp 22)⟩]) (.seq (.seq (.reg [
    ⟨some 23, none, .faddr 0 (.tmp 5)⟩,
    ⟨some 24, none, .load true 1 (.tmp 23)⟩,
    ⟨some 25, none, .bin .eql (.tmp 24) (.const (.int .i64 0))⟩]) (.cond (.tmp 25) (.reg [
    ⟨some 26, none, .mov (.tmp 2)⟩,
    ⟨some 27, none, .mov (.tmp 4)⟩,
    ⟨some 28, none, .min (.tmp 26) (.tmp 27)⟩,
    ⟨some 2, none, .mov (.tmp 28)⟩]) (.skip))) (.seq (.reg [
    ⟨some 29, none, .faddr 0 (.tmp 5)⟩,
    ⟨some 30, none, .load true 1 (.tmp 29)⟩,
    ⟨some 31, none, .bin .eql (.tmp 30) (.const (.int .i64 1))⟩]) (.cond (.tmp 31) (.reg [
    ⟨some 32, none, .mov (.tmp 4)⟩,
    ⟨some 3, none, .mov (.tmp 32)⟩]) (.skip)))))) (.reg [
    ⟨some 33, none, .bin .add (.tmp 18) (.const (.int .i64 1))⟩,
    ⟨some 18, none, .mov (.tmp 33)⟩]))))))) (.seq (.seq (.reg [
    ⟨some 34, none, .mov (.tmp 2)⟩,
    ⟨some 35, none, .mov (.tmp 3)⟩,
    ⟨some 36, none, .bin .geq (.tmp 34) (.tmp 35)⟩]) (.cond (.tmp 36) (.seq (.reg [
    ⟨some 37, none, .mov (.tmp 0)⟩,
    ⟨some 38, none, .call 162 [.tmp 37, .const (.int .i64 5)]⟩]) (.ret)) (.skip))) (.seq (.dreg 13 [
    ⟨some 39, none, .mov (.tmp 0)⟩,
    ⟨some 40, none, .nilCheck (.tmp 39)⟩,
    ⟨some 41, none, .faddr 4 (.tmp 40)⟩,
    ⟨some 42, none, .load true 1 (.tmp 41)⟩,
    ⟨some 43, none, .mov (.tmp 2)⟩,
    ⟨some 44, none, .mov (.tmp 0)⟩,
    ⟨some 45, none, .nilCheck (.tmp 44)⟩,
    ⟨some 46, none, .faddr 4 (.tmp 45)⟩,
    ⟨some 47, none, .load true 1 (.tmp 46)⟩,
    ⟨some 48, none, .mov (.tmp 3)⟩,
    ⟨some 49, none, .iaddr 8 (.tmp 47) (.tmp 48)⟩,
    ⟨some 50, none, .load false 8 (.tmp 49)⟩,
    ⟨some 51, none, .iaddr 8 (.tmp 42) (.tmp 43)⟩,
    ⟨none, none, .store 8 (.tmp 51) (.tmp 50)⟩]) (.seq (.reg [
    ⟨some 52, none, .mov (.tmp 0)⟩,
    ⟨some 53, none, .nilCheck (.tmp 52)⟩,
    ⟨some 54, none, .faddr 4 (.tmp 53)⟩,
    ⟨some 55, none, .load true 1 (.tmp 54)⟩,
    ⟨some 56, none, .mov (.tmp 3)⟩,
    ⟨some 57, none, .mov (.tmp 2)⟩,
    ⟨some 58, none, .build [.int .i64 0, .int .i64 0, .int .i64 0, .int .i64 0, .int .i64 0, .int .i64 0, .int .i64 0, .slice none 0 0] [(0, 1, .const (.int .i64 2)), (6, 1, .tmp 57)]⟩,
    ⟨some 59, none, .iaddr 8 (.tmp 55) (.tmp 56)⟩,
    ⟨none, none, .store 8 (.tmp 59) (.tmp 58)⟩]) (.seq (.reg [
    ⟨some 60, none, .mov (.tmp 0)⟩,
    ⟨some 61, none, .nilCheck (.tmp 60)⟩,
    ⟨some 62, none, .faddr 3 (.tmp 61)⟩,
    ⟨some 63, none, .load true 1 (.tmp 62)⟩,
    ⟨some 64, none, .lenS (.tmp 63)⟩,
    ⟨some 65, none, .mov (.const (.int .i64 0))⟩]) (.block 2 (.loop (.seq (.reg [
    ⟨some 66, none, .bin .lss (.tmp 65) (.tmp 64)⟩]) (.seq (.cond (.tmp 66) (.skip) (.exit 2)) (.seq (.block 3 (.seq (.reg [
    ⟨some 67, none, .mov (.tmp 65)⟩,
    ⟨some 68, none, .iaddr 3 (.tmp 63) (.tmp 65)⟩,
    ⟨some 69, none, .load false 3 (.tmp 68)⟩,
    ⟨some 7, none, .alloc true [.int .i64 0, .int .i64 0, .int .i64 0]⟩,
    ⟨some 6, none, .mov (.tmp 67)⟩,
    ⟨none, none, .store 3 (.tmp 7) (.tmp 69)⟩]) (.seq (.reg [
    ⟨some 70, none, .faddr 0 (.tmp 7)⟩,
    ⟨some 71, none, .load true 1 (.tmp 70)⟩,
    ⟨some 72, none, .bin .eql (.tmp 71) (.const (.int .i64 2))⟩,
    ⟨some 73, none, .mov (.tmp 72)⟩,
    ⟨some 74, some (73, true), .faddr 2 (.tmp 7)⟩,
    ⟨some 75, some (73, true), .load true 1 (.tmp 74)⟩,
    ⟨some 76, some (73, true), .mov (.tmp 3)⟩,
    ⟨some 77, some (73, true), .bin .eql (.tmp 75) (.tmp 76)⟩,
    ⟨some 78, none, .pick (.tmp 73) (.tmp 77) (.const (.bool false))⟩]) (.cond (.tmp 78) (.reg [
    ⟨some 79, none, .mov (.tmp 0)⟩,
    ⟨some 80, none, .nilCheck (.tmp 79)⟩,
    ⟨some 81, none, .faddr 3 (.tmp 80)⟩,
    ⟨some 82, none, .load true 1 (.tmp 81)⟩,
    ⟨some 83, none, .mov (.tmp 6)⟩,
    ⟨some 84, none, .mov (.tmp 2)⟩,
    ⟨some 85, none, .iaddr 3 (.tmp 82) (.tmp 83)⟩,
    ⟨some 86, none, .faddr 2 (.tmp 85)⟩,
    ⟨none, none, .store 1 (.tmp 86) (.tmp 84)⟩]) (.skip))))) (.reg [
    ⟨some 87, none, .bin .add (.tmp 65) (.const (.int .i64 1))⟩,
    ⟨some 65, none, .mov (.tmp 87)⟩])))))))))))
theorem t173 : Try.f173.body.bind (trC e173) = some c173 := by kernel_rfl
theorem r173 : Try.f173.results.toList.mapM (trR Try.prog) = some [] := by kernel_rfl
theorem fn173 {args : List Value} {M : Mem} {post : Value → Mem → Prop} (hl : args.length ≤ 88) (h : VC e173 c173 (fnQ [] post) (initS args 88) M) : Fn Try.prog 173 args M post :=
  Fn.of' (E := e173) Try.func173 t173 rfl r173 mixed hl h
noncomputable def e122 : Env := ⟨Try.prog, [], 14, []⟩
noncomputable def c122 : C :=
  .seq (.reg [
    ⟨some 2, none, .mov (.const (.int .i64 0))⟩]) (.seq (.reg [
    ⟨some 3, none, .mov (.const (.int .i64 0))⟩]) (.seq (.block 0 (.loop (.seq (.seq (.reg [
    ⟨some 4, none, .mov (.tmp 0)⟩,
    ⟨some 5, none, .nilCheck (.tmp 4)⟩,
    ⟨some 6, none, .faddr 5 (.tmp 5)⟩,
    ⟨some 7, none, .load true 1 (.tmp 6)⟩,
    ⟨some 8, none, .bin .neq (.tmp 7) (.const (.int .i64 0))⟩]) (.cond (.tmp 8) (.skip) (.exit 0))) (.block 1 (.seq (.reg [
    ⟨some 9, none, .mov (.tmp 0)⟩,
    ⟨some 10, none, .call 156 [.tmp 9]⟩]) (.reg [
    ⟨some 11, none, .mov (.tmp 3)⟩,
    ⟨some 12, none, .bin .add (.tmp 11) (.const (.int .i64 1))⟩,
    ⟨some 3, none, .mov (.tmp 12)⟩])))))) (.seq (.reg [
    ⟨some 13, none, .mov (.tmp 3)⟩,
    ⟨some 2, none, .mov (.tmp 13)⟩]) (.ret))))
theorem t122 : Try.f122.body.bind (trC e122) = some c122 := by kernel_rfl
theorem r122 : Try.f122.results.toList.mapM (trR Try.prog) = some [.tmp 2] := by kernel_rfl
theorem fn122 {args : List Value} {M : Mem} {post : Value → Mem → Prop} (hl : args.length ≤ 14) (h : VC e122 c122 (fnQ [.tmp 2] post) (initS args 14) M) : Fn Try.prog 122 args M post :=
  Fn.of' (E := e122) Try.func122 t122 rfl r122 mixed hl h
noncomputable def e54 : Env := ⟨Try.prog, [1], 9, []⟩
noncomputable def c54 : C :=
  .seq (.reg [
    ⟨some 1, none, .box true (.tmp 0)⟩,
    ⟨some 2, none, .mov (.const (.int .i64 0))⟩]) (.seq (.seq (.reg [
    ⟨some 3, none, .load false 13 (.tmp 1)⟩,
    ⟨some 4, none, .call 105 [.tmp 3]⟩,
    ⟨some 5, none, .not (.tmp 4)⟩]) (.cond (.tmp 5) (.seq (.reg [
    ⟨some 2, none, .mov (.const (.int .i64 0))⟩]) (.ret)) (.skip))) (.seq (.reg [
    ⟨some 6, none, .load false 13 (.tmp 1)⟩,
    ⟨some 7, none, .call 119 [.tmp 6]⟩,
    ⟨some 8, none, .call 122 [.tmp 7]⟩,
    ⟨some 2, none, .mov (.tmp 8)⟩]) (.ret)))
theorem t54 : Try.f54.body.bind (trC e54) = some c54 := by kernel_rfl
theorem r54 : Try.f54.results.toList.mapM (trR Try.prog) = some [.tmp 2] := by kernel_rfl
theorem fn54 {args : List Value} {M : Mem} {post : Value → Mem → Prop} (hl : args.length ≤ 9) (h : VC e54 c54 (fnQ [.tmp 2] post) (initS args 9) M) : Fn Try.prog 54 args M post :=
  Fn.of' (E := e54) Try.func54 t54 rfl r54 mixed hl h
end Go.Proofs.Ytcmllambknfleaa.E
set_option linter.unusedVariables false
set_option linter.unusedSimpArgs false
set_option maxHeartbeats 4000000
set_option maxRecDepth 100000
namespace Go.Proofs.Ytcmllambknfleaa.E
open Go
open Classical
/-- the phase is another -/
def HX.enter (x : HX) (p : Int) : HX := { x with phase := p, hand := if p = 6 then x.xs.length else 0, sub := 0 }
theorem enter_a {a : Nat} {x : HX} {p : Int} : FnA Try.prog 162 [ptr a, .int .i64 p] (hp a x) (fun v As => As = hp a (x.enter p)) := by
  refine fnA_of (fun h => fn162 (by simp) h) ?_
  repeat' (first
    | (refine k_L ?_; first | refine a_p rfl ?_ | (refine k_l ?_; refine g_l rfl ?_) | (refine k_st ?_; refine g_st rfl rfl rfl rfl ?_))
    | refine a_n ?_
    | (refine k_V ?_; first | refine v_seq ?_ | refine v_reg ?_ | refine v_skip ?_ | (refine v_cd rfl (fun hb => ?_) (fun hb => ?_) <;> try (exfalso; omega))))
  · subst hb; exact fa_n (fun _ _ => rfl) (Pm.ent (fin _)) rfl
  · refine fa_n (fun _ _ => rfl) (Pm.ent (fin (x.enter p) (e1 := ?_))) rfl
    unfold HX.enter; rw [if_neg hb]; rfl
end Go.Proofs.Ytcmllambknfleaa.E
set_option linter.unusedVariables false
set_option linter.unusedSimpArgs false
namespace Go.Proofs.Ytcmllambknfleaa.E
open Go
open Classical
theorem same_orig {H H' : Heap} (e : H'.cells = H.cells) : ∀ (j : Nat) d, H'.cells[j]? = some d → ∃ d0, H.cells[j]? = some d0 ∧ d.pairs = d0.pairs ∧ (Root d → Root d0) := fun j d hd => ⟨d, by rw [← e]; exact hd, rfl, id⟩
theorem not_doom {H : Heap} (hp : H.phase ≠ 3) (i : Int) : ¬ Doomed H i := fun h => hp h.1
theorem r6_0 {H : Heap} (hp : H.phase = 0 ∨ H.phase = 4) : R6 H ↔ H.hand = 0 ∧ H.sub = 0 := by unfold R6; rw [if_pos hp]
theorem r6_2 {H : Heap} (hp : H.phase = 2) : R6 H ↔ H.hand = 0 ∧ (match H.gray with | [] => H.sub = 0 | g :: _ => H.sub ≤ (H.getC g).pairs.length) := by unfold R6; rw [if_neg (by omega), if_pos hp]; exact Iff.rfl
theorem r6_5 {H : Heap} (hp : H.phase = 5) : R6 H ↔ (if H.hand < H.cells.length ∧ (H.getC H.hand).state = 1 then H.sub ≤ (H.getC H.hand).pairs.length else H.sub = 0) := by unfold R6; rw [if_neg (by omega), if_neg (by omega), if_pos hp]
theorem r6_e {H : Heap} (hp : H.phase ≠ 0 ∧ H.phase ≠ 4 ∧ H.phase ≠ 2 ∧ H.phase ≠ 5) : R6 H ↔ H.sub = 0 := by unfold R6; rw [if_neg (by omega), if_neg (by omega), if_neg (by omega)]
theorem r6_2s {H : Heap} (hp : H.phase = 2) (hh : H.hand = 0) (hs : H.sub = 0) : R6 H := by
  refine (r6_2 hp).2 ⟨hh, ?_⟩
  rw [hs]
  cases H.gray with
  | nil => rfl
  | cons a r => simp
theorem Sh.white {H K : Heap} (h : Sh H K) {w : Word} (hw : ¬ White H w) : ¬ White K w := fun h' => hw ⟨h'.1, by
  have := h'.2
  by_cases e : (H.getC w.at_).color = 0
  · exact e
  · rw [(h.cell _).2.2.2 e] at this; exact absurd this e⟩
theorem shadeW_ok {H : Heap} {w : Word} (hf : Formed H w) (hu : w.kind = 2 → (H.getC w.at_).state = 1) : Sh H (H.shadeW w) ∧ (Marking H → ¬ White (H.shadeW w) w) := by
  unfold Heap.shadeW
  split
  · rename_i hk
    have ha := hf.at hk
    have e : ((w.at_.toNat : Nat) : Int) = w.at_ := by omega
    obtain ⟨a, b⟩ := shadeH_ok (H := H) (i := w.at_.toNat) (by omega) (by rw [e]; exact hu hk)
    refine ⟨a, fun hm hw => b hm ?_⟩
    rw [e]; exact hw.2
  · rename_i hk
    exact ⟨Sh.refl H, fun _ hw => hk hw.1⟩
end Go.Proofs.Ytcmllambknfleaa.E
set_option linter.unusedVariables false
set_option linter.unusedSimpArgs false
namespace Go.Proofs.Ytcmllambknfleaa.E
open Go
open Classical
def Heap.enterH (H : Heap) (p : Int) : Heap := { H with phase := p, hand := if p = 6 then H.cells.length else 0, sub := 0 }
theorem reg_used {H : Heap} (h : R4 H) {w : Word} (hw : w ∈ H.regs) : Formed H w ∧ (w.kind = 2 → (H.getC w.at_).state = 1 ∧ ¬ Doomed H w.at_) := by
  obtain ⟨a, b⟩ := h.regs w hw
  refine ⟨a, fun hk => ?_⟩
  rcases b hk with h | h
  · exact h
  · exact h.2.elim
theorem pair_used {H : Heap} (h : R4 H) {i : Nat} {c : Cell} (hc : H.cells[i]? = some c) {k : Nat} {p : Pair} (hp : c.pairs[k]? = some p) (hm : Mended H i k) (hd : ¬ Doomed H i) {w : Word} (hw : w = p.key ∨ w = p.val) : Formed H w ∧ (w.kind = 2 → (H.getC w.at_).state = 1 ∧ ¬ Doomed H w.at_) := by
  obtain ⟨a, b, g⟩ := h.pairs i c hc k p hp
  obtain ⟨g1, g2⟩ := g hd
  have key : ∀ w, LeadsWell H w (¬ Mended H i k) → (w.kind = 2 → (H.getC w.at_).state = 1 ∧ ¬ Doomed H w.at_) := fun w hw hk => by
    rcases hw hk with h | h
    · exact h
    · exact absurd hm h.2
  rcases hw with rfl | rfl
  · exact ⟨a, key _ g1⟩
  · exact ⟨b, key _ g2⟩
noncomputable def Heap.rootsU (H : Heap) : Heap := if H.hand = H.cells.length then H.enterH 2 else { (if Root (H.getC H.hand) then H.shadeH H.hand.toNat else H) with hand := H.hand + 1 }
theorem enter2_sound {H : Heap} (h : Sound H) (hp : H.phase = 1) (hh : H.hand = H.cells.length) : Sound (H.enterH 2) := by
  have hm : Marking H := .inl hp
  refine ⟨{ h.r1 with phase := by simp [Heap.enterH], hand := by simp [Heap.enterH], sub := by simp [Heap.enterH] }, ⟨fun j d hd => ?_, h.r2.born, h.r2.to⟩, h.r3, ?_, ⟨fun _ => h.r5.mark hm, fun hn => absurd (.inr rfl) hn⟩, ?_, fun _ j d hd => ?_, R8.nil (by simp [Heap.enterH])⟩
  · rcases h.r2.each j d hd with h1 | h1 | h1
    · exact .inl h1
    · have := h1.2.2.1; omega
    · exact .inr (.inr h1)
  · exact r4_frame h.r4 rfl rfl (fun _ => rfl) (fun j => ⟨fun h => by have := h.1; simp [Heap.enterH] at this, fun h => by have := h.1; omega⟩) (same_orig rfl) (fun _ _ _ _ _ _ _ => not_mend (by omega) _ _)
  · exact r6_2s rfl rfl rfl
  · obtain ⟨a, b⟩ := h.r7 hm j d hd
    have hj : j < H.cells.length := (List.getElem?_eq_some_iff.1 hd).1
    refine ⟨fun hr hc => ?_, fun k p hk hs => ?_⟩
    · have := (a hr hc).2; omega
    · refine b k p hk ?_
      unfold scanned at hs ⊢
      split at hs
      · rename_i e; rw [if_pos e]; exact hs
      · split at hs
        · have : (H.enterH 2).sub = 0 := rfl
          omega
        · omega
theorem hand1_sound {H : Heap} (h : Sound H) (hp : H.phase = 1) (hh : H.hand < H.cells.length) (hr : Root (H.getC H.hand) → (H.getC H.hand).color ≠ 0) : Sound { H with hand := H.hand + 1 } := by
  have hm : Marking H := .inl hp
  have h0 := h.r1.hand
  refine ⟨{ h.r1 with hand := by show 0 ≤ H.hand + 1 ∧ H.hand + 1 ≤ H.cells.length; omega }, ⟨fun j d hd => h.r2.each j d hd, h.r2.born, h.r2.to⟩, h.r3, ?_, ⟨fun _ => h.r5.mark hm, fun hn => absurd hm hn⟩, ?_, fun _ j d hd => ?_, R8.nil (by show H.phase ≠ 6; omega)⟩
  · exact r4_frame h.r4 rfl rfl (fun _ => rfl) (fun j => ⟨fun h => by have := h.1; simp only at this; omega, fun h => by have := h.1; omega⟩) (same_orig rfl) (fun _ _ _ _ _ _ _ => not_mend (by omega) _ _)
  · exact (r6_e (by simp only; omega)).2 ((r6_e (H := H) (by omega)).1 h.r6)
  · obtain ⟨a, b⟩ := h.r7 hm j d hd
    refine ⟨fun hr' hc => ⟨(a hr' hc).1, ?_⟩, fun k p hk hs => b k p hk hs⟩
    have h2 := (a hr' hc).2
    have : (j : Int) ≠ H.hand := fun e => by
      rw [← e, getC_nat (H := H) hd] at hr
      exact hr hr' hc
    show H.hand + 1 ≤ j
    omega
theorem rootsU_sound {H : Heap} (h : Sound H) (hp : H.phase = 1) : Sound H.rootsU := by
  unfold Heap.rootsU
  have h0 := h.r1.hand
  by_cases hh : H.hand = H.cells.length
  · rw [if_pos hh]; exact enter2_sound h hp hh
  · rw [if_neg hh]
    by_cases hr : Root (H.getC H.hand)
    · rw [if_pos hr]
      have e : ((H.hand.toNat : Nat) : Int) = H.hand := by omega
      obtain ⟨a, b⟩ := shadeH_ok (H := H) (i := H.hand.toNat) (by omega) (by rw [e]; exact hr.1)
      have := hand1_sound (a.sound h) (by rw [a.phase, hp]) (by rw [a.hand, a.len]; omega) (fun _ => by rw [a.hand]; rw [e] at b; exact b (.inl hp))
      rw [a.hand] at this
      exact this
    · rw [if_neg hr]
      exact hand1_sound h hp (by omega) (fun h' => absurd h' hr)
noncomputable def Heap.shadeL (H : Heap) (ws : List Word) : Heap := ws.foldl Heap.shadeW H
theorem shadeL_ok : ∀ (ws : List Word) (H : Heap), (∀ w, w ∈ ws → Formed H w ∧ (w.kind = 2 → (H.getC w.at_).state = 1)) → Sh H (H.shadeL ws) ∧ (Marking H → ∀ w, w ∈ ws → ¬ White (H.shadeL ws) w)
  | [], H, _ => ⟨Sh.refl H, fun _ w hw => by cases hw⟩
  | w :: r, H, h => by
    obtain ⟨a, b⟩ := shadeW_ok (h w (by simp)).1 (h w (by simp)).2
    obtain ⟨k1, k2⟩ := shadeL_ok r (H.shadeW w) (fun v hv => ⟨formed_len a.len (h v (by simp [hv])).1, fun hk => by rw [(a.cell _).1]; exact (h v (by simp [hv])).2 hk⟩)
    refine ⟨a.trans k1, fun hm v hv => ?_⟩
    have hm' : Marking (H.shadeW w) := by unfold Marking at *; rw [a.phase]; exact hm
    rcases List.mem_cons.1 hv with rfl | hv
    · exact k1.white (b hm)
    · exact k2 hm' v hv
/-- a gray cell whose pairs were gone through -/
def Heap.black (H : Heap) (g : Int) (r : List Int) : Heap := { H with cells := H.cells.set g.toNat ((H.getC g).col 2), gray := r, sub := 0 }
theorem black_sound {H : Heap} {g : Int} {r : List Int} (h : Sound H) (hp : H.phase = 2) (hg : H.gray = g :: r) (hs : (H.getC g).pairs.length ≤ H.sub) : Sound (H.black g r) := by
  have hm : Marking H := .inr hp
  obtain ⟨g1, g2, g3⟩ := h.r5.mark hm
  obtain ⟨b0, b1, b2, b3⟩ := g2 g (by rw [hg]; simp)
  have hc := getL_some (cs := H.cells) b0 b1
  rw [← getC_L] at hc
  have hlt := (List.getElem?_eq_some_iff.1 hc).1
  have e1 : (H.black g r).cells = H.cells.set g.toNat ((H.getC g).col 2) := rfl
  have hcs := fun j => col_state hc e1 j
  have gC : ∀ j : Int, (H.black g r).getC j = if j.toNat = g.toNat then (H.getC g).col 2 else H.getC j := fun j => by
    rw [getC_L, getC_L]; exact getL_set hlt
  rw [hg] at g1 g2 g3
  have hgr := List.nodup_cons.1 g1
  have hl : (H.black g r).cells.length = H.cells.length := by simp [Heap.black]
  have w_of : ∀ w, White (H.black g r) w → White H w := fun w hw' => by
    refine ⟨hw'.1, ?_⟩
    have := hw'.2
    rw [gC] at this
    split at this
    · simp [Cell.col] at this
    · exact this
  refine ⟨{ h.r1 with cells := by rw [hl]; exact h.r1.cells, hand := by rw [hl]; exact h.r1.hand, gray := ?_, sub := by simp [Heap.black] }, col_r2 h.r2 hc b2 (by omega) e1 rfl rfl, col_r3 h.r3 hc e1 rfl rfl, ?_, ⟨fun _ => ⟨hgr.2, fun a ha => ?_, fun j d hd hdc => ?_⟩, fun hn => absurd hm hn⟩, ?_, fun _ j d hd => ?_, R8.nil (by show H.phase ≠ 6; omega)⟩
  · have := h.r1.gray
    rw [hg] at this
    rw [hl]; simp only [List.length_cons] at this
    show r.length ≤ _
    omega
  · exact r4_frame h.r4 hl rfl (fun j => (hcs j).1) (fun j => ⟨fun h => by have : H.phase = 3 := h.1; omega, fun h => by have := h.1; omega⟩) (col_orig hc e1) (fun _ _ _ _ _ _ _ => not_mend (by omega) _ _)
  · obtain ⟨a0, a1, a2, a3⟩ := g2 a (by simp only [List.mem_cons]; exact .inr ha)
    have hne : a.toNat ≠ g.toNat := fun e => hgr.1 (by rw [show g = a by omega]; exact ha)
    refine ⟨a0, by rw [hl]; exact a1, ?_⟩
    rw [gC, if_neg hne]; exact ⟨a2, a3⟩
  · obtain ⟨d0, hd0, ⟨rfl, rfl, rfl⟩ | ⟨hne, rfl⟩⟩ := orig hc hd
    · simp [Cell.col] at hdc
    · rcases List.mem_cons.1 (g3 j d hd0 hdc) with h | h
      · omega
      · exact h
  · exact r6_2s hp ((r6_2 hp).1 h.r6).1 rfl
  · obtain ⟨d0, hd0, x⟩ := orig hc hd
    obtain ⟨a, b⟩ := h.r7 hm j d0 hd0
    refine ⟨fun hr hcol => ?_, fun k p hk hsc => ?_⟩
    · rcases x with ⟨rfl, rfl, rfl⟩ | ⟨_, rfl⟩
      · simp [Cell.col] at hcol
      · exact a hr hcol
    · have hpr : d.pairs = d0.pairs := by rcases x with ⟨_, rfl, rfl⟩ | ⟨_, rfl⟩ <;> rfl
      rw [hpr] at hk
      have hsc2 : (k : Int) < scanned H j d0 := by
        unfold scanned at hsc ⊢
        rcases x with ⟨rfl, rfl, rfl⟩ | ⟨_, rfl⟩
        · have hkl := (List.getElem?_eq_some_iff.1 hk).1
          rw [if_neg (by omega), if_pos ⟨hp, by rw [hg]; simp; omega⟩]
          omega
        · split at hsc
          · rename_i e; rw [if_pos e]; exact hsc
          · split at hsc
            · have : (H.black g r).sub = 0 := rfl
              omega
            · omega
      obtain ⟨b1, b2⟩ := b k p hk hsc2
      exact ⟨fun h => b1 (w_of _ h), fun h => b2 (w_of _ h)⟩
/-- one more pair gone through -/
theorem sub1_sound {H : Heap} {g : Int} {r : List Int} {p : Pair} (h : Sound H) (hp : H.phase = 2) (hg : H.gray = g :: r) (hs : (H.getC g).pairs[H.sub.toNat]? = some p) (hk : ¬ White H p.key) (hv : ¬ White H p.val) : Sound { H with sub := H.sub + 1 } := by
  have hm : Marking H := .inr hp
  obtain ⟨g1, g2, g3⟩ := h.r5.mark hm
  obtain ⟨b0, b1, b2, b3⟩ := g2 g (by rw [hg]; simp)
  have hc := getL_some (cs := H.cells) b0 b1
  rw [← getC_L] at hc
  have hlt := (List.getElem?_eq_some_iff.1 hs).1
  have h0 := h.r1.sub
  have hpl := (h.r2.used hc b2).2.2.2.2.2.2.2
  refine ⟨{ h.r1 with sub := by show 0 ≤ H.sub + 1 ∧ H.sub + 1 ≤ 200; omega }, ⟨fun j d hd => h.r2.each j d hd, h.r2.born, h.r2.to⟩, h.r3, ?_, ⟨fun _ => h.r5.mark hm, fun hn => absurd hm hn⟩, ?_, fun _ j d hd => ?_, R8.nil (by show H.phase ≠ 6; omega)⟩
  · exact r4_frame h.r4 rfl rfl (fun _ => rfl) (fun j => ⟨fun h => by have : H.phase = 3 := h.1; omega, fun h => by have := h.1; omega⟩) (same_orig rfl) (fun _ _ _ _ _ _ _ => not_mend (by omega) _ _)
  · have h6 := (r6_2 hp).1 h.r6
    refine (r6_2 (H := { H with sub := H.sub + 1 }) hp).2 ⟨h6.1, ?_⟩
    show match H.gray with | [] => H.sub + 1 = 0 | g :: _ => H.sub + 1 ≤ ((H.getC g).pairs.length : Int)
    rw [hg]
    show H.sub + 1 ≤ ((H.getC g).pairs.length : Int)
    omega
  · obtain ⟨a, b⟩ := h.r7 hm j d hd
    refine ⟨fun hr' hc => a hr' hc, fun k q hq hsc => ?_⟩
    by_cases hlt2 : (k : Int) < scanned H j d
    · exact b k q hq hlt2
    · unfold scanned at hsc hlt2
      by_cases e : d.color = 2
      · rw [if_pos e] at hsc hlt2; exact absurd hsc hlt2
      · rw [if_neg e] at hsc hlt2
        by_cases e2 : H.phase = 2 ∧ H.gray.head? = some (j : Int)
        · rw [if_pos e2] at hsc hlt2
          have e3 : g = j := by have := e2.2; rw [hg] at this; simpa using this
          rw [e3, getC_nat (H := H) hd] at hs
          simp only at hsc
          have : H.sub.toNat = k := by omega
          rw [this, hq] at hs
          cases hs
          exact ⟨hk, hv⟩
        · rw [if_neg e2] at hsc; omega
theorem enter3_sound {H : Heap} (h : Sound H) (hp : H.phase = 2) (hg : H.gray = []) (hw : ∀ w, w ∈ H.regs → ¬ White H w) : Sound (H.enterH 3) := by
  have hm : Marking H := .inr hp
  obtain ⟨_, _, g3⟩ := h.r5.mark hm
  rw [hg] at g3
  have nd : ∀ i, ¬ Doomed H i := fun i => not_doom (by omega) i
  refine ⟨{ h.r1 with phase := by simp [Heap.enterH], hand := by simp [Heap.enterH], sub := by simp [Heap.enterH] }, ⟨fun j d hd => ?_, h.r2.born, h.r2.to⟩, h.r3, ⟨fun w hwr => ?_, fun i c hc hd hr => ?_, fun i c hc k p hk => ?_⟩, ⟨fun hn => ?_, fun _ => ⟨hg, fun i c hc => ?_⟩⟩, ?_, R7.nil ?_, R8.nil (by simp [Heap.enterH])⟩
  · rcases h.r2.each j d hd with h1 | h1 | h1
    · exact .inl h1
    · have := h1.2.2.1; omega
    · exact .inr (.inr h1)
  · obtain ⟨a, b⟩ := reg_used h.r4 hwr
    exact ⟨a, fun hk => .inl ⟨(b hk).1, fun hd => hw w hwr ⟨hk, hd.2.2.1⟩⟩⟩
  · have hcol : c.color = 0 := by have := hd.2.2.1; rw [← getC_nat hc]; exact this
    have := (h.r7 hm i c hc).1 hr hcol
    exact this.1 hp
  · obtain ⟨a, b, _⟩ := h.r4.pairs i c hc k p hk
    refine ⟨a, b, fun hn => ?_⟩
    have hu : c.state = 1 := by
      rcases Decidable.em (c.state = 1) with e | e
      · exact e
      · have := (h.r2.bare hc e).2.2.2.2.2; rw [this] at hk; simp at hk
    have hcol : c.color = 2 := by
      have h1 : c.color ≠ 0 := fun e => hn ⟨rfl, by show (H.getC i).state = 1; rw [getC_nat (H := H) hc]; exact hu, by show (H.getC i).color = 0; rw [getC_nat (H := H) hc]; exact e, by show (0 : Int) ≤ i; omega⟩
      have h2 : c.color ≠ 1 := fun e => by have := g3 i c hc e; cases this
      have h3 := (h.r2.used hc hu).2.2.2.2.2.1
      omega
    have hkl := (List.getElem?_eq_some_iff.1 hk).1
    obtain ⟨w1, w2⟩ := (h.r7 hm i c hc).2 k p hk (by unfold scanned; rw [if_pos hcol]; omega)
    have m := fun w hw => (pair_used h.r4 hc hk (not_mend (by omega) _ _) (nd i) (w := w) hw).2
    exact ⟨fun hk => .inl ⟨(m p.key (.inl rfl) hk).1, fun hd => w1 ⟨hk, hd.2.2.1⟩⟩, fun hk => .inl ⟨(m p.val (.inr rfl) hk).1, fun hd => w2 ⟨hk, hd.2.2.1⟩⟩⟩
  · rcases hn with e | e <;> simp [Heap.enterH] at e
  · exact ⟨fun e => absurd (g3 i c hc e) (by simp), fun _ => ⟨rfl, by show (0 : Int) ≤ i; omega⟩⟩
  · exact (r6_e (by simp [Heap.enterH])).2 rfl
  · rintro (e | e) <;> simp [Heap.enterH] at e
noncomputable def Heap.markU (H : Heap) : Heap := match H.gray with
  | g :: r => match (H.getC g).pairs[H.sub.toNat]? with
    | some p => { (H.shadeW p.key).shadeW p.val with sub := H.sub + 1 }
    | none => H.black g r
  | [] => if ∃ w, w ∈ H.regs ∧ White H w then H.shadeL H.regs else H.enterH 3
theorem markP {H : Heap} {g : Int} {r : List Int} {p : Pair} (h : Sound H) (hp : H.phase = 2) (hg : H.gray = g :: r) (hs : (H.getC g).pairs[H.sub.toNat]? = some p) :
    (Formed H p.key ∧ (p.key.kind = 2 → (H.getC p.key.at_).state = 1)) ∧ Formed H p.val ∧ (p.val.kind = 2 → (H.getC p.val.at_).state = 1) := by
  obtain ⟨g1, g2, g3⟩ := h.r5.mark (.inr hp)
  obtain ⟨b0, b1, b2, b3⟩ := g2 g (by rw [hg]; simp)
  have hc := getL_some (cs := H.cells) b0 b1
  rw [← getC_L] at hc
  have m := fun w hw => pair_used h.r4 hc hs (not_mend (by omega) _ _) (not_doom (by omega) _) (w := w) hw
  exact ⟨⟨(m _ (.inl rfl)).1, fun hk => ((m _ (.inl rfl)).2 hk).1⟩, (m _ (.inr rfl)).1, fun hk => ((m _ (.inr rfl)).2 hk).1⟩
theorem markP2 {H : Heap} {g : Int} {r : List Int} {p : Pair} (h : Sound H) (hp : H.phase = 2) (hg : H.gray = g :: r) (hs : (H.getC g).pairs[H.sub.toNat]? = some p) :
    Sh H ((H.shadeW p.key).shadeW p.val) ∧ ¬ White ((H.shadeW p.key).shadeW p.val) p.key ∧ ¬ White ((H.shadeW p.key).shadeW p.val) p.val := by
  have hm : Marking H := .inr hp
  obtain ⟨⟨k1, k2⟩, v1, v2⟩ := markP h hp hg hs
  obtain ⟨a, b⟩ := shadeW_ok k1 k2
  obtain ⟨c, d⟩ := shadeW_ok (H := H.shadeW p.key) (w := p.val) (formed_len a.len v1) (fun hk => by rw [(a.cell _).1]; exact v2 hk)
  exact ⟨a.trans c, c.white (b hm), d (by unfold Marking at *; rw [a.phase]; exact hm)⟩
theorem markU_sound {H : Heap} (h : Sound H) (hp : H.phase = 2) : Sound H.markU := by
  have hm : Marking H := .inr hp
  unfold Heap.markU
  cases hg : H.gray with
  | nil =>
    simp only
    have hr := fun w hw => reg_used h.r4 (w := w) hw
    by_cases hx : ∃ w, w ∈ H.regs ∧ White H w
    · rw [if_pos hx]
      exact (shadeL_ok H.regs H (fun w hw => ⟨(hr w hw).1, fun hk => ((hr w hw).2 hk).1⟩)).1.sound h
    · rw [if_neg hx]
      exact enter3_sound h hp hg (fun w hw h' => hx ⟨w, hw, h'⟩)
  | cons g r =>
    simp only
    cases hs : (H.getC g).pairs[H.sub.toNat]? with
    | none =>
      simp only
      have := List.getElem?_eq_none_iff.1 hs
      have h0 := h.r1.sub
      exact black_sound h hp hg (by omega)
    | some p =>
      simp only
      obtain ⟨a, b, c⟩ := markP2 h hp hg hs
      obtain ⟨r', hr'⟩ := a.gray
      rw [hg] at hr'
      have := sub1_sound (g := g) (r := r ++ r') (p := p) (a.sound h) (by rw [a.phase, hp]) (by rw [← hr']; rfl) (by rw [(a.cell g).2.1, a.sub]; exact hs) b c
      rw [a.sub] at this
      exact this
end Go.Proofs.Ytcmllambknfleaa.E
set_option linter.unusedVariables false
set_option linter.unusedSimpArgs false
namespace Go.Proofs.Ytcmllambknfleaa.E
open Go
open Classical
theorem getL_out {cs : List Cell} {j : Int} (h : cs.length ≤ j.toNat) : getL cs j = Cell.zero := by
  unfold getL
  rw [List.getD_eq_getElem?_getD, List.getElem?_eq_none h]; rfl
theorem doomed_lt {H : Heap} (h1 : R1 H) {j : Int} (h : Doomed H j) : 0 ≤ j ∧ j < H.cells.length := by
  have h0 := h1.hand
  have h2 := h.2.2.2
  refine ⟨by omega, ?_⟩
  by_cases e : j < H.cells.length
  · exact e
  · have h3 := h.2.1
    rw [getC_L, getL_out (by omega)] at h3
    simp [Cell.zero] at h3
theorem sub0 {H : Heap} (h : R6 H) (hp : H.phase ≠ 0 ∧ H.phase ≠ 4 ∧ H.phase ≠ 2 ∧ H.phase ≠ 5) : H.sub = 0 := by
  exact (r6_e hp).1 h
theorem not_mark {H : Heap} (hp : H.phase ≠ 1 ∧ H.phase ≠ 2) : ¬ Marking H := fun h => by rcases h with h | h; exact hp.1 h; exact hp.2 h
noncomputable def Heap.sweepU (H : Heap) : Heap :=
  if H.hand = H.cells.length then H.enterH 4
  else if (H.getC H.hand).state = 1 ∧ (H.getC H.hand).color = 0 then { H with used := H.used - (1 + (H.getC H.hand).pairs.length), cells := H.cells.set H.hand.toNat Cell.zero, hand := H.hand + 1 }
  else { H with cells := H.cells.set H.hand.toNat ((H.getC H.hand).col 0), hand := H.hand + 1 }
theorem enter4_sound {H : Heap} (h : Sound H) (hp : H.phase = 3) (hh : H.hand = H.cells.length) : Sound (H.enterH 4) := by
  have nd : ∀ j, ¬ Doomed H j := fun j hd => by have := doomed_lt h.r1 hd; have := hd.2.2.2; omega
  obtain ⟨g1, g2⟩ := h.r5.else_ (not_mark (by omega))
  refine ⟨{ h.r1 with phase := by simp [Heap.enterH], hand := by simp [Heap.enterH], sub := by simp [Heap.enterH] }, ⟨fun j d hd => ?_, h.r2.born, h.r2.to⟩, h.r3, ?_, ⟨fun hn => ?_, fun _ => ⟨g1, fun i c hc => ⟨(g2 i c hc).1, fun e => ?_⟩⟩⟩, ?_, R7.nil ?_, R8.nil (by simp [Heap.enterH])⟩
  · rcases h.r2.each j d hd with h1 | h1 | h1
    · exact .inl h1
    · have := h1.2.2.1; omega
    · exact .inr (.inr h1)
  · exact r4_frame h.r4 rfl rfl (fun _ => rfl) (fun j => ⟨fun h => by have := h.1; simp [Heap.enterH] at this, fun h => absurd h (nd j)⟩) (same_orig rfl) (fun _ _ _ _ _ _ h => absurd rfl h.1)
  · rcases hn with e | e <;> simp [Heap.enterH] at e
  · have := (g2 i c hc).2 e
    have hi : i < H.cells.length := (List.getElem?_eq_some_iff.1 hc).1
    omega
  · exact (r6_0 (by simp [Heap.enterH])).2 ⟨rfl, rfl⟩
  · rintro (e | e) <;> simp [Heap.enterH] at e
theorem hand3_doom {H K : Heap} (hp : H.phase = 3) (e1 : K.phase = H.phase) (e2 : K.hand = H.hand + 1) {j : Int} (hj : j ≠ H.hand) (e3 : K.getC j = H.getC j) : Doomed K j ↔ Doomed H j := by
  unfold Doomed
  rw [e1, e2, e3]
  constructor
  · rintro ⟨a, b, c, d⟩; exact ⟨a, b, c, by omega⟩
  · rintro ⟨a, b, c, d⟩; exact ⟨a, b, c, by omega⟩
/-- a cell that is given back -/
theorem free_sound {H : Heap} (h : Sound H) (hp : H.phase = 3) (hh : H.hand < H.cells.length) (hc0 : (H.getC H.hand).state = 1 ∧ (H.getC H.hand).color = 0) :
    Sound { H with used := H.used - (1 + (H.getC H.hand).pairs.length), cells := H.cells.set H.hand.toNat Cell.zero, hand := H.hand + 1 } := by
  have h0 := h.r1.hand
  have hc := getL_some (cs := H.cells) h0.1 hh
  rw [← getC_L] at hc
  have hlt := (List.getElem?_eq_some_iff.1 hc).1
  generalize hK : ({ H with used := H.used - (1 + (H.getC H.hand).pairs.length), cells := H.cells.set H.hand.toNat Cell.zero, hand := H.hand + 1 } : Heap) = K
  have e1 : K.cells = H.cells.set H.hand.toNat Cell.zero := by rw [← hK]
  have e2 : K.phase = H.phase := by rw [← hK]
  have e3 : K.hand = H.hand + 1 := by rw [← hK]
  have e4 : K.regs = H.regs := by rw [← hK]
  have e5 : K.gray = H.gray := by rw [← hK]
  have e6 : K.sub = H.sub := by rw [← hK]
  have e7 : K.born = H.born := by rw [← hK]
  have e8 : K.used = H.used - (1 + (H.getC H.hand).pairs.length) := by rw [← hK]
  have e9 : K.room = H.room := by rw [← hK]
  have gC : ∀ j : Int, K.getC j = if j.toNat = H.hand.toNat then Cell.zero else H.getC j := fun j => by
    rw [getC_L, getC_L, e1]; exact getL_set hlt
  have hl : K.cells.length = H.cells.length := by rw [e1]; simp
  have hdm : Doomed H H.hand := ⟨hp, hc0.1, hc0.2, by omega⟩
  have fm : ∀ w, Formed H w → Formed K w := fun w hw => formed_len hl hw
  have ld : ∀ w, Formed H w → (w.kind = 2 → (H.getC w.at_).state = 1 ∧ ¬ Doomed H w.at_) → ∀ m, LeadsWell K w m := fun w hf hw m hk => by
    obtain ⟨a, b⟩ := hw hk
    have hne : w.at_ ≠ H.hand := fun e => b (by rw [e]; exact hdm)
    have hat := hf.at hk
    have eC : K.getC w.at_ = H.getC w.at_ := by rw [gC, if_neg (by omega)]
    exact .inl ⟨by rw [eC]; exact a, fun hd => b ((hand3_doom hp e2 e3 hne eC).1 hd)⟩
  have cell : ∀ (j : Nat) d, K.cells[j]? = some d → (j = H.hand.toNat ∧ d = Cell.zero) ∨ ((j : Int) ≠ H.hand ∧ H.cells[j]? = some d ∧ K.getC j = H.getC j) := fun j d hd => by
    rw [e1] at hd
    rcases set_gt hd with ⟨a, b, _⟩ | ⟨a, b⟩
    · exact .inl ⟨a, b⟩
    · refine .inr ⟨by omega, b, ?_⟩
      rw [gC, if_neg (by omega)]
  obtain ⟨g1, g2⟩ := h.r5.else_ (not_mark (by omega))
  refine ⟨?_, ⟨fun j d hd => ?_, fun i j c d hc' hd hij h1 h2 => ?_, fun i j c d hc' hd hij h1 h2 => ?_⟩, ?_, ⟨fun w hw => ?_, fun i c hc' hd hr => ?_, fun i c hc' k p hk => ?_⟩, ⟨fun hn => ?_, fun _ => ⟨by rw [e5]; exact g1, fun i c hc' => ?_⟩⟩, ?_, R7.nil (not_mark (by omega)), R8.nil (by omega)⟩
  · have := h.r1
    subst hK
    exact { h.r1 with cells := by rw [hl]; exact h.r1.cells, gray := by rw [hl]; exact h.r1.gray, hand := by rw [hl]; show 0 ≤ H.hand + 1 ∧ H.hand + 1 ≤ (H.cells.length : Int); omega }
  · rcases cell j d hd with ⟨_, rfl⟩ | ⟨_, hd, _⟩
    · exact .inl ⟨rfl, ⟨rfl, rfl, rfl, rfl, rfl, rfl⟩, rfl⟩
    · rcases h.r2.each j d hd with h1 | h1 | h1
      · exact .inl h1
      · have := h1.2.2.1; omega
      · exact .inr (.inr (by unfold UsedOk at *; rw [e7]; exact h1))
  · rcases cell i c hc' with ⟨_, rfl⟩ | ⟨_, a, _⟩
    · simp [Cell.zero] at h1
    rcases cell j d hd with ⟨_, rfl⟩ | ⟨_, b, _⟩
    · simp [Cell.zero] at h2
    exact h.r2.born i j c d a b hij h1 h2
  · rcases cell i c hc' with ⟨_, rfl⟩ | ⟨_, a, _⟩
    · simp [Cell.zero] at h1
    rcases cell j d hd with ⟨_, rfl⟩ | ⟨_, b, _⟩
    · simp [Cell.zero] at h2
    exact h.r2.to i j c d a b hij h1 h2
  · have h3 := h.r3
    unfold R3 at h3 ⊢
    rw [e1, e8, e9, units_set hc]
    have u1 : (H.getC H.hand).units = 1 + (H.getC H.hand).pairs.length := by unfold Cell.units; rw [if_pos hc0.1]
    have u2 : Cell.zero.units = 0 := rfl
    omega
  · rw [e4] at hw
    obtain ⟨a, b⟩ := reg_used h.r4 hw
    exact ⟨fm w a, ld w a b _⟩
  · rcases cell i c hc' with ⟨rfl, rfl⟩ | ⟨a, b, e⟩
    · have := hr.1; simp [Cell.zero] at this
    · exact h.r4.roots i c b ((hand3_doom hp e2 e3 a e).1 hd) hr
  · rcases cell i c hc' with ⟨rfl, rfl⟩ | ⟨a, b, e⟩
    · simp [Cell.zero] at hk
    · obtain ⟨f1, f2, _⟩ := h.r4.pairs i c b k p hk
      refine ⟨fm _ f1, fm _ f2, fun hn => ?_⟩
      have hn' : ¬ Doomed H i := fun hd => hn ((hand3_doom hp e2 e3 a e).2 hd)
      have m := fun w hw => (pair_used h.r4 b hk (not_mend (by omega) _ _) hn' (w := w) hw).2
      exact ⟨ld _ f1 (m _ (.inl rfl)) _, ld _ f2 (m _ (.inr rfl)) _⟩
  · exact absurd hn (not_mark (by omega))
  · rcases cell i c hc' with ⟨_, rfl⟩ | ⟨a, b, _⟩
    · exact ⟨by simp [Cell.zero], by simp [Cell.zero]⟩
    · refine ⟨(g2 i c b).1, fun e => ?_⟩
      have := (g2 i c b).2 e
      omega
  · exact (r6_e (by omega)).2 (by rw [e6]; exact sub0 h.r6 (by omega))
/-- a cell that stays, made white -/
theorem white_sound {H : Heap} (h : Sound H) (hp : H.phase = 3) (hh : H.hand < H.cells.length) (hc0 : ¬ ((H.getC H.hand).state = 1 ∧ (H.getC H.hand).color = 0)) :
    Sound { H with cells := H.cells.set H.hand.toNat ((H.getC H.hand).col 0), hand := H.hand + 1 } := by
  have h0 := h.r1.hand
  have hc := getL_some (cs := H.cells) h0.1 hh
  rw [← getC_L] at hc
  have hlt := (List.getElem?_eq_some_iff.1 hc).1
  have hs0 := sub0 h.r6 (by omega)
  generalize hK : ({ H with cells := H.cells.set H.hand.toNat ((H.getC H.hand).col 0), hand := H.hand + 1 } : Heap) = K
  have e1 : K.cells = H.cells.set H.hand.toNat ((H.getC H.hand).col 0) := by rw [← hK]
  have e2 : K.phase = H.phase := by rw [← hK]
  have e3 : K.hand = H.hand + 1 := by rw [← hK]
  have e4 : K.regs = H.regs := by rw [← hK]
  have e5 : K.gray = H.gray := by rw [← hK]
  have e6 : K.sub = H.sub := by rw [← hK]
  have e7 : K.born = H.born := by rw [← hK]
  have e8 : K.used = H.used := by rw [← hK]
  have e9 : K.room = H.room := by rw [← hK]
  have hl : K.cells.length = H.cells.length := by rw [e1]; simp
  have hcs := fun j => col_state hc e1 j
  have gC : ∀ j : Int, K.getC j = if j.toNat = H.hand.toNat then (H.getC H.hand).col 0 else H.getC j := fun j => by
    rw [getC_L, getC_L, e1]; exact getL_set hlt
  have hdd : ∀ j, Doomed K j ↔ Doomed H j := fun j => by
    by_cases e : j = H.hand
    · subst e
      refine ⟨fun hd => ?_, fun hd => ?_⟩
      · have := hd.2.2.2; omega
      · exact absurd ⟨hd.2.1, hd.2.2.1⟩ hc0
    · by_cases en : j < 0
      · exact ⟨fun hd => by have := hd.2.2.2; omega, fun hd => by have := hd.2.2.2; omega⟩
      · exact hand3_doom hp e2 e3 e (by rw [gC, if_neg (by omega)])
  obtain ⟨g1, g2⟩ := h.r5.else_ (not_mark (by omega))
  have hsame : (H.getC H.hand).state ≠ 1 → K.cells = H.cells := fun hne => by
    have hb := (h.r2.bare hc hne).2.2.2.2.1
    have : (H.getC H.hand).col 0 = H.getC H.hand := by unfold Cell.col; rw [← hb]
    rw [e1, this]
    apply List.ext_getElem?
    intro j
    rw [List.getElem?_set]
    split
    · rename_i e; subst e; exact hc.symm
    · rfl
  refine ⟨?_, ?_, ?_, r4_frame h.r4 hl e4 (fun j => (hcs j).1) hdd (col_orig hc e1) (fun _ _ _ _ _ _ _ => not_mend (by omega) _ _), ⟨fun hn => absurd hn (not_mark (by omega)), fun _ => ⟨by rw [e5]; exact g1, fun i c hc' => ?_⟩⟩, ?_, R7.nil (not_mark (by omega)), R8.nil (by omega)⟩
  · have := h.r1
    subst hK
    exact { h.r1 with cells := by rw [hl]; exact h.r1.cells, gray := by rw [hl]; exact h.r1.gray, hand := by rw [hl]; show 0 ≤ H.hand + 1 ∧ H.hand + 1 ≤ (H.cells.length : Int); omega }
  · by_cases hu : (H.getC H.hand).state = 1
    · exact col_r2 h.r2 hc hu (by omega) e1 e7 e2
    · have hcc := hsame hu
      refine ⟨fun j d hd => ?_, by rw [hcc]; exact h.r2.born, by rw [hcc]; exact h.r2.to⟩
      rw [hcc] at hd
      rcases h.r2.each j d hd with h1 | h1 | h1
      · exact .inl h1
      · have := h1.2.2.1; omega
      · exact .inr (.inr (by unfold UsedOk at *; rw [e7]; exact h1))
  · exact col_r3 h.r3 hc e1 e8 e9
  · rw [e1] at hc'
    obtain ⟨d0, hd0, ⟨rfl, rfl, rfl⟩ | ⟨hne, rfl⟩⟩ := orig hc hc'
    · exact ⟨by simp [Cell.col], by simp [Cell.col]⟩
    · refine ⟨(g2 i c hd0).1, fun e => ?_⟩
      have := (g2 i c hd0).2 e
      omega
  · exact (r6_e (by omega)).2 (by rw [e6]; exact hs0)
theorem sweepU_sound {H : Heap} (h : Sound H) (hp : H.phase = 3) : Sound H.sweepU := by
  unfold Heap.sweepU
  have h0 := h.r1.hand
  by_cases hh : H.hand = H.cells.length
  · rw [if_pos hh]; exact enter4_sound h hp hh
  · rw [if_neg hh]
    by_cases hc : (H.getC H.hand).state = 1 ∧ (H.getC H.hand).color = 0
    · rw [if_pos hc]; exact free_sound h hp (by omega) hc
    · rw [if_neg hc]; exact white_sound h hp (by omega) hc
noncomputable def frG (H : Heap) : Nat → Int
  | 0 => H.cells.length
  | k + 1 => if (H.getC k).state = 0 then min (frG H k) k else frG H k
theorem frG_ok (H : Heap) : ∀ k : Nat, 0 ≤ frG H k ∧ frG H k ≤ H.cells.length ∧ (frG H k < H.cells.length → frG H k < k ∧ (H.getC (frG H k)).state = 0) ∧ ∀ j : Nat, j < k → (j : Int) < frG H k → (H.getC j).state ≠ 0
  | 0 => by
    simp only [frG]
    exact ⟨by omega, by omega, fun h => by omega, fun j h => by omega⟩
  | k + 1 => by
    obtain ⟨a, b, c, d⟩ := frG_ok H k
    simp only [frG]
    split
    · rename_i hs
      by_cases e : frG H k ≤ k
      · rw [Int.min_eq_left e]
        refine ⟨a, b, fun h => ⟨by have := (c h).1; omega, (c h).2⟩, fun j hj hl => d j (by omega) hl⟩
      · rw [Int.min_eq_right (by omega)]
        refine ⟨by omega, by omega, fun h => ⟨by omega, hs⟩, fun j hj hl => d j (by omega) (by omega)⟩
    · rename_i hs
      refine ⟨a, b, fun h => ⟨by have := (c h).1; omega, (c h).2⟩, fun j hj hl => ?_⟩
      by_cases e : j = k
      · subst e; exact hs
      · exact d j (by omega) hl
theorem luG_ok (H : Heap) : ∀ k : Nat, -1 ≤ luG H k ∧ luG H k < k ∧ (0 ≤ luG H k → (H.getC (luG H k)).state = 1) ∧ ∀ j : Nat, j < k → luG H k < j → (H.getC j).state ≠ 1
  | 0 => by
    simp only [luG]
    exact ⟨by omega, by omega, fun h => by omega, fun j h => by omega⟩
  | k + 1 => by
    obtain ⟨a, b, c, d⟩ := luG_ok H k
    simp only [luG]
    split
    · rename_i hs
      exact ⟨by omega, by omega, fun _ => hs, fun j hj hl => by omega⟩
    · rename_i hs
      refine ⟨a, by omega, c, fun j hj hl => ?_⟩
      by_cases e : j = k
      · subst e; exact hs
      · exact d j (by omega) hl
def Cell.gone (f : Int) : Cell := ⟨2, 0, 0, 0, 0, 0, f, []⟩
def Word.redir (w : Word) (u f : Int) : Word := if w.kind = 2 ∧ w.at_ = u then { w with at_ := f } else w
def Heap.moved (H : Heap) (f u : Int) : Heap := { H with cells := (H.cells.set f.toNat (H.getC u)).set u.toNat (Cell.gone f), regs := H.regs.map fun w => w.redir u f }
noncomputable def Heap.moveU (H : Heap) : Heap :=
  if luG H H.cells.length ≤ frG H H.cells.length then H.enterH 5 else H.moved (frG H H.cells.length) (luG H H.cells.length)
theorem enter5_sound {H : Heap} (h : Sound H) (hp : H.phase = 4) : Sound (H.enterH 5) := by
  obtain ⟨g1, g2⟩ := h.r5.else_ (not_mark (by omega))
  refine ⟨{ h.r1 with phase := by simp [Heap.enterH], hand := by simp [Heap.enterH], sub := by simp [Heap.enterH] }, ⟨fun j d hd => ?_, h.r2.born, h.r2.to⟩, h.r3, ?_, ⟨fun hn => ?_, fun _ => ⟨g1, fun i c hc => ⟨(g2 i c hc).1, fun e => by have := (g2 i c hc).2 e; omega⟩⟩⟩, ?_, R7.nil ?_, R8.nil (by simp [Heap.enterH])⟩
  · rcases h.r2.each j d hd with h1 | h1 | h1
    · exact .inl h1
    · obtain ⟨a1, a2, a3, a4, a5, a6⟩ := h1
      exact .inr (.inl ⟨a1, a2, by simp [Heap.enterH], a4, a5, fun e => by simp [Heap.enterH] at e⟩)
    · exact .inr (.inr h1)
  · exact r4_frame h.r4 rfl rfl (fun _ => rfl) (fun j => ⟨fun h => by have := h.1; simp [Heap.enterH] at this, fun h => by have := h.1; omega⟩) (same_orig rfl) (fun j k _ _ _ _ hm => by
      have h1 : (j : Int) < 0 ∨ (j : Int) = 0 ∧ (k : Int) < 0 := hm.2 rfl
      omega)
  · rcases hn with e | e <;> simp [Heap.enterH] at e
  · refine (r6_5 rfl).2 ?_
    split
    · show (0 : Int) ≤ _; omega
    · rfl
  · rintro (e | e) <;> simp [Heap.enterH] at e
theorem moved_sound {H : Heap} {f u : Int} (h : Sound H) (hp : H.phase = 4) (hf : 0 ≤ f ∧ f < u) (hu : u < H.cells.length) (sf : (H.getC f).state = 0) (su : (H.getC u).state = 1) (lo : ∀ j : Nat, (j : Int) < f → (H.getC j).state ≠ 0) : Sound (H.moved f u) := by
  have hcu := getL_some (cs := H.cells) (j := u) (by omega) hu
  have hcf := getL_some (cs := H.cells) (j := f) (by omega) (by omega)
  rw [← getC_L] at hcu hcf
  have hltu := (List.getElem?_eq_some_iff.1 hcu).1
  have hltf := (List.getElem?_eq_some_iff.1 hcf).1
  have hne : u.toNat ≠ f.toNat := by omega
  generalize hK : H.moved f u = K
  have e1 : K.cells = (H.cells.set f.toNat (H.getC u)).set u.toNat (Cell.gone f) := by rw [← hK]; rfl
  have e2 : K.phase = H.phase := by rw [← hK]; rfl
  have e3 : K.hand = H.hand := by rw [← hK]; rfl
  have e4 : K.regs = H.regs.map fun w => w.redir u f := by rw [← hK]; rfl
  have e5 : K.gray = H.gray := by rw [← hK]; rfl
  have e6 : K.sub = H.sub := by rw [← hK]; rfl
  have e7 : K.born = H.born := by rw [← hK]; rfl
  have e8 : K.used = H.used := by rw [← hK]; rfl
  have e9 : K.room = H.room := by rw [← hK]; rfl
  have hl : K.cells.length = H.cells.length := by rw [e1]; simp
  have gC : ∀ j : Int, K.getC j = if j.toNat = u.toNat then Cell.gone f else if j.toNat = f.toNat then H.getC u else H.getC j := fun j => by
    rw [getC_L, getC_L, e1, getL_set (by simp; omega), getL_set hltf]; rfl
  have cell : ∀ (j : Nat) d, K.cells[j]? = some d → (j = u.toNat ∧ d = Cell.gone f) ∨ (j = f.toNat ∧ d = H.getC u) ∨ (j ≠ u.toNat ∧ j ≠ f.toNat ∧ H.cells[j]? = some d) := fun j d hd => by
    rw [e1] at hd
    rcases set_gt hd with ⟨a, b, _⟩ | ⟨a, b⟩
    · exact .inl ⟨a, b⟩
    · rcases set_gt b with ⟨c, d, _⟩ | ⟨c, d⟩
      · exact .inr (.inl ⟨c, d⟩)
      · exact .inr (.inr ⟨a, c, d⟩)
  have fm : ∀ w, Formed H w → Formed K w := fun w hw => formed_len hl hw
  have nd : ∀ j, ¬ Doomed K j := fun j => not_doom (by omega) j
  have ndH : ∀ j, ¬ Doomed H j := fun j => not_doom (by omega) j
  have one : ∀ (j : Nat) d, K.cells[j]? = some d → d.state = 1 → ∃ j0 : Nat, H.cells[j0]? = some d ∧ j0 = (if j = f.toNat then u.toNat else j) ∧ j ≠ u.toNat := fun j d hd h1 => by
    rcases cell j d hd with ⟨rfl, rfl⟩ | ⟨rfl, rfl⟩ | ⟨a, b, c⟩
    · simp [Cell.gone] at h1
    · exact ⟨u.toNat, hcu, by rw [if_pos rfl], fun e => hne e.symm⟩
    · exact ⟨j, c, by rw [if_neg b], a⟩
  obtain ⟨g1, g2⟩ := h.r5.else_ (not_mark (by omega))
  refine ⟨?_, ⟨fun j d hd => ?_, fun i j c d hc hd hij h1 h2 => ?_, fun i j c d hc hd hij h1 h2 => ?_⟩, ?_, ⟨fun w hw => ?_, fun i c hc hd => absurd hd (nd i), fun i c hc k p hk => ?_⟩, ⟨fun hn => absurd hn (not_mark (by omega)), fun _ => ⟨by rw [e5]; exact g1, fun i c hc => ?_⟩⟩, ?_, R7.nil (not_mark (by omega)), R8.nil (by omega)⟩
  · have := h.r1
    subst hK
    exact { h.r1 with regs := by rw [e4, List.length_map]; exact h.r1.regs, cells := by rw [hl]; exact h.r1.cells, gray := by rw [hl]; exact h.r1.gray, hand := by rw [hl]; exact h.r1.hand }
  · rcases cell j d hd with ⟨rfl, rfl⟩ | ⟨rfl, rfl⟩ | ⟨a, b, c⟩
    · refine .inr (.inl ⟨rfl, ⟨rfl, rfl, rfl, rfl, rfl, rfl⟩, by omega, ⟨hf.1, by show f < _; omega⟩, ?_, fun _ k h0 h1 => ?_⟩)
      · show (K.getC f).state = 1
        rw [gC, if_neg (by omega), if_pos rfl]; exact su
      · have h1 : k < f := h1
        rw [gC, if_neg (by omega), if_neg (by omega)]
        have := lo k.toNat (by omega)
        rw [show ((k.toNat : Nat) : Int) = k by omega] at this
        exact this
    · obtain ⟨a1, a2, a3, a4, a5, a6⟩ := h.r2.used hcu su
      exact .inr (.inr ⟨a1, a2, a3, a4, by rw [e7]; exact a5, a6⟩)
    · rcases h.r2.each j d c with h1 | h1 | h1
      · exact .inl h1
      · obtain ⟨a1, a2, a3, a4, a5, a6⟩ := h1
        have k1 : d.to.toNat ≠ f.toNat := fun e => by
          have : d.to = f := by omega
          rw [this, sf] at a5; omega
        have k2 : d.to.toNat ≠ u.toNat := fun e => by
          have e' : d.to = u := by omega
          exact a6 hp f hf.1 (by omega) sf
        refine .inr (.inl ⟨a1, a2, by omega, a4, ?_, fun _ k h0 hk => ?_⟩)
        · rw [gC, if_neg k2, if_neg k1]; exact a5
        · rw [gC]
          by_cases x1 : k.toNat = u.toNat
          · rw [if_pos x1]; simp [Cell.gone]
          · rw [if_neg x1]
            by_cases x2 : k.toNat = f.toNat
            · rw [if_pos x2]; omega
            · rw [if_neg x2]; exact a6 hp k h0 hk
      · exact .inr (.inr (by unfold UsedOk at *; rw [e7]; exact h1))
  · obtain ⟨i0, b1, b2, b3⟩ := one i c hc h1
    obtain ⟨j0, d1, d2, d3⟩ := one j d hd h2
    have hne0 : i0 ≠ j0 := by
      rw [b2, d2]
      by_cases x : i = f.toNat
      · rw [if_pos x]
        by_cases y : j = f.toNat
        · omega
        · rw [if_neg y]; exact fun e => d3 e.symm
      · rw [if_neg x]
        by_cases y : j = f.toNat
        · rw [if_pos y]; exact b3
        · rw [if_neg y]; omega
    rcases Nat.lt_or_gt_of_ne hne0 with hl' | hl'
    · exact h.r2.born i0 j0 c d b1 d1 hl' h1 h2
    · exact fun e => h.r2.born j0 i0 d c d1 b1 hl' h2 h1 e.symm
  · have two : ∀ (j : Nat) d, K.cells[j]? = some d → d.state = 2 → (j = u.toNat ∧ d.to = f) ∨ (H.cells[j]? = some d ∧ d.to ≠ f) := fun j d hd h1 => by
      rcases cell j d hd with ⟨rfl, rfl⟩ | ⟨rfl, rfl⟩ | ⟨a, b, c⟩
      · exact .inl ⟨rfl, rfl⟩
      · omega
      · refine .inr ⟨c, fun e => ?_⟩
        rcases h.r2.each j d c with h1 | h1 | h1
        · have := h1.1; omega
        · have := h1.2.2.2.2.1; rw [e, sf] at this; omega
        · have := h1.1; omega
    rcases two i c hc h1 with ⟨a1, a2⟩ | ⟨a1, a2⟩
    · rcases two j d hd h2 with ⟨b1, b2⟩ | ⟨b1, b2⟩
      · omega
      · rw [a2]; exact fun e => b2 e.symm
    · rcases two j d hd h2 with ⟨b1, b2⟩ | ⟨b1, b2⟩
      · rw [b2]; exact a2
      · exact h.r2.to i j c d a1 b1 hij h1 h2
  · have h3 := h.r3
    unfold R3 at h3 ⊢
    have hcu2 : (H.cells.set f.toNat (H.getC u))[u.toNat]? = some (H.getC u) := by rw [List.getElem?_set, if_neg (fun e => hne e.symm)]; exact hcu
    rw [e1, e8, e9, units_set hcu2, units_set hcf]
    have u1 : (Cell.gone f).units = 0 := rfl
    have u2 : (H.getC f).units = 0 := by unfold Cell.units; rw [if_neg (by omega)]
    omega
  · rw [e4] at hw
    obtain ⟨v, hv, rfl⟩ := List.mem_map.1 hw
    obtain ⟨a, b⟩ := reg_used h.r4 hv
    unfold Word.redir
    split
    · rename_i e
      refine ⟨fm _ ?_, fun hk => .inl ⟨?_, nd _⟩⟩
      · rcases a with x | x | x
        · omega
        · omega
        · exact .inr (.inr ⟨x.1, x.2.1, hf.1, by show f < (H.cells.length : Int); omega⟩)
      · show (K.getC f).state = 1
        rw [gC, if_neg (by omega), if_pos rfl]; exact su
    · rename_i e
      refine ⟨fm _ a, fun hk => .inl ⟨?_, nd _⟩⟩
      have hat := a.at hk
      have b1 := (b hk).1
      have x1 : v.at_ ≠ u := fun e' => e ⟨hk, e'⟩
      have x2 : v.at_ ≠ f := fun e' => by rw [e', sf] at b1; omega
      rw [gC, if_neg (by omega), if_neg (by omega)]; exact b1
  · have ld : ∀ w, Formed H w → LeadsWell H w True → LeadsWell K w (¬ Mended K i k) := fun w hfw hw hk => by
      have hat := hfw.at hk
      have hm : ¬ Mended K i k := fun hm => hm.1 (by omega)
      by_cases x1 : w.at_ = u
      · right; rw [gC, if_pos (by omega)]; exact ⟨rfl, hm⟩
      · rcases hw hk with ⟨y, _⟩ | ⟨y, _⟩
        · left
          have x2 : w.at_ ≠ f := fun e' => by rw [e', sf] at y; omega
          rw [gC, if_neg (by omega), if_neg (by omega)]; exact ⟨y, nd _⟩
        · right
          have x2 : w.at_ ≠ f := fun e' => by rw [e', sf] at y; omega
          rw [gC, if_neg (by omega), if_neg (by omega)]; exact ⟨y, hm⟩
    have fin : ∀ (j : Nat) d, H.cells[j]? = some d → d.pairs[k]? = some p → Formed K p.key ∧ Formed K p.val ∧ (¬ Doomed K i → LeadsWell K p.key (¬ Mended K i k) ∧ LeadsWell K p.val (¬ Mended K i k)) := fun j d hd hk => by
      obtain ⟨a, b, g⟩ := h.r4.pairs j d hd k p hk
      obtain ⟨x1, x2⟩ := g (ndH j)
      have t : ∀ w, LeadsWell H w (¬ Mended H j k) → LeadsWell H w True := fun w hw hk => (hw hk).imp id (fun x => ⟨x.1, trivial⟩)
      exact ⟨fm _ a, fm _ b, fun _ => ⟨ld _ a (t _ x1), ld _ b (t _ x2)⟩⟩
    rcases cell i c hc with ⟨rfl, rfl⟩ | ⟨rfl, rfl⟩ | ⟨_, _, c'⟩
    · simp [Cell.gone] at hk
    · exact fin _ _ hcu hk
    · exact fin _ _ c' hk
  · rcases cell i c hc with ⟨rfl, rfl⟩ | ⟨rfl, rfl⟩ | ⟨_, _, c'⟩
    · exact ⟨by simp [Cell.gone], by simp [Cell.gone]⟩
    · exact ⟨(g2 _ _ hcu).1, fun e => by have := (g2 _ _ hcu).2 e; omega⟩
    · exact ⟨(g2 _ _ c').1, fun e => by have := (g2 _ _ c').2 e; omega⟩
  · exact (r6_0 (by omega)).2 (by rw [e3, e6]; exact (r6_0 (by omega)).1 h.r6)
theorem moveU_sound {H : Heap} (h : Sound H) (hp : H.phase = 4) : Sound H.moveU := by
  unfold Heap.moveU
  obtain ⟨a1, a2, a3, a4⟩ := frG_ok H H.cells.length
  obtain ⟨b1, b2, b3, b4⟩ := luG_ok H H.cells.length
  split
  · exact enter5_sound h hp
  · exact moved_sound h hp ⟨a1, by omega⟩ b2 (a3 (by omega)).2 (b3 (by omega)) (fun j hj => a4 j (by omega) hj)
end Go.Proofs.Ytcmllambknfleaa.E
