/- A part of the proof. Conditions: none. -/
import Derived.Test.YtcmllambknfleaaKF4
set_option linter.unusedVariables false
set_option linter.unusedSimpArgs false
namespace Go.Proofs.Ytcmllambknfleaa.E
open Go
abbrev Asr := Mem → Prop
def Mem.un (a b : Mem) : Mem := fun x => match a x with | some k => some k | none => b x
def Disj (a b : Mem) : Prop := ∀ x, a x = none ∨ b x = none
theorem Disj.symm {a b : Mem} (h : Disj a b) : Disj b a := fun x => (h x).symm
theorem un_l {a b : Mem} {x : Nat} {k : Bk} (h : a x = some k) : a.un b x = some k := by unfold Mem.un; rw [h]
theorem un_n {a b : Mem} {x : Nat} (h : a x = none) : a.un b x = b x := by unfold Mem.un; rw [h]
theorem un_r {a b : Mem} (d : Disj a b) {x : Nat} {k : Bk} (h : b x = some k) : a.un b x = some k := by
  rcases d x with e | e
  · rw [un_n e]; exact h
  · rw [h] at e; cases e
theorem le_l (a b : Mem) : a.le (a.un b) := fun x k h => un_l h
theorem le_r {a b : Mem} (d : Disj a b) : b.le (a.un b) := fun x k h => un_r d h
theorem un_none {a b : Mem} {x : Nat} : a.un b x = none ↔ a x = none ∧ b x = none := by
  unfold Mem.un
  cases h : a x <;> simp
theorem un_comm {a b : Mem} (d : Disj a b) : a.un b = b.un a := by
  funext x
  rcases d x with e | e
  · rw [un_n e]; cases h : b x with
    | none => rw [un_n h, e]
    | some k => rw [un_l h]
  · rw [un_n (a := b) e]; cases h : a x with
    | none => rw [un_n h, e]
    | some k => rw [un_l h]
theorem un_assoc (a b c : Mem) : (a.un b).un c = a.un (b.un c) := by
  funext x
  unfold Mem.un
  cases h : a x <;> simp
theorem disj_un {a b c : Mem} : Disj a (b.un c) ↔ Disj a b ∧ Disj a c := by
  constructor
  · intro h
    refine ⟨fun x => ?_, fun x => ?_⟩ <;> rcases h x with e | e
    · exact .inl e
    · exact .inr (un_none.1 e).1
    · exact .inl e
    · exact .inr (un_none.1 e).2
  · rintro ⟨h1, h2⟩ x
    rcases h1 x with e | e
    · exact .inl e
    · rcases h2 x with e' | e'
      · exact .inl e'
      · exact .inr (un_none.2 ⟨e, e'⟩)
theorem disj_un' {a b c : Mem} : Disj (a.un b) c ↔ Disj a c ∧ Disj b c := by
  constructor
  · intro h; have := disj_un.1 h.symm; exact ⟨this.1.symm, this.2.symm⟩
  · rintro ⟨h1, h2⟩; exact (disj_un.2 ⟨h1.symm, h2.symm⟩).symm
theorem un_upd_l {a b : Mem} {x : Nat} (k : Bk) : (a.un b).upd x k = (a.upd x k).un b := by
  funext y
  by_cases e : y = x
  · subst e; rw [Mem.upd_same, un_l (Mem.upd_same _ _ _)]
  · rw [Mem.upd_ne _ _ e]; unfold Mem.un; rw [Mem.upd_ne _ _ e]
theorem un_upd_r {a b : Mem} {x : Nat} (k : Bk) (h : a x = none) : (a.un b).upd x k = a.un (b.upd x k) := by
  funext y
  by_cases e : y = x
  · subst e; rw [Mem.upd_same, un_n h, Mem.upd_same]
  · rw [Mem.upd_ne _ _ e]; unfold Mem.un; rw [Mem.upd_ne _ _ e]
theorem Disj.upd {a b : Mem} (d : Disj a b) {x : Nat} (k : Bk) (h : b x = none) : Disj (a.upd x k) b := by
  intro y
  by_cases e : y = x
  · subst e; exact .inr h
  · rw [Mem.upd_ne _ _ e]; exact d y
def one (b : Nat) (k : Bk) : Mem := fun x => if x = b then some k else none
theorem one_same (b : Nat) (k : Bk) : one b k b = some k := by simp [one]
theorem one_ne {b x : Nat} (k : Bk) (h : x ≠ b) : one b k x = none := by simp [one, h]
theorem one_upd (b : Nat) (k k' : Bk) : (one b k).upd b k' = one b k' := by
  funext x; unfold Mem.upd one; split <;> simp_all
theorem upd_one {m : Mem} {b : Nat} (k : Bk) (h : m b = none) : m.upd b k = (one b k).un m := by
  funext x
  by_cases e : x = b
  · subst e; rw [Mem.upd_same, un_l (one_same _ _)]
  · rw [Mem.upd_ne _ _ e, un_n (one_ne _ e)]
theorem disj_one {m : Mem} {b : Nat} (k : Bk) (h : m b = none) : Disj (one b k) m := by
  intro x
  by_cases e : x = b
  · subst e; exact .inr h
  · exact .inl (one_ne _ e)
def emp : Mem := fun _ => none
theorem emp_un (m : Mem) : emp.un m = m := rfl
theorem un_emp (m : Mem) : m.un emp = m := by
  funext x; unfold Mem.un emp; cases m x <;> rfl
theorem disj_emp (m : Mem) : Disj m emp := fun _ => .inr rfl

def star : List Asr → Asr
  | [], m => m = emp
  | A :: r, m => ∃ a b, Disj a b ∧ m = a.un b ∧ A a ∧ star r b
theorem star_append {As Bs : List Asr} : ∀ {m : Mem}, star (As ++ Bs) m ↔ ∃ a b, Disj a b ∧ m = a.un b ∧ star As a ∧ star Bs b := by
  induction As with
  | nil =>
    intro m
    constructor
    · intro h; exact ⟨emp, m, fun _ => .inl rfl, (emp_un m).symm, rfl, h⟩
    · rintro ⟨a, b, d, rfl, rfl, h⟩; rw [emp_un]; exact h
  | cons A r ih =>
    intro m
    constructor
    · rintro ⟨a, b, d, rfl, hA, h⟩
      obtain ⟨c, e, d2, rfl, h1, h2⟩ := ih.1 h
      obtain ⟨d3, d4⟩ := disj_un.1 d
      exact ⟨a.un c, e, disj_un'.2 ⟨d4, d2⟩, (un_assoc _ _ _).symm, ⟨a, c, d3, rfl, hA, h1⟩, h2⟩
    · rintro ⟨x, e, d, rfl, ⟨a, c, d2, rfl, hA, h1⟩, h2⟩
      obtain ⟨d3, d4⟩ := disj_un'.1 d
      exact ⟨a, c.un e, disj_un.2 ⟨d2, d3⟩, un_assoc _ _ _, hA, ih.2 ⟨c, e, d4, rfl, h1, h2⟩⟩
theorem star_swap {A B : Asr} {r : List Asr} {m : Mem} (h : star (A :: B :: r) m) : star (B :: A :: r) m := by
  obtain ⟨a, x, d, rfl, hA, b, c, d2, rfl, hB, hr⟩ := h
  obtain ⟨d3, d4⟩ := disj_un.1 d
  refine ⟨b, a.un c, disj_un.2 ⟨d3.symm, d2⟩, ?_, hB, a, c, d4, rfl, hA, hr⟩
  rw [← un_assoc, un_comm d3, un_assoc]
theorem star_cons_mono {A B : Asr} {r s : List Asr} {m : Mem} (h : star (A :: r) m) (h1 : ∀ m, A m → B m) (h2 : ∀ m, star r m → star s m) : star (B :: s) m := by
  obtain ⟨a, b, d, e, hA, hr⟩ := h
  exact ⟨a, b, d, e, h1 _ hA, h2 _ hr⟩
/-- one piece, found among others -/
structure Pk (As : List Asr) (A : Asr) (r : List Asr) : Prop where
  out : ∀ m, star As m → star (A :: r) m
theorem pk_h {A : Asr} {r : List Asr} : Pk (A :: r) A r := ⟨fun _ h => h⟩
theorem pk_t {A B : Asr} {r r' : List Asr} (h : Pk r A r') : Pk (B :: r) A (B :: r') :=
  ⟨fun m hm => star_swap (star_cons_mono hm (fun _ h => h) h.out)⟩
/-- some pieces, found among others -/
structure Pm (As As1 F : List Asr) : Prop where
  out : ∀ m, star As m → star (As1 ++ F) m
theorem pm_nil {F : List Asr} : Pm F [] F := ⟨fun _ h => h⟩
theorem pm_cons {As As' As1 F : List Asr} {A : Asr} (h : Pk As A As') (h2 : Pm As' As1 F) : Pm As (A :: As1) F :=
  ⟨fun m hm => star_cons_mono (h.out m hm) (fun _ h => h) h2.out⟩
/-- what follows, some pieces dropped -/
structure Ent (As Bs : List Asr) : Prop where
  out : ∀ m, star As m → ∃ m', m'.le m ∧ star Bs m'
theorem Ent.refl (As : List Asr) : Ent As As := ⟨fun m h => ⟨m, Mem.le_refl _, h⟩⟩
theorem Pm.ent {As As1 F : List Asr} (h : Pm As As1 F) : Ent As As1 := ⟨fun m hm => by
  obtain ⟨a, b, d, rfl, h1, h2⟩ := star_append.1 (h.out m hm)
  exact ⟨a, le_l _ _, h1⟩⟩
theorem Ent.trans {A B C : List Asr} (h : Ent A B) (k : Ent B C) : Ent A C := ⟨fun m hm => by
  obtain ⟨m1, l1, s1⟩ := h.out m hm
  obtain ⟨m2, l2, s2⟩ := k.out m1 s1
  exact ⟨m2, Mem.le_trans l2 l1, s2⟩⟩

theorem Fn.frame {P : Program} {f : FuncId} {args : List Value} {a b : Mem} {post : Value → Mem → Prop} (d : Disj a b) (h : Fn P f args a post) :
    Fn P f args (a.un b) (fun v M' => ∃ m', post v m' ∧ Disj m' b ∧ M' = m'.un b) := by
  refine ⟨fun w hw => ?_⟩
  have hwa : Sat w a := hw.le (le_l _ _)
  have hwb : Sat w b := hw.le (le_r d)
  refine (h.out w hwa).mono fun e w' ⟨v, m', he, hp, hs, ht⟩ => ?_
  have hd : Disj m' b := by
    intro x
    cases h1 : m' x with
    | none => exact .inl rfl
    | some k =>
      right
      cases h2 : b x with
      | none => rfl
      | some k2 =>
        have hlt := (hwb x k2 h2).lt
        rcases ht.dom x (by rw [h1]; simp) with h3 | h3
        · rcases d x with h4 | h4
          · exact absurd h4 h3
          · rw [h2] at h4; cases h4
        · omega
  refine ⟨v, m'.un b, he, ⟨m', hp, hd, rfl⟩, ?_, ⟨ht.os, ht.tape, ht.output, ht.size, ?_, ?_⟩⟩
  · intro x k hk
    cases h1 : m' x with
    | some k1 => rw [un_l h1] at hk; cases hk; exact hs x _ h1
    | none =>
      rw [un_n h1] at hk
      have hb := hwb x k hk
      refine hb.of_eq (ht.keep x hb.lt ?_)
      rcases d x with h4 | h4
      · exact h4
      · rw [hk] at h4; cases h4
  · intro x hx hn
    exact ht.keep x hx (un_none.1 hn).1
  · intro x hx
    cases h1 : m' x with
    | some k1 =>
      rcases ht.dom x (by rw [h1]; simp) with h3 | h3
      · exact .inl fun e => h3 (un_none.1 e).1
      · exact .inr h3
    | none =>
      rw [un_n h1] at hx
      exact .inl fun e => hx (un_none.1 e).2
theorem Fn.le {P : Program} {f : FuncId} {args : List Value} {m M : Mem} {post : Value → Mem → Prop} (l : m.le M) (h : Fn P f args m post) : Fn P f args M post := by
  refine ⟨fun w hw => (h.out w (hw.le l)).mono fun e w' ⟨v, m', he, hp, hs, ht⟩ => ⟨v, m', he, hp, hs, ht.os, ht.tape, ht.output, ht.size, fun b hb hn => ht.keep b hb ?_, fun b hb => ?_⟩⟩
  · cases h : m b with
    | none => rfl
    | some k => rw [l b k h] at hn; cases hn
  · rcases ht.dom b hb with h | h
    · refine .inl fun e => h ?_
      cases h' : m b with
      | none => rfl
      | some k => rw [l b k h'] at e; cases e
    · exact .inr h

def upQ (Q : X → St → List Asr → Prop) : X → St → Mem → Prop := fun x S M => ∃ As m, m.le M ∧ star As m ∧ Q x S As
structure VA (E : Env) (c : C) (Q : X → St → List Asr → Prop) (S : St) (As : List Asr) : Prop where
  out : ∀ m, star As m → VC E c (upQ Q) S m
def upP (post : St → List Asr → Prop) : St → Mem → Prop := fun S M => ∃ As m, m.le M ∧ star As m ∧ post S As
structure LA (P : Program) (l : List I) (post : St → List Asr → Prop) (S : St) (As : List Asr) : Prop where
  out : ∀ m, star As m → VL P l (upP post) S m
/-- A CALL, over pieces. -/
structure FnA (P : Program) (f : FuncId) (args : List Value) (As : List Asr) (post : Value → List Asr → Prop) : Prop where
  out : ∀ m, star As m → Fn P f args m (fun v M' => ∃ As' m', m'.le M' ∧ star As' m' ∧ post v As')
theorem FnA.mono {P : Program} {f : FuncId} {args : List Value} {As : List Asr} {post post' : Value → List Asr → Prop} (h : FnA P f args As post) (k : ∀ v As', post v As' → post' v As') : FnA P f args As post' :=
  ⟨fun m hm => (h.out m hm).mono fun v M' ⟨As', m', l, s, p⟩ => ⟨As', m', l, s, k _ _ p⟩⟩
theorem FnA.frame {P : Program} {f : FuncId} {args : List Value} {As F : List Asr} {post : Value → List Asr → Prop} (h : FnA P f args As post) : FnA P f args (As ++ F) (fun v As' => ∃ As1, post v As1 ∧ As' = As1 ++ F) :=
  ⟨fun m hm => by
    obtain ⟨a, b, d, rfl, h1, h2⟩ := star_append.1 hm
    refine ((h.out a h1).frame d).mono ?_
    rintro v M' ⟨m', ⟨As', m1, l1, s1, hp⟩, hd, rfl⟩
    have hd1 : Disj m1 b := fun x => by
      rcases hd x with e | e
      · left
        cases h : m1 x with
        | none => rfl
        | some k => rw [l1 x k h] at e; cases e
      · exact .inr e
    refine ⟨As' ++ F, m1.un b, ?_, star_append.2 ⟨m1, b, hd1, rfl, s1, h2⟩, As', hp, rfl⟩
    intro x k hk
    cases h : m1 x with
    | some k1 => rw [un_l h] at hk; cases hk; exact un_l (l1 x _ h)
    | none => rw [un_n h] at hk; exact un_r hd hk⟩
theorem FnA.ent {P : Program} {f : FuncId} {args : List Value} {As Bs : List Asr} {post : Value → List Asr → Prop} (h : FnA P f args Bs post) (e : Ent As Bs) : FnA P f args As post :=
  ⟨fun m hm => by obtain ⟨m', l, s⟩ := e.out m hm; exact (h.out m' s).le l⟩
theorem upP_of {post : St → List Asr → Prop} {S : St} {As : List Asr} {m : Mem} (s : star As m) (h : post S As) : upP post S m := ⟨As, m, Mem.le_refl _, s, h⟩

theorem vcK_mono {P : Program} {c : K} {d : Option Nat} {p p' : St → Mem → Prop} (k : ∀ S M, p S M → p' S M) {S : St} {M : Mem} (h : vcK P c d p S M) : vcK P c d p' S M := by
  have am : ∀ {size bytes : Nat} {s : Value} {src : List Value} {n : Nat} {q q' : Value → Mem → Prop}, (∀ v M, q v M → q' v M) → appM M size bytes s src n q → appM M size bytes s src n q' := by
    intro size bytes s src n q q' kq h
    unfold appM at *
    split at h
    · obtain ⟨h1, h2, h3, h4⟩ := h
      refine ⟨h1, h2, h3, ?_⟩
      rcases h4 with ⟨h5, h6⟩ | ⟨h5, h6⟩
      · exact .inl ⟨h5, kq _ _ h6⟩
      · exact .inr ⟨h5, fun b c z e1 e2 e3 => kq _ _ (h6 b c z e1 e2 e3)⟩
    · obtain ⟨cs, h1, h2, h4⟩ := h
      refine ⟨cs, h1, h2, ?_⟩
      rcases h4 with ⟨h5, h6, h7⟩ | ⟨h5, h6, h7⟩
      · exact .inl ⟨h5, h6, kq _ _ h7⟩
      · exact .inr ⟨h5, h6, fun b c z e1 e2 e3 => kq _ _ (h7 b c z e1 e2 e3)⟩
    · exact h
  cases c
  case call => obtain ⟨args, h1, h2⟩ := h; exact ⟨args, h1, h2.mono fun v M' h => k _ _ h⟩
  case callv => obtain ⟨g, u, c, args, h1, h2, h3, h4⟩ := h; exact ⟨g, u, c, args, h1, h2, h3, h4.mono fun v M' h => k _ _ h⟩
  case store =>
    obtain ⟨v, h1, h2, h3, h4⟩ := h
    refine ⟨v, h1, h2, h3, ?_⟩
    rcases h4 with ⟨s, o, cs, a1, a2, a3, a4⟩ | ⟨b, o, cs, a1, a2, a3, a4⟩
    · exact .inl ⟨s, o, cs, a1, a2, a3, k _ _ a4⟩
    · exact .inr ⟨b, o, cs, a1, a2, a3, k _ _ a4⟩
  case alloc ow z =>
    cases ow with
    | false => exact fun b hb => k _ _ (h b hb)
    | true => obtain ⟨sv, h1, h2⟩ := h; exact ⟨sv, h1, k _ _ h2⟩
  case box ow x =>
    cases ow with
    | false => obtain ⟨v, h1, h2⟩ := h; exact ⟨v, h1, fun b hb => k _ _ (h2 b hb)⟩
    | true => obtain ⟨sv, h1, h2⟩ := h; exact ⟨sv, h1, k _ _ h2⟩
  case bslice ow len size z ps =>
    cases ow with
    | false => obtain ⟨v, h1, h2⟩ := h; exact ⟨v, h1, fun b hb => k _ _ (h2 b hb)⟩
    | true => obtain ⟨sv, h1, h2⟩ := h; exact ⟨sv, h1, k _ _ h2⟩
  case mkslice => obtain ⟨n, m, h1, h2, h3, h4, h5, h6⟩ := h; exact ⟨n, m, h1, h2, h3, h4, h5, fun b hb => k _ _ (h6 b hb)⟩
  case app => obtain ⟨sv, src, n, h1, h2, h3, h4⟩ := h; exact ⟨sv, src, n, h1, h2, h3, am (fun _ _ h => k _ _ h) h4⟩
  case appz => obtain ⟨sv, n, h1, h2, h3, h4, h5⟩ := h; exact ⟨sv, n, h1, h2, h3, h4, am (fun _ _ h => k _ _ h) h5⟩
  case mkmap => exact fun b hb => k _ _ (h b hb)
  case mupd => obtain ⟨b, es, c, j, v, h1, h2, h3, h4, h5, h6⟩ := h; exact ⟨b, es, c, j, v, h1, h2, h3, h4, h5, k _ _ h6⟩
  case mdel => obtain ⟨b, es, c, j, h1, h2, h3, h4, h5⟩ := h; exact ⟨b, es, c, j, h1, h2, h3, h4, k _ _ h5⟩
  all_goals (obtain ⟨sv, h1, h2⟩ := h; exact ⟨sv, h1, k _ _ h2⟩)
theorem vcO_mono {P : Program} {i : I} {p p' : St → Mem → Prop} (k : ∀ S M, p S M → p' S M) {S : St} {M : Mem} (h : vcO P i p S M) : vcO P i p' S M := by
  unfold vcO at *
  split at h
  · exact vcK_mono k h
  · split at h
    · exact ⟨fun e => vcK_mono k (h.1 e), fun e => k _ _ (h.2 e)⟩
    · exact k _ _ h
    · exact h
theorem VL.mono {P : Program} {l : List I} {post post' : St → Mem → Prop} (k : ∀ S M, post S M → post' S M) {S : St} {M : Mem} (h : VL P l post S M) : VL P l post' S M := by
  refine ⟨?_⟩
  have h := h.out
  revert S M
  induction l with
  | nil => intro S M _ h; exact k S M h
  | cons i r ih =>
    intro S M _ h
    have ih' : ∀ S M, vcL P r post S M → vcL P r post' S M := fun S M h => ih ⟨h⟩ h
    show vcO P i (vcL P r post') S M
    have h : vcO P i (vcL P r post) S M := h
    exact vcO_mono ih' h
section
variable {E : Env} {Q : X → St → List Asr → Prop} {S : St} {As Bs : List Asr} {K : St → List Asr → Prop}
def seqA (K : St → List Asr → Prop) (Q : X → St → List Asr → Prop) : X → St → List Asr → Prop
  | .nrm => K
  | x => Q x
def blkA (id : Nat) (Q : X → St → List Asr → Prop) : X → St → List Asr → Prop
  | .ext i => if i = id then Q .nrm else Q (.ext i)
  | x => Q x
theorem VA.ent {c : C} (e : Ent As Bs) (h : VA E c Q S Bs) : VA E c Q S As :=
  ⟨fun m hm => by obtain ⟨m', l, s⟩ := e.out m hm; exact VC.drop l (h.out m' s)⟩
theorem v_reg {l : List I} (h : LA E.P l (Q .nrm) S As) : VA E (.reg l) Q S As :=
  ⟨fun m hm => VC.regV (h.out m hm)⟩
theorem v_dreg {n : Nat} {l : List I} (h : LA E.P l (Q .nrm) (fun t => junkD (dsOf l n) (S t)) As) : VA E (.dreg n l) Q S As :=
  ⟨fun m hm => VC.dregV (h.out m hm)⟩
theorem v_zreg {ds : List Nat} {zs cs : List I} (h : LA E.P zs (fun S' _ => LA E.P cs (Q .nrm) S' As) (fun t => junkD ds (S t)) []) : VA E (.zreg ds zs cs) Q S As :=
  ⟨fun m hm => VC.zreg (VL.mono (fun S' M' ⟨_, _, _, _, h⟩ => (h.out m hm).out) (h.out emp rfl)).out⟩
theorem v_seq {a b : C} (h : VA E a (seqA (VA E b Q) Q) S As) : VA E (.seq a b) Q S As :=
  ⟨fun m hm => VC.seq ((h.out m hm).mono fun x S M ⟨As', m', l, s, hq⟩ => by
    cases x with
    | nrm => exact VC.drop l (hq.out m' s)
    | ret => exact ⟨As', m', l, s, hq⟩
    | ext i => exact ⟨As', m', l, s, hq⟩)⟩
theorem v_cond {x : Operand} {a b : C} (t : Bool) (hx : ev S x = some (.bool t)) (h1 : t = true → VA E a Q S As) (h2 : t = false → VA E b Q S As) : VA E (.cond x a b) Q S As :=
  ⟨fun m hm => VC.cond t hx (fun e => (h1 e).out m hm) (fun e => (h2 e).out m hm)⟩
theorem v_blk {id : Nat} {c : C} (h : VA E c (blkA id Q) S As) : VA E (.block id c) Q S As :=
  ⟨fun m hm => VC.block ((h.out m hm).mono fun x S M ⟨As', m', l, s, hq⟩ => by
    cases x with
    | nrm => exact ⟨As', m', l, s, hq⟩
    | ret => exact ⟨As', m', l, s, hq⟩
    | ext i =>
      unfold blkA at hq
      unfold blkQ
      simp only at hq ⊢
      split
      · rename_i e; rw [if_pos e] at hq; exact ⟨As', m', l, s, hq⟩
      · rename_i e; rw [if_neg e] at hq; exact ⟨As', m', l, s, hq⟩)⟩
theorem v_skip (h : Q .nrm S As) : VA E .skip Q S As := ⟨fun m hm => VC.skip ⟨As, m, Mem.le_refl _, hm, h⟩⟩
theorem v_ret (h : Q .ret S As) : VA E .ret Q S As := ⟨fun m hm => VC.ret ⟨As, m, Mem.le_refl _, hm, h⟩⟩
theorem v_exit {id : Nat} (h : Q (.ext id) S As) : VA E (.exit id) Q S As := ⟨fun m hm => VC.exit ⟨As, m, Mem.le_refl _, hm, h⟩⟩
theorem v_mono {c : C} {Q' : X → St → List Asr → Prop} (h : VA E c Q S As) (k : ∀ x S As, Q x S As → Q' x S As) : VA E c Q' S As :=
  ⟨fun m hm => (h.out m hm).mono fun x S M ⟨As', m', l, s, hq⟩ => ⟨As', m', l, s, k _ _ _ hq⟩⟩
/-- what is proved once of what follows, by whatever way one comes to it -/
theorem v_cut {a b : C} (J : St → List Asr → Prop) (h : VA E a (seqA J Q) S As) (h2 : ∀ S As, J S As → VA E b Q S As) : VA E (.seq a b) Q S As :=
  v_seq (v_mono h fun x S As hq => by cases x <;> first | exact h2 _ _ hq | exact hq)
theorem v_weak {c : C} (l : List (Nat × SV)) (hS : leA l S) (h : VA E c Q (ofL l) As) : VA E c Q S As :=
  ⟨fun m hm => VC.weak l hS (Mem.le_refl _) (h.out m hm)⟩
/-- A LOOP: the slots and the pieces at its head, and what holds there when at most k rounds are to come. -/
theorem v_loop {c : C} {α : Type} (T : α → List (Nat × SV)) (At : α → List Asr) (Inv : Nat → α → Prop) (h0 : ∃ k x, leA (T x) S ∧ Ent As (At x) ∧ Inv k x)
    (h : ∀ k x, Inv k x → VA E c (seqA (fun S' As' => ∃ k' x', k' < k ∧ leA (T x') S' ∧ Ent As' (At x') ∧ Inv k' x') Q) (ofL (T x)) (At x)) : VA E (.loop c) Q S As :=
  ⟨fun m hm => by
    obtain ⟨k0, x0, a1, a2, a3⟩ := h0
    obtain ⟨m0, l0, s0⟩ := a2.out m hm
    refine VC.loop T (fun k x M => Inv k x ∧ star (At x) M) ⟨k0, x0, m0, a1, l0, a3, s0⟩ ?_
    rintro k x M ⟨hi, hs⟩
    refine ((h k x hi).out M hs).mono ?_
    rintro y S' M' ⟨As', m', l, s, hq⟩
    cases y with
    | nrm =>
      obtain ⟨k', x', b1, b2, b3, b4⟩ := hq
      obtain ⟨m2, l2, s2⟩ := b3.out m' s
      exact ⟨k', x', m2, b1, b2, Mem.le_trans l2 l, b4, s2⟩
    | ret => exact ⟨As', m', l, s, hq⟩
    | ext i => exact ⟨As', m', l, s, hq⟩⟩
theorem v_ct {x : Operand} {a b : C} (hx : ev S x = some (.bool true)) (h : VA E a Q S As) : VA E (.cond x a b) Q S As := v_cond true hx (fun _ => h) (fun e => by cases e)
theorem v_cf {x : Operand} {a b : C} (hx : ev S x = some (.bool false)) (h : VA E b Q S As) : VA E (.cond x a b) Q S As := v_cond false hx (fun e => by cases e) (fun _ => h)
theorem v_cd {x : Operand} {a b : C} {p : Prop} {_ : Decidable p} (hx : ev S x = some (.bool (decide p))) (h1 : p → VA E a Q S As) (h2 : ¬ p → VA E b Q S As) : VA E (.cond x a b) Q S As :=
  v_cond _ hx (fun h => h1 (of_decide_eq_true h)) (fun h => h2 (of_decide_eq_false h))
theorem v_ce {x : Operand} {a b : C} {u w : Int} (hx : ev S x = some (.bool (u == w))) (h1 : u = w → VA E a Q S As) (h2 : u ≠ w → VA E b Q S As) : VA E (.cond x a b) Q S As :=
  v_cond _ hx (fun h => h1 (by simpa using h)) (fun h => h2 (by simpa using h))
theorem v_cn {x : Operand} {a b : C} {u w : Int} (hx : ev S x = some (.bool (u != w))) (h1 : u ≠ w → VA E a Q S As) (h2 : u = w → VA E b Q S As) : VA E (.cond x a b) Q S As :=
  v_cond _ hx (fun h => h1 (by simpa using h)) (fun h => h2 (by simpa using h))
theorem v_cnd {x : Operand} {a b : C} {p : Prop} {_ : Decidable p} (hx : ev S x = some (.bool (!decide p))) (h1 : ¬ p → VA E a Q S As) (h2 : p → VA E b Q S As) : VA E (.cond x a b) Q S As :=
  v_cond _ hx (fun h => h1 (by simpa using h)) (fun h => h2 (by simpa using h))
theorem s_n (h : K S As) : seqA K Q .nrm S As := h
theorem s_r (h : Q .ret S As) : seqA K Q .ret S As := h
theorem s_e {i : Nat} (h : Q (.ext i) S As) : seqA K Q (.ext i) S As := h
theorem b_n {id : Nat} (h : Q .nrm S As) : blkA id Q .nrm S As := h
theorem b_r {id : Nat} (h : Q .ret S As) : blkA id Q .ret S As := h
theorem b_e {id : Nat} (h : Q .nrm S As) : blkA id Q (.ext id) S As := by unfold blkA; simp only [if_true]; exact h
theorem b_o {id i : Nat} (hi : Nat.beq i id = false) (h : Q (.ext i) S As) : blkA id Q (.ext i) S As := by
  have e : i ≠ id := fun e => by subst e; simp at hi
  unfold blkA; simp only [if_neg e]; exact h
end
def fnA (rs : List RV) (post : Value → List Asr → Prop) : X → St → List Asr → Prop
  | .ext _, _, _ => False
  | _, S, As => ∃ v As', (∀ m, star As m → resV S m rs = some v) ∧ Ent As As' ∧ post v As'
theorem fa_r {rl : List RV} {S : St} {As As' : List Asr} {v : Value} {post : Value → List Asr → Prop} (h : ∀ m, star As m → resV S m rl = some v) (e : Ent As As') (hp : post v As') : fnA rl post .ret S As := ⟨v, As', h, e, hp⟩
theorem fa_n {rl : List RV} {S : St} {As As' : List Asr} {v : Value} {post : Value → List Asr → Prop} (h : ∀ m, star As m → resV S m rl = some v) (e : Ent As As') (hp : post v As') : fnA rl post .nrm S As := ⟨v, As', h, e, hp⟩
theorem rvs_le {S : St} {m M : Mem} (l : m.le M) : ∀ {rs : List RV} {vs : List Value}, rvs S m rs = some vs → rvs S M rs = some vs
  | [], vs, h => h
  | r :: t, vs, h => by
    simp only [rvs] at h ⊢
    split at h
    · rename_i v l' h1 h2
      have h1' : rvV S M r = some v := by
        cases r with
        | tmp t => exact h1
        | cell t one n =>
          simp only [rvV] at h1 ⊢
          split at h1
          · exact h1
          · rename_i b o hl
            split at h1
            · rename_i cs hM; rw [l _ _ hM]; exact h1
            · cases h1
          · cases h1
      rw [h1', rvs_le l h2]; exact h
    · cases h
theorem resV_le {S : St} {m M : Mem} (l : m.le M) {rs : List RV} {v : Value} (h : resV S m rs = some v) : resV S M rs = some v := by
  unfold resV at *
  cases h1 : rvs S m rs with
  | none => rw [h1] at h; cases h
  | some vs => rw [rvs_le l h1]; rw [h1] at h; exact h
theorem fnA_of {E : Env} {c : C} {f : FuncId} {args : List Value} {nt : Nat} {rl : List RV} {P : Program} {As : List Asr} {post : Value → List Asr → Prop}
    (hf : ∀ {M : Mem} {p : Value → Mem → Prop}, VC E c (fnQ rl p) (initS args nt) M → Fn P f args M p) (h : VA E c (fnA rl post) (initS args nt) As) : FnA P f args As post :=
  ⟨fun m hm => hf ((h.out m hm).mono fun x S M ⟨As', m', l, s, hq⟩ => by
    cases x with
    | ext i => exact hq
    | nrm =>
      obtain ⟨v, As2, h1, h2, h3⟩ := hq
      obtain ⟨m2, l2, s2⟩ := h2.out m' s
      exact ⟨v, m2, resV_le l (h1 m' s), Mem.le_trans l2 l, As2, m2, Mem.le_refl _, s2, h3⟩
    | ret =>
      obtain ⟨v, As2, h1, h2, h3⟩ := hq
      obtain ⟨m2, l2, s2⟩ := h2.out m' s
      exact ⟨v, m2, resV_le l (h1 m' s), Mem.le_trans l2 l, As2, m2, Mem.le_refl _, s2, h3⟩)⟩
end Go.Proofs.Ytcmllambknfleaa.E
set_option linter.unusedVariables false
set_option linter.unusedSimpArgs false
namespace Go.Proofs.Ytcmllambknfleaa.E
open Go
theorem cell_le {m M : Mem} (l : m.le M) {b o : Nat} {v : Value} (h : cell m b o = some v) : cell M b o = some v := by
  unfold cell at *
  cases hm : m b with
  | none => rw [hm] at h; cases h
  | some k => rw [l _ _ hm]; rw [hm] at h; exact h
theorem cells_le {m M : Mem} (l : m.le M) {b o n : Nat} {v : List Value} (h : cells m b o n = some v) : cells M b o n = some v := by
  unfold cells at *
  cases hm : m b with
  | none => rw [hm] at h; cases h
  | some k => rw [l _ _ hm]; rw [hm] at h; exact h
structure RdA (A : Asr) (b o : Nat) (v : Value) : Prop where
  out : ∀ m, A m → cell m b o = some v
structure Rd (As : List Asr) (b o : Nat) (v : Value) : Prop where
  out : ∀ m, star As m → cell m b o = some v
theorem rd_h {A : Asr} {r : List Asr} {b o : Nat} {v : Value} (h : RdA A b o v) : Rd (A :: r) b o v :=
  ⟨fun m ⟨a, c, d, e, hA, hr⟩ => by subst e; exact cell_le (le_l _ _) (h.out a hA)⟩
theorem rd_t {A : Asr} {r : List Asr} {b o : Nat} {v : Value} (h : Rd r b o v) : Rd (A :: r) b o v :=
  ⟨fun m ⟨a, c, d, e, hA, hr⟩ => by subst e; exact cell_le (le_r d) (h.out c hr)⟩
structure RsA (A : Asr) (b o n : Nat) (v : List Value) : Prop where
  out : ∀ m, A m → cells m b o n = some v
structure Rs (As : List Asr) (b o n : Nat) (v : List Value) : Prop where
  out : ∀ m, star As m → cells m b o n = some v
theorem rs_h {A : Asr} {r : List Asr} {b o n : Nat} {v : List Value} (h : RsA A b o n v) : Rs (A :: r) b o n v :=
  ⟨fun m ⟨a, c, d, e, hA, hr⟩ => by subst e; exact cells_le (le_l _ _) (h.out a hA)⟩
theorem rs_t {A : Asr} {r : List Asr} {b o n : Nat} {v : List Value} (h : Rs r b o n v) : Rs (A :: r) b o n v :=
  ⟨fun m ⟨a, c, d, e, hA, hr⟩ => by subst e; exact cells_le (le_r d) (h.out c hr)⟩
structure UpA (A : Asr) (b o : Nat) (vs : List Value) (A' : Asr) : Prop where
  out : ∀ m, A m → ∃ row, m b = some (.row row) ∧ o + vs.length ≤ row.length ∧ A' (m.upd b (.row (wr row o vs)))
structure Up (As : List Asr) (b o : Nat) (vs : List Value) (As' : List Asr) : Prop where
  out : ∀ m, star As m → ∃ row, m b = some (.row row) ∧ o + vs.length ≤ row.length ∧ star As' (m.upd b (.row (wr row o vs)))
theorem up_h {A A' : Asr} {r : List Asr} {b o : Nat} {vs : List Value} (h : UpA A b o vs A') : Up (A :: r) b o vs (A' :: r) :=
  ⟨fun m ⟨a, c, d, e, hA, hr⟩ => by
    subst e
    obtain ⟨row, h1, h2, h3⟩ := h.out a hA
    have hc : c b = none := by
      rcases d b with e | e
      · rw [h1] at e; cases e
      · exact e
    exact ⟨row, un_l h1, h2, _, c, d.upd _ hc, un_upd_l _, h3, hr⟩⟩
theorem up_t {A : Asr} {r r' : List Asr} {b o : Nat} {vs : List Value} (h : Up r b o vs r') : Up (A :: r) b o vs (A :: r') :=
  ⟨fun m ⟨a, c, d, e, hA, hr⟩ => by
    subst e
    obtain ⟨row, h1, h2, h3⟩ := h.out c hr
    have ha : a b = none := by
      rcases d b with e | e
      · exact e
      · rw [h1] at e; cases e
    exact ⟨row, un_r d h1, h2, a, _, (d.symm.upd _ ha).symm, un_upd_r _ ha, hA, h3⟩⟩
/-- something that is so of whatever memory holds these pieces -/
structure KnA (A : Asr) (p : Prop) : Prop where
  out : ∀ m, A m → p
structure Kn (As : List Asr) (p : Prop) : Prop where
  out : ∀ m, star As m → p
theorem kn_h {A : Asr} {r : List Asr} {p : Prop} (h : KnA A p) : Kn (A :: r) p := ⟨fun m ⟨a, c, d, e, hA, hr⟩ => h.out a hA⟩
theorem kn_t {A : Asr} {r : List Asr} {p : Prop} (h : Kn r p) : Kn (A :: r) p := ⟨fun m ⟨a, c, d, e, hA, hr⟩ => h.out c hr⟩

structure D where
  a : Option Addr
  cap : Nat
def D.b (d : D) : Nat := match d.a with | some x => x.block | none => 0
def D.o (d : D) : Nat := match d.a with | some x => x.off | none => 0
def D.v (d : D) (n : Nat) : Value := .slice d.a n d.cap
def slA (size : Nat) {α : Type} (f : α → List Value) (d : D) (xs : List α) : Asr := fun m => Sl m size f (.slice d.a xs.length d.cap) xs ∧ ∀ b, b ∉ own (.slice d.a xs.length d.cap) → m b = none
def bx (b : Nat) (vs : List Value) : Asr := fun m => m = one b (.row vs)
section
variable {α : Type} {f : α → List Value} {size : Nat} {d : D} {xs : List α}
theorem D.plain {m : Mem} (h : slA size f d xs m) : d.a = none ∨ d.a = some ⟨d.b, d.o, none⟩ := by
  rcases h.1 with ⟨c, e, _⟩ | ⟨b, o, cap, row, e, _⟩
  · simp only [Value.slice.injEq] at e; exact .inl e.1
  · right
    simp only [Value.slice.injEq] at e
    have : d.a = some ⟨b, o, none⟩ := e.1
    unfold D.b D.o; rw [this]
theorem D.som {m : Mem} (h : slA size f d xs m) {i : Nat} {e : α} (hi : xs[i]? = some e) : d.a = some ⟨d.b, d.o, none⟩ := by
  rcases h.1 with ⟨c, e, _, e2⟩ | ⟨b, o, cap, row, e, _⟩
  · subst e2; simp at hi
  · simp only [Value.slice.injEq] at e
    have : d.a = some ⟨b, o, none⟩ := e.1
    unfold D.b D.o; rw [this]
theorem rs_sl {i : Nat} {e : α} (hs : ∀ x, (f x).length = size) (hi : xs[i]? = some e) : RsA (slA size f d xs) d.b (d.o + i * size) size (f e) :=
  ⟨fun m h => by
    obtain ⟨b, o, ha, hc⟩ := h.1.at2 hs hi
    have e1 : d.b = b := by unfold D.b; rw [ha]
    have e2 : d.o = o := by unfold D.o; rw [ha]
    rw [e1, e2]; exact hc⟩
theorem rd_sl {i j : Nat} {e : α} {v : Value} (hs : ∀ x, (f x).length = size) (hi : xs[i]? = some e) (hj : (f e)[j]? = some v) : RdA (slA size f d xs) d.b (d.o + i * size + j) v :=
  ⟨fun m h => cells_cell ((rs_sl hs hi).out m h) hj⟩
theorem cells_sub {M : Mem} {b o n j k : Nat} {vs ws : List Value} (h : cells M b o n = some vs) (hj : j + k ≤ vs.length) (hw : (vs.drop j).take k = ws) : cells M b (o + j) k = some ws := by
  obtain ⟨cs, hM, hle, rfl⟩ := cells_row h
  simp only [List.length_take, List.length_drop] at hj
  have key : (if o + j + k ≤ cs.length then some ((cs.drop (o + j)).take k) else none) = some ws := by
    rw [if_pos (by omega)]
    congr 1
    rw [← hw, List.drop_take, List.drop_drop, List.take_take]
    congr 1; omega
  unfold cells
  rcases hM with hM | ⟨_, _, hM⟩ <;> rw [hM] <;> exact key
theorem rs_slp {i j k : Nat} {e : α} {ws : List Value} (hs : ∀ x, (f x).length = size) (hi : xs[i]? = some e) (hj : j + k ≤ size) (hw : ((f e).drop j).take k = ws) : RsA (slA size f d xs) d.b (d.o + i * size + j) k ws :=
  ⟨fun m h => cells_sub ((rs_sl hs hi).out m h) (by rw [hs]; exact hj) hw⟩
theorem up_sl {i j : Nat} {e e' : α} {vs : List Value} (hs : ∀ x, (f x).length = size) (hi : xs[i]? = some e) (hj : j + vs.length ≤ size) (hf : f e' = wr (f e) j vs) : UpA (slA size f d xs) d.b (d.o + i * size + j) vs (slA size f d (xs.set i e')) :=
  ⟨fun m h => by
    have ha := D.som h hi
    have h1 := h.1
    have h2 := h.2
    rw [ha] at h1 h2
    obtain ⟨row, g1, g2, g3⟩ := h1.wr hs hi hj hf
    refine ⟨row, g1, by omega, ?_, ?_⟩
    · rw [List.length_set, ha]; exact g3
    · intro b hb
      rw [List.length_set, ha] at hb
      have hne : b ≠ d.b := fun e => hb (by simp [own, e])
      rw [Mem.upd_ne _ _ hne]; exact h2 b hb⟩
/-- a slice's address is a plain one -/
theorem bs_sl {i : Nat} {e : α} (hi : xs[i]? = some e) : KnA (slA size f d xs) (d.a = some ⟨d.b, d.o, none⟩) := ⟨fun m h => D.som h hi⟩
theorem pl_sl : KnA (slA size f d xs) (d.a = none ∨ d.a = some ⟨d.b, d.o, none⟩) := ⟨fun m h => D.plain h⟩
theorem bd_sl : KnA (slA size f d xs) (xs.length ≤ 140737488355328) := ⟨fun m h => h.1.bound⟩
theorem cp_sl : KnA (slA size f d xs) (xs.length ≤ d.cap) := ⟨fun m h => by
  rcases h.1 with ⟨c, e, _, e2⟩ | ⟨b, o, cap, row, e, hM, hc, _⟩
  · subst e2; simp
  · simp only [Value.slice.injEq] at e
    rw [e.2.2]; exact hc⟩
theorem own_len (a : Option Addr) (n n' cap cap' : Nat) : own (.slice a n cap) = own (.slice a n' cap') := by cases a <;> rfl
theorem flat_take (hs : ∀ x, (f x).length = size) (xs : List α) (k : Nat) (hk : k ≤ xs.length) : (xs.flatMap f).take (k * size) = (xs.take k).flatMap f := by
  have h2 : xs.flatMap f = (xs.take k).flatMap f ++ (xs.drop k).flatMap f := by rw [← List.flatMap_append, List.take_append_drop]
  rw [h2, List.take_left' (by rw [flat_len hs, List.length_take, Nat.min_eq_left hk])]
/-- the first k elements alone -/
theorem sl_take (hs : ∀ x, (f x).length = size) {k : Nat} {m : Mem} (h : slA size f d xs m) (hk : k ≤ xs.length) : slA size f d (xs.take k) m := by
  have hl : (xs.take k).length = k := by simp; omega
  refine ⟨?_, fun b hb => h.2 b (by rw [own_len _ _ (xs.take k).length _ d.cap]; exact hb)⟩
  rcases h.1 with ⟨c, e, e1, e2⟩ | ⟨b, o, cap, row, e, hM, hc, hb, hr, he⟩
  · subst e2; left; exact ⟨c, by simpa using e, e1, by simp⟩
  · right
    refine ⟨b, o, cap, row, ?_, hM, by omega, by omega, hr, ?_⟩
    · rw [hl]; simp only [Value.slice.injEq, true_and] at e ⊢; exact ⟨e.1, e.2⟩
    · rw [hl, ← flat_take hs xs k hk, ← he, List.take_take]
      congr 1
      have := Nat.mul_le_mul_right size hk
      omega
def D.drop (d : D) (size k : Nat) : D := ⟨match d.a with | some ⟨b, o, none⟩ => some (if d.cap = k then ⟨b, o, none⟩ else ⟨b, o + k * size, none⟩) | x => x, d.cap - k⟩
theorem rd_bx {b o : Nat} {vs : List Value} {v : Value} (h : vs[o]? = some v) : RdA (bx b vs) b o v := ⟨fun m hm => by
  have hm : m = one b (.row vs) := hm
  subst hm; unfold cell; rw [one_same]; exact h⟩
theorem rs_bx {b o n : Nat} {vs ws : List Value} (ho : o + n ≤ vs.length) (h : (vs.drop o).take n = ws) : RsA (bx b vs) b o n ws := ⟨fun m hm => by
  have hm : m = one b (.row vs) := hm
  subst hm; unfold cells; rw [one_same]; simp only; rw [if_pos ho, h]⟩
theorem up_bx {b o : Nat} {vs ws : List Value} {A : Asr} (ho : o + ws.length ≤ vs.length) (hA : WrK vs o ws (fun c => A = bx b c)) : UpA (bx b vs) b o ws A := ⟨fun m hm => by
  have hm : m = one b (.row vs) := hm
  have := hA.out
  subst hm; subst this
  exact ⟨vs, one_same _ _, ho, one_upd _ _ _⟩⟩
end
def keyI (e : MapEntry) : Int := match e.key with | .int _ j => j | _ => 0
def mpA (b : Nat) (g : Int → Option Value) : Asr := fun m => ∃ es c, m = one b (.mp es c) ∧ mpInts es.toList = true ∧ (es.toList.map keyI).Nodup ∧ ∀ j, mpFind j es.toList = g j
theorem keyIs_iff {j : Int} {e : MapEntry} (h : (match e.key with | .int .i64 _ => true | _ => false) = true) : keyIs j e = decide (keyI e = j) := by
  unfold keyIs keyI
  split at h
  · rename_i i hk; rw [hk]; simp only; by_cases h : i = j <;> simp [h]
  · cases h
theorem mpFind_cons {j : Int} {e : MapEntry} {r : List MapEntry} (h : (match e.key with | .int .i64 _ => true | _ => false) = true) : mpFind j (e :: r) = if keyI e = j then some e.val else mpFind j r := by
  unfold keyI
  split at h
  · rename_i i hk; simp only [mpFind, hk]
  · cases h
theorem mpFind_none {j : Int} : ∀ {l : List MapEntry}, mpInts l = true → (mpFind j l = none ↔ j ∉ l.map keyI)
  | [], _ => by simp [mpFind]
  | e :: r, h => by
    simp only [mpInts, Bool.and_eq_true] at h
    rw [mpFind_cons h.1]
    by_cases hk : keyI e = j
    · simp [hk]
    · rw [if_neg hk, mpFind_none h.2, List.map_cons, List.mem_cons, not_or]; exact ⟨fun a => ⟨fun e => hk e.symm, a⟩, fun a => a.2⟩
theorem mp_set {j : Int} {y : Value} : ∀ {l : List MapEntry} {i : Nat}, mpInts l = true → l.findIdx? (keyIs j) = some i →
    let l' := l.modify i fun e => { e with key := .int .i64 j, val := y }
    mpInts l' = true ∧ l'.map keyI = l.map keyI ∧ ∀ j', mpFind j' l' = if j' = j then some y else mpFind j' l
  | [], i, _, hi => by simp at hi
  | e :: r, i, h, hi => by
    simp only [mpInts, Bool.and_eq_true] at h
    rw [List.findIdx?_cons, keyIs_iff h.1] at hi
    by_cases hk : keyI e = j
    · simp only [hk, decide_true, if_true, Option.some.injEq] at hi
      subst hi
      simp only [List.modify_zero_cons]
      refine ⟨by simp only [mpInts, Bool.true_and]; exact h.2, ?_, ?_⟩
      · simp only [List.map_cons, List.cons.injEq, and_true]; rw [hk]; rfl
      · intro j'
        rw [mpFind_cons (by rfl), mpFind_cons h.1]
        have : keyI { key := Value.int IntKind.i64 j, val := y, born := e.born } = j := rfl
        simp only [this, hk]
        by_cases h' : j' = j
        · rw [if_pos h'.symm, if_pos h']
        · rw [if_neg (fun e => h' (Eq.symm e)), if_neg (fun e => h' (Eq.symm e)), if_neg h']
    · simp only [hk, decide_false, Bool.false_eq_true, if_false, Option.map_eq_some_iff] at hi
      obtain ⟨i', hi', rfl⟩ := hi
      obtain ⟨a1, a2, a3⟩ := mp_set (y := y) h.2 hi'
      simp only [List.modify_succ_cons]
      refine ⟨by simp only [mpInts, Bool.and_eq_true]; exact ⟨h.1, a1⟩, ?_, ?_⟩
      · simp only [List.map_cons, List.cons.injEq, true_and]; exact a2
      · intro j'
        rw [mpFind_cons h.1, mpFind_cons h.1, a3 j']
        by_cases h' : keyI e = j'
        · rw [if_pos h', if_pos h', if_neg (fun e' => hk (h'.trans e'))]
        · rw [if_neg h', if_neg h']
theorem mp_push {j : Int} {y : Value} {c : Nat} : ∀ {l : List MapEntry}, mpInts l = true → l.findIdx? (keyIs j) = none →
    let l' := l ++ [⟨.int .i64 j, y, c⟩]
    mpInts l' = true ∧ j ∉ l.map keyI ∧ l'.map keyI = l.map keyI ++ [j] ∧ ∀ j', mpFind j' l' = if j' = j then some y else mpFind j' l
  | [], _, _ => by
    refine ⟨rfl, by simp, rfl, fun j' => ?_⟩
    simp only [List.nil_append, mpFind]
    by_cases h : j' = j
    · rw [if_pos h.symm, if_pos h]
    · rw [if_neg (fun e => h (Eq.symm e)), if_neg h]
  | e :: r, h, hi => by
    simp only [mpInts, Bool.and_eq_true] at h
    rw [List.findIdx?_cons, keyIs_iff h.1] at hi
    by_cases hk : keyI e = j
    · simp [hk] at hi
    · simp only [hk, decide_false, Bool.false_eq_true, if_false, Option.map_eq_none_iff] at hi
      obtain ⟨a1, a2, a3, a4⟩ := mp_push (y := y) (c := c) h.2 hi
      refine ⟨by simp only [List.cons_append, mpInts, Bool.and_eq_true]; exact ⟨h.1, a1⟩, ?_, by simp only [List.cons_append, List.map_cons, a3], ?_⟩
      · simp only [List.map_cons, List.mem_cons, not_or]; exact ⟨fun e => hk e.symm, a2⟩
      · intro j'
        rw [List.cons_append, mpFind_cons h.1, mpFind_cons h.1, a4 j']
        by_cases h' : keyI e = j'
        · rw [if_pos h', if_pos h', if_neg (fun e' => hk (h'.trans e'))]
        · rw [if_neg h', if_neg h']
theorem mp_del {j : Int} : ∀ {l : List MapEntry} {i : Nat}, mpInts l = true → (l.map keyI).Nodup → l.findIdx? (keyIs j) = some i →
    mpInts (l.eraseIdx i) = true ∧ ((l.eraseIdx i).map keyI).Nodup ∧ ∀ j', mpFind j' (l.eraseIdx i) = if j' = j then none else mpFind j' l
  | [], i, _, _, hi => by simp at hi
  | e :: r, i, h, hn, hi => by
    simp only [mpInts, Bool.and_eq_true] at h
    simp only [List.map_cons, List.nodup_cons] at hn
    rw [List.findIdx?_cons, keyIs_iff h.1] at hi
    by_cases hk : keyI e = j
    · simp only [hk, decide_true, if_true, Option.some.injEq] at hi
      subst hi
      simp only [List.eraseIdx_zero, List.tail_cons]
      refine ⟨h.2, hn.2, fun j' => ?_⟩
      rw [mpFind_cons h.1]
      by_cases h' : j' = j
      · rw [if_pos h', h']; exact (mpFind_none h.2).2 (by rw [← hk]; exact hn.1)
      · rw [if_neg h', if_neg (fun e' => h' (by rw [← e', hk]))]
    · simp only [hk, decide_false, Bool.false_eq_true, if_false, Option.map_eq_some_iff] at hi
      obtain ⟨i', hi', rfl⟩ := hi
      obtain ⟨a1, a2, a3⟩ := mp_del h.2 hn.2 hi'
      simp only [List.eraseIdx_cons_succ]
      refine ⟨by simp only [mpInts, Bool.and_eq_true]; exact ⟨h.1, a1⟩, ?_, fun j' => ?_⟩
      · simp only [List.map_cons, List.nodup_cons]
        refine ⟨fun hm => hn.1 ?_, a2⟩
        exact List.Sublist.subset ((List.eraseIdx_sublist _ _).map keyI) hm
      · rw [mpFind_cons h.1, mpFind_cons h.1, a3 j']
        by_cases h' : keyI e = j'
        · rw [if_pos h', if_pos h', if_neg (fun e' => hk (h'.trans e'))]
        · rw [if_neg h', if_neg h']
theorem mpSet_A {b : Nat} {g : Int → Option Value} {es : Array MapEntry} {c : Nat} {j : Int} {y : Value} (h1 : mpInts es.toList = true) (h2 : (es.toList.map keyI).Nodup) (h3 : ∀ j, mpFind j es.toList = g j) :
    mpA b (fun i => if i = j then some y else g i) (one b (mpSet es c (.int .i64 j) j y)) := by
  unfold mpSet
  cases hf : es.toList.findIdx? (keyIs j) with
  | some i =>
    obtain ⟨a1, a2, a3⟩ := mp_set (y := y) h1 hf
    refine ⟨_, c, rfl, ?_⟩
    rw [Array.toList_modify]
    exact ⟨a1, by rw [a2]; exact h2, fun j' => by rw [a3 j', h3 j']⟩
  | none =>
    obtain ⟨a1, a2, a3, a4⟩ := mp_push (y := y) (c := c) h1 hf
    refine ⟨_, c + 1, rfl, ?_⟩
    rw [Array.toList_push]
    exact ⟨a1, by rw [a3]; exact List.nodup_append.2 ⟨h2, by simp, fun x hx y hy e => by simp at hy; subst hy; subst e; exact a2 hx⟩, fun j' => by rw [a4 j', h3 j']⟩
theorem mpDel_A {b : Nat} {g : Int → Option Value} {es : Array MapEntry} {c : Nat} {j : Int} (h1 : mpInts es.toList = true) (h2 : (es.toList.map keyI).Nodup) (h3 : ∀ j, mpFind j es.toList = g j) :
    mpA b (fun i => if i = j then none else g i) (one b (mpDel es c j)) := by
  unfold mpDel
  cases hf : es.toList.findIdx? (keyIs j) with
  | some i =>
    obtain ⟨a1, a2, a3⟩ := mp_del h1 h2 hf
    refine ⟨_, c, rfl, ?_⟩
    rw [Array.toList_eraseIdxIfInBounds]
    exact ⟨a1, a2, fun j' => by rw [a3 j', h3 j']⟩
  | none =>
    refine ⟨es, c, rfl, h1, h2, fun j' => ?_⟩
    rw [h3 j']
    show g j' = if j' = j then none else g j'
    by_cases e : j' = j
    · rw [if_pos e, e, ← h3 j]
      refine (mpFind_none h1).2 fun hm => ?_
      obtain ⟨x, hx, hk⟩ := List.mem_map.1 hm
      have := List.findIdx?_eq_none_iff.1 hf x hx
      have hx2 : ∀ {l : List MapEntry}, mpInts l = true → x ∈ l → (match x.key with | .int .i64 _ => true | _ => false) = true := by
        intro l
        induction l with
        | nil => intro _ h; cases h
        | cons e r ih =>
          intro h hm
          simp only [mpInts, Bool.and_eq_true] at h
          rcases List.mem_cons.1 hm with rfl | hm
          · exact h.1
          · exact ih h.2 hm
      rw [keyIs_iff (hx2 h1 hx), hk] at this
      simp at this
    · rw [if_neg e]
end Go.Proofs.Ytcmllambknfleaa.E
set_option linter.unusedVariables false
set_option linter.unusedSimpArgs false
namespace Go.Proofs.Ytcmllambknfleaa.E
open Go
def UpC (p : St → Mem → Prop) : Prop := ∀ S M M', M.le M' → p S M → p S M'
theorem upP_up (post : St → List Asr → Prop) : UpC (upP post) := fun S M M' l ⟨As, m, h1, h2, h3⟩ => ⟨As, m, Mem.le_trans h1 l, h2, h3⟩
theorem le_none {M M' : Mem} (l : M.le M') {b : Nat} (h : M' b = none) : M b = none := by
  cases e : M b with
  | none => rfl
  | some k => rw [l b k e] at h; cases h
theorem Qt.up {P : Program} {f : FuncId} {args : List Value} {M M' : Mem} {v : Value} (l : M.le M') (h : Qt P f args M v) : Qt P f args M' v := by
  have hd : Disj M (fun x => match M x with | none => M' x | some _ => none) := fun x => by
    cases e : M x with
    | none => exact .inl rfl
    | some k => right; simp only [e]
  have he : M.un (fun x => match M x with | none => M' x | some _ => none) = M' := by
    funext x
    cases e : M x with
    | none => rw [un_n e]; simp only [e]
    | some k => rw [un_l e, l x k e]
  have := Fn.frame hd h
  rw [he] at this
  refine this.mono ?_
  rintro v' M1 ⟨m', ⟨h1, h2⟩, _, h3⟩
  subst h2
  exact ⟨h1, h3.trans he⟩
theorem fe_up {P : Program} {f : Nat → SV} {M M' : Mem} (l : M.le M') {k : K} {sv : SV} (h : FE P f M k sv) : FE P f M' k sv := by
  rcases h with h | h
  · exact .inl h
  · right
    cases k <;> (try (exact h.elim)) <;> (try exact h)
    case load one n x =>
      obtain ⟨b, o, cs, v, h1, h2, h3, h4⟩ := h
      exact ⟨b, o, cs, v, h1, h2.imp (l _ _) (fun ⟨t, fr, e⟩ => ⟨t, fr, l _ _ e⟩), h3, h4⟩
    case alloc ow z => cases ow <;> first | exact h.elim | exact h
    case box ow z => cases ow <;> first | exact h.elim | exact h
    case bslice ow len size z ps => cases ow <;> first | exact h.elim | exact h
    case look one z ok x i =>
      obtain ⟨es, c, j, h1, h2⟩ := h
      refine ⟨es, c, j, h1.imp id (fun ⟨b, e1, e2⟩ => ⟨b, e1, l _ _ e2⟩), h2⟩
    case qcall g xs =>
      obtain ⟨args, r, h1, h2, h3⟩ := h
      exact ⟨args, r, h1, h2.up l, h3⟩
theorem srcV_up {M M' : Mem} (l : M.le M') {size : Nat} {v : Value} {s : List Value × Nat} (h : srcC.srcV M size v = some s) : srcC.srcV M' size v = some s := by
  unfold srcC.srcV at *
  split at h
  · exact h
  · rename_i b o k c
    split at h
    · rename_i cs hM; simp only [l _ _ hM]; exact h
    · cases h
  · exact h
  · cases h
theorem src_up {f : Nat → SV} {M M' : Mem} (l : M.le M') {size : Nat} {x : Operand} {s : List Value × Nat} (h : srcC f M size x = some s) : srcC f M' size x = some s := by
  unfold srcC at *
  split at h
  · split at h
    · exact h
    · exact srcV_up l h
    · cases h
  · exact srcV_up l h
  · cases h
theorem appM_up {M M' : Mem} (l : M.le M') {size bytes : Nat} {s : Value} {src : List Value} {k : Nat} {q : Value → Mem → Prop} (hq : ∀ v M M', M.le M' → q v M → q v M') (h : appM M size bytes s src k q) : appM M' size bytes s src k q := by
  unfold appM at *
  split at h
  · obtain ⟨h1, h2, h3, h4⟩ := h
    refine ⟨h1, h2, h3, ?_⟩
    rcases h4 with ⟨h5, h6⟩ | ⟨h5, h6⟩
    · exact .inl ⟨h5, hq _ _ _ l h6⟩
    · exact .inr ⟨h5, fun b c z e1 e2 e3 => hq _ _ _ (Mem.upd_le_upd l _ _) (h6 b c z (le_none l e1) e2 e3)⟩
  · obtain ⟨cs, h1, h2, h4⟩ := h
    refine ⟨cs, l _ _ h1, h2, ?_⟩
    rcases h4 with ⟨h5, h6, h7⟩ | ⟨h5, h6, h7⟩
    · exact .inl ⟨h5, h6, hq _ _ _ (Mem.upd_le_upd l _ _) h7⟩
    · exact .inr ⟨h5, h6, fun b c z e1 e2 e3 => hq _ _ _ (Mem.upd_le_upd l _ _) (h7 b c z (le_none l e1) e2 e3)⟩
  · exact h
theorem vcK_up {P : Program} {k : K} {d : Option Nat} {p : St → Mem → Prop} (hp : UpC p) {S : St} {M M' : Mem} (l : M.le M') (h : vcK P k d p S M) : vcK P k d p S M' := by
  have flo : (∃ sv, FE P S M k sv ∧ p (if sv.isBox then putB S d sv else put S d sv) M) → ∃ sv, FE P S M' k sv ∧ p (if sv.isBox then putB S d sv else put S d sv) M' :=
    fun ⟨sv, h1, h2⟩ => ⟨sv, fe_up l h1, hp _ _ _ l h2⟩
  cases k
  case call => obtain ⟨args, h1, h2⟩ := h; exact ⟨args, h1, h2.le l⟩
  case callv => obtain ⟨g, u, c, args, h1, h2, h3, h4⟩ := h; exact ⟨g, u, c, args, h1, h2, h3, h4.le l⟩
  case store =>
    obtain ⟨v, h1, h2, h3, h4⟩ := h
    refine ⟨v, h1, h2, h3, ?_⟩
    rcases h4 with ⟨s, o, cs, a1, a2, a3, a4⟩ | ⟨b, o, cs, a1, a2, a3, a4⟩
    · exact .inl ⟨s, o, cs, a1, a2, a3, hp _ _ _ l a4⟩
    · exact .inr ⟨b, o, cs, a1, l _ _ a2, a3, hp _ _ _ (Mem.upd_le_upd l _ _) a4⟩
  case alloc ow z =>
    cases ow with
    | false => exact fun b hb => hp _ _ _ (Mem.upd_le_upd l _ _) (h b (le_none l hb))
    | true => exact flo h
  case box ow x =>
    cases ow with
    | false => obtain ⟨v, h1, h2⟩ := h; exact ⟨v, h1, fun b hb => hp _ _ _ (Mem.upd_le_upd l _ _) (h2 b (le_none l hb))⟩
    | true => exact flo h
  case bslice ow len size z ps =>
    cases ow with
    | false => obtain ⟨v, h1, h2⟩ := h; exact ⟨v, h1, fun b hb => hp _ _ _ (Mem.upd_le_upd l _ _) (h2 b (le_none l hb))⟩
    | true => exact flo h
  case mkslice => obtain ⟨n, m, h1, h2, h3, h4, h5, h6⟩ := h; exact ⟨n, m, h1, h2, h3, h4, h5, fun b hb => hp _ _ _ (Mem.upd_le_upd l _ _) (h6 b (le_none l hb))⟩
  case app => obtain ⟨sv, src, n, h1, h2, h3, h4⟩ := h; exact ⟨sv, src, n, h1, src_up l h2, h3, appM_up l (fun _ _ _ l h => hp _ _ _ l h) h4⟩
  case appz => obtain ⟨sv, n, h1, h2, h3, h4, h5⟩ := h; exact ⟨sv, n, h1, h2, h3, h4, appM_up l (fun _ _ _ l h => hp _ _ _ l h) h5⟩
  case mkmap => exact fun b hb => hp _ _ _ (Mem.upd_le_upd l _ _) (h b (le_none l hb))
  case mupd => obtain ⟨b, es, c, j, v, h1, h2, h3, h4, h5, h6⟩ := h; exact ⟨b, es, c, j, v, h1, l _ _ h2, h3, h4, h5, hp _ _ _ (Mem.upd_le_upd l _ _) h6⟩
  case mdel => obtain ⟨b, es, c, j, h1, h2, h3, h4, h5⟩ := h; exact ⟨b, es, c, j, h1, l _ _ h2, h3, h4, hp _ _ _ (Mem.upd_le_upd l _ _) h5⟩
  all_goals exact flo h
theorem vcL_up {P : Program} {p : St → Mem → Prop} (hp : UpC p) : ∀ l : List I, UpC (vcL P l p)
  | [] => hp
  | i :: r => fun S M M' le h => by
    have ih := vcL_up (P := P) hp r
    show vcO P i (vcL P r p) S M'
    have h : vcO P i (vcL P r p) S M := h
    unfold vcO at *
    split at h
    · exact vcK_up ih le h
    · split at h
      · exact ⟨fun e => vcK_up ih le (h.1 e), fun e => ih _ _ _ le (h.2 e)⟩
      · exact ih _ _ _ le h
      · exact h
theorem LA.at {P : Program} {l : List I} {post : St → List Asr → Prop} {S : St} {As : List Asr} (h : LA P l post S As) {m M : Mem} (s : star As m) (le : m.le M) : VL P l (upP post) S M :=
  ⟨vcL_up (upP_up post) l S m M le (h.out m s).out⟩

section
variable {P : Program} {S : St} {As : List Asr} {post : St → List Asr → Prop} {r : List I} {d : Option Nat}
theorem a_n (h : post S As) : LA P [] post S As := ⟨fun m hm => vl_nil (upP_of hm h)⟩
theorem a_p {k : K} {sv : SV} (h : pe S k = some sv) (hp : LA P r post (put S d sv) As) : LA P (⟨d, none, k⟩ :: r) post S As := ⟨fun m hm => vl_pure h (hp.out m hm)⟩
theorem a_ad {x y : Operand} {a b : Int} (hx : ev S x = some (.int .i64 a)) (hy : ev S y = some (.int .i64 b)) (hb : -9223372036854775808 ≤ a + b ∧ a + b ≤ 9223372036854775807)
    (hp : LA P r post (put S d (.v (.int .i64 (a + b)))) As) : LA P (⟨d, none, .bin .add x y⟩ :: r) post S As := ⟨fun m hm => vl_add hx hy hb (hp.out m hm)⟩
theorem a_su {x y : Operand} {a b : Int} (hx : ev S x = some (.int .i64 a)) (hy : ev S y = some (.int .i64 b)) (hb : -9223372036854775808 ≤ a - b ∧ a - b ≤ 9223372036854775807)
    (hp : LA P r post (put S d (.v (.int .i64 (a - b)))) As) : LA P (⟨d, none, .bin .sub x y⟩ :: r) post S As := ⟨fun m hm => vl_sub hx hy hb (hp.out m hm)⟩
theorem a_ml {x y : Operand} {a b : Int} (hx : ev S x = some (.int .i64 a)) (hy : ev S y = some (.int .i64 b)) (hb : -9223372036854775808 ≤ a * b ∧ a * b ≤ 9223372036854775807)
    (hp : LA P r post (put S d (.v (.int .i64 (a * b)))) As) : LA P (⟨d, none, .bin .mul x y⟩ :: r) post S As := ⟨fun m hm => vl_mul hx hy hb (hp.out m hm)⟩
/-- an element's address -/
theorem a_i {e : D} {x y : Operand} {size n cap : Nat} {k : IntKind} {i : Int} (hx : ev S x = some (.slice e.a n cap)) (hy : ev S y = some (.int k i)) (hb : Kn As (e.a = some ⟨e.b, e.o, none⟩)) (hi : 0 ≤ i ∧ i < n)
    (hp : LA P r post (put S d (.v (.pointer (some ⟨e.b, e.o + i.toNat * size, none⟩)))) As) : LA P (⟨d, none, .iaddr size x y⟩ :: r) post S As :=
  ⟨fun m hm => vl_idx (by rw [hx, hb.out m hm]) hy hi (hp.out m hm)⟩
theorem a_l {n : Nat} {x : Operand} {b o : Nat} {v : Value} (hx : lc S x = some (.mm b o)) (hv : Rd As b o v) (hp : LA P r post (put S d (.v v)) As) : LA P (⟨d, none, .load true n x⟩ :: r) post S As :=
  ⟨fun m hm => vl_ld hx (hv.out m hm) (hp.out m hm)⟩
theorem a_ls {n : Nat} {x : Operand} {b o : Nat} {vs : List Value} (hx : lc S x = some (.mm b o)) (hv : Rs As b o n vs) (hp : LA P r post (put S d (.v (.agg vs.toArray))) As) : LA P (⟨d, none, .load false n x⟩ :: r) post S As :=
  ⟨fun m hm => vl_lds hx (hv.out m hm) (hp.out m hm)⟩
theorem a_al {z : List Value} (hp : LA P r post (putB S d (.box z)) As) : LA P (⟨d, none, .alloc true z⟩ :: r) post S As := ⟨fun m hm => vl_alloc (hp.out m hm)⟩
theorem a_bx {x : Operand} {v : Value} {cs : List Value} (hx : ev S x = some v) (hc : v.cells.toList = cs) (hp : LA P r post (putB S d (.box cs)) As) : LA P (⟨d, none, .box true x⟩ :: r) post S As := ⟨fun m hm => vl_box hx hc (hp.out m hm)⟩
theorem a_bl {len size : Nat} {z cs : List Value} {ps : List (Nat × Nat × Operand)} (hf : fillP S z ps = some cs) (hp : LA P r post (putB S d (.bsl cs len)) As) : LA P (⟨d, none, .bslice true len size z ps⟩ :: r) post S As := ⟨fun _ hm => vl_bsl hf (hp.out _ hm)⟩
theorem a_q {g : FuncId} {xs : List Operand} {args : List Value} {v : Value} (hx : evs S xs = some args) (hq : ∀ m, star As m → Qt P g args m v) (hp : LA P r post (put S d (.v v)) As) : LA P (⟨d, none, .qcall g xs⟩ :: r) post S As := ⟨fun m hm => vl_q hx (hq m hm) (hp.out m hm)⟩
theorem a_cq {g : FuncId} {xs : List Operand} {args : List Value} {v : Value} (hx : evs S xs = some args) (hq : ∀ m, star As m → Qt P g args m v) (hp : LA P r post (put S d (.v v)) As) : LA P (⟨d, none, .call g xs⟩ :: r) post S As := ⟨fun m hm => vl_cq hx (hq m hm) (hp.out m hm)⟩
theorem a_c {g : FuncId} {xs : List Operand} {args : List Value} {As1 F : List Asr} {q : Value → List Asr → Prop} (hx : evs S xs = some args) (hq : FnA P g args As1 q) (hm : Pm As As1 F) (hp : ∀ v As', q v As' → LA P r post (put S d (.v v)) (As' ++ F)) :
    LA P (⟨d, none, .call g xs⟩ :: r) post S As :=
  ⟨fun m s => vl_c hx ((hq.frame (F := F)).out m (hm.out m s)) (fun v M' ⟨As', m', l, s', As1', h1, e⟩ => by subst e; exact (hp v As1' h1).at s' l)⟩
theorem a_cv {g : FuncId} {x : Operand} {u c : Array Value} {xs : List Operand} {args : List Value} {As1 F : List Asr} {q : Value → List Asr → Prop} (hf : ev S x = some (.func (.func g) u c)) (hok : fnOk P g = true) (hx : evs S xs = some args) (hq : FnA P g (u.toList ++ args ++ c.toList) As1 q) (hm : Pm As As1 F)
    (hp : ∀ v As', q v As' → LA P r post (put S d (.v v)) (As' ++ F)) : LA P (⟨d, none, .callv x xs⟩ :: r) post S As :=
  ⟨fun m s => vl_cv hf hok hx ((hq.frame (F := F)).out m (hm.out m s)) (fun v M' ⟨As', m', l, s', As1', h1, e⟩ => by subst e; exact (hp v As1' h1).at s' l)⟩
/-- a function value that only looks -/
theorem a_cvq {g : FuncId} {x : Operand} {u c : Array Value} {xs : List Operand} {args : List Value} {v : Value} (hf : ev S x = some (.func (.func g) u c)) (hok : fnOk P g = true) (hx : evs S xs = some args) (hq : ∀ m, star As m → Qt P g (u.toList ++ args ++ c.toList) m v)
    (hp : LA P r post (put S d (.v v)) As) : LA P (⟨d, none, .callv x xs⟩ :: r) post S As :=
  ⟨fun m s => vl_cv hf hok hx (hq m s) (fun v' M' ⟨h1, h2⟩ => by subst h1; rw [h2]; exact hp.out m s)⟩
/-- stores -/
theorem a_sw {n : Nat} {x y : Operand} {s o : Nat} {cs : List Value} {v : Value} (hx : lc S x = some (.bx s o)) (hb : S s = .box cs) (hy : ev S y = some v) (hn : v.cells.size = n) (hpl : plainCells v.cells.toList = true) (hle : o + n ≤ cs.length)
    (hw : WrK cs o v.cells.toList (fun cs' => LA P r post (upF S s (.box cs')) As)) : LA P (⟨d, none, .store n x y⟩ :: r) post S As := ⟨fun m hm => vl_stb hx hb hy hn hpl hle rfl (hw.out.out m hm)⟩
theorem a_st {n : Nat} {x y : Operand} {b o : Nat} {v : Value} {As' : List Asr} (hx : lc S x = some (.mm b o)) (hy : ev S y = some v) (hn : v.cells.size = n) (hpl : plainCells v.cells.toList = true) (hu : Up As b o v.cells.toList As')
    (hp : LA P r post S As') : LA P (⟨d, none, .store n x y⟩ :: r) post S As :=
  ⟨fun m hm => by
    obtain ⟨row, h1, h2, h3⟩ := hu.out m hm
    exact vl_stm hx h1 hy hn hpl (by simp only [Array.length_toList] at h2; omega) (hp.out _ h3)⟩
/-- guards -/
theorem a_gy {s : Nat} {w : Bool} {k : K} {b : Bool} (hs : S s = .v (.bool b)) (hb : b = w) (hp : LA P (⟨d, none, k⟩ :: r) post S As) : LA P (⟨d, some (s, w), k⟩ :: r) post S As := ⟨fun m hm => vl_gy hs hb (hp.out m hm)⟩
theorem a_gn {s : Nat} {w : Bool} {k : K} {b : Bool} (hs : S s = .v (.bool b)) (hb : b = !w) (hp : LA P r post (put S d (.v undef)) As) : LA P (⟨d, some (s, w), k⟩ :: r) post S As := ⟨fun m hm => vl_gn hs hb (hp.out m hm)⟩
theorem a_gu {s : Nat} {w : Bool} {k : K} (hs : S s = .v undef) (hp : LA P r post (put S d (.v undef)) As) : LA P (⟨d, some (s, w), k⟩ :: r) post S As := ⟨fun m hm => vl_gu hs (hp.out m hm)⟩
theorem a_gs {s : Nat} {wt : Bool} {k : K} {b : Bool} (hs : S s = .v (.bool b)) (h1 : b = true → LA P (⟨d, some (s, wt), k⟩ :: r) post (upF S s (.v (.bool true))) As) (h2 : b = false → LA P (⟨d, some (s, wt), k⟩ :: r) post (upF S s (.v (.bool false))) As) : LA P (⟨d, some (s, wt), k⟩ :: r) post S As := by
  cases b
  · have := h2 rfl; rwa [upF_self hs] at this
  · have := h1 rfl; rwa [upF_self hs] at this
theorem a_gd {s : Nat} {wt : Bool} {k : K} {p : Prop} {_ : Decidable p} (hs : S s = .v (.bool (decide p))) (h1 : p → LA P (⟨d, some (s, wt), k⟩ :: r) post (upF S s (.v (.bool true))) As) (h2 : ¬ p → LA P (⟨d, some (s, wt), k⟩ :: r) post (upF S s (.v (.bool false))) As) : LA P (⟨d, some (s, wt), k⟩ :: r) post S As :=
  a_gs hs (fun h => h1 (of_decide_eq_true h)) (fun h => h2 (of_decide_eq_false h))
theorem a_ge {s : Nat} {wt : Bool} {k : K} {u w : Int} (hs : S s = .v (.bool (u == w))) (h1 : u = w → LA P (⟨d, some (s, wt), k⟩ :: r) post (upF S s (.v (.bool true))) As) (h2 : u ≠ w → LA P (⟨d, some (s, wt), k⟩ :: r) post (upF S s (.v (.bool false))) As) : LA P (⟨d, some (s, wt), k⟩ :: r) post S As :=
  a_gs hs (fun h => h1 (by simpa using h)) (fun h => h2 (by simpa using h))
theorem a_gne {s : Nat} {wt : Bool} {k : K} {u w : Int} (hs : S s = .v (.bool (u != w))) (h1 : u ≠ w → LA P (⟨d, some (s, wt), k⟩ :: r) post (upF S s (.v (.bool true))) As) (h2 : u = w → LA P (⟨d, some (s, wt), k⟩ :: r) post (upF S s (.v (.bool false))) As) : LA P (⟨d, some (s, wt), k⟩ :: r) post S As :=
  a_gs hs (fun h => h1 (by simpa using h)) (fun h => h2 (by simpa using h))
theorem a_gnd {s : Nat} {wt : Bool} {k : K} {p : Prop} {_ : Decidable p} (hs : S s = .v (.bool (!decide p))) (h1 : ¬ p → LA P (⟨d, some (s, wt), k⟩ :: r) post (upF S s (.v (.bool true))) As) (h2 : p → LA P (⟨d, some (s, wt), k⟩ :: r) post (upF S s (.v (.bool false))) As) : LA P (⟨d, some (s, wt), k⟩ :: r) post S As :=
  a_gs hs (fun h => h1 (by simpa using h)) (fun h => h2 (by simpa using h))
theorem a_ps {s : Nat} {x y : Operand} {b : Bool} (hs : S s = .v (.bool b)) (h1 : b = true → LA P (⟨d, none, .pick (.tmp s) x y⟩ :: r) post (upF S s (.v (.bool true))) As) (h2 : b = false → LA P (⟨d, none, .pick (.tmp s) x y⟩ :: r) post (upF S s (.v (.bool false))) As) : LA P (⟨d, none, .pick (.tmp s) x y⟩ :: r) post S As := by
  cases b
  · have := h2 rfl; rwa [upF_self hs] at this
  · have := h1 rfl; rwa [upF_self hs] at this
theorem a_pd {s : Nat} {x y : Operand} {p : Prop} {_ : Decidable p} (hs : S s = .v (.bool (decide p))) (h1 : p → LA P (⟨d, none, .pick (.tmp s) x y⟩ :: r) post (upF S s (.v (.bool true))) As) (h2 : ¬ p → LA P (⟨d, none, .pick (.tmp s) x y⟩ :: r) post (upF S s (.v (.bool false))) As) : LA P (⟨d, none, .pick (.tmp s) x y⟩ :: r) post S As :=
  a_ps hs (fun h => h1 (of_decide_eq_true h)) (fun h => h2 (of_decide_eq_false h))
theorem a_pe {s : Nat} {x y : Operand} {u w : Int} (hs : S s = .v (.bool (u == w))) (h1 : u = w → LA P (⟨d, none, .pick (.tmp s) x y⟩ :: r) post (upF S s (.v (.bool true))) As) (h2 : u ≠ w → LA P (⟨d, none, .pick (.tmp s) x y⟩ :: r) post (upF S s (.v (.bool false))) As) : LA P (⟨d, none, .pick (.tmp s) x y⟩ :: r) post S As :=
  a_ps hs (fun h => h1 (by simpa using h)) (fun h => h2 (by simpa using h))
theorem a_pne {s : Nat} {x y : Operand} {u w : Int} (hs : S s = .v (.bool (u != w))) (h1 : u ≠ w → LA P (⟨d, none, .pick (.tmp s) x y⟩ :: r) post (upF S s (.v (.bool true))) As) (h2 : u = w → LA P (⟨d, none, .pick (.tmp s) x y⟩ :: r) post (upF S s (.v (.bool false))) As) : LA P (⟨d, none, .pick (.tmp s) x y⟩ :: r) post S As :=
  a_ps hs (fun h => h1 (by simpa using h)) (fun h => h2 (by simpa using h))
theorem a_pnd {s : Nat} {x y : Operand} {p : Prop} {_ : Decidable p} (hs : S s = .v (.bool (!decide p))) (h1 : ¬ p → LA P (⟨d, none, .pick (.tmp s) x y⟩ :: r) post (upF S s (.v (.bool true))) As) (h2 : p → LA P (⟨d, none, .pick (.tmp s) x y⟩ :: r) post (upF S s (.v (.bool false))) As) : LA P (⟨d, none, .pick (.tmp s) x y⟩ :: r) post S As :=
  a_ps hs (fun h => h1 (by simpa using h)) (fun h => h2 (by simpa using h))
/-- new memory -/
theorem star_new {A : Asr} {m : Mem} {b : Nat} {k : Bk} (s : star As m) (hb : m b = none) (hA : A (one b k)) : star (A :: As) (m.upd b k) :=
  ⟨one b k, m, disj_one k hb, upd_one k hb, hA, s⟩
theorem a_nw {x : Operand} {v : Value} {vs : List Value} (hx : ev S x = some v) (hc : v.cells.toList = vs) (hp : ∀ b, LA P r post (put S d (.v (.pointer (some ⟨b, 0, none⟩)))) (bx b vs :: As)) : LA P (⟨d, none, .box false x⟩ :: r) post S As :=
  ⟨fun m hm => ⟨⟨v, hx, fun b hb => by subst hc; exact ((hp b).out _ (star_new hm hb rfl)).out⟩⟩⟩
theorem a_nz {z : List Value} (hp : ∀ b, LA P r post (put S d (.v (.pointer (some ⟨b, 0, none⟩)))) (bx b z :: As)) : LA P (⟨d, none, .alloc false z⟩ :: r) post S As :=
  ⟨fun m hm => ⟨fun b hb => ((hp b).out _ (star_new hm hb rfl)).out⟩⟩
theorem a_ns {α : Type} {f : α → List Value} {len size : Nat} {z cs : List Value} {ps : List (Nat × Nat × Operand)} (xs : List α) (hs : ∀ x, (f x).length = size) (hf : fillP S z ps = some cs) (hc : cs = xs.flatMap f) (hl : xs.length = len) (hb : len ≤ 140737488355328)
    (hp : ∀ e : D, e.cap = len → LA P r post (put S d (.v (.slice e.a len len))) (slA size f e xs :: As)) : LA P (⟨d, none, .bslice false len size z ps⟩ :: r) post S As :=
  ⟨fun m hm => ⟨⟨cs, hf, fun b hMb => by
    refine ((hp ⟨some ⟨b, 0, none⟩, len⟩ rfl).out _ (star_new hm hMb ⟨?_, ?_⟩)).out
    · right
      refine ⟨b, 0, len, cs, rfl, one_same _ _, by omega, by omega, ?_, ?_⟩
      · rw [hc, flat_len hs, hl]; omega
      · rw [List.drop_zero, hc]
        exact List.take_of_length_le (by rw [flat_len hs]; exact Nat.le_refl _)
    · intro c hc'
      exact one_ne _ (fun e => hc' (by subst e; simp [own]))⟩⟩⟩
theorem a_mk {α : Type} {f : α → List Value} {size bytes : Nat} {z : List Value} (e : α) {l c : Operand} {n k : Int} (hs : ∀ x, (f x).length = size) (hz : f e = z)
    (hl : ev S l = some (.int .i64 n)) (hc : ev S c = some (.int .i64 k)) (hnm : 0 ≤ n ∧ n ≤ k) (hb : k * bytes ≤ 140737488355328 ∧ k ≤ 140737488355328)
    (hp : ∀ g : D, g.cap = k.toNat → LA P r post (put S d (.v (.slice g.a n.toNat g.cap))) (slA size f g (List.replicate n.toNat e) :: As)) : LA P (⟨d, none, .mkslice size bytes z l c⟩ :: r) post S As :=
  ⟨fun m hm => ⟨⟨n.toNat, k.toNat, by rw [hl]; congr 2; omega, by rw [hc]; congr 2; omega, by omega, by
      have : ((k.toNat * bytes : Nat) : Int) ≤ 140737488355328 := by rw [Int.natCast_mul, Int.toNat_of_nonneg (by omega)]; exact hb.1
      omega, by omega, fun b hMb => by
    subst hz
    refine ((hp ⟨some ⟨b, 0, none⟩, k.toNat⟩ rfl).out _ (star_new hm hMb ⟨?_, ?_⟩)).out
    · right
      refine ⟨b, 0, k.toNat, _, rfl, one_same _ _, by simp; omega, by simp; omega, ?_, ?_⟩
      · rw [zrep_flat, flat_len hs]; simp
      · rw [zrep_flat, List.drop_zero, List.length_replicate]
        have : (List.replicate k.toNat e).flatMap f = (List.replicate n.toNat e).flatMap f ++ (List.replicate (k.toNat - n.toNat) e).flatMap f := by
          rw [← List.flatMap_append, List.replicate_append_replicate, show n.toNat + (k.toNat - n.toNat) = k.toNat by omega]
        rw [this, List.take_left' (by rw [flat_len hs]; simp)]
    · intro c hc'
      exact one_ne _ (fun e => hc' (by subst e; simp [own]))⟩⟩⟩
theorem Sl.own_s {M : Mem} {α : Type} {f : α → List Value} {size : Nat} {v : Value} {xs : List α} (h : Sl M size f v xs) {c : Nat} (hc : c ∈ own v) : M c ≠ none := by
  rcases h with ⟨c, rfl, _⟩ | ⟨b, o, cap, row, rfl, hM, _⟩
  · simp [own] at hc
  · simp [own] at hc; subst hc; rw [hM]; simp
/-- an append: where the slice lies now -/
theorem app_star {α : Type} {f : α → List Value} {size : Nat} {e : D} {xs zs : List α} {R : List Asr} {m M' : Mem} {v' : Value} (s : star (slA size f e xs :: R) m) (ha : AppE m (.slice e.a xs.length e.cap) v' M') (hs : Sl M' size f v' (xs ++ zs)) :
    ∃ e' : D, v' = .slice e'.a (xs ++ zs).length e'.cap ∧ ∃ m', m'.le M' ∧ star (slA size f e' (xs ++ zs) :: R) m' := by
  obtain ⟨a, c, dj, rfl, hA, hR⟩ := s
  obtain ⟨a', cap', rfl⟩ := hs.len
  refine ⟨⟨a', cap'⟩, rfl, ?_⟩
  have sub : ∀ (L : List Nat) (M1 : Mem), Sl M1 size f (.slice a' (xs ++ zs).length cap') (xs ++ zs) → (∀ b, b ∈ own (.slice a' (xs ++ zs).length cap') → b ∈ L) → Sl (fun b => if b ∈ L then M1 b else none) size f (.slice a' (xs ++ zs).length cap') (xs ++ zs) := by
    intro L M1 h hL
    rcases h with h | ⟨b, o, cap, row, e1, hM, h3⟩
    · exact .inl h
    · refine .inr ⟨b, o, cap, row, e1, ?_, h3⟩
      have : b ∈ L := hL b (by rw [e1]; simp [own])
      simp only [this, if_true]; exact hM
  rcases ha with ⟨rfl, ho⟩ | ⟨b, hoff, ho, hb⟩
  · refine ⟨a.un c, Mem.le_refl _, a, c, dj, rfl, ⟨?_, ?_⟩, hR⟩
    · rcases hs with h | ⟨b, o, cap, row, e1, hM, h3⟩
      · exact .inl h
      · refine .inr ⟨b, o, cap, row, e1, ?_, h3⟩
        have hbo : b ∈ own (.slice e.a xs.length e.cap) := by rw [← ho, e1]; simp [own]
        have hac : a b ≠ none := Sl.own_s hA.1 hbo
        cases h : a b with
        | none => exact absurd h hac
        | some k => rw [un_l h] at hM; exact hM
    · intro b hb
      exact hA.2 b (by rw [← ho]; exact hb)
  · have hcb : c b = none := by
      rcases hb with hb | hb
      · have : a b ≠ none := Sl.own_s hA.1 (by rw [hb]; simp)
        rcases dj b with h | h
        · exact absurd h this
        · exact h
      · exact (un_none.1 hb).2
    refine ⟨Mem.un (fun x => if x ∈ [b] then M' x else none) c, ?_, _, c, ?_, rfl, ⟨sub [b] M' hs (fun x hx => by rw [ho] at hx; exact hx), ?_⟩, hR⟩
    · intro x k hk
      by_cases hx : x = b
      · subst hx
        cases h : M' x with
        | none => rw [un_n (by simp [h])] at hk; rw [hcb] at hk; cases hk
        | some k' => rw [un_l (by simp; exact h)] at hk; exact hk
      · rw [un_n (by simp [hx])] at hk
        rw [hoff x hx]; exact un_r dj hk
    · intro x
      by_cases hx : x = b
      · subst hx; exact .inr hcb
      · exact .inl (by simp [hx])
    · intro x hx
      rw [ho] at hx
      simp only [hx, if_false]
theorem a_ap {α : Type} {f : α → List Value} {size bytes : Nat} {z : List Value} {xs : List α} {e : D} {R : List Asr} {t : Nat} {cs : List Value} {k : Nat} (zs : List α) {s : Operand} (hm : Pk As (slA size f e xs) R) (hs : ∀ x, (f x).length = size) (h0 : 0 < size ∧ 0 < bytes)
    (hv : ev S s = some (.slice e.a xs.length e.cap)) (ht : S t = .bsl cs k) (hc : cs = zs.flatMap f) (hk : zs.length = k) (hpl : plainCells cs = true) (hb : ((xs.length : Int) + k) * bytes ≤ 140737488355328)
    (hp : ∀ e' : D, LA P r post (put S d (.v (.slice e'.a (xs ++ zs).length e'.cap))) (slA size f e' (xs ++ zs) :: R)) : LA P (⟨d, none, .app size bytes z s (.tmp t)⟩ :: r) post S As :=
  ⟨fun m hm' => by
    have st := hm.out m hm'
    have hsl : Sl m size f (.slice e.a xs.length e.cap) xs := by
      obtain ⟨a, c, dj, e1, hA, hR⟩ := st
      exact hA.1.le (by rw [e1]; exact le_l _ _)
    subst hc
    refine ⟨⟨_, zs.flatMap f, zs.length, hv, ?_, hpl, appM_sl hs hsl h0.1 h0.2 ?_ (fun v' M' ha hs' => ?_)⟩⟩
    · unfold srcC
      simp only [ht]
      rw [hk, if_pos (by rw [flat_len hs, hk])]
    · have : (((xs.length + zs.length) * bytes : Nat) : Int) ≤ 140737488355328 := by rw [Int.natCast_mul, Int.natCast_add, hk]; exact hb
      omega
    · obtain ⟨e', rfl, m', l, s'⟩ := app_star st ha hs'
      exact ((hp e').at s' l).out⟩
/-- .. of what another slice holds -/
theorem a_as {α : Type} {f : α → List Value} {size bytes : Nat} {z : List Value} {xs zs : List α} {e g : D} {R : List Asr} {t : Nat} {s : Operand} (hm : Pk As (slA size f e xs) R) (hs : ∀ x, (f x).length = size) (h0 : 0 < size ∧ 0 < bytes)
    (hv : ev S s = some (.slice e.a xs.length e.cap)) (ht : S t = .v (.slice g.a zs.length g.cap)) (hg : ∀ m, star As m → Sl m size f (.slice g.a zs.length g.cap) zs) (hpl : plainCells (zs.flatMap f) = true) (hb : ((xs.length : Int) + zs.length) * bytes ≤ 140737488355328)
    (hp : ∀ e' : D, LA P r post (put S d (.v (.slice e'.a (xs ++ zs).length e'.cap))) (slA size f e' (xs ++ zs) :: R)) : LA P (⟨d, none, .app size bytes z s (.tmp t)⟩ :: r) post S As :=
  ⟨fun m hm' => by
    have st := hm.out m hm'
    have hsl : Sl m size f (.slice e.a xs.length e.cap) xs := by
      obtain ⟨a, c, dj, e1, hA, hR⟩ := st
      exact hA.1.le (by rw [e1]; exact le_l _ _)
    refine ⟨⟨_, zs.flatMap f, zs.length, hv, srcC_sl hs (hg m hm') ht, hpl, appM_sl hs hsl h0.1 h0.2 ?_ (fun v' M' ha hs' => ?_)⟩⟩
    · have : (((xs.length + zs.length) * bytes : Nat) : Int) ≤ 140737488355328 := by rw [Int.natCast_mul, Int.natCast_add]; exact hb
      omega
    · obtain ⟨e', rfl, m', l, s'⟩ := app_star st ha hs'
      exact ((hp e').at s' l).out⟩
/-- parts of slices -/
theorem a_tk {e : D} {x : Operand} {hi : Option Operand} {size n : Nat} {k : IntKind} {i : Int} (hx : ev S x = some (.slice e.a n e.cap)) (hh : optEv S hi = some (some (.int k i))) (hb : Kn As (e.a = none ∨ e.a = some ⟨e.b, e.o, none⟩)) (hi0 : 0 ≤ i ∧ i ≤ e.cap)
    (hp : LA P r post (put S d (.v (.slice e.a i.toNat e.cap))) As) : LA P (⟨d, none, .slc size x none hi⟩ :: r) post S As :=
  ⟨fun m hm => by
    refine vl_pure (sv := .v (.slice e.a i.toNat e.cap)) ?_ (hp.out m hm)
    have h1 : bnd (some (.int k i)) n = some i.toNat := by show (if 0 ≤ i then some i.toNat else none) = _; rw [if_pos hi0.1]
    have h2 : optEv S none = some none := rfl
    have h3 : bnd none 0 = some 0 := rfl
    simp only [pe, hx, hh, h2, slcV, h1, h3]
    rw [if_pos ⟨Nat.zero_le _, by omega⟩]
    rcases hb.out m hm with h | h <;> rw [h] <;> simp⟩
/-- maps -/
theorem a_mm (hp : ∀ b, LA P r post (put S d (.v (.map (some b)))) (mpA b (fun _ => none) :: As)) : LA P (⟨d, none, .mkmap⟩ :: r) post S As :=
  ⟨fun m hm => ⟨fun b hb => ((hp b).out _ (star_new hm hb ⟨#[], 0, rfl, rfl, by simp, fun j => rfl⟩)).out⟩⟩
theorem a_lk {one : Bool} {z : Value} {ok : Bool} {x i : Operand} {b : Nat} {g : Int → Option Value} {R : List Asr} {j : Int} {v : Value} (hm : Pk As (mpA b g) R) (hx : ev S x = some (.map (some b))) (hi : ev S i = some (.int .i64 j))
    (hv : (if ok then .tuple #[(g j).getD z, .bool (g j).isSome] else (g j).getD z) = v) (hp : LA P r post (put S d (.v v)) As) : LA P (⟨d, none, .look one z ok x i⟩ :: r) post S As :=
  ⟨fun m hm' => by
    obtain ⟨a, c, dj, e1, ⟨es, clk, e2, h1, h2, h3⟩, hR⟩ := hm.out m hm'
    refine ⟨vcK_fe (k := .look one z ok x i) (sv := .v v) rfl (.inr ⟨es, clk, j, .inr ⟨b, hx, ?_⟩, hi, h1, ?_⟩) (hp.out m hm').out⟩
    · rw [e1]; exact un_l (by rw [e2]; exact one_same _ _)
    · rw [h3 j, hv]⟩
theorem a_mu {x i y : Operand} {b : Nat} {g : Int → Option Value} {R : List Asr} {j : Int} {v : Value} (hm : Pk As (mpA b g) R) (hx : ev S x = some (.map (some b))) (hi : ev S i = some (.int .i64 j)) (hy : ev S y = some v)
    (hp : LA P r post (put S d (.v undef)) (mpA b (fun i => if i = j then some v else g i) :: R)) : LA P (⟨d, none, .mupd x i y⟩ :: r) post S As :=
  ⟨fun m hm' => by
    obtain ⟨a, c, dj, e1, ⟨es, clk, e2, h1, h2, h3⟩, hR⟩ := hm.out m hm'
    subst e1; subst e2
    refine ⟨⟨b, es, clk, j, v, hx, un_l (one_same _ _), hi, hy, h1, (hp.out _ ?_).out⟩⟩
    have hcb : c b = none := by
      rcases dj b with h | h
      · rw [one_same] at h; cases h
      · exact h
    rw [un_upd_l, one_upd]
    exact ⟨_, c, disj_one _ hcb, rfl, mpSet_A h1 h2 h3, hR⟩⟩
theorem a_md {x i : Operand} {b : Nat} {g : Int → Option Value} {R : List Asr} {j : Int} (hm : Pk As (mpA b g) R) (hx : ev S x = some (.map (some b))) (hi : ev S i = some (.int .i64 j))
    (hp : LA P r post (put S d (.v (.tuple #[]))) (mpA b (fun i => if i = j then none else g i) :: R)) : LA P (⟨d, none, .mdel x i⟩ :: r) post S As :=
  ⟨fun m hm' => by
    obtain ⟨a, c, dj, e1, ⟨es, clk, e2, h1, h2, h3⟩, hR⟩ := hm.out m hm'
    subst e1; subst e2
    refine ⟨⟨b, es, clk, j, hx, un_l (one_same _ _), hi, h1, (hp.out _ ?_).out⟩⟩
    have hcb : c b = none := by
      rcases dj b with h | h
      · rw [one_same] at h; cases h
      · exact h
    rw [un_upd_l, one_upd]
    exact ⟨_, c, disj_one _ hcb, rfl, mpDel_A h1 h2 h3, hR⟩⟩
/-- other pieces for these -/
theorem LA.ent {l : List I} {Bs : List Asr} (e : Ent As Bs) (h : LA P l post S Bs) : LA P l post S As :=
  ⟨fun m hm => by obtain ⟨m', l', s⟩ := e.out m hm; exact h.at s l'⟩
end
end Go.Proofs.Ytcmllambknfleaa.E
set_option linter.unusedVariables false
set_option linter.unusedSimpArgs false
namespace Go.Proofs.Ytcmllambknfleaa.E
open Go
def Formed (H : Heap) (w : Word) : Prop := (w.kind = 0 ∧ w.num = 0 ∧ w.at_ = 0) ∨ (w.kind = 1 ∧ w.at_ = 0) ∨ (w.kind = 2 ∧ w.num = 0 ∧ 0 ≤ w.at_ ∧ w.at_ < H.cells.length)
def Bare (c : Cell) : Prop := c.kind = 0 ∧ c.weak = 0 ∧ c.last = 0 ∧ c.born = 0 ∧ c.color = 0 ∧ c.pairs = []
def Doomed (H : Heap) (i : Int) : Prop := H.phase = 3 ∧ (H.getC i).state = 1 ∧ (H.getC i).color = 0 ∧ H.hand ≤ i
def Marking (H : Heap) : Prop := H.phase = 1 ∨ H.phase = 2
def Mended (H : Heap) (i k : Int) : Prop := H.phase ≠ 4 ∧ (H.phase = 5 → i < H.hand ∨ i = H.hand ∧ k < H.sub)
def Root (c : Cell) : Prop := c.state = 1 ∧ (c.last = 1 ∨ c.last = 2)
def LeadsWell (H : Heap) (w : Word) (moved : Prop) : Prop := w.kind = 2 → ((H.getC w.at_).state = 1 ∧ ¬ Doomed H w.at_) ∨ ((H.getC w.at_).state = 2 ∧ moved)
def White (H : Heap) (w : Word) : Prop := w.kind = 2 ∧ (H.getC w.at_).color = 0
structure R1 (H : Heap) : Prop where
  room : 1 ≤ H.room ∧ H.room ≤ 4000
  regs : H.regs.length = 16
  cells : (H.cells.length : Int) ≤ 2 * H.room
  gray : H.gray.length ≤ H.cells.length
  born : 0 ≤ H.born ∧ H.born ≤ 1000000000
  rounds : 0 ≤ H.rounds ∧ H.rounds ≤ 1000000000
  forced : 0 ≤ H.forced ∧ H.forced ≤ 1000000000
  per : 0 ≤ H.per ∧ H.per ≤ 64
  start : 0 ≤ H.start ∧ H.start ≤ 4000
  phase : 0 ≤ H.phase ∧ H.phase ≤ 6
  hand : 0 ≤ H.hand ∧ H.hand ≤ H.cells.length
  sub : 0 ≤ H.sub ∧ H.sub ≤ 200
def UsedOk (H : Heap) (c : Cell) : Prop := c.state = 1 ∧ (0 ≤ c.kind ∧ c.kind ≤ 255) ∧ (0 ≤ c.weak ∧ c.weak ≤ 3) ∧ (0 ≤ c.last ∧ c.last ≤ 3) ∧ (1 ≤ c.born ∧ c.born ≤ H.born) ∧ (0 ≤ c.color ∧ c.color ≤ 2) ∧ c.to = 0 ∧ c.pairs.length ≤ 200
def MovedOk (H : Heap) (i : Int) (c : Cell) : Prop := c.state = 2 ∧ Bare c ∧ 4 ≤ H.phase ∧ (0 ≤ c.to ∧ c.to < i) ∧ (H.getC c.to).state = 1 ∧ (H.phase = 4 → ∀ k : Int, 0 ≤ k → k < c.to → (H.getC k).state ≠ 0)
structure R2 (H : Heap) : Prop where
  each : ∀ (i : Nat) c, H.cells[i]? = some c → (c.state = 0 ∧ Bare c ∧ c.to = 0) ∨ MovedOk H i c ∨ UsedOk H c
  born : ∀ (i j : Nat) c d, H.cells[i]? = some c → H.cells[j]? = some d → i < j → c.state = 1 → d.state = 1 → c.born ≠ d.born
  to : ∀ (i j : Nat) c d, H.cells[i]? = some c → H.cells[j]? = some d → i < j → c.state = 2 → d.state = 2 → c.to ≠ d.to
/-- the units that a cell takes -/
def Cell.units (c : Cell) : Int := if c.state = 1 then 1 + c.pairs.length else 0
def unitsN (cs : List Cell) : Int := (cs.map Cell.units).sum
def R3 (H : Heap) : Prop := unitsN H.cells = H.used ∧ H.used ≤ H.room
structure R4 (H : Heap) : Prop where
  regs : ∀ w, w ∈ H.regs → Formed H w ∧ LeadsWell H w False
  roots : ∀ (i : Nat) c, H.cells[i]? = some c → Doomed H i → ¬ Root c
  pairs : ∀ (i : Nat) c, H.cells[i]? = some c → ∀ (k : Nat) p, c.pairs[k]? = some p → Formed H p.key ∧ Formed H p.val ∧ (¬ Doomed H i → LeadsWell H p.key (¬ Mended H i k) ∧ LeadsWell H p.val (¬ Mended H i k))
structure R5 (H : Heap) : Prop where
  mark : Marking H → H.gray.Nodup ∧ (∀ g, g ∈ H.gray → 0 ≤ g ∧ g < H.cells.length ∧ (H.getC g).state = 1 ∧ (H.getC g).color = 1) ∧ ∀ (i : Nat) c, H.cells[i]? = some c → c.color = 1 → (i : Int) ∈ H.gray
  else_ : ¬ Marking H → H.gray = [] ∧ ∀ (i : Nat) c, H.cells[i]? = some c → c.color ≠ 1 ∧ (c.color = 2 → H.phase = 3 ∧ H.hand ≤ i)
def R6 (H : Heap) : Prop :=
  if H.phase = 0 ∨ H.phase = 4 then H.hand = 0 ∧ H.sub = 0
  else if H.phase = 2 then H.hand = 0 ∧ (match H.gray with | [] => H.sub = 0 | g :: _ => H.sub ≤ (H.getC g).pairs.length)
  else if H.phase = 5 then (if H.hand < H.cells.length ∧ (H.getC H.hand).state = 1 then H.sub ≤ (H.getC H.hand).pairs.length else H.sub = 0)
  else H.sub = 0
/-- how many pairs of a cell have been gone through -/
def scanned (H : Heap) (i : Int) (c : Cell) : Int :=
  if c.color = 2 then c.pairs.length else if H.phase = 2 ∧ H.gray.head? = some i then H.sub else 0
def R7 (H : Heap) : Prop := Marking H → ∀ (i : Nat) c, H.cells[i]? = some c → (Root c → c.color = 0 → H.phase ≠ 2 ∧ H.hand ≤ i) ∧ ∀ (k : Nat) p, c.pairs[k]? = some p → (k : Int) < scanned H i c → ¬ White H p.key ∧ ¬ White H p.val
def R8 (H : Heap) : Prop := H.phase = 6 → ∀ (i : Nat) c, H.cells[i]? = some c → H.hand ≤ i → c.state ≠ 2
open Classical in
noncomputable def okH (H : Heap) : Int :=
  if ¬ R1 H then 1 else if ¬ R2 H then 2 else if ¬ R3 H then 3 else if ¬ R4 H then 4 else if ¬ R5 H then 5 else if ¬ R6 H then 6 else if ¬ R7 H then 7 else if ¬ R8 H then 8 else 0
structure Sound (H : Heap) : Prop where
  r1 : R1 H
  r2 : R2 H
  r3 : R3 H
  r4 : R4 H
  r5 : R5 H
  r6 : R6 H
  r7 : R7 H
  r8 : R8 H
theorem okH_sound (H : Heap) : okH H = 0 ↔ Sound H := by
  unfold okH
  constructor
  · intro h
    repeat' split at h
    all_goals first
      | (cases h; done)
      | (rename_i h1 h2 h3 h4 h5 h6 h7 h8; exact ⟨Classical.not_not.1 h1, Classical.not_not.1 h2, Classical.not_not.1 h3, Classical.not_not.1 h4, Classical.not_not.1 h5, Classical.not_not.1 h6, Classical.not_not.1 h7, Classical.not_not.1 h8⟩)
  · intro ⟨h1, h2, h3, h4, h5, h6, h7, h8⟩
    simp [h1, h2, h3, h4, h5, h6, h7, h8]
end Go.Proofs.Ytcmllambknfleaa.E
set_option linter.unusedVariables false
set_option linter.unusedSimpArgs false
namespace Go.Proofs.Ytcmllambknfleaa.E
open Go
theorem star_perm {As Bs : List Asr} (h : As.Perm Bs) : ∀ {m : Mem}, star As m → star Bs m := by
  induction h with
  | nil => exact fun h => h
  | cons A _ ih => exact fun h => star_cons_mono h (fun _ h => h) (fun _ h => ih h)
  | swap A B l => exact fun h => star_swap h
  | trans _ _ ih1 ih2 => exact fun h => ih2 (ih1 h)
theorem star_in {As R : List Asr} {m : Mem} : star (star As :: R) m ↔ star (As ++ R) m := by
  constructor
  · rintro ⟨a, b, d, rfl, h1, h2⟩; exact star_append.2 ⟨a, b, d, rfl, h1, h2⟩
  · intro h; obtain ⟨a, b, d, rfl, h1, h2⟩ := star_append.1 h; exact ⟨a, b, d, rfl, h1, h2⟩
theorem ent_of {As Bs : List Asr} (h : ∀ m, star As m → star Bs m) : Ent As Bs := ⟨fun m hm => ⟨m, Mem.le_refl _, h m hm⟩⟩
theorem ent_h {A B : Asr} {r : List Asr} (h : ∀ m, A m → B m) : Ent (A :: r) (B :: r) := ent_of fun m hm => star_cons_mono hm h (fun _ h => h)
theorem Ent.cons {A : Asr} {r s : List Asr} (h : Ent r s) : Ent (A :: r) (A :: s) := ⟨fun m ⟨a, b, d, e, hA, hr⟩ => by
  subst e
  obtain ⟨b', l, s'⟩ := h.out b hr
  have d' : Disj a b' := fun x => by
    rcases d x with h | h
    · exact .inl h
    · exact .inr (le_none l h)
  refine ⟨a.un b', ?_, a, b', d', rfl, hA, s'⟩
  intro x k hk
  cases ha : a x with
  | some k' => rw [un_l ha] at hk; cases hk; exact un_l ha
  | none => rw [un_n ha] at hk; exact un_r d (l x k hk)⟩
def CS.d (y : CS) : D := ⟨y.sa, y.cap⟩
def prA (ys : List CS) : Asr := star (ys.map fun y => slA 6 pv y.d y.c.pairs)
def clA (cd : D) (ys : List CS) : Asr := star [slA 8 csv cd ys, prA ys]
theorem cl_open {cd : D} {ys : List CS} {R : List Asr} : Ent (clA cd ys :: R) (slA 8 csv cd ys :: prA ys :: R) := ent_of fun m h => star_in.1 h
theorem cl_close {cd : D} {ys : List CS} {R : List Asr} : Ent (slA 8 csv cd ys :: prA ys :: R) (clA cd ys :: R) := ent_of fun m h => star_in.2 h
theorem erase_perm {α : Type} : ∀ {l : List α} {i : Nat} (h : i < l.length), (l[i] :: l.eraseIdx i).Perm l
  | a :: l, 0, _ => .refl _
  | a :: l, i + 1, h => by
    simp only [List.getElem_cons_succ, List.eraseIdx_cons_succ]
    exact (List.Perm.swap _ _ _).trans (.cons a (erase_perm (by simpa using h)))
/-- one cell's pairs taken out -/
theorem pr_out {ys : List CS} {i : Nat} {y : CS} (hi : ys[i]? = some y) {m : Mem} (h : prA ys m) : star [slA 6 pv y.d y.c.pairs, prA (ys.eraseIdx i)] m := by
  obtain ⟨hlt, e⟩ := List.getElem?_eq_some_iff.1 hi
  have hp := (erase_perm hlt).symm.map (fun y : CS => slA 6 pv y.d y.c.pairs)
  have := star_perm hp h
  rw [e] at this
  obtain ⟨a, b, d, e1, h1, h2⟩ := this
  exact ⟨a, b, d, e1, h1, b, emp, disj_emp _, (un_emp _).symm, h2, rfl⟩
theorem pr_in {ys : List CS} {i : Nat} {y' : CS} (hi : i < ys.length) {m : Mem} (h : star [slA 6 pv y'.d y'.c.pairs, prA (ys.eraseIdx i)] m) : prA (ys.set i y') m := by
  have hlt : i < (ys.set i y').length := by simpa using hi
  have hp := (erase_perm hlt).map (fun y : CS => slA 6 pv y.d y.c.pairs)
  rw [List.getElem_set_self, List.eraseIdx_set_eq] at hp
  refine star_perm hp ?_
  obtain ⟨a, b, d, e1, h1, b', e', d2, e2, h2, h3⟩ := h
  have h3 : e' = emp := h3
  subst h3
  rw [un_emp] at e2; subst e2
  exact ⟨a, b, d, e1, h1, h2⟩
theorem pr_set {ys : List CS} {i : Nat} {y y' : CS} (hi : ys[i]? = some y) (h1 : y'.d = y.d) (h2 : y'.c.pairs = y.c.pairs) : prA (ys.set i y') = prA ys := by
  unfold prA
  congr 1
  rw [List.map_set]
  apply List.ext_getElem?
  intro j
  rw [List.getElem?_set]
  split
  · rename_i e; subst e
    split
    · rw [List.getElem?_map, hi, h1, h2]; rfl
    · rename_i hlt
      have := (List.getElem?_eq_some_iff.1 hi).1
      simp at hlt; omega
  · rfl
theorem slA_congr {α : Type} {f : α → List Value} {size : Nat} {d : D} {xs ys : List α} (h1 : xs.flatMap f = ys.flatMap f) (h2 : xs.length = ys.length) : slA size f d xs = slA size f d ys := by
  have hz : (xs = [] ↔ ys = []) := by rw [← List.length_eq_zero_iff, ← List.length_eq_zero_iff, h2]
  funext m
  unfold slA Sl
  rw [h1, h2]
  simp only [hz]
theorem flat_set {α : Type} {f : α → List Value} {xs : List α} {i : Nat} {x x' : α} (hi : xs[i]? = some x) (h : f x' = f x) : (xs.set i x').flatMap f = xs.flatMap f := by
  induction xs generalizing i with
  | nil => simp at hi
  | cons a r ih =>
    cases i with
    | zero => simp only [List.getElem?_cons_zero, Option.some.injEq] at hi; subst hi; simp [h]
    | succ i => simp only [List.getElem?_cons_succ] at hi; simp [ih hi]
theorem csv_len (y : CS) : (csv y).length = 8 := rfl
theorem pv_len (p : Pair) : (pv p).length = 6 := rfl
theorem wv_len (w : Word) : (wv w).length = 3 := rfl
theorem iv_len (n : Int) : (iv n).length = 1 := rfl
theorem bv_len (n : Bool) : (bv n).length = 1 := rfl
section
variable {cd : D} {ys : List CS} {i : Nat} {y : CS}
theorem clA_l {m : Mem} (h : clA cd ys m) : ∃ a, a.le m ∧ slA 8 csv cd ys a := by
  obtain ⟨a, b, d, e, h1, _⟩ := h
  exact ⟨a, by rw [e]; exact le_l _ _, h1⟩
theorem clA_p {m : Mem} (h : clA cd ys m) (hi : ys[i]? = some y) : ∃ a, a.le m ∧ slA 6 pv y.d y.c.pairs a := by
  obtain ⟨a, b, d, e, _, b', e', d2, e2, h2, h3⟩ := h
  have h3 : e' = emp := h3
  subst h3
  rw [un_emp] at e2; subst e2
  obtain ⟨a', c, d3, e3, h4, _⟩ := pr_out hi h2
  exact ⟨a', by rw [e, e3]; exact Mem.le_trans (le_l _ _) (le_r (by rw [e3] at d; exact d)), h4⟩
/-- a cell -/
def csw (y : CS) : List Value := [.int .i64 y.c.state, .int .i64 y.c.kind, .int .i64 y.c.weak, .int .i64 y.c.last, .int .i64 y.c.born, .int .i64 y.c.color, .int .i64 y.c.to, .slice y.d.a y.c.pairs.length y.d.cap]
theorem rs_cl (hi : ys[i]? = some y) : RsA (clA cd ys) cd.b (cd.o + i * 8) 8 (csw y) := ⟨fun m h => by
  obtain ⟨a, l, h1⟩ := clA_l h; exact cells_le l ((rs_sl csv_len hi).out a h1)⟩
theorem rd_cl {j : Nat} {v : Value} (hi : ys[i]? = some y) (hj : (csw y)[j]? = some v) : RdA (clA cd ys) cd.b (cd.o + i * 8 + j) v := ⟨fun m h => cells_cell ((rs_cl hi).out m h) hj⟩
theorem kn_cl (hi : ys[i]? = some y) : KnA (clA cd ys) (cd.a = some ⟨cd.b, cd.o, none⟩) := ⟨fun m h => by
  obtain ⟨a, l, h1⟩ := clA_l h; exact D.som h1 hi⟩
theorem kp_cl : KnA (clA cd ys) (cd.a = none ∨ cd.a = some ⟨cd.b, cd.o, none⟩) := ⟨fun m h => by
  obtain ⟨a, l, h1⟩ := clA_l h; exact D.plain h1⟩
theorem kb_cl : KnA (clA cd ys) (ys.length ≤ 140737488355328) := ⟨fun m h => by
  obtain ⟨a, l, h1⟩ := clA_l h; exact h1.1.bound⟩
/-- a pair of a cell -/
theorem rs_cp {k : Nat} {p : Pair} (hi : ys[i]? = some y) (hk : y.c.pairs[k]? = some p) : RsA (clA cd ys) y.d.b (y.d.o + k * 6) 6 (pv p) := ⟨fun m h => by
  obtain ⟨a, l, h1⟩ := clA_p h hi; exact cells_le l ((rs_sl pv_len hk).out a h1)⟩
theorem rs_cpp {k j n : Nat} {p : Pair} {ws : List Value} (hi : ys[i]? = some y) (hk : y.c.pairs[k]? = some p) (hj : j + n ≤ 6) (hw : ((pv p).drop j).take n = ws) : RsA (clA cd ys) y.d.b (y.d.o + k * 6 + j) n ws := ⟨fun m h => by
  obtain ⟨a, l, h1⟩ := clA_p h hi; exact cells_le l ((rs_slp pv_len hk hj hw).out a h1)⟩
theorem rd_cp {k j : Nat} {p : Pair} {v : Value} (hi : ys[i]? = some y) (hk : y.c.pairs[k]? = some p) (hj : (pv p)[j]? = some v) : RdA (clA cd ys) y.d.b (y.d.o + k * 6 + j) v := ⟨fun m h => cells_cell ((rs_cp hi hk).out m h) hj⟩
theorem kn_cp {k : Nat} {p : Pair} (hi : ys[i]? = some y) (hk : y.c.pairs[k]? = some p) : KnA (clA cd ys) (y.d.a = some ⟨y.d.b, y.d.o, none⟩) := ⟨fun m h => by
  obtain ⟨a, l, h1⟩ := clA_p h hi; exact D.som h1 hk⟩
theorem kp_cp (hi : ys[i]? = some y) : KnA (clA cd ys) (y.d.a = none ∨ y.d.a = some ⟨y.d.b, y.d.o, none⟩) := ⟨fun m h => by
  obtain ⟨a, l, h1⟩ := clA_p h hi; exact D.plain h1⟩
theorem kb_cp (hi : ys[i]? = some y) : KnA (clA cd ys) (y.c.pairs.length ≤ 140737488355328) := ⟨fun m h => by
  obtain ⟨a, l, h1⟩ := clA_p h hi; exact h1.1.bound⟩
theorem kc_cp (hi : ys[i]? = some y) : KnA (clA cd ys) (y.c.pairs.length ≤ y.d.cap) := ⟨fun m h => by
  obtain ⟨a, l, h1⟩ := clA_p h hi; exact cp_sl.out a h1⟩
theorem star2 {A B : Asr} {m : Mem} : star [A, B] m ↔ ∃ a b, Disj a b ∧ m = a.un b ∧ A a ∧ B b := by
  constructor
  · rintro ⟨a, b, d, e, h1, b', e', d2, e2, h2, h3⟩
    have h3 : e' = emp := h3
    subst h3
    rw [un_emp] at e2; subst e2
    exact ⟨a, b, d, e, h1, h2⟩
  · rintro ⟨a, b, d, e, h1, h2⟩
    exact ⟨a, b, d, e, h1, b, emp, disj_emp _, (un_emp _).symm, h2, rfl⟩
/-- a field of a cell written -/
theorem up_cl {j : Nat} {y' : CS} {vs : List Value} (hi : ys[i]? = some y) (hj : j + vs.length ≤ 8) (hf : csv y' = wr (csv y) j vs) (hd : y'.d = y.d) (hp : y'.c.pairs = y.c.pairs) : UpA (clA cd ys) cd.b (cd.o + i * 8 + j) vs (clA cd (ys.set i y')) := ⟨fun m h => by
  obtain ⟨a, b, d, rfl, h1, h2⟩ := star2.1 h
  obtain ⟨row, g1, g2, g3⟩ := (up_sl csv_len hi hj hf).out a h1
  have hb : b cd.b = none := by
    rcases d cd.b with e | e
    · rw [g1] at e; cases e
    · exact e
  refine ⟨row, un_l g1, g2, ?_⟩
  rw [un_upd_l]
  exact star2.2 ⟨_, b, d.upd _ hb, rfl, g3, by rw [pr_set hi hd hp]; exact h2⟩⟩
/-- part of a pair of a cell written -/
theorem up_cp {k j : Nat} {p p' : Pair} {vs : List Value} (hi : ys[i]? = some y) (hk : y.c.pairs[k]? = some p) (hj : j + vs.length ≤ 6) (hf : pv p' = wr (pv p) j vs) :
    UpA (clA cd ys) y.d.b (y.d.o + k * 6 + j) vs (clA cd (ys.set i { y with c := { y.c with pairs := y.c.pairs.set k p' } })) := ⟨fun m h => by
  have hlt := (List.getElem?_eq_some_iff.1 hi).1
  obtain ⟨a, b, d, rfl, h1, h2⟩ := star2.1 h
  obtain ⟨b1, b2, d2, rfl, k1, k2⟩ := star2.1 (pr_out hi h2)
  obtain ⟨row, g1, g2, g3⟩ := (up_sl pv_len hk hj hf).out b1 k1
  have hb2 : b2 y.d.b = none := by
    rcases d2 y.d.b with e | e
    · rw [g1] at e; cases e
    · exact e
  have ha : a y.d.b = none := by
    rcases d y.d.b with e | e
    · exact e
    · rw [un_l g1] at e; cases e
  refine ⟨row, un_r d (un_l g1), g2, ?_⟩
  rw [un_upd_r _ ha, un_upd_l]
  refine star2.2 ⟨a, _, ?_, rfl, ?_, pr_in hlt (star2.2 ⟨_, b2, d2.upd _ hb2, rfl, g3, k2⟩)⟩
  · rw [← un_upd_l]
    exact ((Disj.symm d).upd _ ha).symm
  · rw [slA_congr (ys := ys) (flat_set hi (by unfold csv cv; simp)) (by simp)]; exact h1⟩
end
structure HX where
  room : Int
  used : Int
  born : Int
  regs : List Word
  xs : List CS
  phase : Int
  hand : Int
  sub : Int
  gray : List Int
  per : Int
  start : Int
  rounds : Int
  forced : Int
  rd : D
  cd : D
  gd : D
def HX.H (x : HX) : Heap := ⟨x.room, x.used, x.born, x.regs, x.xs.map (·.c), x.phase, x.hand, x.sub, x.gray, x.per, x.start, x.rounds, x.forced⟩
/-- a heap's row: its numbers, and where its slices lie -/
structure Hdr where
  room : Int
  used : Int
  born : Int
  rd : D
  nr : Nat
  cd : D
  nc : Nat
  phase : Int
  hand : Int
  sub : Int
  gd : D
  ng : Nat
  per : Int
  start : Int
  rounds : Int
  forced : Int
def Hdr.row (h : Hdr) : List Value := [.int .i64 h.room, .int .i64 h.used, .int .i64 h.born, .slice h.rd.a h.nr h.rd.cap, .slice h.cd.a h.nc h.cd.cap, .int .i64 h.phase, .int .i64 h.hand, .int .i64 h.sub, .slice h.gd.a h.ng h.gd.cap, .int .i64 h.per, .int .i64 h.start, .int .i64 h.rounds, .int .i64 h.forced]
def hdA (a : Nat) (h : Hdr) : Asr := bx a h.row
def HX.hdr (x : HX) : Hdr := ⟨x.room, x.used, x.born, x.rd, x.regs.length, x.cd, x.xs.length, x.phase, x.hand, x.sub, x.gd, x.gray.length, x.per, x.start, x.rounds, x.forced⟩
abbrev HX.row (x : HX) : List Value := x.hdr.row
abbrev HX.v (x : HX) : Value := .agg x.row.toArray
abbrev HX.body (x : HX) : List Asr := [slA 3 wv x.rd x.regs, clA x.cd x.xs, slA 1 iv x.gd x.gray]
abbrev hp (a : Nat) (x : HX) : List Asr := [hdA a x.hdr, slA 3 wv x.rd x.regs, clA x.cd x.xs, slA 1 iv x.gd x.gray]
def HX.hs (x : HX) : HS := ⟨x.H, .slice x.rd.a x.regs.length x.rd.cap, .slice x.cd.a x.xs.length x.cd.cap, .slice x.gd.a x.gray.length x.gd.cap, x.xs⟩
theorem HX.len (x : HX) : x.H.cells.length = x.xs.length := by simp [HX.H]
/-- what a heap's pieces are, told as before -/
theorem body_r {x : HX} {m : Mem} (h : star x.body m) : RHV m x.hs := by
  obtain ⟨a, r, d, rfl, h1, b, r2, d2, rfl, h2, c, r3, d3, rfl, h3, _⟩ := h
  have l1 := le_l a (b.un (c.un r3))
  have l2 : b.le (a.un (b.un (c.un r3))) := Mem.le_trans (le_l _ _) (le_r d)
  have l3 : c.le (a.un (b.un (c.un r3))) := Mem.le_trans (le_l _ _) (Mem.le_trans (le_r d2) (le_r d))
  refine ⟨h1.1.le l1, ⟨?_, fun y hy => ?_⟩, rfl, h3.1.le l3⟩
  · obtain ⟨b', l, k⟩ := clA_l h2; exact (k.1.le l).le l2
  · obtain ⟨i, hi⟩ := List.getElem?_of_mem hy
    obtain ⟨b', l, k⟩ := clA_p h2 hi; exact (k.1.le l).le l2
def resL (M : Mem) (L : List Nat) : Mem := fun b => if b ∈ L then M b else none
theorem resL_le (M : Mem) (L : List Nat) : (resL M L).le M := fun b k h => by unfold resL at h; split at h; exact h; cases h
theorem sl_res {M : Mem} {α : Type} {f : α → List Value} {size : Nat} {v : Value} {xs : List α} (h : Sl M size f v xs) : ∃ d : D, v = .slice d.a xs.length d.cap ∧ slA size f d xs (resL M (own v)) := by
  obtain ⟨a, cap, rfl⟩ := h.len
  refine ⟨⟨a, cap⟩, rfl, ?_, fun b hb => ?_⟩
  · rcases h with h | ⟨b, o, cap', row, e, hM, h3⟩
    · exact .inl h
    · refine .inr ⟨b, o, cap', row, e, ?_, h3⟩
      unfold resL; rw [if_pos (by rw [e]; simp [own])]; exact hM
  · unfold resL; rw [if_neg hb]
theorem resL_un (M : Mem) (L K : List Nat) : (resL M L).un (resL M K) = resL M (L ++ K) := by
  funext b
  unfold Mem.un resL
  by_cases h1 : b ∈ L <;> by_cases h2 : b ∈ K <;> simp [h1, h2]
  all_goals (cases M b <;> rfl)
theorem resL_disj {M : Mem} {L K : List Nat} (h : ∀ b, b ∈ L → b ∈ K → False) : Disj (resL M L) (resL M K) := by
  intro b
  by_cases h1 : b ∈ L
  · right; unfold resL; rw [if_neg (fun h2 => h b h1 h2)]
  · left; unfold resL; rw [if_neg h1]
theorem pr_res {M : Mem} : ∀ {ys : List CS}, (∀ y, y ∈ ys → Sl M 6 pv y.s y.c.pairs) → (ys.flatMap fun y => own y.s).Nodup → prA ys (resL M (ys.flatMap fun y => own y.s))
  | [], _, _ => by funext b; simp [resL, emp]
  | y :: r, h, hn => by
    rw [List.flatMap_cons, List.nodup_append] at hn
    rw [List.flatMap_cons, ← resL_un]
    obtain ⟨d, e, hs⟩ := sl_res (h y (by simp))
    have hd : d = y.d := by
      obtain ⟨a, c⟩ := d
      simp only [CS.s, Value.slice.injEq, true_and] at e
      unfold CS.d; rw [e.1, e.2]
    refine ⟨_, _, resL_disj (fun b h1 h2 => hn.2.2 b h1 b h2 rfl), rfl, by rw [hd] at hs; exact hs, pr_res (fun y hy => h y (by simp [hy])) hn.2.1⟩
theorem body_w {y : HS} {M : Mem} (h : WHV M y) : ∃ x : HX, x.hs = y ∧ star x.body (resL M y.fp) := by
  obtain ⟨⟨h1, h2, h3, h4⟩, hn⟩ := h
  obtain ⟨H, rs, cs, gs, xs⟩ := y
  obtain ⟨rd, e1, k1⟩ := sl_res h1
  obtain ⟨cd, e2, k2⟩ := sl_res h2.sl
  obtain ⟨gd, e3, k3⟩ := sl_res h4
  simp only at e1 e2 e3 h3
  subst e1; subst e2; subst e3
  obtain ⟨room, used, born, regs, cells, phase, hand, sub, gray, per, start, rounds, forced⟩ := H
  simp only at h3
  subst h3
  simp only [HS.fp, fpC, List.nodup_append] at hn
  obtain ⟨n1, ⟨⟨n2, n3, n4⟩, n5, n6⟩, n7⟩ := hn
  refine ⟨⟨room, used, born, regs, xs, phase, hand, sub, gray, per, start, rounds, forced, rd, cd, gd⟩, rfl, ?_⟩
  have kp := pr_res h2.ps n3
  simp only [HS.fp, fpC]
  rw [← resL_un, ← resL_un, ← resL_un]
  refine ⟨_, _, ?_, rfl, k1, _, _, ?_, rfl, star2.2 ⟨_, _, resL_disj (fun b a1 a2 => n4 b a1 b a2 rfl), rfl, k2, kp⟩, _, emp, disj_emp _, (un_emp _).symm, k3, rfl⟩
  · rw [resL_un, resL_un]; exact resL_disj (fun b a1 a2 => n7 b a1 b a2 rfl)
  · rw [resL_un]; exact resL_disj (fun b a1 a2 => n6 b a1 b a2 rfl)
end Go.Proofs.Ytcmllambknfleaa.E
set_option maxRecDepth 100000
set_option linter.unusedVariables false
namespace Go.Proofs.Ytcmllambknfleaa.E
open Go
noncomputable def e69 : Env := ⟨Try.prog, [], 15, []⟩
noncomputable def c69 : C :=
  .seq (.reg [
    ⟨some 6, none, .mov (.const (.bool false))⟩]) (.seq (.reg [
    ⟨some 7, none, .mov (.tmp 0)⟩,
    ⟨some 8, none, .mov (.tmp 1)⟩,
    ⟨some 9, none, .bin .geq (.tmp 7) (.tmp 8)⟩,
    ⟨some 10, none, .mov (.tmp 9)⟩,
    ⟨some 11, some (10, true), .mov (.tmp 0)⟩,
    ⟨some 12, some (10, true), .mov (.tmp 2)⟩,
    ⟨some 13, some (10, true), .bin .leq (.tmp 11) (.tmp 12)⟩,
    ⟨some 14, none, .pick (.tmp 10) (.tmp 13) (.const (.bool false))⟩,
    ⟨some 6, none, .mov (.tmp 14)⟩]) (.ret))
theorem t69 : Try.f69.body.bind (trC e69) = some c69 := by kernel_rfl
theorem r69 : Try.f69.results.toList.mapM (trR Try.prog) = some [.tmp 6] := by kernel_rfl
theorem fn69 {args : List Value} {M : Mem} {post : Value → Mem → Prop} (hl : args.length ≤ 15) (h : VC e69 c69 (fnQ [.tmp 6] post) (initS args 15) M) : Fn Try.prog 69 args M post :=
  Fn.of' (E := e69) Try.func69 t69 rfl r69 mixed hl h
noncomputable def e5 : Env := ⟨Try.prog, [3, 4, 7], 41, []⟩
noncomputable def c5 : C :=
  .seq (.reg [
    ⟨some 2, none, .mov (.const (.bool false))⟩]) (.seq (.reg [
    ⟨some 8, none, .mov (.tmp 0)⟩,
    ⟨some 9, none, .call 25 [.tmp 8]⟩,
    ⟨some 3, none, .alloc true [.int .i64 0, .int .i64 0, .int .i64 0, .slice none 0 0, .slice none 0 0, .int .i64 0, .int .i64 0, .int .i64 0, .slice none 0 0, .int .i64 0, .int .i64 0, .int .i64 0, .int .i64 0]⟩,
    ⟨none, none, .store 13 (.tmp 3) (.tmp 9)⟩]) (.seq (.reg [
    ⟨some 10, none, .mov (.tmp 0)⟩,
    ⟨some 11, none, .call 26 [.tmp 10]⟩,
    ⟨some 4, none, .alloc true [.int .i64 0, .int .i64 0, .int .i64 0, .slice none 0 0, .slice none 0 0, .int .i64 0, .int .i64 0, .int .i64 0, .slice none 0 0, .int .i64 0, .int .i64 0, .int .i64 0, .int .i64 0]⟩,
    ⟨none, none, .store 13 (.tmp 4) (.tmp 11)⟩]) (.seq (.seq (.reg [
    ⟨some 12, none, .load false 13 (.tmp 4)⟩,
    ⟨some 13, none, .load false 13 (.tmp 3)⟩,
    ⟨some 14, none, .call 27 [.tmp 12, .tmp 13]⟩,
    ⟨some 15, none, .not (.tmp 14)⟩]) (.cond (.tmp 15) (.seq (.reg [
    ⟨some 2, none, .mov (.const (.bool false))⟩]) (.ret)) (.skip))) (.seq (.reg [
    ⟨some 5, none, .mov (.const (.int .i64 1))⟩]) (.seq (.reg [
    ⟨some 16, none, .load false 13 (.tmp 4)⟩,
    ⟨some 17, none, .mov (.tmp 5)⟩,
    ⟨some 18, none, .call 28 [.tmp 16, .tmp 17]⟩,
    ⟨some 5, none, .mov (.tmp 18)⟩]) (.seq (.reg [
    ⟨some 6, none, .mov (.const (.int .i64 1))⟩]) (.seq (.reg [
    ⟨some 19, none, .load false 13 (.tmp 4)⟩,
    ⟨some 20, none, .mov (.tmp 6)⟩,
    ⟨some 21, none, .call 29 [.tmp 19, .tmp 20]⟩,
    ⟨some 6, none, .mov (.tmp 21)⟩]) (.seq (.seq (.reg [
    ⟨some 22, none, .mov (.tmp 6)⟩,
    ⟨some 23, none, .bin .lss (.tmp 22) (.const (.int .i64 0))⟩]) (.cond (.tmp 23) (.seq (.reg [
    ⟨some 2, none, .mov (.const (.bool false))⟩]) (.ret)) (.skip))) (.seq (.seq (.reg [
    ⟨some 24, none, .mov (.tmp 6)⟩,
    ⟨some 25, none, .mov (.tmp 5)⟩,
    ⟨some 26, none, .bin .neq (.tmp 24) (.tmp 25)⟩]) (.cond (.tmp 26) (.seq (.reg [
    ⟨some 2, none, .mov (.const (.bool false))⟩]) (.ret)) (.skip))) (.seq (.reg [
    ⟨some 27, none, .mov (.tmp 0)⟩,
    ⟨some 28, none, .call 26 [.tmp 27]⟩,
    ⟨some 7, none, .alloc true [.int .i64 0, .int .i64 0, .int .i64 0, .slice none 0 0, .slice none 0 0, .int .i64 0, .int .i64 0, .int .i64 0, .slice none 0 0, .int .i64 0, .int .i64 0, .int .i64 0, .int .i64 0]⟩,
    ⟨none, none, .store 13 (.tmp 7) (.tmp 28)⟩]) (.seq (.seq (.reg [
    ⟨some 29, none, .load false 13 (.tmp 7)⟩,
    ⟨some 30, none, .load false 13 (.tmp 3)⟩,
    ⟨some 31, none, .call 27 [.tmp 29, .tmp 30]⟩,
    ⟨some 32, none, .not (.tmp 31)⟩]) (.cond (.tmp 32) (.seq (.reg [
    ⟨some 2, none, .mov (.const (.bool false))⟩]) (.ret)) (.skip))) (.seq (.reg [
    ⟨some 6, none, .mov (.const (.int .i64 1))⟩]) (.seq (.reg [
    ⟨some 33, none, .load false 13 (.tmp 4)⟩,
    ⟨some 34, none, .mov (.tmp 6)⟩,
    ⟨some 35, none, .call 29 [.tmp 33, .tmp 34]⟩,
    ⟨some 6, none, .mov (.tmp 35)⟩]) (.seq (.seq (.reg [
    ⟨some 36, none, .mov (.tmp 6)⟩,
    ⟨some 37, none, .bin .lss (.tmp 36) (.const (.int .i64 0))⟩]) (.cond (.tmp 37) (.seq (.reg [
    ⟨some 2, none, .mov (.const (.bool false))⟩]) (.ret)) (.skip))) (.seq (.seq (.reg [
    ⟨some 38, none, .mov (.tmp 6)⟩,
    ⟨some 39, none, .mov (.tmp 5)⟩,
    ⟨some 40, none, .bin .neq (.tmp 38) (.tmp 39)⟩]) (.cond (.tmp 40) (.seq (.reg [
    ⟨some 2, none, .mov (.const (.bool false))⟩]) (.ret)) (.skip))) (.seq (.reg [
    ⟨some 2, none, .mov (.const (.bool true))⟩]) (.ret)))))))))))))))))
theorem r5 : Try.f5.results.toList.mapM (trR Try.prog) = some [.tmp 2] := by kernel_rfl
end Go.Proofs.Ytcmllambknfleaa.E
set_option linter.unusedVariables false
set_option linter.unusedSimpArgs false
set_option maxRecDepth 100000
namespace Go.Proofs.Ytcmllambknfleaa.E
open Go
open Classical
theorem impl.withinQ {M : Mem} {a lo hi : Int} : Qt Try.prog 71 [.int .i64 a, .int .i64 lo, .int .i64 hi] M (.bool (decide (lo ≤ a ∧ a ≤ hi))) := by
  refine fn71 (by simp) ?_
  repeat' (first
    | (refine vl_pure rfl ?_)
    | (refine vl_gy rfl rfl ?_)
    | (refine vl_gn rfl rfl ?_)
    | (refine vl_nil ?_)
    | (refine VC.seq ?_)
    | (refine VC.regV ?_)
    | (refine VC.ret ?_)
    | (refine vl_gs rfl (fun hb => ?_) (fun hb => ?_)))
  all_goals (refine fnQ_r rfl (Mem.le_refl _) (q_end ?_))
  all_goals (simp_all <;> omega)
theorem spec.l1inQ {M : Mem} {a lo hi : Int} : Qt Try.prog 69 [.int .i64 a, .int .i64 lo, .int .i64 hi] M (.bool (decide (lo ≤ a ∧ a ≤ hi))) := by
  refine fn69 (by simp) ?_
  repeat' (first
    | (refine vl_pure rfl ?_)
    | (refine vl_gy rfl rfl ?_)
    | (refine vl_gn rfl rfl ?_)
    | (refine vl_nil ?_)
    | (refine VC.seq ?_)
    | (refine VC.regV ?_)
    | (refine VC.ret ?_)
    | (refine vl_gs rfl (fun hb => ?_) (fun hb => ?_)))
  all_goals (refine fnQ_r rfl (Mem.le_refl _) (q_end ?_))
  all_goals (simp_all <;> omega)
def ptr (a : Nat) : Value := .pointer (some ⟨a, 0, none⟩)
/-- a heap in memory, at block a, to be read -/
structure PH (M : Mem) (a : Nat) (x : HS) : Prop where
  blk : M a = some (.row (hv x.H x.rs x.cs x.gs))
  v : RHV M x
theorem PH.le {M M' : Mem} {a : Nat} {x : HS} (h : PH M a x) (l : M.le M') : PH M' a x := ⟨l _ _ h.blk, h.v.le l⟩
theorem PH.at {M : Mem} {a : Nat} {x : HS} (h : PH M a x) (j : Nat) : cell M a j = (hv x.H x.rs x.cs x.gs)[j]? := row_cell h.blk j
theorem RHV.len {M : Mem} {x : HS} (h : RHV M x) : x.xs.length = x.H.cells.length := by rw [← h.eq]; simp
/-- cell i: where it lies, and what it is -/
theorem RHV.cellAt {M : Mem} {x : HS} (h : RHV M x) {i : Int} (h0 : 0 ≤ i) (h1 : i < x.H.cells.length) :
    ∃ b o cap y, x.cs = .slice (some ⟨b, o, none⟩) x.H.cells.length cap ∧ cells M b (o + i.toNat * 8) 8 = some (csv y) ∧ y.c = x.H.getC i ∧ x.xs[i.toNat]? = some y ∧ Sl M 6 pv y.s y.c.pairs := by
  have hl := h.len
  have hi : i.toNat < x.xs.length := by omega
  obtain ⟨y, hy⟩ : ∃ y, x.xs[i.toNat]? = some y := ⟨_, List.getElem?_eq_getElem hi⟩
  obtain ⟨b, o, cap, e, hc⟩ := h.cl.sl.at (f := csv) (fun _ => rfl) h0 (by omega) hy
  refine ⟨b, o, cap, y, by rw [e, hl], hc, ?_, hy, h.cl.ps y (List.mem_of_getElem? hy)⟩
  unfold Heap.getC
  rw [← h.eq, List.getD_eq_getElem?_getD, List.getElem?_map, hy]; rfl
theorem bool_dec {b : Bool} {p : Prop} (h : b = true ↔ p) : Value.bool b = .bool (decide p) := by
  congr 1
  rw [Bool.eq_iff_iff, h]; simp
theorem bare_q {M : Mem} {y : CS} : Qt Try.prog 141 [ca y] M (.bool (decide (Bare y.c))) := by
  refine fn141 (by simp) ?_
  repeat' (first
    | (refine vl_pure rfl ?_)
    | (refine vl_gy rfl rfl ?_)
    | (refine vl_gn rfl rfl ?_)
    | (refine vl_nil ?_)
    | (refine VC.seq ?_)
    | (refine VC.regV ?_)
    | (refine vl_box rfl rfl ?_)
    | (refine VC.ret ?_)
    | (refine vl_gs rfl (fun hb => ?_) (fun hb => ?_)))
  all_goals (refine fnQ_r rfl (Mem.le_refl _) (q_end (bool_dec ?_)))
  all_goals (obtain ⟨⟨_, _, _, _, _, _, _, ps⟩, _, _⟩ := y; simp_all [Bare])
theorem root_q {M : Mem} {y : CS} : Qt Try.prog 145 [ca y] M (.bool (decide (Root y.c))) := by
  refine fn145 (by simp) ?_
  repeat' (first
    | (refine vl_pure rfl ?_)
    | (refine vl_gy rfl rfl ?_)
    | (refine vl_gn rfl rfl ?_)
    | (refine vl_gu rfl ?_)
    | (refine vl_nil ?_)
    | (refine VC.seq ?_)
    | (refine VC.regV ?_)
    | (refine vl_box rfl rfl ?_)
    | (refine VC.ret ?_)
    | (refine vl_gs rfl (fun hb => ?_) (fun hb => ?_)))
  all_goals (refine fnQ_r rfl (Mem.le_refl _) (q_end (bool_dec ?_)))
  all_goals (obtain ⟨⟨_, _, _, _, _, _, _, ps⟩, _, _⟩ := y; simp_all [Root])
theorem units_q {M : Mem} {y : CS} (hb : y.c.pairs.length ≤ 4611686018427387904) : Qt Try.prog 142 [ca y] M (.int .i64 y.c.units) := by
  refine fn142 (by simp) ?_
  repeat' (first
    | (refine vl_add rfl rfl (by omega) ?_)
    | (refine vl_pure rfl ?_)
    | (refine vl_nil ?_)
    | (refine VC.seq ?_)
    | (refine VC.regV ?_)
    | (refine vl_box rfl rfl ?_)
    | (refine VC.ret ?_)
    | (refine VC.skip ?_)
    | (refine seqQ_n ?_)
    | (refine seqQ_r ?_)
    | (refine VC.cond _ rfl (fun hb => ?_) (fun hb => ?_)))
  all_goals (refine fnQ_r rfl (Mem.le_refl _) (q_end ?_))
  all_goals (simp_all [Cell.units])
theorem marking_q {M : Mem} {a : Nat} {x : HS} (h : PH M a x) : Qt Try.prog 147 [ptr a] M (.bool (decide (Marking x.H))) := by
  have f5 : cell M a 5 = _ := h.at 5
  refine fn147 (by simp) ?_
  repeat' (first
    | (refine vl_pure rfl ?_)
    | (refine vl_gy rfl rfl ?_)
    | (refine vl_gn rfl rfl ?_)
    | (refine vl_ld rfl (by first | exact f5) ?_)
    | (refine vl_nil ?_)
    | (refine VC.seq ?_)
    | (refine VC.regV ?_)
    | (refine VC.ret ?_)
    | (refine vl_gs rfl (fun hb => ?_) (fun hb => ?_)))
  all_goals (refine fnQ_r rfl (Mem.le_refl _) (q_end (bool_dec ?_)))
  all_goals simp_all [Marking]
theorem doomed_q {M : Mem} {a : Nat} {x : HS} {i : Int} (h : PH M a x) (h0 : 0 ≤ i) (h1 : i < x.H.cells.length) : Qt Try.prog 144 [ptr a, .int .i64 i] M (.bool (decide (Doomed x.H i))) := by
  obtain ⟨b, o, cap, y, e, hc, hy, _⟩ := h.v.cellAt h0 h1
  have f4 : cell M a 4 = _ := (h.at 4).trans (congrArg some e)
  have f5 : cell M a 5 = _ := h.at 5
  have f6 : cell M a 6 = _ := h.at 6
  refine fn144 (by simp) ?_
  repeat' (first
    | (refine vl_pure rfl ?_)
    | (refine vl_gy rfl rfl ?_)
    | (refine vl_gn rfl rfl ?_)
    | (refine vl_ld rfl (by first | exact f4 | exact f5 | exact f6 | exact hc) ?_)
    | (refine vl_nil ?_)
    | (refine VC.seq ?_)
    | (refine VC.regV ?_)
    | (refine vl_idx rfl rfl (by omega) ?_)
    | (refine vl_lds rfl (by first | exact f4 | exact f5 | exact f6 | exact hc) ?_)
    | (refine vl_alloc ?_)
    | (refine vl_stw rfl rfl rfl rfl (by first | rfl | assumption) (Nat.le_of_ble_eq_true rfl) ?_)
    | (refine sk_zero ?_)
    | (refine sk_succ ?_)
    | (refine wk_nil ?_)
    | (refine wk_cons ?_)
    | (refine VC.ret ?_)
    | (refine vl_gs rfl (fun hb => ?_) (fun hb => ?_)))
  all_goals (refine fnQ_r rfl (Mem.le_refl _) (q_end (bool_dec ?_)))
  all_goals simp_all [Doomed]
theorem mended_q {M : Mem} {a : Nat} {x : HS} {i k : Int} (h : PH M a x) : Qt Try.prog 146 [ptr a, .int .i64 i, .int .i64 k] M (.bool (decide (Mended x.H i k))) := by
  have f5 : cell M a 5 = _ := h.at 5
  have f6 : cell M a 6 = _ := h.at 6
  have f7 : cell M a 7 = _ := h.at 7
  refine fn146 (by simp) ?_
  repeat' (first
    | (refine vl_pure rfl ?_)
    | (refine vl_gy rfl rfl ?_)
    | (refine vl_gn rfl rfl ?_)
    | (refine vl_gu rfl ?_)
    | (refine vl_ld rfl (by first | exact f5 | exact f6 | exact f7) ?_)
    | (refine vl_nil ?_)
    | (refine VC.seq ?_)
    | (refine VC.regV ?_)
    | (refine VC.block ?_)
    | (refine VC.ret ?_)
    | (refine VC.skip ?_)
    | (refine seqQ_n ?_)
    | (refine seqQ_r ?_)
    | (refine blkQ_r ?_)
    | (refine vl_gs rfl (fun hb => ?_) (fun hb => ?_))
    | (refine VC.cond _ rfl (fun hb => ?_) (fun hb => ?_)))
  all_goals (refine fnQ_r rfl (Mem.le_refl _) (q_end (bool_dec ?_)))
  all_goals (simp_all [Mended] <;> omega)
theorem formed_q {M : Mem} {a : Nat} {x : HS} {w : Word} (h : PH M a x) : Qt Try.prog 106 [ptr a, wa w] M (.bool (decide (Formed x.H w))) := by
  obtain ⟨sc, cc, e⟩ := h.v.cl.sl.len
  rw [h.v.len] at e
  have hbd := h.v.cl.sl.bound
  rw [h.v.len] at hbd
  have f4 : cell M a 4 = _ := (h.at 4).trans (congrArg some e)
  refine fn106 (by simp) ?_
  repeat' (first
    | (refine vl_sub rfl rfl (by omega) ?_)
    | (refine vl_pure rfl ?_)
    | (refine vl_gy rfl rfl ?_)
    | (refine vl_gn rfl rfl ?_)
    | (refine vl_ld rfl (by first | exact f4) ?_)
    | (refine vl_nil ?_)
    | (refine VC.seq ?_)
    | (refine VC.regV ?_)
    | (refine vl_box rfl rfl ?_)
    | (refine vl_q rfl (impl.withinQ) ?_)
    | (refine VC.dregV ?_)
    | (refine VC.block ?_)
    | (refine VC.ret ?_)
    | (refine VC.skip ?_)
    | (refine seqQ_n ?_)
    | (refine seqQ_r ?_)
    | (refine blkQ_r ?_)
    | (refine vl_gs rfl (fun hb => ?_) (fun hb => ?_))
    | (refine VC.cond _ rfl (fun hb => ?_) (fun hb => ?_)))
  all_goals (refine fnQ_r rfl (Mem.le_refl _) (q_end (bool_dec ?_)))
  all_goals (simp_all [Formed] <;> omega)
end Go.Proofs.Ytcmllambknfleaa.E
set_option linter.unusedVariables false
set_option linter.unusedSimpArgs false
set_option maxRecDepth 100000
namespace Go.Proofs.Ytcmllambknfleaa.E
open Go
open Classical
theorem Formed.at {H : Heap} {w : Word} (h : Formed H w) (hk : w.kind = 2) : 0 ≤ w.at_ ∧ w.at_ < H.cells.length := by
  rcases h with h | h | h
  · omega
  · omega
  · exact ⟨h.2.2.1, h.2.2.2⟩
theorem white_q {M : Mem} {a : Nat} {x : HS} {w : Word} (h : PH M a x) (hf : Formed x.H w) : Qt Try.prog 148 [ptr a, wa w] M (.bool (decide (White x.H w))) := by
  refine fn148 (by simp) ?_
  by_cases hk : w.kind = 2
  · obtain ⟨b, o, cap, y, e, hc, hy, _⟩ := h.v.cellAt (hf.at hk).1 (hf.at hk).2
    have f4 : cell M a 4 = _ := (h.at 4).trans (congrArg some e)
    have hat := hf.at hk
    repeat' (first
      | (refine vl_pure rfl ?_)
      | (refine vl_gy rfl rfl ?_)
      | (refine vl_gn rfl rfl ?_)
      | (refine vl_ld rfl (by first | exact f4 | exact hc | exact cells_cell hc (j := 5) rfl) ?_)
      | (refine vl_nil ?_)
      | (refine VC.seq ?_)
      | (refine VC.regV ?_)
      | (refine vl_idx rfl rfl (by omega) ?_)
      | (refine vl_box rfl rfl ?_)
      | (refine VC.dregV ?_)
      | (refine VC.ret ?_)
      | (refine vl_gs rfl (fun hb => ?_) (fun hb => ?_)))
    all_goals (refine fnQ_r rfl (Mem.le_refl _) (q_end (bool_dec ?_)))
    all_goals simp_all [White]
  · repeat' (first
      | (refine vl_pure rfl ?_)
      | (refine vl_gy rfl rfl ?_)
      | (refine vl_gn rfl rfl ?_)
      | (refine vl_nil ?_)
      | (refine VC.seq ?_)
      | (refine VC.regV ?_)
      | (refine vl_box rfl rfl ?_)
      | (exact absurd (by simpa using hb) hk)
      | (refine VC.dregV ?_)
      | (refine VC.ret ?_)
      | (refine vl_gs rfl (fun hb => ?_) (fun hb => ?_)))
    all_goals (refine fnQ_r rfl (Mem.le_refl _) (q_end (bool_dec ?_)))
    all_goals simp_all [White]
theorem leadsWell_q {M : Mem} {a : Nat} {x : HS} {w : Word} {m : Bool} (h : PH M a x) (hf : Formed x.H w) : Qt Try.prog 143 [ptr a, wa w, .bool m] M (.bool (decide (LeadsWell x.H w (m = true)))) := by
  refine fn143 (by simp) ?_
  by_cases hk : w.kind = 2
  · obtain ⟨b, o, cap, y, e, hc, hy, _⟩ := h.v.cellAt (hf.at hk).1 (hf.at hk).2
    have f4 : cell M a 4 = _ := (h.at 4).trans (congrArg some e)
    have hat := hf.at hk
    repeat' (first
      | (refine vl_pure rfl ?_)
      | (refine vl_gy rfl rfl ?_)
      | (refine vl_gn rfl rfl ?_)
      | (refine vl_gu rfl ?_)
      | (refine vl_ld rfl (by first | exact f4 | exact hc | exact cells_cell hc (j := 0) rfl) ?_)
      | (refine vl_nil ?_)
      | (refine VC.seq ?_)
      | (refine VC.regV ?_)
      | (refine vl_idx rfl rfl (by omega) ?_)
      | (refine vl_box rfl rfl ?_)
      | (refine vl_cq rfl (doomed_q h hat.1 hat.2) ?_)
      | (refine VC.dregV ?_)
      | (refine VC.ret ?_)
      | (refine VC.skip ?_)
      | (refine seqQ_n ?_)
      | (refine seqQ_r ?_)
      | (refine vl_gs rfl (fun hb => ?_) (fun hb => ?_))
      | (refine VC.cond _ rfl (fun hb => ?_) (fun hb => ?_)))
    all_goals (refine fnQ_r rfl (Mem.le_refl _) (q_end (bool_dec ?_)))
    all_goals (simp_all [LeadsWell])
  · repeat' (first
      | (refine vl_pure rfl ?_)
      | (refine vl_nil ?_)
      | (refine VC.seq ?_)
      | (refine VC.regV ?_)
      | (refine vl_box rfl rfl ?_)
      | (exact absurd (by simpa using hb) hk)
      | (refine VC.ret ?_)
      | (refine seqQ_n ?_)
      | (refine seqQ_r ?_)
      | (refine VC.cond _ rfl (fun hb => ?_) (fun hb => ?_)))
    all_goals (refine fnQ_r rfl (Mem.le_refl _) (q_end (bool_dec ?_)))
    all_goals (simp_all [LeadsWell])
/-- what a word leads to, moved cells seen through -/
def Heap.lead (H : Heap) (w : Word) : Word := if w.kind = 2 ∧ (H.getC w.at_).state = 2 then ⟨2, 0, (H.getC w.at_).to⟩ else w
theorem lead_q {M : Mem} {a : Nat} {x : HS} {w : Word} (h : PH M a x) (hf : w.kind = 2 → 0 ≤ w.at_ ∧ w.at_ < x.H.cells.length) : Qt Try.prog 107 [ptr a, wa w] M (wa (x.H.lead w)) := by
  refine fn107 (by simp) ?_
  unfold Heap.lead
  by_cases hk : w.kind = 2
  · obtain ⟨b, o, cap, y, e, hc, hy, _⟩ := h.v.cellAt (hf hk).1 (hf hk).2
    have f4 : cell M a 4 = _ := (h.at 4).trans (congrArg some e)
    have hat := hf hk
    repeat' (first
      | (refine vl_pure rfl ?_)
      | (refine vl_gy rfl rfl ?_)
      | (refine vl_gn rfl rfl ?_)
      | (refine vl_ld rfl (by first | exact f4 | exact hc | exact cells_cell hc (j := 0) rfl | exact cells_cell hc (j := 6) rfl) ?_)
      | (refine vl_nil ?_)
      | (refine VC.seq ?_)
      | (refine VC.regV ?_)
      | (refine vl_idx rfl rfl (by omega) ?_)
      | (refine vl_alloc ?_)
      | (refine vl_stw rfl rfl rfl rfl (by first | rfl | assumption) (Nat.le_of_ble_eq_true rfl) ?_)
      | (refine sk_zero ?_)
      | (refine sk_succ ?_)
      | (refine wk_nil ?_)
      | (refine wk_cons ?_)
      | (refine vl_box rfl rfl ?_)
      | (refine VC.dregV ?_)
      | (refine VC.ret ?_)
      | (refine VC.skip ?_)
      | (refine seqQ_n ?_)
      | (refine seqQ_r ?_)
      | (refine vl_gs rfl (fun hb => ?_) (fun hb => ?_))
      | (refine VC.cond _ rfl (fun hb => ?_) (fun hb => ?_)))
    all_goals (refine fnQ_r rfl (Mem.le_refl _) (q_end ?_))
    any_goals (exfalso; simp_all; done)
    any_goals (rw [if_pos (by simp_all)]; rw [← hy]; rfl)
    all_goals (rw [if_neg (by simp_all)]; rfl)
  · repeat' (first
      | (refine vl_pure rfl ?_)
      | (refine vl_gy rfl rfl ?_)
      | (refine vl_gn rfl rfl ?_)
      | (refine vl_nil ?_)
      | (refine VC.seq ?_)
      | (refine VC.regV ?_)
      | (refine vl_alloc ?_)
      | (refine vl_stw rfl rfl rfl rfl (by first | rfl | assumption) (Nat.le_of_ble_eq_true rfl) ?_)
      | (refine sk_zero ?_)
      | (refine sk_succ ?_)
      | (refine wk_nil ?_)
      | (refine wk_cons ?_)
      | (refine vl_box rfl rfl ?_)
      | (exfalso; simp_all; done)
      | (refine VC.dregV ?_)
      | (refine VC.ret ?_)
      | (refine VC.skip ?_)
      | (refine seqQ_n ?_)
      | (refine vl_gs rfl (fun hb => ?_) (fun hb => ?_))
      | (refine VC.cond _ rfl (fun hb => ?_) (fun hb => ?_)))
    all_goals (refine fnQ_r rfl (Mem.le_refl _) (q_end ?_))
    all_goals (rw [if_neg (by simp_all)]; rfl)
end Go.Proofs.Ytcmllambknfleaa.E
