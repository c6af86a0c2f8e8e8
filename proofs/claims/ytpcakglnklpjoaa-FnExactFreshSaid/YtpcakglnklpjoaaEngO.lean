/- The engine, part O: code, loops, a function's body. Conditions: none. -/
import Derived.Test.YtpcakglnklpjoaaEngN
set_option linter.unusedVariables false
set_option linter.unusedSimpArgs false
namespace Go.Proofs.Ytpcakglnklpjoaa.E
open Go

inductive C where
  | reg (l : List I)
  | dreg (n : Nat) (l : List I)
  | seq (a b : C)
  | cond (x : Operand) (a b : C)
  | block (id : Nat) (c : C)
  | loop (c : C)
  | exit (id : Nat)
  | ret
  | skip
structure Env where
  P : Program
  own : List Nat
  nt : Nat
  ns : List (Nat × Nat)
def trC (E : Env) : Code → Option C
  | .skip => some .skip
  | .region id ops draw =>
    if draw then
      match E.ns.lookup id with
      | some n => match trL E.P E.own E.nt ops n ops.toList with
        | some l => if drawB ops l n then some (.dreg n l) else none
        | none => none
      | none => none
    else (trL E.P E.own E.nt ops 0 ops.toList).map .reg
  | .seq a b => match trC E a, trC E b with
    | some a', some b' => some (.seq a' b')
    | _, _ => none
  | .cond x a b => match trC E a, trC E b with
    | some a', some b' => some (.cond x a' b')
    | _, _ => none
  | .block id c => (trC E c).map (.block id)
  | .loop c => (trC E c).map .loop
  | .exit id => some (.exit id)
  | .ret => some .ret
  | _ => none

inductive X where
  | nrm
  | ret
  | ext (id : Nat)
def exitIs : Exit → X → Prop
  | .normal, .nrm => True
  | .ret, .ret => True
  | .exit id, .ext id' => id = id'
  | _, _ => False
def lift (nt : Nat) (Q : X → St → Mem → Prop) (W0 : World) (M0 : Mem) : Exit → Act → World → Prop := fun e a w =>
  ∃ x S M β, exitIs e x ∧ Q x S M ∧ RepF W0 M0 β S nt M a w
/-- WHAT IS ASKED OF A PIECE OF CODE, from these slots and this memory on. -/
structure VC (E : Env) (c : C) (Q : X → St → Mem → Prop) (S : St) (M : Mem) : Prop where
  out : ∀ code, trC E code = some c → E.P.follows .mixedOrders = true → ∀ W0 M0 β a w, RepF W0 M0 β S E.nt M a w → code.wp E.P (lift E.nt Q W0 M0) a w

def seqQ (K : St → Mem → Prop) (Q : X → St → Mem → Prop) : X → St → Mem → Prop
  | .nrm => K
  | x => Q x
def blkQ (id : Nat) (Q : X → St → Mem → Prop) : X → St → Mem → Prop
  | .ext i => if i = id then Q .nrm else Q (.ext i)
  | x => Q x
/-- slots, written out -/
def ofL : List (Nat × SV) → St
  | [] => fun _ => .junk
  | (d, x) :: r => upF (ofL r) d x
def leA : List (Nat × SV) → St → Prop
  | [], _ => True
  | (d, x) :: r, S => S d = x ∧ leA r S
theorem leA.leF : ∀ {l : List (Nat × SV)} {S : St}, leA l S → leF (ofL l) S
  | [], _, _ => fun _ => .inl rfl
  | (d, x) :: r, S, h => fun t => by
    simp only [ofL, upF_eq]
    by_cases e : t = d
    · rw [if_pos e, e]; exact .inr h.1.symm
    · rw [if_neg e]; exact leA.leF h.2 t

section
variable {E : Env} {Q Q' : X → St → Mem → Prop} {S S' : St} {M M' : Mem}
theorem VC.mono {c : C} (h : VC E c Q S M) (k : ∀ x S M, Q x S M → Q' x S M) : VC E c Q' S M :=
  ⟨fun code ht hm W0 M0 β a w hR => wp_mono (h.out code ht hm W0 M0 β a w hR) fun e a w ⟨x, S, M, β, he, hq, r⟩ => ⟨x, S, M, β, he, k _ _ _ hq, r⟩⟩
theorem VC.weak {c : C} (l : List (Nat × SV)) (hS : leA l S) (hM : M'.le M) (h : VC E c Q (ofL l) M') : VC E c Q S M :=
  ⟨fun code ht hm W0 M0 β a w hR => h.out code ht hm W0 M0 β a w ((hR.weak hS.leF).le hM)⟩
theorem VC.drop {c : C} (hM : M'.le M) (h : VC E c Q S M') : VC E c Q S M :=
  ⟨fun code ht hm W0 M0 β a w hR => h.out code ht hm W0 M0 β a w (hR.le hM)⟩
theorem trC_inv {code : Code} {c : C} (h : trC E code = some c) : match c with
    | .skip => code = .skip
    | .ret => code = .ret
    | .exit id => code = .exit id
    | .reg l => ∃ id ops, code = .region id ops false ∧ trL E.P E.own E.nt ops 0 ops.toList = some l
    | .dreg n l => ∃ id ops, code = .region id ops true ∧ trL E.P E.own E.nt ops n ops.toList = some l ∧ drawB ops l n = true
    | .seq a b => ∃ x y, code = .seq x y ∧ trC E x = some a ∧ trC E y = some b
    | .cond t a b => ∃ x y, code = .cond t x y ∧ trC E x = some a ∧ trC E y = some b
    | .block id a => ∃ x, code = .block id x ∧ trC E x = some a
    | .loop a => ∃ x, code = .loop x ∧ trC E x = some a := by
  cases code <;> simp only [trC] at h
  case skip => cases h; rfl
  case ret => cases h; rfl
  case exit id => cases h; rfl
  case region id ops draw =>
    cases draw with
    | false =>
      simp only [Bool.false_eq_true, if_false, Option.map_eq_some_iff] at h
      obtain ⟨l, hl, h⟩ := h
      cases h
      exact ⟨id, ops, rfl, hl⟩
    | true =>
      simp only [if_true] at h
      split at h
      · split at h
        · rename_i l hl
          split at h
          · rename_i hB; cases h; exact ⟨id, ops, rfl, hl, hB⟩
          · cases h
        · cases h
      · cases h
  case seq x y =>
    split at h
    · rename_i a b h1 h2; cases h; exact ⟨x, y, rfl, h1, h2⟩
    · cases h
  case cond t x y =>
    split at h
    · rename_i a b h1 h2; cases h; exact ⟨x, y, rfl, h1, h2⟩
    · cases h
  case block id x =>
    simp only [Option.map_eq_some_iff] at h
    obtain ⟨a, h1, h⟩ := h
    cases h; exact ⟨x, rfl, h1⟩
  case loop x =>
    simp only [Option.map_eq_some_iff] at h
    obtain ⟨a, h1, h⟩ := h
    cases h; exact ⟨x, rfl, h1⟩
  all_goals cases h
theorem VC.skip (h : Q .nrm S M) : VC E .skip Q S M :=
  ⟨fun code ht hm W0 M0 β a w hR => by
    have e : code = .skip := trC_inv ht
    subst e
    exact wp_skip ⟨.nrm, S, M, β, trivial, h, hR⟩⟩
theorem VC.ret (h : Q .ret S M) : VC E .ret Q S M :=
  ⟨fun code ht hm W0 M0 β a w hR => by
    have e : code = .ret := trC_inv ht
    subst e
    exact wp_ret ⟨.ret, S, M, β, trivial, h, hR⟩⟩
theorem VC.exit {id : Nat} (h : Q (.ext id) S M) : VC E (.exit id) Q S M :=
  ⟨fun code ht hm W0 M0 β a w hR => by
    have e : code = .exit id := trC_inv ht
    subst e
    exact wp_exit ⟨.ext id, S, M, β, rfl, h, hR⟩⟩
theorem VC.reg {l : List I} (h : vcL E.P l (Q .nrm) S M) : VC E (.reg l) Q S M :=
  ⟨fun code ht hm W0 M0 β a w hR => by
    obtain ⟨id, ops, rfl, hl⟩ := trC_inv ht
    exact wp_region_list (vcL_sound (fun S' M' a' w' β' hp hr => ⟨.nrm, S', M', β', trivial, hp, hr⟩) hl hR h)⟩
theorem VC.dreg {n : Nat} {l : List I} (h : vcL E.P l (Q .nrm) (fun t => junkD (dsOf l n) (S t)) M) : VC E (.dreg n l) Q S M :=
  ⟨fun code ht hm W0 M0 β a w hR => by
    obtain ⟨id, ops, rfl, hl, hB⟩ := trC_inv ht
    exact draw_sound hm hl hB hR h (fun S' M' a' w' β' hp hr => ⟨.nrm, S', M', β', trivial, hp, hr⟩)⟩
theorem VC.seq {a b : C} (h : VC E a (seqQ (VC E b Q) Q) S M) : VC E (.seq a b) Q S M :=
  ⟨fun code ht hm W0 M0 β ac w hR => by
    obtain ⟨x, y, rfl, h1, h2⟩ := trC_inv ht
    refine wp_seq (wp_mono (h.out x h1 hm W0 M0 β ac w hR) ?_)
    rintro e a' w' ⟨xx, S', M', β', he, hq, hr⟩
    cases e <;> cases xx <;> first | (exact he.elim) | skip
    · exact hq.out y h2 hm W0 M0 β' a' w' hr
    · exact ⟨_, S', M', β', he, hq, hr⟩
    · exact ⟨_, S', M', β', he, hq, hr⟩⟩
theorem VC.cond {x : Operand} {a b : C} (t : Bool) (hx : ev S x = some (.bool t)) (h1 : t = true → VC E a Q S M) (h2 : t = false → VC E b Q S M) : VC E (.cond x a b) Q S M :=
  ⟨fun code ht hm W0 M0 β ac w hR => by
    obtain ⟨y, z, rfl, e1, e2⟩ := trC_inv ht
    exact wp_cond_split (hR.ev hx) (fun e => (h1 e).out y e1 hm W0 M0 β ac w hR) (fun e => (h2 e).out z e2 hm W0 M0 β ac w hR)⟩
theorem VC.block {id : Nat} {c : C} (h : VC E c (blkQ id Q) S M) : VC E (.block id c) Q S M :=
  ⟨fun code ht hm W0 M0 β ac w hR => by
    obtain ⟨x, rfl, h1⟩ := trC_inv ht
    refine wp_block (wp_mono (h.out x h1 hm W0 M0 β ac w hR) ?_)
    rintro e a' w' ⟨xx, S', M', β', he, hq, hr⟩
    cases e <;> cases xx <;> first | (exact he.elim) | skip
    · exact ⟨_, S', M', β', he, hq, hr⟩
    · rename_i i i'
      have he' : i = i' := he
      subst he'
      simp only [blkQ] at hq
      simp only [Exit.inBlock]
      by_cases hi : i = id
      · rw [if_pos hi] at hq ⊢; exact ⟨.nrm, S', M', β', trivial, hq, hr⟩
      · rw [if_neg hi] at hq ⊢; exact ⟨.ext i, S', M', β', rfl, hq, hr⟩
    · exact ⟨_, S', M', β', he, hq, hr⟩⟩
/-- A LOOP. 'T x': the slots at its head; 'Inv k x M': what holds there when at most k rounds are to come. -/
theorem VC.loop {c : C} {α : Type} (T : α → List (Nat × SV)) (Inv : Nat → α → Mem → Prop) (h0 : ∃ k x M', leA (T x) S ∧ M'.le M ∧ Inv k x M')
    (h : ∀ k x M, Inv k x M → VC E c (seqQ (fun S' M' => ∃ k' x' M'', k' < k ∧ leA (T x') S' ∧ M''.le M' ∧ Inv k' x' M'') Q) (ofL (T x)) M) : VC E (.loop c) Q S M :=
  ⟨fun code ht hm W0 M0 β ac w hR => by
    obtain ⟨y, rfl, h1⟩ := trC_inv ht
    obtain ⟨k, x, M', hle, hM, hinv⟩ := h0
    refine wp_loop_ghost (fun k a w => ∃ x M β, Inv k x M ∧ RepF W0 M0 β (ofL (T x)) E.nt M a w) k ⟨x, M', β, hinv, (hR.weak hle.leF).le hM⟩ ?_
    rintro k a w ⟨x, M, β, hinv, hR⟩
    refine wp_mono ((h k x M hinv).out y h1 hm W0 M0 β a w hR) ?_
    rintro e a' w' ⟨xx, S', M', β', he, hq, hr⟩
    cases e <;> cases xx <;> first | (exact he.elim) | skip
    · obtain ⟨k', x', M'', hk, hle, hM, hinv⟩ := hq
      exact ⟨k', hk, x', M'', β', hinv, (hr.weak hle.leF).le hM⟩
    · exact ⟨_, S', M', β', he, hq, hr⟩
    · exact ⟨_, S', M', β', he, hq, hr⟩⟩
/-- what is proved once of what follows, by whatever way one comes to it -/
theorem VC.cut {a b : C} (J : St → Mem → Prop) (h : VC E a (seqQ J Q) S M) (h2 : ∀ S M, J S M → VC E b Q S M) : VC E (.seq a b) Q S M :=
  VC.seq (h.mono fun x S M hq => by cases x <;> first | exact h2 _ _ hq | exact hq)

/-! ### A function -/
inductive RV where
  | tmp (t : Nat)
  | cell (t : Nat) (one : Bool) (n : Nat)
def trR (P : Program) : ResultVar → Option RV
  | .tmp t => some (.tmp t)
  | .cell a t => match P.underlying t, P.info? t with
    | some d, some i => some (.cell a (!isAggD d) i.size)
    | _, _ => none
def rvV (S : St) (M : Mem) : RV → Option Value
  | .tmp t => ev S (.tmp t)
  | .cell t one n => match lc S (.tmp t) with
    | some (.bx s o) => match bxc (S s) with
      | some cs => rdv one n cs o
      | none => none
    | some (.mm b o) => match M b with
      | some (.row cs) => rdv one n cs o
      | _ => none
    | none => none
def rvs (S : St) (M : Mem) : List RV → Option (List Value)
  | [] => some []
  | r :: t => match rvV S M r, rvs S M t with
    | some v, some l => some (v :: l)
    | _, _ => none
def resV (S : St) (M : Mem) (rs : List RV) : Option Value :=
  match rvs S M rs with
  | some [v] => some v
  | some l => some (.tuple l.toArray)
  | none => none
def fnQ (rs : List RV) (post : Value → Mem → Prop) : X → St → Mem → Prop
  | .ext _, _, _ => False
  | _, S, M => ∃ v M', resV S M rs = some v ∧ M'.le M ∧ post v M'
def rdRes (tmps : Array Value) : ResultVar → Sem Value
  | .tmp t => pure (tmps.getD t undef)
  | .cell a t => do loadVar t (← asAddr (tmps.getD a undef))
theorem results_eq (fn : Func) (tmps : Array Value) : results fn tmps = (do let vs ← fn.results.mapM (rdRes tmps); pure (if h : vs.size = 1 then vs[0] else .tuple vs)) := by
  rfl
theorem run_rv {P : Program} {W0 : World} {M0 : Mem} {β : Nat → Nat} {n : Nat} {a : Act} {w : World} (hR : RepF W0 M0 β S n M a w) {r : ResultVar} {rv : RV} (ht : trR P r = some rv) {v : Value} (h : rvV S M rv = some v) :
    (rdRes a.tmps r).run P w = .ok v w := by
  unfold rdRes
  cases r with
  | tmp t =>
    simp only [trR, Option.some.injEq] at ht
    subst ht
    have := hR.ev (x := .tmp t) h
    simp only [Sem.run_pure]
    exact congrArg (Result.ok · w) this
  | cell c t =>
    simp only [trR] at ht
    split at ht
    · rename_i d i hd hi
      simp only [Option.some.injEq] at ht
      subst ht
      simp only [rvV] at h
      split at h
      · rename_i s o hl
        split at h
        · rename_i cs hc
          have e : a.tmps.getD c undef = .pointer (some ⟨β s, o, none⟩) := hR.lc_bx hl
          simp only [Sem.run_bind, e, asAddr, Sem.run_pure, Result.andThen_ok]
          exact run_loadVar hd hi (hR.bxc hc).2.ro h
        · cases h
      · rename_i b o hl
        split at h
        · rename_i cs hc
          have e : a.tmps.getD c undef = .pointer (some ⟨b, o, none⟩) := hR.lc_mm hl
          simp only [Sem.run_bind, e, asAddr, Sem.run_pure, Result.andThen_ok]
          exact run_loadVar hd hi (hR.sat _ _ hc).ro h
        · cases h
      · cases h
    · cases ht
theorem run_rvs {P : Program} {W0 : World} {M0 : Mem} {β : Nat → Nat} {n : Nat} {a : Act} {w : World} (hR : RepF W0 M0 β S n M a w) : ∀ {l : List ResultVar} {rl : List RV}, l.mapM (trR P) = some rl → ∀ {vs : List Value}, rvs S M rl = some vs →
    (l.mapM (rdRes a.tmps)).run P w = .ok vs w
  | [], rl, ht, vs, h => by
    simp only [List.mapM_nil, Option.pure_def, Option.some.injEq] at ht
    subst ht
    simp only [rvs, Option.some.injEq] at h
    subst h
    rfl
  | r :: t, rl, ht, vs, h => by
    simp only [List.mapM_cons, Option.pure_def, Option.bind_eq_bind, Option.bind_eq_some_iff, Option.some.injEq] at ht
    obtain ⟨y, hy, r', hr, rfl⟩ := ht
    simp only [rvs] at h
    split at h
    · rename_i v l h1 h2
      simp only [Option.some.injEq] at h
      subst h
      simp only [List.mapM_cons, Sem.run_bind]
      rw [run_rv hR hy h1]
      simp only [Result.andThen_ok, run_rvs hR hr h2, Sem.run_pure]
    · cases h
theorem run_results {P : Program} {W0 : World} {M0 : Mem} {β : Nat → Nat} {n : Nat} {a : Act} {w : World} (hR : RepF W0 M0 β S n M a w) {fn : Func} {rl : List RV} (ht : fn.results.toList.mapM (trR P) = some rl) {v : Value} (h : resV S M rl = some v) :
    (results fn a.tmps).run P w = .ok v w := by
  unfold resV at h
  have key : ∀ {vs}, rvs S M rl = some vs → (results fn a.tmps).run P w = .ok (if h : vs.toArray.size = 1 then vs.toArray[0] else .tuple vs.toArray) w := by
    intro vs hvs
    have := run_rvs (P := P) hR ht hvs
    rw [results_eq, Array.mapM_eq_mapM_toList]
    simp only [Sem.run_bind, Sem.run_map]
    rw [this]
    rfl
  split at h
  · rename_i v' hvs
    simp only [Option.some.injEq] at h
    subst h
    rw [key hvs]; rfl
  · rename_i l hne hvs
    simp only [Option.some.injEq] at h
    subst h
    rw [key hvs]
    rw [dif_neg]
    intro hl
    match l, hl with
    | [x], _ => exact hne x rfl
  · cases h
/-- the slots as a function is entered -/
def initS : List Value → Nat → St
  | [], nt => fun t => bif Nat.blt t nt then .v undef else .junk
  | x :: r, nt => fun t => match t with
    | 0 => .v x
    | t + 1 => initS r (nt - 1) t
theorem initS_in : ∀ (args : List Value) (nt t : Nat), args.length ≤ nt → t < nt → initS args nt t = .v ((args ++ List.replicate (nt - args.length) undef).getD t undef)
  | [], nt, t, _, ht => by
    have hb : Nat.blt t nt = true := by simp [Nat.blt_eq, ht]
    simp only [initS, hb, cond_true, List.nil_append, List.length_nil, Nat.sub_zero, List.getD_eq_getElem?_getD]
    simp [ht]
  | x :: r, nt, 0, _, _ => by simp [initS]
  | x :: r, nt, t + 1, hl, ht => by
    simp only [List.length_cons] at hl
    have := initS_in r (nt - 1) t (by omega) (by omega)
    simp only [initS, this, List.length_cons, List.cons_append, List.getD_eq_getElem?_getD, List.getElem?_cons_succ]
    rw [show nt - (r.length + 1) = nt - 1 - r.length by omega]
theorem initS_out : ∀ (args : List Value) (nt t : Nat), args.length ≤ nt → nt ≤ t → initS args nt t = .junk
  | [], nt, t, _, ht => by
    have hb : Nat.blt t nt = false := by
      cases h : Nat.blt t nt with
      | false => rfl
      | true => rw [Nat.blt_eq] at h; omega
    simp only [initS, hb, cond_false]
  | x :: r, nt, 0, hl, ht => by simp only [List.length_cons] at hl; omega
  | x :: r, nt, t + 1, hl, ht => by
    simp only [List.length_cons] at hl
    exact initS_out r (nt - 1) t (by omega) (by omega)
/-- A FUNCTION'S BODY. -/
theorem Fn.of {f : FuncId} {fn : Func} {code : Code} {c : C} {rl : List RV} (hf : E.P.funcs[f]? = some fn) (hb : fn.body = some code) (hn : fn.ntmps = E.nt) (ht : trC E code = some c) (hr : fn.results.toList.mapM (trR E.P) = some rl) (hm : E.P.follows .mixedOrders = true)
    {args : List Value} {post : Value → Mem → Prop} (hl : args.length ≤ E.nt) (h : VC E c (fnQ rl post) (initS args E.nt) M) : Fn E.P f args M post := by
  refine ⟨fun w hw => calls_of_wp hf hb ?_⟩
  have hR : RepF w M (fun _ => 0) (initS args E.nt) E.nt M { tmps := args.toArray ++ Array.replicate (fn.ntmps - args.toArray.size) undef, defers := [] } w := by
    refine ⟨rfl, ?_, ?_, hw, Stp.refl _ _, ?_, ?_⟩
    · simp [hn]; omega
    · intro t ht; exact initS_out args E.nt t hl ht
    · intro t
      rcases Nat.lt_or_ge t E.nt with h1 | h1
      · rw [initS_in args E.nt t hl h1]
        show _ = _
        simp only [Array.getD_eq_getD_getElem?, List.getD_eq_getElem?_getD, hn]
        have : args.toArray ++ Array.replicate (E.nt - args.length) undef = (args ++ List.replicate (E.nt - args.length) undef).toArray := by
          apply Array.ext'; simp
        simp only [List.size_toArray]
        rw [this, List.getElem?_toArray]
      · rw [initS_out args E.nt t hl h1]; trivial
    · intro t t' h1
      rcases Nat.lt_or_ge t E.nt with h2 | h2
      · rw [initS_in args E.nt t hl h2] at h1; cases h1
      · rw [initS_out args E.nt t hl h2] at h1; cases h1
  refine wp_mono (h.out code ht hm w M _ _ w hR) ?_
  rintro e a' w' ⟨xx, S', M', β', he, hq, hr'⟩
  have fin : (∃ v M'', resV S' M' rl = some v ∧ M''.le M' ∧ post v M'') → a'.defers = [] ∧ ∃ v, (results fn a'.tmps).run E.P w' = .ok v w' ∧ ∃ v' M'', Ending.returned v = .returned v' ∧ post v' M'' ∧ Sat w' M'' ∧ Stp w M w' M'' := by
    rintro ⟨v, M'', hv, hle, hp⟩
    exact ⟨hr'.df, v, run_results hr' hr hv, v, M'', rfl, hp, hr'.sat.le hle, hr'.stp.le hle⟩
  cases e <;> cases xx <;> first | (exact he.elim) | skip
  · exact fin hq
  · exact hq.elim
  · exact fin hq
end
end Go.Proofs.Ytpcakglnklpjoaa.E
