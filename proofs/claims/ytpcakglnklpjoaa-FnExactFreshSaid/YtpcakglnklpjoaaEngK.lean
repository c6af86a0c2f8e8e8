/- The engine, part K: a region that draws its order: a part that floats, then a chain; whatever order is drawn comes to what the order of the text comes to. Conditions: none. -/
import Derived.Test.YtpcakglnklpjoaaEngJ
set_option linter.unusedVariables false
set_option linter.unusedSimpArgs false
namespace Go.Proofs.Ytpcakglnklpjoaa.E
open Go

def floatK : K → Bool
  | .call _ _ | .callv _ _ | .store _ _ _ | .mkslice _ _ _ _ _ | .app _ _ _ _ _ | .appz _ _ _ _ _ | .mkmap | .mupd _ _ _ | .mdel _ _ => false
  | .alloc ow _ => ow
  | .box ow _ => ow
  | .bslice ow _ _ _ _ => ow
  | _ => true
def boxK : K → Bool
  | .alloc _ _ | .box _ _ | .bslice _ _ _ _ _ => true
  | _ => false
def dOf (l : List I) (i : Nat) : Option Nat := (l[i]?).bind (·.d)
def slotsAt (l : List I) (i : Nat) : List Nat := match l[i]? with | some x => x.slots | none => []
def dsOf (l : List I) (n : Nat) : List Nat := (l.take n).filterMap (·.d)
def drawB (ops : Array Oper) (l : List I) (n : Nat) : Bool :=
  ((List.range n).all fun i => match l[i]? with | some x => floatK x.k && x.d.isSome | none => false) &&
  ((List.range n).all fun i => (List.range i).all fun j => dOf l i != dOf l j) &&
  ((List.range n).all fun i => (slotsAt l i).all fun t => (List.range n).all fun j => dOf l j != some t || (decide (j < i) && Region.waitsFor .any ops i j)) &&
  ((List.range n).all fun i => !(match l[i]? with | some x => boxK x.k | none => false) || (List.range n).all fun j => !(slotsAt l j).any fun t => dOf l i == some t) &&
  ((List.range ops.size).all fun i => match ops[i]? with | some o => o.after.all fun e => !Region.binds .any e || decide (e.on < i) | none => false) &&
  (n == ops.size || (decide (n < ops.size) && Region.sinkB .any ops n && Region.chainB .any ops n))
def junkD (ds : List Nat) : SV → SV
  | .bp s o => if ds.contains s then .junk else .bp s o
  | x => x

section
variable {P : Program} {W0 : World} {M0 M M' : Mem} {β : Nat → Nat} {S : St} {f g : Nat → SV} {n nt : Nat} {a : Act} {w w' : World} {own : List Nat} {ops : Array Oper}

/-- what one floating operation gives, its guard and all -/
def FO (P : Program) (f : Nat → SV) (M : Mem) (i : I) (sv : SV) : Prop :=
  match i.g with
  | none => FE P f M i.k sv
  | some (s, want) => match f s with
    | .v (.bool b) => (b = want ∧ FE P f M i.k sv) ∨ (b ≠ want ∧ sv = .v undef)
    | .v _ => sv = .v undef
    | _ => False
def putX (S : St) (d : Option Nat) (sv : SV) : St := if sv.isBox then putB S d sv else put S d sv
theorem FO_of_vcO {i : I} {post : St → Mem → Prop} (hf : floatK i.k = true) (h : vcO P i post S M) : ∃ sv, FO P S M i sv ∧ post (putX S i.d sv) M := by
  have key : vcK P i.k i.d post S M → ∃ sv, FE P S M i.k sv ∧ post (putX S i.d sv) M := by
    intro hv
    cases hk : i.k <;> rw [hk] at hv hf <;> first
      | (cases hf; done)
      | exact hv
      | skip
    case alloc ow z =>
      have : ow = true := hf
      subst this; exact hv
    case box ow x =>
      have : ow = true := hf
      subst this; exact hv
    case bslice ow len size z ps =>
      have : ow = true := hf
      subst this; exact hv
  unfold vcO at h
  unfold FO
  cases hg : i.g with
  | none => rw [hg] at h; exact key h
  | some p =>
    obtain ⟨s, want⟩ := p
    rw [hg] at h
    simp only at h ⊢
    cases hs : S s with
    | v x =>
      rw [hs] at h
      cases x
      case bool b =>
        simp only at h ⊢
        by_cases hb : b = want
        · obtain ⟨sv, h1, h2⟩ := key (h.1 hb)
          exact ⟨sv, .inl ⟨hb, h1⟩, h2⟩
        · exact ⟨_, .inr ⟨hb, rfl⟩, h.2 hb⟩
      all_goals exact ⟨_, rfl, h⟩
    | _ => rw [hs] at h; exact h.elim

/-! ### What an operation looks at -/
theorem mem_tmps {t : Nat} : ∀ {xs : List Operand}, Operand.tmp t ∈ xs → t ∈ tmpsOf xs
  | [], h => by cases h
  | y :: r, h => by
    rcases List.mem_cons.1 h with h1 | h1
    · subst h1; simp [tmpsOf]
    · have ih := mem_tmps h1
      cases y <;> simp only [tmpsOf] <;> first | exact ih | exact List.mem_cons_of_mem _ ih
def agree (f g : Nat → SV) (xs : List Operand) : Prop := ∀ t, t ∈ tmpsOf xs → f t = g t ∧ ∀ s o, f t = .bp s o → f s = g s
theorem agree.one {xs : List Operand} (h : agree f g xs) {x : Operand} (hx : x ∈ xs) (t : Nat) (e : x = .tmp t) : f t = g t ∧ ∀ s o, f t = .bp s o → f s = g s := by subst e; exact h t (mem_tmps hx)
theorem ev_agree {xs : List Operand} (h : agree f g xs) {x : Operand} (hx : x ∈ xs) : ev g x = ev f x := by
  cases x with
  | tmp t => simp only [ev]; rw [(h.one hx t rfl).1]
  | _ => rfl
theorem lc_agree {xs : List Operand} (h : agree f g xs) {x : Operand} (hx : x ∈ xs) : lc g x = lc f x := by
  cases x with
  | tmp t => simp only [lc]; rw [(h.one hx t rfl).1]
  | _ => rfl
theorem bxc_agree {xs : List Operand} (h : agree f g xs) {x : Operand} (hx : x ∈ xs) {s o : Nat} (hl : lc f x = some (.bx s o)) : g s = f s := by
  cases x with
  | tmp t =>
    obtain ⟨h1, h2⟩ := h.one hx t rfl
    simp only [lc] at hl
    cases hf : f t with
    | v y => rw [hf] at hl; obtain ⟨b, o', e', _⟩ := lcV_mm hl; cases e'
    | box cs => rw [hf] at hl; simp only [Option.some.injEq, Lc.bx.injEq] at hl; rw [← hl.1]; exact h1.symm
    | bp s' o' => rw [hf] at hl; simp only [Option.some.injEq, Lc.bx.injEq] at hl; rw [← hl.1]; exact (h2 _ _ hf).symm
    | _ => rw [hf] at hl; cases hl
  | const x => obtain ⟨b, o', e', _⟩ := lcV_mm hl; cases e'
  | global g => simp [lc] at hl
  | func g => simp [lc] at hl
theorem evs_agree {xs : List Operand} (h : agree f g xs) : ∀ {ys : List Operand}, (∀ y ∈ ys, y ∈ xs) → evs g ys = evs f ys
  | [], _ => rfl
  | y :: r, hy => by
    simp only [evs]
    rw [ev_agree h (hy y (by simp)), evs_agree h (fun z hz => hy z (by simp [hz]))]
theorem fillP_agree {xs : List Operand} (h : agree f g xs) : ∀ {ps : List (Nat × Nat × Operand)} {cs : List Value}, (∀ p ∈ ps, p.2.2 ∈ xs) → fillP g cs ps = fillP f cs ps
  | [], cs, _ => rfl
  | (o, m, x) :: r, cs, hp => by
    simp only [fillP]
    rw [ev_agree h (hp (o, m, x) (by simp))]
    cases ev f x with
    | none => rfl
    | some y =>
      simp only []
      split
      · exact fillP_agree h (fun p hp' => hp p (by simp [hp']))
      · rfl
theorem optEv_agree {xs : List Operand} (h : agree f g xs) {x : Option Operand} (hx : ∀ y, x = some y → y ∈ xs) : optEv g x = optEv f x := by
  cases x with
  | none => rfl
  | some y => simp only [optEv]; rw [ev_agree h (hx y rfl)]
theorem pe_agree {k : K} (h : agree f g k.ops) : pe g k = pe f k := by
  cases k <;> simp only [pe]
  case mov x => rw [ev_agree h (by simp [K.ops])]
  case pick c x y =>
    rw [ev_agree h (x := c) (by simp [K.ops]), ]
    have h1 := ev_agree h (x := x) (by simp [K.ops])
    have h2 := ev_agree h (x := y) (by simp [K.ops])
    split
    · rename_i t _; cases t <;> simp [h1, h2]
    · rfl
  case bin op x y => rw [ev_agree h (x := x) (by simp [K.ops]), ev_agree h (x := y) (by simp [K.ops])]
  case eqB neg x y => rw [ev_agree h (x := x) (by simp [K.ops]), ev_agree h (x := y) (by simp [K.ops])]
  case eqA neg m x y => rw [ev_agree h (x := x) (by simp [K.ops]), ev_agree h (x := y) (by simp [K.ops])]
  case not x => rw [ev_agree h (x := x) (by simp [K.ops])]
  case conv k x => rw [ev_agree h (x := x) (by simp [K.ops])]
  case load one m x =>
    rw [lc_agree h (x := x) (by simp [K.ops])]
    cases hl : lc f x with
    | none => rfl
    | some l =>
      cases l with
      | mm b o => rfl
      | bx s o => simp only []; rw [bxc_agree h (x := x) (by simp [K.ops]) hl]
  case nilCheck x => rw [ev_agree h (x := x) (by simp [K.ops])]
  case faddr off x => rw [lc_agree h (x := x) (by simp [K.ops])]
  case field one off m x => rw [ev_agree h (x := x) (by simp [K.ops])]
  case iaddr size x i => rw [ev_agree h (x := x) (by simp [K.ops]), ev_agree h (x := i) (by simp [K.ops])]
  case sidx x i => rw [ev_agree h (x := x) (by simp [K.ops]), ev_agree h (x := i) (by simp [K.ops])]
  case build z ps => rw [fillP_agree h (fun p hp => by simp only [K.ops, List.mem_map]; exact ⟨p, hp, rfl⟩)]
  case slc size x lo hi =>
    rw [ev_agree h (x := x) (by simp [K.ops]), optEv_agree h (x := lo) (fun y e => by subst e; simp [K.ops]), optEv_agree h (x := hi) (fun y e => by subst e; simp [K.ops])]
  case sslc x lo hi =>
    rw [ev_agree h (x := x) (by simp [K.ops]), optEv_agree h (x := lo) (fun y e => by subst e; simp [K.ops]), optEv_agree h (x := hi) (fun y e => by subst e; simp [K.ops])]
  case lenS x => rw [ev_agree h (x := x) (by simp [K.ops])]
  case lenT x => rw [ev_agree h (x := x) (by simp [K.ops])]
  case min x y => rw [ev_agree h (x := x) (by simp [K.ops]), ev_agree h (x := y) (by simp [K.ops])]
  case ext x i => rw [ev_agree h (x := x) (by simp [K.ops])]
  case mkfn gg xs ys => rw [evs_agree h (ys := xs) (fun y hy => by simp [K.ops, hy]), evs_agree h (ys := ys) (fun y hy => by simp [K.ops, hy])]
theorem FE_agree {k : K} {sv : SV} (h : agree f g k.ops) (hfe : FE P f M k sv) : FE P g M k sv := by
  rcases hfe with hfe | hfe
  · exact .inl (by rw [pe_agree h]; exact hfe)
  · refine .inr ?_
    cases k <;> first | (exact hfe.elim) | skip
    case load one m x =>
      obtain ⟨b, o, cs, v, h1, h2⟩ := hfe
      exact ⟨b, o, cs, v, by rw [lc_agree h (x := x) (by simp [K.ops])]; exact h1, h2⟩
    case look one z ok x i =>
      obtain ⟨es, c, j, h1, h2, h3⟩ := hfe
      refine ⟨es, c, j, ?_, by rw [ev_agree h (x := i) (by simp [K.ops])]; exact h2, h3⟩
      rw [ev_agree h (x := x) (by simp [K.ops])]; exact h1
    case alloc ow z =>
      cases ow with
      | false => exact hfe.elim
      | true => exact hfe
    case box ow x =>
      cases ow with
      | false => exact hfe.elim
      | true =>
        obtain ⟨v, h1, h2⟩ : ∃ v, ev f x = some v ∧ sv = .box v.cells.toList := hfe
        exact ⟨v, by rw [ev_agree h (x := x) (by simp [K.ops])]; exact h1, h2⟩
    case bslice ow len size z ps =>
      cases ow with
      | false => exact hfe.elim
      | true =>
        obtain ⟨cs, h1, h2⟩ : ∃ cs, fillP f z ps = some cs ∧ sv = .bsl cs len := hfe
        exact ⟨cs, by rw [fillP_agree h (fun p hp => by simp only [K.ops, List.mem_map]; exact ⟨p, hp, rfl⟩)]; exact h1, h2⟩
    case qcall gg xs =>
      obtain ⟨args, r, h1, h2⟩ := hfe
      exact ⟨args, r, by rw [evs_agree h (ys := xs) (fun y hy => by simpa [K.ops] using hy)]; exact h1, h2⟩
theorem FO_agree {i : I} {sv : SV} (h : ∀ t, t ∈ i.slots → f t = g t ∧ ∀ s o, f t = .bp s o → f s = g s) (hf : FO P f M i sv) : FO P g M i sv := by
  have hk : agree f g i.k.ops := fun t ht => h t (by unfold I.slots; exact List.mem_append_right _ ht)
  unfold FO at *
  cases hg : i.g with
  | none => rw [hg] at hf; exact FE_agree hk hf
  | some p =>
    obtain ⟨s, want⟩ := p
    rw [hg] at hf
    simp only at hf ⊢
    have hs := (h s (by unfold I.slots; rw [hg]; simp)).1
    rw [← hs]
    cases hfs : f s with
    | v x =>
      rw [hfs] at hf
      cases x
      case bool b =>
        simp only at hf ⊢
        rcases hf with ⟨h1, h2⟩ | h2
        · exact .inl ⟨h1, FE_agree hk h2⟩
        · exact .inr h2
      all_goals exact hf
    | _ => rw [hfs] at hf; exact hf.elim
end
end Go.Proofs.Ytpcakglnklpjoaa.E
