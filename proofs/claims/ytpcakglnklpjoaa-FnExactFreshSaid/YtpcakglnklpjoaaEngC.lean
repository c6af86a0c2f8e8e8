/- The engine, part C: what an operation does to slots and memory, and that the machine does it. Conditions: none. -/
import Derived.Test.YtpcakglnklpjoaaEngB
import Derived.Laws.Append
set_option linter.unusedVariables false
set_option linter.unusedSimpArgs false
namespace Go.Proofs.Ytpcakglnklpjoaa.E
open Go

/-! ### Slots -/
def upF (f : Nat → SV) (d : Nat) (x : SV) : Nat → SV := fun t => bif Nat.beq t d then x else f t
theorem upF_eq (f : Nat → SV) (d : Nat) (x : SV) (t : Nat) : upF f d x t = if t = d then x else f t := by
  unfold upF
  by_cases h : t = d
  · subst h; simp
  · have : Nat.beq t d = false := by
      cases hb : Nat.beq t d with
      | false => rfl
      | true => exact absurd (Nat.eq_of_beq_eq_true hb) h
    rw [this, if_neg h]; rfl
def junkB (d : Nat) : SV → SV
  | .bp s o => if s = d then .junk else .bp s o
  | x => x
def put (S : St) : Option Nat → SV → St
  | none, _ => S
  | some d, x => upF S d x
/-- a new box in slot d: what pointed into the old one is forgotten -/
def putB (S : St) : Option Nat → SV → St
  | none, _ => S
  | some d, x => upF (fun t => junkB d (S t)) d x

section
variable {W0 : World} {M0 M M' : Mem} {β : Nat → Nat} {f : Nat → SV} {n : Nat} {a : Act} {w w' : World}

theorem RepF.step (h : RepF W0 M0 β f n M a w) (hs : Sat w' M') (ht : Stp w M w' M') : RepF W0 M0 β f n M' a w' where
  df := h.df
  sz := h.sz
  out := h.out
  sat := hs
  stp := h.stp.trans ht
  sv t := by
    have hv := h.sv t
    cases hf : f t with
    | v y => rw [hf] at hv; exact hv
    | junk => trivial
    | bp s o => rw [hf] at hv; exact hv
    | box cs =>
      rw [hf] at hv
      obtain ⟨h1, h2, h3, h4⟩ := hv
      refine ⟨h1, h2.of_eq (ht.keep _ h2.lt h3), ?_, h4⟩
      cases e : M' (β t) with
      | none => rfl
      | some k => rcases ht.dom (β t) (by rw [e]; simp) with h' | h'
                  · exact absurd h3 h'
                  · have := h2.lt; omega
    | bsl cs k =>
      rw [hf] at hv
      obtain ⟨h1, h2, h3, h4⟩ := hv
      refine ⟨h1, h2.of_eq (ht.keep _ h2.lt h3), ?_, h4⟩
      cases e : M' (β t) with
      | none => rfl
      | some k => rcases ht.dom (β t) (by rw [e]; simp) with h' | h'
                  · exact absurd h3 h'
                  · have := h2.lt; omega
  inj := h.inj
theorem RepF.le (h : RepF W0 M0 β f n M a w) (l : M'.le M) : RepF W0 M0 β f n M' a w :=
  ⟨h.df, h.sz, h.out, h.sat.le l, h.stp.le l, fun t => by
    have hv := h.sv t
    have hn : ∀ b, M b = none → M' b = none := fun b hb => by
      cases e : M' b with
      | none => rfl
      | some k => rw [l b k e] at hb; cases hb
    cases hf : f t with
    | v y => rw [hf] at hv; exact hv
    | junk => trivial
    | bp s o => rw [hf] at hv; exact hv
    | box cs => rw [hf] at hv; exact ⟨hv.1, hv.2.1, hn _ hv.2.2.1, hv.2.2.2⟩
    | bsl cs k => rw [hf] at hv; exact ⟨hv.1, hv.2.1, hn _ hv.2.2.1, hv.2.2.2⟩, h.inj⟩
/-- less is known of the slots -/
def leF (g f : Nat → SV) : Prop := ∀ t, g t = .junk ∨ g t = f t
theorem RepF.weak {g : Nat → SV} (h : RepF W0 M0 β f n M a w) (l : leF g f) : RepF W0 M0 β g n M a w where
  df := h.df
  sz := h.sz
  out t ht := by rcases l t with e | e
                 · exact e
                 · rw [e]; exact h.out t ht
  sat := h.sat
  stp := h.stp
  sv t := by rcases l t with e | e
             · rw [e]; trivial
             · rw [e]; exact h.sv t
  inj t t' h1 h2 e := by
    refine h.inj t t' ?_ ?_ e
    · rcases l t with e1 | e1
      · rw [e1] at h1; cases h1
      · rw [← e1]; exact h1
    · rcases l t' with e1 | e1
      · rw [e1] at h2; cases h2
      · rw [← e1]; exact h2
theorem getD_put {d : Nat} {x : Value} (hd : d < a.tmps.size) (t : Nat) : (a.put (some d) x).tmps.getD t undef = if t = d then x else a.tmps.getD t undef := by
  simp only [Act.put]
  by_cases h : t = d
  · subst h; simp [hd]
  · rw [if_neg h]; simp [Array.getElem?_setIfInBounds_ne (Ne.symm h)]
theorem RepF.put {d : Nat} {x : Value} {sv : SV} (h : RepF W0 M0 β f n M a w) (hd : d < n) (hs : RS β x sv) : RepF W0 M0 β (upF f d sv) n M (a.put (some d) x) w where
  df := h.df
  sz := by simp [Act.put, h.sz]
  out t ht := by simp only [upF_eq]; rw [if_neg (by omega)]; exact h.out t ht
  sat := h.sat
  stp := h.stp
  sv t := by
    rw [getD_put (by rw [h.sz]; exact hd)]
    simp only [upF_eq]
    by_cases e : t = d
    · rw [if_pos e, if_pos e]
      cases sv with
      | v y => exact hs
      | bp s o => exact hs
      | box c => exact hs.elim
      | bsl c k => exact hs.elim
      | junk => trivial
    · rw [if_neg e, if_neg e]; exact h.sv t
  inj t t' h1 h2 e := by
    have key : ∀ u, (upF f d sv u).isBox = true → (f u).isBox = true := by
      intro u hu
      simp only [upF_eq] at hu
      by_cases e : u = d
      · rw [if_pos e] at hu
        cases sv with
        | v y => cases hu
        | bp s o => cases hu
        | box c => exact hs.elim
        | bsl c k => exact hs.elim
        | junk => cases hu
      · rw [if_neg e] at hu; exact hu
    exact h.inj t t' (key t h1) (key t' h2) e
/-- a slot forgotten -/
theorem RepF.putJ {d : Nat} {x : Value} (h : RepF W0 M0 β f n M a w) (hd : d < n) : RepF W0 M0 β (upF f d .junk) n M (a.put (some d) x) w :=
  (h.put hd (sv := .v x) rfl).weak fun t => by
    simp only [upF_eq]
    by_cases e : t = d
    · simp [e]
    · simp [e]
theorem RepF.put_none {x : Value} (h : RepF W0 M0 β f n M a w) : RepF W0 M0 β f n M (a.put none x) w := h

/-- a world with one block more -/
def wpush (w : World) (o : Obj) : World := { w with heap := w.heap.push o }
theorem wpush_old {o : Obj} {b : Nat} (hb : b < w.heap.size) : (wpush w o).heap[b]? = w.heap[b]? := by
  show (w.heap.push o)[b]? = _
  rw [Array.getElem?_push, if_neg (by omega)]
theorem wpush_new {o : Obj} : (wpush w o).heap[w.heap.size]? = some o := by
  show (w.heap.push o)[w.heap.size]? = _
  rw [Array.getElem?_push, if_pos rfl]
theorem Sat.push (h : Sat w M) (o : Obj) : Sat (wpush w o) M := fun b k e => (h b k e).of_eq (wpush_old (h b k e).lt)
theorem Stp.push (o : Obj) : Stp w M (wpush w o) M := ⟨rfl, rfl, rfl, by simp [wpush], fun b hb _ => wpush_old hb, fun b hb => .inl hb⟩
theorem Sat.none_size (h : Sat w M) : M w.heap.size = none := by
  cases e : M w.heap.size with
  | none => rfl
  | some k => have := (h _ _ e).lt; omega
theorem Sat.push_new (h : Sat w M) {o : Obj} {k : Bk} (hk : holds (wpush w o) w.heap.size k) : Sat (wpush w o) (M.upd w.heap.size k) := by
  intro b k' e
  by_cases hb : b = w.heap.size
  · subst hb; rw [Mem.upd_same] at e; cases e; exact hk
  · rw [Mem.upd_ne _ _ hb] at e; exact (h b k' e).of_eq (wpush_old (h b k' e).lt)
theorem Stp.push_new (o : Obj) (k : Bk) : Stp w M (wpush w o) (M.upd w.heap.size k) :=
  ⟨rfl, rfl, rfl, by simp [wpush], fun b hb _ => wpush_old hb, fun b hb => by
    by_cases e : b = w.heap.size
    · exact .inr (by omega)
    · rw [Mem.upd_ne _ _ e] at hb; exact .inl hb⟩
theorem holds_push_row {cs : Array Value} {t : TypeId} : holds (wpush w (.cells cs t)) w.heap.size (.row cs.toList) := ⟨t, by rw [wpush_new]⟩
theorem holds_push_mp {es : Array MapEntry} {c : Nat} : holds (wpush w (.map es c)) w.heap.size (.mp es c) := wpush_new

/-- a new private box -/
theorem RepF.putB {d : Nat} {x : Value} {sv : SV} {cs : List Value} {t0 : TypeId} (h : RepF W0 M0 β f n M a w) (hd : d < n)
    (hsv : (sv = .box cs ∧ x = .pointer (some ⟨w.heap.size, 0, none⟩)) ∨ ∃ k, sv = .bsl cs k ∧ x = .slice (some ⟨w.heap.size, 0, none⟩) k k)
    (hnb : ∀ t o, t ≠ d → f t ≠ .bp d o) :
    RepF W0 M0 (fun t => if t = d then w.heap.size else β t) (upF f d sv) n M (a.put (some d) x) (wpush w (.cells cs.toArray t0)) := by
  have h1 := h.step (h.sat.push (.cells cs.toArray t0)) (Stp.push (.cells cs.toArray t0))
  have hnew : holds (wpush w (.cells cs.toArray t0)) w.heap.size (.row cs) := ⟨t0, wpush_new⟩
  have hMn := h.sat.none_size
  have hW : W0.heap.size ≤ w.heap.size := h.stp.size
  have hlt : ∀ t, (f t).isBox = true → β t < w.heap.size := by
    intro t ht
    have hv := h.sv t
    cases hf : f t with
    | box c => rw [hf] at hv; exact hv.2.1.lt
    | bsl c k => rw [hf] at hv; exact hv.2.1.lt
    | v y => rw [hf] at ht; cases ht
    | bp s o => rw [hf] at ht; cases ht
    | junk => rw [hf] at ht; cases ht
  refine ⟨h.df, by simp [Act.put, h.sz], fun t ht => by simp only [upF_eq]; rw [if_neg (by omega)]; exact h.out t ht, h1.sat, h1.stp, ?_, ?_⟩
  · intro t
    rw [getD_put (by rw [h.sz]; exact hd)]
    simp only [upF_eq]
    by_cases e : t = d
    · subst e
      rw [if_pos rfl, if_pos rfl]
      rcases hsv with ⟨rfl, rfl⟩ | ⟨k, rfl, rfl⟩
      · exact ⟨by simp, by simpa using hnew, by simpa using hMn, by simpa using hW⟩
      · exact ⟨by simp, by simpa using hnew, by simpa using hMn, by simpa using hW⟩
    · rw [if_neg e, if_neg e]
      have hv := h1.sv t
      cases hf : f t with
      | v y => rw [hf] at hv; exact hv
      | junk => trivial
      | box c => rw [hf] at hv; obtain ⟨a1, a2, a3, a4⟩ := hv; exact ⟨by simp only [e, if_false]; exact a1, by simp only [e, if_false]; exact a2, by simp only [e, if_false]; exact a3, by simp only [e, if_false]; exact a4⟩
      | bsl c k => rw [hf] at hv; obtain ⟨a1, a2, a3, a4⟩ := hv; exact ⟨by simp only [e, if_false]; exact a1, by simp only [e, if_false]; exact a2, by simp only [e, if_false]; exact a3, by simp only [e, if_false]; exact a4⟩
      | bp s o =>
        rw [hf] at hv
        have hs : s ≠ d := fun e' => hnb t o e (by rw [hf, e'])
        show a.tmps.getD t undef = Value.pointer (some ⟨if s = d then w.heap.size else β s, o, none⟩)
        rw [if_neg hs]; exact hv
  · intro t t' ht ht' e
    simp only [upF_eq] at ht ht'
    by_cases e1 : t = d <;> by_cases e2 : t' = d
    · rw [e1, e2]
    · simp only [e1, if_true, e2, if_false] at e ht'
      have := hlt t' ht'; omega
    · simp only [e1, if_false, e2, if_true] at e ht
      have := hlt t ht; omega
    · simp only [e1, e2, if_false] at e ht ht'
      exact h.inj t t' ht ht' e
end

/-! ### What an operation does -/
/-- a function that is entered when it is called -/
def fnOk (P : Program) (g : FuncId) : Bool :=
  match P.funcs[g]? with
  | some fn => fn.body.isSome && fn.name != "runtime.NumGoroutine"
  | none => false
def zrep (zero : List Value) (m : Nat) : List Value := (List.replicate m zero).flatten
def mpFind (k : Int) : List MapEntry → Option Value
  | [] => none
  | e :: r => match e.key with
    | .int _ j => if j = k then some e.val else mpFind k r
    | _ => none
def mpInts : List MapEntry → Bool
  | [] => true
  | e :: r => (match e.key with | .int .i64 _ => true | _ => false) && mpInts r
/-- what floats: it changes no memory, and whatever order it is done in its value is the same -/
def FE (P : Program) (f : Nat → SV) (M : Mem) (k : K) (sv : SV) : Prop :=
  pe f k = some sv ∨
  match k with
  | .load one n x => ∃ b o cs v, lc f x = some (.mm b o) ∧ (M b = some (.row cs) ∨ ∃ t fr, M b = some (.ro cs t fr)) ∧ rdv one n cs o = some v ∧ sv = .v v
  | .look one z ok x i => ∃ es c j, (ev f x = some (.map none) ∧ es = #[] ∨ ∃ b, ev f x = some (.map (some b)) ∧ M b = some (.mp es c)) ∧ ev f i = some (.int .i64 j) ∧ mpInts es.toList = true ∧
      sv = .v (if ok then .tuple #[(mpFind j es.toList).getD z, .bool (mpFind j es.toList).isSome] else (mpFind j es.toList).getD z)
  | .alloc true z => sv = .box z
  | .box true x => ∃ v, ev f x = some v ∧ sv = .box v.cells.toList
  | .bslice true len size z ps => ∃ cs, fillP f z ps = some cs ∧ sv = .bsl cs len
  | .qcall g xs => ∃ args r, evs f xs = some args ∧ Qt P g args M r ∧ sv = .v r
  | _ => False
/-- the cells that an append brings -/
def srcC (f : Nat → SV) (M : Mem) (size : Nat) (x : Operand) : Option (List Value × Nat) :=
  match x with
  | .tmp t => match f t with
    | .bsl cs k => if cs.length = k * size then some (cs, k) else none
    | .v y => srcV M size y
    | _ => none
  | .const y => srcV M size y
  | _ => none
where srcV (M : Mem) (size : Nat) : Value → Option (List Value × Nat)
  | .slice none 0 _ => some ([], 0)
  | .slice (some ⟨b, o, none⟩) k _ => match M b with
    | some (.row cs) => if o + k * size ≤ cs.length then some ((cs.drop o).take (k * size), k) else none
    | _ => none
  | .string s => if size = 1 then some (s.data.toList.map fun b => .int .u8 b.toNat, s.size) else none
  | _ => none
/-- an append's slice and memory -/
def appM (M : Mem) (size bytes : Nat) (s : Value) (src : List Value) (k : Nat) (post : Value → Mem → Prop) : Prop :=
  match s with
  | .slice none n cap => n = 0 ∧ cap = 0 ∧ k * bytes ≤ 140737488355328 ∧ ((k = 0 ∧ post (.slice none 0 0) M) ∨ (0 < k ∧ ∀ b cap' zs, M b = none → k ≤ cap' → zs.length = (cap' - k) * size → post (.slice (some ⟨b, 0, none⟩) k cap') (M.upd b (.row (src ++ zs)))))
  | .slice (some ⟨b, o, none⟩) n cap => ∃ cs, M b = some (.row cs) ∧ (n + k) * bytes ≤ 140737488355328 ∧
      ((n + k ≤ cap ∧ o + (n + k) * size ≤ cs.length ∧ post (.slice (some ⟨b, o, none⟩) (n + k) cap) (M.upd b (.row (wr cs (o + n * size) src)))) ∨
       (cap < n + k ∧ o + n * size ≤ cs.length ∧ ∀ b' cap' zs, M b' = none → n + k ≤ cap' → zs.length = (cap' - (n + k)) * size →
          post (.slice (some ⟨b', 0, none⟩) (n + k) cap') (M.upd b' (.row ((cs.drop o).take (n * size) ++ src ++ zs)))))
  | _ => False
def keyIs (j : Int) (e : MapEntry) : Bool :=
  match e.key with
  | .int _ i => i == j
  | _ => false
def mpSet (es : Array MapEntry) (clk : Nat) (k : Value) (j : Int) (y : Value) : Bk :=
  match es.toList.findIdx? (keyIs j) with
  | some i => .mp (es.modify i fun e => { e with key := k, val := y }) clk
  | none => .mp (es.push { key := k, val := y, born := clk }) (clk + 1)
def mpDel (es : Array MapEntry) (clk : Nat) (j : Int) : Bk :=
  match es.toList.findIdx? (keyIs j) with
  | some i => .mp (es.eraseIdxIfInBounds i) clk
  | none => .mp es clk

def vcK (P : Program) (k : K) (d : Option Nat) (post : St → Mem → Prop) (S : St) (M : Mem) : Prop :=
  match k with
  | .call g xs => ∃ args, evs S xs = some args ∧ Fn P g args M (fun v M' => post (put S d (.v v)) M')
  | .callv x xs => ∃ g u c args, ev S x = some (.func (.func g) u c) ∧ fnOk P g = true ∧ evs S xs = some args ∧ Fn P g (u.toList ++ args ++ c.toList) M (fun v M' => post (put S d (.v v)) M')
  | .store n x y => ∃ v, ev S y = some v ∧ v.cells.size = n ∧ plainCells v.cells.toList = true ∧
      ((∃ s o cs, lc S x = some (.bx s o) ∧ S s = .box cs ∧ o + n ≤ cs.length ∧ post (upF S s (.box (wr cs o v.cells.toList))) M) ∨
       (∃ b o cs, lc S x = some (.mm b o) ∧ M b = some (.row cs) ∧ o + n ≤ cs.length ∧ post S (M.upd b (.row (wr cs o v.cells.toList)))))
  | .alloc false z => ∀ b, M b = none → post (put S d (.v (.pointer (some ⟨b, 0, none⟩)))) (M.upd b (.row z))
  | .box false x => ∃ v, ev S x = some v ∧ ∀ b, M b = none → post (put S d (.v (.pointer (some ⟨b, 0, none⟩)))) (M.upd b (.row v.cells.toList))
  | .bslice false len size z ps => ∃ cs, fillP S z ps = some cs ∧ ∀ b, M b = none → post (put S d (.v (.slice (some ⟨b, 0, none⟩) len len))) (M.upd b (.row cs))
  | .mkslice size bytes z l c => ∃ n m : Nat, ev S l = some (.int .i64 n) ∧ ev S c = some (.int .i64 m) ∧ n ≤ m ∧ m * bytes ≤ 140737488355328 ∧ m ≤ 140737488355328 ∧
      ∀ b, M b = none → post (put S d (.v (.slice (some ⟨b, 0, none⟩) n m))) (M.upd b (.row (zrep z m)))
  | .app size bytes z s x => ∃ sv src k, ev S s = some sv ∧ srcC S M size x = some (src, k) ∧ plainCells src = true ∧ appM M size bytes sv src k (fun v M' => post (put S d (.v v)) M')
  | .appz size bytes z s x => ∃ sv, ∃ k : Nat, ev S s = some sv ∧ ev S x = some (.int .i64 k) ∧ k ≤ 140737488355328 ∧ plainCells z = true ∧ appM M size bytes sv (zrep z k) k (fun v M' => post (put S d (.v v)) M')
  | .mkmap => ∀ b, M b = none → post (put S d (.v (.map (some b)))) (M.upd b (.mp #[] 0))
  | .mupd m i y => ∃ b es c j v, ev S m = some (.map (some b)) ∧ M b = some (.mp es c) ∧ ev S i = some (.int .i64 j) ∧ ev S y = some v ∧ mpInts es.toList = true ∧
      post (put S d (.v undef)) (M.upd b (mpSet es c (.int .i64 j) j v))
  | .mdel m i => ∃ b es c j, ev S m = some (.map (some b)) ∧ M b = some (.mp es c) ∧ ev S i = some (.int .i64 j) ∧ mpInts es.toList = true ∧
      post (put S d (.v (.tuple #[]))) (M.upd b (mpDel es c j))
  | k => ∃ sv, FE P S M k sv ∧ post (if sv.isBox then putB S d sv else put S d sv) M
end Go.Proofs.Ytpcakglnklpjoaa.E
