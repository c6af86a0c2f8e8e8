/- The engine, part P: the rules by which a body is walked. Conditions: none. -/
import Derived.Test.YtpcakglnklpjoaaEngO
set_option linter.unusedVariables false
set_option linter.unusedSimpArgs false
namespace Go.Proofs.Ytpcakglnklpjoaa.E
open Go

/-- a cell of a memory -/
def cell (M : Mem) (b o : Nat) : Option Value :=
  match M b with
  | some (.row cs) => cs[o]?
  | some (.ro cs _ _) => cs[o]?
  | _ => none
/-- some cells of a memory -/
def cells (M : Mem) (b o n : Nat) : Option (List Value) :=
  match M b with
  | some (.row cs) => if o + n ≤ cs.length then some ((cs.drop o).take n) else none
  | some (.ro cs _ _) => if o + n ≤ cs.length then some ((cs.drop o).take n) else none
  | _ => none
theorem cell_row {M : Mem} {b o : Nat} {v : Value} (h : cell M b o = some v) : ∃ cs, (M b = some (.row cs) ∨ ∃ t fr, M b = some (.ro cs t fr)) ∧ cs[o]? = some v := by
  unfold cell at h
  split at h
  · rename_i cs hM; exact ⟨cs, .inl hM, h⟩
  · rename_i cs _ _ hM; exact ⟨cs, .inr ⟨_, _, hM⟩, h⟩
  · cases h
theorem cells_row {M : Mem} {b o n : Nat} {vs : List Value} (h : cells M b o n = some vs) : ∃ cs, (M b = some (.row cs) ∨ ∃ t fr, M b = some (.ro cs t fr)) ∧ o + n ≤ cs.length ∧ vs = (cs.drop o).take n := by
  unfold cells at h
  split at h
  · rename_i cs hM
    split at h
    · rename_i hle; exact ⟨cs, .inl hM, hle, (Option.some.inj h).symm⟩
    · cases h
  · rename_i cs _ _ hM
    split at h
    · rename_i hle; exact ⟨cs, .inr ⟨_, _, hM⟩, hle, (Option.some.inj h).symm⟩
    · cases h
  · cases h

section
variable {P : Program} {S : St} {M : Mem} {post : St → Mem → Prop} {r : List I} {d : Option Nat}

theorem pe_plain {f : Nat → SV} {k : K} {sv : SV} (h : pe f k = some sv) : sv.isBox = false := by
  cases k <;> simp only [pe] at h
  all_goals first
    | (cases h; done)
    | (simp only [Option.map_eq_some_iff] at h; obtain ⟨_, _, rfl⟩ := h; rfl)
    | ((repeat' split at h) <;> first | (cases h; done) | (simp only [Option.some.injEq] at h; subst h; rfl) | (simp only [Option.map_eq_some_iff] at h; obtain ⟨_, _, rfl⟩ := h; rfl))
theorem pe_float {f : Nat → SV} {k : K} {sv : SV} (h : pe f k = some sv) : floatK k = true := by
  cases k <;> simp only [pe] at h <;> first
    | rfl
    | (cases h; done)
theorem vcK_fe {k : K} {sv : SV} (hf : floatK k = true) (h : FE P S M k sv) (hp : post (if sv.isBox then putB S d sv else put S d sv) M) : vcK P k d post S M := by
  cases k <;> first
    | (cases hf; done)
    | exact ⟨sv, h, hp⟩
    | (rename_i ow _; cases ow <;> first | (cases hf; done) | exact ⟨sv, h, hp⟩)
    | (rename_i ow _ _ _ _; cases ow <;> first | (cases hf; done) | exact ⟨sv, h, hp⟩)
theorem wl_nil (h : post S M) : vcL P [] post S M := h
/-- plain reckoning -/
theorem wl_pure {k : K} {sv : SV} (h : pe S k = some sv) (hp : vcL P r post (put S d sv) M) : vcL P (⟨d, none, k⟩ :: r) post S M := by
  refine vcK_fe (pe_float h) (.inl h) ?_
  rw [pe_plain h]; exact hp
theorem wl_add {x y : Operand} {a b : Int} (hx : ev S x = some (.int .i64 a)) (hy : ev S y = some (.int .i64 b)) (hb : -9223372036854775808 ≤ a + b ∧ a + b ≤ 9223372036854775807)
    (hp : vcL P r post (put S d (.v (.int .i64 (a + b)))) M) : vcL P (⟨d, none, .bin .add x y⟩ :: r) post S M :=
  wl_pure (sv := .v (.int .i64 (a + b))) (by simp only [pe, hx, hy, binV, binI, if_true, Option.map_some, IntWalk.i64_in _ hb]) hp
theorem wl_sub {x y : Operand} {a b : Int} (hx : ev S x = some (.int .i64 a)) (hy : ev S y = some (.int .i64 b)) (hb : -9223372036854775808 ≤ a - b ∧ a - b ≤ 9223372036854775807)
    (hp : vcL P r post (put S d (.v (.int .i64 (a - b)))) M) : vcL P (⟨d, none, .bin .sub x y⟩ :: r) post S M :=
  wl_pure (sv := .v (.int .i64 (a - b))) (by simp only [pe, hx, hy, binV, binI, if_true, Option.map_some, IntWalk.i64_in _ hb]) hp
theorem wl_mul {x y : Operand} {a b : Int} (hx : ev S x = some (.int .i64 a)) (hy : ev S y = some (.int .i64 b)) (hb : -9223372036854775808 ≤ a * b ∧ a * b ≤ 9223372036854775807)
    (hp : vcL P r post (put S d (.v (.int .i64 (a * b)))) M) : vcL P (⟨d, none, .bin .mul x y⟩ :: r) post S M :=
  wl_pure (sv := .v (.int .i64 (a * b))) (by simp only [pe, hx, hy, binV, binI, if_true, Option.map_some, IntWalk.i64_in _ hb]) hp
/-- an element's address -/
theorem wl_idx {x y : Operand} {size b o len cap : Nat} {k : IntKind} {i : Int} (hx : ev S x = some (.slice (some ⟨b, o, none⟩) len cap)) (hy : ev S y = some (.int k i)) (hb : 0 ≤ i ∧ i < len)
    (hp : vcL P r post (put S d (.v (.pointer (some ⟨b, o + i.toNat * size, none⟩)))) M) : vcL P (⟨d, none, .iaddr size x y⟩ :: r) post S M :=
  wl_pure (sv := .v (.pointer (some ⟨b, o + i.toNat * size, none⟩))) (by simp only [pe, hx, hy]; rw [if_pos hb]) hp
/-- a cell, some cells of memory -/
theorem wl_ld {n : Nat} {x : Operand} {b o : Nat} {v : Value} (hx : lc S x = some (.mm b o)) (hv : cell M b o = some v) (hp : vcL P r post (put S d (.v v)) M) : vcL P (⟨d, none, .load true n x⟩ :: r) post S M := by
  obtain ⟨cs, hM, hc⟩ := cell_row hv
  exact vcK_fe (k := .load true n x) (sv := .v v) rfl (.inr ⟨b, o, cs, v, hx, hM, by simp [rdv, hc], rfl⟩) hp
theorem wl_lds {n : Nat} {x : Operand} {b o : Nat} {vs : List Value} (hx : lc S x = some (.mm b o)) (hv : cells M b o n = some vs) (hp : vcL P r post (put S d (.v (.agg vs.toArray))) M) : vcL P (⟨d, none, .load false n x⟩ :: r) post S M := by
  obtain ⟨cs, hM, hle, rfl⟩ := cells_row hv
  exact vcK_fe (k := .load false n x) (sv := .v (.agg ((cs.drop o).take n).toArray)) rfl (.inr ⟨b, o, cs, _, hx, hM, by simp [rdv, hle], rfl⟩) hp
/-- private boxes -/
theorem wl_alloc {z : List Value} (hp : vcL P r post (putB S d (.box z)) M) : vcL P (⟨d, none, .alloc true z⟩ :: r) post S M :=
  vcK_fe (k := .alloc true z) (sv := .box z) rfl (.inr rfl) hp
theorem wl_box {x : Operand} {v : Value} {cs : List Value} (hx : ev S x = some v) (hc : v.cells.toList = cs) (hp : vcL P r post (putB S d (.box cs)) M) : vcL P (⟨d, none, .box true x⟩ :: r) post S M := by
  subst hc
  exact vcK_fe (k := .box true x) (sv := .box v.cells.toList) rfl (.inr ⟨v, hx, rfl⟩) hp
theorem wl_bsl {len size : Nat} {z cs : List Value} {ps : List (Nat × Nat × Operand)} (hf : fillP S z ps = some cs) (hp : vcL P r post (putB S d (.bsl cs len)) M) : vcL P (⟨d, none, .bslice true len size z ps⟩ :: r) post S M :=
  vcK_fe (k := .bslice true len size z ps) (sv := .bsl cs len) rfl (.inr ⟨cs, hf, rfl⟩) hp
/-- calls -/
theorem wl_q {g : FuncId} {xs : List Operand} {args : List Value} {v : Value} (hx : evs S xs = some args) (hq : Qt P g args M v) (hp : vcL P r post (put S d (.v v)) M) : vcL P (⟨d, none, .qcall g xs⟩ :: r) post S M :=
  vcK_fe (k := .qcall g xs) (sv := .v v) rfl (.inr ⟨args, v, hx, hq, rfl⟩) hp
theorem wl_cq {g : FuncId} {xs : List Operand} {args : List Value} {v : Value} (hx : evs S xs = some args) (hq : Qt P g args M v) (hp : vcL P r post (put S d (.v v)) M) : vcL P (⟨d, none, .call g xs⟩ :: r) post S M :=
  ⟨args, hx, hq.mono fun v' M' ⟨e1, e2⟩ => by subst e1; subst e2; exact hp⟩
theorem wl_c {g : FuncId} {xs : List Operand} {args : List Value} {q : Value → Mem → Prop} (hx : evs S xs = some args) (hq : Fn P g args M q) (hp : ∀ v M', q v M' → vcL P r post (put S d (.v v)) M') : vcL P (⟨d, none, .call g xs⟩ :: r) post S M :=
  ⟨args, hx, hq.mono hp⟩
theorem wl_cv {g : FuncId} {x : Operand} {u c : Array Value} {xs : List Operand} {args : List Value} {q : Value → Mem → Prop} (hf : ev S x = some (.func (.func g) u c)) (hok : fnOk P g = true) (hx : evs S xs = some args) (hq : Fn P g (u.toList ++ args ++ c.toList) M q) (hp : ∀ v M', q v M' → vcL P r post (put S d (.v v)) M') :
    vcL P (⟨d, none, .callv x xs⟩ :: r) post S M :=
  ⟨g, u, c, args, hf, hok, hx, hq.mono hp⟩
/-- stores -/
theorem wl_stb {n : Nat} {x y : Operand} {s o : Nat} {cs cs' : List Value} {v : Value} (hx : lc S x = some (.bx s o)) (hb : S s = .box cs) (hy : ev S y = some v) (hn : v.cells.size = n) (hpl : plainCells v.cells.toList = true) (hle : o + n ≤ cs.length)
    (hw : wr cs o v.cells.toList = cs') (hp : vcL P r post (upF S s (.box cs')) M) : vcL P (⟨d, none, .store n x y⟩ :: r) post S M := by
  subst hw
  exact ⟨v, hy, hn, hpl, .inl ⟨s, o, cs, hx, hb, hle, hp⟩⟩
theorem wl_stm {n : Nat} {x y : Operand} {b o : Nat} {cs : List Value} {v : Value} (hx : lc S x = some (.mm b o)) (hb : M b = some (.row cs)) (hy : ev S y = some v) (hn : v.cells.size = n) (hpl : plainCells v.cells.toList = true) (hle : o + n ≤ cs.length)
    (hp : vcL P r post S (M.upd b (.row (wr cs o v.cells.toList)))) : vcL P (⟨d, none, .store n x y⟩ :: r) post S M :=
  ⟨v, hy, hn, hpl, .inr ⟨b, o, cs, hx, hb, hle, hp⟩⟩
/-- guards -/
theorem wl_gy {s : Nat} {w : Bool} {k : K} {b : Bool} (hs : S s = .v (.bool b)) (hb : b = w) (hp : vcL P (⟨d, none, k⟩ :: r) post S M) : vcL P (⟨d, some (s, w), k⟩ :: r) post S M := by
  show vcO P _ _ S M
  unfold vcO
  simp only [hs]
  exact ⟨fun _ => hp, fun h => absurd hb h⟩
theorem wl_gn {s : Nat} {w : Bool} {k : K} {b : Bool} (hs : S s = .v (.bool b)) (hb : b = !w) (hp : vcL P r post (put S d (.v undef)) M) : vcL P (⟨d, some (s, w), k⟩ :: r) post S M := by
  show vcO P _ _ S M
  unfold vcO
  simp only [hs]
  refine ⟨fun h => ?_, fun _ => hp⟩
  subst h; cases b <;> cases hb
theorem wl_gu {s : Nat} {w : Bool} {k : K} (hs : S s = .v undef) (hp : vcL P r post (put S d (.v undef)) M) : vcL P (⟨d, some (s, w), k⟩ :: r) post S M := by
  show vcO P _ _ S M
  unfold vcO
  simp only [hs]
  exact hp
/-- a guard that is not known: both ways, and the slot then says which -/
theorem upF_self {S : St} {s : Nat} {x : SV} (h : S s = x) : upF S s x = S := by
  funext t
  rw [upF_eq]
  by_cases e : t = s
  · rw [if_pos e, e, h]
  · rw [if_neg e]
theorem wl_gs {s : Nat} {w : Bool} {k : K} {b : Bool} (hs : S s = .v (.bool b)) (h1 : b = true → vcL P (⟨d, some (s, w), k⟩ :: r) post (upF S s (.v (.bool true))) M) (h2 : b = false → vcL P (⟨d, some (s, w), k⟩ :: r) post (upF S s (.v (.bool false))) M) : vcL P (⟨d, some (s, w), k⟩ :: r) post S M := by
  cases b
  · have := h2 rfl; rwa [upF_self hs] at this
  · have := h1 rfl; rwa [upF_self hs] at this
/-- a choice that is not known -/
theorem wl_ps {s : Nat} {x y : Operand} {b : Bool} (hs : S s = .v (.bool b)) (h1 : b = true → vcL P (⟨d, none, .pick (.tmp s) x y⟩ :: r) post (upF S s (.v (.bool true))) M) (h2 : b = false → vcL P (⟨d, none, .pick (.tmp s) x y⟩ :: r) post (upF S s (.v (.bool false))) M) : vcL P (⟨d, none, .pick (.tmp s) x y⟩ :: r) post S M := by
  cases b
  · have := h2 rfl; rwa [upF_self hs] at this
  · have := h1 rfl; rwa [upF_self hs] at this
/-- what is asked of a list of operations -/
structure VL (P : Program) (l : List I) (post : St → Mem → Prop) (S : St) (M : Mem) : Prop where
  out : vcL P l post S M
theorem vl_nil (h : post S M) : VL P [] post S M :=
  ⟨wl_nil h⟩
theorem vl_pure {k : K} {sv : SV} (h : pe S k = some sv) (hp : VL P r post (put S d sv) M) : VL P (⟨d, none, k⟩ :: r) post S M :=
  ⟨wl_pure h hp.out⟩
theorem vl_add {x y : Operand} {a b : Int} (hx : ev S x = some (.int .i64 a)) (hy : ev S y = some (.int .i64 b)) (hb : -9223372036854775808 ≤ a + b ∧ a + b ≤ 9223372036854775807)
    (hp : VL P r post (put S d (.v (.int .i64 (a + b)))) M) : VL P (⟨d, none, .bin .add x y⟩ :: r) post S M :=
  ⟨wl_add hx hy hb hp.out⟩
theorem vl_sub {x y : Operand} {a b : Int} (hx : ev S x = some (.int .i64 a)) (hy : ev S y = some (.int .i64 b)) (hb : -9223372036854775808 ≤ a - b ∧ a - b ≤ 9223372036854775807)
    (hp : VL P r post (put S d (.v (.int .i64 (a - b)))) M) : VL P (⟨d, none, .bin .sub x y⟩ :: r) post S M :=
  ⟨wl_sub hx hy hb hp.out⟩
theorem vl_mul {x y : Operand} {a b : Int} (hx : ev S x = some (.int .i64 a)) (hy : ev S y = some (.int .i64 b)) (hb : -9223372036854775808 ≤ a * b ∧ a * b ≤ 9223372036854775807)
    (hp : VL P r post (put S d (.v (.int .i64 (a * b)))) M) : VL P (⟨d, none, .bin .mul x y⟩ :: r) post S M :=
  ⟨wl_mul hx hy hb hp.out⟩
theorem vl_idx {x y : Operand} {size b o len cap : Nat} {k : IntKind} {i : Int} (hx : ev S x = some (.slice (some ⟨b, o, none⟩) len cap)) (hy : ev S y = some (.int k i)) (hb : 0 ≤ i ∧ i < len)
    (hp : VL P r post (put S d (.v (.pointer (some ⟨b, o + i.toNat * size, none⟩)))) M) : VL P (⟨d, none, .iaddr size x y⟩ :: r) post S M :=
  ⟨wl_idx hx hy hb hp.out⟩
theorem vl_ld {n : Nat} {x : Operand} {b o : Nat} {v : Value} (hx : lc S x = some (.mm b o)) (hv : cell M b o = some v) (hp : VL P r post (put S d (.v v)) M) : VL P (⟨d, none, .load true n x⟩ :: r) post S M :=
  ⟨wl_ld hx hv hp.out⟩
theorem vl_lds {n : Nat} {x : Operand} {b o : Nat} {vs : List Value} (hx : lc S x = some (.mm b o)) (hv : cells M b o n = some vs) (hp : VL P r post (put S d (.v (.agg vs.toArray))) M) : VL P (⟨d, none, .load false n x⟩ :: r) post S M :=
  ⟨wl_lds hx hv hp.out⟩
theorem vl_alloc {z : List Value} (hp : VL P r post (putB S d (.box z)) M) : VL P (⟨d, none, .alloc true z⟩ :: r) post S M :=
  ⟨wl_alloc hp.out⟩
theorem vl_box {x : Operand} {v : Value} {cs : List Value} (hx : ev S x = some v) (hc : v.cells.toList = cs) (hp : VL P r post (putB S d (.box cs)) M) : VL P (⟨d, none, .box true x⟩ :: r) post S M :=
  ⟨wl_box hx hc hp.out⟩
theorem vl_bsl {len size : Nat} {z cs : List Value} {ps : List (Nat × Nat × Operand)} (hf : fillP S z ps = some cs) (hp : VL P r post (putB S d (.bsl cs len)) M) : VL P (⟨d, none, .bslice true len size z ps⟩ :: r) post S M :=
  ⟨wl_bsl hf hp.out⟩
theorem vl_q {g : FuncId} {xs : List Operand} {args : List Value} {v : Value} (hx : evs S xs = some args) (hq : Qt P g args M v) (hp : VL P r post (put S d (.v v)) M) : VL P (⟨d, none, .qcall g xs⟩ :: r) post S M :=
  ⟨wl_q hx hq hp.out⟩
theorem vl_cq {g : FuncId} {xs : List Operand} {args : List Value} {v : Value} (hx : evs S xs = some args) (hq : Qt P g args M v) (hp : VL P r post (put S d (.v v)) M) : VL P (⟨d, none, .call g xs⟩ :: r) post S M :=
  ⟨wl_cq hx hq hp.out⟩
theorem vl_c {g : FuncId} {xs : List Operand} {args : List Value} {q : Value → Mem → Prop} (hx : evs S xs = some args) (hq : Fn P g args M q) (hp : ∀ v M', q v M' → VL P r post (put S d (.v v)) M') : VL P (⟨d, none, .call g xs⟩ :: r) post S M :=
  ⟨wl_c hx hq (fun v M' hq => (hp v M' hq).out)⟩
theorem vl_cv {g : FuncId} {x : Operand} {u c : Array Value} {xs : List Operand} {args : List Value} {q : Value → Mem → Prop} (hf : ev S x = some (.func (.func g) u c)) (hok : fnOk P g = true) (hx : evs S xs = some args) (hq : Fn P g (u.toList ++ args ++ c.toList) M q) (hp : ∀ v M', q v M' → VL P r post (put S d (.v v)) M') :
    VL P (⟨d, none, .callv x xs⟩ :: r) post S M :=
  ⟨wl_cv hf hok hx hq (fun v M' hq => (hp v M' hq).out)⟩
theorem vl_stb {n : Nat} {x y : Operand} {s o : Nat} {cs cs' : List Value} {v : Value} (hx : lc S x = some (.bx s o)) (hb : S s = .box cs) (hy : ev S y = some v) (hn : v.cells.size = n) (hpl : plainCells v.cells.toList = true) (hle : o + n ≤ cs.length)
    (hw : wr cs o v.cells.toList = cs') (hp : VL P r post (upF S s (.box cs')) M) : VL P (⟨d, none, .store n x y⟩ :: r) post S M :=
  ⟨wl_stb hx hb hy hn hpl hle hw hp.out⟩
theorem vl_stm {n : Nat} {x y : Operand} {b o : Nat} {cs : List Value} {v : Value} (hx : lc S x = some (.mm b o)) (hb : M b = some (.row cs)) (hy : ev S y = some v) (hn : v.cells.size = n) (hpl : plainCells v.cells.toList = true) (hle : o + n ≤ cs.length)
    (hp : VL P r post S (M.upd b (.row (wr cs o v.cells.toList)))) : VL P (⟨d, none, .store n x y⟩ :: r) post S M :=
  ⟨wl_stm hx hb hy hn hpl hle hp.out⟩
theorem vl_gy {s : Nat} {w : Bool} {k : K} {b : Bool} (hs : S s = .v (.bool b)) (hb : b = w) (hp : VL P (⟨d, none, k⟩ :: r) post S M) : VL P (⟨d, some (s, w), k⟩ :: r) post S M :=
  ⟨wl_gy hs hb hp.out⟩
theorem vl_gn {s : Nat} {w : Bool} {k : K} {b : Bool} (hs : S s = .v (.bool b)) (hb : b = !w) (hp : VL P r post (put S d (.v undef)) M) : VL P (⟨d, some (s, w), k⟩ :: r) post S M :=
  ⟨wl_gn hs hb hp.out⟩
theorem vl_gu {s : Nat} {w : Bool} {k : K} (hs : S s = .v undef) (hp : VL P r post (put S d (.v undef)) M) : VL P (⟨d, some (s, w), k⟩ :: r) post S M :=
  ⟨wl_gu hs hp.out⟩
theorem vl_gs {s : Nat} {w : Bool} {k : K} {b : Bool} (hs : S s = .v (.bool b)) (h1 : b = true → VL P (⟨d, some (s, w), k⟩ :: r) post (upF S s (.v (.bool true))) M) (h2 : b = false → VL P (⟨d, some (s, w), k⟩ :: r) post (upF S s (.v (.bool false))) M) : VL P (⟨d, some (s, w), k⟩ :: r) post S M :=
  ⟨wl_gs hs (fun h => (h1 h).out) (fun h => (h2 h).out)⟩
theorem vl_ps {s : Nat} {x y : Operand} {b : Bool} (hs : S s = .v (.bool b)) (h1 : b = true → VL P (⟨d, none, .pick (.tmp s) x y⟩ :: r) post (upF S s (.v (.bool true))) M) (h2 : b = false → VL P (⟨d, none, .pick (.tmp s) x y⟩ :: r) post (upF S s (.v (.bool false))) M) : VL P (⟨d, none, .pick (.tmp s) x y⟩ :: r) post S M :=
  ⟨wl_ps hs (fun h => (h1 h).out) (fun h => (h2 h).out)⟩
end

section
variable {E : Env}
theorem VC.regV {l : List I} {Q : X → St → Mem → Prop} {S : St} {M : Mem} (h : VL E.P l (Q .nrm) S M) : VC E (.reg l) Q S M := VC.reg h.out
theorem VC.dregV {n : Nat} {l : List I} {Q : X → St → Mem → Prop} {S : St} {M : Mem} (h : VL E.P l (Q .nrm) (fun t => junkD (dsOf l n) (S t)) M) : VC E (.dreg n l) Q S M := VC.dreg h.out
theorem Fn.of' {f : FuncId} {fn : Func} {c : C} {rl : List RV} (hf : E.P.funcs[f]? = some fn) (ht : fn.body.bind (trC E) = some c) (hn : fn.ntmps = E.nt) (hr : fn.results.toList.mapM (trR E.P) = some rl) (hm : E.P.follows .mixedOrders = true)
    {args : List Value} {M : Mem} {post : Value → Mem → Prop} (hl : args.length ≤ E.nt) (h : VC E c (fnQ rl post) (initS args E.nt) M) : Fn E.P f args M post := by
  rw [Option.bind_eq_some_iff] at ht
  obtain ⟨code, hb, ht⟩ := ht
  exact Fn.of hf hb hn ht hr hm hl h
/-- the end of a function -/
theorem fnQ_r {rl : List RV} {S : St} {M M' : Mem} {v : Value} {post : Value → Mem → Prop} (h : resV S M rl = some v) (hM : M'.le M) (hp : post v M') : fnQ rl post .ret S M := ⟨v, M', h, hM, hp⟩
theorem fnQ_n {rl : List RV} {S : St} {M M' : Mem} {v : Value} {post : Value → Mem → Prop} (h : resV S M rl = some v) (hM : M'.le M) (hp : post v M') : fnQ rl post .nrm S M := ⟨v, M', h, hM, hp⟩
/-- one cell set, some cells written: told step by step, so that the row stays written out -/
structure SetK (cs : List Value) (n : Nat) (v : Value) (K : List Value → Prop) : Prop where
  out : K (cs.set n v)
theorem sk_zero {x v : Value} {r : List Value} {K : List Value → Prop} (h : K (v :: r)) : SetK (x :: r) 0 v K := ⟨h⟩
theorem sk_succ {x v : Value} {r : List Value} {n : Nat} {K : List Value → Prop} (h : SetK r n v (fun r' => K (x :: r'))) : SetK (x :: r) (n + 1) v K := ⟨h.out⟩
structure WrK (cs : List Value) (o : Nat) (vs : List Value) (K : List Value → Prop) : Prop where
  out : K (wr cs o vs)
theorem wk_nil {cs : List Value} {o : Nat} {K : List Value → Prop} (h : K cs) : WrK cs o [] K := ⟨h⟩
theorem wk_cons {cs r : List Value} {x : Value} {o : Nat} {K : List Value → Prop} (h : SetK cs o x (fun c => WrK c (o + 1) r K)) : WrK cs o (x :: r) K := ⟨h.out.out⟩
theorem vl_stw {P : Program} {S : St} {M : Mem} {post : St → Mem → Prop} {r : List I} {d : Option Nat} {n : Nat} {x y : Operand} {s o : Nat} {cs : List Value} {v : Value} (hx : lc S x = some (.bx s o)) (hb : S s = .box cs) (hy : ev S y = some v) (hn : v.cells.size = n) (hpl : plainCells v.cells.toList = true) (hle : o + n ≤ cs.length)
    (hw : WrK cs o v.cells.toList (fun cs' => VL P r post (upF S s (.box cs')) M)) : VL P (⟨d, none, .store n x y⟩ :: r) post S M :=
  vl_stb hx hb hy hn hpl hle rfl hw.out
theorem VC.cond_t {E : Env} {Q : X → St → Mem → Prop} {S : St} {M : Mem} {x : Operand} {a b : C} (hx : ev S x = some (.bool true)) (h : VC E a Q S M) : VC E (.cond x a b) Q S M := VC.cond true hx (fun _ => h) (fun e => by cases e)
theorem VC.cond_f {E : Env} {Q : X → St → Mem → Prop} {S : St} {M : Mem} {x : Operand} {a b : C} (hx : ev S x = some (.bool false)) (h : VC E b Q S M) : VC E (.cond x a b) Q S M := VC.cond false hx (fun e => by cases e) (fun _ => h)
theorem seqQ_n {K : St → Mem → Prop} {Q : X → St → Mem → Prop} {S : St} {M : Mem} (h : K S M) : seqQ K Q .nrm S M := h
theorem seqQ_r {K : St → Mem → Prop} {Q : X → St → Mem → Prop} {S : St} {M : Mem} (h : Q .ret S M) : seqQ K Q .ret S M := h
theorem seqQ_e {K : St → Mem → Prop} {Q : X → St → Mem → Prop} {S : St} {M : Mem} {i : Nat} (h : Q (.ext i) S M) : seqQ K Q (.ext i) S M := h
theorem blkQ_n {Q : X → St → Mem → Prop} {S : St} {M : Mem} {id : Nat} (h : Q .nrm S M) : blkQ id Q .nrm S M := h
theorem blkQ_r {Q : X → St → Mem → Prop} {S : St} {M : Mem} {id : Nat} (h : Q .ret S M) : blkQ id Q .ret S M := h
theorem blkQ_e {Q : X → St → Mem → Prop} {S : St} {M : Mem} {id : Nat} (h : Q .nrm S M) : blkQ id Q (.ext id) S M := by
  unfold blkQ; simp only [if_true]; exact h
theorem blkQ_o {Q : X → St → Mem → Prop} {S : St} {M : Mem} {id i : Nat} (hi : Nat.beq i id = false) (h : Q (.ext i) S M) : blkQ id Q (.ext i) S M := by
  have e : i ≠ id := fun e => by subst e; simp at hi
  unfold blkQ; simp only [if_neg e]; exact h
theorem q_end {v r : Value} {M : Mem} (h : v = r) : v = r ∧ M = M := ⟨h, rfl⟩
/-- the end of a function that only looks -/
theorem fnQ_q {rl : List RV} {S : St} {M M0 : Mem} {v : Value} {x : X} (hx : ∀ i, x ≠ .ext i) (h : resV S M rl = some v) (hM : M0.le M) : fnQ rl (fun v' M' => v' = v ∧ M' = M0) x S M := by
  cases x with
  | ext i => exact absurd rfl (hx i)
  | nrm => exact ⟨v, M0, h, hM, rfl, rfl⟩
  | ret => exact ⟨v, M0, h, hM, rfl, rfl⟩
end
end Go.Proofs.Ytpcakglnklpjoaa.E
