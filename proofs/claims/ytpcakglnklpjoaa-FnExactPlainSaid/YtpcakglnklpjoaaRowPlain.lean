/- The row of Plain. Conditions: none. -/
import Derived.Test.YtpcakglnklpjoaaRow
import Derived.Test.YtpcakglnklpjoaaPlainL
set_option linter.unusedVariables false
set_option linter.unusedSimpArgs false
set_option maxRecDepth 100000
namespace Go.Proofs.Ytpcakglnklpjoaa.E
open Go Go.ChangeShapes Go.WideShapes Go.ChangeAt Go.RowKit
open Go.ChangeMaps (open_string shut_string)
instance : Inhabited Act := ⟨⟨0, 0, 0, 0, 0⟩⟩
theorem und_act : Try.prog.underlying 75 = some (.struct (fsOf Try.prog 75)) := by kernel_rfl
theorem fs_act : (fsOf Try.prog 75).toList.map (fun f => (f.type, f.offset)) = [(3, 0), (3, 1), (3, 2), (3, 3), (2, 4)] := by kernel_rfl
theorem und_int : Try.prog.underlying 3 = some (.int .i64) := by kernel_rfl
theorem und_int64 : Try.prog.underlying 2 = some (.int .i64) := by kernel_rfl
theorem cof_int : Try.prog.cellsOf 3 = 1 := by kernel_rfl
theorem cof_int64 : Try.prog.cellsOf 2 = 1 := by kernel_rfl
theorem cof_act : Try.prog.cellsOf 75 = 5 := by kernel_rfl
theorem und_acts : Try.prog.underlying 23 = some (.slice 75) := by kernel_rfl
section
variable {H : Type} {enc : TypeId × Value → H} {W : World} {spare : Nat → Bool} {held : Bool}
theorem open_i {n : Nat} {cs : List Value} {o : Nat} {y : DataW H × List MemPlace} (h : DataW.trod enc Try.prog W 0 spare held n 3 ((cs.drop o).take (Try.prog.cellsOf 3)) = some y) : ∃ k, cs[o]? = some (.int .i64 k) := by
  obtain ⟨k, e, _⟩ := DataW.trod_int und_int h
  rw [cof_int] at e
  exact ⟨k, take_one e⟩
theorem open_i64 {n : Nat} {cs : List Value} {o : Nat} {y : DataW H × List MemPlace} (h : DataW.trod enc Try.prog W 0 spare held n 2 ((cs.drop o).take (Try.prog.cellsOf 2)) = some y) : ∃ k, cs[o]? = some (.int .i64 k) := by
  obtain ⟨k, e, _⟩ := DataW.trod_int und_int64 h
  rw [cof_int64] at e
  exact ⟨k, take_one e⟩
theorem open_act : ∀ n cs y, DataW.trod enc Try.prog W 0 spare held n 75 cs = some y → ∃ x : Act, cs = av x ∧ True := by
  intro n cs y h
  obtain ⟨hl, m, hf⟩ := open_struct und_act fs_act h
  rw [cof_act] at hl
  obtain ⟨_, h0⟩ := hf 0 _ _ rfl
  obtain ⟨_, h1⟩ := hf 1 _ _ rfl
  obtain ⟨_, h2⟩ := hf 2 _ _ rfl
  obtain ⟨_, h3⟩ := hf 3 _ _ rfl
  obtain ⟨_, h4⟩ := hf 4 _ _ rfl
  obtain ⟨a, ha⟩ := open_i h0
  obtain ⟨b, hb⟩ := open_i h1
  obtain ⟨c, hc⟩ := open_i h2
  obtain ⟨d, hd⟩ := open_i h3
  obtain ⟨e, he⟩ := open_i64 h4
  refine ⟨⟨a, b, c, d, e⟩, ?_, trivial⟩
  match cs, hl with
  | [v0, v1, v2, v3, v4], _ =>
    simp at ha hb hc hd he
    subst ha; subst hb; subst hc; subst hd; subst he; rfl
end
theorem ownknob : ownKnob Try.prog.godebug = none := by kernel_rfl
theorem laid : laidOutB Try.prog = true := by kernel_rfl
theorem und_bool : Try.prog.underlying 4 = some .bool := by kernel_rfl
theorem plain_lifted (os : Os) (started : os.Started) (H : Type) (enc : TypeId × Value → H) :
    ReturnsInHanded {} Try.checked os 4 .any (Rows.fnExactPlainSpec.pre6 enc Try.prog Try.f4 Rows.fnExactPlainRow.domain false) (Rows.fnExactPlainSpec.post enc Try.prog Try.f4 false true false false) := by
  refine returnsInHanded_of_change_sized (C := Try.checked) ownknob started (by kernel_rfl) Try.func4
    (ChangeSpec.witness6 (enc := enc) (C := Try.checked) false ⟨#[], #[.slice none 0 0], []⟩ 8 (by kernel_rfl) (by kernel_rfl) (by kernel_rfl) (by kernel_rfl)) ?_
  intro W base args ds gs before hval0 hW hcnd hsz0 _
  have hval : ∀ (j : Nat) t v, Try.f4.params[j]? = some t → args[j]? = some v → Value.okWide Try.prog W .any base t v := hval0
  have hW' := hW
  obtain ⟨p, q, hA0, hV, rfl, hfz, hnd⟩ := hW
  have hA : DataW.TrodAll enc Try.prog W 0 (fun _ => true) true [23] args.toList ds p := hA0
  obtain ⟨v0, d0, rfl, rfl, h0⟩ := trodAll_one hA
  obtain ⟨rfl, rfl⟩ := trodVars_none hV
  obtain ⟨sa, n, cap, rfl⟩ := okWide_slice und_acts (hval 0 23 v0 rfl rfl)
  clear hA0 hval0 hsz0
  have h0k := h0
  obtain ⟨fuel, h0'⟩ := h0
  obtain ⟨v, xs, e, hsl, _⟩ := open_sl (f := av) (Q := fun _ => True) (fun _ => rfl) (by omega) und_acts cof_act open_act h0'
  have e : v = .slice sa n cap := by simp [Value.cells] at e; exact e.symm
  subst e
  have hlt : ∀ x ∈ p, x.block < W.heap.size := fun x hx => by simpa using hW'.lt x (by simp [hx])
  refine (row_of (fnExactPlain_f hsl)).mono fun e W' ⟨he, bel⟩ => ?_
  subst he
  exact ⟨_, rfl, _, _, _, [], _, [], hW', trodAll_mk1 (shut_bool und_bool _), trodAll_mk1 (Below.trod laid (by kernel_rfl) (of_decide_eq_true (by kernel_rfl)) h0k bel hlt), rfl, bel.frame _, fun h => by cases h⟩
end Go.Proofs.Ytpcakglnklpjoaa.E
namespace Go.Proofs.Ytpcakglnklpjoaa
open Go.ChangeShapes Go.WideShapes Go.ChangeAt Go.RowKit
/-- The row, under a short name, for the claim. -/
theorem fnExactPlain_holds : Rows.FnExactPlainSaid :=
  OpenClaim.holds_of_wide 4 Try.f4 rfl rfl rfl rfl rfl rfl rfl ⟨rfl, rfl, rfl, rfl, rfl⟩ rfl rfl rfl rfl rfl (by kernel_rfl) Try.func4 (by kernel_rfl)
    (of_decide_eq_true (by kernel_rfl)) (by unfold Func.isWrapper; first | (rw [if_pos (by decide +kernel)]; kernel_rfl) | (rw [if_neg (by decide +kernel)]; exact ⟨rfl, rfl⟩))
    (fun os started H enc _ => E.plain_lifted os started H enc)
end Go.Proofs.Ytpcakglnklpjoaa
