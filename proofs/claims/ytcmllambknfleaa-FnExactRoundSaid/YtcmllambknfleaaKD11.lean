/- A part of the proof. Conditions: none. -/
import Derived.Test.YtcmllambknfleaaKD10
import Derived.Test.YtcmllambknfleaaJfShade
set_option linter.unusedVariables false
set_option linter.unusedSimpArgs false
set_option maxHeartbeats 8000000
set_option maxRecDepth 100000
namespace Go.Proofs.Ytcmllambknfleaa.E
open Go
open Classical
theorem fna_ro {P : Program} {f : FuncId} {args : List Value} {Bs : List Asr} {q : Value → List Asr → Prop} (h : ∀ m, star Bs m → FnA P f args [ro m] (fun v As => ∃ E, q v E ∧ As = E ++ [ro m])) : FnA P f args Bs (fun v As => ∃ E, q v E ∧ As = E ++ Bs) :=
  ⟨fun m hm => ((h m hm).out m ⟨m, emp, disj_emp _, (un_emp _).symm, rfl, rfl⟩).mono fun v M' ⟨As', m', l, s, E, hq, e⟩ => by
    subst e
    obtain ⟨a, b, d, rfl, h1, ⟨b1, b2, d2, rfl, h2, h3⟩⟩ := star_append.1 s
    have h2 : b1 = m := h2
    have h3 : b2 = emp := h3
    subst h2; subst h3
    rw [un_emp] at d l
    exact ⟨E ++ Bs, _, l, star_append.2 ⟨a, b1, d, rfl, h1, hm⟩, E, hq, rfl⟩⟩
theorem has_star {m : Mem} {Bs : List Asr} (h : star Bs m) : Has m Bs := ⟨m, Mem.le_refl _, h⟩
theorem own_nd (v : Value) : (own v).Nodup := by unfold own; split <;> simp
theorem pr_nd : ∀ {ys : List CS} {m : Mem}, prA ys m → (ys.flatMap fun y => own y.s).Nodup ∧ ∀ b, b ∈ (ys.flatMap fun y => own y.s) → m b ≠ none
  | [], m, _ => ⟨by simp, by simp⟩
  | y :: r, m, h => by
    obtain ⟨a, b, d, rfl, h1, h2⟩ := h
    obtain ⟨n1, n2⟩ := pr_nd (ys := r) (m := b) h2
    have ho : ∀ c, c ∈ own y.s → a c ≠ none := fun c hc => h1.1.own_some hc
    rw [List.flatMap_cons]
    refine ⟨List.nodup_append.2 ⟨own_nd _, n1, fun c hc e he hce => ?_⟩, fun c hc => ?_⟩
    · subst hce
      rcases d c with hd | hd
      · exact ho c hc hd
      · exact n2 c he hd
    · rcases List.mem_append.1 hc with hc | hc
      · cases ha : a c with
        | none => exact absurd ha (ho c hc)
        | some k => rw [un_l ha]; simp
      · cases hb : b c with
        | none => exact absurd hb (n2 c hc)
        | some k => rw [un_r d hb]; simp
theorem body_whv {x : HX} {m : Mem} (h : star x.body m) : WHV m x.hs := by
  refine ⟨body_r h, ?_⟩
  obtain ⟨a, r, d, rfl, h1, b, r2, d2, rfl, h2, c, r3, d3, rfl, h3, _⟩ := h
  obtain ⟨b1, b2, d4, rfl, k1, k2⟩ := star2.1 h2
  obtain ⟨p1, p2⟩ := pr_nd k2
  have o1 : ∀ e, e ∈ own (.slice x.rd.a x.regs.length x.rd.cap) → a e ≠ none := fun e he => h1.1.own_some he
  have o2 : ∀ e, e ∈ own (.slice x.cd.a x.xs.length x.cd.cap) → b1 e ≠ none := fun e he => k1.1.own_some he
  have o3 : ∀ e, e ∈ own (.slice x.gd.a x.gray.length x.gd.cap) → c e ≠ none := fun e he => h3.1.own_some he
  have q2 : ∀ e, e ∈ fpC (.slice x.cd.a x.xs.length x.cd.cap) x.xs → (b1.un b2) e ≠ none := fun e he => by
    rcases List.mem_append.1 he with he | he
    · cases hb : b1 e with
      | none => exact absurd hb (o2 e he)
      | some k => rw [un_l hb]; simp
    · cases hb : b2 e with
      | none => exact absurd hb (p2 e he)
      | some k => rw [un_r d4 hb]; simp
  show (own _ ++ (fpC _ _ ++ own _)).Nodup
  refine List.nodup_append.2 ⟨own_nd _, List.nodup_append.2 ⟨List.nodup_append.2 ⟨own_nd _, p1, fun e he f hf hef => ?_⟩, own_nd _, fun e he f hf hef => ?_⟩, fun e he f hf hef => ?_⟩
  · subst hef
    rcases d4 e with h | h
    · exact o2 e he h
    · exact p2 e hf h
  · subst hef
    rcases d2 e with h | h
    · exact q2 e he h
    · exact o3 e hf (un_none.1 h).1
  · subst hef
    rcases d e with h | h
    · exact o1 e he h
    · rcases List.mem_append.1 hf with hf | hf
      · exact q2 e hf (un_none.1 h).1
      · exact o3 e hf (un_none.1 (un_none.1 h).2).1
theorem markHeap_d {x : HX} {k : Int} (h0 : 0 ≤ k) (hb : endH k x.H ≤ 4611686018427387904) : FnA Try.prog 28 [x.v, .int .i64 k] x.body (fun v As => v = .int .i64 (endH k x.H) ∧ As = []) :=
  ⟨fun m hm => (markHeap_f h0 hb (body_whv hm)).mono fun v M' ⟨h1, _, _⟩ => ⟨[], emp, fun _ _ h => (by cases h), rfl, h1, rfl⟩⟩
end Go.Proofs.Ytcmllambknfleaa.E
set_option maxRecDepth 100000
set_option linter.unusedVariables false
namespace Go.Proofs.Ytcmllambknfleaa.E
open Go
noncomputable def e119 : Env := ⟨Try.prog, [5, 36], 40, []⟩
noncomputable def c119 : C :=
  .seq (.reg [
    ⟨some 1, none, .box false (.tmp 0)⟩,
    ⟨some 2, none, .mov (.const (.pointer none))⟩]) (.seq (.reg [
    ⟨some 6, none, .bslice false 0 3 [] []⟩,
    ⟨some 7, none, .faddr 3 (.tmp 1)⟩,
    ⟨some 8, none, .load true 1 (.tmp 7)⟩,
    ⟨some 9, none, .app 3 24 [.int .i64 0, .int .i64 0, .int .i64 0] (.tmp 6) (.tmp 8)⟩,
    ⟨some 10, none, .faddr 3 (.tmp 1)⟩,
    ⟨none, none, .store 1 (.tmp 10) (.tmp 9)⟩]) (.seq (.reg [
    ⟨some 11, none, .bslice false 0 1 [] []⟩,
    ⟨some 12, none, .faddr 8 (.tmp 1)⟩,
    ⟨some 13, none, .load true 1 (.tmp 12)⟩,
    ⟨some 14, none, .app 1 8 [.int .i64 0] (.tmp 11) (.tmp 13)⟩,
    ⟨some 15, none, .faddr 8 (.tmp 1)⟩,
    ⟨none, none, .store 1 (.tmp 15) (.tmp 14)⟩]) (.seq (.reg [
    ⟨some 16, none, .faddr 4 (.tmp 1)⟩,
    ⟨some 17, none, .load true 1 (.tmp 16)⟩,
    ⟨some 3, none, .mov (.tmp 17)⟩]) (.seq (.reg [
    ⟨some 18, none, .mov (.tmp 3)⟩,
    ⟨some 19, none, .lenS (.tmp 18)⟩,
    ⟨some 20, none, .mkslice 8 80 [.int .i64 0, .int .i64 0, .int .i64 0, .int .i64 0, .int .i64 0, .int .i64 0, .int .i64 0, .slice none 0 0] (.const (.int .i64 0)) (.tmp 19)⟩,
    ⟨some 21, none, .faddr 4 (.tmp 1)⟩,
    ⟨none, none, .store 1 (.tmp 21) (.tmp 20)⟩]) (.seq (.seq (.reg [
    ⟨some 22, none, .mov (.tmp 3)⟩,
    ⟨some 23, none, .lenS (.tmp 22)⟩,
    ⟨some 24, none, .mov (.const (.int .i64 0))⟩]) (.block 0 (.loop (.seq (.reg [
    ⟨some 25, none, .bin .lss (.tmp 24) (.tmp 23)⟩]) (.seq (.cond (.tmp 25) (.skip) (.exit 0)) (.seq (.block 1 (.seq (.reg [
    ⟨some 26, none, .iaddr 8 (.tmp 22) (.tmp 24)⟩,
    ⟨some 27, none, .load false 8 (.tmp 26)⟩,
    ⟨some 5, none, .alloc true [.int .i64 0, .int .i64 0, .int .i64 0, .int .i64 0, .int .i64 0, .int .i64 0, .int .i64 0, .slice none 0 0]⟩,
    ⟨none, none, .store 8 (.tmp 5) (.tmp 27)⟩]) (.seq (.reg [
    ⟨some 28, none, .bslice false 0 6 [] []⟩,
    ⟨some 29, none, .faddr 7 (.tmp 5)⟩,
    ⟨some 30, none, .load true 1 (.tmp 29)⟩,
    ⟨some 31, none, .app 6 48 [.int .i64 0, .int .i64 0, .int .i64 0, .int .i64 0, .int .i64 0, .int .i64 0] (.tmp 28) (.tmp 30)⟩,
    ⟨some 32, none, .faddr 7 (.tmp 5)⟩,
    ⟨none, none, .store 1 (.tmp 32) (.tmp 31)⟩]) (.reg [
    ⟨some 33, none, .faddr 4 (.tmp 1)⟩,
    ⟨some 34, none, .load true 1 (.tmp 33)⟩,
    ⟨some 35, none, .load false 8 (.tmp 5)⟩,
    ⟨some 36, none, .bslice true 1 8 [.int .i64 0, .int .i64 0, .int .i64 0, .int .i64 0, .int .i64 0, .int .i64 0, .int .i64 0, .slice none 0 0] [(0, 8, .tmp 35)]⟩,
    ⟨some 37, none, .app 8 80 [.int .i64 0, .int .i64 0, .int .i64 0, .int .i64 0, .int .i64 0, .int .i64 0, .int .i64 0, .slice none 0 0] (.tmp 34) (.tmp 36)⟩,
    ⟨some 38, none, .faddr 4 (.tmp 1)⟩,
    ⟨none, none, .store 1 (.tmp 38) (.tmp 37)⟩])))) (.reg [
    ⟨some 39, none, .bin .add (.tmp 24) (.const (.int .i64 1))⟩,
    ⟨some 24, none, .mov (.tmp 39)⟩]))))))) (.seq (.reg [
    ⟨some 2, none, .mov (.tmp 1)⟩]) (.ret)))))))
theorem t119 : Try.f119.body.bind (trC e119) = some c119 := by kernel_rfl
theorem r119 : Try.f119.results.toList.mapM (trR Try.prog) = some [.tmp 2] := by kernel_rfl
theorem fn119 {args : List Value} {M : Mem} {post : Value → Mem → Prop} (hl : args.length ≤ 40) (h : VC e119 c119 (fnQ [.tmp 2] post) (initS args 40) M) : Fn Try.prog 119 args M post :=
  Fn.of' (E := e119) Try.func119 t119 rfl r119 mixed hl h
noncomputable def e120 : Env := ⟨Try.prog, [30], 34, []⟩
noncomputable def c120 : C :=
  .seq (.reg [
    ⟨some 4, none, .mov (.tmp 0)⟩,
    ⟨some 5, none, .call 147 [.tmp 4]⟩,
    ⟨some 6, none, .mov (.tmp 5)⟩,
    ⟨some 7, some (6, true), .mov (.tmp 0)⟩,
    ⟨some 8, some (6, true), .nilCheck (.tmp 7)⟩,
    ⟨some 9, some (6, true), .faddr 4 (.tmp 8)⟩,
    ⟨some 10, some (6, true), .load true 1 (.tmp 9)⟩,
    ⟨some 11, some (6, true), .mov (.tmp 1)⟩,
    ⟨some 12, some (6, true), .iaddr 8 (.tmp 10) (.tmp 11)⟩,
    ⟨some 13, some (6, true), .faddr 5 (.tmp 12)⟩,
    ⟨some 14, some (6, true), .load true 1 (.tmp 13)⟩,
    ⟨some 15, some (6, true), .bin .eql (.tmp 14) (.const (.int .i64 0))⟩,
    ⟨some 16, none, .pick (.tmp 6) (.tmp 15) (.const (.bool false))⟩]) (.cond (.tmp 16) (.seq (.reg [
    ⟨some 17, none, .mov (.tmp 0)⟩,
    ⟨some 18, none, .nilCheck (.tmp 17)⟩,
    ⟨some 19, none, .faddr 4 (.tmp 18)⟩,
    ⟨some 20, none, .load true 1 (.tmp 19)⟩,
    ⟨some 21, none, .mov (.tmp 1)⟩,
    ⟨some 22, none, .iaddr 8 (.tmp 20) (.tmp 21)⟩,
    ⟨some 23, none, .faddr 5 (.tmp 22)⟩,
    ⟨none, none, .store 1 (.tmp 23) (.const (.int .i64 1))⟩]) (.reg [
    ⟨some 24, none, .mov (.tmp 0)⟩,
    ⟨some 25, none, .mov (.tmp 0)⟩,
    ⟨some 26, none, .nilCheck (.tmp 25)⟩,
    ⟨some 27, none, .faddr 8 (.tmp 26)⟩,
    ⟨some 28, none, .load true 1 (.tmp 27)⟩,
    ⟨some 29, none, .mov (.tmp 1)⟩,
    ⟨some 30, none, .bslice true 1 1 [.int .i64 0] [(0, 1, .tmp 29)]⟩,
    ⟨some 31, none, .app 1 8 [.int .i64 0] (.tmp 28) (.tmp 30)⟩,
    ⟨some 32, none, .nilCheck (.tmp 24)⟩,
    ⟨some 33, none, .faddr 8 (.tmp 32)⟩,
    ⟨none, none, .store 1 (.tmp 33) (.tmp 31)⟩])) (.skip))
theorem t120 : Try.f120.body.bind (trC e120) = some c120 := by kernel_rfl
theorem r120 : Try.f120.results.toList.mapM (trR Try.prog) = some [] := by kernel_rfl
theorem fn120 {args : List Value} {M : Mem} {post : Value → Mem → Prop} (hl : args.length ≤ 34) (h : VC e120 c120 (fnQ [] post) (initS args 34) M) : Fn Try.prog 120 args M post :=
  Fn.of' (E := e120) Try.func120 t120 rfl r120 mixed hl h
noncomputable def e52 : Env := ⟨Try.prog, [2, 4], 36, []⟩
noncomputable def c52 : C :=
  .seq (.reg [
    ⟨some 2, none, .box true (.tmp 0)⟩,
    ⟨some 4, none, .alloc true [.int .i64 0, .int .i64 0, .int .i64 0, .slice none 0 0, .slice none 0 0, .int .i64 0, .int .i64 0, .int .i64 0, .slice none 0 0, .int .i64 0, .int .i64 0, .int .i64 0, .int .i64 0]⟩]) (.seq (.seq (.reg [
    ⟨some 6, none, .load false 13 (.tmp 2)⟩,
    ⟨some 7, none, .call 105 [.tmp 6]⟩,
    ⟨some 8, none, .not (.tmp 7)⟩,
    ⟨some 9, none, .mov (.tmp 8)⟩,
    ⟨some 10, some (9, false), .mov (.tmp 1)⟩,
    ⟨some 11, some (9, false), .faddr 4 (.tmp 2)⟩,
    ⟨some 12, some (9, false), .load true 1 (.tmp 11)⟩,
    ⟨some 13, some (9, false), .lenS (.tmp 12)⟩,
    ⟨some 14, some (9, false), .bin .sub (.tmp 13) (.const (.int .i64 1))⟩,
    ⟨some 15, some (9, false), .call 71 [.tmp 10, .const (.int .i64 0), .tmp 14]⟩,
    ⟨some 16, some (9, false), .not (.tmp 15)⟩,
    ⟨some 17, none, .pick (.tmp 9) (.const (.bool true)) (.tmp 16)⟩,
    ⟨some 18, none, .mov (.tmp 17)⟩,
    ⟨some 19, some (18, false), .faddr 4 (.tmp 2)⟩,
    ⟨some 20, some (18, false), .load true 1 (.tmp 19)⟩,
    ⟨some 21, some (18, false), .mov (.tmp 1)⟩,
    ⟨some 22, some (18, false), .iaddr 8 (.tmp 20) (.tmp 21)⟩,
    ⟨some 23, some (18, false), .faddr 0 (.tmp 22)⟩,
    ⟨some 24, some (18, false), .load true 1 (.tmp 23)⟩,
    ⟨some 25, some (18, false), .bin .neq (.tmp 24) (.const (.int .i64 1))⟩,
    ⟨some 26, none, .pick (.tmp 18) (.const (.bool true)) (.tmp 25)⟩]) (.cond (.tmp 26) (.seq (.reg [
    ⟨some 27, none, .build [.int .i64 0, .int .i64 0, .int .i64 0, .slice none 0 0, .slice none 0 0, .int .i64 0, .int .i64 0, .int .i64 0, .slice none 0 0, .int .i64 0, .int .i64 0, .int .i64 0, .int .i64 0] []⟩,
    ⟨none, none, .store 13 (.tmp 4) (.tmp 27)⟩]) (.ret)) (.skip))) (.seq (.reg [
    ⟨some 28, none, .load false 13 (.tmp 2)⟩,
    ⟨some 29, none, .call 119 [.tmp 28]⟩,
    ⟨some 5, none, .mov (.tmp 29)⟩]) (.seq (.reg [
    ⟨some 30, none, .mov (.tmp 5)⟩,
    ⟨some 31, none, .mov (.tmp 1)⟩,
    ⟨some 32, none, .call 120 [.tmp 30, .tmp 31]⟩]) (.seq (.reg [
    ⟨some 33, none, .mov (.tmp 5)⟩,
    ⟨some 34, none, .nilCheck (.tmp 33)⟩,
    ⟨some 35, none, .load false 13 (.tmp 34)⟩,
    ⟨none, none, .store 13 (.tmp 4) (.tmp 35)⟩]) (.ret)))))
theorem t52 : Try.f52.body.bind (trC e52) = some c52 := by kernel_rfl
theorem r52 : Try.f52.results.toList.mapM (trR Try.prog) = some [.cell 4 false 13] := by kernel_rfl
theorem fn52 {args : List Value} {M : Mem} {post : Value → Mem → Prop} (hl : args.length ≤ 36) (h : VC e52 c52 (fnQ [.cell 4 false 13] post) (initS args 36) M) : Fn Try.prog 52 args M post :=
  Fn.of' (E := e52) Try.func52 t52 rfl r52 mixed hl h
end Go.Proofs.Ytcmllambknfleaa.E
set_option linter.unusedVariables false
set_option linter.unusedSimpArgs false
set_option maxHeartbeats 4000000
set_option maxRecDepth 100000
namespace Go.Proofs.Ytcmllambknfleaa.E
open Go
open Classical
/-- a cell is shaded -/
def HX.shade (x : HX) (i : Nat) (y : CS) (e : D) : HX := { x with xs := x.xs.set i (y.s_color 1), gray := x.gray ++ [(i : Int)], gd := e }
theorem shade_a {a : Nat} {x : HX} {i : Nat} {y : CS} (hi : x.xs[i]? = some y) (hg : x.gray.length ≤ 1000000) : FnA Try.prog 120 [ptr a, .int .i64 i] (hp a x) (fun v As => ∃ z : HX, As = hp a z ∧ if Marking x.H ∧ y.c.color = 0 then ∃ e, z = x.shade i y e else z = x) := by
  have hlt := (List.getElem?_eq_some_iff.1 hi).1
  refine fnA_of (fun h => fn120 (by simp) h) ?_
  repeat' (first
    | (refine k_L ?_; first | refine a_p rfl ?_ | (refine k_g ?_; first | refine a_gy rfl rfl ?_ | refine a_gn rfl rfl ?_ | (refine a_gd rfl (fun hb => ?_) (fun hb => ?_) <;> try (exfalso; omega))) | (refine k_l ?_; refine g_l rfl ?_) | (refine k_i ?_; refine g_i rfl rfl ?_) | (refine k_st ?_; refine g_st rfl rfl rfl rfl ?_) | (refine k_bl ?_; refine a_bl rfl ?_) | (refine k_c ?_; refine a_cq rfl (fun m hm => marking_q (ph_g (x := x) hm)) ?_) | (refine g_ai rfl rfl (by omega) (fun e' => ?_)))
    | refine a_n ?_
    | (refine k_V ?_; first | refine v_seq ?_ | refine v_reg ?_ | refine v_skip ?_ | refine v_cf rfl ?_ | (refine v_cd rfl (fun hb => ?_) (fun hb => ?_) <;> try (exfalso; omega))))
  · refine fa_n (fun _ _ => rfl) (Pm.ent (fin (x.shade i y e'))) ⟨_, rfl, ?_⟩
    rw [if_pos ⟨‹_›, ‹_›⟩]; exact ⟨_, rfl⟩
  all_goals refine fa_n (fun _ _ => rfl) (Pm.ent (fin x)) ⟨_, rfl, ?_⟩
  all_goals rw [if_neg (by simp_all)]
end Go.Proofs.Ytcmllambknfleaa.E
set_option linter.unusedVariables false
set_option linter.unusedSimpArgs false
namespace Go.Proofs.Ytcmllambknfleaa.E
open Go
open Classical
def Cell.zero : Cell := ⟨0, 0, 0, 0, 0, 0, 0, []⟩
def Cell.col (c : Cell) (k : Int) : Cell := { c with color := k }
theorem set_gt {α : Type} {l : List α} {i j : Nat} {a c : α} (h : (l.set i a)[j]? = some c) : (j = i ∧ c = a ∧ i < l.length) ∨ (j ≠ i ∧ l[j]? = some c) := by
  rw [List.getElem?_set] at h
  split at h
  · rename_i e
    subst e
    split at h
    · rename_i hl; cases h; exact .inl ⟨rfl, rfl, hl⟩
    · cases h
  · rename_i e; exact .inr ⟨fun e' => e e'.symm, h⟩
def getL (cs : List Cell) (j : Int) : Cell := cs.getD j.toNat Cell.zero
theorem getC_L (H : Heap) (j : Int) : H.getC j = getL H.cells j := rfl
theorem getL_at {cs : List Cell} {i : Nat} {c : Cell} {j : Int} (h : cs[i]? = some c) (e : j.toNat = i) : getL cs j = c := by
  unfold getL; rw [e, List.getD_eq_getElem?_getD, h]; rfl
theorem getL_set {cs : List Cell} {i : Nat} {a : Cell} {j : Int} (hi : i < cs.length) : getL (cs.set i a) j = if j.toNat = i then a else getL cs j := by
  unfold getL
  rw [List.getD_eq_getElem?_getD, List.getD_eq_getElem?_getD, List.getElem?_set]
  by_cases e : i = j.toNat
  · rw [if_pos e, if_pos hi, if_pos e.symm]; rfl
  · rw [if_neg e, if_neg (fun h => e h.symm)]
theorem getL_some {cs : List Cell} {j : Int} (h0 : 0 ≤ j) (h1 : j < cs.length) : cs[j.toNat]? = some (getL cs j) := by
  unfold getL
  rw [List.getD_eq_getElem?_getD, List.getElem?_eq_getElem (by omega)]; rfl
theorem units_set : ∀ {cs : List Cell} {i : Nat} {c d : Cell}, cs[i]? = some c → unitsN (cs.set i d) = unitsN cs - c.units + d.units
  | [], i, c, d, h => by simp at h
  | a :: r, 0, c, d, h => by
    simp only [List.getElem?_cons_zero, Option.some.injEq] at h
    subst h
    simp only [unitsN, List.set_cons_zero, List.map_cons, List.sum_cons]; omega
  | a :: r, i + 1, c, d, h => by
    simp only [List.getElem?_cons_succ] at h
    have := units_set (d := d) h
    simp only [unitsN, List.set_cons_succ, List.map_cons, List.sum_cons] at this ⊢; omega
theorem nodup_len : ∀ (n : Nat) (l : List Int), l.Nodup → (∀ g, g ∈ l → 0 ≤ g ∧ g < n) → l.length ≤ n
  | 0, l, _, h => by
    cases l with
    | nil => simp
    | cons a r => have := h a (by simp); omega
  | n + 1, l, hn, h => by
    by_cases hm : (n : Int) ∈ l
    · have h1 := nodup_len n (l.erase n) (hn.erase _) (fun g hg => by
        have h2 := h g (List.mem_of_mem_erase hg)
        have h3 := (hn.mem_erase_iff.1 hg).1
        omega)
      rw [List.length_erase_of_mem hm] at h1
      omega
    · have := nodup_len n l hn (fun g hg => by
        have h2 := h g hg
        have : g ≠ n := fun e => hm (by rw [← e]; exact hg)
        omega)
      omega
theorem R2.bare {H : Heap} (h : R2 H) {i : Nat} {c : Cell} (hc : H.cells[i]? = some c) (hu : c.state ≠ 1) : Bare c := by
  rcases h.each i c hc with h | h | h
  · exact h.2.1
  · exact h.2.1
  · exact absurd h.1 hu
theorem R2.state {H : Heap} (h : R2 H) {i : Nat} {c : Cell} (hc : H.cells[i]? = some c) (hp : H.phase < 4) : c.state = 0 ∨ c.state = 1 := by
  rcases h.each i c hc with h | h | h
  · exact .inl h.1
  · have := h.2.2.1; omega
  · exact .inr h.1
theorem orig {l : List Cell} {i j : Nat} {c d e : Cell} (hc : l[i]? = some c) (hd : (l.set i e)[j]? = some d) : ∃ d0, l[j]? = some d0 ∧ (j = i ∧ d0 = c ∧ d = e ∨ j ≠ i ∧ d = d0) := by
  rcases set_gt hd with ⟨rfl, rfl, _⟩ | ⟨h, hd⟩
  · exact ⟨c, hc, .inl ⟨rfl, rfl, rfl⟩⟩
  · exact ⟨d, hd, .inr ⟨h, rfl⟩⟩
/-- a cell of another colour -/
theorem col_state {H H' : Heap} {i : Nat} {c : Cell} {k : Int} (hc : H.cells[i]? = some c) (e1 : H'.cells = H.cells.set i (c.col k)) (j : Int) : (H'.getC j).state = (H.getC j).state ∧ (H'.getC j).pairs = (H.getC j).pairs ∧ (H'.getC j).to = (H.getC j).to := by
  have hlt := (List.getElem?_eq_some_iff.1 hc).1
  rw [getC_L, getC_L, e1, getL_set hlt]
  by_cases e : j.toNat = i
  · rw [if_pos e, getL_at hc e]; exact ⟨rfl, rfl, rfl⟩
  · rw [if_neg e]; exact ⟨rfl, rfl, rfl⟩
theorem col_r2 {H H' : Heap} {i : Nat} {c : Cell} {k : Int} (h : R2 H) (hc : H.cells[i]? = some c) (hu : c.state = 1) (hk : 0 ≤ k ∧ k ≤ 2) (e1 : H'.cells = H.cells.set i (c.col k)) (e2 : H'.born = H.born) (e3 : H'.phase = H.phase) : R2 H' := by
  have gs := fun j => (col_state hc e1 j).1
  refine ⟨fun j d hd => ?_, fun j l d e hd he hjl h1 h2 => ?_, fun j l d e hd he hjl h1 h2 => ?_⟩
  · rw [e1] at hd
    obtain ⟨d0, hd0, ⟨rfl, rfl, rfl⟩ | ⟨_, rfl⟩⟩ := orig hc hd
    · obtain ⟨_, a2, a3, a4, a5, a6, a7⟩ := h.used hd0 hu
      exact .inr (.inr ⟨hu, a2, a3, a4, by rw [e2]; exact a5, hk, a7⟩)
    · rcases h.each j d hd0 with h1 | h1 | h1
      · exact .inl h1
      · obtain ⟨a1, a2, a3, a4, a5, a6⟩ := h1
        exact .inr (.inl ⟨a1, a2, by rw [e3]; exact a3, a4, by rw [gs]; exact a5, fun hp k h0 h1 => by rw [gs]; exact a6 (by rw [← e3]; exact hp) k h0 h1⟩)
      · obtain ⟨a1, a2, a3, a4, a5, a6⟩ := h1
        exact .inr (.inr ⟨a1, a2, a3, a4, by rw [e2]; exact a5, a6⟩)
  · rw [e1] at hd he
    obtain ⟨d0, hd0, x⟩ := orig hc hd
    obtain ⟨f0, he0, y⟩ := orig hc he
    have b1 : d.born = d0.born ∧ d.state = d0.state := by rcases x with ⟨_, rfl, rfl⟩ | ⟨_, rfl⟩ <;> exact ⟨rfl, rfl⟩
    have b2 : e.born = f0.born ∧ e.state = f0.state := by rcases y with ⟨_, rfl, rfl⟩ | ⟨_, rfl⟩ <;> exact ⟨rfl, rfl⟩
    rw [b1.1, b2.1]
    exact h.born j l d0 f0 hd0 he0 hjl (b1.2 ▸ h1) (b2.2 ▸ h2)
  · rw [e1] at hd he
    obtain ⟨d0, hd0, x⟩ := orig hc hd
    obtain ⟨f0, he0, y⟩ := orig hc he
    have b1 : d.to = d0.to ∧ d.state = d0.state := by rcases x with ⟨_, rfl, rfl⟩ | ⟨_, rfl⟩ <;> exact ⟨rfl, rfl⟩
    have b2 : e.to = f0.to ∧ e.state = f0.state := by rcases y with ⟨_, rfl, rfl⟩ | ⟨_, rfl⟩ <;> exact ⟨rfl, rfl⟩
    rw [b1.1, b2.1]
    exact h.to j l d0 f0 hd0 he0 hjl (b1.2 ▸ h1) (b2.2 ▸ h2)
theorem col_r3 {H H' : Heap} {i : Nat} {c : Cell} {k : Int} (h : R3 H) (hc : H.cells[i]? = some c) (e1 : H'.cells = H.cells.set i (c.col k)) (e2 : H'.used = H.used) (e3 : H'.room = H.room) : R3 H' := by
  unfold R3 at *
  rw [e1, e2, e3, units_set hc]
  have : (c.col k).units = c.units := rfl
  rw [this]; omega
theorem leads_of {H H' : Heap} {w : Word} {m m' : Prop} (hs : ∀ j, (H'.getC j).state = (H.getC j).state) (hd : ∀ j, Doomed H' j → Doomed H j) (hm : m → m') (h : LeadsWell H w m) : LeadsWell H' w m' := fun hk => by
  rw [hs]
  rcases h hk with ⟨a, b⟩ | ⟨a, b⟩
  · exact .inl ⟨a, fun h => b (hd _ h)⟩
  · exact .inr ⟨a, hm b⟩
theorem formed_len {H H' : Heap} {w : Word} (hl : H'.cells.length = H.cells.length) (h : Formed H w) : Formed H' w := by unfold Formed at *; rw [hl]; exact h
/-- words lead as before -/
theorem r4_frame {H H' : Heap} (h : R4 H) (hl : H'.cells.length = H.cells.length) (hr : H'.regs = H.regs) (hs : ∀ j, (H'.getC j).state = (H.getC j).state) (hd : ∀ j, Doomed H' j ↔ Doomed H j)
    (ho : ∀ (j : Nat) d, H'.cells[j]? = some d → ∃ d0, H.cells[j]? = some d0 ∧ d.pairs = d0.pairs ∧ (Root d → Root d0))
    (hm : ∀ (j k : Nat) d p, H.cells[j]? = some d → d.pairs[k]? = some p → Mended H' j k → Mended H j k) : R4 H' := by
  refine ⟨fun w hw => ?_, fun i c hc hdm hrt => ?_, fun i c hc k p hp => ?_⟩
  · obtain ⟨a, b⟩ := h.regs w (by rw [← hr]; exact hw)
    exact ⟨formed_len hl a, leads_of hs (fun j => (hd j).1) id b⟩
  · obtain ⟨d0, h0, _, h2⟩ := ho i c hc
    exact h.roots i d0 h0 ((hd i).1 hdm) (h2 hrt)
  · obtain ⟨d0, h0, h1, _⟩ := ho i c hc
    rw [h1] at hp
    obtain ⟨a, b, g⟩ := h.pairs i d0 h0 k p hp
    refine ⟨formed_len hl a, formed_len hl b, fun hn => ?_⟩
    obtain ⟨g1, g2⟩ := g (fun h' => hn ((hd i).2 h'))
    have hmm : ¬ Mended H i k → ¬ Mended H' i k := fun a b => a (hm i k d0 p h0 hp b)
    exact ⟨leads_of hs (fun j => (hd j).1) hmm g1, leads_of hs (fun j => (hd j).1) hmm g2⟩
theorem col_orig {H H' : Heap} {i : Nat} {c : Cell} {k : Int} (hc : H.cells[i]? = some c) (e : H'.cells = H.cells.set i (c.col k)) : ∀ (j : Nat) d, H'.cells[j]? = some d → ∃ d0, H.cells[j]? = some d0 ∧ d.pairs = d0.pairs ∧ (Root d → Root d0) := fun j d hd => by
  rw [e] at hd
  obtain ⟨d0, hd0, ⟨rfl, rfl, rfl⟩ | ⟨_, rfl⟩⟩ := orig hc hd
  · exact ⟨_, hd0, rfl, id⟩
  · exact ⟨d, hd0, rfl, id⟩
theorem not_mend {H : Heap} (hp : H.phase ≠ 4 ∧ H.phase ≠ 5) (i k : Int) : Mended H i k := ⟨hp.1, fun h => absurd h hp.2⟩
theorem R7.nil {H : Heap} (hp : ¬ Marking H) : R7 H := fun h => absurd h hp
theorem R8.nil {H : Heap} (hp : H.phase ≠ 6) : R8 H := fun h => absurd h hp
/-- the heap with cell i shaded -/
def Heap.gray1 (H : Heap) (i : Nat) (c : Cell) : Heap := { H with cells := H.cells.set i (c.col 1), gray := H.gray ++ [(i : Int)] }
theorem gray1_sound {H : Heap} {i : Nat} {c : Cell} (h : Sound H) (hm : Marking H) (hc : H.cells[i]? = some c) (hu : c.state = 1) (hw : c.color = 0) : Sound (H.gray1 i c) := by
  have hp : H.phase ≠ 3 ∧ H.phase ≠ 4 ∧ H.phase ≠ 5 ∧ H.phase ≠ 6 := by rcases hm with e | e <;> rw [e] <;> omega
  have hp12 : H.phase = 1 ∨ H.phase = 2 := hm
  have hlt := (List.getElem?_eq_some_iff.1 hc).1
  have hcs := fun j => col_state (H := H) (H' := H.gray1 i c) (k := 1) hc rfl j
  obtain ⟨g1, g2, g3⟩ := h.r5.mark hm
  have hi : (i : Int) ∉ H.gray := fun hi => by
    have := (g2 _ hi).2.2.2
    rw [getC_nat hc, hw] at this; omega
  have gn : (H.gray ++ [(i : Int)]).Nodup := List.nodup_append.2 ⟨g1, by simp, fun a ha b hb => by simp at hb; subst hb; exact fun e => hi (by rw [← e]; exact ha)⟩
  have gC : ∀ j : Int, (H.gray1 i c).getC j = if j.toNat = i then c.col 1 else H.getC j := fun j => by
    rw [getC_L, getC_L]; exact getL_set hlt
  have gm : ∀ g, g ∈ H.gray ++ [(i : Int)] → 0 ≤ g ∧ g < H.cells.length := fun g hg => by
    rcases List.mem_append.1 hg with hg | hg
    · exact ⟨(g2 g hg).1, (g2 g hg).2.1⟩
    · simp at hg; subst hg; omega
  have hl : (H.gray1 i c).cells.length = H.cells.length := by simp [Heap.gray1]
  have w_of : ∀ w, White (H.gray1 i c) w → White H w := fun w hw' => by
    refine ⟨hw'.1, ?_⟩
    have := hw'.2
    rw [gC] at this
    split at this
    · simp [Cell.col] at this
    · exact this
  refine ⟨?_, col_r2 h.r2 hc hu (by omega) rfl rfl rfl, col_r3 h.r3 hc rfl rfl rfl, ?_, ⟨fun _ => ⟨gn, fun g hg => ?_, fun j d hd hdc => ?_⟩, fun hn => absurd hm hn⟩, ?_, fun _ j d hd => ?_, R8.nil hp.2.2.2⟩
  · refine { h.r1 with cells := by rw [hl]; exact h.r1.cells, gray := ?_, hand := by rw [hl]; exact h.r1.hand }
    rw [hl]; exact nodup_len _ _ gn gm
  · exact r4_frame h.r4 hl rfl (fun j => (hcs j).1) (fun j => ⟨fun h => absurd h.1 hp.1, fun h => absurd h.1 hp.1⟩) (col_orig hc rfl) (fun _ _ _ _ _ _ _ => not_mend ⟨hp.2.1, hp.2.2.1⟩ _ _)
  · refine ⟨(gm g hg).1, by rw [hl]; exact (gm g hg).2, ?_⟩
    rw [gC]
    by_cases e : g.toNat = i
    · rw [if_pos e]; exact ⟨hu, rfl⟩
    · rw [if_neg e]
      rcases List.mem_append.1 hg with hg | hg
      · exact (g2 g hg).2.2
      · simp at hg; subst hg; simp at e
  · show (j : Int) ∈ H.gray ++ [(i : Int)]
    obtain ⟨d0, hd0, ⟨rfl, rfl, rfl⟩ | ⟨_, rfl⟩⟩ := orig hc hd
    · simp
    · exact List.mem_append_left _ (g3 j d hd0 hdc)
  · have h6 := h.r6
    unfold R6 at h6 ⊢
    show if H.phase = 0 ∨ H.phase = 4 then _ else if H.phase = 2 then _ else if H.phase = 5 then _ else _
    by_cases p2 : H.phase = 2
    · rw [if_neg (by omega), if_pos p2] at h6 ⊢
      refine ⟨h6.1, ?_⟩
      have h7 := h6.2
      show match H.gray ++ [(i : Int)] with | [] => H.sub = 0 | g :: _ => H.sub ≤ ((H.gray1 i c).getC g).pairs.length
      cases hg : H.gray with
      | nil =>
        rw [hg] at h7
        simp only [List.nil_append] at h7 ⊢
        omega
      | cons a r =>
        rw [hg] at h7
        simp only [List.cons_append] at h7 ⊢
        rw [(hcs a).2.1]; exact h7
    · rw [if_neg (by omega), if_neg p2, if_neg (by omega)] at h6 ⊢
      exact h6
  · obtain ⟨d0, hd0, x⟩ := orig hc hd
    obtain ⟨a, b⟩ := h.r7 hm j d0 hd0
    refine ⟨fun hr hcol => ?_, fun k p hk hsc => ?_⟩
    · rcases x with ⟨rfl, rfl, rfl⟩ | ⟨_, rfl⟩
      · simp [Cell.col] at hcol
      · exact a hr hcol
    · have hpr : d.pairs = d0.pairs := by rcases x with ⟨_, rfl, rfl⟩ | ⟨_, rfl⟩ <;> rfl
      rw [hpr] at hk
      have : (k : Int) < scanned H j d0 := by
        unfold scanned at hsc ⊢
        have hph : (H.gray1 i c).phase = H.phase := rfl
        have hsub : (H.gray1 i c).sub = H.sub := rfl
        have hhd : (H.gray1 i c).gray.head? = some (j : Int) → H.phase = 2 → (H.gray.head? = some (j : Int)) ∨ H.sub = 0 := by
          intro h1 h2
          have h6 := h.r6
          unfold R6 at h6
          rw [if_neg (by omega), if_pos h2] at h6
          have h1 : (H.gray ++ [(i : Int)]).head? = some (j : Int) := h1
          cases hg : H.gray with
          | nil => rw [hg] at h6; exact .inr h6.2
          | cons a r => rw [hg] at h1; left; simpa using h1
        rw [hph, hsub] at hsc
        rcases x with ⟨rfl, rfl, rfl⟩ | ⟨_, rfl⟩
        · have hcol : ¬ (d0.col 1).color = 2 := by simp [Cell.col]
          rw [if_neg hcol] at hsc
          rw [if_neg (show ¬ d0.color = 2 by omega)]
          split at hsc
          · rename_i e
            rcases hhd e.2 e.1 with h' | h'
            · rw [if_pos ⟨e.1, h'⟩]; exact hsc
            · omega
          · omega
        · by_cases e2 : d.color = 2
          · rw [if_pos e2] at hsc ⊢; exact hsc
          · rw [if_neg e2] at hsc ⊢
            split at hsc
            · rename_i e
              rcases hhd e.2 e.1 with h' | h'
              · rw [if_pos ⟨e.1, h'⟩]; exact hsc
              · omega
            · omega
      obtain ⟨b1, b2⟩ := b k p hk this
      exact ⟨fun h => b1 (w_of _ h), fun h => b2 (w_of _ h)⟩
noncomputable def Heap.shadeH (H : Heap) (i : Nat) : Heap := if Marking H ∧ (H.getC i).color = 0 then H.gray1 i (H.getC i) else H
/-- what shading leaves as it was -/
structure Sh (H K : Heap) : Prop where
  sound : Sound H → Sound K
  room : K.room = H.room
  used : K.used = H.used
  born : K.born = H.born
  regs : K.regs = H.regs
  phase : K.phase = H.phase
  hand : K.hand = H.hand
  sub : K.sub = H.sub
  per : K.per = H.per
  start : K.start = H.start
  rounds : K.rounds = H.rounds
  forced : K.forced = H.forced
  len : K.cells.length = H.cells.length
  cell : ∀ j : Int, (K.getC j).state = (H.getC j).state ∧ (K.getC j).pairs = (H.getC j).pairs ∧ (K.getC j).last = (H.getC j).last ∧ ((H.getC j).color ≠ 0 → (K.getC j).color = (H.getC j).color)
  gray : H.gray <+: K.gray
theorem Sh.refl (H : Heap) : Sh H H := ⟨id, rfl, rfl, rfl, rfl, rfl, rfl, rfl, rfl, rfl, rfl, rfl, rfl, fun _ => ⟨rfl, rfl, rfl, fun _ => rfl⟩, List.prefix_refl _⟩
theorem Sh.trans {H K L : Heap} (h : Sh H K) (k : Sh K L) : Sh H L :=
  ⟨fun s => k.sound (h.sound s), k.room.trans h.room, k.used.trans h.used, k.born.trans h.born, k.regs.trans h.regs, k.phase.trans h.phase, k.hand.trans h.hand, k.sub.trans h.sub, k.per.trans h.per, k.start.trans h.start, k.rounds.trans h.rounds, k.forced.trans h.forced, k.len.trans h.len,
   fun j => ⟨(k.cell j).1.trans (h.cell j).1, (k.cell j).2.1.trans (h.cell j).2.1, (k.cell j).2.2.1.trans (h.cell j).2.2.1, fun hc => by
     have := (h.cell j).2.2.2 hc
     rw [(k.cell j).2.2.2 (by rw [this]; exact hc), this]⟩, h.gray.trans k.gray⟩
theorem shadeH_ok {H : Heap} {i : Nat} (hi : i < H.cells.length) (hu : (H.getC i).state = 1) : Sh H (H.shadeH i) ∧ (Marking H → ((H.shadeH i).getC i).color ≠ 0) := by
  unfold Heap.shadeH
  have hc := getL_some (cs := H.cells) (j := i) (by omega) (by omega)
  rw [show ((i : Int)).toNat = i by omega, ← getC_L] at hc
  split
  · rename_i hm
    refine ⟨⟨fun h => gray1_sound h hm.1 hc hu hm.2, rfl, rfl, rfl, rfl, rfl, rfl, rfl, rfl, rfl, rfl, rfl, by simp [Heap.gray1], fun j => ?_, List.prefix_append _ _⟩, fun _ => ?_⟩
    · have e : (H.gray1 i (H.getC i)).getC j = if j.toNat = i then (H.getC i).col 1 else H.getC j := by rw [getC_L, getC_L]; exact getL_set hi
      rw [e]
      split
      · rename_i e
        have : H.getC j = H.getC i := by rw [getC_L, getL_at hc e]
        rw [this]
        exact ⟨rfl, rfl, rfl, fun h => absurd hm.2 h⟩
      · exact ⟨rfl, rfl, rfl, fun _ => rfl⟩
    · have e : (H.gray1 i (H.getC i)).getC i = if ((i : Int)).toNat = i then (H.getC i).col 1 else H.getC i := by rw [getC_L, getC_L]; exact getL_set hi
      rw [e, if_pos (by omega)]; simp [Cell.col]
  · rename_i hm
    exact ⟨Sh.refl H, fun h e => hm ⟨h, e⟩⟩
noncomputable def Heap.shadeW (H : Heap) (w : Word) : Heap := if w.kind = 2 then H.shadeH w.at_.toNat else H
end Go.Proofs.Ytcmllambknfleaa.E
set_option linter.unusedVariables false
set_option linter.unusedSimpArgs false
namespace Go.Proofs.Ytcmllambknfleaa.E
open Go
open Classical
noncomputable def luG (H : Heap) : Nat → Int
  | 0 => -1
  | k + 1 => if (H.getC k).state = 1 then (k : Int) else luG H k
end Go.Proofs.Ytcmllambknfleaa.E
set_option linter.unusedVariables false
set_option linter.unusedSimpArgs false
namespace Go.Proofs.Ytcmllambknfleaa.E
open Go
open Classical
noncomputable def wgt (c : Cell) : Int := if c.color = 0 then 408 else if c.color = 1 then 204 else 0
noncomputable def wN (cs : List Cell) : Int := (cs.map wgt).sum
noncomputable def Heap.M (H : Heap) : Int :=
  if H.phase = 1 then 8000001 + H.cells.length - H.hand
  else if H.phase = 2 then 4000201 + wN H.cells - H.sub
  else if H.phase = 3 then 3000001 + H.cells.length - H.hand
  else if H.phase = 4 then 2000002 + luG H H.cells.length
  else if H.phase = 5 then 10201 + (H.cells.length - H.hand) * 202 - H.sub
  else if H.phase = 6 then H.hand + 1 else 0
end Go.Proofs.Ytcmllambknfleaa.E
set_option maxRecDepth 100000
set_option linter.unusedVariables false
namespace Go.Proofs.Ytcmllambknfleaa.E
open Go
noncomputable def e117 : Env := ⟨Try.prog, [1, 5, 7, 8, 10, 25, 49, 56, 71], 75, []⟩
noncomputable def c117 : C :=
  .seq (.reg [
    ⟨some 1, none, .box true (.tmp 0)⟩,
    ⟨some 2, none, .mov (.const (.pointer none))⟩]) (.seq (.reg [
    ⟨some 13, none, .load false 13 (.tmp 1)⟩,
    ⟨some 3, none, .alloc false [.int .i64 0, .int .i64 0, .int .i64 0, .slice none 0 0, .slice none 0 0, .int .i64 0, .int .i64 0, .int .i64 0, .slice none 0 0, .int .i64 0, .int .i64 0, .int .i64 0, .int .i64 0]⟩,
    ⟨none, none, .store 13 (.tmp 3) (.tmp 13)⟩]) (.seq (.reg [
    ⟨some 14, none, .faddr 3 (.tmp 3)⟩,
    ⟨none, none, .store 1 (.tmp 14) (.const (.slice none 0 0))⟩]) (.seq (.seq (.reg [
    ⟨some 15, none, .faddr 3 (.tmp 1)⟩,
    ⟨some 16, none, .load true 1 (.tmp 15)⟩,
    ⟨some 17, none, .lenS (.tmp 16)⟩,
    ⟨some 18, none, .mov (.const (.int .i64 0))⟩]) (.block 0 (.loop (.seq (.reg [
    ⟨some 19, none, .bin .lss (.tmp 18) (.tmp 17)⟩]) (.seq (.cond (.tmp 19) (.skip) (.exit 0)) (.seq (.block 1 (.seq (.reg [
    ⟨some 20, none, .iaddr 3 (.tmp 16) (.tmp 18)⟩,
    ⟨some 21, none, .load false 3 (.tmp 20)⟩,
    ⟨some 5, none, .alloc true [.int .i64 0, .int .i64 0, .int .i64 0]⟩,
    ⟨none, none, .store 3 (.tmp 5) (.tmp 21)⟩]) (.reg [
    ⟨some 22, none, .faddr 3 (.tmp 3)⟩,
    ⟨some 23, none, .load true 1 (.tmp 22)⟩,
    ⟨some 24, none, .load false 3 (.tmp 5)⟩,
    ⟨some 25, none, .bslice true 1 3 [.int .i64 0, .int .i64 0, .int .i64 0] [(0, 3, .tmp 24)]⟩,
    ⟨some 26, none, .app 3 24 [.int .i64 0, .int .i64 0, .int .i64 0] (.tmp 23) (.tmp 25)⟩,
    ⟨some 27, none, .faddr 3 (.tmp 3)⟩,
    ⟨none, none, .store 1 (.tmp 27) (.tmp 26)⟩]))) (.reg [
    ⟨some 28, none, .bin .add (.tmp 18) (.const (.int .i64 1))⟩,
    ⟨some 18, none, .mov (.tmp 28)⟩]))))))) (.seq (.reg [
    ⟨some 29, none, .faddr 4 (.tmp 3)⟩,
    ⟨none, none, .store 1 (.tmp 29) (.const (.slice none 0 0))⟩]) (.seq (.seq (.reg [
    ⟨some 30, none, .faddr 4 (.tmp 1)⟩,
    ⟨some 31, none, .load true 1 (.tmp 30)⟩,
    ⟨some 32, none, .lenS (.tmp 31)⟩,
    ⟨some 33, none, .mov (.const (.int .i64 0))⟩]) (.block 2 (.loop (.seq (.reg [
    ⟨some 34, none, .bin .lss (.tmp 33) (.tmp 32)⟩]) (.seq (.cond (.tmp 34) (.skip) (.exit 2)) (.seq (.block 3 (.seq (.reg [
    ⟨some 35, none, .iaddr 8 (.tmp 31) (.tmp 33)⟩,
    ⟨some 36, none, .load false 8 (.tmp 35)⟩,
    ⟨some 7, none, .alloc true [.int .i64 0, .int .i64 0, .int .i64 0, .int .i64 0, .int .i64 0, .int .i64 0, .int .i64 0, .slice none 0 0]⟩,
    ⟨none, none, .store 8 (.tmp 7) (.tmp 36)⟩]) (.seq (.reg [
    ⟨some 37, none, .load false 8 (.tmp 7)⟩,
    ⟨some 8, none, .alloc true [.int .i64 0, .int .i64 0, .int .i64 0, .int .i64 0, .int .i64 0, .int .i64 0, .int .i64 0, .slice none 0 0]⟩,
    ⟨none, none, .store 8 (.tmp 8) (.tmp 37)⟩]) (.seq (.reg [
    ⟨some 38, none, .faddr 7 (.tmp 8)⟩,
    ⟨none, none, .store 1 (.tmp 38) (.const (.slice none 0 0))⟩]) (.seq (.seq (.reg [
    ⟨some 39, none, .faddr 7 (.tmp 7)⟩,
    ⟨some 40, none, .load true 1 (.tmp 39)⟩,
    ⟨some 41, none, .lenS (.tmp 40)⟩,
    ⟨some 42, none, .mov (.const (.int .i64 0))⟩]) (.block 4 (.loop (.seq (.reg [
    ⟨some 43, none, .bin .lss (.tmp 42) (.tmp 41)⟩]) (.seq (.cond (.tmp 43) (.skip) (.exit 4)) (.seq (.block 5 (.seq (.reg [
    ⟨some 44, none, .iaddr 6 (.tmp 40) (.tmp 42)⟩,
    ⟨some 45, none, .load false 6 (.tmp 44)⟩,
    ⟨some 10, none, .alloc true [.int .i64 0, .int .i64 0, .int .i64 0, .int .i64 0, .int .i64 0, .int .i64 0]⟩,
    ⟨none, none, .store 6 (.tmp 10) (.tmp 45)⟩]) (.reg [
    ⟨some 46, none, .faddr 7 (.tmp 8)⟩,
    ⟨some 47, none, .load true 1 (.tmp 46)⟩,
    ⟨some 48, none, .load false 6 (.tmp 10)⟩,
    ⟨some 49, none, .bslice true 1 6 [.int .i64 0, .int .i64 0, .int .i64 0, .int .i64 0, .int .i64 0, .int .i64 0] [(0, 6, .tmp 48)]⟩,
    ⟨some 50, none, .app 6 48 [.int .i64 0, .int .i64 0, .int .i64 0, .int .i64 0, .int .i64 0, .int .i64 0] (.tmp 47) (.tmp 49)⟩,
    ⟨some 51, none, .faddr 7 (.tmp 8)⟩,
    ⟨none, none, .store 1 (.tmp 51) (.tmp 50)⟩]))) (.reg [
    ⟨some 52, none, .bin .add (.tmp 42) (.const (.int .i64 1))⟩,
    ⟨some 42, none, .mov (.tmp 52)⟩]))))))) (.reg [
    ⟨some 53, none, .faddr 4 (.tmp 3)⟩,
    ⟨some 54, none, .load true 1 (.tmp 53)⟩,
    ⟨some 55, none, .load false 8 (.tmp 8)⟩,
    ⟨some 56, none, .bslice true 1 8 [.int .i64 0, .int .i64 0, .int .i64 0, .int .i64 0, .int .i64 0, .int .i64 0, .int .i64 0, .slice none 0 0] [(0, 8, .tmp 55)]⟩,
    ⟨some 57, none, .app 8 80 [.int .i64 0, .int .i64 0, .int .i64 0, .int .i64 0, .int .i64 0, .int .i64 0, .int .i64 0, .slice none 0 0] (.tmp 54) (.tmp 56)⟩,
    ⟨some 58, none, .faddr 4 (.tmp 3)⟩,
    ⟨none, none, .store 1 (.tmp 58) (.tmp 57)⟩])))))) (.reg [
    ⟨some 59, none, .bin .add (.tmp 33) (.const (.int .i64 1))⟩,
    ⟨some 33, none, .mov (.tmp 59)⟩]))))))) (.seq (.reg [
    ⟨some 60, none, .faddr 8 (.tmp 3)⟩,
    ⟨none, none, .store 1 (.tmp 60) (.const (.slice none 0 0))⟩]) (.seq (.seq (.reg [
    ⟨some 61, none, .faddr 8 (.tmp 1)⟩,
    ⟨some 62, none, .load true 1 (.tmp 61)⟩,
    ⟨some 63, none, .lenS (.tmp 62)⟩,
    ⟨some 64, none, .mov (.const (.int .i64 0))⟩]) (.block 6 (.loop (.seq (.reg [
    ⟨some 65, none, .bin .lss (.tmp 64) (.tmp 63)⟩]) (.seq (.cond (.tmp 65) (.skip) (.exit 6)) (.seq (.block 7 (.seq (.reg [
    ⟨some 66, none, .iaddr 1 (.tmp 62) (.tmp 64)⟩,
    ⟨some 67, none, .load true 1 (.tmp 66)⟩,
    ⟨some 12, none, .mov (.tmp 67)⟩]) (.reg [
    ⟨some 68, none, .faddr 8 (.tmp 3)⟩,
    ⟨some 69, none, .load true 1 (.tmp 68)⟩,
    ⟨some 70, none, .mov (.tmp 12)⟩,
    ⟨some 71, none, .bslice true 1 1 [.int .i64 0] [(0, 1, .tmp 70)]⟩,
    ⟨some 72, none, .app 1 8 [.int .i64 0] (.tmp 69) (.tmp 71)⟩,
    ⟨some 73, none, .faddr 8 (.tmp 3)⟩,
    ⟨none, none, .store 1 (.tmp 73) (.tmp 72)⟩]))) (.reg [
    ⟨some 74, none, .bin .add (.tmp 64) (.const (.int .i64 1))⟩,
    ⟨some 64, none, .mov (.tmp 74)⟩]))))))) (.seq (.reg [
    ⟨some 2, none, .mov (.tmp 3)⟩]) (.ret)))))))))
theorem t117 : Try.f117.body.bind (trC e117) = some c117 := by kernel_rfl
theorem r117 : Try.f117.results.toList.mapM (trR Try.prog) = some [.tmp 2] := by kernel_rfl
theorem fn117 {args : List Value} {M : Mem} {post : Value → Mem → Prop} (hl : args.length ≤ 75) (h : VC e117 c117 (fnQ [.tmp 2] post) (initS args 75) M) : Fn Try.prog 117 args M post :=
  Fn.of' (E := e117) Try.func117 t117 rfl r117 mixed hl h
noncomputable def e154 : Env := ⟨Try.prog, [], 15, []⟩
noncomputable def c154 : C :=
  .seq (.reg [
    ⟨some 2, none, .mov (.const (.bool false))⟩]) (.seq (.reg [
    ⟨some 3, none, .mov (.tmp 0)⟩,
    ⟨some 4, none, .nilCheck (.tmp 3)⟩,
    ⟨some 5, none, .faddr 5 (.tmp 4)⟩,
    ⟨some 6, none, .load true 1 (.tmp 5)⟩,
    ⟨some 7, none, .bin .eql (.tmp 6) (.const (.int .i64 1))⟩,
    ⟨some 8, none, .mov (.tmp 7)⟩,
    ⟨some 9, some (8, false), .mov (.tmp 0)⟩,
    ⟨some 10, some (8, false), .nilCheck (.tmp 9)⟩,
    ⟨some 11, some (8, false), .faddr 5 (.tmp 10)⟩,
    ⟨some 12, some (8, false), .load true 1 (.tmp 11)⟩,
    ⟨some 13, some (8, false), .bin .eql (.tmp 12) (.const (.int .i64 2))⟩,
    ⟨some 14, none, .pick (.tmp 8) (.const (.bool true)) (.tmp 13)⟩,
    ⟨some 2, none, .mov (.tmp 14)⟩]) (.ret))
theorem t154 : Try.f154.body.bind (trC e154) = some c154 := by kernel_rfl
theorem r154 : Try.f154.results.toList.mapM (trR Try.prog) = some [.tmp 2] := by kernel_rfl
theorem fn154 {args : List Value} {M : Mem} {post : Value → Mem → Prop} (hl : args.length ≤ 15) (h : VC e154 c154 (fnQ [.tmp 2] post) (initS args 15) M) : Fn Try.prog 154 args M post :=
  Fn.of' (E := e154) Try.func154 t154 rfl r154 mixed hl h
noncomputable def e118 : Env := ⟨Try.prog, [3, 40], 44, [(1, 20), (3, 8), (4, 8)]⟩
noncomputable def c118 : C :=
  .seq (.reg [
    ⟨some 3, none, .box true (.tmp 1)⟩,
    ⟨some 4, none, .mov (.const (.bool false))⟩]) (.seq (.seq (.dreg 20 [
    ⟨some 5, none, .mov (.tmp 0)⟩,
    ⟨some 6, none, .qcall 154 [.tmp 5]⟩,
    ⟨some 7, none, .not (.tmp 6)⟩,
    ⟨some 8, none, .mov (.tmp 7)⟩,
    ⟨some 9, some (8, false), .faddr 0 (.tmp 3)⟩,
    ⟨some 10, some (8, false), .load true 1 (.tmp 9)⟩,
    ⟨some 11, some (8, false), .bin .neq (.tmp 10) (.const (.int .i64 2))⟩,
    ⟨some 12, none, .pick (.tmp 8) (.const (.bool true)) (.tmp 11)⟩,
    ⟨some 13, none, .mov (.tmp 12)⟩,
    ⟨some 14, some (13, false), .mov (.tmp 0)⟩,
    ⟨some 15, some (13, false), .nilCheck (.tmp 14)⟩,
    ⟨some 16, some (13, false), .faddr 4 (.tmp 15)⟩,
    ⟨some 17, some (13, false), .load true 1 (.tmp 16)⟩,
    ⟨some 18, some (13, false), .faddr 2 (.tmp 3)⟩,
    ⟨some 19, some (13, false), .load true 1 (.tmp 18)⟩,
    ⟨some 20, some (13, false), .iaddr 8 (.tmp 17) (.tmp 19)⟩,
    ⟨some 21, some (13, false), .faddr 5 (.tmp 20)⟩,
    ⟨some 22, some (13, false), .load true 1 (.tmp 21)⟩,
    ⟨some 23, some (13, false), .bin .neq (.tmp 22) (.const (.int .i64 0))⟩,
    ⟨some 24, none, .pick (.tmp 13) (.const (.bool true)) (.tmp 23)⟩]) (.cond (.tmp 24) (.seq (.reg [
    ⟨some 4, none, .mov (.const (.bool false))⟩]) (.ret)) (.skip))) (.seq (.dreg 8 [
    ⟨some 25, none, .mov (.tmp 0)⟩,
    ⟨some 26, none, .nilCheck (.tmp 25)⟩,
    ⟨some 27, none, .faddr 4 (.tmp 26)⟩,
    ⟨some 28, none, .load true 1 (.tmp 27)⟩,
    ⟨some 29, none, .faddr 2 (.tmp 3)⟩,
    ⟨some 30, none, .load true 1 (.tmp 29)⟩,
    ⟨some 31, none, .iaddr 8 (.tmp 28) (.tmp 30)⟩,
    ⟨some 32, none, .faddr 5 (.tmp 31)⟩,
    ⟨none, none, .store 1 (.tmp 32) (.const (.int .i64 1))⟩]) (.seq (.dreg 8 [
    ⟨some 33, none, .mov (.tmp 0)⟩,
    ⟨some 34, none, .mov (.tmp 0)⟩,
    ⟨some 35, none, .nilCheck (.tmp 34)⟩,
    ⟨some 36, none, .faddr 8 (.tmp 35)⟩,
    ⟨some 37, none, .load true 1 (.tmp 36)⟩,
    ⟨some 38, none, .faddr 2 (.tmp 3)⟩,
    ⟨some 39, none, .load true 1 (.tmp 38)⟩,
    ⟨some 40, none, .bslice true 1 1 [.int .i64 0] [(0, 1, .tmp 39)]⟩,
    ⟨some 41, none, .app 1 8 [.int .i64 0] (.tmp 37) (.tmp 40)⟩,
    ⟨some 42, none, .nilCheck (.tmp 33)⟩,
    ⟨some 43, none, .faddr 8 (.tmp 42)⟩,
    ⟨none, none, .store 1 (.tmp 43) (.tmp 41)⟩]) (.seq (.reg [
    ⟨some 4, none, .mov (.const (.bool true))⟩]) (.ret)))))
theorem t118 : Try.f118.body.bind (trC e118) = some c118 := by kernel_rfl
theorem r118 : Try.f118.results.toList.mapM (trR Try.prog) = some [.tmp 4] := by kernel_rfl
theorem fn118 {args : List Value} {M : Mem} {post : Value → Mem → Prop} (hl : args.length ≤ 44) (h : VC e118 c118 (fnQ [.tmp 4] post) (initS args 44) M) : Fn Try.prog 118 args M post :=
  Fn.of' (E := e118) Try.func118 t118 rfl r118 mixed hl h
noncomputable def e51 : Env := ⟨Try.prog, [2, 4], 39, []⟩
noncomputable def c51 : C :=
  .seq (.reg [
    ⟨some 2, none, .box true (.tmp 0)⟩,
    ⟨some 4, none, .alloc true [.int .i64 0, .int .i64 0, .int .i64 0, .slice none 0 0, .slice none 0 0, .int .i64 0, .int .i64 0, .int .i64 0, .slice none 0 0, .int .i64 0, .int .i64 0, .int .i64 0, .int .i64 0]⟩]) (.seq (.seq (.reg [
    ⟨some 6, none, .load false 13 (.tmp 2)⟩,
    ⟨some 7, none, .call 31 [.tmp 6]⟩,
    ⟨some 8, none, .bin .neq (.tmp 7) (.const (.int .i64 0))⟩,
    ⟨some 9, none, .mov (.tmp 8)⟩,
    ⟨some 10, some (9, false), .mov (.tmp 1)⟩,
    ⟨some 11, some (9, false), .bin .lss (.tmp 10) (.const (.int .i64 0))⟩,
    ⟨some 12, none, .pick (.tmp 9) (.const (.bool true)) (.tmp 11)⟩,
    ⟨some 13, none, .mov (.tmp 12)⟩,
    ⟨some 14, some (13, false), .mov (.tmp 1)⟩,
    ⟨some 15, some (13, false), .faddr 4 (.tmp 2)⟩,
    ⟨some 16, some (13, false), .load true 1 (.tmp 15)⟩,
    ⟨some 17, some (13, false), .lenS (.tmp 16)⟩,
    ⟨some 18, some (13, false), .bin .geq (.tmp 14) (.tmp 17)⟩,
    ⟨some 19, none, .pick (.tmp 13) (.const (.bool true)) (.tmp 18)⟩,
    ⟨some 20, none, .mov (.tmp 19)⟩,
    ⟨some 21, some (20, false), .faddr 4 (.tmp 2)⟩,
    ⟨some 22, some (20, false), .load true 1 (.tmp 21)⟩,
    ⟨some 23, some (20, false), .mov (.tmp 1)⟩,
    ⟨some 24, some (20, false), .iaddr 8 (.tmp 22) (.tmp 23)⟩,
    ⟨some 25, some (20, false), .faddr 0 (.tmp 24)⟩,
    ⟨some 26, some (20, false), .load true 1 (.tmp 25)⟩,
    ⟨some 27, some (20, false), .bin .neq (.tmp 26) (.const (.int .i64 1))⟩,
    ⟨some 28, none, .pick (.tmp 20) (.const (.bool true)) (.tmp 27)⟩]) (.cond (.tmp 28) (.seq (.reg [
    ⟨some 29, none, .build [.int .i64 0, .int .i64 0, .int .i64 0, .slice none 0 0, .slice none 0 0, .int .i64 0, .int .i64 0, .int .i64 0, .slice none 0 0, .int .i64 0, .int .i64 0, .int .i64 0, .int .i64 0] []⟩,
    ⟨none, none, .store 13 (.tmp 4) (.tmp 29)⟩]) (.ret)) (.skip))) (.seq (.reg [
    ⟨some 30, none, .load false 13 (.tmp 2)⟩,
    ⟨some 31, none, .call 117 [.tmp 30]⟩,
    ⟨some 5, none, .mov (.tmp 31)⟩]) (.seq (.reg [
    ⟨some 32, none, .mov (.tmp 5)⟩,
    ⟨some 33, none, .mov (.tmp 1)⟩,
    ⟨some 34, none, .build [.int .i64 0, .int .i64 0, .int .i64 0] [(0, 1, .const (.int .i64 2)), (2, 1, .tmp 33)]⟩,
    ⟨some 35, none, .call 118 [.tmp 32, .tmp 34]⟩]) (.seq (.reg [
    ⟨some 36, none, .mov (.tmp 5)⟩,
    ⟨some 37, none, .nilCheck (.tmp 36)⟩,
    ⟨some 38, none, .load false 13 (.tmp 37)⟩,
    ⟨none, none, .store 13 (.tmp 4) (.tmp 38)⟩]) (.ret)))))
theorem t51 : Try.f51.body.bind (trC e51) = some c51 := by kernel_rfl
theorem r51 : Try.f51.results.toList.mapM (trR Try.prog) = some [.cell 4 false 13] := by kernel_rfl
theorem fn51 {args : List Value} {M : Mem} {post : Value → Mem → Prop} (hl : args.length ≤ 39) (h : VC e51 c51 (fnQ [.cell 4 false 13] post) (initS args 39) M) : Fn Try.prog 51 args M post :=
  Fn.of' (E := e51) Try.func51 t51 rfl r51 mixed hl h
end Go.Proofs.Ytcmllambknfleaa.E
set_option linter.unusedVariables false
set_option linter.unusedSimpArgs false
set_option maxHeartbeats 8000000
set_option maxRecDepth 100000
namespace Go.Proofs.Ytcmllambknfleaa.E
open Go
open Classical
theorem plain_flat {α : Type} {f : α → List Value} (h : ∀ x, plainCells (f x) = true) : ∀ xs : List α, plainCells (xs.flatMap f) = true
  | [] => rfl
  | x :: r => by
    have h1 := h x
    have h2 := plain_flat h r
    unfold plainCells at *
    rw [List.flatMap_cons, List.all_append, h1, h2]; rfl
theorem prA_snoc {ys : List CS} {y : CS} {m : Mem} (h : star [prA ys, slA 6 pv y.d y.c.pairs] m) : prA (ys ++ [y]) m := by
  unfold prA
  rw [List.map_append]
  obtain ⟨a, b, d, e, h1, h2⟩ := star2.1 h
  refine star_append.2 ⟨a, b, d, e, h1, ?_⟩
  exact ⟨b, emp, disj_emp _, (un_emp _).symm, h2, rfl⟩
/-- a cell more, with its pairs -/
theorem cl_snoc {cd : D} {ys : List CS} {y : CS} {R : List Asr} : Ent (slA 8 csv cd (ys ++ [y]) :: prA ys :: slA 6 pv y.d y.c.pairs :: R) (clA cd (ys ++ [y]) :: R) := ent_of fun m h => by
  obtain ⟨a, b, d, rfl, h1, h2⟩ := h
  have h2 : star ([prA ys, slA 6 pv y.d y.c.pairs] ++ R) b := h2
  obtain ⟨c, e, d2, rfl, h3, h4⟩ := star_append.1 h2
  refine ⟨a.un c, e, ?_, (un_assoc _ _ _).symm, star2.2 ⟨a, c, (disj_un.1 d).1, rfl, h1, prA_snoc h3⟩, h4⟩
  exact disj_un'.2 ⟨(disj_un.1 d).2, d2⟩
theorem cl_nil {R : List Asr} {d : D} : Ent (slA 8 csv d [] :: R) (clA d [] :: R) := ent_h fun m h => star2.2 ⟨m, emp, disj_emp _, (un_emp _).symm, h, rfl⟩
theorem Has.sls {m : Mem} {x : HX} (h : Has m x.body) : Sl m 3 wv (.slice x.rd.a x.regs.length x.rd.cap) x.regs ∧ Sl m 1 iv (.slice x.gd.a x.gray.length x.gd.cap) x.gray ∧ ∀ y, y ∈ x.xs → Sl m 6 pv (.slice y.d.a y.c.pairs.length y.d.cap) y.c.pairs :=
  ⟨h.b.regs, h.b.gray, h.b.cl.ps⟩
/-- the copy's header -/
def twH (x : HX) (rd gd cd : D) (nc : Nat) : Hdr := ⟨x.room, x.used, x.born, rd, x.regs.length, cd, nc, x.phase, x.hand, x.sub, gd, x.gray.length, x.per, x.start, x.rounds, x.forced⟩
theorem twin_a {m : Mem} {x : HX} (h : Has m x.body) (h1 : R1 x.H) (h2 : R2 x.H) : FnA Try.prog 119 [x.v] [ro m] (fun v As => ∃ b, ∃ y : HX, v = ptr b ∧ As = hp b y ++ [ro m] ∧ y.H = x.H) := by
  have hb0 := h.b
  have hl := x.len
  have g1 : x.regs.length = 16 := h1.regs
  have g2 := h1.room
  have g3 := h1.cells
  have g4 : x.gray.length ≤ x.H.cells.length := h1.gray
  refine fnA_of (fun h => fn119 (by simp) h) ?_
  refine v_seq (v_reg (a_nwh x rfl (fun b => ?_)))
  repeat' (first
    | (refine k_L ?_; first | refine a_p rfl ?_ | (refine k_l ?_; refine g_l rfl ?_) | (refine a_ns (f := wv) [] (fun _ => rfl) rfl rfl rfl (by omega) (fun e he => ?_); obtain ⟨ea, ec⟩ := e; simp only at he; subst he))
    | refine a_n ?_
    | (refine k_V ?_; first | refine v_seq ?_ | refine v_reg ?_))
  refine a_as (f := wv) (xs := []) (zs := x.regs) (e := ⟨ea, 0⟩) (g := x.rd) (by (fail_if_success apply pk_bad); (repeat (first | exact pk_h | apply pk_t)); fail_if_success focus skip) wv_len (by omega) rfl rfl (fun m' hm' => (has_g h hm').sls.1) (plain_flat (fun _ => rfl) _) (by simp; omega) (fun rd => ?_)
  repeat' (first
    | (refine k_L ?_; first | refine a_p rfl ?_ | (refine k_l ?_; refine g_l rfl ?_) | (refine k_st ?_; refine g_st rfl rfl rfl rfl ?_) | (refine a_ns (f := iv) [] (fun _ => rfl) rfl rfl rfl (by omega) (fun e he => ?_); obtain ⟨fa, fc⟩ := e; simp only at he; subst he))
    | refine a_n ?_
    | (refine k_V ?_; first | refine v_seq ?_ | refine v_reg ?_))
  refine a_as (f := iv) (xs := []) (zs := x.gray) (e := ⟨fa, 0⟩) (g := x.gd) (by (fail_if_success apply pk_bad); (repeat (first | exact pk_h | apply pk_t)); fail_if_success focus skip) iv_len (by omega) rfl rfl (fun m' hm' => (has_g h hm').sls.2.1) (plain_flat (fun _ => rfl) _) (by simp; omega) (fun gd => ?_)
  repeat' (first
    | (refine k_L ?_; first | refine a_p rfl ?_ | (refine k_l ?_; refine g_l rfl ?_) | (refine k_st ?_; refine g_st rfl rfl rfl rfl ?_))
    | refine a_n ?_
    | (refine k_V ?_; first | refine v_seq ?_ | refine v_reg ?_))
  refine a_mk (f := csv) (n := 0) (k := (x.xs.length : Int)) ⟨Cell.zero, none, 0⟩ csv_len rfl rfl rfl (by omega) (by omega) (fun cd hcd => ?_)
  repeat' (first
    | (refine k_L ?_; first | refine a_p rfl ?_ | (refine k_st ?_; refine g_st rfl rfl rfl rfl ?_))
    | refine a_n ?_
    | (refine k_V ?_; first | refine v_seq ?_ | refine v_reg ?_)
    | refine s_n ?_)
  refine VA.ent (Bs := [hdA b (twH x rd gd cd 0), slA 3 wv rd x.regs, slA 1 iv gd x.gray, clA cd [], ro m]) ?_ ?_
  · refine Ent.trans (Pm.ent (As1 := [slA 8 csv cd [], hdA b (twH x rd gd cd 0), slA 3 wv rd x.regs, slA 1 iv gd x.gray, ro m]) (by (fail_if_success apply pm_bad); (repeat (first | exact pm_nil | (apply pm_cons; repeat (first | exact pk_h | apply pk_t)))); fail_if_success focus skip)) ?_
    exact cl_nil.trans (Pm.ent (by (fail_if_success apply pm_bad); (repeat (first | exact pm_nil | (apply pm_cons; repeat (first | exact pk_h | apply pk_t)))); fail_if_success focus skip))
  refine g_range x.xs.length (fun q : List CS × D => [(1, .v (ptr b)), (22, .v (.slice x.cd.a x.xs.length x.cd.cap))]) (fun q => [hdA b (twH x rd gd q.2 q.1.length), slA 3 wv rd x.regs, slA 1 iv gd x.gray, clA q.2 q.1, ro m]) (fun i q => q.1.length = i ∧ q.1.map (·.c) = (x.xs.take i).map (·.c)) (([], cd) : List CS × D) ⟨rfl, rfl⟩ (fun i q hi hv => ?_) (fun q hv => ?_)
  · obtain ⟨ys, cd⟩ := q
    obtain ⟨hv1, hv2⟩ := hv
    simp only at hv1 hv2
    obtain ⟨y, gy, gc⟩ := HX.at hi
    have hym : y ∈ x.xs := List.mem_of_getElem? gy
    have hpl := h2.pl (List.mem_of_getElem? gc)
    repeat' (first
      | (refine k_L ?_; first | refine a_p rfl ?_ | (refine k_i ?_; refine g_i rfl rfl ?_) | (refine k_ls ?_; refine g_ls rfl ?_) | (refine k_st ?_; refine g_sw rfl rfl rfl rfl (Nat.le_of_ble_eq_true rfl) ?_) | (refine k_al ?_; refine a_al ?_) | (refine a_ns (f := pv) [] (fun _ => rfl) rfl rfl rfl (by omega) (fun e he => ?_); obtain ⟨pa, pc⟩ := e; simp only at he; subst he))
      | refine a_n ?_
      | (refine k_V ?_; first | refine v_seq ?_ | refine v_reg ?_)
      | refine sk_zero ?_
      | refine sk_succ ?_
      | refine wk_nil ?_
      | refine wk_cons ?_)
    refine a_as (f := pv) (xs := []) (zs := y.c.pairs) (e := ⟨pa, 0⟩) (g := y.d) (by (fail_if_success apply pk_bad); (repeat (first | exact pk_h | apply pk_t)); fail_if_success focus skip) pv_len (by omega) rfl rfl (fun m' hm' => (has_g h hm').sls.2.2 y hym) (plain_flat (fun _ => rfl) _) (by simp; omega) (fun pd => ?_)
    repeat' (first
      | (refine k_L ?_; first | refine a_p rfl ?_ | (refine k_l ?_; refine g_l rfl ?_) | (refine k_st ?_; refine g_sw rfl rfl rfl rfl (Nat.le_of_ble_eq_true rfl) ?_) | (refine k_bl ?_; refine a_bl rfl ?_))
      | refine a_n ?_
      | (refine k_V ?_; refine v_reg ?_)
      | refine sk_zero ?_
      | refine sk_succ ?_
      | refine wk_nil ?_
      | refine wk_cons ?_)
    refine LA.ent (Bs := [slA 8 csv cd ys, prA ys, slA 6 pv pd y.c.pairs, hdA b (twH x rd gd cd ys.length), slA 3 wv rd x.regs, slA 1 iv gd x.gray, ro m]) ?_ ?_
    · refine Ent.trans (Pm.ent (As1 := [clA cd ys, slA 6 pv pd y.c.pairs, hdA b (twH x rd gd cd ys.length), slA 3 wv rd x.regs, slA 1 iv gd x.gray, ro m]) (by (fail_if_success apply pm_bad); (repeat (first | exact pm_nil | (apply pm_cons; repeat (first | exact pk_h | apply pk_t)))); fail_if_success focus skip)) ?_
      exact cl_open.trans (Pm.ent (by (fail_if_success apply pm_bad); (repeat (first | exact pm_nil | (apply pm_cons; repeat (first | exact pk_h | apply pk_t)))); fail_if_success focus skip))
    repeat' (first
      | (refine k_L ?_; first | (refine k_ad ?_; refine g_ad rfl rfl ?_) | (refine k_su ?_; refine g_su rfl rfl ?_) | (refine k_ml ?_; refine g_ml rfl rfl ?_) | refine a_p rfl ?_ | (refine k_g ?_; first | refine a_gy rfl rfl ?_ | refine a_gn rfl rfl ?_ | refine a_gu rfl ?_ | (refine a_gd rfl (fun hb => ?_) (fun hb => ?_) <;> try (exfalso; omega)) | (refine a_ge rfl (fun hb => ?_) (fun hb => ?_) <;> try (exfalso; omega)) | (refine a_gne rfl (fun hb => ?_) (fun hb => ?_) <;> try (exfalso; omega)) | (refine a_gnd rfl (fun hb => ?_) (fun hb => ?_) <;> try (exfalso; omega))) | (refine k_l ?_; refine g_l rfl ?_) | (refine k_i ?_; refine g_i rfl rfl ?_) | (refine k_ls ?_; refine g_ls rfl ?_) | (refine k_st ?_; first | refine g_st rfl rfl rfl rfl ?_ | refine g_sw rfl rfl rfl rfl (Nat.le_of_ble_eq_true rfl) ?_) | (refine k_al ?_; refine a_al ?_) | (refine k_bx ?_; refine a_bx rfl rfl ?_) | (refine k_bl ?_; refine a_bl rfl ?_) | (refine k_p ?_; first | (refine a_pd rfl (fun hb => ?_) (fun hb => ?_) <;> try (exfalso; omega)) | (refine a_pe rfl (fun hb => ?_) (fun hb => ?_) <;> try (exfalso; omega)) | (refine a_pne rfl (fun hb => ?_) (fun hb => ?_) <;> try (exfalso; omega)) | (refine a_pnd rfl (fun hb => ?_) (fun hb => ?_) <;> try (exfalso; omega))))
      | refine a_n ?_
      | (refine k_V ?_; first | refine v_rv ?_ | refine v_seq ?_ | refine v_reg ?_ | refine v_dreg ?_ | refine v_zreg ?_ | refine v_bs ?_ | refine v_br ?_ | refine v_bd ?_ | refine v_bc ?_ | refine v_bk ?_ | refine v_bb ?_ | refine v_ret ?_ | refine v_exit ?_ | refine v_skip ?_ | refine v_ct rfl ?_ | refine v_cf rfl ?_ | (refine v_cd rfl (fun hb => ?_) (fun hb => ?_) <;> try (exfalso; omega)) | (refine v_ce rfl (fun hb => ?_) (fun hb => ?_) <;> try (exfalso; omega)) | (refine v_cn rfl (fun hb => ?_) (fun hb => ?_) <;> try (exfalso; omega)) | (refine v_cnd rfl (fun hb => ?_) (fun hb => ?_) <;> try (exfalso; omega)))
      | refine s_n ?_
      | refine s_r ?_
      | refine s_e ?_
      | refine b_n ?_
      | refine b_r ?_
      | refine b_e ?_
      | refine b_o rfl ?_
      | refine r_rt ?_
      | refine r_bk rfl ?_
      | refine r_ex rfl rfl ?_
      | refine sk_zero ?_
      | refine sk_succ ?_
      | refine wk_nil ?_
      | refine wk_cons ?_)
    refine g_ap (⟨y.c, pd.a, pd.cap⟩ : CS) csv_len rfl rfl rfl (by omega) (hb := by first | omega | (simp only; omega)) (fun cd' => ?_)
    repeat' (first
      | (refine k_L ?_; first | refine a_p rfl ?_ | (refine k_st ?_; refine g_st rfl rfl rfl rfl ?_))
      | refine a_n ?_)
    refine r_nx ((ys ++ [(⟨y.c, pd.a, pd.cap⟩ : CS)], cd') : List CS × D) ⟨by simp [hv1], ?_⟩ (he := ?_)
    · rw [List.map_append, hv2, List.take_add_one, gy]; simp
    · refine Ent.trans (Pm.ent (As1 := [slA 8 csv cd' (ys ++ [(⟨y.c, pd.a, pd.cap⟩ : CS)]), prA ys, slA 6 pv pd y.c.pairs, hdA b (twH x rd gd cd' (ys ++ [(⟨y.c, pd.a, pd.cap⟩ : CS)]).length), slA 3 wv rd x.regs, slA 1 iv gd x.gray, ro m]) (by (fail_if_success apply pm_bad); (repeat (first | exact pm_nil | (apply pm_cons; repeat (first | exact pk_h | apply pk_t)))); fail_if_success focus skip)) ?_
      exact (cl_snoc (y := ⟨y.c, pd.a, pd.cap⟩)).trans (Pm.ent (by (fail_if_success apply pm_bad); (repeat (first | exact pm_nil | (apply pm_cons; repeat (first | exact pk_h | apply pk_t)))); fail_if_success focus skip))
  · obtain ⟨ys, cd⟩ := q
    obtain ⟨hv1, hv2⟩ := hv
    simp only at hv1 hv2
    rw [List.take_of_length_le (Nat.le_refl _)] at hv2
    repeat' (first
      | (refine k_L ?_; refine a_p rfl ?_)
      | refine a_n ?_
      | (refine k_V ?_; first | refine v_seq ?_ | refine v_reg ?_ | refine v_ret ?_))
    refine fa_r (As' := hp b (⟨x.room, x.used, x.born, x.regs, ys, x.phase, x.hand, x.sub, x.gray, x.per, x.start, x.rounds, x.forced, rd, cd, gd⟩ : HX) ++ [ro m]) (fun _ _ => rfl) (Pm.ent (by (fail_if_success apply pm_bad); (repeat (first | exact pm_nil | (apply pm_cons; repeat (first | exact pk_h | apply pk_t)))); fail_if_success focus skip)) ⟨b, _, rfl, rfl, ?_⟩
    unfold HX.H
    simp only [hv2]
theorem up_all {b : Nat} {vs ws : List Value} (h : ws.length = vs.length) : UpA (bx b vs) b 0 ws (bx b ws) := up_bx (by omega) ⟨by rw [wr_all _ _ h.symm]⟩
theorem u_rd0 {a : Nat} {h : Hdr} : UpA (hdA a h) a 3 [.slice none 0 0] (hdA a (h.s_rd ⟨none, 0⟩ 0)) := u_rd (d := ⟨none, 0⟩)
theorem u_cd0 {a : Nat} {h : Hdr} : UpA (hdA a h) a 4 [.slice none 0 0] (hdA a (h.s_cd ⟨none, 0⟩ 0)) := u_cd (d := ⟨none, 0⟩)
theorem u_gd0 {a : Nat} {h : Hdr} : UpA (hdA a h) a 8 [.slice none 0 0] (hdA a (h.s_gd ⟨none, 0⟩ 0)) := u_gd (d := ⟨none, 0⟩)
def cpH (x : HX) (rd : D) (nr : Nat) (cd : D) (nc : Nat) (gd : D) (ng : Nat) : Hdr := ⟨x.room, x.used, x.born, rd, nr, cd, nc, x.phase, x.hand, x.sub, gd, ng, x.per, x.start, x.rounds, x.forced⟩
theorem l1copy_a {m : Mem} {x : HX} (h : Has m x.body) (h1 : R1 x.H) (h2 : R2 x.H) : FnA Try.prog 117 [x.v] [ro m] (fun v As => ∃ b, ∃ y : HX, v = ptr b ∧ As = hp b y ++ [ro m] ∧ y.H = x.H) := by
  have hl := x.len
  have g1 : x.regs.length = 16 := h1.regs
  have g2 := h1.room
  have g3 := h1.cells
  have g4 : x.gray.length ≤ x.H.cells.length := h1.gray
  refine fnA_of (fun h => fn117 (by simp) h) ?_
  repeat' (first
    | (refine k_L ?_; first | refine a_p rfl ?_ | (refine k_bx ?_; refine a_bx rfl rfl ?_) | (refine a_nz (fun b => ?_)))
    | refine a_n ?_
    | (refine k_V ?_; first | refine v_seq ?_ | refine v_reg ?_))
  refine a_st (As' := [bx b x.row, ro m]) rfl rfl rfl rfl (up_h (up_all rfl)) ?_
  refine LA.ent (Bs := [hdA b x.hdr, ro m]) (Ent.refl _) ?_
  repeat' (first
    | (refine k_L ?_; first | refine a_p rfl ?_ | (refine a_st rfl rfl rfl rfl (by exact up_h u_rd0) ?_))
    | refine a_n ?_
    | (refine k_V ?_; first | refine v_seq ?_ | refine v_reg ?_)
    | refine s_n ?_)
  refine VA.ent (ent_new (f := wv) (size := 3)) ?_
  refine g_range x.regs.length (fun q : List Word × D => [(1, .box x.row), (3, .v (ptr b)), (16, .v (.slice x.rd.a x.regs.length x.rd.cap))]) (fun q => [hdA b (cpH x q.2 q.1.length x.cd x.xs.length x.gd x.gray.length), slA 3 wv q.2 q.1, ro m]) (fun i q => q.1 = x.regs.take i) (([], ⟨none, 0⟩) : List Word × D) rfl (fun i q hi hv => ?_) (fun q hv => ?_)
  · obtain ⟨ws, rd⟩ := q
    simp only at hv
    subst hv
    obtain ⟨w, gw⟩ : ∃ w, x.regs[i]? = some w := ⟨_, List.getElem?_eq_getElem hi⟩
    repeat' (first
      | (refine k_L ?_; first | refine a_p rfl ?_ | (refine k_l ?_; refine g_l rfl ?_) | (refine k_i ?_; refine g_i rfl rfl ?_) | (refine k_ls ?_; refine g_ls rfl ?_) | (refine k_st ?_; refine g_sw rfl rfl rfl rfl (Nat.le_of_ble_eq_true rfl) ?_) | (refine k_al ?_; refine a_al ?_) | (refine k_bl ?_; refine a_bl rfl ?_))
      | refine a_n ?_
      | (refine k_V ?_; first | refine v_seq ?_ | refine v_reg ?_)
      | refine sk_zero ?_
      | refine sk_succ ?_
      | refine wk_nil ?_
      | refine wk_cons ?_)
    refine g_ap w wv_len rfl rfl rfl (by omega) (hb := by simp only [List.length_take]; omega) (fun rd' => ?_)
    repeat' (first
      | (refine k_L ?_; first | refine a_p rfl ?_ | (refine k_st ?_; refine g_st rfl rfl rfl rfl ?_))
      | refine a_n ?_)
    exact r_nx ((x.regs.take i ++ [w], rd') : List Word × D) (by rw [List.take_add_one, gw]; rfl)
  obtain ⟨ws, rd⟩ := q
  simp only [List.take_of_length_le (Nat.le_refl _)] at hv
  subst hv
  repeat' (first
    | (refine k_L ?_; first | refine a_p rfl ?_ | (refine a_st rfl rfl rfl rfl (by exact up_h u_cd0) ?_))
    | refine a_n ?_
    | (refine k_V ?_; first | refine v_seq ?_ | refine v_reg ?_)
    | refine s_n ?_)
  refine VA.ent (ent_new (f := csv) (size := 8)) ?_
  refine VA.ent (cl_nil (d := ⟨none, 0⟩)) ?_
  refine g_range x.xs.length (fun q : List CS × D => [(1, .box x.row), (3, .v (ptr b)), (31, .v (.slice x.cd.a x.xs.length x.cd.cap))]) (fun q => [hdA b (cpH x rd x.regs.length q.2 q.1.length x.gd x.gray.length), slA 3 wv rd x.regs, clA q.2 q.1, ro m]) (fun i q => q.1.length = i ∧ q.1.map (·.c) = (x.xs.take i).map (·.c)) (([], ⟨none, 0⟩) : List CS × D) ⟨rfl, rfl⟩ (fun i q hi hv => ?_) (fun q hv => ?_)
  · obtain ⟨ys, cd⟩ := q
    obtain ⟨hv1, hv2⟩ := hv
    simp only at hv1 hv2
    obtain ⟨y, gy, gc⟩ := HX.at hi
    have hpl := h2.pl (List.mem_of_getElem? gc)
    repeat' (first
      | (refine k_L ?_; first | refine a_p rfl ?_ | (refine k_i ?_; refine g_i rfl rfl ?_) | (refine k_ls ?_; refine g_ls rfl ?_) | (refine k_st ?_; refine g_sw rfl rfl rfl rfl (Nat.le_of_ble_eq_true rfl) ?_) | (refine k_al ?_; refine a_al ?_))
      | refine a_n ?_
      | (refine k_V ?_; first | refine v_seq ?_ | refine v_reg ?_)
      | refine s_n ?_
      | refine sk_zero ?_
      | refine sk_succ ?_
      | refine wk_nil ?_
      | refine wk_cons ?_)
    refine VA.ent (Bs := [slA 8 csv cd ys, prA ys, hdA b (cpH x rd x.regs.length cd ys.length x.gd x.gray.length), slA 3 wv rd x.regs, ro m]) ?_ ?_
    · refine Ent.trans (Pm.ent (As1 := [clA cd ys, hdA b (cpH x rd x.regs.length cd ys.length x.gd x.gray.length), slA 3 wv rd x.regs, ro m]) (by (fail_if_success apply pm_bad); (repeat (first | exact pm_nil | (apply pm_cons; repeat (first | exact pk_h | apply pk_t)))); fail_if_success focus skip)) ?_
      exact cl_open.trans (Pm.ent (by (fail_if_success apply pm_bad); (repeat (first | exact pm_nil | (apply pm_cons; repeat (first | exact pk_h | apply pk_t)))); fail_if_success focus skip))
    refine VA.ent (ent_new (f := pv) (size := 6)) ?_
    refine g_range y.c.pairs.length (fun q : List Pair × D => [(1, .box x.row), (3, .v (ptr b)), (31, .v (.slice x.cd.a x.xs.length x.cd.cap)), (33, .v (.int .i64 i)), (32, .v (.int .i64 x.xs.length)), (8, .box [.int .i64 y.c.state, .int .i64 y.c.kind, .int .i64 y.c.weak, .int .i64 y.c.last, .int .i64 y.c.born, .int .i64 y.c.color, .int .i64 y.c.to, .slice q.2.a q.1.length q.2.cap]), (40, .v (.slice y.d.a y.c.pairs.length y.d.cap))]) (fun q => [slA 6 pv q.2 q.1, slA 8 csv cd ys, prA ys, hdA b (cpH x rd x.regs.length cd ys.length x.gd x.gray.length), slA 3 wv rd x.regs, ro m]) (fun k q => q.1 = y.c.pairs.take k) (([], ⟨none, 0⟩) : List Pair × D) rfl (fun k q hk hw => ?_) (fun q hw => ?_)
    · obtain ⟨ps, pd⟩ := q
      simp only at hw
      subst hw
      obtain ⟨p, gp⟩ : ∃ p, y.c.pairs[k]? = some p := ⟨_, List.getElem?_eq_getElem hk⟩
      repeat' (first
        | (refine k_L ?_; first | refine a_p rfl ?_ | (refine k_i ?_; refine g_i rfl rfl ?_) | (refine k_ls ?_; refine g_ls rfl ?_) | (refine k_st ?_; refine g_sw rfl rfl rfl rfl (Nat.le_of_ble_eq_true rfl) ?_) | (refine k_al ?_; refine a_al ?_) | (refine k_bl ?_; refine a_bl rfl ?_))
        | refine a_n ?_
        | (refine k_V ?_; first | refine v_seq ?_ | refine v_reg ?_)
        | refine sk_zero ?_
        | refine sk_succ ?_
        | refine wk_nil ?_
        | refine wk_cons ?_)
      refine g_ap p pv_len rfl rfl rfl (by omega) (hb := by simp only [List.length_take]; omega) (fun pd' => ?_)
      repeat' (first
        | (refine k_L ?_; first | refine a_p rfl ?_ | (refine k_st ?_; refine g_sw rfl rfl rfl rfl (Nat.le_of_ble_eq_true rfl) ?_))
        | refine a_n ?_
        | refine sk_zero ?_
        | refine sk_succ ?_
        | refine wk_nil ?_
        | refine wk_cons ?_)
      exact r_nx ((y.c.pairs.take k ++ [p], pd') : List Pair × D) (by rw [List.take_add_one, gp]; rfl)
    obtain ⟨ps, pd⟩ := q
    simp only [List.take_of_length_le (Nat.le_refl _)] at hw
    subst hw
    repeat' (first
      | (refine k_L ?_; first | refine a_p rfl ?_ | (refine k_l ?_; refine g_l rfl ?_) | (refine k_bl ?_; refine a_bl rfl ?_))
      | refine a_n ?_
      | (refine k_V ?_; refine v_reg ?_))
    refine g_ap (⟨y.c, pd.a, pd.cap⟩ : CS) csv_len rfl rfl rfl (by omega) (hb := by first | omega | (simp only; omega)) (fun cd' => ?_)
    repeat' (first
      | (refine k_L ?_; first | refine a_p rfl ?_ | (refine k_st ?_; refine g_st rfl rfl rfl rfl ?_))
      | refine a_n ?_)
    refine r_nx ((ys ++ [(⟨y.c, pd.a, pd.cap⟩ : CS)], cd') : List CS × D) ⟨by simp [hv1], ?_⟩ (he := ?_)
    · rw [List.map_append, hv2, List.take_add_one, gy]; simp
    · refine Ent.trans (Pm.ent (As1 := [slA 8 csv cd' (ys ++ [(⟨y.c, pd.a, pd.cap⟩ : CS)]), prA ys, slA 6 pv pd y.c.pairs, hdA b (cpH x rd x.regs.length cd' (ys ++ [(⟨y.c, pd.a, pd.cap⟩ : CS)]).length x.gd x.gray.length), slA 3 wv rd x.regs, ro m]) (by (fail_if_success apply pm_bad); (repeat (first | exact pm_nil | (apply pm_cons; repeat (first | exact pk_h | apply pk_t)))); fail_if_success focus skip)) ?_
      exact (cl_snoc (y := ⟨y.c, pd.a, pd.cap⟩)).trans (Pm.ent (by (fail_if_success apply pm_bad); (repeat (first | exact pm_nil | (apply pm_cons; repeat (first | exact pk_h | apply pk_t)))); fail_if_success focus skip))
  obtain ⟨ys, cd⟩ := q
  obtain ⟨hv1, hv2⟩ := hv
  simp only at hv1 hv2
  rw [List.take_of_length_le (Nat.le_refl _)] at hv2
  repeat' (first
    | (refine k_L ?_; first | refine a_p rfl ?_ | (refine a_st rfl rfl rfl rfl (by exact up_h u_gd0) ?_))
    | refine a_n ?_
    | (refine k_V ?_; first | refine v_seq ?_ | refine v_reg ?_)
    | refine s_n ?_)
  refine VA.ent (ent_new (f := iv) (size := 1)) ?_
  refine g_range x.gray.length (fun q : List Int × D => [(1, .box x.row), (3, .v (ptr b)), (62, .v (.slice x.gd.a x.gray.length x.gd.cap))]) (fun q => [hdA b (cpH x rd x.regs.length cd ys.length q.2 q.1.length), slA 3 wv rd x.regs, clA cd ys, slA 1 iv q.2 q.1, ro m]) (fun i q => q.1 = x.gray.take i) (([], ⟨none, 0⟩) : List Int × D) rfl (fun i q hi hv => ?_) (fun q hv => ?_)
  · obtain ⟨ws, gd⟩ := q
    simp only at hv
    subst hv
    obtain ⟨w, gw⟩ : ∃ w, x.gray[i]? = some w := ⟨_, List.getElem?_eq_getElem hi⟩
    repeat' (first
      | (refine k_L ?_; first | refine a_p rfl ?_ | (refine k_l ?_; refine g_l rfl ?_) | (refine k_i ?_; refine g_i rfl rfl ?_) | (refine k_bl ?_; refine a_bl rfl ?_))
      | refine a_n ?_
      | (refine k_V ?_; first | refine v_seq ?_ | refine v_reg ?_))
    refine g_ap w iv_len rfl rfl rfl (by omega) (hb := by simp only [List.length_take]; omega) (fun gd' => ?_)
    repeat' (first
      | (refine k_L ?_; first | refine a_p rfl ?_ | (refine k_st ?_; refine g_st rfl rfl rfl rfl ?_))
      | refine a_n ?_)
    exact r_nx ((x.gray.take i ++ [w], gd') : List Int × D) (by rw [List.take_add_one, gw]; rfl)
  obtain ⟨ws, gd⟩ := q
  simp only [List.take_of_length_le (Nat.le_refl _)] at hv
  subst hv
  repeat' (first
    | (refine k_L ?_; refine a_p rfl ?_)
    | refine a_n ?_
    | (refine k_V ?_; first | refine v_seq ?_ | refine v_reg ?_ | refine v_ret ?_))
  refine fa_r (As' := hp b (⟨x.room, x.used, x.born, x.regs, ys, x.phase, x.hand, x.sub, x.gray, x.per, x.start, x.rounds, x.forced, rd, cd, gd⟩ : HX) ++ [ro m]) (fun _ _ => rfl) (Pm.ent (by (fail_if_success apply pm_bad); (repeat (first | exact pm_nil | (apply pm_cons; repeat (first | exact pk_h | apply pk_t)))); fail_if_success focus skip)) ⟨b, _, rfl, rfl, ?_⟩
  unfold HX.H
  simp only [hv2]
end Go.Proofs.Ytcmllambknfleaa.E
set_option linter.unusedVariables false
set_option linter.unusedSimpArgs false
set_option maxHeartbeats 8000000
set_option maxRecDepth 100000
namespace Go.Proofs.Ytcmllambknfleaa.E
open Go
open Classical
theorem pairsN_units {H : Heap} (h : R2 H) : pairsN H.cells ≤ unitsN H.cells := by
  have key : ∀ cs : List Cell, (∀ c, c ∈ cs → c.state ≠ 1 → c.pairs = []) → pairsN cs ≤ unitsN cs := by
    intro cs
    induction cs with
    | nil => intro _; simp [pairsN, unitsN]
    | cons c r ih =>
      intro h
      have h1 := ih (fun d hd => h d (by simp [hd]))
      simp only [pairsN, unitsN, List.map_cons, List.sum_cons] at h1 ⊢
      by_cases e : c.state = 1
      · have : c.units = 1 + c.pairs.length := by unfold Cell.units; rw [if_pos e]
        omega
      · have h2 := h c (by simp) e
        have : c.units = 0 := by unfold Cell.units; rw [if_neg e]
        rw [h2]; simp only [List.length_nil]; omega
  exact key _ fun c hc hu => by
    obtain ⟨i, hi⟩ := List.getElem?_of_mem hc
    exact (h.bare hi hu).2.2.2.2.2
theorem HX.gc {x : HX} {i : Nat} {y : CS} (hi : x.xs[i]? = some y) : x.H.getC i = y.c := getC_nat (by show (x.xs.map (·.c))[i]? = _; rw [List.getElem?_map, hi]; rfl)
theorem shade_H {x : HX} {i : Nat} {y : CS} {e : D} : (x.shade i y e).H = x.H.gray1 i y.c := by
  unfold HX.shade HX.H Heap.gray1
  simp only [List.map_set]
  rfl
theorem shadeH_a {a : Nat} {x : HX} {i : Nat} (hi : i < x.xs.length) (hg : x.gray.length ≤ 1000000) : FnA Try.prog 120 [ptr a, .int .i64 i] (hp a x) (fun v As => ∃ z : HX, As = hp a z ∧ z.H = x.H.shadeH i ∧ z.rd = x.rd) := by
  obtain ⟨y, gy, _⟩ := HX.at hi
  refine (shade_a gy hg).mono fun v As ⟨z, h1, h2⟩ => ⟨z, h1, ?_⟩
  unfold Heap.shadeH
  rw [HX.gc gy]
  split at h2
  · rename_i c
    obtain ⟨e, rfl⟩ := h2
    rw [if_pos c]; exact ⟨shade_H, rfl⟩
  · rename_i c
    subst h2
    rw [if_neg c]; exact ⟨rfl, rfl⟩
theorem l3marking_q {m : Mem} {a : Nat} {x : HX} (h : Has m (hp a x)) : Qt Try.prog 154 [ptr a] m (.bool (decide (Marking x.H))) := by
  refine qt_of (fnA_of (fun h => fn154 (by simp) h) ?_)
  have e : x.hdr.phase = x.H.phase := rfl
  repeat' (first
    | (refine k_L ?_; first | refine a_p rfl ?_ | (refine k_g ?_; first | refine a_gy rfl rfl ?_ | refine a_gn rfl rfl ?_ | (refine a_gd rfl (fun hb => ?_) (fun hb => ?_) <;> try (exfalso; omega))) | (refine k_l ?_; refine g_l rfl ?_))
    | refine a_n ?_
    | (refine k_V ?_; first | refine v_seq ?_ | refine v_reg ?_ | refine v_ret ?_))
  all_goals first
    | exact q_T (.inl (by omega))
    | exact q_T (.inr (by omega))
    | exact q_F (fun h => by rcases h with h | h <;> omega)
    | (refine q_B (fun _ _ => rfl) ?_; simp [Marking]; omega)
theorem l3shade_a {a : Nat} {x : HX} {w : Word} (hf : w.kind = 2 → 0 ≤ w.at_ ∧ w.at_ < x.H.cells.length) (hg : x.gray.length ≤ 1000000) :
    FnA Try.prog 118 [ptr a, wa w] (hp a x) (fun v As => ∃ z : HX, v = .bool (decide (Marking x.H ∧ White x.H w)) ∧ As = hp a z ∧ z.H = x.H.shadeW w ∧ z.rd = x.rd) := by
  refine fnA_of (fun h => fn118 (by simp) h) ?_
  have hl := x.len
  unfold Heap.shadeW
  by_cases hk : w.kind = 2
  · have hat := hf hk
    obtain ⟨y, gy, gc⟩ := HX.atI (x := x) hat.1 (by omega)
    have ei : ((w.at_.toNat : Nat) : Int) = w.at_ := by omega
    rw [if_pos hk]
    unfold Heap.shadeH White
    rw [ei, gc]
    repeat' (first
      | (refine k_L ?_; first | refine a_p rfl ?_ | (refine k_g ?_; first | refine a_gy rfl rfl ?_ | refine a_gn rfl rfl ?_ | (refine a_gne rfl (fun hb => ?_) (fun hb => ?_) <;> try (exfalso; omega)) | (refine a_gnd rfl (fun hb => ?_) (fun hb => ?_) <;> try (exfalso; omega))) | (refine k_l ?_; refine g_l rfl ?_) | (refine k_i ?_; refine g_i rfl rfl ?_) | (refine k_st ?_; refine g_st rfl rfl rfl rfl ?_) | (refine k_bx ?_; refine a_bx rfl rfl ?_) | (refine k_bl ?_; refine a_bl rfl ?_) | (refine k_q ?_; refine a_q rfl (fun m hm => l3marking_q (x := x) (sep_has hm (by (fail_if_success apply pm_bad); (repeat (first | exact pm_nil | (apply pm_cons; repeat (first | exact pk_h | apply pk_t)))); fail_if_success focus skip))) ?_) | (refine g_ai rfl rfl (by omega) (fun e' => ?_)))
      | refine a_n ?_
      | (refine k_V ?_; first | refine v_rv ?_ | refine v_seq ?_ | refine v_reg ?_ | refine v_dreg ?_ | refine v_skip ?_ | refine v_ct rfl ?_ | (refine v_cn rfl (fun hb => ?_) (fun hb => ?_) <;> try (exfalso; omega)))
      | refine s_r ?_)
    · refine fa_r (fun _ _ => rfl) (Pm.ent (fin x)) ⟨_, ret_f (fun h => absurd h.1 ‹_›), rfl, by rw [if_neg (fun h => absurd h.1 ‹_›)], rfl⟩
    · refine fa_r (fun _ _ => rfl) (Pm.ent (fin x)) ⟨_, ret_f (fun h => absurd h.2.2 ‹_›), rfl, by rw [if_neg (fun h => absurd h.2 ‹_›)], rfl⟩
    · refine fa_r (fun _ _ => rfl) (Pm.ent (fin (x.shade w.at_.toNat y e') (e4 := by show x.gray ++ [w.at_] = x.gray ++ _; rw [ei]))) ⟨_, ret_t ⟨‹_›, ‹_›, ‹_›⟩, rfl, by rw [if_pos ⟨‹_›, ‹_›⟩]; exact shade_H, rfl⟩
  · rw [if_neg hk]
    repeat' (first
      | (refine k_L ?_; first | refine a_p rfl ?_ | (refine k_g ?_; first | refine a_gy rfl rfl ?_ | refine a_gn rfl rfl ?_ | (refine a_gne rfl (fun hb => ?_) (fun hb => ?_) <;> try (exfalso; omega)) | (refine a_gnd rfl (fun hb => ?_) (fun hb => ?_) <;> try (exfalso; omega))) | (refine k_bx ?_; refine a_bx rfl rfl ?_) | (refine k_q ?_; refine a_q rfl (fun m hm => l3marking_q (x := x) (sep_has hm (by (fail_if_success apply pm_bad); (repeat (first | exact pm_nil | (apply pm_cons; repeat (first | exact pk_h | apply pk_t)))); fail_if_success focus skip))) ?_))
      | refine a_n ?_
      | (refine k_V ?_; first | refine v_rv ?_ | refine v_seq ?_ | refine v_reg ?_ | refine v_dreg ?_ | refine v_ct rfl ?_)
      | refine s_r ?_)
    all_goals refine fa_r (fun _ _ => rfl) (Pm.ent (fin x)) ⟨_, ret_f (fun h => absurd h.2.1 hk), rfl, rfl, rfl⟩
def HX.nil : HX := ⟨0, 0, 0, [], [], 0, 0, 0, [], 0, 0, 0, 0, ⟨none, 0⟩, ⟨none, 0⟩, ⟨none, 0⟩⟩
def Heap.nil : Heap := ⟨0, 0, 0, [], [], 0, 0, 0, [], 0, 0, 0, 0⟩
theorem nil_ent {R : List Asr} : Ent R (HX.nil.body ++ R) := by
  have e1 : Ent R (slA 1 iv ⟨none, 0⟩ [] :: R) := ent_new
  have e2 : Ent (slA 1 iv ⟨none, 0⟩ [] :: R) (slA 8 csv ⟨none, 0⟩ [] :: slA 1 iv ⟨none, 0⟩ [] :: R) := ent_new
  have e3 : Ent (slA 8 csv ⟨none, 0⟩ [] :: slA 1 iv ⟨none, 0⟩ [] :: R) (clA ⟨none, 0⟩ [] :: slA 1 iv ⟨none, 0⟩ [] :: R) := cl_nil
  have e4 : Ent (clA ⟨none, 0⟩ [] :: slA 1 iv ⟨none, 0⟩ [] :: R) (slA 3 wv ⟨none, 0⟩ [] :: clA ⟨none, 0⟩ [] :: slA 1 iv ⟨none, 0⟩ [] :: R) := ent_new
  exact ((e1.trans e2).trans e3).trans e4
/-- a heap given by value, its pieces beside what was there -/
def outA (m : Mem) (K : Heap) (v : Value) (As : List Asr) : Prop := ∃ E, (∃ y : HX, v = y.v ∧ y.H = K ∧ E = y.body) ∧ As = E ++ [ro m]
noncomputable def Heap.shadeA (H : Heap) (i : Int) : Heap := if okH H = 0 ∧ 0 ≤ i ∧ i < H.cells.length ∧ (H.getC i).state = 1 then H.shadeH i.toNat else Heap.nil
theorem implShade_a {m : Mem} {x : HX} {i : Int} (h : Has m x.body) : FnA Try.prog 52 [x.v, .int .i64 i] [ro m] (outA m (x.H.shadeA i)) := by
  unfold Heap.shadeA
  have hl := x.len
  have hnc : x.hdr.nc = x.xs.length := rfl
  refine fnA_of (fun h => fn52 (by simp) h) ?_
  by_cases hS : okH x.H = 0
  · have hs1 := (okH_sound x.H).1 hS
    have b1 := hs1.r1.cells
    have b2 := hs1.r1.room
    by_cases hi : 0 ≤ i ∧ i < x.H.cells.length
    · obtain ⟨k, rfl⟩ := Int.eq_ofNat_of_zero_le hi.1
      obtain ⟨y, gy, gc⟩ := HX.at (x := x) (i := k) (by omega)
      have gk := HX.gc gy
      repeat' (first
        | (refine k_L ?_; first | (refine k_su ?_; refine g_su rfl rfl ?_) | refine a_p rfl ?_ | (refine k_g ?_; first | refine a_gy rfl rfl ?_ | (refine a_gnd rfl (fun hb => ?_) (fun hb => ?_) <;> try (exfalso; omega))) | (refine k_l ?_; refine g_l rfl ?_) | (refine k_i ?_; refine g_i rfl rfl ?_) | (refine k_st ?_; refine g_sw rfl rfl rfl rfl (Nat.le_of_ble_eq_true rfl) ?_) | (refine k_al ?_; refine a_al ?_) | (refine k_bx ?_; refine a_bx rfl rfl ?_) | (refine k_c ?_; first | refine a_cq rfl (fun m hm => qt_e (sound_q (x := x) (has_g h hm)) (congrArg Value.bool (decide_eq_true hS))) ?_ | refine a_cq rfl (fun m hm => impl.withinQ) ?_) | (refine g_c rfl (twin_a h hs1.r1 hs1.r2) (fun v As' hq => ?_); obtain ⟨b, z, rfl, rfl, hz⟩ := hq))
        | refine a_n ?_
        | (refine k_V ?_; first | refine v_seq ?_ | refine v_reg ?_ | refine v_ret ?_ | refine v_skip ?_ | (refine v_cn rfl (fun hb => ?_) (fun hb => ?_) <;> try (exfalso; omega)))
        | refine s_r ?_
        | refine sk_zero ?_
        | refine sk_succ ?_
        | refine wk_nil ?_
        | refine wk_cons ?_)
      · rw [if_neg (fun h => absurd (gk ▸ h.2.2.2) ‹_›)]
        exact fa_r (As' := HX.nil.body ++ [ro m]) (fun _ _ => rfl) nil_ent ⟨_, ⟨HX.nil, rfl, rfl, rfl⟩, rfl⟩
      · have zl : z.xs.length = x.xs.length := by have := z.len; rw [hz] at this; omega
        have zg : z.gray.length ≤ 1000000 := by
          have h1 : z.H.gray.length ≤ z.H.cells.length := by rw [hz]; exact hs1.r1.gray
          have h2 : z.H.gray = z.gray := rfl
          rw [hz] at h1 h2; rw [← h2]; omega
        repeat' (first
          | (refine k_L ?_; first | refine a_p rfl ?_ | (refine k_ls ?_; refine g_ls rfl ?_) | (refine k_st ?_; refine g_sw rfl rfl rfl rfl (Nat.le_of_ble_eq_true rfl) ?_) | (refine g_c rfl (shadeH_a (x := z) (i := k) (by omega) zg) (fun v As' hq => ?_); obtain ⟨u, rfl, hu, _⟩ := hq))
          | refine a_n ?_
          | (refine k_V ?_; first | refine v_seq ?_ | refine v_reg ?_ | refine v_ret ?_)
          | refine sk_zero ?_
          | refine sk_succ ?_
          | refine wk_nil ?_
          | refine wk_cons ?_)
        rw [if_pos ⟨hS, hi.1, hi.2, gk.symm ▸ ‹_›⟩]
        exact fa_r (As' := u.body ++ [ro m]) (fun _ _ => rfl) (Pm.ent (by (fail_if_success apply pm_bad); (repeat (first | exact pm_nil | (apply pm_cons; repeat (first | exact pk_h | apply pk_t)))); fail_if_success focus skip)) ⟨_, ⟨u, rfl, by rw [hu, hz]; rfl, rfl⟩, rfl⟩
    · rw [if_neg (fun h => hi ⟨h.2.1, h.2.2.1⟩)]
      repeat' (first
        | (refine k_L ?_; first | (refine k_su ?_; refine g_su rfl rfl ?_) | refine a_p rfl ?_ | (refine k_g ?_; first | refine a_gy rfl rfl ?_ | refine a_gn rfl rfl ?_ | (refine a_gnd rfl (fun hb => ?_) (fun hb => ?_) <;> try (exfalso; omega))) | (refine k_st ?_; refine g_sw rfl rfl rfl rfl (Nat.le_of_ble_eq_true rfl) ?_) | (refine k_al ?_; refine a_al ?_) | (refine k_bx ?_; refine a_bx rfl rfl ?_) | (refine k_c ?_; first | refine a_cq rfl (fun m hm => qt_e (sound_q (x := x) (has_g h hm)) (congrArg Value.bool (decide_eq_true hS))) ?_ | refine a_cq rfl (fun m hm => impl.withinQ) ?_))
        | refine a_n ?_
        | (refine k_V ?_; first | refine v_seq ?_ | refine v_reg ?_ | refine v_ret ?_ | refine v_ct rfl ?_)
        | refine s_r ?_
        | refine sk_zero ?_
        | refine sk_succ ?_
        | refine wk_nil ?_
        | refine wk_cons ?_)
      all_goals exact fa_r (As' := HX.nil.body ++ [ro m]) (fun _ _ => rfl) nil_ent ⟨_, ⟨HX.nil, rfl, rfl, rfl⟩, rfl⟩
  · rw [if_neg (fun h => hS h.1)]
    repeat' (first
      | (refine k_L ?_; first | refine a_p rfl ?_ | (refine k_g ?_; refine a_gn rfl rfl ?_) | (refine k_st ?_; refine g_sw rfl rfl rfl rfl (Nat.le_of_ble_eq_true rfl) ?_) | (refine k_al ?_; refine a_al ?_) | (refine k_bx ?_; refine a_bx rfl rfl ?_) | (refine k_c ?_; refine a_cq rfl (fun m hm => qt_e (sound_q (x := x) (has_g h hm)) (congrArg Value.bool (decide_eq_false hS))) ?_))
      | refine a_n ?_
      | (refine k_V ?_; first | refine v_seq ?_ | refine v_reg ?_ | refine v_ret ?_ | refine v_ct rfl ?_)
      | refine s_r ?_
      | refine sk_zero ?_
      | refine sk_succ ?_
      | refine wk_nil ?_
      | refine wk_cons ?_)
    exact fa_r (As' := HX.nil.body ++ [ro m]) (fun _ _ => rfl) nil_ent ⟨_, ⟨HX.nil, rfl, rfl, rfl⟩, rfl⟩
theorem specShade_a {m : Mem} {x : HX} {i : Int} (h : Has m x.body) : FnA Try.prog 51 [x.v, .int .i64 i] [ro m] (outA m (x.H.shadeA i)) := by
  unfold Heap.shadeA
  have hl := x.len
  have hnc : x.hdr.nc = x.xs.length := rfl
  refine fnA_of (fun h => fn51 (by simp) h) ?_
  by_cases hS : okH x.H = 0
  · have hs1 := (okH_sound x.H).1 hS
    have b1 := hs1.r1.cells
    have b2 := hs1.r1.room
    by_cases hi : 0 ≤ i ∧ i < x.H.cells.length
    · obtain ⟨k, rfl⟩ := Int.eq_ofNat_of_zero_le hi.1
      obtain ⟨y, gy, gc⟩ := HX.at (x := x) (i := k) (by omega)
      have gk := HX.gc gy
      repeat' (first
        | (refine k_L ?_; first | refine a_p rfl ?_ | (refine k_g ?_; first | refine a_gy rfl rfl ?_ | (refine a_gd rfl (fun hb => ?_) (fun hb => ?_) <;> try (exfalso; omega))) | (refine k_l ?_; refine g_l rfl ?_) | (refine k_i ?_; refine g_i rfl rfl ?_) | (refine k_st ?_; refine g_sw rfl rfl rfl rfl (Nat.le_of_ble_eq_true rfl) ?_) | (refine k_al ?_; refine a_al ?_) | (refine k_bx ?_; refine a_bx rfl rfl ?_) | (refine k_c ?_; refine a_cq rfl (fun m hm => qt_e (specHeapOk_q (x := x) (has_g h hm)) (by rw [hS])) ?_) | (refine g_c rfl (l1copy_a h hs1.r1 hs1.r2) (fun v As' hq => ?_); obtain ⟨b, z, rfl, rfl, hz⟩ := hq))
        | refine a_n ?_
        | (refine k_V ?_; first | refine v_seq ?_ | refine v_reg ?_ | refine v_ret ?_ | refine v_skip ?_ | (refine v_cn rfl (fun hb => ?_) (fun hb => ?_) <;> try (exfalso; omega)))
        | refine s_r ?_
        | refine sk_zero ?_
        | refine sk_succ ?_
        | refine wk_nil ?_
        | refine wk_cons ?_)
      · rw [if_neg (fun h => absurd (gk ▸ h.2.2.2) ‹_›)]
        exact fa_r (As' := HX.nil.body ++ [ro m]) (fun _ _ => rfl) nil_ent ⟨_, ⟨HX.nil, rfl, rfl, rfl⟩, rfl⟩
      · have zl : z.xs.length = x.xs.length := by have := z.len; rw [hz] at this; omega
        have zg : z.gray.length ≤ 1000000 := by
          have h1 : z.H.gray.length ≤ z.H.cells.length := by rw [hz]; exact hs1.r1.gray
          have h2 : z.H.gray = z.gray := rfl
          rw [hz] at h1 h2; rw [← h2]; omega
        repeat' (first
          | (refine k_L ?_; first | refine a_p rfl ?_ | (refine k_ls ?_; refine g_ls rfl ?_) | (refine k_st ?_; refine g_sw rfl rfl rfl rfl (Nat.le_of_ble_eq_true rfl) ?_) | (refine g_c rfl (l3shade_a (x := z) (w := ⟨2, 0, (k : Int)⟩) (fun _ => by rw [hz]; exact hi) zg) (fun v As' hq => ?_); obtain ⟨u, rfl, rfl, hu, _⟩ := hq))
          | refine a_n ?_
          | (refine k_V ?_; first | refine v_seq ?_ | refine v_reg ?_ | refine v_ret ?_)
          | refine sk_zero ?_
          | refine sk_succ ?_
          | refine wk_nil ?_
          | refine wk_cons ?_)
        rw [if_pos ⟨hS, hi.1, hi.2, gk.symm ▸ ‹_›⟩]
        exact fa_r (As' := u.body ++ [ro m]) (fun _ _ => rfl) (Pm.ent (by (fail_if_success apply pm_bad); (repeat (first | exact pm_nil | (apply pm_cons; repeat (first | exact pk_h | apply pk_t)))); fail_if_success focus skip)) ⟨_, ⟨u, rfl, by rw [hu, hz]; rfl, rfl⟩, rfl⟩
    · rw [if_neg (fun h => hi ⟨h.2.1, h.2.2.1⟩)]
      repeat' (first
        | (refine k_L ?_; first | refine a_p rfl ?_ | (refine k_g ?_; first | refine a_gy rfl rfl ?_ | refine a_gn rfl rfl ?_ | (refine a_gd rfl (fun hb => ?_) (fun hb => ?_) <;> try (exfalso; omega))) | (refine k_st ?_; refine g_sw rfl rfl rfl rfl (Nat.le_of_ble_eq_true rfl) ?_) | (refine k_al ?_; refine a_al ?_) | (refine k_bx ?_; refine a_bx rfl rfl ?_) | (refine k_c ?_; refine a_cq rfl (fun m hm => qt_e (specHeapOk_q (x := x) (has_g h hm)) (by rw [hS])) ?_))
        | refine a_n ?_
        | (refine k_V ?_; first | refine v_seq ?_ | refine v_reg ?_ | refine v_ret ?_ | refine v_ct rfl ?_)
        | refine s_r ?_
        | refine sk_zero ?_
        | refine sk_succ ?_
        | refine wk_nil ?_
        | refine wk_cons ?_)
      all_goals exact fa_r (As' := HX.nil.body ++ [ro m]) (fun _ _ => rfl) nil_ent ⟨_, ⟨HX.nil, rfl, rfl, rfl⟩, rfl⟩
  · rw [if_neg (fun h => hS h.1)]
    repeat' (first
      | (refine k_L ?_; first | refine a_p rfl ?_ | (refine k_g ?_; first | refine a_gn rfl rfl ?_ | (refine a_gne rfl (fun hb => ?_) (fun hb => ?_) <;> try (exfalso; omega))) | (refine k_st ?_; refine g_sw rfl rfl rfl rfl (Nat.le_of_ble_eq_true rfl) ?_) | (refine k_al ?_; refine a_al ?_) | (refine k_bx ?_; refine a_bx rfl rfl ?_) | (refine k_c ?_; refine a_cq rfl (fun m hm => specHeapOk_q (x := x) (has_g h hm)) ?_))
      | refine a_n ?_
      | (refine k_V ?_; first | refine v_seq ?_ | refine v_reg ?_ | refine v_ret ?_ | refine v_ct rfl ?_)
      | refine s_r ?_
      | refine sk_zero ?_
      | refine sk_succ ?_
      | refine wk_nil ?_
      | refine wk_cons ?_)
    exact fa_r (As' := HX.nil.body ++ [ro m]) (fun _ _ => rfl) nil_ent ⟨_, ⟨HX.nil, rfl, rfl, rfl⟩, rfl⟩
end Go.Proofs.Ytcmllambknfleaa.E
set_option maxRecDepth 100000
set_option linter.unusedVariables false
namespace Go.Proofs.Ytcmllambknfleaa.E
open Go
noncomputable def e13 : Env := ⟨Try.prog, [2, 6, 7, 8, 12], 74, [(10, 0)]⟩
noncomputable def c13 : C :=
  .seq (.reg [
    ⟨some 2, none, .box true (.tmp 0)⟩,
    ⟨some 4, none, .mov (.const (.bool false))⟩]) (.seq (.reg [
    ⟨some 5, none, .mov (.const (.int .i64 1048576))⟩]) (.seq (.reg [
    ⟨some 13, none, .load false 13 (.tmp 2)⟩,
    ⟨some 14, none, .mov (.tmp 5)⟩,
    ⟨some 15, none, .call 30 [.tmp 13, .tmp 14]⟩,
    ⟨some 5, none, .mov (.tmp 15)⟩]) (.seq (.seq (.reg [
    ⟨some 16, none, .mov (.tmp 5)⟩,
    ⟨some 17, none, .bin .lss (.tmp 16) (.const (.int .i64 0))⟩]) (.cond (.tmp 17) (.seq (.reg [
    ⟨some 4, none, .mov (.const (.bool true))⟩]) (.ret)) (.skip))) (.seq (.reg [
    ⟨some 18, none, .load false 13 (.tmp 2)⟩,
    ⟨some 19, none, .call 32 [.tmp 18]⟩,
    ⟨some 20, none, .mov (.tmp 1)⟩,
    ⟨some 21, none, .call 51 [.tmp 19, .tmp 20]⟩,
    ⟨some 6, none, .alloc true [.int .i64 0, .int .i64 0, .int .i64 0, .slice none 0 0, .slice none 0 0, .int .i64 0, .int .i64 0, .int .i64 0, .slice none 0 0, .int .i64 0, .int .i64 0, .int .i64 0, .int .i64 0]⟩,
    ⟨none, none, .store 13 (.tmp 6) (.tmp 21)⟩]) (.seq (.reg [
    ⟨some 22, none, .load false 13 (.tmp 2)⟩,
    ⟨some 23, none, .call 32 [.tmp 22]⟩,
    ⟨some 7, none, .alloc true [.int .i64 0, .int .i64 0, .int .i64 0, .slice none 0 0, .slice none 0 0, .int .i64 0, .int .i64 0, .int .i64 0, .slice none 0 0, .int .i64 0, .int .i64 0, .int .i64 0, .int .i64 0]⟩,
    ⟨none, none, .store 13 (.tmp 7) (.tmp 23)⟩]) (.seq (.reg [
    ⟨some 24, none, .load false 13 (.tmp 7)⟩,
    ⟨some 25, none, .mov (.tmp 1)⟩,
    ⟨some 26, none, .call 52 [.tmp 24, .tmp 25]⟩,
    ⟨some 8, none, .alloc true [.int .i64 0, .int .i64 0, .int .i64 0, .slice none 0 0, .slice none 0 0, .int .i64 0, .int .i64 0, .int .i64 0, .slice none 0 0, .int .i64 0, .int .i64 0, .int .i64 0, .int .i64 0]⟩,
    ⟨none, none, .store 13 (.tmp 8) (.tmp 26)⟩]) (.seq (.seq (.reg [
    ⟨some 27, none, .load false 13 (.tmp 8)⟩,
    ⟨some 28, none, .load false 13 (.tmp 6)⟩,
    ⟨some 29, none, .call 27 [.tmp 27, .tmp 28]⟩,
    ⟨some 30, none, .not (.tmp 29)⟩]) (.cond (.tmp 30) (.seq (.reg [
    ⟨some 4, none, .mov (.const (.bool false))⟩]) (.ret)) (.skip))) (.seq (.seq (.zreg [31, 32, 33, 34, 35] [
    ⟨some 31, none, .load false 13 (.tmp 7)⟩,
    ⟨some 32, none, .load false 13 (.tmp 2)⟩] [
    ⟨some 33, none, .call 32 [.tmp 32]⟩,
    ⟨some 34, none, .call 27 [.tmp 31, .tmp 33]⟩,
    ⟨some 35, none, .not (.tmp 34)⟩]) (.cond (.tmp 35) (.seq (.reg [
    ⟨some 4, none, .mov (.const (.bool false))⟩]) (.ret)) (.skip))) (.seq (.reg [
    ⟨some 9, none, .mov (.const (.int .i64 1))⟩]) (.seq (.reg [
    ⟨some 36, none, .load false 13 (.tmp 7)⟩,
    ⟨some 37, none, .mov (.tmp 9)⟩,
    ⟨some 38, none, .call 28 [.tmp 36, .tmp 37]⟩,
    ⟨some 9, none, .mov (.tmp 38)⟩]) (.seq (.seq (.reg [
    ⟨some 39, none, .mov (.tmp 9)⟩,
    ⟨some 40, none, .bin .lss (.tmp 39) (.const (.int .i64 0))⟩,
    ⟨some 41, none, .mov (.tmp 40)⟩,
    ⟨some 42, some (41, false), .load false 13 (.tmp 8)⟩,
    ⟨some 43, some (41, false), .load false 13 (.tmp 6)⟩,
    ⟨some 44, some (41, false), .call 27 [.tmp 42, .tmp 43]⟩,
    ⟨some 45, some (41, false), .not (.tmp 44)⟩,
    ⟨some 46, none, .pick (.tmp 41) (.const (.bool true)) (.tmp 45)⟩]) (.cond (.tmp 46) (.seq (.reg [
    ⟨some 4, none, .mov (.const (.bool false))⟩]) (.ret)) (.skip))) (.seq (.reg [
    ⟨some 10, none, .mov (.const (.int .i64 1))⟩]) (.seq (.reg [
    ⟨some 47, none, .load false 13 (.tmp 8)⟩,
    ⟨some 48, none, .mov (.tmp 10)⟩,
    ⟨some 49, none, .call 28 [.tmp 47, .tmp 48]⟩,
    ⟨some 10, none, .mov (.tmp 49)⟩]) (.seq (.reg [
    ⟨some 11, none, .mov (.const (.int .i64 1))⟩]) (.seq (.reg [
    ⟨some 50, none, .load false 13 (.tmp 8)⟩,
    ⟨some 51, none, .mov (.tmp 11)⟩,
    ⟨some 52, none, .call 29 [.tmp 50, .tmp 51]⟩,
    ⟨some 11, none, .mov (.tmp 52)⟩]) (.seq (.seq (.reg [
    ⟨some 53, none, .mov (.tmp 11)⟩,
    ⟨some 54, none, .bin .lss (.tmp 53) (.const (.int .i64 0))⟩]) (.cond (.tmp 54) (.seq (.reg [
    ⟨some 4, none, .mov (.const (.bool false))⟩]) (.ret)) (.skip))) (.seq (.seq (.reg [
    ⟨some 55, none, .mov (.tmp 11)⟩,
    ⟨some 56, none, .mov (.tmp 10)⟩,
    ⟨some 57, none, .bin .neq (.tmp 55) (.tmp 56)⟩]) (.cond (.tmp 57) (.seq (.reg [
    ⟨some 4, none, .mov (.const (.bool false))⟩]) (.ret)) (.skip))) (.seq (.reg [
    ⟨some 58, none, .load false 13 (.tmp 2)⟩,
    ⟨some 59, none, .call 32 [.tmp 58]⟩,
    ⟨some 60, none, .mov (.tmp 1)⟩,
    ⟨some 61, none, .call 52 [.tmp 59, .tmp 60]⟩,
    ⟨some 12, none, .alloc true [.int .i64 0, .int .i64 0, .int .i64 0, .slice none 0 0, .slice none 0 0, .int .i64 0, .int .i64 0, .int .i64 0, .slice none 0 0, .int .i64 0, .int .i64 0, .int .i64 0, .int .i64 0]⟩,
    ⟨none, none, .store 13 (.tmp 12) (.tmp 61)⟩]) (.seq (.seq (.reg [
    ⟨some 62, none, .load false 13 (.tmp 12)⟩,
    ⟨some 63, none, .load false 13 (.tmp 6)⟩,
    ⟨some 64, none, .call 27 [.tmp 62, .tmp 63]⟩,
    ⟨some 65, none, .not (.tmp 64)⟩]) (.cond (.tmp 65) (.seq (.reg [
    ⟨some 4, none, .mov (.const (.bool false))⟩]) (.ret)) (.skip))) (.seq (.reg [
    ⟨some 11, none, .mov (.const (.int .i64 1))⟩]) (.seq (.reg [
    ⟨some 66, none, .load false 13 (.tmp 8)⟩,
    ⟨some 67, none, .mov (.tmp 11)⟩,
    ⟨some 68, none, .call 29 [.tmp 66, .tmp 67]⟩,
    ⟨some 11, none, .mov (.tmp 68)⟩]) (.seq (.seq (.reg [
    ⟨some 69, none, .mov (.tmp 11)⟩,
    ⟨some 70, none, .bin .lss (.tmp 69) (.const (.int .i64 0))⟩]) (.cond (.tmp 70) (.seq (.reg [
    ⟨some 4, none, .mov (.const (.bool false))⟩]) (.ret)) (.skip))) (.seq (.seq (.reg [
    ⟨some 71, none, .mov (.tmp 11)⟩,
    ⟨some 72, none, .mov (.tmp 10)⟩,
    ⟨some 73, none, .bin .neq (.tmp 71) (.tmp 72)⟩]) (.cond (.tmp 73) (.seq (.reg [
    ⟨some 4, none, .mov (.const (.bool false))⟩]) (.ret)) (.skip))) (.seq (.reg [
    ⟨some 4, none, .mov (.const (.bool true))⟩]) (.ret)))))))))))))))))))))))))
theorem t13 : Try.f13.body.bind (trC e13) = some c13 := by kernel_rfl
theorem r13 : Try.f13.results.toList.mapM (trR Try.prog) = some [.tmp 4] := by kernel_rfl
theorem fn13 {args : List Value} {M : Mem} {post : Value → Mem → Prop} (hl : args.length ≤ 74) (h : VC e13 c13 (fnQ [.tmp 4] post) (initS args 74) M) : Fn Try.prog 13 args M post :=
  Fn.of' (E := e13) Try.func13 t13 rfl r13 mixed hl h
end Go.Proofs.Ytcmllambknfleaa.E
set_option linter.unusedVariables false
set_option linter.unusedSimpArgs false
set_option maxHeartbeats 8000000
set_option maxRecDepth 100000
namespace Go.Proofs.Ytcmllambknfleaa.E
open Go
open Classical
theorem mkG_ow2 : ∀ (k : Int) (ys : List CS), (mkG gCS wCS k ys).flatMap (fun y => own y.s) = ys.flatMap fun y => own y.s
  | k, [] => rfl
  | k, y :: r => by
    simp only [mkG, List.flatMap_cons, gCS_s]
    rw [mkG_ow2]
theorem gH_fp (k : Int) (x : HS) : (gH k x).fp = x.fp := by
  unfold HS.fp gH fpC
  simp only
  rw [mkG_ow2]
theorem markHeap_a {x : HX} {k : Int} (h0 : 0 ≤ k) (hb : endH k x.H ≤ 4611686018427387904) : FnA Try.prog 28 [x.v, .int .i64 k] x.body (fun v As => v = .int .i64 (endH k x.H) ∧ ∃ y : HX, y.hs = gH k x.hs ∧ As = y.body) :=
  ⟨fun m hm => (markHeap_f h0 hb (body_whv hm)).mono fun v M' ⟨h1, h2, h3⟩ => by
    have hw := body_whv hm
    obtain ⟨y, hy, hs⟩ := body_w (y := gH k x.hs) (M := M') ⟨h3, by rw [gH_fp]; exact hw.nd⟩
    exact ⟨y.body, _, resL_le _ _, hs, h1, y, hy, rfl⟩⟩
theorem heldHeap_a {x y : HX} {k : Int} {m : Mem} (h0 : 0 ≤ k) (hb : endH k x.H ≤ 4611686018427387904) (hy : y.hs = gH k x.hs) (h : Has m y.body) : Qt Try.prog 29 [x.v, .int .i64 k] m (.int .i64 (endH k x.H)) := by
  have h1 := h.b
  rw [hy] at h1
  exact heldHeap_q' (x := x.hs) h0 hb rfl h1
/-- an answer: a sound heap, or none -/
def OkK (K : Heap) : Prop := Sound K ∨ K = Heap.nil
theorem OkK.fin {K : Heap} (h : OkK K) : 1 ≤ endH 1 K ∧ endH 1 K ≤ 1000000 := by
  have hn := pairsN_nonneg K.cells
  rcases h with h | rfl
  · have h1 := h.r1.regs
    have h2 := h.r1.cells
    have h3 := h.r1.room
    have h4 := h.r1.gray
    have h5 := pairsN_units h.r2
    have h6 := h.r3
    unfold R3 at h6
    rw [endH_eq]; omega
  · rw [endH_eq]; simp [Heap.nil, pairsN]
theorem shadeA_ok (H : Heap) (i : Int) : OkK (H.shadeA i) := by
  unfold Heap.shadeA
  split
  · rename_i h
    have hs := (okH_sound H).1 h.1
    have e : ((i.toNat : Nat) : Int) = i := by omega
    exact .inl ((shadeH_ok (H := H) (i := i.toNat) (by omega) (by rw [e]; exact h.2.2.2)).1.sound hs)
  · exact .inr rfl
theorem fnExactShade_q {M : Mem} {x : HS} {i : Int} (hx : RHVR M x) : Qt Try.prog 13 [x.v, .int .i64 i] M (.bool true) := by
  refine qt_of (fnA_of (fun h => fn13 (by simp) h) ?_)
  repeat' (first
    | (refine k_L ?_; first | refine a_p rfl ?_ | (refine k_bx ?_; refine a_bx rfl rfl ?_) | (refine k_c ?_; refine a_cq rfl (fun m hm => szHeap_q (by omega) (by omega) (hx.le (ro_of hm (by (fail_if_success apply pm_bad); (repeat (first | exact pm_nil | (apply pm_cons; repeat (first | exact pk_h | apply pk_t)))); fail_if_success focus skip)))) ?_))
    | refine a_n ?_
    | (refine k_V ?_; first | refine v_rv ?_ | refine v_seq ?_ | refine v_reg ?_ | refine v_skip ?_ | (refine v_cd rfl (fun hb => ?_) (fun hb => ?_) <;> try (exfalso; omega)))
    | refine s_r ?_)
  · exact fa_q (by simp) (fun _ _ => rfl) rfl
  have hb' : x.H.bulk ≤ 1048576 := by
    by_cases h : x.H.bulk ≤ 1048576
    · exact h
    · rw [if_neg h] at *; omega
  have hpn := pairsN_nonneg x.H.cells
  have hb2 := hb'
  unfold Heap.bulk at hb2
  obtain ⟨k1, k2⟩ := (shadeA_ok x.H i).fin
  refine g_c rfl (toHeap_a hb' hx) (fun v As' hq => ?_)
  obtain ⟨y, rfl, hy, rfl⟩ := hq
  repeat' (first
    | (refine k_L ?_; refine a_p rfl ?_)
    | refine a_n ?_)
  refine g_c rfl (fna_ro (q := fun v E => ∃ u : HX, v = u.v ∧ u.H = y.H.shadeA i ∧ E = u.body) (fun m hm => specShade_a (x := y) (has_star hm))) (fun v As' hq => ?_)
  obtain ⟨_, ⟨ws, rfl, hw, rfl⟩, rfl⟩ := hq
  rw [hy] at hw
  repeat' (first
    | (refine k_L ?_; first | refine a_p rfl ?_ | (refine k_st ?_; refine g_sw rfl rfl rfl rfl (Nat.le_of_ble_eq_true rfl) ?_) | (refine k_al ?_; refine a_al ?_))
    | refine a_n ?_
    | (refine k_V ?_; first | refine v_seq ?_ | refine v_reg ?_)
    | refine sk_zero ?_
    | refine sk_succ ?_
    | refine wk_nil ?_
    | refine wk_cons ?_)
  refine g_c rfl (toHeap_a hb' hx) (fun v As' hq => ?_)
  obtain ⟨z, rfl, hz, rfl⟩ := hq
  repeat' (first
    | (refine k_L ?_; first | refine a_p rfl ?_ | (refine k_st ?_; refine g_sw rfl rfl rfl rfl (Nat.le_of_ble_eq_true rfl) ?_) | (refine k_al ?_; refine a_al ?_))
    | refine a_n ?_
    | (refine k_V ?_; first | refine v_seq ?_ | refine v_reg ?_)
    | refine sk_zero ?_
    | refine sk_succ ?_
    | refine wk_nil ?_
    | refine wk_cons ?_)
  refine g_c rfl (fna_ro (q := fun v E => ∃ u : HX, v = u.v ∧ u.H = z.H.shadeA i ∧ E = u.body) (fun m hm => implShade_a (x := z) (has_star hm))) (fun v As' hq => ?_)
  obtain ⟨_, ⟨gs, rfl, hg, rfl⟩, rfl⟩ := hq
  rw [hz] at hg
  repeat' (first
    | (refine k_L ?_; first | refine a_p rfl ?_ | (refine k_st ?_; refine g_sw rfl rfl rfl rfl (Nat.le_of_ble_eq_true rfl) ?_) | (refine k_al ?_; refine a_al ?_) | (refine k_c ?_; refine a_cq rfl (fun m hm => qt_e (eqHeap_q (x := gs.hs) (y := ws.hs) (has_p (Bs := gs.body) hm).b (has_p (Bs := ws.body) hm).b) (congrArg Value.bool (decide_eq_true (hg.trans hw.symm)))) ?_))
    | refine a_n ?_
    | (refine k_V ?_; first | refine v_seq ?_ | refine v_reg ?_ | refine v_zreg ?_ | refine v_skip ?_ | refine v_cf rfl ?_)
    | refine sk_zero ?_
    | refine sk_succ ?_
    | refine wk_nil ?_
    | refine wk_cons ?_)
  refine g_c rfl (toHeap_a hb' hx) (fun v As' hq => ?_)
  obtain ⟨u, rfl, hu, rfl⟩ := hq
  repeat' (first
    | (refine k_L ?_; first | refine a_p rfl ?_ | (refine k_c ?_; refine a_cq rfl (fun m hm => qt_e (eqHeap_q (x := z.hs) (y := u.hs) (has_p hm).b (has_p hm).b) (congrArg Value.bool (decide_eq_true (hz.trans hu.symm)))) ?_))
    | refine a_n ?_
    | (refine k_V ?_; first | refine v_seq ?_ | refine v_reg ?_ | refine v_skip ?_ | refine v_cf rfl ?_))
  have he := endH_eq 1 z.H
  rw [hz] at he
  refine g_c rfl (markHeap_d (x := z) (k := 1) (by omega) (by rw [hz]; omega)) (fun v As' hq => ?_)
  obtain ⟨rfl, rfl⟩ := hq
  rw [hz]
  repeat' (first
    | (refine k_L ?_; first | refine a_p rfl ?_ | (refine k_g ?_; first | refine a_gy rfl rfl ?_ | (refine a_gd rfl (fun hb => ?_) (fun hb => ?_) <;> try (exfalso; omega))) | (refine k_c ?_; refine a_cq rfl (fun m hm => qt_e (eqHeap_q (x := gs.hs) (y := ws.hs) (has_p (Bs := gs.body) hm).b (has_p (Bs := ws.body) hm).b) (congrArg Value.bool (decide_eq_true (hg.trans hw.symm)))) ?_))
    | refine a_n ?_
    | (refine k_V ?_; first | refine v_seq ?_ | refine v_reg ?_ | refine v_skip ?_ | refine v_cf rfl ?_))
  refine g_c rfl (markHeap_a (x := gs) (k := 1) (by omega) (by rw [hg]; omega)) (fun v As' hq => ?_)
  obtain ⟨rfl, gn, hgn, rfl⟩ := hq
  rw [hg]
  repeat' (first
    | (refine k_L ?_; first | refine a_p rfl ?_ | (refine k_c ?_; refine a_cq rfl (fun m hm => qt_e (heldHeap_a (x := gs) (k := 1) (by omega) (by rw [hg]; omega) hgn (has_p (Bs := gn.body) hm)) (by rw [hg])) ?_))
    | refine a_n ?_
    | (refine k_V ?_; first | refine v_seq ?_ | refine v_reg ?_ | refine v_skip ?_ | (refine v_cd rfl (fun hb => ?_) (fun hb => ?_) <;> try (exfalso; omega)) | (refine v_cn rfl (fun hb => ?_) (fun hb => ?_) <;> try (exfalso; omega))))
  refine g_c rfl (toHeap_a hb' hx) (fun v As' hq => ?_)
  obtain ⟨t, rfl, ht, rfl⟩ := hq
  repeat' (first
    | (refine k_L ?_; refine a_p rfl ?_)
    | refine a_n ?_)
  refine g_c rfl (fna_ro (q := fun v E => ∃ u : HX, v = u.v ∧ u.H = t.H.shadeA i ∧ E = u.body) (fun m hm => implShade_a (x := t) (has_star hm))) (fun v As' hq => ?_)
  obtain ⟨_, ⟨hd, rfl, hh, rfl⟩, rfl⟩ := hq
  rw [ht] at hh
  repeat' (first
    | (refine k_L ?_; first | refine a_p rfl ?_ | (refine k_st ?_; refine g_sw rfl rfl rfl rfl (Nat.le_of_ble_eq_true rfl) ?_) | (refine k_al ?_; refine a_al ?_) | (refine k_c ?_; first | refine a_cq rfl (fun m hm => qt_e (eqHeap_q (x := hd.hs) (y := ws.hs) (has_p (Bs := hd.body) hm).b (has_p (Bs := ws.body) hm).b) (congrArg Value.bool (decide_eq_true (hh.trans hw.symm)))) ?_ | refine a_cq rfl (fun m hm => qt_e (heldHeap_a (x := gs) (k := 1) (by omega) (by rw [hg]; omega) hgn (has_p (Bs := gn.body) hm)) (by rw [hg])) ?_))
    | refine a_n ?_
    | (refine k_V ?_; first | refine v_rv ?_ | refine v_seq ?_ | refine v_reg ?_ | refine v_skip ?_ | refine v_cf rfl ?_ | (refine v_cd rfl (fun hb => ?_) (fun hb => ?_) <;> try (exfalso; omega)) | (refine v_cn rfl (fun hb => ?_) (fun hb => ?_) <;> try (exfalso; omega)))
    | refine sk_zero ?_
    | refine sk_succ ?_
    | refine wk_nil ?_
    | refine wk_cons ?_)
  exact fa_q (by simp) (fun _ _ => rfl) rfl
end Go.Proofs.Ytcmllambknfleaa.E
set_option linter.unusedVariables false
set_option linter.unusedSimpArgs false
set_option maxRecDepth 100000
namespace Go.Proofs.Ytcmllambknfleaa.E
open Go Go.ChangeShapes Go.WideShapes Go.ChangeAt Go.RowKit
theorem liftedShade (os : Os) (started : os.Started) (H : Type) (enc : TypeId × Value → H) :
    ReturnsInHanded {} Try.checked os 13 .any (Rows.fnExactShadeSpec.pre6 enc Try.prog Try.f13 Rows.fnExactShadeRow.domain false) (Rows.fnExactShadeSpec.post enc Try.prog Try.f13 false true false false) := by
  refine returnsInHanded_of_change_sized (C := Try.checked) ownknob started (by kernel_rfl) Try.func13
    (ChangeSpec.witness6 (enc := enc) (C := Try.checked) false ⟨#[], #[.agg #[.int .i64 0, .int .i64 0, .int .i64 0, .slice none 0 0, .slice none 0 0, .int .i64 0, .int .i64 0, .int .i64 0, .slice none 0 0, .int .i64 0, .int .i64 0, .int .i64 0, .int .i64 0], .int .i64 0], []⟩ 8 (by kernel_rfl) (by kernel_rfl) (by kernel_rfl) (by kernel_rfl)) ?_
  intro W base args ds gs before hval0 hW hcnd hsz0 _
  have hval : ∀ (j : Nat) t v, Try.f13.params[j]? = some t → args[j]? = some v → Value.okWide Try.prog W .any base t v := hval0
  have hW' := hW
  obtain ⟨p, q, hA0, hV, rfl, hfz, hnd⟩ := hW
  have hA : DataW.TrodAll enc Try.prog W 0 (fun _ => true) true [43, 3] args.toList ds p := hA0
  obtain ⟨v0, v1, d0, d1, p0, p1, rfl, rfl, rfl, h0, h1⟩ := trodAll_two hA
  obtain ⟨rfl, rfl⟩ := trodVars_none hV
  obtain ⟨cs, rfl, _⟩ := okWide_struct und_heap (hval 0 43 v0 rfl rfl)
  obtain ⟨a1, rfl, rfl, rfl, wa1⟩ := open_int und_int (hval 1 3 v1 rfl rfl) h1
  clear hA0 hval0 hsz0
  have h0k := h0
  obtain ⟨fuel, h0'⟩ := h0
  obtain ⟨x, e, hx⟩ := open_heap h0'
  have e : cs = (hv x.H x.rs x.cs x.gs).toArray := by
    have : cs.toList = hv x.H x.rs x.cs x.gs := e
    rw [← this]
  subst e
  have hlt0 : ∀ x ∈ p0, x.block < W.heap.size := fun x hx => by simpa using hW'.lt x (by simp [hx])
  have hq : Fn Try.prog 13 [x.v, .int .i64 a1] (memOf W) (fun v M' => v = .bool true ∧ (memOf W).le M') := (fnExactShade_q hx).mono fun v M' ⟨h1, h2⟩ => ⟨h1, by rw [h2]; exact Mem.le_refl _⟩
  refine (row_of hq).mono fun e W' ⟨he, bel⟩ => ?_
  subst he
  have hT0 := Below.trod laid (by kernel_rfl) (of_decide_eq_true (by kernel_rfl)) h0k bel hlt0
  exact ⟨_, rfl, _, _, _, [], _, [], hW', trodAll_mk1 (shut_bool und_bool _), trodAll_cons_mk hT0 (trodAll_mk1 (shut_int und_int wa1)), rfl, bel.frame _, fun h => by cases h⟩
end Go.Proofs.Ytcmllambknfleaa.E
namespace Go.Proofs.Ytcmllambknfleaa
open Go.ChangeShapes Go.WideShapes Go.ChangeAt Go.RowKit
/-- The row, under a short name, for the claim. -/
theorem fnExactShade_holds : Rows.FnExactShadeSaid :=
  OpenClaim.holds_of_wide 13 Try.f13 rfl rfl rfl rfl rfl rfl rfl ⟨rfl, rfl, rfl, rfl, rfl⟩ rfl rfl rfl rfl rfl (by kernel_rfl) Try.func13 jfShade
    (of_decide_eq_true (by kernel_rfl)) (by unfold Func.isWrapper; first | (rw [if_pos (by decide +kernel)]; kernel_rfl) | (rw [if_neg (by decide +kernel)]; exact ⟨rfl, rfl⟩))
    (fun os started H enc _ => E.liftedShade os started H enc)
end Go.Proofs.Ytcmllambknfleaa
