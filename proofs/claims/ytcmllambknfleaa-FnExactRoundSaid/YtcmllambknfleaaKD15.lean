/- A part of the proof. Conditions: none. -/
import Derived.Test.YtcmllambknfleaaKD14
import Derived.Test.YtcmllambknfleaaJfRound
set_option maxRecDepth 100000
set_option linter.unusedVariables false
namespace Go.Proofs.Ytcmllambknfleaa.E
open Go
noncomputable def e128 : Env := ⟨Try.prog, [], 9, []⟩
noncomputable def c128 : C :=
  .seq (.reg [
    ⟨some 2, none, .mov (.tmp 0)⟩,
    ⟨some 3, none, .nilCheck (.tmp 2)⟩,
    ⟨some 4, none, .faddr 5 (.tmp 3)⟩,
    ⟨some 5, none, .load true 1 (.tmp 4)⟩,
    ⟨some 6, none, .bin .eql (.tmp 5) (.const (.int .i64 0))⟩]) (.cond (.tmp 6) (.reg [
    ⟨some 7, none, .mov (.tmp 0)⟩,
    ⟨some 8, none, .call 162 [.tmp 7, .const (.int .i64 1)]⟩]) (.skip))
theorem t128 : Try.f128.body.bind (trC e128) = some c128 := by kernel_rfl
theorem r128 : Try.f128.results.toList.mapM (trR Try.prog) = some [] := by kernel_rfl
theorem fn128 {args : List Value} {M : Mem} {post : Value → Mem → Prop} (hl : args.length ≤ 9) (h : VC e128 c128 (fnQ [] post) (initS args 9) M) : Fn Try.prog 128 args M post :=
  Fn.of' (E := e128) Try.func128 t128 rfl r128 mixed hl h
noncomputable def e126 : Env := ⟨Try.prog, [], 8, []⟩
noncomputable def c126 : C :=
  .seq (.reg [
    ⟨some 2, none, .mov (.tmp 0)⟩,
    ⟨some 3, none, .call 122 [.tmp 2]⟩]) (.seq (.reg [
    ⟨some 4, none, .mov (.tmp 0)⟩,
    ⟨some 5, none, .call 128 [.tmp 4]⟩]) (.reg [
    ⟨some 6, none, .mov (.tmp 0)⟩,
    ⟨some 7, none, .call 122 [.tmp 6]⟩]))
theorem t126 : Try.f126.body.bind (trC e126) = some c126 := by kernel_rfl
theorem r126 : Try.f126.results.toList.mapM (trR Try.prog) = some [] := by kernel_rfl
theorem fn126 {args : List Value} {M : Mem} {post : Value → Mem → Prop} (hl : args.length ≤ 8) (h : VC e126 c126 (fnQ [] post) (initS args 8) M) : Fn Try.prog 126 args M post :=
  Fn.of' (E := e126) Try.func126 t126 rfl r126 mixed hl h
noncomputable def e61 : Env := ⟨Try.prog, [1, 2], 15, []⟩
noncomputable def c61 : C :=
  .seq (.reg [
    ⟨some 1, none, .box true (.tmp 0)⟩,
    ⟨some 2, none, .alloc true [.int .i64 0, .int .i64 0, .int .i64 0, .slice none 0 0, .slice none 0 0, .int .i64 0, .int .i64 0, .int .i64 0, .slice none 0 0, .int .i64 0, .int .i64 0, .int .i64 0, .int .i64 0]⟩]) (.seq (.seq (.reg [
    ⟨some 4, none, .load false 13 (.tmp 1)⟩,
    ⟨some 5, none, .call 105 [.tmp 4]⟩,
    ⟨some 6, none, .not (.tmp 5)⟩]) (.cond (.tmp 6) (.seq (.reg [
    ⟨some 7, none, .build [.int .i64 0, .int .i64 0, .int .i64 0, .slice none 0 0, .slice none 0 0, .int .i64 0, .int .i64 0, .int .i64 0, .slice none 0 0, .int .i64 0, .int .i64 0, .int .i64 0, .int .i64 0] []⟩,
    ⟨none, none, .store 13 (.tmp 2) (.tmp 7)⟩]) (.ret)) (.skip))) (.seq (.reg [
    ⟨some 8, none, .load false 13 (.tmp 1)⟩,
    ⟨some 9, none, .call 119 [.tmp 8]⟩,
    ⟨some 3, none, .mov (.tmp 9)⟩]) (.seq (.reg [
    ⟨some 10, none, .mov (.tmp 3)⟩,
    ⟨some 11, none, .call 126 [.tmp 10]⟩]) (.seq (.reg [
    ⟨some 12, none, .mov (.tmp 3)⟩,
    ⟨some 13, none, .nilCheck (.tmp 12)⟩,
    ⟨some 14, none, .load false 13 (.tmp 13)⟩,
    ⟨none, none, .store 13 (.tmp 2) (.tmp 14)⟩]) (.ret)))))
theorem t61 : Try.f61.body.bind (trC e61) = some c61 := by kernel_rfl
theorem r61 : Try.f61.results.toList.mapM (trR Try.prog) = some [.cell 2 false 13] := by kernel_rfl
theorem fn61 {args : List Value} {M : Mem} {post : Value → Mem → Prop} (hl : args.length ≤ 15) (h : VC e61 c61 (fnQ [.cell 2 false 13] post) (initS args 15) M) : Fn Try.prog 61 args M post :=
  Fn.of' (E := e61) Try.func61 t61 rfl r61 mixed hl h
end Go.Proofs.Ytcmllambknfleaa.E
set_option linter.unusedVariables false
set_option linter.unusedSimpArgs false
set_option maxHeartbeats 4000000
set_option maxRecDepth 100000
namespace Go.Proofs.Ytcmllambknfleaa.E
open Go
open Classical
def HX.begin (x : HX) : HX := if x.phase = 0 then x.enter 1 else x
theorem begin_a {a : Nat} {x : HX} : FnA Try.prog 128 [ptr a] (hp a x) (fun v As => As = hp a x.begin) := by
  refine fnA_of (fun h => fn128 (by simp) h) ?_
  unfold HX.begin
  repeat' (first
    | (refine k_L ?_; first | refine a_p rfl ?_ | (refine k_l ?_; refine g_l rfl ?_) | (refine g_c rfl enter_a (fun v As' hq => ?_); subst hq))
    | refine a_n ?_
    | (refine k_V ?_; first | refine v_seq ?_ | refine v_reg ?_ | refine v_skip ?_ | (refine v_cd rfl (fun hb => ?_) (fun hb => ?_) <;> try (exfalso; omega))))
  · rw [if_pos (show x.phase = 0 from hb)]; exact fa_n (fun _ _ => rfl) (Pm.ent (fin _)) rfl
  · rw [if_neg (show ¬ x.phase = 0 from hb)]; exact fa_n (fun _ _ => rfl) (Pm.ent (fin _)) rfl
end Go.Proofs.Ytcmllambknfleaa.E
set_option linter.unusedVariables false
set_option linter.unusedSimpArgs false
namespace Go.Proofs.Ytcmllambknfleaa.E
open Go
open Classical
theorem begin_sound {H : Heap} (h : Sound H) (hp : H.phase = 0) : Sound (H.enterH 1) := by
  obtain ⟨g1, g2⟩ := h.r5.else_ (not_mark (by omega))
  refine ⟨{ h.r1 with phase := by simp [Heap.enterH], hand := by simp [Heap.enterH], sub := by simp [Heap.enterH] }, ⟨fun j d hd => ?_, h.r2.born, h.r2.to⟩, h.r3, ?_, ⟨fun _ => ?_, fun hn => absurd (.inl rfl) hn⟩, ?_, fun _ j d hd => ?_, R8.nil (by simp [Heap.enterH])⟩
  · rcases h.r2.each j d hd with h1 | h1 | h1
    · exact .inl h1
    · have := h1.2.2.1; omega
    · exact .inr (.inr h1)
  · exact r4_frame h.r4 rfl rfl (fun _ => rfl) (fun j => ⟨fun h => by have := h.1; simp [Heap.enterH] at this, fun h => by have := h.1; omega⟩) (same_orig rfl) (fun _ _ _ _ _ _ _ => not_mend (by omega) _ _)
  · have : (H.enterH 1).gray = [] := g1
    rw [this]
    exact ⟨by simp, fun g hg => by simp at hg, fun i c hc e => absurd e (g2 i c hc).1⟩
  · exact (r6_e (by simp [Heap.enterH])).2 rfl
  · refine ⟨fun _ _ => ⟨by simp [Heap.enterH], by show (0 : Int) ≤ j; omega⟩, fun k p hk hs => ?_⟩
    unfold scanned at hs
    rw [if_neg (fun e => by have := (g2 j d hd).2 e; omega), if_neg (by simp [Heap.enterH])] at hs
    omega
theorem outH_ok {H : Heap} (h : Sound H) : Sound H.outH ∧ H.outH.phase = 0 := ⟨iterU_sound _ h, (outN_ok h).1.1⟩
noncomputable def Heap.beginH (H : Heap) : Heap := if H.phase = 0 then H.enterH 1 else H
noncomputable def Heap.roundH (H : Heap) : Heap := (H.outH.enterH 1).outH
theorem roundH_ok {H : Heap} (h : Sound H) : Sound H.roundH ∧ H.roundH.phase = 0 := by
  obtain ⟨a, b⟩ := outH_ok h
  exact outH_ok (begin_sound a b)
end Go.Proofs.Ytcmllambknfleaa.E
set_option maxRecDepth 100000
set_option linter.unusedVariables false
namespace Go.Proofs.Ytcmllambknfleaa.E
open Go
noncomputable def e161 : Env := ⟨Try.prog, [], 4, []⟩
noncomputable def c161 : C :=
  .reg [
    ⟨some 2, none, .mov (.tmp 0)⟩,
    ⟨some 3, none, .call 175 [.tmp 2, .const (.int .i64 1), .const (.int .i64 0)]⟩]
theorem t161 : Try.f161.body.bind (trC e161) = some c161 := by kernel_rfl
theorem r161 : Try.f161.results.toList.mapM (trR Try.prog) = some [] := by kernel_rfl
theorem fn161 {args : List Value} {M : Mem} {post : Value → Mem → Prop} (hl : args.length ≤ 4) (h : VC e161 c161 (fnQ [] post) (initS args 4) M) : Fn Try.prog 161 args M post :=
  Fn.of' (E := e161) Try.func161 t161 rfl r161 mixed hl h
noncomputable def e125 : Env := ⟨Try.prog, [], 8, []⟩
noncomputable def c125 : C :=
  .seq (.reg [
    ⟨some 2, none, .mov (.tmp 0)⟩,
    ⟨some 3, none, .call 121 [.tmp 2]⟩]) (.seq (.reg [
    ⟨some 4, none, .mov (.tmp 0)⟩,
    ⟨some 5, none, .call 161 [.tmp 4]⟩]) (.reg [
    ⟨some 6, none, .mov (.tmp 0)⟩,
    ⟨some 7, none, .call 121 [.tmp 6]⟩]))
theorem t125 : Try.f125.body.bind (trC e125) = some c125 := by kernel_rfl
theorem r125 : Try.f125.results.toList.mapM (trR Try.prog) = some [] := by kernel_rfl
theorem fn125 {args : List Value} {M : Mem} {post : Value → Mem → Prop} (hl : args.length ≤ 8) (h : VC e125 c125 (fnQ [] post) (initS args 8) M) : Fn Try.prog 125 args M post :=
  Fn.of' (E := e125) Try.func125 t125 rfl r125 mixed hl h
noncomputable def e60 : Env := ⟨Try.prog, [1, 2], 15, []⟩
noncomputable def c60 : C :=
  .seq (.reg [
    ⟨some 1, none, .box true (.tmp 0)⟩,
    ⟨some 2, none, .alloc true [.int .i64 0, .int .i64 0, .int .i64 0, .slice none 0 0, .slice none 0 0, .int .i64 0, .int .i64 0, .int .i64 0, .slice none 0 0, .int .i64 0, .int .i64 0, .int .i64 0, .int .i64 0]⟩]) (.seq (.seq (.reg [
    ⟨some 4, none, .load false 13 (.tmp 1)⟩,
    ⟨some 5, none, .call 31 [.tmp 4]⟩,
    ⟨some 6, none, .bin .neq (.tmp 5) (.const (.int .i64 0))⟩]) (.cond (.tmp 6) (.seq (.reg [
    ⟨some 7, none, .build [.int .i64 0, .int .i64 0, .int .i64 0, .slice none 0 0, .slice none 0 0, .int .i64 0, .int .i64 0, .int .i64 0, .slice none 0 0, .int .i64 0, .int .i64 0, .int .i64 0, .int .i64 0] []⟩,
    ⟨none, none, .store 13 (.tmp 2) (.tmp 7)⟩]) (.ret)) (.skip))) (.seq (.reg [
    ⟨some 8, none, .load false 13 (.tmp 1)⟩,
    ⟨some 9, none, .call 117 [.tmp 8]⟩,
    ⟨some 3, none, .mov (.tmp 9)⟩]) (.seq (.reg [
    ⟨some 10, none, .mov (.tmp 3)⟩,
    ⟨some 11, none, .call 125 [.tmp 10]⟩]) (.seq (.reg [
    ⟨some 12, none, .mov (.tmp 3)⟩,
    ⟨some 13, none, .nilCheck (.tmp 12)⟩,
    ⟨some 14, none, .load false 13 (.tmp 13)⟩,
    ⟨none, none, .store 13 (.tmp 2) (.tmp 14)⟩]) (.ret)))))
theorem t60 : Try.f60.body.bind (trC e60) = some c60 := by kernel_rfl
theorem r60 : Try.f60.results.toList.mapM (trR Try.prog) = some [.cell 2 false 13] := by kernel_rfl
theorem fn60 {args : List Value} {M : Mem} {post : Value → Mem → Prop} (hl : args.length ≤ 15) (h : VC e60 c60 (fnQ [.cell 2 false 13] post) (initS args 15) M) : Fn Try.prog 60 args M post :=
  Fn.of' (E := e60) Try.func60 t60 rfl r60 mixed hl h
end Go.Proofs.Ytcmllambknfleaa.E
set_option maxRecDepth 100000
set_option linter.unusedVariables false
namespace Go.Proofs.Ytcmllambknfleaa.E
open Go
noncomputable def e16 : Env := ⟨Try.prog, [1, 4, 5, 6, 10], 69, [(10, 0)]⟩
noncomputable def c16 : C :=
  .seq (.reg [
    ⟨some 1, none, .box true (.tmp 0)⟩,
    ⟨some 2, none, .mov (.const (.bool false))⟩]) (.seq (.reg [
    ⟨some 3, none, .mov (.const (.int .i64 1048576))⟩]) (.seq (.reg [
    ⟨some 11, none, .load false 13 (.tmp 1)⟩,
    ⟨some 12, none, .mov (.tmp 3)⟩,
    ⟨some 13, none, .call 30 [.tmp 11, .tmp 12]⟩,
    ⟨some 3, none, .mov (.tmp 13)⟩]) (.seq (.seq (.reg [
    ⟨some 14, none, .mov (.tmp 3)⟩,
    ⟨some 15, none, .bin .lss (.tmp 14) (.const (.int .i64 0))⟩]) (.cond (.tmp 15) (.seq (.reg [
    ⟨some 2, none, .mov (.const (.bool true))⟩]) (.ret)) (.skip))) (.seq (.reg [
    ⟨some 16, none, .load false 13 (.tmp 1)⟩,
    ⟨some 17, none, .call 32 [.tmp 16]⟩,
    ⟨some 18, none, .call 60 [.tmp 17]⟩,
    ⟨some 4, none, .alloc true [.int .i64 0, .int .i64 0, .int .i64 0, .slice none 0 0, .slice none 0 0, .int .i64 0, .int .i64 0, .int .i64 0, .slice none 0 0, .int .i64 0, .int .i64 0, .int .i64 0, .int .i64 0]⟩,
    ⟨none, none, .store 13 (.tmp 4) (.tmp 18)⟩]) (.seq (.reg [
    ⟨some 19, none, .load false 13 (.tmp 1)⟩,
    ⟨some 20, none, .call 32 [.tmp 19]⟩,
    ⟨some 5, none, .alloc true [.int .i64 0, .int .i64 0, .int .i64 0, .slice none 0 0, .slice none 0 0, .int .i64 0, .int .i64 0, .int .i64 0, .slice none 0 0, .int .i64 0, .int .i64 0, .int .i64 0, .int .i64 0]⟩,
    ⟨none, none, .store 13 (.tmp 5) (.tmp 20)⟩]) (.seq (.reg [
    ⟨some 21, none, .load false 13 (.tmp 5)⟩,
    ⟨some 22, none, .call 61 [.tmp 21]⟩,
    ⟨some 6, none, .alloc true [.int .i64 0, .int .i64 0, .int .i64 0, .slice none 0 0, .slice none 0 0, .int .i64 0, .int .i64 0, .int .i64 0, .slice none 0 0, .int .i64 0, .int .i64 0, .int .i64 0, .int .i64 0]⟩,
    ⟨none, none, .store 13 (.tmp 6) (.tmp 22)⟩]) (.seq (.seq (.reg [
    ⟨some 23, none, .load false 13 (.tmp 6)⟩,
    ⟨some 24, none, .load false 13 (.tmp 4)⟩,
    ⟨some 25, none, .call 27 [.tmp 23, .tmp 24]⟩,
    ⟨some 26, none, .not (.tmp 25)⟩]) (.cond (.tmp 26) (.seq (.reg [
    ⟨some 2, none, .mov (.const (.bool false))⟩]) (.ret)) (.skip))) (.seq (.seq (.zreg [27, 28, 29, 30, 31] [
    ⟨some 27, none, .load false 13 (.tmp 5)⟩,
    ⟨some 28, none, .load false 13 (.tmp 1)⟩] [
    ⟨some 29, none, .call 32 [.tmp 28]⟩,
    ⟨some 30, none, .call 27 [.tmp 27, .tmp 29]⟩,
    ⟨some 31, none, .not (.tmp 30)⟩]) (.cond (.tmp 31) (.seq (.reg [
    ⟨some 2, none, .mov (.const (.bool false))⟩]) (.ret)) (.skip))) (.seq (.reg [
    ⟨some 7, none, .mov (.const (.int .i64 1))⟩]) (.seq (.reg [
    ⟨some 32, none, .load false 13 (.tmp 5)⟩,
    ⟨some 33, none, .mov (.tmp 7)⟩,
    ⟨some 34, none, .call 28 [.tmp 32, .tmp 33]⟩,
    ⟨some 7, none, .mov (.tmp 34)⟩]) (.seq (.seq (.reg [
    ⟨some 35, none, .mov (.tmp 7)⟩,
    ⟨some 36, none, .bin .lss (.tmp 35) (.const (.int .i64 0))⟩,
    ⟨some 37, none, .mov (.tmp 36)⟩,
    ⟨some 38, some (37, false), .load false 13 (.tmp 6)⟩,
    ⟨some 39, some (37, false), .load false 13 (.tmp 4)⟩,
    ⟨some 40, some (37, false), .call 27 [.tmp 38, .tmp 39]⟩,
    ⟨some 41, some (37, false), .not (.tmp 40)⟩,
    ⟨some 42, none, .pick (.tmp 37) (.const (.bool true)) (.tmp 41)⟩]) (.cond (.tmp 42) (.seq (.reg [
    ⟨some 2, none, .mov (.const (.bool false))⟩]) (.ret)) (.skip))) (.seq (.reg [
    ⟨some 8, none, .mov (.const (.int .i64 1))⟩]) (.seq (.reg [
    ⟨some 43, none, .load false 13 (.tmp 6)⟩,
    ⟨some 44, none, .mov (.tmp 8)⟩,
    ⟨some 45, none, .call 28 [.tmp 43, .tmp 44]⟩,
    ⟨some 8, none, .mov (.tmp 45)⟩]) (.seq (.reg [
    ⟨some 9, none, .mov (.const (.int .i64 1))⟩]) (.seq (.reg [
    ⟨some 46, none, .load false 13 (.tmp 6)⟩,
    ⟨some 47, none, .mov (.tmp 9)⟩,
    ⟨some 48, none, .call 29 [.tmp 46, .tmp 47]⟩,
    ⟨some 9, none, .mov (.tmp 48)⟩]) (.seq (.seq (.reg [
    ⟨some 49, none, .mov (.tmp 9)⟩,
    ⟨some 50, none, .bin .lss (.tmp 49) (.const (.int .i64 0))⟩]) (.cond (.tmp 50) (.seq (.reg [
    ⟨some 2, none, .mov (.const (.bool false))⟩]) (.ret)) (.skip))) (.seq (.seq (.reg [
    ⟨some 51, none, .mov (.tmp 9)⟩,
    ⟨some 52, none, .mov (.tmp 8)⟩,
    ⟨some 53, none, .bin .neq (.tmp 51) (.tmp 52)⟩]) (.cond (.tmp 53) (.seq (.reg [
    ⟨some 2, none, .mov (.const (.bool false))⟩]) (.ret)) (.skip))) (.seq (.reg [
    ⟨some 54, none, .load false 13 (.tmp 1)⟩,
    ⟨some 55, none, .call 32 [.tmp 54]⟩,
    ⟨some 56, none, .call 61 [.tmp 55]⟩,
    ⟨some 10, none, .alloc true [.int .i64 0, .int .i64 0, .int .i64 0, .slice none 0 0, .slice none 0 0, .int .i64 0, .int .i64 0, .int .i64 0, .slice none 0 0, .int .i64 0, .int .i64 0, .int .i64 0, .int .i64 0]⟩,
    ⟨none, none, .store 13 (.tmp 10) (.tmp 56)⟩]) (.seq (.seq (.reg [
    ⟨some 57, none, .load false 13 (.tmp 10)⟩,
    ⟨some 58, none, .load false 13 (.tmp 4)⟩,
    ⟨some 59, none, .call 27 [.tmp 57, .tmp 58]⟩,
    ⟨some 60, none, .not (.tmp 59)⟩]) (.cond (.tmp 60) (.seq (.reg [
    ⟨some 2, none, .mov (.const (.bool false))⟩]) (.ret)) (.skip))) (.seq (.reg [
    ⟨some 9, none, .mov (.const (.int .i64 1))⟩]) (.seq (.reg [
    ⟨some 61, none, .load false 13 (.tmp 6)⟩,
    ⟨some 62, none, .mov (.tmp 9)⟩,
    ⟨some 63, none, .call 29 [.tmp 61, .tmp 62]⟩,
    ⟨some 9, none, .mov (.tmp 63)⟩]) (.seq (.seq (.reg [
    ⟨some 64, none, .mov (.tmp 9)⟩,
    ⟨some 65, none, .bin .lss (.tmp 64) (.const (.int .i64 0))⟩]) (.cond (.tmp 65) (.seq (.reg [
    ⟨some 2, none, .mov (.const (.bool false))⟩]) (.ret)) (.skip))) (.seq (.seq (.reg [
    ⟨some 66, none, .mov (.tmp 9)⟩,
    ⟨some 67, none, .mov (.tmp 8)⟩,
    ⟨some 68, none, .bin .neq (.tmp 66) (.tmp 67)⟩]) (.cond (.tmp 68) (.seq (.reg [
    ⟨some 2, none, .mov (.const (.bool false))⟩]) (.ret)) (.skip))) (.seq (.reg [
    ⟨some 2, none, .mov (.const (.bool true))⟩]) (.ret)))))))))))))))))))))))))
theorem t16 : Try.f16.body.bind (trC e16) = some c16 := by kernel_rfl
theorem r16 : Try.f16.results.toList.mapM (trR Try.prog) = some [.tmp 2] := by kernel_rfl
theorem fn16 {args : List Value} {M : Mem} {post : Value → Mem → Prop} (hl : args.length ≤ 69) (h : VC e16 c16 (fnQ [.tmp 2] post) (initS args 69) M) : Fn Try.prog 16 args M post :=
  Fn.of' (E := e16) Try.func16 t16 rfl r16 mixed hl h
end Go.Proofs.Ytcmllambknfleaa.E
set_option linter.unusedVariables false
set_option linter.unusedSimpArgs false
set_option maxHeartbeats 8000000
set_option maxRecDepth 100000
namespace Go.Proofs.Ytcmllambknfleaa.E
open Go
open Classical
theorem l3begin_a {a : Nat} {x : HX} : FnA Try.prog 161 [ptr a] (hp a x) (fun v As => As = hp a (x.ph 1 0)) := by
  refine fnA_of (fun h => fn161 (by simp) h) ?_
  repeat' (first
    | (refine k_L ?_; first | refine a_p rfl ?_ | (refine g_c rfl (l3phase_a (x := x)) (fun v As' hq => ?_); subst hq))
    | refine a_n ?_
    | (refine k_V ?_; refine v_reg ?_))
  exact fa_n (fun _ _ => rfl) (Pm.ent (fin (x.ph 1 0))) rfl
end Go.Proofs.Ytcmllambknfleaa.E
set_option linter.unusedVariables false
set_option linter.unusedSimpArgs false
set_option maxHeartbeats 8000000
set_option maxRecDepth 100000
namespace Go.Proofs.Ytcmllambknfleaa.E
open Go
open Classical
theorem begin_H {x : HX} : x.begin.H = x.H.beginH := by
  unfold HX.begin Heap.beginH
  by_cases e : x.phase = 0
  · rw [if_pos e, if_pos (show x.H.phase = 0 from e)]; exact enter_H
  · rw [if_neg e, if_neg (show ¬ x.H.phase = 0 from e)]
theorem round_a {a : Nat} {x : HX} (h : Sound x.H) : FnA Try.prog 126 [ptr a] (hp a x) (fun v As => ∃ z : HX, As = hp a z ∧ z.H = x.H.roundH) := by
  obtain ⟨o1, o2⟩ := outH_ok h
  refine fnA_of (fun h => fn126 (by simp) h) ?_
  repeat' (first
    | (refine k_L ?_; refine a_p rfl ?_)
    | refine a_n ?_
    | (refine k_V ?_; first | refine v_seq ?_ | refine v_reg ?_))
  refine g_c rfl (finish_a h) (fun v As' hq => ?_)
  obtain ⟨z, rfl, rfl, hz⟩ := hq
  have zb : z.begin.H = x.H.outH.enterH 1 := by rw [begin_H, hz]; unfold Heap.beginH; rw [if_pos o2]
  repeat' (first
    | (refine k_L ?_; first | refine a_p rfl ?_ | (refine g_c rfl (begin_a (x := z)) (fun v As' hq => ?_); subst hq))
    | refine a_n ?_
    | (refine k_V ?_; first | refine v_seq ?_ | refine v_reg ?_))
  refine g_c rfl (finish_a (x := z.begin) (by rw [zb]; exact begin_sound o1 o2)) (fun v As' hq => ?_)
  obtain ⟨u, rfl, rfl, hu⟩ := hq
  repeat' (first
    | (refine k_L ?_; first | (refine k_ad ?_; refine g_ad rfl rfl ?_) | (refine k_su ?_; refine g_su rfl rfl ?_) | (refine k_ml ?_; refine g_ml rfl rfl ?_) | refine a_p rfl ?_ | (refine k_g ?_; first | refine a_gy rfl rfl ?_ | refine a_gn rfl rfl ?_ | refine a_gu rfl ?_ | (refine a_gd rfl (fun hb => ?_) (fun hb => ?_) <;> try (exfalso; omega)) | (refine a_ge rfl (fun hb => ?_) (fun hb => ?_) <;> try (exfalso; omega)) | (refine a_gne rfl (fun hb => ?_) (fun hb => ?_) <;> try (exfalso; omega)) | (refine a_gnd rfl (fun hb => ?_) (fun hb => ?_) <;> try (exfalso; omega))) | (refine k_l ?_; refine g_l rfl ?_) | (refine k_i ?_; refine g_i rfl rfl ?_) | (refine k_ls ?_; refine g_ls rfl ?_) | (refine k_st ?_; first | refine g_st rfl rfl rfl rfl ?_ | refine g_sw rfl rfl rfl rfl (Nat.le_of_ble_eq_true rfl) ?_) | (refine k_al ?_; refine a_al ?_) | (refine k_bx ?_; refine a_bx rfl rfl ?_) | (refine k_bl ?_; refine a_bl rfl ?_) | (refine k_p ?_; first | (refine a_pd rfl (fun hb => ?_) (fun hb => ?_) <;> try (exfalso; omega)) | (refine a_pe rfl (fun hb => ?_) (fun hb => ?_) <;> try (exfalso; omega)) | (refine a_pne rfl (fun hb => ?_) (fun hb => ?_) <;> try (exfalso; omega)) | (refine a_pnd rfl (fun hb => ?_) (fun hb => ?_) <;> try (exfalso; omega))))
    | refine a_n ?_
    | (refine k_V ?_; first | refine v_rv ?_ | refine v_seq ?_ | refine v_reg ?_ | refine v_dreg ?_ | refine v_zreg ?_ | refine v_bs ?_ | refine v_br ?_ | refine v_bd ?_ | refine v_bc ?_ | refine v_bk ?_ | refine v_bb ?_ | refine v_ret ?_ | refine v_exit ?_ | refine v_skip ?_ | refine v_ct rfl ?_ | refine v_cf rfl ?_ | (refine v_cd rfl (fun hb => ?_) (fun hb => ?_) <;> try (exfalso; omega)) | (refine v_ce rfl (fun hb => ?_) (fun hb => ?_) <;> try (exfalso; omega)) | (refine v_cn rfl (fun hb => ?_) (fun hb => ?_) <;> try (exfalso; omega)) | (refine v_cnd rfl (fun hb => ?_) (fun hb => ?_) <;> try (exfalso; omega)))
    | refine s_n ?_
    | refine s_r ?_
    | refine s_e ?_
    | refine b_n ?_
    | refine b_r ?_
    | refine b_e ?_
    | refine b_o rfl ?_
    | refine r_rt ?_
    | refine r_bk rfl ?_
    | refine r_ex rfl rfl ?_
    | refine sk_zero ?_
    | refine sk_succ ?_
    | refine wk_nil ?_
    | refine wk_cons ?_)
  exact fa_n (fun _ _ => rfl) (Pm.ent (fin u)) ⟨_, rfl, by rw [hu, zb]; rfl⟩
theorem l3round_a {a : Nat} {x : HX} (h : Sound x.H) : FnA Try.prog 125 [ptr a] (hp a x) (fun v As => ∃ z : HX, As = hp a z ∧ z.H = x.H.roundH) := by
  obtain ⟨o1, o2⟩ := outH_ok h
  refine fnA_of (fun h => fn125 (by simp) h) ?_
  repeat' (first
    | (refine k_L ?_; refine a_p rfl ?_)
    | refine a_n ?_
    | (refine k_V ?_; first | refine v_seq ?_ | refine v_reg ?_))
  refine g_c rfl (l3out_a h) (fun v As' hq => ?_)
  obtain ⟨z, rfl, rfl, hz⟩ := hq
  have zb : (z.ph 1 0).H = x.H.outH.enterH 1 := by rw [← hz]; exact ph_H rfl
  repeat' (first
    | (refine k_L ?_; first | refine a_p rfl ?_ | (refine g_c rfl (l3begin_a (x := z)) (fun v As' hq => ?_); subst hq))
    | refine a_n ?_
    | (refine k_V ?_; first | refine v_seq ?_ | refine v_reg ?_))
  refine g_c rfl (l3out_a (x := z.ph 1 0) (by rw [zb]; exact begin_sound o1 o2)) (fun v As' hq => ?_)
  obtain ⟨u, rfl, rfl, hu⟩ := hq
  repeat' (first
    | (refine k_L ?_; first | (refine k_ad ?_; refine g_ad rfl rfl ?_) | (refine k_su ?_; refine g_su rfl rfl ?_) | (refine k_ml ?_; refine g_ml rfl rfl ?_) | refine a_p rfl ?_ | (refine k_g ?_; first | refine a_gy rfl rfl ?_ | refine a_gn rfl rfl ?_ | refine a_gu rfl ?_ | (refine a_gd rfl (fun hb => ?_) (fun hb => ?_) <;> try (exfalso; omega)) | (refine a_ge rfl (fun hb => ?_) (fun hb => ?_) <;> try (exfalso; omega)) | (refine a_gne rfl (fun hb => ?_) (fun hb => ?_) <;> try (exfalso; omega)) | (refine a_gnd rfl (fun hb => ?_) (fun hb => ?_) <;> try (exfalso; omega))) | (refine k_l ?_; refine g_l rfl ?_) | (refine k_i ?_; refine g_i rfl rfl ?_) | (refine k_ls ?_; refine g_ls rfl ?_) | (refine k_st ?_; first | refine g_st rfl rfl rfl rfl ?_ | refine g_sw rfl rfl rfl rfl (Nat.le_of_ble_eq_true rfl) ?_) | (refine k_al ?_; refine a_al ?_) | (refine k_bx ?_; refine a_bx rfl rfl ?_) | (refine k_bl ?_; refine a_bl rfl ?_) | (refine k_p ?_; first | (refine a_pd rfl (fun hb => ?_) (fun hb => ?_) <;> try (exfalso; omega)) | (refine a_pe rfl (fun hb => ?_) (fun hb => ?_) <;> try (exfalso; omega)) | (refine a_pne rfl (fun hb => ?_) (fun hb => ?_) <;> try (exfalso; omega)) | (refine a_pnd rfl (fun hb => ?_) (fun hb => ?_) <;> try (exfalso; omega))))
    | refine a_n ?_
    | (refine k_V ?_; first | refine v_rv ?_ | refine v_seq ?_ | refine v_reg ?_ | refine v_dreg ?_ | refine v_zreg ?_ | refine v_bs ?_ | refine v_br ?_ | refine v_bd ?_ | refine v_bc ?_ | refine v_bk ?_ | refine v_bb ?_ | refine v_ret ?_ | refine v_exit ?_ | refine v_skip ?_ | refine v_ct rfl ?_ | refine v_cf rfl ?_ | (refine v_cd rfl (fun hb => ?_) (fun hb => ?_) <;> try (exfalso; omega)) | (refine v_ce rfl (fun hb => ?_) (fun hb => ?_) <;> try (exfalso; omega)) | (refine v_cn rfl (fun hb => ?_) (fun hb => ?_) <;> try (exfalso; omega)) | (refine v_cnd rfl (fun hb => ?_) (fun hb => ?_) <;> try (exfalso; omega)))
    | refine s_n ?_
    | refine s_r ?_
    | refine s_e ?_
    | refine b_n ?_
    | refine b_r ?_
    | refine b_e ?_
    | refine b_o rfl ?_
    | refine r_rt ?_
    | refine r_bk rfl ?_
    | refine r_ex rfl rfl ?_
    | refine sk_zero ?_
    | refine sk_succ ?_
    | refine wk_nil ?_
    | refine wk_cons ?_)
  exact fa_n (fun _ _ => rfl) (Pm.ent (fin u)) ⟨_, rfl, by rw [hu, zb]; rfl⟩
end Go.Proofs.Ytcmllambknfleaa.E
set_option linter.unusedVariables false
set_option linter.unusedSimpArgs false
set_option maxHeartbeats 8000000
set_option maxRecDepth 100000
namespace Go.Proofs.Ytcmllambknfleaa.E
open Go
open Classical
noncomputable def Heap.roundA (H : Heap) : Heap := if okH H = 0 then H.roundH else Heap.nil
theorem implRound_a {m : Mem} {x : HX} (h : Has m x.body) : FnA Try.prog 61 [x.v] [ro m] (outA m x.H.roundA) := by
  unfold Heap.roundA
  refine fnA_of (fun h => fn61 (by simp) h) ?_
  by_cases hS : okH x.H = 0
  · have hs1 := (okH_sound x.H).1 hS
    rw [if_pos hS]
    repeat' (first
      | (refine k_L ?_; first | refine a_p rfl ?_ | (refine k_al ?_; refine a_al ?_) | (refine k_bx ?_; refine a_bx rfl rfl ?_) | (refine k_c ?_; refine a_cq rfl (fun m hm => qt_e (sound_q (x := x) (has_g h hm)) (congrArg Value.bool (decide_eq_true hS))) ?_) | (refine g_c rfl (twin_a h hs1.r1 hs1.r2) (fun v As' hq => ?_); obtain ⟨b, z, rfl, rfl, hz⟩ := hq))
      | refine a_n ?_
      | (refine k_V ?_; first | refine v_seq ?_ | refine v_reg ?_ | refine v_skip ?_ | refine v_cf rfl ?_))
    refine g_c rfl (round_a (x := z) (by rw [hz]; exact hs1)) (fun v As' hq => ?_)
    obtain ⟨u, rfl, hu⟩ := hq
    rw [hz] at hu
    repeat' (first
      | (refine k_L ?_; first | refine a_p rfl ?_ | (refine k_ls ?_; refine g_ls rfl ?_) | (refine k_st ?_; refine g_sw rfl rfl rfl rfl (Nat.le_of_ble_eq_true rfl) ?_))
      | refine a_n ?_
      | (refine k_V ?_; first | refine v_seq ?_ | refine v_reg ?_ | refine v_ret ?_)
      | refine sk_zero ?_
      | refine sk_succ ?_
      | refine wk_nil ?_
      | refine wk_cons ?_)
    exact fa_r (As' := u.body ++ [ro m]) (fun _ _ => rfl) (Pm.ent (by (fail_if_success apply pm_bad); (repeat (first | exact pm_nil | (apply pm_cons; repeat (first | exact pk_h | apply pk_t)))); fail_if_success focus skip)) ⟨_, ⟨u, rfl, hu, rfl⟩, rfl⟩
  · rw [if_neg hS]
    repeat' (first
      | (refine k_L ?_; first | refine a_p rfl ?_ | (refine k_st ?_; refine g_sw rfl rfl rfl rfl (Nat.le_of_ble_eq_true rfl) ?_) | (refine k_al ?_; refine a_al ?_) | (refine k_bx ?_; refine a_bx rfl rfl ?_) | (refine k_c ?_; refine a_cq rfl (fun m hm => qt_e (sound_q (x := x) (has_g h hm)) (congrArg Value.bool (decide_eq_false hS))) ?_))
      | refine a_n ?_
      | (refine k_V ?_; first | refine v_seq ?_ | refine v_reg ?_ | refine v_ret ?_ | refine v_ct rfl ?_)
      | refine s_r ?_
      | refine sk_zero ?_
      | refine sk_succ ?_
      | refine wk_nil ?_
      | refine wk_cons ?_)
    exact fa_r (As' := HX.nil.body ++ [ro m]) (fun _ _ => rfl) nil_ent ⟨_, ⟨HX.nil, rfl, rfl, rfl⟩, rfl⟩
theorem specRound_a {m : Mem} {x : HX} (h : Has m x.body) : FnA Try.prog 60 [x.v] [ro m] (outA m x.H.roundA) := by
  unfold Heap.roundA
  refine fnA_of (fun h => fn60 (by simp) h) ?_
  by_cases hS : okH x.H = 0
  · have hs1 := (okH_sound x.H).1 hS
    rw [if_pos hS]
    repeat' (first
      | (refine k_L ?_; first | refine a_p rfl ?_ | (refine k_al ?_; refine a_al ?_) | (refine k_bx ?_; refine a_bx rfl rfl ?_) | (refine k_c ?_; refine a_cq rfl (fun m hm => qt_e (specHeapOk_q (x := x) (has_g h hm)) (by rw [hS])) ?_) | (refine g_c rfl (l1copy_a h hs1.r1 hs1.r2) (fun v As' hq => ?_); obtain ⟨b, z, rfl, rfl, hz⟩ := hq))
      | refine a_n ?_
      | (refine k_V ?_; first | refine v_seq ?_ | refine v_reg ?_ | refine v_skip ?_ | refine v_cf rfl ?_))
    refine g_c rfl (l3round_a (x := z) (by rw [hz]; exact hs1)) (fun v As' hq => ?_)
    obtain ⟨u, rfl, hu⟩ := hq
    rw [hz] at hu
    repeat' (first
      | (refine k_L ?_; first | refine a_p rfl ?_ | (refine k_ls ?_; refine g_ls rfl ?_) | (refine k_st ?_; refine g_sw rfl rfl rfl rfl (Nat.le_of_ble_eq_true rfl) ?_))
      | refine a_n ?_
      | (refine k_V ?_; first | refine v_seq ?_ | refine v_reg ?_ | refine v_ret ?_)
      | refine sk_zero ?_
      | refine sk_succ ?_
      | refine wk_nil ?_
      | refine wk_cons ?_)
    exact fa_r (As' := u.body ++ [ro m]) (fun _ _ => rfl) (Pm.ent (by (fail_if_success apply pm_bad); (repeat (first | exact pm_nil | (apply pm_cons; repeat (first | exact pk_h | apply pk_t)))); fail_if_success focus skip)) ⟨_, ⟨u, rfl, hu, rfl⟩, rfl⟩
  · rw [if_neg hS]
    repeat' (first
      | (refine k_L ?_; first | refine a_p rfl ?_ | (refine k_st ?_; refine g_sw rfl rfl rfl rfl (Nat.le_of_ble_eq_true rfl) ?_) | (refine k_al ?_; refine a_al ?_) | (refine k_bx ?_; refine a_bx rfl rfl ?_) | (refine k_c ?_; refine a_cq rfl (fun m hm => specHeapOk_q (x := x) (has_g h hm)) ?_))
      | refine a_n ?_
      | (refine k_V ?_; first | refine v_seq ?_ | refine v_reg ?_ | refine v_ret ?_ | (refine v_cn rfl (fun hb => ?_) (fun hb => ?_) <;> try (exfalso; omega)))
      | refine s_r ?_
      | refine sk_zero ?_
      | refine sk_succ ?_
      | refine wk_nil ?_
      | refine wk_cons ?_)
    exact fa_r (As' := HX.nil.body ++ [ro m]) (fun _ _ => rfl) nil_ent ⟨_, ⟨HX.nil, rfl, rfl, rfl⟩, rfl⟩
end Go.Proofs.Ytcmllambknfleaa.E
set_option linter.unusedVariables false
set_option linter.unusedSimpArgs false
set_option maxHeartbeats 8000000
set_option maxRecDepth 100000
namespace Go.Proofs.Ytcmllambknfleaa.E
open Go
open Classical
theorem roundA_ok (H : Heap) : OkK H.roundA := by
  unfold Heap.roundA
  split
  · exact .inl (roundH_ok ((okH_sound H).1 (by assumption))).1
  · exact .inr rfl
theorem fnExactRound_q {M : Mem} {x : HS} (hx : RHVR M x) : Qt Try.prog 16 [x.v] M (.bool true) := by
  refine qt_of (fnA_of (fun h => fn16 (by simp) h) ?_)
  repeat' (first
    | (refine k_L ?_; first | refine a_p rfl ?_ | (refine k_bx ?_; refine a_bx rfl rfl ?_) | (refine k_c ?_; refine a_cq rfl (fun m hm => szHeap_q (by omega) (by omega) (hx.le (ro_of hm (by (fail_if_success apply pm_bad); (repeat (first | exact pm_nil | (apply pm_cons; repeat (first | exact pk_h | apply pk_t)))); fail_if_success focus skip)))) ?_))
    | refine a_n ?_
    | (refine k_V ?_; first | refine v_rv ?_ | refine v_seq ?_ | refine v_reg ?_ | refine v_skip ?_ | (refine v_cd rfl (fun hb => ?_) (fun hb => ?_) <;> try (exfalso; omega)))
    | refine s_r ?_)
  · exact fa_q (by simp) (fun _ _ => rfl) rfl
  have hb' : x.H.bulk ≤ 1048576 := by
    by_cases h : x.H.bulk ≤ 1048576
    · exact h
    · rw [if_neg h] at *; omega
  have hpn := pairsN_nonneg x.H.cells
  have hb2 := hb'
  unfold Heap.bulk at hb2
  obtain ⟨k1, k2⟩ := (roundA_ok x.H).fin
  refine g_c rfl (toHeap_a hb' hx) (fun v As' hq => ?_)
  obtain ⟨y, rfl, hy, rfl⟩ := hq
  repeat' (first
    | (refine k_L ?_; first | (refine k_ad ?_; refine g_ad rfl rfl ?_) | (refine k_su ?_; refine g_su rfl rfl ?_) | (refine k_ml ?_; refine g_ml rfl rfl ?_) | refine a_p rfl ?_ | (refine k_g ?_; first | refine a_gy rfl rfl ?_ | refine a_gn rfl rfl ?_ | refine a_gu rfl ?_ | (refine a_gd rfl (fun hb => ?_) (fun hb => ?_) <;> try (exfalso; omega)) | (refine a_ge rfl (fun hb => ?_) (fun hb => ?_) <;> try (exfalso; omega)) | (refine a_gne rfl (fun hb => ?_) (fun hb => ?_) <;> try (exfalso; omega)) | (refine a_gnd rfl (fun hb => ?_) (fun hb => ?_) <;> try (exfalso; omega))) | (refine k_l ?_; refine g_l rfl ?_) | (refine k_i ?_; refine g_i rfl rfl ?_) | (refine k_ls ?_; refine g_ls rfl ?_) | (refine k_st ?_; first | refine g_st rfl rfl rfl rfl ?_ | refine g_sw rfl rfl rfl rfl (Nat.le_of_ble_eq_true rfl) ?_) | (refine k_al ?_; refine a_al ?_) | (refine k_bx ?_; refine a_bx rfl rfl ?_) | (refine k_bl ?_; refine a_bl rfl ?_) | (refine k_p ?_; first | (refine a_pd rfl (fun hb => ?_) (fun hb => ?_) <;> try (exfalso; omega)) | (refine a_pe rfl (fun hb => ?_) (fun hb => ?_) <;> try (exfalso; omega)) | (refine a_pne rfl (fun hb => ?_) (fun hb => ?_) <;> try (exfalso; omega)) | (refine a_pnd rfl (fun hb => ?_) (fun hb => ?_) <;> try (exfalso; omega))))
    | refine a_n ?_
    | (refine k_V ?_; first | refine v_rv ?_ | refine v_seq ?_ | refine v_reg ?_ | refine v_dreg ?_ | refine v_zreg ?_ | refine v_bs ?_ | refine v_br ?_ | refine v_bd ?_ | refine v_bc ?_ | refine v_bk ?_ | refine v_bb ?_ | refine v_ret ?_ | refine v_exit ?_ | refine v_skip ?_ | refine v_ct rfl ?_ | refine v_cf rfl ?_ | (refine v_cd rfl (fun hb => ?_) (fun hb => ?_) <;> try (exfalso; omega)) | (refine v_ce rfl (fun hb => ?_) (fun hb => ?_) <;> try (exfalso; omega)) | (refine v_cn rfl (fun hb => ?_) (fun hb => ?_) <;> try (exfalso; omega)) | (refine v_cnd rfl (fun hb => ?_) (fun hb => ?_) <;> try (exfalso; omega)))
    | refine s_n ?_
    | refine s_r ?_
    | refine s_e ?_
    | refine b_n ?_
    | refine b_r ?_
    | refine b_e ?_
    | refine b_o rfl ?_
    | refine r_rt ?_
    | refine r_bk rfl ?_
    | refine r_ex rfl rfl ?_
    | refine sk_zero ?_
    | refine sk_succ ?_
    | refine wk_nil ?_
    | refine wk_cons ?_)
  refine g_c rfl (fna_ro (q := fun v E => ∃ u : HX, v = u.v ∧ u.H = y.H.roundA ∧ E = u.body) (fun m hm => specRound_a (x := y) (has_star hm))) (fun v As' hq => ?_)
  obtain ⟨_, ⟨ws, rfl, hw, rfl⟩, rfl⟩ := hq
  rw [hy] at hw
  repeat' (first
    | (refine k_L ?_; first | refine a_p rfl ?_ | (refine k_st ?_; refine g_sw rfl rfl rfl rfl (Nat.le_of_ble_eq_true rfl) ?_) | (refine k_al ?_; refine a_al ?_))
    | refine a_n ?_
    | (refine k_V ?_; first | refine v_seq ?_ | refine v_reg ?_)
    | refine sk_zero ?_
    | refine sk_succ ?_
    | refine wk_nil ?_
    | refine wk_cons ?_)
  refine g_c rfl (toHeap_a hb' hx) (fun v As' hq => ?_)
  obtain ⟨z, rfl, hz, rfl⟩ := hq
  repeat' (first
    | (refine k_L ?_; first | refine a_p rfl ?_ | (refine k_st ?_; refine g_sw rfl rfl rfl rfl (Nat.le_of_ble_eq_true rfl) ?_) | (refine k_al ?_; refine a_al ?_))
    | refine a_n ?_
    | (refine k_V ?_; first | refine v_seq ?_ | refine v_reg ?_)
    | refine sk_zero ?_
    | refine sk_succ ?_
    | refine wk_nil ?_
    | refine wk_cons ?_)
  refine g_c rfl (fna_ro (q := fun v E => ∃ u : HX, v = u.v ∧ u.H = z.H.roundA ∧ E = u.body) (fun m hm => implRound_a (x := z) (has_star hm))) (fun v As' hq => ?_)
  obtain ⟨_, ⟨gs, rfl, hg, rfl⟩, rfl⟩ := hq
  rw [hz] at hg
  repeat' (first
    | (refine k_L ?_; first | refine a_p rfl ?_ | (refine k_st ?_; refine g_sw rfl rfl rfl rfl (Nat.le_of_ble_eq_true rfl) ?_) | (refine k_al ?_; refine a_al ?_) | (refine k_c ?_; refine a_cq rfl (fun m hm => qt_e (eqHeap_q (x := gs.hs) (y := ws.hs) (has_p (Bs := gs.body) hm).b (has_p (Bs := ws.body) hm).b) (congrArg Value.bool (decide_eq_true (hg.trans hw.symm)))) ?_))
    | refine a_n ?_
    | (refine k_V ?_; first | refine v_seq ?_ | refine v_reg ?_ | refine v_zreg ?_ | refine v_skip ?_ | refine v_cf rfl ?_)
    | refine sk_zero ?_
    | refine sk_succ ?_
    | refine wk_nil ?_
    | refine wk_cons ?_)
  refine g_c rfl (toHeap_a hb' hx) (fun v As' hq => ?_)
  obtain ⟨u, rfl, hu, rfl⟩ := hq
  repeat' (first
    | (refine k_L ?_; first | refine a_p rfl ?_ | (refine k_c ?_; refine a_cq rfl (fun m hm => qt_e (eqHeap_q (x := z.hs) (y := u.hs) (has_p hm).b (has_p hm).b) (congrArg Value.bool (decide_eq_true (hz.trans hu.symm)))) ?_))
    | refine a_n ?_
    | (refine k_V ?_; first | refine v_seq ?_ | refine v_reg ?_ | refine v_skip ?_ | refine v_cf rfl ?_))
  have he := endH_eq 1 z.H
  rw [hz] at he
  refine g_c rfl (markHeap_d (x := z) (k := 1) (by omega) (by rw [hz]; omega)) (fun v As' hq => ?_)
  obtain ⟨rfl, rfl⟩ := hq
  rw [hz]
  repeat' (first
    | (refine k_L ?_; first | refine a_p rfl ?_ | (refine k_g ?_; first | refine a_gy rfl rfl ?_ | (refine a_gd rfl (fun hb => ?_) (fun hb => ?_) <;> try (exfalso; omega))) | (refine k_c ?_; refine a_cq rfl (fun m hm => qt_e (eqHeap_q (x := gs.hs) (y := ws.hs) (has_p (Bs := gs.body) hm).b (has_p (Bs := ws.body) hm).b) (congrArg Value.bool (decide_eq_true (hg.trans hw.symm)))) ?_))
    | refine a_n ?_
    | (refine k_V ?_; first | refine v_seq ?_ | refine v_reg ?_ | refine v_skip ?_ | refine v_cf rfl ?_))
  refine g_c rfl (markHeap_a (x := gs) (k := 1) (by omega) (by rw [hg]; omega)) (fun v As' hq => ?_)
  obtain ⟨rfl, gn, hgn, rfl⟩ := hq
  rw [hg]
  repeat' (first
    | (refine k_L ?_; first | refine a_p rfl ?_ | (refine k_c ?_; refine a_cq rfl (fun m hm => qt_e (heldHeap_a (x := gs) (k := 1) (by omega) (by rw [hg]; omega) hgn (has_p (Bs := gn.body) hm)) (by rw [hg])) ?_))
    | refine a_n ?_
    | (refine k_V ?_; first | refine v_seq ?_ | refine v_reg ?_ | refine v_skip ?_ | (refine v_cd rfl (fun hb => ?_) (fun hb => ?_) <;> try (exfalso; omega)) | (refine v_cn rfl (fun hb => ?_) (fun hb => ?_) <;> try (exfalso; omega))))
  refine g_c rfl (toHeap_a hb' hx) (fun v As' hq => ?_)
  obtain ⟨t, rfl, ht, rfl⟩ := hq
  repeat' (first
    | (refine k_L ?_; first | (refine k_ad ?_; refine g_ad rfl rfl ?_) | (refine k_su ?_; refine g_su rfl rfl ?_) | (refine k_ml ?_; refine g_ml rfl rfl ?_) | refine a_p rfl ?_ | (refine k_g ?_; first | refine a_gy rfl rfl ?_ | refine a_gn rfl rfl ?_ | refine a_gu rfl ?_ | (refine a_gd rfl (fun hb => ?_) (fun hb => ?_) <;> try (exfalso; omega)) | (refine a_ge rfl (fun hb => ?_) (fun hb => ?_) <;> try (exfalso; omega)) | (refine a_gne rfl (fun hb => ?_) (fun hb => ?_) <;> try (exfalso; omega)) | (refine a_gnd rfl (fun hb => ?_) (fun hb => ?_) <;> try (exfalso; omega))) | (refine k_l ?_; refine g_l rfl ?_) | (refine k_i ?_; refine g_i rfl rfl ?_) | (refine k_ls ?_; refine g_ls rfl ?_) | (refine k_st ?_; first | refine g_st rfl rfl rfl rfl ?_ | refine g_sw rfl rfl rfl rfl (Nat.le_of_ble_eq_true rfl) ?_) | (refine k_al ?_; refine a_al ?_) | (refine k_bx ?_; refine a_bx rfl rfl ?_) | (refine k_bl ?_; refine a_bl rfl ?_) | (refine k_p ?_; first | (refine a_pd rfl (fun hb => ?_) (fun hb => ?_) <;> try (exfalso; omega)) | (refine a_pe rfl (fun hb => ?_) (fun hb => ?_) <;> try (exfalso; omega)) | (refine a_pne rfl (fun hb => ?_) (fun hb => ?_) <;> try (exfalso; omega)) | (refine a_pnd rfl (fun hb => ?_) (fun hb => ?_) <;> try (exfalso; omega))))
    | refine a_n ?_
    | (refine k_V ?_; first | refine v_rv ?_ | refine v_seq ?_ | refine v_reg ?_ | refine v_dreg ?_ | refine v_zreg ?_ | refine v_bs ?_ | refine v_br ?_ | refine v_bd ?_ | refine v_bc ?_ | refine v_bk ?_ | refine v_bb ?_ | refine v_ret ?_ | refine v_exit ?_ | refine v_skip ?_ | refine v_ct rfl ?_ | refine v_cf rfl ?_ | (refine v_cd rfl (fun hb => ?_) (fun hb => ?_) <;> try (exfalso; omega)) | (refine v_ce rfl (fun hb => ?_) (fun hb => ?_) <;> try (exfalso; omega)) | (refine v_cn rfl (fun hb => ?_) (fun hb => ?_) <;> try (exfalso; omega)) | (refine v_cnd rfl (fun hb => ?_) (fun hb => ?_) <;> try (exfalso; omega)))
    | refine s_n ?_
    | refine s_r ?_
    | refine s_e ?_
    | refine b_n ?_
    | refine b_r ?_
    | refine b_e ?_
    | refine b_o rfl ?_
    | refine r_rt ?_
    | refine r_bk rfl ?_
    | refine r_ex rfl rfl ?_
    | refine sk_zero ?_
    | refine sk_succ ?_
    | refine wk_nil ?_
    | refine wk_cons ?_)
  refine g_c rfl (fna_ro (q := fun v E => ∃ u : HX, v = u.v ∧ u.H = t.H.roundA ∧ E = u.body) (fun m hm => implRound_a (x := t) (has_star hm))) (fun v As' hq => ?_)
  obtain ⟨_, ⟨hd, rfl, hh, rfl⟩, rfl⟩ := hq
  rw [ht] at hh
  repeat' (first
    | (refine k_L ?_; first | refine a_p rfl ?_ | (refine k_st ?_; refine g_sw rfl rfl rfl rfl (Nat.le_of_ble_eq_true rfl) ?_) | (refine k_al ?_; refine a_al ?_) | (refine k_c ?_; first | refine a_cq rfl (fun m hm => qt_e (eqHeap_q (x := hd.hs) (y := ws.hs) (has_p (Bs := hd.body) hm).b (has_p (Bs := ws.body) hm).b) (congrArg Value.bool (decide_eq_true (hh.trans hw.symm)))) ?_ | refine a_cq rfl (fun m hm => qt_e (heldHeap_a (x := gs) (k := 1) (by omega) (by rw [hg]; omega) hgn (has_p (Bs := gn.body) hm)) (by rw [hg])) ?_))
    | refine a_n ?_
    | (refine k_V ?_; first | refine v_rv ?_ | refine v_seq ?_ | refine v_reg ?_ | refine v_skip ?_ | refine v_cf rfl ?_ | (refine v_cd rfl (fun hb => ?_) (fun hb => ?_) <;> try (exfalso; omega)) | (refine v_cn rfl (fun hb => ?_) (fun hb => ?_) <;> try (exfalso; omega)))
    | refine sk_zero ?_
    | refine sk_succ ?_
    | refine wk_nil ?_
    | refine wk_cons ?_)
  exact fa_q (by simp) (fun _ _ => rfl) rfl
end Go.Proofs.Ytcmllambknfleaa.E
set_option linter.unusedVariables false
set_option linter.unusedSimpArgs false
set_option maxRecDepth 100000
namespace Go.Proofs.Ytcmllambknfleaa.E
open Go Go.ChangeShapes Go.WideShapes Go.ChangeAt Go.RowKit
theorem liftedRound (os : Os) (started : os.Started) (H : Type) (enc : TypeId × Value → H) :
    ReturnsInHanded {} Try.checked os 16 .any (Rows.fnExactRoundSpec.pre6 enc Try.prog Try.f16 Rows.fnExactRoundRow.domain false) (Rows.fnExactRoundSpec.post enc Try.prog Try.f16 false true false false) := by
  refine returnsInHanded_of_change_sized (C := Try.checked) ownknob started (by kernel_rfl) Try.func16
    (ChangeSpec.witness6 (enc := enc) (C := Try.checked) false ⟨#[], #[.agg #[.int .i64 0, .int .i64 0, .int .i64 0, .slice none 0 0, .slice none 0 0, .int .i64 0, .int .i64 0, .int .i64 0, .slice none 0 0, .int .i64 0, .int .i64 0, .int .i64 0, .int .i64 0]], []⟩ 8 (by kernel_rfl) (by kernel_rfl) (by kernel_rfl) (by kernel_rfl)) ?_
  intro W base args ds gs before hval0 hW hcnd hsz0 _
  have hval : ∀ (j : Nat) t v, Try.f16.params[j]? = some t → args[j]? = some v → Value.okWide Try.prog W .any base t v := hval0
  have hW' := hW
  obtain ⟨p, q, hA0, hV, rfl, hfz, hnd⟩ := hW
  have hA : DataW.TrodAll enc Try.prog W 0 (fun _ => true) true [43] args.toList ds p := hA0
  obtain ⟨v0, d0, rfl, rfl, h0⟩ := trodAll_one hA
  obtain ⟨rfl, rfl⟩ := trodVars_none hV
  obtain ⟨cs, rfl, _⟩ := okWide_struct und_heap (hval 0 43 v0 rfl rfl)
  clear hA0 hval0 hsz0
  have h0k := h0
  obtain ⟨fuel, h0'⟩ := h0
  obtain ⟨x, e, hx⟩ := open_heap h0'
  have e : cs = (hv x.H x.rs x.cs x.gs).toArray := by
    have : cs.toList = hv x.H x.rs x.cs x.gs := e
    rw [← this]
  subst e
  have hlt : ∀ x ∈ p, x.block < W.heap.size := fun x hx => by simpa using hW'.lt x (by simp [hx])
  have hq : Fn Try.prog 16 [x.v] (memOf W) (fun v M' => v = .bool true ∧ (memOf W).le M') := (fnExactRound_q hx).mono fun v M' ⟨h1, h2⟩ => ⟨h1, by rw [h2]; exact Mem.le_refl _⟩
  refine (row_of hq).mono fun e W' ⟨he, bel⟩ => ?_
  subst he
  have hT := Below.trod laid (by kernel_rfl) (of_decide_eq_true (by kernel_rfl)) h0k bel hlt
  exact ⟨_, rfl, _, _, _, [], _, [], hW', trodAll_mk1 (shut_bool und_bool _), trodAll_mk1 hT, rfl, bel.frame _, fun h => by cases h⟩
end Go.Proofs.Ytcmllambknfleaa.E
namespace Go.Proofs.Ytcmllambknfleaa
open Go.ChangeShapes Go.WideShapes Go.ChangeAt Go.RowKit
/-- The row, under a short name, for the claim. -/
theorem fnExactRound_holds : Rows.FnExactRoundSaid :=
  OpenClaim.holds_of_wide 16 Try.f16 rfl rfl rfl rfl rfl rfl rfl ⟨rfl, rfl, rfl, rfl, rfl⟩ rfl rfl rfl rfl rfl (by kernel_rfl) Try.func16 jfRound
    (of_decide_eq_true (by kernel_rfl)) (by unfold Func.isWrapper; first | (rw [if_pos (by decide +kernel)]; kernel_rfl) | (rw [if_neg (by decide +kernel)]; exact ⟨rfl, rfl⟩))
    (fun os started H enc _ => E.liftedRound os started H enc)
end Go.Proofs.Ytcmllambknfleaa
