/- A part of the proof. Conditions: none. -/
import Derived.Test.YtpleoapljeffiaaGreatDoorKP5
set_option maxRecDepth 100000
set_option linter.unusedVariables false
namespace Go.Proofs.YtpleoapljeffiaaGreatDoor.E
open Go
noncomputable def e50:Env:=⟨Tryz.prog,[],34,[]⟩
abbrev zI(a0:Nat)(a1:Nat)(a2:Nat):I:=⟨some a0,none,.call a1 [.tmp a2]⟩
abbrev zZ(a0:Nat)(a1:Nat)(a2:Int):I:=⟨some a0,none,.bin .lss (.tmp a1) (.const (.int .i64 a2))⟩
abbrev zi(a0:Nat)(a1:Nat)(a2:Nat):I:=⟨some a0,none,.mov (.const (.slice none a1 a2))⟩
abbrev q5(a0:Nat)(a1:Nat)(a2:Nat)(a3:Int)(a4:Int):I:=⟨some a0,none,.call a1 [.tmp a2,.const (.int .i64 a3),.const (.int .i64 a4)]⟩
abbrev qQ(a0:Nat)(a1:Nat)(a2:Nat):I:=⟨some a0,none,.bin .sub (.tmp a1) (.tmp a2)⟩
abbrev qZ(a0:Nat)(a1:Int)(a2:Int)(a3:Int)(a4:Int)(a5:Int):I:=⟨some a0,none,.alloc true [.int .i64 a1,.int .i64 a2,.int .i64 a3,.int .i64 a4,.int .i64 a5]⟩
abbrev qa(a0:Nat)(a1:Nat):I:=⟨some a0,none,.box false (.tmp a1)⟩
noncomputable def c50:C:=
 .seq (.reg [zA 4 0]) (.seq (.seq (.reg [zA 5 0]) (.block 0 (.loop (.seq (.seq (.reg [z3 6 5,z3 7 0,zE 8 7,zK 9 6 8]) (.cond (.tmp 9) .skip (.exit 0))) (.seq (.block 1 (.seq (.reg [z3 12 0,z3 13 5,z3 14 1,z8 15 3 12 13,z4 16 0 15,z7 1 16 14]) (.seq (.reg [z3 17 1,zD 18 17 1,z3 1 18]) (.seq (.reg [z3 19 0,z3 20 5,z3 21 1,z8 22 3 19 20,z4 23 1 22,z7 1 23 21]) (.seq (.reg [z3 24 1,zD 25 24 1,
 z3 1 25]) (.seq (.reg [z3 26 0,z3 27 5,z3 28 1,z8 29 3 26 27,z4 30 2 29,z7 1 30 28]) (.reg [z3 31 1,zD 32 31 1,z3 1 32]))))))) (.reg [z3 10 5,zD 11 10 1,z3 5 11])))))) (.seq (.reg [z3 33 1,z3 4 33]) .ret))
theorem t50:Tryz.f50.body.bind (trC e50)=some c50:=by kernel_rfl
theorem r50:Tryz.f50.results.toList.mapM (trR Tryz.prog)=some [.tmp 4]:=by kernel_rfl
theorem fn50{args:List Value}{M:Mem}{post:Value→Mem→Prop}(hl:args.length≤34)(h:VC e50 c50 (fnQ [.tmp 4] post) (initS args 34) M):Fn Tryz.prog 50 args M post:=
 Fn.of' (E:=e50) Tryz.func50 t50 rfl r50 mixed hl h
noncomputable def e67:Env:=⟨Tryz.prog,[],40,[]⟩
noncomputable def c67:C:=
 .seq (.reg [zA 4 0]) (.seq (.seq (.reg [zA 5 0]) (.block 0 (.loop (.seq (.seq (.reg [z3 6 5,z3 7 0,zE 8 7,zK 9 6 8]) (.cond (.tmp 9) .skip (.exit 0))) (.seq (.block 1 (.seq (.seq (.reg [z3 12 0,z3 13 5,z8 14 3 12 13,z4 15 0 14,z5 16 1 15,z3 17 1,zN 18 16 17]) (.cond (.tmp 18) (.seq (.reg [zA 4 (-1)]) .ret) .skip)) (.seq (.reg [z3 19 1,zD 20 19 1,z3 1 20]) (.seq (.seq (.reg [z3 21 0,z3 22 5,
 z8 23 3 21 22,z4 24 1 23,z5 25 1 24,z3 26 1,zN 27 25 26]) (.cond (.tmp 27) (.seq (.reg [zA 4 (-1)]) .ret) .skip)) (.seq (.reg [z3 28 1,zD 29 28 1,z3 1 29]) (.seq (.seq (.reg [z3 30 0,z3 31 5,z8 32 3 30 31,z4 33 2 32,z5 34 1 33,z3 35 1,zN 36 34 35]) (.cond (.tmp 36) (.seq (.reg [zA 4 (-1)]) .ret) .skip)) (.reg [z3 37 1,zD 38 37 1,z3 1 38]))))))) (.reg [z3 10 5,zD 11 10 1,z3 5 11])))))) (.seq
 (.reg [z3 39 1,z3 4 39]) .ret))
theorem t67:Tryz.f67.body.bind (trC e67)=some c67:=by kernel_rfl
theorem r67:Tryz.f67.results.toList.mapM (trR Tryz.prog)=some [.tmp 4]:=by kernel_rfl
theorem fn67{args:List Value}{M:Mem}{post:Value→Mem→Prop}(hl:args.length≤40)(h:VC e67 c67 (fnQ [.tmp 4] post) (initS args 40) M):Fn Tryz.prog 67 args M post:=
 Fn.of' (E:=e67) Tryz.func67 t67 rfl r67 mixed hl h
noncomputable def e87:Env:=⟨Tryz.prog,[],61,[]⟩
noncomputable def c87:C:=
 .seq (.reg [zA 4 0]) (.seq (.seq (.reg [zA 5 0]) (.block 0 (.loop (.seq (.seq (.reg [z3 6 5,z3 7 0,zE 8 7,zK 9 6 8]) (.cond (.tmp 9) .skip (.exit 0))) (.seq (.block 1 (.seq (.reg [z3 12 0,z3 13 5,z3 14 1,z8 15 6 12 13,z4 16 0 15,z4 17 0 16,z7 1 17 14]) (.seq (.reg [z3 18 1,zD 19 18 1,z3 1 19]) (.seq (.reg [z3 20 0,z3 21 5,z3 22 1,z8 23 6 20 21,z4 24 0 23,z4 25 1 24,z7 1 25 22]) (.seq (.reg
 [z3 26 1,zD 27 26 1,z3 1 27]) (.seq (.reg [z3 28 0,z3 29 5,z3 30 1,z8 31 6 28 29,z4 32 0 31,z4 33 2 32,z7 1 33 30]) (.seq (.reg [z3 34 1,zD 35 34 1,z3 1 35]) (.seq (.reg [z3 36 0,z3 37 5,z3 38 1,z8 39 6 36 37,z4 40 3 39,z4 41 0 40,z7 1 41 38]) (.seq (.reg [z3 42 1,zD 43 42 1,z3 1 43]) (.seq (.reg [z3 44 0,z3 45 5,z3 46 1,z8 47 6 44 45,z4 48 3 47,z4 49 1 48,z7 1 49 46]) (.seq (.reg [z3 50 1,
 zD 51 50 1,z3 1 51]) (.seq (.reg [z3 52 0,z3 53 5,z3 54 1,z8 55 6 52 53,z4 56 3 55,z4 57 2 56,z7 1 57 54]) (.reg [z3 58 1,zD 59 58 1,z3 1 59]))))))))))))) (.reg [z3 10 5,zD 11 10 1,z3 5 11])))))) (.seq (.reg [z3 60 1,z3 4 60]) .ret))
theorem t87:Tryz.f87.body.bind (trC e87)=some c87:=by kernel_rfl
theorem r87:Tryz.f87.results.toList.mapM (trR Tryz.prog)=some [.tmp 4]:=by kernel_rfl
theorem fn87{args:List Value}{M:Mem}{post:Value→Mem→Prop}(hl:args.length≤61)(h:VC e87 c87 (fnQ [.tmp 4] post) (initS args 61) M):Fn Tryz.prog 87 args M post:=
 Fn.of' (E:=e87) Tryz.func87 t87 rfl r87 mixed hl h
noncomputable def e106:Env:=⟨Tryz.prog,[],73,[]⟩
noncomputable def c106:C:=
 .seq (.reg [zA 4 0]) (.seq (.seq (.reg [zA 5 0]) (.block 0 (.loop (.seq (.seq (.reg [z3 6 5,z3 7 0,zE 8 7,zK 9 6 8]) (.cond (.tmp 9) .skip (.exit 0))) (.seq (.block 1 (.seq (.seq (.reg [z3 12 0,z3 13 5,z8 14 6 12 13,z4 15 0 14,z4 16 0 15,z5 17 1 16,z3 18 1,zN 19 17 18]) (.cond (.tmp 19) (.seq (.reg [zA 4 (-1)]) .ret) .skip)) (.seq (.reg [z3 20 1,zD 21 20 1,z3 1 21]) (.seq (.seq (.reg [z3
 22 0,z3 23 5,z8 24 6 22 23,z4 25 0 24,z4 26 1 25,z5 27 1 26,z3 28 1,zN 29 27 28]) (.cond (.tmp 29) (.seq (.reg [zA 4 (-1)]) .ret) .skip)) (.seq (.reg [z3 30 1,zD 31 30 1,z3 1 31]) (.seq (.seq (.reg [z3 32 0,z3 33 5,z8 34 6 32 33,z4 35 0 34,z4 36 2 35,z5 37 1 36,z3 38 1,zN 39 37 38]) (.cond (.tmp 39) (.seq (.reg [zA 4 (-1)]) .ret) .skip)) (.seq (.reg [z3 40 1,zD 41 40 1,z3 1 41]) (.seq (.seq
 (.reg [z3 42 0,z3 43 5,z8 44 6 42 43,z4 45 3 44,z4 46 0 45,z5 47 1 46,z3 48 1,zN 49 47 48]) (.cond (.tmp 49) (.seq (.reg [zA 4 (-1)]) .ret) .skip)) (.seq (.reg [z3 50 1,zD 51 50 1,z3 1 51]) (.seq (.seq (.reg [z3 52 0,z3 53 5,z8 54 6 52 53,z4 55 3 54,z4 56 1 55,z5 57 1 56,z3 58 1,zN 59 57 58]) (.cond (.tmp 59) (.seq (.reg [zA 4 (-1)]) .ret) .skip)) (.seq (.reg [z3 60 1,zD 61 60 1,z3 1 61])
 (.seq (.seq (.reg [z3 62 0,z3 63 5,z8 64 6 62 63,z4 65 3 64,z4 66 2 65,z5 67 1 66,z3 68 1,zN 69 67 68]) (.cond (.tmp 69) (.seq (.reg [zA 4 (-1)]) .ret) .skip)) (.reg [z3 70 1,zD 71 70 1,z3 1 71]))))))))))))) (.reg [z3 10 5,zD 11 10 1,z3 5 11])))))) (.seq (.reg [z3 72 1,z3 4 72]) .ret))
theorem t106:Tryz.f106.body.bind (trC e106)=some c106:=by kernel_rfl
theorem r106:Tryz.f106.results.toList.mapM (trR Tryz.prog)=some [.tmp 4]:=by kernel_rfl
theorem fn106{args:List Value}{M:Mem}{post:Value→Mem→Prop}(hl:args.length≤73)(h:VC e106 c106 (fnQ [.tmp 4] post) (initS args 73) M):Fn Tryz.prog 106 args M post:=
 Fn.of' (E:=e106) Tryz.func106 t106 rfl r106 mixed hl h
noncomputable def e51:Env:=⟨Tryz.prog,[],69,[]⟩
noncomputable def c51:C:=
 .seq (.reg [zA 4 0]) (.seq (.seq (.reg [zA 5 0]) (.block 0 (.loop (.seq (.seq (.reg [z3 6 5,z3 7 0,zE 8 7,zK 9 6 8]) (.cond (.tmp 9) .skip (.exit 0))) (.seq (.block 1 (.seq (.reg [z3 12 0,z3 13 5,z3 14 1,z8 15 8 12 13,z4 16 0 15,z7 1 16 14]) (.seq (.reg [z3 17 1,zD 18 17 1,z3 1 18]) (.seq (.reg [z3 19 0,z3 20 5,z3 21 1,z8 22 8 19 20,z4 23 1 22,z7 1 23 21]) (.seq (.reg [z3 24 1,zD 25 24 1,
 z3 1 25]) (.seq (.reg [z3 26 0,z3 27 5,z3 28 1,z8 29 8 26 27,z4 30 2 29,z7 1 30 28]) (.seq (.reg [z3 31 1,zD 32 31 1,z3 1 32]) (.seq (.reg [z3 33 0,z3 34 5,z3 35 1,z8 36 8 33 34,z4 37 3 36,z7 1 37 35]) (.seq (.reg [z3 38 1,zD 39 38 1,z3 1 39]) (.seq (.reg [z3 40 0,z3 41 5,z3 42 1,z8 43 8 40 41,z4 44 4 43,z7 1 44 42]) (.seq (.reg [z3 45 1,zD 46 45 1,z3 1 46]) (.seq (.reg [z3 47 0,z3 48 5,z3
 49 1,z8 50 8 47 48,z4 51 5 50,z7 1 51 49]) (.seq (.reg [z3 52 1,zD 53 52 1,z3 1 53]) (.seq (.reg [z3 54 0,z3 55 5,z3 56 1,z8 57 8 54 55,z4 58 6 57,z7 1 58 56]) (.seq (.reg [z3 59 1,zD 60 59 1,z3 1 60]) (.reg [z3 61 0,z3 62 5,z8 63 8 61 62,z4 64 7 63,z5 65 1 64,z3 66 1,zG 67 87 65 66,z3 1 67])))))))))))))))) (.reg [z3 10 5,zD 11 10 1,z3 5 11])))))) (.seq (.reg [z3 68 1,z3 4 68]) .ret))
theorem t51:Tryz.f51.body.bind (trC e51)=some c51:=by kernel_rfl
theorem r51:Tryz.f51.results.toList.mapM (trR Tryz.prog)=some [.tmp 4]:=by kernel_rfl
theorem fn51{args:List Value}{M:Mem}{post:Value→Mem→Prop}(hl:args.length≤69)(h:VC e51 c51 (fnQ [.tmp 4] post) (initS args 69) M):Fn Tryz.prog 51 args M post:=
 Fn.of' (E:=e51) Tryz.func51 t51 rfl r51 mixed hl h
noncomputable def e68:Env:=⟨Tryz.prog,[],85,[]⟩
noncomputable def c68:C:=
 .seq (.reg [zA 4 0]) (.seq (.seq (.reg [zA 5 0]) (.block 0 (.loop (.seq (.seq (.reg [z3 6 5,z3 7 0,zE 8 7,zK 9 6 8]) (.cond (.tmp 9) .skip (.exit 0))) (.seq (.block 1 (.seq (.seq (.reg [z3 12 0,z3 13 5,z8 14 8 12 13,z4 15 0 14,z5 16 1 15,z3 17 1,zN 18 16 17]) (.cond (.tmp 18) (.seq (.reg [zA 4 (-1)]) .ret) .skip)) (.seq (.reg [z3 19 1,zD 20 19 1,z3 1 20]) (.seq (.seq (.reg [z3 21 0,z3 22 5,
 z8 23 8 21 22,z4 24 1 23,z5 25 1 24,z3 26 1,zN 27 25 26]) (.cond (.tmp 27) (.seq (.reg [zA 4 (-1)]) .ret) .skip)) (.seq (.reg [z3 28 1,zD 29 28 1,z3 1 29]) (.seq (.seq (.reg [z3 30 0,z3 31 5,z8 32 8 30 31,z4 33 2 32,z5 34 1 33,z3 35 1,zN 36 34 35]) (.cond (.tmp 36) (.seq (.reg [zA 4 (-1)]) .ret) .skip)) (.seq (.reg [z3 37 1,zD 38 37 1,z3 1 38]) (.seq (.seq (.reg [z3 39 0,z3 40 5,z8 41 8 39
 40,z4 42 3 41,z5 43 1 42,z3 44 1,zN 45 43 44]) (.cond (.tmp 45) (.seq (.reg [zA 4 (-1)]) .ret) .skip)) (.seq (.reg [z3 46 1,zD 47 46 1,z3 1 47]) (.seq (.seq (.reg [z3 48 0,z3 49 5,z8 50 8 48 49,z4 51 4 50,z5 52 1 51,z3 53 1,zN 54 52 53]) (.cond (.tmp 54) (.seq (.reg [zA 4 (-1)]) .ret) .skip)) (.seq (.reg [z3 55 1,zD 56 55 1,z3 1 56]) (.seq (.seq (.reg [z3 57 0,z3 58 5,z8 59 8 57 58,z4 60 5
 59,z5 61 1 60,z3 62 1,zN 63 61 62]) (.cond (.tmp 63) (.seq (.reg [zA 4 (-1)]) .ret) .skip)) (.seq (.reg [z3 64 1,zD 65 64 1,z3 1 65]) (.seq (.seq (.reg [z3 66 0,z3 67 5,z8 68 8 66 67,z4 69 6 68,z5 70 1 69,z3 71 1,zN 72 70 71]) (.cond (.tmp 72) (.seq (.reg [zA 4 (-1)]) .ret) .skip)) (.seq (.reg [z3 73 1,zD 74 73 1,z3 1 74]) (.seq (.reg [z3 75 0,z3 76 5,z8 77 8 75 76,z4 78 7 77,z5 79 1 78,z3
 80 1,zG 81 106 79 80,z3 1 81]) (.seq (.reg [z3 82 1,zZ 83 82 0]) (.cond (.tmp 83) (.seq (.reg [zA 4 (-1)]) .ret) .skip)))))))))))))))))) (.reg [z3 10 5,zD 11 10 1,z3 5 11])))))) (.seq (.reg [z3 84 1,z3 4 84]) .ret))
theorem t68:Tryz.f68.body.bind (trC e68)=some c68:=by kernel_rfl
theorem r68:Tryz.f68.results.toList.mapM (trR Tryz.prog)=some [.tmp 4]:=by kernel_rfl
theorem fn68{args:List Value}{M:Mem}{post:Value→Mem→Prop}(hl:args.length≤85)(h:VC e68 c68 (fnQ [.tmp 4] post) (initS args 85) M):Fn Tryz.prog 68 args M post:=
 Fn.of' (E:=e68) Tryz.func68 t68 rfl r68 mixed hl h
noncomputable def e52:Env:=⟨Tryz.prog,[],19,[]⟩
noncomputable def c52:C:=
 .seq (.reg [zA 4 0]) (.seq (.seq (.reg [zA 5 0]) (.block 0 (.loop (.seq (.seq (.reg [z3 6 5,z3 7 0,zE 8 7,zK 9 6 8]) (.cond (.tmp 9) .skip (.exit 0))) (.seq (.block 1 (.seq (.reg [z3 12 0,z3 13 5,z3 14 1,z8 15 1 12 13,z7 1 15 14]) (.reg [z3 16 1,zD 17 16 1,z3 1 17]))) (.reg [z3 10 5,zD 11 10 1,z3 5 11])))))) (.seq (.reg [z3 18 1,z3 4 18]) .ret))
theorem t52:Tryz.f52.body.bind (trC e52)=some c52:=by kernel_rfl
theorem r52:Tryz.f52.results.toList.mapM (trR Tryz.prog)=some [.tmp 4]:=by kernel_rfl
theorem fn52{args:List Value}{M:Mem}{post:Value→Mem→Prop}(hl:args.length≤19)(h:VC e52 c52 (fnQ [.tmp 4] post) (initS args 19) M):Fn Tryz.prog 52 args M post:=
 Fn.of' (E:=e52) Tryz.func52 t52 rfl r52 mixed hl h
noncomputable def e69:Env:=⟨Tryz.prog,[],21,[]⟩
noncomputable def c69:C:=
 .seq (.reg [zA 4 0]) (.seq (.seq (.reg [zA 5 0]) (.block 0 (.loop (.seq (.seq (.reg [z3 6 5,z3 7 0,zE 8 7,zK 9 6 8]) (.cond (.tmp 9) .skip (.exit 0))) (.seq (.block 1 (.seq (.seq (.reg [z3 12 0,z3 13 5,z8 14 1 12 13,z5 15 1 14,z3 16 1,zN 17 15 16]) (.cond (.tmp 17) (.seq (.reg [zA 4 (-1)]) .ret) .skip)) (.reg [z3 18 1,zD 19 18 1,z3 1 19]))) (.reg [z3 10 5,zD 11 10 1,z3 5 11])))))) (.seq
 (.reg [z3 20 1,z3 4 20]) .ret))
theorem t69:Tryz.f69.body.bind (trC e69)=some c69:=by kernel_rfl
theorem r69:Tryz.f69.results.toList.mapM (trR Tryz.prog)=some [.tmp 4]:=by kernel_rfl
theorem fn69{args:List Value}{M:Mem}{post:Value→Mem→Prop}(hl:args.length≤21)(h:VC e69 c69 (fnQ [.tmp 4] post) (initS args 21) M):Fn Tryz.prog 69 args M post:=
 Fn.of' (E:=e69) Tryz.func69 t69 rfl r69 mixed hl h
noncomputable def e21:Env:=⟨Tryz.prog,[2],18,[]⟩
noncomputable def c21:C:=
 .seq (.reg [zO 2 0,zA 4 0]) (.seq (.reg [z4 5 3 2,z5 6 1 5,z3 7 1,zG 8 50 6 7,z3 1 8]) (.seq (.reg [z4 9 4 2,z5 10 1 9,z3 11 1,zG 12 51 10 11,z3 1 12]) (.seq (.reg [z4 13 8 2,z5 14 1 13,z3 15 1,zG 16 52 14 15,z3 1 16]) (.seq (.reg [z3 17 1,z3 4 17]) .ret))))
theorem t21:Tryz.f21.body.bind (trC e21)=some c21:=by kernel_rfl
theorem r21:Tryz.f21.results.toList.mapM (trR Tryz.prog)=some [.tmp 4]:=by kernel_rfl
theorem fn21{args:List Value}{M:Mem}{post:Value→Mem→Prop}(hl:args.length≤18)(h:VC e21 c21 (fnQ [.tmp 4] post) (initS args 18) M):Fn Tryz.prog 21 args M post:=
 Fn.of' (E:=e21) Tryz.func21 t21 rfl r21 mixed hl h
noncomputable def e34:Env:=⟨Tryz.prog,[2],24,[]⟩
noncomputable def c34:C:=
 .seq (.reg [zO 2 0,zA 4 0]) (.seq (.reg [z4 5 3 2,z5 6 1 5,z3 7 1,zG 8 67 6 7,z3 1 8]) (.seq (.seq (.reg [z3 9 1,zZ 10 9 0]) (.cond (.tmp 10) (.seq (.reg [zA 4 (-1)]) .ret) .skip)) (.seq (.reg [z4 11 4 2,z5 12 1 11,z3 13 1,zG 14 68 12 13,z3 1 14]) (.seq (.seq (.reg [z3 15 1,zZ 16 15 0]) (.cond (.tmp 16) (.seq (.reg [zA 4 (-1)]) .ret) .skip)) (.seq (.reg [z4 17 8 2,z5 18 1 17,z3 19 1,zG 20
 69 18 19,z3 1 20]) (.seq (.seq (.reg [z3 21 1,zZ 22 21 0]) (.cond (.tmp 22) (.seq (.reg [zA 4 (-1)]) .ret) .skip)) (.seq (.reg [z3 23 1,z3 4 23]) .ret)))))))
theorem t34:Tryz.f34.body.bind (trC e34)=some c34:=by kernel_rfl
theorem r34:Tryz.f34.results.toList.mapM (trR Tryz.prog)=some [.tmp 4]:=by kernel_rfl
theorem fn34{args:List Value}{M:Mem}{post:Value→Mem→Prop}(hl:args.length≤24)(h:VC e34 c34 (fnQ [.tmp 4] post) (initS args 24) M):Fn Tryz.prog 34 args M post:=
 Fn.of' (E:=e34) Tryz.func34 t34 rfl r34 mixed hl h
noncomputable def e5:Env:=⟨Tryz.prog,[],12,[]⟩
noncomputable def c5:C:=
 .seq (.reg [zA 4 0]) (.seq (.reg [z3 5 1,z3 6 0,zE 7 6,qQ 8 5 7,z3 1 8]) (.seq (.seq (.reg [z3 9 1,zZ 10 9 0]) (.cond (.tmp 10) (.seq (.reg [zA 4 (-1)]) .ret) .skip)) (.seq (.reg [z3 11 1,z3 4 11]) .ret)))
theorem t5:Tryz.f5.body.bind (trC e5)=some c5:=by kernel_rfl
theorem r5:Tryz.f5.results.toList.mapM (trR Tryz.prog)=some [.tmp 4]:=by kernel_rfl
theorem fn5{args:List Value}{M:Mem}{post:Value→Mem→Prop}(hl:args.length≤12)(h:VC e5 c5 (fnQ [.tmp 4] post) (initS args 12) M):Fn Tryz.prog 5 args M post:=
 Fn.of' (E:=e5) Tryz.func5 t5 rfl r5 mixed hl h
noncomputable def e17:Env:=⟨Tryz.prog,[1,2,3],20,[]⟩
noncomputable def c17:C:=
 .seq (.reg [zO 1 0,qZ 2 0 0 0 0 0]) (.seq (.reg [qZ 3 0 0 0 0 0]) (.seq (.reg [z4 4 0 1,z5 5 1 4,z4 6 0 3,z7 1 6 5]) (.seq (.reg [z4 7 1 1,z5 8 1 7,z4 9 1 3,z7 1 9 8]) (.seq (.reg [z4 10 2 1,z5 11 1 10,z4 12 2 3,z7 1 12 11]) (.seq (.reg [z4 13 3 1,z5 14 1 13,z4 15 3 3,z7 1 15 14]) (.seq (.reg [z4 16 4 1,z5 17 1 16,z4 18 4 3,z7 1 18 17]) (.seq (.reg [z9 19 5 3,z7 5 2 19]) .ret)))))))
theorem t17:Tryz.f17.body.bind (trC e17)=some c17:=by kernel_rfl
theorem r17:Tryz.f17.results.toList.mapM (trR Tryz.prog)=some [.cell 2 false 5]:=by kernel_rfl
theorem fn17{args:List Value}{M:Mem}{post:Value→Mem→Prop}(hl:args.length≤20)(h:VC e17 c17 (fnQ [.cell 2 false 5] post) (initS args 20) M):Fn Tryz.prog 17 args M post:=
 Fn.of' (E:=e17) Tryz.func17 t17 rfl r17 mixed hl h
noncomputable def e7:Env:=⟨Tryz.prog,[],23,[]⟩
noncomputable def c7:C:=
 .seq (.reg [zi 2 0 0]) (.seq (.reg [z3 5 0,zE 6 5,⟨some 7,none,.mkslice 5 40 [.int .i64 0,.int .i64 0,.int .i64 0,.int .i64 0,.int .i64 0] (.tmp 6) (.tmp 6)⟩,z3 3 7]) (.seq (.seq (.reg [zA 4 0]) (.block 0 (.loop (.seq (.seq (.reg [z3 8 4,z3 9 0,zE 10 9,zK 11 8 10]) (.cond (.tmp 11) .skip (.exit 0))) (.seq (.block 1 (.reg [z3 14 3,z3 15 4,z3 16 0,z3 17 4,z8 18 5 16 17,z9 19 5 18,zI 20 17 19,
 z8 21 5 14 15,z7 5 21 20])) (.reg [z3 12 4,zD 13 12 1,z3 4 13])))))) (.seq (.reg [z3 22 3,z3 2 22]) .ret)))
theorem t7:Tryz.f7.body.bind (trC e7)=some c7:=by kernel_rfl
theorem r7:Tryz.f7.results.toList.mapM (trR Tryz.prog)=some [.tmp 2]:=by kernel_rfl
theorem fn7{args:List Value}{M:Mem}{post:Value→Mem→Prop}(hl:args.length≤23)(h:VC e7 c7 (fnQ [.tmp 2] post) (initS args 23) M):Fn Tryz.prog 7 args M post:=
 Fn.of' (E:=e7) Tryz.func7 t7 rfl r7 mixed hl h
noncomputable def e11:Env:=⟨Tryz.prog,[],48,[]⟩
noncomputable def c11:C:=
 .seq (.reg [zA 4 0]) (.seq (.seq (.reg [zA 5 0]) (.block 0 (.loop (.seq (.seq (.reg [z3 6 5,z3 7 0,zE 8 7,zK 9 6 8]) (.cond (.tmp 9) .skip (.exit 0))) (.seq (.block 1 (.seq (.reg [z3 12 0,z3 13 5,z3 14 1,z8 15 5 12 13,z4 16 0 15,z7 1 16 14]) (.seq (.reg [z3 17 1,zD 18 17 1,z3 1 18]) (.seq (.reg [z3 19 0,z3 20 5,z3 21 1,z8 22 5 19 20,z4 23 1 22,z7 1 23 21]) (.seq (.reg [z3 24 1,zD 25 24 1,
 z3 1 25]) (.seq (.reg [z3 26 0,z3 27 5,z3 28 1,z8 29 5 26 27,z4 30 2 29,z7 1 30 28]) (.seq (.reg [z3 31 1,zD 32 31 1,z3 1 32]) (.seq (.reg [z3 33 0,z3 34 5,z3 35 1,z8 36 5 33 34,z4 37 3 36,z7 1 37 35]) (.seq (.reg [z3 38 1,zD 39 38 1,z3 1 39]) (.seq (.reg [z3 40 0,z3 41 5,z3 42 1,z8 43 5 40 41,z4 44 4 43,z7 1 44 42]) (.reg [z3 45 1,zD 46 45 1,z3 1 46]))))))))))) (.reg [z3 10 5,zD 11 10 1,
 z3 5 11])))))) (.seq (.reg [z3 47 1,z3 4 47]) .ret))
theorem t11:Tryz.f11.body.bind (trC e11)=some c11:=by kernel_rfl
theorem r11:Tryz.f11.results.toList.mapM (trR Tryz.prog)=some [.tmp 4]:=by kernel_rfl
theorem fn11{args:List Value}{M:Mem}{post:Value→Mem→Prop}(hl:args.length≤48)(h:VC e11 c11 (fnQ [.tmp 4] post) (initS args 48) M):Fn Tryz.prog 11 args M post:=
 Fn.of' (E:=e11) Tryz.func11 t11 rfl r11 mixed hl h
end Go.Proofs.YtpleoapljeffiaaGreatDoor.E
set_option linter.unusedSimpArgs false
namespace Go.Proofs.YtpleoapljeffiaaGreatDoor.E
open Go
open Classical
theorem szActS_q{M:Mem}{va:Value}{xs:List Act}{l:Int}(h0:0≤l)(h1:l≤1048576)(ha:SlR M 5 av va xs):Qt Tryz.prog 5 [va,.int .i64 l] M (.int .i64 (if(xs.length:Int)≤l then l-xs.length else-1)):=by
 obtain⟨aa,ca,ea⟩:=ha.len
 have hbd:=ha.bound
 refine fn5 (by simp) ?_
 subst ea
 repeat' (first
  |(refine vl_sub rfl rfl (by omega) ?_)
  |(refine vl_pure rfl ?_)
  |(refine vl_nil ?_)
  |(refine VC.seq ?_)
  |(refine VC.regV ?_)
  |(refine VC.ret ?_)
  |(refine VC.skip ?_)
  |(refine seqQ_n ?_)
  |(refine seqQ_r ?_)
  |(refine VC.cond _ rfl (fun hb=>?_) (fun hb=>?_)))
 all_goals (refine fnQ_r rfl (Mem.le_refl _) (q_end ?_))
 ·have h:l-(xs.length:Int)<0:=by simpa using hb
  rw[if_neg (by omega)]
 ·have h:¬l-(xs.length:Int)<0:=by simpa using hb
  rw[if_pos (by omega)]
def pairsN(cs:List Cell):Int:=(cs.map fun c=>(c.pairs.length:Int)).sum
theorem pairsN_nonneg(cs:List Cell):0≤pairsN cs:=by
 unfold pairsN
 induction cs with
 |nil=>simp
 |cons c r ih=>simp only[List.map_cons,List.sum_cons];omega
theorem toAct_q{M:Mem}{a:Act}:Qt Tryz.prog 17 [aa a] M (aa a):=by
 refine fn17 (by simp) ?_
 repeat' (first
  |(refine vl_pure rfl ?_)
  |(refine vl_nil ?_)
  |(refine VC.seq ?_)
  |(refine VC.regV ?_)
  |(refine vl_alloc ?_)
  |(refine vl_stw rfl rfl rfl rfl (by first|rfl|assumption) (Nat.le_of_ble_eq_true rfl) ?_)
  |(refine sk_zero ?_)
  |(refine sk_succ ?_)
  |(refine wk_nil ?_)
  |(refine wk_cons ?_)
  |(refine vl_box rfl rfl ?_)
  |(refine VC.ret ?_))
 refine fnQ_r rfl (Mem.le_refl _) (q_end ?_)
 rfl
def fillL{α:Type}(z:α)(xs:List α)(i:Nat):List α:=xs.take i++List.replicate (xs.length-i) z
theorem fillL_zero{α:Type}(z:α)(xs:List α):fillL z xs 0=List.replicate xs.length z:=by simp[fillL]
theorem fillL_all{α:Type}(z:α)(xs:List α){i:Nat}(h:xs.length≤i):fillL z xs i=xs:=by
 unfold fillL;rw[List.take_of_length_le h,show xs.length-i=0 by omega];simp
theorem fillL_get{α:Type}{z:α}{xs:List α}{i:Nat}(h:i<xs.length):(fillL z xs i)[i]?=some z:=by
 unfold fillL
 rw[List.getElem?_append_right (by simp;omega),List.length_take,Nat.min_eq_left (by omega),Nat.sub_self]
 obtain⟨n,hn⟩:∃n,xs.length-i=n+1:=⟨xs.length-i-1,by omega⟩
 rw[hn,List.replicate_succ,List.getElem?_cons_zero]
theorem fillL_set{α:Type}{z x:α}{xs:List α}{i:Nat}(h:xs[i]?=some x):(fillL z xs i).set i x=fillL z xs (i+1):=by
 have hi:=(List.getElem?_eq_some_iff.1 h).1
 unfold fillL
 rw[List.set_append_right _ _ (by simp;omega),List.take_add_one,h]
 simp only[List.length_take,Nat.min_eq_left (Nat.le_of_lt hi),Nat.sub_self]
 obtain⟨n,hn⟩:∃n,xs.length-i=n+1:=⟨xs.length-i-1,by omega⟩
 rw[hn,List.replicate_succ,List.set_cons_zero,show xs.length-(i+1)=n by omega]
 simp
theorem toActS_f{M:Mem}{va:Value}{xs:List Act}(hn:xs.length≤1048576)(ha:SlR M 5 av va xs):Fn Tryz.prog 7 [va] M (fun v M'=>∃b,M b=none∧Off M b M'∧own v=[b]∧Sl M' 5 av v xs):=by
 obtain⟨aa,ca,ea⟩:=ha.len
 refine fn7 (by simp) ?_
 subst ea
 repeat' (first
  |(refine vl_pure rfl ?_)
  |(refine vl_nil ?_)
  |(refine VC.seq ?_)
  |(refine VC.regV ?_))
 refine vl_mks (f:=av) ⟨0,0,0,0,0⟩ (fun _=>rfl) rfl rfl rfl (Nat.le_refl _) (by omega) (by omega) (fun b M1 hMb hoff hsl=>?_)
 rw[←fillL_zero]at hsl
 repeat' (first
  |(refine vl_pure rfl ?_)
  |(refine vl_nil ?_)
  |(refine VC.seq ?_)
  |(refine VC.regV ?_)
  |(refine VC.block ?_))
 refine VC.loop (α:=Nat) (fun i=>[(0,.v (.slice aa xs.length ca)),(3,.v (.slice (some ⟨b,0,none⟩) xs.length xs.length)),(4,.v (.int .i64 i))]) (fun k i M'=>k=xs.length-i∧i≤xs.length∧Off M b M'∧Sl M' 5 av (.slice (some ⟨b,0,none⟩) xs.length xs.length) (fillL ⟨0,0,0,0,0⟩ xs i))
  ⟨_,0,_,⟨rfl,rfl,rfl,trivial⟩,Mem.le_refl _,rfl,Nat.zero_le _,hoff,hsl⟩ ?_
 rintro k i M2 ⟨rfl,hi,hoff,hsl⟩
 repeat' (first
  |(refine vl_pure rfl ?_)
  |(refine vl_nil ?_)
  |(refine VC.seq ?_)
  |(refine VC.regV ?_)
  |(refine seqQ_n ?_))
 refine VC.cond _ rfl (fun h=>?_) (fun h=>?_)
 ·have hi:i<xs.length:=by simpa using h
  obtain⟨x,gx⟩:∃x,xs[i]?=some x:=⟨_,List.getElem?_eq_getElem hi⟩
  obtain⟨b1,o1,rfl,h1⟩:=(ha.le (hoff.le hMb)).at2 (fun _=>rfl) gx
  repeat' (first
   |(refine vl_pure rfl ?_)
   |(refine VC.seq ?_)
   |(refine VC.regV ?_)
   |(refine vl_idx rfl rfl (by omega) ?_)
   |(refine vl_lds rfl (by first|exact h1) ?_)
   |(refine vl_cq rfl (toAct_q) ?_)
   |(refine VC.block ?_)
   |(refine VC.skip ?_))
  refine vl_sts x hsl (fun _=>rfl) (fillL_get hi) (i:=i) (j:=0) rfl rfl rfl rfl (Nat.le_of_ble_eq_true rfl) rfl (fun M3 o3 s3=>?_)
  rw[fillL_set gx]at s3
  repeat' (first
   |(refine vl_add rfl rfl (by omega) ?_)
   |(refine vl_pure rfl ?_)
   |(refine vl_nil ?_)
   |(refine VC.regV ?_)
   |(refine seqQ_n ?_))
  refine⟨_,i+1,_,?_,⟨rfl,rfl,rfl,trivial⟩,Mem.le_refl _,rfl,hi,hoff.trans o3,s3⟩
  omega
 ·have hi:¬i<xs.length:=by simpa using h
  repeat' (first
   |(refine vl_pure rfl ?_)
   |(refine vl_nil ?_)
   |(refine VC.seq ?_)
   |(refine VC.regV ?_)
   |(refine VC.ret ?_)
   |(refine VC.exit ?_))
  refine fnQ_r rfl (Mem.le_refl _) ⟨b,hMb,hoff,rfl,?_⟩
  rwa [fillL_all _ _ (by omega)]at hsl
structure CL (M:Mem) (v:Value) (ys:List CS):Prop where
 sl:Sl M 8 csv v ys
 ps:∀y,y∈ys→Sl M 6 pv y.s y.c.pairs
def fpC(v:Value)(ys:List CS):List Nat:=own v++ys.flatMap fun y=>own y.s
structure HS where
 H:Heap
 rs:Value
 cs:Value
 gs:Value
 xs:List CS
def HS.v(x:HS):Value:=.agg (hv x.H x.rs x.cs x.gs).toArray
def HS.fp(x:HS):List Nat:=own x.rs++(fpC x.cs x.xs++own x.gs)
structure RHV (M:Mem) (x:HS):Prop where
 regs:Sl M 3 wv x.rs x.H.regs
 cl:CL M x.cs x.xs
 eq:x.xs.map (·.c)=x.H.cells
 gray:Sl M 1 iv x.gs x.H.gray
structure CLR (M:Mem) (v:Value) (ys:List CS):Prop where
 sl:SlR M 8 csv v ys
 ps:∀y,y∈ys→SlR M 6 pv y.s y.c.pairs
structure RHVR (M:Mem) (x:HS):Prop where
 regs:SlR M 3 wv x.rs x.H.regs
 cl:CLR M x.cs x.xs
 eq:x.xs.map (·.c)=x.H.cells
 gray:SlR M 1 iv x.gs x.H.gray
structure WHV (M:Mem) (x:HS):Prop where
 r:RHV M x
 nd:x.fp.Nodup
def OffL(M:Mem)(L:List Nat)(M':Mem):Prop:=∀b k,M b=some k→b∉L→M' b=some k
theorem Sl.own_some{M:Mem}{α:Type}{f:α→List Value}{size:Nat}{v:Value}{xs:List α}(h:Sl M size f v xs){c:Nat}(hc:c∈own v):M c≠none:=by
 rcases h with⟨c,rfl,_⟩|⟨b,o,cap,row,rfl,hM,_⟩
 ·simp[own]at hc
 ·simp[own]at hc;subst hc;rw[hM];simp
theorem Sl.offL{M M':Mem}{α:Type}{f:α→List Value}{size:Nat}{v:Value}{xs:List α}{L:List Nat}(h:Sl M size f v xs)(o:OffL M L M')(hb:∀b,b∈own v→b∉L):Sl M' size f v xs:=by
 rcases h with h|⟨b',o',cap,row,rfl,hM,h3⟩
 ·exact .inl h
 ·exact .inr ⟨b',o',cap,row,rfl,o _ _ hM (hb _ (by simp[own])),h3⟩
theorem CL.le{M M':Mem}{v:Value}{ys:List CS}(h:CL M v ys)(l:M.le M'):CL M' v ys:=⟨h.sl.le l,fun y hy=>(h.ps y hy).le l⟩
theorem CLR.le{M M':Mem}{v:Value}{ys:List CS}(h:CLR M v ys)(l:M.le M'):CLR M' v ys:=⟨h.sl.le l,fun y hy=>(h.ps y hy).le l⟩
theorem RHVR.le{M M':Mem}{x:HS}(h:RHVR M x)(l:M.le M'):RHVR M' x:=⟨h.regs.le l,h.cl.le l,h.eq,h.gray.le l⟩
theorem RHV.le{M M':Mem}{x:HS}(h:RHV M x)(l:M.le M'):RHV M' x:=⟨h.regs.le l,h.cl.le l,h.eq,h.gray.le l⟩
theorem WHV.le{M M':Mem}{x:HS}(h:WHV M x)(l:M.le M'):WHV M' x:=⟨h.r.le l,h.nd⟩
theorem RHV.offL{M M':Mem}{x:HS}{L:List Nat}(h:RHV M x)(o:OffL M L M')(hb:∀b,b∈x.fp→b∉L):RHV M' x where
 regs:=h.regs.offL o fun b m=>hb b (by simp[HS.fp,m])
 cl:=⟨h.cl.sl.offL o fun b m=>hb b (by simp[HS.fp,fpC,m]),fun y hy=>(h.cl.ps y hy).offL o fun b m=>hb b (by
  simp only[HS.fp,fpC,List.mem_append,List.mem_flatMap];exact .inr (.inl (.inr ⟨y,hy,m⟩)))⟩
 eq:=h.eq
 gray:=h.gray.offL o fun b m=>hb b (by simp[HS.fp,m])
theorem WHV.offL{M M':Mem}{x:HS}{L:List Nat}(h:WHV M x)(o:OffL M L M')(hb:∀b,b∈x.fp→b∉L):WHV M' x:=⟨h.r.offL o hb,h.nd⟩
theorem eqHeap_q{M:Mem}{x y:HS}(hx:RHV M x)(hy:RHV M y):Qt Tryz.prog 20 [x.v,y.v] M (.bool (decide (x.H=y.H))):=by
 refine fn20 (by simp) ?_
 repeat' (first
  |(refine vl_pure rfl ?_)
  |(refine vl_nil ?_)
  |(refine VC.seq ?_)
  |(refine VC.regV ?_)
  |(refine vl_box rfl rfl ?_)
  |(refine vl_cq rfl (eqWordS_q hx.regs hy.regs) ?_)
  |(refine vl_cq rfl (eqCellS_q hx.cl.sl hy.cl.sl hx.cl.ps hy.cl.ps) ?_)
  |(refine vl_cq rfl (eqIntS_q hx.gray hy.gray) ?_)
  |(refine VC.ret ?_)
  |(refine VC.skip ?_)
  |(refine seqQ_n ?_)
  |(refine seqQ_r ?_)
  |(refine VC.cond _ rfl (fun hb=>?_) (fun hb=>?_)))
 all_goals (refine fnQ_r rfl (Mem.le_refl _) (q_end ?_))
 all_goals (obtain⟨⟨⟩,_,_,_,_⟩:=x;obtain⟨⟨⟩,_,_,_,_⟩:=y;have e1:=hx.eq;have e2:=hy.eq;simp_all)
end Go.Proofs.YtpleoapljeffiaaGreatDoor.E
namespace Go.Proofs.YtpleoapljeffiaaGreatDoor.E
open Go
def Formed(H:Heap)(w:Word):Prop:=(w.kind=0∧w.num=0∧w.at_=0)∨(w.kind=1∧w.at_=0)∨(w.kind=2∧w.num=0∧0≤w.at_∧w.at_<H.cells.length)
def Bare(c:Cell):Prop:=c.kind=0∧c.weak=0∧c.last=0∧c.born=0∧c.color=0∧c.pairs=[]
def Doomed(H:Heap)(i:Int):Prop:=H.phase=3∧(H.getC i).state=1∧(H.getC i).color=0∧H.hand≤i
def Marking(H:Heap):Prop:=H.phase=1∨H.phase=2
def Mended(H:Heap)(i k:Int):Prop:=H.phase≠4∧(H.phase=5→i<H.hand∨i=H.hand∧k<H.sub)
def Root(c:Cell):Prop:=c.state=1∧(c.last=1∨c.last=2)
def LeadsWell(H:Heap)(w:Word)(moved:Prop):Prop:=w.kind=2→((H.getC w.at_).state=1∧¬Doomed H w.at_)∨((H.getC w.at_).state=2∧moved)
def White(H:Heap)(w:Word):Prop:=w.kind=2∧(H.getC w.at_).color=0
structure R1 (H:Heap):Prop where
 room:1≤H.room∧H.room≤4000
 regs:H.regs.length=16
 cells:(H.cells.length:Int)≤2*H.room
 gray:H.gray.length≤H.cells.length
 born:0≤H.born∧H.born≤1000000000
 rounds:0≤H.rounds∧H.rounds≤1000000000
 forced:0≤H.forced∧H.forced≤1000000000
 per:0≤H.per∧H.per≤64
 start:0≤H.start∧H.start≤4000
 phase:0≤H.phase∧H.phase≤6
 hand:0≤H.hand∧H.hand≤H.cells.length
 sub:0≤H.sub∧H.sub≤200
def UsedOk(H:Heap)(c:Cell):Prop:=c.state=1∧(0≤c.kind∧c.kind≤255)∧(0≤c.weak∧c.weak≤3)∧(0≤c.last∧c.last≤3)∧(1≤c.born∧c.born≤H.born)∧(0≤c.color∧c.color≤2)∧c.to=0∧c.pairs.length≤200
def MovedOk(H:Heap)(i:Int)(c:Cell):Prop:=c.state=2∧Bare c∧4≤H.phase∧(0≤c.to∧c.to<i)∧(H.getC c.to).state=1∧(H.phase=4→∀k:Int,0≤k→k<c.to→(H.getC k).state≠0)
structure R2 (H:Heap):Prop where
 each:∀(i:Nat) c,H.cells[i]?=some c→(c.state=0∧Bare c∧c.to=0)∨MovedOk H i c∨UsedOk H c
 born:∀(i j:Nat) c d,H.cells[i]?=some c→H.cells[j]?=some d→i<j→c.state=1→d.state=1→c.born≠d.born
 to:∀(i j:Nat) c d,H.cells[i]?=some c→H.cells[j]?=some d→i<j→c.state=2→d.state=2→c.to≠d.to
def Cell.units(c:Cell):Int:=if c.state=1 then 1+c.pairs.length else 0
def unitsN(cs:List Cell):Int:=(cs.map Cell.units).sum
def R3(H:Heap):Prop:=unitsN H.cells=H.used∧H.used≤H.room
structure R4 (H:Heap):Prop where
 regs:∀w,w∈H.regs→Formed H w∧LeadsWell H w False
 roots:∀(i:Nat) c,H.cells[i]?=some c→Doomed H i→¬Root c
 pairs:∀(i:Nat) c,H.cells[i]?=some c→∀(k:Nat) p,c.pairs[k]?=some p→Formed H p.key∧Formed H p.val∧(¬Doomed H i→LeadsWell H p.key (¬Mended H i k)∧LeadsWell H p.val (¬Mended H i k))
structure R5 (H:Heap):Prop where
 mark:Marking H→H.gray.Nodup∧(∀g,g∈H.gray→0≤g∧g<H.cells.length∧(H.getC g).state=1∧(H.getC g).color=1)∧∀(i:Nat) c,H.cells[i]?=some c→c.color=1→(i:Int)∈H.gray
 else_:¬Marking H→H.gray=[]∧∀(i:Nat) c,H.cells[i]?=some c→c.color≠1∧(c.color=2→H.phase=3∧H.hand≤i)
def R6(H:Heap):Prop:=
 if H.phase=0∨H.phase=4 then H.hand=0∧H.sub=0
 else if H.phase=2 then H.hand=0∧(match H.gray with|[]=>H.sub=0|g::_=>H.sub≤(H.getC g).pairs.length)
 else if H.phase=5 then(if H.hand<H.cells.length∧(H.getC H.hand).state=1 then H.sub≤(H.getC H.hand).pairs.length else H.sub=0)
 else H.sub=0
def scanned(H:Heap)(i:Int)(c:Cell):Int:=
 if c.color=2 then c.pairs.length else if H.phase=2∧H.gray.head?=some i then H.sub else 0
def R7(H:Heap):Prop:=Marking H→∀(i:Nat) c,H.cells[i]?=some c→(Root c→c.color=0→H.phase≠2∧H.hand≤i)∧∀(k:Nat) p,c.pairs[k]?=some p→(k:Int)<scanned H i c→¬White H p.key∧¬White H p.val
def R8(H:Heap):Prop:=H.phase=6→∀(i:Nat) c,H.cells[i]?=some c→H.hand≤i→c.state≠2
open Classical in
structure Sound (H:Heap):Prop where
 r1:R1 H
 r2:R2 H
 r3:R3 H
 r4:R4 H
 r5:R5 H
 r6:R6 H
 r7:R7 H
 r8:R8 H
theorem star_perm{As Bs:List Asr}(h:As.Perm Bs):∀{m:Mem},star As m→star Bs m:=by
 induction h with
 |nil=>exact fun h=>h
 |cons A _ ih=>exact fun h=>star_cons_mono h (fun _ h=>h) (fun _ h=>ih h)
 |swap A B l=>exact fun h=>star_swap h
 |trans _ _ ih1 ih2=>exact fun h=>ih2 (ih1 h)
theorem star_in{As R:List Asr}{m:Mem}:star (star As::R) m↔star (As++R) m:=by
 constructor
 ·rintro⟨a,b,d,rfl,h1,h2⟩;exact star_append.2 ⟨a,b,d,rfl,h1,h2⟩
 ·intro h;obtain⟨a,b,d,rfl,h1,h2⟩:=star_append.1 h;exact⟨a,b,d,rfl,h1,h2⟩
theorem ent_of{As Bs:List Asr}(h:∀m,star As m→star Bs m):Ent As Bs:=⟨fun m hm=>⟨m,Mem.le_refl _,h m hm⟩⟩
theorem ent_h{A B:Asr}{r:List Asr}(h:∀m,A m→B m):Ent (A::r) (B::r):=ent_of fun m hm=>star_cons_mono hm h (fun _ h=>h)
theorem Ent.cons{A:Asr}{r s:List Asr}(h:Ent r s):Ent (A::r) (A::s):=⟨fun m ⟨a,b,d,e,hA,hr⟩=>by
 subst e
 obtain⟨b',l,s'⟩:=h.out b hr
 have d':Disj a b':=fun x=>by
  rcases d x with h|h
  ·exact .inl h
  ·exact .inr (le_none l h)
 refine⟨a.un b',?_,a,b',d',rfl,hA,s'⟩
 intro x k hk
 cases ha:a x with
 |some k'=>rw[un_l ha]at hk;cases hk;exact un_l ha
 |none=>rw[un_n ha]at hk;exact un_r d (l x k hk)⟩
def CS.d(y:CS):D:=⟨y.sa,y.cap⟩
def prA(ys:List CS):Asr:=star (ys.map fun y=>slA 6 pv y.d y.c.pairs)
def clA(cd:D)(ys:List CS):Asr:=star [slA 8 csv cd ys,prA ys]
theorem cl_open{cd:D}{ys:List CS}{R:List Asr}:Ent (clA cd ys::R) (slA 8 csv cd ys::prA ys::R):=ent_of fun m h=>star_in.1 h
theorem cl_close{cd:D}{ys:List CS}{R:List Asr}:Ent (slA 8 csv cd ys::prA ys::R) (clA cd ys::R):=ent_of fun m h=>star_in.2 h
theorem erase_perm{α:Type}:∀{l:List α} {i:Nat} (h:i<l.length),(l[i]::l.eraseIdx i).Perm l
 |a::l,0,_=>.refl _
 |a::l,i+1,h=>by
  simp only[List.getElem_cons_succ,List.eraseIdx_cons_succ]
  exact(List.Perm.swap _ _ _).trans (.cons a (erase_perm (by simpa using h)))
theorem pr_out{ys:List CS}{i:Nat}{y:CS}(hi:ys[i]?=some y){m:Mem}(h:prA ys m):star [slA 6 pv y.d y.c.pairs,prA (ys.eraseIdx i)] m:=by
 obtain⟨hlt,e⟩:=List.getElem?_eq_some_iff.1 hi
 have hp:=(erase_perm hlt).symm.map (fun y:CS=>slA 6 pv y.d y.c.pairs)
 have:=star_perm hp h
 rw[e]at this
 obtain⟨a,b,d,e1,h1,h2⟩:=this
 exact⟨a,b,d,e1,h1,b,emp,disj_emp _,(un_emp _).symm,h2,rfl⟩
theorem pr_in{ys:List CS}{i:Nat}{y':CS}(hi:i<ys.length){m:Mem}(h:star [slA 6 pv y'.d y'.c.pairs,prA (ys.eraseIdx i)] m):prA (ys.set i y') m:=by
 have hlt:i<(ys.set i y').length:=by simpa using hi
 have hp:=(erase_perm hlt).map (fun y:CS=>slA 6 pv y.d y.c.pairs)
 rw[List.getElem_set_self,List.eraseIdx_set_eq]at hp
 refine star_perm hp ?_
 obtain⟨a,b,d,e1,h1,b',e',d2,e2,h2,h3⟩:=h
 have h3:e'=emp:=h3
 subst h3
 rw[un_emp]at e2;subst e2
 exact⟨a,b,d,e1,h1,h2⟩
theorem pr_set{ys:List CS}{i:Nat}{y y':CS}(hi:ys[i]?=some y)(h1:y'.d=y.d)(h2:y'.c.pairs=y.c.pairs):prA (ys.set i y')=prA ys:=by
 unfold prA
 congr 1
 rw[List.map_set]
 apply List.ext_getElem?
 intro j
 rw[List.getElem?_set]
 split
 ·rename_i e;subst e
  split
  ·rw[List.getElem?_map,hi,h1,h2];rfl
  ·rename_i hlt
   have:=(List.getElem?_eq_some_iff.1 hi).1
   simp at hlt;omega
 ·rfl
theorem slA_congr{α:Type}{f:α→List Value}{size:Nat}{d:D}{xs ys:List α}(h1:xs.flatMap f=ys.flatMap f)(h2:xs.length=ys.length):slA size f d xs=slA size f d ys:=by
 have hz:(xs=[]↔ys=[]):=by rw[←List.length_eq_zero_iff,←List.length_eq_zero_iff,h2]
 funext m
 unfold slA Sl
 rw[h1,h2]
 simp only[hz]
theorem flat_set{α:Type}{f:α→List Value}{xs:List α}{i:Nat}{x x':α}(hi:xs[i]?=some x)(h:f x'=f x):(xs.set i x').flatMap f=xs.flatMap f:=by
 induction xs generalizing i with
 |nil=>simp at hi
 |cons a r ih=>
  cases i with
  |zero=>simp only[List.getElem?_cons_zero,Option.some.injEq]at hi;subst hi;simp[h]
  |succ i=>simp only[List.getElem?_cons_succ]at hi;simp[ih hi]
theorem csv_len(y:CS):(csv y).length=8:=rfl
theorem pv_len(p:Pair):(pv p).length=6:=rfl
theorem wv_len(w:Word):(wv w).length=3:=rfl
theorem iv_len(n:Int):(iv n).length=1:=rfl
theorem bv_len(n:Bool):(bv n).length=1:=rfl
section
variable {cd:D} {ys:List CS} {i:Nat} {y:CS}
theorem clA_l{m:Mem}(h:clA cd ys m):∃a,a.le m∧slA 8 csv cd ys a:=by
 obtain⟨a,b,d,e,h1,_⟩:=h
 exact⟨a,by rw[e];exact le_l _ _,h1⟩
theorem clA_p{m:Mem}(h:clA cd ys m)(hi:ys[i]?=some y):∃a,a.le m∧slA 6 pv y.d y.c.pairs a:=by
 obtain⟨a,b,d,e,_,b',e',d2,e2,h2,h3⟩:=h
 have h3:e'=emp:=h3
 subst h3
 rw[un_emp]at e2;subst e2
 obtain⟨a',c,d3,e3,h4,_⟩:=pr_out hi h2
 exact⟨a',by rw[e,e3];exact Mem.le_trans (le_l _ _) (le_r (by rw[e3]at d;exact d)),h4⟩
def csw(y:CS):List Value:=[.int .i64 y.c.state,.int .i64 y.c.kind,.int .i64 y.c.weak,.int .i64 y.c.last,.int .i64 y.c.born,.int .i64 y.c.color,.int .i64 y.c.to,.slice y.d.a y.c.pairs.length y.d.cap]
theorem rs_cl(hi:ys[i]?=some y):RsA (clA cd ys) cd.b (cd.o+i*8) 8 (csw y):=⟨fun m h=>by
 obtain⟨a,l,h1⟩:=clA_l h;exact cells_le l ((rs_sl csv_len hi).out a h1)⟩
theorem rd_cl{j:Nat}{v:Value}(hi:ys[i]?=some y)(hj:(csw y)[j]?=some v):RdA (clA cd ys) cd.b (cd.o+i*8+j) v:=⟨fun m h=>cells_cell ((rs_cl hi).out m h) hj⟩
theorem kn_cl(hi:ys[i]?=some y):KnA (clA cd ys) (cd.a=some ⟨cd.b,cd.o,none⟩):=⟨fun m h=>by
 obtain⟨a,l,h1⟩:=clA_l h;exact D.som h1 hi⟩
theorem kp_cl:KnA (clA cd ys) (cd.a=none∨cd.a=some ⟨cd.b,cd.o,none⟩):=⟨fun m h=>by
 obtain⟨a,l,h1⟩:=clA_l h;exact D.plain h1⟩
theorem kb_cl:KnA (clA cd ys) (ys.length≤140737488355328):=⟨fun m h=>by
 obtain⟨a,l,h1⟩:=clA_l h;exact h1.1.bound⟩
theorem kc_cl:KnA (clA cd ys) (ys.length≤cd.cap):=⟨fun m h=>by
 obtain⟨a,l,h1⟩:=clA_l h;exact cp_sl.out a h1⟩
theorem rs_cp{k:Nat}{p:Pair}(hi:ys[i]?=some y)(hk:y.c.pairs[k]?=some p):RsA (clA cd ys) y.d.b (y.d.o+k*6) 6 (pv p):=⟨fun m h=>by
 obtain⟨a,l,h1⟩:=clA_p h hi;exact cells_le l ((rs_sl pv_len hk).out a h1)⟩
theorem rs_cpp{k j n:Nat}{p:Pair}{ws:List Value}(hi:ys[i]?=some y)(hk:y.c.pairs[k]?=some p)(hj:j+n≤6)(hw:((pv p).drop j).take n=ws):RsA (clA cd ys) y.d.b (y.d.o+k*6+j) n ws:=⟨fun m h=>by
 obtain⟨a,l,h1⟩:=clA_p h hi;exact cells_le l ((rs_slp pv_len hk hj hw).out a h1)⟩
theorem rd_cp{k j:Nat}{p:Pair}{v:Value}(hi:ys[i]?=some y)(hk:y.c.pairs[k]?=some p)(hj:(pv p)[j]?=some v):RdA (clA cd ys) y.d.b (y.d.o+k*6+j) v:=⟨fun m h=>cells_cell ((rs_cp hi hk).out m h) hj⟩
theorem kn_cp{k:Nat}{p:Pair}(hi:ys[i]?=some y)(hk:y.c.pairs[k]?=some p):KnA (clA cd ys) (y.d.a=some ⟨y.d.b,y.d.o,none⟩):=⟨fun m h=>by
 obtain⟨a,l,h1⟩:=clA_p h hi;exact D.som h1 hk⟩
theorem kp_cp(hi:ys[i]?=some y):KnA (clA cd ys) (y.d.a=none∨y.d.a=some ⟨y.d.b,y.d.o,none⟩):=⟨fun m h=>by
 obtain⟨a,l,h1⟩:=clA_p h hi;exact D.plain h1⟩
theorem star2{A B:Asr}{m:Mem}:star [A,B] m↔∃a b,Disj a b∧m=a.un b∧A a∧B b:=by
 constructor
 ·rintro⟨a,b,d,e,h1,b',e',d2,e2,h2,h3⟩
  have h3:e'=emp:=h3
  subst h3
  rw[un_emp]at e2;subst e2
  exact⟨a,b,d,e,h1,h2⟩
 ·rintro⟨a,b,d,e,h1,h2⟩
  exact⟨a,b,d,e,h1,b,emp,disj_emp _,(un_emp _).symm,h2,rfl⟩
theorem up_cl{j:Nat}{y':CS}{vs:List Value}(hi:ys[i]?=some y)(hj:j+vs.length≤8)(hf:csv y'=wr (csv y) j vs)(hd:y'.d=y.d)(hp:y'.c.pairs=y.c.pairs):UpA (clA cd ys) cd.b (cd.o+i*8+j) vs (clA cd (ys.set i y')):=⟨fun m h=>by
 obtain⟨a,b,d,rfl,h1,h2⟩:=star2.1 h
 obtain⟨row,g1,g2,g3⟩:=(up_sl csv_len hi hj hf).out a h1
 have hb:b cd.b=none:=by
  rcases d cd.b with e|e
  ·rw[g1]at e;cases e
  ·exact e
 refine⟨row,un_l g1,g2,?_⟩
 rw[un_upd_l]
 exact star2.2 ⟨_,b,d.upd _ hb,rfl,g3,by rw[pr_set hi hd hp];exact h2⟩⟩
theorem up_c0{y':CS}(hi:ys[i]?=some y)(hd:y'.d=⟨none,0⟩)(hp:y'.c.pairs=[]):∀m,clA cd ys m→∃row,m cd.b=some (.row row)∧cd.o+i*8+(csv y').length≤row.length∧∃m',m'.le (m.upd cd.b (.row (wr row (cd.o+i*8) (csv y'))))∧clA cd (ys.set i y') m':=fun m h=>by
 obtain⟨a,b,d,rfl,h1,h2⟩:=star2.1 h
 obtain⟨row,g1,g2,g3⟩:=(up_sl (j:=0) (vs:=csv y') (e':=y') csv_len hi (by rw[csv_len];exact Nat.le_refl _) (by rw[wr_all _ _ (by rw[csv_len,csv_len])])).out a h1
 have hb:b cd.b=none:=by
  rcases d cd.b with e|e
  ·rw[g1]at e;cases e
  ·exact e
 have hlt:=(List.getElem?_eq_some_iff.1 hi).1
 obtain⟨b1,b2,d2,rfl,k1,k2⟩:=star2.1 (pr_out hi h2)
 rw[Nat.add_zero]at g2 g3
 refine⟨row,un_l g1,g2,(a.upd cd.b (.row (wr row (cd.o+i*8) (csv y')))).un b2,?_,star2.2 ⟨_,b2,?_,rfl,g3,?_⟩⟩
 ·rw[un_upd_l]
  intro x k hk
  cases hx:(a.upd cd.b (.row (wr row (cd.o+i*8) (csv y')))) x with
  |some k'=>rw[un_l hx]at hk;cases hk;exact un_l hx
  |none=>
   rw[un_n hx]at hk
   rw[un_n hx];exact un_r d2 hk
 ·exact(disj_un.1 d).2.upd _ (un_none.1 hb).2
 ·refine pr_in hlt (star2.2 ⟨emp,b2,fun _=>.inl rfl,rfl,?_,k2⟩)
  rw[hp,hd]
  exact⟨.inl ⟨0,rfl,rfl,rfl⟩,fun _ _=>rfl⟩
theorem up_cp{k j:Nat}{p p':Pair}{vs:List Value}(hi:ys[i]?=some y)(hk:y.c.pairs[k]?=some p)(hj:j+vs.length≤6)(hf:pv p'=wr (pv p) j vs):
 UpA (clA cd ys) y.d.b (y.d.o+k*6+j) vs (clA cd (ys.set i {y with c:={y.c with pairs:=y.c.pairs.set k p'}})):=⟨fun m h=>by
 have hlt:=(List.getElem?_eq_some_iff.1 hi).1
 obtain⟨a,b,d,rfl,h1,h2⟩:=star2.1 h
 obtain⟨b1,b2,d2,rfl,k1,k2⟩:=star2.1 (pr_out hi h2)
 obtain⟨row,g1,g2,g3⟩:=(up_sl pv_len hk hj hf).out b1 k1
 have hb2:b2 y.d.b=none:=by
  rcases d2 y.d.b with e|e
  ·rw[g1]at e;cases e
  ·exact e
 have ha:a y.d.b=none:=by
  rcases d y.d.b with e|e
  ·exact e
  ·rw[un_l g1]at e;cases e
 refine⟨row,un_r d (un_l g1),g2,?_⟩
 rw[un_upd_r _ ha,un_upd_l]
 refine star2.2 ⟨a,_,?_,rfl,?_,pr_in hlt (star2.2 ⟨_,b2,d2.upd _ hb2,rfl,g3,k2⟩)⟩
 ·rw[←un_upd_l]
  exact((Disj.symm d).upd _ ha).symm
 ·rw[slA_congr (ys:=ys) (flat_set hi (by unfold csv cv;simp)) (by simp)];exact h1⟩
end
structure HX where
 room:Int
 used:Int
 born:Int
 regs:List Word
 xs:List CS
 phase:Int
 hand:Int
 sub:Int
 gray:List Int
 per:Int
 start:Int
 rounds:Int
 forced:Int
 rd:D
 cd:D
 gd:D
def HX.H(x:HX):Heap:=⟨x.room,x.used,x.born,x.regs,x.xs.map (·.c),x.phase,x.hand,x.sub,x.gray,x.per,x.start,x.rounds,x.forced⟩
structure Hdr where
 room:Int
 used:Int
 born:Int
 rd:D
 nr:Nat
 cd:D
 nc:Nat
 phase:Int
 hand:Int
 sub:Int
 gd:D
 ng:Nat
 per:Int
 start:Int
 rounds:Int
 forced:Int
def Hdr.row(h:Hdr):List Value:=[.int .i64 h.room,.int .i64 h.used,.int .i64 h.born,.slice h.rd.a h.nr h.rd.cap,.slice h.cd.a h.nc h.cd.cap,.int .i64 h.phase,.int .i64 h.hand,.int .i64 h.sub,.slice h.gd.a h.ng h.gd.cap,.int .i64 h.per,.int .i64 h.start,.int .i64 h.rounds,.int .i64 h.forced]
def hdA(a:Nat)(h:Hdr):Asr:=bx a h.row
def HX.hdr(x:HX):Hdr:=⟨x.room,x.used,x.born,x.rd,x.regs.length,x.cd,x.xs.length,x.phase,x.hand,x.sub,x.gd,x.gray.length,x.per,x.start,x.rounds,x.forced⟩
abbrev HX.row(x:HX):List Value:=x.hdr.row
abbrev HX.v(x:HX):Value:=.agg x.row.toArray
abbrev HX.body(x:HX):List Asr:=[slA 3 wv x.rd x.regs,clA x.cd x.xs,slA 1 iv x.gd x.gray]
abbrev hp(a:Nat)(x:HX):List Asr:=[hdA a x.hdr,slA 3 wv x.rd x.regs,clA x.cd x.xs,slA 1 iv x.gd x.gray]
def HX.hs(x:HX):HS:=⟨x.H,.slice x.rd.a x.regs.length x.rd.cap,.slice x.cd.a x.xs.length x.cd.cap,.slice x.gd.a x.gray.length x.gd.cap,x.xs⟩
theorem HX.len(x:HX):x.H.cells.length=x.xs.length:=by simp[HX.H]
theorem body_r{x:HX}{m:Mem}(h:star x.body m):RHV m x.hs:=by
 obtain⟨a,r,d,rfl,h1,b,r2,d2,rfl,h2,c,r3,d3,rfl,h3,_⟩:=h
 have l1:=le_l a (b.un (c.un r3))
 have l2:b.le (a.un (b.un (c.un r3))):=Mem.le_trans (le_l _ _) (le_r d)
 have l3:c.le (a.un (b.un (c.un r3))):=Mem.le_trans (le_l _ _) (Mem.le_trans (le_r d2) (le_r d))
 refine⟨h1.1.le l1,⟨?_,fun y hy=>?_⟩,rfl,h3.1.le l3⟩
 ·obtain⟨b',l,k⟩:=clA_l h2;exact(k.1.le l).le l2
 ·obtain⟨i,hi⟩:=List.getElem?_of_mem hy
  obtain⟨b',l,k⟩:=clA_p h2 hi;exact(k.1.le l).le l2
def resL(M:Mem)(L:List Nat):Mem:=fun b=>if b∈L then M b else none
theorem resL_le(M:Mem)(L:List Nat):(resL M L).le M:=fun b k h=>by unfold resL at h;split at h;exact h;cases h
theorem sl_res{M:Mem}{α:Type}{f:α→List Value}{size:Nat}{v:Value}{xs:List α}(h:Sl M size f v xs):∃d:D,v=.slice d.a xs.length d.cap∧slA size f d xs (resL M (own v)):=by
 obtain⟨a,cap,rfl⟩:=h.len
 refine⟨⟨a,cap⟩,rfl,?_,fun b hb=>?_⟩
 ·rcases h with h|⟨b,o,cap',row,e,hM,h3⟩
  ·exact .inl h
  ·refine .inr ⟨b,o,cap',row,e,?_,h3⟩
   unfold resL;rw[if_pos (by rw[e];simp[own])];exact hM
 ·unfold resL;rw[if_neg hb]
theorem resL_un(M:Mem)(L K:List Nat):(resL M L).un (resL M K)=resL M (L++K):=by
 funext b
 unfold Mem.un resL
 by_cases h1:b∈L<;>by_cases h2:b∈K<;>simp[h1,h2]
 all_goals (cases M b<;>rfl)
theorem resL_disj{M:Mem}{L K:List Nat}(h:∀b,b∈L→b∈K→False):Disj (resL M L) (resL M K):=by
 intro b
 by_cases h1:b∈L
 ·right;unfold resL;rw[if_neg (fun h2=>h b h1 h2)]
 ·left;unfold resL;rw[if_neg h1]
theorem pr_res{M:Mem}:∀{ys:List CS},(∀y,y∈ys→Sl M 6 pv y.s y.c.pairs)→(ys.flatMap fun y=>own y.s).Nodup→prA ys (resL M (ys.flatMap fun y=>own y.s))
 |[],_,_=>by funext b;simp[resL,emp]
 |y::r,h,hn=>by
  rw[List.flatMap_cons,List.nodup_append]at hn
  rw[List.flatMap_cons,←resL_un]
  obtain⟨d,e,hs⟩:=sl_res (h y (by simp))
  have hd:d=y.d:=by
   obtain⟨a,c⟩:=d
   simp only[CS.s,Value.slice.injEq,true_and]at e
   unfold CS.d;rw[e.1,e.2]
  refine⟨_,_,resL_disj (fun b h1 h2=>hn.2.2 b h1 b h2 rfl),rfl,by rw[hd]at hs;exact hs,pr_res (fun y hy=>h y (by simp[hy])) hn.2.1⟩
theorem body_w{y:HS}{M:Mem}(h:WHV M y):∃x:HX,x.hs=y∧star x.body (resL M y.fp):=by
 obtain⟨⟨h1,h2,h3,h4⟩,hn⟩:=h
 obtain⟨H,rs,cs,gs,xs⟩:=y
 obtain⟨rd,e1,k1⟩:=sl_res h1
 obtain⟨cd,e2,k2⟩:=sl_res h2.sl
 obtain⟨gd,e3,k3⟩:=sl_res h4
 simp only at e1 e2 e3 h3
 subst e1;subst e2;subst e3
 obtain⟨room,used,born,regs,cells,phase,hand,sub,gray,per,start,rounds,forced⟩:=H
 simp only at h3
 subst h3
 simp only[HS.fp,fpC,List.nodup_append]at hn
 obtain⟨n1,⟨⟨n2,n3,n4⟩,n5,n6⟩,n7⟩:=hn
 refine⟨⟨room,used,born,regs,xs,phase,hand,sub,gray,per,start,rounds,forced,rd,cd,gd⟩,rfl,?_⟩
 have kp:=pr_res h2.ps n3
 simp only[HS.fp,fpC]
 rw[←resL_un,←resL_un,←resL_un]
 refine⟨_,_,?_,rfl,k1,_,_,?_,rfl,star2.2 ⟨_,_,resL_disj (fun b a1 a2=>n4 b a1 b a2 rfl),rfl,k2,kp⟩,_,emp,disj_emp _,(un_emp _).symm,k3,rfl⟩
 ·rw[resL_un,resL_un];exact resL_disj (fun b a1 a2=>n7 b a1 b a2 rfl)
 ·rw[resL_un];exact resL_disj (fun b a1 a2=>n6 b a1 b a2 rfl)
noncomputable def e28:Env:=⟨Tryz.prog,[2],10,[]⟩
noncomputable def c28:C:=
 .seq (.reg [⟨some 2,none,.alloc true [.int .i64 0,.int .i64 0,.int .i64 0,.slice none 0 0,.slice none 0 0,.int .i64 0,.int .i64 0,.int .i64 0,.slice none 0 0,.int .i64 0,.int .i64 0,.int .i64 0,.int .i64 0]⟩]) (.seq (.seq (.reg [z3 3 0,q5 4 66 3 1 4000,zQ 5 4]) (.cond (.tmp 5) (.seq (.reg [⟨some 6,none,.build [.int .i64 0,.int .i64 0,.int .i64 0,.slice none 0 0,.slice none 0 0,.int .i64 0,.int
 .i64 0,.int .i64 0,.slice none 0 0,.int .i64 0,.int .i64 0,.int .i64 0,.int .i64 0] []⟩,z7 13 2 6]) .ret) .skip)) (.seq (.reg [z3 7 0,⟨some 8,none,.mkslice 3 24 [.int .i64 0,.int .i64 0,.int .i64 0] (.const (.int .i64 16)) (.const (.int .i64 16))⟩,⟨some 9,none,.build [.int .i64 0,.int .i64 0,.int .i64 0,.slice none 0 0,.slice none 0 0,.int .i64 0,.int .i64 0,.int .i64 0,.slice none 0 0,.int .i64
 0,.int .i64 0,.int .i64 0,.int .i64 0] [(0,1,.tmp 7),(3,1,.tmp 8)]⟩,z7 13 2 9]) .ret))
theorem t28:Tryz.f28.body.bind (trC e28)=some c28:=by kernel_rfl
theorem r28:Tryz.f28.results.toList.mapM (trR Tryz.prog)=some [.cell 2 false 13]:=by kernel_rfl
theorem fn28{args:List Value}{M:Mem}{post:Value→Mem→Prop}(hl:args.length≤10)(h:VC e28 c28 (fnQ [.cell 2 false 13] post) (initS args 10) M):Fn Tryz.prog 28 args M post:=
 Fn.of' (E:=e28) Tryz.func28 t28 rfl r28 mixed hl h
noncomputable def e24:Env:=⟨Tryz.prog,[],15,[]⟩
noncomputable def c24:C:=
 .seq (.reg [zF 6]) (.seq (.reg [z3 7 0,z3 8 1,qH 9 7 8,z3 10 9,zL 11 10 0,zL 12 10 2,⟨some 13,some (10,true),.bin .leq (.tmp 11) (.tmp 12)⟩,zP 14 10 13,z3 6 14]) .ret)
theorem t24:Tryz.f24.body.bind (trC e24)=some c24:=by kernel_rfl
theorem r24:Tryz.f24.results.toList.mapM (trR Tryz.prog)=some [.tmp 6]:=by kernel_rfl
theorem fn24{args:List Value}{M:Mem}{post:Value→Mem→Prop}(hl:args.length≤15)(h:VC e24 c24 (fnQ [.tmp 6] post) (initS args 15) M):Fn Tryz.prog 24 args M post:=
 Fn.of' (E:=e24) Tryz.func24 t24 rfl r24 mixed hl h
noncomputable def e25:Env:=⟨Tryz.prog,[],7,[]⟩
noncomputable def c25:C:=
 .seq (.reg [⟨some 2,none,.mov (.const (.pointer none))⟩]) (.seq (.reg [z3 3 0,⟨some 4,none,.mkslice 3 24 [.int .i64 0,.int .i64 0,.int .i64 0] (.const (.int .i64 16)) (.const (.int .i64 16))⟩,⟨some 5,none,.build [.int .i64 0,.int .i64 0,.int .i64 0,.slice none 0 0,.slice none 0 0,.int .i64 0,.int .i64 0,.int .i64 0,.slice none 0 0,.int .i64 0,.int .i64 0,.int .i64 0,.int .i64 0] [(0,1,.tmp 3),
 (3,1,.tmp 4)]⟩,qa 6 5,z3 2 6]) .ret)
theorem t25:Tryz.f25.body.bind (trC e25)=some c25:=by kernel_rfl
theorem r25:Tryz.f25.results.toList.mapM (trR Tryz.prog)=some [.tmp 2]:=by kernel_rfl
theorem fn25{args:List Value}{M:Mem}{post:Value→Mem→Prop}(hl:args.length≤7)(h:VC e25 c25 (fnQ [.tmp 2] post) (initS args 7) M):Fn Tryz.prog 25 args M post:=
 Fn.of' (E:=e25) Tryz.func25 t25 rfl r25 mixed hl h
end Go.Proofs.YtpleoapljeffiaaGreatDoor.E
namespace Go.Proofs.YtpleoapljeffiaaGreatDoor.E
open Go
open Classical
theorem impl.withinQ{M:Mem}{a lo hi:Int}:Qt Tryz.prog 66 [.int .i64 a,.int .i64 lo,.int .i64 hi] M (.bool (decide (lo≤a∧a≤hi))):=by
 refine fn66 (by simp) ?_
 repeat' (first
  |(refine vl_pure rfl ?_)
  |(refine vl_gy rfl rfl ?_)
  |(refine vl_gn rfl rfl ?_)
  |(refine vl_nil ?_)
  |(refine VC.seq ?_)
  |(refine VC.regV ?_)
  |(refine VC.ret ?_)
  |(refine vl_gs rfl (fun hb=>?_) (fun hb=>?_)))
 all_goals (refine fnQ_r rfl (Mem.le_refl _) (q_end ?_))
 all_goals (simp_all<;>omega)
theorem spec.l1inQ{M:Mem}{a lo hi:Int}:Qt Tryz.prog 24 [.int .i64 a,.int .i64 lo,.int .i64 hi] M (.bool (decide (lo≤a∧a≤hi))):=by
 refine fn24 (by simp) ?_
 repeat' (first
  |(refine vl_pure rfl ?_)
  |(refine vl_gy rfl rfl ?_)
  |(refine vl_gn rfl rfl ?_)
  |(refine vl_nil ?_)
  |(refine VC.seq ?_)
  |(refine VC.regV ?_)
  |(refine VC.ret ?_)
  |(refine vl_gs rfl (fun hb=>?_) (fun hb=>?_)))
 all_goals (refine fnQ_r rfl (Mem.le_refl _) (q_end ?_))
 all_goals (simp_all<;>omega)
def ptr(a:Nat):Value:=.pointer (some ⟨a,0,none⟩)
structure PH (M:Mem) (a:Nat) (x:HS):Prop where
 blk:M a=some (.row (hv x.H x.rs x.cs x.gs))
 v:RHV M x
theorem PH.le{M M':Mem}{a:Nat}{x:HS}(h:PH M a x)(l:M.le M'):PH M' a x:=⟨l _ _ h.blk,h.v.le l⟩
theorem PH.at{M:Mem}{a:Nat}{x:HS}(h:PH M a x)(j:Nat):cell M a j=(hv x.H x.rs x.cs x.gs)[j]?:=row_cell h.blk j
theorem RHV.len{M:Mem}{x:HS}(h:RHV M x):x.xs.length=x.H.cells.length:=by rw[←h.eq];simp
theorem RHV.cellAt{M:Mem}{x:HS}(h:RHV M x){i:Int}(h0:0≤i)(h1:i<x.H.cells.length):
 ∃b o cap y,x.cs=.slice (some ⟨b,o,none⟩) x.H.cells.length cap∧cells M b (o+i.toNat*8) 8=some (csv y)∧y.c=x.H.getC i∧x.xs[i.toNat]?=some y∧Sl M 6 pv y.s y.c.pairs:=by
 have hl:=h.len
 have hi:i.toNat<x.xs.length:=by omega
 obtain⟨y,hy⟩:∃y,x.xs[i.toNat]?=some y:=⟨_,List.getElem?_eq_getElem hi⟩
 obtain⟨b,o,cap,e,hc⟩:=h.cl.sl.at (f:=csv) (fun _=>rfl) h0 (by omega) hy
 refine⟨b,o,cap,y,by rw[e,hl],hc,?_,hy,h.cl.ps y (List.mem_of_getElem? hy)⟩
 unfold Heap.getC
 rw[←h.eq,List.getD_eq_getElem?_getD,List.getElem?_map,hy];rfl
theorem bool_dec{b:Bool}{p:Prop}(h:b=true↔p):Value.bool b=.bool (decide p):=by
 congr 1
 rw[Bool.eq_iff_iff,h];simp
theorem root_q{M:Mem}{y:CS}:Qt Tryz.prog 148 [ca y] M (.bool (decide (Root y.c))):=by
 refine fn148 (by simp) ?_
 repeat' (first
  |(refine vl_pure rfl ?_)
  |(refine vl_gy rfl rfl ?_)
  |(refine vl_gn rfl rfl ?_)
  |(refine vl_gu rfl ?_)
  |(refine vl_nil ?_)
  |(refine VC.seq ?_)
  |(refine VC.regV ?_)
  |(refine vl_box rfl rfl ?_)
  |(refine VC.ret ?_)
  |(refine vl_gs rfl (fun hb=>?_) (fun hb=>?_)))
 all_goals (refine fnQ_r rfl (Mem.le_refl _) (q_end (bool_dec ?_)))
 all_goals (obtain⟨⟨_,_,_,_,_,_,_,ps⟩,_,_⟩:=y;simp_all [Root])
theorem units_q{M:Mem}{y:CS}(hb:y.c.pairs.length≤4611686018427387904):Qt Tryz.prog 144 [ca y] M (.int .i64 y.c.units):=by
 refine fn144 (by simp) ?_
 repeat' (first
  |(refine vl_add rfl rfl (by omega) ?_)
  |(refine vl_pure rfl ?_)
  |(refine vl_nil ?_)
  |(refine VC.seq ?_)
  |(refine VC.regV ?_)
  |(refine vl_box rfl rfl ?_)
  |(refine VC.ret ?_)
  |(refine VC.skip ?_)
  |(refine seqQ_n ?_)
  |(refine seqQ_r ?_)
  |(refine VC.cond _ rfl (fun hb=>?_) (fun hb=>?_)))
 all_goals (refine fnQ_r rfl (Mem.le_refl _) (q_end ?_))
 all_goals (simp_all [Cell.units])
theorem marking_q{M:Mem}{a:Nat}{x:HS}(h:PH M a x):Qt Tryz.prog 150 [ptr a] M (.bool (decide (Marking x.H))):=by
 have f5:cell M a 5=_:=h.at 5
 refine fn150 (by simp) ?_
 repeat' (first
  |(refine vl_pure rfl ?_)
  |(refine vl_gy rfl rfl ?_)
  |(refine vl_gn rfl rfl ?_)
  |(refine vl_ld rfl (by first|exact f5) ?_)
  |(refine vl_nil ?_)
  |(refine VC.seq ?_)
  |(refine VC.regV ?_)
  |(refine VC.ret ?_)
  |(refine vl_gs rfl (fun hb=>?_) (fun hb=>?_)))
 all_goals (refine fnQ_r rfl (Mem.le_refl _) (q_end (bool_dec ?_)))
 all_goals simp_all [Marking]
theorem Formed.at{H:Heap}{w:Word}(h:Formed H w)(hk:w.kind=2):0≤w.at_∧w.at_<H.cells.length:=by
 rcases h with h|h|h
 ·omega
 ·omega
 ·exact⟨h.2.2.1,h.2.2.2⟩
def Heap.lead(H:Heap)(w:Word):Word:=if w.kind=2∧(H.getC w.at_).state=2 then⟨2,0,(H.getC w.at_).to⟩else w
theorem lead_q{M:Mem}{a:Nat}{x:HS}{w:Word}(h:PH M a x)(hf:w.kind=2→0≤w.at_∧w.at_<x.H.cells.length):Qt Tryz.prog 126 [ptr a,wa w] M (wa (x.H.lead w)):=by
 refine fn126 (by simp) ?_
 unfold Heap.lead
 by_cases hk:w.kind=2
 ·obtain⟨b,o,cap,y,e,hc,hy,_⟩:=h.v.cellAt (hf hk).1 (hf hk).2
  have f4:cell M a 4=_:=(h.at 4).trans (congrArg some e)
  have hat:=hf hk
  repeat' (first
   |(refine vl_pure rfl ?_)
   |(refine vl_gy rfl rfl ?_)
   |(refine vl_gn rfl rfl ?_)
   |(refine vl_ld rfl (by first|exact f4|exact hc|exact cells_cell hc (j:=0) rfl|exact cells_cell hc (j:=6) rfl) ?_)
   |(refine vl_nil ?_)
   |(refine VC.seq ?_)
   |(refine VC.regV ?_)
   |(refine vl_idx rfl rfl (by omega) ?_)
   |(refine vl_alloc ?_)
   |(refine vl_stw rfl rfl rfl rfl (by first|rfl|assumption) (Nat.le_of_ble_eq_true rfl) ?_)
   |(refine sk_zero ?_)
   |(refine sk_succ ?_)
   |(refine wk_nil ?_)
   |(refine wk_cons ?_)
   |(refine vl_box rfl rfl ?_)
   |(refine VC.dregV ?_)
   |(refine VC.ret ?_)
   |(refine VC.skip ?_)
   |(refine seqQ_n ?_)
   |(refine seqQ_r ?_)
   |(refine vl_gs rfl (fun hb=>?_) (fun hb=>?_))
   |(refine VC.cond _ rfl (fun hb=>?_) (fun hb=>?_)))
  all_goals (refine fnQ_r rfl (Mem.le_refl _) (q_end ?_))
  any_goals (exfalso;simp_all;done)
  any_goals (rw[if_pos (by simp_all)];rw[←hy];rfl)
  all_goals (rw[if_neg (by simp_all)];rfl)
 ·repeat' (first
   |(refine vl_pure rfl ?_)
   |(refine vl_gy rfl rfl ?_)
   |(refine vl_gn rfl rfl ?_)
   |(refine vl_nil ?_)
   |(refine VC.seq ?_)
   |(refine VC.regV ?_)
   |(refine vl_alloc ?_)
   |(refine vl_stw rfl rfl rfl rfl (by first|rfl|assumption) (Nat.le_of_ble_eq_true rfl) ?_)
   |(refine sk_zero ?_)
   |(refine sk_succ ?_)
   |(refine wk_nil ?_)
   |(refine wk_cons ?_)
   |(refine vl_box rfl rfl ?_)
   |(exfalso;simp_all;done)
   |(refine VC.dregV ?_)
   |(refine VC.ret ?_)
   |(refine VC.skip ?_)
   |(refine seqQ_n ?_)
   |(refine vl_gs rfl (fun hb=>?_) (fun hb=>?_))
   |(refine VC.cond _ rfl (fun hb=>?_) (fun hb=>?_)))
  all_goals (refine fnQ_r rfl (Mem.le_refl _) (q_end ?_))
  all_goals (rw[if_neg (by simp_all)];rfl)
end Go.Proofs.YtpleoapljeffiaaGreatDoor.E
set_option maxHeartbeats 4000000
namespace Go.Proofs.YtpleoapljeffiaaGreatDoor.E
open Go
theorem rd_hd{a j:Nat}{h:Hdr}{v:Value}(e:h.row[j]?=some v):RdA (hdA a h) a j v:=rd_bx e
theorem rs_hd{a:Nat}{h:Hdr}:RsA (hdA a h) a 0 13 h.row:=rs_bx (by simp[Hdr.row]) rfl
theorem up_hd{a j:Nat}{h h':Hdr}{vs:List Value}(hj:j+vs.length≤13)(e:WrK h.row j vs (fun c=>h'.row=c)):UpA (hdA a h) a j vs (hdA a h'):=
 up_bx (by simpa [Hdr.row]using hj) ⟨by unfold hdA;rw[e.out]⟩
def Hdr.s_room(h:Hdr)(v:Int):Hdr:={h with room:=v}
theorem u_room{a:Nat}{h:Hdr}{v:Int}:UpA (hdA a h) a 0 [.int .i64 v] (hdA a (h.s_room v)):=up_hd (by simp) ⟨rfl⟩
def Hdr.s_used(h:Hdr)(v:Int):Hdr:={h with used:=v}
theorem u_used{a:Nat}{h:Hdr}{v:Int}:UpA (hdA a h) a 1 [.int .i64 v] (hdA a (h.s_used v)):=up_hd (by simp) ⟨rfl⟩
def Hdr.s_born(h:Hdr)(v:Int):Hdr:={h with born:=v}
theorem u_born{a:Nat}{h:Hdr}{v:Int}:UpA (hdA a h) a 2 [.int .i64 v] (hdA a (h.s_born v)):=up_hd (by simp) ⟨rfl⟩
def Hdr.s_phase(h:Hdr)(v:Int):Hdr:={h with phase:=v}
theorem u_phase{a:Nat}{h:Hdr}{v:Int}:UpA (hdA a h) a 5 [.int .i64 v] (hdA a (h.s_phase v)):=up_hd (by simp) ⟨rfl⟩
def Hdr.s_hand(h:Hdr)(v:Int):Hdr:={h with hand:=v}
theorem u_hand{a:Nat}{h:Hdr}{v:Int}:UpA (hdA a h) a 6 [.int .i64 v] (hdA a (h.s_hand v)):=up_hd (by simp) ⟨rfl⟩
def Hdr.s_sub(h:Hdr)(v:Int):Hdr:={h with sub:=v}
theorem u_sub{a:Nat}{h:Hdr}{v:Int}:UpA (hdA a h) a 7 [.int .i64 v] (hdA a (h.s_sub v)):=up_hd (by simp) ⟨rfl⟩
def Hdr.s_per(h:Hdr)(v:Int):Hdr:={h with per:=v}
theorem u_per{a:Nat}{h:Hdr}{v:Int}:UpA (hdA a h) a 9 [.int .i64 v] (hdA a (h.s_per v)):=up_hd (by simp) ⟨rfl⟩
def Hdr.s_start(h:Hdr)(v:Int):Hdr:={h with start:=v}
theorem u_start{a:Nat}{h:Hdr}{v:Int}:UpA (hdA a h) a 10 [.int .i64 v] (hdA a (h.s_start v)):=up_hd (by simp) ⟨rfl⟩
def Hdr.s_rounds(h:Hdr)(v:Int):Hdr:={h with rounds:=v}
theorem u_rounds{a:Nat}{h:Hdr}{v:Int}:UpA (hdA a h) a 11 [.int .i64 v] (hdA a (h.s_rounds v)):=up_hd (by simp) ⟨rfl⟩
def Hdr.s_forced(h:Hdr)(v:Int):Hdr:={h with forced:=v}
theorem u_forced{a:Nat}{h:Hdr}{v:Int}:UpA (hdA a h) a 12 [.int .i64 v] (hdA a (h.s_forced v)):=up_hd (by simp) ⟨rfl⟩
def Hdr.s_rd(h:Hdr)(d:D)(n:Nat):Hdr:={h with rd:=d,nr:=n}
theorem u_rd{a:Nat}{h:Hdr}{d:D}{n:Nat}:UpA (hdA a h) a 3 [.slice d.a n d.cap] (hdA a (h.s_rd d n)):=up_hd (by simp) ⟨rfl⟩
def Hdr.s_cd(h:Hdr)(d:D)(n:Nat):Hdr:={h with cd:=d,nc:=n}
theorem u_cd{a:Nat}{h:Hdr}{d:D}{n:Nat}:UpA (hdA a h) a 4 [.slice d.a n d.cap] (hdA a (h.s_cd d n)):=up_hd (by simp) ⟨rfl⟩
def Hdr.s_gd(h:Hdr)(d:D)(n:Nat):Hdr:={h with gd:=d,ng:=n}
theorem u_gd{a:Nat}{h:Hdr}{d:D}{n:Nat}:UpA (hdA a h) a 8 [.slice d.a n d.cap] (hdA a (h.s_gd d n)):=up_hd (by simp) ⟨rfl⟩
def CS.s_state(y:CS)(v:Int):CS:={y with c:={y.c with state:=v}}
def CS.s_kind(y:CS)(v:Int):CS:={y with c:={y.c with kind:=v}}
def CS.s_weak(y:CS)(v:Int):CS:={y with c:={y.c with weak:=v}}
def CS.s_last(y:CS)(v:Int):CS:={y with c:={y.c with last:=v}}
def CS.s_born(y:CS)(v:Int):CS:={y with c:={y.c with born:=v}}
def CS.s_color(y:CS)(v:Int):CS:={y with c:={y.c with color:=v}}
def CS.s_to(y:CS)(v:Int):CS:={y with c:={y.c with to:=v}}
def CS.s_pair(y:CS)(k:Nat)(p:Pair):CS:={y with c:={y.c with pairs:=y.c.pairs.set k p}}
def Pair.s_key(p:Pair)(w:Word):Pair:={p with key:=w}
def Pair.s_val(p:Pair)(w:Word):Pair:={p with val:=w}
section
variable {cd:D} {ys:List CS} {i:Nat} {y:CS} {v:Int}
theorem u_cstate(hi:ys[i]?=some y):UpA (clA cd ys) cd.b (cd.o+i*8+0) [.int .i64 v] (clA cd (ys.set i (y.s_state v))):=up_cl hi (by simp) rfl rfl rfl
theorem u_ckind(hi:ys[i]?=some y):UpA (clA cd ys) cd.b (cd.o+i*8+1) [.int .i64 v] (clA cd (ys.set i (y.s_kind v))):=up_cl hi (by simp) rfl rfl rfl
theorem u_cweak(hi:ys[i]?=some y):UpA (clA cd ys) cd.b (cd.o+i*8+2) [.int .i64 v] (clA cd (ys.set i (y.s_weak v))):=up_cl hi (by simp) rfl rfl rfl
theorem u_clast(hi:ys[i]?=some y):UpA (clA cd ys) cd.b (cd.o+i*8+3) [.int .i64 v] (clA cd (ys.set i (y.s_last v))):=up_cl hi (by simp) rfl rfl rfl
theorem u_cborn(hi:ys[i]?=some y):UpA (clA cd ys) cd.b (cd.o+i*8+4) [.int .i64 v] (clA cd (ys.set i (y.s_born v))):=up_cl hi (by simp) rfl rfl rfl
theorem u_ccolor(hi:ys[i]?=some y):UpA (clA cd ys) cd.b (cd.o+i*8+5) [.int .i64 v] (clA cd (ys.set i (y.s_color v))):=up_cl hi (by simp) rfl rfl rfl
theorem u_cto(hi:ys[i]?=some y):UpA (clA cd ys) cd.b (cd.o+i*8+6) [.int .i64 v] (clA cd (ys.set i (y.s_to v))):=up_cl hi (by simp) rfl rfl rfl
variable {k:Nat} {p:Pair} {w:Word}
theorem u_key(hi:ys[i]?=some y)(hk:y.c.pairs[k]?=some p):UpA (clA cd ys) y.d.b (y.d.o+k*6+0) (wv w) (clA cd (ys.set i (y.s_pair k (p.s_key w)))):=up_cp hi hk (by simp[wv]) rfl
theorem u_val(hi:ys[i]?=some y)(hk:y.c.pairs[k]?=some p):UpA (clA cd ys) y.d.b (y.d.o+k*6+3) (wv w) (clA cd (ys.set i (y.s_pair k (p.s_val w)))):=up_cp hi hk (by simp[wv]) rfl
theorem r_key(hi:ys[i]?=some y)(hk:y.c.pairs[k]?=some p):RsA (clA cd ys) y.d.b (y.d.o+k*6+0) 3 (wv p.key):=rs_cpp hi hk (by omega) rfl
theorem r_val(hi:ys[i]?=some y)(hk:y.c.pairs[k]?=some p):RsA (clA cd ys) y.d.b (y.d.o+k*6+3) 3 (wv p.val):=rs_cpp hi hk (by omega) rfl
end
section
variable {d:D} {ws:List Word} {i:Nat} {w w':Word} {v:Int}
theorem u_reg(hi:ws[i]?=some w):UpA (slA 3 wv d ws) d.b (d.o+i*3) (wv w') (slA 3 wv d (ws.set i w')):=up_sl (j:=0) wv_len hi (by simp[wv]) rfl
theorem u_regat(hi:ws[i]?=some w):UpA (slA 3 wv d ws) d.b (d.o+i*3+2) [.int .i64 v] (slA 3 wv d (ws.set i {w with at_:=v})):=up_sl wv_len hi (by simp) rfl
theorem r_reg(hi:ws[i]?=some w):RsA (slA 3 wv d ws) d.b (d.o+i*3) 3 (wv w):=rs_sl wv_len hi
variable {is:List Int} {n m:Int}
theorem r_int(hi:is[i]?=some n):RdA (slA 1 iv d is) d.b (d.o+i*1) (.int .i64 n):=rd_sl (j:=0) iv_len hi rfl
theorem u_int(hi:is[i]?=some n):UpA (slA 1 iv d is) d.b (d.o+i*1) [.int .i64 m] (slA 1 iv d (is.set i m)):=up_sl (j:=0) iv_len hi (by simp) rfl
variable {bs:List Bool} {b b':Bool}
theorem r_bool(hi:bs[i]?=some b):RdA (slA 1 bv d bs) d.b (d.o+i*1) (.bool b):=rd_sl (j:=0) bv_len hi rfl
theorem u_bool(hi:bs[i]?=some b):UpA (slA 1 bv d bs) d.b (d.o+i*1) [.bool b'] (slA 1 bv d (bs.set i b')):=up_sl (j:=0) bv_len hi (by simp) rfl
end
@[simp] theorem HX.hs_H(x:HX):x.hs.H=x.H:=rfl
theorem hp_r{a:Nat}{x:HX}{m:Mem}(h:star (hp a x) m):PH m a x.hs:=by
 obtain⟨b,r,d,rfl,h1,h2⟩:=h
 have h1:b=one a (.row x.row):=h1
 subst h1
 exact⟨un_l (one_same _ _),(body_r h2).le (le_r d)⟩
theorem ph_of{a:Nat}{x:HX}{As F:List Asr}{m:Mem}(hm:star As m)(h:Pm As (hp a x) F):PH m a x.hs:=by
 obtain⟨m1,m2,d,rfl,h1,h2⟩:=star_append.1 (h.out m hm)
 exact(hp_r h1).le (le_l _ _)
def Has(m:Mem)(As:List Asr):Prop:=∃a,a.le m∧star As a
theorem Has.le{m M:Mem}{As:List Asr}(h:Has m As)(l:m.le M):Has M As:=by obtain⟨a,l',s⟩:=h;exact⟨a,Mem.le_trans l' l,s⟩
theorem Has.ent{m:Mem}{As Bs:List Asr}(h:Has m As)(e:Ent As Bs):Has m Bs:=by obtain⟨a,l',s⟩:=h;obtain⟨b,l2,s2⟩:=e.out a s;exact⟨b,Mem.le_trans l2 l',s2⟩
def ro(m0:Mem):Asr:=fun m=>m=m0
theorem rd_ro{m0:Mem}{As:List Asr}{b o:Nat}{v:Value}(h:Has m0 As)(r:Rd As b o v):RdA (ro m0) b o v:=⟨fun m hm=>by
 have hm:m=m0:=hm
 subst hm;obtain⟨a,l,s⟩:=h;exact cell_le l (r.out a s)⟩
theorem rs_ro{m0:Mem}{As:List Asr}{b o n:Nat}{v:List Value}(h:Has m0 As)(r:Rs As b o n v):RsA (ro m0) b o n v:=⟨fun m hm=>by
 have hm:m=m0:=hm
 subst hm;obtain⟨a,l,s⟩:=h;exact cells_le l (r.out a s)⟩
theorem kn_ro{m0:Mem}{As:List Asr}{p:Prop}(h:Has m0 As)(r:Kn As p):KnA (ro m0) p:=⟨fun m hm=>by
 obtain⟨a,l,s⟩:=h;exact r.out a s⟩
theorem Has.ph{m:Mem}{a:Nat}{x:HX}(h:Has m (hp a x)):PH m a x.hs:=by obtain⟨b,l,s⟩:=h;exact(hp_r s).le l
theorem Has.b{m:Mem}{x:HX}(h:Has m x.body):RHV m x.hs:=by obtain⟨b,l,s⟩:=h;exact(body_r s).le l
theorem ro_of{As F:List Asr}{m0 m:Mem}(hm:star As m)(h:Pm As [ro m0] F):m0.le m:=by
 obtain⟨a,b,d,rfl,⟨a1,a2,d2,rfl,h1,h2⟩,_⟩:=star_append.1 (h.out m hm)
 have h1:a1=m0:=h1
 subst h1
 exact Mem.le_trans (le_l _ _) (le_l _ _)
theorem Fn.shrink{P:Program}{f:FuncId}{args:List Value}{M:Mem}{post:Value→Mem→Prop}(h:Fn P f args M (fun v M'=>∃m',m'.le M'∧post v m')):Fn P f args M post:=
 ⟨fun w hw=>(h.out w hw).mono fun e w' ⟨v,M',he,⟨m',l,hp⟩,hs,ht⟩=>⟨v,m',he,hp,hs.le l,ht.le l⟩⟩
theorem qt_of{P:Program}{f:FuncId}{args:List Value}{m:Mem}{r:Value}(h:FnA P f args [ro m] (fun v As=>v=r∧As=[ro m])):Qt P f args m r:=by
 refine Fn.shrink ((h.out m ⟨m,emp,disj_emp _,(un_emp _).symm,rfl,rfl⟩).mono ?_)
 rintro v M' ⟨As,m',l,s,rfl,rfl⟩
 obtain⟨a,b,d,rfl,h1,h2⟩:=s
 have h1:a=m:=h1
 subst h1
 exact⟨a,Mem.le_trans (le_l _ _) l,rfl,rfl⟩
theorem sep_has{As F Bs:List Asr}{m:Mem}(hm:star As m)(h:Pm As Bs F):Has m Bs:=by
 obtain⟨m1,m2,d,rfl,h1,h2⟩:=star_append.1 (h.out m hm)
 exact⟨m1,le_l _ _,h1⟩
theorem rd_bad{b o:Nat}{v:Value}(h:False):Rd [fun _=>False] b o v:=h.elim
theorem rs_bad{b o n:Nat}{v:List Value}(h:False):Rs [fun _=>False] b o n v:=h.elim
theorem kn_bad{p:Prop}(h:False):Kn [fun _=>False] p:=h.elim
theorem up_bad{b o:Nat}{v:List Value}{R:List Asr}(h:False):Up [fun _=>False] b o v R:=h.elim
theorem pk_bad{A:Asr}{R:List Asr}(h:False):Pk [fun _=>False] A R:=h.elim
theorem pm_bad{R F:List Asr}(h:False):Pm [fun _=>False] R F:=h.elim
theorem pmt{p:Prop}(h:p:=by(fail_if_success apply pm_bad);(repeat(first|exact pm_nil|(apply pm_cons;repeat(first|exact pk_h|apply pk_t))));fail_if_success focus skip):p:=h
section
variable {P:Program} {S:St} {As:List Asr} {post:St→List Asr→Prop} {r:List I} {d:Option Nat}
theorem k_L{i:I}(h:LA P (i::r) post S As):LA P (i::r) post S As:=h
theorem k_V{E:Env}{c:C}{Q:X→St→List Asr→Prop}(h:VA E c Q S As):VA E c Q S As:=h
theorem k_g{g:Nat×Bool}{k:K}(h:LA P (⟨d,some g,k⟩::r) post S As):LA P (⟨d,some g,k⟩::r) post S As:=h
theorem k_ad{x y:Operand}(h:LA P (⟨d,none,.bin .add x y⟩::r) post S As):LA P (⟨d,none,.bin .add x y⟩::r) post S As:=h
theorem k_su{x y:Operand}(h:LA P (⟨d,none,.bin .sub x y⟩::r) post S As):LA P (⟨d,none,.bin .sub x y⟩::r) post S As:=h
theorem k_ml{x y:Operand}(h:LA P (⟨d,none,.bin .mul x y⟩::r) post S As):LA P (⟨d,none,.bin .mul x y⟩::r) post S As:=h
theorem k_i{n:Nat}{x y:Operand}(h:LA P (⟨d,none,.iaddr n x y⟩::r) post S As):LA P (⟨d,none,.iaddr n x y⟩::r) post S As:=h
theorem k_l{n:Nat}{x:Operand}(h:LA P (⟨d,none,.load true n x⟩::r) post S As):LA P (⟨d,none,.load true n x⟩::r) post S As:=h
theorem k_ls{n:Nat}{x:Operand}(h:LA P (⟨d,none,.load false n x⟩::r) post S As):LA P (⟨d,none,.load false n x⟩::r) post S As:=h
theorem k_st{n:Nat}{x y:Operand}(h:LA P (⟨d,none,.store n x y⟩::r) post S As):LA P (⟨d,none,.store n x y⟩::r) post S As:=h
theorem k_al{z:List Value}(h:LA P (⟨d,none,.alloc true z⟩::r) post S As):LA P (⟨d,none,.alloc true z⟩::r) post S As:=h
theorem k_bx{x:Operand}(h:LA P (⟨d,none,.box true x⟩::r) post S As):LA P (⟨d,none,.box true x⟩::r) post S As:=h
theorem k_bl{a b:Nat}{z:List Value}{ps:List (Nat×Nat×Operand)}(h:LA P (⟨d,none,.bslice true a b z ps⟩::r) post S As):LA P (⟨d,none,.bslice true a b z ps⟩::r) post S As:=h
theorem k_q{g:FuncId}{xs:List Operand}(h:LA P (⟨d,none,.qcall g xs⟩::r) post S As):LA P (⟨d,none,.qcall g xs⟩::r) post S As:=h
theorem k_c{g:FuncId}{xs:List Operand}(h:LA P (⟨d,none,.call g xs⟩::r) post S As):LA P (⟨d,none,.call g xs⟩::r) post S As:=h
theorem k_p{s:Nat}{x y:Operand}(h:LA P (⟨d,none,.pick (.tmp s) x y⟩::r) post S As):LA P (⟨d,none,.pick (.tmp s) x y⟩::r) post S As:=h
end
section
variable {P:Program} {S:St} {As:List Asr} {post:St→List Asr→Prop} {r:List I} {d:Option Nat}
theorem g_ad{x y:Operand}{a b:Int}(hx:ev S x=some (.int .i64 a))(hy:ev S y=some (.int .i64 b))(hp:LA P r post (put S d (.v (.int .i64 (a+b)))) As)(hb: -9223372036854775808≤a+b∧a+b≤9223372036854775807:=by first|omega|(simp only[HX.hdr,Hdr.s_room,Hdr.s_used,Hdr.s_born,Hdr.s_phase,Hdr.s_hand,Hdr.s_sub,Hdr.s_per,Hdr.s_start,Hdr.s_rounds,Hdr.s_forced,Hdr.s_rd,Hdr.s_cd,Hdr.s_gd,HX.H,List.length_map,List.length_set]at*;omega)):LA P (⟨d,none,.bin .add x y⟩::r) post S As:=a_ad hx hy hb hp
theorem g_su{x y:Operand}{a b:Int}(hx:ev S x=some (.int .i64 a))(hy:ev S y=some (.int .i64 b))(hp:LA P r post (put S d (.v (.int .i64 (a-b)))) As)(hb: -9223372036854775808≤a-b∧a-b≤9223372036854775807:=by first|omega|(simp only[HX.hdr,Hdr.s_room,Hdr.s_used,Hdr.s_born,Hdr.s_phase,Hdr.s_hand,Hdr.s_sub,Hdr.s_per,Hdr.s_start,Hdr.s_rounds,Hdr.s_forced,Hdr.s_rd,Hdr.s_cd,Hdr.s_gd,HX.H,List.length_map,List.length_set]at*;omega)):LA P (⟨d,none,.bin .sub x y⟩::r) post S As:=a_su hx hy hb hp
theorem g_ml{x y:Operand}{a b:Int}(hx:ev S x=some (.int .i64 a))(hy:ev S y=some (.int .i64 b))(hp:LA P r post (put S d (.v (.int .i64 (a*b)))) As)(hb: -9223372036854775808≤a*b∧a*b≤9223372036854775807:=by first|omega|(simp only[HX.hdr,Hdr.s_room,Hdr.s_used,Hdr.s_born,Hdr.s_phase,Hdr.s_hand,Hdr.s_sub,Hdr.s_per,Hdr.s_start,Hdr.s_rounds,Hdr.s_forced,Hdr.s_rd,Hdr.s_cd,Hdr.s_gd,HX.H,List.length_map]at*;omega)):LA P (⟨d,none,.bin .mul x y⟩::r) post S As:=a_ml hx hy hb hp
theorem g_i{e:D}{x y:Operand}{size n cap:Nat}{k:IntKind}{i:Int}(hx:ev S x=some (.slice e.a n cap))(hy:ev S y=some (.int k i))(hp:LA P r post (put S d (.v (.pointer (some ⟨e.b,e.o+i.toNat*size,none⟩)))) As)(hi:0≤i∧i<n:=by first|omega|(simp only[HX.hdr,Hdr.s_room,Hdr.s_used,Hdr.s_born,Hdr.s_phase,Hdr.s_hand,Hdr.s_sub,Hdr.s_per,Hdr.s_start,Hdr.s_rounds,Hdr.s_forced,Hdr.s_rd,Hdr.s_cd,Hdr.s_gd,HX.H,List.length_map,List.length_set]at*;omega))
 (hb:Kn As (e.a=some ⟨e.b,e.o,none⟩):=by(fail_if_success apply kn_bad);(repeat(first|exact kn_h (kn_cl (by assumption))|exact kn_h (kn_cp (by assumption) (by assumption))|exact kn_h (bs_sl (by assumption))|exact kn_h (kn_ro (by assumption) (by(repeat(first|exact kn_h (kn_cl (by assumption))|exact kn_h (kn_cp (by assumption) (by assumption))|exact kn_h (bs_sl (by assumption))|apply kn_t));fail_if_success focus skip))|apply kn_t));fail_if_success focus skip):LA P (⟨d,none,.iaddr size x y⟩::r) post S As:=a_i hx hy hb hi hp
theorem g_tk{e:D}{x:Operand}{hi:Option Operand}{size n:Nat}{k:IntKind}{i:Int}(hx:ev S x=some (.slice e.a n e.cap))(hh:optEv S hi=some (some (.int k i)))(hp:LA P r post (put S d (.v (.slice e.a i.toNat e.cap))) As)(hi0:0≤i∧i≤e.cap:=by first|omega|(simp only[HX.hdr,Hdr.s_room,Hdr.s_used,Hdr.s_born,Hdr.s_phase,Hdr.s_hand,Hdr.s_sub,Hdr.s_per,Hdr.s_start,Hdr.s_rounds,Hdr.s_forced,Hdr.s_rd,Hdr.s_cd,Hdr.s_gd,HX.H,List.length_map,List.length_set]at*;omega))
 (hb:Kn As (e.a=none∨e.a=some ⟨e.b,e.o,none⟩):=by(fail_if_success apply kn_bad);(repeat(first|exact kn_h (kp_cp (by assumption))|exact kn_h kp_cl|exact kn_h pl_sl|exact kn_h (kn_ro (by assumption) (by(repeat(first|exact kn_h (kp_cp (by assumption))|exact kn_h kp_cl|exact kn_h pl_sl|apply kn_t));fail_if_success focus skip))|apply kn_t));fail_if_success focus skip):LA P (⟨d,none,.slc size x none hi⟩::r) post S As:=a_tk hx hh hb hi0 hp
theorem g_l{n:Nat}{x:Operand}{b o:Nat}{v:Value}(hx:lc S x=some (.mm b o))(hp:LA P r post (put S d (.v v)) As)(hv:Rd As b o v:=by(fail_if_success apply rd_bad);(repeat(first|exact rd_h (rd_hd rfl)|exact rd_h (rd_bx rfl)|exact rd_h (rd_cl (by assumption) rfl)|exact rd_h (rd_cp (by assumption) (by assumption) rfl)|exact rd_h (r_int (by assumption))|exact rd_h (r_bool (by assumption))|exact rd_h (rd_ro (by assumption) (by(repeat(first|exact rd_h (rd_hd rfl)|exact rd_h (rd_cl (by assumption) rfl)|exact rd_h (rd_cp (by assumption) (by assumption) rfl)|exact rd_h (r_int (by assumption))|apply rd_t));fail_if_success focus skip))|apply rd_t));fail_if_success focus skip):LA P (⟨d,none,.load true n x⟩::r) post S As:=a_l hx hv hp
theorem g_ls{n:Nat}{x:Operand}{b o:Nat}{vs:List Value}(hx:lc S x=some (.mm b o))(hp:LA P r post (put S d (.v (.agg vs.toArray))) As)(hv:Rs As b o n vs:=by(fail_if_success apply rs_bad);(repeat(first|exact rs_h rs_hd|exact rs_h (rs_cl (by assumption))|exact rs_h (rs_cp (by assumption) (by assumption))|exact rs_h (r_key (by assumption) (by assumption))|exact rs_h (r_val (by assumption) (by assumption))|exact rs_h (r_reg (by assumption))|exact rs_h (rs_ro (by assumption) (by(repeat(first|exact rs_h rs_hd|exact rs_h (rs_cl (by assumption))|exact rs_h (rs_cp (by assumption) (by assumption))|exact rs_h (r_key (by assumption) (by assumption))|exact rs_h (r_val (by assumption) (by assumption))|exact rs_h (r_reg (by assumption))|apply rs_t));fail_if_success focus skip))|apply rs_t));fail_if_success focus skip):LA P (⟨d,none,.load false n x⟩::r) post S As:=a_ls hx hv hp
theorem g_st{n:Nat}{x y:Operand}{b o:Nat}{v:Value}{As':List Asr}(hx:lc S x=some (.mm b o))(hy:ev S y=some v)(hn:v.cells.size=n)(hpl:plainCells v.cells.toList=true)(hp:LA P r post S As')(hu:Up As b o v.cells.toList As':=by(fail_if_success apply up_bad);(repeat(first|exact up_h u_room|exact up_h u_used|exact up_h u_born|exact up_h u_phase|exact up_h u_hand|exact up_h u_sub|exact up_h u_per|exact up_h u_start|exact up_h u_rounds|exact up_h u_forced|exact up_h u_rd|exact up_h u_cd|exact up_h u_gd|exact up_h (u_cstate (by assumption))|exact up_h (u_ckind (by assumption))|exact up_h (u_cweak (by assumption))|exact up_h (u_clast (by assumption))|exact up_h (u_cborn (by assumption))|exact up_h (u_ccolor (by assumption))|exact up_h (u_cto (by assumption))|exact up_h (u_key (by assumption) (by assumption))|exact up_h (u_val (by assumption) (by assumption))|exact up_h (u_reg (by assumption))|exact up_h (u_regat (by assumption))|exact up_h (u_int (by assumption))|exact up_h (u_bool (by assumption))|apply up_t));fail_if_success focus skip):
 LA P (⟨d,none,.store n x y⟩::r) post S As:=a_st hx hy hn hpl hu hp
theorem g_sw{n:Nat}{x y:Operand}{s o:Nat}{cs:List Value}{v:Value}(hx:lc S x=some (.bx s o))(hb:S s=.box cs)(hy:ev S y=some v)(hn:v.cells.size=n)(hle:o+n≤cs.length)
 (hw:WrK cs o v.cells.toList (fun cs'=>LA P r post (upF S s (.box cs')) As)) (hpl:plainCells v.cells.toList=true:=by first|rfl|assumption):LA P (⟨d,none,.store n x y⟩::r) post S As:=a_sw hx hb hy hn hpl hle hw
theorem g_c{g:FuncId}{xs:List Operand}{args:List Value}{As1 F:List Asr}{q:Value→List Asr→Prop}(hx:evs S xs=some args)(hq:FnA P g args As1 q)(hp:∀v As',q v As'→LA P r post (put S d (.v v)) (As'++F))(hm:Pm As As1 F:=by exact pmt):
 LA P (⟨d,none,.call g xs⟩::r) post S As:=a_c hx hq hm hp
theorem g_ap{α:Type}{f:α→List Value}{size bytes:Nat}{z:List Value}{xs:List α}{e:D}{R:List Asr}{t:Nat}{cs:List Value}{s:Operand}(y:α)(hs:∀x,(f x).length=size)(hv:ev S s=some (.slice e.a xs.length e.cap))(ht:S t=.bsl cs 1)(hc:cs=f y)(h0:0<size∧0<bytes)
 (hp:∀e':D,LA P r post (put S d (.v (.slice e'.a (xs++[y]).length e'.cap))) (slA size f e' (xs++[y])::R)) (hpl:plainCells cs=true:=by first|rfl|assumption) (hb:((xs.length:Int)+1)*bytes≤140737488355328:=by omega)
 (hm:Pk As (slA size f e xs) R:=by(fail_if_success apply pk_bad);(repeat(first|exact pk_h|apply pk_t));fail_if_success focus skip):LA P (⟨d,none,.app size bytes z s (.tmp t)⟩::r) post S As:=
 a_ap [y] hm hs h0 hv ht (by rw[hc];simp) rfl hpl hb hp
theorem g_ai{bytes:Nat}{z:List Value}{xs:List Int}{e:D}{R:List Asr}{t:Nat}{y:Int}{s:Operand}(hv:ev S s=some (.slice e.a xs.length e.cap))(ht:S t=.bsl [.int .i64 y] 1)(h0:0<bytes)
 (hp:∀e':D,LA P r post (put S d (.v (.slice e'.a (xs++[y]).length e'.cap))) (slA 1 iv e' (xs++[y])::R)) (hb:((xs.length:Int)+1)*bytes≤140737488355328:=by omega)
 (hm:Pk As (slA 1 iv e xs) R:=by(fail_if_success apply pk_bad);(repeat(first|exact pk_h|apply pk_t));fail_if_success focus skip):LA P (⟨d,none,.app 1 bytes z s (.tmp t)⟩::r) post S As:=
 a_ap [y] hm iv_len ⟨by omega,h0⟩ hv ht rfl rfl rfl hb hp
theorem ph_g{a:Nat}{x:HX}{F:List Asr}{m:Mem}(hm:star As m)(h:Pm As (hp a x) F:=by exact pmt):PH m a x.hs:=ph_of hm h
theorem fin{a:Nat}{h:Hdr}{regs:List Word}{xs:List CS}{gray:List Int}{F:List Asr}(y:HX)(hm:Pm As [hdA a h,slA 3 wv h.rd regs,clA h.cd xs,slA 1 iv h.gd gray] F:=by exact pmt)(e1:h={y.hdr with nr:=h.nr,nc:=h.nc,ng:=h.ng}:=by rfl)
 (h1:h.nr=regs.length:=by first|rfl|(simp[HX.hdr,Hdr.s_room,Hdr.s_used,Hdr.s_born,Hdr.s_phase,Hdr.s_hand,Hdr.s_sub,Hdr.s_per,Hdr.s_start,Hdr.s_rounds,Hdr.s_forced,Hdr.s_rd,Hdr.s_cd,Hdr.s_gd];done)) (h2:h.nc=xs.length:=by first|rfl|(simp[HX.hdr,Hdr.s_room,Hdr.s_used,Hdr.s_born,Hdr.s_phase,Hdr.s_hand,Hdr.s_sub,Hdr.s_per,Hdr.s_start,Hdr.s_rounds,Hdr.s_forced,Hdr.s_rd,Hdr.s_cd,Hdr.s_gd];done)) (h3:h.ng=gray.length:=by first|rfl|(simp[HX.hdr,Hdr.s_room,Hdr.s_used,Hdr.s_born,Hdr.s_phase,Hdr.s_hand,Hdr.s_sub,Hdr.s_per,Hdr.s_start,Hdr.s_rounds,Hdr.s_forced,Hdr.s_rd,Hdr.s_cd,Hdr.s_gd];done)) (e2:regs=y.regs:=by rfl) (e3:xs=y.xs:=by rfl) (e4:gray=y.gray:=by rfl):Pm As (hp a y) F:=by
 subst e2;subst e3;subst e4
 have e:h=y.hdr:=by rw[e1,h1,h2,h3];rfl
 subst e;exact hm
end
end Go.Proofs.YtpleoapljeffiaaGreatDoor.E
