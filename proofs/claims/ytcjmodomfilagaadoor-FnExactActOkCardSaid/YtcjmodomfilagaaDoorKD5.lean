/- A part of the proof. Conditions: none. -/
import Derived.Test.YtcjmodomfilagaaDoorKD4
import Derived.Test.YtcjmodomfilagaaDoorRows
import Derived.Deep.Slices
import Derived.ProofKit
import Derived.OpenShut
import Derived.Carry
import Derived.SizedLaws
import Derived.Below
import Derived.LaidMore
import Derived.OpenVars
import Derived.ChangeArms
import Derived.Test.YtcjmodomfilagaaDoorJfActOk
import Derived.Test.YtcjmodomfilagaaDoorCards
import Derived.Test.YtcjmodomfilagaaDoorTie
import Derived.Stop.Joined
set_option linter.unusedVariables false
set_option linter.unusedSimpArgs false
namespace Go.Proofs.YtcjmodomfilagaaDoor.E
open Go
open Classical
def Lost(H:Heap)(w:Word):Prop:=∃j,H.tgt w=some j∧¬Held H j
def GoneP(H:Heap)(c:Cell)(p:Pair):Prop:=(¬KeyW c∧Lost H p.key)∨(¬ValW c∧Lost H p.val)
noncomputable def nGone(H:Heap)(c:Cell)(ps:List Pair):Nat:=ps.countP fun p=>decide (GoneP H c p)
noncomputable def g1(H:Heap):Nat→Nat
 |0=>0
 |i+1=>if Held H i then g1 H i+nGone H (H.getC i) (H.getC i).pairs else g1 H i
structure Like (H K:Heap):Prop where
 len:K.cells.length=H.cells.length
 cell:∀j:Int,(K.getC j).state=(H.getC j).state∧(K.getC j).to=(H.getC j).to∧(K.getC j).kind=(H.getC j).kind∧(K.getC j).weak=(H.getC j).weak∧(K.getC j).born=(H.getC j).born∧(K.getC j).color=(H.getC j).color
 regs:K.regs=H.regs
 gray:K.gray=H.gray
 phase:K.phase=H.phase
 hand:K.hand=H.hand
 room:K.room=H.room
 born:K.born=H.born
 per:K.per=H.per
 start:K.start=H.start
 rounds:K.rounds=H.rounds
 forced:K.forced=H.forced
theorem Like.trans{H K L:Heap}(h:Like H K)(k:Like K L):Like H L:=
 ⟨k.len.trans h.len,fun j=>⟨(k.cell j).1.trans (h.cell j).1,(k.cell j).2.1.trans (h.cell j).2.1,(k.cell j).2.2.1.trans (h.cell j).2.2.1,(k.cell j).2.2.2.1.trans (h.cell j).2.2.2.1,(k.cell j).2.2.2.2.1.trans (h.cell j).2.2.2.2.1,(k.cell j).2.2.2.2.2.trans (h.cell j).2.2.2.2.2⟩,k.regs.trans h.regs,k.gray.trans h.gray,k.phase.trans h.phase,k.hand.trans h.hand,k.room.trans h.room,k.born.trans h.born,k.per.trans h.per,k.start.trans h.start,k.rounds.trans h.rounds,k.forced.trans h.forced⟩
theorem Like.lead{H K:Heap}(h:Like H K)(w:Word):K.lead w=H.lead w:=by
 unfold Heap.lead
 rw[(h.cell _).1,(h.cell _).2.1]
def Heap.aw(H:Heap)(w:Word):Word:=if w.kind=2 then⟨2,0,(H.getC (H.lead w).at_).born⟩else w
def Heap.ap(H:Heap)(p:Pair):Pair:=⟨H.aw p.key,H.aw p.val⟩
structure Nd where
 kind:Int
 weak:Int
 last:Int
 pairs:List Pair
def Node(H:Heap)(b:Int)(n:Nd):Prop:=∃(i:Nat) (c:Cell),H.cells[i]?=some c∧c.state=1∧¬Doomed H i∧c.born=b∧n=⟨c.kind,c.weak,c.last,c.pairs.map H.ap⟩
structure Iso (H K:Heap):Prop where
 regs:K.regs.map K.aw=H.regs.map H.aw
 node:∀b n,Node K b n→Node H b n
 room:K.room=H.room
 born:K.born=H.born
 per:K.per=H.per
 start:K.start=H.start
 forced:K.forced=H.forced
theorem Iso.trans{H K L:Heap}(h:Iso H K)(k:Iso K L):Iso H L:=
 ⟨k.regs.trans h.regs,fun b n x=>h.node b n (k.node b n x),k.room.trans h.room,k.born.trans h.born,k.per.trans h.per,k.start.trans h.start,k.forced.trans h.forced⟩
structure Hue (H K:Heap):Prop where
 len:K.cells.length=H.cells.length
 cell:∀j:Int,K.getC j=(H.getC j).col (K.getC j).color
 regs:K.regs=H.regs
 room:K.room=H.room
 born:K.born=H.born
 per:K.per=H.per
 start:K.start=H.start
 forced:K.forced=H.forced
theorem Hue.trans{H K L:Heap}(h:Hue H K)(k:Hue K L):Hue H L:=
 ⟨k.len.trans h.len,fun j=>by rw[k.cell j,h.cell j];rfl,k.regs.trans h.regs,k.room.trans h.room,k.born.trans h.born,k.per.trans h.per,k.start.trans h.start,k.forced.trans h.forced⟩
def aMost(op:Int):Int:=if op=18∨20≤op then 0 else 15
def bMost(op:Int):Int:=if op=1 then 255 else if 4≤op∧op≤8∨op=13 then 15 else if op=23 then 64 else 0
def cMost(op:Int):Int:=if op=1∨op=9∨op=10 then 200 else if 5≤op∧op≤8 then 199 else if op=11 then 3 else if op=12 then 1 else if op=22 then 100000 else if op=23 then 4000 else 0
def ActP(a:Act):Prop:=(1≤a.op∧a.op≤24)∧(a.op=2∨a.n=0)∧(0≤a.a∧a.a≤aMost a.op)∧(0≤a.b∧a.b≤bMost a.op)∧(0≤a.c∧a.c≤cMost a.op)
end Go.Proofs.YtcjmodomfilagaaDoor.E
set_option maxRecDepth 100000
namespace Go.Proofs.YtcjmodomfilagaaDoor.E
open Go
noncomputable def e7:Env:=⟨Tryd.prog,[],25,[]⟩
abbrev z3(a0:Nat)(a1:Nat)(a2:Int):I:=⟨some a0,none,.bin .eql (.tmp a1) (.const (.int .i64 a2))⟩
abbrev z4(a0:Nat)(a1:Int):I:=⟨some a0,none,.mov (.const (.int .i64 a1))⟩
abbrev z8(a0:Nat)(a1:Nat)(a2:Nat)(a3:Nat):I:=⟨some a0,some (a1,true),.faddr a2 (.tmp a3)⟩
abbrev z9(a0:Nat)(a1:Nat)(a2:Nat)(a3:Nat):I:=⟨some a0,some (a1,true),.load true a2 (.tmp a3)⟩
abbrev zE(a0:Nat)(a1:Nat)(a2:Nat):I:=⟨some a0,none,.call a1 [.tmp a2]⟩
abbrev zH(a0:Nat):I:=⟨some a0,none,.mov (.const (.bool true))⟩
abbrev zI(a0:Nat)(a1:Nat)(a2:Nat):I:=⟨some a0,none,.ext (.tmp a1) a2⟩
abbrev zJ(a0:Nat)(a1:Nat)(a2:Nat)(a3:Nat):I:=⟨some a0,some (a1,false),.faddr a2 (.tmp a3)⟩
abbrev zK(a0:Nat)(a1:Nat)(a2:Nat)(a3:Nat):I:=⟨some a0,some (a1,false),.load true a2 (.tmp a3)⟩
abbrev zL(a0:Nat)(a1:Nat)(a2:Nat):I:=⟨some a0,none,.pick (.tmp a1) (.const (.bool true)) (.tmp a2)⟩
abbrev zM(a0:Nat)(a1:Nat)(a2:Nat):I:=⟨some a0,some (a1,false),.mov (.tmp a2)⟩
abbrev zN(a0:Nat)(a1:Nat)(a2:Nat)(a3:Nat)(a4:Int)(a5:Nat):I:=⟨some a0,some (a1,true),.call a2 [.tmp a3,.const (.int .i64 a4),.tmp a5]⟩
noncomputable def c7:C:=
 .seq (.reg [z6 2,z6 3]) (.seq (.seq (.reg [z0 4 0]) (.block 0 (.seq (.seq (.reg [z3 6 4 1,z0 5 6]) (.cond (.tmp 5) .skip (.seq (.reg [z3 7 4 2,z0 5 7]) (.cond (.tmp 5) .skip (.seq (.reg [z3 8 4 3,z0 5 8]) (.cond (.tmp 5) .skip (.seq (.reg [z3 9 4 9,z0 5 9]) (.cond (.tmp 5) .skip (.seq (.reg [z3 10 4 10,z0 5 10]) (.cond (.tmp 5) .skip (.seq (.reg [z3 11 4 11,z0 5 11]) (.cond (.tmp 5) .skip
 (.seq (.reg [z3 12 4 12,z0 5 12]) (.cond (.tmp 5) .skip (.seq (.reg [z3 13 4 14,z0 5 13]) (.cond (.tmp 5) .skip (.seq (.reg [z3 14 4 15,z0 5 14]) (.cond (.tmp 5) .skip (.seq (.reg [z3 15 4 16,z0 5 15]) (.cond (.tmp 5) .skip (.seq (.reg [z3 16 4 17,z0 5 16]) (.cond (.tmp 5) .skip (.reg [z3 17 4 19,z0 5 17]))))))))))))))))))))))) (.cond (.tmp 5) (.seq (.reg [zH 2,z6 3]) .ret) (.seq (.seq
 (.reg [z3 19 4 4,z0 18 19]) (.cond (.tmp 18) .skip (.seq (.reg [z3 20 4 5,z0 18 20]) (.cond (.tmp 18) .skip (.seq (.reg [z3 21 4 6,z0 18 21]) (.cond (.tmp 18) .skip (.seq (.reg [z3 22 4 7,z0 18 22]) (.cond (.tmp 18) .skip (.seq (.reg [z3 23 4 8,z0 18 23]) (.cond (.tmp 18) .skip (.reg [z3 24 4 13,z0 18 24]))))))))))) (.cond (.tmp 18) (.seq (.reg [zH 2,zH 3]) .ret) .skip)))))) (.seq (.reg [
 z6 2,z6 3]) .ret))
theorem t7:Tryd.f7.body.bind (trC e7)=some c7:=by kernel_rfl
theorem r7:Tryd.f7.results.toList.mapM (trR Tryd.prog)=some [.tmp 2,.tmp 3]:=by kernel_rfl
theorem fn7{args:List Value}{M:Mem}{post:Value→Mem→Prop}(hl:args.length≤25)(h:VC e7 c7 (fnQ [.tmp 2,.tmp 3] post) (initS args 25) M):Fn Tryd.prog 7 args M post:=
 Fn.of' (E:=e7) Tryd.func7 t7 rfl r7 mixed hl h
noncomputable def e9:Env:=⟨Tryd.prog,[],26,[]⟩
noncomputable def c9:C:=
 .seq (.reg [z4 2 0,z4 3 0]) (.seq (.seq (.reg [z0 4 0]) (.block 0 (.seq (.reg [z3 6 4 1,z0 5 6]) (.cond (.tmp 5) (.seq (.reg [z4 2 255,z4 3 200]) .ret) (.seq (.seq (.reg [z3 8 4 5,z0 7 8]) (.cond (.tmp 7) .skip (.seq (.reg [z3 9 4 6,z0 7 9]) (.cond (.tmp 7) .skip (.seq (.reg [z3 10 4 7,z0 7 10]) (.cond (.tmp 7) .skip (.reg [z3 11 4 8,z0 7 11]))))))) (.cond (.tmp 7) (.seq (.reg [z4 2 15,
 z4 3 199]) .ret) (.seq (.seq (.reg [z3 13 4 4,z0 12 13]) (.cond (.tmp 12) .skip (.reg [z3 14 4 13,z0 12 14]))) (.cond (.tmp 12) (.seq (.reg [z4 2 15,z4 3 0]) .ret) (.seq (.seq (.reg [z3 16 4 9,z0 15 16]) (.cond (.tmp 15) .skip (.reg [z3 17 4 10,z0 15 17]))) (.cond (.tmp 15) (.seq (.reg [z4 2 0,z4 3 200]) .ret) (.seq (.reg [z3 19 4 11,z0 18 19]) (.cond (.tmp 18) (.seq (.reg [z4 2 0,z4 3
 3]) .ret) (.seq (.reg [z3 21 4 12,z0 20 21]) (.cond (.tmp 20) (.seq (.reg [z4 2 0,z4 3 1]) .ret) (.seq (.reg [z3 23 4 22,z0 22 23]) (.cond (.tmp 22) (.seq (.reg [z4 2 0,z4 3 100000]) .ret) (.seq (.reg [z3 25 4 23,z0 24 25]) (.cond (.tmp 24) (.seq (.reg [z4 2 64,z4 3 4000]) .ret) .skip)))))))))))))))))) (.seq (.reg [z4 2 0,z4 3 0]) .ret))
theorem t9:Tryd.f9.body.bind (trC e9)=some c9:=by kernel_rfl
theorem r9:Tryd.f9.results.toList.mapM (trR Tryd.prog)=some [.tmp 2,.tmp 3]:=by kernel_rfl
theorem fn9{args:List Value}{M:Mem}{post:Value→Mem→Prop}(hl:args.length≤26)(h:VC e9 c9 (fnQ [.tmp 2,.tmp 3] post) (initS args 26) M):Fn Tryd.prog 9 args M post:=
 Fn.of' (E:=e9) Tryd.func9 t9 rfl r9 mixed hl h
noncomputable def e4:Env:=⟨Tryd.prog,[1],63,[]⟩
noncomputable def c4:C:=
 .seq (.reg [zF 1 0,z6 2]) (.seq (.seq (.reg [z5 7 0 1,z7 8 1 7,⟨some 9,none,.bin .lss (.tmp 8) (.const (.int .i64 1))⟩,z0 10 9,zJ 11 10 0 1,zK 12 10 1 11,⟨some 13,some (10,false),.bin .gtr (.tmp 12) (.const (.int .i64 24))⟩,zL 14 10 13,z0 15 14,zJ 16 15 0 1,zK 17 15 1 16,⟨some 18,some (15,false),.bin .neq (.tmp 17) (.const (.int .i64 2))⟩,zM 19 15 18,z8 20 19 4 1,z9 21 19 1 20,⟨some 22,some (19,
 true),.bin .neq (.tmp 21) (.const (.int .i64 0))⟩,⟨some 23,some (15,false),.pick (.tmp 19) (.tmp 22) (.const (.bool false))⟩,zL 24 15 23]) (.cond (.tmp 24) (.seq (.reg [z6 2]) .ret) .skip)) (.seq (.reg [z5 26 0 1,z7 27 1 26,zE 28 7 27,z0 25 28,zI 29 25 0,zI 30 25 1,z0 3 29,z0 4 30]) (.seq (.seq (.reg [z0 31 3,z0 32 31,z8 33 32 1 1,z9 34 32 1 33,⟨some 35,some (32,true),.call 8 [.tmp 34,.const
 (.int .i64 0),.const (.int .i64 15)]⟩,⟨some 36,some (32,true),.not (.tmp 35)⟩,zA 37 32 36,z0 38 37,zM 39 38 3,⟨some 40,some (38,false),.not (.tmp 39)⟩,zM 41 38 40,z8 42 41 1 1,z9 43 41 1 42,⟨some 44,some (41,true),.bin .neq (.tmp 43) (.const (.int .i64 0))⟩,⟨some 45,some (38,false),.pick (.tmp 41) (.tmp 44) (.const (.bool false))⟩,zL 46 38 45]) (.cond (.tmp 46) (.seq (.reg [z6 2]) .ret) .skip))
 (.seq (.reg [z5 48 0 1,z7 49 1 48,zE 50 9 49,z0 47 50,zI 51 47 0,zI 52 47 1,z0 5 51,z0 6 52]) (.seq (.reg [z5 53 2 1,z7 54 1 53,z0 55 5,⟨some 56,none,.call 8 [.tmp 54,.const (.int .i64 0),.tmp 55]⟩,z0 57 56,z8 58 57 3 1,z9 59 57 1 58,zD 60 57 6,zN 61 57 8 59 0 60,zA 62 57 61,z0 2 62]) .ret)))))
theorem t4:Tryd.f4.body.bind (trC e4)=some c4:=by kernel_rfl
theorem r4:Tryd.f4.results.toList.mapM (trR Tryd.prog)=some [.tmp 2]:=by kernel_rfl
theorem fn4{args:List Value}{M:Mem}{post:Value→Mem→Prop}(hl:args.length≤63)(h:VC e4 c4 (fnQ [.tmp 2] post) (initS args 63) M):Fn Tryd.prog 4 args M post:=
 Fn.of' (E:=e4) Tryd.func4 t4 rfl r4 mixed hl h
end Go.Proofs.YtcjmodomfilagaaDoor.E
set_option maxHeartbeats 8000000
namespace Go.Proofs.YtcjmodomfilagaaDoor.E
open Go
open Classical
def actV(a:Act):Value:=.agg (av a).toArray
def rA(op:Int):Bool:=decide (op=1∨op=2∨op=3∨op=9∨op=10∨op=11∨op=12∨op=14∨op=15∨op=16∨op=17∨op=19)||rB op
where rB (op:Int):Bool:=decide (op=4∨op=5∨op=6∨op=7∨op=8∨op=13)
theorem l5reg_q{m:Mem}{op:Int}:Qt Tryd.prog 7 [.int .i64 op] m (.tuple #[.bool (rA op),.bool (rA.rB op)]):=by
 refine qt_of (fnA_of (fun h=>fn7 (by simp) h) ?_)
 repeat' (first
  |(refine k_L ?_;first|(refine k_ad ?_;refine g_ad rfl rfl ?_)|(refine k_su ?_;refine g_su rfl rfl ?_)|(refine k_ml ?_;refine g_ml rfl rfl ?_)|refine a_p rfl ?_|(refine k_g ?_;first|refine a_gy rfl rfl ?_|refine a_gn rfl rfl ?_|refine a_gu rfl ?_|(refine a_gd rfl (fun hb=>?_) (fun hb=>?_)<;>try(exfalso;omega))|(refine a_ge rfl (fun hb=>?_) (fun hb=>?_)<;>try(exfalso;omega))|(refine a_gne rfl (fun hb=>?_) (fun hb=>?_)<;>try(exfalso;omega))|(refine a_gnd rfl (fun hb=>?_) (fun hb=>?_)<;>try(exfalso;omega)))|(refine k_l ?_;refine g_l rfl ?_)|(refine k_i ?_;refine g_i rfl rfl ?_)|(refine k_ls ?_;refine g_ls rfl ?_)|(refine k_st ?_;first|refine g_st rfl rfl rfl rfl ?_|refine g_sw rfl rfl rfl rfl (Nat.le_of_ble_eq_true rfl) ?_)|(refine k_al ?_;refine a_al ?_)|(refine k_bx ?_;refine a_bx rfl rfl ?_)|(refine k_bl ?_;refine a_bl rfl ?_)|(refine k_p ?_;first|(refine a_pd rfl (fun hb=>?_) (fun hb=>?_)<;>try(exfalso;omega))|(refine a_pe rfl (fun hb=>?_) (fun hb=>?_)<;>try(exfalso;omega))|(refine a_pne rfl (fun hb=>?_) (fun hb=>?_)<;>try(exfalso;omega))|(refine a_pnd rfl (fun hb=>?_) (fun hb=>?_)<;>try(exfalso;omega))))
  |refine a_n ?_
  |(refine k_V ?_;first|refine v_rv ?_|refine v_seq ?_|refine v_reg ?_|refine v_dreg ?_|refine v_zreg ?_|refine v_bs ?_|refine v_br ?_|refine v_bd ?_|refine v_bc ?_|refine v_bk ?_|refine v_bb ?_|refine v_ret ?_|refine v_exit ?_|refine v_skip ?_|refine v_ct rfl ?_|refine v_cf rfl ?_|(refine v_cd rfl (fun hb=>?_) (fun hb=>?_)<;>try(exfalso;omega))|(refine v_ce rfl (fun hb=>?_) (fun hb=>?_)<;>try(exfalso;omega))|(refine v_cn rfl (fun hb=>?_) (fun hb=>?_)<;>try(exfalso;omega))|(refine v_cnd rfl (fun hb=>?_) (fun hb=>?_)<;>try(exfalso;omega)))
  |refine s_n ?_
  |refine s_r ?_
  |refine s_e ?_
  |refine b_n ?_
  |refine b_r ?_
  |refine b_e ?_
  |refine b_o rfl ?_
  |refine r_rt ?_
  |refine r_bk rfl ?_
  |refine r_ex rfl rfl ?_
  |refine sk_zero ?_
  |refine sk_succ ?_
  |refine wk_nil ?_
  |refine wk_cons ?_)
 all_goals exact fa_q (by simp) (fun _ _=>rfl) (by unfold rA rA.rB;simp_all<;>omega)
theorem l5most_q{m:Mem}{op:Int}:Qt Tryd.prog 9 [.int .i64 op] m (.tuple #[.int .i64 (bMost op),.int .i64 (cMost op)]):=by
 refine qt_of (fnA_of (fun h=>fn9 (by simp) h) ?_)
 repeat' (first
  |(refine k_L ?_;first|(refine k_ad ?_;refine g_ad rfl rfl ?_)|(refine k_su ?_;refine g_su rfl rfl ?_)|(refine k_ml ?_;refine g_ml rfl rfl ?_)|refine a_p rfl ?_|(refine k_g ?_;first|refine a_gy rfl rfl ?_|refine a_gn rfl rfl ?_|refine a_gu rfl ?_|(refine a_gd rfl (fun hb=>?_) (fun hb=>?_)<;>try(exfalso;omega))|(refine a_ge rfl (fun hb=>?_) (fun hb=>?_)<;>try(exfalso;omega))|(refine a_gne rfl (fun hb=>?_) (fun hb=>?_)<;>try(exfalso;omega))|(refine a_gnd rfl (fun hb=>?_) (fun hb=>?_)<;>try(exfalso;omega)))|(refine k_l ?_;refine g_l rfl ?_)|(refine k_i ?_;refine g_i rfl rfl ?_)|(refine k_ls ?_;refine g_ls rfl ?_)|(refine k_st ?_;first|refine g_st rfl rfl rfl rfl ?_|refine g_sw rfl rfl rfl rfl (Nat.le_of_ble_eq_true rfl) ?_)|(refine k_al ?_;refine a_al ?_)|(refine k_bx ?_;refine a_bx rfl rfl ?_)|(refine k_bl ?_;refine a_bl rfl ?_)|(refine k_p ?_;first|(refine a_pd rfl (fun hb=>?_) (fun hb=>?_)<;>try(exfalso;omega))|(refine a_pe rfl (fun hb=>?_) (fun hb=>?_)<;>try(exfalso;omega))|(refine a_pne rfl (fun hb=>?_) (fun hb=>?_)<;>try(exfalso;omega))|(refine a_pnd rfl (fun hb=>?_) (fun hb=>?_)<;>try(exfalso;omega))))
  |refine a_n ?_
  |(refine k_V ?_;first|refine v_rv ?_|refine v_seq ?_|refine v_reg ?_|refine v_dreg ?_|refine v_zreg ?_|refine v_bs ?_|refine v_br ?_|refine v_bd ?_|refine v_bc ?_|refine v_bk ?_|refine v_bb ?_|refine v_ret ?_|refine v_exit ?_|refine v_skip ?_|refine v_ct rfl ?_|refine v_cf rfl ?_|(refine v_cd rfl (fun hb=>?_) (fun hb=>?_)<;>try(exfalso;omega))|(refine v_ce rfl (fun hb=>?_) (fun hb=>?_)<;>try(exfalso;omega))|(refine v_cn rfl (fun hb=>?_) (fun hb=>?_)<;>try(exfalso;omega))|(refine v_cnd rfl (fun hb=>?_) (fun hb=>?_)<;>try(exfalso;omega)))
  |refine s_n ?_
  |refine s_r ?_
  |refine s_e ?_
  |refine b_n ?_
  |refine b_r ?_
  |refine b_e ?_
  |refine b_o rfl ?_
  |refine r_rt ?_
  |refine r_bk rfl ?_
  |refine r_ex rfl rfl ?_
  |refine sk_zero ?_
  |refine sk_succ ?_
  |refine wk_nil ?_
  |refine wk_cons ?_)
 all_goals exact fa_q (by simp) (fun _ _=>rfl) (by unfold bMost cMost;simp_all<;>omega)
theorem rA_most(op:Int)(h:1≤op∧op≤24):aMost op=if rA op=true then 15 else 0:=by
 unfold aMost rA rA.rB
 by_cases e:op=18∨20≤op
 ·rw[if_pos e,if_neg]
  simp only[Bool.or_eq_true,decide_eq_true_eq]
  omega
 ·rw[if_neg e,if_pos]
  simp only[Bool.or_eq_true,decide_eq_true_eq]
  omega
theorem specActOk_q{m:Mem}{a:Act}:Qt Tryd.prog 4 [actV a] m (.bool (decide (ActP a))):=by
 refine qt_of (fnA_of (fun h=>fn4 (by simp) h) ?_)
 have hm:=rA_most a.op
 cases hr:rA a.op with
 |true=>
  rw[hr,if_pos rfl]at hm
  repeat' (first
   |(refine k_L ?_;first|(refine k_ad ?_;refine g_ad rfl rfl ?_)|(refine k_su ?_;refine g_su rfl rfl ?_)|(refine k_ml ?_;refine g_ml rfl rfl ?_)|refine a_p rfl ?_|(refine k_g ?_;first|refine a_gy rfl rfl ?_|refine a_gn rfl rfl ?_|refine a_gu rfl ?_|(refine a_gd rfl (fun hb=>?_) (fun hb=>?_)<;>try(exfalso;omega))|(refine a_ge rfl (fun hb=>?_) (fun hb=>?_)<;>try(exfalso;omega))|(refine a_gne rfl (fun hb=>?_) (fun hb=>?_)<;>try(exfalso;omega))|(refine a_gnd rfl (fun hb=>?_) (fun hb=>?_)<;>try(exfalso;omega)))|(refine k_l ?_;refine g_l rfl ?_)|(refine k_i ?_;refine g_i rfl rfl ?_)|(refine k_ls ?_;refine g_ls rfl ?_)|(refine k_st ?_;first|refine g_st rfl rfl rfl rfl ?_|refine g_sw rfl rfl rfl rfl (Nat.le_of_ble_eq_true rfl) ?_)|(refine k_al ?_;refine a_al ?_)|(refine k_bx ?_;refine a_bx rfl rfl ?_)|(refine k_bl ?_;refine a_bl rfl ?_)|(refine k_q ?_;first|refine a_q rfl (fun m hm=>qt_e l5reg_q (by rw[hr])) ?_|refine a_q rfl (fun m hm=>spec.l1inQ) ?_|refine a_q rfl (fun m hm=>l5most_q) ?_)|(refine k_c ?_;first|refine a_cq rfl (fun m hm=>qt_e l5reg_q (by rw[hr])) ?_|refine a_cq rfl (fun m hm=>spec.l1inQ) ?_|refine a_cq rfl (fun m hm=>l5most_q) ?_)|(refine k_p ?_;first|(refine a_pd rfl (fun hb=>?_) (fun hb=>?_)<;>try(exfalso;omega))|(refine a_pe rfl (fun hb=>?_) (fun hb=>?_)<;>try(exfalso;omega))|(refine a_pne rfl (fun hb=>?_) (fun hb=>?_)<;>try(exfalso;omega))|(refine a_pnd rfl (fun hb=>?_) (fun hb=>?_)<;>try(exfalso;omega))))
   |refine a_n ?_
   |(refine k_V ?_;first|refine v_rv ?_|refine v_seq ?_|refine v_reg ?_|refine v_dreg ?_|refine v_zreg ?_|refine v_bs ?_|refine v_br ?_|refine v_bd ?_|refine v_bc ?_|refine v_bk ?_|refine v_bb ?_|refine v_ret ?_|refine v_exit ?_|refine v_skip ?_|refine v_ct rfl ?_|refine v_cf rfl ?_|(refine v_cd rfl (fun hb=>?_) (fun hb=>?_)<;>try(exfalso;omega))|(refine v_ce rfl (fun hb=>?_) (fun hb=>?_)<;>try(exfalso;omega))|(refine v_cn rfl (fun hb=>?_) (fun hb=>?_)<;>try(exfalso;omega))|(refine v_cnd rfl (fun hb=>?_) (fun hb=>?_)<;>try(exfalso;omega)))
   |refine s_n ?_
   |refine s_r ?_
   |refine s_e ?_
   |refine b_n ?_
   |refine b_r ?_
   |refine b_e ?_
   |refine b_o rfl ?_
   |refine r_rt ?_
   |refine r_bk rfl ?_
   |refine r_ex rfl rfl ?_
   |refine sk_zero ?_
   |refine sk_succ ?_
   |refine wk_nil ?_
   |refine wk_cons ?_)
  all_goals first
   |exact q_F (fun h=>by unfold ActP at h;omega)
   |exact q_B (fun _ _=>rfl) (by unfold ActP;rw[decide_eq_true_eq];omega)
 |false=>
  rw[hr,if_neg (by simp)]at hm
  repeat' (first
   |(refine k_L ?_;first|(refine k_ad ?_;refine g_ad rfl rfl ?_)|(refine k_su ?_;refine g_su rfl rfl ?_)|(refine k_ml ?_;refine g_ml rfl rfl ?_)|refine a_p rfl ?_|(refine k_g ?_;first|refine a_gy rfl rfl ?_|refine a_gn rfl rfl ?_|refine a_gu rfl ?_|(refine a_gd rfl (fun hb=>?_) (fun hb=>?_)<;>try(exfalso;omega))|(refine a_ge rfl (fun hb=>?_) (fun hb=>?_)<;>try(exfalso;omega))|(refine a_gne rfl (fun hb=>?_) (fun hb=>?_)<;>try(exfalso;omega))|(refine a_gnd rfl (fun hb=>?_) (fun hb=>?_)<;>try(exfalso;omega)))|(refine k_l ?_;refine g_l rfl ?_)|(refine k_i ?_;refine g_i rfl rfl ?_)|(refine k_ls ?_;refine g_ls rfl ?_)|(refine k_st ?_;first|refine g_st rfl rfl rfl rfl ?_|refine g_sw rfl rfl rfl rfl (Nat.le_of_ble_eq_true rfl) ?_)|(refine k_al ?_;refine a_al ?_)|(refine k_bx ?_;refine a_bx rfl rfl ?_)|(refine k_bl ?_;refine a_bl rfl ?_)|(refine k_q ?_;first|refine a_q rfl (fun m hm=>qt_e l5reg_q (by rw[hr])) ?_|refine a_q rfl (fun m hm=>spec.l1inQ) ?_|refine a_q rfl (fun m hm=>l5most_q) ?_)|(refine k_c ?_;first|refine a_cq rfl (fun m hm=>qt_e l5reg_q (by rw[hr])) ?_|refine a_cq rfl (fun m hm=>spec.l1inQ) ?_|refine a_cq rfl (fun m hm=>l5most_q) ?_)|(refine k_p ?_;first|(refine a_pd rfl (fun hb=>?_) (fun hb=>?_)<;>try(exfalso;omega))|(refine a_pe rfl (fun hb=>?_) (fun hb=>?_)<;>try(exfalso;omega))|(refine a_pne rfl (fun hb=>?_) (fun hb=>?_)<;>try(exfalso;omega))|(refine a_pnd rfl (fun hb=>?_) (fun hb=>?_)<;>try(exfalso;omega))))
   |refine a_n ?_
   |(refine k_V ?_;first|refine v_rv ?_|refine v_seq ?_|refine v_reg ?_|refine v_dreg ?_|refine v_zreg ?_|refine v_bs ?_|refine v_br ?_|refine v_bd ?_|refine v_bc ?_|refine v_bk ?_|refine v_bb ?_|refine v_ret ?_|refine v_exit ?_|refine v_skip ?_|refine v_ct rfl ?_|refine v_cf rfl ?_|(refine v_cd rfl (fun hb=>?_) (fun hb=>?_)<;>try(exfalso;omega))|(refine v_ce rfl (fun hb=>?_) (fun hb=>?_)<;>try(exfalso;omega))|(refine v_cn rfl (fun hb=>?_) (fun hb=>?_)<;>try(exfalso;omega))|(refine v_cnd rfl (fun hb=>?_) (fun hb=>?_)<;>try(exfalso;omega)))
   |refine s_n ?_
   |refine s_r ?_
   |refine s_e ?_
   |refine b_n ?_
   |refine b_r ?_
   |refine b_e ?_
   |refine b_o rfl ?_
   |refine r_rt ?_
   |refine r_bk rfl ?_
   |refine r_ex rfl rfl ?_
   |refine sk_zero ?_
   |refine sk_succ ?_
   |refine wk_nil ?_
   |refine wk_cons ?_)
  all_goals first
   |exact q_F (fun h=>by unfold ActP at h;omega)
   |exact q_B (fun _ _=>rfl) (by unfold ActP;rw[decide_eq_true_eq];omega)
end Go.Proofs.YtcjmodomfilagaaDoor.E
namespace Go.Proofs.YtcjmodomfilagaaDoor.E
open Go Go.RowKit
def memOf(W:World):Mem:=fun b=>
 match W.heap[b]? with
 |some (.cells cs t fr)=>some (.ro cs.toList t fr)
 |_=>none
theorem memOf_sat(W:World):Sat W (memOf W):=by
 intro b k h
 unfold memOf at h
 split at h
 ·rename_i cs t fr e
  cases h
  show W.heap[b]?=_
  rw[e]
 ·cases h
theorem memOf_cells{W:World}{b:Nat}{cs:Array Value}{t:TypeId}{fr:Nat×Nat}(h:W.heap[b]?=some (.cells cs t fr)):memOf W b=some (.ro cs.toList t fr):=by
 unfold memOf;rw[h]
theorem row_of{P:Program}{f:FuncId}{args:List Value}{W:World}{r:Value}(h:Fn P f args (memOf W) (fun v M'=>v=r∧(memOf W).le M')):
 Calls P f args.toArray W (fun e W'=>e=.returned r∧Below W.heap.size W W'):=by
 refine(h.out W (memOf_sat W)).mono ?_
 rintro e W' ⟨v,M',rfl,⟨rfl,hle⟩,hs,st⟩
 refine⟨rfl,⟨st.os,st.tape,st.output,st.size,fun k hk=>?_⟩⟩
 cases e:memOf W k with
 |none=>exact st.keep k hk e
 |some x=>
  have h2:=hs _ _ (hle _ _ e)
  unfold memOf at e
  split at e
  ·rename_i cs t fr e'
   cases e
   rw[e']
   exact h2
  ·cases e
section
variable {H:Type} {enc:TypeId×Value→H} {P:Program} {W:World} {spare:Nat→Bool} {held:Bool}
def fsOf(P:Program)(t:TypeId):Array Field:=
 match P.underlying t with
 |some (.struct fs)=>fs
 |_=> #[]
theorem open_struct{t:TypeId}{fuel:Nat}{cs:List Value}{x:DataW H×List MemPlace}{l:List (TypeId×Nat)}(ht:P.underlying t=some (.struct (fsOf P t)))(hl:(fsOf P t).toList.map (fun f=>(f.type,f.offset))=l)
 (h:DataW.trod enc P W 0 spare held fuel t cs=some x):cs.length=P.cellsOf t∧∃n,∀(i:Nat) u o,l[i]?=some (u,o)→∃y,DataW.trod enc P W 0 spare held n u ((cs.drop o).take (P.cellsOf u))=some y:=by
 obtain⟨xs,n,_,_,hlen,hx,hf⟩:=DataW.trod_struct ht h
 refine⟨hlen,n,fun i u o hi=>?_⟩
 subst hl
 rw[List.getElem?_map]at hi
 cases hg:(fsOf P t).toList[i]? with
 |none=>rw[hg]at hi;cases hi
 |some f=>
  rw[hg]at hi
  simp only[Option.map_some,Option.some.injEq,Prod.mk.injEq]at hi
  obtain⟨rfl,rfl⟩:=hi
  have hg':(fsOf P t)[i]?=some f:=by rw[←Array.getElem?_toList];exact hg
  have hi:=(Array.getElem?_eq_some_iff.1 hg').1
  refine⟨xs[i]'(by omega),?_⟩
  rw[hf i f hg',List.getElem?_eq_getElem (by omega)]
theorem cells_heap{a:Addr}{n:Nat}{cs:List Value}(h:W.cells? 0 a n=some cs)(hn:0<n):∃c t fr,a.spot=none∧W.heap[a.block]?=some (.cells c t fr)∧cs.length=n∧∀j,j<n→c[a.off+j]?=cs[j]?∧a.off+j<c.size:=by
 obtain⟨_,hlen,hc⟩:=World.cells?_some h
 have key:∀j,j<n→W.cell? (a.add j)=cs[j]?:=fun j hj=>hc j hj
 have h0:=key 0 hn
 have e0:a.add 0=a:=by unfold Addr.add;simp
 rw[e0,List.getElem?_eq_getElem (by omega)]at h0
 unfold World.cell? at h0
 split at h0
 ·rename_i c t fr hh
  split at h0
  ·cases h0
  ·rename_i hs
   have hsn:a.spot=none:=by cases e:a.spot with
    |none=>rfl
    |some _=>rw[e]at hs;simp at hs
   refine⟨c,t,fr,hsn,hh,hlen,fun j hj=>?_⟩
   have hk:=key j hj
   have ea:a.add j=⟨a.block,a.off+j,none⟩:=by
    cases a with
    |mk b o s=>simp only at hsn;subst hsn;exact add_none b o j
   rw[ea]at hk
   simp only[World.cell?,hh]at hk
   simp at hk
   refine⟨hk,?_⟩
   rw[List.getElem?_eq_getElem (by omega)]at hk
   exact(Array.getElem?_eq_some_iff.1 hk).1
 ·cases h0
theorem flat_of{α:Type}{f:α→List Value}{size:Nat}(hs:∀x,(f x).length=size)(row:List Value)(o:Nat)(X:Nat→α):∀n,(∀i,i<n→∀j,j<size→row[o+i*size+j]?=(f (X i))[j]?)→
 (row.drop o).take (n*size)=((List.range n).map X).flatMap f
 |0,_=>by simp
 |n+1,h=>by
  have ih:=flat_of hs row o X n (fun i hi j hj=>h i (by omega) j hj)
  rw[List.range_succ,List.map_append,List.flatMap_append,←ih,Nat.succ_mul,List.take_add]
  congr 1
  simp only[List.map_cons,List.map_nil,List.flatMap_cons,List.flatMap_nil,List.append_nil]
  apply List.ext_getElem?
  intro j
  rw[List.getElem?_take]
  split
  ·rename_i hj
   rw[List.drop_drop,List.getElem?_drop]
   exact h n (by omega) j hj
  ·rename_i hj
   rw[List.getElem?_eq_none (by rw[hs];omega)]
theorem take_one{cs:List Value}{o:Nat}{x:Value}(h:(cs.drop o).take 1=[x]):cs[o]?=some x:=by
 have:=congrArg (·[0]?) h
 simpa [List.getElem?_take,List.getElem?_drop]using this
end
end Go.Proofs.YtcjmodomfilagaaDoor.E
namespace Go.Proofs.YtcjmodomfilagaaDoor.E
open Go Go.ChangeShapes Go.WideShapes Go.ChangeAt Go.RowKit
section
variable {H:Type} {enc:TypeId×Value→H} {P:Program} {W:World} {spare:Nat→Bool} {held:Bool}
theorem open_slD{α:Type}[Inhabited α]{f:α→List Value}{size:Nat}{R:DataW H→α→Prop}{t e:TypeId}{fuel:Nat}{cs:List Value}{ds sp:List (DataW H)}{pl:List MemPlace}(hs:∀x,(f x).length=size)(hs0:0<size)
 (ht:P.underlying t=some (.slice e)) (hc:P.cellsOf e=size) (he:∀n cs y,DataW.trod enc P W 0 spare held n e cs=some y→∃x,cs=f x∧R y.1 x)
 (h:DataW.trod enc P W 0 spare held fuel t cs=some (.slice ds sp,pl)):∃v xs,cs=[v]∧SlR (memOf W) size f v xs∧xs.length=ds.length∧∀(i:Nat) d y,ds[i]?=some d→xs[i]?=some y→R d y:=by
 rcases Deep.open_slice ht h with⟨rfl,h0⟩|⟨a,len,cap,m,n,D,Pl,rfl,_,hlc,hcm,hm,hx,hel⟩
 ·cases h0
 ·simp only[Prod.mk.injEq,DataW.slice.injEq]at hx
  obtain⟨⟨hds,_⟩,_⟩:=hx
  have hlm:len≤m:=by rw[hm];split<;>omega
  obtain⟨X,hX⟩:=Deep.choose_lt (n:=len) (p:=fun i y=>W.cells? 0 (a.add (i*size)) size=some (f y)∧R (D i) y) (fun i hi=>by
   obtain⟨cs',h1,h2⟩:=hel i (by omega)
   obtain⟨y,rfl,hq⟩:=he _ _ _ h2
   rw[hc]at h1
   exact⟨y,h1,hq⟩)
  refine⟨_,(List.range len).map X,rfl,?_,by rw[hds];simp,?_⟩
  ·by_cases h0:len=0
   ·subst h0;exact .inl ⟨_,_,rfl,rfl⟩
   ·obtain⟨c,u,fr,hsp,hh,_,_⟩:=cells_heap (hX 0 (by omega)).1 hs0
    have e0:a.add (0*size)=a:=by unfold Addr.add;simp
    rw[e0]at hsp hh
    have ea:a=⟨a.block,a.off,none⟩:=by cases a;simp only at hsp;subst hsp;rfl
    have hcell:∀i,i<len→∀j,j<size→c.toList[a.off+i*size+j]?=(f (X i))[j]?∧a.off+i*size+j<c.size:=by
     intro i hi j hj
     obtain⟨c',u',fr',hsp',hh',_,hj'⟩:=cells_heap (hX i hi).1 hs0
     have e1:a.add (i*size)=⟨a.block,a.off+i*size,none⟩:=by rw[ea];exact add_none _ _ _
     rw[e1]at hh' hj'
     rw[hh]at hh'
     cases hh'
     obtain⟨k1,k2⟩:=hj' j hj
     exact⟨by rw[Array.getElem?_toList];exact k1,k2⟩
    have hlast:=(hcell (len-1) (by omega) (size-1) (by omega)).2
    have hml:(len-1)*size+size=len*size:=by rw[←Nat.succ_mul];congr 1;omega
    refine .inr ⟨a.block,a.off,cap,c.toList,?_,.inr ⟨u,fr,memOf_cells hh⟩,?_,?_,?_⟩
    ·rw[←ea];simp
    ·simp;simp[maxLen]at hcm;omega
    ·simp only[List.length_map,List.length_range,Array.length_toList];omega
    ·simp only[List.length_map,List.length_range]
     exact flat_of hs _ _ X len (fun i hi j hj=>(hcell i hi j hj).1)
  ·intro i d y hd hy
   rw[hds,List.getElem?_map]at hd
   rw[List.getElem?_map]at hy
   cases hr:(List.range len)[i]? with
   |none=>rw[hr]at hd;cases hd
   |some k=>
    rw[hr]at hd hy
    simp only[Option.map_some,Option.some.injEq]at hd hy
    subst hd;subst hy
    have:k<len:=List.mem_range.1 (List.mem_of_getElem? hr)
    exact(hX k this).2
end
structure Form where
 nm:ByteArray
 a:Int
 b:Int
 c:Int
 n:Bool
instance:Inhabited Form:=⟨⟨⟨#[]⟩,0,0,0,false⟩⟩
def fmV(f:Form):List Value:=[.string f.nm,.int .i64 f.a,.int .i64 f.b,.int .i64 f.c,.bool f.n]
def fmD{H:Type}(f:Form):DataW H:=.agg [.lit (.string f.nm.data.toList),.lit (.int .i64 f.a),.lit (.int .i64 f.b),.lit (.int .i64 f.c),.lit (.bool f.n)]
theorem und_form:Tryd.prog.underlying 34=some (.struct (fsOf Tryd.prog 34)):=by kernel_rfl
theorem fs_form:(fsOf Tryd.prog 34).toList.map (fun f=>(f.type,f.offset))=[(9,0),(3,1),(3,2),(3,3),(4,4)]:=by kernel_rfl
theorem und_forms:Tryd.prog.underlying 35=some (.slice 34):=by kernel_rfl
theorem cof_form:Tryd.prog.cellsOf 34=5:=by kernel_rfl
theorem fund_int:Tryd.prog.underlying 3=some (.int .i64):=by kernel_rfl
theorem fund_str:Tryd.prog.underlying 9=some .string:=by kernel_rfl
theorem fund_bool:Tryd.prog.underlying 4=some .bool:=by kernel_rfl
theorem fcof_int:Tryd.prog.cellsOf 3=1:=by kernel_rfl
theorem fcof_str:Tryd.prog.cellsOf 9=1:=by kernel_rfl
theorem fcof_bool:Tryd.prog.cellsOf 4=1:=by kernel_rfl
section
variable {H:Type} {enc:TypeId×Value→H} {W:World} {spare:Nat→Bool} {held:Bool}
theorem open_form:∀n cs y,DataW.trod enc Tryd.prog W 0 spare held n 34 cs=some y→∃x,cs=fmV x∧y.1=fmD x:=by
 intro n cs y h
 obtain⟨xs,k,_,rfl,hl,hlen,hf⟩:=DataW.trod_struct und_form h
 have hfs:=fs_form
 have hget:∀(i:Nat) u o,[(9,0),(3,1),(3,2),(3,3),(4,4)][i]?=some (u,o)→DataW.trod enc Tryd.prog W 0 spare held k u ((cs.drop o).take (Tryd.prog.cellsOf u))=xs[i]?:=fun i u o hi=>by
  rw[←hfs,List.getElem?_map]at hi
  cases hg:(fsOf Tryd.prog 34).toList[i]? with
  |none=>rw[hg]at hi;cases hi
  |some f=>
   rw[hg]at hi
   simp only[Option.map_some,Option.some.injEq,Prod.mk.injEq]at hi
   obtain⟨rfl,rfl⟩:=hi
   exact hf i f (by rw[←Array.getElem?_toList];exact hg)
 have hx5:xs.length=5:=by
  rw[hlen,←Array.length_toList]
  have:=congrArg List.length hfs
  rw[List.length_map]at this;exact this
 match xs,hx5,hget with
 |[x0,x1,x2,x3,x4],_,hget=>
  obtain⟨s,a0,b0,_⟩:=DataW.trod_string fund_str (hget 0 _ _ rfl)
  obtain⟨i1,a1,b1,_⟩:=DataW.trod_int fund_int (hget 1 _ _ rfl)
  obtain⟨i2,a2,b2,_⟩:=DataW.trod_int fund_int (hget 2 _ _ rfl)
  obtain⟨i3,a3,b3,_⟩:=DataW.trod_int fund_int (hget 3 _ _ rfl)
  obtain⟨b4,a4,c4⟩:=DataW.trod_bool fund_bool (hget 4 _ _ rfl)
  rw[fcof_str]at a0
  rw[fcof_int]at a1 a2 a3
  rw[fcof_bool]at a4
  have e0:=take_one a0
  have e1:=take_one a1
  have e2:=take_one a2
  have e3:=take_one a3
  have e4:=take_one a4
  refine⟨⟨s,i1,i2,i3,b4⟩,?_,by subst b0;subst b1;subst b2;subst b3;subst c4;rfl⟩
  have hl5:cs.length=5:=by rw[hl];exact cof_form
  match cs,hl5,e0,e1,e2,e3,e4 with
  |[v0,v1,v2,v3,v4],_,e0,e1,e2,e3,e4=>
   simp only[List.getElem?_cons_zero,List.getElem?_cons_succ,Option.some.injEq]at e0 e1 e2 e3 e4
   subst e0;subst e1;subst e2;subst e3;subst e4;rfl
end
end Go.Proofs.YtcjmodomfilagaaDoor.E
namespace Go.Proofs.YtcjmodomfilagaaDoor.E
open Go
noncomputable def e6:Env:=⟨Tryd.prog,[1,3],44,[]⟩
noncomputable def c6:C:=
 .seq (.reg [zF 1 0,z6 2]) (.seq (.seq (.reg [z5 4 0 1,z7 5 1 4,⟨some 6,none,.call 10 [.tmp 5,.const (.int .i64 1),.const (.int .i64 24)]⟩,⟨some 7,none,.not (.tmp 6)⟩]) (.cond (.tmp 7) (.seq (.reg [z6 2]) .ret) .skip)) (.seq (.reg [⟨some 8,none,.load true 1 (.global 0)⟩,z5 9 0 1,z7 10 1 9,⟨some 11,none,.iaddr 5 (.tmp 8) (.tmp 10)⟩,zG 12 5 11,⟨some 3,none,.alloc true [.string ⟨#[]⟩,.int .i64 0,
 .int .i64 0,.int .i64 0,.bool false]⟩,zC 5 3 12]) (.seq (.reg [z5 13 1 1,z7 14 1 13,z5 15 1 3,z7 16 1 15,⟨some 17,none,.max (.tmp 16) (.const (.int .i64 0))⟩,⟨some 18,none,.call 10 [.tmp 14,.const (.int .i64 0),.tmp 17]⟩,z0 19 18,z8 20 19 2 1,z9 21 19 1 20,z8 22 19 2 3,z9 23 19 1 22,⟨some 24,some (19,true),.max (.tmp 23) (.const (.int .i64 0))⟩,zN 25 19 10 21 0 24,zA 26 19 25,z0 27 26,z8 28 27 3
 1,z9 29 27 1 28,z8 30 27 3 3,z9 31 27 1 30,⟨some 32,some (27,true),.max (.tmp 31) (.const (.int .i64 0))⟩,zN 33 27 10 29 0 32,zA 34 27 33,z0 35 34,z8 36 35 4 3,z9 37 35 1 36,zD 38 35 37,zJ 39 38 4 1,zK 40 38 1 39,⟨some 41,some (38,false),.bin .eql (.tmp 40) (.const (.int .i64 0))⟩,⟨some 42,some (35,true),.pick (.tmp 38) (.const (.bool true)) (.tmp 41)⟩,zA 43 35 42,z0 2 43]) .ret)))
theorem t6:Tryd.f6.body.bind (trC e6)=some c6:=by kernel_rfl
theorem r6:Tryd.f6.results.toList.mapM (trR Tryd.prog)=some [.tmp 2]:=by kernel_rfl
theorem fn6{args:List Value}{M:Mem}{post:Value→Mem→Prop}(hl:args.length≤44)(h:VC e6 c6 (fnQ [.tmp 2] post) (initS args 44) M):Fn Tryd.prog 6 args M post:=
 Fn.of' (E:=e6) Tryd.func6 t6 rfl r6 mixed hl h
noncomputable def e3:Env:=⟨Tryd.prog,[1],14,[]⟩
noncomputable def c3:C:=
 .seq (.reg [zF 1 0,z6 2]) (.seq (.reg [zG 5 5 1,zE 6 5 5,zE 7 4 6,z0 3 7]) (.seq (.reg [zG 8 5 1,zE 9 5 8,zE 10 6 9,z0 4 10]) (.seq (.seq (.reg [z0 11 4,z0 12 3,⟨some 13,none,.eqB true (.tmp 11) (.tmp 12)⟩]) (.cond (.tmp 13) (.seq (.reg [z6 2]) .ret) .skip)) (.seq (.reg [zH 2]) .ret))))
theorem t3:Tryd.f3.body.bind (trC e3)=some c3:=by kernel_rfl
theorem r3:Tryd.f3.results.toList.mapM (trR Tryd.prog)=some [.tmp 2]:=by kernel_rfl
theorem fn3{args:List Value}{M:Mem}{post:Value→Mem→Prop}(hl:args.length≤14)(h:VC e3 c3 (fnQ [.tmp 2] post) (initS args 14) M):Fn Tryd.prog 3 args M post:=
 Fn.of' (E:=e3) Tryd.func3 t3 rfl r3 mixed hl h
end Go.Proofs.YtcjmodomfilagaaDoor.E
namespace Go.Proofs.YtcjmodomfilagaaDoor.E
open Go
open Classical
def formsL:List Form:=[⟨⟨#[]⟩,0,0,0,false⟩,⟨⟨#[110,101,119]⟩,15,255,200,false⟩,⟨⟨#[110,117,109]⟩,15,-1,-1,true⟩,⟨⟨#[110,105,108]⟩,15,-1,-1,false⟩,⟨⟨#[99,111,112,121]⟩,15,15,-1,false⟩,⟨⟨#[107,101,121]⟩,15,15,199,false⟩,⟨⟨#[118,97,108]⟩,15,15,199,false⟩,⟨⟨#[115,101,116,107,101,121]⟩,15,15,199,false⟩,⟨⟨#[115,101,116,118,97,108]⟩,15,15,199,false⟩,⟨⟨#[103,114,111,119]⟩,15,-1,200,false⟩,⟨⟨#[99,117,116]⟩,15,-1,200,false⟩,⟨⟨#[119,101,97,107]⟩,15,-1,3,false⟩,⟨⟨#[108,97,115,116]⟩,15,-1,1,false⟩,⟨⟨#[115,97,109,101]⟩,15,15,-1,false⟩,⟨⟨#[119,111,114,100]⟩,15,-1,-1,false⟩,⟨⟨#[110,117,109,98,101,114]⟩,15,-1,-1,false⟩,⟨⟨#[107,105,110,100]⟩,15,-1,-1,false⟩,⟨⟨#[115,105,122,101]⟩,15,-1,-1,false⟩,⟨⟨#[115,101,116,116,108,101]⟩,-1,-1,-1,false⟩,⟨⟨#[100,117,101]⟩,15,-1,-1,false⟩,⟨⟨#[99,111,117,110,116]⟩,-1,-1,-1,false⟩,⟨⟨#[108,105,118,101]⟩,-1,-1,-1,false⟩,⟨⟨#[115,116,101,112]⟩,-1,-1,100000,false⟩,⟨⟨#[112,97,99,101]⟩,-1,64,4000,false⟩,⟨⟨#[114,111,117,110,100]⟩,-1,-1,-1,false⟩]
structure Frm (m:Mem):Prop where
 out:∃b o cap,cell m 0 0=some (.slice (some ⟨b,o,none⟩) 25 cap)∧∀(i:Nat) F,formsL[i]?=some F→cells m b (o+i*5) 5=some (fmV F)
theorem Frm.le{m m':Mem}(h:Frm m)(l:m.le m'):Frm m':=by
 obtain⟨b,o,cap,h1,h2⟩:=h.out
 exact⟨b,o,cap,cell_le l h1,fun i F hF=>cells_le l (h2 i F hF)⟩
theorem rd_gl{m:Mem}{b o:Nat}{v:Value}(h:cell m b o=some v):RdA (ro m) b o v:=⟨fun m' hm=>by
 have hm:m'=m:=hm
 subst hm;exact h⟩
theorem rs_cods{m:Mem}{b o n:Nat}{vs:List Value}(h:cells m b o n=some vs):RsA (ro m) b o n vs:=⟨fun m' hm=>by
 have hm:m'=m:=hm
 subst hm;exact h⟩
theorem form_ok{op:Int}(h:1≤op∧op≤24):∃F,formsL[op.toNat]?=some F∧aMost op=(if F.a<0 then 0 else F.a)∧bMost op=(if F.b<0 then 0 else F.b)∧cMost op=(if F.c<0 then 0 else F.c)∧(F.n=true↔op=2):=by
 have e:op=1∨op=2∨op=3∨op=4∨op=5∨op=6∨op=7∨op=8∨op=9∨op=10∨op=11∨op=12∨op=13∨op=14∨op=15∨op=16∨op=17∨op=18∨op=19∨op=20∨op=21∨op=22∨op=23∨op=24:=by omega
 rcases e with rfl|rfl|rfl|rfl|rfl|rfl|rfl|rfl|rfl|rfl|rfl|rfl|rfl|rfl|rfl|rfl|rfl|rfl|rfl|rfl|rfl|rfl|rfl|rfl<;>
  exact⟨_,rfl,by simp[aMost],by simp[bMost],by simp[cMost],by simp⟩
theorem implActOk_q{m:Mem}{a:Act}(hf:Frm m):Qt Tryd.prog 6 [actV a] m (.bool (decide (ActP a))):=by
 refine qt_of (fnA_of (fun h=>fn6 (by simp) h) ?_)
 obtain⟨b,o,cap,h1,h2⟩:=hf.out
 by_cases hop:1≤a.op∧a.op≤24
 ·obtain⟨⟨nm,ra,rb,rc,rn⟩,hF,fa,fb,fc,fn⟩:=form_ok hop
  have h3:=h2 _ _ hF
  dsimp only at fa fb fc fn
  cases rn with
  |true=>
   have e2:a.op=2:=fn.1 rfl
   repeat' (first
    |(refine k_L ?_;first|(refine k_ad ?_;refine g_ad rfl rfl ?_)|(refine k_su ?_;refine g_su rfl rfl ?_)|(refine k_ml ?_;refine g_ml rfl rfl ?_)|refine a_p rfl ?_|(refine k_g ?_;first|refine a_gy rfl rfl ?_|refine a_gn rfl rfl ?_|refine a_gu rfl ?_|(refine a_gd rfl (fun hb=>?_) (fun hb=>?_)<;>try(exfalso;omega))|(refine a_ge rfl (fun hb=>?_) (fun hb=>?_)<;>try(exfalso;omega))|(refine a_gne rfl (fun hb=>?_) (fun hb=>?_)<;>try(exfalso;omega))|(refine a_gnd rfl (fun hb=>?_) (fun hb=>?_)<;>try(exfalso;omega)))|(refine k_l ?_;refine g_l rfl ?_)|(refine k_i ?_;refine g_i rfl rfl ?_)|(refine k_ls ?_;refine g_ls rfl ?_)|(refine k_st ?_;first|refine g_st rfl rfl rfl rfl ?_|refine g_sw rfl rfl rfl rfl (Nat.le_of_ble_eq_true rfl) ?_)|(refine k_al ?_;refine a_al ?_)|(refine k_bx ?_;refine a_bx rfl rfl ?_)|(refine k_bl ?_;refine a_bl rfl ?_)|(refine k_q ?_;refine a_q rfl (fun m hm=>impl.withinQ) ?_)|(refine k_c ?_;refine a_cq rfl (fun m hm=>impl.withinQ) ?_)|(refine k_p ?_;first|(refine a_pd rfl (fun hb=>?_) (fun hb=>?_)<;>try(exfalso;omega))|(refine a_pe rfl (fun hb=>?_) (fun hb=>?_)<;>try(exfalso;omega))|(refine a_pne rfl (fun hb=>?_) (fun hb=>?_)<;>try(exfalso;omega))|(refine a_pnd rfl (fun hb=>?_) (fun hb=>?_)<;>try(exfalso;omega)))|(refine a_l rfl (rd_h (rd_gl h1)) ?_)|(refine a_i (e:=⟨some ⟨b,o,none⟩,cap⟩) rfl rfl ⟨fun _ _=>rfl⟩ (by omega) ?_)|(refine a_ls rfl (rs_h (rs_cods h3)) ?_))
    |refine a_n ?_
    |(refine k_V ?_;first|refine v_rv ?_|refine v_seq ?_|refine v_reg ?_|refine v_dreg ?_|refine v_zreg ?_|refine v_bs ?_|refine v_br ?_|refine v_bd ?_|refine v_bc ?_|refine v_bk ?_|refine v_bb ?_|refine v_ret ?_|refine v_exit ?_|refine v_skip ?_|refine v_ct rfl ?_|refine v_cf rfl ?_|(refine v_cd rfl (fun hb=>?_) (fun hb=>?_)<;>try(exfalso;omega))|(refine v_ce rfl (fun hb=>?_) (fun hb=>?_)<;>try(exfalso;omega))|(refine v_cn rfl (fun hb=>?_) (fun hb=>?_)<;>try(exfalso;omega))|(refine v_cnd rfl (fun hb=>?_) (fun hb=>?_)<;>try(exfalso;omega)))
    |refine s_n ?_
    |refine s_r ?_
    |refine s_e ?_
    |refine b_n ?_
    |refine b_r ?_
    |refine b_e ?_
    |refine b_o rfl ?_
    |refine r_rt ?_
    |refine r_bk rfl ?_
    |refine r_ex rfl rfl ?_
    |refine sk_zero ?_
    |refine sk_succ ?_
    |refine wk_nil ?_
    |refine wk_cons ?_)
   all_goals first
    |exact q_F (fun h=>by(try dsimp only at*);unfold ActP at h;omega)
    |exact q_B (fun _ _=>rfl) (by dsimp only at*;unfold ActP;first|(rw[beq_iff_eq];omega)|(rw[decide_eq_true_eq];omega)|exact⟨fun _=>by omega,fun _=>rfl⟩)
  |false=>
   have e2:a.op≠2:=fun e=>by have:=fn.2 e;cases this
   repeat' (first
    |(refine k_L ?_;first|(refine k_ad ?_;refine g_ad rfl rfl ?_)|(refine k_su ?_;refine g_su rfl rfl ?_)|(refine k_ml ?_;refine g_ml rfl rfl ?_)|refine a_p rfl ?_|(refine k_g ?_;first|refine a_gy rfl rfl ?_|refine a_gn rfl rfl ?_|refine a_gu rfl ?_|(refine a_gd rfl (fun hb=>?_) (fun hb=>?_)<;>try(exfalso;omega))|(refine a_ge rfl (fun hb=>?_) (fun hb=>?_)<;>try(exfalso;omega))|(refine a_gne rfl (fun hb=>?_) (fun hb=>?_)<;>try(exfalso;omega))|(refine a_gnd rfl (fun hb=>?_) (fun hb=>?_)<;>try(exfalso;omega)))|(refine k_l ?_;refine g_l rfl ?_)|(refine k_i ?_;refine g_i rfl rfl ?_)|(refine k_ls ?_;refine g_ls rfl ?_)|(refine k_st ?_;first|refine g_st rfl rfl rfl rfl ?_|refine g_sw rfl rfl rfl rfl (Nat.le_of_ble_eq_true rfl) ?_)|(refine k_al ?_;refine a_al ?_)|(refine k_bx ?_;refine a_bx rfl rfl ?_)|(refine k_bl ?_;refine a_bl rfl ?_)|(refine k_q ?_;refine a_q rfl (fun m hm=>impl.withinQ) ?_)|(refine k_c ?_;refine a_cq rfl (fun m hm=>impl.withinQ) ?_)|(refine k_p ?_;first|(refine a_pd rfl (fun hb=>?_) (fun hb=>?_)<;>try(exfalso;omega))|(refine a_pe rfl (fun hb=>?_) (fun hb=>?_)<;>try(exfalso;omega))|(refine a_pne rfl (fun hb=>?_) (fun hb=>?_)<;>try(exfalso;omega))|(refine a_pnd rfl (fun hb=>?_) (fun hb=>?_)<;>try(exfalso;omega)))|(refine a_l rfl (rd_h (rd_gl h1)) ?_)|(refine a_i (e:=⟨some ⟨b,o,none⟩,cap⟩) rfl rfl ⟨fun _ _=>rfl⟩ (by omega) ?_)|(refine a_ls rfl (rs_h (rs_cods h3)) ?_))
    |refine a_n ?_
    |(refine k_V ?_;first|refine v_rv ?_|refine v_seq ?_|refine v_reg ?_|refine v_dreg ?_|refine v_zreg ?_|refine v_bs ?_|refine v_br ?_|refine v_bd ?_|refine v_bc ?_|refine v_bk ?_|refine v_bb ?_|refine v_ret ?_|refine v_exit ?_|refine v_skip ?_|refine v_ct rfl ?_|refine v_cf rfl ?_|(refine v_cd rfl (fun hb=>?_) (fun hb=>?_)<;>try(exfalso;omega))|(refine v_ce rfl (fun hb=>?_) (fun hb=>?_)<;>try(exfalso;omega))|(refine v_cn rfl (fun hb=>?_) (fun hb=>?_)<;>try(exfalso;omega))|(refine v_cnd rfl (fun hb=>?_) (fun hb=>?_)<;>try(exfalso;omega)))
    |refine s_n ?_
    |refine s_r ?_
    |refine s_e ?_
    |refine b_n ?_
    |refine b_r ?_
    |refine b_e ?_
    |refine b_o rfl ?_
    |refine r_rt ?_
    |refine r_bk rfl ?_
    |refine r_ex rfl rfl ?_
    |refine sk_zero ?_
    |refine sk_succ ?_
    |refine wk_nil ?_
    |refine wk_cons ?_)
   all_goals first
    |exact q_F (fun h=>by(try dsimp only at*);unfold ActP at h;omega)
    |exact q_B (fun _ _=>rfl) (by dsimp only at*;unfold ActP;first|(rw[beq_iff_eq];omega)|(rw[decide_eq_true_eq];omega)|exact⟨fun _=>by omega,fun _=>rfl⟩)
 ·repeat' (first
   |(refine k_L ?_;first|(refine k_ad ?_;refine g_ad rfl rfl ?_)|(refine k_su ?_;refine g_su rfl rfl ?_)|(refine k_ml ?_;refine g_ml rfl rfl ?_)|refine a_p rfl ?_|(refine k_g ?_;first|refine a_gy rfl rfl ?_|refine a_gn rfl rfl ?_|refine a_gu rfl ?_|(refine a_gd rfl (fun hb=>?_) (fun hb=>?_)<;>try(exfalso;omega))|(refine a_ge rfl (fun hb=>?_) (fun hb=>?_)<;>try(exfalso;omega))|(refine a_gne rfl (fun hb=>?_) (fun hb=>?_)<;>try(exfalso;omega))|(refine a_gnd rfl (fun hb=>?_) (fun hb=>?_)<;>try(exfalso;omega)))|(refine k_l ?_;refine g_l rfl ?_)|(refine k_i ?_;refine g_i rfl rfl ?_)|(refine k_ls ?_;refine g_ls rfl ?_)|(refine k_st ?_;first|refine g_st rfl rfl rfl rfl ?_|refine g_sw rfl rfl rfl rfl (Nat.le_of_ble_eq_true rfl) ?_)|(refine k_al ?_;refine a_al ?_)|(refine k_bx ?_;refine a_bx rfl rfl ?_)|(refine k_bl ?_;refine a_bl rfl ?_)|(refine k_q ?_;refine a_q rfl (fun m hm=>impl.withinQ) ?_)|(refine k_c ?_;refine a_cq rfl (fun m hm=>impl.withinQ) ?_)|(refine k_p ?_;first|(refine a_pd rfl (fun hb=>?_) (fun hb=>?_)<;>try(exfalso;omega))|(refine a_pe rfl (fun hb=>?_) (fun hb=>?_)<;>try(exfalso;omega))|(refine a_pne rfl (fun hb=>?_) (fun hb=>?_)<;>try(exfalso;omega))|(refine a_pnd rfl (fun hb=>?_) (fun hb=>?_)<;>try(exfalso;omega))))
   |refine a_n ?_
   |(refine k_V ?_;first|refine v_rv ?_|refine v_seq ?_|refine v_reg ?_|refine v_dreg ?_|refine v_zreg ?_|refine v_bs ?_|refine v_br ?_|refine v_bd ?_|refine v_bc ?_|refine v_bk ?_|refine v_bb ?_|refine v_ret ?_|refine v_exit ?_|refine v_skip ?_|refine v_ct rfl ?_|refine v_cf rfl ?_|(refine v_cd rfl (fun hb=>?_) (fun hb=>?_)<;>try(exfalso;omega))|(refine v_ce rfl (fun hb=>?_) (fun hb=>?_)<;>try(exfalso;omega))|(refine v_cn rfl (fun hb=>?_) (fun hb=>?_)<;>try(exfalso;omega))|(refine v_cnd rfl (fun hb=>?_) (fun hb=>?_)<;>try(exfalso;omega)))
   |refine s_n ?_
   |refine s_r ?_
   |refine s_e ?_
   |refine b_n ?_
   |refine b_r ?_
   |refine b_e ?_
   |refine b_o rfl ?_
   |refine r_rt ?_
   |refine r_bk rfl ?_
   |refine r_ex rfl rfl ?_
   |refine sk_zero ?_
   |refine sk_succ ?_
   |refine wk_nil ?_
   |refine wk_cons ?_)
  all_goals first
   |exact q_F (fun h=>by(try dsimp only at*);unfold ActP at h;omega)
theorem fnExactActOk_q{m:Mem}{a:Act}(hf:Frm m):Qt Tryd.prog 3 [actV a] m (.bool true):=by
 refine qt_of (fnA_of (fun h=>fn3 (by simp) h) ?_)
 obtain⟨b,hb⟩:∃b,decide (ActP a)=b:=⟨_,rfl⟩
 cases b<;>
 ·repeat' (first
   |(refine k_L ?_;first|(refine k_ad ?_;refine g_ad rfl rfl ?_)|(refine k_su ?_;refine g_su rfl rfl ?_)|(refine k_ml ?_;refine g_ml rfl rfl ?_)|refine a_p rfl ?_|(refine k_g ?_;first|refine a_gy rfl rfl ?_|refine a_gn rfl rfl ?_|refine a_gu rfl ?_|(refine a_gd rfl (fun hb=>?_) (fun hb=>?_)<;>try(exfalso;omega))|(refine a_ge rfl (fun hb=>?_) (fun hb=>?_)<;>try(exfalso;omega))|(refine a_gne rfl (fun hb=>?_) (fun hb=>?_)<;>try(exfalso;omega))|(refine a_gnd rfl (fun hb=>?_) (fun hb=>?_)<;>try(exfalso;omega)))|(refine k_l ?_;refine g_l rfl ?_)|(refine k_i ?_;refine g_i rfl rfl ?_)|(refine k_ls ?_;refine g_ls rfl ?_)|(refine k_st ?_;first|refine g_st rfl rfl rfl rfl ?_|refine g_sw rfl rfl rfl rfl (Nat.le_of_ble_eq_true rfl) ?_)|(refine k_al ?_;refine a_al ?_)|(refine k_bx ?_;refine a_bx rfl rfl ?_)|(refine k_bl ?_;refine a_bl rfl ?_)|(refine k_q ?_;first|refine a_q rfl (fun m hm=>toAct_q) ?_|refine a_q rfl (fun m hm=>qt_e specActOk_q (congrArg Value.bool hb)) ?_|refine a_q rfl (fun m hm=>qt_e (implActOk_q (hf.le (ro_of hm pmt))) (congrArg Value.bool hb)) ?_)|(refine k_c ?_;first|refine a_cq rfl (fun m hm=>toAct_q) ?_|refine a_cq rfl (fun m hm=>qt_e specActOk_q (congrArg Value.bool hb)) ?_|refine a_cq rfl (fun m hm=>qt_e (implActOk_q (hf.le (ro_of hm pmt))) (congrArg Value.bool hb)) ?_)|(refine k_p ?_;first|(refine a_pd rfl (fun hb=>?_) (fun hb=>?_)<;>try(exfalso;omega))|(refine a_pe rfl (fun hb=>?_) (fun hb=>?_)<;>try(exfalso;omega))|(refine a_pne rfl (fun hb=>?_) (fun hb=>?_)<;>try(exfalso;omega))|(refine a_pnd rfl (fun hb=>?_) (fun hb=>?_)<;>try(exfalso;omega))))
   |refine a_n ?_
   |(refine k_V ?_;first|refine v_rv ?_|refine v_seq ?_|refine v_reg ?_|refine v_dreg ?_|refine v_zreg ?_|refine v_bs ?_|refine v_br ?_|refine v_bd ?_|refine v_bc ?_|refine v_bk ?_|refine v_bb ?_|refine v_ret ?_|refine v_exit ?_|refine v_skip ?_|refine v_ct rfl ?_|refine v_cf rfl ?_|(refine v_cd rfl (fun hb=>?_) (fun hb=>?_)<;>try(exfalso;omega))|(refine v_ce rfl (fun hb=>?_) (fun hb=>?_)<;>try(exfalso;omega))|(refine v_cn rfl (fun hb=>?_) (fun hb=>?_)<;>try(exfalso;omega))|(refine v_cnd rfl (fun hb=>?_) (fun hb=>?_)<;>try(exfalso;omega)))
   |refine s_n ?_
   |refine s_r ?_
   |refine s_e ?_
   |refine b_n ?_
   |refine b_r ?_
   |refine b_e ?_
   |refine b_o rfl ?_
   |refine r_rt ?_
   |refine r_bk rfl ?_
   |refine r_ex rfl rfl ?_
   |refine sk_zero ?_
   |refine sk_succ ?_
   |refine wk_nil ?_
   |refine wk_cons ?_)
  exact fa_q (by simp) (fun _ _=>rfl) rfl
end Go.Proofs.YtcjmodomfilagaaDoor.E
namespace Go.Proofs.YtcjmodomfilagaaDoor.E
open Go Go.ChangeShapes Go.WideShapes Go.ChangeAt Go.RowKit
theorem ownknob:ownKnob Tryd.prog.godebug=none:=by kernel_rfl
theorem laid:laidOutB Tryd.prog=true:=by kernel_rfl
theorem gForms: Tryd.prog.globalNamed "loop.example/spool/impl.forms" = some 0 := by kernel_rfl
theorem tForms:(Tryd.prog.globals[0]?).map (·.type)=some 35:=by kernel_rfl
theorem cell_of{W:World}{b o:Nat}{v:Value}(h:W.cell? ⟨b,o,none⟩=some v):cell (memOf W) b o=some v:=by
 unfold World.cell? at h
 split at h
 ·rename_i c t fr hh
  have:=memOf_cells hh
  unfold cell
  rw[this]
  simp at h⊢
  exact h
 ·cases h
theorem fmD_inj{H:Type}{x y:Form}(h:(fmD x:DataW H)=fmD y):x=y:=by
 obtain⟨⟨⟨xn⟩⟩,xa,xb,xc,xd⟩:=x
 obtain⟨⟨⟨yn⟩⟩,ya,yb,yc,yd⟩:=y
 simp only[fmD,DataW.agg.injEq,List.cons.injEq,DataW.lit.injEq,Lit.string.injEq,Lit.int.injEq,Lit.bool.injEq,and_true,true_and]at h
 obtain⟨h1,rfl,rfl,rfl,rfl⟩:=h
 try simp only at h1
 subst h1
 rfl
abbrev laidL{H : Type}: List (String × DataW H) := [("loop.example/spool/impl.forms", Rows.laid_loop_example_spool_impl_forms)]
theorem frm_of_laid{W:World}(h:laidMetH Tryd.prog Rows.fnExactActOkRow.laid W):Frm (memOf W):=by
 rw[MakeChecks.laidMetH_plain _ _ _ (by kernel_rfl)]at h
 obtain⟨ps,⟨g0,t0,cs0,f0,p0,q0,hg0,ht0,hv0,hd0,_,_⟩,_,_⟩:=h
 obtain rfl:=Option.some.inj (gForms.symm.trans hg0)
 obtain rfl:=Option.some.inj (tForms.symm.trans ht0)
 obtain⟨v,xs,e,hsl,hl,hR⟩:=open_slD (f:=fmV) (size:=5) (R:=fun d x=>d=fmD x) (ds:=formsL.map fmD) (sp:=[]) (fun _=>rfl) (by omega) und_forms cof_form open_form hd0
 have hv:=World.var?_cell hg0 hv0 0
 have hx:xs=formsL:=by
  apply List.ext_getElem?
  intro i
  have hl':xs.length=formsL.length:=by rw[hl,List.length_map]
  cases hi:xs[i]? with
  |none=>rw[List.getElem?_eq_none_iff]at hi;rw[List.getElem?_eq_none (by omega)]
  |some y=>
   have hlt:=(List.getElem?_eq_some_iff.1 hi).1
   have hF:formsL[i]?=some formsL[i]:=List.getElem?_eq_getElem (by omega)
   have:=hR i (fmD formsL[i]) y (by rw[List.getElem?_map,hF];rfl) hi
   rw[hF,fmD_inj this]
 subst hx
 obtain⟨a,cap,rfl⟩:=hsl.len
 have hc0:cs0[0]?=some (.slice a formsL.length cap):=by rw[←Array.getElem?_toList,e];rfl
 rw[hc0]at hv
 obtain⟨b,o,rfl,_⟩:=hsl.at2 (fun _=>rfl) (i:=0) rfl
 refine⟨b,o,cap,cell_of hv,fun i F hF=>?_⟩
 obtain⟨b',o',e',h2⟩:=hsl.at2 (fun _=>rfl) hF
 cases e'
 exact h2
theorem und_bool:Tryd.prog.underlying 4=some .bool:=by kernel_rfl
theorem und_int64:Tryd.prog.underlying 2=some (.int .i64):=by kernel_rfl
theorem cof_int64:Tryd.prog.cellsOf 2=1:=by kernel_rfl
theorem und_act:Tryd.prog.underlying 23=some (.struct (fsOf Tryd.prog 23)):=by kernel_rfl
theorem fs_act:(fsOf Tryd.prog 23).toList.map (fun f=>(f.type,f.offset))=[(3,0),(3,1),(3,2),(3,3),(2,4)]:=by kernel_rfl
theorem cof_act:Tryd.prog.cellsOf 23=5:=by kernel_rfl
section
variable {H:Type} {enc:TypeId×Value→H} {W:World} {spare:Nat→Bool} {held:Bool}
theorem open_i{n:Nat}{cs:List Value}{o:Nat}{y:DataW H×List MemPlace}(h:DataW.trod enc Tryd.prog W 0 spare held n 3 ((cs.drop o).take (Tryd.prog.cellsOf 3))=some y):∃k,cs[o]?=some (.int .i64 k):=by
 obtain⟨k,e,_⟩:=DataW.trod_int fund_int h
 rw[fcof_int]at e
 exact⟨k,take_one e⟩
theorem open_i64{n:Nat}{cs:List Value}{o:Nat}{y:DataW H×List MemPlace}(h:DataW.trod enc Tryd.prog W 0 spare held n 2 ((cs.drop o).take (Tryd.prog.cellsOf 2))=some y):∃k,cs[o]?=some (.int .i64 k):=by
 obtain⟨k,e,_⟩:=DataW.trod_int und_int64 h
 rw[cof_int64]at e
 exact⟨k,take_one e⟩
theorem open_act:∀n cs y,DataW.trod enc Tryd.prog W 0 spare held n 23 cs=some y→∃x:Act,cs=av x:=by
 intro n cs y h
 obtain⟨hl,m,hf⟩:=open_struct und_act fs_act h
 obtain⟨_,h0⟩:=hf 0 _ _ rfl
 obtain⟨_,h1⟩:=hf 1 _ _ rfl
 obtain⟨_,h2⟩:=hf 2 _ _ rfl
 obtain⟨_,h3⟩:=hf 3 _ _ rfl
 obtain⟨_,h4⟩:=hf 4 _ _ rfl
 obtain⟨a0,e0⟩:=open_i h0
 obtain⟨a1,e1⟩:=open_i h1
 obtain⟨a2,e2⟩:=open_i h2
 obtain⟨a3,e3⟩:=open_i h3
 obtain⟨a4,e4⟩:=open_i64 h4
 have hl5:cs.length=5:=by rw[hl];exact cof_act
 match cs,hl5,e0,e1,e2,e3,e4 with
 |[v0,v1,v2,v3,v4],_,e0,e1,e2,e3,e4=>
  simp only[List.getElem?_cons_zero,List.getElem?_cons_succ,Option.some.injEq]at e0 e1 e2 e3 e4
  subst e0;subst e1;subst e2;subst e3;subst e4
  exact⟨⟨a0,a1,a2,a3,a4⟩,rfl⟩
end
theorem door_met(os:Os)(args:Array Value):laidMetH Tryd.prog Rows.fnExactActOkRow.laid ((World.doorLaid Tryd.prog 38 os).forCall (fun _ _=>0) ⟨#[],args,[]⟩).memory:=
 laidMetH_of_parts3 (fuel:=8) (laidMet_of_run' 8 (by kernel_rfl) (by kernel_rfl)) (by kernel_rfl) (by kernel_rfl)
theorem lifted(os:Os)(started:os.Started)(H:Type)(enc:TypeId×Value→H):
 ReturnsInHanded {} Tryd.checked os 3 .any (fun w args=>(Rows.fnExactActOkSpec.pre enc Tryd.prog Tryd.f3 [] false w args∧laidMetH Tryd.prog Rows.fnExactActOkRow.laid w)∧sizedMet enc Tryd.prog Tryd.f3 (OpenSpec.ofChange Rows.fnExactActOkSpec) false w args)
  (Rows.fnExactActOkSpec.post enc Tryd.prog Tryd.f3 false true false false):=by
 refine returnsInHanded_of_change_and (C:=Tryd.checked) (X:=fun w _=>laidMetH Tryd.prog Rows.fnExactActOkRow.laid w) (fun _ _ _ hh h=>h.of_heap hh) ownknob started (by kernel_rfl) Tryd.func3
  (ChangeSpec.witness_shaped (enc:=enc) (C:=Tryd.checked) (os:=os) (X:=fun w _=>laidMetH Tryd.prog Rows.fnExactActOkRow.laid w) false (World.doorLaid Tryd.prog 38 os) #[.agg #[.int .i64 0,.int .i64 0,.int .i64 0,.int .i64 0,.int .i64 0]] 8 rfl (World.shaped_of_RefB (by kernel_rfl) (by kernel_rfl)) (by kernel_rfl) (by kernel_rfl) (by kernel_rfl) (door_met os _)) ?_
 intro W base args ds gs before hval0 hW _ _ hL _
 have hval:∀(j:Nat) t v,Tryd.f3.params[j]?=some t→args[j]?=some v→Value.okWide Tryd.prog W .any base t v:=hval0
 have hW':=hW
 obtain⟨p,q,hA0,hV,rfl,hfz,hnd⟩:=hW
 have hA:DataW.TrodAll enc Tryd.prog W 0 (fun _=>true) true [23] args.toList ds p:=hA0
 obtain⟨v0,d0,rfl,rfl,h0⟩:=trodAll_one hA
 obtain⟨cs,rfl,_⟩:=okWide_struct und_act (hval 0 23 v0 rfl rfl)
 clear hA0 hval0
 have h0k:=h0
 obtain⟨fuel,h0'⟩:=h0
 obtain⟨a,e⟩:=open_act _ _ _ h0'
 have e:cs=(av a).toArray:=by
  have:cs.toList=av a:=e
  rw[←this]
 subst e
 have hlt0:∀x∈p,x.block<W.heap.size:=fun x hx=>by simpa using hW'.lt x (by simp[hx])
 have hq:Fn Tryd.prog 3 [actV a] (memOf W) (fun v M'=>v=.bool true∧(memOf W).le M'):=(fnExactActOk_q (frm_of_laid hL)).mono fun v M' ⟨h1,h2⟩=>⟨h1,by rw[h2];exact Mem.le_refl _⟩
 refine(row_of hq).mono fun e W' ⟨he,bel⟩=>?_
 subst he
 have hT0:=Below.trod laid (by kernel_rfl) (of_decide_eq_true (by kernel_rfl)) h0k bel hlt0
 obtain ⟨_, _, _, _, g1, _, rfl, _⟩ := trodVars_one (show DataW.TrodVars enc Tryd.prog W (fun _ => true) ["loop.example/spool/impl.forms"] gs q from hV)
 have hV2:=Below.trodVars laid bel (by kernel_rfl) hV
 exact⟨_,rfl,_,_,_,_,_,_,hW',trodAll_mk1 (shut_bool und_bool _),trodAll_mk1 hT0,hV2,bel.frame _,fun h=>by cases h⟩
end Go.Proofs.YtcjmodomfilagaaDoor.E
namespace Go.Proofs.YtcjmodomfilagaaDoor
open Go Go.ChangeShapes Go.WideShapes Go.ChangeAt Go.RowKit
theorem fnExactActOk_row:Rows.FnExactActOkSaid:=
 OpenClaim.holds_of_wide 3 Tryd.f3 rfl rfl rfl rfl rfl rfl rfl ⟨rfl,rfl,rfl,rfl,rfl⟩ rfl rfl rfl rfl rfl (by kernel_rfl) Tryd.func3 jfActOk
  (of_decide_eq_true (by kernel_rfl)) (by unfold Func.isWrapper;first|(rw[if_pos (by decide+kernel)];kernel_rfl)|(rw[if_neg (by decide+kernel)];exact⟨rfl,rfl⟩))
  (fun os started H enc _=>E.lifted os started H enc)
theorem fnExactActOk_holds:Rows.FnExactActOkCardSaid:=
 Claim7.holds_tied_plain_at .later [] [.data] true (true, "917cc9a97ab5e3c273a85c0bdfa3b08cd3efed84b213f063a56b109834d47256") false
  fnExactActOk_row (fun _ h=>by cases h) (by kernel_rfl) (fun _ h=>by cases h) fnExactActOk_row_tie rfl ⟨rfl,rfl⟩ (by kernel_rfl) rfl
  (fun f fn hf hfn=>by
    obtain rfl : f = 3 := Option.some.inj ((show Tryd.prog.funcNamed "loop.example/spool/laws.FnExactActOk" = some 3 by kernel_rfl).symm.trans hf) |>.symm
    obtain rfl:fn=Tryd.f3:=(Option.some.inj (Tryd.func3.symm.trans hfn)).symm
    exact⟨by kernel_rfl,fun j t ht=>by
     have hm:t∈[23]:=by
      have:=Array.mem_of_getElem? ht
      rw[←Array.mem_toList_iff]at this
      exact this
     have hall:([23].all fun u=> !Tryd.prog.wantsStandIn u)=true:=by kernel_rfl
     exact(show Tryd.prog.wantsStandIn t=false by simpa using List.all_eq_true.1 hall t hm)⟩)
  (by kernel_rfl)
end Go.Proofs.YtcjmodomfilagaaDoor
