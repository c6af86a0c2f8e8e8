/- A part of the proof. Conditions: none. -/
import Derived.Test.YtpleoapljeffiaaGreatDoorKE8
set_option linter.unusedVariables false
set_option linter.unusedSimpArgs false
set_option maxHeartbeats 4000000
set_option maxRecDepth 100000
namespace Go.Proofs.YtpleoapljeffiaaGreatDoor.E
open Go
open Classical
theorem fnOk_of{P : Program}{g : FuncId}{fn : Func}(h : P.funcs[g]? = some fn)(hb : fn.body.isSome = true)(hn : (fn.name != "runtime.NumGoroutine") = true): fnOk P g = true := by
 unfold fnOk;rw[h];simp only[hb,hn];rfl
theorem a_nwh{P:Program}{S:St}{As:List Asr}{post:St→List Asr→Prop}{r:List I}{d:Option Nat}{t:Operand}(x:HX)(hx:ev S t=some x.v)(hp:∀b,LA P r post (put S d (.v (ptr b))) (hdA b x.hdr::As)):LA P (⟨d,none,.box false t⟩::r) post S As:=
 a_nw (vs:=x.row) hx rfl hp
def nRule(H:Heap):Nat→Prop
 |0=>R1 H
 |1=>R2 H
 |2=>R3 H
 |3=>R4 H
 |4=>R5 H
 |5=>R6 H
 |6=>R7 H
 |_=>R8 H
theorem okH_at{H:Heap}{n:Nat}(hn:n<8)(h:∀j,j<n→nRule H j)(hf:¬nRule H n):okH H=(n:Int)+1:=by
 have g:∀j,j<8→j<n→nRule H j:=fun j _=>h j
 have g0:=g 0;have g1:=g 1;have g2:=g 2;have g3:=g 3;have g4:=g 4;have g5:=g 5;have g6:=g 6
 simp only[nRule]at g0 g1 g2 g3 g4 g5 g6
 unfold okH
 rcases(by omega:n=0∨n=1∨n=2∨n=3∨n=4∨n=5∨n=6∨n=7)with rfl|rfl|rfl|rfl|rfl|rfl|rfl|rfl<;>simp only[nRule]at hf<;>simp_all
theorem okH_all{H:Heap}(h:∀j,j<8→nRule H j):okH H=0:=
 (okH_sound H).2 ⟨h 0 (by omega),h 1 (by omega),h 2 (by omega),h 3 (by omega),h 4 (by omega),h 5 (by omega),h 6 (by omega),h 7 (by omega)⟩
def fnV(b g:Nat):Value:=.func (.func g) #[ptr b] #[]
def rlS(b:Nat):List Value:=[fnV b 116,fnV b 117,fnV b 118,fnV b 119,fnV b 120,fnV b 121,fnV b 122,fnV b 123]
theorem r_v1{d:D}{xs:List Value}{i:Nat}{v:Value}(hi:xs[i]?=some v):RdA (slA 1 (fun v:Value=>[v]) d xs) d.b (d.o+i*1) v:=rd_sl (j:=0) (fun _=>rfl) hi rfl
theorem implHeapOk_q{m:Mem}{x:HX}(h:Has m x.body):Qt Tryz.prog 81 [x.v] m (.int .i64 (okH x.H)):=by
 refine qt_of (fnA_of (fun h=>fn81 (by simp) h) ?_)
 refine v_seq (v_reg (a_nwh x rfl (fun b=>?_)))
 have hs:∀m',star [hdA b x.hdr,ro m] m'→Has m' (hp b x):=fun m' s=>has_new h s pmt (F:=[])
 repeat' (first|refine xx ?_|(refine k_L ?_;(refine a_ns (f:=fun v:Value=>[v]) (rlS b) (fun _=>rfl) rfl rfl rfl (by omega) (fun e he=>?_)))|fail)
 refine g_range 8 (fun _:Unit=>[(13,.v (.slice e.a 8 8))]) (fun _=>[slA 1 (fun v:Value=>[v]) e (rlS b),hdA b x.hdr,ro m]) (fun i _=>∀j,j<i→nRule x.H j) () (fun j hj=>by omega) (fun i _ hi hv=>?_) (fun _ hv=>?_)
 ·have hH:∀m',star [slA 1 (fun v:Value=>[v]) e (rlS b),hdA b x.hdr,ro m] m'→Has m' (hp b x):=fun m' ⟨m1,m2,d,e1,_,s⟩=>by subst e1;exact(hs m2 s).le (le_r d)
  have nx:nRule x.H i→∀j,j<i+1→nRule x.H j:=fun hr j hj=>by
   by_cases e:j=i
   ·subst e;exact hr
   ·exact hv j (by omega)
  rcases(by omega:i=0∨i=1∨i=2∨i=3∨i=4∨i=5∨i=6∨i=7)with rfl|rfl|rfl|rfl|rfl|rfl|rfl|rfl
  ·have gk:(rlS b)[0]?=some (fnV b 116):=rfl
   repeat' (first|(refine k_L ?_;(refine k_l ?_;refine a_l rfl (by exact rd_h (r_v1 (i:=0) rfl)) ?_))|refine xx ?_|(refine xy ?_ ?_<;>intro hb<;>try(exfalso;omega))|(refine k_L ?_;(refine a_cvq rfl (fnOk_of Tryz.func116 rfl rfl) rfl (fun m hm=>rule1_q (hH m hm)) ?_))|fail)
   ·exact fa_q (by simp) (fun _ _=>rfl) (by rw[okH_at (n:=0) (by omega) hv ‹_›])
   ·exact r_nx () (nx ‹_›)
  ·have gk:(rlS b)[1]?=some (fnV b 117):=rfl
   repeat' (first|(refine k_L ?_;(refine k_l ?_;refine a_l rfl (by exact rd_h (r_v1 (i:=1) rfl)) ?_))|refine xx ?_|(refine xy ?_ ?_<;>intro hb<;>try(exfalso;omega))|(refine k_L ?_;(refine a_cvq rfl (fnOk_of Tryz.func117 rfl rfl) rfl (fun m hm=>rule2_q (hH m hm)) ?_))|fail)
   ·exact fa_q (by simp) (fun _ _=>rfl) (by rw[okH_at (n:=1) (by omega) hv ‹_›])
   ·exact r_nx () (nx ‹_›)
  ·have gk:(rlS b)[2]?=some (fnV b 118):=rfl
   repeat' (first|(refine k_L ?_;(refine k_l ?_;refine a_l rfl (by exact rd_h (r_v1 (i:=2) rfl)) ?_))|refine xx ?_|(refine xy ?_ ?_<;>intro hb<;>try(exfalso;omega))|(refine k_L ?_;(refine a_cvq rfl (fnOk_of Tryz.func118 rfl rfl) rfl (fun m hm=>rule3_q (hH m hm) (hv 0 (by omega)) (hv 1 (by omega))) ?_))|fail)
   ·exact fa_q (by simp) (fun _ _=>rfl) (by rw[okH_at (n:=2) (by omega) hv ‹_›])
   ·exact r_nx () (nx ‹_›)
  ·have gk:(rlS b)[3]?=some (fnV b 119):=rfl
   repeat' (first|(refine k_L ?_;(refine k_l ?_;refine a_l rfl (by exact rd_h (r_v1 (i:=3) rfl)) ?_))|refine xx ?_|(refine xy ?_ ?_<;>intro hb<;>try(exfalso;omega))|(refine k_L ?_;(refine a_cvq rfl (fnOk_of Tryz.func119 rfl rfl) rfl (fun m hm=>rule4_q (hH m hm)) ?_))|fail)
   ·exact fa_q (by simp) (fun _ _=>rfl) (by rw[okH_at (n:=3) (by omega) hv ‹_›])
   ·exact r_nx () (nx ‹_›)
  ·have gk:(rlS b)[4]?=some (fnV b 120):=rfl
   repeat' (first|(refine k_L ?_;(refine k_l ?_;refine a_l rfl (by exact rd_h (r_v1 (i:=4) rfl)) ?_))|refine xx ?_|(refine xy ?_ ?_<;>intro hb<;>try(exfalso;omega))|(refine k_L ?_;(refine a_cvq rfl (fnOk_of Tryz.func120 rfl rfl) rfl (fun m hm=>rule5_q (hH m hm)) ?_))|fail)
   ·exact fa_q (by simp) (fun _ _=>rfl) (by rw[okH_at (n:=4) (by omega) hv ‹_›])
   ·exact r_nx () (nx ‹_›)
  ·have gk:(rlS b)[5]?=some (fnV b 121):=rfl
   repeat' (first|(refine k_L ?_;(refine k_l ?_;refine a_l rfl (by exact rd_h (r_v1 (i:=5) rfl)) ?_))|refine xx ?_|(refine xy ?_ ?_<;>intro hb<;>try(exfalso;omega))|(refine k_L ?_;(refine a_cvq rfl (fnOk_of Tryz.func121 rfl rfl) rfl (fun m hm=>rule6_q (hH m hm) (hv 0 (by omega)) (hv 4 (by omega))) ?_))|fail)
   ·exact fa_q (by simp) (fun _ _=>rfl) (by rw[okH_at (n:=5) (by omega) hv ‹_›])
   ·exact r_nx () (nx ‹_›)
  ·have gk:(rlS b)[6]?=some (fnV b 122):=rfl
   repeat' (first|(refine k_L ?_;(refine k_l ?_;refine a_l rfl (by exact rd_h (r_v1 (i:=6) rfl)) ?_))|refine xx ?_|(refine xy ?_ ?_<;>intro hb<;>try(exfalso;omega))|(refine k_L ?_;(refine a_cvq rfl (fnOk_of Tryz.func122 rfl rfl) rfl (fun m hm=>rule7_q (hH m hm) (hv 0 (by omega)) (hv 3 (by omega)) (hv 5 (by omega))) ?_))|fail)
   ·exact fa_q (by simp) (fun _ _=>rfl) (by rw[okH_at (n:=6) (by omega) hv ‹_›])
   ·exact r_nx () (nx ‹_›)
  ·have gk:(rlS b)[7]?=some (fnV b 123):=rfl
   repeat' (first|(refine k_L ?_;(refine k_l ?_;refine a_l rfl (by exact rd_h (r_v1 (i:=7) rfl)) ?_))|refine xx ?_|(refine xy ?_ ?_<;>intro hb<;>try(exfalso;omega))|(refine k_L ?_;(refine a_cvq rfl (fnOk_of Tryz.func123 rfl rfl) rfl (fun m hm=>rule8_q (hH m hm) (hv 0 (by omega))) ?_))|fail)
   ·exact fa_q (by simp) (fun _ _=>rfl) (by rw[okH_at (n:=7) (by omega) hv ‹_›])
   ·exact r_nx () (nx ‹_›)
 ·repeat' (first|refine xx ?_|fail)
  exact fa_q (by simp) (fun _ _=>rfl) (by rw[okH_all hv])
end Go.Proofs.YtpleoapljeffiaaGreatDoor.E
namespace Go.Proofs.YtpleoapljeffiaaGreatDoor.E
open Go
noncomputable def e71:Env:=⟨Tryz.prog,[],103,[(1,40),(5,38)]⟩
abbrev jA(a0:Nat)(a1:Nat)(a2:Nat)(a3:Nat):I:=⟨some a0,some (a1,false),.bin .gtr (.tmp a2) (.tmp a3)⟩
abbrev jB(a0:Nat)(a1:Nat)(a2:Nat)(a3:Nat)(a4:Int)(a5:Int):I:=⟨some a0,some (a1,true),.qcall a2 [.tmp a3,.const (.int .i64 a4),.const (.int .i64 a5)]⟩
noncomputable def c71:C:=
 .seq (.reg [zD 2]) (.seq (.seq (.dreg 40 [z3 3 0,z6 4 3,z4 5 0 4,z5 6 1 5,qr 7 24 6 1 4000,zV 8 7,z3 9 8,zQ 10 9 0,za 11 9 10,zO 12 9 3 11,zP 13 9 1 12,qM 14 9 13,zz 15 9 14 16,zR 16 9 15,z3 17 16,zQ 18 17 0,za 19 17 18,zO 20 17 4 19,zP 21 17 1 20,qM 22 17 21,zQ 23 17 0,za 24 17 23,zO 25 17 0 24,zP 26 17 1 25,⟨some 27,some (17,false),.bin .mul (.const (.int .i64 2)) (.tmp 26)⟩,jA 28 17 22 27,zR
 29 17 28,z3 30 29,zQ 31 30 0,za 32 30 31,zO 33 30 8 32,zP 34 30 1 33,qM 35 30 34,zQ 36 30 0,za 37 30 36,zO 38 30 4 37,zP 39 30 1 38,qM 40 30 39,jA 41 30 35 40,zR 42 30 41]) (.cond (.tmp 42) (.seq (.reg [zD 2]) .ret) .skip)) (.seq (.seq (.reg [z3 43 0,z6 44 43,z4 45 2 44,z5 46 1 45,qG 47 24 46 0 1000000000,zV 48 47,z3 49 48,zQ 50 49 0,za 51 49 50,zO 52 49 11 51,zP 53 49 1 52,⟨some 54,some (49,
 false),.call 24 [.tmp 53,.const (.int .i64 0),.const (.int .i64 1000000000)]⟩,zf 55 49 54,zR 56 49 55,z3 57 56,zQ 58 57 0,za 59 57 58,zO 60 57 12 59,zP 61 57 1 60,⟨some 62,some (57,false),.call 24 [.tmp 61,.const (.int .i64 0),.const (.int .i64 1000000000)]⟩,zf 63 57 62,zR 64 57 63]) (.cond (.tmp 64) (.seq (.reg [zD 2]) .ret) .skip)) (.seq (.dreg 38 [z3 65 0,z6 66 65,z4 67 9 66,z5 68 1 67,qr 69
 24 68 0 64,z3 70 69,zJ 71 70 0,zU 72 70 71,zI 73 70 10 72,zF 74 70 1 73,jB 75 70 24 74 0 4000,zK 76 70 75,z3 77 76,zJ 78 77 0,zU 79 77 78,zI 80 77 5 79,zF 81 77 1 80,jB 82 77 24 81 0 6,zK 83 77 82,z3 84 83,zJ 85 84 0,zU 86 84 85,zI 87 84 6 86,zF 88 84 1 87,zJ 89 84 0,zU 90 84 89,zI 91 84 4 90,zF 92 84 1 91,q5 93 84 92,⟨some 94,some (84,true),.qcall 24 [.tmp 88,.const (.int .i64 0),.tmp 93]⟩,zK 95
 84 94,z3 96 95,zJ 97 96 0,zU 98 96 97,zI 99 96 7 98,zF 100 96 1 99,jB 101 96 24 100 0 200,zK 102 96 101,z3 2 102]) .ret)))
theorem t71:Tryz.f71.body.bind (trC e71)=some c71:=by kernel_rfl
theorem r71:Tryz.f71.results.toList.mapM (trR Tryz.prog)=some [.tmp 2]:=by kernel_rfl
theorem fn71{args:List Value}{M:Mem}{post:Value→Mem→Prop}(hl:args.length≤103)(h:VC e71 c71 (fnQ [.tmp 2] post) (initS args 103) M):Fn Tryz.prog 71 args M post:=
 Fn.of' (E:=e71) Tryz.func71 t71 rfl r71 mixed hl h
noncomputable def e72:Env:=⟨Tryz.prog,[4],156,[(19,43)]⟩
noncomputable def c72:C:=
 .seq (.reg [zD 2]) (.seq (.seq (.reg [z3 7 0,z6 8 7,z4 9 4 8,z5 10 1 9,zE 11 10,zC 12 0]) (.block 0 (.loop (.seq (.reg [zN 13 12 11]) (.seq (.cond (.tmp 13) .skip (.exit 0)) (.seq (.block 1 (.seq (.reg [z3 14 12,z8 15 8 10 12,z9 16 8 15,zX 4 0 0 0 0 0 0 0 0 0,z3 3 14,z7 8 4 16]) (.seq (.reg [z4 17 1 4,z5 18 1 17,zA 19 18 0,z3 20 19,zI 21 20 2 4,zF 22 20 1 21,zY 23 20 22 0,zK 24 20 23,z3 25
 24,zI 26 25 3 4,zF 27 25 1 26,zY 28 25 27 0,zK 29 25 28,z3 30 29,zI 31 30 4 4,zF 32 30 1 31,zY 33 30 32 0,zK 34 30 33,z3 35 34,zI 36 35 5 4,zF 37 35 1 36,zY 38 35 37 0,zK 39 35 38,z3 40 39,zI 41 40 7 4,zF 42 40 1 41,q5 43 40 42,zY 44 40 43 0,zK 45 40 44,z3 5 45]) (.seq (.reg [z4 46 0 4,z5 47 1 46]) (.block 2 (.seq (.reg [zA 49 47 0,z3 48 49]) (.cond (.tmp 48) (.seq (.reg [z3 50 5,zV 51 50,z3
 52 51,zO 53 52 6 4,zP 54 52 1 53,zz 55 52 54 0,zR 56 52 55]) (.cond (.tmp 56) (.seq (.reg [zD 2]) .ret) .skip)) (.seq (.reg [zA 58 47 2,z3 57 58]) (.cond (.tmp 57) (.seq (.seq (.reg [z3 59 5,zV 60 59,z3 61 60,zQ 62 61 0,za 63 61 62,zO 64 61 5 63,zP 65 61 1 64,j6 66 61 65 4,zR 67 61 66,z3 68 67,zO 69 68 6 4,zP 70 68 1 69,j6 71 68 70 0,zR 72 68 71,z3 73 72,zO 74 73 6 4,zP 75 73 1 74,zQ 76 73 3,
 ⟨some 77,some (73,false),.bin .geq (.tmp 75) (.tmp 76)⟩,zR 78 73 77,z3 79 78,zQ 80 79 0,zO 81 79 6 4,zP 82 79 1 81,qN 83 79 108 80 82,zf 84 79 83,zR 85 79 84]) (.cond (.tmp 85) (.seq (.reg [zD 2]) .ret) .skip)) (.seq (.reg [zC 6 0]) (.block 3 (.loop (.seq (.seq (.reg [z3 86 6,z4 87 6 4,z5 88 1 87,zN 89 86 88,z3 90 89,zJ 91 90 0,zU 92 90 91,zI 93 90 5 92,zF 94 90 1 93,zY 95 90 94 4,zK 96 90
 95]) (.cond (.tmp 96) .skip (.exit 3))) (.seq (.block 4 (.seq (.reg [z3 99 0,z6 100 99,z4 101 4 100,z5 102 1 101,z3 103 6,z8 104 8 102 103,z4 105 0 104,z5 106 1 105,zA 107 106 0]) (.cond (.tmp 107) (.seq (.reg [zD 2]) .ret) .skip))) (.reg [z3 97 6,zG 98 97 1,z3 6 98]))))))) (.seq (.reg [zA 109 47 1,z3 108 109]) (.cond (.tmp 108) (.seq (.dreg 43 [z4 110 1 4,z5 111 1 110,qr 112 24 111 0 255,zV
 113 112,z3 114 113,zO 115 114 2 4,zP 116 114 1 115,qY 117 114 24 116 0 3,zf 118 114 117,zR 119 114 118,z3 120 119,zO 121 120 3 4,zP 122 120 1 121,qY 123 120 24 122 0 3,zf 124 120 123,zR 125 120 124,z3 126 125,zO 127 126 4 4,zP 128 126 1 127,zQ 129 126 0,za 130 126 129,zO 131 126 2 130,zP 132 126 1 131,j7 133 126 24 128 1 132,zf 134 126 133,zR 135 126 134,z3 136 135,zO 137 136 5 4,zP 138 136 1 137,
 qY 139 136 24 138 0 2,zf 140 136 139,zR 141 136 140,z3 142 141,zO 143 142 6 4,zP 144 142 1 143,zz 145 142 144 0,zR 146 142 145,z3 147 146,zO 148 147 7 4,zP 149 147 1 148,qM 150 147 149,qt 151 147 150 200,zR 152 147 151]) (.cond (.tmp 152) (.seq (.reg [zD 2]) .ret) .skip)) (.seq (.reg [zD 2]) .ret)))))))))))) (.reg [zG 153 12 1,z3 12 153]))))))) (.seq (.reg [z3 154 0,zM 155 109 154,z3 2 155])
 .ret))
theorem t72:Tryz.f72.body.bind (trC e72)=some c72:=by kernel_rfl
theorem r72:Tryz.f72.results.toList.mapM (trR Tryz.prog)=some [.tmp 2]:=by kernel_rfl
theorem fn72{args:List Value}{M:Mem}{post:Value→Mem→Prop}(hl:args.length≤156)(h:VC e72 c72 (fnQ [.tmp 2] post) (initS args 156) M):Fn Tryz.prog 72 args M post:=
 Fn.of' (E:=e72) Tryz.func72 t72 rfl r72 mixed hl h
noncomputable def e73:Env:=⟨Tryz.prog,[5],26,[]⟩
noncomputable def c73:C:=
 .seq (.reg [zC 2 0]) (.seq (.reg [zC 3 0]) (.seq (.seq (.reg [z3 6 0,z6 7 6,z4 8 4 7,z5 9 1 8,zE 10 9,zC 11 0]) (.block 0 (.loop (.seq (.reg [zN 12 11 10]) (.seq (.cond (.tmp 12) .skip (.exit 0)) (.seq (.block 1 (.seq (.reg [z8 13 8 9 11,z9 14 8 13,zX 5 0 0 0 0 0 0 0 0 0,z7 8 5 14]) (.seq (.reg [z4 15 0 5,z5 16 1 15,zA 17 16 1]) (.cond (.tmp 17) (.reg [z3 18 3,z4 19 7 5,z5 20 1 19,zE 21 20,
 qT 22 1 21,q4 23 18 22,z3 3 23]) .skip)))) (.reg [zG 24 11 1,z3 11 24]))))))) (.seq (.reg [z3 25 3,z3 2 25]) .ret)))
theorem t73:Tryz.f73.body.bind (trC e73)=some c73:=by kernel_rfl
theorem r73:Tryz.f73.results.toList.mapM (trR Tryz.prog)=some [.tmp 2]:=by kernel_rfl
theorem fn73{args:List Value}{M:Mem}{post:Value→Mem→Prop}(hl:args.length≤26)(h:VC e73 c73 (fnQ [.tmp 2] post) (initS args 26) M):Fn Tryz.prog 73 args M post:=
 Fn.of' (E:=e73) Tryz.func73 t73 rfl r73 mixed hl h
noncomputable def e74:Env:=⟨Tryz.prog,[4,6,9],99,[(17,20)]⟩
noncomputable def c74:C:=
 .seq (.reg [zD 2]) (.seq (.seq (.reg [z3 11 0,z6 12 11,z4 13 3 12,z5 14 1 13,zE 15 14,zC 16 0]) (.block 0 (.loop (.seq (.reg [zN 17 16 15]) (.seq (.cond (.tmp 17) .skip (.exit 0)) (.seq (.block 1 (.seq (.reg [z8 18 3 14 16,z9 19 3 18,zk 4 0 0 0,z7 3 4 19]) (.seq (.reg [z3 20 0,z9 21 3 4,⟨some 22,none,.call 110 [.tmp 20,.tmp 21,.const (.bool false)]⟩,zV 23 22]) (.cond (.tmp 23) (.seq (.reg [
 zD 2]) .ret) .skip)))) (.reg [zG 24 16 1,z3 16 24]))))))) (.seq (.seq (.reg [z3 25 0,z6 26 25,z4 27 4 26,z5 28 1 27,zE 29 28,zC 30 0]) (.block 2 (.loop (.seq (.reg [zN 31 30 29]) (.seq (.cond (.tmp 31) .skip (.exit 2)) (.seq (.block 3 (.seq (.reg [z3 32 30,z8 33 8 28 30,z9 34 8 33,zX 6 0 0 0 0 0 0 0 0 0,z3 5 32,z7 8 6 34]) (.seq (.reg [z3 35 0,z3 36 5,zL 37 111 35 36,z3 7 37]) (.seq (.seq
 (.reg [z3 38 7,z3 39 38,zI 40 39 3 6,zF 41 39 1 40,zY 42 39 41 1,zJ 43 39 42,zO 44 43 3 6,zP 45 43 1 44,zt 46 43 45 2,qD 47 39 43 46,zK 48 39 47]) (.cond (.tmp 48) (.seq (.reg [zD 2]) .ret) .skip)) (.seq (.reg [z4 49 7 6,z5 50 1 49,zE 51 50,zC 52 0]) (.block 4 (.loop (.seq (.reg [zN 53 52 51]) (.seq (.cond (.tmp 53) .skip (.exit 4)) (.seq (.block 5 (.seq (.reg [z3 54 52,z8 55 6 50 52,z9 56 6
 55,zp 9 0 0 0 0 0 0,z3 8 54,z7 6 9 56]) (.seq (.seq (.reg [z3 57 7]) (.cond (.tmp 57) (.seq (.seq (.dreg 20 [z4 58 0 9,z9 59 3 58,z3 60 0,z6 61 60,z4 62 4 61,z5 63 1 62,zE 64 63,q6 65 112 59 64,zV 66 65,z3 67 66,zO 68 67 3 9,q9 69 67 3 68,zQ 70 67 0,za 71 67 70,zO 72 67 4 71,zP 73 67 1 72,qM 74 67 73,⟨some 75,some (67,false),.qcall 112 [.tmp 69,.tmp 74]⟩,zf 76 67 75,zR 77 67 76]) (.cond (.tmp
 77) (.seq (.reg [zD 2]) .ret) .skip)) (.exit 5)) .skip)) (.seq (.reg [z3 78 0,z3 79 5,z3 80 8,qI 81 113 78 79 80,zV 82 81,z3 10 82]) (.seq (.reg [z3 83 0,z4 84 0 9,z9 85 3 84,z3 86 10,qI 87 110 83 85 86,zV 88 87,z3 89 88,zQ 90 89 0,zO 91 89 3 9,q9 92 89 3 91,zQ 93 89 10,⟨some 94,some (89,false),.call 110 [.tmp 90,.tmp 92,.tmp 93]⟩,zf 95 89 94,zR 96 89 95]) (.cond (.tmp 96) (.seq (.reg [zD 2])
 .ret) .skip)))))) (.reg [zG 97 52 1,z3 52 97]))))))))))) (.reg [zG 98 30 1,z3 30 98]))))))) (.seq (.reg [zZ 2]) .ret)))
theorem t74:Tryz.f74.body.bind (trC e74)=some c74:=by kernel_rfl
theorem r74:Tryz.f74.results.toList.mapM (trR Tryz.prog)=some [.tmp 2]:=by kernel_rfl
theorem fn74{args:List Value}{M:Mem}{post:Value→Mem→Prop}(hl:args.length≤99)(h:VC e74 c74 (fnQ [.tmp 2] post) (initS args 99) M):Fn Tryz.prog 74 args M post:=
 Fn.of' (E:=e74) Tryz.func74 t74 rfl r74 mixed hl h
noncomputable def e75:Env:=⟨Tryz.prog,[5],118,[]⟩
noncomputable def c75:C:=
 .seq (.reg [zD 2]) (.seq (.reg [z3 11 0,z6 12 11,z4 13 5 12,z5 14 1 13,zA 15 14 1,z3 16 15,zQ 17 16 0,za 18 16 17,zO 19 16 5 18,zP 20 16 1 19,zt 21 16 20 2,zR 22 16 21,z3 3 22]) (.seq (.seq (.reg [z3 23 3,zV 24 23,z3 25 24,zJ 26 25 0,zU 27 25 26,zI 28 25 8 27,zF 29 25 1 28,q5 30 25 29,qU 31 25 30 0,zK 32 25 31]) (.cond (.tmp 32) (.seq (.reg [zD 2]) .ret) .skip)) (.seq (.seq (.reg [z3 33 0,z6
 34 33,z4 35 4 34,z5 36 1 35,zE 37 36,zC 38 0]) (.block 0 (.loop (.seq (.reg [zN 39 38 37]) (.seq (.cond (.tmp 39) .skip (.exit 0)) (.seq (.block 1 (.seq (.reg [z3 40 38,z8 41 8 36 38,z9 42 8 41,zX 5 0 0 0 0 0 0 0 0 0,z3 4 40,z7 8 5 42]) (.seq (.reg [zC 6 0]) (.seq (.seq (.reg [z3 43 0,z6 44 43,z4 45 8 44,z5 46 1 45,zE 47 46,zC 48 0]) (.block 2 (.loop (.seq (.reg [zN 49 48 47]) (.seq (.cond
 (.tmp 49) .skip (.exit 2)) (.seq (.block 3 (.seq (.reg [z8 50 1 46 48,z5 51 1 50,z3 8 51]) (.seq (.reg [z3 52 8,z3 53 4,zy 54 52 53]) (.cond (.tmp 54) (.reg [z3 55 6,zG 56 55 1,z3 6 56]) .skip)))) (.reg [zG 57 48 1,z3 48 57]))))))) (.seq (.seq (.reg [z4 58 5 5,z5 59 1 58,zA 60 59 1,z3 61 60,zJ 62 61 6,qC 63 61 62 1,zK 64 61 63,z3 65 64,zO 66 65 5 5,zP 67 65 1 66,zz 68 65 67 1,zQ 69 65 68,zJ
 70 69 6,qU 71 69 70 0,q8 72 65 69 71,zR 73 65 72]) (.cond (.tmp 73) (.seq (.reg [zD 2]) .ret) .skip)) (.seq (.reg [z4 74 5 5,z5 75 1 74,zA 76 75 2,z3 77 76,zJ 78 77 3,qA 79 77 78,zK 80 77 79,z3 81 80,zJ 82 81 0,zU 83 81 82,zI 84 81 5 83,zF 85 81 1 84,qC 86 81 85 3,zJ 87 81 86,zQ 88 87 4,zQ 89 87 0,za 90 87 89,zO 91 87 6 90,zP 92 87 1 91,qZ 93 87 88 92,qD 94 81 87 93,zK 95 81 94]) (.cond (.tmp
 95) (.seq (.reg [zD 2]) .ret) .skip))))))) (.reg [zG 96 38 1,z3 38 96]))))))) (.seq (.seq (.reg [z3 97 0,z6 98 97,z4 99 8 98,z5 100 1 99,zE 101 100,zC 102 0]) (.block 4 (.loop (.seq (.reg [zN 103 102 101]) (.seq (.cond (.tmp 103) .skip (.exit 4)) (.seq (.block 5 (.seq (.reg [z8 104 1 100 102,z5 105 1 104,z3 10 105]) (.seq (.reg [z3 106 10,zc 107 106 0,z3 108 107,zQ 109 108 10,zQ 110 108 0,
 za 111 108 110,zO 112 108 4 111,zP 113 108 1 112,qM 114 108 113,⟨some 115,some (108,false),.bin .geq (.tmp 109) (.tmp 114)⟩,zR 116 108 115]) (.cond (.tmp 116) (.seq (.reg [zD 2]) .ret) .skip)))) (.reg [zG 117 102 1,z3 102 117]))))))) (.seq (.reg [zZ 2]) .ret)))))
theorem t75:Tryz.f75.body.bind (trC e75)=some c75:=by kernel_rfl
theorem r75:Tryz.f75.results.toList.mapM (trR Tryz.prog)=some [.tmp 2]:=by kernel_rfl
theorem fn75{args:List Value}{M:Mem}{post:Value→Mem→Prop}(hl:args.length≤118)(h:VC e75 c75 (fnQ [.tmp 2] post) (initS args 118) M):Fn Tryz.prog 75 args M post:=
 Fn.of' (E:=e75) Tryz.func75 t75 rfl r75 mixed hl h
noncomputable def e76:Env:=⟨Tryz.prog,[],107,[(10,19),(12,19),(14,17)]⟩
noncomputable def c76:C:=
 .seq (.reg [zD 2]) (.seq (.seq (.reg [z3 3 0,z6 4 3,z4 5 5 4,z5 6 1 5]) (.block 0 (.seq (.seq (.reg [zA 8 6 0,z3 7 8]) (.cond (.tmp 7) .skip (.reg [zA 9 6 4,z3 7 9]))) (.cond (.tmp 7) (.seq (.reg [z3 10 0,z6 11 10,z4 12 6 11,z5 13 1 12,zA 14 13 0,z3 15 14,zJ 16 15 0,zU 17 15 16,zI 18 15 7 17,zF 19 15 1 18,zY 20 15 19 0,zK 21 15 20,z3 2 21]) .ret) (.seq (.reg [zA 23 6 2,z3 22 23]) (.cond
 (.tmp 22) (.seq (.seq (.reg [z3 24 0,z6 25 24,z4 26 6 25,z5 27 1 26,zo 28 27 0]) (.cond (.tmp 28) (.seq (.reg [zD 2]) .ret) .skip)) (.seq (.seq (.reg [z3 29 0,z6 30 29,z4 31 8 30,z5 32 1 31,zE 33 32,zA 34 33 0]) (.cond (.tmp 34) (.seq (.reg [z3 35 0,z6 36 35,z4 37 7 36,z5 38 1 37,zA 39 38 0,z3 2 39]) .ret) .skip)) (.seq (.dreg 19 [z3 40 0,z6 41 40,z4 42 7 41,z5 43 1 42,z3 44 0,z6 45 44,z4 46
 4 45,z5 47 1 46,z3 48 0,z6 49 48,z4 50 8 49,z5 51 1 50,qa 52 1 51 0,z5 53 1 52,z8 54 8 47 53,z4 55 7 54,z5 56 1 55,zE 57 56,qJ 58 43 57,z3 2 58]) .ret))) (.seq (.reg [zA 60 6 5,z3 59 60]) (.cond (.tmp 59) (.seq (.seq (.dreg 19 [z3 61 0,z6 62 61,z4 63 6 62,z5 64 1 63,z3 65 0,z6 66 65,z4 67 4 66,z5 68 1 67,zE 69 68,zy 70 64 69,z3 71 70,zQ 72 71 0,zQ 73 71 0,za 74 71 73,zO 75 71 6 74,zP 76 71 1 75,
 ⟨some 77,some (71,false),.qcall 108 [.tmp 72,.tmp 76]⟩,zf 78 71 77,zR 79 71 78]) (.cond (.tmp 79) (.seq (.reg [z3 80 0,z6 81 80,z4 82 7 81,z5 83 1 82,zA 84 83 0,z3 2 84]) .ret) .skip)) (.seq (.dreg 17 [z3 85 0,z6 86 85,z4 87 7 86,z5 88 1 87,z3 89 0,z6 90 89,z4 91 4 90,z5 92 1 91,z3 93 0,z6 94 93,z4 95 6 94,z5 96 1 95,z8 97 8 92 96,z4 98 7 97,z5 99 1 98,zE 100 99,qJ 101 88 100,z3 2 101]) .ret))
 .skip)))))))) (.seq (.reg [z3 102 0,z6 103 102,z4 104 7 103,z5 105 1 104,zA 106 105 0,z3 2 106]) .ret))
theorem t76:Tryz.f76.body.bind (trC e76)=some c76:=by kernel_rfl
theorem r76:Tryz.f76.results.toList.mapM (trR Tryz.prog)=some [.tmp 2]:=by kernel_rfl
theorem fn76{args:List Value}{M:Mem}{post:Value→Mem→Prop}(hl:args.length≤107)(h:VC e76 c76 (fnQ [.tmp 2] post) (initS args 107) M):Fn Tryz.prog 76 args M post:=
 Fn.of' (E:=e76) Tryz.func76 t76 rfl r76 mixed hl h
noncomputable def e77:Env:=⟨Tryz.prog,[4],116,[]⟩
noncomputable def c77:C:=
 .seq (.reg [zD 2]) (.seq (.seq (.reg [z3 8 0,z6 9 8,z4 10 5 9,z5 11 1 10,zo 12 11 1,z3 13 12,zJ 14 13 0,zU 15 13 14,zI 16 13 5 15,zF 17 13 1 16,qC 18 13 17 2,zK 19 13 18]) (.cond (.tmp 19) (.seq (.reg [zZ 2]) .ret) .skip)) (.seq (.seq (.reg [z3 20 0,z6 21 20,z4 22 4 21,z5 23 1 22,zE 24 23,zC 25 0]) (.block 0 (.loop (.seq (.reg [zN 26 25 24]) (.seq (.cond (.tmp 26) .skip (.exit 0)) (.seq
 (.block 1 (.seq (.reg [z3 27 25,z8 28 8 23 25,z9 29 8 28,zX 4 0 0 0 0 0 0 0 0 0,z3 3 27,z7 8 4 29]) (.seq (.reg [z4 30 3 4,z5 31 1 30,zA 32 31 1,z3 33 32,zO 34 33 3 4,zP 35 33 1 34,zt 36 33 35 2,zR 37 33 36,z3 5 37]) (.seq (.seq (.reg [z3 38 5,z3 39 38,zI 40 39 5 4,zF 41 39 1 40,zY 42 39 41 0,zK 43 39 42,z3 44 43,zJ 45 44 0,zU 46 44 45,zI 47 44 5 46,zF 48 44 1 47,zY 49 44 48 2,zJ 50 44 49,zQ
 51 50 3,zQ 52 50 0,za 53 50 52,zO 54 50 6 53,zP 55 50 1 54,qZ 56 50 51 55,qD 57 44 50 56,zK 58 44 57]) (.cond (.tmp 58) (.seq (.reg [zD 2]) .ret) .skip)) (.seq (.reg [zC 6 0]) (.seq (.seq (.reg [z4 59 5 4,z5 60 1 59,zA 61 60 2]) (.cond (.tmp 61) (.reg [z4 62 7 4,z5 63 1 62,zE 64 63,z3 6 64]) (.seq (.reg [z3 65 0,z6 66 65,z4 67 5 66,z5 68 1 67,zA 69 68 2,z3 70 69,zJ 71 70 0,zU 72 70 71,zI 73
 70 8 72,zF 74 70 1 73,q5 75 70 74,qU 76 70 75 0,zK 77 70 76,z3 78 77,zJ 79 78 0,zU 80 78 79,zI 81 78 8 80,zF 82 78 1 81,⟨some 83,some (78,true),.iaddr 1 (.tmp 82) (.const (.int .i64 0))⟩,zF 84 78 1 83,zJ 85 78 3,qb 86 78 84 85,zK 87 78 86]) (.cond (.tmp 87) (.reg [z3 88 0,z6 89 88,z4 90 7 89,z5 91 1 90,z3 6 91]) .skip)))) (.seq (.reg [zC 7 0]) (.block 2 (.loop (.seq (.seq (.reg [z3 92 7,z3 93
 6,zN 94 92 93]) (.cond (.tmp 94) .skip (.exit 2))) (.seq (.block 3 (.seq (.reg [z3 97 0,z4 98 7 4,z5 99 1 98,z3 100 7,z8 101 6 99 100,z4 102 0 101,z9 103 3 102,zL 104 114 97 103,z3 105 104,zQ 106 105 0,zO 107 105 7 4,zP 108 105 1 107,zQ 109 105 7,qB 110 105 6 108 109,zO 111 105 3 110,q9 112 105 3 111,qN 113 105 114 106 112,zR 114 105 113]) (.cond (.tmp 114) (.seq (.reg [zD 2]) .ret) .skip)))
 (.reg [z3 95 7,zG 96 95 1,z3 7 96])))))))))))) (.reg [zG 115 25 1,z3 25 115]))))))) (.seq (.reg [zZ 2]) .ret)))
theorem t77:Tryz.f77.body.bind (trC e77)=some c77:=by kernel_rfl
theorem r77:Tryz.f77.results.toList.mapM (trR Tryz.prog)=some [.tmp 2]:=by kernel_rfl
theorem fn77{args:List Value}{M:Mem}{post:Value→Mem→Prop}(hl:args.length≤116)(h:VC e77 c77 (fnQ [.tmp 2] post) (initS args 116) M):Fn Tryz.prog 77 args M post:=
 Fn.of' (E:=e77) Tryz.func77 t77 rfl r77 mixed hl h
noncomputable def e78:Env:=⟨Tryz.prog,[4],34,[]⟩
noncomputable def c78:C:=
 .seq (.reg [zD 2]) (.seq (.seq (.reg [z3 5 0,z6 6 5,z4 7 4 6,z5 8 1 7,zE 9 8,zC 10 0]) (.block 0 (.loop (.seq (.reg [zN 11 10 9]) (.seq (.cond (.tmp 11) .skip (.exit 0)) (.seq (.block 1 (.seq (.reg [z3 12 10,z8 13 8 8 10,z9 14 8 13,zX 4 0 0 0 0 0 0 0 0 0,z3 3 12,z7 8 4 14]) (.seq (.reg [z3 15 0,z6 16 15,z4 17 5 16,z5 18 1 17,zA 19 18 6,z3 20 19,zJ 21 20 3,zJ 22 20 0,zU 23 20 22,zI 24 20 6 23,
 zF 25 20 1 24,qh 26 20 21 25,zK 27 20 26,z3 28 27,zI 29 28 0 4,zF 30 28 1 29,zY 31 28 30 2,zK 32 28 31]) (.cond (.tmp 32) (.seq (.reg [zD 2]) .ret) .skip)))) (.reg [zG 33 10 1,z3 10 33]))))))) (.seq (.reg [zZ 2]) .ret))
theorem t78:Tryz.f78.body.bind (trC e78)=some c78:=by kernel_rfl
theorem r78:Tryz.f78.results.toList.mapM (trR Tryz.prog)=some [.tmp 2]:=by kernel_rfl
theorem fn78{args:List Value}{M:Mem}{post:Value→Mem→Prop}(hl:args.length≤34)(h:VC e78 c78 (fnQ [.tmp 2] post) (initS args 34) M):Fn Tryz.prog 78 args M post:=
 Fn.of' (E:=e78) Tryz.func78 t78 rfl r78 mixed hl h
noncomputable def e38:Env:=⟨Tryz.prog,[],37,[(6,12)]⟩
noncomputable def c38:C:=
 .seq (.reg [qd 1 0,zC 2 0]) (.seq (.reg [z3 3 1]) (.seq (.seq (.reg [z3 4 3,zM 5 71 4,zV 6 5]) (.cond (.tmp 6) (.seq (.reg [zC 2 1]) .ret) .skip)) (.seq (.seq (.reg [z3 7 3,zM 8 72 7,zV 9 8]) (.cond (.tmp 9) (.seq (.reg [zC 2 2]) .ret) .skip)) (.seq (.seq (.dreg 12 [z4 10 1 1,z5 11 1 10,z3 12 3,qH 13 73 12,zW 14 11 13,z3 15 14,zO 16 15 1 1,zP 17 15 1 16,zO 18 15 0 1,zP 19 15 1 18,jA 20 15
 17 19,zR 21 15 20]) (.cond (.tmp 21) (.seq (.reg [zC 2 3]) .ret) .skip)) (.seq (.seq (.reg [z3 22 3,zM 23 74 22,zV 24 23]) (.cond (.tmp 24) (.seq (.reg [zC 2 4]) .ret) .skip)) (.seq (.seq (.reg [z3 25 3,zM 26 75 25,zV 27 26]) (.cond (.tmp 27) (.seq (.reg [zC 2 5]) .ret) .skip)) (.seq (.seq (.reg [z3 28 3,zM 29 76 28,zV 30 29]) (.cond (.tmp 30) (.seq (.reg [zC 2 6]) .ret) .skip)) (.seq
 (.seq (.reg [z3 31 3,zM 32 77 31,zV 33 32]) (.cond (.tmp 33) (.seq (.reg [zC 2 7]) .ret) .skip)) (.seq (.seq (.reg [z3 34 3,zM 35 78 34,zV 36 35]) (.cond (.tmp 36) (.seq (.reg [zC 2 8]) .ret) .skip)) (.seq (.reg [zC 2 0]) .ret))))))))))
theorem t38:Tryz.f38.body.bind (trC e38)=some c38:=by kernel_rfl
theorem r38:Tryz.f38.results.toList.mapM (trR Tryz.prog)=some [.tmp 2]:=by kernel_rfl
theorem fn38{args:List Value}{M:Mem}{post:Value→Mem→Prop}(hl:args.length≤37)(h:VC e38 c38 (fnQ [.tmp 2] post) (initS args 37) M):Fn Tryz.prog 38 args M post:=
 Fn.of' (E:=e38) Tryz.func38 t38 rfl r38 mixed hl h
noncomputable def e112:Env:=⟨Tryz.prog,[2],38,[]⟩
noncomputable def c112:C:=
 .seq (.reg [zT 2 0,zD 4]) (.seq (.seq (.reg [z4 5 0 2,z5 6 1 5]) (.block 0 (.seq (.reg [zA 8 6 0,z3 7 8]) (.cond (.tmp 7) (.seq (.reg [z4 9 1 2,z5 10 1 9,zA 11 10 0,z3 12 11,zI 13 12 2 2,zF 14 12 1 13,zY 15 12 14 0,zK 16 12 15,z3 4 16]) .ret) (.seq (.reg [zA 18 6 1,z3 17 18]) (.cond (.tmp 17) (.seq (.reg [z4 19 2 2,z5 20 1 19,zA 21 20 0,z3 4 21]) .ret) (.seq (.reg [zA 23 6 2,z3 22 23])
 (.cond (.tmp 22) (.seq (.reg [z4 24 1 2,z5 25 1 24,zA 26 25 0,z3 27 26,zI 28 27 2 2,zF 29 27 1 28,⟨some 30,some (27,true),.bin .geq (.tmp 29) (.const (.int .i64 0))⟩,zK 31 27 30,z3 32 31,zI 33 32 2 2,zF 34 32 1 33,zJ 35 32 1,qS 36 32 34 35,zK 37 32 36,z3 4 37]) .ret) .skip)))))))) (.seq (.reg [zD 4]) .ret))
theorem t112:Tryz.f112.body.bind (trC e112)=some c112:=by kernel_rfl
theorem r112:Tryz.f112.results.toList.mapM (trR Tryz.prog)=some [.tmp 4]:=by kernel_rfl
theorem fn112{args:List Value}{M:Mem}{post:Value→Mem→Prop}(hl:args.length≤38)(h:VC e112 c112 (fnQ [.tmp 4] post) (initS args 38) M):Fn Tryz.prog 112 args M post:=
 Fn.of' (E:=e112) Tryz.func112 t112 rfl r112 mixed hl h
noncomputable def e108:Env:=⟨Tryz.prog,[],14,[]⟩
noncomputable def c108:C:=
 .seq (.reg [zD 4]) (.seq (.reg [z3 5 0,z6 6 5,z4 7 4 6,z5 8 1 7,z3 9 1,z8 10 8 8 9,z4 11 0 10,z5 12 1 11,zA 13 12 1,z3 4 13]) .ret)
theorem t108:Tryz.f108.body.bind (trC e108)=some c108:=by kernel_rfl
theorem r108:Tryz.f108.results.toList.mapM (trR Tryz.prog)=some [.tmp 4]:=by kernel_rfl
theorem fn108{args:List Value}{M:Mem}{post:Value→Mem→Prop}(hl:args.length≤14)(h:VC e108 c108 (fnQ [.tmp 4] post) (initS args 14) M):Fn Tryz.prog 108 args M post:=
 Fn.of' (E:=e108) Tryz.func108 t108 rfl r108 mixed hl h
noncomputable def e109:Env:=⟨Tryz.prog,[4,6],52,[]⟩
noncomputable def c109:C:=
 .seq (.reg [zD 2]) (.seq (.seq (.reg [z3 7 0,z6 8 7,z4 9 4 8,z5 10 1 9,zE 11 10,zC 12 0]) (.block 0 (.loop (.seq (.reg [zN 13 12 11]) (.seq (.cond (.tmp 13) .skip (.exit 0)) (.seq (.block 1 (.seq (.reg [z3 14 12,z8 15 8 10 12,z9 16 8 15,zX 4 0 0 0 0 0 0 0 0 0,z3 3 14,z7 8 4 16]) (.seq (.seq (.reg [z4 17 0 4,z5 18 1 17,zA 19 18 0]) (.cond (.tmp 19) (.exit 1) .skip)) (.seq (.reg [zC 5 0])
 (.block 2 (.loop (.seq (.seq (.reg [z3 20 5,z3 21 3,zN 22 20 21]) (.cond (.tmp 22) .skip (.exit 2))) (.seq (.block 3 (.seq (.reg [z3 25 0,z6 26 25,z4 27 4 26,z5 28 1 27,z3 29 5,z8 30 8 28 29,z9 31 8 30,zX 6 0 0 0 0 0 0 0 0 0,z7 8 6 31]) (.seq (.reg [z4 32 0 6,z5 33 1 32,z4 34 0 4,z5 35 1 34,zy 36 33 35,z3 37 36,zI 38 37 4 6,zF 39 37 1 38,zI 40 37 4 4,zF 41 37 1 40,qb 42 37 39 41,zK 43 37 42,z3
 44 43,zI 45 44 6 6,zF 46 44 1 45,zI 47 44 6 4,zF 48 44 1 47,qb 49 44 46 48,zK 50 44 49]) (.cond (.tmp 50) (.seq (.reg [zD 2]) .ret) .skip)))) (.reg [z3 23 5,zG 24 23 1,z3 5 24]))))))))) (.reg [zG 51 12 1,z3 12 51]))))))) (.seq (.reg [zZ 2]) .ret))
theorem t109:Tryz.f109.body.bind (trC e109)=some c109:=by kernel_rfl
theorem r109:Tryz.f109.results.toList.mapM (trR Tryz.prog)=some [.tmp 2]:=by kernel_rfl
theorem fn109{args:List Value}{M:Mem}{post:Value→Mem→Prop}(hl:args.length≤52)(h:VC e109 c109 (fnQ [.tmp 2] post) (initS args 52) M):Fn Tryz.prog 109 args M post:=
 Fn.of' (E:=e109) Tryz.func109 t109 rfl r109 mixed hl h
noncomputable def e110:Env:=⟨Tryz.prog,[4,7],41,[(1,8),(5,9)]⟩
noncomputable def c110:C:=
 .seq (.reg [zT 4 1,zD 6]) (.seq (.seq (.dreg 8 [z9 8 3 4,z3 9 0,z6 10 9,z4 11 4 10,z5 12 1 11,zE 13 12,q6 14 112 8 13,zV 15 14]) (.cond (.tmp 15) (.seq (.reg [zD 6]) .ret) .skip)) (.seq (.seq (.reg [z4 16 0 4,z5 17 1 16,zo 18 17 2]) (.cond (.tmp 18) (.seq (.reg [zZ 6]) .ret) .skip)) (.seq (.dreg 9 [z3 19 0,z6 20 19,z4 21 4 20,z5 22 1 21,z4 23 2 4,z5 24 1 23,z8 25 8 22 24,z9 26 8 25,zX 7 0 0
 0 0 0 0 0 0 0,z7 8 7 26]) (.seq (.seq (.reg [z4 27 0 7,z5 28 1 27,zA 29 28 2]) (.cond (.tmp 29) (.seq (.reg [z3 30 2,z3 6 30]) .ret) .skip)) (.seq (.reg [z4 31 0 7,z5 32 1 31,zA 33 32 1,z3 34 33,zJ 35 34 0,zI 36 34 2 4,zF 37 34 1 36,j4 38 34 111 35 37,qA 39 34 38,zK 40 34 39,z3 6 40]) .ret)))))
theorem t110:Tryz.f110.body.bind (trC e110)=some c110:=by kernel_rfl
theorem r110:Tryz.f110.results.toList.mapM (trR Tryz.prog)=some [.tmp 6]:=by kernel_rfl
theorem fn110{args:List Value}{M:Mem}{post:Value→Mem→Prop}(hl:args.length≤41)(h:VC e110 c110 (fnQ [.tmp 6] post) (initS args 41) M):Fn Tryz.prog 110 args M post:=
 Fn.of' (E:=e110) Tryz.func110 t110 rfl r110 mixed hl h
noncomputable def e111:Env:=⟨Tryz.prog,[],34,[]⟩
noncomputable def c111:C:=
 .seq (.reg [zD 4]) (.seq (.reg [z3 5 0,z6 6 5,z4 7 5 6,z5 8 1 7,zA 9 8 3,z3 10 9,zJ 11 10 1,zJ 12 10 0,zU 13 10 12,zI 14 10 6 13,zF 15 10 1 14,qh 16 10 11 15,zK 17 10 16,z3 18 17,zJ 19 18 0,zJ 20 18 1,j4 21 18 108 19 20,zK 22 18 21,z3 23 22,zJ 24 23 0,zU 25 23 24,zI 26 23 4 25,zF 27 23 1 26,zJ 28 23 1,zj 29 23 8 27 28,zI 30 23 5 29,zF 31 23 1 30,zY 32 23 31 0,zK 33 23 32,z3 4 33]) .ret)
theorem t111:Tryz.f111.body.bind (trC e111)=some c111:=by kernel_rfl
theorem r111:Tryz.f111.results.toList.mapM (trR Tryz.prog)=some [.tmp 4]:=by kernel_rfl
theorem fn111{args:List Value}{M:Mem}{post:Value→Mem→Prop}(hl:args.length≤34)(h:VC e111 c111 (fnQ [.tmp 4] post) (initS args 34) M):Fn Tryz.prog 111 args M post:=
 Fn.of' (E:=e111) Tryz.func111 t111 rfl r111 mixed hl h
noncomputable def e113:Env:=⟨Tryz.prog,[],37,[]⟩
noncomputable def c113:C:=
 .seq (.reg [zD 6]) (.seq (.seq (.reg [z3 7 0,z6 8 7,z4 9 5 8,z5 10 1 9]) (.block 0 (.seq (.reg [zA 12 10 4,z3 11 12]) (.cond (.tmp 11) (.seq (.reg [zD 6]) .ret) (.seq (.reg [zA 14 10 5,z3 13 14]) (.cond (.tmp 13) (.seq (.reg [z3 15 1,z3 16 0,z6 17 16,z4 18 6 17,z5 19 1 18,zN 20 15 19,z3 21 20,zQ 22 21 1,zQ 23 21 0,za 24 21 23,zO 25 21 6 24,zP 26 21 1 25,⟨some 27,some (21,false),.bin .eql
 (.tmp 22) (.tmp 26)⟩,zQ 28 21 27,zJ 29 28 2,zJ 30 28 0,zU 31 28 30,zI 32 28 7 31,zF 33 28 1 32,qS 34 28 29 33,q8 35 21 28 34,zR 36 21 35,z3 6 36]) .ret) .skip)))))) (.seq (.reg [zZ 6]) .ret))
theorem t113:Tryz.f113.body.bind (trC e113)=some c113:=by kernel_rfl
theorem r113:Tryz.f113.results.toList.mapM (trR Tryz.prog)=some [.tmp 6]:=by kernel_rfl
theorem fn113{args:List Value}{M:Mem}{post:Value→Mem→Prop}(hl:args.length≤37)(h:VC e113 c113 (fnQ [.tmp 6] post) (initS args 37) M):Fn Tryz.prog 113 args M post:=
 Fn.of' (E:=e113) Tryz.func113 t113 rfl r113 mixed hl h
noncomputable def e114:Env:=⟨Tryz.prog,[3],20,[(1,15)]⟩
noncomputable def c114:C:=
 .seq (.reg [zT 3 1,zD 4]) (.seq (.dreg 15 [z4 5 0 3,z5 6 1 5,zA 7 6 2,z3 8 7,zJ 9 8 0,zU 10 8 9,zI 11 8 4 10,zF 12 8 1 11,zI 13 8 2 3,zF 14 8 1 13,zj 15 8 8 12 14,zI 16 8 5 15,zF 17 8 1 16,zY 18 8 17 0,zK 19 8 18,z3 4 19]) .ret)
theorem t114:Tryz.f114.body.bind (trC e114)=some c114:=by kernel_rfl
theorem r114:Tryz.f114.results.toList.mapM (trR Tryz.prog)=some [.tmp 4]:=by kernel_rfl
theorem fn114{args:List Value}{M:Mem}{post:Value→Mem→Prop}(hl:args.length≤20)(h:VC e114 c114 (fnQ [.tmp 4] post) (initS args 20) M):Fn Tryz.prog 114 args M post:=
 Fn.of' (E:=e114) Tryz.func114 t114 rfl r114 mixed hl h
noncomputable def e94:Env:=⟨Tryz.prog,[3,4],31,[(1,15),(2,10)]⟩
noncomputable def c94:C:=
 .seq (.reg [zT 3 1,zk 4 0 0 0]) (.seq (.seq (.dreg 15 [z4 5 0 3,z5 6 1 5,zA 7 6 2,z3 8 7,zJ 9 8 0,zU 10 8 9,zI 11 8 4 10,zF 12 8 1 11,zI 13 8 2 3,zF 14 8 1 13,zj 15 8 8 12 14,zI 16 8 0 15,zF 17 8 1 16,zY 18 8 17 2,zK 19 8 18]) (.cond (.tmp 19) (.seq (.dreg 10 [z3 20 0,z6 21 20,z4 22 4 21,z5 23 1 22,z4 24 2 3,z5 25 1 24,z8 26 8 23 25,z4 27 6 26,z5 28 1 27,q7 29 0 0 0 0 1 2 2 1 28,z7 3 4 29])
 .ret) .skip)) (.seq (.reg [z9 30 3 3,z7 3 4 30]) .ret))
theorem t94:Tryz.f94.body.bind (trC e94)=some c94:=by kernel_rfl
theorem r94:Tryz.f94.results.toList.mapM (trR Tryz.prog)=some [.cell 4 false 3]:=by kernel_rfl
theorem fn94{args:List Value}{M:Mem}{post:Value→Mem→Prop}(hl:args.length≤31)(h:VC e94 c94 (fnQ [.cell 4 false 3] post) (initS args 31) M):Fn Tryz.prog 94 args M post:=
 Fn.of' (E:=e94) Tryz.func94 t94 rfl r94 mixed hl h
end Go.Proofs.YtpleoapljeffiaaGreatDoor.E
namespace Go.Proofs.YtpleoapljeffiaaGreatDoor.E
open Go
open Classical
section
variable {m:Mem} {a:Nat} {x:HX} {w:Word} {i k n:Int} {mv:Bool}
theorem l1formed_q{H:Heap}(hn:n=H.cells.length):Qt Tryz.prog 112 [wa w,.int .i64 n] m (.bool (decide (Formed H w))):=by
 refine qt_of (fnA_of (fun h=>fn112 (by simp) h) ?_)
 repeat' (first|refine xx ?_|(refine xy ?_ ?_<;>intro hb<;>try(exfalso;omega))|fail)
 all_goals first|refine q_B (fun _ _=>rfl) ?_|skip
 all_goals (subst hn;simp_all [Formed])
 all_goals omega
theorem l1used_q(h:Has m (hp a x))(h0:0≤i)(h1:i<x.H.cells.length):Qt Tryz.prog 108 [ptr a,.int .i64 i] m (.bool (decide ((x.H.getC i).state=1))):=by
 rw[x.len]at h1
 obtain⟨y,gy,gc⟩:=HX.atI (x:=x) h0 h1
 refine qt_of (fnA_of (fun h=>fn108 (by simp) h) ?_)
 repeat' (first|refine xx ?_|fail)
 refine q_B (fun _ _=>rfl) ?_
 rw[gc];simp
theorem l1doomed_q(h:Has m (hp a x))(h0:0≤i)(h1:i<x.H.cells.length):Qt Tryz.prog 111 [ptr a,.int .i64 i] m (.bool (decide (Doomed x.H i))):=by
 have h1':=h1
 rw[x.len]at h1
 obtain⟨y,gy,gc⟩:=HX.atI (x:=x) h0 h1
 refine qt_of (fnA_of (fun h=>fn111 (by simp) h) ?_)
 repeat' (first|refine xx ?_|(refine xy ?_ ?_<;>intro hb<;>try(exfalso;omega))|(refine k_L ?_;(refine k_c ?_;refine a_cq rfl (fun m hm=>l1used_q (i:=i) (has_g h hm) h0 h1') ?_))|fail)
 all_goals refine q_B (fun _ _=>rfl) ?_
 all_goals (unfold Doomed;simp only[HX.H]at*;simp_all [HX.hdr,Hdr.s_room,Hdr.s_used,Hdr.s_born,Hdr.s_phase,Hdr.s_hand,Hdr.s_sub,Hdr.s_per,Hdr.s_start,Hdr.s_rounds,Hdr.s_forced,Hdr.s_rd,Hdr.s_cd,Hdr.s_gd])
 all_goals omega
theorem l1leads_q(h:Has m (hp a x)):Qt Tryz.prog 110 [ptr a,wa w,.bool mv] m (.bool (decide (Formed x.H w∧LeadsWell x.H w (mv=true)))):=by
 have hl:=x.len
 by_cases hf:Formed x.H w
 ·by_cases hk:w.kind=2
  ·have hat:=hf.at hk
   have hat':=hat
   rw[x.len]at hat
   obtain⟨y,gy,gc⟩:=HX.atI (x:=x) hat.1 hat.2
   refine qt_of (fnA_of (fun h=>fn110 (by simp) h) ?_)
   repeat' (first|refine xx ?_|(refine xy ?_ ?_<;>intro hb<;>try(exfalso;omega))|(refine k_L ?_;first|(refine k_q ?_;refine a_q rfl (fun m hm=>l1formed_q (H:=x.H) (by rw[hl];rfl)) ?_)|(refine k_c ?_;refine a_cq rfl (fun m hm=>l1doomed_q (i:=w.at_) (has_g h hm) hat'.1 hat'.2) ?_))|fail)
   all_goals refine q_B (fun _ _=>rfl) ?_
   all_goals (unfold LeadsWell;simp_all)
  ·refine qt_of (fnA_of (fun h=>fn110 (by simp) h) ?_)
   repeat' (first|refine xx ?_|(refine xy ?_ ?_<;>intro hb<;>try(exfalso;omega))|(refine k_L ?_;(refine k_q ?_;refine a_q rfl (fun m hm=>l1formed_q (H:=x.H) (by rw[hl];rfl)) ?_))|fail)
   all_goals first|exact absurd ‹w.kind=2› hk|exact absurd hf ‹_›|skip
   all_goals refine q_B (fun _ _=>rfl) ?_
   all_goals (unfold LeadsWell;simp_all)
 ·refine qt_of (fnA_of (fun h=>fn110 (by simp) h) ?_)
  repeat' (first|refine xx ?_|(refine xy ?_ ?_<;>intro hb<;>try(exfalso;omega))|(refine k_L ?_;(refine k_q ?_;refine a_q rfl (fun m hm=>l1formed_q (H:=x.H) (by rw[hl];rfl)) ?_))|fail)
  all_goals first|exact absurd ‹Formed x.H w› hf|skip
  refine q_B (fun _ _=>rfl) ?_
  simp[hf]
theorem l1mended_q(h:Has m (hp a x)):Qt Tryz.prog 113 [ptr a,.int .i64 i,.int .i64 k] m (.bool (decide (Mended x.H i k))):=by
 refine qt_of (fnA_of (fun h=>fn113 (by simp) h) ?_)
 repeat' (first|refine xx ?_|(refine xy ?_ ?_<;>intro hb<;>try(exfalso;omega))|fail)
 all_goals refine q_B (fun _ _=>rfl) ?_
 all_goals (unfold Mended;simp only[HX.H]at*;simp_all [HX.hdr,Hdr.s_room,Hdr.s_used,Hdr.s_born,Hdr.s_phase,Hdr.s_hand,Hdr.s_sub,Hdr.s_per,Hdr.s_start,Hdr.s_rounds,Hdr.s_forced,Hdr.s_rd,Hdr.s_cd,Hdr.s_gd])
 all_goals omega
theorem l1white_q(h:Has m (hp a x))(hf:Formed x.H w):Qt Tryz.prog 114 [ptr a,wa w] m (.bool (decide (White x.H w))):=by
 by_cases hk:w.kind=2
 ·have hat:=hf.at hk
  rw[x.len]at hat
  obtain⟨y,gy,gc⟩:=HX.atI (x:=x) hat.1 hat.2
  refine qt_of (fnA_of (fun h=>fn114 (by simp) h) ?_)
  repeat' (first|refine xx ?_|(refine xy ?_ ?_<;>intro hb<;>try(exfalso;omega))|fail)
  all_goals refine q_B (fun _ _=>rfl) ?_
  all_goals (unfold White;simp_all)
 ·refine qt_of (fnA_of (fun h=>fn114 (by simp) h) ?_)
  repeat' (first|refine xx ?_|(refine xy ?_ ?_<;>intro hb<;>try(exfalso;omega))|fail)
  all_goals refine q_B (fun _ _=>rfl) ?_
  all_goals (unfold White;simp_all)
theorem l1resolve_q(h:Has m (hp a x))(hf:w.kind=2→0≤w.at_∧w.at_<x.H.cells.length):Qt Tryz.prog 94 [ptr a,wa w] m (wa (x.H.lead w)):=by
 unfold Heap.lead
 by_cases hk:w.kind=2
 ·have hat:=hf hk
  rw[x.len]at hat
  obtain⟨y,gy,gc⟩:=HX.atI (x:=x) hat.1 hat.2
  refine qt_of (fnA_of (fun h=>fn94 (by simp) h) ?_)
  repeat' (first|refine xx ?_|(refine xy ?_ ?_<;>intro hb<;>try(exfalso;omega))|fail)
  ·refine fa_q (by simp) (fun _ _=>rfl) ?_
   rw[if_pos ⟨hk,by rw[gc];assumption⟩,gc];rfl
  all_goals refine fa_q (by simp) (fun _ _=>rfl) ?_
  all_goals (rw[if_neg (by rw[gc];simp_all)];rfl)
 ·refine qt_of (fnA_of (fun h=>fn94 (by simp) h) ?_)
  repeat' (first|refine xx ?_|(refine xy ?_ ?_<;>intro hb<;>try(exfalso;omega))|fail)
  refine fa_q (by simp) (fun _ _=>rfl) ?_
  rw[if_neg (by simp_all)];rfl
end
end Go.Proofs.YtpleoapljeffiaaGreatDoor.E
set_option maxHeartbeats 8000000
namespace Go.Proofs.YtpleoapljeffiaaGreatDoor.E
open Go
open Classical
def Each2(H:Heap)(i:Nat)(c:Cell):Prop:=(c.state=0∧Bare c∧c.to=0)∨MovedOk H i c∨UsedOk H c
theorem l1apart_q{m:Mem}{a:Nat}{x:HX}(h:Has m (hp a x))(he:∀(i:Nat) c,x.H.cells[i]?=some c→Each2 x.H i c):Qt Tryz.prog 109 [ptr a] m (.bool (decide (R2 x.H))):=by
 have hb:=h.lens
 have hl:=x.len
 have hnc:(x.hdr.nc:Int)=x.xs.length:=rfl
 refine qt_of (fnA_of (fun h=>fn109 (by simp) h) ?_)
 repeat' (first|refine xx ?_|fail)
 refine g_range x.xs.length (fun _:Unit=>[(0,.v (ptr a)),(10,.v (.slice x.cd.a x.xs.length x.cd.cap))]) (fun _=>[ro m]) (fun i _=>R2p x.H i) () (R2p.zero _) (fun i _ hi hv=>?_) (fun _ hv=>?_)
 ·obtain⟨y,gy,gc⟩:=HX.at hi
  have hbp:y.c.pairs.length≤140737488355328:=by obtain⟨b,l,s⟩:=h;exact(kn_t (kn_t (kn_h (kb_cp gy))):Kn (hp a x) _).out b s
  have hE:=he i _ gc
  refine v_seq ?_
  repeat' (first
   |(refine k_L ?_;first|refine a_p rfl ?_|(refine k_i ?_;refine g_i rfl rfl ?_)|(refine k_ls ?_;refine g_ls rfl ?_)|(refine k_st ?_;refine g_sw rfl rfl rfl rfl (Nat.le_of_ble_eq_true rfl) ?_)|(refine k_al ?_;refine a_al ?_))
   |refine a_n ?_
   |(refine k_V ?_;refine v_reg ?_)
   |refine s_n ?_
   |refine sk_zero ?_
   |refine sk_succ ?_
   |refine wk_nil ?_
   |refine wk_cons ?_)
  refine v_seq ?_
  refine v_seq ?_
  repeat' (first
   |(refine k_L ?_;refine a_p rfl ?_)
   |refine a_n ?_
   |(refine k_V ?_;first|refine v_reg ?_|refine v_exit ?_|refine v_skip ?_|(refine v_cd rfl (fun hb=>?_) (fun hb=>?_)<;>try(exfalso;omega)))
   |refine s_n ?_
   |refine s_e ?_)
  ·exact r_ct () (hv.next gc hE (fun s=>by omega) (fun s=>by omega))
  have hs0:¬y.c.state=0:=‹_›
  refine v_seq ?_
  repeat' (first
   |(refine k_L ?_;refine a_p rfl ?_)
   |refine a_n ?_
   |(refine k_V ?_;refine v_reg ?_)
   |refine s_n ?_)
  refine v_blk ?_
  have key:∀(k:Nat) (z:CS),k<i→x.H.cells[k]?=some z.c→((z.c.state=y.c.state∧z.c.born=y.c.born∧z.c.to=y.c.to)↔(y.c.state=1∧z.c.state=1∧z.c.born=y.c.born)∨(y.c.state=2∧z.c.state=2∧z.c.to=y.c.to)):=by
   intro k z hk hz
   have hz2:=he k _ hz
   rcases hE with h1|h1|h1
   ·exact absurd h1.1 hs0
   ·have e1:=h1.1;have e2:=h1.2.1.2.2.2.1
    rcases hz2 with h2|h2|h2
    ·have:=h2.1;simp[e1,this]
    ·have e3:=h2.1;have e4:=h2.2.1.2.2.2.1;simp[e1,e2,e3,e4]
    ·have:=h2.1;simp[e1,this]
   ·have e1:=h1.1;have e2:=h1.2.2.2.2.2.2.1
    rcases hz2 with h2|h2|h2
    ·have:=h2.1;simp[e1,this]
    ·have:=h2.1;simp[e1,this]
    ·have e3:=h2.1;have e4:=h2.2.2.2.2.2.2.1;simp[e1,e2,e3,e4]
  refine v_loop (fun k:Nat=>[(0,.v (ptr a)),(3,.v (.int .i64 i)),(4,.box (csw y)),(5,.v (.int .i64 k)),(10,.v (.slice x.cd.a x.xs.length x.cd.cap)),(11,.v (.int .i64 x.xs.length)),(12,.v (.int .i64 i))]) (fun _=>[ro m])
   (fun f k=>f=i-k∧k≤i∧∀(j:Nat) c,j<k→x.H.cells[j]?=some c→¬(y.c.state=1∧c.state=1∧c.born=y.c.born)∧¬(y.c.state=2∧c.state=2∧c.to=y.c.to)) ⟨_,0,⟨rfl,rfl,rfl,rfl,rfl,rfl,rfl,trivial⟩,Ent.refl _,rfl,by omega,fun j c hj=>by omega⟩ ?_
  rintro f k ⟨rfl,hk,hw⟩
  by_cases hki:k<i
  ·obtain⟨z,gz,gzc⟩:=HX.at (x:=x) (i:=k) (by omega)
   have hkey:=key k z hki gzc
   have stp:¬(z.c.state=y.c.state∧z.c.born=y.c.born∧z.c.to=y.c.to)→∀(j:Nat) c,j<k+1→x.H.cells[j]?=some c→¬(y.c.state=1∧c.state=1∧c.born=y.c.born)∧¬(y.c.state=2∧c.state=2∧c.to=y.c.to):=by
    intro hn j c hj hc
    by_cases e:j=k
    ·subst e;rw[gzc]at hc;cases hc
     rw[hkey,not_or]at hn;exact hn
    ·exact hw j c (by omega) hc
   repeat' (first|refine xx ?_|(refine xy ?_ ?_<;>intro hb<;>try(exfalso;omega))|fail)
   ·refine q_F fun h2=>?_
    rcases hkey.1 ⟨‹_›,‹_›,‹_›⟩with⟨s1,s2,e⟩|⟨s1,s2,e⟩
    ·exact h2.born k i _ _ gzc gc hki s2 s1 e
    ·exact h2.to k i _ _ gzc gc hki s2 s1 e
   all_goals refine⟨_,k+1,?_,⟨rfl,rfl,rfl,rfl,rfl,rfl,rfl,trivial⟩,Ent.refl _,rfl,by omega,stp ?_⟩
   all_goals first|omega|(intro hh;exact absurd hh.1 ‹_›)|(intro hh;exact absurd hh.2.1 ‹_›)|(intro hh;exact absurd hh.2.2 ‹_›)
  ·repeat' (first|refine xx ?_|(refine xy ?_ ?_<;>intro hb<;>try(exfalso;omega))|fail)
   refine r_nx () (hv.next gc hE (fun s=>?_) (fun s=>?_))
   ·rintro⟨j,c,hj,hc,s',e⟩;exact(hw j c (by omega) hc).1 ⟨s,s',e⟩
   ·rintro⟨j,c,hj,hc,s',e⟩;exact(hw j c (by omega) hc).2 ⟨s,s',e⟩
 ·repeat' (first|refine xx ?_|fail)
  exact q_T (R2p.all.1 (by rw[hl];exact hv))
theorem l1cells_q{m:Mem}{a:Nat}{x:HX}(h:Has m (hp a x)):Qt Tryz.prog 72 [ptr a] m (.bool (decide (R2 x.H))):=by
 have hb:=h.lens
 have hl:=x.len
 have hnc:(x.hdr.nc:Int)=x.xs.length:=rfl
 refine qt_of (fnA_of (fun h=>fn72 (by simp) h) ?_)
 repeat' (first|refine xx ?_|fail)
 refine g_range x.xs.length (fun _:Unit=>[(0,.v (ptr a)),(10,.v (.slice x.cd.a x.xs.length x.cd.cap))]) (fun _=>[ro m]) (fun i _=>∀(j:Nat) c,j<i→x.H.cells[j]?=some c→Each2 x.H j c) () (fun j c hj=>by omega) (fun i _ hi hv=>?_) (fun _ hv=>?_)
 ·obtain⟨y,gy,gc⟩:=HX.at hi
  have hbp:y.c.pairs.length≤140737488355328:=by obtain⟨b,l,s⟩:=h;exact(kn_t (kn_t (kn_h (kb_cp gy))):Kn (hp a x) _).out b s
  have nx:Each2 x.H i y.c→∀(j:Nat) c,j<i+1→x.H.cells[j]?=some c→Each2 x.H j c:=by
   intro hp j c hj hc
   by_cases e:j=i
   ·subst e;rw[gc]at hc;cases hc;exact hp
   ·exact hv j c (by omega) hc
  refine v_seq ?_
  repeat' (first
   |(refine k_L ?_;first|refine a_p rfl ?_|(refine k_i ?_;refine g_i rfl rfl ?_)|(refine k_ls ?_;refine g_ls rfl ?_)|(refine k_st ?_;refine g_sw rfl rfl rfl rfl (Nat.le_of_ble_eq_true rfl) ?_)|(refine k_al ?_;refine a_al ?_))
   |refine a_n ?_
   |(refine k_V ?_;refine v_reg ?_)
   |refine s_n ?_
   |refine sk_zero ?_
   |refine sk_succ ?_
   |refine wk_nil ?_
   |refine wk_cons ?_)
  refine g_cut (fun _:Unit=>[(0,.v (ptr a)),(3,.v (.int .i64 i)),(4,.box (csw y)),(5,.v (.bool (decide (Bare y.c)))),(10,.v (.slice x.cd.a x.xs.length x.cd.cap)),(11,.v (.int .i64 x.xs.length)),(12,.v (.int .i64 i))]) (fun _=>[ro m]) (fun _=>True) ?_ (fun _ _=>?_)
  ·repeat' (first|refine xx ?_|(refine xy ?_ ?_<;>intro hb<;>try(exfalso;omega))|fail)
   ·refine j_i () trivial (hl:=⟨rfl,rfl,rfl,?_,rfl,rfl,rfl,trivial⟩)
    show SV.v (.bool _)=_
    congr 1
    refine bool_dec ?_
    simp_all [Bare]
   all_goals refine j_i () trivial (hl:=⟨rfl,rfl,rfl,?_,rfl,rfl,rfl,trivial⟩)
   all_goals (show SV.v (.bool false)=_;congr 1;exact ret_f (by simp_all [Bare]))
  refine v_seq ?_
  repeat' (first
   |(refine k_L ?_;refine a_p rfl ?_)
   |refine a_n ?_
   |(refine k_V ?_;first|refine v_reg ?_|refine v_bs ?_))
  refine v_seq ?_
  repeat' (first
   |(refine k_L ?_;refine a_p rfl ?_)
   |refine a_n ?_
   |(refine k_V ?_;refine v_reg ?_)
   |refine s_n ?_)
  refine v_ce rfl (fun hs0=>?_) (fun hs0=>?_)
  ·repeat' (first|refine xx ?_|(refine xy ?_ ?_<;>intro hb<;>try(exfalso;omega))|fail)
   ·exact q_F fun h2=>absurd (h2.free gc hs0).1 ‹_›
   ·exact q_F fun h2=>absurd (h2.free gc hs0).2 ‹_›
   ·exact r_nx () (nx (.inl ⟨hs0,‹_›,‹_›⟩))
  refine v_seq ?_
  repeat' (first
   |(refine k_L ?_;refine a_p rfl ?_)
   |refine a_n ?_
   |(refine k_V ?_;refine v_reg ?_)
   |refine s_n ?_)
  refine v_ce rfl (fun hs2=>?_) (fun hs2=>?_)
  ·by_cases hto:0≤y.c.to∧y.c.to<i
   ·obtain⟨z,gz,gzc⟩:=HX.atI (x:=x) hto.1 (by omega)
    refine v_seq ?_
    refine v_seq ?_
    repeat' (first
     |(refine k_L ?_;first|refine a_p rfl ?_|(refine k_g ?_;first|refine a_gy rfl rfl ?_|refine a_gn rfl rfl ?_|(refine a_gd rfl (fun hb=>?_) (fun hb=>?_)<;>try(exfalso;omega))|(refine a_gnd rfl (fun hb=>?_) (fun hb=>?_)<;>try(exfalso;omega)))|(refine k_l ?_;refine g_l rfl ?_)|(refine k_c ?_;refine a_cq rfl (fun m hm=>l1used_q (i:=y.c.to) (has_g h hm) hto.1 (by omega)) ?_))
     |refine a_n ?_
     |(refine k_V ?_;first|refine v_rv ?_|refine v_reg ?_|refine v_skip ?_|refine v_ct rfl ?_|(refine v_cn rfl (fun hb=>?_) (fun hb=>?_)<;>try(exfalso;omega)))
     |refine s_n ?_
     |refine s_r ?_
     |refine b_r ?_
     |refine r_rt ?_)
    ·exact q_F fun h2=>absurd (h2.moved gc hs2).2.1 ‹_›
    ·exact q_F fun h2=>absurd (h2.moved gc hs2).2.2.1 (by show ¬4≤x.hdr.phase;omega)
    ·exact q_F fun h2=>absurd (h2.moved gc hs2).2.2.2.2.1 ‹_›
    have hzs:(x.H.getC y.c.to).state=1:=‹_›
    have hbare:Bare y.c:=‹_›
    have hph:¬x.hdr.phase<4:=‹_›
    refine v_seq ?_
    repeat' (first
     |(refine k_L ?_;refine a_p rfl ?_)
     |refine a_n ?_
     |(refine k_V ?_;refine v_reg ?_)
     |refine s_n ?_)
    refine v_blk ?_
    refine v_loop (fun k:Nat=>[(0,.v (ptr a)),(4,.box (csw y)),(6,.v (.int .i64 k)),(10,.v (.slice x.cd.a x.xs.length x.cd.cap)),(11,.v (.int .i64 x.xs.length)),(12,.v (.int .i64 i))]) (fun _=>[ro m])
     (fun f k=>f=y.c.to.toNat-k∧(k:Int)≤y.c.to∧(x.H.phase=4→∀j:Int,0≤j→j<k→(x.H.getC j).state≠0)) ⟨_,0,⟨rfl,rfl,rfl,rfl,rfl,rfl,trivial⟩,Ent.refl _,rfl,by omega,fun _ j _ _=>by omega⟩ ?_
    rintro f k ⟨rfl,hk,hw⟩
    have done:(x.H.phase=4→∀j:Int,0≤j→j<y.c.to→(x.H.getC j).state≠0)→Each2 x.H i y.c:=fun hd=>
     .inr (.inl ⟨hs2,hbare,by show 4≤x.hdr.phase;omega,hto,hzs,hd⟩)
    by_cases hkt:(k:Int)<y.c.to
    ·obtain⟨u,gu,guc⟩:=HX.atI (x:=x) (i:=(k:Int)) (by omega) (by omega)
     repeat' (first|refine xx ?_|(refine xy ?_ ?_<;>intro hb<;>try(exfalso;omega))|fail)
     ·exact q_F fun h2=>(h2.moved gc hs2).2.2.2.2.2 ‹_› k (by omega) hkt (by rw[guc];assumption)
     ·refine⟨_,k+1,?_,⟨rfl,rfl,rfl,rfl,rfl,rfl,trivial⟩,Ent.refl _,rfl,by omega,fun hp j j0 j1=>?_⟩
      ·omega
      ·by_cases e:j=k
       ·subst e;rw[guc];assumption
       ·exact hw hp j j0 (by omega)
     ·exact r_nx () (nx (done fun hp=>absurd hp ‹_›))
    ·repeat' (first|refine xx ?_|(refine xy ?_ ?_<;>intro hb<;>try(exfalso;omega))|fail)
     exact r_nx () (nx (done fun hp j j0 j1=>hw hp j j0 (by omega)))
   ·repeat' (first|refine xx ?_|(refine xy ?_ ?_<;>intro hb<;>try(exfalso;omega))|fail)
    ·exact q_F fun h2=>absurd (h2.moved gc hs2).2.1 ‹_›
    ·exact q_F fun h2=>absurd (h2.moved gc hs2).2.2.1 (by show ¬4≤x.hdr.phase;omega)
    all_goals exact q_F fun h2=>hto (h2.moved gc hs2).2.2.2.1
  refine v_seq ?_
  repeat' (first
   |(refine k_L ?_;refine a_p rfl ?_)
   |refine a_n ?_
   |(refine k_V ?_;refine v_reg ?_)
   |refine s_n ?_)
  refine v_ce rfl (fun hs1=>?_) (fun hs1=>?_)
  ·repeat' (first|refine xx ?_|(refine xy ?_ ?_<;>intro hb<;>try(exfalso;omega))|(refine k_L ?_;(refine k_q ?_;refine a_q rfl (fun m hm=>spec.l1inQ) ?_))|fail)
   ·exact q_F fun h2=>absurd (h2.used gc hs1).2.1 ‹_›
   ·exact q_F fun h2=>absurd (h2.used gc hs1).2.2.1 ‹_›
   ·exact q_F fun h2=>absurd (h2.used gc hs1).2.2.2.1 ‹_›
   ·exact q_F fun h2=>absurd (h2.used gc hs1).2.2.2.2.1 ‹_›
   ·exact q_F fun h2=>absurd (h2.used gc hs1).2.2.2.2.2.1 ‹_›
   ·exact q_F fun h2=>absurd (h2.used gc hs1).2.2.2.2.2.2.1 ‹_›
   ·exact q_F fun h2=>absurd (h2.used gc hs1).2.2.2.2.2.2.2 (by omega)
   ·exact r_nx () (nx (.inr (.inr ⟨hs1,‹_›,‹_›,‹_›,‹_›,‹_›,‹_›,by omega⟩)))
  ·repeat' (first|refine xx ?_|fail)
   exact q_F fun h2=>by
    rcases h2.each i _ gc with h|h|h
    ·exact hs0 h.1
    ·exact hs2 h.1
    ·exact hs1 h.1
 ·repeat' (first|refine xx ?_|(refine k_L ?_;(refine k_c ?_;refine a_cq rfl (fun m hm=>l1apart_q (has_g h hm) (fun i c hc=>hv i c (by have:=(List.getElem?_eq_some_iff.1 hc).1;omega) hc)) ?_))|fail)
  exact fa_q (by simp) (fun _ _=>rfl) rfl
end Go.Proofs.YtpleoapljeffiaaGreatDoor.E
