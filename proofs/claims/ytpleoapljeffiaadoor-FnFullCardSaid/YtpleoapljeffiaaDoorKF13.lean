/- A part of the proof. Conditions: none. -/
import Derived.Test.YtpleoapljeffiaaDoorKF12
import Derived.Test.YtpleoapljeffiaaDoorJfFull
import Derived.Test.YtpleoapljeffiaaDoorCards
import Derived.Test.YtpleoapljeffiaaDoorTie
set_option linter.unusedVariables false
set_option linter.unusedSimpArgs false
set_option maxHeartbeats 8000000
set_option maxRecDepth 100000
namespace Go.Proofs.YtpleoapljeffiaaDoor.E
open Go
open Classical
section
variable {a:Nat} {x:HX} {n:Int} {ka kb kc:Nat}
theorem simple1_a(h:Sound x.H)(ha:ka≤15)(hb:kb≤255)(hc:kc≤200):FnA Tryd.prog 41 [eV a,.agg #[.int .i64 1,.int .i64 ka,.int .i64 kb,.int .i64 kc,.int .i64 n]] (hp a x) (fun v As=>∃z:HX,v=an (doNew x.H ⟨1,ka,kb,kc,n⟩).code (doNew x.H ⟨1,ka,kb,kc,n⟩).num∧As=hp a z∧z.H=(doNew x.H ⟨1,ka,kb,kc,n⟩).heap):=by
 refine fnA_of (fun h=>fn41 (by simp) h) ?_
 repeat' (first
  |(refine k_L ?_;first|refine a_p rfl ?_|(refine k_st ?_;refine g_sw rfl rfl rfl rfl (Nat.le_of_ble_eq_true rfl) ?_)|(refine k_al ?_;refine a_al ?_)|(refine k_bx ?_;refine a_bx rfl rfl ?_)|(refine g_c rfl (make_a (x:=x) (op:=1) (n:=n) h ha hb hc) (fun v As' hq=>?_);obtain⟨z,rfl,rfl,hz⟩:=hq))
  |refine a_n ?_
  |(refine k_V ?_;first|refine v_seq ?_|refine v_reg ?_|refine v_bs ?_|refine v_ret ?_|refine v_ct rfl ?_)
  |refine s_r ?_
  |refine b_r ?_
  |refine sk_zero ?_
  |refine sk_succ ?_
  |refine wk_nil ?_
  |refine wk_cons ?_)
 exact fa_r (fun _ _=>rfl) (Pm.ent pmt) ⟨z,rfl,rfl,hz⟩
theorem do1_a(h:Sound x.H)(ha:ka≤15)(hb:kb≤255)(hc:kc≤200):FnA Tryd.prog 39 [eV a,.agg #[.int .i64 1,.int .i64 ka,.int .i64 kb,.int .i64 kc,.int .i64 n]] (hp a x) (fun v As=>∃z:HX,v=an (doNew x.H ⟨1,ka,kb,kc,n⟩).code (doNew x.H ⟨1,ka,kb,kc,n⟩).num∧As=hp a z∧z.H=(doNew x.H ⟨1,ka,kb,kc,n⟩).heap):=by
 refine fnA_of (fun h=>fn39 (by simp) h) ?_
 repeat' (first
  |(refine k_L ?_;first|refine a_p rfl ?_|(refine k_st ?_;refine g_sw rfl rfl rfl rfl (Nat.le_of_ble_eq_true rfl) ?_)|(refine k_al ?_;refine a_al ?_)|(refine k_bx ?_;refine a_bx rfl rfl ?_)|(refine g_c rfl (simple1_a (x:=x) (n:=n) h ha hb hc) (fun v As' hq=>?_);obtain⟨z,rfl,rfl,hz⟩:=hq))
  |refine a_n ?_
  |(refine k_V ?_;first|refine v_seq ?_|refine v_reg ?_|refine v_bs ?_|refine v_ret ?_|refine v_cf rfl ?_)
  |refine s_r ?_
  |refine b_r ?_
  |refine sk_zero ?_
  |refine sk_succ ?_
  |refine wk_nil ?_
  |refine wk_cons ?_)
 exact fa_r (fun _ _=>rfl) (Pm.ent pmt) ⟨z,rfl,rfl,hz⟩
theorem act1_a{m:Mem}(hf:Frm m)(h:Sound x.H)(hP:ActP ⟨1,ka,kb,kc,n⟩):FnA Tryd.prog 27 [eV a,actV ⟨1,ka,kb,kc,n⟩] (hp a x++[ro m]) (fun v As=>∃z:HX,v=an (actA x.H ⟨1,ka,kb,kc,n⟩).code (actA x.H ⟨1,ka,kb,kc,n⟩).num∧As=hp a z++[ro m]∧z.H=(actA x.H ⟨1,ka,kb,kc,n⟩).heap):=by
 have hQ:=hP
 simp[ActP,aMost,bMost,cMost]at hQ
 have e:actA x.H ⟨1,ka,kb,kc,n⟩=doNew x.H ⟨1,ka,kb,kc,n⟩:=by unfold actA;rw[if_pos hP];rfl
 rw[e]
 refine fnA_of (fun h=>fn27 (by simp) h) ?_
 repeat' (first
  |(refine k_L ?_;first|refine a_p rfl ?_|(refine k_st ?_;refine g_sw rfl rfl rfl rfl (Nat.le_of_ble_eq_true rfl) ?_)|(refine k_al ?_;refine a_al ?_)|(refine k_bx ?_;refine a_bx rfl rfl ?_)|(refine k_c ?_;refine a_cq rfl (fun m hm=>qt_e (implActOk_q (a:=⟨1,ka,kb,kc,n⟩) (hf.le (ro_of hm pmt))) (congrArg Value.bool (decide_eq_true hP))) ?_)|(refine g_c rfl (do1_a (x:=x) (n:=n) h (by omega) (by omega) (by omega)) (fun v As' hq=>?_);obtain⟨z,rfl,rfl,hz⟩:=hq))
  |refine a_n ?_
  |(refine k_V ?_;first|refine v_seq ?_|refine v_reg ?_|refine v_ret ?_|refine v_skip ?_|refine v_cf rfl ?_)
  |refine sk_zero ?_
  |refine sk_succ ?_
  |refine wk_nil ?_
  |refine wk_cons ?_)
 exact fa_r (As':=hp a z++[ro m]) (fun _ _=>rfl) (Pm.ent pmt) ⟨z,rfl,rfl,hz⟩
end
def anv(p:Int×Int):List Value:=[.int .i64 p.1,.int .i64 p.2]
theorem anv_len(p:Int×Int):(anv p).length=2:=rfl
theorem av_len5(b:Act):(av b).length=5:=rfl
theorem all_a{a:Nat}{x:HX}{m:Mem}{acts:List Act}{d:D}(hact:∀(b:Act) (x:HX),b∈acts→Sound x.H→FnA Tryd.prog 27 [eV a,actV b] (hp a x++[ro m]) (fun v As=>∃z:HX,v=an (actA x.H b).code (actA x.H b).num∧As=hp a z++[ro m]∧z.H=(actA x.H b).heap))(h:Sound x.H)(hb:acts.length≤1000):
 FnA Tryd.prog 17 [eV a,.slice d.a acts.length d.cap] (hp a x++[slA 5 av d acts,ro m]) (fun v As=>∃(z:HX) (sd:D),v=.slice sd.a (ansL x.H acts).length sd.cap∧As=hp a z++[slA 2 anv sd (ansL x.H acts),slA 5 av d acts,ro m]∧z.H=runH x.H acts):=by
 refine fnA_of (fun h=>fn17 (by simp) h) ?_
 repeat' (first
  |(refine k_L ?_;first|refine a_p rfl ?_|(refine k_bx ?_;refine a_bx rfl rfl ?_))
  |refine a_n ?_
  |(refine k_V ?_;first|refine v_seq ?_|refine v_reg ?_)
  |refine s_n ?_)
 refine g_range acts.length (fun q:HX×D×List (Int×Int)=>[(2,.box [ptr a,.bool false]),(8,.v (.slice d.a acts.length d.cap)),(5,.v (.slice q.2.1.a q.2.2.length q.2.1.cap))]) (fun q=>hp a q.1++[slA 2 anv q.2.1 q.2.2,slA 5 av d acts,ro m]) (fun i q=>q.1.H=runH x.H (acts.take i)∧q.2.2=ansL x.H (acts.take i)) (x,⟨none,0⟩,[]) ⟨rfl,rfl⟩ (fun i q hi hv=>?_) (fun q hv=>?_) (hent:=(ent_new (f:=anv) (size:=2)).trans (Pm.ent pmt))
 ·obtain⟨z,sd,l⟩:=q
  obtain⟨v1,v2⟩:=hv
  dsimp only at v1 v2⊢
  obtain⟨b,gb⟩:∃b,acts[i]?=some b:=⟨_,List.getElem?_eq_getElem hi⟩
  have zS:Sound z.H:=by rw[v1];exact runH_sound _ h
  have et:acts.take (i+1)=acts.take i++[b]:=by rw[List.take_add_one,gb];rfl
  have ll:l.length=i:=by rw[v2,ansL_len,List.length_take];omega
  repeat' (first
   |(refine k_L ?_;first|refine a_p rfl ?_|(refine k_i ?_;refine g_i rfl rfl ?_)|(refine k_st ?_;refine g_sw rfl rfl rfl rfl (Nat.le_of_ble_eq_true rfl) ?_)|(refine k_al ?_;refine a_al ?_)|(refine k_bl ?_;refine a_bl rfl ?_)|(refine a_ls rfl (rs_t (rs_t (rs_t (rs_t (rs_t (rs_h (rs_sl av_len5 gb))))))) ?_)|(refine g_c rfl (hact b z (List.mem_of_getElem? gb) zS) (fun v As' hq=>?_);obtain⟨u,rfl,rfl,hu⟩:=hq))
   |refine a_n ?_
   |(refine k_V ?_;first|refine v_seq ?_|refine v_reg ?_)
   |refine sk_zero ?_
   |refine sk_succ ?_
   |refine wk_nil ?_
   |refine wk_cons ?_)
  refine g_ap (xs:=l) (e:=sd) ((actA z.H b).code,(actA z.H b).num) anv_len rfl rfl rfl (by omega) (hb:=by omega) (fun e'=>?_)
  repeat' (first
   |(refine k_L ?_;refine a_p rfl ?_)
   |refine a_n ?_)
  exact r_nx (u,e',l++[((actA z.H b).code,(actA z.H b).num)]) ⟨by dsimp only;rw[hu,et,runH_app,←v1],by dsimp only;rw[et,ansL_app,←v1,←v2]⟩
 ·obtain⟨z,sd,l⟩:=q
  obtain⟨v1,v2⟩:=hv
  dsimp only at v1 v2⊢
  rw[List.take_length]at v1 v2
  subst v2
  repeat' (first
   |(refine k_L ?_;refine a_p rfl ?_)
   |refine a_n ?_
   |(refine k_V ?_;first|refine v_seq ?_|refine v_reg ?_|refine v_ret ?_))
  exact fa_r (As':=hp a z++[slA 2 anv sd (ansL x.H acts),slA 5 av d acts,ro m]) (fun _ _=>rfl) (Pm.ent pmt) ⟨z,sd,rfl,rfl,v1⟩
end Go.Proofs.YtpleoapljeffiaaDoor.E
namespace Go.Proofs.YtpleoapljeffiaaDoor.E
open Go
noncomputable def e5:Env:=⟨Tryd.prog,[6,10],96,[(13,19),(18,7)]⟩
abbrev qD(a0:Nat)(a1:Nat)(a2:Int):I:=⟨some a0,none,.bin .rem (.tmp a1) (.const (.int .i64 a2))⟩
noncomputable def c5:C:=
 .seq (.reg [zF 2]) (.seq (.seq (.reg [z0 11 0,zG 12 11,⟨some 13,none,.bin .gtr (.tmp 12) (.const (.int .i64 1048576))⟩]) (.cond (.tmp 13) (.seq (.reg [zX 2]) .ret) .skip)) (.seq (.reg [z0 14 0,za 15 6 14 0,qD 16 15 60,zu 17 1 16,z0 3 17]) (.seq (.reg [z0 18 0,za 19 6 18 1,z0 20 0,za 21 6 20 2,⟨some 22,none,.bin .mul (.const (.int .i64 256)) (.tmp 21)⟩,zY 23 19 22,qD 24 23 400,zu 25 1 24,z0 4
 25]) (.seq (.reg [z0 26 3,⟨some 27,none,.call 12 [.const (.int .i64 100),.tmp 26]⟩,z0 5 27]) (.seq (.reg [z0 28 4,z0 29 5,zP 30 8 28 29,⟨some 6,none,.alloc true [.bool false,.slice none 0 0,.int .i64 0,.int .i64 0,.int .i64 0,.slice none 0 0,.slice none 0 0,.int .i64 0,.int .i64 0,.int .i64 0,.slice none 0 0,.int .i64 0,.int .i64 0,.int .i64 0,.int .i64 0]⟩,z6 15 6 30]) (.seq (.seq (.reg [z3
 31 0 6,z4 32 1 31,zU 33 32,z0 34 33,zH 35 34 1 6,zK 36 34 1 35,⟨some 37,some (34,false),.lenS (.tmp 36)⟩,zk 38 34 37 100,zO 39 34 38]) (.cond (.tmp 39) (.seq (.reg [zF 2]) .ret) .skip)) (.seq (.reg [⟨some 40,none,.mkslice 1 8 [.int .i64 0] (.const (.int .i64 5)) (.const (.int .i64 5))⟩,z0 7 40]) (.seq (.seq (.reg [z0 41 5,zG 42 41,zI 43 0]) (.block 0 (.loop (.seq (.reg [zQ 44 43 42]) (.seq
 (.cond (.tmp 44) .skip (.exit 0)) (.seq (.block 1 (.seq (.reg [z0 45 43,z0 8 45]) (.seq (.dreg 19 [z0 46 7,zm 47 1 46 0,z4 48 1 47,z0 49 7,zm 50 1 49 1,z4 51 1 50,zY 52 48 51,z0 53 7,zm 54 1 53 2,z4 55 1 54,zY 56 52 55,z0 57 7,zm 58 1 57 3,z4 59 1 58,zY 60 56 59,z0 61 7,zm 62 1 61 4,z4 63 1 62,zY 64 60 63,z0 9 64]) (.seq (.reg [⟨some 65,none,.build [.int .i64 0,.int .i64 0] []⟩,zn 10 0 0,z6 2
 10 65]) (.seq (.seq (.reg [z0 66 9,z0 67 3,zY 68 66 67,z0 69 4,⟨some 70,none,.bin .gtr (.tmp 68) (.tmp 69)⟩]) (.cond (.tmp 70) (.reg [⟨some 71,none,.build [.int .i64 0,.int .i64 0] [(0,1,.const (.int .i64 4))]⟩,z6 2 10 71]) (.reg [z0 72 7,z0 73 8,qD 74 73 5,z0 75 3,zC 76 1 72 74,z6 1 76 75]))) (.seq (.dreg 7 [z3 77 1 6,z4 78 1 77,z0 79 8,zC 80 2 78 79,z8 81 2 80,z8 82 2 10,⟨some 83,none,.eqA
 true 2 (.tmp 81) (.tmp 82)⟩]) (.cond (.tmp 83) (.seq (.reg [zF 2]) .ret) .skip))))))) (.reg [zN 84 43 1,z0 43 84]))))))) (.seq (.reg [z3 85 2 6,z3 86 1 85,z4 87 1 86,z0 88 4,zy 89 87 88,z0 90 89,z9 91 90 2 6,⟨some 92,some (90,true),.load false 13 (.tmp 91)⟩,⟨some 93,some (90,true),.call 13 [.tmp 92]⟩,zT 94 90 93 0,zE 95 90 94,z0 2 95]) .ret)))))))))
theorem t5:Tryd.f5.body.bind (trC e5)=some c5:=by kernel_rfl
theorem r5:Tryd.f5.results.toList.mapM (trR Tryd.prog)=some [.tmp 2]:=by kernel_rfl
theorem fn5{args:List Value}{M:Mem}{post:Value→Mem→Prop}(hl:args.length≤96)(h:VC e5 c5 (fnQ [.tmp 2] post) (initS args 96) M):Fn Tryd.prog 5 args M post:=
 Fn.of' (E:=e5) Tryd.func5 t5 rfl r5 mixed hl h
theorem r3:Tryd.f3.results.toList.mapM (trR Tryd.prog)=some [.tmp 2]:=by kernel_rfl
theorem r4:Tryd.f4.results.toList.mapM (trR Tryd.prog)=some [.tmp 2]:=by kernel_rfl
noncomputable def e12:Env:=⟨Tryd.prog,[],19,[]⟩
noncomputable def c12:C:=
 .seq (.reg [zz 4 0 0]) (.seq (.reg [zz 5 0 0]) (.seq (.seq (.reg [zI 6 0]) (.block 0 (.loop (.seq (.seq (.reg [z0 7 6,z0 8 0,zQ 9 7 8]) (.cond (.tmp 9) .skip (.exit 0))) (.seq (.block 1 (.reg [z0 12 5,z0 13 6,qD 14 13 5,z0 15 1,zx 16 15 1,⟨some 17,none,.call 14 [.tmp 12,.const (.int .i64 1),.tmp 14,.const (.int .i64 0),.tmp 16]⟩,z0 5 17])) (.reg [z0 10 6,zN 11 10 1,z0 6 11])))))) (.seq
 (.reg [z0 18 5,z0 4 18]) .ret)))
theorem t12:Tryd.f12.body.bind (trC e12)=some c12:=by kernel_rfl
theorem r12:Tryd.f12.results.toList.mapM (trR Tryd.prog)=some [.tmp 4]:=by kernel_rfl
theorem fn12{args:List Value}{M:Mem}{post:Value→Mem→Prop}(hl:args.length≤19)(h:VC e12 c12 (fnQ [.tmp 4] post) (initS args 19) M):Fn Tryd.prog 12 args M post:=
 Fn.of' (E:=e12) Tryd.func12 t12 rfl r12 mixed hl h
theorem r7:Tryd.f7.results.toList.mapM (trR Tryd.prog)=some [.tmp 4]:=by kernel_rfl
noncomputable def e14:Env:=⟨Tryd.prog,[17],19,[]⟩
noncomputable def c14:C:=
 .seq (.reg [zz 10 0 0]) (.seq (.reg [z0 11 0,z0 12 1,z0 13 2,z0 14 3,z0 15 4,⟨some 16,none,.build [.int .i64 0,.int .i64 0,.int .i64 0,.int .i64 0,.int .i64 0] [(0,1,.tmp 12),(1,1,.tmp 13),(2,1,.tmp 14),(3,1,.tmp 15)]⟩,⟨some 17,none,.bslice true 1 5 [.int .i64 0,.int .i64 0,.int .i64 0,.int .i64 0,.int .i64 0] [(0,5,.tmp 16)]⟩,⟨some 18,none,.app 5 40 [.int .i64 0,.int .i64 0,.int .i64 0,.int
 .i64 0,.int .i64 0] (.tmp 11) (.tmp 17)⟩,z0 10 18]) .ret)
theorem t14:Tryd.f14.body.bind (trC e14)=some c14:=by kernel_rfl
theorem r14:Tryd.f14.results.toList.mapM (trR Tryd.prog)=some [.tmp 10]:=by kernel_rfl
theorem fn14{args:List Value}{M:Mem}{post:Value→Mem→Prop}(hl:args.length≤19)(h:VC e14 c14 (fnQ [.tmp 10] post) (initS args 19) M):Fn Tryd.prog 14 args M post:=
 Fn.of' (E:=e14) Tryd.func14 t14 rfl r14 mixed hl h
end Go.Proofs.YtpleoapljeffiaaDoor.E
namespace Go.Proofs.YtpleoapljeffiaaDoor.E
open Go
open Classical
theorem rem_q{P:Program}{r:List I}{d:Option Nat}{post:St→List Asr→Prop}{S:St}{As:List Asr}{x y:Operand}{a b c:Int}(hx:ev S x=some (.int .i64 a))(hy:ev S y=some (.int .i64 b))(hb:b≠0)(hc:a.tmod b=c)(hr: -9223372036854775808≤c∧c≤9223372036854775807)(hp:LA P r post (put S d (.v (.int .i64 c))) As):LA P (⟨d,none,.bin .rem x y⟩::r) post S As:=
 a_p (sv:=.v (.int .i64 c)) (by simp only[pe,hx,hy,binV,binI,if_true,if_neg hb,Option.map_some,hc]) hp
theorem l6add_a{op p q r:Int}{l:List Act}{sd:D}(hl:l.length≤100000):FnA Tryd.prog 14 [.slice sd.a l.length sd.cap,.int .i64 op,.int .i64 p,.int .i64 q,.int .i64 r] [slA 5 av sd l] (fun v As=>∃e:D,v=.slice e.a (l++[(⟨op,p,q,r,0⟩:Act)]).length e.cap∧As=[slA 5 av e (l++[⟨op,p,q,r,0⟩])]):=by
 refine fnA_of (fun h=>fn14 (by simp) h) ?_
 repeat' (first
  |(refine k_L ?_;first|refine a_p rfl ?_|(refine k_bl ?_;refine a_bl rfl ?_))
  |refine a_n ?_
  |(refine k_V ?_;first|refine v_seq ?_|refine v_reg ?_))
 refine g_ap (xs:=l) (e:=sd) (⟨op,p,q,r,0⟩:Act) av_len5 rfl rfl rfl (by omega) (hb:=by omega) (fun e'=>?_)
 repeat' (first
  |(refine k_L ?_;refine a_p rfl ?_)
  |refine a_n ?_
  |(refine k_V ?_;refine v_ret ?_))
 exact fa_r (As':=[slA 5 av e' (l++[⟨op,p,q,r,0⟩])]) (fun _ _=>rfl) (Pm.ent pmt) ⟨e',by rw[List.length_append]<;>rfl,rfl⟩
def Heap.nw(room:Int):Heap:=⟨room,0,0,List.replicate 16 ⟨0,0,0⟩,[],0,0,0,[],0,0,0,0⟩
theorem nw_sound{room:Int}(h:1≤room∧room≤4000):Sound (Heap.nw room) where
 r1:=⟨h,by simp[Heap.nw],by simp[Heap.nw];omega,by simp[Heap.nw],by simp[Heap.nw],by simp[Heap.nw],by simp[Heap.nw],by simp[Heap.nw],by simp[Heap.nw],by simp[Heap.nw],by simp[Heap.nw],by simp[Heap.nw]⟩
 r2:=⟨fun i c hc=>by simp[Heap.nw]at hc,fun i j c d hc=>by simp[Heap.nw]at hc,fun i j c d hc=>by simp[Heap.nw]at hc⟩
 r3:=⟨rfl,by show(0:Int)≤room;omega⟩
 r4:=⟨fun w hw=>by
  have:w=⟨0,0,0⟩:=List.eq_of_mem_replicate hw
  subst this
  exact⟨.inl ⟨rfl,rfl,rfl⟩,fun hk=>by simp at hk⟩,fun i c hc=>by simp[Heap.nw]at hc,fun i c hc=>by simp[Heap.nw]at hc⟩
 r5:=⟨fun hm=>by rcases hm with h|h<;>simp[Heap.nw]at h,fun _=>⟨rfl,fun i c hc=>by simp[Heap.nw]at hc⟩⟩
 r6:=by unfold R6;rw[if_pos (.inl rfl)];exact⟨rfl,rfl⟩
 r7:=fun hm=>by rcases hm with h|h<;>simp[Heap.nw]at h
 r8:=fun h=>by simp[Heap.nw]at h
theorem freshI_a{room:Int}(h:1≤room∧room≤4000):FnA Tryd.prog 16 [.int .i64 room] [] (fun v As'=>∃z:HX,v=z.v∧As'=z.body∧z.H=Heap.nw room):=by
 refine fnA_of (fun h=>fn16 (by simp) h) ?_
 repeat' (first
  |(refine k_L ?_;first|refine a_p rfl ?_|(refine k_st ?_;refine g_sw rfl rfl rfl rfl (Nat.le_of_ble_eq_true rfl) ?_)|(refine k_al ?_;refine a_al ?_)|(refine k_c ?_;refine a_cq rfl (fun m hm=>impl.withinQ) ?_)|(refine a_mk (f:=wv) (n:=16) (k:=16) ⟨0,0,0⟩ wv_len rfl rfl rfl (by omega) (by omega) (fun g hg=>?_)))
  |refine a_n ?_
  |(refine k_V ?_;first|refine v_seq ?_|refine v_reg ?_|refine v_ret ?_|refine v_skip ?_|(refine v_cnd rfl (fun hb=>?_) (fun hb=>?_)<;>try(exfalso;omega)))
  |refine sk_zero ?_
  |refine sk_succ ?_
  |refine wk_nil ?_
  |refine wk_cons ?_)
 refine fa_r (As':=(⟨room,0,0,List.replicate 16 ⟨0,0,0⟩,[],0,0,0,[],0,0,0,0,g,⟨none,0⟩,⟨none,0⟩⟩:HX).body) (fun _ _=>rfl) ?_ ⟨_,rfl,rfl,rfl⟩
 refine Ent.trans (ent_new (f:=iv) (size:=1)) ?_
 refine Ent.trans (ent_new (f:=csv) (size:=8)) ?_
 refine Ent.trans (cl_nil (d:=⟨none,0⟩)) ?_
 exact Pm.ent pmt
theorem playable_q{m:Mem}{room:Int}{sa:Option Addr}{n cap:Nat}(hn:n≤1000)(hr:1≤room∧room≤4000):Qt Tryd.prog 15 [.int .i64 room,.slice sa n cap] m (.bool true):=by
 refine qt_of (fnA_of (fun h=>fn15 (by simp) h) ?_)
 repeat' (first
  |(refine k_L ?_;first|refine a_p rfl ?_|(refine k_g ?_;first|refine a_gy rfl rfl ?_|(refine a_gd rfl (fun hb=>?_) (fun hb=>?_)<;>try(exfalso;omega)))|(refine k_c ?_;refine a_cq rfl (fun m hm=>impl.withinQ) ?_))
  |refine a_n ?_
  |(refine k_V ?_;first|refine v_seq ?_|refine v_reg ?_|refine v_ret ?_))
 all_goals first
  |(exfalso;omega)
  |exact fa_q (by simp) (fun _ _=>rfl) (by congr 1;simp;omega)
def plV(b:Bool)(sd:D)(n:Nat)(x:HX):Value:=.agg (.bool b::.slice sd.a n sd.cap::x.row).toArray
theorem wr_off:∀(vs cs ds:List Value),ds.length=vs.length→wr (cs++ds) cs.length vs=cs++vs
 |[],cs,ds,h=>by
  have:ds=[]:=List.eq_nil_of_length_eq_zero h
  subst this;rfl
 |v::r,cs,d::ds,h=>by
  show wr ((cs++d::ds).set cs.length v) (cs.length+1) r=_
  have e:(cs++d::ds).set cs.length v=(cs++[v])++ds:=by
   rw[List.set_append_right _ _ (Nat.le_refl _),Nat.sub_self];simp
  rw[e,show cs.length+1=(cs++[v]).length by simp,wr_off r (cs++[v]) ds (by simpa using h)]
  simp
theorem wr_full{vs ds:List Value}(h:ds.length=vs.length):wr ds 0 vs=vs:=wr_off vs [] ds h
theorem up_full{b:Nat}{z vs:List Value}(h:z.length=vs.length):UpA (bx b z) b 0 vs (bx b vs):=up_bx (by omega) ⟨by rw[wr_full h]⟩
section
variable {P:Program} {S:St} {As:List Asr} {post:St→List Asr→Prop} {r:List I} {d:Option Nat}
theorem a_sth{p y:Operand}{b:Nat}{z:List Value}(x:HX)(hp:lc S p=some (.mm b 0))(hy:ev S y=some x.v)(hz:z.length=13)(h:LA P r post S (hdA b x.hdr::As)):LA P (⟨d,none,.store 13 p y⟩::r) post S (bx b z::As):=
 a_st hp hy rfl rfl (up_h (up_full (vs:=x.row) hz)) h
theorem g_swf{n:Nat}{x y:Operand}{s:Nat}{cs vs:List Value}(hx:lc S x=some (.bx s 0))(hb:S s=.box cs)(hy:ev S y=some (.agg vs.toArray))(hn:vs.length=n)(hl:cs.length=n)(hpl:plainCells vs=true)
 (h:LA P r post (upF S s (.box vs)) As):LA P (⟨d,none,.store n x y⟩::r) post S As:=
 g_sw (v:=.agg vs.toArray) hx hb hy hn (by omega) ⟨by show LA P r post (upF S s (.box (wr cs 0 vs))) As;rw[wr_full (by omega)];exact h⟩ hpl
end
theorem play_a{m:Mem}{acts:List Act}{d:D}{room:Int}(hact:∀(a:Nat) (b:Act) (x:HX),b∈acts→Sound x.H→FnA Tryd.prog 27 [eV a,actV b] (hp a x++[ro m]) (fun v As=>∃z:HX,v=an (actA x.H b).code (actA x.H b).num∧As=hp a z++[ro m]∧z.H=(actA x.H b).heap))(hb:acts.length≤1000)(hr:1≤room∧room≤4000):
 FnA Tryd.prog 8 [.int .i64 room,.slice d.a acts.length d.cap] [slA 5 av d acts,ro m] (fun v As=>∃(z:HX) (sd:D),v=plV true sd (ansL (Heap.nw room) acts).length z∧As=z.body++[slA 2 anv sd (ansL (Heap.nw room) acts),slA 5 av d acts,ro m]∧z.H=runH (Heap.nw room) acts):=by
 refine fnA_of (fun h=>fn8 (by simp) h) ?_
 repeat' (first
  |(refine k_L ?_;first|refine a_p rfl ?_|(refine k_al ?_;refine a_al ?_)|(refine k_c ?_;refine a_cq rfl (fun m hm=>playable_q hb hr) ?_)|(refine g_c rfl (freshI_a hr) (fun v As' hq=>?_);obtain⟨z,rfl,rfl,hz⟩:=hq))
  |refine a_n ?_
  |(refine k_V ?_;first|refine v_seq ?_|refine v_reg ?_|refine v_skip ?_|refine v_cf rfl ?_))
 refine a_nz (fun b=>?_)
 refine a_sth z rfl rfl rfl ?_
 repeat' (first
  |(refine k_L ?_;refine a_p rfl ?_)
  |refine a_n ?_
  |(refine k_V ?_;first|refine v_seq ?_|refine v_reg ?_))
 refine g_c rfl (all_a (x:=z) (d:=d) (hact b) (by rw[hz];exact nw_sound hr) hb) (fun v As' hq=>?_)
 obtain⟨u,sd,rfl,rfl,hu⟩:=hq
 rw[hz]at hu⊢
 refine a_p rfl (a_n (s_n (v_seq (v_reg (a_p rfl ?_)))))
 refine a_ls rfl (rs_h rs_hd) ?_
 refine a_p (sv:=.v (plV true sd (ansL (Heap.nw room) acts).length u)) rfl ?_
 refine g_swf (vs:=.bool true::.slice sd.a (ansL (Heap.nw room) acts).length sd.cap::u.row) rfl rfl rfl rfl rfl rfl ?_
 repeat' (first
  |refine a_n ?_
  |(refine k_V ?_;refine v_ret ?_))
 exact fa_r (As':=u.body++[slA 2 anv sd (ansL (Heap.nw room) acts),slA 5 av d acts,ro m]) (fun _ _=>rfl) (Pm.ent pmt) ⟨u,sd,rfl,rfl,hu⟩
theorem madeFill_a{n s:Nat}{As:List Asr}(hn:n≤1000)(hs:1≤s∧s≤201):FnA Tryd.prog 12 [.int .i64 n,.int .i64 s] As (fun v As'=>∃d:D,v=.slice d.a (mfL n s).length d.cap∧As'=slA 5 av d (mfL n s)::As):=by
 refine fnA_of (fun h=>fn12 (by simp) h) ?_
 repeat' (first
  |(refine k_L ?_;refine a_p rfl ?_)
  |refine a_n ?_
  |(refine k_V ?_;first|refine v_seq ?_|refine v_reg ?_)
  |refine s_n ?_)
 refine v_blk ?_
 refine v_loop (fun q:Nat×D=>[(0,SV.v (.int .i64 n)),(1,SV.v (.int .i64 s)),(5,SV.v (.slice q.2.a (mfL q.1 s).length q.2.cap)),(6,SV.v (.int .i64 q.1))]) (fun q=>slA 5 av q.2 (mfL q.1 s)::As) (fun k q=>k=n-q.1∧q.1≤n) ⟨_,(0,⟨none,0⟩),⟨rfl,rfl,rfl,rfl,trivial⟩,ent_new (f:=av) (size:=5),rfl,Nat.zero_le _⟩ ?_
 rintro k ⟨i,d⟩ ⟨rfl,hi⟩
 dsimp only at hi⊢
 have hl:=mfL_len i s
 by_cases hin:i<n
 ·have em:((i:Int)).tmod 5=((i%5:Nat):Int):=by rw[Int.ofNat_tmod];rfl
  repeat' (first
   |(refine k_L ?_;first|(refine k_ad ?_;refine g_ad rfl rfl ?_)|(refine k_su ?_;refine g_su rfl rfl ?_)|(refine rem_q rfl rfl (by omega) em (by omega) ?_)|(refine g_c rfl (l6add_a (op:=1) (p:=((i%5:Nat):Int)) (q:=0) (r:=(s:Int)-1) (l:=mfL i s) (sd:=d) (by omega)) (fun v As' hq=>?_);obtain⟨e,rfl,rfl⟩:=hq)|(refine b_p rfl ?_))
   |refine a_n ?_
   |(refine k_V ?_;first|refine v_seq ?_|refine v_reg ?_|refine v_br ?_|refine v_skip ?_|(refine v_cd rfl (fun hb=>?_) (fun hb=>?_)<;>try(exfalso;omega)))
   |refine s_n ?_)
  exact⟨n-(i+1),(i+1,e),by omega,⟨rfl,rfl,by dsimp only;rw[mfL_succ];rfl,rfl,trivial⟩,by dsimp only;rw[mfL_succ];exact Ent.refl _,rfl,by dsimp only;omega⟩
 ·have hie:i=n:=by omega
  subst hie
  repeat' (first
   |(refine k_L ?_;refine a_p rfl ?_)
   |refine a_n ?_
   |(refine k_V ?_;first|refine v_seq ?_|refine v_reg ?_|refine v_ret ?_|refine v_exit ?_|(refine v_cd rfl (fun hb=>?_) (fun hb=>?_)<;>try(exfalso;omega))))
  exact fa_r (fun _ _=>rfl) (Ent.refl _) ⟨d,rfl,rfl⟩
def hdL(f:Nat→Bool)(s:Nat):List Int:=[if f 0 then(s:Int)else 0,if f 1 then(s:Int)else 0,if f 2 then(s:Int)else 0,if f 3 then(s:Int)else 0,if f 4 then(s:Int)else 0]
theorem hdL_set{f:Nat→Bool}{s i:Nat}:(hdL f s).set (i%5) s=hdL (fun k=>decide (k=i%5)||f k) s:=by
 rcases(by omega:i%5=0∨i%5=1∨i%5=2∨i%5=3∨i%5=4)with h|h|h|h|h<;>rw[h]<;>simp[hdL]
theorem fnFull_q{ca:Option Addr}{cn cc:Nat}{m:Mem}(hf:Frm m)(hc:Cod m ca cn):Qt Tryd.prog 5 [.slice ca cn cc] m (.bool true):=by
 have hbd:=hc.bd
 refine qt_of (fnA_of (fun h=>fn5 (by simp) h) ?_)
 by_cases hn:(cn:Int)>1048576
 ·repeat' (first
   |(refine k_L ?_;refine a_p rfl ?_)
   |refine a_n ?_
   |(refine k_V ?_;first|refine v_rv ?_|refine v_seq ?_|refine v_reg ?_|(refine v_cd rfl (fun hb=>?_) (fun hb=>?_)<;>try(exfalso;omega)))
   |refine s_r ?_)
  exact fa_q (by simp) (fun _ _=>rfl) rfl
 obtain⟨a,ha,qa⟩:=wByte_q (cc:=cc) (i:=0) hc (by omega)
 obtain⟨b,hbb,qb⟩:=wByte_q (cc:=cc) (i:=1) hc (by omega)
 obtain⟨c,hcc,qc⟩:=wByte_q (cc:=cc) (i:=2) hc (by omega)
 obtain⟨n,en⟩:∃n:Nat,a.tmod 60=n:=⟨_,(Int.toNat_of_nonneg (Int.tmod_nonneg _ ha.1)).symm⟩
 obtain⟨r,er⟩:∃r:Nat,(b+256*c).tmod 400=r:=⟨_,(Int.toNat_of_nonneg (Int.tmod_nonneg _ (by omega))).symm⟩
 have n60:=Int.tmod_lt_of_pos a (by omega:(0:Int)<60)
 have r400:=Int.tmod_lt_of_pos (b+256*c) (by omega:(0:Int)<400)
 rw[en]at n60
 rw[er]at r400
 obtain⟨s,hs⟩:∃s,n+1=s:=⟨_,rfl⟩
 have e1:(1:Int)+n=(s:Int):=by omega
 have hs60:1≤s∧s≤60:=by omega
 obtain⟨room,hrm⟩:∃x:Int,(1:Int)+r=x:=⟨_,rfl⟩
 have hroom:1≤room∧room≤400:=by omega
 have hI:=nw_fill (H:=Heap.nw room) (nw_sound (by omega)) rfl rfl rfl s
 obtain⟨⟨B,f1,f2⟩,f3,f4,f5,f6⟩:=mf_run (room:=room) (by omega) hI rfl rfl 100 (Nat.le_refl _)
 have hl100:=mfL_len 100 s
 repeat' (first
  |(refine k_L ?_;first|(refine k_ad ?_;refine g_ad rfl rfl ?_)|(refine k_ml ?_;refine g_ml rfl rfl ?_)|(refine k_c ?_;first|refine a_cq rfl (fun m hm=>qa _ (ro_of hm pmt)) ?_|refine a_cq rfl (fun m hm=>qb _ (ro_of hm pmt)) ?_|refine a_cq rfl (fun m hm=>qc _ (ro_of hm pmt)) ?_)|(refine rem_q rfl rfl (by omega) en (by omega) ?_)|(refine rem_q rfl rfl (by omega) er (by omega) ?_)|(refine b_p rfl ?_))
  |refine a_n ?_
  |(refine k_V ?_;first|refine v_seq ?_|refine v_reg ?_|refine v_skip ?_|(refine v_cd rfl (fun hb=>?_) (fun hb=>?_)<;>try(exfalso;omega))))
 rw[e1,hrm]
 refine g_c rfl (madeFill_a (n:=100) (s:=s) (As:=[ro m]) (by omega) (by omega)) (fun v As' hq=>?_)
 obtain⟨d,rfl,rfl⟩:=hq
 have hact:∀(a:Nat) (b:Act) (x:HX),b∈mfL 100 s→Sound x.H→FnA Tryd.prog 27 [eV a,actV b] (hp a x++[ro m]) (fun v As=>∃z:HX,v=an (actA x.H b).code (actA x.H b).num∧As=hp a z++[ro m]∧z.H=(actA x.H b).heap):=fun a b x hb h=>by
  obtain⟨i,_,rfl⟩:=List.mem_map.1 hb
  have hP:=actP_fill (s:=s) (i:=i) (by omega)
  have e:((s:Int)-1)=((s-1:Nat):Int):=by omega
  unfold mfA at hP⊢
  rw[e]at hP⊢
  exact act1_a (kb:=0) hf h hP
 repeat' (first
  |(refine k_L ?_;first|refine a_p rfl ?_|(refine k_g ?_;refine a_gy rfl rfl ?_)|(refine k_st ?_;refine g_sw rfl rfl rfl rfl (Nat.le_of_ble_eq_true rfl) ?_)|(refine k_al ?_;refine a_al ?_)|(refine g_c rfl (play_a (m:=m) (acts:=mfL 100 s) (d:=d) (room:=room) hact (by omega) (by omega)) (fun v As' hq=>?_);obtain⟨z,sd,rfl,rfl,hz⟩:=hq))
  |refine a_n ?_
  |(refine k_V ?_;first|refine v_seq ?_|refine v_reg ?_|refine v_skip ?_|refine v_cf rfl ?_)
  |refine sk_zero ?_
  |refine sk_succ ?_
  |refine wk_nil ?_
  |refine wk_cons ?_)
 have hlA:(ansL (Heap.nw room) (mfL 100 s)).length=100:=by rw[ansL_len];exact hl100
 refine l_fix (fun m1 hm1=>?_)
 have hZ:Has m1 z.body:=sep_has hm1 pmt
 have hA:Has m1 [slA 2 anv sd (ansL (Heap.nw room) (mfL 100 s))]:=sep_has hm1 pmt
 have l1:m.le m1:=ro_of hm1 pmt
 have hzS:Sound z.H:=by rw[hz];exact f1.ok
 have hzu:z.hdr.used≤room:=by
  have h1:=hzS.r3.2
  have h2:z.H.room=room:=by rw[hz];exact f3
  have h3:z.hdr.used=z.H.used:=rfl
  omega
 have hok:okH z.H=0:=(okH_sound z.H).2 hzS
 repeat' (first
  |(refine k_L ?_;first|refine a_p rfl ?_|(refine a_mk (f:=iv) (n:=5) (k:=5) 0 iv_len rfl rfl rfl (by omega) (by omega) (fun g hg=>?_)))
  |refine a_n ?_
  |(refine k_V ?_;first|refine v_seq ?_|refine v_reg ?_)
  |refine s_n ?_)
 refine g_range 100 (fun q:D×List Int=>[(3,.v (.int .i64 s)),(4,.v (.int .i64 room)),(5,.v (.slice d.a (mfL 100 s).length d.cap)),(6,.box (.bool true::.slice sd.a (ansL (Heap.nw room) (mfL 100 s)).length sd.cap::z.row)),(7,.v (.slice q.1.a 5 q.1.cap))]) (fun q=>[slA 1 iv q.1 q.2,ro m1]) (fun i q=>q.2=hdL (hB room s i) s) (g,List.replicate 5 0) (by dsimp only;simp[hdL,hB,List.replicate]) (fun i q hi hv=>?_) (fun q hv=>?_)
 ·obtain⟨g,l⟩:=q
  dsimp only at hv⊢
  have gr:(ansL (Heap.nw room) (mfL 100 s))[i]?=some (if hsum (hB room s i) s+s≤room then 0 else 4,0):=by rw[f6,List.getElem?_map,List.getElem?_range hi];rfl
  have a5:l.length=5:=by rw[hv];rfl
  have bnd:∀b:Bool,0≤(if b then(s:Int)else 0)∧(if b then(s:Int)else 0)≤60:=fun b=>by cases b<;>simp<;>omega
  have hb0:=bnd (hB room s i 0)
  have hb1:=bnd (hB room s i 1)
  have hb2:=bnd (hB room s i 2)
  have hb3:=bnd (hB room s i 3)
  have hb4:=bnd (hB room s i 4)
  have hsm:hsum (hB room s i) s=(if hB room s i 0 then(s:Int)else 0)+(if hB room s i 1 then(s:Int)else 0)+(if hB room s i 2 then(s:Int)else 0)+(if hB room s i 3 then(s:Int)else 0)+(if hB room s i 4 then(s:Int)else 0):=rfl
  have y0:l[(0:Int).toNat]?=some (if hB room s i 0 then(s:Int)else 0):=by rw[hv];rfl
  have y1:l[(1:Int).toNat]?=some (if hB room s i 1 then(s:Int)else 0):=by rw[hv];rfl
  have y2:l[(2:Int).toNat]?=some (if hB room s i 2 then(s:Int)else 0):=by rw[hv];rfl
  have y3:l[(3:Int).toNat]?=some (if hB room s i 3 then(s:Int)else 0):=by rw[hv];rfl
  have y4:l[(4:Int).toNat]?=some (if hB room s i 4 then(s:Int)else 0):=by rw[hv];rfl
  generalize(if hB room s i 0 then(s:Int)else 0)=x0 at*
  generalize(if hB room s i 1 then(s:Int)else 0)=x1 at*
  generalize(if hB room s i 2 then(s:Int)else 0)=x2 at*
  generalize(if hB room s i 3 then(s:Int)else 0)=x3 at*
  generalize(if hB room s i 4 then(s:Int)else 0)=x4 at*
  have em:((i:Int)).tmod 5=((i%5:Nat):Int):=by rw[Int.ofNat_tmod];rfl
  obtain⟨w,gw⟩:∃w,l[i%5]?=some w:=⟨_,List.getElem?_eq_getElem (by omega)⟩
  by_cases c:hsum (hB room s i) s+s≤room
  ·have c':¬x0+x1+x2+x3+x4+s>room:=by omega
   rw[if_pos c]at gr
   have eB:hB room s (i+1)=fun k=>decide (k=i%5)||hB room s i k:=by
    funext k
    show(if _ then _ else _)=_
    rw[if_pos c]
   repeat' (first
    |(refine k_L ?_;first|(refine k_ad ?_;refine g_ad rfl rfl ?_)|(refine k_l ?_;refine g_l rfl ?_)|(refine k_i ?_;refine g_i rfl rfl ?_)|(refine k_st ?_;first|refine g_st rfl rfl rfl rfl ?_|refine g_sw rfl rfl rfl rfl (Nat.le_of_ble_eq_true rfl) ?_)|(refine k_al ?_;refine a_al ?_)|(refine rem_q rfl rfl (by omega) em (by omega) ?_)|(refine b_p rfl ?_)|(refine a_ls rfl (rs_t (rs_h (rs_ro hA (rs_h (rs_sl (fun _=>rfl) gr))))) ?_))
    |refine a_n ?_
    |(refine k_V ?_;first|refine v_seq ?_|refine v_reg ?_|refine v_dreg ?_|refine v_skip ?_|refine v_cf rfl ?_|(refine v_cd rfl (fun hb=>?_) (fun hb=>?_)<;>try(exfalso;omega)))
    |refine sk_zero ?_
    |refine sk_succ ?_
    |refine wk_nil ?_
    |refine wk_cons ?_)
   all_goals first
    |exact r_nx (g,l.set (i%5) s) (by dsimp only;rw[hv,hdL_set,eB])
    |(exfalso;simp at hb;done)
  ·have c':x0+x1+x2+x3+x4+s>room:=by omega
   rw[if_neg c]at gr
   have eB:hB room s (i+1)=hB room s i:=by
    funext k
    show(if _ then _ else _)=_
    rw[if_neg c]
   repeat' (first
    |(refine k_L ?_;first|(refine k_ad ?_;refine g_ad rfl rfl ?_)|(refine k_l ?_;refine g_l rfl ?_)|(refine k_i ?_;refine g_i rfl rfl ?_)|(refine k_st ?_;refine g_sw rfl rfl rfl rfl (Nat.le_of_ble_eq_true rfl) ?_)|(refine k_al ?_;refine a_al ?_)|(refine b_p rfl ?_)|(refine a_ls rfl (rs_t (rs_h (rs_ro hA (rs_h (rs_sl (fun _=>rfl) gr))))) ?_))
    |refine a_n ?_
    |(refine k_V ?_;first|refine v_seq ?_|refine v_reg ?_|refine v_dreg ?_|refine v_skip ?_|refine v_cf rfl ?_|(refine v_cd rfl (fun hb=>?_) (fun hb=>?_)<;>try(exfalso;omega)))
    |refine sk_zero ?_
    |refine sk_succ ?_
    |refine wk_nil ?_
    |refine wk_cons ?_)
   all_goals first
    |exact r_nx (g,l) (by dsimp only;rw[hv,eB])
    |(exfalso;simp at hb;done)
 ·obtain⟨g,l⟩:=q
  repeat' (first
   |(refine k_L ?_;first|refine a_p rfl ?_|(refine k_g ?_;first|refine a_gy rfl rfl ?_|(refine a_gd rfl (fun hb=>?_) (fun hb=>?_)<;>try(exfalso;omega)))|(refine k_c ?_;refine a_cq rfl (fun m hm=>qt_e (implHeapOk_q (x:=z) (hZ.le (ro_of hm pmt))) (congrArg (Value.int .i64) hok)) ?_))
   |refine a_n ?_
   |(refine k_V ?_;first|refine v_seq ?_|refine v_reg ?_|refine v_ret ?_))
  exact fa_r (As':=[ro m]) (fun _ _=>rfl) ((Pm.ent (As1:=[ro m1]) pmt).trans (ent_ro l1)) ⟨rfl,rfl⟩
end Go.Proofs.YtpleoapljeffiaaDoor.E
namespace Go.Proofs.YtpleoapljeffiaaDoor.E
open Go Go.ChangeShapes Go.WideShapes Go.ChangeAt Go.RowKit
theorem door_metFull(os:Os)(args:Array Value):laidMetH Tryd.prog Rows.fnFullRow.laid ((World.doorLaid Tryd.prog 38 os).forCall (fun _ _=>0) ⟨#[],args,[]⟩).memory:=
 laidMetH_of_parts3 (fuel:=8) (laidMet_of_run' 8 (by kernel_rfl) (by kernel_rfl)) (by kernel_rfl) (by kernel_rfl)
theorem liftedFull(os:Os)(started:os.Started)(H:Type)(enc:TypeId×Value→H):
 ReturnsInHanded {} Tryd.checked os 5 .any (fun w args=>(Rows.fnFullSpec.pre enc Tryd.prog Tryd.f5 [] false w args∧laidMetH Tryd.prog Rows.fnFullRow.laid w)∧sizedMet enc Tryd.prog Tryd.f5 (OpenSpec.ofChange Rows.fnFullSpec) false w args)
  (Rows.fnFullSpec.post enc Tryd.prog Tryd.f5 false true false false):=by
 refine returnsInHanded_of_change_and (C:=Tryd.checked) (X:=fun w _=>laidMetH Tryd.prog Rows.fnFullRow.laid w) (fun _ _ _ hh h=>h.of_heap hh) ownknob started (by kernel_rfl) Tryd.func5
  (ChangeSpec.witness_shaped (enc:=enc) (C:=Tryd.checked) (os:=os) (X:=fun w _=>laidMetH Tryd.prog Rows.fnFullRow.laid w) false (World.doorLaid Tryd.prog 38 os) #[.slice none 0 0] 8 rfl (World.shaped_of_RefB (by kernel_rfl) (by kernel_rfl)) (by kernel_rfl) (by kernel_rfl) (by kernel_rfl) (door_metFull os _)) ?_
 intro W base args ds gs before hval0 hW _ _ hL _
 have hval:∀(j:Nat) t v,Tryd.f5.params[j]?=some t→args[j]?=some v→Value.okWide Tryd.prog W .any base t v:=hval0
 have hW':=hW
 obtain⟨p,q,hA0,hV,rfl,hfz,hnd⟩:=hW
 have hA:DataW.TrodAll enc Tryd.prog W 0 (fun _=>true) true [22] args.toList ds p:=hA0
 obtain⟨v0,d0,rfl,rfl,h0⟩:=trodAll_one hA
 obtain⟨sa,n,cap,rfl⟩:=okWide_slice und_bytes (hval 0 22 v0 rfl rfl)
 clear hA0 hval0
 have h0k:=h0
 obtain⟨fuel,h0'⟩:=h0
 have hc:=open_bytes h0'
 have hlt0:∀x∈p,x.block<W.heap.size:=fun x hx=>by simpa using hW'.lt x (by simp[hx])
 have hq:Fn Tryd.prog 5 [.slice sa n cap] (memOf W) (fun v M'=>v=.bool true∧(memOf W).le M'):=(fnFull_q (frm_of_met rfl hL) hc).mono fun v M' ⟨h1,h2⟩=>⟨h1,by rw[h2];exact Mem.le_refl _⟩
 refine(row_of hq).mono fun e W' ⟨he,bel⟩=>?_
 subst he
 have hT0:=Below.trod laid (by kernel_rfl) (of_decide_eq_true (by kernel_rfl)) h0k bel hlt0
 obtain ⟨_, _, _, _, g1, _, rfl, _⟩ := trodVars_one (show DataW.TrodVars enc Tryd.prog W (fun _ => true) ["loop.example/spool/impl.forms"] gs q from hV)
 have hV2:=Below.trodVars laid bel (by kernel_rfl) hV
 exact⟨_,rfl,_,_,_,_,_,_,hW',trodAll_mk1 (shut_bool und_bool _),trodAll_mk1 hT0,hV2,bel.frame _,fun h=>by cases h⟩
end Go.Proofs.YtpleoapljeffiaaDoor.E
namespace Go.Proofs.YtpleoapljeffiaaDoor
open Go Go.ChangeShapes Go.WideShapes Go.ChangeAt Go.RowKit
theorem fnFull_row:Rows.FnFullSaid:=
 OpenClaim.holds_of_wide 5 Tryd.f5 rfl rfl rfl rfl rfl rfl rfl ⟨rfl,rfl,rfl,rfl,rfl⟩ rfl rfl rfl rfl rfl (by kernel_rfl) Tryd.func5 jfFull
  (of_decide_eq_true (by kernel_rfl)) (by unfold Func.isWrapper;first|(rw[if_pos (by decide+kernel)];kernel_rfl)|(rw[if_neg (by decide+kernel)];exact⟨rfl,rfl⟩))
  (fun os started H enc _=>E.liftedFull os started H enc)
theorem fnFull_holds:Rows.FnFullCardSaid:=
 Claim7.holds_tied_plain_at .later [] [.data] true Rows.fnFullCard.stood.harness false
  fnFull_row (fun _ h=>by cases h) (by kernel_rfl) (fun _ h=>by cases h) fnFull_row_tie rfl ⟨rfl,rfl⟩ (by kernel_rfl) rfl
  (fun f fn hf hfn=>by
    obtain rfl : f = 5 := Option.some.inj ((show Tryd.prog.funcNamed "loop.example/spool/laws.FnFull" = some 5 by kernel_rfl).symm.trans hf) |>.symm
    obtain rfl:fn=Tryd.f5:=(Option.some.inj (Tryd.func5.symm.trans hfn)).symm
    exact⟨by kernel_rfl,fun j t ht=>by
     have hm:t∈[22]:=by
      have:=Array.mem_of_getElem? ht
      rw[←Array.mem_toList_iff]at this
      exact this
     have hall:([22].all fun u=> !Tryd.prog.wantsStandIn u)=true:=by kernel_rfl
     exact(show Tryd.prog.wantsStandIn t=false by simpa using List.all_eq_true.1 hall t hm)⟩)
  (by kernel_rfl)
end Go.Proofs.YtpleoapljeffiaaDoor
