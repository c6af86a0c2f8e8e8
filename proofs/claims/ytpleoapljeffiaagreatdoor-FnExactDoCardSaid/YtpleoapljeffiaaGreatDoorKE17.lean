/- A part of the proof. Conditions: none. -/
import Derived.Test.YtpleoapljeffiaaGreatDoorKE16
set_option linter.unusedVariables false
set_option linter.unusedSimpArgs false
set_option maxHeartbeats 8000000
set_option maxRecDepth 100000
namespace Go.Proofs.YtpleoapljeffiaaGreatDoor.E
open Go
open Classical
theorem disj_le{a a' c:Mem}{b:Nat}{k k':Bk}(d:Disj a c)(hb:a b=some k)(l:a'.le (a.upd b k')):Disj a' c:=fun x=>by
 by_cases e:x=b
 ·subst e
  rcases d x with h|h
  ·rw[hb]at h;cases h
  ·exact .inr h
 ·rcases d x with h|h
  ·left
   cases h':a' x with
   |none=>rfl
   |some k2=>
    have:=l x k2 h'
    rw[Mem.upd_ne _ _ e,h]at this;cases this
  ·exact .inr h
theorem a_c0{P:Program}{S:St}{As R:List Asr}{post:St→List Asr→Prop}{r:List I}{x y:Operand}{cd:D}{ys:List CS}{i:Nat}{c:CS}{v:Value}(y':CS)(hi:ys[i]?=some c)(hd:y'.d=⟨none,0⟩)(hp0:y'.c.pairs=[])(hx:lc S x=some (.mm cd.b (cd.o+i*8)))(hy:ev S y=some v)(hn:v.cells.size=8)(hpl:plainCells v.cells.toList=true)(hv:v.cells.toList=csv y')
 (hp:LA P r post S (clA cd (ys.set i y')::R)) (hm:Pk As (clA cd ys) R:=by(fail_if_success apply pk_bad);(repeat(first|exact pk_h|apply pk_t));fail_if_success focus skip):LA P (⟨none,none,.store 8 x y⟩::r) post S As:=
 ⟨fun m hm'=>by
   obtain⟨a,c',dj,rfl,hA,hR⟩:=hm.out m hm'
   obtain⟨row,g1,g2,m',l,s⟩:=up_c0 hi hd hp0 a hA
   rw[←hv]at g2 l
   have g2':cd.o+i*8+8≤row.length:=by simp only[Array.length_toList]at g2;omega
   refine vl_stm hx (un_l g1) hy hn hpl g2' ?_
   have dj':=disj_le dj g1 l
   refine hp.at (m:=m'.un c') ⟨m',c',dj',rfl,s,hR⟩ ?_
   rw[un_upd_l]
   intro x k hk
   cases h:m' x with
   |some k'=>rw[un_l h]at hk;cases hk;exact un_l (l x _ h)
   |none=>
    rw[un_n h]at hk
    have:Disj (a.upd cd.b (.row (wr row (cd.o+i*8) v.cells.toList))) c':=disj_le dj g1 (Mem.le_refl _)
    exact un_r this hk⟩
theorem u_cell{cd:D}{ys:List CS}{i:Nat}{y y':CS}(hi:ys[i]?=some y):UpA (slA 8 csv cd ys) cd.b (cd.o+i*8) (csv y') (slA 8 csv cd (ys.set i y')):=up_sl (j:=0) csv_len hi (by simp[csv_len]) (by rw[wr_all _ _ (by rw[csv_len,csv_len])])
theorem pr_move{ys:List CS}{f u:Nat}{yf yu g:CS}(hf:ys[f]?=some yf)(hu:ys[u]?=some yu)(hfu:f<u)(hd:g.d=⟨none,0⟩)(hp:g.c.pairs=[]){R:List Asr}:Ent (prA ys::R) (prA ((ys.set f yu).set u g)::R):=⟨fun m hm=>by
 obtain⟨a,c,dj,rfl,h1,h2⟩:=hm
 obtain⟨a1,a2,d1,rfl,k1,k2⟩:=star2.1 (pr_out hu h1)
 have hf':(ys.eraseIdx u)[f]?=some yf:=by rw[List.getElem?_eraseIdx,if_pos hfu];exact hf
 obtain⟨b1,b2,d2,rfl,k3,k4⟩:=star2.1 (pr_out hf' k2)
 have hlu:=(List.getElem?_eq_some_iff.1 hu).1
 have hlf:=(List.getElem?_eq_some_iff.1 hf').1
 have s1:prA ((ys.eraseIdx u).set f yu) (a1.un b2):=pr_in hlf (star2.2 ⟨a1,b2,(disj_un.1 d1).2,rfl,k1,k4⟩)
 have e:(ys.eraseIdx u).set f yu=(ys.set f yu).eraseIdx u:=by
  apply List.ext_getElem?
  intro j
  rw[List.getElem?_set,List.getElem?_eraseIdx,List.getElem?_eraseIdx,List.getElem?_set,List.getElem?_set]
  by_cases e1:f=j
  ·subst e1
   rw[if_pos rfl,if_pos hfu,if_pos rfl,if_pos hlf,if_pos (by omega)]
  ·rw[if_neg e1]
   by_cases e2:j<u
   ·rw[if_pos e2,if_pos e2,if_neg e1]
   ·rw[if_neg e2,if_neg e2,if_neg (by omega)]
 rw[e]at s1
 have s2:prA ((ys.set f yu).set u g) (a1.un b2):=pr_in (by simpa using hlu) (star2.2 ⟨emp,a1.un b2,fun _=>.inl rfl,rfl,by
  rw[hp,hd]
  exact⟨.inl ⟨0,rfl,rfl,rfl⟩,fun _ _=>rfl⟩,s1⟩)
 have l:(a1.un b2).le (a1.un (b1.un b2)):=by
  intro x k hk
  cases h:a1 x with
  |some k'=>rw[un_l h]at hk;cases hk;exact un_l h
  |none=>
   rw[un_n h]at hk
   rw[un_n h];exact un_r d2 hk
 have dj':Disj (a1.un b2) c:=fun x=>by
  rcases dj x with h|h
  ·exact .inl (le_none l h)
  ·exact .inr h
 refine⟨(a1.un b2).un c,?_,_,c,dj',rfl,s2,h2⟩
 intro x k hk
 cases h:(a1.un b2) x with
 |some k'=>rw[un_l h]at hk;cases hk;exact un_l (l x _ h)
 |none=>rw[un_n h]at hk;exact un_r dj hk⟩
theorem cl_take{cd:D}{ys:List CS}{k:Nat}{R:List Asr}(hk:k≤ys.length):Ent (clA cd ys::R) (clA cd (ys.take k)::R):=by
 refine⟨fun m hm=>?_⟩
 obtain⟨a,c,dj,rfl,h1,h2⟩:=hm
 obtain⟨a1,a2,d1,rfl,k1,k2⟩:=star2.1 h1
 have k2':star ((ys.take k).map (fun y=>slA 6 pv y.d y.c.pairs)++(ys.drop k).map (fun y=>slA 6 pv y.d y.c.pairs)) a2:=by
  rw[←List.map_append,List.take_append_drop];exact k2
 obtain⟨b1,b2,d2,rfl,k3,k4⟩:=star_append.1 k2'
 have s1:clA cd (ys.take k) (a1.un b1):=star2.2 ⟨a1,b1,(disj_un.1 d1).1,rfl,sl_take csv_len k1 hk,k3⟩
 have l:(a1.un b1).le (a1.un (b1.un b2)):=by rw[←un_assoc];exact le_l _ _
 have dj':Disj (a1.un b1) c:=fun x=>by
  rcases dj x with h|h
  ·exact .inl (le_none l h)
  ·exact .inr h
 refine⟨(a1.un b1).un c,?_,_,c,dj',rfl,s1,h2⟩
 intro x k hk
 cases h:(a1.un b1) x with
 |some k'=>rw[un_l h]at hk;cases hk;exact un_l (l x _ h)
 |none=>rw[un_n h]at hk;exact un_r dj hk
def CS.gone(f:Int):CS:=⟨Cell.gone f,none,0⟩
def CS.zero:CS:=⟨Cell.zero,none,0⟩
theorem move_a{a:Nat}{x:HX}(h:Sound x.H)(hph:x.H.phase=4):FnA Tryz.prog 173 [ptr a] (hp a x) (fun v As=>∃z:HX,As=hp a z∧z.H=x.H.moveU):=by
 obtain⟨q1,q2,q3⟩:=sound_gray h
 have hl:=x.len
 have hnc:x.hdr.nc=x.xs.length:=rfl
 have hnr:x.hdr.nr=x.regs.length:=rfl
 refine fnA_of (fun h=>fn173 (by simp) h) ?_
 unfold Heap.moveU
 rw[hl]
 repeat' (first|refine xx ?_|fail)
 refine g_range x.xs.length (fun q:Int×Int=>[(0,.v (ptr a)),(2,.v (.int .i64 q.1)),(3,.v (.int .i64 q.2)),(16,.v (.slice x.cd.a x.xs.length x.cd.cap))]) (fun q=>hp a x) (fun i q=>q.1=frG x.H i∧q.2=luG x.H i) ((x.xs.length:Int),(-1:Int)) ⟨by show _=(x.H.cells.length:Int);rw[hl],rfl⟩ (fun i q hi hv=>?_) (fun q hv=>?_)
 ·obtain⟨f,u⟩:=q
  obtain⟨rfl,rfl⟩:=hv
  obtain⟨y,gy,gc⟩:=HX.at hi
  have gk:=HX.gc gy
  obtain⟨f1,f2,f3,f4⟩:=frG_ok x.H i
  have ef:frG x.H (i+1)=if y.c.state=0 then min (frG x.H i) i else frG x.H i:=by show(if _ then _ else _)=_;rw[gk]
  have eu:luG x.H (i+1)=if y.c.state=1 then(i:Int)else luG x.H i:=by show(if _ then _ else _)=_;rw[gk]
  repeat' (first|refine xx ?_|(refine xy ?_ ?_<;>intro hb<;>try(exfalso;omega))|fail)
  ·refine r_nx ((if(i:Int)<frG x.H i then(i:Int)else frG x.H i),luG x.H i) ⟨?_,by show luG x.H i=_;rw[eu,if_neg ‹_›]⟩
   have e2:frG x.H (i+1)=min (frG x.H i) i:=by rw[ef,if_pos (by assumption)]
   show(if(i:Int)<frG x.H i then(i:Int)else frG x.H i)=frG x.H (i+1)
   rw[e2,Int.min_def]
   by_cases c1:(i:Int)<frG x.H i
   ·rw[if_pos c1,if_neg (by omega)]
   ·rw[if_neg c1,if_pos (by omega)]
  ·exact r_nx (frG x.H i,(i:Int)) ⟨by rw[ef,if_neg ‹_›],by rw[eu,if_pos ‹_›]⟩
  ·exact r_nx (frG x.H i,luG x.H i) ⟨by rw[ef,if_neg ‹_›],by rw[eu,if_neg ‹_›]⟩
 obtain⟨f,u⟩:=q
 obtain⟨hv1,hv2⟩:=hv
 simp only at hv1 hv2
 rw[←hv1,←hv2]
 obtain⟨f1,f2,f3,f4⟩:=frG_ok x.H x.xs.length
 obtain⟨u1,u2,u3,u4⟩:=luG_ok x.H x.xs.length
 rw[←hv1]at f1 f2 f3 f4
 rw[←hv2]at u1 u2 u3 u4
 by_cases hfu:u≤f
 ·rw[if_pos hfu]
  repeat' (first|refine xx ?_|(refine xy ?_ ?_<;>intro hb<;>try(exfalso;omega))|(refine k_L ?_;(refine g_c rfl (enter_a (x:=x)) (fun v As' hq=>?_);subst hq))|fail)
  exact fa_r (fun _ _=>rfl) (Pm.ent (fin (x.enter 5))) ⟨_,rfl,enter_H⟩
 ·rw[if_neg hfu]
  have sf:=(f3 (by omega)).2
  have su:=u3 (by omega)
  obtain⟨fn,rfl⟩:=Int.eq_ofNat_of_zero_le f1
  obtain⟨un,rfl⟩:=Int.eq_ofNat_of_zero_le (by omega:0≤u)
  obtain⟨yf,gf,_⟩:=HX.at (x:=x) (i:=fn) (by omega)
  obtain⟨yu,gu,_⟩:=HX.at (x:=x) (i:=un) (by omega)
  have cf:=HX.gc gf
  have cu:=HX.gc gu
  have gu2:(x.xs.set fn yu)[un]?=some yu:=by rw[List.getElem?_set,if_neg (by omega)];exact gu
  repeat' (first|refine xx ?_|(refine xy ?_ ?_<;>intro hb<;>try(exfalso;omega))|fail)
  refine LA.ent (Bs:=[slA 8 csv x.cd x.xs,prA x.xs,hdA a x.hdr,slA 3 wv x.rd x.regs,slA 1 iv x.gd x.gray]) ?_ ?_
  ·refine Ent.trans (Pm.ent (As1:=[clA x.cd x.xs,hdA a x.hdr,slA 3 wv x.rd x.regs,slA 1 iv x.gd x.gray]) pmt) ?_
   exact cl_open.trans (Pm.ent pmt)
  refine a_st rfl rfl rfl rfl (up_h (u_cell (y':=yu) gf)) ?_
  repeat' (first|refine xx ?_|fail)
  refine a_st rfl rfl rfl rfl (up_h (u_cell (y':=CS.gone fn) gu2)) ?_
  refine LA.ent (Bs:=hp a ({x with xs:=(x.xs.set fn yu).set un (CS.gone fn)}:HX)) ?_ ?_
  ·refine Ent.trans (Pm.ent (As1:=[prA x.xs,slA 8 csv x.cd ((x.xs.set fn yu).set un (CS.gone fn)),hdA a x.hdr,slA 3 wv x.rd x.regs,slA 1 iv x.gd x.gray]) pmt) ?_
   refine(pr_move gf gu (by omega) (g:=CS.gone fn) rfl rfl).trans ?_
   refine Ent.trans (Pm.ent (As1:=[slA 8 csv x.cd ((x.xs.set fn yu).set un (CS.gone fn)),prA ((x.xs.set fn yu).set un (CS.gone fn)),hdA a x.hdr,slA 3 wv x.rd x.regs,slA 1 iv x.gd x.gray]) pmt) ?_
   refine cl_close.trans ?_
   exact Pm.ent (fin _ (h2:=by simp[HX.hdr]) (e1:=by simp[HX.hdr]))
  repeat' (first|refine xx ?_|fail)
  refine g_range x.regs.length (fun q:List Word=>[(0,.v (ptr a)),(2,.v (.int .i64 fn)),(3,.v (.int .i64 un)),(63,.v (.slice x.rd.a x.regs.length x.rd.cap))]) (fun q=>hp a ({x with xs:=(x.xs.set fn yu).set un (CS.gone fn),regs:=q}:HX)) (fun i q=>q=(x.regs.take i).map (fun w=>w.redir un fn)++x.regs.drop i) x.regs (by simp) (fun i q hi hv=>?_) (fun q hv=>?_)
  ·subst hv
   obtain⟨w,gw⟩:∃w,x.regs[i]?=some w:=⟨_,List.getElem?_eq_getElem hi⟩
   have hlm:((x.regs.take i).map (fun w=>w.redir un fn)).length=i:=by rw[List.length_map,List.length_take];omega
   have gw2:((x.regs.take i).map (fun w=>w.redir un fn)++x.regs.drop i)[i]?=some w:=by
    rw[List.getElem?_append_right (by omega),hlm,Nat.sub_self,List.getElem?_drop];exact gw
   have nx:∀w',((x.regs.take i).map (fun w=>w.redir un fn)++x.regs.drop i).set i w'=(x.regs.take i).map (fun w=>w.redir un fn)++w'::x.regs.drop (i+1):=fun w'=>by
    rw[List.set_append_right _ _ (by omega),hlm,Nat.sub_self,List.drop_eq_getElem_cons hi];rfl
   have nw:x.regs[i]=w:=(List.getElem?_eq_some_iff.1 gw).2
   have nx2:∀w',w'=w.redir un fn→(x.regs.take i).map (fun w=>w.redir un fn)++w'::x.regs.drop (i+1)=(x.regs.take (i+1)).map (fun w=>w.redir un fn)++x.regs.drop (i+1):=fun w' e=>by
    rw[List.take_add_one,gw,e];simp
   have n0:(x.regs.take i).map (fun w=>w.redir un fn)++x.regs.drop i=(x.regs.take i).map (fun w=>w.redir un fn)++w::x.regs.drop (i+1):=by rw[List.drop_eq_getElem_cons hi,nw]
   generalize hL:(x.regs.take i).map (fun w=>w.redir un fn)++x.regs.drop i=L at*
   have hLl:L.length=x.regs.length:=by rw[←hL,List.length_append,hlm,List.length_drop];omega
   repeat' (first|refine xx ?_|(refine xy ?_ ?_<;>intro hb<;>try(exfalso;omega))|fail)
   ·refine r_nx (L.set i {w with at_:=(fn:Int)}) ?_ (he:=Pm.ent (fin _ (h1:=by simp[HX.hdr])))
    rw[nx]
    exact nx2 _ (by unfold Word.redir;rw[if_pos ⟨by assumption,by assumption⟩])
   ·refine r_nx L ?_
    rw[n0]
    exact nx2 _ (by unfold Word.redir;rw[if_neg (fun h=>absurd h.2 (by assumption))])
   ·refine r_nx L ?_
    rw[n0]
    exact nx2 _ (by unfold Word.redir;rw[if_neg (fun h=>absurd h.1 (by assumption))])
  ·subst hv
   repeat' (first|refine xx ?_|(refine xy ?_ ?_<;>intro hb<;>try(exfalso;omega))|fail)
   refine fa_n (fun _ _=>rfl) (Pm.ent pmt) ⟨_,rfl,?_⟩
   unfold HX.H Heap.moved
   simp only[List.map_set,List.take_of_length_le (Nat.le_refl _),List.drop_length,List.append_nil,Int.toNat_natCast]
   have cu':(Heap.mk x.room x.used x.born x.regs (x.xs.map (·.c)) x.phase x.hand x.sub x.gray x.per x.start x.rounds x.forced).getC un=yu.c:=cu
   rw[cu']
   rfl
theorem unit1_a{a:Nat}{x:HX}(h:Sound x.H)(hph:x.H.phase=1):FnA Tryz.prog 170 [ptr a] (hp a x) (fun v As=>∃z:HX,As=hp a z∧z.H=x.H.rootsU):=by
 obtain⟨q1,q2,q3⟩:=sound_gray h
 have hl:=x.len
 have hnc:x.hdr.nc=x.xs.length:=rfl
 have hph':x.hdr.phase=1:=hph
 have hhd:x.hdr.hand=x.H.hand:=rfl
 have h0:=h.r1.hand
 refine fnA_of (fun h=>fn170 (by simp) h) ?_
 unfold Heap.rootsU
 by_cases hh:x.H.hand=x.H.cells.length
 ·rw[if_pos hh]
  repeat' (first|refine xx ?_|(refine xy ?_ ?_<;>intro hb<;>try(exfalso;omega))|(refine k_L ?_;(refine g_c rfl (enter_a (x:=x)) (fun v As' hq=>?_);subst hq))|fail)
  exact fa_r (fun _ _=>rfl) (Pm.ent (fin (x.enter 2))) ⟨_,rfl,enter_H⟩
 ·rw[if_neg hh]
  obtain⟨k,hk⟩:=Int.eq_ofNat_of_zero_le h0.1
  have hk':x.hdr.hand=k:=hk
  obtain⟨y,gy,gc⟩:=HX.at (x:=x) (i:=k) (by omega)
  have gk:=HX.gc gy
  have gy':x.xs[x.hdr.hand.toNat]?=some y:=by rw[hk'];exact gy
  rw[hk,gk]
  by_cases hr:Root y.c
  ·rw[if_pos hr]
   repeat' (first|refine xx ?_|(refine xy ?_ ?_<;>intro hb<;>try(exfalso;omega))|(refine k_L ?_;(refine k_q ?_;refine a_q rfl (fun m hm=>qt_e (root_q (y:=y)) (congrArg Value.bool (decide_eq_true hr))) ?_))|fail)
   rw[hk']
   refine g_c rfl (shadeH_a (x:=x) (i:=k) (by omega) q1) (fun v As' hq=>?_)
   obtain⟨z,rfl,hz,hzr⟩:=hq
   obtain⟨s,_⟩:=shadeH_ok (H:=x.H) (i:=k) (by omega) (by rw[gk];exact hr.1)
   rw[←hz]at s
   have zh:z.hand=k:=by have:=s.hand;rw[hk]at this;exact this
   have zh':z.hdr.hand=k:=zh
   repeat' (first|refine xx ?_|fail)
   refine fa_n (fun _ _=>rfl) (Pm.ent (fin {z with hand:=z.hand+1})) ⟨_,rfl,?_⟩
   show({z.H with hand:=z.hand+1}:Heap)=_
   rw[zh,hz];rfl
  ·rw[if_neg hr]
   repeat' (first|refine xx ?_|(refine xy ?_ ?_<;>intro hb<;>try(exfalso;omega))|(refine k_L ?_;(refine k_q ?_;refine a_q rfl (fun m hm=>qt_e (root_q (y:=y)) (congrArg Value.bool (decide_eq_false hr))) ?_))|fail)
   refine fa_n (fun _ _=>rfl) (Pm.ent (fin {x with hand:=x.hand+1})) ⟨_,rfl,?_⟩
   show({x.H with hand:=x.hand+1}:Heap)=_
   rw[←hk];rfl
theorem unit2_a{a:Nat}{x:HX}(h:Sound x.H)(hph:x.H.phase=2):FnA Tryz.prog 170 [ptr a] (hp a x) (fun v As=>∃z:HX,As=hp a z∧z.H=x.H.markU):=by
 have hph':x.hdr.phase=2:=hph
 refine fnA_of (fun h=>fn170 (by simp) h) ?_
 repeat' (first|refine xx ?_|(refine xy ?_ ?_<;>intro hb<;>try(exfalso;omega))|(refine k_L ?_;(refine g_c rfl (mark_a h hph) (fun v As' hq=>?_);obtain⟨z,rfl,hz⟩:=hq))|fail)
 exact fa_n (fun _ _=>rfl) (Pm.ent (fin z)) ⟨_,rfl,hz⟩
theorem unit4_a{a:Nat}{x:HX}(h:Sound x.H)(hph:x.H.phase=4):FnA Tryz.prog 170 [ptr a] (hp a x) (fun v As=>∃z:HX,As=hp a z∧z.H=x.H.moveU):=by
 have hph':x.hdr.phase=4:=hph
 refine fnA_of (fun h=>fn170 (by simp) h) ?_
 repeat' (first|refine xx ?_|(refine xy ?_ ?_<;>intro hb<;>try(exfalso;omega))|(refine k_L ?_;(refine g_c rfl (move_a h hph) (fun v As' hq=>?_);obtain⟨z,rfl,hz⟩:=hq))|fail)
 exact fa_n (fun _ _=>rfl) (Pm.ent (fin z)) ⟨_,rfl,hz⟩
theorem unit3_a{a:Nat}{x:HX}(h:Sound x.H)(hph:x.H.phase=3):FnA Tryz.prog 170 [ptr a] (hp a x) (fun v As=>∃z:HX,As=hp a z∧z.H=x.H.sweepU):=by
 obtain⟨q1,q2,q3⟩:=sound_gray h
 have hl:=x.len
 have hnc:x.hdr.nc=x.xs.length:=rfl
 have hph':x.hdr.phase=3:=hph
 have hhd:x.hdr.hand=x.H.hand:=rfl
 have h0:=h.r1.hand
 refine fnA_of (fun h=>fn170 (by simp) h) ?_
 unfold Heap.sweepU
 by_cases hh:x.H.hand=x.H.cells.length
 ·rw[if_pos hh]
  repeat' (first|refine xx ?_|(refine xy ?_ ?_<;>intro hb<;>try(exfalso;omega))|(refine k_L ?_;(refine g_c rfl (enter_a (x:=x)) (fun v As' hq=>?_);subst hq))|fail)
  exact fa_r (fun _ _=>rfl) (Pm.ent (fin (x.enter 4))) ⟨_,rfl,enter_H⟩
 ·rw[if_neg hh]
  obtain⟨k,hk⟩:=Int.eq_ofNat_of_zero_le h0.1
  have hk':x.hdr.hand=k:=hk
  obtain⟨y,gy,gc⟩:=HX.at (x:=x) (i:=k) (by omega)
  have gk:=HX.gc gy
  have gy':x.xs[x.hdr.hand.toNat]?=some y:=by rw[hk'];exact gy
  have hpl:=h.r2.pl (List.mem_of_getElem? gc)
  have hus:=h.r3
  have hnn:=pairsN_nonneg x.H.cells
  have hun:=pairsN_units h.r2
  have hrm:=h.r1.room
  unfold R3 at hus
  have hud:x.hdr.used=x.H.used:=rfl
  have hyu:y.c.units≤201∧0≤y.c.units:=by unfold Cell.units;split<;>omega
  rw[hk,gk]
  repeat' (first|refine xx ?_|(refine xy ?_ ?_<;>intro hb<;>try(exfalso;omega))|(refine k_L ?_;first|(refine k_q ?_;refine a_q rfl (fun m hm=>units_q (y:=y) (by omega)) ?_)|(refine a_c0 CS.zero gy' rfl rfl rfl rfl rfl rfl rfl ?_))|fail)
  ·refine fa_n (fun _ _=>rfl) (Pm.ent (fin {x with used:=x.used-y.c.units,xs:=x.xs.set x.hdr.hand.toNat CS.zero,hand:=x.hand+1})) ⟨_,rfl,?_⟩
   have eu:y.c.units=1+y.c.pairs.length:=by unfold Cell.units;rw[if_pos (by assumption)]
   rw[if_pos ⟨by assumption,by assumption⟩]
   show({x.H with used:=x.used-y.c.units,cells:=(x.xs.set x.hdr.hand.toNat CS.zero).map (·.c),hand:=x.hand+1}:Heap)=_
   rw[eu,List.map_set,hk',show x.hand=k from hk]
   rfl
  all_goals refine fa_n (fun _ _=>rfl) (Pm.ent (fin {x with xs:=x.xs.set x.hdr.hand.toNat (y.s_color 0),hand:=x.hand+1})) ⟨_,rfl,?_⟩
  all_goals rw[if_neg (fun h=>by first|exact absurd h.1 (by assumption)|exact absurd h.2 (by assumption))]
  all_goals show({x.H with cells:=(x.xs.set x.hdr.hand.toNat (y.s_color 0)).map (·.c),hand:=x.hand+1}:Heap)=_
  all_goals rw[List.map_set,hk',show x.hand=k from hk]
  all_goals rfl
theorem unit5_a{a:Nat}{x:HX}(h:Sound x.H)(hph:x.H.phase=5):FnA Tryz.prog 170 [ptr a] (hp a x) (fun v As=>∃z:HX,As=hp a z∧z.H=x.H.mendU):=by
 obtain⟨q1,q2,q3⟩:=sound_gray h
 have hl:=x.len
 have hnc:x.hdr.nc=x.xs.length:=rfl
 have hph':x.hdr.phase=5:=hph
 have hhd:x.hdr.hand=x.H.hand:=rfl
 have hsb:x.hdr.sub=x.H.sub:=rfl
 have h0:=h.r1.hand
 have hs0:=h.r1.sub
 refine fnA_of (fun h=>fn170 (by simp) h) ?_
 unfold Heap.mendU
 by_cases hh:x.H.hand=x.H.cells.length
 ·rw[if_pos hh]
  repeat' (first|refine xx ?_|(refine xy ?_ ?_<;>intro hb<;>try(exfalso;omega))|(refine k_L ?_;(refine g_c rfl (enter_a (x:=x)) (fun v As' hq=>?_);subst hq))|fail)
  exact fa_r (fun _ _=>rfl) (Pm.ent (fin (x.enter 6))) ⟨_,rfl,enter_H⟩
 ·rw[if_neg hh]
  obtain⟨k,hk⟩:=Int.eq_ofNat_of_zero_le h0.1
  have hk':x.hdr.hand=k:=hk
  obtain⟨y,gy,gc⟩:=HX.at (x:=x) (i:=k) (by omega)
  have gk:=HX.gc gy
  have gy':x.xs[x.hdr.hand.toNat]?=some y:=by rw[hk'];exact gy
  have hpl:=h.r2.pl (List.mem_of_getElem? gc)
  rw[hk,gk]
  by_cases hlt:x.H.sub<y.c.pairs.length
  ·obtain⟨s,hs⟩:=Int.eq_ofNat_of_zero_le hs0.1
   have hs':x.hdr.sub=s:=hs
   obtain⟨p,gp⟩:∃p,y.c.pairs[s]?=some p:=⟨_,List.getElem?_eq_getElem (by omega)⟩
   have gp':y.c.pairs[x.hdr.sub.toNat]?=some p:=by rw[hs'];exact gp
   rw[hs,show((s:Int)).toNat=s by omega,gp]
   simp only
   obtain⟨f1,f2,_⟩:=h.r4.pairs k y.c gc s p gp
   have gy1:(x.xs.set x.hdr.hand.toNat (y.s_pair x.hdr.sub.toNat (p.s_key (x.hs.H.lead p.key))))[x.hdr.hand.toNat]?=some (y.s_pair x.hdr.sub.toNat (p.s_key (x.hs.H.lead p.key))):=by
    rw[List.getElem?_set,if_pos rfl,if_pos (List.getElem?_eq_some_iff.1 gy').1]
   have gp1:(y.s_pair x.hdr.sub.toNat (p.s_key (x.hs.H.lead p.key))).c.pairs[x.hdr.sub.toNat]?=some (p.s_key (x.hs.H.lead p.key)):=by
    show(y.c.pairs.set x.hdr.sub.toNat _)[x.hdr.sub.toNat]?=_
    rw[List.getElem?_set,if_pos rfl,if_pos (List.getElem?_eq_some_iff.1 gp').1]
   repeat' (first|refine xx ?_|(refine xy ?_ ?_<;>intro hb<;>try(exfalso;omega))|(refine k_L ?_;(refine k_q ?_;first|refine a_q rfl (fun m hm=>lead_q (x:=x.hs) (w:=p.key) (ph_g (x:=x) hm) (fun hk=>f1.at hk)) ?_|refine a_q rfl (fun m hm=>lead_q (x:=x.hs) (w:=p.val) (ph_g (x:=x) hm) (fun hk=>f2.at hk)) ?_))|fail)
   refine a_st rfl rfl rfl rfl (up_t (up_t (up_h (u_val (y:=y.s_pair x.hdr.sub.toNat (p.s_key (x.hs.H.lead p.key))) (i:=x.hdr.hand.toNat) (k:=x.hdr.sub.toNat) (p:=p.s_key (x.hs.H.lead p.key)) (w:=x.hs.H.lead p.val) gy1 gp1)))) ?_
   repeat' (first|refine xx ?_|fail)
   refine fa_r (fun _ _=>rfl) (Pm.ent (fin ({x with xs:=(x.xs.set x.hdr.hand.toNat (y.s_pair x.hdr.sub.toNat (p.s_key (x.hs.H.lead p.key)))).set x.hdr.hand.toNat ((y.s_pair x.hdr.sub.toNat (p.s_key (x.hs.H.lead p.key))).s_pair x.hdr.sub.toNat ((p.s_key (x.hs.H.lead p.key)).s_val (x.hs.H.lead p.val))),sub:=x.sub+1}:HX))) ⟨_,rfl,?_⟩
   show({x.H with cells:=(((x.xs.set x.hdr.hand.toNat (y.s_pair x.hdr.sub.toNat (p.s_key (x.hs.H.lead p.key)))).set x.hdr.hand.toNat ((y.s_pair x.hdr.sub.toNat (p.s_key (x.hs.H.lead p.key))).s_pair x.hdr.sub.toNat ((p.s_key (x.hs.H.lead p.key)).s_val (x.hs.H.lead p.val))))).map (·.c),sub:=x.sub+1}:Heap)=_
   rw[List.set_set,List.map_set,hk',hs',show x.sub=s from hs]
   unfold CS.s_pair Pair.s_key Pair.s_val
   simp only[Int.toNat_natCast,List.set_set]
   rw[hk]
   rfl
  ·have gp:y.c.pairs[x.H.sub.toNat]?=none:=List.getElem?_eq_none (by omega)
   rw[gp]
   simp only
   repeat' (first|refine xx ?_|(refine xy ?_ ?_<;>intro hb<;>try(exfalso;omega))|fail)
   refine fa_n (fun _ _=>rfl) (Pm.ent (fin ({x with hand:=x.hand+1,sub:=0}:HX))) ⟨_,rfl,?_⟩
   show({x.H with hand:=x.hand+1,sub:=0}:Heap)=_
   rw[show x.hand=k from hk]
theorem unit6_a{a:Nat}{x:HX}(h:Sound x.H)(hph:x.H.phase=6):FnA Tryz.prog 170 [ptr a] (hp a x) (fun v As=>∃z:HX,As=hp a z∧z.H=x.H.closeU):=by
 obtain⟨q1,q2,q3⟩:=sound_gray h
 have hl:=x.len
 have hnc:x.hdr.nc=x.xs.length:=rfl
 have hph':x.hdr.phase=6:=hph
 have hhd:x.hdr.hand=x.H.hand:=rfl
 have h0:=h.r1.hand
 have hrd:=h.r1.rounds
 have hrd':x.hdr.rounds=x.H.rounds:=rfl
 have hre:(x.enter 0).hdr.rounds=x.H.rounds:=rfl
 refine fnA_of (fun h=>fn170 (by simp) h) ?_
 refine v_kn (p:=x.xs.length≤x.cd.cap) (kn_t (kn_t (kn_h kc_cl))) (fun hcap=>?_)
 have hcap':x.hdr.cd.cap=x.cd.cap:=rfl
 unfold Heap.closeU
 by_cases hh:x.H.hand=0
 ·rw[if_pos hh]
  repeat' (first|refine xx ?_|(refine xy ?_ ?_<;>intro hb<;>try(exfalso;omega))|(refine k_L ?_;(refine g_c rfl (enter_a (x:=x)) (fun v As' hq=>?_);subst hq))|fail)
  refine fa_r (fun _ _=>rfl) (Pm.ent (fin {x.enter 0 with rounds:=if 1000000000<x.rounds+1 then 1000000000 else x.rounds+1})) ⟨_,rfl,?_⟩
  show({(x.enter 0).H with rounds:=if 1000000000<x.rounds+1 then 1000000000 else x.rounds+1}:Heap)=_
  rw[enter_H]
  have:(if 1000000000<x.rounds+1 then 1000000000 else x.rounds+1)=if x.H.rounds<1000000000 then x.H.rounds+1 else x.H.rounds:=by
   rw[show x.rounds=x.H.rounds from rfl]
   by_cases c:x.H.rounds<1000000000
   ·rw[if_pos c,if_neg (by omega)]
   ·rw[if_neg c,if_pos (by omega)];omega
  rw[this]
 ·rw[if_neg hh]
  obtain⟨k,hk⟩:=Int.eq_ofNat_of_zero_le (show 0≤x.H.hand-1 by omega)
  have hk':x.hdr.hand-1=k:=hk
  obtain⟨y,gy,gc⟩:=HX.at (x:=x) (i:=k) (by omega)
  have gk:=HX.gc gy
  have gy':x.xs[(x.hdr.hand-1).toNat]?=some y:=by rw[hk'];exact gy
  have gz:(x.xs.set (x.hdr.hand-1).toNat CS.zero)[(x.hdr.hand-1).toNat]?=some CS.zero:=by
   rw[List.getElem?_set,if_pos rfl,if_pos (List.getElem?_eq_some_iff.1 gy').1]
  have hsh:(x.hdr.s_hand (x.hdr.hand-1)).hand=x.hdr.hand-1:=rfl
  have ghand:x.H.getC (x.H.hand-1)=y.c:=by rw[hk];exact gk
  have eA:y.c.state=2→x.H.closeA=(x.xs.set (x.hdr.hand-1).toNat CS.zero).map (·.c):=fun e=>by
   unfold Heap.closeA
   rw[ghand,if_pos e,List.map_set];rfl
  have eB:y.c.state≠2→x.H.closeA=x.H.cells:=fun e=>by
   unfold Heap.closeA
   rw[ghand,if_neg e]
  have sA:y.c.state=2→(getL x.H.closeA (x.H.hand-1)).state=0:=fun e=>by
   rw[eA e,List.map_set,getL_set (by rw[List.length_map];omega),if_pos (by rw[hhd])];rfl
  have sB:y.c.state≠2→(getL x.H.closeA (x.H.hand-1)).state=y.c.state:=fun e=>by
   rw[eB e,←getC_L,ghand]
  repeat' (first|refine xx ?_|(refine xy ?_ ?_<;>intro hb<;>try(exfalso;omega))|(refine k_L ?_;first|(refine a_c0 CS.zero gy' rfl rfl rfl rfl rfl rfl rfl ?_)|(refine g_tk rfl rfl ?_))|fail)
  ·have hs2:y.c.state=2:=by assumption
   have hn:x.H.hand=x.H.cells.length:=by omega
   rw[if_pos ⟨hn,sA hs2⟩,eA hs2]
   refine fa_n (As':=hp a ({x with hand:=x.hand-1,xs:=(x.xs.set (x.hdr.hand-1).toNat CS.zero).take ((x.hdr.nc:Int)-1).toNat}:HX)) (fun _ _=>rfl) ?_ ⟨_,rfl,?_⟩
   ·refine(cl_take (k:=((x.hdr.nc:Int)-1).toNat) (by rw[List.length_set];omega)).trans ?_
    exact Pm.ent (fin _ (h2:=by rw[List.length_take,List.length_set];show((x.hdr.nc:Int)-1).toNat=_;omega))
   ·show({x.H with hand:=x.hand-1,cells:=(((x.xs.set (x.hdr.hand-1).toNat CS.zero).take ((x.hdr.nc:Int)-1).toNat).map (·.c))}:Heap)=_
    rw[List.map_take,show((x.hdr.nc:Int)-1).toNat=(x.H.hand-1).toNat by omega]
    rfl
  ·have hs2:y.c.state=2:=by assumption
   rw[if_neg (fun h=>by have:=h.1;omega),eA hs2]
   exact fa_n (fun _ _=>rfl) (Pm.ent (fin {x with hand:=x.hand-1,xs:=x.xs.set (x.hdr.hand-1).toNat CS.zero})) ⟨_,rfl,rfl⟩
  ·have hs2:y.c.state≠2:=by assumption
   have hs0:y.c.state=0:=by assumption
   have hn:x.H.hand=x.H.cells.length:=by omega
   rw[if_pos ⟨hn,by rw[sB hs2];exact hs0⟩,eB hs2]
   refine fa_n (As':=hp a ({x with hand:=x.hand-1,xs:=x.xs.take ((x.hdr.nc:Int)-1).toNat}:HX)) (fun _ _=>rfl) ?_ ⟨_,rfl,?_⟩
   ·refine Ent.trans (Pm.ent (As1:=[clA x.cd x.xs,hdA a ((x.hdr.s_hand (x.hdr.hand-1)).s_cd x.cd ((x.hdr.nc:Int)-1).toNat),slA 3 wv x.rd x.regs,slA 1 iv x.gd x.gray]) pmt) ?_
    refine(cl_take (k:=((x.hdr.nc:Int)-1).toNat) (by omega)).trans ?_
    exact Pm.ent (fin _ (h2:=by rw[List.length_take];show((x.hdr.nc:Int)-1).toNat=_;omega))
   ·show({x.H with hand:=x.hand-1,cells:=((x.xs.take ((x.hdr.nc:Int)-1).toNat).map (·.c))}:Heap)=_
    rw[List.map_take,show((x.hdr.nc:Int)-1).toNat=(x.H.hand-1).toNat by omega]
    rfl
  ·have hs2:y.c.state≠2:=by assumption
   have hs0:¬y.c.state=0:=by assumption
   rw[if_neg (fun h=>hs0 (by have:=h.2;rw[sB hs2]at this;exact this)),eB hs2]
   exact fa_n (fun _ _=>rfl) (Pm.ent (fin {x with hand:=x.hand-1})) ⟨_,rfl,rfl⟩
  ·have hs2:y.c.state≠2:=by assumption
   rw[if_neg (fun h=>by have:=h.1;omega),eB hs2]
   exact fa_n (fun _ _=>rfl) (Pm.ent (fin {x with hand:=x.hand-1})) ⟨_,rfl,rfl⟩
theorem unit_a{a:Nat}{x:HX}(h:Sound x.H)(hph:x.H.phase≠0):FnA Tryz.prog 170 [ptr a] (hp a x) (fun v As=>∃z:HX,As=hp a z∧z.H=x.H.unitH):=by
 have h5:=h.r1.phase
 unfold Heap.unitH
 rcases(by omega:x.H.phase=1∨x.H.phase=2∨x.H.phase=3∨x.H.phase=4∨x.H.phase=5∨x.H.phase=6)with e|e|e|e|e|e
 ·rw[if_pos e];exact unit1_a h e
 ·rw[if_neg (by omega),if_pos e];exact unit2_a h e
 ·rw[if_neg (by omega),if_neg (by omega),if_pos e];exact unit3_a h e
 ·rw[if_neg (by omega),if_neg (by omega),if_neg (by omega),if_pos e];exact unit4_a h e
 ·rw[if_neg (by omega),if_neg (by omega),if_neg (by omega),if_neg (by omega),if_pos e];exact unit5_a h e
 ·rw[if_neg (by omega),if_neg (by omega),if_neg (by omega),if_neg (by omega),if_neg (by omega),if_pos e];exact unit6_a h e
def HX.ph(x:HX)(p hd:Int):HX:={x with phase:=p,hand:=hd,sub:=0}
theorem l3phase_a{a:Nat}{x:HX}{p hd:Int}:FnA Tryz.prog 135 [ptr a,.int .i64 p,.int .i64 hd] (hp a x) (fun v As=>As=hp a (x.ph p hd)):=by
 refine fnA_of (fun h=>fn135 (by simp) h) ?_
 repeat' (first|refine xx ?_|fail)
 exact fa_n (fun _ _=>rfl) (Pm.ent (fin (x.ph p hd))) rfl
theorem ph_H{x:HX}{p hd:Int}(e:hd=if p=6 then(x.H.cells.length:Int)else 0):(x.ph p hd).H=x.H.enterH p:=by
 subst e;rfl
theorem l3begin_a{a:Nat}{x:HX}:FnA Tryz.prog 103 [ptr a] (hp a x) (fun v As=>As=hp a (x.ph 1 0)):=by
 refine fnA_of (fun h=>fn103 (by simp) h) ?_
 repeat' (first|refine xx ?_|(refine k_L ?_;(refine g_c rfl (l3phase_a (x:=x)) (fun v As' hq=>?_);subst hq))|fail)
 exact fa_n (fun _ _=>rfl) (Pm.ent (fin (x.ph 1 0))) rfl
theorem shadeW_at{H:Heap}{k:Nat}:H.shadeW ⟨2,0,(k:Int)⟩=H.shadeH k:=by unfold Heap.shadeW;rw[if_pos rfl];rfl
theorem root_last{H:Heap}(h:R2 H){i:Nat}{c:Cell}(hc:H.cells[i]?=some c):Root c↔c.last=1∨c.last=2:=by
 constructor
 ·exact fun h=>h.2
 ·intro hl
  refine⟨?_,hl⟩
  rcases Decidable.em (c.state=1)with e|e
  ·exact e
  ·have:=(h.bare hc e).2.2.1;omega
theorem l3roots_a{a:Nat}{x:HX}(h:Sound x.H)(hph:x.H.phase=1):FnA Tryz.prog 136 [ptr a] (hp a x) (fun v As=>∃z:HX,As=hp a z∧z.H=x.H.rootsU):=by
 obtain⟨q1,q2,q3⟩:=sound_gray h
 have hl:=x.len
 have hnc:x.hdr.nc=x.xs.length:=rfl
 have hhd:x.hdr.hand=x.H.hand:=rfl
 have h0:=h.r1.hand
 refine fnA_of (fun h=>fn136 (by simp) h) ?_
 unfold Heap.rootsU
 by_cases hh:x.H.hand=x.H.cells.length
 ·rw[if_pos hh]
  repeat' (first|refine xx ?_|(refine xy ?_ ?_<;>intro hb<;>try(exfalso;omega))|(refine k_L ?_;(refine g_c rfl (l3phase_a (x:=x)) (fun v As' hq=>?_);subst hq))|fail)
  exact fa_r (fun _ _=>rfl) (Pm.ent (fin (x.ph 2 0))) ⟨_,rfl,ph_H rfl⟩
 ·rw[if_neg hh]
  obtain⟨k,hk⟩:=Int.eq_ofNat_of_zero_le h0.1
  have hk':x.hdr.hand=k:=hk
  obtain⟨y,gy,gc⟩:=HX.at (x:=x) (i:=k) (by omega)
  have gk:=HX.gc gy
  have gy':x.xs[x.hdr.hand.toNat]?=some y:=by rw[hk'];exact gy
  have hrl:=root_last h.r2 gc
  rw[hk,gk]
  by_cases hr:y.c.last=1∨y.c.last=2
  ·rw[if_pos (hrl.2 hr)]
   repeat' (first|refine xx ?_|(refine xy ?_ ?_<;>intro hb<;>try(exfalso;omega))|fail)
   all_goals rw[hk']
   all_goals refine g_c rfl (l3shade_a (x:=x) (w:=⟨2,0,(k:Int)⟩) (fun _=>⟨by simp,by show(k:Int)<_;omega⟩) q1) (fun v As' hq=>?_)
   all_goals obtain⟨z,rfl,rfl,hz,hzr⟩:=hq
   all_goals rw[shadeW_at]at hz
   all_goals obtain⟨s,_⟩:=shadeH_ok (H:=x.H) (i:=k) (by omega) (by rw[gk];exact(hrl.2 hr).1)
   all_goals rw[←hz]at s
   all_goals have zh:z.hand=k:=by have:=s.hand;rw[hk]at this;exact this
   all_goals have zh':z.hdr.hand=k:=zh
   ·repeat' (first|refine xx ?_|fail)
    refine fa_n (fun _ _=>rfl) (Pm.ent (fin {z with hand:=z.hand+1})) ⟨_,rfl,?_⟩
    show({z.H with hand:=z.hand+1}:Heap)=_
    rw[zh,hz]
    rfl
   ·repeat' (first|refine xx ?_|fail)
    refine fa_n (fun _ _=>rfl) (Pm.ent (fin {z with hand:=z.hand+1})) ⟨_,rfl,?_⟩
    show({z.H with hand:=z.hand+1}:Heap)=_
    rw[zh,hz]
    rfl
  ·rw[if_neg (fun h=>hr (hrl.1 h))]
   repeat' (first|refine xx ?_|(refine xy ?_ ?_<;>intro hb<;>try(exfalso;omega))|fail)
   refine fa_n (fun _ _=>rfl) (Pm.ent (fin {x with hand:=x.hand+1})) ⟨_,rfl,?_⟩
   show({x.H with hand:=x.hand+1}:Heap)=_
   rw[←hk];rfl
theorem shadeW_sub{H:Heap}{n:Int}{w:Word}:({H with sub:=n}:Heap).shadeW w={H.shadeW w with sub:=n}:=by
 unfold Heap.shadeW
 split
 ·unfold Heap.shadeH
  have e:(Marking {H with sub:=n}∧(Heap.getC {H with sub:=n} w.at_.toNat).color=0)↔(Marking H∧(H.getC w.at_.toNat).color=0):=Iff.rfl
  by_cases c:Marking H∧(H.getC w.at_.toNat).color=0
  ·rw[if_pos c,if_pos (e.2 c)];rfl
  ·rw[if_neg c,if_neg (fun h=>c (e.1 h))]
 ·rfl
theorem l3mark_a{a:Nat}{x:HX}(h:Sound x.H)(hph:x.H.phase=2):FnA Tryz.prog 137 [ptr a] (hp a x) (fun v As=>∃z:HX,As=hp a z∧z.H=x.H.markU):=by
 obtain⟨q1,q2,q3⟩:=sound_gray h
 have hl:=x.len
 have hnc:x.hdr.nc=x.xs.length:=rfl
 have hng:x.hdr.ng=x.gray.length:=rfl
 have hgr:x.H.gray=x.gray:=rfl
 have hm:Marking x.H:=.inr hph
 refine fnA_of (fun h=>fn137 (by simp) h) ?_
 unfold Heap.markU
 cases hg:x.gray with
 |nil=>
  have hnz:x.hdr.ng=0:=by rw[hng,hg];rfl
  rw[hgr,hg]
  simp only
  have hr:=fun w hw=>reg_used h.r4 (w:=w) hw
  have hr':∀w,w∈x.H.regs→Formed x.H w∧(w.kind=2→(x.H.getC w.at_).state=1):=fun w hw=>⟨(hr w hw).1,fun hk=>((hr w hw).2 hk).1⟩
  repeat' (first|refine xx ?_|(refine xy ?_ ?_<;>intro hb<;>try(exfalso;omega))|fail)
  refine g_range x.regs.length (fun q:HX×Bool=>[(0,.v (ptr a)),(4,.v (.bool q.2)),(83,.v (.slice x.rd.a x.regs.length x.rd.cap))]) (fun q=>hp a q.1) (fun i q=>q.1.H=x.H.shadeL (x.regs.take i)∧q.1.rd=x.rd∧(q.2=true↔∃w,w∈x.regs.take i∧White x.H w)) ((x,false):HX×Bool) ⟨rfl,rfl,by simp⟩ (fun i q hi hv=>?_) (fun q hv=>?_)
  ·obtain⟨z,b⟩:=q
   obtain⟨v1,v2,v3⟩:=hv
   simp only at v1 v2 v3
   obtain⟨w,gw⟩:∃w,x.regs[i]?=some w:=⟨_,List.getElem?_eq_getElem hi⟩
   have hsub:∀v,v∈x.regs.take i→Formed x.H v∧(v.kind=2→(x.H.getC v.at_).state=1):=fun v hv=>hr' v (List.mem_of_mem_take hv)
   obtain⟨s,_⟩:=shadeL_ok _ _ hsub
   rw[←v1]at s
   have hw:=hr' w (List.mem_of_getElem? gw)
   have zr:z.regs=x.regs:=s.regs
   have zm:Marking z.H:=by unfold Marking at*;rw[s.phase];exact hm
   have gz:z.regs[i]?=some w:=by rw[zr];exact gw
   have hzg:=(sound_gray (s.sound h)).1
   have hsn:∀v,v∈x.regs.take i++[w]→Formed x.H v∧(v.kind=2→(x.H.getC v.at_).state=1):=fun v hv=>by
    rcases List.mem_append.1 hv with hv|hv
    ·exact hsub v hv
    ·simp at hv;subst hv;exact hw
   have hsw:=some_white hsn
   have htk:x.regs.take (i+1)=x.regs.take i++[w]:=by rw[List.take_add_one,gw];rfl
   rw[←v2]
   repeat' (first|refine xx ?_|(refine xy ?_ ?_<;>intro hb<;>try(exfalso;omega))|(refine k_L ?_;(refine g_c rfl (l3shade_a (x:=z) (w:=w) (fun hk=>by have:=hw.1.at hk;rw[s.len];exact this) hzg) (fun v As' hq=>?_);obtain⟨u,rfl,rfl,hu,hur⟩:=hq))|fail)
   ·refine r_nx ((u,true):HX×Bool) ⟨by rw[hu,htk,shadeL_snoc,v1],hur,?_⟩
    rw[htk]
    simp only[true_iff]
    exact hsw.2 (.inr (by rw[←v1];exact(show Marking z.H∧White z.H w by assumption).2))
   ·refine r_nx ((u,b):HX×Bool) ⟨by rw[hu,htk,shadeL_snoc,v1],hur,?_⟩
    rw[htk]
    refine v3.trans ⟨fun h=>hsw.2 (.inl h),fun h=>?_⟩
    rcases hsw.1 h with h|h
    ·exact h
    ·rw[←v1]at h;exact((show ¬(Marking z.H∧White z.H w) by assumption) ⟨zm,h⟩).elim
  ·obtain⟨z,b⟩:=q
   obtain⟨v1,v2,v3⟩:=hv
   simp only at v1 v2 v3
   rw[List.take_of_length_le (Nat.le_refl _)]at v1 v3
   cases b with
   |true=>
    repeat' (first|refine xx ?_|fail)
    exact fa_n (fun _ _=>rfl) (Pm.ent (fin z)) ⟨z,rfl,by rw[if_pos (show ∃w,w∈x.H.regs∧White x.H w from v3.1 rfl)];exact v1⟩
   |false=>
    have hno:¬∃w,w∈x.regs∧White x.H w:=fun h=>by have:=v3.2 h;cases this
    have hz:z.H=x.H:=by rw[v1];exact shadeL_no _ (fun w hw=>⟨(hr' w hw).1,fun h'=>hno ⟨w,hw,h'⟩⟩)
    repeat' (first|refine xx ?_|(refine k_L ?_;(refine g_c rfl (l3phase_a (x:=z)) (fun v As' hq=>?_);subst hq))|fail)
    exact fa_n (fun _ _=>rfl) (Pm.ent (fin (z.ph 3 0))) ⟨_,rfl,by rw[if_neg (show ¬∃w,w∈x.H.regs∧White x.H w from hno)];exact(ph_H (x:=z) (p:=3) (hd:=0) rfl).trans (by rw[hz])⟩
 |cons g r=>
  rw[hgr,hg]
  simp only
  have hn1:x.hdr.ng=r.length+1:=by rw[hng,hg];rfl
  obtain⟨g1,g2,g3⟩:=h.r5.mark hm
  obtain⟨b0,b1,b2,b3⟩:=g2 g (by rw[hgr,hg];simp)
  obtain⟨y,gy,gc⟩:=HX.atI (x:=x) b0 (by omega)
  obtain⟨gn,hgn⟩:=Int.eq_ofNat_of_zero_le b0
  have gg:x.gray[(0:Int).toNat]?=some g:=by rw[hg];rfl
  have hs0:=h.r1.sub
  have hsub:x.hdr.sub=x.H.sub:=rfl
  rw[gc]
  by_cases hlt:x.H.sub<y.c.pairs.length
  ·obtain⟨p,gp⟩:∃p,y.c.pairs[x.H.sub.toNat]?=some p:=⟨_,List.getElem?_eq_getElem (by omega)⟩
   have gp':y.c.pairs[x.hdr.sub.toNat]?=some p:=gp
   rw[gp]
   simp only
   have hgg:x.H.gray=g::r:=by rw[hgr,hg]
   have gpc:(x.H.getC g).pairs[x.H.sub.toNat]?=some p:=by rw[gc];exact gp
   obtain⟨⟨k1,k2⟩,w1,w2⟩:=markP h hph hgg gpc
   obtain⟨s1,_⟩:=shadeW_ok k1 k2
   repeat' (first|refine xx ?_|(refine xy ?_ ?_<;>intro hb<;>try(exfalso;omega))|fail)
   refine g_c rfl (l3shade_a (x:={x with sub:=x.sub+1}) (w:=p.key) (fun hk=>k1.at hk) q1) (fun v As' hq=>?_)
   obtain⟨z,rfl,rfl,hz,hzr⟩:=hq
   have hz1:z.H={x.H.shadeW p.key with sub:=x.H.sub+1}:=by rw[hz];exact shadeW_sub (H:=x.H) (n:=x.sub+1)
   have zg:z.gray.length≤1000000:=by
    have h1:=(sound_gray (x:={z with sub:=x.sub}) (by
     have:({z with sub:=x.sub}:HX).H={z.H with sub:=x.sub}:=rfl
     rw[this,hz1]
     have h2:=s1.sound h
     have e:(x.H.shadeW p.key).sub=x.sub:=s1.sub
     have:({({x.H.shadeW p.key with sub:=x.H.sub+1}:Heap)with sub:=x.sub}:Heap)=x.H.shadeW p.key:=by rw[←e]
     rw[this];exact h2)).1
    exact h1
   repeat' (first|refine xx ?_|fail)
   refine g_c rfl (l3shade_a (x:=z) (w:=p.val) (fun hk=>by rw[hz1];show _∧_<((x.H.shadeW p.key).cells.length:Int);rw[s1.len];exact w1.at hk) zg) (fun v As' hq=>?_)
   obtain⟨u,rfl,rfl,hu,hur⟩:=hq
   repeat' (first|refine xx ?_|fail)
   refine fa_r (fun _ _=>rfl) (Pm.ent (fin u)) ⟨_,rfl,?_⟩
   rw[hu,hz1]
   exact shadeW_sub
  ·have gp:y.c.pairs[x.H.sub.toNat]?=none:=List.getElem?_eq_none (by omega)
   rw[gp]
   simp only
   repeat' (first|refine xx ?_|(refine xy ?_ ?_<;>intro hb<;>try(exfalso;omega))|(refine k_L ?_;(refine a_dr rfl rfl (kn_t (kn_t (kn_t (kn_h pl_sl)))) (by omega) (kn_t (kn_t (kn_t (kn_h cp_sl)))) ?_))|fail)
   refine fa_r (As':=hp a ({x with xs:=x.xs.set g.toNat (y.s_color 2),gd:=x.gd.drop 1 1,gray:=x.gray.drop 1,sub:=0}:HX)) (fun _ _=>rfl) ?_ ⟨_,rfl,?_⟩
   ·refine Ent.trans (Pm.ent (As1:=[slA 1 iv x.gd x.gray,hdA a ((x.hdr.s_gd (x.gd.drop 1 1) (x.gray.length-1)).s_sub 0),slA 3 wv x.rd x.regs,clA x.cd (x.xs.set g.toNat (y.s_color 2))]) pmt) ?_
    refine(ent_d1 (by rw[hg];simp)).trans ?_
    exact Pm.ent (fin _ (h3:=by simp[HX.hdr,Hdr.s_gd,Hdr.s_sub]))
   ·unfold HX.H Heap.black
    simp only[List.map_set,hg,List.drop_one,List.tail_cons,hgr]
    congr 2
    have gc':(Heap.mk x.room x.used x.born x.regs (x.xs.map (·.c)) x.phase x.hand x.sub (g::r) x.per x.start x.rounds x.forced).getC g=y.c:=gc
    rw[gc']
    rfl
theorem l3sweep_a{a:Nat}{x:HX}(h:Sound x.H)(hph:x.H.phase=3):FnA Tryz.prog 138 [ptr a] (hp a x) (fun v As=>∃z:HX,As=hp a z∧z.H=x.H.sweepU):=by
 obtain⟨q1,q2,q3⟩:=sound_gray h
 have hl:=x.len
 have hnc:x.hdr.nc=x.xs.length:=rfl
 have hhd:x.hdr.hand=x.H.hand:=rfl
 have h0:=h.r1.hand
 refine fnA_of (fun h=>fn138 (by simp) h) ?_
 unfold Heap.sweepU
 by_cases hh:x.H.hand=x.H.cells.length
 ·rw[if_pos hh]
  repeat' (first|refine xx ?_|(refine xy ?_ ?_<;>intro hb<;>try(exfalso;omega))|(refine k_L ?_;(refine g_c rfl (l3phase_a (x:=x)) (fun v As' hq=>?_);subst hq))|fail)
  exact fa_r (fun _ _=>rfl) (Pm.ent (fin (x.ph 4 0))) ⟨_,rfl,ph_H rfl⟩
 ·rw[if_neg hh]
  obtain⟨k,hk⟩:=Int.eq_ofNat_of_zero_le h0.1
  have hk':x.hdr.hand=k:=hk
  obtain⟨y,gy,gc⟩:=HX.at (x:=x) (i:=k) (by omega)
  have gk:=HX.gc gy
  have gy':x.xs[x.hdr.hand.toNat]?=some y:=by rw[hk'];exact gy
  have hpl:=h.r2.pl (List.mem_of_getElem? gc)
  have hus:=h.r3
  have hnn:=pairsN_nonneg x.H.cells
  have hun:=pairsN_units h.r2
  have hrm:=h.r1.room
  unfold R3 at hus
  have hud:x.hdr.used=x.H.used:=rfl
  rw[hk,gk]
  repeat' (first|refine xx ?_|(refine xy ?_ ?_<;>intro hb<;>try(exfalso;omega))|(refine k_L ?_;(refine a_c0 CS.zero gy' rfl rfl rfl rfl rfl rfl rfl ?_))|fail)
  ·refine fa_n (fun _ _=>rfl) (Pm.ent (fin {x with used:=x.used-(1+y.c.pairs.length),xs:=x.xs.set x.hdr.hand.toNat CS.zero,hand:=x.hand+1})) ⟨_,rfl,?_⟩
   rw[if_pos ⟨by assumption,by assumption⟩]
   show({x.H with used:=x.used-(1+y.c.pairs.length),cells:=(x.xs.set x.hdr.hand.toNat CS.zero).map (·.c),hand:=x.hand+1}:Heap)=_
   rw[List.map_set,hk',show x.hand=k from hk]
   rfl
  all_goals refine fa_n (fun _ _=>rfl) (Pm.ent (fin {x with xs:=x.xs.set x.hdr.hand.toNat (y.s_color 0),hand:=x.hand+1})) ⟨_,rfl,?_⟩
  all_goals rw[if_neg (fun h=>by first|exact absurd h.1 (by assumption)|exact absurd h.2 (by assumption))]
  all_goals show({x.H with cells:=(x.xs.set x.hdr.hand.toNat (y.s_color 0)).map (·.c),hand:=x.hand+1}:Heap)=_
  all_goals rw[List.map_set,hk',show x.hand=k from hk]
  all_goals rfl
theorem l3free_q{m:Mem}{a:Nat}{x:HX}(h:Has m (hp a x)):Qt Tryz.prog 91 [ptr a] m (.int .i64 (frG x.H x.xs.length)):=by
 have hb0:=h.lens
 have hl:=x.len
 have hnc:x.hdr.nc=x.xs.length:=rfl
 refine qt_of (fnA_of (fun h=>fn91 (by simp) h) ?_)
 obtain⟨f1,f2,f3,f4⟩:=frG_ok x.H x.xs.length
 repeat' (first|refine xx ?_|fail)
 refine g_range x.xs.length (fun _:Unit=>[(0,.v (ptr a)),(8,.v (.slice x.cd.a x.xs.length x.cd.cap))]) (fun _=>[ro m]) (fun i _=>∀j:Nat,j<i→(x.H.getC j).state≠0) () (fun j hj=>by omega) (fun i _ hi hv=>?_) (fun _ hv=>?_)
 ·obtain⟨y,gy,gc⟩:=HX.at hi
  have gk:=HX.gc gy
  repeat' (first|refine xx ?_|(refine xy ?_ ?_<;>intro hb<;>try(exfalso;omega))|fail)
  ·refine fa_q (by simp) (fun _ _=>rfl) ?_
   congr 1
   rcases Int.lt_or_le (frG x.H x.xs.length) i with e|e
   ·have h1:=(f3 (by omega)).2
    have h2:=hv (frG x.H x.xs.length).toNat (by omega)
    rw[show(((frG x.H x.xs.length).toNat:Nat):Int)=frG x.H x.xs.length by omega]at h2
    exact absurd h1 h2
   ·rcases Int.lt_or_le i (frG x.H x.xs.length)with e2|e2
    ·exact absurd (by rw[gk];assumption) (f4 i hi e2)
    ·omega
  ·refine r_nx () (fun j hj=>?_)
   by_cases e:j=i
   ·subst e;rw[gk];assumption
   ·exact hv j (by omega)
 ·repeat' (first|refine xx ?_|fail)
  refine fa_q (by simp) (fun _ _=>rfl) ?_
  congr 1
  rcases Int.lt_or_le (frG x.H x.xs.length) x.xs.length with e|e
  ·have h1:=(f3 (by omega)).2
   have h2:=hv (frG x.H x.xs.length).toNat (by omega)
   rw[show(((frG x.H x.xs.length).toNat:Nat):Int)=frG x.H x.xs.length by omega]at h2
   exact absurd h1 h2
  ·rw[hnc];omega
theorem lead_moved{H K:Heap}{f u:Int}{w:Word}(hf:Formed H w)(hw:w.kind=2→(H.getC w.at_).state=1)(h0:0≤f)(hfu:f<u)(hsu:(H.getC u).state=1)(hK:∀j:Int,K.getC j=if j.toNat=u.toNat then Cell.gone f else if j.toNat=f.toNat then H.getC u else H.getC j):K.lead w=w.redir u f:=by
 unfold Heap.lead Word.redir
 by_cases hk:w.kind=2
 ·have hat:=hf.at hk
  have h1:=hw hk
  by_cases e:w.at_=u
  ·have:K.getC w.at_=Cell.gone f:=by rw[hK,if_pos (by omega)]
   rw[this,if_pos ⟨hk,rfl⟩,if_pos ⟨hk,e⟩]
   have:w.num=0:=by
    rcases hf with x|x|x
    ·omega
    ·omega
    ·exact x.2.1
   cases w
   simp only at hk this
   simp only[Cell.gone,hk,this]
  ·have n1:¬(w.kind=2∧(K.getC w.at_).state=2):=by
    rintro⟨_,h2⟩
    rw[hK,if_neg (by omega)]at h2
    split at h2<;>omega
   rw[if_neg n1,if_neg (fun h=>e h.2)]
 ·have n1:¬(w.kind=2∧(K.getC w.at_).state=2):=fun h=>hk h.1
  rw[if_neg n1,if_neg (fun h=>hk h.1)]
theorem l3move_a{a:Nat}{x:HX}(h:Sound x.H)(hph:x.H.phase=4):FnA Tryz.prog 139 [ptr a] (hp a x) (fun v As=>∃z:HX,As=hp a z∧z.H=x.H.moveU):=by
 obtain⟨q1,q2,q3⟩:=sound_gray h
 have hl:=x.len
 have hnc:x.hdr.nc=x.xs.length:=rfl
 have hnr:x.hdr.nr=x.regs.length:=rfl
 refine fnA_of (fun h=>fn139 (by simp) h) ?_
 unfold Heap.moveU
 rw[hl]
 obtain⟨f1,f2,f3,f4⟩:=frG_ok x.H x.xs.length
 obtain⟨u1,u2,u3,u4⟩:=luG_ok x.H x.xs.length
 generalize hv1:frG x.H x.xs.length=f at*
 generalize hv2:luG x.H x.xs.length=u at*
 repeat' (first|refine xx ?_|(refine k_L ?_;(refine a_cq rfl (fun m hm=>l3free_q (x:=x) (sep_has hm pmt)) ?_))|fail)
 rw[hv1]
 refine v_mono (Q:=seqA (Jx (fun _:Unit=>[(0,.v (ptr a)),(2,.v (.int .i64 f)),(3,.v (.int .i64 u))]) (fun _=>hp a x) (fun _=>True)) (fun _ _ _=>False)) ?_ ?_
 ·refine v_blk ?_
  refine v_loop (fun k:Nat=>[(0,.v (ptr a)),(2,.v (.int .i64 f)),(3,.v (.int .i64 ((k:Int)-1)))]) (fun _=>hp a x) (fun n k=>n=k∧k≤x.xs.length∧luG x.H k=u) ⟨_,x.xs.length,⟨rfl,rfl,rfl,trivial⟩,Ent.refl _,rfl,Nat.le_refl _,hv2⟩ ?_
  rintro n k ⟨rfl,hk,hlu⟩
  cases n with
  |zero=>
   have hu1:u= -1:=hlu.symm
   subst hu1
   repeat' (first|refine xx ?_|fail)
   exact j_i () trivial
  |succ n=>
   obtain⟨y,gy,gc⟩:=HX.at (x:=x) (i:=n) (by omega)
   have gk:=HX.gc gy
   have eu:luG x.H (n+1)=if y.c.state=1 then(n:Int)else luG x.H n:=by show(if _ then _ else _)=_;rw[gk]
   have en:((n+1:Nat):Int)-1=n:=by omega
   rw[en]
   repeat' (first|refine xx ?_|(refine xy ?_ ?_<;>intro hb<;>try(exfalso;omega))|fail)
   ·exact⟨n,n,by omega,⟨rfl,rfl,rfl,trivial⟩,Ent.refl _,rfl,by omega,by rw[eu,if_neg (by assumption)]at hlu;exact hlu⟩
   ·have hun:u=n:=by rw[←hlu,eu,if_pos (by assumption)]
    subst hun
    exact j_i () trivial
 rintro y S' As' hq
 cases y with
 |ret=>exact hq.elim
 |ext i=>exact hq.elim
 |nrm=>
 obtain⟨_,hl',he',_⟩:=hq
 refine v_weak _ hl' (VA.ent he' ?_)
 by_cases hfu:u≤f
 ·rw[if_pos hfu]
  repeat' (first|refine xx ?_|(refine xy ?_ ?_<;>intro hb<;>try(exfalso;omega))|(refine k_L ?_;(refine g_c rfl (l3phase_a (x:=x)) (fun v As' hq=>?_);subst hq))|fail)
  exact fa_r (fun _ _=>rfl) (Pm.ent (fin (x.ph 5 0))) ⟨_,rfl,ph_H rfl⟩
 ·rw[if_neg hfu]
  have sf:=(f3 (by omega)).2
  have su:=u3 (by omega)
  have fu0:f<u:=by omega
  obtain⟨fn,rfl⟩:=Int.eq_ofNat_of_zero_le f1
  obtain⟨un,rfl⟩:=Int.eq_ofNat_of_zero_le (by omega:0≤u)
  obtain⟨yf,gf,_⟩:=HX.at (x:=x) (i:=fn) (by omega)
  obtain⟨yu,gu,_⟩:=HX.at (x:=x) (i:=un) (by omega)
  have cf:=HX.gc gf
  have cu:=HX.gc gu
  have gu2:(x.xs.set fn yu)[un]?=some yu:=by rw[List.getElem?_set,if_neg (by omega)];exact gu
  have lf:=(List.getElem?_eq_some_iff.1 gf).1
  have lu:=(List.getElem?_eq_some_iff.1 gu).1
  repeat' (first|refine xx ?_|(refine xy ?_ ?_<;>intro hb<;>try(exfalso;omega))|fail)
  refine LA.ent (Bs:=[slA 8 csv x.cd x.xs,prA x.xs,hdA a x.hdr,slA 3 wv x.rd x.regs,slA 1 iv x.gd x.gray]) ?_ ?_
  ·refine Ent.trans (Pm.ent (As1:=[clA x.cd x.xs,hdA a x.hdr,slA 3 wv x.rd x.regs,slA 1 iv x.gd x.gray]) pmt) ?_
   exact cl_open.trans (Pm.ent pmt)
  refine a_st rfl rfl rfl rfl (up_h (u_cell (y':=yu) gf)) ?_
  repeat' (first|refine xx ?_|fail)
  refine a_st rfl rfl rfl rfl (up_h (u_cell (y':=CS.gone fn) gu2)) ?_
  refine LA.ent (Bs:=hp a ({x with xs:=(x.xs.set fn yu).set un (CS.gone fn)}:HX)) ?_ ?_
  ·refine Ent.trans (Pm.ent (As1:=[prA x.xs,slA 8 csv x.cd ((x.xs.set fn yu).set un (CS.gone fn)),hdA a x.hdr,slA 3 wv x.rd x.regs,slA 1 iv x.gd x.gray]) pmt) ?_
   refine(pr_move gf gu (by omega) (g:=CS.gone fn) rfl rfl).trans ?_
   refine Ent.trans (Pm.ent (As1:=[slA 8 csv x.cd ((x.xs.set fn yu).set un (CS.gone fn)),prA ((x.xs.set fn yu).set un (CS.gone fn)),hdA a x.hdr,slA 3 wv x.rd x.regs,slA 1 iv x.gd x.gray]) pmt) ?_
   refine cl_close.trans ?_
   exact Pm.ent (fin _ (h2:=by simp[HX.hdr]) (e1:=by simp[HX.hdr]))
  repeat' (first|refine xx ?_|fail)
  have hC:∀(L:List Word) (j:Int),(HX.H {x with xs:=(x.xs.set fn yu).set un (CS.gone fn),regs:=L}).getC j=if j.toNat=((un:Nat):Int).toNat then Cell.gone fn else if j.toNat=((fn:Nat):Int).toNat then x.H.getC un else x.H.getC j:=fun L j=>by
   rw[getC_L]
   show getL (((x.xs.set fn yu).set un (CS.gone fn)).map (·.c)) j=_
   rw[List.map_set,List.map_set,getL_set (by simp;omega),getL_set (by simp;omega),Int.toNat_natCast,Int.toNat_natCast,cu]
   rfl
  refine g_range x.regs.length (fun q:List Word=>[(0,.v (ptr a))]) (fun q=>hp a ({x with xs:=(x.xs.set fn yu).set un (CS.gone fn),regs:=q}:HX)) (fun i q=>q=(x.regs.take i).map (fun w=>w.redir un fn)++x.regs.drop i) x.regs (by simp) (fun i q hi hv=>?_) (fun q hv=>?_)
  ·subst hv
   obtain⟨w,gw⟩:∃w,x.regs[i]?=some w:=⟨_,List.getElem?_eq_getElem hi⟩
   obtain⟨wf,wu⟩:=reg_used h.r4 (show w∈x.H.regs from List.mem_of_getElem? gw)
   have hlm:((x.regs.take i).map (fun w=>w.redir un fn)).length=i:=by rw[List.length_map,List.length_take];omega
   have gw2:((x.regs.take i).map (fun w=>w.redir un fn)++x.regs.drop i)[i]?=some w:=by
    rw[List.getElem?_append_right (by omega),hlm,Nat.sub_self,List.getElem?_drop];exact gw
   have nx:∀w',((x.regs.take i).map (fun w=>w.redir un fn)++x.regs.drop i).set i w'=(x.regs.take i).map (fun w=>w.redir un fn)++w'::x.regs.drop (i+1):=fun w'=>by
    rw[List.set_append_right _ _ (by omega),hlm,Nat.sub_self,List.drop_eq_getElem_cons hi];rfl
   have nw:x.regs[i]=w:=(List.getElem?_eq_some_iff.1 gw).2
   have nx2:∀w',w'=w.redir un fn→(x.regs.take i).map (fun w=>w.redir un fn)++w'::x.regs.drop (i+1)=(x.regs.take (i+1)).map (fun w=>w.redir un fn)++x.regs.drop (i+1):=fun w' e=>by
    rw[List.take_add_one,gw,e];simp
   generalize hL:(x.regs.take i).map (fun w=>w.redir un fn)++x.regs.drop i=L at*
   have hLl:L.length=x.regs.length:=by rw[←hL,List.length_append,hlm,List.length_drop];omega
   have hld:=lead_moved (H:=x.H) (K:=HX.H {x with xs:=(x.xs.set fn yu).set un (CS.gone fn),regs:=L}) wf (fun hk=>(wu hk).1) f1 fu0 su (hC L)
   have hnL:(HX.hdr {x with xs:=(x.xs.set fn yu).set un (CS.gone fn),regs:=L}).nr=L.length:=rfl
   repeat' (first|refine xx ?_|(refine k_L ?_;(refine k_q ?_;refine a_q rfl (fun m hm=>qt_e (l1resolve_q (x:={x with xs:=(x.xs.set fn yu).set un (CS.gone fn),regs:=L}) (sep_has hm pmt) (fun hk=>by have:=wf.at hk;rw[HX.len];simp;omega)) (by rw[hld])) ?_))|fail)
   refine r_nx (L.set i (w.redir un fn)) ?_ (he:=Pm.ent (fin _ (h1:=by simp[HX.hdr])))
   rw[nx]
   exact nx2 _ rfl
  ·subst hv
   repeat' (first|refine xx ?_|(refine xy ?_ ?_<;>intro hb<;>try(exfalso;omega))|fail)
   refine fa_n (fun _ _=>rfl) (Pm.ent pmt) ⟨_,rfl,?_⟩
   unfold HX.H Heap.moved
   simp only[List.map_set,List.take_of_length_le (Nat.le_refl _),List.drop_length,List.append_nil,Int.toNat_natCast]
   have cu':(Heap.mk x.room x.used x.born x.regs (x.xs.map (·.c)) x.phase x.hand x.sub x.gray x.per x.start x.rounds x.forced).getC un=yu.c:=cu
   rw[cu']
   rfl
theorem u_pair{cd:D}{ys:List CS}{i k:Nat}{y:CS}{p p':Pair}(hi:ys[i]?=some y)(hk:y.c.pairs[k]?=some p):UpA (clA cd ys) y.d.b (y.d.o+k*6) (pv p') (clA cd (ys.set i (y.s_pair k p'))):=up_cp (j:=0) hi hk (by simp[pv]) rfl
theorem l3mend_a{a:Nat}{x:HX}(h:Sound x.H)(hph:x.H.phase=5):FnA Tryz.prog 140 [ptr a] (hp a x) (fun v As=>∃z:HX,As=hp a z∧z.H=x.H.mendU):=by
 obtain⟨q1,q2,q3⟩:=sound_gray h
 have hl:=x.len
 have hnc:x.hdr.nc=x.xs.length:=rfl
 have hhd:x.hdr.hand=x.H.hand:=rfl
 have hsb:x.hdr.sub=x.H.sub:=rfl
 have h0:=h.r1.hand
 have hs0:=h.r1.sub
 refine fnA_of (fun h=>fn140 (by simp) h) ?_
 unfold Heap.mendU
 by_cases hh:x.H.hand=x.H.cells.length
 ·rw[if_pos hh]
  repeat' (first|refine xx ?_|(refine xy ?_ ?_<;>intro hb<;>try(exfalso;omega))|(refine k_L ?_;(refine g_c rfl (l3phase_a (x:=x)) (fun v As' hq=>?_);subst hq))|fail)
  exact fa_r (fun _ _=>rfl) (Pm.ent (fin (x.ph 6 x.xs.length))) ⟨_,rfl,ph_H (by rw[if_pos rfl,hl])⟩
 ·rw[if_neg hh]
  obtain⟨k,hk⟩:=Int.eq_ofNat_of_zero_le h0.1
  have hk':x.hdr.hand=k:=hk
  obtain⟨y,gy,gc⟩:=HX.at (x:=x) (i:=k) (by omega)
  have gk:=HX.gc gy
  have gy':x.xs[x.hdr.hand.toNat]?=some y:=by rw[hk'];exact gy
  have hpl:=h.r2.pl (List.mem_of_getElem? gc)
  rw[hk,gk]
  by_cases hlt:x.H.sub<y.c.pairs.length
  ·obtain⟨s,hs⟩:=Int.eq_ofNat_of_zero_le hs0.1
   have hs':x.hdr.sub=s:=hs
   obtain⟨p,gp⟩:∃p,y.c.pairs[s]?=some p:=⟨_,List.getElem?_eq_getElem (by omega)⟩
   have gp':y.c.pairs[x.hdr.sub.toNat]?=some p:=by rw[hs'];exact gp
   rw[hs,show((s:Int)).toNat=s by omega,gp]
   simp only
   obtain⟨f1,f2,_⟩:=h.r4.pairs k y.c gc s p gp
   repeat' (first|refine xx ?_|(refine xy ?_ ?_<;>intro hb<;>try(exfalso;omega))|(refine k_L ?_;(refine k_c ?_;first|refine a_cq rfl (fun m hm=>l1resolve_q (x:=x) (w:=p.key) (sep_has hm pmt) (fun hk=>f1.at hk)) ?_|refine a_cq rfl (fun m hm=>l1resolve_q (x:=x) (w:=p.val) (sep_has hm pmt) (fun hk=>f2.at hk)) ?_))|fail)
   refine a_st rfl rfl rfl rfl (up_t (up_t (up_h (u_pair (p':=⟨x.H.lead p.key,x.H.lead p.val⟩) gy' gp')))) ?_
   repeat' (first|refine xx ?_|fail)
   refine fa_r (fun _ _=>rfl) (Pm.ent (fin ({x with xs:=x.xs.set x.hdr.hand.toNat (y.s_pair x.hdr.sub.toNat ⟨x.H.lead p.key,x.H.lead p.val⟩),sub:=x.sub+1}:HX))) ⟨_,rfl,?_⟩
   show({x.H with cells:=((x.xs.set x.hdr.hand.toNat (y.s_pair x.hdr.sub.toNat ⟨x.H.lead p.key,x.H.lead p.val⟩)).map (·.c)),sub:=x.sub+1}:Heap)=_
   rw[List.map_set,hk',hs',show x.sub=s from hs]
   unfold CS.s_pair
   simp only[Int.toNat_natCast]
   rw[hk]
   rfl
  ·have gp:y.c.pairs[x.H.sub.toNat]?=none:=List.getElem?_eq_none (by omega)
   rw[gp]
   simp only
   repeat' (first|refine xx ?_|(refine xy ?_ ?_<;>intro hb<;>try(exfalso;omega))|fail)
   refine fa_n (fun _ _=>rfl) (Pm.ent (fin ({x with hand:=x.hand+1,sub:=0}:HX))) ⟨_,rfl,?_⟩
   show({x.H with hand:=x.hand+1,sub:=0}:Heap)=_
   rw[show x.hand=k from hk]
theorem l3close_a{a:Nat}{x:HX}(h:Sound x.H)(hph:x.H.phase=6):FnA Tryz.prog 141 [ptr a] (hp a x) (fun v As=>∃z:HX,As=hp a z∧z.H=x.H.closeU):=by
 obtain⟨q1,q2,q3⟩:=sound_gray h
 have hl:=x.len
 have hnc:x.hdr.nc=x.xs.length:=rfl
 have hhd:x.hdr.hand=x.H.hand:=rfl
 have h0:=h.r1.hand
 have hrd:=h.r1.rounds
 have hrd':x.hdr.rounds=x.H.rounds:=rfl
 have hre:(x.ph 0 0).hdr.rounds=x.H.rounds:=rfl
 refine fnA_of (fun h=>fn141 (by simp) h) ?_
 refine v_kn (p:=x.xs.length≤x.cd.cap) (kn_t (kn_t (kn_h kc_cl))) (fun hcap=>?_)
 have hcap':x.hdr.cd.cap=x.cd.cap:=rfl
 unfold Heap.closeU
 by_cases hh:x.H.hand=0
 ·rw[if_pos hh]
  repeat' (first|refine xx ?_|(refine xy ?_ ?_<;>intro hb<;>try(exfalso;omega))|(refine k_L ?_;(refine g_c rfl (l3phase_a (x:=x)) (fun v As' hq=>?_);subst hq))|fail)
  ·refine fa_r (fun _ _=>rfl) (Pm.ent (fin ({x.ph 0 0 with rounds:=x.rounds+1}:HX))) ⟨_,rfl,?_⟩
   rw[if_pos (show x.H.rounds<1000000000 by omega)]
   rfl
  ·refine fa_r (fun _ _=>rfl) (Pm.ent (fin (x.ph 0 0))) ⟨_,rfl,?_⟩
   rw[if_neg (show ¬x.H.rounds<1000000000 by omega)]
   rfl
 ·rw[if_neg hh]
  obtain⟨k,hk⟩:=Int.eq_ofNat_of_zero_le (show 0≤x.H.hand-1 by omega)
  have hk':x.hdr.hand-1=k:=hk
  obtain⟨y,gy,gc⟩:=HX.at (x:=x) (i:=k) (by omega)
  have gk:=HX.gc gy
  have gy':x.xs[(x.hdr.hand-1).toNat]?=some y:=by rw[hk'];exact gy
  have gz:(x.xs.set (x.hdr.hand-1).toNat CS.zero)[(x.hdr.hand-1).toNat]?=some CS.zero:=by
   rw[List.getElem?_set,if_pos rfl,if_pos (List.getElem?_eq_some_iff.1 gy').1]
  have hsh:(x.hdr.s_hand (x.hdr.hand-1)).hand=x.hdr.hand-1:=rfl
  have hsn:(x.hdr.s_hand (x.hdr.hand-1)).nc=x.xs.length:=rfl
  have hsc:(x.hdr.s_hand (x.hdr.hand-1)).cd.cap=x.cd.cap:=rfl
  have ghand:x.H.getC (x.H.hand-1)=y.c:=by rw[hk];exact gk
  have eA:y.c.state=2→x.H.closeA=(x.xs.set (x.hdr.hand-1).toNat CS.zero).map (·.c):=fun e=>by
   unfold Heap.closeA
   rw[ghand,if_pos e,List.map_set];rfl
  have eB:y.c.state≠2→x.H.closeA=x.H.cells:=fun e=>by
   unfold Heap.closeA
   rw[ghand,if_neg e]
  have sA:y.c.state=2→(getL x.H.closeA (x.H.hand-1)).state=0:=fun e=>by
   rw[eA e,List.map_set,getL_set (by rw[List.length_map];omega),if_pos (by rw[hhd])];rfl
  have sB:y.c.state≠2→(getL x.H.closeA (x.H.hand-1)).state=y.c.state:=fun e=>by
   rw[eB e,←getC_L,ghand]
  repeat' (first|refine xx ?_|(refine xy ?_ ?_<;>intro hb<;>try(exfalso;omega))|(refine k_L ?_;first|(refine a_c0 CS.zero gy' rfl rfl rfl rfl rfl rfl rfl ?_)|(refine g_tk rfl rfl ?_))|fail)
  ·have hs2:y.c.state=2:=by assumption
   have hn:x.H.hand=x.H.cells.length:=by omega
   rw[if_pos ⟨hn,sA hs2⟩,eA hs2]
   refine fa_n (As':=hp a ({x with hand:=x.hand-1,xs:=(x.xs.set (x.hdr.hand-1).toNat CS.zero).take (x.hdr.hand-1).toNat}:HX)) (fun _ _=>rfl) ?_ ⟨_,rfl,?_⟩
   ·refine(cl_take (k:=(x.hdr.hand-1).toNat) (by rw[List.length_set];omega)).trans ?_
    exact Pm.ent (fin _ (h2:=by rw[List.length_take,List.length_set];show(x.hdr.hand-1).toNat=_;omega))
   ·show({x.H with hand:=x.hand-1,cells:=(((x.xs.set (x.hdr.hand-1).toNat CS.zero).take (x.hdr.hand-1).toNat).map (·.c))}:Heap)=_
    rw[List.map_take,show(x.hdr.hand-1).toNat=(x.H.hand-1).toNat by omega]
    rfl
  ·have hs2:y.c.state=2:=by assumption
   rw[if_neg (fun h=>by have:=h.1;omega),eA hs2]
   exact fa_n (fun _ _=>rfl) (Pm.ent (fin {x with hand:=x.hand-1,xs:=x.xs.set (x.hdr.hand-1).toNat CS.zero})) ⟨_,rfl,rfl⟩
  ·have hs2:y.c.state≠2:=by assumption
   have hs0:y.c.state=0:=by assumption
   have hn:x.H.hand=x.H.cells.length:=by omega
   rw[if_pos ⟨hn,by rw[sB hs2];exact hs0⟩,eB hs2]
   refine fa_n (As':=hp a ({x with hand:=x.hand-1,xs:=x.xs.take (x.hdr.hand-1).toNat}:HX)) (fun _ _=>rfl) ?_ ⟨_,rfl,?_⟩
   ·refine Ent.trans (Pm.ent (As1:=[clA x.cd x.xs,hdA a ((x.hdr.s_hand (x.hdr.hand-1)).s_cd x.cd (x.hdr.hand-1).toNat),slA 3 wv x.rd x.regs,slA 1 iv x.gd x.gray]) pmt) ?_
    refine(cl_take (k:=(x.hdr.hand-1).toNat) (by omega)).trans ?_
    exact Pm.ent (fin _ (h2:=by rw[List.length_take];show(x.hdr.hand-1).toNat=_;omega))
   ·show({x.H with hand:=x.hand-1,cells:=((x.xs.take (x.hdr.hand-1).toNat).map (·.c))}:Heap)=_
    rw[List.map_take,show(x.hdr.hand-1).toNat=(x.H.hand-1).toNat by omega]
    rfl
  ·have hs2:y.c.state≠2:=by assumption
   have hs0:¬y.c.state=0:=by assumption
   rw[if_neg (fun h=>hs0 (by have:=h.2;rw[sB hs2]at this;exact this)),eB hs2]
   exact fa_n (fun _ _=>rfl) (Pm.ent (fin {x with hand:=x.hand-1})) ⟨_,rfl,rfl⟩
  ·have hs2:y.c.state≠2:=by assumption
   rw[if_neg (fun h=>by have:=h.1;omega),eB hs2]
   exact fa_n (fun _ _=>rfl) (Pm.ent (fin {x with hand:=x.hand-1})) ⟨_,rfl,rfl⟩
theorem l3unit_a{a:Nat}{x:HX}(h:Sound x.H)(hph:x.H.phase≠0):FnA Tryz.prog 104 [ptr a] (hp a x) (fun v As=>∃z:HX,As=hp a z∧z.H=x.H.unitH):=by
 have h5:=h.r1.phase
 have hp':x.hdr.phase=x.H.phase:=rfl
 refine fnA_of (fun h=>fn104 (by simp) h) ?_
 unfold Heap.unitH
 rcases(by omega:x.H.phase=1∨x.H.phase=2∨x.H.phase=3∨x.H.phase=4∨x.H.phase=5∨x.H.phase=6)with e|e|e|e|e|e
 ·have hc:x.H.phase=1:=e
  repeat' (first|refine xx ?_|(refine xy ?_ ?_<;>intro hb<;>try(exfalso;omega))|(refine k_L ?_;(refine g_c rfl (l3roots_a h e) (fun v As' hq=>?_);obtain⟨z,rfl,hz⟩:=hq))|fail)
  refine fa_n (fun _ _=>rfl) (Pm.ent (fin z)) ⟨_,rfl,?_⟩
  rw[hz]
  repeat(first|rw[if_pos e]|rw[if_neg (by omega)])
 ·have hc:x.H.phase=2:=e
  repeat' (first|refine xx ?_|(refine xy ?_ ?_<;>intro hb<;>try(exfalso;omega))|(refine k_L ?_;(refine g_c rfl (l3mark_a h e) (fun v As' hq=>?_);obtain⟨z,rfl,hz⟩:=hq))|fail)
  refine fa_n (fun _ _=>rfl) (Pm.ent (fin z)) ⟨_,rfl,?_⟩
  rw[hz]
  repeat(first|rw[if_pos e]|rw[if_neg (by omega)])
 ·have hc:x.H.phase=3:=e
  repeat' (first|refine xx ?_|(refine xy ?_ ?_<;>intro hb<;>try(exfalso;omega))|(refine k_L ?_;(refine g_c rfl (l3sweep_a h e) (fun v As' hq=>?_);obtain⟨z,rfl,hz⟩:=hq))|fail)
  refine fa_n (fun _ _=>rfl) (Pm.ent (fin z)) ⟨_,rfl,?_⟩
  rw[hz]
  repeat(first|rw[if_pos e]|rw[if_neg (by omega)])
 ·have hc:x.H.phase=4:=e
  repeat' (first|refine xx ?_|(refine xy ?_ ?_<;>intro hb<;>try(exfalso;omega))|(refine k_L ?_;(refine g_c rfl (l3move_a h e) (fun v As' hq=>?_);obtain⟨z,rfl,hz⟩:=hq))|fail)
  refine fa_n (fun _ _=>rfl) (Pm.ent (fin z)) ⟨_,rfl,?_⟩
  rw[hz]
  repeat(first|rw[if_pos e]|rw[if_neg (by omega)])
 ·have hc:x.H.phase=5:=e
  repeat' (first|refine xx ?_|(refine xy ?_ ?_<;>intro hb<;>try(exfalso;omega))|(refine k_L ?_;(refine g_c rfl (l3mend_a h e) (fun v As' hq=>?_);obtain⟨z,rfl,hz⟩:=hq))|fail)
  refine fa_n (fun _ _=>rfl) (Pm.ent (fin z)) ⟨_,rfl,?_⟩
  rw[hz]
  repeat(first|rw[if_pos e]|rw[if_neg (by omega)])
 ·have hc:x.H.phase=6:=e
  repeat' (first|refine xx ?_|(refine xy ?_ ?_<;>intro hb<;>try(exfalso;omega))|(refine k_L ?_;(refine g_c rfl (l3close_a h e) (fun v As' hq=>?_);obtain⟨z,rfl,hz⟩:=hq))|fail)
  refine fa_n (fun _ _=>rfl) (Pm.ent (fin z)) ⟨_,rfl,?_⟩
  rw[hz]
  repeat(first|rw[if_pos e]|rw[if_neg (by omega)])
def Calm(H:Heap)(s0 s:List Bool×List Int)(n:Nat):Prop:=s=s0→∀(k j:Nat) c,k<n→s0.2[k]?=some (j:Int)→H.cells[j]?=some c→RuleC H s0.1 c
noncomputable def keyS(H:Heap)(c:Cell)(p:Pair)(q:List Bool×List Int):List Bool×List Int:=if KeyW c then mkW H q p.key else q
noncomputable def valS(H:Heap)(c:Cell)(p:Pair)(q:List Bool×List Int):List Bool×List Int:=if ValW c∧Hit H q.1 p.key then mkW H q p.val else q
theorem keyS_ok{H:Heap}{c:Cell}{p:Pair}{q:List Bool×List Int}(h:Mk H (Held H) q)(hk:KeyW c→∀j,H.tgt p.key=some j→j<H.cells.length∧Held H j):Mk H (Held H) (keyS H c p q)∧Grow q (keyS H c p q)∧Same q (keyS H c p q)∧(KeyW c→Hit H (keyS H c p q).1 p.key):=by
 unfold keyS
 by_cases hK:KeyW c
 ·rw[if_pos hK]
  obtain⟨a,b,d⟩:=mkW_ok h (hk hK)
  exact⟨a,b,mkW_same _ _ _,fun _=>d⟩
 ·rw[if_neg hK]
  exact⟨h,Grow.refl _,.inl rfl,fun h=>absurd h hK⟩
theorem valS_ok{H:Heap}{c:Cell}{p:Pair}{q:List Bool×List Int}(h:Mk H (Held H) q)(hk:ValW c→Hit H q.1 p.key→∀j,H.tgt p.val=some j→j<H.cells.length∧Held H j):Mk H (Held H) (valS H c p q)∧Grow q (valS H c p q)∧Same q (valS H c p q)∧(ValW c→Hit H q.1 p.key→Hit H (valS H c p q).1 p.val):=by
 unfold valS
 by_cases hK:ValW c∧Hit H q.1 p.key
 ·rw[if_pos hK]
  obtain⟨a,b,d⟩:=mkW_ok h (hk hK.1 hK.2)
  exact⟨a,b,mkW_same _ _ _,fun _ _=>d⟩
 ·rw[if_neg hK]
  exact⟨h,Grow.refl _,.inl rfl,fun h h'=>absurd ⟨h,h'⟩ hK⟩
theorem holds_next{H:Heap}{s q:List Bool×List Int}{c:Cell}{k:Nat}{p:Pair}(gp:c.pairs[k]?=some p)(hv1:Mk H (Held H) q)(hv2:Grow s q)(hv3:Same s q)
 (hv4:q=s→∀p,p∈c.pairs.take k→(KeyW c→Hit H s.1 p.key)∧(ValW c→Hit H s.1 p.key→Hit H s.1 p.val))
 (hk:KeyW c→∀j,H.tgt p.key=some j→j<H.cells.length∧Held H j) (hw:ValW c→Hit H (keyS H c p q).1 p.key→∀j,H.tgt p.val=some j→j<H.cells.length∧Held H j):
 Mk H (Held H) (valS H c p (keyS H c p q))∧Grow s (valS H c p (keyS H c p q))∧Same s (valS H c p (keyS H c p q))∧
 (valS H c p (keyS H c p q)=s→∀p',p'∈c.pairs.take (k+1)→(KeyW c→Hit H s.1 p'.key)∧(ValW c→Hit H s.1 p'.key→Hit H s.1 p'.val)):=by
 obtain⟨a1,a2,a3,a4⟩:=keyS_ok hv1 hk
 obtain⟨b1,b2,b3,b4⟩:=valS_ok a1 hw
 refine⟨b1,(hv2.trans a2).trans b2,(hv3.trans a3 a2.len hv2.len).trans b3 b2.len (hv2.trans a2).len,fun e p' hp'=>?_⟩
 have l1:=hv2.len
 have l2:=a2.len
 have l3:=b2.len
 have el:(valS H c p (keyS H c p q)).2.length=s.2.length:=by rw[e]
 have e1:q=s:=by
  rcases hv3 with h|h
  ·exact h
  ·omega
 have e2:keyS H c p q=s:=by
  rcases a3 with h|h
  ·rw[h];exact e1
  ·omega
 rw[List.take_add_one,List.mem_append]at hp'
 rcases hp' with hp'|hp'
 ·exact hv4 e1 p' hp'
 ·rw[gp]at hp'
  simp only[Option.toList_some,List.mem_singleton]at hp'
  subst hp'
  rw[e2]at a4 b4
  have e3:valS H c p' s=s:=by rw[←e2];rw[e];exact e2.symm
  rw[e3]at b4
  exact⟨a4,b4⟩
theorem l2holds_a{m:Mem}{a:Nat}{x:HX}(h:Has m (hp a x))(h1:R1 x.H)(h2:R2 x.H)(h4:R4 x.H):FnA Tryz.prog 62 [ptr a] [ro m] (fun v As=>∃(sd:D),v=.slice sd.a (heldL x.H).length sd.cap∧As=[slA 1 bv sd (heldL x.H),ro m]):=by
 have hb0:=h.lens
 have hl:=x.len
 have hc1:=h1.cells
 have hc2:=h1.room
 refine fnA_of (fun h=>fn62 (by simp) h) ?_
 repeat' (first|refine xx ?_|(refine k_L ?_;(refine a_mk (f:=bv) (n:=(x.xs.length:Int)) (k:=(x.xs.length:Int)) false (fun _=>rfl) rfl rfl rfl (by omega) (by omega) (fun sd hsd=>?_)))|fail)
 have hm0:=mk0 x.H (Held x.H)
 rw[hl]at hm0
 refine VA.ent (ent_new (f:=iv) (size:=1)) ?_
 have hreg:∀w,w∈x.H.regs→∀j,x.H.tgt w=some j→j<x.H.cells.length∧Held x.H j:=fun w hw j hj=>⟨(tgt_lt h2 (h4.regs w hw).1 hj).1,.reg hw hj⟩
 refine g_range x.regs.length (fun q:PQ=>[(0,.v (ptr a)),(3,.v (.slice sd.a x.xs.length sd.cap)),(4,.v (.slice q.2.a q.1.2.length q.2.cap)),(24,.v (.slice x.rd.a x.regs.length x.rd.cap))]) (fun q=>sqA sd q.2 q.1++[ro m])
  (fun i q=>MkA x.H (Held x.H) q.1∧∀w,w∈x.H.regs.take i→Hit x.H q.1.1 w) (((List.replicate x.xs.length false,[]),⟨none,0⟩):PQ) ⟨hm0,by simp⟩ (fun i q hi hv=>?_) (fun q hv=>?_) (hent:=Pm.ent pmt)
 ·obtain⟨w,gw⟩:∃w,x.regs[i]?=some w:=⟨_,List.getElem?_eq_getElem hi⟩
  have hwm:w∈x.H.regs:=List.mem_of_getElem? gw
  obtain⟨n1,n2,n3⟩:=hv.1.next (hreg w hwm)
  repeat' (first|refine xx ?_|fail)
  refine g_c rfl (l2mark_n (sd:=sd) (kd:=q.2) (w:=w) (s:=q.1) (S:=Held x.H) h h1 h2 (h4.regs w hwm).1 hv.1.ok (hv.1.ok.len.trans hl)) (fun v As' hq=>?_)
  obtain⟨kd',rfl,rfl⟩:=hq
  repeat' (first|refine xx ?_|fail)
  refine r_nx ((mkW x.H q.1 w,kd'):PQ) ⟨n1,fun w' hw'=>?_⟩ (he:=Pm.ent pmt)
  rw[List.take_add_one,List.mem_append]at hw'
  rcases hw' with hw'|hw'
  ·exact(hv.2 w' hw').grow n2
  ·rw[show x.H.regs[i]?=some w from gw]at hw'
   simp only[Option.toList_some,List.mem_singleton]at hw'
   subst hw';exact n3
 ·obtain⟨hv1,hv2⟩:=hv
  rw[List.take_of_length_le (by exact Nat.le_refl _)]at hv2
  repeat' (first|refine xx ?_|fail)
  refine g_range x.xs.length (fun q:PQ=>[(0,.v (ptr a)),(3,.v (.slice sd.a x.xs.length sd.cap)),(4,.v (.slice q.2.a q.1.2.length q.2.cap)),(39,.v (.slice x.cd.a x.xs.length x.cd.cap))]) (fun q=>sqA sd q.2 q.1++[ro m])
   (fun i q=>MkA x.H (Held x.H) q.1∧(∀w,w∈x.H.regs→Hit x.H q.1.1 w)∧∀(j:Nat) c,j<i→x.H.cells[j]?=some c→c.last=2→q.1.1[j]?=some true) q ⟨hv1,hv2,fun j c hj=>by omega⟩ (fun i q hi hv=>?_) (fun q hv=>?_) (hent:=Pm.ent pmt)
  ·obtain⟨hv1,hv2,hv3⟩:=hv
   obtain⟨y,gy,gc⟩:=HX.at hi
   by_cases hr:y.c.last=2
   ·have hst:=last2 h2 gc hr
    obtain⟨n1,n2,n3⟩:=hv1.next (w:=⟨2,0,i⟩) (fun j hj=>by
     rw[tgt_root gc hst]at hj
     cases hj
     exact⟨by omega,.due gc hr⟩)
    repeat' (first|refine xx ?_|(refine xy ?_ ?_<;>intro hb<;>try(exfalso;omega))|fail)
    ·refine g_c rfl (l2mark_n (sd:=sd) (kd:=q.2) (w:=⟨2,0,i⟩) (s:=q.1) (S:=Held x.H) h h1 h2 (formed_at (by omega)) hv1.ok (hv1.ok.len.trans hl)) (fun v As' hq=>?_)
     obtain⟨kd',rfl,rfl⟩:=hq
     repeat' (first|refine xx ?_|fail)
     refine r_nx ((mkW x.H q.1 ⟨2,0,i⟩,kd'):PQ) ⟨n1,fun w' hw'=>(hv2 w' hw').grow n2,fun j c hj hc hl2=>?_⟩ (he:=Pm.ent pmt)
     by_cases e:j=i
     ·subst e
      exact n3 j (tgt_root gc hst)
     ·exact n2.mono j (hv3 j c (by omega) hc hl2)
   ·repeat' (first|refine xx ?_|(refine xy ?_ ?_<;>intro hb<;>try(exfalso;omega))|fail)
    refine r_nx q ⟨hv1,hv2,fun j c hj hc hl2=>?_⟩ (he:=Pm.ent pmt)
    by_cases e:j=i
    ·subst e;rw[gc]at hc;cases hc;exact absurd hl2 hr
    ·exact hv3 j c (by omega) hc hl2
  ·obtain⟨hv1,hv2,hv3⟩:=hv
   have hfull:HFull x.H q.1.1:=⟨hv2,fun i c hc hr=>hv3 i c (by have:=(List.getElem?_eq_some_iff.1 hc).1;omega) hc hr⟩
   have hall:=hv1.all
   have hok:=hv1.ok
   clear hv1 hv2 hv3
   repeat' (first|refine xx ?_|fail)
   refine v_blk ?_
   refine v_loop (fun q:PQ×Int=>[(0,.v (ptr a)),(3,.v (.slice sd.a x.xs.length sd.cap)),(4,.v (.slice q.1.2.a q.1.1.2.length q.1.2.cap)),(9,.v (.int .i64 q.2))]) (fun q=>sqA sd q.1.2 q.1.1++[ro m])
    (fun k q=>k=2*(x.xs.length-q.1.1.2.length)+(if q.2=q.1.1.2.length then 0 else 1)∧MkA x.H (Held x.H) q.1.1∧HFull x.H q.1.1.1∧(q.2=q.1.1.2.length→∀(i:Nat) c,q.1.1.1[i]?=some true→x.H.cells[i]?=some c→RuleC x.H q.1.1.1 c))
    ⟨_,(q,-1),⟨rfl,rfl,rfl,rfl,trivial⟩,Pm.ent pmt,rfl,⟨hok,hall⟩,hfull,fun e=>by dsimp only at e;omega⟩ ?_
   clear hok hfull hall
   rintro k ⟨⟨s0,kd0⟩,bf⟩ ⟨rfl,hma,hfull,hend⟩
   dsimp only at hma hfull hend⊢
   have hcnt0:=hma.ok.cnt
   by_cases hbf:bf=(s0.2.length:Int)
   ·have e:=held_end hma.ok hfull (hend hbf)
    repeat' (first|refine xx ?_|(refine xy ?_ ?_<;>intro hb<;>try(exfalso;omega))|fail)
    exact fa_r (As':=[slA 1 bv sd (heldL x.H),ro m]) (fun _ _=>rfl) (by rw[←e];exact Pm.ent pmt) ⟨sd,by rw[heldL_len,hl],rfl⟩
   ·repeat' (first|refine xx ?_|(refine xy ?_ ?_<;>intro hb<;>try(exfalso;omega))|fail)
    refine v_blk ?_
    refine v_loop (fun q:PQ×Nat=>[(0,.v (ptr a)),(3,.v (.slice sd.a x.xs.length sd.cap)),(4,.v (.slice q.1.2.a q.1.1.2.length q.1.2.cap)),(9,.v (.int .i64 s0.2.length)),(10,.v (.int .i64 q.2))]) (fun q=>sqA sd q.1.2 q.1.1++[ro m])
     (fun k q=>k=2*q.1.1.1.count false+q.1.1.2.length-q.2∧q.2≤q.1.1.2.length∧Mk x.H (Held x.H) q.1.1∧Grow s0 q.1.1∧Same s0 q.1.1∧Calm x.H s0 q.1.1 q.2)
     ⟨_,((s0,kd0),0),⟨rfl,rfl,rfl,rfl,rfl,trivial⟩,Pm.ent pmt,rfl,Nat.zero_le _,hma.ok,Grow.refl _,.inl rfl,fun _ k j c hk=>by dsimp only at hk;omega⟩ ?_
    rintro k ⟨⟨s,kd⟩,hd⟩ ⟨rfl,hle,hok,hgr,hsm,hcalm⟩
    dsimp only at hle hok hgr hsm hcalm⊢
    have hcnt:=hok.cnt
    have hgl:=hgr.len
    by_cases hlt:hd<s.2.length
    ·obtain⟨g,gg⟩:∃g,s.2[hd]?=some g:=⟨_,List.getElem?_eq_getElem hlt⟩
     obtain⟨j,rfl,hj⟩:=hok.stk g (List.mem_of_getElem? gg)
     have hjl:j<x.xs.length:=by
      have:=(List.getElem?_eq_some_iff.1 hj).1
      have:=hok.len
      omega
     obtain⟨y,gy,gc⟩:=HX.at hjl
     have hpl:=h2.pl (List.mem_of_getElem? gc)
     have hpr:=h4.pairs j y.c gc
     have hHj:=hok.snd j hj
     repeat' (first|refine xx ?_|(refine xy ?_ ?_<;>intro hb<;>try(exfalso;omega))|fail)
     refine g_range y.c.pairs.length (fun q:PQ=>[(0,.v (ptr a)),(3,.v (.slice sd.a x.xs.length sd.cap)),(4,.v (.slice q.2.a q.1.2.length q.2.cap)),(9,.v (.int .i64 s0.2.length)),(10,.v (.int .i64 hd)),(11,.box (csw y)),(79,.v (.slice y.d.a y.c.pairs.length y.d.cap))]) (fun q=>sqA sd q.2 q.1++[ro m])
      (fun k q=>Mk x.H (Held x.H) q.1∧Grow s q.1∧Same s q.1∧(q.1=s→∀p,p∈y.c.pairs.take k→(KeyW y.c→Hit x.H s.1 p.key)∧(ValW y.c→Hit x.H s.1 p.key→Hit x.H s.1 p.val))) ((s,kd):PQ) ⟨hok,Grow.refl _,.inl rfl,fun _=>by simp⟩ (fun k q hk hv=>?_) (fun q hv=>?_) (hent:=Pm.ent pmt)
     ·obtain⟨p,gp⟩:∃p,y.c.pairs[k]?=some p:=⟨_,List.getElem?_eq_getElem hk⟩
      have hpm:=List.mem_of_getElem? gp
      obtain⟨hv1,hv2,hv3,hv4⟩:=hv
      obtain⟨k1,v1,_⟩:=hpr k p gp
      have ck:KeyW y.c→∀j,x.H.tgt p.key=some j→j<x.H.cells.length∧Held x.H j:=fun hK j' hj'=>⟨(tgt_lt h2 k1 hj').1,.key hHj gc hpm hK hj'⟩
      have cv:ValW y.c→Hit x.H (keyS x.H y.c p q.1).1 p.key→∀j,x.H.tgt p.val=some j→j<x.H.cells.length∧Held x.H j:=fun hV hH j' hj'=>
       ⟨(tgt_lt h2 v1 hj').1,.val hHj gc hpm hV (fun i hi=>(keyS_ok hv1 ck).1.snd i (hH i hi)) hj'⟩
      obtain⟨n1,n2,n3,n4⟩:=holds_next gp hv1 hv2 hv3 hv4 ck cv
      obtain⟨a1,a2,_,_⟩:=keyS_ok (q:=q.1) hv1 ck
      refine v_seq ?_
      repeat' (first
       |(refine k_L ?_;first|(refine k_i ?_;refine g_i rfl rfl ?_)|(refine k_ls ?_;refine g_ls rfl ?_)|(refine k_st ?_;refine g_sw rfl rfl rfl rfl (Nat.le_of_ble_eq_true rfl) ?_)|(refine k_al ?_;refine a_al ?_))
       |refine a_n ?_
       |(refine k_V ?_;refine v_reg ?_)
       |refine s_n ?_
       |refine sk_zero ?_
       |refine sk_succ ?_
       |refine wk_nil ?_
       |refine wk_cons ?_)
      refine g_cut (fun q2:PQ=>[(0,.v (ptr a)),(3,.v (.slice sd.a x.xs.length sd.cap)),(4,.v (.slice q2.2.a q2.1.2.length q2.2.cap)),(9,.v (.int .i64 s0.2.length)),(10,.v (.int .i64 hd)),(11,.box (csw y)),(13,.box (pv p)),(79,.v (.slice y.d.a y.c.pairs.length y.d.cap)),(80,.v (.int .i64 y.c.pairs.length)),(81,.v (.int .i64 k))]) (fun q2=>sqA sd q2.2 q2.1++[ro m]) (fun q2=>q2.1=keyS x.H y.c p q.1) ?_ (fun q2 hq2=>?_)
      ·by_cases hK:KeyW y.c
       ·have hkw:=hK
        unfold KeyW at hkw
        repeat' (first|refine xx ?_|(refine xy ?_ ?_<;>intro hb<;>try(exfalso;omega))|fail)
        refine g_c rfl (l2mark_n (sd:=sd) (kd:=q.2) (w:=p.key) (s:=q.1) (S:=Held x.H) h h1 h2 k1 hv1 (hv1.len.trans hl)) (fun v As' hq=>?_)
        obtain⟨kd',rfl,rfl⟩:=hq
        repeat' (first|refine xx ?_|fail)
        exact j_i ((mkW x.H q.1 p.key,kd'):PQ) (by unfold keyS;rw[if_pos hK])
       ·have hkw:=hK
        unfold KeyW at hkw
        repeat' (first|refine xx ?_|(refine xy ?_ ?_<;>intro hb<;>try(exfalso;omega))|fail)
        exact j_i q (by unfold keyS;rw[if_neg hK])
      ·obtain⟨q2,kd2⟩:=q2
       dsimp only at hq2⊢
       subst hq2
       have hat:=fun hk2=>k1.at hk2
       have yes:∀hH:Hit x.H (keyS x.H y.c p q.1).1 p.key,∀hV:ValW y.c,valS x.H y.c p (keyS x.H y.c p q.1)=mkW x.H (keyS x.H y.c p q.1) p.val:=fun hH hV=>by unfold valS;rw[if_pos ⟨hV,hH⟩]
       have nay:¬(ValW y.c∧Hit x.H (keyS x.H y.c p q.1).1 p.key)→valS x.H y.c p (keyS x.H y.c p q.1)=keyS x.H y.c p q.1:=fun hn=>by unfold valS;rw[if_neg hn]
       have a3:=a1.len.trans hl
       by_cases hk2:p.key.kind=2
       ·have ht:x.H.tgt p.key=some (x.H.lead p.key).at_.toNat:=by unfold Heap.tgt;rw[if_pos (lead_kind.2 hk2)]
        have hlt:=tgt_lt h2 k1 ht
        generalize(x.H.lead p.key).at_.toNat=kk at ht hlt
        have e:x.H.lead p.key=⟨2,(x.H.lead p.key).num,(kk:Int)⟩:=by rw[←hlt.2.1,←hlt.2.2]
        obtain⟨b,gb⟩:∃b,(keyS x.H y.c p q.1).1[kk]?=some b:=⟨_,List.getElem?_eq_getElem (by rw[a1.len];exact hlt.1)⟩
        have hHb:Hit x.H (keyS x.H y.c p q.1).1 p.key↔b=true:=by
         constructor
         ·intro hH
          have:=hH kk ht
          rw[gb]at this;simpa using this
         ·intro hb j' hj'
          rw[ht]at hj';cases hj'
          rw[gb,hb]
        by_cases hV:ValW y.c
        ·have hvw:=hV
         unfold ValW at hvw
         cases b with
         |true=>
          rw[yes (hHb.2 rfl) hV]at n1 n2 n3 n4
          repeat' (first|refine xx ?_|(refine xy ?_ ?_<;>intro hb<;>try(exfalso;omega))|(refine k_L ?_;(refine k_c ?_;refine a_cq rfl (fun m hm=>qt_e (l1resolve_q (has_g h hm) hat) (congrArg wa e)) ?_))|fail)
          refine g_c rfl (l2mark_n (sd:=sd) (kd:=kd2) (w:=p.val) (s:=keyS x.H y.c p q.1) (S:=Held x.H) h h1 h2 v1 a1 a3) (fun v As' hq=>?_)
          obtain⟨kd',rfl,rfl⟩:=hq
          repeat' (first|refine xx ?_|fail)
          exact r_nx ((mkW x.H (keyS x.H y.c p q.1) p.val,kd'):PQ) ⟨n1,n2,n3,n4⟩ (he:=Pm.ent pmt)
         |false=>
          rw[nay (fun h=>by have:=hHb.1 h.2;cases this)]at n1 n2 n3 n4
          repeat' (first|refine xx ?_|(refine xy ?_ ?_<;>intro hb<;>try(exfalso;omega))|(refine k_L ?_;(refine k_c ?_;refine a_cq rfl (fun m hm=>qt_e (l1resolve_q (has_g h hm) hat) (congrArg wa e)) ?_))|fail)
          exact r_nx ((keyS x.H y.c p q.1,kd2):PQ) ⟨n1,n2,n3,n4⟩ (he:=Pm.ent pmt)
        ·have hvw:=hV
         unfold ValW at hvw
         rw[nay (fun h=>hV h.1)]at n1 n2 n3 n4
         repeat' (first|refine xx ?_|(refine xy ?_ ?_<;>intro hb<;>try(exfalso;omega))|(refine k_L ?_;(refine k_c ?_;refine a_cq rfl (fun m hm=>qt_e (l1resolve_q (has_g h hm) hat) (congrArg wa e)) ?_))|fail)
         exact r_nx ((keyS x.H y.c p q.1,kd2):PQ) ⟨n1,n2,n3,n4⟩ (he:=Pm.ent pmt)
       ·have ht:x.H.tgt p.key=none:=by unfold Heap.tgt;rw[if_neg (fun h=>hk2 (lead_kind.1 h))]
        have hk3:¬(x.H.lead p.key).kind=2:=fun h=>hk2 (lead_kind.1 h)
        have hH:Hit x.H (keyS x.H y.c p q.1).1 p.key:=fun j' hj'=>by rw[ht]at hj';cases hj'
        by_cases hV:ValW y.c
        ·have hvw:=hV
         unfold ValW at hvw
         rw[yes hH hV]at n1 n2 n3 n4
         repeat' (first|refine xx ?_|(refine xy ?_ ?_<;>intro hb<;>try(exfalso;omega))|(refine k_L ?_;(refine k_c ?_;refine a_cq rfl (fun m hm=>l1resolve_q (has_g h hm) hat) ?_))|fail)
         refine g_c rfl (l2mark_n (sd:=sd) (kd:=kd2) (w:=p.val) (s:=keyS x.H y.c p q.1) (S:=Held x.H) h h1 h2 v1 a1 a3) (fun v As' hq=>?_)
         obtain⟨kd',rfl,rfl⟩:=hq
         repeat' (first|refine xx ?_|fail)
         exact r_nx ((mkW x.H (keyS x.H y.c p q.1) p.val,kd'):PQ) ⟨n1,n2,n3,n4⟩ (he:=Pm.ent pmt)
        ·have hvw:=hV
         unfold ValW at hvw
         rw[nay (fun h=>hV h.1)]at n1 n2 n3 n4
         repeat' (first|refine xx ?_|(refine xy ?_ ?_<;>intro hb<;>try(exfalso;omega))|(refine k_L ?_;(refine k_c ?_;refine a_cq rfl (fun m hm=>l1resolve_q (has_g h hm) hat) ?_))|fail)
         exact r_nx ((keyS x.H y.c p q.1,kd2):PQ) ⟨n1,n2,n3,n4⟩ (he:=Pm.ent pmt)
     ·obtain⟨hv1,hv2,hv3,hv4⟩:=hv
      rw[List.take_of_length_le (Nat.le_refl _)]at hv4
      have hgl2:=hv2.len
      have hmsr:=hv2.msr
      repeat' (first|refine xx ?_|fail)
      refine⟨_,(q,hd+1),?_,⟨rfl,rfl,rfl,rfl,rfl,trivial⟩,Pm.ent pmt,rfl,?_,hv1,hgr.trans hv2,hsm.trans hv3 hgl2 hgl,fun e k' j' c hk' hg' hc'=>?_⟩
      ·dsimp only;omega
      ·dsimp only;omega
      ·dsimp only at e hk'
       have es:s=s0:=by
        rcases hsm with h'|h'
        ·exact h'
        ·exfalso;rw[e]at hgl2;omega
       subst es
       by_cases ek:k'=hd
       ·subst ek
        rw[gg]at hg'
        have:j'=j:=by have:=Option.some.inj hg';omega
        subst this
        rw[gc]at hc';cases hc'
        exact fun p hp=>hv4 e p hp
       ·exact hcalm rfl k' j' c (by omega) hg' hc'
    ·repeat' (first|refine xx ?_|(refine xy ?_ ?_<;>intro hb<;>try(exfalso;omega))|fail)
     refine⟨_,((s,kd),(s0.2.length:Int)),?_,⟨rfl,rfl,rfl,rfl,trivial⟩,Pm.ent pmt,rfl,⟨hok,fun j hj=>?_⟩,⟨fun w hw=>(hfull.regs w hw).grow hgr,fun i c hc hl2=>hgr.mono i (hfull.dues i c hc hl2)⟩,fun e i c hi hc=>?_⟩
     ·dsimp only
      rw[if_neg hbf]
      rcases hsm with rfl|hs
      ·rw[if_pos rfl];omega
      ·split<;>omega
     ·rcases hgr.new j hj with h'|h'
      ·exact hgr.old _ (hma.all j h')
      ·exact h'
     ·dsimp only at e hi⊢
      rcases hsm with rfl|hs
      ·obtain⟨k,hk⟩:=List.getElem?_of_mem (hma.all i hi)
       have hkl:=(List.getElem?_eq_some_iff.1 hk).1
       exact hcalm rfl k i c (by omega) hk hc
      ·omega
abbrev WE:=D×List Word
def wv0:WE:=(⟨none,0⟩,[])
def WE.sl(e:WE):Value:=.slice e.1.a e.2.length e.1.cap
def wtA(W:List WE):Asr:=star (W.map fun e=>slA 3 wv e.1 e.2)
def wmA(b:Nat)(W:List WE):Asr:=fun m=>∃g,mpA b g m∧∀(j:Nat) e,W[j]?=some e→(g j).getD (.slice none 0 0)=e.sl
theorem wt_out{W:List WE}{i:Nat}{e:WE}(hi:W[i]?=some e){m:Mem}(h:wtA W m):star [slA 3 wv e.1 e.2,wtA (W.eraseIdx i)] m:=by
 obtain⟨hlt,he⟩:=List.getElem?_eq_some_iff.1 hi
 have hp:=(erase_perm hlt).symm.map (fun e:WE=>slA 3 wv e.1 e.2)
 have:=star_perm hp h
 rw[he]at this
 obtain⟨a,b,d,e1,h1,h2⟩:=this
 exact star2.2 ⟨a,b,d,e1,h1,h2⟩
theorem wt_in{W:List WE}{i:Nat}{e':WE}(hi:i<W.length){m:Mem}(h:star [slA 3 wv e'.1 e'.2,wtA (W.eraseIdx i)] m):wtA (W.set i e') m:=by
 have hlt:i<(W.set i e').length:=by simpa using hi
 have hp:=(erase_perm hlt).map (fun e:WE=>slA 3 wv e.1 e.2)
 rw[List.getElem_set_self,List.eraseIdx_set_eq]at hp
 refine star_perm hp ?_
 obtain⟨a,b,d,e1,h1,h2⟩:=star2.1 h
 exact⟨a,b,d,e1,h1,h2⟩
theorem ent_wout{W:List WE}{i:Nat}{e:WE}{R:List Asr}(hi:W[i]?=some e):Ent (wtA W::R) (slA 3 wv e.1 e.2::wtA (W.eraseIdx i)::R):=ent_of fun m h=>by
 have:=star_cons_mono h (fun _ h=>wt_out hi h) (fun _ h=>h)
 exact star_in.1 this
theorem ent_win{W:List WE}{i:Nat}{e':WE}{R:List Asr}(hi:i<W.length):Ent (slA 3 wv e'.1 e'.2::wtA (W.eraseIdx i)::R) (wtA (W.set i e')::R):=ent_of fun m h=>by
 have:star (star [slA 3 wv e'.1 e'.2,wtA (W.eraseIdx i)]::R) m:=star_in.2 h
 exact star_cons_mono this (fun _ h=>wt_in hi h) (fun _ h=>h)
theorem sl_nil{α:Type}{f:α→List Value}{size:Nat}:slA size f ⟨none,0⟩ [] emp:=⟨.inl ⟨0,rfl,rfl,rfl⟩,fun _ _=>rfl⟩
theorem ent_wclr{W:List WE}{i:Nat}{R:List Asr}(hi:i<W.length):Ent (wtA (W.eraseIdx i)::R) (wtA (W.set i wv0)::R):=ent_h fun m h=>wt_in hi (star2.2 ⟨emp,m,fun _=>.inl rfl,rfl,sl_nil,h⟩)
theorem wt_nil:∀n:Nat,wtA (List.replicate n wv0) emp
 |0=>rfl
 |n+1=>⟨emp,emp,fun _=>.inl rfl,rfl,sl_nil,wt_nil n⟩
theorem ent_wnil{n:Nat}{R:List Asr}:Ent R (wtA (List.replicate n wv0)::R):=ent_of fun m h=>⟨emp,m,fun _=>.inl rfl,rfl,wt_nil n,h⟩
theorem ent_wm0{b n:Nat}{R:List Asr}:Ent (mpA b (fun _=>none)::R) (wmA b (List.replicate n wv0)::R):=ent_h fun m h=>⟨_,h,fun j e he=>by
 rw[List.getElem?_replicate]at he
 split at he
 ·cases he;rfl
 ·cases he⟩
theorem ent_wm{b:Nat}{g:Int→Option Value}{W:List WE}{R:List Asr}(hW:∀(j:Nat) e,W[j]?=some e→(g j).getD (.slice none 0 0)=WE.sl e):Ent (mpA b g::R) (wmA b W::R):=ent_h fun m h=>⟨g,h,hW⟩
theorem v_wm{E:Env}{c:C}{Q:X→St→List Asr→Prop}{S:St}{b:Nat}{W:List WE}{R:List Asr}(h:∀g:Int→Option Value,(∀(j:Nat) e,W[j]?=some e→(g j).getD (.slice none 0 0)=WE.sl e)→VA E c Q S (mpA b g::R)):VA E c Q S (wmA b W::R):=
 ⟨fun m hm=>by
   obtain⟨a,c,dj,e1,⟨g,hg,hW⟩,hR⟩:=hm
   exact(h g hW).out m ⟨a,c,dj,e1,hg,hR⟩⟩
theorem wm_clr{g:Int→Option Value}{W:List WE}{j:Nat}(hW:∀(j:Nat) e,W[j]?=some e→(g j).getD (.slice none 0 0)=WE.sl e):
 ∀(i:Nat) e,(W.set j wv0)[i]?=some e→((fun i:Int=>if i=(j:Int)then none else g i) i).getD (.slice none 0 0)=WE.sl e:=by
 intro i e he
 rw[List.getElem?_set]at he
 by_cases h:j=i
 ·subst h
  rw[if_pos rfl]at he
  split at he
  ·cases he;simp;rfl
  ·cases he
 ·rw[if_neg h]at he
  have:¬((i:Int)=(j:Int)):=by omega
  simp only[this,if_false]
  exact hW i e he
theorem wm_put{g:Int→Option Value}{W:List WE}{j:Nat}{e':WE}(hW:∀(j:Nat) e,W[j]?=some e→(g j).getD (.slice none 0 0)=WE.sl e):
 ∀(i:Nat) e,(W.set j e')[i]?=some e→((fun i:Int=>if i=(j:Int)then some (WE.sl e')else g i) i).getD (.slice none 0 0)=WE.sl e:=by
 intro i e he
 rw[List.getElem?_set]at he
 by_cases h:j=i
 ·subst h
  rw[if_pos rfl]at he
  split at he
  ·cases he;simp
  ·cases he
 ·rw[if_neg h]at he
  have:¬((i:Int)=(j:Int)):=by omega
  simp only[this,if_false]
  exact hW i e he
def PairOk(H:Heap)(seen:List Bool)(W:List WE)(c:Cell)(p:Pair):Prop:=
 (KeyW c→Hit H seen p.key)∧(ValW c→Hit H seen p.val∨∃k e,H.tgt p.key=some k∧W[k]?=some e∧p.val∈e.2)
structure HI (H:Heap) (s:List Bool×List Int) (W:List WE) (B:Nat) (pc:Nat) (ex ew:Nat→Prop):Prop where
 mk':Mk H (Held H) s
 pc:pc+s.2.length+s.1.count false≤H.cells.length
 wl:W.length=H.cells.length
 wlen:∀e,e∈W→e.2.length≤B
 wok:∀(k:Nat) e,W[k]?=some e→∀w,w∈e.2→Formed H w∧(Held H k→∀j,H.tgt w=some j→j<H.cells.length∧Held H j)
 rule:∀(i:Nat) c,s.1[i]?=some true→(i:Int)∉s.2→¬ex i→H.cells[i]?=some c→∀p,p∈c.pairs→PairOk H s.1 W c p
 empt:∀(k:Nat) e,W[k]?=some e→s.1[k]?=some true→(k:Int)∉s.2→¬ew k→e.2=[]
theorem PairOk.grow{H:Heap}{s t:List Bool×List Int}{W:List WE}{c:Cell}{p:Pair}(h:PairOk H s.1 W c p)(g:Grow s t):PairOk H t.1 W c p:=
 ⟨fun k=>(h.1 k).grow g,fun v=>(h.2 v).imp (fun h=>h.grow g) id⟩
theorem HI.mark{H:Heap}{s:List Bool×List Int}{W:List WE}{B pc:Nat}{ex ew:Nat→Prop}{w:Word}(h:HI H s W B pc ex ew)(hw:∀j,H.tgt w=some j→j<H.cells.length∧Held H j):HI H (mkW H s w) W B pc ex ew∧Grow s (mkW H s w)∧Hit H (mkW H s w).1 w:=by
 obtain⟨a,g,d⟩:=mkW_ok h.mk' hw
 have hn:∀i:Nat,(mkW H s w).1[i]?=some true→(i:Int)∉(mkW H s w).2→s.1[i]?=some true∧(i:Int)∉s.2:=fun i h1 h2=>⟨(g.new i h1).elim id fun h'=>absurd h' h2,fun h'=>h2 (g.old _ h')⟩
 refine⟨⟨a,?_,h.wl,h.wlen,h.wok,fun i c h1 h2 h3 h4 p hp=>(h.rule i c (hn i h1 h2).1 (hn i h1 h2).2 h3 h4 p hp).grow g,fun k e h1 h2 h3 h4=>h.empt k e h1 (hn k h2 h3).1 (hn k h2 h3).2 h4⟩,g,d⟩
 have:=h.pc
 unfold mkW
 split
 ·split
  ·rename_i j _ hs
   have:=count_set hs
   simp only[List.length_append,List.length_singleton]
   omega
  ·exact this
 ·exact this
theorem HI.weak{H:Heap}{s:List Bool×List Int}{W:List WE}{B B' pc:Nat}{ex ew:Nat→Prop}(h:HI H s W B pc ex ew)(hB:B≤B'):HI H s W B' pc ex ew:=⟨h.mk',h.pc,h.wl,fun e he=>Nat.le_trans (h.wlen e he) hB,h.wok,h.rule,h.empt⟩
theorem HI.pop{H:Heap}{seen:List Bool}{init:List Int}{j:Nat}{W:List WE}{B pc:Nat}(h:HI H (seen,init++[(j:Int)]) W B pc (fun _=>False) (fun _=>False)):HI H (seen,init) W B (pc+1) (fun i=>i=j) (fun i=>i=j):=by
 have hp:=h.pc
 simp only[List.length_append,List.length_singleton]at hp
 have hn:∀i:Nat,(i:Int)∉init→¬i=j→(i:Int)∉init++[(j:Int)]:=fun i h1 h2 h3=>by
  rcases List.mem_append.1 h3 with h3|h3
  ·exact h1 h3
  ·simp only[List.mem_singleton]at h3;omega
 refine⟨⟨h.mk'.len,h.mk'.snd,fun g hg=>h.mk'.stk g (by simp[hg]),?_⟩,?_,h.wl,h.wlen,h.wok,fun i c h1 h2 h3 h4 p hp'=>h.rule i c h1 (hn i h2 h3) (fun h=>h) h4 p hp',fun k e h1 h2 h3 h4=>h.empt k e h1 h2 (hn k h3 h4) (fun h=>h)⟩
 ·dsimp only;omega
 ·dsimp only;omega
theorem HI.clr{H:Heap}{s:List Bool×List Int}{W:List WE}{B pc j:Nat}{e:WE}(h:HI H s W B pc (fun i=>i=j) (fun i=>i=j))(he:W[j]?=some e)(hh:∀w,w∈e.2→Hit H s.1 w):HI H s (W.set j wv0) B pc (fun i=>i=j) (fun _=>False):=by
 have hjl:=(List.getElem?_eq_some_iff.1 he).1
 have hg:∀(k:Nat) e',(W.set j wv0)[k]?=some e'→(k=j∧e'=wv0)∨(k≠j∧W[k]?=some e'):=fun k e' h=>by
  rw[List.getElem?_set]at h
  by_cases hk:j=k
  ·subst hk
   rw[if_pos rfl,if_pos hjl]at h
   exact .inl ⟨rfl,(Option.some.inj h).symm⟩
  ·rw[if_neg hk]at h
   exact .inr ⟨fun e=>hk e.symm,h⟩
 refine⟨h.mk',h.pc,by simpa using h.wl,fun e' he'=>?_,fun k e' hk w hw=>?_,fun i c h1 h2 h3 h4 p hp=>?_,fun k e' hk h2 h3 _=>?_⟩
 ·obtain⟨k,hk⟩:=List.getElem?_of_mem he'
  rcases hg k e' hk with⟨_,rfl⟩|⟨_,h'⟩
  ·simp[wv0]
  ·exact h.wlen e' (List.mem_of_getElem? h')
 ·rcases hg k e' hk with⟨_,rfl⟩|⟨_,h'⟩
  ·simp[wv0]at hw
  ·exact h.wok k e' h' w hw
 ·obtain⟨r1,r2⟩:=h.rule i c h1 h2 h3 h4 p hp
  refine⟨r1,fun hv=>?_⟩
  rcases r2 hv with r|⟨k,e',ht,hk,hm⟩
  ·exact .inl r
  ·by_cases hkj:k=j
   ·subst hkj
    rw[he]at hk;cases hk
    exact .inl (hh _ hm)
   ·exact .inr ⟨k,e',ht,by rw[List.getElem?_set_ne (fun e=>hkj e.symm)];exact hk,hm⟩
 ·rcases hg k e' hk with⟨_,rfl⟩|⟨hne,h'⟩
  ·rfl
  ·exact h.empt k e' h' h2 h3 hne
theorem HI.wait{H:Heap}{s:List Bool×List Int}{W:List WE}{B pc k:Nat}{ex:Nat→Prop}{e:WE}{d:D}{w:Word}(h:HI H s W B pc ex (fun _=>False))(he:W[k]?=some e)(hs:s.1[k]?=some false)(hw:Formed H w∧(Held H k→∀j,H.tgt w=some j→j<H.cells.length∧Held H j)):
 HI H s (W.set k (d,e.2++[w])) (B+1) pc ex (fun _=>False)∧∀c p,PairOk H s.1 W c p→PairOk H s.1 (W.set k (d,e.2++[w])) c p:=by
 have hkl:=(List.getElem?_eq_some_iff.1 he).1
 have hg:∀(i:Nat) e',(W.set k (d,e.2++[w]))[i]?=some e'→(i=k∧e'=(d,e.2++[w]))∨(i≠k∧W[i]?=some e'):=fun i e' h=>by
  rw[List.getElem?_set]at h
  by_cases hk:k=i
  ·subst hk
   rw[if_pos rfl,if_pos hkl]at h
   exact .inl ⟨rfl,(Option.some.inj h).symm⟩
  ·rw[if_neg hk]at h
   exact .inr ⟨fun e=>hk e.symm,h⟩
 have hpo:∀c p,PairOk H s.1 W c p→PairOk H s.1 (W.set k (d,e.2++[w])) c p:=fun c p ⟨r1,r2⟩=>⟨r1,fun hv=>by
  rcases r2 hv with r|⟨i,e',ht,hi,hm⟩
  ·exact .inl r
  ·by_cases hik:i=k
   ·subst hik
    rw[he]at hi;cases hi
    exact .inr ⟨i,(d,e.2++[w]),ht,by rw[List.getElem?_set,if_pos rfl,if_pos hkl],List.mem_append_left _ hm⟩
   ·exact .inr ⟨i,e',ht,by rw[List.getElem?_set_ne (fun e=>hik e.symm)];exact hi,hm⟩⟩
 refine⟨⟨h.mk',h.pc,by simpa using h.wl,fun e' he'=>?_,fun i e' hi w' hw'=>?_,fun i c h1 h2 h3 h4 p hp=>hpo c p (h.rule i c h1 h2 h3 h4 p hp),fun i e' hi h2 h3 _=>?_⟩,hpo⟩
 ·obtain⟨i,hi⟩:=List.getElem?_of_mem he'
  rcases hg i e' hi with⟨_,rfl⟩|⟨_,h'⟩
  ·have:=h.wlen e (List.mem_of_getElem? he)
   simp;omega
  ·have:=h.wlen e' (List.mem_of_getElem? h');omega
 ·rcases hg i e' hi with⟨rfl,rfl⟩|⟨_,h'⟩
  ·rcases List.mem_append.1 hw' with hw'|hw'
   ·exact h.wok i e he w' hw'
   ·simp only[List.mem_singleton]at hw';subst hw';exact hw
  ·exact h.wok i e' h' w' hw'
 ·rcases hg i e' hi with⟨rfl,rfl⟩|⟨hne,h'⟩
  ·rw[hs]at h2;cases h2
  ·exact h.empt i e' h' h2 h3 (fun h=>h)
theorem HI.done{H:Heap}{s:List Bool×List Int}{W:List WE}{B pc j:Nat}{c:Cell}(h:HI H s W B pc (fun i=>i=j) (fun _=>False))(hc:H.cells[j]?=some c)(hp:∀p,p∈c.pairs→PairOk H s.1 W c p):HI H s W B pc (fun _=>False) (fun _=>False):=
 ⟨h.mk',h.pc,h.wl,h.wlen,h.wok,fun i c' h1 h2 _ h4 p hp'=>by
   by_cases e:i=j
   ·subst e;rw[hc]at h4;cases h4;exact hp p hp'
   ·exact h.rule i c' h1 h2 e h4 p hp',h.empt⟩
theorem HI.fin{H:Heap}{seen:List Bool}{W:List WE}{B pc:Nat}(h:HI H (seen,[]) W B pc (fun _=>False) (fun _=>False))(hf:HFull H seen):seen=heldL H:=
 held_end h.mk' hf fun i c hi hc p hp=>by
  obtain⟨r1,r2⟩:=h.rule i c hi (by simp) (fun h=>h) hc p hp
  refine⟨r1,fun hv hk=>?_⟩
  rcases r2 hv with r|⟨k,e,ht,he,hm⟩
  ·exact r
  ·have:=h.empt k e he (hk k ht) (by simp) (fun h=>h)
   rw[this]at hm;cases hm
theorem HI.init(H:Heap){s:List Bool×List Int}(h:MkA H (Held H) s):HI H s (List.replicate H.cells.length wv0) 0 0 (fun _=>False) (fun _=>False):=by
 have hw:∀(k:Nat) e,(List.replicate H.cells.length wv0)[k]?=some e→e=wv0:=fun k e he=>by
  rw[List.getElem?_replicate]at he
  split at he
  ·exact(Option.some.inj he).symm
  ·cases he
 have hc:=h.ok.cnt
 exact⟨h.ok,by omega,by simp,fun e he=>by obtain⟨k,hk⟩:=List.getElem?_of_mem he;rw[hw k e hk];simp[wv0],fun k e he w hw'=>(by rw[hw k e he]at hw';simp[wv0]at hw'),fun i c h1 h2=>absurd (h.all i h1) h2,fun k e he _ _ _=>(by rw[hw k e he];rfl)⟩
end Go.Proofs.YtpleoapljeffiaaGreatDoor.E
