/- A part of the proof. Conditions: none. -/
import Derived.Test.YtpleoapljeffiaaGreatDoorKP11
set_option linter.unusedVariables false
set_option linter.unusedSimpArgs false
set_option maxRecDepth 100000
namespace Go.Proofs.YtpleoapljeffiaaGreatDoor.E
open Go
open Classical
theorem Sl.congr{M:Mem}{α:Type}{f:α→List Value}{size:Nat}{v:Value}{xs ys:List α}(h:Sl M size f v xs)(e:xs.map f=ys.map f):Sl M size f v ys:=by
 have hl:xs.length=ys.length:=by have:=congrArg List.length e;simpa using this
 have hf:xs.flatMap f=ys.flatMap f:=by rw[List.flatMap_def,List.flatMap_def,e]
 rcases h with⟨c,h1,h2,rfl⟩|⟨b,o,cap,row,h1,hM,hc,h2,hr,he⟩
 ·exact .inl ⟨c,h1,h2,by cases ys with|nil=>rfl|cons y r=>simp at hl⟩
 ·rw[hl]at h1 hc h2 he
  exact .inr ⟨b,o,cap,row,h1,hM,hc,h2,hr,by rw[he,hf]⟩
def gC(k:Int)(c:Cell):Cell:=⟨k,k+1,k+1+1,k+1+1+1,k+1+1+1+1,k+1+1+1+1+1,k+1+1+1+1+1+1,mkG gP wP (k+1+1+1+1+1+1+1) c.pairs⟩
def wC(c:Cell):Int:=7+6*c.pairs.length
def gCS(k:Int)(y:CS):CS:=⟨gC k y.c,y.sa,y.cap⟩
def wCS(y:CS):Int:=wC y.c
def hCS(k:Int)(y:CS):CS:=⟨⟨k,k+1,k+1+1,k+1+1+1,k+1+1+1+1,k+1+1+1+1+1,k+1+1+1+1+1+1,y.c.pairs⟩,y.sa,y.cap⟩
theorem csv_hCS(k:Int)(y:CS):csv (hCS k y)=csv (gCS k y):=by
 simp only[csv,cv,hCS,gCS,gC,mkG_len]
theorem gCS_s(k:Int)(y:CS):(gCS k y).s=y.s:=by simp only[CS.s,gCS,gC,mkG_len]
theorem wCS_nn(y:CS):0≤wCS y:=by unfold wCS wC;omega
theorem wP_T(xs:List Pair)(k:Int):mkT wP k xs=k+6*xs.length:=mkT_const (w:=wP) (c:=6) (fun _=>rfl) xs k
theorem mkG_gCS_c:∀(xs:List CS) (k:Int),(mkG gCS wCS k xs).map (·.c)=mkG gC wC k (xs.map (·.c))
 |[],_=>rfl
 |x::r,k=>by simp only[mkG,List.map_cons];rw[mkG_gCS_c r];rfl
theorem mkT_wCS:∀(xs:List CS) (k:Int),mkT wCS k xs=mkT wC k (xs.map (·.c))
 |[],_=>rfl
 |x::r,k=>by simp only[mkT,List.map_cons];rw[mkT_wCS r];rfl
theorem mkG_own:∀(xs:List CS) (k:Int),((mkG gCS wCS k xs).flatMap fun y=>own y.s)=xs.flatMap fun y=>own y.s
 |[],_=>rfl
 |x::r,k=>by simp only[mkG,List.flatMap_cons,gCS_s];rw[mkG_own r]
theorem flat_apart{α β:Type}{f:α→List β}:∀{xs:List α} {i j:Nat} {x y:α},(xs.flatMap f).Nodup→xs[i]?=some x→xs[j]?=some y→i≠j→∀b,b∈f x→b∉f y
 |[],i,_,x,_,_,h,_,_,_,_,_=>by simp at h
 |z::r,i,j,x,y,hn,hi,hj,hij,b,hb,hc=>by
  rw[List.flatMap_cons,List.nodup_append]at hn
  obtain⟨_,hr,hd⟩:=hn
  cases i with
  |zero=>
   cases j with
   |zero=>exact hij rfl
   |succ j=>
    simp only[List.getElem?_cons_zero,Option.some.injEq]at hi
    simp only[List.getElem?_cons_succ]at hj
    subst hi
    exact hd b hb b (List.mem_flatMap.2 ⟨y,List.mem_of_getElem? hj,hc⟩) rfl
  |succ i=>
   simp only[List.getElem?_cons_succ]at hi
   cases j with
   |zero=>
    simp only[List.getElem?_cons_zero,Option.some.injEq]at hj
    subst hj
    exact hd b hc b (List.mem_flatMap.2 ⟨x,List.mem_of_getElem? hi,hb⟩) rfl
   |succ j=>
    simp only[List.getElem?_cons_succ]at hj
    exact flat_apart hr hi hj (by omega) b hb hc
theorem mid_own{xs:List CS}{i:Nat}{k:Int}:((mkG gCS wCS k (xs.take i)++xs.drop i).flatMap fun y=>own y.s)=xs.flatMap fun y=>own y.s:=by
 rw[List.flatMap_append,mkG_own,←List.flatMap_append,List.take_append_drop]
theorem markCellS_f{M:Mem}{va:Value}{xs:List CS}{k:Int}(h0:0≤k)(hb:mkT wCS k xs≤4611686018427387904)(ha:CL M va xs)(hnd:(fpC va xs).Nodup):
 Fn Tryz.prog 51 [va,.int .i64 k] M (fun v M'=>v=.int .i64 (mkT wCS k xs)∧OffL M (fpC va xs) M'∧CL M' va (mkG gCS wCS k xs)):=by
 obtain⟨aa,ca,ea⟩:=ha.sl.len
 have hbd:=ha.sl.bound
 refine fn51 (by simp) ?_
 subst ea
 repeat' (first
  |(refine vl_pure rfl ?_)
  |(refine vl_nil ?_)
  |(refine VC.seq ?_)
  |(refine VC.regV ?_)
  |(refine VC.block ?_))
 refine VC.loop (α:=Nat×Int) (fun p=>[(0,.v (.slice aa xs.length ca)),(1,.v (.int .i64 p.2)),(5,.v (.int .i64 p.1))]) (fun n p M'=>n=xs.length-p.1∧p.1≤xs.length∧p.2=mkT wCS k (xs.take p.1)∧OffL M (fpC (.slice aa xs.length ca) xs) M'∧CL M' (.slice aa xs.length ca) (mkG gCS wCS k (xs.take p.1)++xs.drop p.1))
  ⟨_,(0,k),M,⟨rfl,rfl,rfl,trivial⟩,Mem.le_refl _,rfl,Nat.zero_le _,rfl,OffL.refl _ _,ha⟩ ?_
 rintro n ⟨i,kk⟩ M2 ⟨rfl,hi,hkk,hoff,hcl⟩
 dsimp only at hi hkk hoff hcl⊢
 repeat' (first
  |(refine vl_pure rfl ?_)
  |(refine vl_nil ?_)
  |(refine VC.seq ?_)
  |(refine VC.regV ?_)
  |(refine seqQ_n ?_))
 refine VC.cond _ rfl (fun h=>?_) (fun h=>?_)
 ·have hi:i<xs.length:=by simpa using h
  obtain⟨x,gx⟩:∃x,xs[i]?=some x:=⟨_,List.getElem?_eq_getElem hi⟩
  obtain⟨hsl,hps⟩:=hcl
  obtain⟨b,o,rfl,c1⟩:=hsl.at2 (fun _=>rfl) (mid_get gx k)
  have hk1:=mkT_take (w:=wCS) gx k
  have hk2:=mkT_le (w:=wCS) wCS_nn xs k (i+1)
  have hk3:=mkT_ge (w:=wCS) wCS_nn (xs.take i) k
  have hwx:wCS x=7+6*x.c.pairs.length:=rfl
  repeat' (first
   |(refine vl_pure rfl ?_)
   |(refine VC.seq ?_)
   |(refine VC.regV ?_)
   |(refine vl_idx rfl rfl (by omega) ?_)
   |(refine VC.block ?_)
   |(refine VC.skip ?_))
  refine vl_sts ⟨⟨kk,x.c.kind,x.c.weak,x.c.last,x.c.born,x.c.color,x.c.to,x.c.pairs⟩,x.sa,x.cap⟩ hsl (fun _=>rfl) (mid_get gx k) (i:=i) (j:=0) rfl rfl rfl rfl (Nat.le_of_ble_eq_true rfl) rfl (fun M3 o3 s3=>?_)
  repeat' (first
   |(refine vl_add rfl rfl (by omega) ?_)
   |(refine vl_pure rfl ?_)
   |(refine vl_nil ?_)
   |(refine VC.seq ?_)
   |(refine VC.regV ?_)
   |(refine vl_idx rfl rfl (by omega) ?_))
  refine vl_sts ⟨⟨kk,kk+1,x.c.weak,x.c.last,x.c.born,x.c.color,x.c.to,x.c.pairs⟩,x.sa,x.cap⟩ s3 (fun _=>rfl) (set_get (mid_get gx k)) (i:=i) (j:=1) rfl rfl rfl rfl (Nat.le_of_ble_eq_true rfl) rfl (fun M4 o4 s4=>?_)
  rw[List.set_set]at s4
  repeat' (first
   |(refine vl_add rfl rfl (by omega) ?_)
   |(refine vl_pure rfl ?_)
   |(refine vl_nil ?_)
   |(refine VC.seq ?_)
   |(refine VC.regV ?_)
   |(refine vl_idx rfl rfl (by omega) ?_))
  refine vl_sts ⟨⟨kk,kk+1,kk+1+1,x.c.last,x.c.born,x.c.color,x.c.to,x.c.pairs⟩,x.sa,x.cap⟩ s4 (fun _=>rfl) (set_get (mid_get gx k)) (i:=i) (j:=2) rfl rfl rfl rfl (Nat.le_of_ble_eq_true rfl) rfl (fun M5 o5 s5=>?_)
  rw[List.set_set]at s5
  repeat' (first
   |(refine vl_add rfl rfl (by omega) ?_)
   |(refine vl_pure rfl ?_)
   |(refine vl_nil ?_)
   |(refine VC.seq ?_)
   |(refine VC.regV ?_)
   |(refine vl_idx rfl rfl (by omega) ?_))
  refine vl_sts ⟨⟨kk,kk+1,kk+1+1,kk+1+1+1,x.c.born,x.c.color,x.c.to,x.c.pairs⟩,x.sa,x.cap⟩ s5 (fun _=>rfl) (set_get (mid_get gx k)) (i:=i) (j:=3) rfl rfl rfl rfl (Nat.le_of_ble_eq_true rfl) rfl (fun M6 o6 s6=>?_)
  rw[List.set_set]at s6
  repeat' (first
   |(refine vl_add rfl rfl (by omega) ?_)
   |(refine vl_pure rfl ?_)
   |(refine vl_nil ?_)
   |(refine VC.seq ?_)
   |(refine VC.regV ?_)
   |(refine vl_idx rfl rfl (by omega) ?_))
  refine vl_sts ⟨⟨kk,kk+1,kk+1+1,kk+1+1+1,kk+1+1+1+1,x.c.color,x.c.to,x.c.pairs⟩,x.sa,x.cap⟩ s6 (fun _=>rfl) (set_get (mid_get gx k)) (i:=i) (j:=4) rfl rfl rfl rfl (Nat.le_of_ble_eq_true rfl) rfl (fun M7 o7 s7=>?_)
  rw[List.set_set]at s7
  repeat' (first
   |(refine vl_add rfl rfl (by omega) ?_)
   |(refine vl_pure rfl ?_)
   |(refine vl_nil ?_)
   |(refine VC.seq ?_)
   |(refine VC.regV ?_)
   |(refine vl_idx rfl rfl (by omega) ?_))
  refine vl_sts ⟨⟨kk,kk+1,kk+1+1,kk+1+1+1,kk+1+1+1+1,kk+1+1+1+1+1,x.c.to,x.c.pairs⟩,x.sa,x.cap⟩ s7 (fun _=>rfl) (set_get (mid_get gx k)) (i:=i) (j:=5) rfl rfl rfl rfl (Nat.le_of_ble_eq_true rfl) rfl (fun M8 o8 s8=>?_)
  rw[List.set_set]at s8
  repeat' (first
   |(refine vl_add rfl rfl (by omega) ?_)
   |(refine vl_pure rfl ?_)
   |(refine vl_nil ?_)
   |(refine VC.seq ?_)
   |(refine VC.regV ?_)
   |(refine vl_idx rfl rfl (by omega) ?_))
  refine vl_sts (hCS kk x) s8 (fun _=>rfl) (set_get (mid_get gx k)) (i:=i) (j:=6) rfl rfl rfl rfl (Nat.le_of_ble_eq_true rfl) rfl (fun M9 o9 s9=>?_)
  rw[List.set_set]at s9
  have oo:Off M2 b M9:=(((((o3.trans o4).trans o5).trans o6).trans o7).trans o8).trans o9
  obtain⟨b',o',e',c2⟩:=s9.at2 (fun _=>rfl) (set_get (mid_get gx k))
  cases e'
  have hnc:=(List.nodup_append.1 hnd)
  have hbo:own (.slice (some ⟨b,o,none⟩) xs.length ca)=[b]:=rfl
  have hbn:∀(j:Nat) (y:CS),(mkG gCS wCS k (xs.take i)++xs.drop i)[j]?=some y→b∉own y.s:=fun j y hj hm=>
   hnc.2.2 b (by rw[hbo];simp) b (by rw[←mid_own (xs:=xs) (i:=i) (k:=k)];exact List.mem_flatMap.2 ⟨y,List.mem_of_getElem? hj,hm⟩) rfl
  have hpx:Sl M9 6 pv x.s x.c.pairs:=(hps x (List.mem_of_getElem? (mid_get gx k))).off oo (hbn i x (mid_get gx k))
  have hT:=wP_T x.c.pairs (kk+1+1+1+1+1+1+1)
  have fp:cell M9 b (o+i*8+7)=some x.s:=cells_cell c2 (j:=7) rfl
  repeat' (first
   |(refine vl_add rfl rfl (by omega) ?_)
   |(refine vl_pure rfl ?_)
   |(refine vl_ld rfl (by first|exact fp) ?_)
   |(refine vl_nil ?_)
   |(refine VC.seq ?_)
   |(refine VC.regV ?_)
   |(refine vl_idx rfl rfl (by omega) ?_))
  refine vl_c rfl (markPairS_f (by omega) (by omega) hpx) (fun v M10 hq=>?_)
  obtain⟨rfl,o10,s10⟩:=hq
  repeat' (first
   |(refine vl_add rfl rfl (by omega) ?_)
   |(refine vl_pure rfl ?_)
   |(refine vl_nil ?_)
   |(refine VC.regV ?_)
   |(refine seqQ_n ?_))
  have hsub:∀c,c∈own x.s→c∈fpC (.slice (some ⟨b,o,none⟩) xs.length ca) xs:=fun c hc=>by
   unfold fpC;exact List.mem_append.2 (.inr (List.mem_flatMap.2 ⟨x,List.mem_of_getElem? gx,hc⟩))
  have hsl10:=s9.offL o10 (fun c hc hc'=>by
   rw[hbo]at hc;simp only[List.mem_singleton]at hc;subst hc
   exact hbn i x (mid_get gx k) hc')
  have hset:((mkG gCS wCS k (xs.take i)++xs.drop i).set i (hCS kk x)).map csv=(mkG gCS wCS k (xs.take (i+1))++xs.drop (i+1)).map csv:=by
   rw[←mid_set (g:=gCS) gx hkk rfl,List.map_set,List.map_set,csv_hCS]
  refine⟨_,(i+1,_),_,?_,⟨rfl,rfl,rfl,trivial⟩,Mem.le_refl _,rfl,hi,?_,?_,hsl10.congr hset,?_⟩
  ·dsimp only;omega
  ·dsimp only;rw[hT];omega
  ·exact(hoff.off oo (by simp[fpC,hbo])).trans (o10.mono hsub)
  ·intro y hy
   dsimp only at hy
   rw[←mid_set (g:=gCS) gx hkk rfl]at hy
   obtain⟨j,hj⟩:=List.mem_iff_getElem?.1 hy
   by_cases hji:j=i
   ·subst hji
    rw[set_get (mid_get gx k)]at hj
    cases hj
    rw[gCS_s];exact s10
   ·rw[List.getElem?_set_ne (by omega)]at hj
    have:=(hps y (List.mem_of_getElem? hj)).off oo (hbn j y hj)
    refine this.offL o10 (fun c hc hc'=>?_)
    have hnd2:((mkG gCS wCS k (xs.take i)++xs.drop i).flatMap fun(y:CS)=>own y.s).Nodup:=by rw[mid_own];exact hnc.2.1
    exact flat_apart hnd2 hj (mid_get gx k) hji c hc hc'
 ·have hi:¬i<xs.length:=by simpa using h
  repeat' (first
   |(refine vl_pure rfl ?_)
   |(refine vl_nil ?_)
   |(refine VC.seq ?_)
   |(refine VC.regV ?_)
   |(refine VC.ret ?_)
   |(refine VC.exit ?_))
  rw[List.drop_of_length_le (by omega),List.append_nil,List.take_of_length_le (by omega)]at hcl
  rw[List.take_of_length_le (by omega)]at hkk
  exact fnQ_r rfl (Mem.le_refl _) ⟨by rw[hkk],hoff,hcl⟩
theorem heldCellS_q{M:Mem}{va:Value}{xs:List CS}{k:Int}(h0:0≤k)(hb:mkT wCS k xs≤4611686018427387904)(hcl:CL M va (mkG gCS wCS k xs)):
 Qt Tryz.prog 68 [va,.int .i64 k] M (.int .i64 (mkT wCS k xs)):=by
 obtain⟨ha,hps⟩:=hcl
 obtain⟨aa,ca,ea⟩:=ha.len
 have hbd:=ha.bound
 rw[mkG_len]at ea hbd
 refine fn68 (by simp) ?_
 subst ea
 repeat' (first
  |(refine vl_pure rfl ?_)
  |(refine vl_nil ?_)
  |(refine VC.seq ?_)
  |(refine VC.regV ?_)
  |(refine VC.block ?_))
 refine VC.loop (α:=Nat×Int) (fun p=>[(0,.v (.slice aa xs.length ca)),(1,.v (.int .i64 p.2)),(5,.v (.int .i64 p.1))]) (fun n p M'=>n=xs.length-p.1∧p.1≤xs.length∧p.2=mkT wCS k (xs.take p.1)∧M'=M)
  ⟨_,(0,k),M,⟨rfl,rfl,rfl,trivial⟩,Mem.le_refl _,rfl,Nat.zero_le _,rfl,rfl⟩ ?_
 rintro n ⟨i,kk⟩ M2 ⟨rfl,hi,hkk,rfl⟩
 dsimp only at hi hkk⊢
 repeat' (first
  |(refine vl_pure rfl ?_)
  |(refine vl_nil ?_)
  |(refine VC.seq ?_)
  |(refine VC.regV ?_)
  |(refine seqQ_n ?_))
 refine VC.cond _ rfl (fun h=>?_) (fun h=>?_)
 ·have hi:i<xs.length:=by simpa using h
  obtain⟨x,gx⟩:∃x,xs[i]?=some x:=⟨_,List.getElem?_eq_getElem hi⟩
  have hgm:=List.mem_of_getElem? (mkG_get (g:=gCS) (w:=wCS) gx k)
  obtain⟨b,o,rfl,c1⟩:=ha.at2 (fun _=>rfl) (mkG_get gx k)
  rw[←hkk]at c1 hgm
  have hk1:=mkT_take (w:=wCS) gx k
  have hk2:=mkT_le (w:=wCS) wCS_nn xs k (i+1)
  have hk3:=mkT_ge (w:=wCS) wCS_nn (xs.take i) k
  have hwx:wCS x=7+6*x.c.pairs.length:=rfl
  have hT:=wP_T x.c.pairs (kk+1+1+1+1+1+1+1)
  have hp:=hps _ hgm
  have q:=heldPairS_q (k:=kk+1+1+1+1+1+1+1) (xs:=x.c.pairs) (by omega) (by omega) hp
  repeat' (first
   |(refine vl_add rfl rfl (by omega) ?_)
   |(refine vl_pure rfl ?_)
   |(refine vl_ld rfl (by first|exact cells_cell c1 (j:=0) rfl|exact cells_cell c1 (j:=1) rfl|exact cells_cell c1 (j:=2) rfl|exact cells_cell c1 (j:=3) rfl|exact cells_cell c1 (j:=4) rfl|exact cells_cell c1 (j:=5) rfl|exact cells_cell c1 (j:=6) rfl|exact cells_cell c1 (j:=7) rfl) ?_)
   |(refine vl_nil ?_)
   |(refine VC.seq ?_)
   |(refine VC.regV ?_)
   |(refine vl_idx rfl rfl (by omega) ?_)
   |(refine vl_cq rfl (q) ?_)
   |(refine VC.block ?_)
   |(refine VC.ret ?_)
   |(refine VC.skip ?_)
   |(refine seqQ_n ?_)
   |(refine seqQ_r ?_)
   |(refine blkQ_r ?_)
   |(refine VC.cond _ rfl (fun hb=>?_) (fun hb=>?_)))
  any_goals (simp[gCS,gC]at hb;done)
  any_goals (simp at hb;omega)
  refine⟨_,(i+1,_),_,?_,⟨rfl,rfl,rfl,trivial⟩,Mem.le_refl _,rfl,hi,?_,rfl⟩
  ·dsimp only;omega
  ·dsimp only;rw[hT];omega
 ·have hi:¬i<xs.length:=by simpa using h
  repeat' (first
   |(refine vl_pure rfl ?_)
   |(refine vl_nil ?_)
   |(refine VC.seq ?_)
   |(refine VC.regV ?_)
   |(refine VC.ret ?_)
   |(refine VC.exit ?_))
  rw[List.take_of_length_le (by omega)]at hkk
  exact fnQ_r rfl (Mem.le_refl _) ⟨by rw[hkk],rfl⟩
def gH(k:Int)(x:HS):HS:=
 ⟨{x.H with regs:=mkG gW wW k x.H.regs,cells:=mkG gC wC (mkT wW k x.H.regs) x.H.cells,gray:=mkG gI wI (mkT wC (mkT wW k x.H.regs) x.H.cells) x.H.gray},x.rs,x.cs,x.gs,mkG gCS wCS (mkT wW k x.H.regs) x.xs⟩
def endH(k:Int)(H:Heap):Int:=mkT wI (mkT wC (mkT wW k H.regs) H.cells) H.gray
theorem mkT_wC:∀(cs:List Cell) (k:Int),mkT wC k cs=k+7*cs.length+6*pairsN cs
 |[],k=>by simp[mkT,pairsN]
 |c::r,k=>by
  have e:pairsN (c::r)=c.pairs.length+pairsN r:=by simp[pairsN]
  simp only[mkT,List.length_cons,e];rw[mkT_wC r];simp only[wC,Int.natCast_add];omega
theorem endH_eq(k:Int)(H:Heap):endH k H=k+3*H.regs.length+7*H.cells.length+6*pairsN H.cells+H.gray.length:=by
 unfold endH
 rw[mkT_const (w:=wI) (c:=1) (fun _=>rfl),mkT_wC,mkT_const (w:=wW) (c:=3) (fun _=>rfl)];omega
theorem markHeap_f{M:Mem}{x:HS}{k:Int}(h0:0≤k)(hb:endH k x.H≤4611686018427387904)(hx:WHV M x):
 Fn Tryz.prog 21 [x.v,.int .i64 k] M (fun v M'=>v=.int .i64 (endH k x.H)∧OffL M x.fp M'∧RHV M' (gH k x)):=by
 have hp:=pairsN_nonneg x.H.cells
 have e0:=endH_eq k x.H
 have e1:=mkT_const (w:=wW) (c:=3) (fun _=>rfl) x.H.regs k
 have e2:=mkT_wC x.H.cells (mkT wW k x.H.regs)
 have e3:=mkT_const (w:=wI) (c:=1) (fun _=>rfl) x.H.gray (mkT wC (mkT wW k x.H.regs) x.H.cells)
 have e4:=mkT_wCS x.xs (mkT wW k x.H.regs)
 rw[hx.r.eq]at e4
 have hnd:=hx.nd
 simp only[HS.fp,List.nodup_append]at hnd
 obtain⟨_,⟨hn2,_,hn3⟩,hn1⟩:=hnd
 refine fn21 (by simp) ?_
 repeat' (first
  |(refine vl_pure rfl ?_)
  |(refine vl_nil ?_)
  |(refine VC.seq ?_)
  |(refine VC.regV ?_)
  |(refine vl_box rfl rfl ?_))
 refine vl_c rfl (markWordS_f h0 (by omega) hx.r.regs) (fun v M1 hq=>?_)
 obtain⟨rfl,o1,s1⟩:=hq
 repeat' (first
  |(refine vl_pure rfl ?_)
  |(refine vl_nil ?_)
  |(refine VC.seq ?_)
  |(refine VC.regV ?_))
 have c1:CL M1 x.cs x.xs:=⟨hx.r.cl.sl.offL o1 (fun b h h'=>hn1 b h' b (by simp[fpC,h]) rfl),fun y hy=>(hx.r.cl.ps y hy).offL o1 (fun b h h'=>hn1 b h' b (by
  simp only[fpC,List.mem_append,List.mem_flatMap];exact .inl (.inr ⟨y,hy,h⟩)) rfl)⟩
 have g1:=hx.r.gray.offL o1 (fun b h h'=>hn1 b h' b (by simp[h]) rfl)
 refine vl_c rfl (markCellS_f (k:=mkT wW k x.H.regs) (by omega) (by omega) c1 hn2) (fun v M2 hq=>?_)
 obtain⟨rfl,o2,s2⟩:=hq
 repeat' (first
  |(refine vl_pure rfl ?_)
  |(refine vl_nil ?_)
  |(refine VC.seq ?_)
  |(refine VC.regV ?_))
 have g2:=g1.offL o2 (fun b h h'=>hn3 b h' b h rfl)
 have r2:=s1.offL o2 (fun b h h'=>hn1 b h b (by simp[h']) rfl)
 rw[e4]
 refine vl_c rfl (markIntS_f (by omega) (by omega) g2) (fun v M3 hq=>?_)
 obtain⟨rfl,o3,s3⟩:=hq
 repeat' (first
  |(refine vl_pure rfl ?_)
  |(refine vl_nil ?_)
  |(refine VC.seq ?_)
  |(refine VC.regV ?_)
  |(refine VC.ret ?_))
 refine fnQ_r rfl (Mem.le_refl _) ⟨rfl,?_,⟨r2.offL o3 (fun b h h'=>hn1 b h b (by simp[h']) rfl),⟨s2.sl.offL o3 (fun b h h'=>hn3 b (by simp[fpC,h]) b h' rfl),fun y hy=>(s2.ps y hy).offL o3 (fun b h h'=>hn3 b ?_ b h' rfl)⟩,?_,s3⟩⟩
 ·refine((o1.mono (fun b h=>?_)).trans (o2.mono (fun b h=>?_))).trans (o3.mono (fun b h=>?_))<;>simp[HS.fp,h]
 ·refine List.mem_append.2 (.inr ?_)
  rw[←mkG_own (k:=mkT wW k x.H.regs)]
  exact List.mem_flatMap.2 ⟨y,hy,h⟩
 ·show(mkG gCS wCS _ x.xs).map (·.c)=_
  rw[mkG_gCS_c,hx.r.eq];rfl
theorem heldHeap_q{M:Mem}{x:HS}{k:Int}(h0:0≤k)(hb:endH k x.H≤4611686018427387904)(he:x.xs.map (·.c)=x.H.cells)(hx:RHV M (gH k x)):
 Qt Tryz.prog 34 [(gH k x).v,.int .i64 k] M (.int .i64 (endH k x.H)):=by
 have hp:=pairsN_nonneg x.H.cells
 have e0:=endH_eq k x.H
 have e1:=mkT_const (w:=wW) (c:=3) (fun _=>rfl) x.H.regs k
 have e2:=mkT_wC x.H.cells (mkT wW k x.H.regs)
 have e3:=mkT_const (w:=wI) (c:=1) (fun _=>rfl) x.H.gray (mkT wC (mkT wW k x.H.regs) x.H.cells)
 have e4:=mkT_wCS x.xs (mkT wW k x.H.regs)
 rw[he]at e4
 have q1:=heldWordS_q h0 (by omega) hx.regs
 have q2:=heldCellS_q (k:=mkT wW k x.H.regs) (xs:=x.xs) (by omega) (by omega) hx.cl
 rw[e4]at q2
 have q3:=heldIntS_q (k:=mkT wC (mkT wW k x.H.regs) x.H.cells) (by omega) (by omega) hx.gray
 refine fn34 (by simp) ?_
 repeat' (first
  |(refine vl_pure rfl ?_)
  |(refine vl_nil ?_)
  |(refine VC.seq ?_)
  |(refine VC.regV ?_)
  |(refine vl_box rfl rfl ?_)
  |(refine vl_cq rfl (q1) ?_)
  |(refine vl_cq rfl (q2) ?_)
  |(refine vl_cq rfl (q3) ?_)
  |(refine VC.ret ?_)
  |(refine VC.skip ?_)
  |(refine seqQ_n ?_)
  |(refine seqQ_r ?_)
  |(refine VC.cond _ rfl (fun hb=>?_) (fun hb=>?_)))
 any_goals (simp at hb;omega)
 exact fnQ_r rfl (Mem.le_refl _) (q_end rfl)
theorem heldHeap_q'{M:Mem}{x:HS}{k:Int}(h0:0≤k)(hb:endH k x.H≤4611686018427387904)(he:x.xs.map (·.c)=x.H.cells)(hx:RHV M (gH k x)):
 Qt Tryz.prog 34 [x.v,.int .i64 k] M (.int .i64 (endH k x.H)):=heldHeap_q h0 hb he hx
end Go.Proofs.YtpleoapljeffiaaGreatDoor.E
set_option maxHeartbeats 8000000
namespace Go.Proofs.YtpleoapljeffiaaGreatDoor.E
open Go
open Classical
theorem fna_ro{P:Program}{f:FuncId}{args:List Value}{Bs:List Asr}{q:Value→List Asr→Prop}(h:∀m,star Bs m→FnA P f args [ro m] (fun v As=>∃E,q v E∧As=E++[ro m])):FnA P f args Bs (fun v As=>∃E,q v E∧As=E++Bs):=
 ⟨fun m hm=>((h m hm).out m ⟨m,emp,disj_emp _,(un_emp _).symm,rfl,rfl⟩).mono fun v M' ⟨As',m',l,s,E,hq,e⟩=>by
   subst e
   obtain⟨a,b,d,rfl,h1,⟨b1,b2,d2,rfl,h2,h3⟩⟩:=star_append.1 s
   have h2:b1=m:=h2
   have h3:b2=emp:=h3
   subst h2;subst h3
   rw[un_emp]at d l
   exact⟨E++Bs,_,l,star_append.2 ⟨a,b1,d,rfl,h1,hm⟩,E,hq,rfl⟩⟩
theorem has_star{m:Mem}{Bs:List Asr}(h:star Bs m):Has m Bs:=⟨m,Mem.le_refl _,h⟩
theorem Has.sl{α:Type}{f:α→List Value}{size:Nat}{d:D}{xs:List α}{m:Mem}(h:Has m [slA size f d xs]):Sl m size f (.slice d.a xs.length d.cap) xs:=by
 obtain⟨a,l,b,c,dj,rfl,h1,_⟩:=h
 exact h1.1.le (Mem.le_trans (le_l _ _) l)
theorem own_nd(v:Value):(own v).Nodup:=by unfold own;split<;>simp
theorem pr_nd:∀{ys:List CS} {m:Mem},prA ys m→(ys.flatMap fun y=>own y.s).Nodup∧∀b,b∈(ys.flatMap fun y=>own y.s)→m b≠none
 |[],m,_=>⟨by simp,by simp⟩
 |y::r,m,h=>by
  obtain⟨a,b,d,rfl,h1,h2⟩:=h
  obtain⟨n1,n2⟩:=pr_nd (ys:=r) (m:=b) h2
  have ho:∀c,c∈own y.s→a c≠none:=fun c hc=>h1.1.own_some hc
  rw[List.flatMap_cons]
  refine⟨List.nodup_append.2 ⟨own_nd _,n1,fun c hc e he hce=>?_⟩,fun c hc=>?_⟩
  ·subst hce
   rcases d c with hd|hd
   ·exact ho c hc hd
   ·exact n2 c he hd
  ·rcases List.mem_append.1 hc with hc|hc
   ·cases ha:a c with
    |none=>exact absurd ha (ho c hc)
    |some k=>rw[un_l ha];simp
   ·cases hb:b c with
    |none=>exact absurd hb (n2 c hc)
    |some k=>rw[un_r d hb];simp
theorem body_whv{x:HX}{m:Mem}(h:star x.body m):WHV m x.hs:=by
 refine⟨body_r h,?_⟩
 obtain⟨a,r,d,rfl,h1,b,r2,d2,rfl,h2,c,r3,d3,rfl,h3,_⟩:=h
 obtain⟨b1,b2,d4,rfl,k1,k2⟩:=star2.1 h2
 obtain⟨p1,p2⟩:=pr_nd k2
 have o1:∀e,e∈own (.slice x.rd.a x.regs.length x.rd.cap)→a e≠none:=fun e he=>h1.1.own_some he
 have o2:∀e,e∈own (.slice x.cd.a x.xs.length x.cd.cap)→b1 e≠none:=fun e he=>k1.1.own_some he
 have o3:∀e,e∈own (.slice x.gd.a x.gray.length x.gd.cap)→c e≠none:=fun e he=>h3.1.own_some he
 have q2:∀e,e∈fpC (.slice x.cd.a x.xs.length x.cd.cap) x.xs→(b1.un b2) e≠none:=fun e he=>by
  rcases List.mem_append.1 he with he|he
  ·cases hb:b1 e with
   |none=>exact absurd hb (o2 e he)
   |some k=>rw[un_l hb];simp
  ·cases hb:b2 e with
   |none=>exact absurd hb (p2 e he)
   |some k=>rw[un_r d4 hb];simp
 show(own _++(fpC _ _++own _)).Nodup
 refine List.nodup_append.2 ⟨own_nd _,List.nodup_append.2 ⟨List.nodup_append.2 ⟨own_nd _,p1,fun e he f hf hef=>?_⟩,own_nd _,fun e he f hf hef=>?_⟩,fun e he f hf hef=>?_⟩
 ·subst hef
  rcases d4 e with h|h
  ·exact o2 e he h
  ·exact p2 e hf h
 ·subst hef
  rcases d2 e with h|h
  ·exact q2 e he h
  ·exact o3 e hf (un_none.1 h).1
 ·subst hef
  rcases d e with h|h
  ·exact o1 e he h
  ·rcases List.mem_append.1 hf with hf|hf
   ·exact q2 e hf (un_none.1 h).1
   ·exact o3 e hf (un_none.1 (un_none.1 h).2).1
end Go.Proofs.YtpleoapljeffiaaGreatDoor.E
namespace Go.Proofs.YtpleoapljeffiaaGreatDoor.E
open Go
noncomputable def e130:Env:=⟨Tryz.prog,[30],34,[]⟩
abbrev zt(a0:Nat)(a1:Nat)(a2:Nat):I:=⟨some a0,none,.bin .eql (.tmp a1) (.tmp a2)⟩
abbrev qF(a0:Nat)(a1:Nat)(a2:Nat)(a3:Int):I:=⟨some a0,none,.call a1 [.tmp a2,.const (.int .i64 a3)]⟩
abbrev qX(a0:Nat)(a1:Nat)(a2:Nat):I:=⟨some a0,some (a1,true),.lenS (.tmp a2)⟩
abbrev qd(a0:Nat)(a1:Int)(a2:Int)(a3:Int)(a4:Int)(a5:Int)(a6:Int)(a7:Int)(a8:Nat)(a9:Nat):I:=⟨some a0,none,.build [.int .i64 a1,.int .i64 a2,.int .i64 a3,.int .i64 a4,.int .i64 a5,.int .i64 a6,.int .i64 a7,.slice none a8 a9] []⟩
abbrev qe(a0:Nat)(a1:Nat)(a2:Nat)(a3:Int):I:=⟨some a0,none,.iaddr a1 (.tmp a2) (.const (.int .i64 a3))⟩
abbrev qf(a0:Nat)(a1:Nat)(a2:Nat)(a3:Nat):I:=⟨some a0,some (a1,true),.load false a2 (.tmp a3)⟩
abbrev qm(a0:Nat)(a1:Nat)(a2:Nat)(a3:Int):I:=⟨some a0,some (a1,true),.bin .gtr (.tmp a2) (.const (.int .i64 a3))⟩
abbrev qn(a0:Nat)(a1:Nat)(a2:Nat)(a3:Nat):I:=⟨some a0,some (a1,true),.bin .lss (.tmp a2) (.tmp a3)⟩
abbrev qo(a0:Nat)(a1:Nat)(a2:Nat)(a3:Int)(a4:Int)(a5:Int)(a6:Int)(a7:Int)(a8:Int)(a9:Nat)(a10:Nat)(a11:Nat):I:=⟨some a0,none,.bslice true a1 a2 [.int .i64 a3,.int .i64 a4,.int .i64 a5,.int .i64 a6,.int .i64 a7,.int .i64 a8] [(a9,a10,.tmp a11)]⟩
abbrev qp(a0:Nat)(a1:Nat)(a2:Nat)(a3:Int)(a4:Int)(a5:Int)(a6:Int)(a7:Int)(a8:Int)(a9:Nat)(a10:Nat):I:=⟨some a0,none,.app a1 a2 [.int .i64 a3,.int .i64 a4,.int .i64 a5,.int .i64 a6,.int .i64 a7,.int .i64 a8] (.tmp a9) (.tmp a10)⟩
noncomputable def c130:C:=
 .seq (.reg [z3 4 0,zI 5 150 4,z3 6 5,zL 7 6 0,zY 8 6 7,zM 9 6 4 8,zJ 10 6 1 9,zL 11 6 1,zf 12 6 8 10 11,zM 13 6 5 12,zJ 14 6 1 13,zx 15 6 14 0,zP 16 6 15]) (.cond (.tmp 16) (.seq (.reg [z3 17 0,z6 18 17,z4 19 4 18,z5 20 1 19,z3 21 1,z8 22 8 20 21,z4 23 5 22,ze 1 23 1]) (.reg [z3 24 0,z3 25 0,z6 26 25,z4 27 8 26,z5 28 1 27,z3 29 1,qI 30 1 1 0 0 1 29,qJ 31 1 8 0 28 30,z6 32 24,z4 33 8 32,z7 1 33
 31])) .skip)
theorem t130:Tryz.f130.body.bind (trC e130)=some c130:=by kernel_rfl
theorem r130:Tryz.f130.results.toList.mapM (trR Tryz.prog)=some []:=by kernel_rfl
theorem fn130{args:List Value}{M:Mem}{post:Value→Mem→Prop}(hl:args.length≤34)(h:VC e130 c130 (fnQ [] post) (initS args 34) M):Fn Tryz.prog 130 args M post:=
 Fn.of' (E:=e130) Tryz.func130 t130 rfl r130 mixed hl h
noncomputable def e127:Env:=⟨Tryz.prog,[3],25,[]⟩
noncomputable def c127:C:=
 .seq (.reg [zO 3 1,zF 4]) (.seq (.reg [z3 6 0,z9 7 3 3,zG 8 124 6 7,z3 5 8]) (.seq (.seq (.reg [z3 9 5,zZ 10 9 0,z3 11 10,zV 12 11 0,q4 13 11 12,zU 14 11 4 13,zR 15 11 1 14,zV 16 11 5,qB 17 11 8 15 16,zU 18 11 5 17,zR 19 11 1 18,qL 20 11 19 0,zW 21 11 20]) (.cond (.tmp 21) (.seq (.reg [zF 4]) .ret) .skip)) (.seq (.reg [z3 22 0,z3 23 5,zG 24 130 22 23]) (.seq (.reg [zX 4]) .ret))))
theorem t127:Tryz.f127.body.bind (trC e127)=some c127:=by kernel_rfl
theorem r127:Tryz.f127.results.toList.mapM (trR Tryz.prog)=some [.tmp 4]:=by kernel_rfl
theorem fn127{args:List Value}{M:Mem}{post:Value→Mem→Prop}(hl:args.length≤25)(h:VC e127 c127 (fnQ [.tmp 4] post) (initS args 25) M):Fn Tryz.prog 127 args M post:=
 Fn.of' (E:=e127) Tryz.func127 t127 rfl r127 mixed hl h
noncomputable def e169:Env:=⟨Tryz.prog,[],24,[]⟩
noncomputable def c169:C:=
 .seq (.reg [z3 4 0,z3 5 0,z3 6 0,z3 7 1,z6 8 4,z4 9 5 8,z7 1 9 7,z6 10 5,z4 11 6 10,ze 1 11 0,z6 12 6,z4 13 7 12,ze 1 13 0]) (.seq (.reg [z3 14 1,zC 15 14 6]) (.cond (.tmp 15) (.reg [z3 16 0,z3 17 0,z6 18 17,z4 19 4 18,z5 20 1 19,zE 21 20,z6 22 16,z4 23 6 22,z7 1 23 21]) .skip))
theorem t169:Tryz.f169.body.bind (trC e169)=some c169:=by kernel_rfl
theorem r169:Tryz.f169.results.toList.mapM (trR Tryz.prog)=some []:=by kernel_rfl
theorem fn169{args:List Value}{M:Mem}{post:Value→Mem→Prop}(hl:args.length≤24)(h:VC e169 c169 (fnQ [] post) (initS args 24) M):Fn Tryz.prog 169 args M post:=
 Fn.of' (E:=e169) Tryz.func169 t169 rfl r169 mixed hl h
noncomputable def e170:Env:=⟨Tryz.prog,[],263,[(5,11),(13,9),(15,11),(24,9),(25,10),(26,9),(27,16),(36,12),(37,10),(38,21)]⟩
noncomputable def c170:C:=
 .seq (.reg [z3 6 0,z6 7 6,z4 8 4 7,z5 9 1 8,zE 10 9,z3 2 10]) (.seq (.reg [z3 11 0,z6 12 11,z4 13 5 12,z5 14 1 13]) (.block 0 (.seq (.reg [zC 16 14 1,z3 15 16]) (.cond (.tmp 15) (.seq (.seq (.reg [z3 17 0,z6 18 17,z4 19 6 18,z5 20 1 19,z3 21 2,zt 22 20 21]) (.cond (.tmp 22) (.seq (.reg [z3 23 0,qF 24 169 23 2]) .ret) .skip)) (.seq (.seq (.dreg 11 [z3 25 0,z6 26 25,z4 27 4 26,z5 28 1 27,z3
 29 0,z6 30 29,z4 31 6 30,z5 32 1 31,z8 33 8 28 32,z9 34 8 33,qE 35 148 34]) (.cond (.tmp 35) (.reg [z3 36 0,z3 37 0,z6 38 37,z4 39 6 38,z5 40 1 39,zG 41 130 36 40]) .skip)) (.reg [z3 42 0,z6 43 42,z4 44 6 43,z5 45 1 44,zD 46 45 1,z6 47 42,z4 48 6 47,z7 1 48 46]))) (.seq (.reg [zC 50 14 2,z3 49 50]) (.cond (.tmp 49) (.reg [z3 51 0,zI 52 172 51]) (.seq (.reg [zC 54 14 3,z3 53 54]) (.cond (.tmp
 53) (.seq (.seq (.reg [z3 55 0,z6 56 55,z4 57 6 56,z5 58 1 57,z3 59 2,zt 60 58 59]) (.cond (.tmp 60) (.seq (.reg [z3 61 0,qF 62 169 61 4]) .ret) .skip)) (.seq (.dreg 9 [z3 63 0,z6 64 63,z4 65 4 64,z5 66 1 65,z3 67 0,z6 68 67,z4 69 6 68,z5 70 1 69,z8 71 8 66 70,z3 3 71]) (.seq (.seq (.reg [z3 72 3,z6 73 72,z4 74 0 73,z5 75 1 74,zC 76 75 1,z3 77 76,zL 78 77 3,zY 79 77 78,zM 80 77 5 79,zJ 81 77
 1 80,zx 82 77 81 0,zP 83 77 82]) (.cond (.tmp 83) (.seq (.dreg 11 [z3 84 0,z6 85 84,z4 86 1 85,z5 87 1 86,z3 88 3,z6 89 88,z9 90 8 89,qE 91 144 90,qQ 92 87 91,z6 93 84,z4 94 1 93,z7 1 94 92]) (.reg [z3 95 3,qd 96 0 0 0 0 0 0 0 0 0,z6 97 95,z7 8 97 96])) (.reg [z3 98 3,z6 99 98,z4 100 5 99,ze 1 100 0]))) (.reg [z3 101 0,z6 102 101,z4 103 6 102,z5 104 1 103,zD 105 104 1,z6 106 101,z4 107 6 106,
 z7 1 107 105])))) (.seq (.reg [zC 109 14 4,z3 108 109]) (.cond (.tmp 108) (.reg [z3 110 0,zI 111 173 110]) (.seq (.reg [zC 113 14 5,z3 112 113]) (.cond (.tmp 112) (.seq (.seq (.reg [z3 114 0,z6 115 114,z4 116 6 115,z5 117 1 116,z3 118 2,zt 119 117 118]) (.cond (.tmp 119) (.seq (.reg [z3 120 0,qF 121 169 120 6]) .ret) .skip)) (.seq (.dreg 9 [z3 122 0,z6 123 122,z4 124 4 123,z5 125 1 124,z3
 126 0,z6 127 126,z4 128 6 127,z5 129 1 128,z8 130 8 125 129,z3 4 130]) (.seq (.seq (.dreg 10 [z3 131 0,z6 132 131,z4 133 7 132,z5 134 1 133,z3 135 4,z6 136 135,z4 137 7 136,z5 138 1 137,zE 139 138,zK 140 134 139]) (.cond (.tmp 140) (.seq (.dreg 9 [z3 141 4,z6 142 141,z4 143 7 142,z5 144 1 143,z3 145 0,z6 146 145,z4 147 7 146,z5 148 1 147,z8 149 6 144 148,z3 5 149]) (.seq (.dreg 16 [z3 150 5,z3
 151 5,z3 152 0,z3 153 5,z6 154 153,z4 155 0 154,z9 156 3 155,zn 157 126 152 156,z3 158 0,z3 159 5,z6 160 159,z4 161 3 160,z9 162 3 161,zn 163 126 158 162,z6 164 150,z4 165 0 164,z7 3 165 157,z6 166 151,z4 167 3 166,z7 3 167 163]) (.seq (.reg [z3 168 0,z6 169 168,z4 170 7 169,z5 171 1 170,zD 172 171 1,z6 173 168,z4 174 7 173,z7 1 174 172]) .ret))) .skip)) (.seq (.reg [z3 175 0,z6 176 175,z4 177
 6 176,z5 178 1 177,zD 179 178 1,z6 180 175,z4 181 6 180,z7 1 181 179]) (.reg [z3 182 0,z6 183 182,z4 184 7 183,ze 1 184 0]))))) (.seq (.reg [zC 186 14 6,z3 185 186]) (.cond (.tmp 185) (.seq (.seq (.reg [z3 187 0,z6 188 187,z4 189 6 188,z5 190 1 189,zC 191 190 0]) (.cond (.tmp 191) (.seq (.reg [z3 192 0,qF 193 169 192 0]) (.seq (.reg [z3 194 0,z3 195 0,z6 196 195,z4 197 11 196,z5 198 1 197,zD
 199 198 1,⟨some 200,none,.min (.tmp 199) (.const (.int .i64 1000000000))⟩,z6 201 194,z4 202 11 201,z7 1 202 200]) .ret)) .skip)) (.seq (.reg [z3 203 0,z6 204 203,z4 205 6 204,z5 206 1 205,za 207 206 1,z6 208 203,z4 209 6 208,z7 1 209 207]) (.seq (.seq (.dreg 12 [z3 210 0,z6 211 210,z4 212 4 211,z5 213 1 212,z3 214 0,z6 215 214,z4 216 6 215,z5 217 1 216,z8 218 8 213 217,z4 219 0 218,z5 220 1 219,
 zC 221 220 2]) (.cond (.tmp 221) (.dreg 10 [z3 222 0,z6 223 222,z4 224 4 223,z5 225 1 224,z3 226 0,z6 227 226,z4 228 6 227,z5 229 1 228,qd 230 0 0 0 0 0 0 0 0 0,z8 231 8 225 229,z7 8 231 230]) .skip)) (.seq (.dreg 21 [z3 232 0,z6 233 232,z4 234 6 233,z5 235 1 234,z3 236 2,za 237 236 1,zt 238 235 237,z3 239 238,zL 240 239 0,zY 241 239 240,zM 242 239 4 241,zJ 243 239 1 242,zL 244 239 0,zY 245 239
 244,zM 246 239 6 245,zJ 247 239 1 246,zf 248 239 8 243 247,zM 249 239 0 248,zJ 250 239 1 249,zx 251 239 250 0,zP 252 239 251]) (.cond (.tmp 252) (.reg [z3 253 0,z3 254 0,z6 255 254,z4 256 4 255,z5 257 1 256,z3 258 2,za 259 258 1,qS 260 8 257 259,z6 261 253,z4 262 4 261,z7 1 262 260]) .skip))))) .skip))))))))))))))
theorem t170:Tryz.f170.body.bind (trC e170)=some c170:=by kernel_rfl
theorem r170:Tryz.f170.results.toList.mapM (trR Tryz.prog)=some []:=by kernel_rfl
theorem fn170{args:List Value}{M:Mem}{post:Value→Mem→Prop}(hl:args.length≤263)(h:VC e170 c170 (fnQ [] post) (initS args 263) M):Fn Tryz.prog 170 args M post:=
 Fn.of' (E:=e170) Tryz.func170 t170 rfl r170 mixed hl h
noncomputable def e172:Env:=⟨Tryz.prog,[3,6],90,[(1,11),(2,10),(3,11)]⟩
noncomputable def c172:C:=
 .seq (.seq (.reg [z3 7 0,z6 8 7,z4 9 8 8,z5 10 1 9,zE 11 10,q8 12 11 0]) (.cond (.tmp 12) (.seq (.dreg 11 [z3 13 0,z6 14 13,z4 15 4 14,z5 16 1 15,z3 17 0,z6 18 17,z4 19 8 18,z5 20 1 19,qe 21 1 20 0,z5 22 1 21,z8 23 8 16 22,z3 2 23]) (.seq (.seq (.dreg 10 [z3 24 0,z6 25 24,z4 26 7 25,z5 27 1 26,z3 28 2,z6 29 28,z4 30 7 29,z5 31 1 30,zE 32 31,zK 33 27 32]) (.cond (.tmp 33) (.seq (.dreg 11 [z3
 34 2,z6 35 34,z4 36 7 35,z5 37 1 36,z3 38 0,z6 39 38,z4 40 7 39,z5 41 1 40,z8 42 6 37 41,z9 43 6 42,zz 3 0 0 0 0 0 0,z7 6 3 43]) (.seq (.reg [z3 44 0,z4 45 0 3,z9 46 3 45,zG 47 127 44 46]) (.seq (.reg [z3 48 0,z4 49 3 3,z9 50 3 49,zG 51 127 48 50]) (.seq (.reg [z3 52 0,z6 53 52,z4 54 7 53,z5 55 1 54,zD 56 55 1,z6 57 52,z4 58 7 57,z7 1 58 56]) .ret)))) .skip)) (.seq (.reg [z3 59 2,z6 60 59,z4
 61 5 60,ze 1 61 2]) (.seq (.reg [z3 62 0,z3 63 0,z6 64 63,z4 65 8 64,z5 66 1 65,⟨some 67,none,.slc 1 (.tmp 66) (some (.const (.int .i64 1))) none⟩,z6 68 62,z4 69 8 68,z7 1 69 67]) (.seq (.reg [z3 70 0,z6 71 70,z4 72 7 71,ze 1 72 0]) .ret))))) .skip)) (.seq (.reg [zF 4]) (.seq (.seq (.reg [z3 73 0,z6 74 73,z4 75 3 74,z5 76 1 75,zE 77 76,zA 78 0]) (.block 0 (.loop (.seq (.reg [zK 79 78 77])
 (.seq (.cond (.tmp 79) .skip (.exit 0)) (.seq (.block 1 (.seq (.reg [z8 80 3 76 78,z9 81 3 80,zk 6 0 0 0,z7 3 6 81]) (.seq (.reg [z3 82 0,z9 83 3 6,zG 84 127 82 83]) (.cond (.tmp 84) (.reg [zX 4]) .skip)))) (.reg [zD 85 78 1,z3 78 85]))))))) (.seq (.reg [z3 86 4,zQ 87 86]) (.cond (.tmp 87) (.reg [z3 88 0,qF 89 169 88 3]) .skip))))
theorem t172:Tryz.f172.body.bind (trC e172)=some c172:=by kernel_rfl
theorem r172:Tryz.f172.results.toList.mapM (trR Tryz.prog)=some []:=by kernel_rfl
theorem fn172{args:List Value}{M:Mem}{post:Value→Mem→Prop}(hl:args.length≤90)(h:VC e172 c172 (fnQ [] post) (initS args 90) M):Fn Tryz.prog 172 args M post:=
 Fn.of' (E:=e172) Tryz.func172 t172 rfl r172 mixed hl h
noncomputable def e173:Env:=⟨Tryz.prog,[5,7],88,[(11,13)]⟩
noncomputable def c173:C:=
 .seq (.reg [z3 8 0,z6 9 8,z4 10 4 9,z5 11 1 10,zE 12 11,z3 2 12,zA 3 (-1)]) (.seq (.seq (.reg [z3 13 0,z6 14 13,z4 15 4 14,z5 16 1 15,zE 17 16,zA 18 0]) (.block 0 (.loop (.seq (.reg [zK 19 18 17]) (.seq (.cond (.tmp 19) .skip (.exit 0)) (.seq (.block 1 (.seq (.reg [z3 20 18,z8 21 8 16 18,z9 22 8 21,zc 5 0 0 0 0 0 0 0 0 0,z3 4 20,z7 8 5 22]) (.seq (.seq (.reg [z4 23 0 5,z5 24 1 23,zC 25 24
 0]) (.cond (.tmp 25) (.reg [z3 26 2,z3 27 4,⟨some 28,none,.min (.tmp 26) (.tmp 27)⟩,z3 2 28]) .skip)) (.seq (.reg [z4 29 0 5,z5 30 1 29,zC 31 30 1]) (.cond (.tmp 31) (.reg [z3 32 4,z3 3 32]) .skip))))) (.reg [zD 33 18 1,z3 18 33]))))))) (.seq (.seq (.reg [z3 34 2,z3 35 3,qH 36 34 35]) (.cond (.tmp 36) (.seq (.reg [z3 37 0,qF 38 169 37 5]) .ret) .skip)) (.seq (.dreg 13 [z3 39 0,z6 40 39,z4
 41 4 40,z5 42 1 41,z3 43 2,z3 44 0,z6 45 44,z4 46 4 45,z5 47 1 46,z3 48 3,z8 49 8 47 48,z9 50 8 49,z8 51 8 42 43,z7 8 51 50]) (.seq (.reg [z3 52 0,z6 53 52,z4 54 4 53,z5 55 1 54,z3 56 3,z3 57 2,⟨some 58,none,.build [.int .i64 0,.int .i64 0,.int .i64 0,.int .i64 0,.int .i64 0,.int .i64 0,.int .i64 0,.slice none 0 0] [(0,1,.const (.int .i64 2)),(6,1,.tmp 57)]⟩,z8 59 8 55 56,z7 8 59 58]) (.seq
 (.reg [z3 60 0,z6 61 60,z4 62 3 61,z5 63 1 62,zE 64 63,zA 65 0]) (.block 2 (.loop (.seq (.reg [zK 66 65 64]) (.seq (.cond (.tmp 66) .skip (.exit 2)) (.seq (.block 3 (.seq (.reg [z3 67 65,z8 68 3 63 65,z9 69 3 68,zk 7 0 0 0,z3 6 67,z7 3 7 69]) (.seq (.reg [z4 70 0 7,z5 71 1 70,zC 72 71 2,z3 73 72,zM 74 73 2 7,zJ 75 73 1 74,zL 76 73 3,⟨some 77,some (73,true),.bin .eql (.tmp 75) (.tmp 76)⟩,zP 78
 73 77]) (.cond (.tmp 78) (.reg [z3 79 0,z6 80 79,z4 81 3 80,z5 82 1 81,z3 83 6,z3 84 2,z8 85 3 82 83,z4 86 2 85,z7 1 86 84]) .skip)))) (.reg [zD 87 65 1,z3 65 87])))))))))))
theorem t173:Tryz.f173.body.bind (trC e173)=some c173:=by kernel_rfl
theorem r173:Tryz.f173.results.toList.mapM (trR Tryz.prog)=some []:=by kernel_rfl
theorem fn173{args:List Value}{M:Mem}{post:Value→Mem→Prop}(hl:args.length≤88)(h:VC e173 c173 (fnQ [] post) (initS args 88) M):Fn Tryz.prog 173 args M post:=
 Fn.of' (E:=e173) Tryz.func173 t173 rfl r173 mixed hl h
noncomputable def e158:Env:=⟨Tryz.prog,[],9,[]⟩
noncomputable def c158:C:=
 .seq (.reg [z3 2 0,z6 3 2,z4 4 5 3,z5 5 1 4,zC 6 5 0]) (.cond (.tmp 6) (.reg [z3 7 0,qF 8 169 7 1]) .skip)
theorem t158:Tryz.f158.body.bind (trC e158)=some c158:=by kernel_rfl
theorem r158:Tryz.f158.results.toList.mapM (trR Tryz.prog)=some []:=by kernel_rfl
theorem fn158{args:List Value}{M:Mem}{post:Value→Mem→Prop}(hl:args.length≤9)(h:VC e158 c158 (fnQ [] post) (initS args 9) M):Fn Tryz.prog 158 args M post:=
 Fn.of' (E:=e158) Tryz.func158 t158 rfl r158 mixed hl h
noncomputable def e159:Env:=⟨Tryz.prog,[],21,[]⟩
noncomputable def c159:C:=
 .seq (.reg [zA 4 0]) (.seq (.reg [zA 5 0]) (.seq (.block 0 (.loop (.seq (.seq (.reg [z3 6 5,z3 7 1,zK 8 6 7,z3 9 8,zL 10 9 0,zY 11 9 10,zM 12 9 5 11,zJ 13 9 1 12,qC 14 9 13 0,zP 15 9 14]) (.cond (.tmp 15) .skip (.exit 0))) (.block 1 (.seq (.reg [z3 16 0,zI 17 170 16]) (.reg [z3 18 5,zD 19 18 1,z3 5 19])))))) (.seq (.reg [z3 20 5,z3 4 20]) .ret)))
theorem t159:Tryz.f159.body.bind (trC e159)=some c159:=by kernel_rfl
theorem r159:Tryz.f159.results.toList.mapM (trR Tryz.prog)=some [.tmp 4]:=by kernel_rfl
theorem fn159{args:List Value}{M:Mem}{post:Value→Mem→Prop}(hl:args.length≤21)(h:VC e159 c159 (fnQ [.tmp 4] post) (initS args 21) M):Fn Tryz.prog 159 args M post:=
 Fn.of' (E:=e159) Tryz.func159 t159 rfl r159 mixed hl h
noncomputable def e171:Env:=⟨Tryz.prog,[],14,[]⟩
noncomputable def c171:C:=
 .seq (.reg [zA 2 0]) (.seq (.reg [zA 3 0]) (.seq (.block 0 (.loop (.seq (.seq (.reg [z3 4 0,z6 5 4,z4 6 5 5,z5 7 1 6,zq 8 7 0]) (.cond (.tmp 8) .skip (.exit 0))) (.block 1 (.seq (.reg [z3 9 0,zI 10 170 9]) (.reg [z3 11 3,zD 12 11 1,z3 3 12])))))) (.seq (.reg [z3 13 3,z3 2 13]) .ret)))
theorem t171:Tryz.f171.body.bind (trC e171)=some c171:=by kernel_rfl
theorem r171:Tryz.f171.results.toList.mapM (trR Tryz.prog)=some [.tmp 2]:=by kernel_rfl
theorem fn171{args:List Value}{M:Mem}{post:Value→Mem→Prop}(hl:args.length≤14)(h:VC e171 c171 (fnQ [.tmp 2] post) (initS args 14) M):Fn Tryz.prog 171 args M post:=
 Fn.of' (E:=e171) Tryz.func171 t171 rfl r171 mixed hl h
noncomputable def e160:Env:=⟨Tryz.prog,[],8,[]⟩
noncomputable def c160:C:=
 .seq (.reg [z3 2 0,zI 3 171 2]) (.seq (.reg [z3 4 0,zI 5 158 4]) (.reg [z3 6 0,zI 7 171 6]))
theorem t160:Tryz.f160.body.bind (trC e160)=some c160:=by kernel_rfl
theorem r160:Tryz.f160.results.toList.mapM (trR Tryz.prog)=some []:=by kernel_rfl
theorem fn160{args:List Value}{M:Mem}{post:Value→Mem→Prop}(hl:args.length≤8)(h:VC e160 c160 (fnQ [] post) (initS args 8) M):Fn Tryz.prog 160 args M post:=
 Fn.of' (E:=e160) Tryz.func160 t160 rfl r160 mixed hl h
noncomputable def e163:Env:=⟨Tryz.prog,[],45,[(3,17)]⟩
noncomputable def c163:C:=
 .seq (.reg [zA 2 0]) (.seq (.block 0 (.seq (.reg [z3 4 0,z6 5 4,z4 6 5 5,z5 7 1 6,zC 8 7 2,z3 9 8,zL 10 9 0,zY 11 9 10,zM 12 9 8 11,zJ 13 9 1 12,qX 14 9 13,qm 15 9 14 0,zP 16 9 15,z3 3 16]) (.cond (.tmp 3) (.seq (.reg [z3 17 0,z6 18 17,z4 19 8 18,z5 20 1 19,qe 21 1 20 0,z5 22 1 21,z3 2 22]) .ret) (.seq (.dreg 17 [z3 24 0,z6 25 24,z4 26 5 25,z5 27 1 26,zC 28 27 5,z3 29 28,zL 30 29 0,zY 31 29
 30,zM 32 29 6 31,zJ 33 29 1 32,zL 34 29 0,zY 35 29 34,zM 36 29 4 35,zJ 37 29 1 36,qX 38 29 37,qn 39 29 33 38,zP 40 29 39,z3 23 40]) (.cond (.tmp 23) (.seq (.reg [z3 41 0,z6 42 41,z4 43 6 42,z5 44 1 43,z3 2 44]) .ret) .skip))))) (.seq (.reg [zA 2 (-1)]) .ret))
theorem t163:Tryz.f163.body.bind (trC e163)=some c163:=by kernel_rfl
theorem r163:Tryz.f163.results.toList.mapM (trR Tryz.prog)=some [.tmp 2]:=by kernel_rfl
theorem fn163{args:List Value}{M:Mem}{post:Value→Mem→Prop}(hl:args.length≤45)(h:VC e163 c163 (fnQ [.tmp 2] post) (initS args 45) M):Fn Tryz.prog 163 args M post:=
 Fn.of' (E:=e163) Tryz.func163 t163 rfl r163 mixed hl h
noncomputable def e153:Env:=⟨Tryz.prog,[11,103],152,[]⟩
noncomputable def c153:C:=
 .seq (.reg [qa 1 0,zA 2 0,zA 3 0]) (.seq (.reg [z5 14 1 1,zI 15 156 14,qR 4 0 0,z7 1 4 15]) (.seq (.reg [⟨some 16,none,.mkfn 166 [] [.tmp 1,.tmp 4]⟩,z3 5 16]) (.seq (.seq (.reg [z5 17 1 1,z6 18 17,z4 19 4 18,z5 20 1 19,zE 21 20,zA 22 0]) (.block 0 (.loop (.seq (.reg [zK 23 22 21]) (.seq (.cond (.tmp 23) .skip (.exit 0)) (.seq (.block 1 (.seq (.reg [z3 24 22,z3 6 24]) (.seq (.reg [z5 25 1 1,
 z6 26 25,z4 27 4 26,z5 28 1 27,z3 29 6,z8 30 8 28 29,z3 7 30]) (.seq (.seq (.reg [z5 31 1 4,z3 32 6,z8 33 1 31 32,z5 34 1 33,zQ 35 34]) (.cond (.tmp 35) (.exit 1) .skip)) (.seq (.reg [zi 8 0 0]) (.seq (.reg [z5 36 1 1,z6 37 36,z4 38 7 37,z5 39 1 38,z3 9 39]) (.seq (.seq (.reg [z3 40 7,z6 41 40,z4 42 7 41,z5 43 1 42,zE 44 43,zA 45 0]) (.block 2 (.loop (.seq (.reg [zK 46 45 44]) (.seq (.cond
 (.tmp 46) .skip (.exit 2)) (.seq (.block 3 (.seq (.reg [z3 47 45,z8 48 6 43 45,z9 49 6 48,zz 11 0 0 0 0 0 0,z3 10 47,z7 6 11 49]) (.seq (.seq (.reg [z3 50 7,z6 51 50,z4 52 2 51,z5 53 1 52,qK 54 53 1,zq 55 54 0,z3 56 55,zL 57 56 5,zM 58 56 0 11,qf 59 56 3 58,⟨some 60,some (56,true),.callv (.tmp 57) [.tmp 59]⟩,zP 61 56 60,z3 62 61,zV 63 62 7,q4 64 62 63,zU 65 62 2 64,zR 66 62 1 65,⟨some 67,some
 (62,false),.bin .and (.tmp 66) (.const (.int .i64 2))⟩,qL 68 62 67 0,zV 69 62 68,zL 70 69 5,zM 71 69 3 11,qf 72 69 3 71,⟨some 73,some (69,true),.callv (.tmp 70) [.tmp 72]⟩,qD 74 62 69 73,zW 75 62 74]) (.cond (.tmp 75) (.seq (.reg [z3 76 2,zD 77 76 1,z3 2 77]) (.seq (.reg [z5 78 1 1,z6 79 78,z4 80 1 79,z5 81 1 80,za 82 81 1,z6 83 78,z4 84 1 83,z7 1 84 82]) (.seq (.seq (.reg [z3 85 6,z5 86 1 1,
 zI 87 163 86,zt 88 85 87,z3 89 88,zL 90 89 10,zL 91 89 9,qn 92 89 90 91,zP 93 89 92]) (.cond (.tmp 93) (.reg [z5 94 1 1,z6 95 94,z4 96 7 95,z5 97 1 96,za 98 97 1,z6 99 94,z4 100 7 99,z7 1 100 98]) .skip)) (.exit 3)))) .skip)) (.reg [z3 101 8,z9 102 6 11,qo 103 1 6 0 0 0 0 0 0 0 6 102,qp 104 6 48 0 0 0 0 0 0 101 103,z3 8 104])))) (.reg [zD 105 45 1,z3 45 105]))))))) (.reg [z3 106 7,z3 107 8,z6
 108 106,z4 109 7 108,z7 1 109 107])))))))) (.reg [zD 110 22 1,z3 22 110]))))))) (.seq (.seq (.reg [z5 111 1 1,z6 112 111,z4 113 4 112,z5 114 1 113,zE 115 114,zA 116 0]) (.block 4 (.loop (.seq (.reg [zK 117 116 115]) (.seq (.cond (.tmp 117) .skip (.exit 4)) (.seq (.block 5 (.seq (.reg [z3 118 116,z3 12 118]) (.seq (.reg [z5 119 1 1,z6 120 119,z4 121 4 120,z5 122 1 121,z3 123 12,z8 124 8 122
 123,z3 13 124]) (.seq (.reg [z3 125 13,z6 126 125,z4 127 0 126,z5 128 1 127,zC 129 128 1,z3 130 129,zJ 131 130 1 4,zL 132 130 12,zf 133 130 1 131 132,zJ 134 130 1 133,qA 135 130 134,zP 136 130 135,z3 137 136,zL 138 137 13,zY 139 137 138,zM 140 137 3 139,zJ 141 137 1 140,zx 142 137 141 1,zP 143 137 142]) (.cond (.tmp 143) (.seq (.reg [z3 144 13,z6 145 144,z4 146 3 145,ze 1 146 2]) (.reg [z3 147
 3,zD 148 147 1,z3 3 148])) .skip))))) (.reg [zD 149 116 1,z3 116 149]))))))) (.seq (.reg [z3 150 2,z3 151 3,z3 2 150,z3 3 151]) .ret)))))
theorem t153:Tryz.f153.body.bind (trC e153)=some c153:=by kernel_rfl
theorem r153:Tryz.f153.results.toList.mapM (trR Tryz.prog)=some [.tmp 2,.tmp 3]:=by kernel_rfl
theorem fn153{args:List Value}{M:Mem}{post:Value→Mem→Prop}(hl:args.length≤152)(h:VC e153 c153 (fnQ [.tmp 2,.tmp 3] post) (initS args 152) M):Fn Tryz.prog 153 args M post:=
 Fn.of' (E:=e153) Tryz.func153 t153 rfl r153 mixed hl h
noncomputable def e166:Env:=⟨Tryz.prog,[3],18,[]⟩
noncomputable def c166:C:=
 .seq (.reg [zO 3 0,zF 4]) (.seq (.reg [z5 6 1 1,z9 7 3 3,zG 8 124 6 7,z3 5 8]) (.seq (.reg [z3 9 5,qT 10 9 0,z3 11 10,zJ 12 11 1 2,zL 13 11 5,zf 14 11 1 12 13,zJ 15 11 1 14,qA 16 11 15,zP 17 11 16,z3 4 17]) .ret))
theorem t166:Tryz.f166.body.bind (trC e166)=some c166:=by kernel_rfl
theorem r166:Tryz.f166.results.toList.mapM (trR Tryz.prog)=some [.tmp 4]:=by kernel_rfl
theorem fn166{args:List Value}{M:Mem}{post:Value→Mem→Prop}(hl:args.length≤18)(h:VC e166 c166 (fnQ [.tmp 4] post) (initS args 18) M):Fn Tryz.prog 166 args M post:=
 Fn.of' (E:=e166) Tryz.func166 t166 rfl r166 mixed hl h
end Go.Proofs.YtpleoapljeffiaaGreatDoor.E
set_option maxHeartbeats 4000000
namespace Go.Proofs.YtpleoapljeffiaaGreatDoor.E
open Go
open Classical
def HX.enter(x:HX)(p:Int):HX:={x with phase:=p,hand:=if p=6 then x.xs.length else 0,sub:=0}
theorem enter_a{a:Nat}{x:HX}{p:Int}:FnA Tryz.prog 169 [ptr a,.int .i64 p] (hp a x) (fun v As=>As=hp a (x.enter p)):=by
 refine fnA_of (fun h=>fn169 (by simp) h) ?_
 repeat' (first
  |(refine k_L ?_;first|refine a_p rfl ?_|(refine k_l ?_;refine g_l rfl ?_)|(refine k_st ?_;refine g_st rfl rfl rfl rfl ?_))
  |refine a_n ?_
  |(refine k_V ?_;first|refine v_seq ?_|refine v_reg ?_|refine v_skip ?_|(refine v_cd rfl (fun hb=>?_) (fun hb=>?_)<;>try(exfalso;omega))))
 ·subst hb;exact fa_n (fun _ _=>rfl) (Pm.ent (fin _)) rfl
 ·refine fa_n (fun _ _=>rfl) (Pm.ent (fin (x.enter p) (e1:=?_))) rfl
  unfold HX.enter;rw[if_neg hb];rfl
def HX.begin(x:HX):HX:=if x.phase=0 then x.enter 1 else x
theorem begin_a{a:Nat}{x:HX}:FnA Tryz.prog 158 [ptr a] (hp a x) (fun v As=>As=hp a x.begin):=by
 refine fnA_of (fun h=>fn158 (by simp) h) ?_
 unfold HX.begin
 repeat' (first
  |(refine k_L ?_;first|refine a_p rfl ?_|(refine k_l ?_;refine g_l rfl ?_)|(refine g_c rfl enter_a (fun v As' hq=>?_);subst hq))
  |refine a_n ?_
  |(refine k_V ?_;first|refine v_seq ?_|refine v_reg ?_|refine v_skip ?_|(refine v_cd rfl (fun hb=>?_) (fun hb=>?_)<;>try(exfalso;omega))))
 ·rw[if_pos (show x.phase=0 from hb)];exact fa_n (fun _ _=>rfl) (Pm.ent (fin _)) rfl
 ·rw[if_neg (show ¬x.phase=0 from hb)];exact fa_n (fun _ _=>rfl) (Pm.ent (fin _)) rfl
def HX.shade(x:HX)(i:Nat)(y:CS)(e:D):HX:={x with xs:=x.xs.set i (y.s_color 1),gray:=x.gray++[(i:Int)],gd:=e}
theorem shade_a{a:Nat}{x:HX}{i:Nat}{y:CS}(hi:x.xs[i]?=some y)(hg:x.gray.length≤1000000):FnA Tryz.prog 130 [ptr a,.int .i64 i] (hp a x) (fun v As=>∃z:HX,As=hp a z∧if Marking x.H∧y.c.color=0 then ∃e,z=x.shade i y e else z=x):=by
 have hlt:=(List.getElem?_eq_some_iff.1 hi).1
 refine fnA_of (fun h=>fn130 (by simp) h) ?_
 repeat' (first
  |(refine k_L ?_;first|refine a_p rfl ?_|(refine k_g ?_;first|refine a_gy rfl rfl ?_|refine a_gn rfl rfl ?_|(refine a_gd rfl (fun hb=>?_) (fun hb=>?_)<;>try(exfalso;omega)))|(refine k_l ?_;refine g_l rfl ?_)|(refine k_i ?_;refine g_i rfl rfl ?_)|(refine k_st ?_;refine g_st rfl rfl rfl rfl ?_)|(refine k_bl ?_;refine a_bl rfl ?_)|(refine k_c ?_;refine a_cq rfl (fun m hm=>marking_q (ph_g (x:=x) hm)) ?_)|(refine g_ai rfl rfl (by omega) (fun e'=>?_)))
  |refine a_n ?_
  |(refine k_V ?_;first|refine v_seq ?_|refine v_reg ?_|refine v_skip ?_|refine v_cf rfl ?_|(refine v_cd rfl (fun hb=>?_) (fun hb=>?_)<;>try(exfalso;omega))))
 ·refine fa_n (fun _ _=>rfl) (Pm.ent (fin (x.shade i y e'))) ⟨_,rfl,?_⟩
  rw[if_pos ⟨‹_›,‹_›⟩];exact⟨_,rfl⟩
 all_goals refine fa_n (fun _ _=>rfl) (Pm.ent (fin x)) ⟨_,rfl,?_⟩
 all_goals rw[if_neg (by simp_all)]
end Go.Proofs.YtpleoapljeffiaaGreatDoor.E
