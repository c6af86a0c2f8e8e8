/- A part of the proof. Conditions: none. -/
import Derived.Test.YtpleoapljeffiaaDoorKL12
set_option linter.unusedVariables false
set_option linter.unusedSimpArgs false
namespace Go.Proofs.YtpleoapljeffiaaDoor.E
open Go
open Classical
theorem sum_erase{a:Int×Int}:∀{u:List (Int×Int)},a∈u→(u.map Prod.snd).sum=a.2+((u.erase a).map Prod.snd).sum
 |[],h=>by cases h
 |b::r,h=>by
  by_cases e:b=a
  ·subst e
   rw[List.erase_cons_head];simp
  ·rw[List.erase_cons_tail (by simpa using e)]
   have hm:a∈r:=by
    rcases List.mem_cons.1 h with x|x
    ·exact absurd x.symm e
    ·exact x
   have:=sum_erase hm
   simp only[List.map_cons,List.sum_cons];omega
theorem sum_nn:∀{u:List (Int×Int)},(∀x,x∈u→0≤x.2)→0≤(u.map Prod.snd).sum
 |[],_=>by simp
 |b::r,h=>by
  have:=sum_nn (u:=r) (fun x hx=>h x (by simp[hx]))
  have:=h b (by simp)
  simp only[List.map_cons,List.sum_cons];omega
theorem sum_sub:∀(l u:List (Int×Int)),l.Nodup→(∀x,x∈l→x∈u)→(∀x,x∈u→0≤x.2)→(l.map Prod.snd).sum≤(u.map Prod.snd).sum
 |[],u,_,_,h=>by simpa using sum_nn h
 |a::r,u,hn,h,h0=>by
  have ha:=h a (by simp)
  obtain⟨h1,h2⟩:=List.nodup_cons.1 hn
  have:=sum_sub r (u.erase a) h2 (fun x hx=>(List.mem_erase_of_ne (fun e=>h1 (by rw[←e];exact hx))).2 (h x (by simp[hx]))) (fun x hx=>h0 x (List.mem_of_mem_erase hx))
  rw[sum_erase ha]
  simp only[List.map_cons,List.sum_cons];omega
noncomputable def posL(H:Heap)(P:Nat→Prop):List (Int×Int):=((List.range H.cells.length).filter fun i=>decide (P i)).map fun i:Nat=>((H.getC i).born,(H.getC i).units)
theorem sumT_posL{H:Heap}{P:Nat→Prop}{L:List Bool}(hL:∀i,i<H.cells.length→(L[i]?=some true↔P i)):sumT H L H.cells.length=((posL H P).map Prod.snd).sum:=by
 have key:∀k:Nat,k≤H.cells.length→sumT H L k=((((List.range k).filter fun i=>decide (P i)).map fun i:Nat=>((H.getC i).born,(H.getC i).units)).map Prod.snd).sum:=by
  intro k
  induction k with
  |zero=>intro _;simp[sumT]
  |succ k ih=>
   intro hk
   have ih:=ih (by omega)
   rw[List.range_succ,List.filter_append,List.map_append,List.map_append,List.sum_append,←ih]
   simp only[sumT]
   by_cases hp:P k
   ·rw[if_pos ((hL k (by omega)).2 hp)]
    simp[hp]
   ·rw[if_neg (fun x=>hp ((hL k (by omega)).1 x))]
    simp[hp]
 exact key _ (Nat.le_refl _)
theorem posL_mem{H:Heap}(h:Sound H){P:Nat→Prop}{Q:Int→Prop}(hP:∀i,P i→∃c,H.cells[i]?=some c∧c.state=1∧¬Doomed H i)(hQ:∀(i:Nat) c,H.cells[i]?=some c→c.state=1→¬Doomed H i→(P i↔Q c.born))(x:Int×Int):
 x∈posL H P↔∃n,Node H x.1 n∧Q x.1∧x.2=1+n.pairs.length:=by
 unfold posL
 constructor
 ·intro hx
  obtain⟨i,hi,rfl⟩:=List.mem_map.1 hx
  obtain⟨_,hp⟩:=List.mem_filter.1 hi
  have hp:P i:=by simpa using hp
  obtain⟨c,c1,c2,c3⟩:=hP i hp
  have e:=getC_nat c1
  refine⟨_,by rw[e];exact node_at c1 c2 c3,by rw[e];exact(hQ i c c1 c2 c3).1 hp,?_⟩
  show(H.getC i).units=_
  rw[e];unfold Cell.units
  rw[if_pos c2];simp
 ·rintro⟨n,⟨i,c,c1,c2,c3,c4,rfl⟩,hq,hu⟩
  have e:=getC_nat c1
  refine List.mem_map.2 ⟨i,List.mem_filter.2 ⟨List.mem_range.2 (List.getElem?_eq_some_iff.1 c1).1,by simpa using(hQ i c c1 c2 c3).2 (by rw[c4];exact hq)⟩,?_⟩
  refine Prod.ext ?_ ?_
  ·show(H.getC i).born=_;rw[e,c4]
  ·show(H.getC i).units=_
   rw[e,hu];unfold Cell.units
   rw[if_pos c2];simp
theorem posL_nodup{H:Heap}(h:Sound H){P:Nat→Prop}(hP:∀i,P i→∃c,H.cells[i]?=some c∧c.state=1∧¬Doomed H i):(posL H P).Nodup:=by
 unfold posL
 refine List.pairwise_map.2 (List.Pairwise.imp_of_mem ?_ (List.Pairwise.filter _ List.pairwise_lt_range))
 intro a b ha hb hab e
 obtain⟨c,c1,c2,c3⟩:=hP a (by simpa using(List.mem_filter.1 ha).2)
 obtain⟨d,d1,d2,d3⟩:=hP b (by simpa using(List.mem_filter.1 hb).2)
 have:(H.getC a).born=(H.getC b).born:=congrArg Prod.fst e
 rw[getC_nat c1,getC_nat d1]at this
 exact h.r2.born a b c d c1 d1 hab c2 d2 this
theorem posL_sum{H K:Heap}(h:Sound H)(k:Sound K){P P':Nat→Prop}{Q Q':Int→Prop}(hP:∀i,P i→∃c,H.cells[i]?=some c∧c.state=1∧¬Doomed H i)(hQ:∀(i:Nat) c,H.cells[i]?=some c→c.state=1→¬Doomed H i→(P i↔Q c.born))
 (hP':∀i,P' i→∃c,K.cells[i]?=some c∧c.state=1∧¬Doomed K i) (hQ':∀(i:Nat) c,K.cells[i]?=some c→c.state=1→¬Doomed K i→(P' i↔Q' c.born)) (e:∀b n,(Node K b n∧Q' b)↔(Node H b n∧Q b)):((posL K P').map Prod.snd).sum=((posL H P).map Prod.snd).sum:=by
 have mem:∀x,x∈posL K P'↔x∈posL H P:=fun x=>by
  rw[posL_mem h hP hQ,posL_mem k hP' hQ']
  constructor
  ·rintro⟨n,a,b,c⟩;have:=(e x.1 n).1 ⟨a,b⟩;exact⟨n,this.1,this.2,c⟩
  ·rintro⟨n,a,b,c⟩;have:=(e x.1 n).2 ⟨a,b⟩;exact⟨n,this.1,this.2,c⟩
 have nn:∀x,x∈posL H P→0≤x.2:=fun x hx=>by
  obtain⟨n,_,_,c⟩:=(posL_mem h hP hQ x).1 hx
  omega
 have a:=sum_sub _ _ (posL_nodup k hP') (fun x hx=>(mem x).1 hx) nn
 have b:=sum_sub _ _ (posL_nodup h hP) (fun x hx=>(mem x).2 hx) (fun x hx=>nn x ((mem x).1 hx))
 omega
noncomputable def liveN(H:Heap):Int:=sumT H (reachL H) H.cells.length
theorem reachL_iff{H:Heap}{i:Nat}(hi:i<H.cells.length):(reachL H)[i]?=some true↔Reached H i:=by
 unfold reachL
 rw[List.getElem?_map,List.getElem?_range hi]
 simp
theorem live_eq{H K:Heap}(h:Sound H)(k:Sound K)(e:∀b n,Vis K b n↔Vis H b n):liveN K=liveN H:=by
 unfold liveN
 rw[sumT_posL (P:=Reached K) (fun i hi=>reachL_iff hi),sumT_posL (P:=Reached H) (fun i hi=>reachL_iff hi)]
 exact posL_sum h k (fun i hi=>reached_ok h.r2 h.r4 hi) (fun i c c1 c2 _=>reach_iff h c1 c2) (fun i hi=>reached_ok k.r2 k.r4 hi) (fun i c c1 c2 _=>reach_iff k c1 c2) e
theorem iter_vis:∀(k:Nat) {H:Heap},Sound H→∀b n,Vis (iterU k H) b n↔Vis H b n
 |0,H,_,b,n=>Iff.rfl
 |k+1,H,h,b,n=>(iter_vis k (unit_sound h) b n).trans (unit_vis h)
theorem reach_same{H K:Heap}(hr:K.regs.map K.aw=H.regs.map H.aw)(hn:∀b n,Node K b n↔Node H b n){b:Int}:ReachB K b↔ReachB H b:=by
 constructor
 ·intro x
  induction x with
  |reg h1 h2=>exact .reg (by rw[←hr];exact h1) h2
  |root h1 h2=>exact .root ((hn _ _).1 h1) h2
  |pair _ h2 h3 h4 h5 ih=>exact .pair ih ((hn _ _).1 h2) h3 h4 h5
 ·intro x
  induction x with
  |reg h1 h2=>exact .reg (by rw[hr];exact h1) h2
  |root h1 h2=>exact .root ((hn _ _).2 h1) h2
  |pair _ h2 h3 h4 h5 ih=>exact .pair ih ((hn _ _).2 h2) h3 h4 h5
theorem begin_vis{H:Heap}(hp:H.phase=0)(b:Int)(n:Nd):Vis (H.enterH 1) b n↔Vis H b n:=by
 have i:Iso H (H.enterH 1):=enter_iso fun j=>not_doom (by omega) j
 have k:∀b n,Node H b n→Node (H.enterH 1) b n:=enter_back (by omega)
 have hn:∀b n,Node (H.enterH 1) b n↔Node H b n:=fun b n=>⟨i.node b n,k b n⟩
 unfold Vis
 rw[hn,reach_same i.regs hn]
theorem round_vis{H:Heap}(h:Sound H)(b:Int)(n:Nd):Vis H.roundH b n↔Vis H b n:=by
 obtain⟨a,e⟩:=outH_ok h
 exact((iter_vis _ (begin_sound a e) b n).trans (begin_vis e b n)).trans (iter_vis _ h b n)
theorem step_vis{H:Heap}(h:Sound H)(k:Int)(b:Int)(n:Nd):Vis (H.stepH k) b n↔Vis H b n:=by
 unfold Heap.stepH
 split
 ·exact Iff.rfl
 ·refine(iter_vis _ (beginH_ok h) b n).trans ?_
  unfold Heap.beginH
  split
  ·exact begin_vis ‹_› b n
  ·exact Iff.rfl
def AllR(H:Heap):Prop:=∀b n,Node H b n→ReachB H b
theorem allR_unit{H:Heap}(h:Sound H)(ha:AllR H):AllR H.unitH:=fun b n hn=>(unit_reach h).2 (ha b n ((unit_iso h).node b n hn))
structure Inv (H:Heap):Prop where
 col:Marking H→∀(i:Nat) c,H.cells[i]?=some c→c.color≠0→Reached H i
 sw:H.phase=3→∀(i:Nat) c,H.cells[i]?=some c→c.state=1→((i:Int)<H.hand∨c.color≠0)→Reached H i
 all:4≤H.phase∨H.phase=0→AllR H
 mv:H.phase=4→∀(i j:Nat) c d,H.cells[i]?=some c→H.cells[j]?=some d→c.state=2→d.state=1→j<i
 cp:H.phase=5∨H.phase=6→∃m:Nat,(∀(i:Nat) c,H.cells[i]?=some c→(c.state=1↔i<m))∧(H.phase=6→(H.cells.length:Int)≤max H.hand m)
 us:H.phase=0→∀(i:Nat) c,H.cells[i]?=some c→c.state=1
theorem inv_begin{H:Heap}(h:Sound H)(hp:H.phase=0):Inv (H.enterH 1):=by
 obtain⟨g1,g2⟩:=h.r5.else_ (not_mark (by omega))
 have e:(H.enterH 1).phase=1:=rfl
 refine⟨fun _ i c hc hn=>?_,fun x=>by omega,fun x=>by omega,fun x=>by omega,fun x=>by omega,fun x=>by omega⟩
 exfalso
 have:=(g2 i c hc).2
 have h1:=(g2 i c hc).1
 rcases h.r2.each i c hc with x|x|x
 ·exact hn x.2.1.2.2.2.2.1
 ·exact hn x.2.1.2.2.2.2.1
 ·have hb:=x.2.2.2.2.2.1
  have:c.color=2:=by omega
  have:=(g2 i c hc).2 this
  omega
theorem shadeH_col{H:Heap}{i:Nat}{j:Int}(hi:i<H.cells.length)(hc:((H.shadeH i).getC j).color≠0):(H.getC j).color≠0∨j.toNat=i:=by
 unfold Heap.shadeH at hc
 split at hc
 ·have e:(H.gray1 i (H.getC i)).getC j=if j.toNat=i then(H.getC i).col 1 else H.getC j:=by rw[getC_L,getC_L];exact getL_set hi
  rw[e]at hc
  split at hc
  ·right;assumption
  ·left;exact hc
 ·exact .inl hc
theorem shadeW_col{H:Heap}{w:Word}{j:Int}(hf:Formed H w)(hc:((H.shadeW w).getC j).color≠0):(H.getC j).color≠0∨(w.kind=2∧j.toNat=w.at_.toNat):=by
 unfold Heap.shadeW at hc
 split at hc
 ·rename_i hk
  have:=hf.at hk
  rcases shadeH_col (by omega) hc with x|x
  ·exact .inl x
  ·exact .inr ⟨hk,x⟩
 ·exact .inl hc
theorem shadeL_col:∀(ws:List Word) (H:Heap) {j:Int},(∀w,w∈ws→Formed H w)→((H.shadeL ws).getC j).color≠0→(H.getC j).color≠0∨∃w,w∈ws∧w.kind=2∧j.toNat=w.at_.toNat
 |[],H,j,_,hc=>.inl hc
 |w::r,H,j,h,hc=>by
  have a:=hue_shadeW (h w (by simp))
  rcases shadeL_col r (H.shadeW w) (fun v hv=>formed_len a.len (h v (by simp[hv]))) hc with x|⟨v,hv,x⟩
  ·rcases shadeW_col (h w (by simp)) x with y|y
   ·exact .inl y
   ·exact .inr ⟨w,by simp,y⟩
  ·exact .inr ⟨v,by simp[hv],x⟩
theorem reach_unit{H:Heap}(h:Sound H){i j:Nat}{c d:Cell}(hc:H.cells[i]?=some c)(hd:H.unitH.cells[j]?=some d)(sc:c.state=1)(sd:d.state=1)(e:d.born=c.born)(hr:Reached H i):Reached H.unitH j:=by
 rw[reach_iff (unit_sound h) hd sd,e,unit_reach h,←reach_iff h hc sc];exact hr
theorem tgt_used{H:Heap}{w:Word}(hk:w.kind=2)(h:(H.getC w.at_).state=1):H.tgt w=some w.at_.toNat:=by
 unfold Heap.tgt
 rw[lead_id (fun _=>h),if_pos hk]
theorem inv_unit{H:Heap}(h:Sound H)(v:Inv H)(hp:H.phase≠0):Inv H.unitH:=by
 have hs:=unit_sound h
 have hph:=h.r1.phase
 have h0:=h.r1.hand
 --cells that differ in colour alone
 have hue:∀K:Heap,K=H.unitH→Hue H K→(∀(i:Nat),i<H.cells.length→(H.getC i).state=1→(K.getC i).color≠0→Reached H i)→∀(i:Nat) c,K.cells[i]?=some c→c.color≠0→Reached K i:=fun K hK hu hx i c hc hcl=>by
  have hi:=(List.getElem?_eq_some_iff.1 hc).1
  have e:=getC_nat hc
  have e2:=hu.cell i
  have hsK:Sound K:=by rw[hK];exact hs
  have s1:c.state=1:=by
   by_cases x:c.state=1
   ·exact x
   ·exact absurd (hsK.r2.bare hc x).2.2.2.2.1 hcl
  have s2:(H.getC i).state=1:=by rw[←e,e2]at s1;exact s1
  rw[hu.len]at hi
  have hr:=hx i hi s2 (by rw[e];exact hcl)
  have:=reach_unit h (get_at hi) (by rw[←hK];exact hc) s2 s1 (by rw[←e,e2];rfl) hr
  rw[←hK]at this;exact this
 rcases(by omega:H.phase=1∨H.phase=2∨H.phase=3∨H.phase=4∨H.phase=5∨H.phase=6)with p|p|p|p|p|p
 ·--roots
  have hcol:=v.col (.inl p)
  have eU:H.unitH=H.rootsU:=by unfold Heap.unitH;rw[if_pos p]
  have hphase:H.unitH.phase=1∨H.unitH.phase=2:=by
   rw[eU];unfold Heap.rootsU
   split
   ·exact .inr rfl
   ·left
    split
    ·show(H.shadeH H.hand.toNat).phase=1
     have:(H.shadeH H.hand.toNat).phase=H.phase:=by unfold Heap.shadeH;split<;>rfl
     omega
    ·exact p
  have main:∀(i:Nat) c,H.unitH.cells[i]?=some c→c.color≠0→Reached H.unitH i:=by
   have old:∀(i:Nat),i<H.cells.length→(H.getC i).color≠0→Reached H i:=fun i hi hc=>hcol i _ (get_at hi) hc
   by_cases hh:H.hand=H.cells.length
   ·have e:H.unitH=H.enterH 2:=by rw[eU];unfold Heap.rootsU;rw[if_pos hh]
    exact hue _ rfl (by rw[e];exact hue_same rfl rfl rfl rfl rfl rfl rfl) (fun i hi _ hc=>old i hi (by rw[e]at hc;exact hc))
   ·by_cases hr:Root (H.getC H.hand)
    ·have e:H.unitH={H.shadeH H.hand.toNat with hand:=H.hand+1}:=by rw[eU];unfold Heap.rootsU;rw[if_neg hh,if_pos hr]
     refine hue _ rfl (by rw[e];exact(hue_shadeH (by omega)).trans (hue_same rfl rfl rfl rfl rfl rfl rfl)) (fun i hi _ hc=>?_)
     rw[e]at hc
     have hc:((H.shadeH H.hand.toNat).getC i).color≠0:=hc
     rcases shadeH_col (by omega) hc with x|x
     ·exact old i hi x
     ·have e2:H.getC H.hand=H.getC i:=by congr 1;omega
      exact .root (get_at hi) (by rw[←e2];exact hr)
    ·have e:H.unitH={H with hand:=H.hand+1}:=by rw[eU];unfold Heap.rootsU;rw[if_neg hh,if_neg hr]
     exact hue _ rfl (by rw[e];exact hue_same rfl rfl rfl rfl rfl rfl rfl) (fun i hi _ hc=>old i hi (by rw[e]at hc;exact hc))
  exact⟨fun _=>main,fun x=>by omega,fun x=>by omega,fun x=>by omega,fun x=>by omega,fun x=>by omega⟩
 ·--marking
  have hcol:=v.col (.inr p)
  have eU:H.unitH=H.markU:=by unfold Heap.unitH;rw[if_neg (by omega),if_pos p]
  have old:∀(i:Nat),i<H.cells.length→(H.getC i).color≠0→Reached H i:=fun i hi hc=>hcol i _ (get_at hi) hc
  have fin:H.unitH.phase=2→(∀(i:Nat) c,H.unitH.cells[i]?=some c→c.color≠0→Reached H.unitH i)→Inv H.unitH:=fun e m=>
   ⟨fun _=>m,fun x=>by omega,fun x=>by omega,fun x=>by omega,fun x=>by omega,fun x=>by omega⟩
  cases hg:H.gray with
  |nil=>
   by_cases hx:∃w,w∈H.regs∧White H w
   ·have e:H.unitH=H.shadeL H.regs:=by rw[eU];unfold Heap.markU;rw[hg];simp only;rw[if_pos hx]
    have hr:=fun w hw=>reg_used h.r4 (w:=w) hw
    have hsh:=(shadeL_ok H.regs H (fun w hw=>⟨(hr w hw).1,fun hk=>((hr w hw).2 hk).1⟩)).1
    refine fin (by rw[e,hsh.phase];exact p) (hue _ rfl (by rw[e];exact hue_shadeL H.regs H (fun w hw=>(hr w hw).1)) (fun i hi s hc=>?_))
    rw[e]at hc
    rcases shadeL_col H.regs H (fun w hw=>(hr w hw).1) hc with x|⟨w,hw,hk,x⟩
    ·exact old i hi x
    ·have:=tgt_used hk ((hr w hw).2 hk).1
     refine .reg hw (by rw[this];congr 1;omega)
   ·have e:H.unitH=H.enterH 3:=by rw[eU];unfold Heap.markU;rw[hg];simp only;rw[if_neg hx]
    have m:=hue _ rfl (by rw[e];exact hue_same rfl rfl rfl rfl rfl rfl rfl) (fun i hi _ hc=>old i hi (by rw[e]at hc;exact hc))
    have ep:H.unitH.phase=3:=by rw[e];rfl
    have eh:H.unitH.hand=0:=by rw[e];rfl
    refine⟨fun x=>by rcases x with x|x<;>omega,fun _ i c hc s x=>?_,fun x=>by omega,fun x=>by omega,fun x=>by omega,fun x=>by omega⟩
    rcases x with x|x
    ·omega
    ·exact m i c hc x
  |cons g r=>
   obtain⟨g1,g2,g3⟩:=h.r5.mark (.inr p)
   obtain⟨b0,b1,b2,b3⟩:=g2 g (by rw[hg];simp)
   have hrg:Reached H g.toNat:=old g.toNat (by omega) (by rw[show((g.toNat:Nat):Int)=g by omega];omega)
   cases hs':(H.getC g).pairs[H.sub.toNat]? with
   |none=>
    have e:H.unitH=H.black g r:=by rw[eU];unfold Heap.markU;rw[hg];simp only;rw[hs']
    have gC:∀j:Int,(H.black g r).getC j=if j.toNat=g.toNat then(H.getC g).col 2 else H.getC j:=fun j=>by
     rw[getC_L,getC_L];exact getL_set (by omega)
    refine fin (by rw[e];exact p) (hue _ rfl ?_ (fun i hi s hc=>?_))
    ·rw[e]
     refine hue_set (i:=g.toNat) (k:=2) (by omega) ?_ rfl rfl rfl rfl rfl rfl
     rw[show((g.toNat:Nat):Int)=g by omega];rfl
    ·rw[e,gC]at hc
     split at hc
     ·rename_i e2
      rw[show i=g.toNat by omega];exact hrg
     ·exact old i hi hc
   |some q=>
    have e:H.unitH={(H.shadeW q.key).shadeW q.val with sub:=H.sub+1}:=by rw[eU];unfold Heap.markU;rw[hg];simp only;rw[hs']
    obtain⟨⟨k1,k2⟩,v1,v2⟩:=markP h p hg hs'
    have a:=hue_shadeW k1
    have b:=hue_shadeW (H:=H.shadeW q.key) (w:=q.val) (formed_len a.len v1)
    have hsh:=(markP2 h p hg hs').1
    have hcg:H.cells[g.toNat]?=some (H.getC g):=by
     have:=get_at (H:=H) (i:=g.toNat) (by omega)
     rw[show((g.toNat:Nat):Int)=g by omega]at this;exact this
    have hq:q∈(H.getC g).pairs:=List.mem_of_getElem? hs'
    refine fin (by rw[e];show((H.shadeW q.key).shadeW q.val).phase=2;rw[hsh.phase];exact p) (hue _ rfl (by rw[e];exact Hue.trans (a.trans b) (hue_same rfl rfl rfl rfl rfl rfl rfl)) (fun i hi s hc=>?_))
    rw[e]at hc
    have hc:(((H.shadeW q.key).shadeW q.val).getC i).color≠0:=hc
    rcases shadeW_col (H:=H.shadeW q.key) (formed_len a.len v1) hc with x|⟨hk,x⟩
    ·rcases shadeW_col k1 x with y|⟨hk,y⟩
     ·exact old i hi y
     ·refine .pair hrg hcg hq (.inl rfl) (by rw[tgt_used hk (k2 hk)];congr 1;omega)
    ·refine .pair hrg hcg hq (.inr rfl) (by rw[tgt_used hk (v2 hk)];congr 1;omega)
 ·--sweeping
  have hsw:=v.sw p
  have eU:H.unitH=H.sweepU:=by unfold Heap.unitH;rw[if_neg (by omega),if_neg (by omega),if_pos p]
  by_cases hh:H.hand=H.cells.length
  ·have e:H.unitH=H.enterH 4:=by rw[eU];unfold Heap.sweepU;rw[if_pos hh]
   have ep:H.unitH.phase=4:=by rw[e];rfl
   have ec:H.unitH.cells=H.cells:=by rw[e];rfl
   refine⟨fun x=>by rcases x with x|x<;>omega,fun x=>by omega,fun _ b n hn=>?_,fun _ i j c d hc hd s1 s2=>?_,fun x=>by omega,fun x=>by omega⟩
   ·rw[unit_reach h]
    obtain⟨i,c,a1,a2,a3,a4,a5⟩:=hn
    rw[ec]at a1
    have hi:=(List.getElem?_eq_some_iff.1 a1).1
    rw[←a4,←reach_iff h a1 a2]
    exact hsw i c a1 a2 (.inl (by omega))
   ·exfalso
    rw[ec]at hc
    rcases h.r2.each i c hc with x|x|x
    ·have:=x.1;omega
    ·have:=x.2.2.1;omega
    ·have:=x.1;omega
  ·have hlt:H.hand.toNat<H.cells.length:=by omega
   have key:∀a:Cell,H.unitH.cells=H.cells.set H.hand.toNat a→H.unitH.phase=3→H.unitH.hand=H.hand+1→(a.state=1→(H.getC H.hand).state=1∧(H.getC H.hand).color≠0∧a.born=(H.getC H.hand).born)→Inv H.unitH:=fun a ec ep eh ha=>by
    refine⟨fun x=>by rcases x with x|x<;>omega,fun _ i c hc s x=>?_,fun x=>by omega,fun x=>by omega,fun x=>by omega,fun x=>by omega⟩
    have hc':=hc
    rw[ec]at hc'
    rcases set_gt hc' with⟨e,rfl,_⟩|⟨e,hc'⟩
    ·obtain⟨a1,a2,a3⟩:=ha s
     have hg:=get_at hlt
     rw[show((H.hand.toNat:Nat):Int)=H.hand by omega]at hg
     rw[e]at hc⊢
     exact reach_unit h hg hc a1 s a3 (hsw _ _ hg a1 (.inr a2))
    ·exact reach_unit h hc' hc s s rfl (hsw i c hc' s (by rcases x with x|x;exact .inl (by omega);exact .inr x))
   by_cases hc0:(H.getC H.hand).state=1∧(H.getC H.hand).color=0
   ·have e:H.unitH={H with used:=H.used-(1+(H.getC H.hand).pairs.length),cells:=H.cells.set H.hand.toNat Cell.zero,hand:=H.hand+1}:=by rw[eU];unfold Heap.sweepU;rw[if_neg hh,if_pos hc0]
    exact key Cell.zero (by rw[e]) (by rw[e];exact p) (by rw[e]) (fun x=>by simp[Cell.zero]at x)
   ·have e:H.unitH={H with cells:=H.cells.set H.hand.toNat ((H.getC H.hand).col 0),hand:=H.hand+1}:=by rw[eU];unfold Heap.sweepU;rw[if_neg hh,if_neg hc0]
    exact key ((H.getC H.hand).col 0) (by rw[e]) (by rw[e];exact p) (by rw[e]) (fun x=>⟨x,fun y=>hc0 ⟨x,y⟩,rfl⟩)
 ·--moving
  have hal:=allR_unit h (v.all (.inl (by omega)))
  have hmv:=v.mv p
  have eU:H.unitH=H.moveU:=by unfold Heap.unitH;rw[if_neg (by omega),if_neg (by omega),if_neg (by omega),if_pos p]
  obtain⟨a1,a2,a3,a4⟩:=frG_ok H H.cells.length
  obtain⟨b1,b2,b3,b4⟩:=luG_ok H H.cells.length
  by_cases hlt:luG H H.cells.length≤frG H H.cells.length
  ·have e:H.unitH=H.enterH 5:=by rw[eU];unfold Heap.moveU;rw[if_pos hlt]
   have ep:H.unitH.phase=5:=by rw[e];rfl
   have ec:H.unitH.cells=H.cells:=by rw[e];rfl
   refine⟨fun x=>by rcases x with x|x<;>omega,fun x=>by omega,fun _=>hal,fun x=>by omega,fun _=>⟨(luG H H.cells.length+1).toNat,fun i c hc=>?_,fun x=>by omega⟩,fun x=>by omega⟩
   rw[ec]at hc
   have hi:=(List.getElem?_eq_some_iff.1 hc).1
   have hg:=getC_nat hc
   generalize luG H H.cells.length=u at*
   generalize frG H H.cells.length=f at*
   constructor
   ·intro s
    rcases Int.lt_or_le u i with x|x
    ·have:=b4 i hi x
     rw[hg]at this
     exact absurd s this
    ·omega
   ·intro x
    have hu1:=b3 (by omega)
    rcases h.r2.each i c hc with y|y|y
    ·exfalso
     by_cases z:(i:Int)<f
     ·exact a4 i hi z (by rw[hg];exact y.1)
     ·have:(i:Int)=u:=by omega
      rw[←this,hg]at hu1
      have:=y.1;omega
    ·exfalso
     have hgu:=get_at (H:=H) (i:=u.toNat) (by omega)
     rw[show((u.toNat:Nat):Int)=u by omega]at hgu
     have:=hmv i u.toNat c _ hc hgu y.1 hu1
     omega
    ·exact y.1
  ·have e:H.unitH=H.moved (frG H H.cells.length) (luG H H.cells.length):=by rw[eU];unfold Heap.moveU;rw[if_neg hlt]
   have ep:H.unitH.phase=4:=by rw[e];exact p
   have ec:H.unitH.cells=(H.cells.set (frG H H.cells.length).toNat (H.getC (luG H H.cells.length))).set (luG H H.cells.length).toNat (Cell.gone (frG H H.cells.length)):=by rw[e];rfl
   refine⟨fun x=>by rcases x with x|x<;>omega,fun x=>by omega,fun _=>hal,fun _ i j c d hc hd s1 s2=>?_,fun x=>by omega,fun x=>by omega⟩
   generalize luG H H.cells.length=u at*
   generalize frG H H.cells.length=f at*
   have hu1:=b3 (by omega)
   have hgu:=get_at (H:=H) (i:=u.toNat) (by omega)
   rw[show((u.toNat:Nat):Int)=u by omega]at hgu
   rw[ec]at hc hd
   --the used cell lies below u
   have hj:(j:Int)<u:=by
    rcases set_gt hd with⟨_,rfl,_⟩|⟨x,hd⟩
    ·simp[Cell.gone]at s2
    ·rcases set_gt hd with⟨y,_,_⟩|⟨y,hd⟩
     ·omega
     ·have hjl:=(List.getElem?_eq_some_iff.1 hd).1
      rcases Int.lt_or_le u j with z|z
      ·have:=b4 j hjl z
       rw[getC_nat hd]at this
       exact absurd s2 this
      ·omega
   rcases set_gt hc with⟨x,_,_⟩|⟨x,hc⟩
   ·omega
   ·rcases set_gt hc with⟨y,rfl,_⟩|⟨y,hc⟩
    ·omega
    ·have:=hmv i u.toNat c _ hc hgu s1 hu1
     omega
 ·--mending
  have hal:=allR_unit h (v.all (.inl (by omega)))
  obtain⟨m,hm,_⟩:=v.cp (.inl p)
  have eU:H.unitH=H.mendU:=by unfold Heap.unitH;rw[if_neg (by omega),if_neg (by omega),if_neg (by omega),if_neg (by omega),if_pos p]
  by_cases hh:H.hand=H.cells.length
  ·have e:H.unitH=H.enterH 6:=by rw[eU];unfold Heap.mendU;rw[if_pos hh]
   have ep:H.unitH.phase=6:=by rw[e];rfl
   refine⟨fun x=>by rcases x with x|x<;>omega,fun x=>by omega,fun _=>hal,fun x=>by omega,fun _=>⟨m,by rw[e];exact hm,fun _=>?_⟩,fun x=>by omega⟩
   have eh:H.unitH.hand=H.cells.length:=by rw[e];rfl
   have el:H.unitH.cells.length=H.cells.length:=by rw[e];rfl
   omega
  ·cases hs':(H.getC H.hand).pairs[H.sub.toNat]? with
   |none=>
    have e:H.unitH={H with hand:=H.hand+1,sub:=0}:=by rw[eU];unfold Heap.mendU;rw[if_neg hh,hs']
    have ep:H.unitH.phase=5:=by rw[e];exact p
    exact⟨fun x=>by rcases x with x|x<;>omega,fun x=>by omega,fun _=>hal,fun x=>by omega,fun _=>⟨m,by rw[e];exact hm,fun x=>by omega⟩,fun x=>by omega⟩
   |some q=>
    have e:H.unitH={H with cells:=H.cells.set H.hand.toNat {H.getC H.hand with pairs:=(H.getC H.hand).pairs.set H.sub.toNat ⟨H.lead q.key,H.lead q.val⟩},sub:=H.sub+1}:=by rw[eU];unfold Heap.mendU;rw[if_neg hh,hs']
    have ep:H.unitH.phase=5:=by rw[e];exact p
    refine⟨fun x=>by rcases x with x|x<;>omega,fun x=>by omega,fun _=>hal,fun x=>by omega,fun _=>⟨m,fun i c hc=>?_,fun x=>by omega⟩,fun x=>by omega⟩
    rw[e]at hc
    rcases set_gt hc with⟨x,rfl,_⟩|⟨x,hc⟩
    ·have hg:=get_at (H:=H) (i:=H.hand.toNat) (by omega)
     rw[show((H.hand.toNat:Nat):Int)=H.hand by omega]at hg
     rw[x]
     show(H.getC H.hand).state=1↔_
     exact hm _ _ hg
    ·exact hm i c hc
 ·--closing
  have hal:=allR_unit h (v.all (.inl (by omega)))
  obtain⟨m,hm,hm6⟩:=v.cp (.inr p)
  have hm6:=hm6 p
  have eU:H.unitH=H.closeU:=by unfold Heap.unitH;rw[if_neg (by omega),if_neg (by omega),if_neg (by omega),if_neg (by omega),if_neg (by omega),if_pos p]
  by_cases hh:H.hand=0
  ·have e:H.unitH={H.enterH 0 with rounds:=if H.rounds<1000000000 then H.rounds+1 else H.rounds}:=by rw[eU];unfold Heap.closeU;rw[if_pos hh]
   have ep:H.unitH.phase=0:=by rw[e];rfl
   refine⟨fun x=>by rcases x with x|x<;>omega,fun x=>by omega,fun _=>hal,fun x=>by omega,fun x=>by omega,fun _ i c hc=>?_⟩
   rw[e]at hc
   have hc:H.cells[i]?=some c:=hc
   have hi:=(List.getElem?_eq_some_iff.1 hc).1
   exact(hm i c hc).2 (by omega)
  ·have hl:H.closeA.length=H.cells.length:=by unfold Heap.closeA;split<;>simp
   have ec:H.unitH.cells=(if H.hand=H.cells.length∧(getL H.closeA (H.hand-1)).state=0 then H.closeA.take (H.hand-1).toNat else H.closeA):=by rw[eU];unfold Heap.closeU;rw[if_neg hh]
   have ep:H.unitH.phase=6:=by rw[eU];unfold Heap.closeU;rw[if_neg hh];exact p
   have eh:H.unitH.hand=H.hand-1:=by rw[eU];unfold Heap.closeU;rw[if_neg hh]
   have hA:∀(i:Nat) c,H.closeA[i]?=some c→(c.state=1↔i<m):=fun i c hc=>by
    unfold Heap.closeA at hc
    split at hc
    ·rename_i e2
     rcases set_gt hc with⟨x,rfl,_⟩|⟨x,hc⟩
     ·have hg:=get_at (H:=H) (i:=(H.hand-1).toNat) (by omega)
      rw[show(((H.hand-1).toNat:Nat):Int)=H.hand-1 by omega]at hg
      have:=hm _ _ hg
      rw[x]
      constructor
      ·intro y;simp[Cell.zero]at y
      ·intro y;have:=this.2 y;omega
     ·exact hm i c hc
    ·exact hm i c hc
   refine⟨fun x=>by rcases x with x|x<;>omega,fun x=>by omega,fun _=>hal,fun x=>by omega,fun _=>⟨m,fun i c hc=>?_,fun _=>?_⟩,fun x=>by omega⟩
   ·rw[ec]at hc
    split at hc
    ·rw[List.getElem?_take]at hc
     split at hc
     ·exact hA i c hc
     ·cases hc
    ·exact hA i c hc
   ·rw[ec,eh]
    split
    ·rw[List.length_take];omega
    ·rename_i e2
     rw[hl]
     by_cases x:H.hand=H.cells.length
     ·--the last cell stays:it is used
      have hg:=getL_some (cs:=H.closeA) (j:=H.hand-1) (by omega) (by omega)
      have:=hA _ _ hg
      have hst:(getL H.closeA (H.hand-1)).state=1:=by
       have hz:(getL H.closeA (H.hand-1)).state≠0:=fun y=>e2 ⟨x,y⟩
       have hg2:=get_at (H:=H) (i:=(H.hand-1).toNat) (by omega)
       rw[show(((H.hand-1).toNat:Nat):Int)=H.hand-1 by omega]at hg2
       unfold Heap.closeA at hz⊢
       split
       ·rename_i y
        rw[if_pos y,getL_set (by omega),if_pos rfl]at hz
        exact absurd rfl hz
       ·rename_i y
        rw[if_neg y]at hz
        rw[getL_at hg2 rfl]at hz⊢
        rcases h.r2.each _ _ hg2 with z|z|z
        ·exact absurd z.1 hz
        ·exact absurd z.1 y
        ·exact z.1
      have:=this.1 hst
      omega
     ·omega
theorem inv_iter:∀(k:Nat) {H:Heap},Sound H→Inv H→(∀j,j<k→(iterU j H).phase≠0)→Inv (iterU k H)
 |0,_,_,v,_=>v
 |k+1,H,h,v,hp=>inv_iter k (unit_sound h) (inv_unit h v (hp 0 (by omega))) (fun j hj=>hp (j+1) (by omega))
theorem clean{H:Heap}(h:Sound H):(∀(i:Nat) c,H.roundH.cells[i]?=some c→c.state=1∧Reached H.roundH i)∧H.roundH.used=liveN H:=by
 obtain⟨a,e⟩:=outH_ok h
 have hb:=begin_sound a e
 obtain⟨⟨o1,o2⟩,_⟩:=outN_ok hb
 have v:Inv H.roundH:=inv_iter _ hb (inv_begin a e) o2
 obtain⟨s,p⟩:=roundH_ok h
 have main:∀(i:Nat) c,H.roundH.cells[i]?=some c→c.state=1∧Reached H.roundH i:=fun i c hc=>by
  have s1:=v.us p i c hc
  exact⟨s1,(reach_iff s hc s1).2 (v.all (.inr p) _ _ (node_at hc s1 (not_doom (by omega) i)))⟩
 refine⟨main,?_⟩
 rw[←live_eq h s (fun b n=>round_vis h b n),←s.r3.1]
 have key:∀k:Nat,k≤H.roundH.cells.length→sumT H.roundH (reachL H.roundH) k=unitsN (H.roundH.cells.take k):=by
  intro k
  induction k with
  |zero=>intro _;simp[sumT,unitsN]
  |succ k ih=>
   intro hk
   have ih:=ih (by omega)
   have hc:=get_at (H:=H.roundH) (i:=k) (by omega)
   have hr:=(main k _ hc).2
   rw[List.take_add_one,hc,unitsN_append,←ih]
   simp only[sumT]
   rw[if_pos ((reachL_iff (by omega)).2 hr)]
   simp[unitsN]
 unfold liveN
 rw[key _ (Nat.le_refl _),List.take_length]
theorem aw_reg{H:Heap}(h:R4 H){w:Word}(hw:w∈H.regs):H.aw w=if w.kind=2 then⟨2,0,(H.getC w.at_).born⟩else w:=by
 unfold Heap.aw
 by_cases hk:w.kind=2
 ·rw[if_pos hk,if_pos hk,lead_id (fun hk=>((reg_used h hw).2 hk).1)]
 ·rw[if_neg hk,if_neg hk]
structure FillI (H:Heap) (s:Nat) (B:Nat→Option Int):Prop where
 ok:Sound H
 per:H.per=0
 regs:∀k,k<16→(H.regs.map H.aw)[k]?=some (match B k with|some b=>⟨2,0,b⟩|none=>⟨0,0,0⟩)
 far:∀k,5≤k→B k=none
 inj:∀j k b,B j=some b→B k=some b→j=k
 nod:∀(i:Nat) c,H.cells[i]?=some c→c.state=1→¬Doomed H i→c.last=0∧c.pairs=List.replicate (s-1) Pair.no
def heldS(B:Nat→Option Int)(s:Nat):Int:=(if(B 0).isSome then(s:Int)else 0)+(if(B 1).isSome then(s:Int)else 0)+(if(B 2).isSome then(s:Int)else 0)+(if(B 3).isSome then(s:Int)else 0)+(if(B 4).isSome then(s:Int)else 0)
theorem ap_no(H:Heap):H.ap Pair.no=Pair.no:=by
 unfold Heap.ap Heap.aw Pair.no
 rw[if_neg (by show ¬(0:Int)=2;omega)]
section
variable {H:Heap} {s:Nat} {B:Nat→Option Int}
theorem FillI.node(h:FillI H s B){b:Int}{n:Nd}(hn:Node H b n):n.last=0∧n.pairs=List.replicate (s-1) Pair.no:=by
 obtain⟨i,c,c1,c2,c3,c4,rfl⟩:=hn
 obtain⟨a,e⟩:=h.nod i c c1 c2 c3
 refine⟨a,?_⟩
 show c.pairs.map H.ap=_
 rw[e,List.map_replicate,ap_no]
theorem FillI.word(h:FillI H s B){k:Nat}{b:Int}(hk:k<16)(hb:B k=some b):∃(w:Word) (i:Nat) (c:Cell),H.regs[k]?=some w∧w.kind=2∧w.at_=i∧H.cells[i]?=some c∧c.state=1∧¬Doomed H i∧c.born=b:=by
 have hr:=h.regs k hk
 rw[hb,List.getElem?_map]at hr
 cases hw:H.regs[k]? with
 |none=>rw[hw]at hr;cases hr
 |some w=>
  rw[hw]at hr
  simp only[Option.map_some,Option.some.injEq]at hr
  have hm:=List.mem_of_getElem? hw
  rw[aw_reg h.ok.r4 hm]at hr
  obtain⟨u1,u2⟩:=reg_used h.ok.r4 hm
  by_cases hk2:w.kind=2
  ·rw[if_pos hk2]at hr
   obtain⟨v1,v2⟩:=u2 hk2
   have hat:=u1.at hk2
   obtain⟨i,hi⟩:=Int.eq_ofNat_of_zero_le hat.1
   rw[hi]at hr v1 v2 hat
   have hc:=get_at (H:=H) (i:=i) (by omega)
   refine⟨w,i,_,rfl,hk2,hi,hc,v1,v2,?_⟩
   simp only[Word.mk.injEq,true_and]at hr
   exact hr
  ·rw[if_neg hk2]at hr
   rw[hr]at hk2
   exact absurd rfl hk2
theorem FillI.reach(h:FillI H s B){b:Int}:ReachB H b↔∃k,k<5∧B k=some b:=by
 constructor
 ·intro x
  induction x with
  |reg h1 h2=>
   obtain⟨k,hk⟩:=List.getElem?_of_mem h1
   have hlt:k<16:=by
    have:=(List.getElem?_eq_some_iff.1 hk).1
    rw[List.length_map,h.ok.r1.regs]at this;exact this
   have hr:=h.regs k hlt
   rw[hk]at hr
   cases hb:B k with
   |none=>
    rw[hb]at hr
    simp only[Option.some.injEq]at hr
    rw[hr]at h2
    exact absurd h2.1 (by show ¬(0:Int)=2;omega)
   |some d=>
    rw[hb]at hr
    simp only[Option.some.injEq]at hr
    rw[hr]at h2
    refine⟨k,?_,by rw[←h2.2];exact hb⟩
    rcases Nat.lt_or_ge k 5 with y|y
    ·exact y
    ·rw[h.far k y]at hb;cases hb
  |root h1 h2=>
   have:=(h.node h1).1
   omega
  |pair _ h2 h3 h4 h5 _=>
   rw[(h.node h2).2]at h3
   have:=List.eq_of_mem_replicate h3
   subst this
   rcases h4 with rfl|rfl<;>exact absurd h5.1 (by show ¬(0:Int)=2;omega)
 ·rintro⟨k,hk,hb⟩
  have hr:=h.regs k (by omega)
  rw[hb]at hr
  exact .reg (List.mem_of_getElem? hr) ⟨rfl,rfl⟩
theorem FillI.live(h:FillI H s B)(hs:1≤s):liveN H=heldS B s:=by
 unfold liveN
 rw[sumT_posL (P:=Reached H) (fun i hi=>reachL_iff hi)]
 have hP:∀i,Reached H i→∃c,H.cells[i]?=some c∧c.state=1∧¬Doomed H i:=fun i hi=>reached_ok h.ok.r2 h.ok.r4 hi
 have hQ:∀(i:Nat) c,H.cells[i]?=some c→c.state=1→¬Doomed H i→(Reached H i↔ReachB H c.born):=fun i c c1 c2 _=>reach_iff h.ok c1 c2
 generalize hu:((List.range 5).filterMap fun k=>(B k).map fun b=>(b,(s:Int)))=u
 have mem:∀x,x∈posL H (Reached H)↔x∈u:=fun x=>by
  rw[posL_mem h.ok hP hQ,←hu,List.mem_filterMap]
  constructor
  ·rintro⟨n,a,b,c⟩
   obtain⟨k,hk,hb⟩:=h.reach.1 b
   refine⟨k,List.mem_range.2 hk,?_⟩
   rw[hb,(h.node a).2,List.length_replicate]at*
   obtain⟨x1,x2⟩:=x
   simp only[Option.map_some,Option.some.injEq,Prod.mk.injEq,true_and]
   simp only at c
   omega
  ·rintro⟨k,hk,e⟩
   have hk:=List.mem_range.1 hk
   cases hb:B k with
   |none=>rw[hb]at e;cases e
   |some b=>
    rw[hb]at e
    simp only[Option.map_some,Option.some.injEq]at e
    subst e
    obtain⟨w,i,c,_,_,_,c1,c2,c3,c4⟩:=h.word (by omega) hb
    have nd:=node_at c1 c2 c3
    rw[c4]at nd
    refine⟨_,nd,h.reach.2 ⟨k,hk,hb⟩,?_⟩
    have:=(h.node nd).2
    simp only at this⊢
    rw[this,List.length_replicate]
    omega
 have nn:∀x,x∈u→0≤x.2:=fun x hx=>by
  obtain⟨n,_,_,c⟩:=(posL_mem h.ok hP hQ x).1 ((mem x).2 hx)
  omega
 have ud:u.Nodup:=by
  rw[←hu]
  unfold List.Nodup
  rw[List.pairwise_filterMap]
  refine List.Pairwise.imp ?_ (List.pairwise_lt_range (n:=5))
  intro j k hjk x hx y hy e
  cases hb:B j with
  |none=>rw[hb]at hx;cases hx
  |some b=>
   cases hd:B k with
   |none=>rw[hd]at hy;cases hy
   |some d=>
    rw[hb]at hx
    rw[hd]at hy
    simp only[Option.map_some,Option.some.injEq]at hx hy
    rw[←hx,←hy]at e
    have:b=d:=congrArg Prod.fst e
    subst this
    have:=h.inj j k b hb hd
    omega
 have a:=sum_sub _ _ (posL_nodup h.ok hP) (fun x hx=>(mem x).1 hx) nn
 have b:=sum_sub _ _ ud (fun x hx=>(mem x).2 hx) (fun x hx=>nn x ((mem x).1 hx))
 have e:(u.map Prod.snd).sum=heldS B s:=by
  rw[←hu]
  show(([0,1,2,3,4].filterMap fun k=>(B k).map fun b=>(b,(s:Int))).map Prod.snd).sum=_
  unfold heldS
  simp only[List.filterMap_cons,List.filterMap_nil]
  cases B 0<;>cases B 1<;>cases B 2<;>cases B 3<;>cases B 4<;>simp<;>omega
 omega
theorem FillI.frc(h:FillI H s B){f:Int}(hf:0≤f∧f≤1000000000):FillI {H with forced:=f} s B:=⟨forced_sound h.ok hf,h.per,h.regs,h.far,h.inj,h.nod⟩
theorem aw_zero{K:Heap}{w:Word}(e:K.aw w=⟨0,0,0⟩):w=⟨0,0,0⟩:=by
 unfold Heap.aw at e
 by_cases hk:w.kind=2
 ·rw[if_pos hk]at e;simp only[Word.mk.injEq]at e;omega
 ·rw[if_neg hk]at e;exact e
theorem ap_rep{K:Heap}{m:Nat}{l:List Pair}(e:l.map K.ap=List.replicate m Pair.no):l=List.replicate m Pair.no:=by
 rw[List.eq_replicate_iff]at e⊢
 refine⟨by simpa using e.1,fun p hp=>?_⟩
 have:=e.2 _ (List.mem_map_of_mem (f:=K.ap) hp)
 unfold Heap.ap Pair.no at this
 simp only[Pair.mk.injEq]at this
 obtain⟨pk,pv⟩:=p
 obtain rfl:pk=_:=aw_zero this.1
 obtain rfl:pv=_:=aw_zero this.2
 rfl
theorem FillI.same(h:FillI H s B){K:Heap}(k:Sound K)(hp:K.per=H.per)(hr:K.regs.map K.aw=H.regs.map H.aw)(hn:∀b n,Node K b n→Node H b n):FillI K s B:=⟨k,by rw[hp];exact h.per,by rw[hr];exact h.regs,h.far,h.inj,fun i c c1 c2 c3=>by
 obtain⟨a,b⟩:=h.node (hn _ _ (node_at c1 c2 c3))
 exact⟨a,ap_rep b⟩⟩
theorem live_used(h:Sound H):liveN H≤H.used:=by
 rw[←h.r3.1]
 unfold liveN
 have key:∀k:Nat,k≤H.cells.length→sumT H (reachL H) k≤unitsN (H.cells.take k):=by
  intro k
  induction k with
  |zero=>intro _;simp[sumT,unitsN]
  |succ k ih=>
   intro hk
   have ih:=ih (by omega)
   have hu:=(units_le (getC_pl h.r2 k)).1
   have e:unitsN (H.cells.take (k+1))=unitsN (H.cells.take k)+(H.getC k).units:=by
    rw[List.take_add_one,get_at (by omega)]
    unfold unitsN
    simp
   rw[e]
   simp only[sumT]
   split<;>omega
 have:=key _ (Nat.le_refl _)
 rwa [List.take_length]at this
theorem FillI.fits(h:FillI H s B)(hs:1≤s):FillI (H.fitsH s) s B∧((H.fitsH s).used+s≤(H.fitsH s).room↔heldS B s+s≤H.room):=by
 obtain⟨f1,f2,f3,f4,f5,f6,f7⟩:=fits_ok h.ok s
 have hF:FillI (H.fitsH s) s B:=h.same f1 f6 f2 f3
 refine⟨hF,?_⟩
 rw[f4]
 have hl:=h.live hs
 by_cases e:H.used+s≤H.room
 ·have:H.fitsH s=H:=by unfold Heap.fitsH;rw[if_pos e]
  rw[this]
  have:=live_used h.ok
  exact⟨fun _=>by omega,fun _=>e⟩
 ·have hf:=h.ok.r1.forced
  have h1:FillI {H with forced:=if H.forced<1000000000 then H.forced+1 else H.forced} s B:=h.frc (by split<;>omega)
  have:H.fitsH s=Heap.roundH {H with forced:=if H.forced<1000000000 then H.forced+1 else H.forced}:=by unfold Heap.fitsH;rw[if_neg e]
  rw[this,(clean h1.ok).2,h1.live hs]
noncomputable def setB(B:Nat→Option Int)(k:Nat)(b:Int):Nat→Option Int:=fun j=>if j=k then some b else B j
theorem FillI.new(h:FillI H s B)(hs:1≤s∧s≤201)(hb:H.born<1000000000){k:Nat}(hk:k<5)(hr:H.used+s≤H.room):FillI (H.newH k 0 (s-1)) s (setB B k (H.born+1)):=by
 obtain⟨f0,f1,f2,_⟩:=frG_ok H H.cells.length
 have hS:Sound (H.newH k 0 (s-1)):=new_sound h.ok hb (by omega) (by omega) (by omega)
 obtain⟨a,ha⟩:=Int.eq_ofNat_of_zero_le f0
 have gK:∀j:Int,(H.newH k 0 (s-1)).getC j=if j.toNat=a then Cell.fresh 0 (H.born+1) (newCol H a) (s-1)else H.getC j:=fun j=>by
  have:=addC_L (cs:=H.cells) (at_:=(frG H H.cells.length).toNat) (c:=Cell.fresh 0 (H.born+1) (newCol H (frG H H.cells.length)) (s-1)) (by omega) j
  rw[ha]at this
  rw[getC_L,getC_L]
  unfold Heap.newH
  rw[ha]
  exact this
 have hne:∀w,w∈H.regs→w.kind=2→w.at_.toNat≠a:=fun w hw hk2 e=>by
  obtain⟨u1,u2⟩:=reg_used h.ok.r4 hw
  have hat:=u1.at hk2
  have e2:w.at_=frG H H.cells.length:=by omega
  have:=(u2 hk2).1
  rw[e2]at this hat
  have:=(f2 hat.2).2
  omega
 have rg:(H.newH k 0 (s-1)).regs=H.regs.set k ⟨2,0,a⟩:=by unfold Heap.newH;rw[ha]
 have h16:H.regs.length=16:=h.ok.r1.regs
 refine⟨hS,h.per,fun j hj=>?_,fun j hj=>?_,?_,fun i c hc hs1 hd=>?_⟩
 ·have hold:=h.regs j hj
  rw[List.getElem?_map]at hold⊢
  rw[rg,List.getElem?_set]
  by_cases e:k=j
  ·subst e
   rw[if_pos rfl,if_pos (by omega)]
   have hm:(⟨2,0,a⟩:Word)∈(H.newH k 0 (s-1)).regs:=by rw[rg];exact List.mem_of_getElem? (i:=k) (by rw[List.getElem?_set,if_pos rfl,if_pos (by omega)])
   simp only[Option.map_some,setB,if_true]
   rw[aw_reg hS.r4 hm,if_pos rfl,gK,if_pos (by simp)]
   rfl
  ·rw[if_neg e]
   have e1:setB B k (H.born+1) j=B j:=by unfold setB;rw[if_neg (fun x=>e x.symm)]
   rw[e1,←hold]
   cases hw:H.regs[j]? with
   |none=>rfl
   |some w=>
    have hm:=List.mem_of_getElem? hw
    have hm2:w∈(H.newH k 0 (s-1)).regs:=by rw[rg];exact List.mem_of_getElem? (i:=j) (by rw[List.getElem?_set,if_neg e];exact hw)
    simp only[Option.map_some,Option.some.injEq]
    rw[aw_reg hS.r4 hm2,aw_reg h.ok.r4 hm]
    by_cases hk2:w.kind=2
    ·rw[if_pos hk2,if_pos hk2,gK,if_neg (hne w hm hk2)]
    ·rw[if_neg hk2,if_neg hk2]
 ·unfold setB
  rw[if_neg (by omega)]
  exact h.far j hj
 ·have lt:∀j b,B j=some b→b≤H.born:=fun j b hb=>by
   obtain⟨w,i,c,_,_,_,c1,c2,_,c4⟩:=h.word (k:=j) (by
    rcases Nat.lt_or_ge j 5 with y|y
    ·omega
    ·rw[h.far j y]at hb;cases hb) hb
   obtain⟨_,_,_,_,⟨_,u⟩,_⟩:=h.ok.r2.used c1 c2
   omega
  intro i j b hi hj
  unfold setB at hi hj
  by_cases e1:i=k
  ·by_cases e2:j=k
   ·omega
   ·rw[if_pos e1]at hi
    rw[if_neg e2]at hj
    have:=lt j b hj
    simp only[Option.some.injEq]at hi
    omega
  ·rw[if_neg e1]at hi
   by_cases e2:j=k
   ·rw[if_pos e2]at hj
    have:=lt i b hi
    simp only[Option.some.injEq]at hj
    omega
   ·rw[if_neg e2]at hj
    exact h.inj i j b hi hj
 ·have hc':(addC H.cells a (Cell.fresh 0 (H.born+1) (newCol H a) (s-1)))[i]?=some c:=by
   unfold Heap.newH at hc
   rw[ha]at hc
   exact hc
  rcases addC_gt (by omega) hc' with⟨e1,e2⟩|⟨e1,e2⟩
  ·subst e2;exact⟨rfl,rfl⟩
  ·refine h.nod i c e2 hs1 (fun hD=>hd ?_)
   obtain⟨d1,d2,d3,d4⟩:=hD
   have g:(H.newH k 0 (s-1)).getC i=H.getC i:=by rw[gK,if_neg (by omega)]
   exact⟨d1,by rw[g];exact d2,by rw[g];exact d3,d4⟩
theorem FillI.step(h:FillI H s B)(hs:1≤s∧s≤201)(hb:H.born<1000000000){k:Nat}(hk:k<5):
 (doNew H ⟨1,k,0,(s:Int)-1,0⟩).num=0∧(doNew H ⟨1,k,0,(s:Int)-1,0⟩).heap.room=H.room∧
 (heldS B s+s≤H.room→(doNew H ⟨1,k,0,(s:Int)-1,0⟩).code=0∧(doNew H ⟨1,k,0,(s:Int)-1,0⟩).heap.born=H.born+1∧FillI (doNew H ⟨1,k,0,(s:Int)-1,0⟩).heap s (setB B k (H.born+1)))∧
 (¬heldS B s+s≤H.room→(doNew H ⟨1,k,0,(s:Int)-1,0⟩).code=4∧(doNew H ⟨1,k,0,(s:Int)-1,0⟩).heap.born=H.born∧FillI (doNew H ⟨1,k,0,(s:Int)-1,0⟩).heap s B):=by
 obtain⟨a,b⟩:=h.fits hs.1
 obtain⟨f1,f2,f3,f4,f5,f6,f7⟩:=fits_ok h.ok s
 have e1:(1:Int)+((s:Int)-1)=s:=by omega
 have e2:((s:Int)-1).toNat=s-1:=by omega
 unfold doNew
 simp only[e1,e2,Int.toNat_natCast]
 rw[if_neg (by omega)]
 by_cases c:heldS B s+s≤H.room
 ·rw[if_pos (b.2 c)]
  have hn:=a.new hs (by omega) hk (b.2 c)
  have ep:((H.fitsH s).newH k 0 (s-1)).paceH s=(H.fitsH s).newH k 0 (s-1):=by unfold Heap.paceH;rw[if_pos (.inl hn.per)]
  simp only[ep]
  refine⟨trivial,f4,fun _=>⟨trivial,?_,by rw[←f5];exact hn⟩,fun x=>absurd c x⟩
  show(H.fitsH s).born+1=H.born+1
  rw[f5]
 ·rw[if_neg (fun x=>c (b.1 x))]
  exact⟨rfl,f4,fun x=>absurd x c,fun _=>⟨rfl,f5,a⟩⟩
end
noncomputable def runH:Heap→List Act→Heap
 |H,[]=>H
 |H,b::r=>runH (actA H b).heap r
noncomputable def ansL:Heap→List Act→List (Int×Int)
 |_,[]=>[]
 |H,b::r=>((actA H b).code,(actA H b).num)::ansL (actA H b).heap r
theorem runH_app:∀(l:List Act) (H:Heap) (b:Act),runH H (l++[b])=(actA (runH H l) b).heap
 |[],_,_=>rfl
 |c::r,H,b=>runH_app r (actA H c).heap b
theorem ansL_app:∀(l:List Act) (H:Heap) (b:Act),ansL H (l++[b])=ansL H l++[((actA (runH H l) b).code,(actA (runH H l) b).num)]
 |[],_,_=>rfl
 |c::r,H,b=>by
  show _::ansL (actA H c).heap (r++[b])=_
  rw[ansL_app r];rfl
theorem runH_sound:∀(l:List Act) {H:Heap},Sound H→Sound (runH H l)
 |[],_,h=>h
 |b::r,_,h=>runH_sound r (actA_sound h)
theorem ansL_len:∀(l:List Act) (H:Heap),(ansL H l).length=l.length
 |[],_=>rfl
 |b::r,H=>by simp[ansL,ansL_len r]
end Go.Proofs.YtpleoapljeffiaaDoor.E
set_option maxRecDepth 100000
namespace Go.Proofs.YtpleoapljeffiaaDoor.E
open Go
noncomputable def e17:Env:=⟨Tryd.prog,[2,7,18],22,[]⟩
abbrev zR(a0:Nat)(a1:Nat)(a2:Nat)(a3:Int)(a4:Int)(a5:Int)(a6:Int):I:=⟨some a0,none,.call a1 [.tmp a2,.const (.int .i64 a3),.const (.int .i64 a4),.const (.int .i64 a5),.const (.int .i64 a6)]⟩
abbrev zq(a0:Nat)(a1:Nat)(a2:Int):I:=⟨some a0,none,.bin .rem (.tmp a1) (.const (.int .i64 a2))⟩
abbrev q6(a0:Nat)(a1:Nat)(a2:Nat)(a3:Nat)(a4:Int):I:=⟨some a0,none,.call a1 [.tmp a2,.tmp a3,.const (.int .i64 a4)]⟩
abbrev qB(a0:Nat)(a1:Nat)(a2:Nat)(a3:Nat)(a4:Nat):I:=⟨some a0,some (a1,true),.call a2 [.tmp a3,.tmp a4]⟩
abbrev qJ(a0:Nat)(a1:Nat)(a2:Nat)(a3:Int)(a4:Int)(a5:Int)(a6:Nat)(a7:Nat)(a8:Nat)(a9:Nat)(a10:Int)(a11:Int)(a12:Int)(a13:Nat)(a14:Nat)(a15:Int)(a16:Int)(a17:Int)(a18:Int):I:=⟨some a0,none,.alloc true [.bool false,.slice none a1 a2,.int .i64 a3,.int .i64 a4,.int .i64 a5,.slice none a6 a7,.slice none a8 a9,.int .i64 a10,.int .i64 a11,.int .i64 a12,.slice none a13 a14,.int .i64 a15,.int .i64 a16,.int .i64 a17,.int .i64 a18]⟩
abbrev qY(a0:Nat)(a1:Nat)(a2:Int)(a3:Nat):I:=⟨some a0,none,.call a1 [.const (.int .i64 a2),.tmp a3]⟩
abbrev qZ(a0:Nat)(a1:Nat)(a2:Nat):I:=⟨some a0,some (a1,false),.lenS (.tmp a2)⟩
noncomputable def c17:C:=
 .seq (.reg [zN 2 0,zc 4 0 0]) (.seq (.reg [zc 5 0 0]) (.seq (.seq (.reg [z3 8 1,zC 9 8,zD 10 0]) (.block 0 (.loop (.seq (.reg [zM 11 10 9]) (.seq (.cond (.tmp 11) .skip (.exit 0)) (.seq (.block 1 (.seq (.reg [z9 12 5 8 10,z8 13 5 12,⟨some 7,none,.alloc true [.int .i64 0,.int .i64 0,.int .i64 0,.int .i64 0,.int .i64 0]⟩,z7 5 7 13]) (.reg [z3 14 5,z8 15 2 2,z8 16 5 7,zK 17 27 15 16,⟨some 18,
 none,.bslice true 1 2 [.int .i64 0,.int .i64 0] [(0,2,.tmp 17)]⟩,⟨some 19,none,.app 2 16 [.int .i64 0,.int .i64 0] (.tmp 14) (.tmp 18)⟩,z3 5 19]))) (.reg [zG 20 10 1,z3 10 20]))))))) (.seq (.reg [z3 21 5,z3 4 21]) .ret)))
theorem t17:Tryd.f17.body.bind (trC e17)=some c17:=by kernel_rfl
theorem r17:Tryd.f17.results.toList.mapM (trR Tryd.prog)=some [.tmp 4]:=by kernel_rfl
theorem fn17{args:List Value}{M:Mem}{post:Value→Mem→Prop}(hl:args.length≤22)(h:VC e17 c17 (fnQ [.tmp 4] post) (initS args 22) M):Fn Tryd.prog 17 args M post:=
 Fn.of' (E:=e17) Tryd.func17 t17 rfl r17 mixed hl h
noncomputable def e15:Env:=⟨Tryd.prog,[],12,[]⟩
noncomputable def c15:C:=
 .seq (.reg [zO 4]) (.seq (.reg [z3 5 0,qM 6 26 5 1 4000,z3 7 6,zF 8 7 1,qI 9 7 8,⟨some 10,some (7,true),.bin .leq (.tmp 9) (.const (.int .i64 1000))⟩,zJ 11 7 10,z3 4 11]) .ret)
theorem t15:Tryd.f15.body.bind (trC e15)=some c15:=by kernel_rfl
theorem r15:Tryd.f15.results.toList.mapM (trR Tryd.prog)=some [.tmp 4]:=by kernel_rfl
theorem fn15{args:List Value}{M:Mem}{post:Value→Mem→Prop}(hl:args.length≤12)(h:VC e15 c15 (fnQ [.tmp 4] post) (initS args 12) M):Fn Tryd.prog 15 args M post:=
 Fn.of' (E:=e15) Tryd.func15 t15 rfl r15 mixed hl h
noncomputable def e8:Env:=⟨Tryd.prog,[4],20,[]⟩
noncomputable def c8:C:=
 .seq (.reg [qJ 4 0 0 0 0 0 0 0 0 0 0 0 0 0 0 0 0 0 0]) (.seq (.seq (.reg [z3 7 0,z3 8 1,zK 9 15 7 8,zY 10 9]) (.cond (.tmp 10) (.seq (.reg [⟨some 11,none,.build [.bool false,.slice none 0 0,.int .i64 0,.int .i64 0,.int .i64 0,.slice none 0 0,.slice none 0 0,.int .i64 0,.int .i64 0,.int .i64 0,.slice none 0 0,.int .i64 0,.int .i64 0,.int .i64 0,.int .i64 0] []⟩,z7 15 4 11]) .ret) .skip)) (.seq
 (.reg [z3 12 0,zL 13 16 12,⟨some 5,none,.alloc false [.int .i64 0,.int .i64 0,.int .i64 0,.slice none 0 0,.slice none 0 0,.int .i64 0,.int .i64 0,.int .i64 0,.slice none 0 0,.int .i64 0,.int .i64 0,.int .i64 0,.int .i64 0]⟩,z7 13 5 13]) (.seq (.reg [⟨some 14,none,.build [.pointer none,.bool false] [(0,1,.tmp 5),(1,1,.const (.bool false))]⟩,z3 15 1,zK 16 17 14 15,z3 6 16]) (.seq (.reg [z3 17 6,
 z8 18 13 5,⟨some 19,none,.build [.bool false,.slice none 0 0,.int .i64 0,.int .i64 0,.int .i64 0,.slice none 0 0,.slice none 0 0,.int .i64 0,.int .i64 0,.int .i64 0,.slice none 0 0,.int .i64 0,.int .i64 0,.int .i64 0,.int .i64 0] [(0,1,.const (.bool true)),(1,1,.tmp 17),(2,13,.tmp 18)]⟩,z7 15 4 19]) .ret))))
theorem t8:Tryd.f8.body.bind (trC e8)=some c8:=by kernel_rfl
theorem r8:Tryd.f8.results.toList.mapM (trR Tryd.prog)=some [.cell 4 false 15]:=by kernel_rfl
theorem fn8{args:List Value}{M:Mem}{post:Value→Mem→Prop}(hl:args.length≤20)(h:VC e8 c8 (fnQ [.cell 4 false 15] post) (initS args 20) M):Fn Tryd.prog 8 args M post:=
 Fn.of' (E:=e8) Tryd.func8 t8 rfl r8 mixed hl h
end Go.Proofs.YtpleoapljeffiaaDoor.E
set_option maxHeartbeats 8000000
namespace Go.Proofs.YtpleoapljeffiaaDoor.E
open Go
open Classical
def anv(p:Int×Int):List Value:=[.int .i64 p.1,.int .i64 p.2]
theorem anv_len(p:Int×Int):(anv p).length=2:=rfl
theorem av_len5(b:Act):(av b).length=5:=rfl
theorem all_a{a:Nat}{x:HX}{m:Mem}{acts:List Act}{d:D}(hact:∀(b:Act) (x:HX),b∈acts→Sound x.H→FnA Tryd.prog 27 [eV a,actV b] (hp a x++[ro m]) (fun v As=>∃z:HX,v=an (actA x.H b).code (actA x.H b).num∧As=hp a z++[ro m]∧z.H=(actA x.H b).heap))(h:Sound x.H)(hb:acts.length≤1000):
 FnA Tryd.prog 17 [eV a,.slice d.a acts.length d.cap] (hp a x++[slA 5 av d acts,ro m]) (fun v As=>∃(z:HX) (sd:D),v=.slice sd.a (ansL x.H acts).length sd.cap∧As=hp a z++[slA 2 anv sd (ansL x.H acts),slA 5 av d acts,ro m]∧z.H=runH x.H acts):=by
 refine fnA_of (fun h=>fn17 (by simp) h) ?_
 repeat' (first
  |(refine k_L ?_;first|refine a_p rfl ?_|(refine k_bx ?_;refine a_bx rfl rfl ?_))
  |refine a_n ?_
  |(refine k_V ?_;first|refine v_seq ?_|refine v_reg ?_)
  |refine s_n ?_)
 refine g_range acts.length (fun q:HX×D×List (Int×Int)=>[(2,.box [ptr a,.bool false]),(8,.v (.slice d.a acts.length d.cap)),(5,.v (.slice q.2.1.a q.2.2.length q.2.1.cap))]) (fun q=>hp a q.1++[slA 2 anv q.2.1 q.2.2,slA 5 av d acts,ro m]) (fun i q=>q.1.H=runH x.H (acts.take i)∧q.2.2=ansL x.H (acts.take i)) (x,⟨none,0⟩,[]) ⟨rfl,rfl⟩ (fun i q hi hv=>?_) (fun q hv=>?_) (hent:=(ent_new (f:=anv) (size:=2)).trans (Pm.ent pmt))
 ·obtain⟨z,sd,l⟩:=q
  obtain⟨v1,v2⟩:=hv
  dsimp only at v1 v2⊢
  obtain⟨b,gb⟩:∃b,acts[i]?=some b:=⟨_,List.getElem?_eq_getElem hi⟩
  have zS:Sound z.H:=by rw[v1];exact runH_sound _ h
  have et:acts.take (i+1)=acts.take i++[b]:=by rw[List.take_add_one,gb];rfl
  have ll:l.length=i:=by rw[v2,ansL_len,List.length_take];omega
  repeat' (first
   |(refine k_L ?_;first|refine a_p rfl ?_|(refine k_i ?_;refine g_i rfl rfl ?_)|(refine k_st ?_;refine g_sw rfl rfl rfl rfl (Nat.le_of_ble_eq_true rfl) ?_)|(refine k_al ?_;refine a_al ?_)|(refine k_bl ?_;refine a_bl rfl ?_)|(refine a_ls rfl (rs_t (rs_t (rs_t (rs_t (rs_t (rs_h (rs_sl av_len5 gb))))))) ?_)|(refine g_c rfl (hact b z (List.mem_of_getElem? gb) zS) (fun v As' hq=>?_);obtain⟨u,rfl,rfl,hu⟩:=hq))
   |refine a_n ?_
   |(refine k_V ?_;first|refine v_seq ?_|refine v_reg ?_)
   |refine sk_zero ?_
   |refine sk_succ ?_
   |refine wk_nil ?_
   |refine wk_cons ?_)
  refine g_ap (xs:=l) (e:=sd) ((actA z.H b).code,(actA z.H b).num) anv_len rfl rfl rfl (by omega) (hb:=by omega) (fun e'=>?_)
  repeat' (first
   |(refine k_L ?_;refine a_p rfl ?_)
   |refine a_n ?_)
  exact r_nx (u,e',l++[((actA z.H b).code,(actA z.H b).num)]) ⟨by dsimp only;rw[hu,et,runH_app,←v1],by dsimp only;rw[et,ansL_app,←v1,←v2]⟩
 ·obtain⟨z,sd,l⟩:=q
  obtain⟨v1,v2⟩:=hv
  dsimp only at v1 v2⊢
  rw[List.take_length]at v1 v2
  subst v2
  repeat' (first
   |(refine k_L ?_;refine a_p rfl ?_)
   |refine a_n ?_
   |(refine k_V ?_;first|refine v_seq ?_|refine v_reg ?_|refine v_ret ?_))
  exact fa_r (As':=hp a z++[slA 2 anv sd (ansL x.H acts),slA 5 av d acts,ro m]) (fun _ _=>rfl) (Pm.ent pmt) ⟨z,sd,rfl,rfl,v1⟩
end Go.Proofs.YtpleoapljeffiaaDoor.E
namespace Go.Proofs.YtpleoapljeffiaaDoor.E
open Go
noncomputable def e9:Env:=⟨Tryd.prog,[33],37,[]⟩
noncomputable def c9:C:=
 .seq (.reg [zc 6 0 0]) (.seq (.reg [zc 7 0 0]) (.seq (.seq (.reg [z3 9 0,zC 10 9,zD 11 0]) (.block 0 (.loop (.seq (.reg [zM 12 11 10]) (.seq (.cond (.tmp 12) .skip (.exit 0)) (.seq (.block 1 (.seq (.reg [z3 13 11,z3 8 13]) (.seq (.reg [z3 14 0,z3 15 8,z9 16 5 14 15,z4 17 0 16,z5 18 1 17,z3 19 2,zk 20 18 19,z3 21 20,zF 22 21 8,zF 23 21 1,qI 24 21 23,qS 25 21 22 24,zJ 26 21 25]) (.cond (.tmp
 26) (.reg [z3 27 7,z3 28 1,z3 29 8,z9 30 2 28 29,z4 31 1 30,z5 32 1 31,qF 33 1 1 0 0 1 32,qG 34 1 8 0 27 33,z3 7 34]) .skip)))) (.reg [zG 35 11 1,z3 11 35]))))))) (.seq (.reg [z3 36 7,z3 6 36]) .ret)))
theorem t9:Tryd.f9.body.bind (trC e9)=some c9:=by kernel_rfl
theorem r9:Tryd.f9.results.toList.mapM (trR Tryd.prog)=some [.tmp 6]:=by kernel_rfl
theorem fn9{args:List Value}{M:Mem}{post:Value→Mem→Prop}(hl:args.length≤37)(h:VC e9 c9 (fnQ [.tmp 6] post) (initS args 37) M):Fn Tryd.prog 9 args M post:=
 Fn.of' (E:=e9) Tryd.func9 t9 rfl r9 mixed hl h
noncomputable def e5:Env:=⟨Tryd.prog,[6,10],96,[(13,19),(18,7)]⟩
noncomputable def c5:C:=
 .seq (.reg [zO 2]) (.seq (.seq (.reg [z3 11 0,zC 12 11,zo 13 12 1048576]) (.cond (.tmp 13) (.seq (.reg [q4 2]) .ret) .skip)) (.seq (.reg [z3 14 0,zU 15 6 14 0,zq 16 15 60,zf 17 1 16,z3 3 17]) (.seq (.reg [z3 18 0,zU 19 6 18 1,z3 20 0,zU 21 6 20 2,⟨some 22,none,.bin .mul (.const (.int .i64 256)) (.tmp 21)⟩,zZ 23 19 22,zq 24 23 400,zf 25 1 24,z3 4 25]) (.seq (.reg [z3 26 3,qY 27 12 100 26,z3
 5 27]) (.seq (.reg [z3 28 4,z3 29 5,zK 30 8 28 29,qJ 6 0 0 0 0 0 0 0 0 0 0 0 0 0 0 0 0 0 0,z7 15 6 30]) (.seq (.seq (.reg [z4 31 0 6,z5 32 1 31,zY 33 32,z3 34 33,zT 35 34 1 6,zP 36 34 1 35,qZ 37 34 36,q9 38 34 37 100,zX 39 34 38]) (.cond (.tmp 39) (.seq (.reg [zO 2]) .ret) .skip)) (.seq (.reg [⟨some 40,none,.mkslice 1 8 [.int .i64 0] (.const (.int .i64 5)) (.const (.int .i64 5))⟩,z3 7 40])
 (.seq (.seq (.reg [z3 41 5,zC 42 41,zD 43 0]) (.block 0 (.loop (.seq (.reg [zM 44 43 42]) (.seq (.cond (.tmp 44) .skip (.exit 0)) (.seq (.block 1 (.seq (.reg [z3 45 43,z3 8 45]) (.seq (.dreg 19 [z3 46 7,zp 47 1 46 0,z5 48 1 47,z3 49 7,zp 50 1 49 1,z5 51 1 50,zZ 52 48 51,z3 53 7,zp 54 1 53 2,z5 55 1 54,zZ 56 52 55,z3 57 7,zp 58 1 57 3,z5 59 1 58,zZ 60 56 59,z3 61 7,zp 62 1 61 4,z5 63 1 62,zZ
 64 60 63,z3 9 64]) (.seq (.reg [⟨some 65,none,.build [.int .i64 0,.int .i64 0] []⟩,zm 10 0 0,z7 2 10 65]) (.seq (.seq (.reg [z3 66 9,z3 67 3,zZ 68 66 67,z3 69 4,⟨some 70,none,.bin .gtr (.tmp 68) (.tmp 69)⟩]) (.cond (.tmp 70) (.reg [⟨some 71,none,.build [.int .i64 0,.int .i64 0] [(0,1,.const (.int .i64 4))]⟩,z7 2 10 71]) (.reg [z3 72 7,z3 73 8,zq 74 73 5,z3 75 3,z9 76 1 72 74,z7 1 76 75])))
 (.seq (.dreg 7 [z4 77 1 6,z5 78 1 77,z3 79 8,z9 80 2 78 79,z8 81 2 80,z8 82 2 10,⟨some 83,none,.eqA true 2 (.tmp 81) (.tmp 82)⟩]) (.cond (.tmp 83) (.seq (.reg [zO 2]) .ret) .skip))))))) (.reg [zG 84 43 1,z3 43 84]))))))) (.seq (.reg [z4 85 2 6,z4 86 1 85,z5 87 1 86,z3 88 4,qA 89 87 88,z3 90 89,zI 91 90 2 6,qT 92 90 13 91,⟨some 93,some (90,true),.call 13 [.tmp 92]⟩,ze 94 90 93 0,zJ 95 90 94,z3
 2 95]) .ret)))))))))
theorem r5:Tryd.f5.results.toList.mapM (trR Tryd.prog)=some [.tmp 2]:=by kernel_rfl
noncomputable def e3:Env:=⟨Tryd.prog,[5],58,[]⟩
noncomputable def c3:C:=
 .seq (.reg [zO 2]) (.seq (.seq (.reg [z3 9 0,zC 10 9,zo 11 10 1048576]) (.cond (.tmp 11) (.seq (.reg [q4 2]) .ret) .skip)) (.seq (.reg [z3 12 0,zU 13 6 12 0,zq 14 13 60,zf 15 1 14,z3 3 15]) (.seq (.reg [z3 16 3,z3 17 0,zU 18 6 17 1,zq 19 18 21,zK 20 7 16 19,z3 4 20]) (.seq (.reg [z3 21 4,qY 22 8 1000 21,qJ 5 0 0 0 0 0 0 0 0 0 0 0 0 0 0 0 0 0 0,z7 15 5 22]) (.seq (.reg [z3 23 4,z4 24 1 5,z5
 25 1 24,q6 26 9 23 25 17,z3 6 26]) (.seq (.reg [z3 27 4,z4 28 1 5,z5 29 1 28,q6 30 9 27 29 20,z3 7 30]) (.seq (.reg [z3 31 4,z4 32 1 5,z5 33 1 32,q6 34 9 31 33 21,z3 8 34]) (.seq (.reg [z4 35 0 5,z5 36 1 35,z3 37 36,zF 38 37 6,zF 39 37 3,⟨some 40,some (37,true),.bslice false 2 1 [.int .i64 0,.int .i64 0] [(0,1,.tmp 39),(1,1,.const (.int .i64 0))]⟩,qB 41 37 10 38 40,zJ 42 37 41,z3 43 42,zF 44
 43 7,zF 45 43 3,⟨some 46,some (43,true),.bin .mul (.const (.int .i64 2)) (.tmp 45)⟩,⟨some 47,some (43,true),.bin .add (.tmp 46) (.const (.int .i64 2))⟩,zF 48 43 3,⟨some 49,some (43,true),.bin .add (.tmp 48) (.const (.int .i64 1))⟩,⟨some 50,some (43,true),.bslice false 2 1 [.int .i64 0,.int .i64 0] [(0,1,.tmp 47),(1,1,.tmp 49)]⟩,qB 51 43 10 44 50,zJ 52 43 51,z3 53 52,zF 54 53 8,⟨some 55,some (53,
 true),.bslice false 1 1 [.int .i64 0] [(0,1,.const (.int .i64 1))]⟩,qB 56 53 10 54 55,zJ 57 53 56,z3 2 57]) .ret))))))))
theorem t3:Tryd.f3.body.bind (trC e3)=some c3:=by kernel_rfl
theorem r3:Tryd.f3.results.toList.mapM (trR Tryd.prog)=some [.tmp 2]:=by kernel_rfl
noncomputable def e4:Env:=⟨Tryd.prog,[6],106,[]⟩
noncomputable def c4:C:=
 .seq (.reg [zO 2]) (.seq (.seq (.reg [z3 10 0,zC 11 10,zo 12 11 1048576]) (.cond (.tmp 12) (.seq (.reg [q4 2]) .ret) .skip)) (.seq (.reg [z3 13 0,zU 14 6 13 0,zq 15 14 40,zf 16 1 15,z3 3 16]) (.seq (.reg [z3 17 0,zU 18 6 17 1,z3 19 3,⟨some 20,none,.bin .rem (.tmp 18) (.tmp 19)⟩,zf 21 1 20,z3 4 21]) (.seq (.reg [z3 22 3,z3 23 4,z3 24 0,zU 25 6 24 2,zq 26 25 21,qX 27 11 22 23 26,z3 5 27])
 (.seq (.reg [z3 28 5,qY 29 8 2000 28,qJ 6 0 0 0 0 0 0 0 0 0 0 0 0 0 0 0 0 0 0,z7 15 6 29]) (.seq (.reg [z3 30 5,z4 31 1 6,z5 32 1 31,q6 33 9 30 32 16,z3 7 33]) (.seq (.reg [z3 34 5,z4 35 1 6,z5 36 1 35,q6 37 9 34 36 19,z3 8 37]) (.seq (.seq (.reg [z4 38 0 6,z5 39 1 38,zY 40 39,z3 41 40,zQ 42 41 7,qZ 43 41 42,zQ 44 41 3,⟨some 45,some (41,false),.bin .add (.tmp 44) (.const (.int .i64 1))⟩,⟨some
 46,some (41,false),.bin .neq (.tmp 43) (.tmp 45)⟩,zX 47 41 46,z3 48 47,zQ 49 48 8,qZ 50 48 49,zQ 51 48 3,⟨some 52,some (48,false),.bin .add (.tmp 51) (.const (.int .i64 1))⟩,⟨some 53,some (48,false),.bin .neq (.tmp 50) (.tmp 52)⟩,zX 54 48 53,z3 55 54,zQ 56 55 8,zQ 57 55 3,q8 58 55 1 56 57,zP 59 55 1 58,q9 60 55 59 0,zX 61 55 60]) (.cond (.tmp 61) (.seq (.reg [zO 2]) .ret) .skip)) (.seq (.seq
 (.reg [zD 9 0]) (.block 0 (.loop (.seq (.seq (.reg [z3 62 9,z3 63 3,zM 64 62 63]) (.cond (.tmp 64) .skip (.exit 0))) (.seq (.block 1 (.seq (.reg [z3 67 7,z3 68 9,z9 69 1 67 68,z5 70 1 69,z3 71 9,zG 72 71 1,qU 73 70 72,z3 74 73,zQ 75 74 8,zQ 76 74 9,q8 77 74 1 75 76,zP 78 74 1 77,q9 79 74 78 1,zX 80 74 79]) (.cond (.tmp 80) (.seq (.reg [zO 2]) .ret) .skip))) (.reg [z3 65 9,zG 66 65 1,z3 9
 66])))))) (.seq (.reg [z3 81 5,z4 82 1 6,z5 83 1 82,q6 84 9 81 83 18,z3 85 3,⟨some 86,none,.bslice false 2 1 [.int .i64 0,.int .i64 0] [(0,1,.tmp 85),(1,1,.const (.int .i64 0))]⟩,zK 87 10 84 86,z3 88 87,zF 89 88 5,zI 90 88 1 6,zE 91 88 1 90,⟨some 92,some (88,true),.call 9 [.tmp 89,.tmp 91,.const (.int .i64 21)]⟩,⟨some 93,some (88,true),.bslice false 1 1 [.int .i64 0] [(0,1,.const (.int .i64
 4))]⟩,qB 94 88 10 92 93,zJ 95 88 94,z3 96 95,zF 97 96 5,zI 98 96 1 6,zE 99 96 1 98,⟨some 100,some (96,true),.call 9 [.tmp 97,.tmp 99,.const (.int .i64 15)]⟩,zF 101 96 4,⟨some 102,some (96,true),.bin .add (.const (.int .i64 100)) (.tmp 101)⟩,⟨some 103,some (96,true),.bslice false 1 1 [.int .i64 0] [(0,1,.tmp 102)]⟩,qB 104 96 10 100 103,zJ 105 96 104,z3 2 105]) .ret))))))))))
theorem t4:Tryd.f4.body.bind (trC e4)=some c4:=by kernel_rfl
theorem r4:Tryd.f4.results.toList.mapM (trR Tryd.prog)=some [.tmp 2]:=by kernel_rfl
theorem fn4{args:List Value}{M:Mem}{post:Value→Mem→Prop}(hl:args.length≤106)(h:VC e4 c4 (fnQ [.tmp 2] post) (initS args 106) M):Fn Tryd.prog 4 args M post:=
 Fn.of' (E:=e4) Tryd.func4 t4 rfl r4 mixed hl h
theorem r7:Tryd.f7.results.toList.mapM (trR Tryd.prog)=some [.tmp 4]:=by kernel_rfl
noncomputable def e11:Env:=⟨Tryd.prog,[28],73,[]⟩
noncomputable def c11:C:=
 .seq (.reg [zc 6 0 0]) (.seq (.reg [zc 7 0 0]) (.seq (.seq (.reg [zD 8 1]) (.block 0 (.loop (.seq (.seq (.reg [z3 10 8,z3 11 0,qA 12 10 11]) (.cond (.tmp 12) .skip (.exit 0))) (.seq (.block 1 (.seq (.reg [z3 15 7,z3 16 8,⟨some 17,none,.call 14 [.tmp 15,.const (.int .i64 1),.const (.int .i64 0),.tmp 16,.const (.int .i64 1)]⟩,z3 7 17]) (.seq (.reg [z3 18 7,zR 19 14 18 12 0 0 1,z3 7 19]) (.seq
 (.reg [z3 20 7,zR 21 14 20 1 1 0 1,z3 7 21]) (.seq (.reg [z3 22 7,zR 23 14 22 8 0 1 0,z3 7 23]) (.seq (.reg [z3 24 7,z3 25 8,zf 26 100 25,⟨some 27,none,.build [.int .i64 0,.int .i64 0,.int .i64 0,.int .i64 0,.int .i64 0] [(0,1,.const (.int .i64 2)),(1,1,.const (.int .i64 2)),(4,1,.tmp 26)]⟩,⟨some 28,none,.bslice true 1 5 [.int .i64 0,.int .i64 0,.int .i64 0,.int .i64 0,.int .i64 0] [(0,5,.tmp
 27)]⟩,⟨some 29,none,.app 5 40 [.int .i64 0,.int .i64 0,.int .i64 0,.int .i64 0,.int .i64 0] (.tmp 24) (.tmp 28)⟩,z3 7 29]) (.seq (.reg [z3 30 7,zR 31 14 30 8 1 2 0,z3 7 31]) (.reg [z3 32 7,z3 33 2,⟨some 34,none,.call 14 [.tmp 32,.const (.int .i64 22),.const (.int .i64 0),.const (.int .i64 0),.tmp 33]⟩,z3 7 34])))))))) (.reg [z3 13 8,zG 14 13 1,z3 8 14])))))) (.seq (.reg [z3 35 7,zR 36 14 35 3
 0 0 0,z3 7 36]) (.seq (.reg [z3 37 7,zR 38 14 37 3 1 0 0,z3 7 38]) (.seq (.reg [z3 39 7,zR 40 14 39 24 0 0 0,z3 7 40]) (.seq (.reg [z3 41 7,zR 42 14 41 18 0 0 0,z3 7 42]) (.seq (.seq (.reg [zD 9 1]) (.block 2 (.loop (.seq (.seq (.reg [z3 43 9,z3 44 0,zG 45 44 1,qA 46 43 45]) (.cond (.tmp 46) .skip (.exit 2))) (.seq (.block 3 (.seq (.reg [z3 49 7,z3 50 2,⟨some 51,none,.call 14 [.tmp 49,
 .const (.int .i64 22),.const (.int .i64 0),.const (.int .i64 0),.tmp 50]⟩,z3 7 51]) (.seq (.reg [z3 52 7,zR 53 14 52 19 3 0 0,z3 7 53]) (.seq (.reg [z3 54 7,zR 55 14 54 16 3 0 0,z3 7 55]) (.seq (.reg [z3 56 9,z3 57 1,zk 58 56 57]) (.cond (.tmp 58) (.reg [z3 59 7,zR 60 14 59 4 4 3 0,z3 7 60]) .skip)))))) (.reg [z3 47 9,zG 48 47 1,z3 9 48])))))) (.seq (.reg [z3 61 7,zR 62 14 61 18 0 0 0,z3 7
 62]) (.seq (.reg [z3 63 7,zR 64 14 63 24 0 0 0,z3 7 64]) (.seq (.reg [z3 65 7,zR 66 14 65 21 0 0 0,z3 7 66]) (.seq (.reg [z3 67 7,zR 68 14 67 6 5 4 0,z3 7 68]) (.seq (.reg [z3 69 7,zR 70 14 69 6 6 5 0,z3 7 70]) (.seq (.reg [z3 71 7,zR 72 14 71 15 6 0 0,z3 6 72]) .ret)))))))))))))
theorem t11:Tryd.f11.body.bind (trC e11)=some c11:=by kernel_rfl
theorem r11:Tryd.f11.results.toList.mapM (trR Tryd.prog)=some [.tmp 6]:=by kernel_rfl
theorem fn11{args:List Value}{M:Mem}{post:Value→Mem→Prop}(hl:args.length≤73)(h:VC e11 c11 (fnQ [.tmp 6] post) (initS args 73) M):Fn Tryd.prog 11 args M post:=
 Fn.of' (E:=e11) Tryd.func11 t11 rfl r11 mixed hl h
noncomputable def e14:Env:=⟨Tryd.prog,[17],19,[]⟩
noncomputable def c14:C:=
 .seq (.reg [zc 10 0 0]) (.seq (.reg [z3 11 0,z3 12 1,z3 13 2,z3 14 3,z3 15 4,⟨some 16,none,.build [.int .i64 0,.int .i64 0,.int .i64 0,.int .i64 0,.int .i64 0] [(0,1,.tmp 12),(1,1,.tmp 13),(2,1,.tmp 14),(3,1,.tmp 15)]⟩,⟨some 17,none,.bslice true 1 5 [.int .i64 0,.int .i64 0,.int .i64 0,.int .i64 0,.int .i64 0] [(0,5,.tmp 16)]⟩,⟨some 18,none,.app 5 40 [.int .i64 0,.int .i64 0,.int .i64 0,.int
 .i64 0,.int .i64 0] (.tmp 11) (.tmp 17)⟩,z3 10 18]) .ret)
theorem t14:Tryd.f14.body.bind (trC e14)=some c14:=by kernel_rfl
theorem r14:Tryd.f14.results.toList.mapM (trR Tryd.prog)=some [.tmp 10]:=by kernel_rfl
theorem fn14{args:List Value}{M:Mem}{post:Value→Mem→Prop}(hl:args.length≤19)(h:VC e14 c14 (fnQ [.tmp 10] post) (initS args 19) M):Fn Tryd.prog 14 args M post:=
 Fn.of' (E:=e14) Tryd.func14 t14 rfl r14 mixed hl h
end Go.Proofs.YtpleoapljeffiaaDoor.E
namespace Go.Proofs.YtpleoapljeffiaaDoor.E
open Go
open Classical
theorem rem_q{P:Program}{r:List I}{d:Option Nat}{post:St→List Asr→Prop}{S:St}{As:List Asr}{x y:Operand}{a b c:Int}(hx:ev S x=some (.int .i64 a))(hy:ev S y=some (.int .i64 b))(hb:b≠0)(hc:a.tmod b=c)(hr: -9223372036854775808≤c∧c≤9223372036854775807)(hp:LA P r post (put S d (.v (.int .i64 c))) As):LA P (⟨d,none,.bin .rem x y⟩::r) post S As:=
 a_p (sv:=.v (.int .i64 c)) (by simp only[pe,hx,hy,binV,binI,if_true,if_neg hb,Option.map_some,hc]) hp
theorem l6add_a{op p q r:Int}{l:List Act}{sd:D}(hl:l.length≤100000):FnA Tryd.prog 14 [.slice sd.a l.length sd.cap,.int .i64 op,.int .i64 p,.int .i64 q,.int .i64 r] [slA 5 av sd l] (fun v As=>∃e:D,v=.slice e.a (l++[(⟨op,p,q,r,0⟩:Act)]).length e.cap∧As=[slA 5 av e (l++[⟨op,p,q,r,0⟩])]):=by
 refine fnA_of (fun h=>fn14 (by simp) h) ?_
 repeat' (first
  |(refine k_L ?_;first|refine a_p rfl ?_|(refine k_bl ?_;refine a_bl rfl ?_))
  |refine a_n ?_
  |(refine k_V ?_;first|refine v_seq ?_|refine v_reg ?_))
 refine g_ap (xs:=l) (e:=sd) (⟨op,p,q,r,0⟩:Act) av_len5 rfl rfl rfl (by omega) (hb:=by omega) (fun e'=>?_)
 repeat' (first
  |(refine k_L ?_;refine a_p rfl ?_)
  |refine a_n ?_
  |(refine k_V ?_;refine v_ret ?_))
 exact fa_r (As':=[slA 5 av e' (l++[⟨op,p,q,r,0⟩])]) (fun _ _=>rfl) (Pm.ent pmt) ⟨e',by rw[List.length_append]<;>rfl,rfl⟩
def KeyI(w:Int):Prop:=IntKind.i64.wrap (BitVec.ofInt IntKind.i64.bits w&&&BitVec.ofInt IntKind.i64.bits 1).toNat=0
def ValI(w:Int):Prop:=IntKind.i64.wrap (BitVec.ofInt IntKind.i64.bits w&&&BitVec.ofInt IntKind.i64.bits 2).toNat=0
inductive HeldB (H:Heap):Int→Prop
 |reg {w:Word} {b:Int}:w∈H.regs.map H.aw→IsC w b→HeldB H b
 |due {b:Int} {n:Nd}:Node H b n→n.last=2→HeldB H b
 |key {b d:Int} {n:Nd} {p:Pair}:HeldB H b→Node H b n→p∈n.pairs→KeyI n.weak→IsC p.key d→HeldB H d
 |val {b d:Int} {n:Nd} {p:Pair}:HeldB H b→Node H b n→p∈n.pairs→ValI n.weak→(∀k,IsC p.key k→HeldB H k)→IsC p.val d→HeldB H d
theorem held_use{H:Heap}(h:Sound H){i:Nat}(hi:Held H i):∃c,H.cells[i]?=some c∧c.state=1∧¬Doomed H i:=reached_ok h.r2 h.r4 (held_reached h hi)
theorem held_b{H:Heap}(h:Sound H){i:Nat}(hr:Held H i):HeldB H (H.getC i).born:=by
 induction hr with
 | @reg w j h1 h2=>
   obtain⟨a,b⟩:=h.r4.regs w h1
   exact .reg (List.mem_map.2 ⟨w,h1,rfl⟩) ((aw_tgt h.r2 a b).2 ⟨_,h2,rfl⟩)
 | @due i c h1 h2=>
   obtain⟨c',a1,a2,a3⟩:=held_use h (.due h1 h2)
   rw[h1]at a1
   cases a1
   rw[getC_nat h1]
   exact .due (node_at h1 a2 a3) h2
 | @key i j c p h1 h2 h3 h4 h5 ih=>
   obtain⟨c',a1,a2,a3⟩:=held_use h h1
   rw[h2]at a1
   cases a1
   rw[getC_nat h2]at ih
   obtain⟨k,hk⟩:=List.getElem?_of_mem h3
   obtain⟨p1,p2,p3⟩:=h.r4.pairs i c h2 k p hk
   obtain⟨q1,q2⟩:=p3 a3
   exact .key (p:=H.ap p) ih (node_at h2 a2 a3) (List.mem_map.2 ⟨p,h3,rfl⟩) h4 ((aw_tgt h.r2 p1 q1).2 ⟨_,h5,rfl⟩)
 | @val i j c p h1 h2 h3 h4 h5 h6 ih ih2=>
   obtain⟨c',a1,a2,a3⟩:=held_use h h1
   rw[h2]at a1
   cases a1
   rw[getC_nat h2]at ih
   obtain⟨k,hk⟩:=List.getElem?_of_mem h3
   obtain⟨p1,p2,p3⟩:=h.r4.pairs i c h2 k p hk
   obtain⟨q1,q2⟩:=p3 a3
   refine .val (p:=H.ap p) ih (node_at h2 a2 a3) (List.mem_map.2 ⟨p,h3,rfl⟩) h4 (fun b hb=>?_) ((aw_tgt h.r2 p2 q2).2 ⟨_,h6,rfl⟩)
   obtain⟨l,e1,e2⟩:=(aw_tgt h.r2 p1 q1).1 hb
   rw[←e2];exact ih2 l e1
theorem b_held{H:Heap}(h:Sound H){b:Int}(hr:HeldB H b):∃(i:Nat) (c:Cell),H.cells[i]?=some c∧c.state=1∧¬Doomed H i∧c.born=b∧Held H i:=by
 have fin:∀{j:Nat} {d:Int},Held H j→(H.getC j).born=d→∃(i:Nat) (c:Cell),H.cells[i]?=some c∧c.state=1∧¬Doomed H i∧c.born=d∧Held H i:=fun{j d} hj e=>by
  obtain⟨c,c1,c2,c3⟩:=held_use h hj
  rw[getC_nat c1]at e
  exact⟨j,c,c1,c2,c3,e,hj⟩
 induction hr with
 | @reg w b h1 h2=>
   obtain⟨v,hv,rfl⟩:=List.mem_map.1 h1
   obtain⟨a,l⟩:=h.r4.regs v hv
   obtain⟨j,e1,e2⟩:=(aw_tgt h.r2 a l).1 h2
   exact fin (.reg hv e1) e2
 | @due b n h1 h2=>
   obtain⟨i,c,a1,a2,a3,a4,rfl⟩:=h1
   exact⟨i,c,a1,a2,a3,a4,.due a1 h2⟩
 | @key b d n p _ h2 h3 h4 h5 ih=>
   obtain⟨i,c,a1,a2,a3,a4,a5⟩:=ih
   obtain⟨i',c',d1,d2,d3,d4,rfl⟩:=h2
   obtain⟨rfl,rfl⟩:=born_one h.r2 a1 d1 a2 d2 (a4.trans d4.symm)
   obtain⟨q,hq,rfl⟩:=List.mem_map.1 h3
   obtain⟨k,hk⟩:=List.getElem?_of_mem hq
   obtain⟨p1,p2,p3⟩:=h.r4.pairs i c a1 k q hk
   obtain⟨q1,q2⟩:=p3 a3
   obtain⟨j,e1,e2⟩:=(aw_tgt h.r2 p1 q1).1 h5
   exact fin (.key a5 a1 hq h4 e1) e2
 | @val b d n p _ h2 h3 h4 h5 h6 ih ih2=>
   obtain⟨i,c,a1,a2,a3,a4,a5⟩:=ih
   obtain⟨i',c',d1,d2,d3,d4,rfl⟩:=h2
   obtain⟨rfl,rfl⟩:=born_one h.r2 a1 d1 a2 d2 (a4.trans d4.symm)
   obtain⟨q,hq,rfl⟩:=List.mem_map.1 h3
   obtain⟨k,hk⟩:=List.getElem?_of_mem hq
   obtain⟨p1,p2,p3⟩:=h.r4.pairs i c a1 k q hk
   obtain⟨q1,q2⟩:=p3 a3
   obtain⟨j,e1,e2⟩:=(aw_tgt h.r2 p2 q2).1 h6
   refine fin (.val a5 a1 hq h4 (fun l hl=>?_) e1) e2
   obtain⟨m,f,f1,f2,f3,f4,f5⟩:=ih2 (H.getC l).born ((aw_tgt h.r2 p1 q1).2 ⟨l,hl,rfl⟩)
   obtain⟨g,g1,g2,g3⟩:=lead_ok h.r2 p1 q1 hl
   rw[getC_nat g1]at f4
   obtain⟨rfl,_⟩:=born_one h.r2 f1 g1 f2 g2 f4
   exact f5
theorem held_iff{H:Heap}(h:Sound H){i:Nat}{c:Cell}(hc:H.cells[i]?=some c)(hs:c.state=1):Held H i↔HeldB H c.born:=by
 constructor
 ·intro hr
  have:=held_b h hr
  rw[getC_nat hc]at this;exact this
 ·intro hr
  obtain⟨j,d,d1,d2,d3,d4,d5⟩:=b_held h hr
  obtain⟨rfl,rfl⟩:=born_one h.r2 d1 hc d2 hs d4
  exact d5
theorem heldB_reach{H:Heap}(h:Sound H){b:Int}(hb:HeldB H b):ReachB H b:=by
 obtain⟨i,c,c1,c2,c3,c4,c5⟩:=b_held h hb
 rw[←c4,←reach_iff h c1 c2];exact held_reached h c5
structure Seen (H K:Heap):Prop where
 regs:K.regs.map K.aw=H.regs.map H.aw
 vis:∀b n,Vis K b n↔Vis H b n
theorem Seen.symm{H K:Heap}(h:Seen H K):Seen K H:=⟨h.regs.symm,fun b n=>(h.vis b n).symm⟩
theorem Seen.held{H K:Heap}(h:Sound H)(k:Sound K)(s:Seen H K){b:Int}(hb:HeldB K b):HeldB H b:=by
 induction hb with
 |reg h1 h2=>exact .reg (by rw[←s.regs];exact h1) h2
 |due h1 h2=>exact .due ((s.vis _ _).1 ⟨h1,heldB_reach k (.due h1 h2)⟩).1 h2
 |key h1 h2 h3 h4 h5 ih=>exact .key ih ((s.vis _ _).1 ⟨h2,heldB_reach k h1⟩).1 h3 h4 h5
 |val h1 h2 h3 h4 h5 h6 ih ih2=>exact .val ih ((s.vis _ _).1 ⟨h2,heldB_reach k h1⟩).1 h3 h4 ih2 h6
noncomputable def countedN(H:Heap):Int:=sumT H (heldL H) H.cells.length
structure Ideal where
 room:Int
 regs:List Word
 things:List Nd
def ndI(s:Ideal)(b:Int):Option Nd:=if 1≤b then s.things[(b-1).toNat]? else none
inductive ReachI (s:Ideal):Int→Prop
 |reg {w:Word} {b:Int}:w∈s.regs→IsC w b→ReachI s b
 |root {b:Int} {n:Nd}:ndI s b=some n→(n.last=1∨n.last=2)→ReachI s b
 |pair {b d:Int} {n:Nd} {p:Pair} {w:Word}:ReachI s b→ndI s b=some n→p∈n.pairs→(w=p.key∨w=p.val)→IsC w d→ReachI s d
inductive HeldI (s:Ideal):Int→Prop
 |reg {w:Word} {b:Int}:w∈s.regs→IsC w b→HeldI s b
 |due {b:Int} {n:Nd}:ndI s b=some n→n.last=2→HeldI s b
 |key {b d:Int} {n:Nd} {p:Pair}:HeldI s b→ndI s b=some n→p∈n.pairs→KeyI n.weak→IsC p.key d→HeldI s d
 |val {b d:Int} {n:Nd} {p:Pair}:HeldI s b→ndI s b=some n→p∈n.pairs→ValI n.weak→(∀k,IsC p.key k→HeldI s k)→IsC p.val d→HeldI s d
structure Im (H:Heap) (s:Ideal):Prop where
 ok:Sound H
 regs:H.regs.map H.aw=s.regs
 node:∀b n,Node H b n→ndI s b=some n
 root:∀b n,ndI s b=some n→(n.last=1∨n.last=2)→∃m,Node H b m
 room:H.room=s.room
 born:H.born=s.things.length
theorem ndI_lt{s:Ideal}{b:Int}{n:Nd}(h:ndI s b=some n):1≤b∧b≤s.things.length:=by
 unfold ndI at h
 split at h
 ·have:=(List.getElem?_eq_some_iff.1 h).1;omega
 ·cases h
theorem reach_nd{H:Heap}(h:Sound H){b:Int}(hr:ReachB H b):∃n,Node H b n:=by
 obtain⟨i,c,c1,c2,c3,rfl,_⟩:=b_reach h hr
 exact⟨_,node_at c1 c2 c3⟩
section
variable {H:Heap} {s:Ideal}
theorem Im.reach_to(h:Im H s){b:Int}(hr:ReachB H b):ReachI s b:=by
 induction hr with
 |reg h1 h2=>exact .reg (by rw[←h.regs];exact h1) h2
 |root h1 h2=>exact .root (h.node _ _ h1) h2
 |pair _ h2 h3 h4 h5 ih=>exact .pair ih (h.node _ _ h2) h3 h4 h5
theorem Im.reach_of(h:Im H s){b:Int}(hr:ReachI s b):ReachB H b:=by
 induction hr with
 |reg h1 h2=>exact .reg (by rw[h.regs];exact h1) h2
 |root h1 h2=>
  obtain⟨m,hm⟩:=h.root _ _ h1 h2
  have:=h.node _ _ hm
  rw[h1]at this
  cases this
  exact .root hm h2
 |pair _ h2 h3 h4 h5 ih=>
  obtain⟨m,hm⟩:=reach_nd h.ok ih
  have:=h.node _ _ hm
  rw[h2]at this
  cases this
  exact .pair ih hm h3 h4 h5
theorem Im.reach(h:Im H s){b:Int}:ReachB H b↔ReachI s b:=⟨h.reach_to,h.reach_of⟩
theorem Im.held_to(h:Im H s){b:Int}(hr:HeldB H b):HeldI s b:=by
 induction hr with
 |reg h1 h2=>exact .reg (by rw[←h.regs];exact h1) h2
 |due h1 h2=>exact .due (h.node _ _ h1) h2
 |key _ h2 h3 h4 h5 ih=>exact .key ih (h.node _ _ h2) h3 h4 h5
 |val _ h2 h3 h4 _ h6 ih ih2=>exact .val ih (h.node _ _ h2) h3 h4 ih2 h6
theorem heldI_reach{b:Int}(hr:HeldI s b):ReachI s b:=by
 induction hr with
 |reg h1 h2=>exact .reg h1 h2
 |due h1 h2=>exact .root h1 (.inr h2)
 |key _ h2 h3 _ h5 ih=>exact .pair ih h2 h3 (.inl rfl) h5
 |val _ h2 h3 _ _ h6 ih _=>exact .pair ih h2 h3 (.inr rfl) h6
theorem Im.held_of(h:Im H s){b:Int}(hr:HeldI s b):HeldB H b:=by
 induction hr with
 |reg h1 h2=>exact .reg (by rw[h.regs];exact h1) h2
 |due h1 h2=>
  obtain⟨m,hm⟩:=h.root _ _ h1 (.inr h2)
  have:=h.node _ _ hm
  rw[h1]at this
  cases this
  exact .due hm h2
 |key _ h2 h3 h4 h5 ih=>
  obtain⟨m,hm⟩:=reach_nd h.ok (heldB_reach h.ok ih)
  have:=h.node _ _ hm
  rw[h2]at this
  cases this
  exact .key ih hm h3 h4 h5
 |val _ h2 h3 h4 _ h6 ih ih2=>
  obtain⟨m,hm⟩:=reach_nd h.ok (heldB_reach h.ok ih)
  have:=h.node _ _ hm
  rw[h2]at this
  cases this
  exact .val ih hm h3 h4 ih2 h6
theorem Im.held(h:Im H s){b:Int}:HeldB H b↔HeldI s b:=⟨h.held_to,h.held_of⟩
theorem Im.there(h:Im H s){b:Int}(hr:ReachI s b):∃n,Node H b n∧ndI s b=some n:=by
 obtain⟨m,hm⟩:=reach_nd h.ok (h.reach_of hr)
 exact⟨m,hm,h.node _ _ hm⟩
end
def Nd.none:Nd:=⟨0,0,0,[]⟩
noncomputable def posI(s:Ideal)(Q:Int→Prop):List (Int×Int):=((List.range s.things.length).filter fun i:Nat=>decide (Q ((i:Int)+1))).map fun i:Nat=>((i:Int)+1,1+((s.things.getD i Nd.none).pairs.length:Int))
noncomputable def liveI(s:Ideal):Int:=((posI s (ReachI s)).map Prod.snd).sum
noncomputable def countI(s:Ideal):Int:=((posI s (HeldI s)).map Prod.snd).sum
theorem posI_mem{s:Ideal}{Q:Int→Prop}(x:Int×Int):x∈posI s Q↔∃n,ndI s x.1=some n∧Q x.1∧x.2=1+n.pairs.length:=by
 unfold posI
 rw[List.mem_map]
 constructor
 ·rintro⟨i,hi,rfl⟩
  obtain⟨h1,h2⟩:=List.mem_filter.1 hi
  have hl:=List.mem_range.1 h1
  refine⟨s.things.getD i Nd.none,?_,by simpa using h2,rfl⟩
  unfold ndI
  simp only
  rw[if_pos (by omega),show((i:Int)+1-1).toNat=i by omega,List.getD_eq_getElem?_getD,List.getElem?_eq_getElem hl]
  rfl
 ·rintro⟨n,h1,h2,h3⟩
  obtain⟨x1,x2⟩:=x
  have hl:=ndI_lt h1
  simp only at h1 h2 h3 hl
  refine⟨(x1-1).toNat,List.mem_filter.2 ⟨List.mem_range.2 (by omega),?_⟩,?_⟩
  ·rw[show(((x1-1).toNat:Nat):Int)+1=x1 by omega];simpa using h2
  ·unfold ndI at h1
   rw[if_pos (by omega)]at h1
   rw[List.getD_eq_getElem?_getD,h1,h3]
   simp only[Option.getD_some,Prod.mk.injEq,and_true]
   omega
theorem posI_nodup(s:Ideal)(Q:Int→Prop):(posI s Q).Nodup:=by
 unfold posI
 refine List.pairwise_map.2 (List.Pairwise.imp ?_ (List.Pairwise.filter _ (List.nodup_range (n:=s.things.length))))
 intro a b hab e
 have:=congrArg Prod.fst e
 simp only at this
 omega
theorem sum_same{l u:List (Int×Int)}(hl:l.Nodup)(hu:u.Nodup)(h:∀x,x∈l↔x∈u)(nn:∀x,x∈u→0≤x.2):(l.map Prod.snd).sum=(u.map Prod.snd).sum:=by
 have a:=sum_sub _ _ hl (fun x hx=>(h x).1 hx) nn
 have b:=sum_sub _ _ hu (fun x hx=>(h x).2 hx) (fun x hx=>nn x ((h x).1 hx))
 omega
section
variable {H:Heap} {s:Ideal}
theorem Im.sums(h:Im H s){P:Nat→Prop}{Q:Int→Prop}(hP:∀i,P i→∃c,H.cells[i]?=some c∧c.state=1∧¬Doomed H i)(hQ:∀(i:Nat) c,H.cells[i]?=some c→c.state=1→¬Doomed H i→(P i↔Q c.born))(hQr:∀b,Q b→ReachI s b):((posL H P).map Prod.snd).sum=((posI s Q).map Prod.snd).sum:=by
 refine sum_same (posL_nodup h.ok hP) (posI_nodup s Q) (fun x=>?_) (fun x hx=>?_)
 ·rw[posL_mem h.ok hP hQ,posI_mem]
  constructor
  ·rintro⟨n,a,b,c⟩;exact⟨n,h.node _ _ a,b,c⟩
  ·rintro⟨n,a,b,c⟩
   obtain⟨m,hm,hm2⟩:=h.there (hQr _ b)
   rw[a]at hm2
   cases hm2
   exact⟨n,hm,b,c⟩
 ·obtain⟨n,_,_,c⟩:=(posI_mem x).1 hx
  omega
theorem Im.live(h:Im H s):liveN H=liveI s:=by
 unfold liveN liveI
 rw[sumT_posL (P:=Reached H) (fun i hi=>reachL_iff hi)]
 exact h.sums (fun i hi=>reached_ok h.ok.r2 h.ok.r4 hi) (fun i c c1 c2 _=>(reach_iff h.ok c1 c2).trans h.reach) (fun b hb=>hb)
theorem Im.counted(h:Im H s):countedN H=countI s:=by
 unfold countedN countI
 rw[sumT_posL (P:=Held H) (fun i hi=>heldL_iff hi)]
 exact h.sums (fun i hi=>held_use h.ok hi) (fun i c c1 c2 _=>(held_iff h.ok c1 c2).trans h.held) (fun b hb=>heldI_reach hb)
theorem Im.seen{K:Heap}(h:Im H s)(k:Sound K)(hr:K.regs.map K.aw=H.regs.map H.aw)(hn:∀b n,Node K b n→Node H b n)(hv:∀b n,Vis H b n→Vis K b n)(h1:K.room=H.room)(h2:K.born=H.born):Im K s:=
 ⟨k,hr.trans h.regs,fun b n x=>h.node b n (hn b n x),fun b n hb hl=>by
   obtain⟨m,hm⟩:=h.root b n hb hl
   have:=h.node _ _ hm
   rw[hb]at this
   cases this
   exact⟨_,(hv b _ ⟨hm,.root hm hl⟩).1⟩,h1.trans h.room,h2.trans h.born⟩
theorem Im.iso{K:Heap}(h:Im H s)(k:Sound K)(i:Iso H K)(hv:∀b n,Vis H b n→Vis K b n):Im K s:=h.seen k i.regs i.node hv i.room i.born
theorem Im.same{K:Heap}(h:Im H s)(k:Sound K)(hr:K.regs.map K.aw=H.regs.map H.aw)(hn:∀b n,Node K b n↔Node H b n)(h1:K.room=H.room)(h2:K.born=H.born):Im K s:=
 h.seen k hr (fun b n=>(hn b n).1) (fun b n x=>⟨(hn b n).2 x.1,(reach_same hr hn).2 x.2⟩) h1 h2
theorem Im.round(h:Im H s):Im H.roundH s:=h.iso (roundH_ok h.ok).1 (round_iso h.ok) (fun b n=>(round_vis h.ok b n).2)
theorem Im.step(h:Im H s)(n:Int):Im (H.stepH n) s:=h.iso (stepH_ok h.ok n) (step_iso h.ok n) (fun b m=>(step_vis h.ok n b m).2)
theorem Im.frc(h:Im H s){f:Int}(hf:0≤f∧f≤1000000000):Im {H with forced:=f} s:=
 h.same (forced_sound h.ok hf) rfl (fun b n=>Iff.rfl) rfl rfl
theorem frc_b{H:Heap}(h:Sound H):0≤(if H.forced<1000000000 then H.forced+1 else H.forced)∧(if H.forced<1000000000 then H.forced+1 else H.forced)≤1000000000:=by
 have:=h.r1.forced
 split<;>omega
theorem Im.fits(h:Im H s)(u:Int):Im (H.fitsH u) s:=by
 unfold Heap.fitsH
 split
 ·exact h
 ·exact(h.frc (frc_b h.ok)).round
theorem Im.pace(h:Im H s)(u:Int):Im (H.paceH u) s:=by
 unfold Heap.paceH
 split
 ·exact h
 split
 ·exact h
 ·exact h.step _
theorem Im.fits_live(h:Im H s)(u:Int):(H.fitsH u).used+u≤(H.fitsH u).room↔liveI s+u≤s.room:=by
 rw[(h.fits u).room,←h.live]
 have hu:=live_used h.ok
 by_cases e:H.used+u≤H.room
 ·have:H.fitsH u=H:=by unfold Heap.fitsH;rw[if_pos e]
  rw[this,←h.room]
  exact⟨fun _=>by omega,fun _=>e⟩
 ·have e2:H.fitsH u=Heap.roundH {H with forced:=if H.forced<1000000000 then H.forced+1 else H.forced}:=by unfold Heap.fitsH;rw[if_neg e]
  have h1:=h.frc (frc_b h.ok)
  rw[e2,(clean h1.ok).2,h1.live,h.live]
theorem Im.shade(h:Im H s){w:Word}(hf:Formed H w)(hk:Sound (H.shadeW w)):Im (H.shadeW w) s:=by
 have hu:=hue_shadeW (H:=H) hf
 have hd:∀j:Int,Doomed (H.shadeW w) j↔Doomed H j:=fun j=>by
  unfold Heap.shadeW Heap.shadeH
  split
  ·split
   ·rename_i c
    obtain⟨c,_⟩:=c
    refine⟨fun hx=>?_,fun hx=>?_⟩
    ·have:H.phase=3:=hx.1
     unfold Marking at c;omega
    ·have:H.phase=3:=hx.1
     unfold Marking at c;omega
   ·exact Iff.rfl
  ·exact Iff.rfl
 refine h.same hk (hu.iso fun j=>(hd j).2).regs (fun b n=>⟨(hu.iso fun j=>(hd j).2).node b n,hu.back (fun j=>(hd j).1) b n⟩) hu.room hu.born
end
end Go.Proofs.YtpleoapljeffiaaDoor.E
