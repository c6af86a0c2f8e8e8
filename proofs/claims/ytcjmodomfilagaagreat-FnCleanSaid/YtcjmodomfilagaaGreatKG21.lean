/- A part of the proof. Conditions: none. -/
import Derived.Test.YtcjmodomfilagaaGreatKG20
import Derived.Test.YtcjmodomfilagaaGreatJfClean
set_option linter.unusedVariables false
set_option linter.unusedSimpArgs false
namespace Go.Proofs.YtcjmodomfilagaaGreat.E
open Go
open Classical
theorem sum_erase{a:Int×Int}:∀{u:List (Int×Int)},a∈u→(u.map Prod.snd).sum=a.2+((u.erase a).map Prod.snd).sum
 |[],h=>by cases h
 |b::r,h=>by
  by_cases e:b=a
  ·subst e
   rw[List.erase_cons_head];simp
  ·rw[List.erase_cons_tail (by simpa using e)]
   have hm:a∈r:=by
    rcases List.mem_cons.1 h with x|x
    ·exact absurd x.symm e
    ·exact x
   have:=sum_erase hm
   simp only[List.map_cons,List.sum_cons];omega
theorem sum_nn:∀{u:List (Int×Int)},(∀x,x∈u→0≤x.2)→0≤(u.map Prod.snd).sum
 |[],_=>by simp
 |b::r,h=>by
  have:=sum_nn (u:=r) (fun x hx=>h x (by simp[hx]))
  have:=h b (by simp)
  simp only[List.map_cons,List.sum_cons];omega
theorem sum_sub:∀(l u:List (Int×Int)),l.Nodup→(∀x,x∈l→x∈u)→(∀x,x∈u→0≤x.2)→(l.map Prod.snd).sum≤(u.map Prod.snd).sum
 |[],u,_,_,h=>by simpa using sum_nn h
 |a::r,u,hn,h,h0=>by
  have ha:=h a (by simp)
  obtain⟨h1,h2⟩:=List.nodup_cons.1 hn
  have:=sum_sub r (u.erase a) h2 (fun x hx=>(List.mem_erase_of_ne (fun e=>h1 (by rw[←e];exact hx))).2 (h x (by simp[hx]))) (fun x hx=>h0 x (List.mem_of_mem_erase hx))
  rw[sum_erase ha]
  simp only[List.map_cons,List.sum_cons];omega
noncomputable def posL(H:Heap)(P:Nat→Prop):List (Int×Int):=((List.range H.cells.length).filter fun i=>decide (P i)).map fun i:Nat=>((H.getC i).born,(H.getC i).units)
theorem sumT_posL{H:Heap}{P:Nat→Prop}{L:List Bool}(hL:∀i,i<H.cells.length→(L[i]?=some true↔P i)):sumT H L H.cells.length=((posL H P).map Prod.snd).sum:=by
 have key:∀k:Nat,k≤H.cells.length→sumT H L k=((((List.range k).filter fun i=>decide (P i)).map fun i:Nat=>((H.getC i).born,(H.getC i).units)).map Prod.snd).sum:=by
  intro k
  induction k with
  |zero=>intro _;simp[sumT]
  |succ k ih=>
   intro hk
   have ih:=ih (by omega)
   rw[List.range_succ,List.filter_append,List.map_append,List.map_append,List.sum_append,←ih]
   simp only[sumT]
   by_cases hp:P k
   ·rw[if_pos ((hL k (by omega)).2 hp)]
    simp[hp]
   ·rw[if_neg (fun x=>hp ((hL k (by omega)).1 x))]
    simp[hp]
 exact key _ (Nat.le_refl _)
theorem posL_mem{H:Heap}(h:Sound H){P:Nat→Prop}{Q:Int→Prop}(hP:∀i,P i→∃c,H.cells[i]?=some c∧c.state=1∧¬Doomed H i)(hQ:∀(i:Nat) c,H.cells[i]?=some c→c.state=1→¬Doomed H i→(P i↔Q c.born))(x:Int×Int):
 x∈posL H P↔∃n,Node H x.1 n∧Q x.1∧x.2=1+n.pairs.length:=by
 unfold posL
 constructor
 ·intro hx
  obtain⟨i,hi,rfl⟩:=List.mem_map.1 hx
  obtain⟨_,hp⟩:=List.mem_filter.1 hi
  have hp:P i:=by simpa using hp
  obtain⟨c,c1,c2,c3⟩:=hP i hp
  have e:=getC_nat c1
  refine⟨_,by rw[e];exact node_at c1 c2 c3,by rw[e];exact(hQ i c c1 c2 c3).1 hp,?_⟩
  show(H.getC i).units=_
  rw[e];unfold Cell.units
  rw[if_pos c2];simp
 ·rintro⟨n,⟨i,c,c1,c2,c3,c4,rfl⟩,hq,hu⟩
  have e:=getC_nat c1
  refine List.mem_map.2 ⟨i,List.mem_filter.2 ⟨List.mem_range.2 (List.getElem?_eq_some_iff.1 c1).1,by simpa using(hQ i c c1 c2 c3).2 (by rw[c4];exact hq)⟩,?_⟩
  refine Prod.ext ?_ ?_
  ·show(H.getC i).born=_;rw[e,c4]
  ·show(H.getC i).units=_
   rw[e,hu];unfold Cell.units
   rw[if_pos c2];simp
theorem posL_nodup{H:Heap}(h:Sound H){P:Nat→Prop}(hP:∀i,P i→∃c,H.cells[i]?=some c∧c.state=1∧¬Doomed H i):(posL H P).Nodup:=by
 unfold posL
 refine List.pairwise_map.2 (List.Pairwise.imp_of_mem ?_ (List.Pairwise.filter _ List.pairwise_lt_range))
 intro a b ha hb hab e
 obtain⟨c,c1,c2,c3⟩:=hP a (by simpa using(List.mem_filter.1 ha).2)
 obtain⟨d,d1,d2,d3⟩:=hP b (by simpa using(List.mem_filter.1 hb).2)
 have:(H.getC a).born=(H.getC b).born:=congrArg Prod.fst e
 rw[getC_nat c1,getC_nat d1]at this
 exact h.r2.born a b c d c1 d1 hab c2 d2 this
theorem posL_sum{H K:Heap}(h:Sound H)(k:Sound K){P P':Nat→Prop}{Q Q':Int→Prop}(hP:∀i,P i→∃c,H.cells[i]?=some c∧c.state=1∧¬Doomed H i)(hQ:∀(i:Nat) c,H.cells[i]?=some c→c.state=1→¬Doomed H i→(P i↔Q c.born))
 (hP':∀i,P' i→∃c,K.cells[i]?=some c∧c.state=1∧¬Doomed K i) (hQ':∀(i:Nat) c,K.cells[i]?=some c→c.state=1→¬Doomed K i→(P' i↔Q' c.born)) (e:∀b n,(Node K b n∧Q' b)↔(Node H b n∧Q b)):((posL K P').map Prod.snd).sum=((posL H P).map Prod.snd).sum:=by
 have mem:∀x,x∈posL K P'↔x∈posL H P:=fun x=>by
  rw[posL_mem h hP hQ,posL_mem k hP' hQ']
  constructor
  ·rintro⟨n,a,b,c⟩;have:=(e x.1 n).1 ⟨a,b⟩;exact⟨n,this.1,this.2,c⟩
  ·rintro⟨n,a,b,c⟩;have:=(e x.1 n).2 ⟨a,b⟩;exact⟨n,this.1,this.2,c⟩
 have nn:∀x,x∈posL H P→0≤x.2:=fun x hx=>by
  obtain⟨n,_,_,c⟩:=(posL_mem h hP hQ x).1 hx
  omega
 have a:=sum_sub _ _ (posL_nodup k hP') (fun x hx=>(mem x).1 hx) nn
 have b:=sum_sub _ _ (posL_nodup h hP) (fun x hx=>(mem x).2 hx) (fun x hx=>nn x ((mem x).1 hx))
 omega
noncomputable def liveN(H:Heap):Int:=sumT H (reachL H) H.cells.length
theorem reachL_iff{H:Heap}{i:Nat}(hi:i<H.cells.length):(reachL H)[i]?=some true↔Reached H i:=by
 unfold reachL
 rw[List.getElem?_map,List.getElem?_range hi]
 simp
theorem live_eq{H K:Heap}(h:Sound H)(k:Sound K)(e:∀b n,Vis K b n↔Vis H b n):liveN K=liveN H:=by
 unfold liveN
 rw[sumT_posL (P:=Reached K) (fun i hi=>reachL_iff hi),sumT_posL (P:=Reached H) (fun i hi=>reachL_iff hi)]
 exact posL_sum h k (fun i hi=>reached_ok h.r2 h.r4 hi) (fun i c c1 c2 _=>reach_iff h c1 c2) (fun i hi=>reached_ok k.r2 k.r4 hi) (fun i c c1 c2 _=>reach_iff k c1 c2) e
theorem iter_vis:∀(k:Nat) {H:Heap},Sound H→∀b n,Vis (iterU k H) b n↔Vis H b n
 |0,H,_,b,n=>Iff.rfl
 |k+1,H,h,b,n=>(iter_vis k (unit_sound h) b n).trans (unit_vis h)
theorem reach_same{H K:Heap}(hr:K.regs.map K.aw=H.regs.map H.aw)(hn:∀b n,Node K b n↔Node H b n){b:Int}:ReachB K b↔ReachB H b:=by
 constructor
 ·intro x
  induction x with
  |reg h1 h2=>exact .reg (by rw[←hr];exact h1) h2
  |root h1 h2=>exact .root ((hn _ _).1 h1) h2
  |pair _ h2 h3 h4 h5 ih=>exact .pair ih ((hn _ _).1 h2) h3 h4 h5
 ·intro x
  induction x with
  |reg h1 h2=>exact .reg (by rw[hr];exact h1) h2
  |root h1 h2=>exact .root ((hn _ _).2 h1) h2
  |pair _ h2 h3 h4 h5 ih=>exact .pair ih ((hn _ _).2 h2) h3 h4 h5
theorem begin_vis{H:Heap}(hp:H.phase=0)(b:Int)(n:Nd):Vis (H.enterH 1) b n↔Vis H b n:=by
 have i:Iso H (H.enterH 1):=enter_iso fun j=>not_doom (by omega) j
 have k:∀b n,Node H b n→Node (H.enterH 1) b n:=enter_back (by omega)
 have hn:∀b n,Node (H.enterH 1) b n↔Node H b n:=fun b n=>⟨i.node b n,k b n⟩
 unfold Vis
 rw[hn,reach_same i.regs hn]
theorem round_vis{H:Heap}(h:Sound H)(b:Int)(n:Nd):Vis H.roundH b n↔Vis H b n:=by
 obtain⟨a,e⟩:=outH_ok h
 exact((iter_vis _ (begin_sound a e) b n).trans (begin_vis e b n)).trans (iter_vis _ h b n)
def AllR(H:Heap):Prop:=∀b n,Node H b n→ReachB H b
theorem allR_unit{H:Heap}(h:Sound H)(ha:AllR H):AllR H.unitH:=fun b n hn=>(unit_reach h).2 (ha b n ((unit_iso h).node b n hn))
structure Inv (H:Heap):Prop where
 col:Marking H→∀(i:Nat) c,H.cells[i]?=some c→c.color≠0→Reached H i
 sw:H.phase=3→∀(i:Nat) c,H.cells[i]?=some c→c.state=1→((i:Int)<H.hand∨c.color≠0)→Reached H i
 all:4≤H.phase∨H.phase=0→AllR H
 mv:H.phase=4→∀(i j:Nat) c d,H.cells[i]?=some c→H.cells[j]?=some d→c.state=2→d.state=1→j<i
 cp:H.phase=5∨H.phase=6→∃m:Nat,(∀(i:Nat) c,H.cells[i]?=some c→(c.state=1↔i<m))∧(H.phase=6→(H.cells.length:Int)≤max H.hand m)
 us:H.phase=0→∀(i:Nat) c,H.cells[i]?=some c→c.state=1
theorem inv_begin{H:Heap}(h:Sound H)(hp:H.phase=0):Inv (H.enterH 1):=by
 obtain⟨g1,g2⟩:=h.r5.else_ (not_mark (by omega))
 have e:(H.enterH 1).phase=1:=rfl
 refine⟨fun _ i c hc hn=>?_,fun x=>by omega,fun x=>by omega,fun x=>by omega,fun x=>by omega,fun x=>by omega⟩
 exfalso
 have:=(g2 i c hc).2
 have h1:=(g2 i c hc).1
 rcases h.r2.each i c hc with x|x|x
 ·exact hn x.2.1.2.2.2.2.1
 ·exact hn x.2.1.2.2.2.2.1
 ·have hb:=x.2.2.2.2.2.1
  have:c.color=2:=by omega
  have:=(g2 i c hc).2 this
  omega
theorem shadeH_col{H:Heap}{i:Nat}{j:Int}(hi:i<H.cells.length)(hc:((H.shadeH i).getC j).color≠0):(H.getC j).color≠0∨j.toNat=i:=by
 unfold Heap.shadeH at hc
 split at hc
 ·have e:(H.gray1 i (H.getC i)).getC j=if j.toNat=i then(H.getC i).col 1 else H.getC j:=by rw[getC_L,getC_L];exact getL_set hi
  rw[e]at hc
  split at hc
  ·right;assumption
  ·left;exact hc
 ·exact .inl hc
theorem shadeW_col{H:Heap}{w:Word}{j:Int}(hf:Formed H w)(hc:((H.shadeW w).getC j).color≠0):(H.getC j).color≠0∨(w.kind=2∧j.toNat=w.at_.toNat):=by
 unfold Heap.shadeW at hc
 split at hc
 ·rename_i hk
  have:=hf.at hk
  rcases shadeH_col (by omega) hc with x|x
  ·exact .inl x
  ·exact .inr ⟨hk,x⟩
 ·exact .inl hc
theorem shadeL_col:∀(ws:List Word) (H:Heap) {j:Int},(∀w,w∈ws→Formed H w)→((H.shadeL ws).getC j).color≠0→(H.getC j).color≠0∨∃w,w∈ws∧w.kind=2∧j.toNat=w.at_.toNat
 |[],H,j,_,hc=>.inl hc
 |w::r,H,j,h,hc=>by
  have a:=hue_shadeW (h w (by simp))
  rcases shadeL_col r (H.shadeW w) (fun v hv=>formed_len a.len (h v (by simp[hv]))) hc with x|⟨v,hv,x⟩
  ·rcases shadeW_col (h w (by simp)) x with y|y
   ·exact .inl y
   ·exact .inr ⟨w,by simp,y⟩
  ·exact .inr ⟨v,by simp[hv],x⟩
theorem reach_unit{H:Heap}(h:Sound H){i j:Nat}{c d:Cell}(hc:H.cells[i]?=some c)(hd:H.unitH.cells[j]?=some d)(sc:c.state=1)(sd:d.state=1)(e:d.born=c.born)(hr:Reached H i):Reached H.unitH j:=by
 rw[reach_iff (unit_sound h) hd sd,e,unit_reach h,←reach_iff h hc sc];exact hr
theorem tgt_used{H:Heap}{w:Word}(hk:w.kind=2)(h:(H.getC w.at_).state=1):H.tgt w=some w.at_.toNat:=by
 unfold Heap.tgt
 rw[lead_id (fun _=>h),if_pos hk]
theorem inv_unit{H:Heap}(h:Sound H)(v:Inv H)(hp:H.phase≠0):Inv H.unitH:=by
 have hs:=unit_sound h
 have hph:=h.r1.phase
 have h0:=h.r1.hand
 --cells that differ in colour alone
 have hue:∀K:Heap,K=H.unitH→Hue H K→(∀(i:Nat),i<H.cells.length→(H.getC i).state=1→(K.getC i).color≠0→Reached H i)→∀(i:Nat) c,K.cells[i]?=some c→c.color≠0→Reached K i:=fun K hK hu hx i c hc hcl=>by
  have hi:=(List.getElem?_eq_some_iff.1 hc).1
  have e:=getC_nat hc
  have e2:=hu.cell i
  have hsK:Sound K:=by rw[hK];exact hs
  have s1:c.state=1:=by
   by_cases x:c.state=1
   ·exact x
   ·exact absurd (hsK.r2.bare hc x).2.2.2.2.1 hcl
  have s2:(H.getC i).state=1:=by rw[←e,e2]at s1;exact s1
  rw[hu.len]at hi
  have hr:=hx i hi s2 (by rw[e];exact hcl)
  have:=reach_unit h (get_at hi) (by rw[←hK];exact hc) s2 s1 (by rw[←e,e2];rfl) hr
  rw[←hK]at this;exact this
 rcases(by omega:H.phase=1∨H.phase=2∨H.phase=3∨H.phase=4∨H.phase=5∨H.phase=6)with p|p|p|p|p|p
 ·--roots
  have hcol:=v.col (.inl p)
  have eU:H.unitH=H.rootsU:=by unfold Heap.unitH;rw[if_pos p]
  have hphase:H.unitH.phase=1∨H.unitH.phase=2:=by
   rw[eU];unfold Heap.rootsU
   split
   ·exact .inr rfl
   ·left
    split
    ·show(H.shadeH H.hand.toNat).phase=1
     have:(H.shadeH H.hand.toNat).phase=H.phase:=by unfold Heap.shadeH;split<;>rfl
     omega
    ·exact p
  have main:∀(i:Nat) c,H.unitH.cells[i]?=some c→c.color≠0→Reached H.unitH i:=by
   have old:∀(i:Nat),i<H.cells.length→(H.getC i).color≠0→Reached H i:=fun i hi hc=>hcol i _ (get_at hi) hc
   by_cases hh:H.hand=H.cells.length
   ·have e:H.unitH=H.enterH 2:=by rw[eU];unfold Heap.rootsU;rw[if_pos hh]
    exact hue _ rfl (by rw[e];exact hue_same rfl rfl rfl rfl rfl rfl rfl) (fun i hi _ hc=>old i hi (by rw[e]at hc;exact hc))
   ·by_cases hr:Root (H.getC H.hand)
    ·have e:H.unitH={H.shadeH H.hand.toNat with hand:=H.hand+1}:=by rw[eU];unfold Heap.rootsU;rw[if_neg hh,if_pos hr]
     refine hue _ rfl (by rw[e];exact(hue_shadeH (by omega)).trans (hue_same rfl rfl rfl rfl rfl rfl rfl)) (fun i hi _ hc=>?_)
     rw[e]at hc
     have hc:((H.shadeH H.hand.toNat).getC i).color≠0:=hc
     rcases shadeH_col (by omega) hc with x|x
     ·exact old i hi x
     ·have e2:H.getC H.hand=H.getC i:=by congr 1;omega
      exact .root (get_at hi) (by rw[←e2];exact hr)
    ·have e:H.unitH={H with hand:=H.hand+1}:=by rw[eU];unfold Heap.rootsU;rw[if_neg hh,if_neg hr]
     exact hue _ rfl (by rw[e];exact hue_same rfl rfl rfl rfl rfl rfl rfl) (fun i hi _ hc=>old i hi (by rw[e]at hc;exact hc))
  exact⟨fun _=>main,fun x=>by omega,fun x=>by omega,fun x=>by omega,fun x=>by omega,fun x=>by omega⟩
 ·--marking
  have hcol:=v.col (.inr p)
  have eU:H.unitH=H.markU:=by unfold Heap.unitH;rw[if_neg (by omega),if_pos p]
  have old:∀(i:Nat),i<H.cells.length→(H.getC i).color≠0→Reached H i:=fun i hi hc=>hcol i _ (get_at hi) hc
  have fin:H.unitH.phase=2→(∀(i:Nat) c,H.unitH.cells[i]?=some c→c.color≠0→Reached H.unitH i)→Inv H.unitH:=fun e m=>
   ⟨fun _=>m,fun x=>by omega,fun x=>by omega,fun x=>by omega,fun x=>by omega,fun x=>by omega⟩
  cases hg:H.gray with
  |nil=>
   by_cases hx:∃w,w∈H.regs∧White H w
   ·have e:H.unitH=H.shadeL H.regs:=by rw[eU];unfold Heap.markU;rw[hg];simp only;rw[if_pos hx]
    have hr:=fun w hw=>reg_used h.r4 (w:=w) hw
    have hsh:=(shadeL_ok H.regs H (fun w hw=>⟨(hr w hw).1,fun hk=>((hr w hw).2 hk).1⟩)).1
    refine fin (by rw[e,hsh.phase];exact p) (hue _ rfl (by rw[e];exact hue_shadeL H.regs H (fun w hw=>(hr w hw).1)) (fun i hi s hc=>?_))
    rw[e]at hc
    rcases shadeL_col H.regs H (fun w hw=>(hr w hw).1) hc with x|⟨w,hw,hk,x⟩
    ·exact old i hi x
    ·have:=tgt_used hk ((hr w hw).2 hk).1
     refine .reg hw (by rw[this];congr 1;omega)
   ·have e:H.unitH=H.enterH 3:=by rw[eU];unfold Heap.markU;rw[hg];simp only;rw[if_neg hx]
    have m:=hue _ rfl (by rw[e];exact hue_same rfl rfl rfl rfl rfl rfl rfl) (fun i hi _ hc=>old i hi (by rw[e]at hc;exact hc))
    have ep:H.unitH.phase=3:=by rw[e];rfl
    have eh:H.unitH.hand=0:=by rw[e];rfl
    refine⟨fun x=>by rcases x with x|x<;>omega,fun _ i c hc s x=>?_,fun x=>by omega,fun x=>by omega,fun x=>by omega,fun x=>by omega⟩
    rcases x with x|x
    ·omega
    ·exact m i c hc x
  |cons g r=>
   obtain⟨g1,g2,g3⟩:=h.r5.mark (.inr p)
   obtain⟨b0,b1,b2,b3⟩:=g2 g (by rw[hg];simp)
   have hrg:Reached H g.toNat:=old g.toNat (by omega) (by rw[show((g.toNat:Nat):Int)=g by omega];omega)
   cases hs':(H.getC g).pairs[H.sub.toNat]? with
   |none=>
    have e:H.unitH=H.black g r:=by rw[eU];unfold Heap.markU;rw[hg];simp only;rw[hs']
    have gC:∀j:Int,(H.black g r).getC j=if j.toNat=g.toNat then(H.getC g).col 2 else H.getC j:=fun j=>by
     rw[getC_L,getC_L];exact getL_set (by omega)
    refine fin (by rw[e];exact p) (hue _ rfl ?_ (fun i hi s hc=>?_))
    ·rw[e]
     refine hue_set (i:=g.toNat) (k:=2) (by omega) ?_ rfl rfl rfl rfl rfl rfl
     rw[show((g.toNat:Nat):Int)=g by omega];rfl
    ·rw[e,gC]at hc
     split at hc
     ·rename_i e2
      rw[show i=g.toNat by omega];exact hrg
     ·exact old i hi hc
   |some q=>
    have e:H.unitH={(H.shadeW q.key).shadeW q.val with sub:=H.sub+1}:=by rw[eU];unfold Heap.markU;rw[hg];simp only;rw[hs']
    obtain⟨⟨k1,k2⟩,v1,v2⟩:=markP h p hg hs'
    have a:=hue_shadeW k1
    have b:=hue_shadeW (H:=H.shadeW q.key) (w:=q.val) (formed_len a.len v1)
    have hsh:=(markP2 h p hg hs').1
    have hcg:H.cells[g.toNat]?=some (H.getC g):=by
     have:=get_at (H:=H) (i:=g.toNat) (by omega)
     rw[show((g.toNat:Nat):Int)=g by omega]at this;exact this
    have hq:q∈(H.getC g).pairs:=List.mem_of_getElem? hs'
    refine fin (by rw[e];show((H.shadeW q.key).shadeW q.val).phase=2;rw[hsh.phase];exact p) (hue _ rfl (by rw[e];exact Hue.trans (a.trans b) (hue_same rfl rfl rfl rfl rfl rfl rfl)) (fun i hi s hc=>?_))
    rw[e]at hc
    have hc:(((H.shadeW q.key).shadeW q.val).getC i).color≠0:=hc
    rcases shadeW_col (H:=H.shadeW q.key) (formed_len a.len v1) hc with x|⟨hk,x⟩
    ·rcases shadeW_col k1 x with y|⟨hk,y⟩
     ·exact old i hi y
     ·refine .pair hrg hcg hq (.inl rfl) (by rw[tgt_used hk (k2 hk)];congr 1;omega)
    ·refine .pair hrg hcg hq (.inr rfl) (by rw[tgt_used hk (v2 hk)];congr 1;omega)
 ·--sweeping
  have hsw:=v.sw p
  have eU:H.unitH=H.sweepU:=by unfold Heap.unitH;rw[if_neg (by omega),if_neg (by omega),if_pos p]
  by_cases hh:H.hand=H.cells.length
  ·have e:H.unitH=H.enterH 4:=by rw[eU];unfold Heap.sweepU;rw[if_pos hh]
   have ep:H.unitH.phase=4:=by rw[e];rfl
   have ec:H.unitH.cells=H.cells:=by rw[e];rfl
   refine⟨fun x=>by rcases x with x|x<;>omega,fun x=>by omega,fun _ b n hn=>?_,fun _ i j c d hc hd s1 s2=>?_,fun x=>by omega,fun x=>by omega⟩
   ·rw[unit_reach h]
    obtain⟨i,c,a1,a2,a3,a4,a5⟩:=hn
    rw[ec]at a1
    have hi:=(List.getElem?_eq_some_iff.1 a1).1
    rw[←a4,←reach_iff h a1 a2]
    exact hsw i c a1 a2 (.inl (by omega))
   ·exfalso
    rw[ec]at hc
    rcases h.r2.each i c hc with x|x|x
    ·have:=x.1;omega
    ·have:=x.2.2.1;omega
    ·have:=x.1;omega
  ·have hlt:H.hand.toNat<H.cells.length:=by omega
   have key:∀a:Cell,H.unitH.cells=H.cells.set H.hand.toNat a→H.unitH.phase=3→H.unitH.hand=H.hand+1→(a.state=1→(H.getC H.hand).state=1∧(H.getC H.hand).color≠0∧a.born=(H.getC H.hand).born)→Inv H.unitH:=fun a ec ep eh ha=>by
    refine⟨fun x=>by rcases x with x|x<;>omega,fun _ i c hc s x=>?_,fun x=>by omega,fun x=>by omega,fun x=>by omega,fun x=>by omega⟩
    have hc':=hc
    rw[ec]at hc'
    rcases set_gt hc' with⟨e,rfl,_⟩|⟨e,hc'⟩
    ·obtain⟨a1,a2,a3⟩:=ha s
     have hg:=get_at hlt
     rw[show((H.hand.toNat:Nat):Int)=H.hand by omega]at hg
     rw[e]at hc⊢
     exact reach_unit h hg hc a1 s a3 (hsw _ _ hg a1 (.inr a2))
    ·exact reach_unit h hc' hc s s rfl (hsw i c hc' s (by rcases x with x|x;exact .inl (by omega);exact .inr x))
   by_cases hc0:(H.getC H.hand).state=1∧(H.getC H.hand).color=0
   ·have e:H.unitH={H with used:=H.used-(1+(H.getC H.hand).pairs.length),cells:=H.cells.set H.hand.toNat Cell.zero,hand:=H.hand+1}:=by rw[eU];unfold Heap.sweepU;rw[if_neg hh,if_pos hc0]
    exact key Cell.zero (by rw[e]) (by rw[e];exact p) (by rw[e]) (fun x=>by simp[Cell.zero]at x)
   ·have e:H.unitH={H with cells:=H.cells.set H.hand.toNat ((H.getC H.hand).col 0),hand:=H.hand+1}:=by rw[eU];unfold Heap.sweepU;rw[if_neg hh,if_neg hc0]
    exact key ((H.getC H.hand).col 0) (by rw[e]) (by rw[e];exact p) (by rw[e]) (fun x=>⟨x,fun y=>hc0 ⟨x,y⟩,rfl⟩)
 ·--moving
  have hal:=allR_unit h (v.all (.inl (by omega)))
  have hmv:=v.mv p
  have eU:H.unitH=H.moveU:=by unfold Heap.unitH;rw[if_neg (by omega),if_neg (by omega),if_neg (by omega),if_pos p]
  obtain⟨a1,a2,a3,a4⟩:=frG_ok H H.cells.length
  obtain⟨b1,b2,b3,b4⟩:=luG_ok H H.cells.length
  by_cases hlt:luG H H.cells.length≤frG H H.cells.length
  ·have e:H.unitH=H.enterH 5:=by rw[eU];unfold Heap.moveU;rw[if_pos hlt]
   have ep:H.unitH.phase=5:=by rw[e];rfl
   have ec:H.unitH.cells=H.cells:=by rw[e];rfl
   refine⟨fun x=>by rcases x with x|x<;>omega,fun x=>by omega,fun _=>hal,fun x=>by omega,fun _=>⟨(luG H H.cells.length+1).toNat,fun i c hc=>?_,fun x=>by omega⟩,fun x=>by omega⟩
   rw[ec]at hc
   have hi:=(List.getElem?_eq_some_iff.1 hc).1
   have hg:=getC_nat hc
   generalize luG H H.cells.length=u at*
   generalize frG H H.cells.length=f at*
   constructor
   ·intro s
    rcases Int.lt_or_le u i with x|x
    ·have:=b4 i hi x
     rw[hg]at this
     exact absurd s this
    ·omega
   ·intro x
    have hu1:=b3 (by omega)
    rcases h.r2.each i c hc with y|y|y
    ·exfalso
     by_cases z:(i:Int)<f
     ·exact a4 i hi z (by rw[hg];exact y.1)
     ·have:(i:Int)=u:=by omega
      rw[←this,hg]at hu1
      have:=y.1;omega
    ·exfalso
     have hgu:=get_at (H:=H) (i:=u.toNat) (by omega)
     rw[show((u.toNat:Nat):Int)=u by omega]at hgu
     have:=hmv i u.toNat c _ hc hgu y.1 hu1
     omega
    ·exact y.1
  ·have e:H.unitH=H.moved (frG H H.cells.length) (luG H H.cells.length):=by rw[eU];unfold Heap.moveU;rw[if_neg hlt]
   have ep:H.unitH.phase=4:=by rw[e];exact p
   have ec:H.unitH.cells=(H.cells.set (frG H H.cells.length).toNat (H.getC (luG H H.cells.length))).set (luG H H.cells.length).toNat (Cell.gone (frG H H.cells.length)):=by rw[e];rfl
   refine⟨fun x=>by rcases x with x|x<;>omega,fun x=>by omega,fun _=>hal,fun _ i j c d hc hd s1 s2=>?_,fun x=>by omega,fun x=>by omega⟩
   generalize luG H H.cells.length=u at*
   generalize frG H H.cells.length=f at*
   have hu1:=b3 (by omega)
   have hgu:=get_at (H:=H) (i:=u.toNat) (by omega)
   rw[show((u.toNat:Nat):Int)=u by omega]at hgu
   rw[ec]at hc hd
   --the used cell lies below u
   have hj:(j:Int)<u:=by
    rcases set_gt hd with⟨_,rfl,_⟩|⟨x,hd⟩
    ·simp[Cell.gone]at s2
    ·rcases set_gt hd with⟨y,_,_⟩|⟨y,hd⟩
     ·omega
     ·have hjl:=(List.getElem?_eq_some_iff.1 hd).1
      rcases Int.lt_or_le u j with z|z
      ·have:=b4 j hjl z
       rw[getC_nat hd]at this
       exact absurd s2 this
      ·omega
   rcases set_gt hc with⟨x,_,_⟩|⟨x,hc⟩
   ·omega
   ·rcases set_gt hc with⟨y,rfl,_⟩|⟨y,hc⟩
    ·omega
    ·have:=hmv i u.toNat c _ hc hgu s1 hu1
     omega
 ·--mending
  have hal:=allR_unit h (v.all (.inl (by omega)))
  obtain⟨m,hm,_⟩:=v.cp (.inl p)
  have eU:H.unitH=H.mendU:=by unfold Heap.unitH;rw[if_neg (by omega),if_neg (by omega),if_neg (by omega),if_neg (by omega),if_pos p]
  by_cases hh:H.hand=H.cells.length
  ·have e:H.unitH=H.enterH 6:=by rw[eU];unfold Heap.mendU;rw[if_pos hh]
   have ep:H.unitH.phase=6:=by rw[e];rfl
   refine⟨fun x=>by rcases x with x|x<;>omega,fun x=>by omega,fun _=>hal,fun x=>by omega,fun _=>⟨m,by rw[e];exact hm,fun _=>?_⟩,fun x=>by omega⟩
   have eh:H.unitH.hand=H.cells.length:=by rw[e];rfl
   have el:H.unitH.cells.length=H.cells.length:=by rw[e];rfl
   omega
  ·cases hs':(H.getC H.hand).pairs[H.sub.toNat]? with
   |none=>
    have e:H.unitH={H with hand:=H.hand+1,sub:=0}:=by rw[eU];unfold Heap.mendU;rw[if_neg hh,hs']
    have ep:H.unitH.phase=5:=by rw[e];exact p
    exact⟨fun x=>by rcases x with x|x<;>omega,fun x=>by omega,fun _=>hal,fun x=>by omega,fun _=>⟨m,by rw[e];exact hm,fun x=>by omega⟩,fun x=>by omega⟩
   |some q=>
    have e:H.unitH={H with cells:=H.cells.set H.hand.toNat {H.getC H.hand with pairs:=(H.getC H.hand).pairs.set H.sub.toNat ⟨H.lead q.key,H.lead q.val⟩},sub:=H.sub+1}:=by rw[eU];unfold Heap.mendU;rw[if_neg hh,hs']
    have ep:H.unitH.phase=5:=by rw[e];exact p
    refine⟨fun x=>by rcases x with x|x<;>omega,fun x=>by omega,fun _=>hal,fun x=>by omega,fun _=>⟨m,fun i c hc=>?_,fun x=>by omega⟩,fun x=>by omega⟩
    rw[e]at hc
    rcases set_gt hc with⟨x,rfl,_⟩|⟨x,hc⟩
    ·have hg:=get_at (H:=H) (i:=H.hand.toNat) (by omega)
     rw[show((H.hand.toNat:Nat):Int)=H.hand by omega]at hg
     rw[x]
     show(H.getC H.hand).state=1↔_
     exact hm _ _ hg
    ·exact hm i c hc
 ·--closing
  have hal:=allR_unit h (v.all (.inl (by omega)))
  obtain⟨m,hm,hm6⟩:=v.cp (.inr p)
  have hm6:=hm6 p
  have eU:H.unitH=H.closeU:=by unfold Heap.unitH;rw[if_neg (by omega),if_neg (by omega),if_neg (by omega),if_neg (by omega),if_neg (by omega),if_pos p]
  by_cases hh:H.hand=0
  ·have e:H.unitH={H.enterH 0 with rounds:=if H.rounds<1000000000 then H.rounds+1 else H.rounds}:=by rw[eU];unfold Heap.closeU;rw[if_pos hh]
   have ep:H.unitH.phase=0:=by rw[e];rfl
   refine⟨fun x=>by rcases x with x|x<;>omega,fun x=>by omega,fun _=>hal,fun x=>by omega,fun x=>by omega,fun _ i c hc=>?_⟩
   rw[e]at hc
   have hc:H.cells[i]?=some c:=hc
   have hi:=(List.getElem?_eq_some_iff.1 hc).1
   exact(hm i c hc).2 (by omega)
  ·have hl:H.closeA.length=H.cells.length:=by unfold Heap.closeA;split<;>simp
   have ec:H.unitH.cells=(if H.hand=H.cells.length∧(getL H.closeA (H.hand-1)).state=0 then H.closeA.take (H.hand-1).toNat else H.closeA):=by rw[eU];unfold Heap.closeU;rw[if_neg hh]
   have ep:H.unitH.phase=6:=by rw[eU];unfold Heap.closeU;rw[if_neg hh];exact p
   have eh:H.unitH.hand=H.hand-1:=by rw[eU];unfold Heap.closeU;rw[if_neg hh]
   have hA:∀(i:Nat) c,H.closeA[i]?=some c→(c.state=1↔i<m):=fun i c hc=>by
    unfold Heap.closeA at hc
    split at hc
    ·rename_i e2
     rcases set_gt hc with⟨x,rfl,_⟩|⟨x,hc⟩
     ·have hg:=get_at (H:=H) (i:=(H.hand-1).toNat) (by omega)
      rw[show(((H.hand-1).toNat:Nat):Int)=H.hand-1 by omega]at hg
      have:=hm _ _ hg
      rw[x]
      constructor
      ·intro y;simp[Cell.zero]at y
      ·intro y;have:=this.2 y;omega
     ·exact hm i c hc
    ·exact hm i c hc
   refine⟨fun x=>by rcases x with x|x<;>omega,fun x=>by omega,fun _=>hal,fun x=>by omega,fun _=>⟨m,fun i c hc=>?_,fun _=>?_⟩,fun x=>by omega⟩
   ·rw[ec]at hc
    split at hc
    ·rw[List.getElem?_take]at hc
     split at hc
     ·exact hA i c hc
     ·cases hc
    ·exact hA i c hc
   ·rw[ec,eh]
    split
    ·rw[List.length_take];omega
    ·rename_i e2
     rw[hl]
     by_cases x:H.hand=H.cells.length
     ·--the last cell stays:it is used
      have hg:=getL_some (cs:=H.closeA) (j:=H.hand-1) (by omega) (by omega)
      have:=hA _ _ hg
      have hst:(getL H.closeA (H.hand-1)).state=1:=by
       have hz:(getL H.closeA (H.hand-1)).state≠0:=fun y=>e2 ⟨x,y⟩
       have hg2:=get_at (H:=H) (i:=(H.hand-1).toNat) (by omega)
       rw[show(((H.hand-1).toNat:Nat):Int)=H.hand-1 by omega]at hg2
       unfold Heap.closeA at hz⊢
       split
       ·rename_i y
        rw[if_pos y,getL_set (by omega),if_pos rfl]at hz
        exact absurd rfl hz
       ·rename_i y
        rw[if_neg y]at hz
        rw[getL_at hg2 rfl]at hz⊢
        rcases h.r2.each _ _ hg2 with z|z|z
        ·exact absurd z.1 hz
        ·exact absurd z.1 y
        ·exact z.1
      have:=this.1 hst
      omega
     ·omega
theorem inv_iter:∀(k:Nat) {H:Heap},Sound H→Inv H→(∀j,j<k→(iterU j H).phase≠0)→Inv (iterU k H)
 |0,_,_,v,_=>v
 |k+1,H,h,v,hp=>inv_iter k (unit_sound h) (inv_unit h v (hp 0 (by omega))) (fun j hj=>hp (j+1) (by omega))
theorem clean{H:Heap}(h:Sound H):(∀(i:Nat) c,H.roundH.cells[i]?=some c→c.state=1∧Reached H.roundH i)∧H.roundH.used=liveN H:=by
 obtain⟨a,e⟩:=outH_ok h
 have hb:=begin_sound a e
 obtain⟨⟨o1,o2⟩,_⟩:=outN_ok hb
 have v:Inv H.roundH:=inv_iter _ hb (inv_begin a e) o2
 obtain⟨s,p⟩:=roundH_ok h
 have main:∀(i:Nat) c,H.roundH.cells[i]?=some c→c.state=1∧Reached H.roundH i:=fun i c hc=>by
  have s1:=v.us p i c hc
  exact⟨s1,(reach_iff s hc s1).2 (v.all (.inr p) _ _ (node_at hc s1 (not_doom (by omega) i)))⟩
 refine⟨main,?_⟩
 rw[←live_eq h s (fun b n=>round_vis h b n),←s.r3.1]
 have key:∀k:Nat,k≤H.roundH.cells.length→sumT H.roundH (reachL H.roundH) k=unitsN (H.roundH.cells.take k):=by
  intro k
  induction k with
  |zero=>intro _;simp[sumT,unitsN]
  |succ k ih=>
   intro hk
   have ih:=ih (by omega)
   have hc:=get_at (H:=H.roundH) (i:=k) (by omega)
   have hr:=(main k _ hc).2
   rw[List.take_add_one,hc,unitsN_append,←ih]
   simp only[sumT]
   rw[if_pos ((reachL_iff (by omega)).2 hr)]
   simp[unitsN]
 unfold liveN
 rw[key _ (Nat.le_refl _),List.take_length]
end Go.Proofs.YtcjmodomfilagaaGreat.E
set_option maxHeartbeats 8000000
set_option maxRecDepth 100000
namespace Go.Proofs.YtcjmodomfilagaaGreat.E
open Go
open Classical
theorem Cod.le{m m':Mem}{ca:Option Addr}{cn:Nat}(h:Cod m ca cn)(l:m.le m'):Cod m' ca cn:=⟨fun i hi=>by
 obtain⟨b,o,v,e,hc,hv⟩:=h.at_ i hi
 exact⟨b,o,v,e,cell_le l hc,hv⟩,h.bd⟩
theorem given_a{ca:Option Addr}{cn cc:Nat}{m:Mem}(hc:Cod m ca cn):FnA Tryz.prog 6 [.slice ca cn cc] [ro m] (fun v As=>∃x:HX,v=x.v∧Sound x.H∧As=x.body++[ro m]):=by
 refine fnA_of (fun h=>fn6 (by simp) h) ?_
 repeat' (first
  |(refine k_L ?_;first|refine a_p rfl ?_|(refine k_ls ?_;refine g_ls rfl ?_)|(refine k_st ?_;refine g_sw rfl rfl rfl rfl (Nat.le_of_ble_eq_true rfl) ?_)|(refine k_al ?_;refine a_al ?_)|(refine a_nw rfl rfl (fun pc=>?_))|(refine g_c rfl (heap_a (pc:=pc) (cc:=cc) (t:=0) (s:=0) hc (by omega)) (fun v As' hq=>?_);obtain⟨pb,ph,s1,rfl,h1,rfl⟩:=hq))
  |refine a_n ?_
  |(refine k_V ?_;first|refine v_seq ?_|refine v_reg ?_|refine v_ret ?_)
  |refine sk_zero ?_
  |refine sk_succ ?_
  |refine wk_nil ?_
  |refine wk_cons ?_)
 exact fa_r (As':=s1.x.body++[ro m]) (fun _ _=>rfl) (Pm.ent pmt) ⟨_,rfl,h1.snd,rfl⟩
theorem roundA_s{H:Heap}(h:Sound H):H.roundA=H.roundH:=by unfold Heap.roundA;rw[if_pos ((okH_sound H).2 h)]
theorem live_s{H:Heap}(h:Sound H):H.live=liveN H:=by unfold Heap.live;rw[if_pos ((okH_sound H).2 h)];rfl
theorem reach_s{H:Heap}(h:Sound H):H.reach=reachL H:=by unfold Heap.reach;rw[if_pos ((okH_sound H).2 h)]
end Go.Proofs.YtcjmodomfilagaaGreat.E
namespace Go.Proofs.YtcjmodomfilagaaGreat.E
open Go
noncomputable def e5:Env:=⟨Tryz.prog,[3,4],63,[(5,16),(16,0)]⟩
noncomputable def c5:C:=
 .seq (.reg [zJ 2]) (.seq (.seq (.reg [z3 7 0,zG 8 7,zq 9 8 1048576]) (.cond (.tmp 9) (.seq (.reg [zY 2]) .ret) .skip)) (.seq (.reg [z3 10 0,zM 11 6 10,qW 3 0 0 0 0 0 0 0 0 0 0 0 0 0 0 0 0,z8 13 3 11]) (.seq (.reg [zA 12 13 3,zM 13 21 12,qW 4 0 0 0 0 0 0 0 0 0 0 0 0 0 0 0 0,z8 13 4 13]) (.seq (.seq (.dreg 16 [z4 14 1 4,z5 15 1 14,zA 16 13 3,qK 17 22 16,zz 18 15 17,z3 19 18,zF 20 19 5 4,zK 21
 19 1 20,zo 22 19 21 0,zN 23 19 22,z3 24 23,zF 25 24 3 4,zK 26 24 1 25,q0 27 24 26,zo 28 24 27 16,zN 29 24 28]) (.cond (.tmp 29) (.seq (.reg [zJ 2]) .ret) .skip)) (.seq (.reg [zA 30 13 4,zM 31 8 30,z3 5 31]) (.seq (.seq (.reg [z3 32 5,zG 33 32,z4 34 4 4,z5 35 1 34,zG 36 35,zz 37 33 36]) (.cond (.tmp 37) (.seq (.reg [zJ 2]) .ret) .skip)) (.seq (.seq (.reg [z4 38 4 4,z5 39 1 38,zG 40 39,zD 41
 0]) (.block 0 (.loop (.seq (.reg [zQ 42 41 40]) (.seq (.cond (.tmp 42) .skip (.exit 0)) (.seq (.block 1 (.seq (.reg [z3 43 41,z3 6 43]) (.seq (.reg [z4 44 4 4,z5 45 1 44,z3 46 6,z9 47 8 45 46,z4 48 0 47,z5 49 1 48,zj 50 49 1,z3 51 50,zP 52 51 5,zP 53 51 6,qD 54 51 1 52 53,zK 55 51 1 54,zf 56 51 55,zN 57 51 56]) (.cond (.tmp 57) (.seq (.reg [zJ 2]) .ret) .skip)))) (.reg [zO 58 41 1,z3 41
 58]))))))) (.seq (.hreg [3,4] [zA 59 13 4,zA 60 13 3] (.alt (zM 61 23 60) (.alt (zU 62 11 59 61) (.alf (z3 2 62) (.done) (.none)) (.none)) (.none))) .ret))))))))
theorem t5:Tryz.f5.body.bind (trC e5)=some c5:=by kernel_rfl
theorem r5:Tryz.f5.results.toList.mapM (trR Tryz.prog)=some [.tmp 2]:=by kernel_rfl
theorem fn5{args:List Value}{M:Mem}{post:Value→Mem→Prop}(hl:args.length≤63)(h:VC e5 c5 (fnQ [.tmp 2] post) (initS args 63) M):Fn Tryz.prog 5 args M post:=
 Fn.of' (E:=e5) Tryz.func5 t5 rfl r5 mixed hl h
end Go.Proofs.YtcjmodomfilagaaGreat.E
namespace Go.Proofs.YtcjmodomfilagaaGreat.E
open Go
open Classical
theorem v_h0{E:Env}{Q:X→St→List Asr→Prop}{S:St}{Gs:List Asr}{bs:List Nat}{zs:List I}{t:T}(h:LA E.P zs (fun S' _=>TA E.P bs t (Q .nrm) S' Gs []) (jb bs S) []):VA E (.hreg bs zs t) Q S Gs:=v_hreg (Gs:=Gs) [] ⟨fun m hm=>by rw[List.append_nil];exact hm⟩ h
theorem fnClean_q{ca:Option Addr}{cn cc:Nat}{m:Mem}(hc:Cod m ca cn):Qt Tryz.prog 5 [.slice ca cn cc] m (.bool true):=by
 have hbd:=hc.bd
 refine qt_of (fnA_of (fun h=>fn5 (by simp) h) ?_)
 by_cases hn:(cn:Int)>1048576
 ·repeat' (first
   |(refine k_L ?_;refine a_p rfl ?_)
   |refine a_n ?_
   |(refine k_V ?_;first|refine v_rv ?_|refine v_seq ?_|refine v_reg ?_|(refine v_cd rfl (fun hb=>?_) (fun hb=>?_)<;>try(exfalso;omega)))
   |refine s_r ?_)
  exact fa_q (by simp) (fun _ _=>rfl) rfl
 repeat' (first
  |(refine k_L ?_;first|refine a_p rfl ?_|(refine k_st ?_;refine g_sw rfl rfl rfl rfl (Nat.le_of_ble_eq_true rfl) ?_)|(refine k_al ?_;refine a_al ?_)|(refine g_c rfl (given_a hc) (fun v As' hq=>?_);obtain⟨h,rfl,hS,rfl⟩:=hq;refine l_fix (fun m1 hm1=>?_);have hh:Has m1 h.body:=sep_has hm1 pmt;have l1:m.le m1:=ro_of hm1 pmt)|(refine g_c rfl (implRound_a (x:=h) hh) (fun v As' hq=>?_);obtain⟨_,⟨r,rfl,hr,rfl⟩,rfl⟩:=hq;rw[roundA_s hS]at hr;refine l_fix (fun m2 hm2=>?_);have hrb:Has m2 r.body:=sep_has hm2 pmt;have l2:m1.le m2:=ro_of hm2 pmt;obtain⟨cl1,cl2⟩:=clean hS))
  |refine a_n ?_
  |(refine k_V ?_;first|refine v_seq ?_|refine v_reg ?_|refine v_dreg ?_|refine v_skip ?_|(refine v_cd rfl (fun hb=>?_) (fun hb=>?_)<;>try(exfalso;omega)))
  |refine sk_zero ?_
  |refine sk_succ ?_
  |refine wk_nil ?_
  |refine wk_cons ?_)
 obtain⟨rS,rp⟩:=roundH_ok hS
 have hrs:Sound r.H:=by rw[hr];exact rS
 have r16:r.regs.length=16:=hrs.r1.regs
 have e1:r.hdr.used=h.H.live:=by rw[live_s hS,←cl2,←hr];rfl
 have e2:r.hdr.phase=0:=by have:r.hdr.phase=r.H.phase:=rfl;rw[this,hr];exact rp
 have e3:r.hdr.nr=16:=r16
 have e4:r.hdr.nc=r.xs.length:=rfl
 have rl:=r.len
 have hh2:=hh.le l2
 repeat' (first
  |(refine k_L ?_;first|refine a_p rfl ?_|(refine k_g ?_;first|refine a_gy rfl rfl ?_|(refine a_gne rfl (fun hb=>?_) (fun hb=>?_)<;>try(exfalso;omega)))|(refine k_q ?_;refine a_q rfl (fun m hm=>specLive_q (x:=h) (hh2.le (ro_of hm pmt))) ?_))
  |refine a_n ?_
  |(refine k_V ?_;first|refine v_seq ?_|refine v_reg ?_|refine v_skip ?_|(refine v_cn rfl (fun hb=>?_) (fun hb=>?_)<;>try(exfalso;omega))))
 have el:(reachL r.H).length=r.xs.length:=by rw[reachL_len,rl]
 have rcA:FnA Tryz.prog 8 [r.v] [ro m2] (fun v As=>∃sd:D,v=.slice sd.a (reachL r.H).length sd.cap∧As=[slA 1 bv sd (reachL r.H),ro m2]):=(implReach_a hrb).mono fun v As ⟨E,⟨sd,h1,h2⟩,h3⟩=>⟨sd,by rw[h1,reach_s hrs],by rw[h3,h2,reach_s hrs];rfl⟩
 refine g_c rfl rcA (fun v As' hq=>?_)
 obtain⟨sd,rfl,rfl⟩:=hq
 obtain⟨x1,x2,x3⟩:=has_1 hrb
 have hbx:r.xs.length≤140737488355328:=by obtain⟨a,l,s⟩:=x2;exact(kn_h kb_cl).out a s
 repeat' (first
  |(refine k_L ?_;refine a_p rfl ?_)
  |refine a_n ?_
  |(refine k_V ?_;first|refine v_seq ?_|refine v_reg ?_|refine v_skip ?_|(refine v_cn rfl (fun hb=>?_) (fun hb=>?_)<;>try(exfalso;omega)))
  |refine s_n ?_)
 refine g_range r.xs.length (fun _:Unit=>[(3,.box h.row),(4,.box r.row),(5,.v (.slice sd.a (reachL r.H).length sd.cap))]) (fun _=>[slA 1 bv sd (reachL r.H),ro m2]) (fun _ _=>True) () trivial (fun i _ hi _=>?_) (fun _ _=>?_)
 ·obtain⟨u,gu,gc⟩:=HX.at (x:=r) (i:=i) (by omega)
  have gc':h.H.roundH.cells[i]?=some u.c:=by rw[←hr];exact gc
  obtain⟨st,rc⟩:=cl1 i u.c gc'
  have gs:(reachL r.H)[i]?=some true:=(reachL_iff (by omega)).2 (by rw[hr];exact rc)
  repeat' (first
   |(refine k_L ?_;first|refine a_p rfl ?_|(refine k_g ?_;first|refine a_gy rfl rfl ?_|(refine a_gne rfl (fun hb=>?_) (fun hb=>?_)<;>try(exfalso;omega)))|(refine k_l ?_;first|refine a_l rfl (by exact rd_t (rd_h (rd_ro x2 (rd_h (rd_cl (j:=0) gu rfl))))) ?_|refine a_l rfl (by exact rd_h (rd_sl (j:=0) (fun _=>rfl) gs rfl)) ?_)|(refine k_i ?_;refine g_i rfl rfl ?_)|(refine a_i (e:=r.cd) rfl rfl (kn_t (kn_h (kn_ro x2 (kn_h (kn_cl gu))))) (by omega) ?_))
   |refine a_n ?_
   |(refine k_V ?_;first|refine v_seq ?_|refine v_reg ?_|refine v_skip ?_|refine v_cf rfl ?_))
  all_goals exact r_nx () trivial
 ·repeat' (first
   |(refine k_L ?_;refine a_p rfl ?_)
   |refine a_n ?_
   |(refine k_V ?_;first|refine v_seq ?_|refine v_h0 ?_)
   |refine t_a ?_ t_n)
  refine g_c rfl (specRound_a (x:=h) hh2) (fun v As' hq=>?_)
  obtain⟨_,⟨y,rfl,hy,rfl⟩,rfl⟩:=hq
  rw[roundA_s hS]at hy
  repeat' (first
   |(refine k_L ?_;first|refine a_p rfl ?_|(refine k_c ?_;refine a_cq rfl (fun m hm=>wHeap_t (x:=r) (y:=y) (hrb.le (ro_of hm pmt)) (sep_has hm pmt) (by rw[hr,hy])) ?_))
   |refine a_n ?_
   |(refine k_V ?_;refine v_ret ?_)
   |refine t_a ?_ t_n
   |refine t_f ?_ t_n
   |refine t_d ?_
   |refine kl_1 rfl ?_
   |refine kl_0 ?_)
  exact fa_r (As':=[ro m]) (fun _ _=>rfl) ((Pm.ent (As1:=[ro m2]) pmt).trans (ent_ro (Mem.le_trans l1 l2))) ⟨rfl,rfl⟩
end Go.Proofs.YtcjmodomfilagaaGreat.E
namespace Go.Proofs.YtcjmodomfilagaaGreat.E
open Go Go.ChangeShapes Go.WideShapes Go.ChangeAt Go.RowKit
theorem liftedClean(os:Os)(started:os.Started)(H:Type)(enc:TypeId×Value→H):
 ReturnsInHanded {} Tryz.checked os 5 .any (Rows.fnCleanSpec.pre6 enc Tryz.prog Tryz.f5 Rows.fnCleanRow.domain false) (Rows.fnCleanSpec.post enc Tryz.prog Tryz.f5 false true false false):=by
 refine returnsInHanded_of_change_sized (C:=Tryz.checked) ownknob started (by kernel_rfl) Tryz.func5
  (ChangeSpec.witness6 (enc:=enc) (C:=Tryz.checked) false ⟨#[],#[.slice none 0 0],[]⟩ 8 (by kernel_rfl) (by kernel_rfl) (by kernel_rfl) (by kernel_rfl)) ?_
 intro W base args ds gs before hval0 hW hcnd hsz0 _
 have hval:∀(j:Nat) t v,Tryz.f5.params[j]?=some t→args[j]?=some v→Value.okWide Tryz.prog W .any base t v:=hval0
 have hW':=hW
 obtain⟨p,q,hA0,hV,rfl,hfz,hnd⟩:=hW
 have hA:DataW.TrodAll enc Tryz.prog W 0 (fun _=>true) true [22] args.toList ds p:=hA0
 obtain⟨v0,d0,rfl,rfl,h0⟩:=trodAll_one hA
 obtain⟨rfl,rfl⟩:=trodVars_none hV
 obtain⟨sa,n,cap,rfl⟩:=okWide_slice und_bytes (hval 0 22 v0 rfl rfl)
 clear hA0 hval0 hsz0
 have h0k:=h0
 obtain⟨fuel,h0'⟩:=h0
 have hc:=open_bytes h0'
 have hlt:∀x∈p,x.block<W.heap.size:=fun x hx=>by simpa using hW'.lt x (by simp[hx])
 have hq:Fn Tryz.prog 5 [.slice sa n cap] (memOf W) (fun v M'=>v=.bool true∧(memOf W).le M'):=(fnClean_q hc).mono fun v M' ⟨h1,h2⟩=>⟨h1,by rw[h2];exact Mem.le_refl _⟩
 refine(row_of hq).mono fun e W' ⟨he,bel⟩=>?_
 subst he
 exact⟨_,rfl,_,_,_,[],_,[],hW',trodAll_mk1 (shut_bool und_bool _),trodAll_mk1 (Below.trod laid (by kernel_rfl) (of_decide_eq_true (by kernel_rfl)) h0k bel hlt),rfl,bel.frame _,fun h=>by cases h⟩
end Go.Proofs.YtcjmodomfilagaaGreat.E
namespace Go.Proofs.YtcjmodomfilagaaGreat
open Go.ChangeShapes Go.WideShapes Go.ChangeAt Go.RowKit
theorem fnClean_holds:Rows.FnCleanSaid:=
 OpenClaim.holds_of_wide 5 Tryz.f5 rfl rfl rfl rfl rfl rfl rfl ⟨rfl,rfl,rfl,rfl,rfl⟩ rfl rfl rfl rfl rfl (by kernel_rfl) Tryz.func5 jfClean
  (of_decide_eq_true (by kernel_rfl)) (by unfold Func.isWrapper;first|(rw[if_pos (by decide+kernel)];kernel_rfl)|(rw[if_neg (by decide+kernel)];exact⟨rfl,rfl⟩))
  (fun os started H enc _=>E.liftedClean os started H enc)
end Go.Proofs.YtcjmodomfilagaaGreat
