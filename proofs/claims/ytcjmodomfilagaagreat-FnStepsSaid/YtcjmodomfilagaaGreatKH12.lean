/- A part of the proof. Conditions: none. -/
import Derived.Test.YtcjmodomfilagaaGreatKH11
set_option linter.unusedVariables false
set_option linter.unusedSimpArgs false
namespace Go.Proofs.YtcjmodomfilagaaGreat.E
open Go
open Classical
def Heap.aw(H:Heap)(w:Word):Word:=if w.kind=2 then⟨2,0,(H.getC (H.lead w).at_).born⟩else w
def Heap.ap(H:Heap)(p:Pair):Pair:=⟨H.aw p.key,H.aw p.val⟩
structure Nd where
 kind:Int
 weak:Int
 last:Int
 pairs:List Pair
def Node(H:Heap)(b:Int)(n:Nd):Prop:=∃(i:Nat) (c:Cell),H.cells[i]?=some c∧c.state=1∧¬Doomed H i∧c.born=b∧n=⟨c.kind,c.weak,c.last,c.pairs.map H.ap⟩
structure Iso (H K:Heap):Prop where
 regs:K.regs.map K.aw=H.regs.map H.aw
 node:∀b n,Node K b n→Node H b n
 room:K.room=H.room
 born:K.born=H.born
 per:K.per=H.per
 start:K.start=H.start
 forced:K.forced=H.forced
theorem Iso.refl(H:Heap):Iso H H:=⟨rfl,fun _ _ h=>h,rfl,rfl,rfl,rfl,rfl⟩
theorem Iso.trans{H K L:Heap}(h:Iso H K)(k:Iso K L):Iso H L:=
 ⟨k.regs.trans h.regs,fun b n x=>h.node b n (k.node b n x),k.room.trans h.room,k.born.trans h.born,k.per.trans h.per,k.start.trans h.start,k.forced.trans h.forced⟩
theorem node_one{H:Heap}(h:R2 H){b:Int}{n m:Nd}(hn:Node H b n)(hm:Node H b m):n=m:=by
 obtain⟨i,c,h1,h2,_,h3,rfl⟩:=hn
 obtain⟨j,d,k1,k2,_,k3,rfl⟩:=hm
 have:i=j:=by
  rcases Nat.lt_trichotomy i j with x|x|x
  ·exact absurd (h3.trans k3.symm) (h.born i j c d h1 k1 x h2 k2)
  ·exact x
  ·exact absurd (k3.trans h3.symm) (h.born j i d c k1 h1 x k2 h2)
 subst this
 rw[h1]at k1
 cases k1;rfl
theorem aw_used{H:Heap}{w:Word}(h:w.kind=2→(H.getC w.at_).state=1):H.aw w=if w.kind=2 then⟨2,0,(H.getC w.at_).born⟩else w:=by
 unfold Heap.aw
 split
 ·rename_i hk
  unfold Heap.lead
  rw[if_neg (fun e=>by have:=h hk;omega)]
 ·rfl
structure Hue (H K:Heap):Prop where
 len:K.cells.length=H.cells.length
 cell:∀j:Int,K.getC j=(H.getC j).col (K.getC j).color
 regs:K.regs=H.regs
 room:K.room=H.room
 born:K.born=H.born
 per:K.per=H.per
 start:K.start=H.start
 forced:K.forced=H.forced
theorem Hue.trans{H K L:Heap}(h:Hue H K)(k:Hue K L):Hue H L:=
 ⟨k.len.trans h.len,fun j=>by rw[k.cell j,h.cell j];rfl,k.regs.trans h.regs,k.room.trans h.room,k.born.trans h.born,k.per.trans h.per,k.start.trans h.start,k.forced.trans h.forced⟩
theorem hue_same{H K:Heap}(e:K.cells=H.cells)(e1:K.regs=H.regs)(e2:K.room=H.room)(e3:K.born=H.born)(e4:K.per=H.per)(e5:K.start=H.start)(e6:K.forced=H.forced):Hue H K:=
 ⟨by rw[e],fun j=>by rw[getC_L,getC_L,e];rfl,e1,e2,e3,e4,e5,e6⟩
theorem hue_set{H K:Heap}{i:Nat}{k:Int}(hi:i<H.cells.length)(e:K.cells=H.cells.set i ((H.getC i).col k))(e1:K.regs=H.regs)(e2:K.room=H.room)(e3:K.born=H.born)(e4:K.per=H.per)(e5:K.start=H.start)(e6:K.forced=H.forced):Hue H K:=
 ⟨by rw[e];simp,fun j=>by
   rw[getC_L,e,getL_set hi]
   split
   ·rename_i ej
    have:H.getC j=H.getC i:=by rw[getC_L,getC_L];unfold getL;rw[ej];rfl
    rw[this];rfl
   ·rfl,e1,e2,e3,e4,e5,e6⟩
theorem Hue.aw{H K:Heap}(h:Hue H K):K.aw=H.aw:=by
 funext w
 have hc:∀j:Int,(K.getC j).state=(H.getC j).state∧(K.getC j).to=(H.getC j).to∧(K.getC j).born=(H.getC j).born:=fun j=>by rw[h.cell j];exact⟨rfl,rfl,rfl⟩
 have hl:K.lead w=H.lead w:=by unfold Heap.lead;rw[(hc _).1,(hc _).2.1]
 unfold Heap.aw
 rw[hl,(hc _).2.2]
theorem at_get{H:Heap}{i:Nat}{c:Cell}(h:H.cells[i]?=some c):H.getC i=c∧i<H.cells.length:=⟨getC_nat h,(List.getElem?_eq_some_iff.1 h).1⟩
theorem get_at{H:Heap}{i:Nat}(h:i<H.cells.length):H.cells[i]?=some (H.getC i):=by
 have:=getL_some (cs:=H.cells) (j:=(i:Int)) (by omega) (by omega)
 rw[show((i:Int)).toNat=i by omega,←getC_L]at this
 exact this
theorem Hue.iso{H K:Heap}(h:Hue H K)(hd:∀j:Int,Doomed H j→Doomed K j):Iso H K:=by
 refine⟨by rw[h.aw,h.regs],fun b n hn=>?_,h.room,h.born,h.per,h.start,h.forced⟩
 obtain⟨i,c,h1,h2,h3,h4,h5⟩:=hn
 obtain⟨e1,e2⟩:=at_get h1
 have e3:=h.cell i
 rw[e1]at e3
 refine⟨i,H.getC i,get_at (by rw[←h.len];exact e2),?_,fun x=>h3 (hd _ x),?_,?_⟩
 ·rw[e3]at h2;exact h2
 ·rw[e3]at h4;exact h4
 ·rw[h5,e3]
  have:K.ap=H.ap:=by funext p;unfold Heap.ap;rw[h.aw]
  rw[this];rfl
theorem Hue.refl(H:Heap):Hue H H:=hue_same rfl rfl rfl rfl rfl rfl rfl
theorem hue_shadeH{H:Heap}{i:Nat}(hi:i<H.cells.length):Hue H (H.shadeH i):=by
 unfold Heap.shadeH
 split
 ·exact hue_set hi rfl rfl rfl rfl rfl rfl rfl
 ·exact Hue.refl H
theorem hue_shadeW{H:Heap}{w:Word}(hf:Formed H w):Hue H (H.shadeW w):=by
 unfold Heap.shadeW
 split
 ·rename_i hk
  have:=hf.at hk
  exact hue_shadeH (by omega)
 ·exact Hue.refl H
theorem hue_shadeL:∀(ws:List Word) (H:Heap),(∀w,w∈ws→Formed H w)→Hue H (H.shadeL ws)
 |[],H,_=>Hue.refl H
 |w::r,H,h=>by
  have a:=hue_shadeW (h w (by simp))
  exact a.trans (hue_shadeL r (H.shadeW w) (fun v hv=>formed_len a.len (h v (by simp[hv]))))
theorem iso_direct{H K:Heap}(hr:K.regs=H.regs)(hg:∀w,w∈H.regs→w.kind=2→(H.getC w.at_).state=1∧K.getC w.at_=H.getC w.at_)
 (hn:∀(i:Nat) c,K.cells[i]?=some c→c.state=1→¬Doomed K i→H.cells[i]?=some (c.col (H.getC i).color)∧¬Doomed H i∧∀p,p∈c.pairs→∀w,(w=p.key∨w=p.val)→w.kind=2→(H.getC w.at_).state=1∧(K.getC w.at_).state=1∧(K.getC w.at_).born=(H.getC w.at_).born)
 (e2:K.room=H.room) (e3:K.born=H.born) (e4:K.per=H.per) (e5:K.start=H.start) (e6:K.forced=H.forced):Iso H K:=by
 refine⟨?_,fun b n hx=>?_,e2,e3,e4,e5,e6⟩
 ·rw[hr]
  refine List.map_congr_left fun w hw=>?_
  rw[aw_used (fun hk=>(hg w hw hk).1),aw_used (fun hk=>by rw[(hg w hw hk).2];exact(hg w hw hk).1)]
  split
  ·rename_i hk;rw[(hg w hw hk).2]
  ·rfl
 ·obtain⟨i,c,h1,h2,h3,h4,h5⟩:=hx
  obtain⟨a,b',g⟩:=hn i c h1 h2 h3
  refine⟨i,_,a,h2,b',h4,?_⟩
  rw[h5]
  show(⟨c.kind,c.weak,c.last,_⟩:Nd)=⟨c.kind,c.weak,c.last,c.pairs.map H.ap⟩
  congr 1
  refine List.map_congr_left fun p hp=>?_
  have key:∀w,(w=p.key∨w=p.val)→K.aw w=H.aw w:=fun w hw=>by
   rw[aw_used (fun hk=>(g p hp w hw hk).1),aw_used (fun hk=>(g p hp w hw hk).2.1)]
   split
   ·rename_i hk;rw[(g p hp w hw hk).2.2]
   ·rfl
  unfold Heap.ap
  rw[key _ (.inl rfl),key _ (.inr rfl)]
theorem lead_id{H:Heap}{w:Word}(h:w.kind=2→(H.getC w.at_).state=1):H.lead w=w:=by
 unfold Heap.lead
 rw[if_neg (fun e=>by have:=h e.1;omega)]
theorem lead_lead{H:Heap}{w:Word}(h:w.kind=2→(H.getC (H.lead w).at_).state=1):H.aw (H.lead w)=H.aw w:=by
 have e:H.lead (H.lead w)=H.lead w:=lead_id (fun hk=>h (lead_kind.1 hk))
 unfold Heap.aw
 rw[e]
 by_cases hk:w.kind=2
 ·rw[if_pos hk,if_pos (lead_kind.2 hk)]
 ·rw[if_neg hk,if_neg (fun x=>hk (lead_kind.1 x)),lead_id (fun x=>absurd x hk)]
theorem enter_iso{H:Heap}{p:Int}(hd:∀j:Int,¬Doomed H j):Iso H (H.enterH p):=(hue_same rfl rfl rfl rfl rfl rfl rfl:Hue H (H.enterH p)).iso fun j h=>absurd h (hd j)
theorem roots_iso{H:Heap}(h:Sound H)(hp:H.phase=1):Iso H H.rootsU:=by
 have nd:∀j:Int,¬Doomed H j:=fun j=>not_doom (by omega) j
 have h0:=h.r1.hand
 unfold Heap.rootsU
 split
 ·exact enter_iso nd
 ·refine Hue.iso ?_ (fun j h=>absurd h (nd j))
  split
  ·exact(hue_shadeH (by omega)).trans (hue_same rfl rfl rfl rfl rfl rfl rfl)
  ·exact hue_same rfl rfl rfl rfl rfl rfl rfl
theorem mark_iso{H:Heap}(h:Sound H)(hp:H.phase=2):Iso H H.markU:=by
 have nd:∀j:Int,¬Doomed H j:=fun j=>not_doom (by omega) j
 unfold Heap.markU
 cases hg:H.gray with
 |nil=>
  simp only
  split
  ·exact(hue_shadeL H.regs H (fun w hw=>(reg_used h.r4 hw).1)).iso (fun j h=>absurd h (nd j))
  ·exact enter_iso nd
 |cons g r=>
  simp only
  obtain⟨g1,g2,g3⟩:=h.r5.mark (.inr hp)
  obtain⟨b0,b1,b2,b3⟩:=g2 g (by rw[hg];simp)
  cases hs:(H.getC g).pairs[H.sub.toNat]? with
  |none=>
   simp only
   refine Hue.iso (hue_set (i:=g.toNat) (k:=2) (by omega) ?_ rfl rfl rfl rfl rfl rfl) (fun j h=>absurd h (nd j))
   rw[show((g.toNat:Nat):Int)=g by omega];rfl
  |some p=>
   simp only
   obtain⟨⟨k1,k2⟩,v1,v2⟩:=markP h hp hg hs
   have a:=hue_shadeW k1
   have b:=hue_shadeW (H:=H.shadeW p.key) (w:=p.val) (formed_len a.len v1)
   exact Hue.iso (Hue.trans (a.trans b) (hue_same rfl rfl rfl rfl rfl rfl rfl)) (fun j h=>absurd h (nd j))
theorem sweep_iso{H:Heap}(h:Sound H)(hp:H.phase=3):Iso H H.sweepU:=by
 have h0:=h.r1.hand
 unfold Heap.sweepU
 split
 ·exact enter_iso fun j hd=>by have:=doomed_lt h.r1 hd;have:=hd.2.2.2;omega
 rename_i hh
 have hc:=getL_some (cs:=H.cells) h0.1 (by omega)
 rw[←getC_L]at hc
 have hlt:=(List.getElem?_eq_some_iff.1 hc).1
 have eh:((H.hand.toNat:Nat):Int)=H.hand:=by omega
 split
 ·rename_i hc0
  have hdh:Doomed H H.hand:=⟨hp,hc0.1,hc0.2,by omega⟩
  generalize hK:({H with used:=H.used-(1+(H.getC H.hand).pairs.length),cells:=H.cells.set H.hand.toNat Cell.zero,hand:=H.hand+1}:Heap)=K
  have gC:∀j:Int,0≤j→j≠H.hand→K.getC j=H.getC j:=fun j j0 hj=>by
   rw[getC_L,getC_L,←hK,getL_set hlt,if_neg (by omega)]
  refine iso_direct (by rw[←hK]) (fun w hw hk=>?_) (fun i c hc1 hs1 hd=>?_) (by rw[←hK]) (by rw[←hK]) (by rw[←hK]) (by rw[←hK]) (by rw[←hK])
  ·obtain⟨a,b⟩:=reg_used h.r4 hw
   have hat:=a.at hk
   obtain⟨b1,b2⟩:=b hk
   exact⟨b1,gC _ hat.1 (fun e=>b2 (by rw[e];exact hdh))⟩
  ·have hc2:(H.cells.set H.hand.toNat Cell.zero)[i]?=some c:=by rw[←hK]at hc1;exact hc1
   rcases set_gt hc2 with⟨e,rfl,_⟩|⟨e,hc3⟩
   ·simp[Cell.zero]at hs1
   ·have hgi:=getC_nat hc3
    have hnd:¬Doomed H i:=fun hd'=>hd (by
     refine⟨by rw[←hK];exact hp,?_,?_,?_⟩
     ·rw[gC _ (by omega) (by omega)];exact hd'.2.1
     ·rw[gC _ (by omega) (by omega)];exact hd'.2.2.1
     ·have:=hd'.2.2.2
      rw[←hK]
      show H.hand+1≤(i:Int);omega)
    refine⟨by rw[hgi];exact hc3,hnd,fun p hp' w hw hk=>?_⟩
    obtain⟨k,hk'⟩:=List.getElem?_of_mem hp'
    have m:=pair_used h.r4 hc3 hk' (not_mend (by omega) _ _) hnd hw
    obtain⟨b1,b2⟩:=m.2 hk
    have e2:=gC w.at_ (m.1.at hk).1 (fun e=>b2 (by rw[e];exact hdh))
    rw[e2]
    exact⟨b1,b1,rfl⟩
 ·rename_i hc0
  refine Hue.iso (hue_set (i:=H.hand.toNat) (k:=0) hlt (by rw[eh]) rfl rfl rfl rfl rfl rfl) (fun j hd=>?_)
  have hj:j≠H.hand:=fun e=>hc0 (by rw[←e];exact⟨hd.2.1,hd.2.2.1⟩)
  have hj0:=doomed_lt h.r1 hd
  have gC:Heap.getC {H with cells:=H.cells.set H.hand.toNat ((H.getC H.hand).col 0),hand:=H.hand+1} j=H.getC j:=by
   rw[getC_L,getL_set hlt,if_neg (by omega)];rfl
  refine⟨hd.1,by rw[gC];exact hd.2.1,by rw[gC];exact hd.2.2.1,?_⟩
  have:=hd.2.2.2
  show H.hand+1≤j;omega
theorem moved_get{H:Heap}{f u:Int}(hf:0≤f∧f<u)(hu:u<H.cells.length)(j:Int):(H.moved f u).getC j=if j.toNat=u.toNat then Cell.gone f else if j.toNat=f.toNat then H.getC u else H.getC j:=by
 have e1:(H.moved f u).cells=(H.cells.set f.toNat (H.getC u)).set u.toNat (Cell.gone f):=rfl
 rw[getC_L,getC_L,e1,getL_set (by simp;omega),getL_set (by omega)];rfl
theorem moved_aw{H:Heap}{f u:Int}(h:Sound H)(hp:H.phase=4)(hf0:0≤f∧f<u)(hu0:u<H.cells.length)(sf:(H.getC f).state=0)(su:(H.getC u).state=1):∀w,Formed H w→(∃m,LeadsWell H w m)→(H.moved f u).aw w=H.aw w:=fun w hf ⟨m,hl⟩=>by
 have gC:=fun j=>moved_get hf0 hu0 j
 generalize H.moved f u=K at gC⊢
 by_cases hk:w.kind=2
 ·have hat:=hf.at hk
  have hx:=getL_some (cs:=H.cells) hat.1 hat.2
  rw[←getC_L]at hx
  unfold Heap.aw
  rw[if_pos hk,if_pos hk]
  congr 1
  rcases hl hk with x|x
  ·have e:H.lead w=w:=by unfold Heap.lead;rw[if_neg (fun e=>by omega)]
   rw[e]
   by_cases hu:w.at_=u
   ·have e2:K.lead w=⟨2,0,f⟩:=by
     have e3:K.getC w.at_=Cell.gone f:=by rw[gC,if_pos (by omega)]
     unfold Heap.lead
     rw[e3,if_pos ⟨hk,rfl⟩];rfl
    rw[e2]
    show(K.getC f).born=_
    rw[gC f,if_neg (by omega),if_pos rfl,hu]
   ·have hf':w.at_≠f:=fun e=>by rw[e]at x;omega
    have e3:K.getC w.at_=H.getC w.at_:=by rw[gC,if_neg (by omega),if_neg (by omega)]
    have e2:K.lead w=w:=by unfold Heap.lead;rw[if_neg (fun e=>by rw[e3]at e;omega)]
    rw[e2,e3]
  ·rcases h.r2.each _ _ hx with y|y|y
   ·have:=y.1;omega
   ·obtain⟨y1,y2,y3,y4,y5,y6⟩:=y
    have ht1:(H.getC w.at_).to≠u:=fun e=>by
     have:=y6 hp f hf0.1 (by omega)
     exact this sf
    have ht2:(H.getC w.at_).to≠f:=fun e=>by rw[e]at y5;omega
    have hu:w.at_≠u:=fun e=>by rw[e]at y1;omega
    have hf':w.at_≠f:=fun e=>by rw[e]at y1;omega
    have e3:K.getC w.at_=H.getC w.at_:=by rw[gC,if_neg (by omega),if_neg (by omega)]
    have e4:H.lead w=⟨2,0,(H.getC w.at_).to⟩:=by unfold Heap.lead;rw[if_pos ⟨hk,y1⟩]
    have e2:K.lead w=⟨2,0,(H.getC w.at_).to⟩:=by unfold Heap.lead;rw[e3,if_pos ⟨hk,y1⟩]
    rw[e2,e4]
    show(K.getC (H.getC w.at_).to).born=(H.getC (H.getC w.at_).to).born
    rw[gC,if_neg (by omega),if_neg (by omega)]
   ·have:=y.1;omega
 ·unfold Heap.aw;rw[if_neg hk,if_neg hk]
theorem move_iso{H:Heap}(h:Sound H)(hp:H.phase=4):Iso H H.moveU:=by
 have nd:∀j:Int,¬Doomed H j:=fun j=>not_doom (by omega) j
 unfold Heap.moveU
 obtain⟨a1,a2,a3,a4⟩:=frG_ok H H.cells.length
 obtain⟨b1,b2,b3,b4⟩:=luG_ok H H.cells.length
 split
 ·exact enter_iso nd
 rename_i hlt
 have sf:=(a3 (by omega)).2
 have su:=b3 (by omega)
 generalize frG H H.cells.length=f at*
 generalize luG H H.cells.length=u at*
 have hcu:=getL_some (cs:=H.cells) (j:=u) (by omega) (by omega)
 rw[←getC_L]at hcu
 generalize hK:H.moved f u=K
 have e1:K.cells=(H.cells.set f.toNat (H.getC u)).set u.toNat (Cell.gone f):=by rw[←hK];rfl
 have gC:∀j:Int,K.getC j=if j.toNat=u.toNat then Cell.gone f else if j.toNat=f.toNat then H.getC u else H.getC j:=fun j=>by
  rw[getC_L,getC_L,e1,getL_set (by simp;omega),getL_set (by omega)];rfl
 have key:∀w,Formed H w→(∃m,LeadsWell H w m)→K.aw w=H.aw w:=by rw[←hK];exact moved_aw h hp ⟨a1,by omega⟩ b2 sf su
 refine⟨?_,fun b n hn=>?_,by rw[←hK];rfl,by rw[←hK];rfl,by rw[←hK];rfl,by rw[←hK];rfl,by rw[←hK];rfl⟩
 ·have e4:K.regs=H.regs.map fun w=>w.redir u f:=by rw[←hK];rfl
  rw[e4,List.map_map]
  refine List.map_congr_left fun w hw=>?_
  show K.aw (w.redir u f)=H.aw w
  obtain⟨r1,r2⟩:=reg_used h.r4 hw
  unfold Word.redir
  split
  ·rename_i e
   have x:=(r2 e.1).1
   rw[aw_used (H:=H) (fun hk=>(r2 hk).1),if_pos e.1,aw_used (H:=K) (fun _=>?_),if_pos (by exact e.1)]
   ·show(⟨2,0,(K.getC f).born⟩:Word)=_
    rw[gC f,if_neg (by omega),if_pos rfl,e.2]
   ·show(K.getC f).state=1
    rw[gC f,if_neg (by omega),if_pos rfl];exact su
  ·exact key w r1 ⟨False,fun hk=>.inl (r2 hk)⟩
 ·obtain⟨i,c,h1,h2,h3,h4,h5⟩:=hn
  have ob:∃j:Nat,H.cells[j]?=some c:=by
   rw[e1]at h1
   rcases set_gt h1 with⟨_,rfl,_⟩|⟨_,h1⟩
   ·simp[Cell.gone]at h2
   ·rcases set_gt h1 with⟨_,rfl,_⟩|⟨_,h1⟩
    ·exact⟨_,hcu⟩
    ·exact⟨_,h1⟩
  obtain⟨j,hj⟩:=ob
  refine⟨j,c,hj,h2,nd j,h4,?_⟩
  rw[h5]
  congr 1
  refine List.map_congr_left fun p hp'=>?_
  obtain⟨k,hk'⟩:=List.getElem?_of_mem hp'
  obtain⟨p1,p2,p3⟩:=h.r4.pairs j c hj k p hk'
  obtain⟨q1,q2⟩:=p3 (nd j)
  unfold Heap.ap
  rw[key _ p1 ⟨_,q1⟩,key _ p2 ⟨_,q2⟩]
theorem mend_iso{H:Heap}(h:Sound H)(hp:H.phase=5):Iso H H.mendU:=by
 have nd:∀j:Int,¬Doomed H j:=fun j=>not_doom (by omega) j
 have h0:=h.r1.hand
 unfold Heap.mendU
 split
 ·exact enter_iso nd
 rename_i hh
 have hc:=getL_some (cs:=H.cells) h0.1 (by omega)
 rw[←getC_L]at hc
 have hlt:=(List.getElem?_eq_some_iff.1 hc).1
 cases hs:(H.getC H.hand).pairs[H.sub.toNat]? with
 |none=>simp only;exact(hue_same rfl rfl rfl rfl rfl rfl rfl:Hue H {H with hand:=H.hand+1,sub:=0}).iso fun j h=>absurd h (nd j)
 |some p=>
  simp only
  generalize hK:({H with cells:=H.cells.set H.hand.toNat {H.getC H.hand with pairs:=(H.getC H.hand).pairs.set H.sub.toNat ⟨H.lead p.key,H.lead p.val⟩},sub:=H.sub+1}:Heap)=K
  have e1:K.cells=H.cells.set H.hand.toNat {H.getC H.hand with pairs:=(H.getC H.hand).pairs.set H.sub.toNat ⟨H.lead p.key,H.lead p.val⟩}:=by rw[←hK]
  have gC:∀j:Int,(K.getC j).state=(H.getC j).state∧(K.getC j).to=(H.getC j).to∧(K.getC j).born=(H.getC j).born:=fun j=>by
   rw[getC_L,getC_L,e1,getL_set hlt]
   split
   ·rename_i e
    have:H.getC j=H.getC H.hand:=by rw[getC_L,getC_L];unfold getL;rw[e]
    show _=(H.getC j).state∧_=(H.getC j).to∧_=(H.getC j).born
    rw[this];exact⟨rfl,rfl,rfl⟩
   ·exact⟨rfl,rfl,rfl⟩
  have haw:K.aw=H.aw:=by
   funext w
   have hl:K.lead w=H.lead w:=by unfold Heap.lead;rw[(gC _).1,(gC _).2.1]
   unfold Heap.aw
   rw[hl,(gC _).2.2]
  have hap:K.ap=H.ap:=by funext p;unfold Heap.ap;rw[haw]
  refine⟨by rw[haw,←hK],fun b n hn=>?_,by rw[←hK],by rw[←hK],by rw[←hK],by rw[←hK],by rw[←hK]⟩
  obtain⟨i,c,h1,h2,h3,h4,h5⟩:=hn
  rw[e1]at h1
  rcases set_gt h1 with⟨rfl,rfl,_⟩|⟨_,h1⟩
  ·refine⟨_,_,hc,h2,nd _,h4,?_⟩
   rw[h5,hap]
   congr 1
   obtain⟨p1,p2,p3⟩:=h.r4.pairs _ _ hc _ p hs
   obtain⟨q1,q2⟩:=p3 (nd _)
   have l1:=lead_fm h.r2 p1 q1 nd
   have l2:=lead_fm h.r2 p2 q2 nd
   have:H.ap ⟨H.lead p.key,H.lead p.val⟩=H.ap p:=by
    unfold Heap.ap
    rw[lead_lead (fun hk=>l1.2 (lead_kind.2 hk)),lead_lead (fun hk=>l2.2 (lead_kind.2 hk))]
   show List.map H.ap ((H.getC H.hand).pairs.set H.sub.toNat ⟨H.lead p.key,H.lead p.val⟩)=_
   rw[List.map_set,this]
   refine List.ext_getElem? fun k=>?_
   rw[List.getElem?_set]
   split
   ·rename_i e
    subst e
    rw[List.getElem?_map,hs]
    rw[if_pos (by rw[List.length_map];exact(List.getElem?_eq_some_iff.1 hs).1)];rfl
   ·rfl
  ·refine⟨i,c,h1,h2,nd i,h4,?_⟩
   rw[h5,hap]
theorem close_iso{H:Heap}(h:Sound H)(hp:H.phase=6):Iso H H.closeU:=by
 have nd:∀j:Int,¬Doomed H j:=fun j=>not_doom (by omega) j
 have h0:=h.r1.hand
 obtain⟨l1,l2⟩:=lead1 h hp
 unfold Heap.closeU
 split
 ·exact(hue_same rfl rfl rfl rfl rfl rfl rfl:Hue H {H.enterH 0 with rounds:=if H.rounds<1000000000 then H.rounds+1 else H.rounds}).iso fun j h=>absurd h (nd j)
 rename_i hh
 have hc:=getL_some (cs:=H.cells) (j:=H.hand-1) (by omega) (by omega)
 rw[←getC_L]at hc
 have hlt:=(List.getElem?_eq_some_iff.1 hc).1
 have hl:H.closeA.length=H.cells.length:=by unfold Heap.closeA;split<;>simp
 have gA:∀(i:Nat) c,H.closeA[i]?=some c→c.state=1→H.cells[i]?=some c:=fun i c hi hs=>by
  unfold Heap.closeA at hi
  split at hi
  ·rcases set_gt hi with⟨_,rfl,_⟩|⟨_,hi⟩
   ·simp[Cell.zero]at hs
   ·exact hi
  ·exact hi
 have gB:∀j:Int,(H.getC j).state=1→getL H.closeA j=H.getC j:=fun j hj=>by
  unfold Heap.closeA
  split
  ·rename_i e
   rw[getL_set hlt]
   split
   ·rename_i ej
    have:H.getC j=H.getC (H.hand-1):=by rw[getC_L,getC_L];unfold getL;rw[ej]
    rw[this]at hj;omega
   ·rfl
  ·rfl
 generalize hX:(if H.hand=H.cells.length∧(getL H.closeA (H.hand-1)).state=0 then H.closeA.take (H.hand-1).toNat else H.closeA)=X
 have gX:∀(i:Nat) c,X[i]?=some c→H.closeA[i]?=some c:=fun i c hi=>by
  rw[←hX]at hi
  split at hi
  ·rw[List.getElem?_take]at hi
   split at hi
   ·exact hi
   ·cases hi
  ·exact hi
 have gY:∀j:Int,0≤j→j<H.cells.length→(H.getC j).state=1→getL X j=H.getC j:=fun j j0 j1 hj=>by
  rw[←hX]
  split
  ·rename_i e
   have hne:j≠H.hand-1:=fun e2=>by
    have:=gB j hj
    rw[e2]at this
    rw[this,←e2]at e
    omega
   rw[←gB j hj]
   unfold getL
   rw[List.getD_eq_getElem?_getD,List.getD_eq_getElem?_getD,List.getElem?_take,if_pos (by omega)]
  ·exact gB j hj
 refine iso_direct (K:={H with hand:=H.hand-1,cells:=X}) rfl (fun w hw hk=>?_) (fun i c hc1 hs1 hd=>?_) rfl rfl rfl rfl rfl
 ·have a:=l1 w hw
  have hat:=a.1.at hk
  exact⟨a.2 hk,gY _ hat.1 hat.2 (a.2 hk)⟩
 ·have h2:=gA i c (gX i c hc1) hs1
  refine⟨by rw[getC_nat h2];exact h2,nd i,fun p hp' w hw hk=>?_⟩
  obtain⟨k,hk'⟩:=List.getElem?_of_mem hp'
  have a:=l2 i c h2 k p hk' w hw
  have hat:=a.1.at hk
  have e:=gY _ hat.1 hat.2 (a.2 hk)
  have e:Heap.getC {H with hand:=H.hand-1,cells:=X} w.at_=H.getC w.at_:=e
  rw[e]
  exact⟨a.2 hk,a.2 hk,rfl⟩
theorem unit_iso{H:Heap}(h:Sound H):Iso H H.unitH:=by
 unfold Heap.unitH
 split
 ·exact roots_iso h ‹_›
 split
 ·exact mark_iso h ‹_›
 split
 ·exact sweep_iso h ‹_›
 split
 ·exact move_iso h ‹_›
 split
 ·exact mend_iso h ‹_›
 split
 ·exact close_iso h ‹_›
 exact Iso.refl H
theorem iter_iso:∀(k:Nat) {H:Heap},Sound H→Iso H (iterU k H)
 |0,H,_=>Iso.refl H
 |k+1,H,h=>(unit_iso h).trans (iter_iso k (unit_sound h))
theorem round_iso{H:Heap}(h:Sound H):Iso H H.roundH:=by
 obtain⟨a,b⟩:=outH_ok h
 have h1:Iso H H.outH:=iter_iso _ h
 have h2:Iso H.outH (H.outH.enterH 1):=enter_iso fun j=>not_doom (by omega) j
 exact(h1.trans h2).trans (iter_iso _ (begin_sound a b))
noncomputable def Heap.fitsH(H:Heap)(u:Int):Heap:=if H.used+u≤H.room then H else Heap.roundH {H with forced:=if H.forced<1000000000 then H.forced+1 else H.forced}
theorem fits_ok{H:Heap}(h:Sound H)(u:Int):Sound (H.fitsH u)∧(H.fitsH u).regs.map (H.fitsH u).aw=H.regs.map H.aw∧(∀b n,Node (H.fitsH u) b n→Node H b n)∧(H.fitsH u).room=H.room∧(H.fitsH u).born=H.born∧(H.fitsH u).per=H.per∧(H.fitsH u).start=H.start:=by
 unfold Heap.fitsH
 split
 ·exact⟨h,rfl,fun _ _ x=>x,rfl,rfl,rfl,rfl⟩
 ·have hf:=h.r1.forced
  have hs:Sound {H with forced:=if H.forced<1000000000 then H.forced+1 else H.forced}:=forced_sound h (by split<;>omega)
  have i:=round_iso hs
  exact⟨(roundH_ok hs).1,i.regs,i.node,i.room,i.born,i.per,i.start⟩
noncomputable def Heap.paceH(H:Heap)(u:Int):Heap:=if H.per=0∨u=0 then H else if H.phase=0∧H.used≤H.start then H else H.stepH (H.per*u)
theorem pace_ok{H:Heap}(h:Sound H)(u:Int):Sound (H.paceH u):=by
 unfold Heap.paceH
 split
 ·exact h
 ·split
  ·exact h
  ·exact stepH_ok h _
def Heap.getR(H:Heap)(r:Int):Word:=H.regs.getD r.toNat ⟨0,0,0⟩
def Heap.setR(H:Heap)(r:Int)(w:Word):Heap:={H with regs:=H.regs.set r.toNat w}
theorem getR_mem{H:Heap}(h:R1 H){r:Int}(h0:0≤r)(h1:r≤15):H.regs[r.toNat]?=some (H.getR r)∧H.getR r∈H.regs:=by
 have:r.toNat<H.regs.length:=by rw[h.regs];omega
 have e:H.regs[r.toNat]?=some (H.getR r):=by
  unfold Heap.getR
  rw[List.getD_eq_getElem?_getD,List.getElem?_eq_getElem this];rfl
 exact⟨e,List.mem_of_getElem? e⟩
theorem getR_ok{H:Heap}(h:Sound H){r:Int}(h0:0≤r)(h1:r≤15):Formed H (H.getR r)∧((H.getR r).kind=2→0≤(H.getR r).at_∧(H.getR r).at_<H.cells.length∧(H.getC (H.getR r).at_).state=1∧¬Doomed H (H.getR r).at_):=by
 obtain⟨a,b⟩:=reg_used h.r4 (getR_mem h.r1 h0 h1).2
 exact⟨a,fun hk=>⟨(a.at hk).1,(a.at hk).2,(b hk).1,(b hk).2⟩⟩
theorem setR_sound{H:Heap}(h:Sound H){r:Int}{w:Word}(hf:Formed H w)(hl:LeadsWell H w False):Sound (H.setR r w):=reg_sound h hf hl
theorem no_formed(H:Heap):Formed H ⟨0,0,0⟩∧LeadsWell H ⟨0,0,0⟩ False:=⟨.inl ⟨rfl,rfl,rfl⟩,fun hk=>by simp at hk⟩
theorem num_formed(H:Heap)(n:Int):Formed H ⟨1,n,0⟩∧LeadsWell H ⟨1,n,0⟩ False:=⟨.inr (.inl ⟨rfl,rfl⟩),fun hk=>by simp at hk⟩
theorem reg_leads{H:Heap}(h:Sound H){r:Int}(h0:0≤r)(h1:r≤15):LeadsWell H (H.getR r) False:=fun hk=>.inl ⟨((getR_ok h h0 h1).2 hk).2.2.1,((getR_ok h h0 h1).2 hk).2.2.2⟩
theorem reg_len{H K:Heap}(h:Sound H)(k:Sound K)(hr:K.regs.map K.aw=H.regs.map H.aw)(hn:∀b n,Node K b n→Node H b n){r:Int}(h0:0≤r)(h1:r≤15)(hk:(H.getR r).kind=2):
 (K.getR r).kind=2∧(K.getC (K.getR r).at_).pairs.length=(H.getC (H.getR r).at_).pairs.length:=by
 obtain⟨a1,a2⟩:=getR_ok h h0 h1
 obtain⟨b1,b2⟩:=getR_ok k h0 h1
 have e:K.aw (K.getR r)=H.aw (H.getR r):=by
  have e1:=congrArg (fun l=>l[r.toNat]?) hr
  simp only[List.getElem?_map,(getR_mem h.r1 h0 h1).1,(getR_mem k.r1 h0 h1).1,Option.map_some,Option.some.injEq]at e1
  exact e1
 have kd:∀(L:Heap) (w:Word),(L.aw w).kind=w.kind:=fun L w=>by
  unfold Heap.aw
  split
  ·rename_i e;rw[e]
  ·rfl
 have hk2:(K.getR r).kind=2:=by rw[←kd K,e,kd H];exact hk
 refine⟨hk2,?_⟩
 obtain⟨c0,c1,c2,c3⟩:=a2 hk
 obtain⟨d0,d1,d2,d3⟩:=b2 hk2
 rw[aw_used (fun _=>c2),aw_used (fun _=>d2),if_pos hk,if_pos hk2]at e
 have eb:(K.getC (K.getR r).at_).born=(H.getC (H.getR r).at_).born:=by
  have:=congrArg Word.at_ e;exact this
 have hx:=getL_some (cs:=H.cells) c0 c1
 have hy:=getL_some (cs:=K.cells) d0 d1
 rw[←getC_L]at hx hy
 have n1:Node H (H.getC (H.getR r).at_).born ⟨_,_,_,_⟩:=⟨(H.getR r).at_.toNat,_,hx,c2,by rw[show(((H.getR r).at_.toNat:Nat):Int)=(H.getR r).at_ by omega];exact c3,rfl,rfl⟩
 have n2:Node K (K.getC (K.getR r).at_).born ⟨_,_,_,_⟩:=⟨(K.getR r).at_.toNat,_,hy,d2,by rw[show(((K.getR r).at_.toNat:Nat):Int)=(K.getR r).at_ by omega];exact d3,rfl,rfl⟩
 rw[eb]at n2
 have:=congrArg (fun n=>n.pairs.length) (node_one h.r2 (hn _ _ n2) n1)
 simpa using this
def Heap.growC(K:Heap)(i n:Nat):Heap:=K.putC i {K.getC i with pairs:=(K.getC i).pairs++List.replicate n Pair.no} (K.used+n) K.sub
theorem grow_sound{K:Heap}{i n:Nat}(h:Sound K)(hi:i<K.cells.length)(hs:(K.getC i).state=1)(hn:(K.getC i).pairs.length+n≤200)(hr:K.used+n≤K.room):Sound (K.growC i n):=by
 have hc:=get_at hi
 have hsub:=h.r1.sub
 refine put_sound h hc hs ⟨hs,rfl,rfl,rfl,rfl⟩ (h.r2.used hc hs).2.2.1 (h.r2.used hc hs).2.2.2.1 (by simp;omega) (by simp;omega) hr (fun _=>rfl) hsub.1 (fun e=>?_) (fun hr=>.inl hr) (fun k p hp=>?_)
 ·have:=walked_sub h hi e
  simp;omega
 ·show Formed K p.key∧Formed K p.val∧(¬Doomed K i→LeadsWell K p.key (¬Mended K i k)∧LeadsWell K p.val (¬Mended K i k))∧(Marking K→(k:Int)<scanned K i {K.getC i with pairs:=(K.getC i).pairs++List.replicate n Pair.no}→¬White K p.key∧¬White K p.val)
  by_cases hk:k<(K.getC i).pairs.length
  ·have hp':(K.getC i).pairs[k]?=some p:=by
    have:((K.getC i).pairs++List.replicate n Pair.no)[k]?=some p:=hp
    rw[List.getElem?_append_left hk]at this;exact this
   obtain⟨a,b,g⟩:=h.r4.pairs i _ hc k p hp'
   refine⟨a,b,g,fun hm hsc=>(h.r7 hm i _ hc).2 k p hp' ?_⟩
   unfold scanned at hsc⊢
   split
   ·omega
   ·rename_i e
    rw[if_neg e]at hsc;exact hsc
  ·have hp':p=Pair.no:=by
    have:((K.getC i).pairs++List.replicate n Pair.no)[k]?=some p:=hp
    rw[List.getElem?_append_right (by omega),List.getElem?_replicate]at this
    split at this
    ·cases this;rfl
    ·cases this
   rw[hp']
   exact⟨.inl ⟨rfl,rfl,rfl⟩,.inl ⟨rfl,rfl,rfl⟩,fun _=>⟨fun hk=>by simp[Pair.no]at hk,fun hk=>by simp[Pair.no]at hk⟩,fun _ _=>⟨fun hw=>by have:=hw.1;simp[Pair.no]at this,fun hw=>by have:=hw.1;simp[Pair.no]at this⟩⟩
noncomputable def Heap.cutN(K:Heap)(i n:Nat):Heap:=K.putC i {K.getC i with pairs:=(K.getC i).pairs.take n} (K.used-((K.getC i).pairs.length-n)) (if K.walkedI=i then min K.sub n else K.sub)
theorem cutN_sound{K:Heap}{i n:Nat}(h:Sound K)(hi:i<K.cells.length)(hs:(K.getC i).state=1)(hn:n≤(K.getC i).pairs.length):Sound (K.cutN i n):=by
 have hc:=get_at hi
 have hsub:=h.r1.sub
 have hle:(if K.walkedI=i then min K.sub n else K.sub)≤K.sub∧0≤(if K.walkedI=i then min K.sub n else K.sub):=by split<;>omega
 refine put_sound h hc hs ⟨hs,rfl,rfl,rfl,rfl⟩ (h.r2.used hc hs).2.2.1 (h.r2.used hc hs).2.2.2.1 (by simp;have:=(h.r2.used hc hs).2.2.2.2.2.2.2;omega) (by simp;omega) ?_ (fun e=>by rw[if_neg e]) hle.2 (fun e=>?_) (fun hr=>.inl hr) (fun k p hp=>?_)
 ·have:=h.r3.2;omega
 ·have:=walked_sub h hi e
  rw[if_pos e]
  simp;omega
 ·have hp':(K.getC i).pairs[k]?=some p∧k<n:=by
   have:((K.getC i).pairs.take n)[k]?=some p:=hp
   rw[List.getElem?_take]at this
   split at this
   ·exact⟨this,by assumption⟩
   ·cases this
  obtain⟨a,b,g⟩:=h.r4.pairs i _ hc k p hp'.1
  generalize(if K.walkedI=i then min K.sub n else K.sub)=s at hle
  have hmm:¬Mended K i k→¬Mended {K with sub:=s} i k:=fun x y=>x (by
   unfold Mended at y⊢
   refine⟨y.1,fun e=>?_⟩
   rcases y.2 e with z|z
   ·exact .inl z
   ·refine .inr ⟨z.1,?_⟩
    have:(k:Int)<s:=z.2
    omega)
  refine⟨a,b,fun hd=>?_,fun hm hsc=>(h.r7 hm i _ hc).2 k p hp'.1 ?_⟩
  ·obtain⟨g1,g2⟩:=g hd
   exact⟨leads_of (fun _=>rfl) (fun _ x=>x) hmm g1,leads_of (fun _=>rfl) (fun _ x=>x) hmm g2⟩
  ·have hkl:=(List.getElem?_eq_some_iff.1 hp'.1).1
   unfold scanned at hsc⊢
   split
   ·omega
   ·rename_i e
    rw[if_neg e]at hsc
    split
    ·rename_i e2
     rw[if_pos e2]at hsc
     have:(k:Int)<s:=hsc
     omega
    ·rename_i e2
     rw[if_neg e2]at hsc;exact hsc
def Heap.putP(K:Heap)(i k:Nat)(q:Pair):Heap:={K with cells:=K.cells.set i {K.getC i with pairs:=(K.getC i).pairs.set k q}}
theorem putP_sound{K:Heap}{i k:Nat}{p q:Pair}(h:Sound K)(hi:i<K.cells.length)(hs:(K.getC i).state=1)(hp:(K.getC i).pairs[k]?=some p)
 (hq:∀w,(w=q.key∨w=q.val)→(w=p.key∧q.key=w∨w=p.val∧q.val=w)∨(Formed K w∧LeadsWell K w False∧(Marking K→¬White K w))):Sound (K.putP i k q):=by
 have hc:=get_at hi
 have hsub:=h.r1.sub
 have hl:((K.getC i).pairs.set k q).length=(K.getC i).pairs.length:=by simp
 refine put_sound (u:=K.used) (s:=K.sub) h hc hs ⟨hs,rfl,rfl,rfl,rfl⟩ (h.r2.used hc hs).2.2.1 (h.r2.used hc hs).2.2.2.1 (by simp;exact(h.r2.used hc hs).2.2.2.2.2.2.2) (by simp) h.r3.2 (fun _=>rfl) hsub.1 (fun e=>by
  have:=walked_sub h hi e
  simp;omega) (fun hr=>.inl hr) (fun j r hr=>?_)
 show Formed K r.key∧Formed K r.val∧(¬Doomed K i→LeadsWell K r.key (¬Mended K i j)∧LeadsWell K r.val (¬Mended K i j))∧(Marking K→(j:Int)<scanned K i {K.getC i with pairs:=(K.getC i).pairs.set k q}→¬White K r.key∧¬White K r.val)
 have hsce:scanned K i {K.getC i with pairs:=(K.getC i).pairs.set k q}=scanned K i (K.getC i):=by unfold scanned;simp
 have hr':((K.getC i).pairs.set k q)[j]?=some r:=hr
 rw[List.getElem?_set]at hr'
 rw[hsce]
 split at hr'
 ·rename_i e
  subst e
  split at hr'
  ·cases hr'
   obtain⟨a,b,g⟩:=h.r4.pairs i _ hc k p hp
   have g7:=fun hm=>(h.r7 hm i _ hc).2 k p hp
   have key:∀w,(w=q.key∨w=q.val)→Formed K w∧(¬Doomed K i→LeadsWell K w (¬Mended K i k))∧(Marking K→(k:Int)<scanned K i (K.getC i)→¬White K w):=fun w hw=>by
    rcases hq w hw with(⟨x,_⟩|⟨x,_⟩)|⟨x1,x2,x3⟩
    ·rw[x];exact⟨a,fun hd=>(g hd).1,fun hm hsc=>(g7 hm hsc).1⟩
    ·rw[x];exact⟨b,fun hd=>(g hd).2,fun hm hsc=>(g7 hm hsc).2⟩
    ·exact⟨x1,fun _=>leads_of (fun _=>rfl) (fun _ x=>x) (fun x=>x.elim) x2,fun hm _=>x3 hm⟩
   have k1:=key _ (.inl rfl)
   have k2:=key _ (.inr rfl)
   exact⟨k1.1,k2.1,fun hd=>⟨k1.2.1 hd,k2.2.1 hd⟩,fun hm hsc=>⟨k1.2.2 hm hsc,k2.2.2 hm hsc⟩⟩
  ·cases hr'
 ·obtain⟨a,b,g⟩:=h.r4.pairs i _ hc j r hr'
  exact⟨a,b,g,fun hm hsc=>(h.r7 hm i _ hc).2 j r hr' hsc⟩
def Heap.putW(K:Heap)(i:Nat)(w:Int):Heap:={K with cells:=K.cells.set i {K.getC i with weak:=w}}
def Heap.putL(K:Heap)(i:Nat)(l:Int):Heap:={K with cells:=K.cells.set i {K.getC i with last:=l}}
theorem put_words{K:Heap}{i:Nat}{d:Cell}(h:Sound K)(hi:i<K.cells.length)(hs:(K.getC i).state=1)(hd:d.state=1∧d.kind=(K.getC i).kind∧d.born=(K.getC i).born∧d.color=(K.getC i).color∧d.to=(K.getC i).to)(hp:d.pairs=(K.getC i).pairs)(hw:0≤d.weak∧d.weak≤3)(hl:0≤d.last∧d.last≤3)
 (hrt:Root d→Root (K.getC i)∨(¬Doomed K i∧(Marking K→d.color≠0))):Sound {K with cells:=K.cells.set i d}:=by
 have hc:=get_at hi
 have hsub:=h.r1.sub
 refine put_sound (u:=K.used) (s:=K.sub) h hc hs hd hw hl (by rw[hp];exact(h.r2.used hc hs).2.2.2.2.2.2.2) (by rw[hp];omega) h.r3.2 (fun _=>rfl) hsub.1 (fun e=>by
  have:=walked_sub h hi e
  rw[hp];exact this) hrt (fun j r hr=>?_)
 show Formed K r.key∧Formed K r.val∧(¬Doomed K i→LeadsWell K r.key (¬Mended K i j)∧LeadsWell K r.val (¬Mended K i j))∧(Marking K→(j:Int)<scanned K i d→¬White K r.key∧¬White K r.val)
 rw[hp]at hr
 obtain⟨a,b,g⟩:=h.r4.pairs i _ hc j r hr
 refine⟨a,b,g,fun hm hsc=>(h.r7 hm i _ hc).2 j r hr ?_⟩
 unfold scanned at hsc⊢
 rw[hp,hd.2.2.2.1]at hsc;exact hsc
theorem putW_sound{K:Heap}{i:Nat}{w:Int}(h:Sound K)(hi:i<K.cells.length)(hs:(K.getC i).state=1)(hw:0≤w∧w≤3):Sound (K.putW i w):=
 put_words h hi hs ⟨hs,rfl,rfl,rfl,rfl⟩ rfl hw (h.r2.used (get_at hi) hs).2.2.2.1 (fun hr=>.inl hr)
theorem putL_sound{K:Heap}{i:Nat}{l:Int}(h:Sound K)(hi:i<K.cells.length)(hs:(K.getC i).state=1)(hl:0≤l∧l≤3)(hr:l=1∨l=2→¬Doomed K i∧(Marking K→(K.getC i).color≠0)):Sound (K.putL i l):=
 put_words h hi hs ⟨hs,rfl,rfl,rfl,rfl⟩ rfl (h.r2.used (get_at hi) hs).2.2.1 hl (fun hx=>.inr (hr hx.2))
structure Out where
 heap:Heap
 code:Int
 num:Int
def aMost(op:Int):Int:=if op=18∨20≤op then 0 else 15
def bMost(op:Int):Int:=if op=1 then 255 else if 4≤op∧op≤8∨op=13 then 15 else if op=23 then 64 else 0
def cMost(op:Int):Int:=if op=1∨op=9∨op=10 then 200 else if 5≤op∧op≤8 then 199 else if op=11 then 3 else if op=12 then 1 else if op=22 then 100000 else if op=23 then 4000 else 0
def ActP(a:Act):Prop:=(1≤a.op∧a.op≤24)∧(a.op=2∨a.n=0)∧(0≤a.a∧a.a≤aMost a.op)∧(0≤a.b∧a.b≤bMost a.op)∧(0≤a.c∧a.c≤cMost a.op)
noncomputable def doNew(H:Heap)(a:Act):Out:=
 if H.born=1000000000 then⟨H,4,0⟩
 else if(H.fitsH (1+a.c)).used+(1+a.c)≤(H.fitsH (1+a.c)).room then⟨((H.fitsH (1+a.c)).newH a.a.toNat a.b a.c.toNat).paceH (1+a.c),0,0⟩
 else⟨H.fitsH (1+a.c),4,0⟩
noncomputable def doGrow(H:Heap)(a:Act):Out:=
 if(H.getC (H.getR a.a).at_).pairs.length+a.c>200 then⟨H,5,0⟩
 else if(H.fitsH a.c).used+a.c≤(H.fitsH a.c).room then⟨((H.fitsH a.c).growC ((H.fitsH a.c).getR a.a).at_.toNat a.c.toNat).paceH a.c,0,0⟩
 else⟨H.fitsH a.c,4,0⟩
noncomputable def Heap.cutH(H:Heap)(i n:Nat):Heap:=if n<(H.getC i).pairs.length then H.cutN i n else H
noncomputable def doPair(H:Heap)(a:Act):Out:=
 let w:=H.getR (if a.op=5∨a.op=6 then a.b else a.a)
 if w.kind≠2 then⟨H,2,0⟩
 else match(H.getC w.at_).pairs[a.c.toNat]? with
  |none=>⟨H,3,0⟩
  |some p=>
   if a.op=5 then⟨H.setR a.a (H.lead p.key),0,0⟩
   else if a.op=6 then⟨H.setR a.a (H.lead p.val),0,0⟩
   else if a.op=7 then⟨(H.shadeW (H.getR a.b)).putP w.at_.toNat a.c.toNat ⟨H.getR a.b,p.val⟩,0,0⟩
   else⟨(H.shadeW (H.getR a.b)).putP w.at_.toNat a.c.toNat ⟨p.key,H.getR a.b⟩,0,0⟩
noncomputable def doCell(H:Heap)(a:Act):Out:=
 let w:=H.getR a.a
 if w.kind≠2 then⟨H,2,0⟩
 else if a.op=9 then doGrow H a
 else if a.op=10 then⟨H.cutH w.at_.toNat a.c.toNat,0,0⟩
 else if a.op=11 then⟨H.putW w.at_.toNat a.c,0,0⟩
 else if a.op=12 then⟨(if a.c=1 then H.shadeW w else H).putL w.at_.toNat a.c,0,0⟩
 else if a.op=16 then⟨H,0,(H.getC w.at_).kind⟩
 else⟨H,0,(H.getC w.at_).pairs.length⟩
noncomputable def doDue(H:Heap)(a:Act):Out:=
 if ndG H H.cells.length<0 then⟨H.setR a.a ⟨0,0,0⟩,0,0⟩
 else⟨(H.putL (ndG H H.cells.length).toNat 3).setR a.a ⟨2,0,ndG H H.cells.length⟩,0,1⟩
noncomputable def doA(H:Heap)(a:Act):Out:=
 if a.op=1 then doNew H a
 else if a.op=2 then⟨H.setR a.a ⟨1,a.n,0⟩,0,0⟩
 else if a.op=3 then⟨H.setR a.a ⟨0,0,0⟩,0,0⟩
 else if a.op=4 then⟨H.setR a.a (H.getR a.b),0,0⟩
 else if a.op≤8 then doPair H a
 else if a.op≤12 then doCell H a
 else if a.op=13 then⟨H,0,if H.getR a.a=H.getR a.b then 1 else 0⟩
 else if a.op=14 then⟨H,0,(H.getR a.a).kind⟩
 else if a.op=15 then(if(H.getR a.a).kind=1 then⟨H,0,(H.getR a.a).num⟩else⟨H,2,0⟩)
 else if a.op≤17 then doCell H a
 else if a.op=18 then⟨H.settleH,0,d2 H H.cells.length⟩
 else if a.op=19 then doDue H a
 else if a.op=20 then⟨H,0,sumT H (heldL H) H.cells.length⟩
 else if a.op=21 then⟨H,0,sumT H (reachL H) H.cells.length⟩
 else if a.op=22 then⟨H.stepH a.c,0,0⟩
 else if a.op=23 then⟨{H with per:=a.b,start:=a.c},0,0⟩
 else⟨H.roundH,0,0⟩
noncomputable def actA(H:Heap)(a:Act):Out:=if ActP a then doA H a else⟨H,1,0⟩
theorem aMost_le(op:Int):aMost op≤15:=by unfold aMost;split<;>omega
theorem doNew_sound{H:Heap}{a:Act}(h:Sound H)(ha:ActP a)(ho:a.op=1):Sound (doNew H a).heap:=by
 obtain⟨_,_,a1,a2,a3⟩:=ha
 rw[ho]at a1 a2 a3
 simp[bMost,cMost]at a2 a3
 obtain⟨f1,f2,f3,f4,f5,f6,f7⟩:=fits_ok h (1+a.c)
 unfold doNew
 split
 ·exact h
 ·rename_i hb
  split
  ·refine pace_ok (new_sound f1 ?_ ?_ (by omega) (by omega)) _
   ·have:=h.r1.born;omega
   ·exact a2
  ·exact f1
theorem doGrow_sound{H:Heap}{a:Act}(h:Sound H)(ha:0≤a.a∧a.a≤15)(hc:0≤a.c)(hk:(H.getR a.a).kind=2):Sound (doGrow H a).heap:=by
 obtain⟨f1,f2,f3,f4,f5,f6,f7⟩:=fits_ok h a.c
 unfold doGrow
 split
 ·exact h
 ·rename_i hl
  split
  ·obtain⟨g1,g2⟩:=reg_len h f1 f2 f3 ha.1 ha.2 hk
   obtain⟨k1,k2⟩:=getR_ok f1 ha.1 ha.2
   obtain⟨b0,b1,b2,b3⟩:=k2 g1
   have e:((((H.fitsH a.c).getR a.a).at_.toNat:Nat):Int)=((H.fitsH a.c).getR a.a).at_:=by omega
   exact pace_ok (grow_sound f1 (by omega) (by rw[e];exact b2) (by rw[e];omega) (by omega)) _
  ·exact f1
theorem shade_marks{H:Heap}{w:Word}:Marking (H.shadeW w)↔Marking H:=by
 have e:(H.shadeW w).phase=H.phase:=by
  unfold Heap.shadeW Heap.shadeH
  split
  ·split<;>rfl
  ·rfl
 unfold Marking
 rw[e]
theorem doPair_sound{H:Heap}{a:Act}(h:Sound H)(ha:0≤a.a∧a.a≤15)(hb:0≤a.b∧a.b≤15):Sound (doPair H a).heap:=by
 unfold doPair
 have hx:0≤(if a.op=5∨a.op=6 then a.b else a.a)∧(if a.op=5∨a.op=6 then a.b else a.a)≤15:=by split<;>assumption
 obtain⟨r1,r2⟩:=getR_ok h hx.1 hx.2
 generalize H.getR (if a.op=5∨a.op=6 then a.b else a.a)=w at*
 simp only
 split
 ·exact h
 rename_i hk
 obtain⟨b0,b1,b2,b3⟩:=r2 (by omega)
 have hc:=getL_some (cs:=H.cells) b0 b1
 rw[←getC_L]at hc
 have e:((w.at_.toNat:Nat):Int)=w.at_:=by omega
 cases hp:(H.getC w.at_).pairs[a.c.toNat]? with
 |none=>exact h
 |some p=>
  simp only
  obtain⟨p1,p2,g⟩:=h.r4.pairs _ _ hc _ p hp
  rw[e]at g
  obtain⟨g1,g2⟩:=g b3
  obtain⟨s1,s2⟩:=getR_ok h hb.1 hb.2
  obtain⟨q1,q2⟩:=shadeW_ok s1 (fun hk=>(s2 hk).2.2.1)
  have cc:=q1.cell w.at_
  have hfm:Formed (H.shadeW (H.getR a.b)) (H.getR a.b)∧LeadsWell (H.shadeW (H.getR a.b)) (H.getR a.b) False∧(Marking (H.shadeW (H.getR a.b))→¬White (H.shadeW (H.getR a.b)) (H.getR a.b)):=by
   have hx:=getR_mem h.r1 hb.1 hb.2
   have:=(q1.sound h).r4.regs (H.getR a.b) (by rw[q1.regs];exact hx.2)
   exact⟨this.1,this.2,fun hm=>q2 (shade_marks.1 hm)⟩
  have put:∀q:Pair,(∀v,(v=q.key∨v=q.val)→(v=p.key∧q.key=v∨v=p.val∧q.val=v)∨v=H.getR a.b)→Sound ((H.shadeW (H.getR a.b)).putP w.at_.toNat a.c.toNat q):=fun q hq=>
   putP_sound (p:=p) (q1.sound h) (by rw[q1.len];omega) (by rw[e,cc.1];exact b2) (by rw[e,cc.2.1];exact hp) (fun v hv=>by
    rcases hq v hv with x|x
    ·exact .inl x
    ·rw[x];exact .inr hfm)
  split
  ·obtain⟨x,y⟩:=lead_well h p1 g1
   exact setR_sound h x y
  split
  ·obtain⟨x,y⟩:=lead_well h p2 g2
   exact setR_sound h x y
  split
  ·refine put _ (fun v hv=>?_)
   rcases hv with rfl|rfl
   ·exact .inr rfl
   ·exact .inl (.inr ⟨rfl,rfl⟩)
  ·refine put _ (fun v hv=>?_)
   rcases hv with rfl|rfl
   ·exact .inl (.inl ⟨rfl,rfl⟩)
   ·exact .inr rfl
theorem doCell_sound{H:Heap}{a:Act}(h:Sound H)(ha:ActP a)(hr:0≤a.a∧a.a≤15):Sound (doCell H a).heap:=by
 unfold doCell
 simp only
 obtain⟨r1,r2⟩:=getR_ok h hr.1 hr.2
 obtain⟨_,_,_,_,a3⟩:=ha
 split
 ·exact h
 rename_i hk
 have hk:(H.getR a.a).kind=2:=by omega
 obtain⟨b0,b1,b2,b3⟩:=r2 hk
 have e:(((H.getR a.a).at_.toNat:Nat):Int)=(H.getR a.a).at_:=by omega
 split
 ·exact doGrow_sound h hr a3.1 hk
 split
 ·rename_i ho
  unfold Heap.cutH
  show Sound (if _ then _ else _)
  split
  ·exact cutN_sound h (by omega) (by rw[e];exact b2) (by omega)
  ·exact h
 split
 ·rename_i ho
  rw[ho]at a3
  simp[cMost]at a3
  exact putW_sound h (by omega) (by rw[e];exact b2) a3
 split
 ·rename_i ho
  rw[ho]at a3
  simp[cMost]at a3
  by_cases hc:a.c=1
  ·rw[if_pos hc]
   obtain⟨q1,q2⟩:=shadeW_ok r1 (fun hk=>(r2 hk).2.2.1)
   have hx:=(q1.sound h).r4.regs (H.getR a.a) (by rw[q1.regs];exact(getR_mem h.r1 hr.1 hr.2).2)
   refine putL_sound (q1.sound h) (by rw[q1.len];omega) (by rw[e,(q1.cell _).1];exact b2) (by omega) (fun _=>?_)
   rw[e]
   refine⟨?_,fun hm hcl=>q2 (shade_marks.1 hm) ⟨hk,hcl⟩⟩
   rcases hx.2 hk with x|x
   ·exact x.2
   ·exact x.2.elim
  ·rw[if_neg hc]
   exact putL_sound h (by omega) (by rw[e];exact b2) (by omega) (fun hx=>by omega)
 split
 ·exact h
 ·exact h
theorem ndG_last(H:Heap):∀k:Nat,0≤ndG H k→(H.getC (ndG H k)).last=2
 |0,h=>by simp[ndG]at h
 |k+1,h=>by
  unfold ndG at h⊢
  split
  ·rename_i e;exact e.1
  ·rename_i e;rw[if_neg e]at h;exact ndG_last H k h
theorem doDue_sound{H:Heap}{a:Act}(h:Sound H)(hr:0≤a.a∧a.a≤15):Sound (doDue H a).heap:=by
 unfold doDue
 have hlt:=ndG_lt H H.cells.length
 have hls:=ndG_last H H.cells.length
 generalize ndG H H.cells.length=d at*
 split
 ·exact setR_sound h (no_formed H).1 (no_formed H).2
 rename_i h0
 have e:((d.toNat:Nat):Int)=d:=by omega
 have hc:=getL_some (cs:=H.cells) (j:=d) (by omega) (by omega)
 rw[←getC_L]at hc
 have hs:=last2 h.r2 hc (hls (by omega))
 have hnd:¬Doomed H d:=fun hd=>h.r4.roots _ _ hc (by rw[e];exact hd) ⟨hs,.inr (hls (by omega))⟩
 have hp:Sound (H.putL d.toNat 3):=putL_sound h (by omega) (by rw[e];exact hs) (by omega) (fun hx=>by omega)
 have gC:∀j:Int,((H.putL d.toNat 3).getC j).state=(H.getC j).state∧((H.putL d.toNat 3).getC j).color=(H.getC j).color:=fun j=>by
  have:(H.putL d.toNat 3).getC j=if j.toNat=d.toNat then{H.getC d.toNat with last:=3}else H.getC j:=by rw[getC_L,getC_L];exact getL_set (by omega)
  rw[this]
  split
  ·rename_i ej
   have:H.getC j=H.getC d.toNat:=by rw[getC_L,getC_L];unfold getL;rw[ej];rfl
   rw[this];exact⟨rfl,rfl⟩
  ·exact⟨rfl,rfl⟩
 refine setR_sound hp (.inr (.inr ⟨rfl,rfl,by show 0≤d;omega,?_⟩)) (fun _=>.inl ⟨?_,fun hd=>hnd ?_⟩)
 ·show d<((H.cells.set d.toNat _).length:Int)
  rw[List.length_set];omega
 ·show((H.putL d.toNat 3).getC d).state=1
  rw[(gC d).1];exact hs
 ·have hd:Doomed (H.putL d.toNat 3) d:=hd
  exact⟨hd.1,by rw[←(gC d).1];exact hd.2.1,by rw[←(gC d).2];exact hd.2.2.1,hd.2.2.2⟩
theorem out_if{p:Prop}[Decidable p]{A B:Out}(hA:p→Sound A.heap)(hB:¬p→Sound B.heap):Sound (if p then A else B).heap:=by
 by_cases h:p
 ·rw[if_pos h];exact hA h
 ·rw[if_neg h];exact hB h
theorem doA_sound{H:Heap}{a:Act}(h:Sound H)(ha:ActP a):Sound (doA H a).heap:=by
 have ha':=ha
 obtain⟨a0,_,a1,a2,a3⟩:=ha'
 have hr:0≤a.a∧a.a≤15:=⟨a1.1,by have:=aMost_le a.op;omega⟩
 unfold doA
 refine out_if (fun ho=>doNew_sound h ha ho) (fun h1=>?_)
 refine out_if (fun ho=>setR_sound h (num_formed H _).1 (num_formed H _).2) (fun h2=>?_)
 refine out_if (fun ho=>setR_sound h (no_formed H).1 (no_formed H).2) (fun h3=>?_)
 refine out_if (fun ho=>?_) (fun h4=>?_)
 ·rw[ho]at a2
  simp[bMost]at a2
  exact setR_sound h (getR_ok h a2.1 a2.2).1 (reg_leads h a2.1 a2.2)
 refine out_if (fun ho=>?_) (fun h5=>?_)
 ·refine doPair_sound h hr ?_
  unfold bMost at a2
  rw[if_neg (by omega),if_pos (by omega)]at a2
  exact a2
 refine out_if (fun ho=>doCell_sound h ha hr) (fun h6=>?_)
 refine out_if (fun ho=>h) (fun h7=>?_)
 refine out_if (fun ho=>h) (fun h8=>?_)
 refine out_if (fun ho=>out_if (fun _=>h) (fun _=>h)) (fun h9=>?_)
 refine out_if (fun ho=>doCell_sound h ha hr) (fun h10=>?_)
 refine out_if (fun ho=>settle_sound h) (fun h11=>?_)
 refine out_if (fun ho=>doDue_sound h hr) (fun h12=>?_)
 refine out_if (fun ho=>h) (fun h13=>?_)
 refine out_if (fun ho=>h) (fun h14=>?_)
 refine out_if (fun ho=>stepH_ok h _) (fun h15=>?_)
 refine out_if (fun ho=>?_) (fun h16=>(roundH_ok h).1)
 rw[ho]at a2 a3
 simp[bMost,cMost]at a2 a3
 exact pace_sound h a2 a3
theorem actA_sound{H:Heap}{a:Act}(h:Sound H):Sound (actA H a).heap:=by
 unfold actA
 split
 ·exact doA_sound h ‹_›
 ·exact h
end Go.Proofs.YtcjmodomfilagaaGreat.E
set_option maxRecDepth 100000
namespace Go.Proofs.YtcjmodomfilagaaGreat.E
open Go
noncomputable def e140:Env:=⟨Tryz.prog,[],25,[]⟩
abbrev zk(a0:Nat)(a1:Nat)(a2:Int):I:=⟨some a0,none,.call a1 [.const (.int .i64 a2)]⟩
abbrev zo(a0:Nat)(a1:Nat)(a2:Int):I:=⟨none,none,.store a0 (.tmp a1) (.const (.int .i64 a2))⟩
abbrev qR(a0:Nat)(a1:Int)(a2:Int):I:=⟨some a0,none,.alloc true [.int .i64 a1,.int .i64 a2]⟩
abbrev j9(a0:Nat)(a1:Int)(a2:Int)(a3:Nat)(a4:Nat)(a5:Nat):I:=⟨some a0,none,.build [.int .i64 a1,.int .i64 a2] [(a3,a4,.tmp a5)]⟩
noncomputable def c140:C:=
 .seq (.reg [zJ 2,zJ 3]) (.seq (.seq (.reg [z3 4 0]) (.block 0 (.seq (.seq (.reg [z7 6 4 1,z3 5 6]) (.cond (.tmp 5) .skip (.seq (.reg [z7 7 4 2,z3 5 7]) (.cond (.tmp 5) .skip (.seq (.reg [z7 8 4 3,z3 5 8]) (.cond (.tmp 5) .skip (.seq (.reg [z7 9 4 9,z3 5 9]) (.cond (.tmp 5) .skip (.seq (.reg [z7 10 4 10,z3 5 10]) (.cond (.tmp 5) .skip (.seq (.reg [z7 11 4 11,z3 5 11]) (.cond (.tmp 5) .skip
 (.seq (.reg [z7 12 4 12,z3 5 12]) (.cond (.tmp 5) .skip (.seq (.reg [z7 13 4 14,z3 5 13]) (.cond (.tmp 5) .skip (.seq (.reg [z7 14 4 15,z3 5 14]) (.cond (.tmp 5) .skip (.seq (.reg [z7 15 4 16,z3 5 15]) (.cond (.tmp 5) .skip (.seq (.reg [z7 16 4 17,z3 5 16]) (.cond (.tmp 5) .skip (.reg [z7 17 4 19,z3 5 17]))))))))))))))))))))))) (.cond (.tmp 5) (.seq (.reg [za 2,zJ 3]) .ret) (.seq (.seq
 (.reg [z7 19 4 4,z3 18 19]) (.cond (.tmp 18) .skip (.seq (.reg [z7 20 4 5,z3 18 20]) (.cond (.tmp 18) .skip (.seq (.reg [z7 21 4 6,z3 18 21]) (.cond (.tmp 18) .skip (.seq (.reg [z7 22 4 7,z3 18 22]) (.cond (.tmp 18) .skip (.seq (.reg [z7 23 4 8,z3 18 23]) (.cond (.tmp 18) .skip (.reg [z7 24 4 13,z3 18 24]))))))))))) (.cond (.tmp 18) (.seq (.reg [za 2,za 3]) .ret) .skip)))))) (.seq (.reg [
 zJ 2,zJ 3]) .ret))
theorem t140:Tryz.f140.body.bind (trC e140)=some c140:=by kernel_rfl
theorem r140:Tryz.f140.results.toList.mapM (trR Tryz.prog)=some [.tmp 2,.tmp 3]:=by kernel_rfl
theorem fn140{args:List Value}{M:Mem}{post:Value→Mem→Prop}(hl:args.length≤25)(h:VC e140 c140 (fnQ [.tmp 2,.tmp 3] post) (initS args 25) M):Fn Tryz.prog 140 args M post:=
 Fn.of' (E:=e140) Tryz.func140 t140 rfl r140 mixed hl h
noncomputable def e141:Env:=⟨Tryz.prog,[],26,[]⟩
noncomputable def c141:C:=
 .seq (.reg [zC 2 0,zC 3 0]) (.seq (.seq (.reg [z3 4 0]) (.block 0 (.seq (.reg [z7 6 4 1,z3 5 6]) (.cond (.tmp 5) (.seq (.reg [zC 2 255,zC 3 200]) .ret) (.seq (.seq (.reg [z7 8 4 5,z3 7 8]) (.cond (.tmp 7) .skip (.seq (.reg [z7 9 4 6,z3 7 9]) (.cond (.tmp 7) .skip (.seq (.reg [z7 10 4 7,z3 7 10]) (.cond (.tmp 7) .skip (.reg [z7 11 4 8,z3 7 11]))))))) (.cond (.tmp 7) (.seq (.reg [zC 2 15,
 zC 3 199]) .ret) (.seq (.seq (.reg [z7 13 4 4,z3 12 13]) (.cond (.tmp 12) .skip (.reg [z7 14 4 13,z3 12 14]))) (.cond (.tmp 12) (.seq (.reg [zC 2 15,zC 3 0]) .ret) (.seq (.seq (.reg [z7 16 4 9,z3 15 16]) (.cond (.tmp 15) .skip (.reg [z7 17 4 10,z3 15 17]))) (.cond (.tmp 15) (.seq (.reg [zC 2 0,zC 3 200]) .ret) (.seq (.reg [z7 19 4 11,z3 18 19]) (.cond (.tmp 18) (.seq (.reg [zC 2 0,zC 3
 3]) .ret) (.seq (.reg [z7 21 4 12,z3 20 21]) (.cond (.tmp 20) (.seq (.reg [zC 2 0,zC 3 1]) .ret) (.seq (.reg [z7 23 4 22,z3 22 23]) (.cond (.tmp 22) (.seq (.reg [zC 2 0,zC 3 100000]) .ret) (.seq (.reg [z7 25 4 23,z3 24 25]) (.cond (.tmp 24) (.seq (.reg [zC 2 64,zC 3 4000]) .ret) .skip)))))))))))))))))) (.seq (.reg [zC 2 0,zC 3 0]) .ret))
theorem t141:Tryz.f141.body.bind (trC e141)=some c141:=by kernel_rfl
theorem r141:Tryz.f141.results.toList.mapM (trR Tryz.prog)=some [.tmp 2,.tmp 3]:=by kernel_rfl
theorem fn141{args:List Value}{M:Mem}{post:Value→Mem→Prop}(hl:args.length≤26)(h:VC e141 c141 (fnQ [.tmp 2,.tmp 3] post) (initS args 26) M):Fn Tryz.prog 141 args M post:=
 Fn.of' (E:=e141) Tryz.func141 t141 rfl r141 mixed hl h
noncomputable def e133:Env:=⟨Tryz.prog,[1],63,[]⟩
noncomputable def c133:C:=
 .seq (.reg [zY 1 0,zJ 2]) (.seq (.seq (.reg [z4 7 0 1,z5 8 1 7,qO 9 8 1,z3 10 9,zG 11 10 0 1,zK 12 10 1 11,qT 13 10 12 24,zO 14 10 13,z3 15 14,zG 16 15 0 1,zK 17 15 1 16,zy 18 15 17 2,zN 19 15 18,zE 20 19 4 1,zD 21 19 1 20,q4 22 19 21 0,q9 23 15 19 22,zO 24 15 23]) (.cond (.tmp 24) (.seq (.reg [zJ 2]) .ret) .skip)) (.seq (.reg [z4 26 0 1,z5 27 1 26,zM 28 140 27,z3 25 28,qQ 29 25 0,qQ 30 25 1,
 z3 3 29,z3 4 30]) (.seq (.seq (.reg [z3 31 3,z3 32 31,zE 33 32 1 1,zD 34 32 1 33,qL 35 32 113 34 0 15,qS 36 32 35,zL 37 32 36,z3 38 37,zN 39 38 3,zf 40 38 39,zN 41 38 40,zE 42 41 1 1,zD 43 41 1 42,q4 44 41 43 0,q9 45 38 41 44,zO 46 38 45]) (.cond (.tmp 46) (.seq (.reg [zJ 2]) .ret) .skip)) (.seq (.reg [z4 48 0 1,z5 49 1 48,zM 50 141 49,z3 47 50,qQ 51 47 0,qQ 52 47 1,z3 5 51,z3 6 52]) (.seq
 (.reg [z4 53 2 1,z5 54 1 53,z3 55 5,j4 56 113 54 0 55,z3 57 56,zE 58 57 3 1,zD 59 57 1 58,zF 60 57 6,⟨some 61,some (57,true),.call 113 [.tmp 59,.const (.int .i64 0),.tmp 60]⟩,zL 62 57 61,z3 2 62]) .ret)))))
theorem t133:Tryz.f133.body.bind (trC e133)=some c133:=by kernel_rfl
theorem r133:Tryz.f133.results.toList.mapM (trR Tryz.prog)=some [.tmp 2]:=by kernel_rfl
theorem fn133{args:List Value}{M:Mem}{post:Value→Mem→Prop}(hl:args.length≤63)(h:VC e133 c133 (fnQ [.tmp 2] post) (initS args 63) M):Fn Tryz.prog 133 args M post:=
 Fn.of' (E:=e133) Tryz.func133 t133 rfl r133 mixed hl h
noncomputable def e138:Env:=⟨Tryz.prog,[2],5,[]⟩
noncomputable def c138:C:=
 .seq (.reg [qR 2 0 0]) (.seq (.reg [z3 3 0,j9 4 0 0 1 1 3,z8 2 2 4]) .ret)
theorem t138:Tryz.f138.body.bind (trC e138)=some c138:=by kernel_rfl
theorem r138:Tryz.f138.results.toList.mapM (trR Tryz.prog)=some [.cell 2 false 2]:=by kernel_rfl
theorem fn138{args:List Value}{M:Mem}{post:Value→Mem→Prop}(hl:args.length≤5)(h:VC e138 c138 (fnQ [.cell 2 false 2] post) (initS args 5) M):Fn Tryz.prog 138 args M post:=
 Fn.of' (E:=e138) Tryz.func138 t138 rfl r138 mixed hl h
noncomputable def e134:Env:=⟨Tryz.prog,[2],5,[]⟩
noncomputable def c134:C:=
 .seq (.reg [qR 2 0 0]) (.seq (.reg [z3 3 0,j9 4 0 0 0 1 3,z8 2 2 4]) .ret)
theorem t134:Tryz.f134.body.bind (trC e134)=some c134:=by kernel_rfl
theorem r134:Tryz.f134.results.toList.mapM (trR Tryz.prog)=some [.cell 2 false 2]:=by kernel_rfl
theorem fn134{args:List Value}{M:Mem}{post:Value→Mem→Prop}(hl:args.length≤5)(h:VC e134 c134 (fnQ [.cell 2 false 2] post) (initS args 5) M):Fn Tryz.prog 134 args M post:=
 Fn.of' (E:=e134) Tryz.func134 t134 rfl r134 mixed hl h
noncomputable def e142:Env:=⟨Tryz.prog,[],41,[(1,11),(6,11)]⟩
noncomputable def c142:C:=
 .seq (.reg [zJ 4]) (.seq (.seq (.dreg 11 [z3 5 0,z6 6 5,z4 7 1 6,z5 8 1 7,z3 9 1,q6 10 8 9,z3 11 0,z6 12 11,z4 13 0 12,z5 14 1 13,qV 15 10 14]) (.cond (.tmp 15) (.seq (.reg [za 4]) .ret) .skip)) (.seq (.seq (.reg [z3 16 0,z6 17 16,z4 18 12 17,z5 19 1 18,qO 20 19 1000000000]) (.cond (.tmp 20) (.reg [z3 21 0,z6 22 21,z4 23 12 22,z5 24 1 23,zP 25 24 1,z6 26 21,z4 27 12 26,z8 1 27 25]) .skip))
 (.seq (.reg [z3 28 0,zM 29 55 28]) (.seq (.dreg 11 [z3 30 0,z6 31 30,z4 32 1 31,z5 33 1 32,z3 34 1,q6 35 33 34,z3 36 0,z6 37 36,z4 38 0 37,z5 39 1 38,qV 40 35 39,z3 4 40]) .ret))))
theorem t142:Tryz.f142.body.bind (trC e142)=some c142:=by kernel_rfl
theorem r142:Tryz.f142.results.toList.mapM (trR Tryz.prog)=some [.tmp 4]:=by kernel_rfl
theorem fn142{args:List Value}{M:Mem}{post:Value→Mem→Prop}(hl:args.length≤41)(h:VC e142 c142 (fnQ [.tmp 4] post) (initS args 41) M):Fn Tryz.prog 142 args M post:=
 Fn.of' (E:=e142) Tryz.func142 t142 rfl r142 mixed hl h
noncomputable def e143:Env:=⟨Tryz.prog,[],37,[(2,9)]⟩
noncomputable def c143:C:=
 .seq (.seq (.reg [z3 4 0,z6 5 4,z4 6 9 5,z5 7 1 6,z7 8 7 0,z3 9 8,zN 10 9 1,zx 11 9 10 0,zO 12 9 11]) (.cond (.tmp 12) .ret .skip)) (.seq (.seq (.reg [z3 13 0,z6 14 13,z4 15 5 14,z5 16 1 15,z7 17 16 0]) (.cond (.tmp 17) (.seq (.seq (.dreg 9 [z3 18 0,z6 19 18,z4 20 1 19,z5 21 1 20,z3 22 0,z6 23 22,z4 24 10 23,z5 25 1 24,qV 26 21 25]) (.cond (.tmp 26) .ret .skip)) (.reg [z3 27 0,zM 28 60 27]))
 .skip)) (.reg [z3 29 0,z3 30 0,z6 31 30,z4 32 9 31,z5 33 1 32,z3 34 1,⟨some 35,none,.bin .mul (.tmp 33) (.tmp 34)⟩,zU 36 50 29 35]))
theorem t143:Tryz.f143.body.bind (trC e143)=some c143:=by kernel_rfl
theorem r143:Tryz.f143.results.toList.mapM (trR Tryz.prog)=some []:=by kernel_rfl
theorem fn143{args:List Value}{M:Mem}{post:Value→Mem→Prop}(hl:args.length≤37)(h:VC e143 c143 (fnQ [] post) (initS args 37) M):Fn Tryz.prog 143 args M post:=
 Fn.of' (E:=e143) Tryz.func143 t143 rfl r143 mixed hl h
noncomputable def e145:Env:=⟨Tryz.prog,[],30,[]⟩
noncomputable def c145:C:=
 .block 0 (.loop (.seq (.seq (.reg [z3 6 0,z6 7 6,z4 8 4 7,z5 9 1 8,z3 10 1,z9 11 8 9 10,z4 12 7 11,z5 13 1 12,zI 14 13,z3 15 2,⟨some 16,none,.bin .gtr (.tmp 14) (.tmp 15)⟩]) (.cond (.tmp 16) .skip (.exit 0))) (.block 1 (.reg [z3 17 0,z3 18 1,z3 19 0,z6 20 19,z4 21 4 20,z5 22 1 21,z3 23 1,z9 24 8 22 23,z4 25 7 24,z5 26 1 25,zI 27 26,ze 28 27 1,qU 29 79 17 18 28]))))
theorem t145:Tryz.f145.body.bind (trC e145)=some c145:=by kernel_rfl
theorem r145:Tryz.f145.results.toList.mapM (trR Tryz.prog)=some []:=by kernel_rfl
theorem fn145{args:List Value}{M:Mem}{post:Value→Mem→Prop}(hl:args.length≤30)(h:VC e145 c145 (fnQ [] post) (initS args 30) M):Fn Tryz.prog 145 args M post:=
 Fn.of' (E:=e145) Tryz.func145 t145 rfl r145 mixed hl h
noncomputable def e139:Env:=⟨Tryz.prog,[4],34,[]⟩
noncomputable def c139:C:=
 .seq (.reg [qR 4 0 0]) (.seq (.reg [z3 6 0,zM 7 38 6,z3 5 7]) (.seq (.seq (.reg [z3 8 5,qO 9 8 0]) (.cond (.tmp 9) (.seq (.reg [z3 10 0,z6 11 10,z4 12 3 11,z5 13 1 12,z3 14 1,⟨some 15,none,.build [.int .i64 0,.int .i64 0,.int .i64 0] []⟩,z9 16 3 13 14,z8 3 16 15]) (.seq (.reg [zk 17 138 0,z8 2 4 17]) .ret)) .skip)) (.seq (.reg [z3 18 0,z6 19 18,z4 20 4 19,z5 21 1 20,z3 22 5,z9 23 8 21 22,z4
 24 3 23,zo 1 24 3]) (.seq (.reg [z3 25 0,z6 26 25,z4 27 3 26,z5 28 1 27,z3 29 1,z3 30 5,qJ 31 0 0 0 0 1 2 2 1 30,z9 32 3 28 29,z8 3 32 31]) (.seq (.reg [zk 33 138 1,z8 2 4 33]) .ret)))))
theorem t139:Tryz.f139.body.bind (trC e139)=some c139:=by kernel_rfl
theorem r139:Tryz.f139.results.toList.mapM (trR Tryz.prog)=some [.cell 4 false 2]:=by kernel_rfl
theorem fn139{args:List Value}{M:Mem}{post:Value→Mem→Prop}(hl:args.length≤34)(h:VC e139 c139 (fnQ [.cell 4 false 2] post) (initS args 34) M):Fn Tryz.prog 139 args M post:=
 Fn.of' (E:=e139) Tryz.func139 t139 rfl r139 mixed hl h
noncomputable def e136:Env:=⟨Tryz.prog,[3,4,7],136,[(7,12),(9,13),(11,9),(13,11),(16,11),(19,9),(20,12),(21,9)]⟩
noncomputable def c136:C:=
 .seq (.reg [zY 3 1,qR 4 0 0]) (.seq (.reg [z4 8 1 3,z5 9 1 8,z3 5 9]) (.seq (.seq (.reg [z4 10 0 3,z5 11 1 10,z7 12 11 5,z3 13 12,zG 14 13 0 3,zK 15 13 1 14,zx 16 13 15 6,zO 17 13 16]) (.cond (.tmp 17) (.reg [z4 18 2 3,z5 19 1 18,z3 5 19]) .skip)) (.seq (.seq (.reg [z3 20 0,z6 21 20,z4 22 3 21,z5 23 1 22,z3 24 5,z9 25 3 23 24,z4 26 0 25,z5 27 1 26,zj 28 27 2]) (.cond (.tmp 28) (.seq (.reg [
 zk 29 134 2,z8 2 4 29]) .ret) .skip)) (.seq (.reg [z3 30 0,z6 31 30,z4 32 3 31,z5 33 1 32,z3 34 5,z9 35 3 33 34,z4 36 2 35,z5 37 1 36,z3 6 37]) (.seq (.seq (.dreg 12 [z4 38 3 3,z5 39 1 38,z3 40 0,z6 41 40,z4 42 4 41,z5 43 1 42,z3 44 6,z9 45 8 43 44,z4 46 7 45,z5 47 1 46,zI 48 47,qg 49 39 48]) (.cond (.tmp 49) (.seq (.reg [zk 50 134 3,z8 2 4 50]) .ret) .skip)) (.seq (.dreg 13 [z3 51 0,z6 52 51,
 z4 53 4 52,z5 54 1 53,z3 55 6,z9 56 8 54 55,z4 57 7 56,z5 58 1 57,z4 59 3 3,z5 60 1 59,z9 61 6 58 60,zA 62 6 61,q7 7 0 0 0 0 0 0,z8 6 7 62]) (.seq (.seq (.reg [z4 63 0 3,z5 64 1 63]) (.block 0 (.seq (.reg [z7 75 64 5,z3 74 75]) (.cond (.tmp 74) (.seq (.dreg 11 [z3 76 0,z6 77 76,z4 78 3 77,z5 79 1 78,z4 80 1 3,z5 81 1 80,z3 82 0,z4 83 0 7,zA 84 3 83,qW 85 122 82 84,z9 86 3 79 81,z8 3 86 85])
 (.seq (.reg [zk 87 138 0,z8 2 4 87]) .ret)) (.seq (.reg [z7 89 64 6,z3 88 89]) (.cond (.tmp 88) (.seq (.dreg 11 [z3 90 0,z6 91 90,z4 92 3 91,z5 93 1 92,z4 94 1 3,z5 95 1 94,z3 96 0,z4 97 3 7,zA 98 3 97,qW 99 122 96 98,z9 100 3 93 95,z8 3 100 99]) (.seq (.reg [zk 101 138 0,z8 2 4 101]) .ret)) (.seq (.reg [z7 103 64 7,z3 102 103]) (.cond (.tmp 102) (.dreg 9 [z3 104 0,z6 105 104,z4 106 3 105,
 z5 107 1 106,z4 108 2 3,z5 109 1 108,z9 110 3 107 109,zA 111 3 110,z4 112 0 7,z8 3 112 111]) (.dreg 9 [z3 65 0,z6 66 65,z4 67 3 66,z5 68 1 67,z4 69 2 3,z5 70 1 69,z9 71 3 68 70,zA 72 3 71,z4 73 3 7,z8 3 73 72]))))))))) (.seq (.dreg 12 [z3 113 0,z6 114 113,z4 115 4 114,z5 116 1 115,z3 117 6,z9 118 8 116 117,z4 119 7 118,z5 120 1 119,z4 121 3 3,z5 122 1 121,zA 123 6 7,z9 124 6 120 122,z8 6 124
 123]) (.seq (.dreg 9 [z3 125 0,z3 126 0,z6 127 126,z4 128 3 127,z5 129 1 128,z4 130 2 3,z5 131 1 130,z9 132 3 129 131,zA 133 3 132,zU 134 128 125 133]) (.seq (.reg [zk 135 138 0,z8 2 4 135]) .ret))))))))))
theorem t136:Tryz.f136.body.bind (trC e136)=some c136:=by kernel_rfl
theorem r136:Tryz.f136.results.toList.mapM (trR Tryz.prog)=some [.cell 4 false 2]:=by kernel_rfl
theorem fn136{args:List Value}{M:Mem}{post:Value→Mem→Prop}(hl:args.length≤136)(h:VC e136 c136 (fnQ [.cell 4 false 2] post) (initS args 136) M):Fn Tryz.prog 136 args M post:=
 Fn.of' (E:=e136) Tryz.func136 t136 rfl r136 mixed hl h
noncomputable def e137:Env:=⟨Tryz.prog,[3,4,5],89,[(1,9),(10,10),(12,10),(16,10),(18,11)]⟩
noncomputable def c137:C:=
 .seq (.reg [zY 3 1,qR 4 0 0]) (.seq (.dreg 9 [z3 6 0,z6 7 6,z4 8 3 7,z5 9 1 8,z4 10 1 3,z5 11 1 10,z9 12 3 9 11,zA 13 3 12,zt 5 0 0 0,z8 3 5 13]) (.seq (.seq (.reg [z4 14 0 5,z5 15 1 14,zj 16 15 2]) (.cond (.tmp 16) (.seq (.reg [zk 17 134 2,z8 2 4 17]) .ret) .skip)) (.seq (.seq (.reg [z4 18 0 3,z5 19 1 18]) (.block 0 (.seq (.reg [z7 21 19 9,z3 20 21]) (.cond (.tmp 20) (.seq (.reg [z3 22 0,
 zA 23 5 3,zU 24 144 22 23,z8 2 4 24]) .ret) (.seq (.reg [z7 26 19 10,z3 25 26]) (.cond (.tmp 25) (.reg [z3 27 0,z4 28 2 5,z5 29 1 28,z4 30 3 3,z5 31 1 30,qU 32 145 27 29 31]) (.seq (.reg [z7 34 19 11,z3 33 34]) (.cond (.tmp 33) (.dreg 10 [z3 35 0,z6 36 35,z4 37 4 36,z5 38 1 37,z4 39 2 5,z5 40 1 39,z4 41 3 3,z5 42 1 41,z9 43 8 38 40,z4 44 2 43,z8 1 44 42]) (.seq (.reg [z7 46 19 12,z3 45 46])
 (.cond (.tmp 45) (.seq (.dreg 10 [z3 47 0,z6 48 47,z4 49 4 48,z5 50 1 49,z4 51 2 5,z5 52 1 51,z4 53 3 3,z5 54 1 53,z9 55 8 50 52,z4 56 3 55,z8 1 56 54]) (.seq (.reg [z4 57 3 3,z5 58 1 57,z7 59 58 1]) (.cond (.tmp 59) (.reg [z3 60 0,zA 61 3 5,zU 62 128 60 61]) .skip))) (.seq (.reg [z7 64 19 16,z3 63 64]) (.cond (.tmp 63) (.seq (.dreg 10 [z3 65 0,z6 66 65,z4 67 4 66,z5 68 1 67,z4 69 2 5,z5 70
 1 69,z9 71 8 68 70,z4 72 1 71,z5 73 1 72,qM 74 138 73,z8 2 4 74]) .ret) (.seq (.reg [z7 76 19 17,z3 75 76]) (.cond (.tmp 75) (.seq (.dreg 11 [z3 77 0,z6 78 77,z4 79 4 78,z5 80 1 79,z4 81 2 5,z5 82 1 81,z9 83 8 80 82,z4 84 7 83,z5 85 1 84,zI 86 85,qM 87 138 86,z8 2 4 87]) .ret) .skip)))))))))))))) (.seq (.reg [zk 88 138 0,z8 2 4 88]) .ret))))
theorem t137:Tryz.f137.body.bind (trC e137)=some c137:=by kernel_rfl
theorem r137:Tryz.f137.results.toList.mapM (trR Tryz.prog)=some [.cell 4 false 2]:=by kernel_rfl
theorem fn137{args:List Value}{M:Mem}{post:Value→Mem→Prop}(hl:args.length≤89)(h:VC e137 c137 (fnQ [.cell 4 false 2] post) (initS args 89) M):Fn Tryz.prog 137 args M post:=
 Fn.of' (E:=e137) Tryz.func137 t137 rfl r137 mixed hl h
noncomputable def e130:Env:=⟨Tryz.prog,[3,4],180,[(7,10),(9,8),(11,15),(25,17),(28,10),(30,10),(32,10)]⟩
noncomputable def c130:C:=
 .seq (.reg [zY 3 1,qR 4 0 0]) (.seq (.seq (.reg [zA 7 5 3,zM 8 133 7,zW 9 8]) (.cond (.tmp 9) (.seq (.reg [zk 10 134 1,z8 2 4 10]) .ret) .skip)) (.seq (.seq (.reg [z4 11 0 3,z5 12 1 11]) (.block 0 (.seq (.reg [z7 14 12 1,z3 13 14]) (.cond (.tmp 13) (.seq (.reg [z3 15 0,zA 16 5 3,zU 17 135 15 16,z8 2 4 17]) .ret) (.seq (.reg [z7 19 12 2,z3 18 19]) (.cond (.tmp 18) (.dreg 10 [z3 20 0,z6 21
 20,z4 22 3 21,z5 23 1 22,z4 24 1 3,z5 25 1 24,z4 26 4 3,z5 27 1 26,qJ 28 0 0 0 0 1 1 1 1 27,z9 29 3 23 25,z8 3 29 28]) (.seq (.reg [z7 31 12 3,z3 30 31]) (.cond (.tmp 30) (.dreg 8 [z3 32 0,z6 33 32,z4 34 3 33,z5 35 1 34,z4 36 1 3,z5 37 1 36,⟨some 38,none,.build [.int .i64 0,.int .i64 0,.int .i64 0] []⟩,z9 39 3 35 37,z8 3 39 38]) (.seq (.reg [z7 41 12 4,z3 40 41]) (.cond (.tmp 40) (.dreg 15 [
 z3 42 0,z6 43 42,z4 44 3 43,z5 45 1 44,z4 46 1 3,z5 47 1 46,z3 48 0,z6 49 48,z4 50 3 49,z5 51 1 50,z4 52 2 3,z5 53 1 52,z9 54 3 51 53,zA 55 3 54,z9 56 3 45 47,z8 3 56 55]) (.seq (.seq (.reg [z7 58 12 5,z3 57 58]) (.cond (.tmp 57) .skip (.seq (.reg [z7 59 12 6,z3 57 59]) (.cond (.tmp 57) .skip (.seq (.reg [z7 60 12 7,z3 57 60]) (.cond (.tmp 57) .skip (.reg [z7 61 12 8,z3 57 61]))))))) (.cond
 (.tmp 57) (.seq (.reg [z3 62 0,zA 63 5 3,zU 64 136 62 63,z8 2 4 64]) .ret) (.seq (.seq (.reg [z7 66 12 9,z3 65 66]) (.cond (.tmp 65) .skip (.seq (.reg [z7 67 12 10,z3 65 67]) (.cond (.tmp 65) .skip (.seq (.reg [z7 68 12 11,z3 65 68]) (.cond (.tmp 65) .skip (.seq (.reg [z7 69 12 12,z3 65 69]) (.cond (.tmp 65) .skip (.seq (.reg [z7 70 12 16,z3 65 70]) (.cond (.tmp 65) .skip (.reg [z7 71 12
 17,z3 65 71]))))))))))) (.cond (.tmp 65) (.seq (.reg [z3 72 0,zA 73 5 3,zU 74 137 72 73,z8 2 4 74]) .ret) (.seq (.reg [z7 76 12 13,z3 75 76]) (.cond (.tmp 75) (.seq (.dreg 17 [z3 77 0,z6 78 77,z4 79 3 78,z5 80 1 79,z4 81 1 3,z5 82 1 81,z9 83 3 80 82,zA 84 3 83,z3 85 0,z6 86 85,z4 87 3 86,z5 88 1 87,z4 89 2 3,z5 90 1 89,z9 91 3 88 90,zA 92 3 91,⟨some 93,none,.eqA false 3 (.tmp 84) (.tmp 92)⟩])
 (.cond (.tmp 93) (.seq (.reg [zk 94 138 1,z8 2 4 94]) .ret) .skip)) (.seq (.reg [z7 96 12 14,z3 95 96]) (.cond (.tmp 95) (.seq (.dreg 10 [z3 97 0,z6 98 97,z4 99 3 98,z5 100 1 99,z4 101 1 3,z5 102 1 101,z9 103 3 100 102,z4 104 0 103,z5 105 1 104,qM 106 138 105,z8 2 4 106]) .ret) (.seq (.reg [z7 108 12 15,z3 107 108]) (.cond (.tmp 107) (.seq (.seq (.dreg 10 [z3 109 0,z6 110 109,z4 111 3 110,z5
 112 1 111,z4 113 1 3,z5 114 1 113,z9 115 3 112 114,z4 116 0 115,z5 117 1 116,zj 118 117 1]) (.cond (.tmp 118) (.seq (.reg [zk 119 134 2,z8 2 4 119]) .ret) .skip)) (.seq (.dreg 10 [z3 120 0,z6 121 120,z4 122 3 121,z5 123 1 122,z4 124 1 3,z5 125 1 124,z9 126 3 123 125,z4 127 1 126,z5 128 1 127,j9 129 0 0 1 1 128,z8 2 4 129]) .ret)) (.seq (.reg [z7 131 12 18,z3 130 131]) (.cond (.tmp 130) (.seq
 (.reg [z3 133 0,zM 134 32 133,z3 132 134,qQ 135 132 0,qQ 136 132 1,z3 5 135,z3 6 136]) (.seq (.reg [z3 137 6,zM 138 138 137,z8 2 4 138]) .ret)) (.seq (.reg [z7 140 12 19,z3 139 140]) (.cond (.tmp 139) (.seq (.reg [z3 141 0,z4 142 1 3,z5 143 1 142,zU 144 139 141 143,z8 2 4 144]) .ret) (.seq (.reg [z7 146 12 20,z3 145 146]) (.cond (.tmp 145) (.seq (.reg [z3 147 0,z3 148 0,zM 149 77 148,zU 150
 91 147 149,zM 151 138 150,z8 2 4 151]) .ret) (.seq (.reg [z7 153 12 21,z3 152 153]) (.cond (.tmp 152) (.seq (.reg [z3 154 0,zM 155 54 154,zM 156 138 155,z8 2 4 156]) .ret) (.seq (.reg [z7 158 12 22,z3 157 158]) (.cond (.tmp 157) (.reg [z3 159 0,z4 160 3 3,z5 161 1 160,zU 162 50 159 161]) (.seq (.reg [z7 164 12 23,z3 163 164]) (.cond (.tmp 163) (.seq (.reg [z3 165 0,z4 166 2 3,z5 167 1 166,
 z6 168 165,z4 169 9 168,z8 1 169 167]) (.reg [z3 170 0,z4 171 3 3,z5 172 1 171,z6 173 170,z4 174 10 173,z8 1 174 172])) (.seq (.reg [z7 176 12 24,z3 175 176]) (.cond (.tmp 175) (.reg [z3 177 0,zM 178 55 177]) .skip)))))))))))))))))))))))))))))))))) (.seq (.reg [zk 179 138 0,z8 2 4 179]) .ret)))
theorem t130:Tryz.f130.body.bind (trC e130)=some c130:=by kernel_rfl
theorem r130:Tryz.f130.results.toList.mapM (trR Tryz.prog)=some [.cell 4 false 2]:=by kernel_rfl
theorem fn130{args:List Value}{M:Mem}{post:Value→Mem→Prop}(hl:args.length≤180)(h:VC e130 c130 (fnQ [.cell 4 false 2] post) (initS args 180) M):Fn Tryz.prog 130 args M post:=
 Fn.of' (E:=e130) Tryz.func130 t130 rfl r130 mixed hl h
end Go.Proofs.YtcjmodomfilagaaGreat.E
set_option maxHeartbeats 8000000
namespace Go.Proofs.YtcjmodomfilagaaGreat.E
open Go
open Classical
def an(c n:Int):Value:=.agg #[.int .i64 c,.int .i64 n]
def actV(a:Act):Value:=.agg (av a).toArray
theorem l5fine_q{m:Mem}{n:Int}:Qt Tryz.prog 138 [.int .i64 n] m (an 0 n):=by
 refine qt_of (fnA_of (fun h=>fn138 (by simp) h) ?_)
 repeat' (first
  |(refine k_L ?_;first|refine a_p rfl ?_|(refine k_st ?_;refine g_sw rfl rfl rfl rfl (Nat.le_of_ble_eq_true rfl) ?_)|(refine k_al ?_;refine a_al ?_))
  |refine a_n ?_
  |(refine k_V ?_;first|refine v_seq ?_|refine v_reg ?_|refine v_ret ?_)
  |refine sk_zero ?_
  |refine sk_succ ?_
  |refine wk_nil ?_
  |refine wk_cons ?_)
 exact fa_q (by simp) (fun _ _=>rfl) rfl
theorem l5bad_q{m:Mem}{n:Int}:Qt Tryz.prog 134 [.int .i64 n] m (an n 0):=by
 refine qt_of (fnA_of (fun h=>fn134 (by simp) h) ?_)
 repeat' (first
  |(refine k_L ?_;first|refine a_p rfl ?_|(refine k_st ?_;refine g_sw rfl rfl rfl rfl (Nat.le_of_ble_eq_true rfl) ?_)|(refine k_al ?_;refine a_al ?_))
  |refine a_n ?_
  |(refine k_V ?_;first|refine v_seq ?_|refine v_reg ?_|refine v_ret ?_)
  |refine sk_zero ?_
  |refine sk_succ ?_
  |refine wk_nil ?_
  |refine wk_cons ?_)
 exact fa_q (by simp) (fun _ _=>rfl) rfl
def rA(op:Int):Bool:=decide (op=1∨op=2∨op=3∨op=9∨op=10∨op=11∨op=12∨op=14∨op=15∨op=16∨op=17∨op=19)||rB op
where rB (op:Int):Bool:=decide (op=4∨op=5∨op=6∨op=7∨op=8∨op=13)
theorem l5reg_q{m:Mem}{op:Int}:Qt Tryz.prog 140 [.int .i64 op] m (.tuple #[.bool (rA op),.bool (rA.rB op)]):=by
 refine qt_of (fnA_of (fun h=>fn140 (by simp) h) ?_)
 repeat' (first
  |(refine k_L ?_;refine a_p rfl ?_)
  |refine a_n ?_
  |(refine k_V ?_;first|refine v_seq ?_|refine v_reg ?_|refine v_bs ?_|refine v_ret ?_|refine v_skip ?_|(refine v_cd rfl (fun hb=>?_) (fun hb=>?_)<;>try(exfalso;omega)))
  |refine s_r ?_
  |refine b_r ?_)
 all_goals exact fa_q (by simp) (fun _ _=>rfl) (by unfold rA rA.rB;simp_all<;>omega)
theorem l5most_q{m:Mem}{op:Int}:Qt Tryz.prog 141 [.int .i64 op] m (.tuple #[.int .i64 (bMost op),.int .i64 (cMost op)]):=by
 refine qt_of (fnA_of (fun h=>fn141 (by simp) h) ?_)
 repeat' (first
  |(refine k_L ?_;refine a_p rfl ?_)
  |refine a_n ?_
  |(refine k_V ?_;first|refine v_seq ?_|refine v_reg ?_|refine v_bs ?_|refine v_ret ?_|refine v_skip ?_|(refine v_cd rfl (fun hb=>?_) (fun hb=>?_)<;>try(exfalso;omega)))
  |refine s_r ?_
  |refine b_r ?_)
 all_goals exact fa_q (by simp) (fun _ _=>rfl) (by unfold bMost cMost;simp_all<;>omega)
theorem rA_most(op:Int)(h:1≤op∧op≤24):aMost op=if rA op=true then 15 else 0:=by
 unfold aMost rA rA.rB
 by_cases e:op=18∨20≤op
 ·rw[if_pos e,if_neg]
  simp only[Bool.or_eq_true,decide_eq_true_eq]
  omega
 ·rw[if_neg e,if_pos]
  simp only[Bool.or_eq_true,decide_eq_true_eq]
  omega
theorem specActOk_q{m:Mem}{a:Act}:Qt Tryz.prog 133 [actV a] m (.bool (decide (ActP a))):=by
 refine qt_of (fnA_of (fun h=>fn133 (by simp) h) ?_)
 have hm:=rA_most a.op
 cases hr:rA a.op with
 |true=>
  rw[hr,if_pos rfl]at hm
  repeat' (first
   |(refine k_L ?_;first|refine a_p rfl ?_|(refine k_g ?_;first|refine a_gy rfl rfl ?_|refine a_gn rfl rfl ?_|refine a_gu rfl ?_|(refine a_gd rfl (fun hb=>?_) (fun hb=>?_)<;>try(exfalso;omega))|(refine a_gne rfl (fun hb=>?_) (fun hb=>?_)<;>try(exfalso;omega))|(refine a_gnd rfl (fun hb=>?_) (fun hb=>?_)<;>try(exfalso;omega)))|(refine k_bx ?_;refine a_bx rfl rfl ?_)|(refine k_c ?_;first|refine a_cq rfl (fun m hm=>qt_e l5reg_q (by rw[hr])) ?_|refine a_cq rfl (fun m hm=>spec.l1inQ) ?_|refine a_cq rfl (fun m hm=>l5most_q) ?_))
   |refine a_n ?_
   |(refine k_V ?_;first|refine v_rv ?_|refine v_seq ?_|refine v_reg ?_|refine v_ret ?_|refine v_skip ?_|refine v_ct rfl ?_|refine v_cf rfl ?_|(refine v_cn rfl (fun hb=>?_) (fun hb=>?_)<;>try(exfalso;omega)))
   |refine s_r ?_)
  all_goals first
   |exact q_F (fun h=>by unfold ActP at h;omega)
   |exact q_B (fun _ _=>rfl) (by unfold ActP;rw[decide_eq_true_eq];omega)
 |false=>
  rw[hr,if_neg (by simp)]at hm
  repeat' (first
   |(refine k_L ?_;first|refine a_p rfl ?_|(refine k_g ?_;first|refine a_gy rfl rfl ?_|refine a_gn rfl rfl ?_|refine a_gu rfl ?_|(refine a_gd rfl (fun hb=>?_) (fun hb=>?_)<;>try(exfalso;omega))|(refine a_gne rfl (fun hb=>?_) (fun hb=>?_)<;>try(exfalso;omega)))|(refine k_bx ?_;refine a_bx rfl rfl ?_)|(refine k_c ?_;first|refine a_cq rfl (fun m hm=>qt_e l5reg_q (by rw[hr])) ?_|refine a_cq rfl (fun m hm=>spec.l1inQ) ?_|refine a_cq rfl (fun m hm=>l5most_q) ?_))
   |refine a_n ?_
   |(refine k_V ?_;first|refine v_rv ?_|refine v_seq ?_|refine v_reg ?_|refine v_ret ?_|refine v_skip ?_|refine v_ct rfl ?_|refine v_cf rfl ?_|(refine v_cn rfl (fun hb=>?_) (fun hb=>?_)<;>try(exfalso;omega)))
   |refine s_r ?_)
  all_goals first
   |exact q_F (fun h=>by unfold ActP at h;omega)
   |exact q_B (fun _ _=>rfl) (by unfold ActP;rw[decide_eq_true_eq];omega)
theorem reachL_at{H:Heap}{i:Nat}(h:(reachL H)[i]?=some true):Reached H i:=by
 unfold reachL at h
 rw[List.getElem?_map]at h
 by_cases hi:i<H.cells.length
 ·rw[List.getElem?_range hi]at h
  simpa using h
 ·rw[List.getElem?_eq_none (by simp;omega)]at h
  cases h
theorem l2live_a{m:Mem}{a:Nat}{x:HX}(h:Has m (hp a x))(h1:R1 x.H)(h2:R2 x.H)(h4:R4 x.H):FnA Tryz.prog 54 [ptr a] [ro m] (fun v As=>v=.int .i64 (sumT x.H (reachL x.H) x.xs.length)∧As=[ro m]):=by
 refine fnA_of (fun h=>fn54 (by simp) h) ?_
 repeat' (first
  |(refine k_L ?_;refine a_p rfl ?_)
  |refine a_n ?_
  |(refine k_V ?_;first|refine v_seq ?_|refine v_reg ?_))
 refine g_c rfl (l2reach_a h h1 h2 h4) (fun v As' hq=>?_)
 obtain⟨sd,kd,Q,rfl,rfl⟩:=hq
 repeat' (first
  |(refine k_L ?_;refine a_p rfl ?_)
  |refine a_n ?_
  |(refine k_V ?_;first|refine v_seq ?_|refine v_reg ?_))
 refine g_c rfl (l2sum_a (L:=reachL x.H) h h1 h2 (by rw[reachL_len,x.len]) (fun i c hi hc=>?_)) (fun v As' hq=>?_)
 ·obtain⟨c',hc',hs,_⟩:=reached_ok h2 h4 (reachL_at hi)
  rw[hc]at hc';cases hc';exact hs
 obtain⟨rfl,rfl⟩:=hq
 repeat' (first
  |(refine k_L ?_;refine a_p rfl ?_)
  |refine a_n ?_
  |(refine k_V ?_;refine v_ret ?_))
 exact fa_r (As':=[ro m]) (fun _ _=>rfl) (Pm.ent pmt) ⟨rfl,rfl⟩
section
variable {α:Type} {g:Int→α→α} {w:α→Int}
def mkG(g:Int→α→α)(w:α→Int):Int→List α→List α
 |_,[]=>[]
 |k,x::r=>g k x::mkG g w (k+w x) r
def mkT(w:α→Int):Int→List α→Int
 |k,[]=>k
 |k,x::r=>mkT w (k+w x) r
end
theorem OffL.refl(M:Mem)(L:List Nat):OffL M L M:=fun _ _ h _=>h
theorem OffL.trans{M0 M M':Mem}{L:List Nat}(h:OffL M0 L M)(o:OffL M L M'):OffL M0 L M':=fun c k e hc=>o c k (h c k e hc) hc
theorem OffL.mono{M M':Mem}{L L':List Nat}(h:OffL M L M')(l:∀b,b∈L→b∈L'):OffL M L' M':=fun c k e hc=>h c k e (fun m=>hc (l c m))
theorem OffL.le{M0 M M':Mem}{L:List Nat}(h:OffL M L M')(l:M0.le M)(hn:∀b,b∈L→M0 b=none):M0.le M':=fun c k e=>h c k (l c k e) (fun m=>by rw[hn c m]at e;cases e)
def gP(k:Int)(_:Pair):Pair:=⟨⟨k,k+1,k+1+1⟩,⟨k+1+1+1,k+1+1+1+1,k+1+1+1+1+1⟩⟩
def wW(_:Word):Int:=3
def wP(_:Pair):Int:=6
def wI(_:Int):Int:=1
theorem mkT_const{α:Type}{w:α→Int}{c:Int}(h:∀x,w x=c):∀(xs:List α) (k:Int),mkT w k xs=k+c*xs.length
 |[],k=>by simp[mkT]
 |x::r,k=>by simp only[mkT,List.length_cons];rw[mkT_const h r,h,Int.natCast_add,Int.mul_add];omega
end Go.Proofs.YtcjmodomfilagaaGreat.E
