/- A part of the proof. Conditions: none. -/
import Derived.Test.YtpleoapljeffiaaGreatDoorKE10
set_option linter.unusedVariables false
set_option linter.unusedSimpArgs false
namespace Go.Proofs.YtpleoapljeffiaaGreatDoor.E
open Go
open Classical
def Cell.zero:Cell:=⟨0,0,0,0,0,0,0,[]⟩
def Cell.col(c:Cell)(k:Int):Cell:={c with color:=k}
theorem set_gt{α:Type}{l:List α}{i j:Nat}{a c:α}(h:(l.set i a)[j]?=some c):(j=i∧c=a∧i<l.length)∨(j≠i∧l[j]?=some c):=by
 rw[List.getElem?_set]at h
 split at h
 ·rename_i e
  subst e
  split at h
  ·rename_i hl;cases h;exact .inl ⟨rfl,rfl,hl⟩
  ·cases h
 ·rename_i e;exact .inr ⟨fun e'=>e e'.symm,h⟩
def getL(cs:List Cell)(j:Int):Cell:=cs.getD j.toNat Cell.zero
theorem getC_L(H:Heap)(j:Int):H.getC j=getL H.cells j:=rfl
theorem getL_at{cs:List Cell}{i:Nat}{c:Cell}{j:Int}(h:cs[i]?=some c)(e:j.toNat=i):getL cs j=c:=by
 unfold getL;rw[e,List.getD_eq_getElem?_getD,h];rfl
theorem getL_set{cs:List Cell}{i:Nat}{a:Cell}{j:Int}(hi:i<cs.length):getL (cs.set i a) j=if j.toNat=i then a else getL cs j:=by
 unfold getL
 rw[List.getD_eq_getElem?_getD,List.getD_eq_getElem?_getD,List.getElem?_set]
 by_cases e:i=j.toNat
 ·rw[if_pos e,if_pos hi,if_pos e.symm];rfl
 ·rw[if_neg e,if_neg (fun h=>e h.symm)]
theorem getL_some{cs:List Cell}{j:Int}(h0:0≤j)(h1:j<cs.length):cs[j.toNat]?=some (getL cs j):=by
 unfold getL
 rw[List.getD_eq_getElem?_getD,List.getElem?_eq_getElem (by omega)];rfl
theorem units_set:∀{cs:List Cell} {i:Nat} {c d:Cell},cs[i]?=some c→unitsN (cs.set i d)=unitsN cs-c.units+d.units
 |[],i,c,d,h=>by simp at h
 |a::r,0,c,d,h=>by
  simp only[List.getElem?_cons_zero,Option.some.injEq]at h
  subst h
  simp only[unitsN,List.set_cons_zero,List.map_cons,List.sum_cons];omega
 |a::r,i+1,c,d,h=>by
  simp only[List.getElem?_cons_succ]at h
  have:=units_set (d:=d) h
  simp only[unitsN,List.set_cons_succ,List.map_cons,List.sum_cons]at this⊢;omega
theorem nodup_len:∀(n:Nat) (l:List Int),l.Nodup→(∀g,g∈l→0≤g∧g<n)→l.length≤n
 |0,l,_,h=>by
  cases l with
  |nil=>simp
  |cons a r=>have:=h a (by simp);omega
 |n+1,l,hn,h=>by
  by_cases hm:(n:Int)∈l
  ·have h1:=nodup_len n (l.erase n) (hn.erase _) (fun g hg=>by
    have h2:=h g (List.mem_of_mem_erase hg)
    have h3:=(hn.mem_erase_iff.1 hg).1
    omega)
   rw[List.length_erase_of_mem hm]at h1
   omega
  ·have:=nodup_len n l hn (fun g hg=>by
    have h2:=h g hg
    have:g≠n:=fun e=>hm (by rw[←e];exact hg)
    omega)
   omega
theorem R2.bare{H:Heap}(h:R2 H){i:Nat}{c:Cell}(hc:H.cells[i]?=some c)(hu:c.state≠1):Bare c:=by
 rcases h.each i c hc with h|h|h
 ·exact h.2.1
 ·exact h.2.1
 ·exact absurd h.1 hu
theorem R2.state{H:Heap}(h:R2 H){i:Nat}{c:Cell}(hc:H.cells[i]?=some c)(hp:H.phase<4):c.state=0∨c.state=1:=by
 rcases h.each i c hc with h|h|h
 ·exact .inl h.1
 ·have:=h.2.2.1;omega
 ·exact .inr h.1
theorem orig{l:List Cell}{i j:Nat}{c d e:Cell}(hc:l[i]?=some c)(hd:(l.set i e)[j]?=some d):∃d0,l[j]?=some d0∧(j=i∧d0=c∧d=e∨j≠i∧d=d0):=by
 rcases set_gt hd with⟨rfl,rfl,_⟩|⟨h,hd⟩
 ·exact⟨c,hc,.inl ⟨rfl,rfl,rfl⟩⟩
 ·exact⟨d,hd,.inr ⟨h,rfl⟩⟩
theorem col_state{H H':Heap}{i:Nat}{c:Cell}{k:Int}(hc:H.cells[i]?=some c)(e1:H'.cells=H.cells.set i (c.col k))(j:Int):(H'.getC j).state=(H.getC j).state∧(H'.getC j).pairs=(H.getC j).pairs∧(H'.getC j).to=(H.getC j).to:=by
 have hlt:=(List.getElem?_eq_some_iff.1 hc).1
 rw[getC_L,getC_L,e1,getL_set hlt]
 by_cases e:j.toNat=i
 ·rw[if_pos e,getL_at hc e];exact⟨rfl,rfl,rfl⟩
 ·rw[if_neg e];exact⟨rfl,rfl,rfl⟩
theorem col_r2{H H':Heap}{i:Nat}{c:Cell}{k:Int}(h:R2 H)(hc:H.cells[i]?=some c)(hu:c.state=1)(hk:0≤k∧k≤2)(e1:H'.cells=H.cells.set i (c.col k))(e2:H'.born=H.born)(e3:H'.phase=H.phase):R2 H':=by
 have gs:=fun j=>(col_state hc e1 j).1
 refine⟨fun j d hd=>?_,fun j l d e hd he hjl h1 h2=>?_,fun j l d e hd he hjl h1 h2=>?_⟩
 ·rw[e1]at hd
  obtain⟨d0,hd0,⟨rfl,rfl,rfl⟩|⟨_,rfl⟩⟩:=orig hc hd
  ·obtain⟨_,a2,a3,a4,a5,a6,a7⟩:=h.used hd0 hu
   exact .inr (.inr ⟨hu,a2,a3,a4,by rw[e2];exact a5,hk,a7⟩)
  ·rcases h.each j d hd0 with h1|h1|h1
   ·exact .inl h1
   ·obtain⟨a1,a2,a3,a4,a5,a6⟩:=h1
    exact .inr (.inl ⟨a1,a2,by rw[e3];exact a3,a4,by rw[gs];exact a5,fun hp k h0 h1=>by rw[gs];exact a6 (by rw[←e3];exact hp) k h0 h1⟩)
   ·obtain⟨a1,a2,a3,a4,a5,a6⟩:=h1
    exact .inr (.inr ⟨a1,a2,a3,a4,by rw[e2];exact a5,a6⟩)
 ·rw[e1]at hd he
  obtain⟨d0,hd0,x⟩:=orig hc hd
  obtain⟨f0,he0,y⟩:=orig hc he
  have b1:d.born=d0.born∧d.state=d0.state:=by rcases x with⟨_,rfl,rfl⟩|⟨_,rfl⟩<;>exact⟨rfl,rfl⟩
  have b2:e.born=f0.born∧e.state=f0.state:=by rcases y with⟨_,rfl,rfl⟩|⟨_,rfl⟩<;>exact⟨rfl,rfl⟩
  rw[b1.1,b2.1]
  exact h.born j l d0 f0 hd0 he0 hjl (b1.2▸h1) (b2.2▸h2)
 ·rw[e1]at hd he
  obtain⟨d0,hd0,x⟩:=orig hc hd
  obtain⟨f0,he0,y⟩:=orig hc he
  have b1:d.to=d0.to∧d.state=d0.state:=by rcases x with⟨_,rfl,rfl⟩|⟨_,rfl⟩<;>exact⟨rfl,rfl⟩
  have b2:e.to=f0.to∧e.state=f0.state:=by rcases y with⟨_,rfl,rfl⟩|⟨_,rfl⟩<;>exact⟨rfl,rfl⟩
  rw[b1.1,b2.1]
  exact h.to j l d0 f0 hd0 he0 hjl (b1.2▸h1) (b2.2▸h2)
theorem col_r3{H H':Heap}{i:Nat}{c:Cell}{k:Int}(h:R3 H)(hc:H.cells[i]?=some c)(e1:H'.cells=H.cells.set i (c.col k))(e2:H'.used=H.used)(e3:H'.room=H.room):R3 H':=by
 unfold R3 at*
 rw[e1,e2,e3,units_set hc]
 have:(c.col k).units=c.units:=rfl
 rw[this];omega
theorem leads_of{H H':Heap}{w:Word}{m m':Prop}(hs:∀j,(H'.getC j).state=(H.getC j).state)(hd:∀j,Doomed H' j→Doomed H j)(hm:m→m')(h:LeadsWell H w m):LeadsWell H' w m':=fun hk=>by
 rw[hs]
 rcases h hk with⟨a,b⟩|⟨a,b⟩
 ·exact .inl ⟨a,fun h=>b (hd _ h)⟩
 ·exact .inr ⟨a,hm b⟩
theorem formed_len{H H':Heap}{w:Word}(hl:H'.cells.length=H.cells.length)(h:Formed H w):Formed H' w:=by unfold Formed at*;rw[hl];exact h
theorem r4_frame{H H':Heap}(h:R4 H)(hl:H'.cells.length=H.cells.length)(hr:H'.regs=H.regs)(hs:∀j,(H'.getC j).state=(H.getC j).state)(hd:∀j,Doomed H' j↔Doomed H j)
 (ho:∀(j:Nat) d,H'.cells[j]?=some d→∃d0,H.cells[j]?=some d0∧d.pairs=d0.pairs∧(Root d→Root d0))
 (hm:∀(j k:Nat) d p,H.cells[j]?=some d→d.pairs[k]?=some p→Mended H' j k→Mended H j k):R4 H':=by
 refine⟨fun w hw=>?_,fun i c hc hdm hrt=>?_,fun i c hc k p hp=>?_⟩
 ·obtain⟨a,b⟩:=h.regs w (by rw[←hr];exact hw)
  exact⟨formed_len hl a,leads_of hs (fun j=>(hd j).1) id b⟩
 ·obtain⟨d0,h0,_,h2⟩:=ho i c hc
  exact h.roots i d0 h0 ((hd i).1 hdm) (h2 hrt)
 ·obtain⟨d0,h0,h1,_⟩:=ho i c hc
  rw[h1]at hp
  obtain⟨a,b,g⟩:=h.pairs i d0 h0 k p hp
  refine⟨formed_len hl a,formed_len hl b,fun hn=>?_⟩
  obtain⟨g1,g2⟩:=g (fun h'=>hn ((hd i).2 h'))
  have hmm:¬Mended H i k→¬Mended H' i k:=fun a b=>a (hm i k d0 p h0 hp b)
  exact⟨leads_of hs (fun j=>(hd j).1) hmm g1,leads_of hs (fun j=>(hd j).1) hmm g2⟩
theorem same_orig{H H':Heap}(e:H'.cells=H.cells):∀(j:Nat) d,H'.cells[j]?=some d→∃d0,H.cells[j]?=some d0∧d.pairs=d0.pairs∧(Root d→Root d0):=fun j d hd=>⟨d,by rw[←e];exact hd,rfl,id⟩
theorem col_orig{H H':Heap}{i:Nat}{c:Cell}{k:Int}(hc:H.cells[i]?=some c)(e:H'.cells=H.cells.set i (c.col k)):∀(j:Nat) d,H'.cells[j]?=some d→∃d0,H.cells[j]?=some d0∧d.pairs=d0.pairs∧(Root d→Root d0):=fun j d hd=>by
 rw[e]at hd
 obtain⟨d0,hd0,⟨rfl,rfl,rfl⟩|⟨_,rfl⟩⟩:=orig hc hd
 ·exact⟨_,hd0,rfl,id⟩
 ·exact⟨d,hd0,rfl,id⟩
theorem not_mend{H:Heap}(hp:H.phase≠4∧H.phase≠5)(i k:Int):Mended H i k:=⟨hp.1,fun h=>absurd h hp.2⟩
theorem not_doom{H:Heap}(hp:H.phase≠3)(i:Int):¬Doomed H i:=fun h=>hp h.1
theorem r6_0{H:Heap}(hp:H.phase=0∨H.phase=4):R6 H↔H.hand=0∧H.sub=0:=by unfold R6;rw[if_pos hp]
theorem r6_2{H:Heap}(hp:H.phase=2):R6 H↔H.hand=0∧(match H.gray with|[]=>H.sub=0|g::_=>H.sub≤(H.getC g).pairs.length):=by unfold R6;rw[if_neg (by omega),if_pos hp];exact Iff.rfl
theorem r6_5{H:Heap}(hp:H.phase=5):R6 H↔(if H.hand<H.cells.length∧(H.getC H.hand).state=1 then H.sub≤(H.getC H.hand).pairs.length else H.sub=0):=by unfold R6;rw[if_neg (by omega),if_neg (by omega),if_pos hp]
theorem r6_e{H:Heap}(hp:H.phase≠0∧H.phase≠4∧H.phase≠2∧H.phase≠5):R6 H↔H.sub=0:=by unfold R6;rw[if_neg (by omega),if_neg (by omega),if_neg (by omega)]
theorem r6_2s{H:Heap}(hp:H.phase=2)(hh:H.hand=0)(hs:H.sub=0):R6 H:=by
 refine(r6_2 hp).2 ⟨hh,?_⟩
 rw[hs]
 cases H.gray with
 |nil=>rfl
 |cons a r=>simp
theorem R7.nil{H:Heap}(hp:¬Marking H):R7 H:=fun h=>absurd h hp
theorem R8.nil{H:Heap}(hp:H.phase≠6):R8 H:=fun h=>absurd h hp
def Heap.gray1(H:Heap)(i:Nat)(c:Cell):Heap:={H with cells:=H.cells.set i (c.col 1),gray:=H.gray++[(i:Int)]}
theorem gray1_sound{H:Heap}{i:Nat}{c:Cell}(h:Sound H)(hm:Marking H)(hc:H.cells[i]?=some c)(hu:c.state=1)(hw:c.color=0):Sound (H.gray1 i c):=by
 have hp:H.phase≠3∧H.phase≠4∧H.phase≠5∧H.phase≠6:=by rcases hm with e|e<;>rw[e]<;>omega
 have hp12:H.phase=1∨H.phase=2:=hm
 have hlt:=(List.getElem?_eq_some_iff.1 hc).1
 have hcs:=fun j=>col_state (H:=H) (H':=H.gray1 i c) (k:=1) hc rfl j
 obtain⟨g1,g2,g3⟩:=h.r5.mark hm
 have hi:(i:Int)∉H.gray:=fun hi=>by
  have:=(g2 _ hi).2.2.2
  rw[getC_nat hc,hw]at this;omega
 have gn:(H.gray++[(i:Int)]).Nodup:=List.nodup_append.2 ⟨g1,by simp,fun a ha b hb=>by simp at hb;subst hb;exact fun e=>hi (by rw[←e];exact ha)⟩
 have gC:∀j:Int,(H.gray1 i c).getC j=if j.toNat=i then c.col 1 else H.getC j:=fun j=>by
  rw[getC_L,getC_L];exact getL_set hlt
 have gm:∀g,g∈H.gray++[(i:Int)]→0≤g∧g<H.cells.length:=fun g hg=>by
  rcases List.mem_append.1 hg with hg|hg
  ·exact⟨(g2 g hg).1,(g2 g hg).2.1⟩
  ·simp at hg;subst hg;omega
 have hl:(H.gray1 i c).cells.length=H.cells.length:=by simp[Heap.gray1]
 have w_of:∀w,White (H.gray1 i c) w→White H w:=fun w hw'=>by
  refine⟨hw'.1,?_⟩
  have:=hw'.2
  rw[gC]at this
  split at this
  ·simp[Cell.col]at this
  ·exact this
 refine⟨?_,col_r2 h.r2 hc hu (by omega) rfl rfl rfl,col_r3 h.r3 hc rfl rfl rfl,?_,⟨fun _=>⟨gn,fun g hg=>?_,fun j d hd hdc=>?_⟩,fun hn=>absurd hm hn⟩,?_,fun _ j d hd=>?_,R8.nil hp.2.2.2⟩
 ·refine{h.r1 with cells:=by rw[hl];exact h.r1.cells,gray:=?_,hand:=by rw[hl];exact h.r1.hand}
  rw[hl];exact nodup_len _ _ gn gm
 ·exact r4_frame h.r4 hl rfl (fun j=>(hcs j).1) (fun j=>⟨fun h=>absurd h.1 hp.1,fun h=>absurd h.1 hp.1⟩) (col_orig hc rfl) (fun _ _ _ _ _ _ _=>not_mend ⟨hp.2.1,hp.2.2.1⟩ _ _)
 ·refine⟨(gm g hg).1,by rw[hl];exact(gm g hg).2,?_⟩
  rw[gC]
  by_cases e:g.toNat=i
  ·rw[if_pos e];exact⟨hu,rfl⟩
  ·rw[if_neg e]
   rcases List.mem_append.1 hg with hg|hg
   ·exact(g2 g hg).2.2
   ·simp at hg;subst hg;simp at e
 ·show(j:Int)∈H.gray++[(i:Int)]
  obtain⟨d0,hd0,⟨rfl,rfl,rfl⟩|⟨_,rfl⟩⟩:=orig hc hd
  ·simp
  ·exact List.mem_append_left _ (g3 j d hd0 hdc)
 ·have h6:=h.r6
  unfold R6 at h6⊢
  show if H.phase=0∨H.phase=4 then _ else if H.phase=2 then _ else if H.phase=5 then _ else _
  by_cases p2:H.phase=2
  ·rw[if_neg (by omega),if_pos p2]at h6⊢
   refine⟨h6.1,?_⟩
   have h7:=h6.2
   show match H.gray++[(i:Int)]with|[]=>H.sub=0|g::_=>H.sub≤((H.gray1 i c).getC g).pairs.length
   cases hg:H.gray with
   |nil=>
    rw[hg]at h7
    simp only[List.nil_append]at h7⊢
    omega
   |cons a r=>
    rw[hg]at h7
    simp only[List.cons_append]at h7⊢
    rw[(hcs a).2.1];exact h7
  ·rw[if_neg (by omega),if_neg p2,if_neg (by omega)]at h6⊢
   exact h6
 ·obtain⟨d0,hd0,x⟩:=orig hc hd
  obtain⟨a,b⟩:=h.r7 hm j d0 hd0
  refine⟨fun hr hcol=>?_,fun k p hk hsc=>?_⟩
  ·rcases x with⟨rfl,rfl,rfl⟩|⟨_,rfl⟩
   ·simp[Cell.col]at hcol
   ·exact a hr hcol
  ·have hpr:d.pairs=d0.pairs:=by rcases x with⟨_,rfl,rfl⟩|⟨_,rfl⟩<;>rfl
   rw[hpr]at hk
   have:(k:Int)<scanned H j d0:=by
    unfold scanned at hsc⊢
    have hph:(H.gray1 i c).phase=H.phase:=rfl
    have hsub:(H.gray1 i c).sub=H.sub:=rfl
    have hhd:(H.gray1 i c).gray.head?=some (j:Int)→H.phase=2→(H.gray.head?=some (j:Int))∨H.sub=0:=by
     intro h1 h2
     have h6:=h.r6
     unfold R6 at h6
     rw[if_neg (by omega),if_pos h2]at h6
     have h1:(H.gray++[(i:Int)]).head?=some (j:Int):=h1
     cases hg:H.gray with
     |nil=>rw[hg]at h6;exact .inr h6.2
     |cons a r=>rw[hg]at h1;left;simpa using h1
    rw[hph,hsub]at hsc
    rcases x with⟨rfl,rfl,rfl⟩|⟨_,rfl⟩
    ·have hcol:¬(d0.col 1).color=2:=by simp[Cell.col]
     rw[if_neg hcol]at hsc
     rw[if_neg (show ¬d0.color=2 by omega)]
     split at hsc
     ·rename_i e
      rcases hhd e.2 e.1 with h'|h'
      ·rw[if_pos ⟨e.1,h'⟩];exact hsc
      ·omega
     ·omega
    ·by_cases e2:d.color=2
     ·rw[if_pos e2]at hsc⊢;exact hsc
     ·rw[if_neg e2]at hsc⊢
      split at hsc
      ·rename_i e
       rcases hhd e.2 e.1 with h'|h'
       ·rw[if_pos ⟨e.1,h'⟩];exact hsc
       ·omega
      ·omega
   obtain⟨b1,b2⟩:=b k p hk this
   exact⟨fun h=>b1 (w_of _ h),fun h=>b2 (w_of _ h)⟩
noncomputable def Heap.shadeH(H:Heap)(i:Nat):Heap:=if Marking H∧(H.getC i).color=0 then H.gray1 i (H.getC i)else H
structure Sh (H K:Heap):Prop where
 sound:Sound H→Sound K
 room:K.room=H.room
 used:K.used=H.used
 born:K.born=H.born
 regs:K.regs=H.regs
 phase:K.phase=H.phase
 hand:K.hand=H.hand
 sub:K.sub=H.sub
 per:K.per=H.per
 start:K.start=H.start
 rounds:K.rounds=H.rounds
 forced:K.forced=H.forced
 len:K.cells.length=H.cells.length
 cell:∀j:Int,(K.getC j).state=(H.getC j).state∧(K.getC j).pairs=(H.getC j).pairs∧(K.getC j).last=(H.getC j).last∧((H.getC j).color≠0→(K.getC j).color=(H.getC j).color)
 gray:H.gray<+:K.gray
theorem Sh.refl(H:Heap):Sh H H:=⟨id,rfl,rfl,rfl,rfl,rfl,rfl,rfl,rfl,rfl,rfl,rfl,rfl,fun _=>⟨rfl,rfl,rfl,fun _=>rfl⟩,List.prefix_refl _⟩
theorem Sh.trans{H K L:Heap}(h:Sh H K)(k:Sh K L):Sh H L:=
 ⟨fun s=>k.sound (h.sound s),k.room.trans h.room,k.used.trans h.used,k.born.trans h.born,k.regs.trans h.regs,k.phase.trans h.phase,k.hand.trans h.hand,k.sub.trans h.sub,k.per.trans h.per,k.start.trans h.start,k.rounds.trans h.rounds,k.forced.trans h.forced,k.len.trans h.len,
  fun j=>⟨(k.cell j).1.trans (h.cell j).1,(k.cell j).2.1.trans (h.cell j).2.1,(k.cell j).2.2.1.trans (h.cell j).2.2.1,fun hc=>by
   have:=(h.cell j).2.2.2 hc
   rw[(k.cell j).2.2.2 (by rw[this];exact hc),this]⟩,h.gray.trans k.gray⟩
theorem shadeH_ok{H:Heap}{i:Nat}(hi:i<H.cells.length)(hu:(H.getC i).state=1):Sh H (H.shadeH i)∧(Marking H→((H.shadeH i).getC i).color≠0):=by
 unfold Heap.shadeH
 have hc:=getL_some (cs:=H.cells) (j:=i) (by omega) (by omega)
 rw[show((i:Int)).toNat=i by omega,←getC_L]at hc
 split
 ·rename_i hm
  refine⟨⟨fun h=>gray1_sound h hm.1 hc hu hm.2,rfl,rfl,rfl,rfl,rfl,rfl,rfl,rfl,rfl,rfl,rfl,by simp[Heap.gray1],fun j=>?_,List.prefix_append _ _⟩,fun _=>?_⟩
  ·have e:(H.gray1 i (H.getC i)).getC j=if j.toNat=i then(H.getC i).col 1 else H.getC j:=by rw[getC_L,getC_L];exact getL_set hi
   rw[e]
   split
   ·rename_i e
    have:H.getC j=H.getC i:=by rw[getC_L,getL_at hc e]
    rw[this]
    exact⟨rfl,rfl,rfl,fun h=>absurd hm.2 h⟩
   ·exact⟨rfl,rfl,rfl,fun _=>rfl⟩
  ·have e:(H.gray1 i (H.getC i)).getC i=if((i:Int)).toNat=i then(H.getC i).col 1 else H.getC i:=by rw[getC_L,getC_L];exact getL_set hi
   rw[e,if_pos (by omega)];simp[Cell.col]
 ·rename_i hm
  exact⟨Sh.refl H,fun h e=>hm ⟨h,e⟩⟩
theorem Sh.white{H K:Heap}(h:Sh H K){w:Word}(hw:¬White H w):¬White K w:=fun h'=>hw ⟨h'.1,by
 have:=h'.2
 by_cases e:(H.getC w.at_).color=0
 ·exact e
 ·rw[(h.cell _).2.2.2 e]at this;exact absurd this e⟩
noncomputable def Heap.shadeW(H:Heap)(w:Word):Heap:=if w.kind=2 then H.shadeH w.at_.toNat else H
theorem shadeW_ok{H:Heap}{w:Word}(hf:Formed H w)(hu:w.kind=2→(H.getC w.at_).state=1):Sh H (H.shadeW w)∧(Marking H→¬White (H.shadeW w) w):=by
 unfold Heap.shadeW
 split
 ·rename_i hk
  have ha:=hf.at hk
  have e:((w.at_.toNat:Nat):Int)=w.at_:=by omega
  obtain⟨a,b⟩:=shadeH_ok (H:=H) (i:=w.at_.toNat) (by omega) (by rw[e];exact hu hk)
  refine⟨a,fun hm hw=>b hm ?_⟩
  rw[e];exact hw.2
 ·rename_i hk
  exact⟨Sh.refl H,fun _ hw=>hk hw.1⟩
def Heap.enterH(H:Heap)(p:Int):Heap:={H with phase:=p,hand:=if p=6 then H.cells.length else 0,sub:=0}
theorem reg_used{H:Heap}(h:R4 H){w:Word}(hw:w∈H.regs):Formed H w∧(w.kind=2→(H.getC w.at_).state=1∧¬Doomed H w.at_):=by
 obtain⟨a,b⟩:=h.regs w hw
 refine⟨a,fun hk=>?_⟩
 rcases b hk with h|h
 ·exact h
 ·exact h.2.elim
theorem pair_used{H:Heap}(h:R4 H){i:Nat}{c:Cell}(hc:H.cells[i]?=some c){k:Nat}{p:Pair}(hp:c.pairs[k]?=some p)(hm:Mended H i k)(hd:¬Doomed H i){w:Word}(hw:w=p.key∨w=p.val):Formed H w∧(w.kind=2→(H.getC w.at_).state=1∧¬Doomed H w.at_):=by
 obtain⟨a,b,g⟩:=h.pairs i c hc k p hp
 obtain⟨g1,g2⟩:=g hd
 have key:∀w,LeadsWell H w (¬Mended H i k)→(w.kind=2→(H.getC w.at_).state=1∧¬Doomed H w.at_):=fun w hw hk=>by
  rcases hw hk with h|h
  ·exact h
  ·exact absurd hm h.2
 rcases hw with rfl|rfl
 ·exact⟨a,key _ g1⟩
 ·exact⟨b,key _ g2⟩
noncomputable def Heap.rootsU(H:Heap):Heap:=if H.hand=H.cells.length then H.enterH 2 else{(if Root (H.getC H.hand)then H.shadeH H.hand.toNat else H)with hand:=H.hand+1}
theorem enter2_sound{H:Heap}(h:Sound H)(hp:H.phase=1)(hh:H.hand=H.cells.length):Sound (H.enterH 2):=by
 have hm:Marking H:=.inl hp
 refine⟨{h.r1 with phase:=by simp[Heap.enterH],hand:=by simp[Heap.enterH],sub:=by simp[Heap.enterH]},⟨fun j d hd=>?_,h.r2.born,h.r2.to⟩,h.r3,?_,⟨fun _=>h.r5.mark hm,fun hn=>absurd (.inr rfl) hn⟩,?_,fun _ j d hd=>?_,R8.nil (by simp[Heap.enterH])⟩
 ·rcases h.r2.each j d hd with h1|h1|h1
  ·exact .inl h1
  ·have:=h1.2.2.1;omega
  ·exact .inr (.inr h1)
 ·exact r4_frame h.r4 rfl rfl (fun _=>rfl) (fun j=>⟨fun h=>by have:=h.1;simp[Heap.enterH]at this,fun h=>by have:=h.1;omega⟩) (same_orig rfl) (fun _ _ _ _ _ _ _=>not_mend (by omega) _ _)
 ·exact r6_2s rfl rfl rfl
 ·obtain⟨a,b⟩:=h.r7 hm j d hd
  have hj:j<H.cells.length:=(List.getElem?_eq_some_iff.1 hd).1
  refine⟨fun hr hc=>?_,fun k p hk hs=>?_⟩
  ·have:=(a hr hc).2;omega
  ·refine b k p hk ?_
   unfold scanned at hs⊢
   split at hs
   ·rename_i e;rw[if_pos e];exact hs
   ·split at hs
    ·have:(H.enterH 2).sub=0:=rfl
     omega
    ·omega
theorem hand1_sound{H:Heap}(h:Sound H)(hp:H.phase=1)(hh:H.hand<H.cells.length)(hr:Root (H.getC H.hand)→(H.getC H.hand).color≠0):Sound {H with hand:=H.hand+1}:=by
 have hm:Marking H:=.inl hp
 have h0:=h.r1.hand
 refine⟨{h.r1 with hand:=by show 0≤H.hand+1∧H.hand+1≤H.cells.length;omega},⟨fun j d hd=>h.r2.each j d hd,h.r2.born,h.r2.to⟩,h.r3,?_,⟨fun _=>h.r5.mark hm,fun hn=>absurd hm hn⟩,?_,fun _ j d hd=>?_,R8.nil (by show H.phase≠6;omega)⟩
 ·exact r4_frame h.r4 rfl rfl (fun _=>rfl) (fun j=>⟨fun h=>by have:=h.1;simp only at this;omega,fun h=>by have:=h.1;omega⟩) (same_orig rfl) (fun _ _ _ _ _ _ _=>not_mend (by omega) _ _)
 ·exact(r6_e (by simp only;omega)).2 ((r6_e (H:=H) (by omega)).1 h.r6)
 ·obtain⟨a,b⟩:=h.r7 hm j d hd
  refine⟨fun hr' hc=>⟨(a hr' hc).1,?_⟩,fun k p hk hs=>b k p hk hs⟩
  have h2:=(a hr' hc).2
  have:(j:Int)≠H.hand:=fun e=>by
   rw[←e,getC_nat (H:=H) hd]at hr
   exact hr hr' hc
  show H.hand+1≤j
  omega
theorem rootsU_sound{H:Heap}(h:Sound H)(hp:H.phase=1):Sound H.rootsU:=by
 unfold Heap.rootsU
 have h0:=h.r1.hand
 by_cases hh:H.hand=H.cells.length
 ·rw[if_pos hh];exact enter2_sound h hp hh
 ·rw[if_neg hh]
  by_cases hr:Root (H.getC H.hand)
  ·rw[if_pos hr]
   have e:((H.hand.toNat:Nat):Int)=H.hand:=by omega
   obtain⟨a,b⟩:=shadeH_ok (H:=H) (i:=H.hand.toNat) (by omega) (by rw[e];exact hr.1)
   have:=hand1_sound (a.sound h) (by rw[a.phase,hp]) (by rw[a.hand,a.len];omega) (fun _=>by rw[a.hand];rw[e]at b;exact b (.inl hp))
   rw[a.hand]at this
   exact this
  ·rw[if_neg hr]
   exact hand1_sound h hp (by omega) (fun h'=>absurd h' hr)
noncomputable def Heap.shadeL(H:Heap)(ws:List Word):Heap:=ws.foldl Heap.shadeW H
theorem shadeL_ok:∀(ws:List Word) (H:Heap),(∀w,w∈ws→Formed H w∧(w.kind=2→(H.getC w.at_).state=1))→Sh H (H.shadeL ws)∧(Marking H→∀w,w∈ws→¬White (H.shadeL ws) w)
 |[],H,_=>⟨Sh.refl H,fun _ w hw=>by cases hw⟩
 |w::r,H,h=>by
  obtain⟨a,b⟩:=shadeW_ok (h w (by simp)).1 (h w (by simp)).2
  obtain⟨k1,k2⟩:=shadeL_ok r (H.shadeW w) (fun v hv=>⟨formed_len a.len (h v (by simp[hv])).1,fun hk=>by rw[(a.cell _).1];exact(h v (by simp[hv])).2 hk⟩)
  refine⟨a.trans k1,fun hm v hv=>?_⟩
  have hm':Marking (H.shadeW w):=by unfold Marking at*;rw[a.phase];exact hm
  rcases List.mem_cons.1 hv with rfl|hv
  ·exact k1.white (b hm)
  ·exact k2 hm' v hv
def Heap.black(H:Heap)(g:Int)(r:List Int):Heap:={H with cells:=H.cells.set g.toNat ((H.getC g).col 2),gray:=r,sub:=0}
theorem black_sound{H:Heap}{g:Int}{r:List Int}(h:Sound H)(hp:H.phase=2)(hg:H.gray=g::r)(hs:(H.getC g).pairs.length≤H.sub):Sound (H.black g r):=by
 have hm:Marking H:=.inr hp
 obtain⟨g1,g2,g3⟩:=h.r5.mark hm
 obtain⟨b0,b1,b2,b3⟩:=g2 g (by rw[hg];simp)
 have hc:=getL_some (cs:=H.cells) b0 b1
 rw[←getC_L]at hc
 have hlt:=(List.getElem?_eq_some_iff.1 hc).1
 have e1:(H.black g r).cells=H.cells.set g.toNat ((H.getC g).col 2):=rfl
 have hcs:=fun j=>col_state hc e1 j
 have gC:∀j:Int,(H.black g r).getC j=if j.toNat=g.toNat then(H.getC g).col 2 else H.getC j:=fun j=>by
  rw[getC_L,getC_L];exact getL_set hlt
 rw[hg]at g1 g2 g3
 have hgr:=List.nodup_cons.1 g1
 have hl:(H.black g r).cells.length=H.cells.length:=by simp[Heap.black]
 have w_of:∀w,White (H.black g r) w→White H w:=fun w hw'=>by
  refine⟨hw'.1,?_⟩
  have:=hw'.2
  rw[gC]at this
  split at this
  ·simp[Cell.col]at this
  ·exact this
 refine⟨{h.r1 with cells:=by rw[hl];exact h.r1.cells,hand:=by rw[hl];exact h.r1.hand,gray:=?_,sub:=by simp[Heap.black]},col_r2 h.r2 hc b2 (by omega) e1 rfl rfl,col_r3 h.r3 hc e1 rfl rfl,?_,⟨fun _=>⟨hgr.2,fun a ha=>?_,fun j d hd hdc=>?_⟩,fun hn=>absurd hm hn⟩,?_,fun _ j d hd=>?_,R8.nil (by show H.phase≠6;omega)⟩
 ·have:=h.r1.gray
  rw[hg]at this
  rw[hl];simp only[List.length_cons]at this
  show r.length≤_
  omega
 ·exact r4_frame h.r4 hl rfl (fun j=>(hcs j).1) (fun j=>⟨fun h=>by have:H.phase=3:=h.1;omega,fun h=>by have:=h.1;omega⟩) (col_orig hc e1) (fun _ _ _ _ _ _ _=>not_mend (by omega) _ _)
 ·obtain⟨a0,a1,a2,a3⟩:=g2 a (by simp only[List.mem_cons];exact .inr ha)
  have hne:a.toNat≠g.toNat:=fun e=>hgr.1 (by rw[show g=a by omega];exact ha)
  refine⟨a0,by rw[hl];exact a1,?_⟩
  rw[gC,if_neg hne];exact⟨a2,a3⟩
 ·obtain⟨d0,hd0,⟨rfl,rfl,rfl⟩|⟨hne,rfl⟩⟩:=orig hc hd
  ·simp[Cell.col]at hdc
  ·rcases List.mem_cons.1 (g3 j d hd0 hdc)with h|h
   ·omega
   ·exact h
 ·exact r6_2s hp ((r6_2 hp).1 h.r6).1 rfl
 ·obtain⟨d0,hd0,x⟩:=orig hc hd
  obtain⟨a,b⟩:=h.r7 hm j d0 hd0
  refine⟨fun hr hcol=>?_,fun k p hk hsc=>?_⟩
  ·rcases x with⟨rfl,rfl,rfl⟩|⟨_,rfl⟩
   ·simp[Cell.col]at hcol
   ·exact a hr hcol
  ·have hpr:d.pairs=d0.pairs:=by rcases x with⟨_,rfl,rfl⟩|⟨_,rfl⟩<;>rfl
   rw[hpr]at hk
   have hsc2:(k:Int)<scanned H j d0:=by
    unfold scanned at hsc⊢
    rcases x with⟨rfl,rfl,rfl⟩|⟨_,rfl⟩
    ·have hkl:=(List.getElem?_eq_some_iff.1 hk).1
     rw[if_neg (by omega),if_pos ⟨hp,by rw[hg];simp;omega⟩]
     omega
    ·split at hsc
     ·rename_i e;rw[if_pos e];exact hsc
     ·split at hsc
      ·have:(H.black g r).sub=0:=rfl
       omega
      ·omega
   obtain⟨b1,b2⟩:=b k p hk hsc2
   exact⟨fun h=>b1 (w_of _ h),fun h=>b2 (w_of _ h)⟩
theorem sub1_sound{H:Heap}{g:Int}{r:List Int}{p:Pair}(h:Sound H)(hp:H.phase=2)(hg:H.gray=g::r)(hs:(H.getC g).pairs[H.sub.toNat]?=some p)(hk:¬White H p.key)(hv:¬White H p.val):Sound {H with sub:=H.sub+1}:=by
 have hm:Marking H:=.inr hp
 obtain⟨g1,g2,g3⟩:=h.r5.mark hm
 obtain⟨b0,b1,b2,b3⟩:=g2 g (by rw[hg];simp)
 have hc:=getL_some (cs:=H.cells) b0 b1
 rw[←getC_L]at hc
 have hlt:=(List.getElem?_eq_some_iff.1 hs).1
 have h0:=h.r1.sub
 have hpl:=(h.r2.used hc b2).2.2.2.2.2.2.2
 refine⟨{h.r1 with sub:=by show 0≤H.sub+1∧H.sub+1≤200;omega},⟨fun j d hd=>h.r2.each j d hd,h.r2.born,h.r2.to⟩,h.r3,?_,⟨fun _=>h.r5.mark hm,fun hn=>absurd hm hn⟩,?_,fun _ j d hd=>?_,R8.nil (by show H.phase≠6;omega)⟩
 ·exact r4_frame h.r4 rfl rfl (fun _=>rfl) (fun j=>⟨fun h=>by have:H.phase=3:=h.1;omega,fun h=>by have:=h.1;omega⟩) (same_orig rfl) (fun _ _ _ _ _ _ _=>not_mend (by omega) _ _)
 ·have h6:=(r6_2 hp).1 h.r6
  refine(r6_2 (H:={H with sub:=H.sub+1}) hp).2 ⟨h6.1,?_⟩
  show match H.gray with|[]=>H.sub+1=0|g::_=>H.sub+1≤((H.getC g).pairs.length:Int)
  rw[hg]
  show H.sub+1≤((H.getC g).pairs.length:Int)
  omega
 ·obtain⟨a,b⟩:=h.r7 hm j d hd
  refine⟨fun hr' hc=>a hr' hc,fun k q hq hsc=>?_⟩
  by_cases hlt2:(k:Int)<scanned H j d
  ·exact b k q hq hlt2
  ·unfold scanned at hsc hlt2
   by_cases e:d.color=2
   ·rw[if_pos e]at hsc hlt2;exact absurd hsc hlt2
   ·rw[if_neg e]at hsc hlt2
    by_cases e2:H.phase=2∧H.gray.head?=some (j:Int)
    ·rw[if_pos e2]at hsc hlt2
     have e3:g=j:=by have:=e2.2;rw[hg]at this;simpa using this
     rw[e3,getC_nat (H:=H) hd]at hs
     simp only at hsc
     have:H.sub.toNat=k:=by omega
     rw[this,hq]at hs
     cases hs
     exact⟨hk,hv⟩
    ·rw[if_neg e2]at hsc;omega
theorem enter3_sound{H:Heap}(h:Sound H)(hp:H.phase=2)(hg:H.gray=[])(hw:∀w,w∈H.regs→¬White H w):Sound (H.enterH 3):=by
 have hm:Marking H:=.inr hp
 obtain⟨_,_,g3⟩:=h.r5.mark hm
 rw[hg]at g3
 have nd:∀i,¬Doomed H i:=fun i=>not_doom (by omega) i
 refine⟨{h.r1 with phase:=by simp[Heap.enterH],hand:=by simp[Heap.enterH],sub:=by simp[Heap.enterH]},⟨fun j d hd=>?_,h.r2.born,h.r2.to⟩,h.r3,⟨fun w hwr=>?_,fun i c hc hd hr=>?_,fun i c hc k p hk=>?_⟩,⟨fun hn=>?_,fun _=>⟨hg,fun i c hc=>?_⟩⟩,?_,R7.nil ?_,R8.nil (by simp[Heap.enterH])⟩
 ·rcases h.r2.each j d hd with h1|h1|h1
  ·exact .inl h1
  ·have:=h1.2.2.1;omega
  ·exact .inr (.inr h1)
 ·obtain⟨a,b⟩:=reg_used h.r4 hwr
  exact⟨a,fun hk=>.inl ⟨(b hk).1,fun hd=>hw w hwr ⟨hk,hd.2.2.1⟩⟩⟩
 ·have hcol:c.color=0:=by have:=hd.2.2.1;rw[←getC_nat hc];exact this
  have:=(h.r7 hm i c hc).1 hr hcol
  exact this.1 hp
 ·obtain⟨a,b,_⟩:=h.r4.pairs i c hc k p hk
  refine⟨a,b,fun hn=>?_⟩
  have hu:c.state=1:=by
   rcases Decidable.em (c.state=1)with e|e
   ·exact e
   ·have:=(h.r2.bare hc e).2.2.2.2.2;rw[this]at hk;simp at hk
  have hcol:c.color=2:=by
   have h1:c.color≠0:=fun e=>hn ⟨rfl,by show(H.getC i).state=1;rw[getC_nat (H:=H) hc];exact hu,by show(H.getC i).color=0;rw[getC_nat (H:=H) hc];exact e,by show(0:Int)≤i;omega⟩
   have h2:c.color≠1:=fun e=>by have:=g3 i c hc e;cases this
   have h3:=(h.r2.used hc hu).2.2.2.2.2.1
   omega
  have hkl:=(List.getElem?_eq_some_iff.1 hk).1
  obtain⟨w1,w2⟩:=(h.r7 hm i c hc).2 k p hk (by unfold scanned;rw[if_pos hcol];omega)
  have m:=fun w hw=>(pair_used h.r4 hc hk (not_mend (by omega) _ _) (nd i) (w:=w) hw).2
  exact⟨fun hk=>.inl ⟨(m p.key (.inl rfl) hk).1,fun hd=>w1 ⟨hk,hd.2.2.1⟩⟩,fun hk=>.inl ⟨(m p.val (.inr rfl) hk).1,fun hd=>w2 ⟨hk,hd.2.2.1⟩⟩⟩
 ·rcases hn with e|e<;>simp[Heap.enterH]at e
 ·exact⟨fun e=>absurd (g3 i c hc e) (by simp),fun _=>⟨rfl,by show(0:Int)≤i;omega⟩⟩
 ·exact(r6_e (by simp[Heap.enterH])).2 rfl
 ·rintro(e|e)<;>simp[Heap.enterH]at e
noncomputable def Heap.markU(H:Heap):Heap:=match H.gray with
 |g::r=>match(H.getC g).pairs[H.sub.toNat]? with
  |some p=>{(H.shadeW p.key).shadeW p.val with sub:=H.sub+1}
  |none=>H.black g r
 |[]=>if ∃w,w∈H.regs∧White H w then H.shadeL H.regs else H.enterH 3
theorem markP{H:Heap}{g:Int}{r:List Int}{p:Pair}(h:Sound H)(hp:H.phase=2)(hg:H.gray=g::r)(hs:(H.getC g).pairs[H.sub.toNat]?=some p):
 (Formed H p.key∧(p.key.kind=2→(H.getC p.key.at_).state=1))∧Formed H p.val∧(p.val.kind=2→(H.getC p.val.at_).state=1):=by
 obtain⟨g1,g2,g3⟩:=h.r5.mark (.inr hp)
 obtain⟨b0,b1,b2,b3⟩:=g2 g (by rw[hg];simp)
 have hc:=getL_some (cs:=H.cells) b0 b1
 rw[←getC_L]at hc
 have m:=fun w hw=>pair_used h.r4 hc hs (not_mend (by omega) _ _) (not_doom (by omega) _) (w:=w) hw
 exact⟨⟨(m _ (.inl rfl)).1,fun hk=>((m _ (.inl rfl)).2 hk).1⟩,(m _ (.inr rfl)).1,fun hk=>((m _ (.inr rfl)).2 hk).1⟩
theorem markP2{H:Heap}{g:Int}{r:List Int}{p:Pair}(h:Sound H)(hp:H.phase=2)(hg:H.gray=g::r)(hs:(H.getC g).pairs[H.sub.toNat]?=some p):
 Sh H ((H.shadeW p.key).shadeW p.val)∧¬White ((H.shadeW p.key).shadeW p.val) p.key∧¬White ((H.shadeW p.key).shadeW p.val) p.val:=by
 have hm:Marking H:=.inr hp
 obtain⟨⟨k1,k2⟩,v1,v2⟩:=markP h hp hg hs
 obtain⟨a,b⟩:=shadeW_ok k1 k2
 obtain⟨c,d⟩:=shadeW_ok (H:=H.shadeW p.key) (w:=p.val) (formed_len a.len v1) (fun hk=>by rw[(a.cell _).1];exact v2 hk)
 exact⟨a.trans c,c.white (b hm),d (by unfold Marking at*;rw[a.phase];exact hm)⟩
theorem markU_sound{H:Heap}(h:Sound H)(hp:H.phase=2):Sound H.markU:=by
 have hm:Marking H:=.inr hp
 unfold Heap.markU
 cases hg:H.gray with
 |nil=>
  simp only
  have hr:=fun w hw=>reg_used h.r4 (w:=w) hw
  by_cases hx:∃w,w∈H.regs∧White H w
  ·rw[if_pos hx]
   exact(shadeL_ok H.regs H (fun w hw=>⟨(hr w hw).1,fun hk=>((hr w hw).2 hk).1⟩)).1.sound h
  ·rw[if_neg hx]
   exact enter3_sound h hp hg (fun w hw h'=>hx ⟨w,hw,h'⟩)
 |cons g r=>
  simp only
  cases hs:(H.getC g).pairs[H.sub.toNat]? with
  |none=>
   simp only
   have:=List.getElem?_eq_none_iff.1 hs
   have h0:=h.r1.sub
   exact black_sound h hp hg (by omega)
  |some p=>
   simp only
   obtain⟨a,b,c⟩:=markP2 h hp hg hs
   obtain⟨r',hr'⟩:=a.gray
   rw[hg]at hr'
   have:=sub1_sound (g:=g) (r:=r++r') (p:=p) (a.sound h) (by rw[a.phase,hp]) (by rw[←hr'];rfl) (by rw[(a.cell g).2.1,a.sub];exact hs) b c
   rw[a.sub]at this
   exact this
theorem getL_out{cs:List Cell}{j:Int}(h:cs.length≤j.toNat):getL cs j=Cell.zero:=by
 unfold getL
 rw[List.getD_eq_getElem?_getD,List.getElem?_eq_none h];rfl
theorem doomed_lt{H:Heap}(h1:R1 H){j:Int}(h:Doomed H j):0≤j∧j<H.cells.length:=by
 have h0:=h1.hand
 have h2:=h.2.2.2
 refine⟨by omega,?_⟩
 by_cases e:j<H.cells.length
 ·exact e
 ·have h3:=h.2.1
  rw[getC_L,getL_out (by omega)]at h3
  simp[Cell.zero]at h3
theorem sub0{H:Heap}(h:R6 H)(hp:H.phase≠0∧H.phase≠4∧H.phase≠2∧H.phase≠5):H.sub=0:=by
 exact(r6_e hp).1 h
theorem not_mark{H:Heap}(hp:H.phase≠1∧H.phase≠2):¬Marking H:=fun h=>by rcases h with h|h;exact hp.1 h;exact hp.2 h
noncomputable def Heap.sweepU(H:Heap):Heap:=
 if H.hand=H.cells.length then H.enterH 4
 else if(H.getC H.hand).state=1∧(H.getC H.hand).color=0 then{H with used:=H.used-(1+(H.getC H.hand).pairs.length),cells:=H.cells.set H.hand.toNat Cell.zero,hand:=H.hand+1}
 else{H with cells:=H.cells.set H.hand.toNat ((H.getC H.hand).col 0),hand:=H.hand+1}
theorem enter4_sound{H:Heap}(h:Sound H)(hp:H.phase=3)(hh:H.hand=H.cells.length):Sound (H.enterH 4):=by
 have nd:∀j,¬Doomed H j:=fun j hd=>by have:=doomed_lt h.r1 hd;have:=hd.2.2.2;omega
 obtain⟨g1,g2⟩:=h.r5.else_ (not_mark (by omega))
 refine⟨{h.r1 with phase:=by simp[Heap.enterH],hand:=by simp[Heap.enterH],sub:=by simp[Heap.enterH]},⟨fun j d hd=>?_,h.r2.born,h.r2.to⟩,h.r3,?_,⟨fun hn=>?_,fun _=>⟨g1,fun i c hc=>⟨(g2 i c hc).1,fun e=>?_⟩⟩⟩,?_,R7.nil ?_,R8.nil (by simp[Heap.enterH])⟩
 ·rcases h.r2.each j d hd with h1|h1|h1
  ·exact .inl h1
  ·have:=h1.2.2.1;omega
  ·exact .inr (.inr h1)
 ·exact r4_frame h.r4 rfl rfl (fun _=>rfl) (fun j=>⟨fun h=>by have:=h.1;simp[Heap.enterH]at this,fun h=>absurd h (nd j)⟩) (same_orig rfl) (fun _ _ _ _ _ _ h=>absurd rfl h.1)
 ·rcases hn with e|e<;>simp[Heap.enterH]at e
 ·have:=(g2 i c hc).2 e
  have hi:i<H.cells.length:=(List.getElem?_eq_some_iff.1 hc).1
  omega
 ·exact(r6_0 (by simp[Heap.enterH])).2 ⟨rfl,rfl⟩
 ·rintro(e|e)<;>simp[Heap.enterH]at e
theorem hand3_doom{H K:Heap}(hp:H.phase=3)(e1:K.phase=H.phase)(e2:K.hand=H.hand+1){j:Int}(hj:j≠H.hand)(e3:K.getC j=H.getC j):Doomed K j↔Doomed H j:=by
 unfold Doomed
 rw[e1,e2,e3]
 constructor
 ·rintro⟨a,b,c,d⟩;exact⟨a,b,c,by omega⟩
 ·rintro⟨a,b,c,d⟩;exact⟨a,b,c,by omega⟩
theorem free_sound{H:Heap}(h:Sound H)(hp:H.phase=3)(hh:H.hand<H.cells.length)(hc0:(H.getC H.hand).state=1∧(H.getC H.hand).color=0):
 Sound {H with used:=H.used-(1+(H.getC H.hand).pairs.length),cells:=H.cells.set H.hand.toNat Cell.zero,hand:=H.hand+1}:=by
 have h0:=h.r1.hand
 have hc:=getL_some (cs:=H.cells) h0.1 hh
 rw[←getC_L]at hc
 have hlt:=(List.getElem?_eq_some_iff.1 hc).1
 generalize hK:({H with used:=H.used-(1+(H.getC H.hand).pairs.length),cells:=H.cells.set H.hand.toNat Cell.zero,hand:=H.hand+1}:Heap)=K
 have e1:K.cells=H.cells.set H.hand.toNat Cell.zero:=by rw[←hK]
 have e2:K.phase=H.phase:=by rw[←hK]
 have e3:K.hand=H.hand+1:=by rw[←hK]
 have e4:K.regs=H.regs:=by rw[←hK]
 have e5:K.gray=H.gray:=by rw[←hK]
 have e6:K.sub=H.sub:=by rw[←hK]
 have e7:K.born=H.born:=by rw[←hK]
 have e8:K.used=H.used-(1+(H.getC H.hand).pairs.length):=by rw[←hK]
 have e9:K.room=H.room:=by rw[←hK]
 have gC:∀j:Int,K.getC j=if j.toNat=H.hand.toNat then Cell.zero else H.getC j:=fun j=>by
  rw[getC_L,getC_L,e1];exact getL_set hlt
 have hl:K.cells.length=H.cells.length:=by rw[e1];simp
 have hdm:Doomed H H.hand:=⟨hp,hc0.1,hc0.2,by omega⟩
 have fm:∀w,Formed H w→Formed K w:=fun w hw=>formed_len hl hw
 have ld:∀w,Formed H w→(w.kind=2→(H.getC w.at_).state=1∧¬Doomed H w.at_)→∀m,LeadsWell K w m:=fun w hf hw m hk=>by
  obtain⟨a,b⟩:=hw hk
  have hne:w.at_≠H.hand:=fun e=>b (by rw[e];exact hdm)
  have hat:=hf.at hk
  have eC:K.getC w.at_=H.getC w.at_:=by rw[gC,if_neg (by omega)]
  exact .inl ⟨by rw[eC];exact a,fun hd=>b ((hand3_doom hp e2 e3 hne eC).1 hd)⟩
 have cell:∀(j:Nat) d,K.cells[j]?=some d→(j=H.hand.toNat∧d=Cell.zero)∨((j:Int)≠H.hand∧H.cells[j]?=some d∧K.getC j=H.getC j):=fun j d hd=>by
  rw[e1]at hd
  rcases set_gt hd with⟨a,b,_⟩|⟨a,b⟩
  ·exact .inl ⟨a,b⟩
  ·refine .inr ⟨by omega,b,?_⟩
   rw[gC,if_neg (by omega)]
 obtain⟨g1,g2⟩:=h.r5.else_ (not_mark (by omega))
 refine⟨?_,⟨fun j d hd=>?_,fun i j c d hc' hd hij h1 h2=>?_,fun i j c d hc' hd hij h1 h2=>?_⟩,?_,⟨fun w hw=>?_,fun i c hc' hd hr=>?_,fun i c hc' k p hk=>?_⟩,⟨fun hn=>?_,fun _=>⟨by rw[e5];exact g1,fun i c hc'=>?_⟩⟩,?_,R7.nil (not_mark (by omega)),R8.nil (by omega)⟩
 ·have:=h.r1
  subst hK
  exact{h.r1 with cells:=by rw[hl];exact h.r1.cells,gray:=by rw[hl];exact h.r1.gray,hand:=by rw[hl];show 0≤H.hand+1∧H.hand+1≤(H.cells.length:Int);omega}
 ·rcases cell j d hd with⟨_,rfl⟩|⟨_,hd,_⟩
  ·exact .inl ⟨rfl,⟨rfl,rfl,rfl,rfl,rfl,rfl⟩,rfl⟩
  ·rcases h.r2.each j d hd with h1|h1|h1
   ·exact .inl h1
   ·have:=h1.2.2.1;omega
   ·exact .inr (.inr (by unfold UsedOk at*;rw[e7];exact h1))
 ·rcases cell i c hc' with⟨_,rfl⟩|⟨_,a,_⟩
  ·simp[Cell.zero]at h1
  rcases cell j d hd with⟨_,rfl⟩|⟨_,b,_⟩
  ·simp[Cell.zero]at h2
  exact h.r2.born i j c d a b hij h1 h2
 ·rcases cell i c hc' with⟨_,rfl⟩|⟨_,a,_⟩
  ·simp[Cell.zero]at h1
  rcases cell j d hd with⟨_,rfl⟩|⟨_,b,_⟩
  ·simp[Cell.zero]at h2
  exact h.r2.to i j c d a b hij h1 h2
 ·have h3:=h.r3
  unfold R3 at h3⊢
  rw[e1,e8,e9,units_set hc]
  have u1:(H.getC H.hand).units=1+(H.getC H.hand).pairs.length:=by unfold Cell.units;rw[if_pos hc0.1]
  have u2:Cell.zero.units=0:=rfl
  omega
 ·rw[e4]at hw
  obtain⟨a,b⟩:=reg_used h.r4 hw
  exact⟨fm w a,ld w a b _⟩
 ·rcases cell i c hc' with⟨rfl,rfl⟩|⟨a,b,e⟩
  ·have:=hr.1;simp[Cell.zero]at this
  ·exact h.r4.roots i c b ((hand3_doom hp e2 e3 a e).1 hd) hr
 ·rcases cell i c hc' with⟨rfl,rfl⟩|⟨a,b,e⟩
  ·simp[Cell.zero]at hk
  ·obtain⟨f1,f2,_⟩:=h.r4.pairs i c b k p hk
   refine⟨fm _ f1,fm _ f2,fun hn=>?_⟩
   have hn':¬Doomed H i:=fun hd=>hn ((hand3_doom hp e2 e3 a e).2 hd)
   have m:=fun w hw=>(pair_used h.r4 b hk (not_mend (by omega) _ _) hn' (w:=w) hw).2
   exact⟨ld _ f1 (m _ (.inl rfl)) _,ld _ f2 (m _ (.inr rfl)) _⟩
 ·exact absurd hn (not_mark (by omega))
 ·rcases cell i c hc' with⟨_,rfl⟩|⟨a,b,_⟩
  ·exact⟨by simp[Cell.zero],by simp[Cell.zero]⟩
  ·refine⟨(g2 i c b).1,fun e=>?_⟩
   have:=(g2 i c b).2 e
   omega
 ·exact(r6_e (by omega)).2 (by rw[e6];exact sub0 h.r6 (by omega))
theorem white_sound{H:Heap}(h:Sound H)(hp:H.phase=3)(hh:H.hand<H.cells.length)(hc0:¬((H.getC H.hand).state=1∧(H.getC H.hand).color=0)):
 Sound {H with cells:=H.cells.set H.hand.toNat ((H.getC H.hand).col 0),hand:=H.hand+1}:=by
 have h0:=h.r1.hand
 have hc:=getL_some (cs:=H.cells) h0.1 hh
 rw[←getC_L]at hc
 have hlt:=(List.getElem?_eq_some_iff.1 hc).1
 have hs0:=sub0 h.r6 (by omega)
 generalize hK:({H with cells:=H.cells.set H.hand.toNat ((H.getC H.hand).col 0),hand:=H.hand+1}:Heap)=K
 have e1:K.cells=H.cells.set H.hand.toNat ((H.getC H.hand).col 0):=by rw[←hK]
 have e2:K.phase=H.phase:=by rw[←hK]
 have e3:K.hand=H.hand+1:=by rw[←hK]
 have e4:K.regs=H.regs:=by rw[←hK]
 have e5:K.gray=H.gray:=by rw[←hK]
 have e6:K.sub=H.sub:=by rw[←hK]
 have e7:K.born=H.born:=by rw[←hK]
 have e8:K.used=H.used:=by rw[←hK]
 have e9:K.room=H.room:=by rw[←hK]
 have hl:K.cells.length=H.cells.length:=by rw[e1];simp
 have hcs:=fun j=>col_state hc e1 j
 have gC:∀j:Int,K.getC j=if j.toNat=H.hand.toNat then(H.getC H.hand).col 0 else H.getC j:=fun j=>by
  rw[getC_L,getC_L,e1];exact getL_set hlt
 have hdd:∀j,Doomed K j↔Doomed H j:=fun j=>by
  by_cases e:j=H.hand
  ·subst e
   refine⟨fun hd=>?_,fun hd=>?_⟩
   ·have:=hd.2.2.2;omega
   ·exact absurd ⟨hd.2.1,hd.2.2.1⟩ hc0
  ·by_cases en:j<0
   ·exact⟨fun hd=>by have:=hd.2.2.2;omega,fun hd=>by have:=hd.2.2.2;omega⟩
   ·exact hand3_doom hp e2 e3 e (by rw[gC,if_neg (by omega)])
 obtain⟨g1,g2⟩:=h.r5.else_ (not_mark (by omega))
 have hsame:(H.getC H.hand).state≠1→K.cells=H.cells:=fun hne=>by
  have hb:=(h.r2.bare hc hne).2.2.2.2.1
  have:(H.getC H.hand).col 0=H.getC H.hand:=by unfold Cell.col;rw[←hb]
  rw[e1,this]
  apply List.ext_getElem?
  intro j
  rw[List.getElem?_set]
  split
  ·rename_i e;subst e;exact hc.symm
  ·rfl
 refine⟨?_,?_,?_,r4_frame h.r4 hl e4 (fun j=>(hcs j).1) hdd (col_orig hc e1) (fun _ _ _ _ _ _ _=>not_mend (by omega) _ _),⟨fun hn=>absurd hn (not_mark (by omega)),fun _=>⟨by rw[e5];exact g1,fun i c hc'=>?_⟩⟩,?_,R7.nil (not_mark (by omega)),R8.nil (by omega)⟩
 ·have:=h.r1
  subst hK
  exact{h.r1 with cells:=by rw[hl];exact h.r1.cells,gray:=by rw[hl];exact h.r1.gray,hand:=by rw[hl];show 0≤H.hand+1∧H.hand+1≤(H.cells.length:Int);omega}
 ·by_cases hu:(H.getC H.hand).state=1
  ·exact col_r2 h.r2 hc hu (by omega) e1 e7 e2
  ·have hcc:=hsame hu
   refine⟨fun j d hd=>?_,by rw[hcc];exact h.r2.born,by rw[hcc];exact h.r2.to⟩
   rw[hcc]at hd
   rcases h.r2.each j d hd with h1|h1|h1
   ·exact .inl h1
   ·have:=h1.2.2.1;omega
   ·exact .inr (.inr (by unfold UsedOk at*;rw[e7];exact h1))
 ·exact col_r3 h.r3 hc e1 e8 e9
 ·rw[e1]at hc'
  obtain⟨d0,hd0,⟨rfl,rfl,rfl⟩|⟨hne,rfl⟩⟩:=orig hc hc'
  ·exact⟨by simp[Cell.col],by simp[Cell.col]⟩
  ·refine⟨(g2 i c hd0).1,fun e=>?_⟩
   have:=(g2 i c hd0).2 e
   omega
 ·exact(r6_e (by omega)).2 (by rw[e6];exact hs0)
theorem sweepU_sound{H:Heap}(h:Sound H)(hp:H.phase=3):Sound H.sweepU:=by
 unfold Heap.sweepU
 have h0:=h.r1.hand
 by_cases hh:H.hand=H.cells.length
 ·rw[if_pos hh];exact enter4_sound h hp hh
 ·rw[if_neg hh]
  by_cases hc:(H.getC H.hand).state=1∧(H.getC H.hand).color=0
  ·rw[if_pos hc];exact free_sound h hp (by omega) hc
  ·rw[if_neg hc];exact white_sound h hp (by omega) hc
noncomputable def frG(H:Heap):Nat→Int
 |0=>H.cells.length
 |k+1=>if(H.getC k).state=0 then min (frG H k) k else frG H k
noncomputable def luG(H:Heap):Nat→Int
 |0=> -1
 |k+1=>if(H.getC k).state=1 then(k:Int)else luG H k
theorem frG_ok(H:Heap):∀k:Nat,0≤frG H k∧frG H k≤H.cells.length∧(frG H k<H.cells.length→frG H k<k∧(H.getC (frG H k)).state=0)∧∀j:Nat,j<k→(j:Int)<frG H k→(H.getC j).state≠0
 |0=>by
  simp only[frG]
  exact⟨by omega,by omega,fun h=>by omega,fun j h=>by omega⟩
 |k+1=>by
  obtain⟨a,b,c,d⟩:=frG_ok H k
  simp only[frG]
  split
  ·rename_i hs
   by_cases e:frG H k≤k
   ·rw[Int.min_eq_left e]
    refine⟨a,b,fun h=>⟨by have:=(c h).1;omega,(c h).2⟩,fun j hj hl=>d j (by omega) hl⟩
   ·rw[Int.min_eq_right (by omega)]
    refine⟨by omega,by omega,fun h=>⟨by omega,hs⟩,fun j hj hl=>d j (by omega) (by omega)⟩
  ·rename_i hs
   refine⟨a,b,fun h=>⟨by have:=(c h).1;omega,(c h).2⟩,fun j hj hl=>?_⟩
   by_cases e:j=k
   ·subst e;exact hs
   ·exact d j (by omega) hl
theorem luG_ok(H:Heap):∀k:Nat,-1≤luG H k∧luG H k<k∧(0≤luG H k→(H.getC (luG H k)).state=1)∧∀j:Nat,j<k→luG H k<j→(H.getC j).state≠1
 |0=>by
  simp only[luG]
  exact⟨by omega,by omega,fun h=>by omega,fun j h=>by omega⟩
 |k+1=>by
  obtain⟨a,b,c,d⟩:=luG_ok H k
  simp only[luG]
  split
  ·rename_i hs
   exact⟨by omega,by omega,fun _=>hs,fun j hj hl=>by omega⟩
  ·rename_i hs
   refine⟨a,by omega,c,fun j hj hl=>?_⟩
   by_cases e:j=k
   ·subst e;exact hs
   ·exact d j (by omega) hl
def Cell.gone(f:Int):Cell:=⟨2,0,0,0,0,0,f,[]⟩
def Word.redir(w:Word)(u f:Int):Word:=if w.kind=2∧w.at_=u then{w with at_:=f}else w
def Heap.moved(H:Heap)(f u:Int):Heap:={H with cells:=(H.cells.set f.toNat (H.getC u)).set u.toNat (Cell.gone f),regs:=H.regs.map fun w=>w.redir u f}
noncomputable def Heap.moveU(H:Heap):Heap:=
 if luG H H.cells.length≤frG H H.cells.length then H.enterH 5 else H.moved (frG H H.cells.length) (luG H H.cells.length)
theorem enter5_sound{H:Heap}(h:Sound H)(hp:H.phase=4):Sound (H.enterH 5):=by
 obtain⟨g1,g2⟩:=h.r5.else_ (not_mark (by omega))
 refine⟨{h.r1 with phase:=by simp[Heap.enterH],hand:=by simp[Heap.enterH],sub:=by simp[Heap.enterH]},⟨fun j d hd=>?_,h.r2.born,h.r2.to⟩,h.r3,?_,⟨fun hn=>?_,fun _=>⟨g1,fun i c hc=>⟨(g2 i c hc).1,fun e=>by have:=(g2 i c hc).2 e;omega⟩⟩⟩,?_,R7.nil ?_,R8.nil (by simp[Heap.enterH])⟩
 ·rcases h.r2.each j d hd with h1|h1|h1
  ·exact .inl h1
  ·obtain⟨a1,a2,a3,a4,a5,a6⟩:=h1
   exact .inr (.inl ⟨a1,a2,by simp[Heap.enterH],a4,a5,fun e=>by simp[Heap.enterH]at e⟩)
  ·exact .inr (.inr h1)
 ·exact r4_frame h.r4 rfl rfl (fun _=>rfl) (fun j=>⟨fun h=>by have:=h.1;simp[Heap.enterH]at this,fun h=>by have:=h.1;omega⟩) (same_orig rfl) (fun j k _ _ _ _ hm=>by
   have h1:(j:Int)<0∨(j:Int)=0∧(k:Int)<0:=hm.2 rfl
   omega)
 ·rcases hn with e|e<;>simp[Heap.enterH]at e
 ·refine(r6_5 rfl).2 ?_
  split
  ·show(0:Int)≤_;omega
  ·rfl
 ·rintro(e|e)<;>simp[Heap.enterH]at e
theorem moved_sound{H:Heap}{f u:Int}(h:Sound H)(hp:H.phase=4)(hf:0≤f∧f<u)(hu:u<H.cells.length)(sf:(H.getC f).state=0)(su:(H.getC u).state=1)(lo:∀j:Nat,(j:Int)<f→(H.getC j).state≠0):Sound (H.moved f u):=by
 have hcu:=getL_some (cs:=H.cells) (j:=u) (by omega) hu
 have hcf:=getL_some (cs:=H.cells) (j:=f) (by omega) (by omega)
 rw[←getC_L]at hcu hcf
 have hltu:=(List.getElem?_eq_some_iff.1 hcu).1
 have hltf:=(List.getElem?_eq_some_iff.1 hcf).1
 have hne:u.toNat≠f.toNat:=by omega
 generalize hK:H.moved f u=K
 have e1:K.cells=(H.cells.set f.toNat (H.getC u)).set u.toNat (Cell.gone f):=by rw[←hK];rfl
 have e2:K.phase=H.phase:=by rw[←hK];rfl
 have e3:K.hand=H.hand:=by rw[←hK];rfl
 have e4:K.regs=H.regs.map fun w=>w.redir u f:=by rw[←hK];rfl
 have e5:K.gray=H.gray:=by rw[←hK];rfl
 have e6:K.sub=H.sub:=by rw[←hK];rfl
 have e7:K.born=H.born:=by rw[←hK];rfl
 have e8:K.used=H.used:=by rw[←hK];rfl
 have e9:K.room=H.room:=by rw[←hK];rfl
 have hl:K.cells.length=H.cells.length:=by rw[e1];simp
 have gC:∀j:Int,K.getC j=if j.toNat=u.toNat then Cell.gone f else if j.toNat=f.toNat then H.getC u else H.getC j:=fun j=>by
  rw[getC_L,getC_L,e1,getL_set (by simp;omega),getL_set hltf];rfl
 have cell:∀(j:Nat) d,K.cells[j]?=some d→(j=u.toNat∧d=Cell.gone f)∨(j=f.toNat∧d=H.getC u)∨(j≠u.toNat∧j≠f.toNat∧H.cells[j]?=some d):=fun j d hd=>by
  rw[e1]at hd
  rcases set_gt hd with⟨a,b,_⟩|⟨a,b⟩
  ·exact .inl ⟨a,b⟩
  ·rcases set_gt b with⟨c,d,_⟩|⟨c,d⟩
   ·exact .inr (.inl ⟨c,d⟩)
   ·exact .inr (.inr ⟨a,c,d⟩)
 have fm:∀w,Formed H w→Formed K w:=fun w hw=>formed_len hl hw
 have nd:∀j,¬Doomed K j:=fun j=>not_doom (by omega) j
 have ndH:∀j,¬Doomed H j:=fun j=>not_doom (by omega) j
 have one:∀(j:Nat) d,K.cells[j]?=some d→d.state=1→∃j0:Nat,H.cells[j0]?=some d∧j0=(if j=f.toNat then u.toNat else j)∧j≠u.toNat:=fun j d hd h1=>by
  rcases cell j d hd with⟨rfl,rfl⟩|⟨rfl,rfl⟩|⟨a,b,c⟩
  ·simp[Cell.gone]at h1
  ·exact⟨u.toNat,hcu,by rw[if_pos rfl],fun e=>hne e.symm⟩
  ·exact⟨j,c,by rw[if_neg b],a⟩
 obtain⟨g1,g2⟩:=h.r5.else_ (not_mark (by omega))
 refine⟨?_,⟨fun j d hd=>?_,fun i j c d hc hd hij h1 h2=>?_,fun i j c d hc hd hij h1 h2=>?_⟩,?_,⟨fun w hw=>?_,fun i c hc hd=>absurd hd (nd i),fun i c hc k p hk=>?_⟩,⟨fun hn=>absurd hn (not_mark (by omega)),fun _=>⟨by rw[e5];exact g1,fun i c hc=>?_⟩⟩,?_,R7.nil (not_mark (by omega)),R8.nil (by omega)⟩
 ·have:=h.r1
  subst hK
  exact{h.r1 with regs:=by rw[e4,List.length_map];exact h.r1.regs,cells:=by rw[hl];exact h.r1.cells,gray:=by rw[hl];exact h.r1.gray,hand:=by rw[hl];exact h.r1.hand}
 ·rcases cell j d hd with⟨rfl,rfl⟩|⟨rfl,rfl⟩|⟨a,b,c⟩
  ·refine .inr (.inl ⟨rfl,⟨rfl,rfl,rfl,rfl,rfl,rfl⟩,by omega,⟨hf.1,by show f<_;omega⟩,?_,fun _ k h0 h1=>?_⟩)
   ·show(K.getC f).state=1
    rw[gC,if_neg (by omega),if_pos rfl];exact su
   ·have h1:k<f:=h1
    rw[gC,if_neg (by omega),if_neg (by omega)]
    have:=lo k.toNat (by omega)
    rw[show((k.toNat:Nat):Int)=k by omega]at this
    exact this
  ·obtain⟨a1,a2,a3,a4,a5,a6⟩:=h.r2.used hcu su
   exact .inr (.inr ⟨a1,a2,a3,a4,by rw[e7];exact a5,a6⟩)
  ·rcases h.r2.each j d c with h1|h1|h1
   ·exact .inl h1
   ·obtain⟨a1,a2,a3,a4,a5,a6⟩:=h1
    have k1:d.to.toNat≠f.toNat:=fun e=>by
     have:d.to=f:=by omega
     rw[this,sf]at a5;omega
    have k2:d.to.toNat≠u.toNat:=fun e=>by
     have e':d.to=u:=by omega
     exact a6 hp f hf.1 (by omega) sf
    refine .inr (.inl ⟨a1,a2,by omega,a4,?_,fun _ k h0 hk=>?_⟩)
    ·rw[gC,if_neg k2,if_neg k1];exact a5
    ·rw[gC]
     by_cases x1:k.toNat=u.toNat
     ·rw[if_pos x1];simp[Cell.gone]
     ·rw[if_neg x1]
      by_cases x2:k.toNat=f.toNat
      ·rw[if_pos x2];omega
      ·rw[if_neg x2];exact a6 hp k h0 hk
   ·exact .inr (.inr (by unfold UsedOk at*;rw[e7];exact h1))
 ·obtain⟨i0,b1,b2,b3⟩:=one i c hc h1
  obtain⟨j0,d1,d2,d3⟩:=one j d hd h2
  have hne0:i0≠j0:=by
   rw[b2,d2]
   by_cases x:i=f.toNat
   ·rw[if_pos x]
    by_cases y:j=f.toNat
    ·omega
    ·rw[if_neg y];exact fun e=>d3 e.symm
   ·rw[if_neg x]
    by_cases y:j=f.toNat
    ·rw[if_pos y];exact b3
    ·rw[if_neg y];omega
  rcases Nat.lt_or_gt_of_ne hne0 with hl'|hl'
  ·exact h.r2.born i0 j0 c d b1 d1 hl' h1 h2
  ·exact fun e=>h.r2.born j0 i0 d c d1 b1 hl' h2 h1 e.symm
 ·have two:∀(j:Nat) d,K.cells[j]?=some d→d.state=2→(j=u.toNat∧d.to=f)∨(H.cells[j]?=some d∧d.to≠f):=fun j d hd h1=>by
   rcases cell j d hd with⟨rfl,rfl⟩|⟨rfl,rfl⟩|⟨a,b,c⟩
   ·exact .inl ⟨rfl,rfl⟩
   ·omega
   ·refine .inr ⟨c,fun e=>?_⟩
    rcases h.r2.each j d c with h1|h1|h1
    ·have:=h1.1;omega
    ·have:=h1.2.2.2.2.1;rw[e,sf]at this;omega
    ·have:=h1.1;omega
  rcases two i c hc h1 with⟨a1,a2⟩|⟨a1,a2⟩
  ·rcases two j d hd h2 with⟨b1,b2⟩|⟨b1,b2⟩
   ·omega
   ·rw[a2];exact fun e=>b2 e.symm
  ·rcases two j d hd h2 with⟨b1,b2⟩|⟨b1,b2⟩
   ·rw[b2];exact a2
   ·exact h.r2.to i j c d a1 b1 hij h1 h2
 ·have h3:=h.r3
  unfold R3 at h3⊢
  have hcu2:(H.cells.set f.toNat (H.getC u))[u.toNat]?=some (H.getC u):=by rw[List.getElem?_set,if_neg (fun e=>hne e.symm)];exact hcu
  rw[e1,e8,e9,units_set hcu2,units_set hcf]
  have u1:(Cell.gone f).units=0:=rfl
  have u2:(H.getC f).units=0:=by unfold Cell.units;rw[if_neg (by omega)]
  omega
 ·rw[e4]at hw
  obtain⟨v,hv,rfl⟩:=List.mem_map.1 hw
  obtain⟨a,b⟩:=reg_used h.r4 hv
  unfold Word.redir
  split
  ·rename_i e
   refine⟨fm _ ?_,fun hk=>.inl ⟨?_,nd _⟩⟩
   ·rcases a with x|x|x
    ·omega
    ·omega
    ·exact .inr (.inr ⟨x.1,x.2.1,hf.1,by show f<(H.cells.length:Int);omega⟩)
   ·show(K.getC f).state=1
    rw[gC,if_neg (by omega),if_pos rfl];exact su
  ·rename_i e
   refine⟨fm _ a,fun hk=>.inl ⟨?_,nd _⟩⟩
   have hat:=a.at hk
   have b1:=(b hk).1
   have x1:v.at_≠u:=fun e'=>e ⟨hk,e'⟩
   have x2:v.at_≠f:=fun e'=>by rw[e',sf]at b1;omega
   rw[gC,if_neg (by omega),if_neg (by omega)];exact b1
 ·have ld:∀w,Formed H w→LeadsWell H w True→LeadsWell K w (¬Mended K i k):=fun w hfw hw hk=>by
   have hat:=hfw.at hk
   have hm:¬Mended K i k:=fun hm=>hm.1 (by omega)
   by_cases x1:w.at_=u
   ·right;rw[gC,if_pos (by omega)];exact⟨rfl,hm⟩
   ·rcases hw hk with⟨y,_⟩|⟨y,_⟩
    ·left
     have x2:w.at_≠f:=fun e'=>by rw[e',sf]at y;omega
     rw[gC,if_neg (by omega),if_neg (by omega)];exact⟨y,nd _⟩
    ·right
     have x2:w.at_≠f:=fun e'=>by rw[e',sf]at y;omega
     rw[gC,if_neg (by omega),if_neg (by omega)];exact⟨y,hm⟩
  have fin:∀(j:Nat) d,H.cells[j]?=some d→d.pairs[k]?=some p→Formed K p.key∧Formed K p.val∧(¬Doomed K i→LeadsWell K p.key (¬Mended K i k)∧LeadsWell K p.val (¬Mended K i k)):=fun j d hd hk=>by
   obtain⟨a,b,g⟩:=h.r4.pairs j d hd k p hk
   obtain⟨x1,x2⟩:=g (ndH j)
   have t:∀w,LeadsWell H w (¬Mended H j k)→LeadsWell H w True:=fun w hw hk=>(hw hk).imp id (fun x=>⟨x.1,trivial⟩)
   exact⟨fm _ a,fm _ b,fun _=>⟨ld _ a (t _ x1),ld _ b (t _ x2)⟩⟩
  rcases cell i c hc with⟨rfl,rfl⟩|⟨rfl,rfl⟩|⟨_,_,c'⟩
  ·simp[Cell.gone]at hk
  ·exact fin _ _ hcu hk
  ·exact fin _ _ c' hk
 ·rcases cell i c hc with⟨rfl,rfl⟩|⟨rfl,rfl⟩|⟨_,_,c'⟩
  ·exact⟨by simp[Cell.gone],by simp[Cell.gone]⟩
  ·exact⟨(g2 _ _ hcu).1,fun e=>by have:=(g2 _ _ hcu).2 e;omega⟩
  ·exact⟨(g2 _ _ c').1,fun e=>by have:=(g2 _ _ c').2 e;omega⟩
 ·exact(r6_0 (by omega)).2 (by rw[e3,e6];exact(r6_0 (by omega)).1 h.r6)
theorem moveU_sound{H:Heap}(h:Sound H)(hp:H.phase=4):Sound H.moveU:=by
 unfold Heap.moveU
 obtain⟨a1,a2,a3,a4⟩:=frG_ok H H.cells.length
 obtain⟨b1,b2,b3,b4⟩:=luG_ok H H.cells.length
 split
 ·exact enter5_sound h hp
 ·exact moved_sound h hp ⟨a1,by omega⟩ b2 (a3 (by omega)).2 (b3 (by omega)) (fun j hj=>a4 j (by omega) hj)
noncomputable def Heap.mendU(H:Heap):Heap:=
 if H.hand=H.cells.length then H.enterH 6
 else match(H.getC H.hand).pairs[H.sub.toNat]? with
  |some p=>{H with cells:=H.cells.set H.hand.toNat {H.getC H.hand with pairs:=(H.getC H.hand).pairs.set H.sub.toNat ⟨H.lead p.key,H.lead p.val⟩},sub:=H.sub+1}
  |none=>{H with hand:=H.hand+1,sub:=0}
theorem enter6_sound{H:Heap}(h:Sound H)(hp:H.phase=5)(hh:H.hand=H.cells.length):Sound (H.enterH 6):=by
 obtain⟨g1,g2⟩:=h.r5.else_ (not_mark (by omega))
 refine⟨{h.r1 with phase:=by simp[Heap.enterH],hand:=by simp[Heap.enterH],sub:=by simp[Heap.enterH]},⟨fun j d hd=>?_,h.r2.born,h.r2.to⟩,h.r3,?_,⟨fun hn=>?_,fun _=>⟨g1,fun i c hc=>⟨(g2 i c hc).1,fun e=>by have:=(g2 i c hc).2 e;omega⟩⟩⟩,?_,R7.nil ?_,fun _ i c hc hi=>?_⟩
 ·rcases h.r2.each j d hd with h1|h1|h1
  ·exact .inl h1
  ·obtain⟨a1,a2,a3,a4,a5,a6⟩:=h1
   exact .inr (.inl ⟨a1,a2,by simp[Heap.enterH],a4,a5,fun e=>by simp[Heap.enterH]at e⟩)
  ·exact .inr (.inr h1)
 ·exact r4_frame h.r4 rfl rfl (fun _=>rfl) (fun j=>⟨fun h=>by have:=h.1;simp[Heap.enterH]at this,fun h=>by have:=h.1;omega⟩) (same_orig rfl) (fun j k d _ hd _ _=>⟨by omega,fun _=>by
   have:=(List.getElem?_eq_some_iff.1 hd).1
   left;omega⟩)
 ·rcases hn with e|e<;>simp[Heap.enterH]at e
 ·exact(r6_e (by simp[Heap.enterH])).2 rfl
 ·rintro(e|e)<;>simp[Heap.enterH]at e
 ·have hi':=(List.getElem?_eq_some_iff.1 hc).1
  have:(H.enterH 6).hand=H.cells.length:=by simp[Heap.enterH]
  rw[this]at hi
  have:(H.enterH 6).cells=H.cells:=rfl
  rw[this]at hi'
  omega
theorem skip_sound{H:Heap}(h:Sound H)(hp:H.phase=5)(hh:H.hand<H.cells.length)(hs:((H.getC H.hand).pairs.length:Int)≤H.sub):Sound {H with hand:=H.hand+1,sub:=0}:=by
 obtain⟨g1,g2⟩:=h.r5.else_ (not_mark (by omega))
 have h0:=h.r1.hand
 refine⟨{h.r1 with hand:=by show 0≤H.hand+1∧H.hand+1≤(H.cells.length:Int);omega,sub:=by simp},⟨fun j d hd=>h.r2.each j d hd,h.r2.born,h.r2.to⟩,h.r3,?_,⟨fun hn=>absurd hn (not_mark (by simp only;omega)),fun _=>⟨g1,fun i c hc=>⟨(g2 i c hc).1,fun e=>by have:=(g2 i c hc).2 e;omega⟩⟩⟩,?_,R7.nil (not_mark (by simp only;omega)),R8.nil (by simp only;omega)⟩
 ·exact r4_frame h.r4 rfl rfl (fun _=>rfl) (fun j=>⟨fun h=>by have:=h.1;simp only at this;omega,fun h=>by have:=h.1;omega⟩) (same_orig rfl) (fun j k d p hd hk hm=>⟨by omega,fun _=>by
   have h1:(j:Int)<H.hand+1∨(j:Int)=H.hand+1∧(k:Int)<0:=hm.2 hp
   have hkl:=(List.getElem?_eq_some_iff.1 hk).1
   by_cases e:(j:Int)=H.hand
   ·right
    rw[←e,getC_nat hd]at hs
    exact⟨e,by omega⟩
   ·left;omega⟩)
 ·refine(r6_5 (H:={H with hand:=H.hand+1,sub:=0}) hp).2 ?_
  split
  ·show(0:Int)≤_;omega
  ·rfl
theorem lead_fm{H:Heap}(h2:R2 H){w:Word}(hf:Formed H w){m:Prop}(hl:LeadsWell H w m)(hd:∀j,¬Doomed H j):Formed H (H.lead w)∧((H.lead w).kind=2→(H.getC (H.lead w).at_).state=1):=by
 by_cases hk:w.kind=2
 ·have hat:=hf.at hk
  have hc:=getL_some (cs:=H.cells) hat.1 hat.2
  rw[←getC_L]at hc
  unfold Heap.lead
  split
  ·rename_i e
   rcases h2.each _ _ hc with x|x|x
   ·have:=x.1;omega
   ·obtain⟨a1,a2,a3,a4,a5,a6⟩:=x
    refine⟨.inr (.inr ⟨rfl,rfl,a4.1,?_⟩),fun _=>a5⟩
    have:=a4.2
    show(H.getC w.at_).to<(H.cells.length:Int)
    omega
   ·have:=x.1;omega
  ·rename_i e
   refine⟨hf,fun _=>?_⟩
   rcases hl hk with x|x
   ·exact x.1
   ·exact absurd ⟨hk,x.1⟩ e
 ·unfold Heap.lead
  rw[if_neg (fun h=>hk h.1)]
  exact⟨hf,fun h=>absurd h hk⟩
theorem mended_sound{H:Heap}{p:Pair}(h:Sound H)(hp:H.phase=5)(hh:H.hand<H.cells.length)(hs:(H.getC H.hand).pairs[H.sub.toNat]?=some p):
 Sound {H with cells:=H.cells.set H.hand.toNat {H.getC H.hand with pairs:=(H.getC H.hand).pairs.set H.sub.toNat ⟨H.lead p.key,H.lead p.val⟩},sub:=H.sub+1}:=by
 have h0:=h.r1.hand
 have hs0:=h.r1.sub
 have hc:=getL_some (cs:=H.cells) h0.1 hh
 rw[←getC_L]at hc
 have hlt:=(List.getElem?_eq_some_iff.1 hc).1
 have hsl:=(List.getElem?_eq_some_iff.1 hs).1
 have hu:(H.getC H.hand).state=1:=by
  rcases Decidable.em ((H.getC H.hand).state=1)with e|e
  ·exact e
  ·have:=(h.r2.bare hc e).2.2.2.2.2;rw[this]at hs;simp at hs
 have huo:=h.r2.used hc hu
 generalize hN:({H.getC H.hand with pairs:=(H.getC H.hand).pairs.set H.sub.toNat ⟨H.lead p.key,H.lead p.val⟩}:Cell)=N
 have n1:N.state=(H.getC H.hand).state∧N.to=(H.getC H.hand).to∧N.born=(H.getC H.hand).born∧N.color=(H.getC H.hand).color∧N.last=(H.getC H.hand).last:=by rw[←hN];exact⟨rfl,rfl,rfl,rfl,rfl⟩
 have n2:N.pairs=(H.getC H.hand).pairs.set H.sub.toNat ⟨H.lead p.key,H.lead p.val⟩:=by rw[←hN]
 have n3:N.pairs.length=(H.getC H.hand).pairs.length:=by rw[n2];simp
 have n4:UsedOk H N:=by rw[←hN];unfold UsedOk at*;simpa using huo
 generalize hK:({H with cells:=H.cells.set H.hand.toNat N,sub:=H.sub+1}:Heap)=K
 have e1:K.cells=H.cells.set H.hand.toNat N:=by rw[←hK]
 have e2:K.phase=H.phase:=by rw[←hK]
 have e3:K.hand=H.hand:=by rw[←hK]
 have e4:K.regs=H.regs:=by rw[←hK]
 have e5:K.gray=H.gray:=by rw[←hK]
 have e6:K.sub=H.sub+1:=by rw[←hK]
 have e7:K.born=H.born:=by rw[←hK]
 have e8:K.used=H.used:=by rw[←hK]
 have e9:K.room=H.room:=by rw[←hK]
 have hl:K.cells.length=H.cells.length:=by rw[e1];simp
 have gC:∀j:Int,K.getC j=if j.toNat=H.hand.toNat then N else H.getC j:=fun j=>by
  rw[getC_L,getC_L,e1];exact getL_set hlt
 have gs:∀j:Int,(K.getC j).state=(H.getC j).state:=fun j=>by
  rw[gC]
  split
  ·rename_i e
   have:H.getC j=H.getC H.hand:=by rw[getC_L,getL_at hc e]
   rw[this];exact n1.1
  ·rfl
 have nd:∀j,¬Doomed K j:=fun j=>not_doom (by omega) j
 have ndH:∀j,¬Doomed H j:=fun j=>not_doom (by omega) j
 have fm:∀w,Formed H w→Formed K w:=fun w hw=>formed_len hl hw
 have cell:∀(j:Nat) d,K.cells[j]?=some d→∃d0,H.cells[j]?=some d0∧(j=H.hand.toNat∧d0=H.getC H.hand∧d=N∨j≠H.hand.toNat∧d=d0):=fun j d hd=>by
  rw[e1]at hd;exact orig hc hd
 have same:∀(j:Nat) d,K.cells[j]?=some d→∃d0,H.cells[j]?=some d0∧d.born=d0.born∧d.state=d0.state∧d.to=d0.to∧d.color=d0.color:=fun j d hd=>by
  obtain⟨d0,hd0,⟨_,rfl,rfl⟩|⟨_,rfl⟩⟩:=cell j d hd
  ·exact⟨_,hd0,n1.2.2.1,n1.1,n1.2.1,n1.2.2.2.1⟩
  ·exact⟨_,hd0,rfl,rfl,rfl,rfl⟩
 obtain⟨g1,g2⟩:=h.r5.else_ (not_mark (by omega))
 refine⟨?_,⟨fun j d hd=>?_,fun i j c d hc' hd hij h1 h2=>?_,fun i j c d hc' hd hij h1 h2=>?_⟩,?_,⟨fun w hw=>?_,fun i c hc' hd=>absurd hd (nd i),fun i c hc' k q hk=>?_⟩,⟨fun hn=>absurd hn (not_mark (by omega)),fun _=>⟨by rw[e5];exact g1,fun i c hc'=>?_⟩⟩,?_,R7.nil (not_mark (by omega)),R8.nil (by omega)⟩
 ·have:=huo.2.2.2.2.2.2.2
  have hx:=h.r1
  subst hK
  exact{h.r1 with cells:=by rw[hl];exact h.r1.cells,gray:=by rw[hl];exact h.r1.gray,hand:=by rw[hl];exact h.r1.hand,sub:=by show 0≤H.sub+1∧H.sub+1≤200;omega}
 ·obtain⟨d0,hd0,⟨rfl,rfl,rfl⟩|⟨_,rfl⟩⟩:=cell j d hd
  ·exact .inr (.inr (by unfold UsedOk at*;rw[e7];exact n4))
  ·rcases h.r2.each j d hd0 with h1|h1|h1
   ·exact .inl h1
   ·obtain⟨a1,a2,a3,a4,a5,a6⟩:=h1
    exact .inr (.inl ⟨a1,a2,by omega,a4,by rw[gs];exact a5,fun e=>by omega⟩)
   ·exact .inr (.inr (by unfold UsedOk at*;rw[e7];exact h1))
 ·obtain⟨c0,a1,a2,a3,_⟩:=same i c hc'
  obtain⟨d0,b1,b2,b3,_⟩:=same j d hd
  rw[a2,b2];exact h.r2.born i j c0 d0 a1 b1 hij (by omega) (by omega)
 ·obtain⟨c0,a1,a2,a3,a4,_⟩:=same i c hc'
  obtain⟨d0,b1,b2,b3,b4,_⟩:=same j d hd
  rw[a4,b4];exact h.r2.to i j c0 d0 a1 b1 hij (by omega) (by omega)
 ·have h3:=h.r3
  unfold R3 at h3⊢
  rw[e1,e8,e9,units_set hc]
  have:N.units=(H.getC H.hand).units:=by unfold Cell.units;rw[n1.1,n3]
  omega
 ·rw[e4]at hw
  obtain⟨a,b⟩:=h.r4.regs w hw
  exact⟨fm w a,leads_of gs (fun j hd=>absurd hd (nd j)) id b⟩
 ·obtain⟨c0,hc0,x⟩:=cell i c hc'
  have old:∀q,c0.pairs[k]?=some q→((i:Int)=H.hand→(k:Int)≠H.sub)→Formed K q.key∧Formed K q.val∧(¬Doomed K i→LeadsWell K q.key (¬Mended K i k)∧LeadsWell K q.val (¬Mended K i k)):=fun q hq hne=>by
   obtain⟨a,b,g⟩:=h.r4.pairs i c0 hc0 k q hq
   obtain⟨y1,y2⟩:=g (ndH i)
   have mm:¬Mended H i k→¬Mended K i k:=fun hm hm'=>hm ⟨by omega,fun e=>by
    have:=hm'.2 (by omega)
    rw[e3,e6]at this
    rcases this with z|z
    ·exact .inl z
    ·have:=hne z.1
     right;omega⟩
   exact⟨fm _ a,fm _ b,fun _=>⟨leads_of gs (fun j hd=>absurd hd (nd j)) mm y1,leads_of gs (fun j hd=>absurd hd (nd j)) mm y2⟩⟩
  rcases x with⟨rfl,rfl,rfl⟩|⟨hne,rfl⟩
  ·rw[n2]at hk
   rcases set_gt hk with⟨rfl,rfl,_⟩|⟨a,b⟩
   ·obtain⟨a,b,g⟩:=h.r4.pairs _ _ hc _ p hs
    rw[show((H.hand.toNat:Nat):Int)=H.hand by omega]at g
    obtain⟨y1,y2⟩:=g (ndH _)
    obtain⟨z1,z2⟩:=lead_fm h.r2 a y1 ndH
    obtain⟨w1,w2⟩:=lead_fm h.r2 b y2 ndH
    exact⟨fm _ z1,fm _ w1,fun _=>⟨fun hk=>.inl ⟨by rw[gs];exact z2 hk,nd _⟩,fun hk=>.inl ⟨by rw[gs];exact w2 hk,nd _⟩⟩⟩
   ·exact old q b (fun _=>by omega)
  ·exact old q hk (fun e=>by omega)
 ·obtain⟨c0,a1,a2,a3,a4,a5⟩:=same i c hc'
  have:=g2 i c0 a1
  rw[a5]
  exact⟨this.1,fun e=>by have:=this.2 e;omega⟩
 ·refine(r6_5 (by omega)).2 ?_
  have:(K.getC H.hand)=N:=by rw[gC,if_pos rfl]
  rw[e3,hl,e6,this,if_pos ⟨hh,by rw[n1.1];exact hu⟩,n3]
  omega
theorem mendU_sound{H:Heap}(h:Sound H)(hp:H.phase=5):Sound H.mendU:=by
 unfold Heap.mendU
 have h0:=h.r1.hand
 have hs0:=h.r1.sub
 by_cases hh:H.hand=H.cells.length
 ·rw[if_pos hh];exact enter6_sound h hp hh
 ·rw[if_neg hh]
  cases hs:(H.getC H.hand).pairs[H.sub.toNat]? with
  |none=>simp only;exact skip_sound h hp (by omega) (by have:=List.getElem?_eq_none_iff.1 hs;omega)
  |some p=>simp only;exact mended_sound h hp (by omega) hs
noncomputable def Heap.closeA(H:Heap):List Cell:=if(H.getC (H.hand-1)).state=2 then H.cells.set (H.hand-1).toNat Cell.zero else H.cells
noncomputable def Heap.closeU(H:Heap):Heap:=
 if H.hand=0 then{H.enterH 0 with rounds:=if H.rounds<1000000000 then H.rounds+1 else H.rounds}
 else{H with hand:=H.hand-1,cells:=if H.hand=H.cells.length∧(getL H.closeA (H.hand-1)).state=0 then H.closeA.take (H.hand-1).toNat else H.closeA}
theorem enter0_sound{H:Heap}(h:Sound H)(hp:H.phase=6)(hh:H.hand=0):Sound {H.enterH 0 with rounds:=if H.rounds<1000000000 then H.rounds+1 else H.rounds}:=by
 obtain⟨g1,g2⟩:=h.r5.else_ (not_mark (by omega))
 have hr:=h.r1.rounds
 refine⟨{h.r1 with phase:=by simp[Heap.enterH],hand:=by simp[Heap.enterH],sub:=by simp[Heap.enterH],rounds:=by show 0≤(if H.rounds<1000000000 then H.rounds+1 else H.rounds)∧(if H.rounds<1000000000 then H.rounds+1 else H.rounds)≤1000000000;split<;>omega},⟨fun j d hd=>?_,h.r2.born,h.r2.to⟩,h.r3,?_,⟨fun hn=>?_,fun _=>⟨g1,fun i c hc=>⟨(g2 i c hc).1,fun e=>by have:=(g2 i c hc).2 e;omega⟩⟩⟩,?_,R7.nil ?_,R8.nil (by simp[Heap.enterH])⟩
 ·rcases h.r2.each j d hd with h1|h1|h1
  ·exact .inl h1
  ·have:=h.r8 hp j d hd (by omega)
   exact absurd h1.1 this
  ·exact .inr (.inr h1)
 ·exact r4_frame h.r4 rfl rfl (fun _=>rfl) (fun j=>⟨fun h=>by have:=h.1;simp[Heap.enterH]at this,fun h=>by have:=h.1;omega⟩) (same_orig rfl) (fun _ _ _ _ _ _ _=>not_mend (by omega) _ _)
 ·rcases hn with e|e<;>simp[Heap.enterH]at e
 ·exact(r6_0 (by simp[Heap.enterH])).2 ⟨rfl,rfl⟩
 ·rintro(e|e)<;>simp[Heap.enterH]at e
theorem lead1{H:Heap}(h:Sound H)(hp:H.phase=6):(∀w,w∈H.regs→Formed H w∧(w.kind=2→(H.getC w.at_).state=1))∧∀(i:Nat) c,H.cells[i]?=some c→∀(k:Nat) p,c.pairs[k]?=some p→∀w,(w=p.key∨w=p.val)→Formed H w∧(w.kind=2→(H.getC w.at_).state=1):=
 ⟨fun w hw=>⟨(reg_used h.r4 hw).1,fun hk=>((reg_used h.r4 hw).2 hk).1⟩,fun i c hc k p hk w hw=>by
   have m:=pair_used h.r4 hc hk (not_mend (by omega) _ _) (not_doom (by omega) _) (w:=w) hw
   exact⟨m.1,fun hk=>(m.2 hk).1⟩⟩
theorem r4_lead1{K:Heap}(hp:K.phase=6)(h:(∀w,w∈K.regs→Formed K w∧(w.kind=2→(K.getC w.at_).state=1))∧∀(i:Nat) c,K.cells[i]?=some c→∀(k:Nat) p,c.pairs[k]?=some p→∀w,(w=p.key∨w=p.val)→Formed K w∧(w.kind=2→(K.getC w.at_).state=1)):R4 K:=by
 have nd:∀j,¬Doomed K j:=fun j=>not_doom (by omega) j
 refine⟨fun w hw=>⟨(h.1 w hw).1,fun hk=>.inl ⟨(h.1 w hw).2 hk,nd _⟩⟩,fun i c hc hd=>absurd hd (nd i),fun i c hc k p hk=>?_⟩
 have m:=h.2 i c hc k p hk
 exact⟨(m _ (.inl rfl)).1,(m _ (.inr rfl)).1,fun _=>⟨fun hk=>.inl ⟨(m _ (.inl rfl)).2 hk,nd _⟩,fun hk=>.inl ⟨(m _ (.inr rfl)).2 hk,nd _⟩⟩⟩
theorem closeA_sound{H:Heap}(h:Sound H)(hp:H.phase=6)(hh:H.hand≠0):Sound {H with hand:=H.hand-1,cells:=H.closeA}:=by
 have h0:=h.r1.hand
 have hs0:=sub0 h.r6 (by omega)
 obtain⟨g1,g2⟩:=h.r5.else_ (not_mark (by omega))
 obtain⟨l1,l2⟩:=lead1 h hp
 have hc:=getL_some (cs:=H.cells) (j:=H.hand-1) (by omega) (by omega)
 rw[←getC_L]at hc
 have hlt:=(List.getElem?_eq_some_iff.1 hc).1
 generalize hK:({H with hand:=H.hand-1,cells:=H.closeA}:Heap)=K
 have e1:K.cells=H.closeA:=by rw[←hK]
 have e2:K.phase=H.phase:=by rw[←hK]
 have e3:K.hand=H.hand-1:=by rw[←hK]
 have e4:K.regs=H.regs:=by rw[←hK]
 have e5:K.gray=H.gray:=by rw[←hK]
 have e6:K.sub=H.sub:=by rw[←hK]
 have e7:K.born=H.born:=by rw[←hK]
 have e8:K.used=H.used:=by rw[←hK]
 have e9:K.room=H.room:=by rw[←hK]
 have hl:K.cells.length=H.cells.length:=by rw[e1];unfold Heap.closeA;split<;>simp
 have gs:∀j:Int,(H.getC j).state=1→K.getC j=H.getC j:=fun j hj=>by
  rw[getC_L,getC_L,e1]
  unfold Heap.closeA
  split
  ·rename_i hs
   rw[getL_set hlt]
   split
   ·rename_i e
    have:H.getC j=H.getC (H.hand-1):=by rw[getC_L,getL_at hc e]
    rw[this]at hj;omega
   ·rfl
  ·rfl
 have cell:∀(j:Nat) d,K.cells[j]?=some d→(d=Cell.zero∧(j:Int)=H.hand-1)∨(H.cells[j]?=some d∧((j:Int)=H.hand-1→d.state≠2)):=fun j d hd=>by
  rw[e1]at hd
  unfold Heap.closeA at hd
  split at hd
  ·rcases set_gt hd with⟨a,b,_⟩|⟨a,b⟩
   ·exact .inl ⟨b,by omega⟩
   ·exact .inr ⟨b,fun e=>by omega⟩
  ·rename_i hs
   refine .inr ⟨hd,fun e=>?_⟩
   have:=getC_nat hd
   rw[e]at this
   rw[←this];exact hs
 refine⟨?_,⟨fun j d hd=>?_,fun i j c d hc' hd hij h1 h2=>?_,fun i j c d hc' hd hij h1 h2=>?_⟩,?_,r4_lead1 (by omega) ⟨fun w hw=>?_,fun i c hc' k q hk w hw=>?_⟩,⟨fun hn=>absurd hn (not_mark (by omega)),fun _=>⟨by rw[e5];exact g1,fun i c hc'=>?_⟩⟩,?_,R7.nil (not_mark (by omega)),fun _ i c hc' hi=>?_⟩
 ·have hx:=h.r1
  have hl2:H.closeA.length=H.cells.length:=by rw[←e1];exact hl
  subst hK
  exact{h.r1 with cells:=by rw[hl];exact h.r1.cells,gray:=by rw[hl];exact h.r1.gray,hand:=by rw[hl];show 0≤H.hand-1∧H.hand-1≤(H.cells.length:Int);omega}
 ·rcases cell j d hd with⟨rfl,_⟩|⟨a,b⟩
  ·exact .inl ⟨rfl,⟨rfl,rfl,rfl,rfl,rfl,rfl⟩,rfl⟩
  ·rcases h.r2.each j d a with h1|h1|h1
   ·exact .inl h1
   ·obtain⟨a1,a2,a3,a4,a5,a6⟩:=h1
    exact .inr (.inl ⟨a1,a2,by omega,a4,by rw[gs _ a5];exact a5,fun e=>by omega⟩)
   ·exact .inr (.inr (by unfold UsedOk at*;rw[e7];exact h1))
 ·rcases cell i c hc' with⟨rfl,_⟩|⟨a,_⟩
  ·simp[Cell.zero]at h1
  rcases cell j d hd with⟨rfl,_⟩|⟨b,_⟩
  ·simp[Cell.zero]at h2
  exact h.r2.born i j c d a b hij h1 h2
 ·rcases cell i c hc' with⟨rfl,_⟩|⟨a,_⟩
  ·simp[Cell.zero]at h1
  rcases cell j d hd with⟨rfl,_⟩|⟨b,_⟩
  ·simp[Cell.zero]at h2
  exact h.r2.to i j c d a b hij h1 h2
 ·have h3:=h.r3
  unfold R3 at h3⊢
  rw[e1,e8,e9]
  unfold Heap.closeA
  split
  ·rename_i hs
   rw[units_set hc]
   have u1:(H.getC (H.hand-1)).units=0:=by unfold Cell.units;rw[if_neg (by omega)]
   have u2:Cell.zero.units=0:=rfl
   omega
  ·exact h3
 ·rw[e4]at hw
  obtain⟨a,b⟩:=l1 w hw
  exact⟨formed_len hl a,fun hk=>by rw[gs _ (b hk)];exact b hk⟩
 ·rcases cell i c hc' with⟨rfl,_⟩|⟨a,_⟩
  ·simp[Cell.zero]at hk
  ·obtain⟨a,b⟩:=l2 i c a k q hk w hw
   exact⟨formed_len hl a,fun hk=>by rw[gs _ (b hk)];exact b hk⟩
 ·rcases cell i c hc' with⟨rfl,_⟩|⟨a,_⟩
  ·exact⟨by simp[Cell.zero],by simp[Cell.zero]⟩
  ·exact⟨(g2 _ _ a).1,fun e=>by have:=(g2 _ _ a).2 e;omega⟩
 ·exact(r6_e (by omega)).2 (by rw[e6];exact hs0)
 ·rcases cell i c hc' with⟨rfl,_⟩|⟨a,b⟩
  ·simp[Cell.zero]
  ·by_cases e:(i:Int)=H.hand-1
   ·exact b e
   ·exact h.r8 hp i c a (by omega)
theorem unitsN_append(a b:List Cell):unitsN (a++b)=unitsN a+unitsN b:=by
 unfold unitsN
 rw[List.map_append,List.sum_append]
theorem cut_sound{H:Heap}(h:Sound H)(hp:H.phase=6)(hh:H.hand+1=H.cells.length)(hs:(H.getC H.hand).state=0):Sound {H with cells:=H.cells.take H.hand.toNat}:=by
 have h0:=h.r1.hand
 have hs0:=sub0 h.r6 (by omega)
 obtain⟨g1,g2⟩:=h.r5.else_ (not_mark (by omega))
 obtain⟨l1,l2⟩:=lead1 h hp
 have hc:=getL_some (cs:=H.cells) (j:=H.hand) (by omega) (by omega)
 rw[←getC_L]at hc
 have hlt:=(List.getElem?_eq_some_iff.1 hc).1
 generalize hK:({H with cells:=H.cells.take H.hand.toNat}:Heap)=K
 have e1:K.cells=H.cells.take H.hand.toNat:=by rw[←hK]
 have e2:K.phase=H.phase:=by rw[←hK]
 have e3:K.hand=H.hand:=by rw[←hK]
 have e4:K.regs=H.regs:=by rw[←hK]
 have e5:K.gray=H.gray:=by rw[←hK]
 have e6:K.sub=H.sub:=by rw[←hK]
 have e7:K.born=H.born:=by rw[←hK]
 have e8:K.used=H.used:=by rw[←hK]
 have e9:K.room=H.room:=by rw[←hK]
 have hl:(K.cells.length:Int)=H.hand:=by rw[e1,List.length_take];omega
 have cell:∀(j:Nat) d,K.cells[j]?=some d→H.cells[j]?=some d∧(j:Int)<H.hand:=fun j d hd=>by
  have:=(List.getElem?_eq_some_iff.1 hd).1
  refine⟨?_,by omega⟩
  rw[e1,List.getElem?_take,if_pos (by omega)]at hd
  exact hd
 have gs:∀j:Int,0≤j→j<H.hand→K.getC j=H.getC j:=fun j a b=>by
  rw[getC_L,getC_L,e1]
  unfold getL
  rw[List.getD_eq_getElem?_getD,List.getD_eq_getElem?_getD,List.getElem?_take,if_pos (by omega)]
 have ok:∀w,Formed H w→(w.kind=2→(H.getC w.at_).state=1)→Formed K w∧(w.kind=2→(K.getC w.at_).state=1):=fun w hf hw=>by
  have lt:w.kind=2→0≤w.at_∧w.at_<H.hand:=fun hk=>by
   have hat:=hf.at hk
   have h1:=hw hk
   have:w.at_≠H.hand:=fun e=>by rw[e,hs]at h1;omega
   omega
  refine⟨?_,fun hk=>by rw[gs _ (lt hk).1 (lt hk).2];exact hw hk⟩
  rcases hf with x|x|x
  ·exact .inl x
  ·exact .inr (.inl x)
  ·exact .inr (.inr ⟨x.1,x.2.1,(lt x.1).1,by have:=(lt x.1).2;omega⟩)
 refine⟨?_,⟨fun j d hd=>?_,fun i j c d hc' hd hij h1 h2=>h.r2.born i j c d (cell i c hc').1 (cell j d hd).1 hij h1 h2,fun i j c d hc' hd hij h1 h2=>h.r2.to i j c d (cell i c hc').1 (cell j d hd).1 hij h1 h2⟩,?_,r4_lead1 (by omega) ⟨fun w hw=>?_,fun i c hc' k q hk w hw=>?_⟩,⟨fun hn=>absurd hn (not_mark (by omega)),fun _=>⟨by rw[e5];exact g1,fun i c hc'=>?_⟩⟩,?_,R7.nil (not_mark (by omega)),fun _ i c hc' hi=>?_⟩
 ·have hx:=h.r1.cells
  subst hK
  exact{h.r1 with cells:=by omega,gray:=by show H.gray.length≤_;rw[g1];simp,hand:=by rw[hl];exact⟨h0.1,Int.le_refl _⟩}
 ·obtain⟨a,b⟩:=cell j d hd
  rcases h.r2.each j d a with h1|h1|h1
  ·exact .inl h1
  ·obtain⟨a1,a2,a3,a4,a5,a6⟩:=h1
   exact .inr (.inl ⟨a1,a2,by omega,a4,by rw[gs _ a4.1 (by omega)];exact a5,fun e=>by omega⟩)
  ·exact .inr (.inr (by unfold UsedOk at*;rw[e7];exact h1))
 ·have h3:=h.r3
  unfold R3 at h3⊢
  rw[e1,e8,e9]
  have:H.cells=H.cells.take H.hand.toNat++[H.getC H.hand]:=by
   have hx:=List.take_append_drop H.hand.toNat H.cells
   rw[List.drop_eq_getElem_cons (by omega),List.drop_eq_nil_of_le (by omega)]at hx
   have hy:=(List.getElem?_eq_some_iff.1 hc).2
   rw[hy]at hx
   exact hx.symm
  rw[this,unitsN_append]at h3
  have u:unitsN [H.getC H.hand]=0:=by simp[unitsN,Cell.units,hs]
  omega
 ·rw[e4]at hw
  obtain⟨a,b⟩:=l1 w hw
  exact ok w a b
 ·obtain⟨a,b⟩:=l2 i c (cell i c hc').1 k q hk w hw
  exact ok w a b
 ·have a:=(cell i c hc').1
  exact⟨(g2 _ _ a).1,fun e=>by have:=(g2 _ _ a).2 e;omega⟩
 ·exact(r6_e (by omega)).2 (by rw[e6];exact hs0)
 ·obtain⟨a,b⟩:=cell i c hc'
  omega
theorem closeU_sound{H:Heap}(h:Sound H)(hp:H.phase=6):Sound H.closeU:=by
 unfold Heap.closeU
 by_cases hh:H.hand=0
 ·rw[if_pos hh];exact enter0_sound h hp hh
 ·rw[if_neg hh]
  have hA:=closeA_sound h hp hh
  have hl:H.closeA.length=H.cells.length:=by unfold Heap.closeA;split<;>simp
  split
  ·rename_i e
   have:=cut_sound (H:={H with hand:=H.hand-1,cells:=H.closeA}) hA hp (by simp only;omega) e.2
   exact this
  ·exact hA
noncomputable def Heap.unitH(H:Heap):Heap:=
 if H.phase=1 then H.rootsU else if H.phase=2 then H.markU else if H.phase=3 then H.sweepU else if H.phase=4 then H.moveU else if H.phase=5 then H.mendU else if H.phase=6 then H.closeU else H
theorem unit_sound{H:Heap}(h:Sound H):Sound H.unitH:=by
 unfold Heap.unitH
 split
 ·exact rootsU_sound h ‹_›
 split
 ·exact markU_sound h ‹_›
 split
 ·exact sweepU_sound h ‹_›
 split
 ·exact moveU_sound h ‹_›
 split
 ·exact mendU_sound h ‹_›
 split
 ·exact closeU_sound h ‹_›
 exact h
theorem begin_sound{H:Heap}(h:Sound H)(hp:H.phase=0):Sound (H.enterH 1):=by
 obtain⟨g1,g2⟩:=h.r5.else_ (not_mark (by omega))
 refine⟨{h.r1 with phase:=by simp[Heap.enterH],hand:=by simp[Heap.enterH],sub:=by simp[Heap.enterH]},⟨fun j d hd=>?_,h.r2.born,h.r2.to⟩,h.r3,?_,⟨fun _=>?_,fun hn=>absurd (.inl rfl) hn⟩,?_,fun _ j d hd=>?_,R8.nil (by simp[Heap.enterH])⟩
 ·rcases h.r2.each j d hd with h1|h1|h1
  ·exact .inl h1
  ·have:=h1.2.2.1;omega
  ·exact .inr (.inr h1)
 ·exact r4_frame h.r4 rfl rfl (fun _=>rfl) (fun j=>⟨fun h=>by have:=h.1;simp[Heap.enterH]at this,fun h=>by have:=h.1;omega⟩) (same_orig rfl) (fun _ _ _ _ _ _ _=>not_mend (by omega) _ _)
 ·have:(H.enterH 1).gray=[]:=g1
  rw[this]
  exact⟨by simp,fun g hg=>by simp at hg,fun i c hc e=>absurd e (g2 i c hc).1⟩
 ·exact(r6_e (by simp[Heap.enterH])).2 rfl
 ·refine⟨fun _ _=>⟨by simp[Heap.enterH],by show(0:Int)≤j;omega⟩,fun k p hk hs=>?_⟩
  unfold scanned at hs
  rw[if_neg (fun e=>by have:=(g2 j d hd).2 e;omega),if_neg (by simp[Heap.enterH])]at hs
  omega
noncomputable def wgt(c:Cell):Int:=if c.color=0 then 408 else if c.color=1 then 204 else 0
noncomputable def wN(cs:List Cell):Int:=(cs.map wgt).sum
theorem wN_set:∀{cs:List Cell} {i:Nat} {c d:Cell},cs[i]?=some c→wN (cs.set i d)=wN cs-wgt c+wgt d
 |[],i,c,d,h=>by simp at h
 |a::r,0,c,d,h=>by
  simp only[List.getElem?_cons_zero,Option.some.injEq]at h
  subst h
  simp only[wN,List.set_cons_zero,List.map_cons,List.sum_cons];omega
 |a::r,i+1,c,d,h=>by
  simp only[List.getElem?_cons_succ]at h
  have:=wN_set (d:=d) h
  simp only[wN,List.set_cons_succ,List.map_cons,List.sum_cons]at this⊢;omega
theorem wgt_b(c:Cell):0≤wgt c∧wgt c≤408:=by
 unfold wgt
 split
 ·omega
 ·split<;>omega
theorem wN_b:∀cs:List Cell,0≤wN cs∧wN cs≤408*cs.length
 |[]=>by simp[wN]
 |c::r=>by
  have h1:=wN_b r
  have h2:=wgt_b c
  simp only[wN,List.map_cons,List.sum_cons,List.length_cons]at h1⊢
  omega
theorem shadeW_no{H:Heap}{w:Word}(h:¬White H w)(hf:Formed H w):H.shadeW w=H:=by
 unfold Heap.shadeW
 split
 ·rename_i hk
  have hat:=hf.at hk
  unfold Heap.shadeH
  rw[if_neg]
  rintro⟨_,e⟩
  rw[show((w.at_.toNat:Nat):Int)=w.at_ by omega]at e
  exact h ⟨hk,e⟩
 ·rfl
theorem shadeW_yes{H:Heap}{w:Word}(h:White H w)(hm:Marking H)(hf:Formed H w):wN (H.shadeW w).cells=wN H.cells-204:=by
 have hat:=hf.at h.1
 have hc:=getL_some (cs:=H.cells) hat.1 hat.2
 rw[←getC_L]at hc
 have e:((w.at_.toNat:Nat):Int)=w.at_:=by omega
 unfold Heap.shadeW
 rw[if_pos h.1]
 unfold Heap.shadeH
 rw[e,if_pos ⟨hm,h.2⟩]
 show wN (H.cells.set w.at_.toNat ((H.getC w.at_).col 1))=_
 rw[wN_set hc]
 have w1:wgt (H.getC w.at_)=408:=by unfold wgt;rw[if_pos h.2]
 have w2:wgt ((H.getC w.at_).col 1)=204:=by simp[wgt,Cell.col]
 omega
theorem shadeW_w{H:Heap}{w:Word}(hm:Marking H)(hf:Formed H w):wN (H.shadeW w).cells≤wN H.cells∧(White H w→wN (H.shadeW w).cells<wN H.cells):=by
 by_cases h:White H w
 ·have:=shadeW_yes h hm hf
  exact⟨by omega,fun _=>by omega⟩
 ·rw[shadeW_no h hf]
  exact⟨Int.le_refl _,fun h'=>absurd h' h⟩
theorem shadeL_w:∀(ws:List Word) (H:Heap),Marking H→(∀w,w∈ws→Formed H w∧(w.kind=2→(H.getC w.at_).state=1))→wN (H.shadeL ws).cells≤wN H.cells∧((∃w,w∈ws∧White H w)→wN (H.shadeL ws).cells<wN H.cells)
 |[],H,_,_=>⟨Int.le_refl _,fun⟨w,hw,_⟩=>by cases hw⟩
 |w::r,H,hm,h=>by
  obtain⟨a,_⟩:=shadeW_ok (h w (by simp)).1 (h w (by simp)).2
  obtain⟨b1,b2⟩:=shadeW_w hm (h w (by simp)).1
  have hm':Marking (H.shadeW w):=by unfold Marking at*;rw[a.phase];exact hm
  obtain⟨k1,k2⟩:=shadeL_w r (H.shadeW w) hm' (fun v hv=>⟨formed_len a.len (h v (by simp[hv])).1,fun hk=>by rw[(a.cell _).1];exact(h v (by simp[hv])).2 hk⟩)
  have e:H.shadeL (w::r)=(H.shadeW w).shadeL r:=rfl
  rw[e]
  refine⟨by omega,?_⟩
  rintro⟨v,hv,hw⟩
  by_cases h':White H w
  ·have:=b2 h';omega
  ·rcases List.mem_cons.1 hv with rfl|hv
   ·exact absurd hw h'
   ·have e2:=shadeW_no h' (h w (by simp)).1
    rw[e2]at k2⊢
    exact k2 ⟨v,hv,hw⟩
noncomputable def Heap.M(H:Heap):Int:=
 if H.phase=1 then 8000001+H.cells.length-H.hand
 else if H.phase=2 then 4000201+wN H.cells-H.sub
 else if H.phase=3 then 3000001+H.cells.length-H.hand
 else if H.phase=4 then 2000002+luG H H.cells.length
 else if H.phase=5 then 10201+(H.cells.length-H.hand)*202-H.sub
 else if H.phase=6 then H.hand+1 else 0
theorem M1{H:Heap}(h:H.phase=1):H.M=8000001+H.cells.length-H.hand:=by unfold Heap.M;rw[if_pos h]
theorem M2{H:Heap}(h:H.phase=2):H.M=4000201+wN H.cells-H.sub:=by unfold Heap.M;rw[if_neg (by omega),if_pos h]
theorem M3{H:Heap}(h:H.phase=3):H.M=3000001+H.cells.length-H.hand:=by unfold Heap.M;rw[if_neg (by omega),if_neg (by omega),if_pos h]
theorem M4{H:Heap}(h:H.phase=4):H.M=2000002+luG H H.cells.length:=by unfold Heap.M;rw[if_neg (by omega),if_neg (by omega),if_neg (by omega),if_pos h]
theorem M5{H:Heap}(h:H.phase=5):H.M=10201+(H.cells.length-H.hand)*202-H.sub:=by unfold Heap.M;rw[if_neg (by omega),if_neg (by omega),if_neg (by omega),if_neg (by omega),if_pos h]
theorem M6{H:Heap}(h:H.phase=6):H.M=H.hand+1:=by unfold Heap.M;rw[if_neg (by omega),if_neg (by omega),if_neg (by omega),if_neg (by omega),if_neg (by omega),if_pos h]
theorem M0{H:Heap}(h:H.phase=0):H.M=0:=by unfold Heap.M;rw[if_neg (by omega),if_neg (by omega),if_neg (by omega),if_neg (by omega),if_neg (by omega),if_neg (by omega)]
theorem M_b{H:Heap}(h:R1 H):0≤H.M∧H.M≤8008001:=by
 have h1:=h.cells
 have h2:=h.room
 have h3:=h.hand
 have h4:=h.sub
 have h5:=h.phase
 have h6:=wN_b H.cells
 have h7:=luG_ok H H.cells.length
 unfold Heap.M
 repeat' split
 all_goals omega
theorem M_dec{H:Heap}(h:Sound H)(hp:H.phase≠0):H.unitH.M<H.M:=by
 have h1:=h.r1.cells
 have h2:=h.r1.room
 have h3:=h.r1.hand
 have h4:=h.r1.sub
 have h5:=h.r1.phase
 have h6:=wN_b H.cells
 have e6:∀p,(H.enterH p).phase=p∧(H.enterH p).cells=H.cells∧(H.enterH p).sub=0:=fun p=>⟨rfl,rfl,rfl⟩
 have hl1:∀(K:Heap),K.cells.length=H.cells.length→(K.cells.length:Int)=H.cells.length:=fun K e=>by omega
 rcases(by omega:H.phase=1∨H.phase=2∨H.phase=3∨H.phase=4∨H.phase=5∨H.phase=6)with e|e|e|e|e|e
 ·rw[M1 e]
  unfold Heap.unitH
  rw[if_pos e]
  unfold Heap.rootsU
  by_cases hh:H.hand=H.cells.length
  ·rw[if_pos hh,M2 (e6 2).1,(e6 2).2.1,(e6 2).2.2];omega
  ·rw[if_neg hh]
   by_cases hr:Root (H.getC H.hand)
   ·rw[if_pos hr]
    have e':((H.hand.toNat:Nat):Int)=H.hand:=by omega
    obtain⟨a,b⟩:=shadeH_ok (H:=H) (i:=H.hand.toNat) (by omega) (by rw[e'];exact hr.1)
    rw[M1 (by show(H.shadeH _).phase=1;rw[a.phase,e])]
    have:=a.len
    show 8000001+((H.shadeH H.hand.toNat).cells.length:Int)-(H.hand+1)<_
    omega
   ·rw[if_neg hr,M1 (by exact e)]
    show 8000001+(H.cells.length:Int)-(H.hand+1)<_
    omega
 ·rw[M2 e]
  unfold Heap.unitH
  rw[if_neg (by omega),if_pos e]
  unfold Heap.markU
  have hm:Marking H:=.inr e
  cases hg:H.gray with
  |nil=>
   simp only
   have hr:=fun w hw=>reg_used h.r4 (w:=w) hw
   have hr':∀w,w∈H.regs→Formed H w∧(w.kind=2→(H.getC w.at_).state=1):=fun w hw=>⟨(hr w hw).1,fun hk=>((hr w hw).2 hk).1⟩
   by_cases hx:∃w,w∈H.regs∧White H w
   ·rw[if_pos hx]
    have a:=(shadeL_ok H.regs H hr').1
    have b:=(shadeL_w H.regs H hm hr').2 hx
    rw[M2 (by rw[a.phase,e]),a.sub];omega
   ·rw[if_neg hx,M3 (e6 3).1,(e6 3).2.1]
    have:(H.enterH 3).hand=0:=rfl
    omega
  |cons g r=>
   simp only
   obtain⟨g1,g2,g3⟩:=h.r5.mark hm
   obtain⟨b0,b1,b2,b3⟩:=g2 g (by rw[hg];simp)
   have hc:=getL_some (cs:=H.cells) b0 b1
   rw[←getC_L]at hc
   cases hs:(H.getC g).pairs[H.sub.toNat]? with
   |none=>
    simp only
    rw[M2 (by exact e)]
    show 4000201+wN (H.cells.set g.toNat ((H.getC g).col 2))-0<_
    rw[wN_set hc]
    have w1:wgt (H.getC g)=204:=by unfold wgt;rw[if_neg (by omega),if_pos b3]
    have w2:wgt ((H.getC g).col 2)=0:=by simp[wgt,Cell.col]
    omega
   |some p=>
    simp only
    obtain⟨a,b,c⟩:=markP2 h e hg hs
    obtain⟨⟨k1,k2⟩,v1,v2⟩:=markP h e hg hs
    obtain⟨s1,_⟩:=shadeW_ok k1 k2
    rw[M2 (by show((H.shadeW p.key).shadeW p.val).phase=2;rw[a.phase,e])]
    show 4000201+wN ((H.shadeW p.key).shadeW p.val).cells-(H.sub+1)<_
    have x1:=(shadeW_w hm k1).1
    have x2:=(shadeW_w (H:=H.shadeW p.key) (w:=p.val) (by unfold Marking at*;rw[s1.phase];exact hm) (formed_len s1.len v1)).1
    omega
 ·rw[M3 e]
  unfold Heap.unitH
  rw[if_neg (by omega),if_neg (by omega),if_pos e]
  unfold Heap.sweepU
  by_cases hh:H.hand=H.cells.length
  ·rw[if_pos hh,M4 (e6 4).1,(e6 4).2.1]
   have:=(luG_ok (H.enterH 4) H.cells.length).2.1
   omega
  ·rw[if_neg hh]
   split
   ·rw[M3 (by exact e)]
    show 3000001+((H.cells.set _ _).length:Int)-(H.hand+1)<_
    rw[List.length_set];omega
   ·rw[M3 (by exact e)]
    show 3000001+((H.cells.set _ _).length:Int)-(H.hand+1)<_
    rw[List.length_set];omega
 ·rw[M4 e]
  obtain⟨a1,a2,a3,a4⟩:=frG_ok H H.cells.length
  obtain⟨b1,b2,b3,b4⟩:=luG_ok H H.cells.length
  unfold Heap.unitH
  rw[if_neg (by omega),if_neg (by omega),if_neg (by omega),if_pos e]
  unfold Heap.moveU
  split
  ·rw[M5 (e6 5).1,(e6 5).2.1,(e6 5).2.2]
   have:(H.enterH 5).hand=0:=rfl
   omega
  ·rename_i hfu
   generalize hu:luG H H.cells.length=u at*
   generalize hf:frG H H.cells.length=f at*
   have hcu:=getL_some (cs:=H.cells) (j:=u) (by omega) b2
   have hltu:=(List.getElem?_eq_some_iff.1 hcu).1
   have gC:∀j:Int,(H.moved f u).getC j=if j.toNat=u.toNat then Cell.gone f else if j.toNat=f.toNat then H.getC u else H.getC j:=fun j=>by
    rw[getC_L,getC_L]
    show getL ((H.cells.set f.toNat (H.getC u)).set u.toNat (Cell.gone f)) j=_
    rw[getL_set (by simp;omega),getL_set (by omega)];rfl
   have hl:(H.moved f u).cells.length=H.cells.length:=by simp[Heap.moved]
   rw[M4 (by exact e),hl]
   obtain⟨c1,c2,c3,c4⟩:=luG_ok (H.moved f u) H.cells.length
   have:luG (H.moved f u) H.cells.length<u:=by
    rcases Int.lt_or_le (luG (H.moved f u) H.cells.length) u with x|x
    ·exact x
    ·exfalso
     have hx:=c3 (by omega)
     rw[gC]at hx
     generalize luG (H.moved f u) H.cells.length=v at*
     by_cases y:v.toNat=u.toNat
     ·rw[if_pos y]at hx;simp[Cell.gone]at hx
     ·rw[if_neg y,if_neg (by omega)]at hx
      have:=b4 v.toNat (by omega) (by omega)
      rw[show((v.toNat:Nat):Int)=v by omega]at this
      exact this hx
   omega
 ·rw[M5 e]
  unfold Heap.unitH
  rw[if_neg (by omega),if_neg (by omega),if_neg (by omega),if_neg (by omega),if_pos e]
  unfold Heap.mendU
  by_cases hh:H.hand=H.cells.length
  ·rw[if_pos hh,M6 (e6 6).1]
   have:(H.enterH 6).hand=H.cells.length:=by simp[Heap.enterH]
   omega
  ·rw[if_neg hh]
   cases hs:(H.getC H.hand).pairs[H.sub.toNat]? with
   |none=>
    simp only
    rw[M5 (by exact e)]
    simp only
    omega
   |some p=>
    simp only
    rw[M5 (by exact e)]
    simp only[List.length_set]
    omega
 ·rw[M6 e]
  unfold Heap.unitH
  rw[if_neg (by omega),if_neg (by omega),if_neg (by omega),if_neg (by omega),if_neg (by omega),if_pos e]
  unfold Heap.closeU
  split
  ·rw[M0 (by rfl)];omega
  ·rw[M6 (by exact e)]
   simp only
   omega
noncomputable def iterU:Nat→Heap→Heap
 |0,H=>H
 |k+1,H=>iterU k H.unitH
theorem iterU_succ:∀(k:Nat) (H:Heap),iterU (k+1) H=(iterU k H).unitH
 |0,H=>rfl
 |k+1,H=>iterU_succ k H.unitH
theorem iterU_sound:∀(k:Nat) {H:Heap},Sound H→Sound (iterU k H)
 |0,_,h=>h
 |k+1,_,h=>iterU_sound k (unit_sound h)
def IsOut(H:Heap)(k:Nat):Prop:=(iterU k H).phase=0∧∀j,j<k→(iterU j H).phase≠0
theorem IsOut.unique{H:Heap}{k l:Nat}(h:IsOut H k)(h':IsOut H l):k=l:=by
 rcases Nat.lt_trichotomy k l with x|x|x
 ·exact absurd h.1 (h'.2 k x)
 ·exact x
 ·exact absurd h'.1 (h.2 l x)
theorem out_ex:∀(n:Nat) {H:Heap},Sound H→H.M.toNat≤n→∃k,k≤n∧IsOut H k
 |0,H,h,hn=>by
  refine⟨0,Nat.le_refl _,?_,fun j hj=>by omega⟩
  show H.phase=0
  rcases Decidable.em (H.phase=0)with e|e
  ·exact e
  ·have h1:=M_dec h e
   have h2:=(M_b (unit_sound h).r1).1
   omega
 |n+1,H,h,hn=>by
  rcases Decidable.em (H.phase=0)with e|e
  ·exact⟨0,by omega,e,fun j hj=>by omega⟩
  ·have h1:=M_dec h e
   have h2:=(M_b (unit_sound h).r1).1
   obtain⟨k,hk,a,b⟩:=out_ex n (unit_sound h) (by omega)
   refine⟨k+1,by omega,a,fun j hj=>?_⟩
   cases j with
   |zero=>exact e
   |succ j=>exact b j (by omega)
noncomputable def outN(H:Heap):Nat:=Classical.epsilon (IsOut H)
theorem outN_ok{H:Heap}(h:Sound H):IsOut H (outN H)∧outN H≤8008001:=by
 have hb:=M_b h.r1
 obtain⟨k,hk,ho⟩:=out_ex 8008001 h (by omega)
 have:=Classical.epsilon_spec (p:=IsOut H) ⟨k,ho⟩
 exact⟨this,by rw[show outN H=k from IsOut.unique this ho];exact hk⟩
noncomputable def Heap.outH(H:Heap):Heap:=iterU (outN H) H
theorem outH_ok{H:Heap}(h:Sound H):Sound H.outH∧H.outH.phase=0:=⟨iterU_sound _ h,(outN_ok h).1.1⟩
theorem out_phase{H:Heap}(h:Sound H){j:Nat}(hj:j≤outN H):(iterU j H).phase=0↔j=outN H:=by
 obtain⟨⟨a,b⟩,_⟩:=outN_ok h
 constructor
 ·intro e
  rcases Nat.lt_or_ge j (outN H)with x|x
  ·exact absurd e (b j x)
  ·omega
 ·intro e;rw[e];exact a
noncomputable def Heap.beginH(H:Heap):Heap:=if H.phase=0 then H.enterH 1 else H
theorem beginH_ok{H:Heap}(h:Sound H):Sound H.beginH:=by
 unfold Heap.beginH
 split
 ·exact begin_sound h ‹_›
 ·exact h
noncomputable def Heap.roundH(H:Heap):Heap:=(H.outH.enterH 1).outH
theorem roundH_ok{H:Heap}(h:Sound H):Sound H.roundH∧H.roundH.phase=0:=by
 obtain⟨a,b⟩:=outH_ok h
 exact outH_ok (begin_sound a b)
noncomputable def stepN(H:Heap)(n:Int):Nat:=if n=0 then 0 else min n.toNat (outN H.beginH)
noncomputable def Heap.stepH(H:Heap)(n:Int):Heap:=if n=0 then H else iterU (stepN H n) H.beginH
theorem stepH_ok{H:Heap}(h:Sound H)(n:Int):Sound (H.stepH n):=by
 unfold Heap.stepH
 split
 ·exact h
 ·exact iterU_sound _ (beginH_ok h)
end Go.Proofs.YtpleoapljeffiaaGreatDoor.E
set_option maxHeartbeats 4000000
set_option maxRecDepth 100000
namespace Go.Proofs.YtpleoapljeffiaaGreatDoor.E
open Go
open Classical
theorem u_b1{b:Nat}{v w:Value}:UpA (bx b [v]) b 0 [w] (bx b [w]):=up_bx (by simp) ⟨rfl⟩
theorem g_sb{P:Program}{S:St}{As As':List Asr}{post:St→List Asr→Prop}{r:List I}{x y:Operand}{b:Nat}{v:Value}(hx:lc S x=some (.mm b 0))(hy:ev S y=some v)(hn:v.cells.size=1)(hpl:plainCells v.cells.toList=true)(hp:LA P r post S As')
 (hu:Up As b 0 v.cells.toList As':=by(fail_if_success apply up_bad);(repeat(first|exact up_h u_b1|apply up_t));fail_if_success focus skip):LA P (⟨none,none,.store 1 x y⟩::r) post S As:=a_st hx hy hn hpl hu hp
def Heap.toI(H:Heap)(w:Word):Int:=if w.kind=2 then(H.lead w).at_ else-1
theorem to_q{m:Mem}{a:Nat}{x:HX}{w:Word}(h:Has m (hp a x))(hf:w.kind=2→0≤w.at_∧w.at_<x.H.cells.length):Qt Tryz.prog 124 [ptr a,wa w] m (.int .i64 (x.H.toI w)):=by
 refine qt_of (fnA_of (fun h=>fn124 (by simp) h) ?_)
 unfold Heap.toI
 repeat' (first|refine xx ?_|(refine xy ?_ ?_<;>intro hb<;>try(exfalso;omega))|(refine k_L ?_;(refine k_c ?_;refine a_cq rfl (fun m hm=>lead_q (x:=x.hs) (w:=w) (has_g h hm).ph hf) ?_))|fail)
 ·exact fa_q (by simp) (fun _ _=>rfl) (by rw[if_neg (by simp_all)])
 ·exact fa_q (by simp) (fun _ _=>rfl) (by rw[if_pos (by simp_all)];rfl)
abbrev seA(a p1 p2 p3:Nat)(sd kd:D)(s:List Bool×List Int):List Asr:=[bx p1 [ptr a],bx p2 [.slice sd.a s.1.length sd.cap],slA 1 bv sd s.1,bx p3 [.slice kd.a s.2.length kd.cap],slA 1 iv kd s.2]
theorem reach1_a{m:Mem}{a p1 p2 p3:Nat}{x:HX}{w:Word}{s:List Bool×List Int}{S:Nat→Prop}{sd kd:D}(h:Has m (hp a x))(h1:R1 x.H)(h2:R2 x.H)(hf:Formed x.H w)(hk:Mk x.H S s):
 FnA Tryz.prog 168 [wa w,ptr p1,ptr p2,ptr p3] (seA a p1 p2 p3 sd kd s++[ro m]) (fun v As=>∃kd',As=seA a p1 p2 p3 sd kd' (mkW x.H s w)++[ro m]):=by
 have hc:=h1.cells
 have hr:=h1.room
 have hcn:=hk.cnt
 have hln:=hk.len
 refine fnA_of (fun h=>fn168 (by simp) h) ?_
 have hat:=fun hk2=>hf.at hk2
 by_cases hk2:w.kind=2
 ·have ht:x.H.tgt w=some (x.H.lead w).at_.toNat:=by unfold Heap.tgt;rw[if_pos (lead_kind.2 hk2)]
  have hl:=tgt_lt h2 hf ht
  generalize(x.H.lead w).at_.toNat=j at ht hl
  have e:x.H.toI w=(j:Int):=by unfold Heap.toI;rw[if_pos hk2];exact hl.2.2
  cases hb:s.1[j]? with
  |none=>rw[List.getElem?_eq_none_iff]at hb;omega
  |some b=>
   cases b with
   |true=>
    have em:mkW x.H s w=s:=by unfold mkW;rw[ht];simp[hb]
    repeat' (first|refine xx ?_|(refine k_L ?_;(refine k_c ?_;refine a_cq rfl (fun m hm=>qt_e (to_q (has_g h hm) hat) (by rw[e])) ?_))|fail)
    exact fa_n (fun _ _=>rfl) (Ent.refl _) ⟨kd,by rw[em]⟩
   |false=>
    have em:mkW x.H s w=(s.1.set j true,s.2++[(j:Int)]):=by unfold mkW;rw[ht];simp[hb]
    repeat' (first|refine xx ?_|(refine k_L ?_;first|(refine k_c ?_;refine a_cq rfl (fun m hm=>qt_e (to_q (has_g h hm) hat) (by rw[e])) ?_)|(refine g_ai rfl rfl (by omega) (fun e'=>?_))|(refine g_sb rfl rfl rfl rfl ?_))|fail)
    exact fa_n (As':=[bx p1 [ptr a],bx p2 [.slice sd.a s.1.length sd.cap],slA 1 bv sd (s.1.set j true),bx p3 [.slice e'.a (s.2++[(j:Int)]).length e'.cap],slA 1 iv e' (s.2++[(j:Int)]),ro m]) (fun _ _=>rfl) (Pm.ent pmt) ⟨e',by rw[em];simp[seA]⟩
 ·have ht:x.H.tgt w=none:=by unfold Heap.tgt;rw[if_neg (fun h=>hk2 (lead_kind.1 h))]
  have e:x.H.toI w= -1:=by unfold Heap.toI;rw[if_neg hk2]
  have em:mkW x.H s w=s:=by unfold mkW;rw[ht]
  repeat' (first|refine xx ?_|(refine k_L ?_;(refine k_c ?_;refine a_cq rfl (fun m hm=>qt_e (to_q (has_g h hm) hat) (by rw[e])) ?_))|fail)
  exact fa_n (fun _ _=>rfl) (Ent.refl _) ⟨kd,by rw[em]⟩
theorem holds1_a{m:Mem}{a p1 p2 p3:Nat}{x:HX}{w:Word}{s:List Bool×List Int}{S:Nat→Prop}{sd kd:D}(h:Has m (hp a x))(h1:R1 x.H)(h2:R2 x.H)(hf:Formed x.H w)(hk:Mk x.H S s):
 FnA Tryz.prog 167 [wa w,ptr p1,ptr p2,ptr p3] (seA a p1 p2 p3 sd kd s++[ro m]) (fun v As=>∃kd',As=seA a p1 p2 p3 sd kd' (mkW x.H s w)++[ro m]):=by
 have hc:=h1.cells
 have hr:=h1.room
 have hcn:=hk.cnt
 have hln:=hk.len
 refine fnA_of (fun h=>fn167 (by simp) h) ?_
 have hat:=fun hk2=>hf.at hk2
 by_cases hk2:w.kind=2
 ·have ht:x.H.tgt w=some (x.H.lead w).at_.toNat:=by unfold Heap.tgt;rw[if_pos (lead_kind.2 hk2)]
  have hl:=tgt_lt h2 hf ht
  generalize(x.H.lead w).at_.toNat=j at ht hl
  have e:x.H.toI w=(j:Int):=by unfold Heap.toI;rw[if_pos hk2];exact hl.2.2
  cases hb:s.1[j]? with
  |none=>rw[List.getElem?_eq_none_iff]at hb;omega
  |some b=>
   cases b with
   |true=>
    have em:mkW x.H s w=s:=by unfold mkW;rw[ht];simp[hb]
    repeat' (first|refine xx ?_|(refine k_L ?_;(refine k_c ?_;refine a_cq rfl (fun m hm=>qt_e (to_q (has_g h hm) hat) (by rw[e])) ?_))|fail)
    exact fa_n (fun _ _=>rfl) (Ent.refl _) ⟨kd,by rw[em]⟩
   |false=>
    have em:mkW x.H s w=(s.1.set j true,s.2++[(j:Int)]):=by unfold mkW;rw[ht];simp[hb]
    repeat' (first|refine xx ?_|(refine k_L ?_;first|(refine k_c ?_;refine a_cq rfl (fun m hm=>qt_e (to_q (has_g h hm) hat) (by rw[e])) ?_)|(refine g_ai rfl rfl (by omega) (fun e'=>?_))|(refine g_sb rfl rfl rfl rfl ?_))|fail)
    exact fa_n (As':=[bx p1 [ptr a],bx p2 [.slice sd.a s.1.length sd.cap],slA 1 bv sd (s.1.set j true),bx p3 [.slice e'.a (s.2++[(j:Int)]).length e'.cap],slA 1 iv e' (s.2++[(j:Int)]),ro m]) (fun _ _=>rfl) (Pm.ent pmt) ⟨e',by rw[em];simp[seA]⟩
 ·have ht:x.H.tgt w=none:=by unfold Heap.tgt;rw[if_neg (fun h=>hk2 (lead_kind.1 h))]
  have e:x.H.toI w= -1:=by unfold Heap.toI;rw[if_neg hk2]
  have em:mkW x.H s w=s:=by unfold mkW;rw[ht]
  repeat' (first|refine xx ?_|(refine k_L ?_;(refine k_c ?_;refine a_cq rfl (fun m hm=>qt_e (to_q (has_g h hm) hat) (by rw[e])) ?_))|fail)
  exact fa_n (fun _ _=>rfl) (Ent.refl _) ⟨kd,by rw[em]⟩
end Go.Proofs.YtpleoapljeffiaaGreatDoor.E
