/- A part of the proof. Conditions: none. -/
import Derived.Test.YtpleoapljeffiaaDoorKL8
set_option linter.unusedVariables false
set_option linter.unusedSimpArgs false
namespace Go.Proofs.YtpleoapljeffiaaDoor.E
open Go
open Classical
structure Out where
 heap:Heap
 code:Int
 num:Int
def aMost(op:Int):Int:=if op=18∨20≤op then 0 else 15
def bMost(op:Int):Int:=if op=1 then 255 else if 4≤op∧op≤8∨op=13 then 15 else if op=23 then 64 else 0
def cMost(op:Int):Int:=if op=1∨op=9∨op=10 then 200 else if 5≤op∧op≤8 then 199 else if op=11 then 3 else if op=12 then 1 else if op=22 then 100000 else if op=23 then 4000 else 0
def ActP(a:Act):Prop:=(1≤a.op∧a.op≤24)∧(a.op=2∨a.n=0)∧(0≤a.a∧a.a≤aMost a.op)∧(0≤a.b∧a.b≤bMost a.op)∧(0≤a.c∧a.c≤cMost a.op)
noncomputable def doNew(H:Heap)(a:Act):Out:=
 if H.born=1000000000 then⟨H,4,0⟩
 else if(H.fitsH (1+a.c)).used+(1+a.c)≤(H.fitsH (1+a.c)).room then⟨((H.fitsH (1+a.c)).newH a.a.toNat a.b a.c.toNat).paceH (1+a.c),0,0⟩
 else⟨H.fitsH (1+a.c),4,0⟩
noncomputable def doGrow(H:Heap)(a:Act):Out:=
 if(H.getC (H.getR a.a).at_).pairs.length+a.c>200 then⟨H,5,0⟩
 else if(H.fitsH a.c).used+a.c≤(H.fitsH a.c).room then⟨((H.fitsH a.c).growC ((H.fitsH a.c).getR a.a).at_.toNat a.c.toNat).paceH a.c,0,0⟩
 else⟨H.fitsH a.c,4,0⟩
noncomputable def Heap.cutH(H:Heap)(i n:Nat):Heap:=if n<(H.getC i).pairs.length then H.cutN i n else H
noncomputable def doPair(H:Heap)(a:Act):Out:=
 let w:=H.getR (if a.op=5∨a.op=6 then a.b else a.a)
 if w.kind≠2 then⟨H,2,0⟩
 else match(H.getC w.at_).pairs[a.c.toNat]? with
  |none=>⟨H,3,0⟩
  |some p=>
   if a.op=5 then⟨H.setR a.a (H.lead p.key),0,0⟩
   else if a.op=6 then⟨H.setR a.a (H.lead p.val),0,0⟩
   else if a.op=7 then⟨(H.shadeW (H.getR a.b)).putP w.at_.toNat a.c.toNat ⟨H.getR a.b,p.val⟩,0,0⟩
   else⟨(H.shadeW (H.getR a.b)).putP w.at_.toNat a.c.toNat ⟨p.key,H.getR a.b⟩,0,0⟩
noncomputable def doCell(H:Heap)(a:Act):Out:=
 let w:=H.getR a.a
 if w.kind≠2 then⟨H,2,0⟩
 else if a.op=9 then doGrow H a
 else if a.op=10 then⟨H.cutH w.at_.toNat a.c.toNat,0,0⟩
 else if a.op=11 then⟨H.putW w.at_.toNat a.c,0,0⟩
 else if a.op=12 then⟨(if a.c=1 then H.shadeW w else H).putL w.at_.toNat a.c,0,0⟩
 else if a.op=16 then⟨H,0,(H.getC w.at_).kind⟩
 else⟨H,0,(H.getC w.at_).pairs.length⟩
noncomputable def doDue(H:Heap)(a:Act):Out:=
 if ndG H H.cells.length<0 then⟨H.setR a.a ⟨0,0,0⟩,0,0⟩
 else⟨(H.putL (ndG H H.cells.length).toNat 3).setR a.a ⟨2,0,ndG H H.cells.length⟩,0,1⟩
noncomputable def doA(H:Heap)(a:Act):Out:=
 if a.op=1 then doNew H a
 else if a.op=2 then⟨H.setR a.a ⟨1,a.n,0⟩,0,0⟩
 else if a.op=3 then⟨H.setR a.a ⟨0,0,0⟩,0,0⟩
 else if a.op=4 then⟨H.setR a.a (H.getR a.b),0,0⟩
 else if a.op≤8 then doPair H a
 else if a.op≤12 then doCell H a
 else if a.op=13 then⟨H,0,if H.getR a.a=H.getR a.b then 1 else 0⟩
 else if a.op=14 then⟨H,0,(H.getR a.a).kind⟩
 else if a.op=15 then(if(H.getR a.a).kind=1 then⟨H,0,(H.getR a.a).num⟩else⟨H,2,0⟩)
 else if a.op≤17 then doCell H a
 else if a.op=18 then⟨H.settleH,0,d2 H H.cells.length⟩
 else if a.op=19 then doDue H a
 else if a.op=20 then⟨H,0,sumT H (heldL H) H.cells.length⟩
 else if a.op=21 then⟨H,0,sumT H (reachL H) H.cells.length⟩
 else if a.op=22 then⟨H.stepH a.c,0,0⟩
 else if a.op=23 then⟨{H with per:=a.b,start:=a.c},0,0⟩
 else⟨H.roundH,0,0⟩
noncomputable def actA(H:Heap)(a:Act):Out:=if ActP a then doA H a else⟨H,1,0⟩
theorem aMost_le(op:Int):aMost op≤15:=by unfold aMost;split<;>omega
theorem doNew_sound{H:Heap}{a:Act}(h:Sound H)(ha:ActP a)(ho:a.op=1):Sound (doNew H a).heap:=by
 obtain⟨_,_,a1,a2,a3⟩:=ha
 rw[ho]at a1 a2 a3
 simp[bMost,cMost]at a2 a3
 obtain⟨f1,f2,f3,f4,f5,f6,f7⟩:=fits_ok h (1+a.c)
 unfold doNew
 split
 ·exact h
 ·rename_i hb
  split
  ·refine pace_ok (new_sound f1 ?_ ?_ (by omega) (by omega)) _
   ·have:=h.r1.born;omega
   ·exact a2
  ·exact f1
theorem doGrow_sound{H:Heap}{a:Act}(h:Sound H)(ha:0≤a.a∧a.a≤15)(hc:0≤a.c)(hk:(H.getR a.a).kind=2):Sound (doGrow H a).heap:=by
 obtain⟨f1,f2,f3,f4,f5,f6,f7⟩:=fits_ok h a.c
 unfold doGrow
 split
 ·exact h
 ·rename_i hl
  split
  ·obtain⟨g1,g2⟩:=reg_len h f1 f2 f3 ha.1 ha.2 hk
   obtain⟨k1,k2⟩:=getR_ok f1 ha.1 ha.2
   obtain⟨b0,b1,b2,b3⟩:=k2 g1
   have e:((((H.fitsH a.c).getR a.a).at_.toNat:Nat):Int)=((H.fitsH a.c).getR a.a).at_:=by omega
   exact pace_ok (grow_sound f1 (by omega) (by rw[e];exact b2) (by rw[e];omega) (by omega)) _
  ·exact f1
theorem shade_marks{H:Heap}{w:Word}:Marking (H.shadeW w)↔Marking H:=by
 have e:(H.shadeW w).phase=H.phase:=by
  unfold Heap.shadeW Heap.shadeH
  split
  ·split<;>rfl
  ·rfl
 unfold Marking
 rw[e]
theorem doPair_sound{H:Heap}{a:Act}(h:Sound H)(ha:0≤a.a∧a.a≤15)(hb:0≤a.b∧a.b≤15):Sound (doPair H a).heap:=by
 unfold doPair
 have hx:0≤(if a.op=5∨a.op=6 then a.b else a.a)∧(if a.op=5∨a.op=6 then a.b else a.a)≤15:=by split<;>assumption
 obtain⟨r1,r2⟩:=getR_ok h hx.1 hx.2
 generalize H.getR (if a.op=5∨a.op=6 then a.b else a.a)=w at*
 simp only
 split
 ·exact h
 rename_i hk
 obtain⟨b0,b1,b2,b3⟩:=r2 (by omega)
 have hc:=getL_some (cs:=H.cells) b0 b1
 rw[←getC_L]at hc
 have e:((w.at_.toNat:Nat):Int)=w.at_:=by omega
 cases hp:(H.getC w.at_).pairs[a.c.toNat]? with
 |none=>exact h
 |some p=>
  simp only
  obtain⟨p1,p2,g⟩:=h.r4.pairs _ _ hc _ p hp
  rw[e]at g
  obtain⟨g1,g2⟩:=g b3
  obtain⟨s1,s2⟩:=getR_ok h hb.1 hb.2
  obtain⟨q1,q2⟩:=shadeW_ok s1 (fun hk=>(s2 hk).2.2.1)
  have cc:=q1.cell w.at_
  have hfm:Formed (H.shadeW (H.getR a.b)) (H.getR a.b)∧LeadsWell (H.shadeW (H.getR a.b)) (H.getR a.b) False∧(Marking (H.shadeW (H.getR a.b))→¬White (H.shadeW (H.getR a.b)) (H.getR a.b)):=by
   have hx:=getR_mem h.r1 hb.1 hb.2
   have:=(q1.sound h).r4.regs (H.getR a.b) (by rw[q1.regs];exact hx.2)
   exact⟨this.1,this.2,fun hm=>q2 (shade_marks.1 hm)⟩
  have put:∀q:Pair,(∀v,(v=q.key∨v=q.val)→(v=p.key∧q.key=v∨v=p.val∧q.val=v)∨v=H.getR a.b)→Sound ((H.shadeW (H.getR a.b)).putP w.at_.toNat a.c.toNat q):=fun q hq=>
   putP_sound (p:=p) (q1.sound h) (by rw[q1.len];omega) (by rw[e,cc.1];exact b2) (by rw[e,cc.2.1];exact hp) (fun v hv=>by
    rcases hq v hv with x|x
    ·exact .inl x
    ·rw[x];exact .inr hfm)
  split
  ·obtain⟨x,y⟩:=lead_well h p1 g1
   exact setR_sound h x y
  split
  ·obtain⟨x,y⟩:=lead_well h p2 g2
   exact setR_sound h x y
  split
  ·refine put _ (fun v hv=>?_)
   rcases hv with rfl|rfl
   ·exact .inr rfl
   ·exact .inl (.inr ⟨rfl,rfl⟩)
  ·refine put _ (fun v hv=>?_)
   rcases hv with rfl|rfl
   ·exact .inl (.inl ⟨rfl,rfl⟩)
   ·exact .inr rfl
theorem doCell_sound{H:Heap}{a:Act}(h:Sound H)(ha:ActP a)(hr:0≤a.a∧a.a≤15):Sound (doCell H a).heap:=by
 unfold doCell
 simp only
 obtain⟨r1,r2⟩:=getR_ok h hr.1 hr.2
 obtain⟨_,_,_,_,a3⟩:=ha
 split
 ·exact h
 rename_i hk
 have hk:(H.getR a.a).kind=2:=by omega
 obtain⟨b0,b1,b2,b3⟩:=r2 hk
 have e:(((H.getR a.a).at_.toNat:Nat):Int)=(H.getR a.a).at_:=by omega
 split
 ·exact doGrow_sound h hr a3.1 hk
 split
 ·rename_i ho
  unfold Heap.cutH
  show Sound (if _ then _ else _)
  split
  ·exact cutN_sound h (by omega) (by rw[e];exact b2) (by omega)
  ·exact h
 split
 ·rename_i ho
  rw[ho]at a3
  simp[cMost]at a3
  exact putW_sound h (by omega) (by rw[e];exact b2) a3
 split
 ·rename_i ho
  rw[ho]at a3
  simp[cMost]at a3
  by_cases hc:a.c=1
  ·rw[if_pos hc]
   obtain⟨q1,q2⟩:=shadeW_ok r1 (fun hk=>(r2 hk).2.2.1)
   have hx:=(q1.sound h).r4.regs (H.getR a.a) (by rw[q1.regs];exact(getR_mem h.r1 hr.1 hr.2).2)
   refine putL_sound (q1.sound h) (by rw[q1.len];omega) (by rw[e,(q1.cell _).1];exact b2) (by omega) (fun _=>?_)
   rw[e]
   refine⟨?_,fun hm hcl=>q2 (shade_marks.1 hm) ⟨hk,hcl⟩⟩
   rcases hx.2 hk with x|x
   ·exact x.2
   ·exact x.2.elim
  ·rw[if_neg hc]
   exact putL_sound h (by omega) (by rw[e];exact b2) (by omega) (fun hx=>by omega)
 split
 ·exact h
 ·exact h
theorem ndG_last(H:Heap):∀k:Nat,0≤ndG H k→(H.getC (ndG H k)).last=2
 |0,h=>by simp[ndG]at h
 |k+1,h=>by
  unfold ndG at h⊢
  split
  ·rename_i e;exact e.1
  ·rename_i e;rw[if_neg e]at h;exact ndG_last H k h
theorem doDue_sound{H:Heap}{a:Act}(h:Sound H)(hr:0≤a.a∧a.a≤15):Sound (doDue H a).heap:=by
 unfold doDue
 have hlt:=ndG_lt H H.cells.length
 have hls:=ndG_last H H.cells.length
 generalize ndG H H.cells.length=d at*
 split
 ·exact setR_sound h (no_formed H).1 (no_formed H).2
 rename_i h0
 have e:((d.toNat:Nat):Int)=d:=by omega
 have hc:=getL_some (cs:=H.cells) (j:=d) (by omega) (by omega)
 rw[←getC_L]at hc
 have hs:=last2 h.r2 hc (hls (by omega))
 have hnd:¬Doomed H d:=fun hd=>h.r4.roots _ _ hc (by rw[e];exact hd) ⟨hs,.inr (hls (by omega))⟩
 have hp:Sound (H.putL d.toNat 3):=putL_sound h (by omega) (by rw[e];exact hs) (by omega) (fun hx=>by omega)
 have gC:∀j:Int,((H.putL d.toNat 3).getC j).state=(H.getC j).state∧((H.putL d.toNat 3).getC j).color=(H.getC j).color:=fun j=>by
  have:(H.putL d.toNat 3).getC j=if j.toNat=d.toNat then{H.getC d.toNat with last:=3}else H.getC j:=by rw[getC_L,getC_L];exact getL_set (by omega)
  rw[this]
  split
  ·rename_i ej
   have:H.getC j=H.getC d.toNat:=by rw[getC_L,getC_L];unfold getL;rw[ej];rfl
   rw[this];exact⟨rfl,rfl⟩
  ·exact⟨rfl,rfl⟩
 refine setR_sound hp (.inr (.inr ⟨rfl,rfl,by show 0≤d;omega,?_⟩)) (fun _=>.inl ⟨?_,fun hd=>hnd ?_⟩)
 ·show d<((H.cells.set d.toNat _).length:Int)
  rw[List.length_set];omega
 ·show((H.putL d.toNat 3).getC d).state=1
  rw[(gC d).1];exact hs
 ·have hd:Doomed (H.putL d.toNat 3) d:=hd
  exact⟨hd.1,by rw[←(gC d).1];exact hd.2.1,by rw[←(gC d).2];exact hd.2.2.1,hd.2.2.2⟩
theorem out_if{p:Prop}[Decidable p]{A B:Out}(hA:p→Sound A.heap)(hB:¬p→Sound B.heap):Sound (if p then A else B).heap:=by
 by_cases h:p
 ·rw[if_pos h];exact hA h
 ·rw[if_neg h];exact hB h
theorem doA_sound{H:Heap}{a:Act}(h:Sound H)(ha:ActP a):Sound (doA H a).heap:=by
 have ha':=ha
 obtain⟨a0,_,a1,a2,a3⟩:=ha'
 have hr:0≤a.a∧a.a≤15:=⟨a1.1,by have:=aMost_le a.op;omega⟩
 unfold doA
 refine out_if (fun ho=>doNew_sound h ha ho) (fun h1=>?_)
 refine out_if (fun ho=>setR_sound h (num_formed H _).1 (num_formed H _).2) (fun h2=>?_)
 refine out_if (fun ho=>setR_sound h (no_formed H).1 (no_formed H).2) (fun h3=>?_)
 refine out_if (fun ho=>?_) (fun h4=>?_)
 ·rw[ho]at a2
  simp[bMost]at a2
  exact setR_sound h (getR_ok h a2.1 a2.2).1 (reg_leads h a2.1 a2.2)
 refine out_if (fun ho=>?_) (fun h5=>?_)
 ·refine doPair_sound h hr ?_
  unfold bMost at a2
  rw[if_neg (by omega),if_pos (by omega)]at a2
  exact a2
 refine out_if (fun ho=>doCell_sound h ha hr) (fun h6=>?_)
 refine out_if (fun ho=>h) (fun h7=>?_)
 refine out_if (fun ho=>h) (fun h8=>?_)
 refine out_if (fun ho=>out_if (fun _=>h) (fun _=>h)) (fun h9=>?_)
 refine out_if (fun ho=>doCell_sound h ha hr) (fun h10=>?_)
 refine out_if (fun ho=>settle_sound h) (fun h11=>?_)
 refine out_if (fun ho=>doDue_sound h hr) (fun h12=>?_)
 refine out_if (fun ho=>h) (fun h13=>?_)
 refine out_if (fun ho=>h) (fun h14=>?_)
 refine out_if (fun ho=>stepH_ok h _) (fun h15=>?_)
 refine out_if (fun ho=>?_) (fun h16=>(roundH_ok h).1)
 rw[ho]at a2 a3
 simp[bMost,cMost]at a2 a3
 exact pace_sound h a2 a3
theorem actA_sound{H:Heap}{a:Act}(h:Sound H):Sound (actA H a).heap:=by
 unfold actA
 split
 ·exact doA_sound h ‹_›
 ·exact h
end Go.Proofs.YtpleoapljeffiaaDoor.E
set_option maxHeartbeats 8000000
set_option maxRecDepth 100000
namespace Go.Proofs.YtpleoapljeffiaaDoor.E
open Go
open Classical
def an(c n:Int):Value:=.agg #[.int .i64 c,.int .i64 n]
def actV(a:Act):Value:=.agg (av a).toArray
section
variable {α:Type} {g:Int→α→α} {w:α→Int}
def mkG(g:Int→α→α)(w:α→Int):Int→List α→List α
 |_,[]=>[]
 |k,x::r=>g k x::mkG g w (k+w x) r
end
theorem OffL.refl(M:Mem)(L:List Nat):OffL M L M:=fun _ _ h _=>h
theorem OffL.off{M0 M M':Mem}{L:List Nat}{b:Nat}(h:OffL M0 L M)(o:Off M b M')(hb:b∈L):OffL M0 L M':=fun c k e hc=>by
 rw[o c (fun e'=>hc (e'▸hb))];exact h c k e hc
theorem OffL.trans{M0 M M':Mem}{L:List Nat}(h:OffL M0 L M)(o:OffL M L M'):OffL M0 L M':=fun c k e hc=>o c k (h c k e hc) hc
theorem OffL.mono{M M':Mem}{L L':List Nat}(h:OffL M L M')(l:∀b,b∈L→b∈L'):OffL M L' M':=fun c k e hc=>h c k e (fun m=>hc (l c m))
theorem OffL.le{M0 M M':Mem}{L:List Nat}(h:OffL M L M')(l:M0.le M)(hn:∀b,b∈L→M0 b=none):M0.le M':=fun c k e=>h c k (l c k e) (fun m=>by rw[hn c m]at e;cases e)
def gP(k:Int)(_:Pair):Pair:=⟨⟨k,k+1,k+1+1⟩,⟨k+1+1+1,k+1+1+1+1,k+1+1+1+1+1⟩⟩
def gA(k:Int)(_:Act):Act:=⟨k,k+1,k+1+1,k+1+1+1,k+1+1+1+1⟩
def wP(_:Pair):Int:=6
theorem Sl.congr{M:Mem}{α:Type}{f:α→List Value}{size:Nat}{v:Value}{xs ys:List α}(h:Sl M size f v xs)(e:xs.map f=ys.map f):Sl M size f v ys:=by
 have hl:xs.length=ys.length:=by have:=congrArg List.length e;simpa using this
 have hf:xs.flatMap f=ys.flatMap f:=by rw[List.flatMap_def,List.flatMap_def,e]
 rcases h with⟨c,h1,h2,rfl⟩|⟨b,o,cap,row,h1,hM,hc,h2,hr,he⟩
 ·exact .inl ⟨c,h1,h2,by cases ys with|nil=>rfl|cons y r=>simp at hl⟩
 ·rw[hl]at h1 hc h2 he
  exact .inr ⟨b,o,cap,row,h1,hM,hc,h2,hr,by rw[he,hf]⟩
def gC(k:Int)(c:Cell):Cell:=⟨k,k+1,k+1+1,k+1+1+1,k+1+1+1+1,k+1+1+1+1+1,k+1+1+1+1+1+1,mkG gP wP (k+1+1+1+1+1+1+1) c.pairs⟩
theorem fna_ro{P:Program}{f:FuncId}{args:List Value}{Bs:List Asr}{q:Value→List Asr→Prop}(h:∀m,star Bs m→FnA P f args [ro m] (fun v As=>∃E,q v E∧As=E++[ro m])):FnA P f args Bs (fun v As=>∃E,q v E∧As=E++Bs):=
 ⟨fun m hm=>((h m hm).out m ⟨m,emp,disj_emp _,(un_emp _).symm,rfl,rfl⟩).mono fun v M' ⟨As',m',l,s,E,hq,e⟩=>by
   subst e
   obtain⟨a,b,d,rfl,h1,⟨b1,b2,d2,rfl,h2,h3⟩⟩:=star_append.1 s
   have h2:b1=m:=h2
   have h3:b2=emp:=h3
   subst h2;subst h3
   rw[un_emp]at d l
   exact⟨E++Bs,_,l,star_append.2 ⟨a,b1,d,rfl,h1,hm⟩,E,hq,rfl⟩⟩
theorem has_star{m:Mem}{Bs:List Asr}(h:star Bs m):Has m Bs:=⟨m,Mem.le_refl _,h⟩
theorem Has.sl{α:Type}{f:α→List Value}{size:Nat}{d:D}{xs:List α}{m:Mem}(h:Has m [slA size f d xs]):Sl m size f (.slice d.a xs.length d.cap) xs:=by
 obtain⟨a,l,b,c,dj,rfl,h1,_⟩:=h
 exact h1.1.le (Mem.le_trans (le_l _ _) l)
noncomputable def Heap.reach(H:Heap):List Bool:=if okH H=0 then reachL H else[]
end Go.Proofs.YtpleoapljeffiaaDoor.E
namespace Go.Proofs.YtpleoapljeffiaaDoor.E
open Go
noncomputable def e46:Env:=⟨Tryd.prog,[30],34,[]⟩
abbrev zU(a0:Nat)(a1:Nat)(a2:Nat)(a3:Int):I:=⟨some a0,none,.call a1 [.tmp a2,.const (.int .i64 a3)]⟩
abbrev zd(a0:Nat)(a1:Nat)(a2:Int):I:=⟨none,none,.store a0 (.tmp a1) (.const (.int .i64 a2))⟩
abbrev zk(a0:Nat)(a1:Nat)(a2:Nat):I:=⟨some a0,none,.bin .eql (.tmp a1) (.tmp a2)⟩
abbrev zp(a0:Nat)(a1:Nat)(a2:Nat)(a3:Int):I:=⟨some a0,none,.iaddr a1 (.tmp a2) (.const (.int .i64 a3))⟩
abbrev q4(a0:Nat):I:=⟨some a0,none,.mov (.const (.bool true))⟩
abbrev q5(a0:Nat)(a1:Nat)(a2:Nat)(a3:Nat):I:=⟨some a0,none,.qcall a1 [.tmp a2,.tmp a3]⟩
abbrev q9(a0:Nat)(a1:Nat)(a2:Nat)(a3:Int):I:=⟨some a0,some (a1,false),.bin .neq (.tmp a2) (.const (.int .i64 a3))⟩
abbrev qI(a0:Nat)(a1:Nat)(a2:Nat):I:=⟨some a0,some (a1,true),.lenS (.tmp a2)⟩
abbrev qQ(a0:Nat)(a1:Nat)(a2:Nat):I:=⟨some a0,none,.qcall a1 [.tmp a2]⟩
abbrev qR(a0:Nat)(a1:Nat)(a2:Nat):I:=⟨some a0,none,.bin .sub (.tmp a1) (.tmp a2)⟩
abbrev qS(a0:Nat)(a1:Nat)(a2:Nat)(a3:Nat):I:=⟨some a0,some (a1,true),.bin .lss (.tmp a2) (.tmp a3)⟩
abbrev qT(a0:Nat)(a1:Nat)(a2:Nat)(a3:Nat):I:=⟨some a0,some (a1,true),.load false a2 (.tmp a3)⟩
noncomputable def c46:C:=
 .seq (.reg [z3 4 0,zL 5 35 4,z3 6 5,zF 7 6 0,zW 8 6 7,zI 9 6 4 8,zE 10 6 1 9,zF 11 6 1,zn 12 6 8 10 11,zI 13 6 5 12,zE 14 6 1 13,ze 15 6 14 0,zJ 16 6 15]) (.cond (.tmp 16) (.seq (.reg [z3 17 0,z6 18 17,z4 19 4 18,z5 20 1 19,z3 21 1,z9 22 8 20 21,z4 23 5 22,zd 1 23 1]) (.reg [z3 24 0,z3 25 0,z6 26 25,z4 27 8 26,z5 28 1 27,z3 29 1,qF 30 1 1 0 0 1 29,qG 31 1 8 0 28 30,z6 32 24,z4 33 8 32,z7 1 33
 31])) .skip)
theorem t46:Tryd.f46.body.bind (trC e46)=some c46:=by kernel_rfl
theorem r46:Tryd.f46.results.toList.mapM (trR Tryd.prog)=some []:=by kernel_rfl
theorem fn46{args:List Value}{M:Mem}{post:Value→Mem→Prop}(hl:args.length≤34)(h:VC e46 c46 (fnQ [] post) (initS args 34) M):Fn Tryd.prog 46 args M post:=
 Fn.of' (E:=e46) Tryd.func46 t46 rfl r46 mixed hl h
noncomputable def e43:Env:=⟨Tryd.prog,[3],25,[]⟩
noncomputable def c43:C:=
 .seq (.reg [zN 3 1,zO 4]) (.seq (.reg [z3 6 0,z8 7 3 3,zK 8 40 6 7,z3 5 8]) (.seq (.seq (.reg [z3 9 5,qH 10 9 0,z3 11 10,zQ 12 11 0,zx 13 11 12,zT 14 11 4 13,zP 15 11 1 14,zQ 16 11 5,q8 17 11 8 15 16,zT 18 11 5 17,zP 19 11 1 18,q9 20 11 19 0,zX 21 11 20]) (.cond (.tmp 21) (.seq (.reg [zO 4]) .ret) .skip)) (.seq (.reg [z3 22 0,z3 23 5,zK 24 46 22 23]) (.seq (.reg [q4 4]) .ret))))
theorem t43:Tryd.f43.body.bind (trC e43)=some c43:=by kernel_rfl
theorem r43:Tryd.f43.results.toList.mapM (trR Tryd.prog)=some [.tmp 4]:=by kernel_rfl
theorem fn43{args:List Value}{M:Mem}{post:Value→Mem→Prop}(hl:args.length≤25)(h:VC e43 c43 (fnQ [.tmp 4] post) (initS args 25) M):Fn Tryd.prog 43 args M post:=
 Fn.of' (E:=e43) Tryd.func43 t43 rfl r43 mixed hl h
noncomputable def e64:Env:=⟨Tryd.prog,[],24,[]⟩
noncomputable def c64:C:=
 .seq (.reg [z3 4 0,z3 5 0,z3 6 0,z3 7 1,z6 8 4,z4 9 5 8,z7 1 9 7,z6 10 5,z4 11 6 10,zd 1 11 0,z6 12 6,z4 13 7 12,zd 1 13 0]) (.seq (.reg [z3 14 1,zA 15 14 6]) (.cond (.tmp 15) (.reg [z3 16 0,z3 17 0,z6 18 17,z4 19 4 18,z5 20 1 19,zC 21 20,z6 22 16,z4 23 6 22,z7 1 23 21]) .skip))
theorem t64:Tryd.f64.body.bind (trC e64)=some c64:=by kernel_rfl
theorem r64:Tryd.f64.results.toList.mapM (trR Tryd.prog)=some []:=by kernel_rfl
theorem fn64{args:List Value}{M:Mem}{post:Value→Mem→Prop}(hl:args.length≤24)(h:VC e64 c64 (fnQ [] post) (initS args 24) M):Fn Tryd.prog 64 args M post:=
 Fn.of' (E:=e64) Tryd.func64 t64 rfl r64 mixed hl h
noncomputable def e65:Env:=⟨Tryd.prog,[],263,[(5,11),(13,9),(15,11),(24,9),(25,10),(26,9),(27,16),(36,12),(37,10),(38,21)]⟩
noncomputable def c65:C:=
 .seq (.reg [z3 6 0,z6 7 6,z4 8 4 7,z5 9 1 8,zC 10 9,z3 2 10]) (.seq (.reg [z3 11 0,z6 12 11,z4 13 5 12,z5 14 1 13]) (.block 0 (.seq (.reg [zA 16 14 1,z3 15 16]) (.cond (.tmp 15) (.seq (.seq (.reg [z3 17 0,z6 18 17,z4 19 6 18,z5 20 1 19,z3 21 2,zk 22 20 21]) (.cond (.tmp 22) (.seq (.reg [z3 23 0,zU 24 64 23 2]) .ret) .skip)) (.seq (.seq (.dreg 11 [z3 25 0,z6 26 25,z4 27 4 26,z5 28 1 27,z3 29
 0,z6 30 29,z4 31 6 30,z5 32 1 31,z9 33 8 28 32,z8 34 8 33,qQ 35 33 34]) (.cond (.tmp 35) (.reg [z3 36 0,z3 37 0,z6 38 37,z4 39 6 38,z5 40 1 39,zK 41 46 36 40]) .skip)) (.reg [z3 42 0,z6 43 42,z4 44 6 43,z5 45 1 44,zG 46 45 1,z6 47 42,z4 48 6 47,z7 1 48 46]))) (.seq (.reg [zA 50 14 2,z3 49 50]) (.cond (.tmp 49) (.reg [z3 51 0,zL 52 67 51]) (.seq (.reg [zA 54 14 3,z3 53 54]) (.cond (.tmp 53)
 (.seq (.seq (.reg [z3 55 0,z6 56 55,z4 57 6 56,z5 58 1 57,z3 59 2,zk 60 58 59]) (.cond (.tmp 60) (.seq (.reg [z3 61 0,zU 62 64 61 4]) .ret) .skip)) (.seq (.dreg 9 [z3 63 0,z6 64 63,z4 65 4 64,z5 66 1 65,z3 67 0,z6 68 67,z4 69 6 68,z5 70 1 69,z9 71 8 66 70,z3 3 71]) (.seq (.seq (.reg [z3 72 3,z6 73 72,z4 74 0 73,z5 75 1 74,zA 76 75 1,z3 77 76,zF 78 77 3,zW 79 77 78,zI 80 77 5 79,zE 81 77 1 80,
 ze 82 77 81 0,zJ 83 77 82]) (.cond (.tmp 83) (.seq (.dreg 11 [z3 84 0,z6 85 84,z4 86 1 85,z5 87 1 86,z3 88 3,z6 89 88,z8 90 8 89,qQ 91 29 90,qR 92 87 91,z6 93 84,z4 94 1 93,z7 1 94 92]) (.reg [z3 95 3,⟨some 96,none,.build [.int .i64 0,.int .i64 0,.int .i64 0,.int .i64 0,.int .i64 0,.int .i64 0,.int .i64 0,.slice none 0 0] []⟩,z6 97 95,z7 8 97 96])) (.reg [z3 98 3,z6 99 98,z4 100 5 99,zd 1 100
 0]))) (.reg [z3 101 0,z6 102 101,z4 103 6 102,z5 104 1 103,zG 105 104 1,z6 106 101,z4 107 6 106,z7 1 107 105])))) (.seq (.reg [zA 109 14 4,z3 108 109]) (.cond (.tmp 108) (.reg [z3 110 0,zL 111 68 110]) (.seq (.reg [zA 113 14 5,z3 112 113]) (.cond (.tmp 112) (.seq (.seq (.reg [z3 114 0,z6 115 114,z4 116 6 115,z5 117 1 116,z3 118 2,zk 119 117 118]) (.cond (.tmp 119) (.seq (.reg [z3 120 0,zU
 121 64 120 6]) .ret) .skip)) (.seq (.dreg 9 [z3 122 0,z6 123 122,z4 124 4 123,z5 125 1 124,z3 126 0,z6 127 126,z4 128 6 127,z5 129 1 128,z9 130 8 125 129,z3 4 130]) (.seq (.seq (.dreg 10 [z3 131 0,z6 132 131,z4 133 7 132,z5 134 1 133,z3 135 4,z6 136 135,z4 137 7 136,z5 138 1 137,zC 139 138,zM 140 134 139]) (.cond (.tmp 140) (.seq (.dreg 9 [z3 141 4,z6 142 141,z4 143 7 142,z5 144 1 143,z3 145 0,
 z6 146 145,z4 147 7 146,z5 148 1 147,z9 149 6 144 148,z3 5 149]) (.seq (.dreg 16 [z3 150 5,z3 151 5,z3 152 0,z3 153 5,z6 154 153,z4 155 0 154,z8 156 3 155,q5 157 42 152 156,z3 158 0,z3 159 5,z6 160 159,z4 161 3 160,z8 162 3 161,q5 163 42 158 162,z6 164 150,z4 165 0 164,z7 3 165 157,z6 166 151,z4 167 3 166,z7 3 167 163]) (.seq (.reg [z3 168 0,z6 169 168,z4 170 7 169,z5 171 1 170,zG 172 171 1,z6
 173 168,z4 174 7 173,z7 1 174 172]) .ret))) .skip)) (.seq (.reg [z3 175 0,z6 176 175,z4 177 6 176,z5 178 1 177,zG 179 178 1,z6 180 175,z4 181 6 180,z7 1 181 179]) (.reg [z3 182 0,z6 183 182,z4 184 7 183,zd 1 184 0]))))) (.seq (.reg [zA 186 14 6,z3 185 186]) (.cond (.tmp 185) (.seq (.seq (.reg [z3 187 0,z6 188 187,z4 189 6 188,z5 190 1 189,zA 191 190 0]) (.cond (.tmp 191) (.seq (.reg [z3 192
 0,zU 193 64 192 0]) (.seq (.reg [z3 194 0,z3 195 0,z6 196 195,z4 197 11 196,z5 198 1 197,zG 199 198 1,⟨some 200,none,.min (.tmp 199) (.const (.int .i64 1000000000))⟩,z6 201 194,z4 202 11 201,z7 1 202 200]) .ret)) .skip)) (.seq (.reg [z3 203 0,z6 204 203,z4 205 6 204,z5 206 1 205,zj 207 206 1,z6 208 203,z4 209 6 208,z7 1 209 207]) (.seq (.seq (.dreg 12 [z3 210 0,z6 211 210,z4 212 4 211,z5 213 1
 212,z3 214 0,z6 215 214,z4 216 6 215,z5 217 1 216,z9 218 8 213 217,z4 219 0 218,z5 220 1 219,zA 221 220 2]) (.cond (.tmp 221) (.dreg 10 [z3 222 0,z6 223 222,z4 224 4 223,z5 225 1 224,z3 226 0,z6 227 226,z4 228 6 227,z5 229 1 228,⟨some 230,none,.build [.int .i64 0,.int .i64 0,.int .i64 0,.int .i64 0,.int .i64 0,.int .i64 0,.int .i64 0,.slice none 0 0] []⟩,z9 231 8 225 229,z7 8 231 230]) .skip))
 (.seq (.dreg 21 [z3 232 0,z6 233 232,z4 234 6 233,z5 235 1 234,z3 236 2,zj 237 236 1,zk 238 235 237,z3 239 238,zF 240 239 0,zW 241 239 240,zI 242 239 4 241,zE 243 239 1 242,zF 244 239 0,zW 245 239 244,zI 246 239 6 245,zE 247 239 1 246,zn 248 239 8 243 247,zI 249 239 0 248,zE 250 239 1 249,ze 251 239 250 0,zJ 252 239 251]) (.cond (.tmp 252) (.reg [z3 253 0,z3 254 0,z6 255 254,z4 256 4 255,z5 257
 1 256,z3 258 2,zj 259 258 1,qC 260 8 257 259,z6 261 253,z4 262 4 261,z7 1 262 260]) .skip))))) .skip))))))))))))))
theorem t65:Tryd.f65.body.bind (trC e65)=some c65:=by kernel_rfl
theorem r65:Tryd.f65.results.toList.mapM (trR Tryd.prog)=some []:=by kernel_rfl
theorem fn65{args:List Value}{M:Mem}{post:Value→Mem→Prop}(hl:args.length≤263)(h:VC e65 c65 (fnQ [] post) (initS args 263) M):Fn Tryd.prog 65 args M post:=
 Fn.of' (E:=e65) Tryd.func65 t65 rfl r65 mixed hl h
noncomputable def e67:Env:=⟨Tryd.prog,[3,6],90,[(1,11),(2,10),(3,11)]⟩
noncomputable def c67:C:=
 .seq (.seq (.reg [z3 7 0,z6 8 7,z4 9 8 8,z5 10 1 9,zC 11 10,zo 12 11 0]) (.cond (.tmp 12) (.seq (.dreg 11 [z3 13 0,z6 14 13,z4 15 4 14,z5 16 1 15,z3 17 0,z6 18 17,z4 19 8 18,z5 20 1 19,zp 21 1 20 0,z5 22 1 21,z9 23 8 16 22,z3 2 23]) (.seq (.seq (.dreg 10 [z3 24 0,z6 25 24,z4 26 7 25,z5 27 1 26,z3 28 2,z6 29 28,z4 30 7 29,z5 31 1 30,zC 32 31,zM 33 27 32]) (.cond (.tmp 33) (.seq (.dreg 11 [z3
 34 2,z6 35 34,z4 36 7 35,z5 37 1 36,z3 38 0,z6 39 38,z4 40 7 39,z5 41 1 40,z9 42 6 37 41,z8 43 6 42,qD 3 0 0 0 0 0 0,z7 6 3 43]) (.seq (.reg [z3 44 0,z4 45 0 3,z8 46 3 45,zK 47 43 44 46]) (.seq (.reg [z3 48 0,z4 49 3 3,z8 50 3 49,zK 51 43 48 50]) (.seq (.reg [z3 52 0,z6 53 52,z4 54 7 53,z5 55 1 54,zG 56 55 1,z6 57 52,z4 58 7 57,z7 1 58 56]) .ret)))) .skip)) (.seq (.reg [z3 59 2,z6 60 59,z4 61
 5 60,zd 1 61 2]) (.seq (.reg [z3 62 0,z3 63 0,z6 64 63,z4 65 8 64,z5 66 1 65,⟨some 67,none,.slc 1 (.tmp 66) (some (.const (.int .i64 1))) none⟩,z6 68 62,z4 69 8 68,z7 1 69 67]) (.seq (.reg [z3 70 0,z6 71 70,z4 72 7 71,zd 1 72 0]) .ret))))) .skip)) (.seq (.reg [zO 4]) (.seq (.seq (.reg [z3 73 0,z6 74 73,z4 75 3 74,z5 76 1 75,zC 77 76,zD 78 0]) (.block 0 (.loop (.seq (.reg [zM 79 78 77]) (.seq
 (.cond (.tmp 79) .skip (.exit 0)) (.seq (.block 1 (.seq (.reg [z9 80 3 76 78,z8 81 3 80,zt 6 0 0 0,z7 3 6 81]) (.seq (.reg [z3 82 0,z8 83 3 6,zK 84 43 82 83]) (.cond (.tmp 84) (.reg [q4 4]) .skip)))) (.reg [zG 85 78 1,z3 78 85]))))))) (.seq (.reg [z3 86 4,zY 87 86]) (.cond (.tmp 87) (.reg [z3 88 0,zU 89 64 88 3]) .skip))))
theorem t67:Tryd.f67.body.bind (trC e67)=some c67:=by kernel_rfl
theorem r67:Tryd.f67.results.toList.mapM (trR Tryd.prog)=some []:=by kernel_rfl
theorem fn67{args:List Value}{M:Mem}{post:Value→Mem→Prop}(hl:args.length≤90)(h:VC e67 c67 (fnQ [] post) (initS args 90) M):Fn Tryd.prog 67 args M post:=
 Fn.of' (E:=e67) Tryd.func67 t67 rfl r67 mixed hl h
noncomputable def e68:Env:=⟨Tryd.prog,[5,7],88,[(11,13)]⟩
noncomputable def c68:C:=
 .seq (.reg [z3 8 0,z6 9 8,z4 10 4 9,z5 11 1 10,zC 12 11,z3 2 12,zD 3 (-1)]) (.seq (.seq (.reg [z3 13 0,z6 14 13,z4 15 4 14,z5 16 1 15,zC 17 16,zD 18 0]) (.block 0 (.loop (.seq (.reg [zM 19 18 17]) (.seq (.cond (.tmp 19) .skip (.exit 0)) (.seq (.block 1 (.seq (.reg [z3 20 18,z9 21 8 16 18,z8 22 8 21,za 5 0 0 0 0 0 0 0 0 0,z3 4 20,z7 8 5 22]) (.seq (.seq (.reg [z4 23 0 5,z5 24 1 23,zA 25 24
 0]) (.cond (.tmp 25) (.reg [z3 26 2,z3 27 4,⟨some 28,none,.min (.tmp 26) (.tmp 27)⟩,z3 2 28]) .skip)) (.seq (.reg [z4 29 0 5,z5 30 1 29,zA 31 30 1]) (.cond (.tmp 31) (.reg [z3 32 4,z3 3 32]) .skip))))) (.reg [zG 33 18 1,z3 18 33]))))))) (.seq (.seq (.reg [z3 34 2,z3 35 3,qL 36 34 35]) (.cond (.tmp 36) (.seq (.reg [z3 37 0,zU 38 64 37 5]) .ret) .skip)) (.seq (.dreg 13 [z3 39 0,z6 40 39,z4
 41 4 40,z5 42 1 41,z3 43 2,z3 44 0,z6 45 44,z4 46 4 45,z5 47 1 46,z3 48 3,z9 49 8 47 48,z8 50 8 49,z9 51 8 42 43,z7 8 51 50]) (.seq (.reg [z3 52 0,z6 53 52,z4 54 4 53,z5 55 1 54,z3 56 3,z3 57 2,⟨some 58,none,.build [.int .i64 0,.int .i64 0,.int .i64 0,.int .i64 0,.int .i64 0,.int .i64 0,.int .i64 0,.slice none 0 0] [(0,1,.const (.int .i64 2)),(6,1,.tmp 57)]⟩,z9 59 8 55 56,z7 8 59 58]) (.seq
 (.reg [z3 60 0,z6 61 60,z4 62 3 61,z5 63 1 62,zC 64 63,zD 65 0]) (.block 2 (.loop (.seq (.reg [zM 66 65 64]) (.seq (.cond (.tmp 66) .skip (.exit 2)) (.seq (.block 3 (.seq (.reg [z3 67 65,z9 68 3 63 65,z8 69 3 68,zt 7 0 0 0,z3 6 67,z7 3 7 69]) (.seq (.reg [z4 70 0 7,z5 71 1 70,zA 72 71 2,z3 73 72,zI 74 73 2 7,zE 75 73 1 74,zF 76 73 3,⟨some 77,some (73,true),.bin .eql (.tmp 75) (.tmp 76)⟩,zJ 78
 73 77]) (.cond (.tmp 78) (.reg [z3 79 0,z6 80 79,z4 81 3 80,z5 82 1 81,z3 83 6,z3 84 2,z9 85 3 82 83,z4 86 2 85,z7 1 86 84]) .skip)))) (.reg [zG 87 65 1,z3 65 87])))))))))))
theorem t68:Tryd.f68.body.bind (trC e68)=some c68:=by kernel_rfl
theorem r68:Tryd.f68.results.toList.mapM (trR Tryd.prog)=some []:=by kernel_rfl
theorem fn68{args:List Value}{M:Mem}{post:Value→Mem→Prop}(hl:args.length≤88)(h:VC e68 c68 (fnQ [] post) (initS args 88) M):Fn Tryd.prog 68 args M post:=
 Fn.of' (E:=e68) Tryd.func68 t68 rfl r68 mixed hl h
noncomputable def e54:Env:=⟨Tryd.prog,[],9,[]⟩
noncomputable def c54:C:=
 .seq (.reg [z3 2 0,z6 3 2,z4 4 5 3,z5 5 1 4,zA 6 5 0]) (.cond (.tmp 6) (.reg [z3 7 0,zU 8 64 7 1]) .skip)
theorem t54:Tryd.f54.body.bind (trC e54)=some c54:=by kernel_rfl
theorem r54:Tryd.f54.results.toList.mapM (trR Tryd.prog)=some []:=by kernel_rfl
theorem fn54{args:List Value}{M:Mem}{post:Value→Mem→Prop}(hl:args.length≤9)(h:VC e54 c54 (fnQ [] post) (initS args 9) M):Fn Tryd.prog 54 args M post:=
 Fn.of' (E:=e54) Tryd.func54 t54 rfl r54 mixed hl h
noncomputable def e55:Env:=⟨Tryd.prog,[],21,[]⟩
noncomputable def c55:C:=
 .seq (.reg [zD 4 0]) (.seq (.reg [zD 5 0]) (.seq (.block 0 (.loop (.seq (.seq (.reg [z3 6 5,z3 7 1,zM 8 6 7,z3 9 8,zF 10 9 0,zW 11 9 10,zI 12 9 5 11,zE 13 9 1 12,⟨some 14,some (9,true),.bin .neq (.tmp 13) (.const (.int .i64 0))⟩,zJ 15 9 14]) (.cond (.tmp 15) .skip (.exit 0))) (.block 1 (.seq (.reg [z3 16 0,zL 17 65 16]) (.reg [z3 18 5,zG 19 18 1,z3 5 19])))))) (.seq (.reg [z3 20 5,z3 4 20])
 .ret)))
theorem t55:Tryd.f55.body.bind (trC e55)=some c55:=by kernel_rfl
theorem r55:Tryd.f55.results.toList.mapM (trR Tryd.prog)=some [.tmp 4]:=by kernel_rfl
theorem fn55{args:List Value}{M:Mem}{post:Value→Mem→Prop}(hl:args.length≤21)(h:VC e55 c55 (fnQ [.tmp 4] post) (initS args 21) M):Fn Tryd.prog 55 args M post:=
 Fn.of' (E:=e55) Tryd.func55 t55 rfl r55 mixed hl h
noncomputable def e66:Env:=⟨Tryd.prog,[],14,[]⟩
noncomputable def c66:C:=
 .seq (.reg [zD 2 0]) (.seq (.reg [zD 3 0]) (.seq (.block 0 (.loop (.seq (.seq (.reg [z3 4 0,z6 5 4,z4 6 5 5,z5 7 1 6,zz 8 7 0]) (.cond (.tmp 8) .skip (.exit 0))) (.block 1 (.seq (.reg [z3 9 0,zL 10 65 9]) (.reg [z3 11 3,zG 12 11 1,z3 3 12])))))) (.seq (.reg [z3 13 3,z3 2 13]) .ret)))
theorem t66:Tryd.f66.body.bind (trC e66)=some c66:=by kernel_rfl
theorem r66:Tryd.f66.results.toList.mapM (trR Tryd.prog)=some [.tmp 2]:=by kernel_rfl
theorem fn66{args:List Value}{M:Mem}{post:Value→Mem→Prop}(hl:args.length≤14)(h:VC e66 c66 (fnQ [.tmp 2] post) (initS args 14) M):Fn Tryd.prog 66 args M post:=
 Fn.of' (E:=e66) Tryd.func66 t66 rfl r66 mixed hl h
noncomputable def e56:Env:=⟨Tryd.prog,[],8,[]⟩
noncomputable def c56:C:=
 .seq (.reg [z3 2 0,zL 3 66 2]) (.seq (.reg [z3 4 0,zL 5 54 4]) (.reg [z3 6 0,zL 7 66 6]))
theorem t56:Tryd.f56.body.bind (trC e56)=some c56:=by kernel_rfl
theorem r56:Tryd.f56.results.toList.mapM (trR Tryd.prog)=some []:=by kernel_rfl
theorem fn56{args:List Value}{M:Mem}{post:Value→Mem→Prop}(hl:args.length≤8)(h:VC e56 c56 (fnQ [] post) (initS args 8) M):Fn Tryd.prog 56 args M post:=
 Fn.of' (E:=e56) Tryd.func56 t56 rfl r56 mixed hl h
noncomputable def e59:Env:=⟨Tryd.prog,[],45,[(3,17)]⟩
noncomputable def c59:C:=
 .seq (.reg [zD 2 0]) (.seq (.block 0 (.seq (.reg [z3 4 0,z6 5 4,z4 6 5 5,z5 7 1 6,zA 8 7 2,z3 9 8,zF 10 9 0,zW 11 9 10,zI 12 9 8 11,zE 13 9 1 12,qI 14 9 13,⟨some 15,some (9,true),.bin .gtr (.tmp 14) (.const (.int .i64 0))⟩,zJ 16 9 15,z3 3 16]) (.cond (.tmp 3) (.seq (.reg [z3 17 0,z6 18 17,z4 19 8 18,z5 20 1 19,zp 21 1 20 0,z5 22 1 21,z3 2 22]) .ret) (.seq (.dreg 17 [z3 24 0,z6 25 24,z4 26 5
 25,z5 27 1 26,zA 28 27 5,z3 29 28,zF 30 29 0,zW 31 29 30,zI 32 29 6 31,zE 33 29 1 32,zF 34 29 0,zW 35 29 34,zI 36 29 4 35,zE 37 29 1 36,qI 38 29 37,qS 39 29 33 38,zJ 40 29 39,z3 23 40]) (.cond (.tmp 23) (.seq (.reg [z3 41 0,z6 42 41,z4 43 6 42,z5 44 1 43,z3 2 44]) .ret) .skip))))) (.seq (.reg [zD 2 (-1)]) .ret))
theorem t59:Tryd.f59.body.bind (trC e59)=some c59:=by kernel_rfl
theorem r59:Tryd.f59.results.toList.mapM (trR Tryd.prog)=some [.tmp 2]:=by kernel_rfl
theorem fn59{args:List Value}{M:Mem}{post:Value→Mem→Prop}(hl:args.length≤45)(h:VC e59 c59 (fnQ [.tmp 2] post) (initS args 45) M):Fn Tryd.prog 59 args M post:=
 Fn.of' (E:=e59) Tryd.func59 t59 rfl r59 mixed hl h
noncomputable def e49:Env:=⟨Tryd.prog,[11,103],152,[]⟩
noncomputable def c49:C:=
 .seq (.reg [qN 1 0,zD 2 0,zD 3 0]) (.seq (.reg [z5 14 1 1,zL 15 52 14,q7 4 0 0,z7 1 4 15]) (.seq (.reg [⟨some 16,none,.mkfn 61 [] [.tmp 1,.tmp 4]⟩,z3 5 16]) (.seq (.seq (.reg [z5 17 1 1,z6 18 17,z4 19 4 18,z5 20 1 19,zC 21 20,zD 22 0]) (.block 0 (.loop (.seq (.reg [zM 23 22 21]) (.seq (.cond (.tmp 23) .skip (.exit 0)) (.seq (.block 1 (.seq (.reg [z3 24 22,z3 6 24]) (.seq (.reg [z5 25 1 1,
 z6 26 25,z4 27 4 26,z5 28 1 27,z3 29 6,z9 30 8 28 29,z3 7 30]) (.seq (.seq (.reg [z5 31 1 4,z3 32 6,z9 33 1 31 32,z5 34 1 33,zY 35 34]) (.cond (.tmp 35) (.exit 1) .skip)) (.seq (.reg [zc 8 0 0]) (.seq (.reg [z5 36 1 1,z6 37 36,z4 38 7 37,z5 39 1 38,z3 9 39]) (.seq (.seq (.reg [z3 40 7,z6 41 40,z4 42 7 41,z5 43 1 42,zC 44 43,zD 45 0]) (.block 2 (.loop (.seq (.reg [zM 46 45 44]) (.seq (.cond
 (.tmp 46) .skip (.exit 2)) (.seq (.block 3 (.seq (.reg [z3 47 45,z9 48 6 43 45,z8 49 6 48,qD 11 0 0 0 0 0 0,z3 10 47,z7 6 11 49]) (.seq (.seq (.reg [z3 50 7,z6 51 50,z4 52 2 51,z5 53 1 52,qP 54 53 1,zz 55 54 0,z3 56 55,zF 57 56 5,zI 58 56 0 11,qT 59 56 3 58,⟨some 60,some (56,true),.callv (.tmp 57) [.tmp 59]⟩,zJ 61 56 60,z3 62 61,zQ 63 62 7,zx 64 62 63,zT 65 62 2 64,zP 66 62 1 65,⟨some 67,some
 (62,false),.bin .and (.tmp 66) (.const (.int .i64 2))⟩,q9 68 62 67 0,zQ 69 62 68,zF 70 69 5,zI 71 69 3 11,qT 72 69 3 71,⟨some 73,some (69,true),.callv (.tmp 70) [.tmp 72]⟩,⟨some 74,some (62,false),.pick (.tmp 69) (.tmp 73) (.const (.bool false))⟩,zX 75 62 74]) (.cond (.tmp 75) (.seq (.reg [z3 76 2,zG 77 76 1,z3 2 77]) (.seq (.reg [z5 78 1 1,z6 79 78,z4 80 1 79,z5 81 1 80,zj 82 81 1,z6 83 78,z4
 84 1 83,z7 1 84 82]) (.seq (.seq (.reg [z3 85 6,z5 86 1 1,zL 87 59 86,zk 88 85 87,z3 89 88,zF 90 89 10,zF 91 89 9,qS 92 89 90 91,zJ 93 89 92]) (.cond (.tmp 93) (.reg [z5 94 1 1,z6 95 94,z4 96 7 95,z5 97 1 96,zj 98 97 1,z6 99 94,z4 100 7 99,z7 1 100 98]) .skip)) (.exit 3)))) .skip)) (.reg [z3 101 8,z8 102 6 11,⟨some 103,none,.bslice true 1 6 [.int .i64 0,.int .i64 0,.int .i64 0,.int .i64 0,.int
 .i64 0,.int .i64 0] [(0,6,.tmp 102)]⟩,⟨some 104,none,.app 6 48 [.int .i64 0,.int .i64 0,.int .i64 0,.int .i64 0,.int .i64 0,.int .i64 0] (.tmp 101) (.tmp 103)⟩,z3 8 104])))) (.reg [zG 105 45 1,z3 45 105]))))))) (.reg [z3 106 7,z3 107 8,z6 108 106,z4 109 7 108,z7 1 109 107])))))))) (.reg [zG 110 22 1,z3 22 110]))))))) (.seq (.seq (.reg [z5 111 1 1,z6 112 111,z4 113 4 112,z5 114 1 113,zC 115
 114,zD 116 0]) (.block 4 (.loop (.seq (.reg [zM 117 116 115]) (.seq (.cond (.tmp 117) .skip (.exit 4)) (.seq (.block 5 (.seq (.reg [z3 118 116,z3 12 118]) (.seq (.reg [z5 119 1 1,z6 120 119,z4 121 4 120,z5 122 1 121,z3 123 12,z9 124 8 122 123,z3 13 124]) (.seq (.reg [z3 125 13,z6 126 125,z4 127 0 126,z5 128 1 127,zA 129 128 1,z3 130 129,zE 131 130 1 4,zF 132 130 12,zn 133 130 1 131 132,zE 134
 130 1 133,qE 135 130 134,zJ 136 130 135,z3 137 136,zF 138 137 13,zW 139 137 138,zI 140 137 3 139,zE 141 137 1 140,ze 142 137 141 1,zJ 143 137 142]) (.cond (.tmp 143) (.seq (.reg [z3 144 13,z6 145 144,z4 146 3 145,zd 1 146 2]) (.reg [z3 147 3,zG 148 147 1,z3 3 148])) .skip))))) (.reg [zG 149 116 1,z3 116 149]))))))) (.seq (.reg [z3 150 2,z3 151 3,z3 2 150,z3 3 151]) .ret)))))
theorem t49:Tryd.f49.body.bind (trC e49)=some c49:=by kernel_rfl
theorem r49:Tryd.f49.results.toList.mapM (trR Tryd.prog)=some [.tmp 2,.tmp 3]:=by kernel_rfl
theorem fn49{args:List Value}{M:Mem}{post:Value→Mem→Prop}(hl:args.length≤152)(h:VC e49 c49 (fnQ [.tmp 2,.tmp 3] post) (initS args 152) M):Fn Tryd.prog 49 args M post:=
 Fn.of' (E:=e49) Tryd.func49 t49 rfl r49 mixed hl h
noncomputable def e61:Env:=⟨Tryd.prog,[3],18,[]⟩
noncomputable def c61:C:=
 .seq (.reg [zN 3 0,zO 4]) (.seq (.reg [z5 6 1 1,z8 7 3 3,zK 8 40 6 7,z3 5 8]) (.seq (.reg [z3 9 5,qO 10 9 0,z3 11 10,zE 12 11 1 2,zF 13 11 5,zn 14 11 1 12 13,zE 15 11 1 14,qE 16 11 15,zJ 17 11 16,z3 4 17]) .ret))
theorem t61:Tryd.f61.body.bind (trC e61)=some c61:=by kernel_rfl
theorem r61:Tryd.f61.results.toList.mapM (trR Tryd.prog)=some [.tmp 4]:=by kernel_rfl
theorem fn61{args:List Value}{M:Mem}{post:Value→Mem→Prop}(hl:args.length≤18)(h:VC e61 c61 (fnQ [.tmp 4] post) (initS args 18) M):Fn Tryd.prog 61 args M post:=
 Fn.of' (E:=e61) Tryd.func61 t61 rfl r61 mixed hl h
end Go.Proofs.YtpleoapljeffiaaDoor.E
set_option maxHeartbeats 4000000
namespace Go.Proofs.YtpleoapljeffiaaDoor.E
open Go
open Classical
def HX.enter(x:HX)(p:Int):HX:={x with phase:=p,hand:=if p=6 then x.xs.length else 0,sub:=0}
theorem enter_a{a:Nat}{x:HX}{p:Int}:FnA Tryd.prog 64 [ptr a,.int .i64 p] (hp a x) (fun v As=>As=hp a (x.enter p)):=by
 refine fnA_of (fun h=>fn64 (by simp) h) ?_
 repeat' (first
  |(refine k_L ?_;first|refine a_p rfl ?_|(refine k_l ?_;refine g_l rfl ?_)|(refine k_st ?_;refine g_st rfl rfl rfl rfl ?_))
  |refine a_n ?_
  |(refine k_V ?_;first|refine v_seq ?_|refine v_reg ?_|refine v_skip ?_|(refine v_cd rfl (fun hb=>?_) (fun hb=>?_)<;>try(exfalso;omega))))
 ·subst hb;exact fa_n (fun _ _=>rfl) (Pm.ent (fin _)) rfl
 ·refine fa_n (fun _ _=>rfl) (Pm.ent (fin (x.enter p) (e1:=?_))) rfl
  unfold HX.enter;rw[if_neg hb];rfl
def HX.begin(x:HX):HX:=if x.phase=0 then x.enter 1 else x
theorem begin_a{a:Nat}{x:HX}:FnA Tryd.prog 54 [ptr a] (hp a x) (fun v As=>As=hp a x.begin):=by
 refine fnA_of (fun h=>fn54 (by simp) h) ?_
 unfold HX.begin
 repeat' (first
  |(refine k_L ?_;first|refine a_p rfl ?_|(refine k_l ?_;refine g_l rfl ?_)|(refine g_c rfl enter_a (fun v As' hq=>?_);subst hq))
  |refine a_n ?_
  |(refine k_V ?_;first|refine v_seq ?_|refine v_reg ?_|refine v_skip ?_|(refine v_cd rfl (fun hb=>?_) (fun hb=>?_)<;>try(exfalso;omega))))
 ·rw[if_pos (show x.phase=0 from hb)];exact fa_n (fun _ _=>rfl) (Pm.ent (fin _)) rfl
 ·rw[if_neg (show ¬x.phase=0 from hb)];exact fa_n (fun _ _=>rfl) (Pm.ent (fin _)) rfl
def HX.shade(x:HX)(i:Nat)(y:CS)(e:D):HX:={x with xs:=x.xs.set i (y.s_color 1),gray:=x.gray++[(i:Int)],gd:=e}
theorem shade_a{a:Nat}{x:HX}{i:Nat}{y:CS}(hi:x.xs[i]?=some y)(hg:x.gray.length≤1000000):FnA Tryd.prog 46 [ptr a,.int .i64 i] (hp a x) (fun v As=>∃z:HX,As=hp a z∧if Marking x.H∧y.c.color=0 then ∃e,z=x.shade i y e else z=x):=by
 have hlt:=(List.getElem?_eq_some_iff.1 hi).1
 refine fnA_of (fun h=>fn46 (by simp) h) ?_
 repeat' (first
  |(refine k_L ?_;first|refine a_p rfl ?_|(refine k_g ?_;first|refine a_gy rfl rfl ?_|refine a_gn rfl rfl ?_|(refine a_gd rfl (fun hb=>?_) (fun hb=>?_)<;>try(exfalso;omega)))|(refine k_l ?_;refine g_l rfl ?_)|(refine k_i ?_;refine g_i rfl rfl ?_)|(refine k_st ?_;refine g_st rfl rfl rfl rfl ?_)|(refine k_bl ?_;refine a_bl rfl ?_)|(refine k_c ?_;refine a_cq rfl (fun m hm=>marking_q (ph_g (x:=x) hm)) ?_)|(refine g_ai rfl rfl (by omega) (fun e'=>?_)))
  |refine a_n ?_
  |(refine k_V ?_;first|refine v_seq ?_|refine v_reg ?_|refine v_skip ?_|refine v_cf rfl ?_|(refine v_cd rfl (fun hb=>?_) (fun hb=>?_)<;>try(exfalso;omega))))
 ·refine fa_n (fun _ _=>rfl) (Pm.ent (fin (x.shade i y e'))) ⟨_,rfl,?_⟩
  rw[if_pos ⟨‹_›,‹_›⟩];exact⟨_,rfl⟩
 all_goals refine fa_n (fun _ _=>rfl) (Pm.ent (fin x)) ⟨_,rfl,?_⟩
 all_goals rw[if_neg (by simp_all)]
end Go.Proofs.YtpleoapljeffiaaDoor.E
set_option maxHeartbeats 8000000
namespace Go.Proofs.YtpleoapljeffiaaDoor.E
open Go
open Classical
theorem prA_snoc{ys:List CS}{y:CS}{m:Mem}(h:star [prA ys,slA 6 pv y.d y.c.pairs] m):prA (ys++[y]) m:=by
 unfold prA
 rw[List.map_append]
 obtain⟨a,b,d,e,h1,h2⟩:=star2.1 h
 refine star_append.2 ⟨a,b,d,e,h1,?_⟩
 exact⟨b,emp,disj_emp _,(un_emp _).symm,h2,rfl⟩
theorem cl_snoc{cd:D}{ys:List CS}{y:CS}{R:List Asr}:Ent (slA 8 csv cd (ys++[y])::prA ys::slA 6 pv y.d y.c.pairs::R) (clA cd (ys++[y])::R):=ent_of fun m h=>by
 obtain⟨a,b,d,rfl,h1,h2⟩:=h
 have h2:star ([prA ys,slA 6 pv y.d y.c.pairs]++R) b:=h2
 obtain⟨c,e,d2,rfl,h3,h4⟩:=star_append.1 h2
 refine⟨a.un c,e,?_,(un_assoc _ _ _).symm,star2.2 ⟨a,c,(disj_un.1 d).1,rfl,h1,prA_snoc h3⟩,h4⟩
 exact disj_un'.2 ⟨(disj_un.1 d).2,d2⟩
theorem cl_nil{R:List Asr}{d:D}:Ent (slA 8 csv d []::R) (clA d []::R):=ent_h fun m h=>star2.2 ⟨m,emp,disj_emp _,(un_emp _).symm,h,rfl⟩
theorem pairsN_units{H:Heap}(h:R2 H):pairsN H.cells≤unitsN H.cells:=by
 have key:∀cs:List Cell,(∀c,c∈cs→c.state≠1→c.pairs=[])→pairsN cs≤unitsN cs:=by
  intro cs
  induction cs with
  |nil=>intro _;simp[pairsN,unitsN]
  |cons c r ih=>
   intro h
   have h1:=ih (fun d hd=>h d (by simp[hd]))
   simp only[pairsN,unitsN,List.map_cons,List.sum_cons]at h1⊢
   by_cases e:c.state=1
   ·have:c.units=1+c.pairs.length:=by unfold Cell.units;rw[if_pos e]
    omega
   ·have h2:=h c (by simp) e
    have:c.units=0:=by unfold Cell.units;rw[if_neg e]
    rw[h2];simp only[List.length_nil];omega
 exact key _ fun c hc hu=>by
  obtain⟨i,hi⟩:=List.getElem?_of_mem hc
  exact(h.bare hi hu).2.2.2.2.2
theorem HX.gc{x:HX}{i:Nat}{y:CS}(hi:x.xs[i]?=some y):x.H.getC i=y.c:=getC_nat (by show(x.xs.map (·.c))[i]?=_;rw[List.getElem?_map,hi];rfl)
theorem shade_H{x:HX}{i:Nat}{y:CS}{e:D}:(x.shade i y e).H=x.H.gray1 i y.c:=by
 unfold HX.shade HX.H Heap.gray1
 simp only[List.map_set]
 rfl
theorem shadeH_a{a:Nat}{x:HX}{i:Nat}(hi:i<x.xs.length)(hg:x.gray.length≤1000000):FnA Tryd.prog 46 [ptr a,.int .i64 i] (hp a x) (fun v As=>∃z:HX,As=hp a z∧z.H=x.H.shadeH i∧z.rd=x.rd):=by
 obtain⟨y,gy,_⟩:=HX.at hi
 refine(shade_a gy hg).mono fun v As ⟨z,h1,h2⟩=>⟨z,h1,?_⟩
 unfold Heap.shadeH
 rw[HX.gc gy]
 split at h2
 ·rename_i c
  obtain⟨e,rfl⟩:=h2
  rw[if_pos c];exact⟨shade_H,rfl⟩
 ·rename_i c
  subst h2
  rw[if_neg c];exact⟨rfl,rfl⟩
def HX.nil:HX:=⟨0,0,0,[],[],0,0,0,[],0,0,0,0,⟨none,0⟩,⟨none,0⟩,⟨none,0⟩⟩
def Heap.nil:Heap:=⟨0,0,0,[],[],0,0,0,[],0,0,0,0⟩
theorem toI_used{H:Heap}{w:Word}(hk:w.kind=2)(hu:(H.getC w.at_).state=1):H.toI w=w.at_:=by
 unfold Heap.toI Heap.lead
 rw[if_pos hk,if_neg (fun h=>by have:=h.2;omega)]
theorem toI_no{H:Heap}{w:Word}(hk:w.kind≠2):H.toI w= -1:=by
 unfold Heap.toI
 rw[if_neg hk]
theorem shadeWord_a{a:Nat}{x:HX}{w:Word}(hf:w.kind=2→0≤w.at_∧w.at_<x.H.cells.length)(hu:w.kind=2→(x.H.getC w.at_).state=1)(hg:x.gray.length≤1000000):
 FnA Tryd.prog 43 [ptr a,wa w] (hp a x) (fun v As=>∃z:HX,v=.bool (decide (White x.H w))∧As=hp a z∧z.H=x.H.shadeW w∧z.rd=x.rd):=by
 refine fnA_of (fun h=>fn43 (by simp) h) ?_
 have hl:=x.len
 unfold Heap.shadeW
 by_cases hk:w.kind=2
 ·have hat:=hf hk
  obtain⟨y,gy,gc⟩:=HX.atI (x:=x) hat.1 (by omega)
  obtain⟨k,hk'⟩:=Int.eq_ofNat_of_zero_le hat.1
  rw[if_pos hk]
  have et:=toI_used hk (hu hk)
  have ek:w.at_.toNat=k:=by omega
  rw[ek]at gy⊢
  rw[hk']at et gc
  have hnc:x.hdr.nc=x.xs.length:=rfl
  repeat' (first
   |(refine k_L ?_;first|refine a_p rfl ?_|(refine k_g ?_;refine a_gy rfl rfl ?_)|(refine k_l ?_;refine g_l rfl ?_)|(refine k_i ?_;refine g_i rfl rfl ?_)|(refine k_bx ?_;refine a_bx rfl rfl ?_)|(refine k_c ?_;refine a_cq rfl (fun m hm=>qt_e (to_q (x:=x) (sep_has hm pmt) hf) (by rw[et])) ?_))
   |refine a_n ?_
   |(refine k_V ?_;first|refine v_rv ?_|refine v_seq ?_|refine v_reg ?_|refine v_skip ?_|(refine v_cn rfl (fun hb=>?_) (fun hb=>?_)<;>try(exfalso;omega)))
   |refine s_r ?_)
  ·refine fa_r (fun _ _=>rfl) (Pm.ent (fin x)) ⟨_,ret_f (fun h=>absurd (by have:=h.2;rw[hk',gc]at this;exact this) ‹_›),rfl,?_,rfl⟩
   unfold Heap.shadeH
   rw[gc,if_neg (fun h=>absurd h.2 ‹_›)]
  ·refine g_c rfl (shadeH_a (x:=x) (i:=k) (by omega) hg) (fun v As' hq=>?_)
   obtain⟨z,rfl,hz,hzr⟩:=hq
   repeat' (first
    |refine a_n ?_
    |(refine k_V ?_;refine v_rv ?_))
   refine fa_r (fun _ _=>rfl) (Pm.ent (fin z)) ⟨_,ret_t ⟨hk,by rw[hk',gc];assumption⟩,rfl,hz,hzr⟩
 ·rw[if_neg hk]
  have et:=toI_no (H:=x.H) hk
  repeat' (first
   |(refine k_L ?_;first|refine a_p rfl ?_|(refine k_g ?_;refine a_gn rfl rfl ?_)|(refine k_bx ?_;refine a_bx rfl rfl ?_)|(refine k_c ?_;refine a_cq rfl (fun m hm=>qt_e (to_q (x:=x) (sep_has hm pmt) hf) (by rw[et])) ?_))
   |refine a_n ?_
   |(refine k_V ?_;first|refine v_rv ?_|refine v_seq ?_|refine v_reg ?_|refine v_ct rfl ?_)
   |refine s_r ?_)
  exact fa_r (fun _ _=>rfl) (Pm.ent (fin x)) ⟨_,ret_f (fun h=>absurd h.1 hk),rfl,rfl,rfl⟩
theorem enter_H{x:HX}{p:Int}:(x.enter p).H=x.H.enterH p:=by
 unfold HX.enter HX.H Heap.enterH
 simp only[List.length_map]
theorem shadeL_no:∀(ws:List Word) {H:Heap},(∀w,w∈ws→Formed H w∧¬White H w)→H.shadeL ws=H
 |[],_,_=>rfl
 |w::r,H,h=>by
  have e:H.shadeL (w::r)=(H.shadeW w).shadeL r:=rfl
  rw[e,shadeW_no (h w (by simp)).2 (h w (by simp)).1]
  exact shadeL_no r (fun v hv=>h v (by simp[hv]))
theorem shadeL_snoc(H:Heap)(ws:List Word)(w:Word):H.shadeL (ws++[w])=(H.shadeL ws).shadeW w:=by unfold Heap.shadeL;rw[List.foldl_append];rfl
theorem some_white{H:Heap}{ws:List Word}{w:Word}(hw:∀v,v∈ws++[w]→Formed H v∧(v.kind=2→(H.getC v.at_).state=1)):((∃v,v∈ws++[w]∧White H v)↔(∃v,v∈ws∧White H v)∨White (H.shadeL ws) w):=by
 obtain⟨s,_⟩:=shadeL_ok ws H (fun v hv=>hw v (by simp[hv]))
 constructor
 ·rintro⟨v,hv,hwh⟩
  rcases List.mem_append.1 hv with hv|hv
  ·exact .inl ⟨v,hv,hwh⟩
  ·simp at hv;subst hv
   by_cases e:∃u,u∈ws∧White H u
   ·exact .inl e
   ·right
    rw[shadeL_no ws (fun u hu=>⟨(hw u (by simp[hu])).1,fun h'=>e ⟨u,hu,h'⟩⟩)]
    exact hwh
 ·rintro(⟨v,hv,hwh⟩|hwh)
  ·exact⟨v,by simp[hv],hwh⟩
  ·refine⟨w,by simp,?_⟩
   by_cases e:White H w
   ·exact e
   ·exact absurd hwh (s.white e)
theorem sound_gray{x:HX}(h:Sound x.H):x.gray.length≤1000000∧x.xs.length≤8000∧x.regs.length=16:=by
 have h1:=h.r1.gray
 have h2:=h.r1.cells
 have h3:=h.r1.room
 have h4:=x.len
 have h5:x.H.gray=x.gray:=rfl
 have h6:=h.r1.regs
 have h7:x.H.regs=x.regs:=rfl
 rw[h5]at h1;rw[h7]at h6
 omega
theorem ent_d1{d:D}{xs:List Int}{R:List Asr}(hk:1≤xs.length):Ent (slA 1 iv d xs::R) (slA 1 iv (d.drop 1 1) (xs.drop 1)::R):=ent_h fun m h=>sl_drop iv_len h hk
theorem mark_a{a:Nat}{x:HX}(h:Sound x.H)(hph:x.H.phase=2):FnA Tryd.prog 67 [ptr a] (hp a x) (fun v As=>∃z:HX,As=hp a z∧z.H=x.H.markU):=by
 obtain⟨q1,q2,q3⟩:=sound_gray h
 have hl:=x.len
 have hnc:x.hdr.nc=x.xs.length:=rfl
 have hng:x.hdr.ng=x.gray.length:=rfl
 have hgr:x.H.gray=x.gray:=rfl
 have hm:Marking x.H:=.inr hph
 refine fnA_of (fun h=>fn67 (by simp) h) ?_
 unfold Heap.markU
 cases hg:x.gray with
 |nil=>
  have hnz:x.hdr.ng=0:=by rw[hng,hg];rfl
  rw[hgr,hg]
  simp only
  have hr:=fun w hw=>reg_used h.r4 (w:=w) hw
  have hr':∀w,w∈x.H.regs→Formed x.H w∧(w.kind=2→(x.H.getC w.at_).state=1):=fun w hw=>⟨(hr w hw).1,fun hk=>((hr w hw).2 hk).1⟩
  repeat' (first
   |(refine k_L ?_;first|refine a_p rfl ?_|(refine k_l ?_;refine g_l rfl ?_))
   |refine a_n ?_
   |(refine k_V ?_;first|refine v_seq ?_|refine v_reg ?_|refine v_skip ?_|(refine v_cd rfl (fun hb=>?_) (fun hb=>?_)<;>try(exfalso;omega)))
   |refine s_n ?_)
  refine g_range x.regs.length (fun q:HX×Bool=>[(0,.v (ptr a)),(4,.v (.bool q.2)),(76,.v (.slice x.rd.a x.regs.length x.rd.cap))]) (fun q=>hp a q.1) (fun i q=>q.1.H=x.H.shadeL (x.regs.take i)∧q.1.rd=x.rd∧(q.2=true↔∃w,w∈x.regs.take i∧White x.H w)) ((x,false):HX×Bool) ⟨rfl,rfl,by simp⟩ (fun i q hi hv=>?_) (fun q hv=>?_)
  ·obtain⟨z,b⟩:=q
   obtain⟨v1,v2,v3⟩:=hv
   simp only at v1 v2 v3
   obtain⟨w,gw⟩:∃w,x.regs[i]?=some w:=⟨_,List.getElem?_eq_getElem hi⟩
   have hsub:∀v,v∈x.regs.take i→Formed x.H v∧(v.kind=2→(x.H.getC v.at_).state=1):=fun v hv=>hr' v (List.mem_of_mem_take hv)
   obtain⟨s,_⟩:=shadeL_ok _ _ hsub
   rw[←v1]at s
   have hw:=hr' w (List.mem_of_getElem? gw)
   have zr:z.regs=x.regs:=s.regs
   have gz:z.regs[i]?=some w:=by rw[zr];exact gw
   have hzg:=(sound_gray (s.sound h)).1
   have hsn:∀v,v∈x.regs.take i++[w]→Formed x.H v∧(v.kind=2→(x.H.getC v.at_).state=1):=fun v hv=>by
    rcases List.mem_append.1 hv with hv|hv
    ·exact hsub v hv
    ·simp at hv;subst hv;exact hw
   have hsw:=some_white hsn
   have htk:x.regs.take (i+1)=x.regs.take i++[w]:=by rw[List.take_add_one,gw];rfl
   rw[←v2]
   repeat' (first
    |(refine k_L ?_;first|refine a_p rfl ?_|(refine k_i ?_;refine g_i rfl rfl ?_)|(refine k_ls ?_;refine g_ls rfl ?_)|(refine k_st ?_;refine g_sw rfl rfl rfl rfl (Nat.le_of_ble_eq_true rfl) ?_)|(refine k_al ?_;refine a_al ?_)|(refine g_c rfl (shadeWord_a (x:=z) (w:=w) (fun hk=>by have:=hw.1.at hk;rw[s.len];exact this) (fun hk=>by rw[(s.cell _).1];exact hw.2 hk) hzg) (fun v As' hq=>?_);obtain⟨u,rfl,rfl,hu,hur⟩:=hq))
    |refine a_n ?_
    |(refine k_V ?_;first|refine v_seq ?_|refine v_reg ?_|refine v_skip ?_|(refine v_cd rfl (fun hb=>?_) (fun hb=>?_)<;>try(exfalso;omega)))
    |refine sk_zero ?_
    |refine sk_succ ?_
    |refine wk_nil ?_
    |refine wk_cons ?_)
   ·refine r_nx ((u,true):HX×Bool) ⟨by rw[hu,htk,shadeL_snoc,v1],hur,?_⟩
    rw[htk]
    simp only[true_iff]
    exact hsw.2 (.inr (by rw[←v1];assumption))
   ·refine r_nx ((u,b):HX×Bool) ⟨by rw[hu,htk,shadeL_snoc,v1],hur,?_⟩
    rw[htk]
    refine v3.trans ⟨fun h=>hsw.2 (.inl h),fun h=>?_⟩
    rcases hsw.1 h with h|h
    ·exact h
    ·rw[←v1]at h;contradiction
  ·obtain⟨z,b⟩:=q
   obtain⟨v1,v2,v3⟩:=hv
   simp only at v1 v2 v3
   rw[List.take_of_length_le (Nat.le_refl _)]at v1 v3
   cases b with
   |true=>
    repeat' (first
     |(refine k_L ?_;refine a_p rfl ?_)
     |refine a_n ?_
     |(refine k_V ?_;first|refine v_seq ?_|refine v_reg ?_|refine v_skip ?_|refine v_cf rfl ?_))
    exact fa_n (fun _ _=>rfl) (Pm.ent (fin z)) ⟨z,rfl,by rw[if_pos (show ∃w,w∈x.H.regs∧White x.H w from v3.1 rfl)];exact v1⟩
   |false=>
    have hno:¬∃w,w∈x.regs∧White x.H w:=fun h=>by have:=v3.2 h;cases this
    have hz:z.H=x.H:=by rw[v1];exact shadeL_no _ (fun w hw=>⟨(hr' w hw).1,fun h'=>hno ⟨w,hw,h'⟩⟩)
    repeat' (first
     |(refine k_L ?_;first|refine a_p rfl ?_|(refine g_c rfl (enter_a (x:=z)) (fun v As' hq=>?_);subst hq))
     |refine a_n ?_
     |(refine k_V ?_;first|refine v_seq ?_|refine v_reg ?_|refine v_ct rfl ?_))
    exact fa_n (fun _ _=>rfl) (Pm.ent (fin (z.enter 3))) ⟨_,rfl,by rw[if_neg (show ¬∃w,w∈x.H.regs∧White x.H w from hno),enter_H,hz]⟩
 |cons g r=>
  rw[hgr,hg]
  simp only
  have hn1:x.hdr.ng=r.length+1:=by rw[hng,hg];rfl
  obtain⟨g1,g2,g3⟩:=h.r5.mark hm
  obtain⟨b0,b1,b2,b3⟩:=g2 g (by rw[hgr,hg];simp)
  obtain⟨y,gy,gc⟩:=HX.atI (x:=x) b0 (by omega)
  obtain⟨gn,hgn⟩:=Int.eq_ofNat_of_zero_le b0
  have gg:x.gray[(0:Int).toNat]?=some g:=by rw[hg];rfl
  have hs0:=h.r1.sub
  have hsub:x.hdr.sub=x.H.sub:=rfl
  rw[gc]
  by_cases hlt:x.H.sub<y.c.pairs.length
  ·obtain⟨p,gp⟩:∃p,y.c.pairs[x.H.sub.toNat]?=some p:=⟨_,List.getElem?_eq_getElem (by omega)⟩
   have gp':y.c.pairs[x.hdr.sub.toNat]?=some p:=gp
   rw[gp]
   simp only
   have hgg:x.H.gray=g::r:=by rw[hgr,hg]
   have gpc:(x.H.getC g).pairs[x.H.sub.toNat]?=some p:=by rw[gc];exact gp
   obtain⟨⟨k1,k2⟩,w1,w2⟩:=markP h hph hgg gpc
   obtain⟨s1,_⟩:=shadeW_ok k1 k2
   obtain⟨s2,_⟩:=markP2 h hph hgg gpc
   repeat' (first
    |(refine k_L ?_;first|refine a_p rfl ?_|(refine k_l ?_;refine g_l rfl ?_)|(refine k_i ?_;refine g_i rfl rfl ?_)|(refine k_ls ?_;refine g_ls rfl ?_)|(refine k_st ?_;refine g_sw rfl rfl rfl rfl (Nat.le_of_ble_eq_true rfl) ?_)|(refine k_al ?_;refine a_al ?_))
    |refine a_n ?_
    |(refine k_V ?_;first|refine v_seq ?_|refine v_reg ?_|refine v_dreg ?_|(refine v_cd rfl (fun hb=>?_) (fun hb=>?_)<;>try(exfalso;omega)))
    |refine sk_zero ?_
    |refine sk_succ ?_
    |refine wk_nil ?_
    |refine wk_cons ?_)
   refine g_c rfl (shadeWord_a (x:=x) (w:=p.key) (fun hk=>k1.at hk) k2 q1) (fun v As' hq=>?_)
   obtain⟨z,rfl,rfl,hz,hzr⟩:=hq
   have zg:=(sound_gray (x:=z) (by rw[hz];exact s1.sound h)).1
   repeat' (first
    |(refine k_L ?_;refine a_p rfl ?_)
    |refine a_n ?_
    |(refine k_V ?_;first|refine v_seq ?_|refine v_reg ?_))
   refine g_c rfl (shadeWord_a (x:=z) (w:=p.val) (fun hk=>by rw[hz,s1.len];exact w1.at hk) (fun hk=>by rw[hz,(s1.cell _).1];exact w2 hk) zg) (fun v As' hq=>?_)
   obtain⟨u,rfl,rfl,hu,hur⟩:=hq
   have us:u.sub=x.H.sub:=by
    have:u.H.sub=x.H.sub:=by rw[hu,hz];exact s2.sub
    exact this
   repeat' (first
    |(refine k_L ?_;first|(refine k_ad ?_;refine g_ad rfl rfl ?_)|refine a_p rfl ?_|(refine k_l ?_;refine g_l rfl ?_)|(refine k_st ?_;refine g_st rfl rfl rfl rfl ?_))
    |refine a_n ?_
    |(refine k_V ?_;first|refine v_seq ?_|refine v_reg ?_|refine v_ret ?_)
    |refine s_r ?_)
   refine fa_r (fun _ _=>rfl) (Pm.ent (fin {u with sub:=u.sub+1})) ⟨_,rfl,?_⟩
   show({u.H with sub:=u.sub+1}:Heap)=_
   rw[us,hu,hz]
  ·have gp:y.c.pairs[x.H.sub.toNat]?=none:=List.getElem?_eq_none (by omega)
   rw[gp]
   simp only
   repeat' (first
    |(refine k_L ?_;first|refine a_p rfl ?_|(refine k_l ?_;refine g_l rfl ?_)|(refine k_i ?_;refine g_i rfl rfl ?_)|(refine k_st ?_;refine g_st rfl rfl rfl rfl ?_)|(refine a_dr rfl rfl (kn_t (kn_t (kn_t (kn_h pl_sl)))) (by omega) (kn_t (kn_t (kn_t (kn_h cp_sl)))) ?_))
    |refine a_n ?_
    |(refine k_V ?_;first|refine v_seq ?_|refine v_reg ?_|refine v_dreg ?_|refine v_ret ?_|refine v_skip ?_|(refine v_cd rfl (fun hb=>?_) (fun hb=>?_)<;>try(exfalso;omega)))
    |refine s_r ?_)
   refine fa_r (As':=hp a ({x with xs:=x.xs.set g.toNat (y.s_color 2),gd:=x.gd.drop 1 1,gray:=x.gray.drop 1,sub:=0}:HX)) (fun _ _=>rfl) ?_ ⟨_,rfl,?_⟩
   ·refine Ent.trans (Pm.ent (As1:=[slA 1 iv x.gd x.gray,hdA a ((x.hdr.s_gd (x.gd.drop 1 1) (x.gray.length-1)).s_sub 0),slA 3 wv x.rd x.regs,clA x.cd (x.xs.set g.toNat (y.s_color 2))]) pmt) ?_
    refine(ent_d1 (by rw[hg];simp)).trans ?_
    exact Pm.ent (fin _ (h3:=by simp[HX.hdr,Hdr.s_gd,Hdr.s_sub]))
   ·unfold HX.H Heap.black
    simp only[List.map_set,hg,List.drop_one,List.tail_cons,hgr]
    congr 2
    have gc':(Heap.mk x.room x.used x.born x.regs (x.xs.map (·.c)) x.phase x.hand x.sub (g::r) x.per x.start x.rounds x.forced).getC g=y.c:=gc
    rw[gc']
    rfl
theorem disj_le{a a' c:Mem}{b:Nat}{k k':Bk}(d:Disj a c)(hb:a b=some k)(l:a'.le (a.upd b k')):Disj a' c:=fun x=>by
 by_cases e:x=b
 ·subst e
  rcases d x with h|h
  ·rw[hb]at h;cases h
  ·exact .inr h
 ·rcases d x with h|h
  ·left
   cases h':a' x with
   |none=>rfl
   |some k2=>
    have:=l x k2 h'
    rw[Mem.upd_ne _ _ e,h]at this;cases this
  ·exact .inr h
theorem a_c0{P:Program}{S:St}{As R:List Asr}{post:St→List Asr→Prop}{r:List I}{x y:Operand}{cd:D}{ys:List CS}{i:Nat}{c:CS}{v:Value}(y':CS)(hi:ys[i]?=some c)(hd:y'.d=⟨none,0⟩)(hp0:y'.c.pairs=[])(hx:lc S x=some (.mm cd.b (cd.o+i*8)))(hy:ev S y=some v)(hn:v.cells.size=8)(hpl:plainCells v.cells.toList=true)(hv:v.cells.toList=csv y')
 (hp:LA P r post S (clA cd (ys.set i y')::R)) (hm:Pk As (clA cd ys) R:=by(fail_if_success apply pk_bad);(repeat(first|exact pk_h|apply pk_t));fail_if_success focus skip):LA P (⟨none,none,.store 8 x y⟩::r) post S As:=
 ⟨fun m hm'=>by
   obtain⟨a,c',dj,rfl,hA,hR⟩:=hm.out m hm'
   obtain⟨row,g1,g2,m',l,s⟩:=up_c0 hi hd hp0 a hA
   rw[←hv]at g2 l
   have g2':cd.o+i*8+8≤row.length:=by simp only[Array.length_toList]at g2;omega
   refine vl_stm hx (un_l g1) hy hn hpl g2' ?_
   have dj':=disj_le dj g1 l
   refine hp.at (m:=m'.un c') ⟨m',c',dj',rfl,s,hR⟩ ?_
   rw[un_upd_l]
   intro x k hk
   cases h:m' x with
   |some k'=>rw[un_l h]at hk;cases hk;exact un_l (l x _ h)
   |none=>
    rw[un_n h]at hk
    have:Disj (a.upd cd.b (.row (wr row (cd.o+i*8) v.cells.toList))) c':=disj_le dj g1 (Mem.le_refl _)
    exact un_r this hk⟩
theorem u_cell{cd:D}{ys:List CS}{i:Nat}{y y':CS}(hi:ys[i]?=some y):UpA (slA 8 csv cd ys) cd.b (cd.o+i*8) (csv y') (slA 8 csv cd (ys.set i y')):=up_sl (j:=0) csv_len hi (by simp[csv_len]) (by rw[wr_all _ _ (by rw[csv_len,csv_len])])
theorem pr_move{ys:List CS}{f u:Nat}{yf yu g:CS}(hf:ys[f]?=some yf)(hu:ys[u]?=some yu)(hfu:f<u)(hd:g.d=⟨none,0⟩)(hp:g.c.pairs=[]){R:List Asr}:Ent (prA ys::R) (prA ((ys.set f yu).set u g)::R):=⟨fun m hm=>by
 obtain⟨a,c,dj,rfl,h1,h2⟩:=hm
 obtain⟨a1,a2,d1,rfl,k1,k2⟩:=star2.1 (pr_out hu h1)
 have hf':(ys.eraseIdx u)[f]?=some yf:=by rw[List.getElem?_eraseIdx,if_pos hfu];exact hf
 obtain⟨b1,b2,d2,rfl,k3,k4⟩:=star2.1 (pr_out hf' k2)
 have hlu:=(List.getElem?_eq_some_iff.1 hu).1
 have hlf:=(List.getElem?_eq_some_iff.1 hf').1
 have s1:prA ((ys.eraseIdx u).set f yu) (a1.un b2):=pr_in hlf (star2.2 ⟨a1,b2,(disj_un.1 d1).2,rfl,k1,k4⟩)
 have e:(ys.eraseIdx u).set f yu=(ys.set f yu).eraseIdx u:=by
  apply List.ext_getElem?
  intro j
  rw[List.getElem?_set,List.getElem?_eraseIdx,List.getElem?_eraseIdx,List.getElem?_set,List.getElem?_set]
  by_cases e1:f=j
  ·subst e1
   rw[if_pos rfl,if_pos hfu,if_pos rfl,if_pos hlf,if_pos (by omega)]
  ·rw[if_neg e1]
   by_cases e2:j<u
   ·rw[if_pos e2,if_pos e2,if_neg e1]
   ·rw[if_neg e2,if_neg e2,if_neg (by omega)]
 rw[e]at s1
 have s2:prA ((ys.set f yu).set u g) (a1.un b2):=pr_in (by simpa using hlu) (star2.2 ⟨emp,a1.un b2,fun _=>.inl rfl,rfl,by
  rw[hp,hd]
  exact⟨.inl ⟨0,rfl,rfl,rfl⟩,fun _ _=>rfl⟩,s1⟩)
 have l:(a1.un b2).le (a1.un (b1.un b2)):=by
  intro x k hk
  cases h:a1 x with
  |some k'=>rw[un_l h]at hk;cases hk;exact un_l h
  |none=>
   rw[un_n h]at hk
   rw[un_n h];exact un_r d2 hk
 have dj':Disj (a1.un b2) c:=fun x=>by
  rcases dj x with h|h
  ·exact .inl (le_none l h)
  ·exact .inr h
 refine⟨(a1.un b2).un c,?_,_,c,dj',rfl,s2,h2⟩
 intro x k hk
 cases h:(a1.un b2) x with
 |some k'=>rw[un_l h]at hk;cases hk;exact un_l (l x _ h)
 |none=>rw[un_n h]at hk;exact un_r dj hk⟩
theorem cl_take{cd:D}{ys:List CS}{k:Nat}{R:List Asr}(hk:k≤ys.length):Ent (clA cd ys::R) (clA cd (ys.take k)::R):=by
 refine⟨fun m hm=>?_⟩
 obtain⟨a,c,dj,rfl,h1,h2⟩:=hm
 obtain⟨a1,a2,d1,rfl,k1,k2⟩:=star2.1 h1
 have k2':star ((ys.take k).map (fun y=>slA 6 pv y.d y.c.pairs)++(ys.drop k).map (fun y=>slA 6 pv y.d y.c.pairs)) a2:=by
  rw[←List.map_append,List.take_append_drop];exact k2
 obtain⟨b1,b2,d2,rfl,k3,k4⟩:=star_append.1 k2'
 have s1:clA cd (ys.take k) (a1.un b1):=star2.2 ⟨a1,b1,(disj_un.1 d1).1,rfl,sl_take csv_len k1 hk,k3⟩
 have l:(a1.un b1).le (a1.un (b1.un b2)):=by rw[←un_assoc];exact le_l _ _
 have dj':Disj (a1.un b1) c:=fun x=>by
  rcases dj x with h|h
  ·exact .inl (le_none l h)
  ·exact .inr h
 refine⟨(a1.un b1).un c,?_,_,c,dj',rfl,s1,h2⟩
 intro x k hk
 cases h:(a1.un b1) x with
 |some k'=>rw[un_l h]at hk;cases hk;exact un_l (l x _ h)
 |none=>rw[un_n h]at hk;exact un_r dj hk
def CS.gone(f:Int):CS:=⟨Cell.gone f,none,0⟩
def CS.zero:CS:=⟨Cell.zero,none,0⟩
theorem move_a{a:Nat}{x:HX}(h:Sound x.H)(hph:x.H.phase=4):FnA Tryd.prog 68 [ptr a] (hp a x) (fun v As=>∃z:HX,As=hp a z∧z.H=x.H.moveU):=by
 obtain⟨q1,q2,q3⟩:=sound_gray h
 have hl:=x.len
 have hnc:x.hdr.nc=x.xs.length:=rfl
 have hnr:x.hdr.nr=x.regs.length:=rfl
 refine fnA_of (fun h=>fn68 (by simp) h) ?_
 unfold Heap.moveU
 rw[hl]
 repeat' (first
  |(refine k_L ?_;first|refine a_p rfl ?_|(refine k_l ?_;refine g_l rfl ?_))
  |refine a_n ?_
  |(refine k_V ?_;first|refine v_seq ?_|refine v_reg ?_)
  |refine s_n ?_)
 refine g_range x.xs.length (fun q:Int×Int=>[(0,.v (ptr a)),(2,.v (.int .i64 q.1)),(3,.v (.int .i64 q.2)),(16,.v (.slice x.cd.a x.xs.length x.cd.cap))]) (fun q=>hp a x) (fun i q=>q.1=frG x.H i∧q.2=luG x.H i) ((x.xs.length:Int),(-1:Int)) ⟨by show _=(x.H.cells.length:Int);rw[hl],rfl⟩ (fun i q hi hv=>?_) (fun q hv=>?_)
 ·obtain⟨f,u⟩:=q
  obtain⟨rfl,rfl⟩:=hv
  obtain⟨y,gy,gc⟩:=HX.at hi
  have gk:=HX.gc gy
  obtain⟨f1,f2,f3,f4⟩:=frG_ok x.H i
  have ef:frG x.H (i+1)=if y.c.state=0 then min (frG x.H i) i else frG x.H i:=by show(if _ then _ else _)=_;rw[gk]
  have eu:luG x.H (i+1)=if y.c.state=1 then(i:Int)else luG x.H i:=by show(if _ then _ else _)=_;rw[gk]
  repeat' (first
   |(refine k_L ?_;first|refine a_p rfl ?_|(refine k_i ?_;refine g_i rfl rfl ?_)|(refine k_ls ?_;refine g_ls rfl ?_)|(refine k_st ?_;refine g_sw rfl rfl rfl rfl (Nat.le_of_ble_eq_true rfl) ?_)|(refine k_al ?_;refine a_al ?_))
   |refine a_n ?_
   |(refine k_V ?_;first|refine v_seq ?_|refine v_reg ?_|refine v_skip ?_|(refine v_cd rfl (fun hb=>?_) (fun hb=>?_)<;>try(exfalso;omega)))
   |refine sk_zero ?_
   |refine sk_succ ?_
   |refine wk_nil ?_
   |refine wk_cons ?_)
  ·refine r_nx ((if(i:Int)<frG x.H i then(i:Int)else frG x.H i),luG x.H i) ⟨?_,by show luG x.H i=_;rw[eu,if_neg ‹_›]⟩
   have e2:frG x.H (i+1)=min (frG x.H i) i:=by rw[ef,if_pos (by assumption)]
   show(if(i:Int)<frG x.H i then(i:Int)else frG x.H i)=frG x.H (i+1)
   rw[e2,Int.min_def]
   by_cases c1:(i:Int)<frG x.H i
   ·rw[if_pos c1,if_neg (by omega)]
   ·rw[if_neg c1,if_pos (by omega)]
  ·exact r_nx (frG x.H i,(i:Int)) ⟨by rw[ef,if_neg ‹_›],by rw[eu,if_pos ‹_›]⟩
  ·exact r_nx (frG x.H i,luG x.H i) ⟨by rw[ef,if_neg ‹_›],by rw[eu,if_neg ‹_›]⟩
 obtain⟨f,u⟩:=q
 obtain⟨hv1,hv2⟩:=hv
 simp only at hv1 hv2
 rw[←hv1,←hv2]
 obtain⟨f1,f2,f3,f4⟩:=frG_ok x.H x.xs.length
 obtain⟨u1,u2,u3,u4⟩:=luG_ok x.H x.xs.length
 rw[←hv1]at f1 f2 f3 f4
 rw[←hv2]at u1 u2 u3 u4
 by_cases hfu:u≤f
 ·rw[if_pos hfu]
  repeat' (first
   |(refine k_L ?_;first|refine a_p rfl ?_|(refine g_c rfl (enter_a (x:=x)) (fun v As' hq=>?_);subst hq))
   |refine a_n ?_
   |(refine k_V ?_;first|refine v_seq ?_|refine v_reg ?_|refine v_ret ?_|(refine v_cd rfl (fun hb=>?_) (fun hb=>?_)<;>try(exfalso;omega)))
   |refine s_r ?_)
  exact fa_r (fun _ _=>rfl) (Pm.ent (fin (x.enter 5))) ⟨_,rfl,enter_H⟩
 ·rw[if_neg hfu]
  have sf:=(f3 (by omega)).2
  have su:=u3 (by omega)
  obtain⟨fn,rfl⟩:=Int.eq_ofNat_of_zero_le f1
  obtain⟨un,rfl⟩:=Int.eq_ofNat_of_zero_le (by omega:0≤u)
  obtain⟨yf,gf,_⟩:=HX.at (x:=x) (i:=fn) (by omega)
  obtain⟨yu,gu,_⟩:=HX.at (x:=x) (i:=un) (by omega)
  have cf:=HX.gc gf
  have cu:=HX.gc gu
  have gu2:(x.xs.set fn yu)[un]?=some yu:=by rw[List.getElem?_set,if_neg (by omega)];exact gu
  repeat' (first
   |(refine k_L ?_;first|refine a_p rfl ?_|(refine k_l ?_;refine g_l rfl ?_)|(refine k_i ?_;refine g_i rfl rfl ?_)|(refine k_ls ?_;refine g_ls rfl ?_))
   |refine a_n ?_
   |(refine k_V ?_;first|refine v_seq ?_|refine v_reg ?_|refine v_dreg ?_|refine v_skip ?_|(refine v_cd rfl (fun hb=>?_) (fun hb=>?_)<;>try(exfalso;omega))))
  refine LA.ent (Bs:=[slA 8 csv x.cd x.xs,prA x.xs,hdA a x.hdr,slA 3 wv x.rd x.regs,slA 1 iv x.gd x.gray]) ?_ ?_
  ·refine Ent.trans (Pm.ent (As1:=[clA x.cd x.xs,hdA a x.hdr,slA 3 wv x.rd x.regs,slA 1 iv x.gd x.gray]) pmt) ?_
   exact cl_open.trans (Pm.ent pmt)
  refine a_st rfl rfl rfl rfl (up_h (u_cell (y':=yu) gf)) ?_
  repeat' (first
   |(refine k_L ?_;first|refine a_p rfl ?_|(refine k_l ?_;refine g_l rfl ?_)|(refine k_i ?_;refine g_i rfl rfl ?_))
   |refine a_n ?_
   |(refine k_V ?_;first|refine v_seq ?_|refine v_reg ?_))
  refine a_st rfl rfl rfl rfl (up_h (u_cell (y':=CS.gone fn) gu2)) ?_
  refine LA.ent (Bs:=hp a ({x with xs:=(x.xs.set fn yu).set un (CS.gone fn)}:HX)) ?_ ?_
  ·refine Ent.trans (Pm.ent (As1:=[prA x.xs,slA 8 csv x.cd ((x.xs.set fn yu).set un (CS.gone fn)),hdA a x.hdr,slA 3 wv x.rd x.regs,slA 1 iv x.gd x.gray]) pmt) ?_
   refine(pr_move gf gu (by omega) (g:=CS.gone fn) rfl rfl).trans ?_
   refine Ent.trans (Pm.ent (As1:=[slA 8 csv x.cd ((x.xs.set fn yu).set un (CS.gone fn)),prA ((x.xs.set fn yu).set un (CS.gone fn)),hdA a x.hdr,slA 3 wv x.rd x.regs,slA 1 iv x.gd x.gray]) pmt) ?_
   refine cl_close.trans ?_
   exact Pm.ent (fin _ (h2:=by simp[HX.hdr]) (e1:=by simp[HX.hdr]))
  repeat' (first
   |(refine k_L ?_;first|refine a_p rfl ?_|(refine k_l ?_;refine g_l rfl ?_))
   |refine a_n ?_
   |(refine k_V ?_;first|refine v_seq ?_|refine v_reg ?_)
   |refine s_n ?_)
  refine g_range x.regs.length (fun q:List Word=>[(0,.v (ptr a)),(2,.v (.int .i64 fn)),(3,.v (.int .i64 un)),(63,.v (.slice x.rd.a x.regs.length x.rd.cap))]) (fun q=>hp a ({x with xs:=(x.xs.set fn yu).set un (CS.gone fn),regs:=q}:HX)) (fun i q=>q=(x.regs.take i).map (fun w=>w.redir un fn)++x.regs.drop i) x.regs (by simp) (fun i q hi hv=>?_) (fun q hv=>?_)
  ·subst hv
   obtain⟨w,gw⟩:∃w,x.regs[i]?=some w:=⟨_,List.getElem?_eq_getElem hi⟩
   have hlm:((x.regs.take i).map (fun w=>w.redir un fn)).length=i:=by rw[List.length_map,List.length_take];omega
   have gw2:((x.regs.take i).map (fun w=>w.redir un fn)++x.regs.drop i)[i]?=some w:=by
    rw[List.getElem?_append_right (by omega),hlm,Nat.sub_self,List.getElem?_drop];exact gw
   have nx:∀w',((x.regs.take i).map (fun w=>w.redir un fn)++x.regs.drop i).set i w'=(x.regs.take i).map (fun w=>w.redir un fn)++w'::x.regs.drop (i+1):=fun w'=>by
    rw[List.set_append_right _ _ (by omega),hlm,Nat.sub_self,List.drop_eq_getElem_cons hi];rfl
   have nw:x.regs[i]=w:=(List.getElem?_eq_some_iff.1 gw).2
   have nx2:∀w',w'=w.redir un fn→(x.regs.take i).map (fun w=>w.redir un fn)++w'::x.regs.drop (i+1)=(x.regs.take (i+1)).map (fun w=>w.redir un fn)++x.regs.drop (i+1):=fun w' e=>by
    rw[List.take_add_one,gw,e];simp
   have n0:(x.regs.take i).map (fun w=>w.redir un fn)++x.regs.drop i=(x.regs.take i).map (fun w=>w.redir un fn)++w::x.regs.drop (i+1):=by rw[List.drop_eq_getElem_cons hi,nw]
   generalize hL:(x.regs.take i).map (fun w=>w.redir un fn)++x.regs.drop i=L at*
   have hLl:L.length=x.regs.length:=by rw[←hL,List.length_append,hlm,List.length_drop];omega
   repeat' (first
    |(refine k_L ?_;first|refine a_p rfl ?_|(refine k_g ?_;first|refine a_gy rfl rfl ?_|refine a_gn rfl rfl ?_|(refine a_gd rfl (fun hb=>?_) (fun hb=>?_)<;>try(exfalso;omega)))|(refine k_l ?_;refine g_l rfl ?_)|(refine k_i ?_;refine g_i rfl rfl ?_)|(refine k_ls ?_;refine g_ls rfl ?_)|(refine k_st ?_;first|refine g_st rfl rfl rfl rfl ?_|refine g_sw rfl rfl rfl rfl (Nat.le_of_ble_eq_true rfl) ?_)|(refine k_al ?_;refine a_al ?_))
    |refine a_n ?_
    |(refine k_V ?_;first|refine v_seq ?_|refine v_reg ?_|refine v_skip ?_|refine v_cf rfl ?_|(refine v_cd rfl (fun hb=>?_) (fun hb=>?_)<;>try(exfalso;omega)))
    |refine sk_zero ?_
    |refine sk_succ ?_
    |refine wk_nil ?_
    |refine wk_cons ?_)
   ·refine r_nx (L.set i {w with at_:=(fn:Int)}) ?_ (he:=Pm.ent (fin _ (h1:=by simp[HX.hdr])))
    rw[nx]
    exact nx2 _ (by unfold Word.redir;rw[if_pos ⟨by assumption,by assumption⟩])
   ·refine r_nx L ?_
    rw[n0]
    exact nx2 _ (by unfold Word.redir;rw[if_neg (fun h=>absurd h.2 (by assumption))])
   ·refine r_nx L ?_
    rw[n0]
    exact nx2 _ (by unfold Word.redir;rw[if_neg (fun h=>absurd h.1 (by assumption))])
  ·subst hv
   repeat' (first
    |(refine k_L ?_;first|(refine k_ad ?_;refine g_ad rfl rfl ?_)|(refine k_su ?_;refine g_su rfl rfl ?_)|(refine k_ml ?_;refine g_ml rfl rfl ?_)|refine a_p rfl ?_|(refine k_g ?_;first|refine a_gy rfl rfl ?_|refine a_gn rfl rfl ?_|refine a_gu rfl ?_|(refine a_gd rfl (fun hb=>?_) (fun hb=>?_)<;>try(exfalso;omega))|(refine a_ge rfl (fun hb=>?_) (fun hb=>?_)<;>try(exfalso;omega))|(refine a_gne rfl (fun hb=>?_) (fun hb=>?_)<;>try(exfalso;omega))|(refine a_gnd rfl (fun hb=>?_) (fun hb=>?_)<;>try(exfalso;omega)))|(refine k_l ?_;refine g_l rfl ?_)|(refine k_i ?_;refine g_i rfl rfl ?_)|(refine k_ls ?_;refine g_ls rfl ?_)|(refine k_st ?_;first|refine g_st rfl rfl rfl rfl ?_|refine g_sw rfl rfl rfl rfl (Nat.le_of_ble_eq_true rfl) ?_)|(refine k_al ?_;refine a_al ?_)|(refine k_bx ?_;refine a_bx rfl rfl ?_)|(refine k_bl ?_;refine a_bl rfl ?_)|(refine k_p ?_;first|(refine a_pd rfl (fun hb=>?_) (fun hb=>?_)<;>try(exfalso;omega))|(refine a_pe rfl (fun hb=>?_) (fun hb=>?_)<;>try(exfalso;omega))|(refine a_pne rfl (fun hb=>?_) (fun hb=>?_)<;>try(exfalso;omega))|(refine a_pnd rfl (fun hb=>?_) (fun hb=>?_)<;>try(exfalso;omega))))
    |refine a_n ?_
    |(refine k_V ?_;first|refine v_rv ?_|refine v_seq ?_|refine v_reg ?_|refine v_dreg ?_|refine v_zreg ?_|refine v_bs ?_|refine v_br ?_|refine v_bd ?_|refine v_bc ?_|refine v_bk ?_|refine v_bb ?_|refine v_ret ?_|refine v_exit ?_|refine v_skip ?_|refine v_ct rfl ?_|refine v_cf rfl ?_|(refine v_cd rfl (fun hb=>?_) (fun hb=>?_)<;>try(exfalso;omega))|(refine v_ce rfl (fun hb=>?_) (fun hb=>?_)<;>try(exfalso;omega))|(refine v_cn rfl (fun hb=>?_) (fun hb=>?_)<;>try(exfalso;omega))|(refine v_cnd rfl (fun hb=>?_) (fun hb=>?_)<;>try(exfalso;omega)))
    |refine s_n ?_
    |refine s_r ?_
    |refine s_e ?_
    |refine b_n ?_
    |refine b_r ?_
    |refine b_e ?_
    |refine b_o rfl ?_
    |refine r_rt ?_
    |refine r_bk rfl ?_
    |refine r_ex rfl rfl ?_
    |refine sk_zero ?_
    |refine sk_succ ?_
    |refine wk_nil ?_
    |refine wk_cons ?_)
   refine fa_n (fun _ _=>rfl) (Pm.ent pmt) ⟨_,rfl,?_⟩
   unfold HX.H Heap.moved
   simp only[List.map_set,List.take_of_length_le (Nat.le_refl _),List.drop_length,List.append_nil,Int.toNat_natCast]
   have cu':(Heap.mk x.room x.used x.born x.regs (x.xs.map (·.c)) x.phase x.hand x.sub x.gray x.per x.start x.rounds x.forced).getC un=yu.c:=cu
   rw[cu']
   rfl
end Go.Proofs.YtpleoapljeffiaaDoor.E
