/- A part of the proof. Conditions: none. -/
import Derived.Test.YtcjmodomfilagaaDoorKD3
import Derived.Test.YtcjmodomfilagaaDoorChecked
set_option linter.unusedVariables false
set_option linter.unusedSimpArgs false
namespace Go.Proofs.YtcjmodomfilagaaDoor.E
open Go
def Off(M:Mem)(b:Nat)(M':Mem):Prop:=∀c,c≠b→M' c=M c
theorem Off.upd(M:Mem)(b:Nat)(k:Bk):Off M b (M.upd b k):=fun c h=>Mem.upd_ne _ _ h
theorem Off.le{M M':Mem}{b:Nat}(h:Off M b M')(hb:M b=none):M.le M':=fun c k e=>by
 rw[h c (fun e'=>by subst e';rw[hb]at e;cases e)];exact e
theorem Off.keep{M0 M M':Mem}{b:Nat}(h:Off M b M')(l:M0.le M)(hb:M0 b=none):M0.le M':=fun c k e=>by
 rw[h c (fun e'=>by subst e';rw[hb]at e;cases e)];exact l c k e
theorem Off.trans{A B C:Mem}{b:Nat}(h:Off A b B)(k:Off B b C):Off A b C:=fun c e=>(k c e).trans (h c e)
def own:Value→List Nat
 |.slice (some a) _ _=>[a.block]
 |_=>[]
section
variable {M M':Mem} {α:Type} {f:α→List Value} {size:Nat} {v:Value} {xs:List α}
theorem Sl.off(h:Sl M size f v xs){b:Nat}(o:Off M b M')(hb:b∉own v):Sl M' size f v xs:=by
 rcases h with h|⟨b',o',cap,row,rfl,hM,h3⟩
 ·exact .inl h
 ·refine .inr ⟨b',o',cap,row,rfl,?_,h3⟩
  rw[o b' (fun e=>hb (by simp[own,e]))];exact hM
theorem Sl.at2{sa:Option Addr}{n cap:Nat}(h:Sl M size f (.slice sa n cap) xs)(hs:∀x,(f x).length=size){i:Nat}{x:α}(hx:xs[i]?=some x):
 ∃b o,sa=some ⟨b,o,none⟩∧cells M b (o+i*size) size=some (f x):=by
 have hi:=(List.getElem?_eq_some_iff.1 hx).1
 obtain⟨b,o,cap',e,hc⟩:=h.at hs (i:=(i:Int)) (by omega) (by omega) hx
 cases e
 exact⟨b,o,rfl,hc⟩
theorem Sl.nil:Sl M size f (.slice none 0 0) ([]:List α):=.inl ⟨0,rfl,rfl,rfl⟩
end
def SlR(M:Mem)(size:Nat){α:Type}(f:α→List Value)(v:Value)(xs:List α):Prop:=
 (∃a c,v=.slice a 0 c∧xs=[])∨
 ∃b o cap row,v=.slice (some ⟨b,o,none⟩) xs.length cap∧(M b=some (.row row)∨∃t fr,M b=some (.ro row t fr))∧xs.length≤9223372036854775807∧o+xs.length*size≤row.length∧(row.drop o).take (xs.length*size)=xs.flatMap f
section
variable {M M':Mem} {α:Type} {f:α→List Value} {size:Nat} {v:Value} {xs:List α}
theorem Sl.r(h:Sl M size f v xs):SlR M size f v xs:=by
 rcases h with⟨c,h1,h2,h3⟩|⟨b,o,cap,row,rfl,hM,hc,h2,hr,he⟩
 ·exact .inl ⟨_,_,h1,h3⟩
 ·exact .inr ⟨b,o,cap,row,rfl,.inl hM,by omega,by have:=Nat.mul_le_mul_right size hc;omega,he⟩
theorem SlR.le(h:SlR M size f v xs)(l:M.le M'):SlR M' size f v xs:=by
 rcases h with h|⟨b,o,cap,row,h1,h2,h3⟩
 ·exact .inl h
 ·exact .inr ⟨b,o,cap,row,h1,h2.imp (l _ _) (fun⟨t,fr,e⟩=>⟨t,fr,l _ _ e⟩),h3⟩
theorem SlR.len(h:SlR M size f v xs):∃a cap,v=.slice a xs.length cap:=by
 rcases h with⟨a,c,rfl,rfl⟩|⟨b,o,cap,row,rfl,_⟩
 ·exact⟨a,c,rfl⟩
 ·exact⟨_,cap,rfl⟩
theorem SlR.at2{sa:Option Addr}{n cap:Nat}(h:SlR M size f (.slice sa n cap) xs)(hs:∀x,(f x).length=size){i:Nat}{x:α}(hx:xs[i]?=some x):
 ∃b o,sa=some ⟨b,o,none⟩∧cells M b (o+i*size) size=some (f x):=by
 have hi:=(List.getElem?_eq_some_iff.1 hx).1
 rcases h with⟨a,c,e,rfl⟩|⟨b,o,cap,row,e,hM,h2,hr,he⟩
 ·simp at hi
 ·cases e
  refine⟨b,o,rfl,?_⟩
  have hmul2:(i+1)*size≤xs.length*size:=Nat.mul_le_mul_right _ (by omega)
  rw[Nat.succ_mul]at hmul2
  have key:(if o+i*size+size≤row.length then some ((row.drop (o+i*size)).take size)else none)=some (f x):=by
   rw[if_pos (by omega)]
   congr 1
   rw[←flat_get hs xs i x hx,←he,←List.drop_drop,List.drop_take,List.take_take]
   congr 1
   omega
  unfold cells
  rcases hM with hM|⟨_,_,hM⟩<;>rw[hM]<;>exact key
end
theorem wr_append_left(vs:List Value):∀(cs ds:List Value) (o:Nat),o+vs.length≤cs.length→wr (cs++ds) o vs=wr cs o vs++ds:=by
 induction vs with
 |nil=>intros;rfl
 |cons x r ih=>
  intro cs ds o h
  simp only[List.length_cons]at h
  simp only[wr]
  rw[List.set_append_left _ _ (by omega),ih _ _ _ (by simp;omega)]
theorem wr_append_right(vs:List Value):∀(cs ds:List Value) (o:Nat),cs.length≤o→wr (cs++ds) o vs=cs++wr ds (o-cs.length) vs:=by
 induction vs with
 |nil=>intros;rfl
 |cons x r ih=>
  intro cs ds o h
  simp only[wr]
  rw[List.set_append_right _ _ h,ih _ _ _ (by omega),show o+1-cs.length=o-cs.length+1 by omega]
theorem flat_wr{α:Type}{f:α→List Value}{size:Nat}(hs:∀x,(f x).length=size){j:Nat}{vs:List Value}(hj:j+vs.length≤size):
 ∀(xs:List α) (i:Nat) (x x':α),xs[i]?=some x→f x'=wr (f x) j vs→wr (xs.flatMap f) (i*size+j) vs=(xs.set i x').flatMap f
 |[],i,x,x',h,_=>by simp at h
 |y::r,0,x,x',h,hx=>by
  simp only[List.getElem?_cons_zero,Option.some.injEq]at h
  subst h
  simp only[Nat.zero_mul,Nat.zero_add,List.flatMap_cons,List.set_cons_zero]
  rw[wr_append_left _ _ _ _ (by rw[hs];exact hj),hx]
 |y::r,i+1,x,x',h,hx=>by
  simp only[List.getElem?_cons_succ]at h
  simp only[List.flatMap_cons,List.set_cons_succ]
  rw[wr_append_right _ _ _ _ (by rw[hs,Nat.succ_mul];omega),hs,←flat_wr hs hj r i x x' h hx]
  congr 2
  rw[Nat.succ_mul];omega
theorem wr_drop(vs:List Value):∀(cs:List Value) (o d:Nat),(wr cs (o+d) vs).drop o=wr (cs.drop o) d vs:=by
 induction vs with
 |nil=>intros;rfl
 |cons x r ih=>
  intro cs o d
  simp only[wr]
  rw[show o+d+1=o+(d+1) by omega,ih,List.drop_set,if_neg (by omega),show o+d-o=d by omega]
theorem wr_take(vs:List Value):∀(cs:List Value) (o n:Nat),o+vs.length≤n→(wr cs o vs).take n=wr (cs.take n) o vs:=by
 induction vs with
 |nil=>intros;rfl
 |cons x r ih=>
  intro cs o n h
  simp only[List.length_cons]at h
  simp only[wr]
  rw[ih _ _ _ (by omega),List.take_set]
section
variable {M M':Mem} {α:Type} {f:α→List Value} {size:Nat} {v:Value} {xs:List α}
theorem Sl.wr{b o n cap:Nat}(h:Sl M size f (.slice (some ⟨b,o,none⟩) n cap) xs)(hs:∀x,(f x).length=size){i j:Nat}{x x':α}{vs:List Value}(hx:xs[i]?=some x)(hj:j+vs.length≤size)(hf:f x'=E.wr (f x) j vs):
 ∃row,M b=some (.row row)∧o+i*size+j+vs.length≤row.length∧Sl (M.upd b (.row (E.wr row (o+i*size+j) vs))) size f (.slice (some ⟨b,o,none⟩) n cap) (xs.set i x'):=by
 rcases h with⟨c,e,_⟩|⟨b',o',cap',row,e,hM,hc,h2,hr,he⟩
 ·cases e
 ·cases e
  have hi:=(List.getElem?_eq_some_iff.1 hx).1
  have hm:(i+1)*size≤xs.length*size:=Nat.mul_le_mul_right _ (by omega)
  have hm2:xs.length*size≤cap*size:=Nat.mul_le_mul_right _ hc
  rw[Nat.succ_mul]at hm
  refine⟨row,hM,by omega,.inr ⟨b,o,cap,_,by simp,Mem.upd_same _ _ _,by simp;exact hc,by simp;exact h2,by rw[wr_length];exact hr,?_⟩⟩
  rw[Nat.add_assoc,wr_drop,List.length_set,wr_take _ _ _ _ (by omega),he,flat_wr hs hj xs i x x' hx hf]
end
abbrev Asr:=Mem→Prop
def star:List Asr→Asr
 |[],m=>m=emp
 |A::r,m=>∃a b,Disj a b∧m=a.un b∧A a∧star r b
theorem star_append{As Bs:List Asr}:∀{m:Mem},star (As++Bs) m↔∃a b,Disj a b∧m=a.un b∧star As a∧star Bs b:=by
 induction As with
 |nil=>
  intro m
  constructor
  ·intro h;exact⟨emp,m,fun _=>.inl rfl,(emp_un m).symm,rfl,h⟩
  ·rintro⟨a,b,d,rfl,rfl,h⟩;rw[emp_un];exact h
 |cons A r ih=>
  intro m
  constructor
  ·rintro⟨a,b,d,rfl,hA,h⟩
   obtain⟨c,e,d2,rfl,h1,h2⟩:=ih.1 h
   obtain⟨d3,d4⟩:=disj_un.1 d
   exact⟨a.un c,e,disj_un'.2 ⟨d4,d2⟩,(un_assoc _ _ _).symm,⟨a,c,d3,rfl,hA,h1⟩,h2⟩
  ·rintro⟨x,e,d,rfl,⟨a,c,d2,rfl,hA,h1⟩,h2⟩
   obtain⟨d3,d4⟩:=disj_un'.1 d
   exact⟨a,c.un e,disj_un.2 ⟨d2,d3⟩,un_assoc _ _ _,hA,ih.2 ⟨c,e,d4,rfl,h1,h2⟩⟩
theorem star_swap{A B:Asr}{r:List Asr}{m:Mem}(h:star (A::B::r) m):star (B::A::r) m:=by
 obtain⟨a,x,d,rfl,hA,b,c,d2,rfl,hB,hr⟩:=h
 obtain⟨d3,d4⟩:=disj_un.1 d
 refine⟨b,a.un c,disj_un.2 ⟨d3.symm,d2⟩,?_,hB,a,c,d4,rfl,hA,hr⟩
 rw[←un_assoc,un_comm d3,un_assoc]
theorem star_cons_mono{A B:Asr}{r s:List Asr}{m:Mem}(h:star (A::r) m)(h1:∀m,A m→B m)(h2:∀m,star r m→star s m):star (B::s) m:=by
 obtain⟨a,b,d,e,hA,hr⟩:=h
 exact⟨a,b,d,e,h1 _ hA,h2 _ hr⟩
structure Pk (As:List Asr) (A:Asr) (r:List Asr):Prop where
 out:∀m,star As m→star (A::r) m
theorem pk_h{A:Asr}{r:List Asr}:Pk (A::r) A r:=⟨fun _ h=>h⟩
theorem pk_t{A B:Asr}{r r':List Asr}(h:Pk r A r'):Pk (B::r) A (B::r'):=
 ⟨fun m hm=>star_swap (star_cons_mono hm (fun _ h=>h) h.out)⟩
structure Pm (As As1 F:List Asr):Prop where
 out:∀m,star As m→star (As1++F) m
theorem pm_nil{F:List Asr}:Pm F [] F:=⟨fun _ h=>h⟩
theorem pm_cons{As As' As1 F:List Asr}{A:Asr}(h:Pk As A As')(h2:Pm As' As1 F):Pm As (A::As1) F:=
 ⟨fun m hm=>star_cons_mono (h.out m hm) (fun _ h=>h) h2.out⟩
structure Ent (As Bs:List Asr):Prop where
 out:∀m,star As m→∃m',m'.le m∧star Bs m'
theorem Ent.refl(As:List Asr):Ent As As:=⟨fun m h=>⟨m,Mem.le_refl _,h⟩⟩
theorem Pm.ent{As As1 F:List Asr}(h:Pm As As1 F):Ent As As1:=⟨fun m hm=>by
 obtain⟨a,b,d,rfl,h1,h2⟩:=star_append.1 (h.out m hm)
 exact⟨a,le_l _ _,h1⟩⟩
theorem Ent.trans{A B C:List Asr}(h:Ent A B)(k:Ent B C):Ent A C:=⟨fun m hm=>by
 obtain⟨m1,l1,s1⟩:=h.out m hm
 obtain⟨m2,l2,s2⟩:=k.out m1 s1
 exact⟨m2,Mem.le_trans l2 l1,s2⟩⟩
def upQ(Q:X→St→List Asr→Prop):X→St→Mem→Prop:=fun x S M=>∃As m,m.le M∧star As m∧Q x S As
structure VA (E:Env) (c:C) (Q:X→St→List Asr→Prop) (S:St) (As:List Asr):Prop where
 out:∀m,star As m→VC E c (upQ Q) S m
def upP(post:St→List Asr→Prop):St→Mem→Prop:=fun S M=>∃As m,m.le M∧star As m∧post S As
structure LA (P:Program) (l:List I) (post:St→List Asr→Prop) (S:St) (As:List Asr):Prop where
 out:∀m,star As m→VL P l (upP post) S m
structure FnA (P:Program) (f:FuncId) (args:List Value) (As:List Asr) (post:Value→List Asr→Prop):Prop where
 out:∀m,star As m→Fn P f args m (fun v M'=>∃As' m',m'.le M'∧star As' m'∧post v As')
theorem FnA.mono{P:Program}{f:FuncId}{args:List Value}{As:List Asr}{post post':Value→List Asr→Prop}(h:FnA P f args As post)(k:∀v As',post v As'→post' v As'):FnA P f args As post':=
 ⟨fun m hm=>(h.out m hm).mono fun v M' ⟨As',m',l,s,p⟩=>⟨As',m',l,s,k _ _ p⟩⟩
theorem FnA.frame{P:Program}{f:FuncId}{args:List Value}{As F:List Asr}{post:Value→List Asr→Prop}(h:FnA P f args As post):FnA P f args (As++F) (fun v As'=>∃As1,post v As1∧As'=As1++F):=
 ⟨fun m hm=>by
   obtain⟨a,b,d,rfl,h1,h2⟩:=star_append.1 hm
   refine((h.out a h1).frame d).mono ?_
   rintro v M' ⟨m',⟨As',m1,l1,s1,hp⟩,hd,rfl⟩
   have hd1:Disj m1 b:=fun x=>by
    rcases hd x with e|e
    ·left
     cases h:m1 x with
     |none=>rfl
     |some k=>rw[l1 x k h]at e;cases e
    ·exact .inr e
   refine⟨As'++F,m1.un b,?_,star_append.2 ⟨m1,b,hd1,rfl,s1,h2⟩,As',hp,rfl⟩
   intro x k hk
   cases h:m1 x with
   |some k1=>rw[un_l h]at hk;cases hk;exact un_l (l1 x _ h)
   |none=>rw[un_n h]at hk;exact un_r hd hk⟩
theorem FnA.ent{P:Program}{f:FuncId}{args:List Value}{As Bs:List Asr}{post:Value→List Asr→Prop}(h:FnA P f args Bs post)(e:Ent As Bs):FnA P f args As post:=
 ⟨fun m hm=>by obtain⟨m',l,s⟩:=e.out m hm;exact(h.out m' s).le l⟩
theorem upP_of{post:St→List Asr→Prop}{S:St}{As:List Asr}{m:Mem}(s:star As m)(h:post S As):upP post S m:=⟨As,m,Mem.le_refl _,s,h⟩
theorem vcK_mono{P:Program}{c:K}{d:Option Nat}{p p':St→Mem→Prop}(k:∀S M,p S M→p' S M){S:St}{M:Mem}(h:vcK P c d p S M):vcK P c d p' S M:=by
 have am:∀{size bytes:Nat} {s:Value} {src:List Value} {n:Nat} {q q':Value→Mem→Prop},(∀v M,q v M→q' v M)→appM M size bytes s src n q→appM M size bytes s src n q':=by
  intro size bytes s src n q q' kq h
  unfold appM at*
  split at h
  ·obtain⟨h1,h2,h3,h4⟩:=h
   refine⟨h1,h2,h3,?_⟩
   rcases h4 with⟨h5,h6⟩|⟨h5,h6⟩
   ·exact .inl ⟨h5,kq _ _ h6⟩
   ·exact .inr ⟨h5,fun b c z e1 e2 e3=>kq _ _ (h6 b c z e1 e2 e3)⟩
  ·obtain⟨cs,h1,h2,h4⟩:=h
   refine⟨cs,h1,h2,?_⟩
   rcases h4 with⟨h5,h6,h7⟩|⟨h5,h6,h7⟩
   ·exact .inl ⟨h5,h6,kq _ _ h7⟩
   ·exact .inr ⟨h5,h6,fun b c z e1 e2 e3=>kq _ _ (h7 b c z e1 e2 e3)⟩
  ·exact h
 cases c
 case call=>obtain⟨args,h1,h2⟩:=h;exact⟨args,h1,h2.mono fun v M' h=>k _ _ h⟩
 case callv=>obtain⟨g,u,c,args,h1,h2,h3,h4⟩:=h;exact⟨g,u,c,args,h1,h2,h3,h4.mono fun v M' h=>k _ _ h⟩
 case store=>
  obtain⟨v,h1,h2,h3,h4⟩:=h
  refine⟨v,h1,h2,h3,?_⟩
  rcases h4 with⟨s,o,cs,a1,a2,a3,a4⟩|⟨b,o,cs,a1,a2,a3,a4⟩
  ·exact .inl ⟨s,o,cs,a1,a2,a3,k _ _ a4⟩
  ·exact .inr ⟨b,o,cs,a1,a2,a3,k _ _ a4⟩
 case alloc ow z=>
  cases ow with
  |false=>exact fun b hb=>k _ _ (h b hb)
  |true=>obtain⟨sv,h1,h2⟩:=h;exact⟨sv,h1,k _ _ h2⟩
 case box ow x=>
  cases ow with
  |false=>obtain⟨v,h1,h2⟩:=h;exact⟨v,h1,fun b hb=>k _ _ (h2 b hb)⟩
  |true=>obtain⟨sv,h1,h2⟩:=h;exact⟨sv,h1,k _ _ h2⟩
 case bslice ow len size z ps=>
  cases ow with
  |false=>obtain⟨v,h1,h2⟩:=h;exact⟨v,h1,fun b hb=>k _ _ (h2 b hb)⟩
  |true=>obtain⟨sv,h1,h2⟩:=h;exact⟨sv,h1,k _ _ h2⟩
 case mkslice=>obtain⟨n,m,h1,h2,h3,h4,h5,h6⟩:=h;exact⟨n,m,h1,h2,h3,h4,h5,fun b hb=>k _ _ (h6 b hb)⟩
 case app=>obtain⟨sv,src,n,h1,h2,h3,h4⟩:=h;exact⟨sv,src,n,h1,h2,h3,am (fun _ _ h=>k _ _ h) h4⟩
 case appz=>obtain⟨sv,n,h1,h2,h3,h4,h5⟩:=h;exact⟨sv,n,h1,h2,h3,h4,am (fun _ _ h=>k _ _ h) h5⟩
 case mkmap=>exact fun b hb=>k _ _ (h b hb)
 case mupd=>obtain⟨b,es,c,j,v,h1,h2,h3,h4,h5,h6⟩:=h;exact⟨b,es,c,j,v,h1,h2,h3,h4,h5,k _ _ h6⟩
 case mdel=>obtain⟨b,es,c,j,h1,h2,h3,h4,h5⟩:=h;exact⟨b,es,c,j,h1,h2,h3,h4,k _ _ h5⟩
 all_goals (obtain⟨sv,h1,h2⟩:=h;exact⟨sv,h1,k _ _ h2⟩)
theorem vcO_mono{P:Program}{i:I}{p p':St→Mem→Prop}(k:∀S M,p S M→p' S M){S:St}{M:Mem}(h:vcO P i p S M):vcO P i p' S M:=by
 unfold vcO at*
 split at h
 ·exact vcK_mono k h
 ·split at h
  ·exact⟨fun e=>vcK_mono k (h.1 e),fun e=>k _ _ (h.2 e)⟩
  ·exact k _ _ h
  ·exact h
theorem VL.mono{P:Program}{l:List I}{post post':St→Mem→Prop}(k:∀S M,post S M→post' S M){S:St}{M:Mem}(h:VL P l post S M):VL P l post' S M:=by
 refine⟨?_⟩
 have h:=h.out
 revert S M
 induction l with
 |nil=>intro S M _ h;exact k S M h
 |cons i r ih=>
  intro S M _ h
  have ih':∀S M,vcL P r post S M→vcL P r post' S M:=fun S M h=>ih ⟨h⟩ h
  show vcO P i (vcL P r post') S M
  have h:vcO P i (vcL P r post) S M:=h
  exact vcO_mono ih' h
section
variable {E:Env} {Q:X→St→List Asr→Prop} {S:St} {As Bs:List Asr} {K:St→List Asr→Prop}
def seqA(K:St→List Asr→Prop)(Q:X→St→List Asr→Prop):X→St→List Asr→Prop
 |.nrm=>K
 |x=>Q x
def blkA(id:Nat)(Q:X→St→List Asr→Prop):X→St→List Asr→Prop
 |.ext i=>if i=id then Q .nrm else Q (.ext i)
 |x=>Q x
theorem VA.ent{c:C}(e:Ent As Bs)(h:VA E c Q S Bs):VA E c Q S As:=
 ⟨fun m hm=>by obtain⟨m',l,s⟩:=e.out m hm;exact VC.drop l (h.out m' s)⟩
theorem v_reg{l:List I}(h:LA E.P l (Q .nrm) S As):VA E (.reg l) Q S As:=
 ⟨fun m hm=>VC.regV (h.out m hm)⟩
theorem v_dreg{n:Nat}{l:List I}(h:LA E.P l (Q .nrm) (fun t=>junkD (dsOf l n) (S t)) As):VA E (.dreg n l) Q S As:=
 ⟨fun m hm=>VC.dregV (h.out m hm)⟩
theorem v_zreg{ds:List Nat}{zs cs:List I}(h:LA E.P zs (fun S' _=>LA E.P cs (Q .nrm) S' As) (fun t=>junkD ds (S t)) []):VA E (.zreg ds zs cs) Q S As:=
 ⟨fun m hm=>VC.zreg (VL.mono (fun S' M' ⟨_,_,_,_,h⟩=>(h.out m hm).out) (h.out emp rfl)).out⟩
theorem v_seq{a b:C}(h:VA E a (seqA (VA E b Q) Q) S As):VA E (.seq a b) Q S As:=
 ⟨fun m hm=>VC.seq ((h.out m hm).mono fun x S M ⟨As',m',l,s,hq⟩=>by
   cases x with
   |nrm=>exact VC.drop l (hq.out m' s)
   |ret=>exact⟨As',m',l,s,hq⟩
   |ext i=>exact⟨As',m',l,s,hq⟩)⟩
theorem v_cond{x:Operand}{a b:C}(t:Bool)(hx:ev S x=some (.bool t))(h1:t=true→VA E a Q S As)(h2:t=false→VA E b Q S As):VA E (.cond x a b) Q S As:=
 ⟨fun m hm=>VC.cond t hx (fun e=>(h1 e).out m hm) (fun e=>(h2 e).out m hm)⟩
theorem v_blk{id:Nat}{c:C}(h:VA E c (blkA id Q) S As):VA E (.block id c) Q S As:=
 ⟨fun m hm=>VC.block ((h.out m hm).mono fun x S M ⟨As',m',l,s,hq⟩=>by
   cases x with
   |nrm=>exact⟨As',m',l,s,hq⟩
   |ret=>exact⟨As',m',l,s,hq⟩
   |ext i=>
    unfold blkA at hq
    unfold blkQ
    simp only at hq⊢
    split
    ·rename_i e;rw[if_pos e]at hq;exact⟨As',m',l,s,hq⟩
    ·rename_i e;rw[if_neg e]at hq;exact⟨As',m',l,s,hq⟩)⟩
theorem v_skip(h:Q .nrm S As):VA E .skip Q S As:=⟨fun m hm=>VC.skip ⟨As,m,Mem.le_refl _,hm,h⟩⟩
theorem v_ret(h:Q .ret S As):VA E .ret Q S As:=⟨fun m hm=>VC.ret ⟨As,m,Mem.le_refl _,hm,h⟩⟩
theorem v_exit{id:Nat}(h:Q (.ext id) S As):VA E (.exit id) Q S As:=⟨fun m hm=>VC.exit ⟨As,m,Mem.le_refl _,hm,h⟩⟩
theorem v_ct{x:Operand}{a b:C}(hx:ev S x=some (.bool true))(h:VA E a Q S As):VA E (.cond x a b) Q S As:=v_cond true hx (fun _=>h) (fun e=>by cases e)
theorem v_cf{x:Operand}{a b:C}(hx:ev S x=some (.bool false))(h:VA E b Q S As):VA E (.cond x a b) Q S As:=v_cond false hx (fun e=>by cases e) (fun _=>h)
theorem v_cd{x:Operand}{a b:C}{p:Prop}{_:Decidable p}(hx:ev S x=some (.bool (decide p)))(h1:p→VA E a Q S As)(h2:¬p→VA E b Q S As):VA E (.cond x a b) Q S As:=
 v_cond _ hx (fun h=>h1 (of_decide_eq_true h)) (fun h=>h2 (of_decide_eq_false h))
theorem v_ce{x:Operand}{a b:C}{u w:Int}(hx:ev S x=some (.bool (u==w)))(h1:u=w→VA E a Q S As)(h2:u≠w→VA E b Q S As):VA E (.cond x a b) Q S As:=
 v_cond _ hx (fun h=>h1 (by simpa using h)) (fun h=>h2 (by simpa using h))
theorem v_cn{x:Operand}{a b:C}{u w:Int}(hx:ev S x=some (.bool (u !=w)))(h1:u≠w→VA E a Q S As)(h2:u=w→VA E b Q S As):VA E (.cond x a b) Q S As:=
 v_cond _ hx (fun h=>h1 (by simpa using h)) (fun h=>h2 (by simpa using h))
theorem v_cnd{x:Operand}{a b:C}{p:Prop}{_:Decidable p}(hx:ev S x=some (.bool (!decide p)))(h1:¬p→VA E a Q S As)(h2:p→VA E b Q S As):VA E (.cond x a b) Q S As:=
 v_cond _ hx (fun h=>h1 (by simpa using h)) (fun h=>h2 (by simpa using h))
theorem s_n(h:K S As):seqA K Q .nrm S As:=h
theorem s_r(h:Q .ret S As):seqA K Q .ret S As:=h
theorem s_e{i:Nat}(h:Q (.ext i) S As):seqA K Q (.ext i) S As:=h
theorem b_n{id:Nat}(h:Q .nrm S As):blkA id Q .nrm S As:=h
theorem b_r{id:Nat}(h:Q .ret S As):blkA id Q .ret S As:=h
theorem b_e{id:Nat}(h:Q .nrm S As):blkA id Q (.ext id) S As:=by unfold blkA;simp only[if_true];exact h
theorem b_o{id i:Nat}(hi:Nat.beq i id=false)(h:Q (.ext i) S As):blkA id Q (.ext i) S As:=by
 have e:i≠id:=fun e=>by subst e;simp at hi
 unfold blkA;simp only[if_neg e];exact h
end
def fnA(rs:List RV)(post:Value→List Asr→Prop):X→St→List Asr→Prop
 |.ext _,_,_=>False
 |_,S,As=>∃v As',(∀m,star As m→resV S m rs=some v)∧Ent As As'∧post v As'
theorem rvs_le{S:St}{m M:Mem}(l:m.le M):∀{rs:List RV} {vs:List Value},rvs S m rs=some vs→rvs S M rs=some vs
 |[],vs,h=>h
 |r::t,vs,h=>by
  simp only[rvs]at h⊢
  split at h
  ·rename_i v l' h1 h2
   have h1':rvV S M r=some v:=by
    cases r with
    |tmp t=>exact h1
    |cell t one n=>
     simp only[rvV]at h1⊢
     split at h1
     ·exact h1
     ·rename_i b o hl
      split at h1
      ·rename_i cs hM;rw[l _ _ hM];exact h1
      ·cases h1
     ·cases h1
   rw[h1',rvs_le l h2];exact h
  ·cases h
theorem resV_le{S:St}{m M:Mem}(l:m.le M){rs:List RV}{v:Value}(h:resV S m rs=some v):resV S M rs=some v:=by
 unfold resV at*
 cases h1:rvs S m rs with
 |none=>rw[h1]at h;cases h
 |some vs=>rw[rvs_le l h1];rw[h1]at h;exact h
theorem fnA_of{E:Env}{c:C}{f:FuncId}{args:List Value}{nt:Nat}{rl:List RV}{P:Program}{As:List Asr}{post:Value→List Asr→Prop}
 (hf:∀{M:Mem} {p:Value→Mem→Prop},VC E c (fnQ rl p) (initS args nt) M→Fn P f args M p) (h:VA E c (fnA rl post) (initS args nt) As):FnA P f args As post:=
 ⟨fun m hm=>hf ((h.out m hm).mono fun x S M ⟨As',m',l,s,hq⟩=>by
   cases x with
   |ext i=>exact hq
   |nrm=>
    obtain⟨v,As2,h1,h2,h3⟩:=hq
    obtain⟨m2,l2,s2⟩:=h2.out m' s
    exact⟨v,m2,resV_le l (h1 m' s),Mem.le_trans l2 l,As2,m2,Mem.le_refl _,s2,h3⟩
   |ret=>
    obtain⟨v,As2,h1,h2,h3⟩:=hq
    obtain⟨m2,l2,s2⟩:=h2.out m' s
    exact⟨v,m2,resV_le l (h1 m' s),Mem.le_trans l2 l,As2,m2,Mem.le_refl _,s2,h3⟩)⟩
theorem cell_le{m M:Mem}(l:m.le M){b o:Nat}{v:Value}(h:cell m b o=some v):cell M b o=some v:=by
 unfold cell at*
 cases hm:m b with
 |none=>rw[hm]at h;cases h
 |some k=>rw[l _ _ hm];rw[hm]at h;exact h
theorem cells_le{m M:Mem}(l:m.le M){b o n:Nat}{v:List Value}(h:cells m b o n=some v):cells M b o n=some v:=by
 unfold cells at*
 cases hm:m b with
 |none=>rw[hm]at h;cases h
 |some k=>rw[l _ _ hm];rw[hm]at h;exact h
structure RdA (A:Asr) (b o:Nat) (v:Value):Prop where
 out:∀m,A m→cell m b o=some v
structure Rd (As:List Asr) (b o:Nat) (v:Value):Prop where
 out:∀m,star As m→cell m b o=some v
theorem rd_h{A:Asr}{r:List Asr}{b o:Nat}{v:Value}(h:RdA A b o v):Rd (A::r) b o v:=
 ⟨fun m ⟨a,c,d,e,hA,hr⟩=>by subst e;exact cell_le (le_l _ _) (h.out a hA)⟩
theorem rd_t{A:Asr}{r:List Asr}{b o:Nat}{v:Value}(h:Rd r b o v):Rd (A::r) b o v:=
 ⟨fun m ⟨a,c,d,e,hA,hr⟩=>by subst e;exact cell_le (le_r d) (h.out c hr)⟩
structure RsA (A:Asr) (b o n:Nat) (v:List Value):Prop where
 out:∀m,A m→cells m b o n=some v
structure Rs (As:List Asr) (b o n:Nat) (v:List Value):Prop where
 out:∀m,star As m→cells m b o n=some v
theorem rs_h{A:Asr}{r:List Asr}{b o n:Nat}{v:List Value}(h:RsA A b o n v):Rs (A::r) b o n v:=
 ⟨fun m ⟨a,c,d,e,hA,hr⟩=>by subst e;exact cells_le (le_l _ _) (h.out a hA)⟩
theorem rs_t{A:Asr}{r:List Asr}{b o n:Nat}{v:List Value}(h:Rs r b o n v):Rs (A::r) b o n v:=
 ⟨fun m ⟨a,c,d,e,hA,hr⟩=>by subst e;exact cells_le (le_r d) (h.out c hr)⟩
structure UpA (A:Asr) (b o:Nat) (vs:List Value) (A':Asr):Prop where
 out:∀m,A m→∃row,m b=some (.row row)∧o+vs.length≤row.length∧A' (m.upd b (.row (wr row o vs)))
structure Up (As:List Asr) (b o:Nat) (vs:List Value) (As':List Asr):Prop where
 out:∀m,star As m→∃row,m b=some (.row row)∧o+vs.length≤row.length∧star As' (m.upd b (.row (wr row o vs)))
theorem up_h{A A':Asr}{r:List Asr}{b o:Nat}{vs:List Value}(h:UpA A b o vs A'):Up (A::r) b o vs (A'::r):=
 ⟨fun m ⟨a,c,d,e,hA,hr⟩=>by
   subst e
   obtain⟨row,h1,h2,h3⟩:=h.out a hA
   have hc:c b=none:=by
    rcases d b with e|e
    ·rw[h1]at e;cases e
    ·exact e
   exact⟨row,un_l h1,h2,_,c,d.upd _ hc,un_upd_l _,h3,hr⟩⟩
theorem up_t{A:Asr}{r r':List Asr}{b o:Nat}{vs:List Value}(h:Up r b o vs r'):Up (A::r) b o vs (A::r'):=
 ⟨fun m ⟨a,c,d,e,hA,hr⟩=>by
   subst e
   obtain⟨row,h1,h2,h3⟩:=h.out c hr
   have ha:a b=none:=by
    rcases d b with e|e
    ·exact e
    ·rw[h1]at e;cases e
   exact⟨row,un_r d h1,h2,a,_,(d.symm.upd _ ha).symm,un_upd_r _ ha,hA,h3⟩⟩
structure KnA (A:Asr) (p:Prop):Prop where
 out:∀m,A m→p
structure Kn (As:List Asr) (p:Prop):Prop where
 out:∀m,star As m→p
theorem kn_h{A:Asr}{r:List Asr}{p:Prop}(h:KnA A p):Kn (A::r) p:=⟨fun m ⟨a,c,d,e,hA,hr⟩=>h.out a hA⟩
theorem kn_t{A:Asr}{r:List Asr}{p:Prop}(h:Kn r p):Kn (A::r) p:=⟨fun m ⟨a,c,d,e,hA,hr⟩=>h.out c hr⟩
structure D where
 a:Option Addr
 cap:Nat
def D.b(d:D):Nat:=match d.a with|some x=>x.block|none=>0
def D.o(d:D):Nat:=match d.a with|some x=>x.off|none=>0
def D.v(d:D)(n:Nat):Value:=.slice d.a n d.cap
def slA(size:Nat){α:Type}(f:α→List Value)(d:D)(xs:List α):Asr:=fun m=>Sl m size f (.slice d.a xs.length d.cap) xs∧∀b,b∉own (.slice d.a xs.length d.cap)→m b=none
def bx(b:Nat)(vs:List Value):Asr:=fun m=>m=one b (.row vs)
section
variable {α:Type} {f:α→List Value} {size:Nat} {d:D} {xs:List α}
theorem D.som{m:Mem}(h:slA size f d xs m){i:Nat}{e:α}(hi:xs[i]?=some e):d.a=some ⟨d.b,d.o,none⟩:=by
 rcases h.1 with⟨c,e,_,e2⟩|⟨b,o,cap,row,e,_⟩
 ·subst e2;simp at hi
 ·simp only[Value.slice.injEq]at e
  have:d.a=some ⟨b,o,none⟩:=e.1
  unfold D.b D.o;rw[this]
theorem rs_sl{i:Nat}{e:α}(hs:∀x,(f x).length=size)(hi:xs[i]?=some e):RsA (slA size f d xs) d.b (d.o+i*size) size (f e):=
 ⟨fun m h=>by
   obtain⟨b,o,ha,hc⟩:=h.1.at2 hs hi
   have e1:d.b=b:=by unfold D.b;rw[ha]
   have e2:d.o=o:=by unfold D.o;rw[ha]
   rw[e1,e2];exact hc⟩
theorem rd_sl{i j:Nat}{e:α}{v:Value}(hs:∀x,(f x).length=size)(hi:xs[i]?=some e)(hj:(f e)[j]?=some v):RdA (slA size f d xs) d.b (d.o+i*size+j) v:=
 ⟨fun m h=>cells_cell ((rs_sl hs hi).out m h) hj⟩
theorem cells_sub{M:Mem}{b o n j k:Nat}{vs ws:List Value}(h:cells M b o n=some vs)(hj:j+k≤vs.length)(hw:(vs.drop j).take k=ws):cells M b (o+j) k=some ws:=by
 obtain⟨cs,hM,hle,rfl⟩:=cells_row h
 simp only[List.length_take,List.length_drop]at hj
 have key:(if o+j+k≤cs.length then some ((cs.drop (o+j)).take k)else none)=some ws:=by
  rw[if_pos (by omega)]
  congr 1
  rw[←hw,List.drop_take,List.drop_drop,List.take_take]
  congr 1;omega
 unfold cells
 rcases hM with hM|⟨_,_,hM⟩<;>rw[hM]<;>exact key
theorem rs_slp{i j k:Nat}{e:α}{ws:List Value}(hs:∀x,(f x).length=size)(hi:xs[i]?=some e)(hj:j+k≤size)(hw:((f e).drop j).take k=ws):RsA (slA size f d xs) d.b (d.o+i*size+j) k ws:=
 ⟨fun m h=>cells_sub ((rs_sl hs hi).out m h) (by rw[hs];exact hj) hw⟩
theorem up_sl{i j:Nat}{e e':α}{vs:List Value}(hs:∀x,(f x).length=size)(hi:xs[i]?=some e)(hj:j+vs.length≤size)(hf:f e'=wr (f e) j vs):UpA (slA size f d xs) d.b (d.o+i*size+j) vs (slA size f d (xs.set i e')):=
 ⟨fun m h=>by
   have ha:=D.som h hi
   have h1:=h.1
   have h2:=h.2
   rw[ha]at h1 h2
   obtain⟨row,g1,g2,g3⟩:=h1.wr hs hi hj hf
   refine⟨row,g1,by omega,?_,?_⟩
   ·rw[List.length_set,ha];exact g3
   ·intro b hb
    rw[List.length_set,ha]at hb
    have hne:b≠d.b:=fun e=>hb (by simp[own,e])
    rw[Mem.upd_ne _ _ hne];exact h2 b hb⟩
theorem bs_sl{i:Nat}{e:α}(hi:xs[i]?=some e):KnA (slA size f d xs) (d.a=some ⟨d.b,d.o,none⟩):=⟨fun m h=>D.som h hi⟩
def D.drop(d:D)(size k:Nat):D:=⟨match d.a with|some ⟨b,o,none⟩=>some (if d.cap=k then⟨b,o,none⟩else⟨b,o+k*size,none⟩)|x=>x,d.cap-k⟩
theorem rd_bx{b o:Nat}{vs:List Value}{v:Value}(h:vs[o]?=some v):RdA (bx b vs) b o v:=⟨fun m hm=>by
 have hm:m=one b (.row vs):=hm
 subst hm;unfold cell;rw[one_same];exact h⟩
theorem rs_bx{b o n:Nat}{vs ws:List Value}(ho:o+n≤vs.length)(h:(vs.drop o).take n=ws):RsA (bx b vs) b o n ws:=⟨fun m hm=>by
 have hm:m=one b (.row vs):=hm
 subst hm;unfold cells;rw[one_same];simp only;rw[if_pos ho,h]⟩
theorem up_bx{b o:Nat}{vs ws:List Value}{A:Asr}(ho:o+ws.length≤vs.length)(hA:WrK vs o ws (fun c=>A=bx b c)):UpA (bx b vs) b o ws A:=⟨fun m hm=>by
 have hm:m=one b (.row vs):=hm
 have:=hA.out
 subst hm;subst this
 exact⟨vs,one_same _ _,ho,one_upd _ _ _⟩⟩
end
def UpC(p:St→Mem→Prop):Prop:=∀S M M',M.le M'→p S M→p S M'
theorem upP_up(post:St→List Asr→Prop):UpC (upP post):=fun S M M' l ⟨As,m,h1,h2,h3⟩=>⟨As,m,Mem.le_trans h1 l,h2,h3⟩
theorem le_none{M M':Mem}(l:M.le M'){b:Nat}(h:M' b=none):M b=none:=by
 cases e:M b with
 |none=>rfl
 |some k=>rw[l b k e]at h;cases h
theorem Qt.up{P:Program}{f:FuncId}{args:List Value}{M M':Mem}{v:Value}(l:M.le M')(h:Qt P f args M v):Qt P f args M' v:=by
 have hd:Disj M (fun x=>match M x with|none=>M' x|some _=>none):=fun x=>by
  cases e:M x with
  |none=>exact .inl rfl
  |some k=>right;simp only[e]
 have he:M.un (fun x=>match M x with|none=>M' x|some _=>none)=M':=by
  funext x
  cases e:M x with
  |none=>rw[un_n e];simp only[e]
  |some k=>rw[un_l e,l x k e]
 have:=Fn.frame hd h
 rw[he]at this
 refine this.mono ?_
 rintro v' M1 ⟨m',⟨h1,h2⟩,_,h3⟩
 subst h2
 exact⟨h1,h3.trans he⟩
theorem fe_up{P:Program}{f:Nat→SV}{M M':Mem}(l:M.le M'){k:K}{sv:SV}(h:FE P f M k sv):FE P f M' k sv:=by
 rcases h with h|h
 ·exact .inl h
 ·right
  cases k<;>(try(exact h.elim))<;>(try exact h)
  case load one n x=>
   obtain⟨b,o,cs,v,h1,h2,h3,h4⟩:=h
   exact⟨b,o,cs,v,h1,h2.imp (l _ _) (fun⟨t,fr,e⟩=>⟨t,fr,l _ _ e⟩),h3,h4⟩
  case alloc ow z=>cases ow<;>first|exact h.elim|exact h
  case box ow z=>cases ow<;>first|exact h.elim|exact h
  case bslice ow len size z ps=>cases ow<;>first|exact h.elim|exact h
  case look one z ok x i=>
   obtain⟨es,c,j,h1,h2⟩:=h
   refine⟨es,c,j,h1.imp id (fun⟨b,e1,e2⟩=>⟨b,e1,l _ _ e2⟩),h2⟩
  case qcall g xs=>
   obtain⟨args,r,h1,h2,h3⟩:=h
   exact⟨args,r,h1,h2.up l,h3⟩
theorem srcV_up{M M':Mem}(l:M.le M'){size:Nat}{v:Value}{s:List Value×Nat}(h:srcC.srcV M size v=some s):srcC.srcV M' size v=some s:=by
 unfold srcC.srcV at*
 split at h
 ·exact h
 ·rename_i b o k c
  split at h
  ·rename_i cs hM;simp only[l _ _ hM];exact h
  ·cases h
 ·exact h
 ·cases h
theorem src_up{f:Nat→SV}{M M':Mem}(l:M.le M'){size:Nat}{x:Operand}{s:List Value×Nat}(h:srcC f M size x=some s):srcC f M' size x=some s:=by
 unfold srcC at*
 split at h
 ·split at h
  ·exact h
  ·exact srcV_up l h
  ·cases h
 ·exact srcV_up l h
 ·cases h
theorem appM_up{M M':Mem}(l:M.le M'){size bytes:Nat}{s:Value}{src:List Value}{k:Nat}{q:Value→Mem→Prop}(hq:∀v M M',M.le M'→q v M→q v M')(h:appM M size bytes s src k q):appM M' size bytes s src k q:=by
 unfold appM at*
 split at h
 ·obtain⟨h1,h2,h3,h4⟩:=h
  refine⟨h1,h2,h3,?_⟩
  rcases h4 with⟨h5,h6⟩|⟨h5,h6⟩
  ·exact .inl ⟨h5,hq _ _ _ l h6⟩
  ·exact .inr ⟨h5,fun b c z e1 e2 e3=>hq _ _ _ (Mem.upd_le_upd l _ _) (h6 b c z (le_none l e1) e2 e3)⟩
 ·obtain⟨cs,h1,h2,h4⟩:=h
  refine⟨cs,l _ _ h1,h2,?_⟩
  rcases h4 with⟨h5,h6,h7⟩|⟨h5,h6,h7⟩
  ·exact .inl ⟨h5,h6,hq _ _ _ (Mem.upd_le_upd l _ _) h7⟩
  ·exact .inr ⟨h5,h6,fun b c z e1 e2 e3=>hq _ _ _ (Mem.upd_le_upd l _ _) (h7 b c z (le_none l e1) e2 e3)⟩
 ·exact h
theorem vcK_up{P:Program}{k:K}{d:Option Nat}{p:St→Mem→Prop}(hp:UpC p){S:St}{M M':Mem}(l:M.le M')(h:vcK P k d p S M):vcK P k d p S M':=by
 have flo:(∃sv,FE P S M k sv∧p (if sv.isBox then putB S d sv else put S d sv) M)→∃sv,FE P S M' k sv∧p (if sv.isBox then putB S d sv else put S d sv) M':=
  fun⟨sv,h1,h2⟩=>⟨sv,fe_up l h1,hp _ _ _ l h2⟩
 cases k
 case call=>obtain⟨args,h1,h2⟩:=h;exact⟨args,h1,h2.le l⟩
 case callv=>obtain⟨g,u,c,args,h1,h2,h3,h4⟩:=h;exact⟨g,u,c,args,h1,h2,h3,h4.le l⟩
 case store=>
  obtain⟨v,h1,h2,h3,h4⟩:=h
  refine⟨v,h1,h2,h3,?_⟩
  rcases h4 with⟨s,o,cs,a1,a2,a3,a4⟩|⟨b,o,cs,a1,a2,a3,a4⟩
  ·exact .inl ⟨s,o,cs,a1,a2,a3,hp _ _ _ l a4⟩
  ·exact .inr ⟨b,o,cs,a1,l _ _ a2,a3,hp _ _ _ (Mem.upd_le_upd l _ _) a4⟩
 case alloc ow z=>
  cases ow with
  |false=>exact fun b hb=>hp _ _ _ (Mem.upd_le_upd l _ _) (h b (le_none l hb))
  |true=>exact flo h
 case box ow x=>
  cases ow with
  |false=>obtain⟨v,h1,h2⟩:=h;exact⟨v,h1,fun b hb=>hp _ _ _ (Mem.upd_le_upd l _ _) (h2 b (le_none l hb))⟩
  |true=>exact flo h
 case bslice ow len size z ps=>
  cases ow with
  |false=>obtain⟨v,h1,h2⟩:=h;exact⟨v,h1,fun b hb=>hp _ _ _ (Mem.upd_le_upd l _ _) (h2 b (le_none l hb))⟩
  |true=>exact flo h
 case mkslice=>obtain⟨n,m,h1,h2,h3,h4,h5,h6⟩:=h;exact⟨n,m,h1,h2,h3,h4,h5,fun b hb=>hp _ _ _ (Mem.upd_le_upd l _ _) (h6 b (le_none l hb))⟩
 case app=>obtain⟨sv,src,n,h1,h2,h3,h4⟩:=h;exact⟨sv,src,n,h1,src_up l h2,h3,appM_up l (fun _ _ _ l h=>hp _ _ _ l h) h4⟩
 case appz=>obtain⟨sv,n,h1,h2,h3,h4,h5⟩:=h;exact⟨sv,n,h1,h2,h3,h4,appM_up l (fun _ _ _ l h=>hp _ _ _ l h) h5⟩
 case mkmap=>exact fun b hb=>hp _ _ _ (Mem.upd_le_upd l _ _) (h b (le_none l hb))
 case mupd=>obtain⟨b,es,c,j,v,h1,h2,h3,h4,h5,h6⟩:=h;exact⟨b,es,c,j,v,h1,l _ _ h2,h3,h4,h5,hp _ _ _ (Mem.upd_le_upd l _ _) h6⟩
 case mdel=>obtain⟨b,es,c,j,h1,h2,h3,h4,h5⟩:=h;exact⟨b,es,c,j,h1,l _ _ h2,h3,h4,hp _ _ _ (Mem.upd_le_upd l _ _) h5⟩
 all_goals exact flo h
theorem vcL_up{P:Program}{p:St→Mem→Prop}(hp:UpC p):∀l:List I,UpC (vcL P l p)
 |[]=>hp
 |i::r=>fun S M M' le h=>by
  have ih:=vcL_up (P:=P) hp r
  show vcO P i (vcL P r p) S M'
  have h:vcO P i (vcL P r p) S M:=h
  unfold vcO at*
  split at h
  ·exact vcK_up ih le h
  ·split at h
   ·exact⟨fun e=>vcK_up ih le (h.1 e),fun e=>ih _ _ _ le (h.2 e)⟩
   ·exact ih _ _ _ le h
   ·exact h
theorem LA.at{P:Program}{l:List I}{post:St→List Asr→Prop}{S:St}{As:List Asr}(h:LA P l post S As){m M:Mem}(s:star As m)(le:m.le M):VL P l (upP post) S M:=
 ⟨vcL_up (upP_up post) l S m M le (h.out m s).out⟩
section
variable {P:Program} {S:St} {As:List Asr} {post:St→List Asr→Prop} {r:List I} {d:Option Nat}
theorem a_n(h:post S As):LA P [] post S As:=⟨fun m hm=>vl_nil (upP_of hm h)⟩
theorem a_p{k:K}{sv:SV}(h:pe S k=some sv)(hp:LA P r post (put S d sv) As):LA P (⟨d,none,k⟩::r) post S As:=⟨fun m hm=>vl_pure h (hp.out m hm)⟩
theorem a_ad{x y:Operand}{a b:Int}(hx:ev S x=some (.int .i64 a))(hy:ev S y=some (.int .i64 b))(hb: -9223372036854775808≤a+b∧a+b≤9223372036854775807)
 (hp:LA P r post (put S d (.v (.int .i64 (a+b)))) As):LA P (⟨d,none,.bin .add x y⟩::r) post S As:=⟨fun m hm=>vl_add hx hy hb (hp.out m hm)⟩
theorem a_su{x y:Operand}{a b:Int}(hx:ev S x=some (.int .i64 a))(hy:ev S y=some (.int .i64 b))(hb: -9223372036854775808≤a-b∧a-b≤9223372036854775807)
 (hp:LA P r post (put S d (.v (.int .i64 (a-b)))) As):LA P (⟨d,none,.bin .sub x y⟩::r) post S As:=⟨fun m hm=>vl_sub hx hy hb (hp.out m hm)⟩
theorem a_ml{x y:Operand}{a b:Int}(hx:ev S x=some (.int .i64 a))(hy:ev S y=some (.int .i64 b))(hb: -9223372036854775808≤a*b∧a*b≤9223372036854775807)
 (hp:LA P r post (put S d (.v (.int .i64 (a*b)))) As):LA P (⟨d,none,.bin .mul x y⟩::r) post S As:=⟨fun m hm=>vl_mul hx hy hb (hp.out m hm)⟩
theorem a_i{e:D}{x y:Operand}{size n cap:Nat}{k:IntKind}{i:Int}(hx:ev S x=some (.slice e.a n cap))(hy:ev S y=some (.int k i))(hb:Kn As (e.a=some ⟨e.b,e.o,none⟩))(hi:0≤i∧i<n)
 (hp:LA P r post (put S d (.v (.pointer (some ⟨e.b,e.o+i.toNat*size,none⟩)))) As):LA P (⟨d,none,.iaddr size x y⟩::r) post S As:=
 ⟨fun m hm=>vl_idx (by rw[hx,hb.out m hm]) hy hi (hp.out m hm)⟩
theorem a_l{n:Nat}{x:Operand}{b o:Nat}{v:Value}(hx:lc S x=some (.mm b o))(hv:Rd As b o v)(hp:LA P r post (put S d (.v v)) As):LA P (⟨d,none,.load true n x⟩::r) post S As:=
 ⟨fun m hm=>vl_ld hx (hv.out m hm) (hp.out m hm)⟩
theorem a_ls{n:Nat}{x:Operand}{b o:Nat}{vs:List Value}(hx:lc S x=some (.mm b o))(hv:Rs As b o n vs)(hp:LA P r post (put S d (.v (.agg vs.toArray))) As):LA P (⟨d,none,.load false n x⟩::r) post S As:=
 ⟨fun m hm=>vl_lds hx (hv.out m hm) (hp.out m hm)⟩
theorem a_al{z:List Value}(hp:LA P r post (putB S d (.box z)) As):LA P (⟨d,none,.alloc true z⟩::r) post S As:=⟨fun m hm=>vl_alloc (hp.out m hm)⟩
theorem a_bx{x:Operand}{v:Value}{cs:List Value}(hx:ev S x=some v)(hc:v.cells.toList=cs)(hp:LA P r post (putB S d (.box cs)) As):LA P (⟨d,none,.box true x⟩::r) post S As:=⟨fun m hm=>vl_box hx hc (hp.out m hm)⟩
theorem a_bl{len size:Nat}{z cs:List Value}{ps:List (Nat×Nat×Operand)}(hf:fillP S z ps=some cs)(hp:LA P r post (putB S d (.bsl cs len)) As):LA P (⟨d,none,.bslice true len size z ps⟩::r) post S As:=⟨fun _ hm=>vl_bsl hf (hp.out _ hm)⟩
theorem a_q{g:FuncId}{xs:List Operand}{args:List Value}{v:Value}(hx:evs S xs=some args)(hq:∀m,star As m→Qt P g args m v)(hp:LA P r post (put S d (.v v)) As):LA P (⟨d,none,.qcall g xs⟩::r) post S As:=⟨fun m hm=>vl_q hx (hq m hm) (hp.out m hm)⟩
theorem a_cq{g:FuncId}{xs:List Operand}{args:List Value}{v:Value}(hx:evs S xs=some args)(hq:∀m,star As m→Qt P g args m v)(hp:LA P r post (put S d (.v v)) As):LA P (⟨d,none,.call g xs⟩::r) post S As:=⟨fun m hm=>vl_cq hx (hq m hm) (hp.out m hm)⟩
theorem a_sw{n:Nat}{x y:Operand}{s o:Nat}{cs:List Value}{v:Value}(hx:lc S x=some (.bx s o))(hb:S s=.box cs)(hy:ev S y=some v)(hn:v.cells.size=n)(hpl:plainCells v.cells.toList=true)(hle:o+n≤cs.length)
 (hw:WrK cs o v.cells.toList (fun cs'=>LA P r post (upF S s (.box cs')) As)):LA P (⟨d,none,.store n x y⟩::r) post S As:=⟨fun m hm=>vl_stb hx hb hy hn hpl hle rfl (hw.out.out m hm)⟩
theorem a_st{n:Nat}{x y:Operand}{b o:Nat}{v:Value}{As':List Asr}(hx:lc S x=some (.mm b o))(hy:ev S y=some v)(hn:v.cells.size=n)(hpl:plainCells v.cells.toList=true)(hu:Up As b o v.cells.toList As')
 (hp:LA P r post S As'):LA P (⟨d,none,.store n x y⟩::r) post S As:=
 ⟨fun m hm=>by
   obtain⟨row,h1,h2,h3⟩:=hu.out m hm
   exact vl_stm hx h1 hy hn hpl (by simp only[Array.length_toList]at h2;omega) (hp.out _ h3)⟩
theorem a_gy{s:Nat}{w:Bool}{k:K}{b:Bool}(hs:S s=.v (.bool b))(hb:b=w)(hp:LA P (⟨d,none,k⟩::r) post S As):LA P (⟨d,some (s,w),k⟩::r) post S As:=⟨fun m hm=>vl_gy hs hb (hp.out m hm)⟩
theorem a_gn{s:Nat}{w:Bool}{k:K}{b:Bool}(hs:S s=.v (.bool b))(hb:b= !w)(hp:LA P r post (put S d (.v undef)) As):LA P (⟨d,some (s,w),k⟩::r) post S As:=⟨fun m hm=>vl_gn hs hb (hp.out m hm)⟩
theorem a_gu{s:Nat}{w:Bool}{k:K}(hs:S s=.v undef)(hp:LA P r post (put S d (.v undef)) As):LA P (⟨d,some (s,w),k⟩::r) post S As:=⟨fun m hm=>vl_gu hs (hp.out m hm)⟩
theorem a_gs{s:Nat}{wt:Bool}{k:K}{b:Bool}(hs:S s=.v (.bool b))(h1:b=true→LA P (⟨d,some (s,wt),k⟩::r) post (upF S s (.v (.bool true))) As)(h2:b=false→LA P (⟨d,some (s,wt),k⟩::r) post (upF S s (.v (.bool false))) As):LA P (⟨d,some (s,wt),k⟩::r) post S As:=by
 cases b
 ·have:=h2 rfl;rwa [upF_self hs]at this
 ·have:=h1 rfl;rwa [upF_self hs]at this
theorem a_gd{s:Nat}{wt:Bool}{k:K}{p:Prop}{_:Decidable p}(hs:S s=.v (.bool (decide p)))(h1:p→LA P (⟨d,some (s,wt),k⟩::r) post (upF S s (.v (.bool true))) As)(h2:¬p→LA P (⟨d,some (s,wt),k⟩::r) post (upF S s (.v (.bool false))) As):LA P (⟨d,some (s,wt),k⟩::r) post S As:=
 a_gs hs (fun h=>h1 (of_decide_eq_true h)) (fun h=>h2 (of_decide_eq_false h))
theorem a_ge{s:Nat}{wt:Bool}{k:K}{u w:Int}(hs:S s=.v (.bool (u==w)))(h1:u=w→LA P (⟨d,some (s,wt),k⟩::r) post (upF S s (.v (.bool true))) As)(h2:u≠w→LA P (⟨d,some (s,wt),k⟩::r) post (upF S s (.v (.bool false))) As):LA P (⟨d,some (s,wt),k⟩::r) post S As:=
 a_gs hs (fun h=>h1 (by simpa using h)) (fun h=>h2 (by simpa using h))
theorem a_gne{s:Nat}{wt:Bool}{k:K}{u w:Int}(hs:S s=.v (.bool (u !=w)))(h1:u≠w→LA P (⟨d,some (s,wt),k⟩::r) post (upF S s (.v (.bool true))) As)(h2:u=w→LA P (⟨d,some (s,wt),k⟩::r) post (upF S s (.v (.bool false))) As):LA P (⟨d,some (s,wt),k⟩::r) post S As:=
 a_gs hs (fun h=>h1 (by simpa using h)) (fun h=>h2 (by simpa using h))
theorem a_gnd{s:Nat}{wt:Bool}{k:K}{p:Prop}{_:Decidable p}(hs:S s=.v (.bool (!decide p)))(h1:¬p→LA P (⟨d,some (s,wt),k⟩::r) post (upF S s (.v (.bool true))) As)(h2:p→LA P (⟨d,some (s,wt),k⟩::r) post (upF S s (.v (.bool false))) As):LA P (⟨d,some (s,wt),k⟩::r) post S As:=
 a_gs hs (fun h=>h1 (by simpa using h)) (fun h=>h2 (by simpa using h))
theorem a_ps{s:Nat}{x y:Operand}{b:Bool}(hs:S s=.v (.bool b))(h1:b=true→LA P (⟨d,none,.pick (.tmp s) x y⟩::r) post (upF S s (.v (.bool true))) As)(h2:b=false→LA P (⟨d,none,.pick (.tmp s) x y⟩::r) post (upF S s (.v (.bool false))) As):LA P (⟨d,none,.pick (.tmp s) x y⟩::r) post S As:=by
 cases b
 ·have:=h2 rfl;rwa [upF_self hs]at this
 ·have:=h1 rfl;rwa [upF_self hs]at this
theorem a_pd{s:Nat}{x y:Operand}{p:Prop}{_:Decidable p}(hs:S s=.v (.bool (decide p)))(h1:p→LA P (⟨d,none,.pick (.tmp s) x y⟩::r) post (upF S s (.v (.bool true))) As)(h2:¬p→LA P (⟨d,none,.pick (.tmp s) x y⟩::r) post (upF S s (.v (.bool false))) As):LA P (⟨d,none,.pick (.tmp s) x y⟩::r) post S As:=
 a_ps hs (fun h=>h1 (of_decide_eq_true h)) (fun h=>h2 (of_decide_eq_false h))
theorem a_pe{s:Nat}{x y:Operand}{u w:Int}(hs:S s=.v (.bool (u==w)))(h1:u=w→LA P (⟨d,none,.pick (.tmp s) x y⟩::r) post (upF S s (.v (.bool true))) As)(h2:u≠w→LA P (⟨d,none,.pick (.tmp s) x y⟩::r) post (upF S s (.v (.bool false))) As):LA P (⟨d,none,.pick (.tmp s) x y⟩::r) post S As:=
 a_ps hs (fun h=>h1 (by simpa using h)) (fun h=>h2 (by simpa using h))
theorem a_pne{s:Nat}{x y:Operand}{u w:Int}(hs:S s=.v (.bool (u !=w)))(h1:u≠w→LA P (⟨d,none,.pick (.tmp s) x y⟩::r) post (upF S s (.v (.bool true))) As)(h2:u=w→LA P (⟨d,none,.pick (.tmp s) x y⟩::r) post (upF S s (.v (.bool false))) As):LA P (⟨d,none,.pick (.tmp s) x y⟩::r) post S As:=
 a_ps hs (fun h=>h1 (by simpa using h)) (fun h=>h2 (by simpa using h))
theorem a_pnd{s:Nat}{x y:Operand}{p:Prop}{_:Decidable p}(hs:S s=.v (.bool (!decide p)))(h1:¬p→LA P (⟨d,none,.pick (.tmp s) x y⟩::r) post (upF S s (.v (.bool true))) As)(h2:p→LA P (⟨d,none,.pick (.tmp s) x y⟩::r) post (upF S s (.v (.bool false))) As):LA P (⟨d,none,.pick (.tmp s) x y⟩::r) post S As:=
 a_ps hs (fun h=>h1 (by simpa using h)) (fun h=>h2 (by simpa using h))
theorem LA.ent{l:List I}{Bs:List Asr}(e:Ent As Bs)(h:LA P l post S Bs):LA P l post S As:=
 ⟨fun m hm=>by obtain⟨m',l',s⟩:=e.out m hm;exact h.at s l'⟩
end
end Go.Proofs.YtcjmodomfilagaaDoor.E
set_option maxRecDepth 100000
namespace Go.Proofs.YtcjmodomfilagaaDoor.E
open Go
theorem mixed:Tryd.prog.follows .mixedOrders=true:=Tryd.checked.mixed
noncomputable def e10:Env:=⟨Tryd.prog,[],15,[]⟩
abbrev z0(a0:Nat)(a1:Nat):I:=⟨some a0,none,.mov (.tmp a1)⟩
abbrev z5(a0:Nat)(a1:Nat)(a2:Nat):I:=⟨some a0,none,.faddr a1 (.tmp a2)⟩
abbrev z6(a0:Nat):I:=⟨some a0,none,.mov (.const (.bool false))⟩
abbrev z7(a0:Nat)(a1:Nat)(a2:Nat):I:=⟨some a0,none,.load true a1 (.tmp a2)⟩
abbrev zA(a0:Nat)(a1:Nat)(a2:Nat):I:=⟨some a0,none,.pick (.tmp a1) (.tmp a2) (.const (.bool false))⟩
abbrev zC(a0:Nat)(a1:Nat)(a2:Nat):I:=⟨none,none,.store a0 (.tmp a1) (.tmp a2)⟩
abbrev zD(a0:Nat)(a1:Nat)(a2:Nat):I:=⟨some a0,some (a1,true),.mov (.tmp a2)⟩
abbrev zF(a0:Nat)(a1:Nat):I:=⟨some a0,none,.box true (.tmp a1)⟩
abbrev zG(a0:Nat)(a1:Nat)(a2:Nat):I:=⟨some a0,none,.load false a1 (.tmp a2)⟩
noncomputable def c10:C:=
 .seq (.reg [z6 6]) (.seq (.reg [z0 7 0,z0 8 1,⟨some 9,none,.bin .geq (.tmp 7) (.tmp 8)⟩,z0 10 9,zD 11 10 0,zD 12 10 2,⟨some 13,some (10,true),.bin .leq (.tmp 11) (.tmp 12)⟩,zA 14 10 13,z0 6 14]) .ret)
theorem t10:Tryd.f10.body.bind (trC e10)=some c10:=by kernel_rfl
theorem r10:Tryd.f10.results.toList.mapM (trR Tryd.prog)=some [.tmp 6]:=by kernel_rfl
theorem fn10{args:List Value}{M:Mem}{post:Value→Mem→Prop}(hl:args.length≤15)(h:VC e10 c10 (fnQ [.tmp 6] post) (initS args 15) M):Fn Tryd.prog 10 args M post:=
 Fn.of' (E:=e10) Tryd.func10 t10 rfl r10 mixed hl h
end Go.Proofs.YtcjmodomfilagaaDoor.E
namespace Go.Proofs.YtcjmodomfilagaaDoor.E
open Go
open Classical
def aa(a:Act):Value:=.agg (av a).toArray
end Go.Proofs.YtcjmodomfilagaaDoor.E
namespace Go.Proofs.YtcjmodomfilagaaDoor.E
open Go
noncomputable def e5:Env:=⟨Tryd.prog,[1,2,3],20,[]⟩
noncomputable def c5:C:=
 .seq (.reg [zF 1 0,⟨some 2,none,.alloc true [.int .i64 0,.int .i64 0,.int .i64 0,.int .i64 0,.int .i64 0]⟩]) (.seq (.reg [⟨some 3,none,.alloc true [.int .i64 0,.int .i64 0,.int .i64 0,.int .i64 0,.int .i64 0]⟩]) (.seq (.reg [z5 4 0 1,z7 5 1 4,z5 6 0 3,zC 1 6 5]) (.seq (.reg [z5 7 1 1,z7 8 1 7,z5 9 1 3,zC 1 9 8]) (.seq (.reg [z5 10 2 1,z7 11 1 10,z5 12 2 3,zC 1 12 11]) (.seq (.reg [z5 13 3 1,
 z7 14 1 13,z5 15 3 3,zC 1 15 14]) (.seq (.reg [z5 16 4 1,z7 17 1 16,z5 18 4 3,zC 1 18 17]) (.seq (.reg [zG 19 5 3,zC 5 2 19]) .ret)))))))
theorem t5:Tryd.f5.body.bind (trC e5)=some c5:=by kernel_rfl
theorem r5:Tryd.f5.results.toList.mapM (trR Tryd.prog)=some [.cell 2 false 5]:=by kernel_rfl
theorem fn5{args:List Value}{M:Mem}{post:Value→Mem→Prop}(hl:args.length≤20)(h:VC e5 c5 (fnQ [.cell 2 false 5] post) (initS args 20) M):Fn Tryd.prog 5 args M post:=
 Fn.of' (E:=e5) Tryd.func5 t5 rfl r5 mixed hl h
end Go.Proofs.YtcjmodomfilagaaDoor.E
namespace Go.Proofs.YtcjmodomfilagaaDoor.E
open Go
open Classical
theorem toAct_q{M:Mem}{a:Act}:Qt Tryd.prog 5 [aa a] M (aa a):=by
 refine fn5 (by simp) ?_
 repeat' (first
  |(refine vl_add rfl rfl (by omega) ?_)
  |(refine vl_sub rfl rfl (by omega) ?_)
  |(refine vl_mul rfl rfl (by omega) ?_)
  |(refine vl_pure rfl ?_)
  |(refine vl_gy rfl rfl ?_)
  |(refine vl_gn rfl rfl ?_)
  |(refine vl_gu rfl ?_)
  |(refine vl_nil ?_)
  |(refine VC.seq ?_)
  |(refine VC.regV ?_)
  |(refine vl_idx rfl rfl (by omega) ?_)
  |(refine vl_alloc ?_)
  |(refine vl_stw rfl rfl rfl rfl (by first|rfl|assumption) (Nat.le_of_ble_eq_true rfl) ?_)
  |(refine sk_zero ?_)
  |(refine sk_succ ?_)
  |(refine wk_nil ?_)
  |(refine wk_cons ?_)
  |(refine vl_box rfl rfl ?_)
  |(refine vl_bsl rfl ?_)
  |(refine VC.dregV ?_)
  |(refine VC.block ?_)
  |(refine VC.ret ?_)
  |(refine VC.exit ?_)
  |(refine VC.skip ?_)
  |(refine seqQ_n ?_)
  |(refine seqQ_r ?_)
  |(refine seqQ_e ?_)
  |(refine blkQ_n ?_)
  |(refine blkQ_r ?_)
  |(refine blkQ_e ?_)
  |(refine blkQ_o rfl ?_)
  |(refine vl_gs rfl (fun hb=>?_) (fun hb=>?_))
  |(refine vl_ps rfl (fun hb=>?_) (fun hb=>?_))
  |(refine VC.cond _ rfl (fun hb=>?_) (fun hb=>?_)))
 refine fnQ_r rfl (Mem.le_refl _) (q_end ?_)
 rfl
structure CL (M:Mem) (v:Value) (ys:List CS):Prop where
 sl:Sl M 8 csv v ys
 ps:∀y,y∈ys→Sl M 6 pv y.s y.c.pairs
def fpC(v:Value)(ys:List CS):List Nat:=own v++ys.flatMap fun y=>own y.s
structure HS where
 H:Heap
 rs:Value
 cs:Value
 gs:Value
 xs:List CS
def HS.v(x:HS):Value:=.agg (hv x.H x.rs x.cs x.gs).toArray
def HS.fp(x:HS):List Nat:=own x.rs++(fpC x.cs x.xs++own x.gs)
structure RHV (M:Mem) (x:HS):Prop where
 regs:Sl M 3 wv x.rs x.H.regs
 cl:CL M x.cs x.xs
 eq:x.xs.map (·.c)=x.H.cells
 gray:Sl M 1 iv x.gs x.H.gray
structure CLR (M:Mem) (v:Value) (ys:List CS):Prop where
 sl:SlR M 8 csv v ys
 ps:∀y,y∈ys→SlR M 6 pv y.s y.c.pairs
structure RHVR (M:Mem) (x:HS):Prop where
 regs:SlR M 3 wv x.rs x.H.regs
 cl:CLR M x.cs x.xs
 eq:x.xs.map (·.c)=x.H.cells
 gray:SlR M 1 iv x.gs x.H.gray
structure WHV (M:Mem) (x:HS):Prop where
 r:RHV M x
 nd:x.fp.Nodup
theorem CL.le{M M':Mem}{v:Value}{ys:List CS}(h:CL M v ys)(l:M.le M'):CL M' v ys:=⟨h.sl.le l,fun y hy=>(h.ps y hy).le l⟩
theorem CLR.le{M M':Mem}{v:Value}{ys:List CS}(h:CLR M v ys)(l:M.le M'):CLR M' v ys:=⟨h.sl.le l,fun y hy=>(h.ps y hy).le l⟩
theorem RHVR.le{M M':Mem}{x:HS}(h:RHVR M x)(l:M.le M'):RHVR M' x:=⟨h.regs.le l,h.cl.le l,h.eq,h.gray.le l⟩
theorem RHV.le{M M':Mem}{x:HS}(h:RHV M x)(l:M.le M'):RHV M' x:=⟨h.regs.le l,h.cl.le l,h.eq,h.gray.le l⟩
theorem WHV.le{M M':Mem}{x:HS}(h:WHV M x)(l:M.le M'):WHV M' x:=⟨h.r.le l,h.nd⟩
end Go.Proofs.YtcjmodomfilagaaDoor.E
namespace Go.Proofs.YtcjmodomfilagaaDoor.E
open Go
def Formed(H:Heap)(w:Word):Prop:=(w.kind=0∧w.num=0∧w.at_=0)∨(w.kind=1∧w.at_=0)∨(w.kind=2∧w.num=0∧0≤w.at_∧w.at_<H.cells.length)
def Bare(c:Cell):Prop:=c.kind=0∧c.weak=0∧c.last=0∧c.born=0∧c.color=0∧c.pairs=[]
def Doomed(H:Heap)(i:Int):Prop:=H.phase=3∧(H.getC i).state=1∧(H.getC i).color=0∧H.hand≤i
def Marking(H:Heap):Prop:=H.phase=1∨H.phase=2
def Mended(H:Heap)(i k:Int):Prop:=H.phase≠4∧(H.phase=5→i<H.hand∨i=H.hand∧k<H.sub)
def Root(c:Cell):Prop:=c.state=1∧(c.last=1∨c.last=2)
def LeadsWell(H:Heap)(w:Word)(moved:Prop):Prop:=w.kind=2→((H.getC w.at_).state=1∧¬Doomed H w.at_)∨((H.getC w.at_).state=2∧moved)
def White(H:Heap)(w:Word):Prop:=w.kind=2∧(H.getC w.at_).color=0
structure R1 (H:Heap):Prop where
 room:1≤H.room∧H.room≤4000
 regs:H.regs.length=16
 cells:(H.cells.length:Int)≤2*H.room
 gray:H.gray.length≤H.cells.length
 born:0≤H.born∧H.born≤1000000000
 rounds:0≤H.rounds∧H.rounds≤1000000000
 forced:0≤H.forced∧H.forced≤1000000000
 per:0≤H.per∧H.per≤64
 start:0≤H.start∧H.start≤4000
 phase:0≤H.phase∧H.phase≤6
 hand:0≤H.hand∧H.hand≤H.cells.length
 sub:0≤H.sub∧H.sub≤200
def UsedOk(H:Heap)(c:Cell):Prop:=c.state=1∧(0≤c.kind∧c.kind≤255)∧(0≤c.weak∧c.weak≤3)∧(0≤c.last∧c.last≤3)∧(1≤c.born∧c.born≤H.born)∧(0≤c.color∧c.color≤2)∧c.to=0∧c.pairs.length≤200
def MovedOk(H:Heap)(i:Int)(c:Cell):Prop:=c.state=2∧Bare c∧4≤H.phase∧(0≤c.to∧c.to<i)∧(H.getC c.to).state=1∧(H.phase=4→∀k:Int,0≤k→k<c.to→(H.getC k).state≠0)
structure R2 (H:Heap):Prop where
 each:∀(i:Nat) c,H.cells[i]?=some c→(c.state=0∧Bare c∧c.to=0)∨MovedOk H i c∨UsedOk H c
 born:∀(i j:Nat) c d,H.cells[i]?=some c→H.cells[j]?=some d→i<j→c.state=1→d.state=1→c.born≠d.born
 to:∀(i j:Nat) c d,H.cells[i]?=some c→H.cells[j]?=some d→i<j→c.state=2→d.state=2→c.to≠d.to
def Cell.units(c:Cell):Int:=if c.state=1 then 1+c.pairs.length else 0
def unitsN(cs:List Cell):Int:=(cs.map Cell.units).sum
def R3(H:Heap):Prop:=unitsN H.cells=H.used∧H.used≤H.room
structure R4 (H:Heap):Prop where
 regs:∀w,w∈H.regs→Formed H w∧LeadsWell H w False
 roots:∀(i:Nat) c,H.cells[i]?=some c→Doomed H i→¬Root c
 pairs:∀(i:Nat) c,H.cells[i]?=some c→∀(k:Nat) p,c.pairs[k]?=some p→Formed H p.key∧Formed H p.val∧(¬Doomed H i→LeadsWell H p.key (¬Mended H i k)∧LeadsWell H p.val (¬Mended H i k))
structure R5 (H:Heap):Prop where
 mark:Marking H→H.gray.Nodup∧(∀g,g∈H.gray→0≤g∧g<H.cells.length∧(H.getC g).state=1∧(H.getC g).color=1)∧∀(i:Nat) c,H.cells[i]?=some c→c.color=1→(i:Int)∈H.gray
 else_:¬Marking H→H.gray=[]∧∀(i:Nat) c,H.cells[i]?=some c→c.color≠1∧(c.color=2→H.phase=3∧H.hand≤i)
def R6(H:Heap):Prop:=
 if H.phase=0∨H.phase=4 then H.hand=0∧H.sub=0
 else if H.phase=2 then H.hand=0∧(match H.gray with|[]=>H.sub=0|g::_=>H.sub≤(H.getC g).pairs.length)
 else if H.phase=5 then(if H.hand<H.cells.length∧(H.getC H.hand).state=1 then H.sub≤(H.getC H.hand).pairs.length else H.sub=0)
 else H.sub=0
def scanned(H:Heap)(i:Int)(c:Cell):Int:=
 if c.color=2 then c.pairs.length else if H.phase=2∧H.gray.head?=some i then H.sub else 0
def R7(H:Heap):Prop:=Marking H→∀(i:Nat) c,H.cells[i]?=some c→(Root c→c.color=0→H.phase≠2∧H.hand≤i)∧∀(k:Nat) p,c.pairs[k]?=some p→(k:Int)<scanned H i c→¬White H p.key∧¬White H p.val
def R8(H:Heap):Prop:=H.phase=6→∀(i:Nat) c,H.cells[i]?=some c→H.hand≤i→c.state≠2
open Classical in
structure Sound (H:Heap):Prop where
 r1:R1 H
 r2:R2 H
 r3:R3 H
 r4:R4 H
 r5:R5 H
 r6:R6 H
 r7:R7 H
 r8:R8 H
theorem star_perm{As Bs:List Asr}(h:As.Perm Bs):∀{m:Mem},star As m→star Bs m:=by
 induction h with
 |nil=>exact fun h=>h
 |cons A _ ih=>exact fun h=>star_cons_mono h (fun _ h=>h) (fun _ h=>ih h)
 |swap A B l=>exact fun h=>star_swap h
 |trans _ _ ih1 ih2=>exact fun h=>ih2 (ih1 h)
theorem Ent.cons{A:Asr}{r s:List Asr}(h:Ent r s):Ent (A::r) (A::s):=⟨fun m ⟨a,b,d,e,hA,hr⟩=>by
 subst e
 obtain⟨b',l,s'⟩:=h.out b hr
 have d':Disj a b':=fun x=>by
  rcases d x with h|h
  ·exact .inl h
  ·exact .inr (le_none l h)
 refine⟨a.un b',?_,a,b',d',rfl,hA,s'⟩
 intro x k hk
 cases ha:a x with
 |some k'=>rw[un_l ha]at hk;cases hk;exact un_l ha
 |none=>rw[un_n ha]at hk;exact un_r d (l x k hk)⟩
def CS.d(y:CS):D:=⟨y.sa,y.cap⟩
def prA(ys:List CS):Asr:=star (ys.map fun y=>slA 6 pv y.d y.c.pairs)
def clA(cd:D)(ys:List CS):Asr:=star [slA 8 csv cd ys,prA ys]
theorem erase_perm{α:Type}:∀{l:List α} {i:Nat} (h:i<l.length),(l[i]::l.eraseIdx i).Perm l
 |a::l,0,_=>.refl _
 |a::l,i+1,h=>by
  simp only[List.getElem_cons_succ,List.eraseIdx_cons_succ]
  exact(List.Perm.swap _ _ _).trans (.cons a (erase_perm (by simpa using h)))
theorem pr_out{ys:List CS}{i:Nat}{y:CS}(hi:ys[i]?=some y){m:Mem}(h:prA ys m):star [slA 6 pv y.d y.c.pairs,prA (ys.eraseIdx i)] m:=by
 obtain⟨hlt,e⟩:=List.getElem?_eq_some_iff.1 hi
 have hp:=(erase_perm hlt).symm.map (fun y:CS=>slA 6 pv y.d y.c.pairs)
 have:=star_perm hp h
 rw[e]at this
 obtain⟨a,b,d,e1,h1,h2⟩:=this
 exact⟨a,b,d,e1,h1,b,emp,disj_emp _,(un_emp _).symm,h2,rfl⟩
theorem pr_in{ys:List CS}{i:Nat}{y':CS}(hi:i<ys.length){m:Mem}(h:star [slA 6 pv y'.d y'.c.pairs,prA (ys.eraseIdx i)] m):prA (ys.set i y') m:=by
 have hlt:i<(ys.set i y').length:=by simpa using hi
 have hp:=(erase_perm hlt).map (fun y:CS=>slA 6 pv y.d y.c.pairs)
 rw[List.getElem_set_self,List.eraseIdx_set_eq]at hp
 refine star_perm hp ?_
 obtain⟨a,b,d,e1,h1,b',e',d2,e2,h2,h3⟩:=h
 have h3:e'=emp:=h3
 subst h3
 rw[un_emp]at e2;subst e2
 exact⟨a,b,d,e1,h1,h2⟩
theorem pr_set{ys:List CS}{i:Nat}{y y':CS}(hi:ys[i]?=some y)(h1:y'.d=y.d)(h2:y'.c.pairs=y.c.pairs):prA (ys.set i y')=prA ys:=by
 unfold prA
 congr 1
 rw[List.map_set]
 apply List.ext_getElem?
 intro j
 rw[List.getElem?_set]
 split
 ·rename_i e;subst e
  split
  ·rw[List.getElem?_map,hi,h1,h2];rfl
  ·rename_i hlt
   have:=(List.getElem?_eq_some_iff.1 hi).1
   simp at hlt;omega
 ·rfl
theorem slA_congr{α:Type}{f:α→List Value}{size:Nat}{d:D}{xs ys:List α}(h1:xs.flatMap f=ys.flatMap f)(h2:xs.length=ys.length):slA size f d xs=slA size f d ys:=by
 have hz:(xs=[]↔ys=[]):=by rw[←List.length_eq_zero_iff,←List.length_eq_zero_iff,h2]
 funext m
 unfold slA Sl
 rw[h1,h2]
 simp only[hz]
theorem flat_set{α:Type}{f:α→List Value}{xs:List α}{i:Nat}{x x':α}(hi:xs[i]?=some x)(h:f x'=f x):(xs.set i x').flatMap f=xs.flatMap f:=by
 induction xs generalizing i with
 |nil=>simp at hi
 |cons a r ih=>
  cases i with
  |zero=>simp only[List.getElem?_cons_zero,Option.some.injEq]at hi;subst hi;simp[h]
  |succ i=>simp only[List.getElem?_cons_succ]at hi;simp[ih hi]
theorem csv_len(y:CS):(csv y).length=8:=rfl
theorem pv_len(p:Pair):(pv p).length=6:=rfl
theorem wv_len(w:Word):(wv w).length=3:=rfl
theorem iv_len(n:Int):(iv n).length=1:=rfl
theorem bv_len(n:Bool):(bv n).length=1:=rfl
section
variable {cd:D} {ys:List CS} {i:Nat} {y:CS}
theorem clA_l{m:Mem}(h:clA cd ys m):∃a,a.le m∧slA 8 csv cd ys a:=by
 obtain⟨a,b,d,e,h1,_⟩:=h
 exact⟨a,by rw[e];exact le_l _ _,h1⟩
theorem clA_p{m:Mem}(h:clA cd ys m)(hi:ys[i]?=some y):∃a,a.le m∧slA 6 pv y.d y.c.pairs a:=by
 obtain⟨a,b,d,e,_,b',e',d2,e2,h2,h3⟩:=h
 have h3:e'=emp:=h3
 subst h3
 rw[un_emp]at e2;subst e2
 obtain⟨a',c,d3,e3,h4,_⟩:=pr_out hi h2
 exact⟨a',by rw[e,e3];exact Mem.le_trans (le_l _ _) (le_r (by rw[e3]at d;exact d)),h4⟩
def csw(y:CS):List Value:=[.int .i64 y.c.state,.int .i64 y.c.kind,.int .i64 y.c.weak,.int .i64 y.c.last,.int .i64 y.c.born,.int .i64 y.c.color,.int .i64 y.c.to,.slice y.d.a y.c.pairs.length y.d.cap]
theorem rs_cl(hi:ys[i]?=some y):RsA (clA cd ys) cd.b (cd.o+i*8) 8 (csw y):=⟨fun m h=>by
 obtain⟨a,l,h1⟩:=clA_l h;exact cells_le l ((rs_sl csv_len hi).out a h1)⟩
theorem rd_cl{j:Nat}{v:Value}(hi:ys[i]?=some y)(hj:(csw y)[j]?=some v):RdA (clA cd ys) cd.b (cd.o+i*8+j) v:=⟨fun m h=>cells_cell ((rs_cl hi).out m h) hj⟩
theorem kn_cl(hi:ys[i]?=some y):KnA (clA cd ys) (cd.a=some ⟨cd.b,cd.o,none⟩):=⟨fun m h=>by
 obtain⟨a,l,h1⟩:=clA_l h;exact D.som h1 hi⟩
theorem rs_cp{k:Nat}{p:Pair}(hi:ys[i]?=some y)(hk:y.c.pairs[k]?=some p):RsA (clA cd ys) y.d.b (y.d.o+k*6) 6 (pv p):=⟨fun m h=>by
 obtain⟨a,l,h1⟩:=clA_p h hi;exact cells_le l ((rs_sl pv_len hk).out a h1)⟩
theorem rs_cpp{k j n:Nat}{p:Pair}{ws:List Value}(hi:ys[i]?=some y)(hk:y.c.pairs[k]?=some p)(hj:j+n≤6)(hw:((pv p).drop j).take n=ws):RsA (clA cd ys) y.d.b (y.d.o+k*6+j) n ws:=⟨fun m h=>by
 obtain⟨a,l,h1⟩:=clA_p h hi;exact cells_le l ((rs_slp pv_len hk hj hw).out a h1)⟩
theorem rd_cp{k j:Nat}{p:Pair}{v:Value}(hi:ys[i]?=some y)(hk:y.c.pairs[k]?=some p)(hj:(pv p)[j]?=some v):RdA (clA cd ys) y.d.b (y.d.o+k*6+j) v:=⟨fun m h=>cells_cell ((rs_cp hi hk).out m h) hj⟩
theorem kn_cp{k:Nat}{p:Pair}(hi:ys[i]?=some y)(hk:y.c.pairs[k]?=some p):KnA (clA cd ys) (y.d.a=some ⟨y.d.b,y.d.o,none⟩):=⟨fun m h=>by
 obtain⟨a,l,h1⟩:=clA_p h hi;exact D.som h1 hk⟩
theorem star2{A B:Asr}{m:Mem}:star [A,B] m↔∃a b,Disj a b∧m=a.un b∧A a∧B b:=by
 constructor
 ·rintro⟨a,b,d,e,h1,b',e',d2,e2,h2,h3⟩
  have h3:e'=emp:=h3
  subst h3
  rw[un_emp]at e2;subst e2
  exact⟨a,b,d,e,h1,h2⟩
 ·rintro⟨a,b,d,e,h1,h2⟩
  exact⟨a,b,d,e,h1,b,emp,disj_emp _,(un_emp _).symm,h2,rfl⟩
theorem up_cl{j:Nat}{y':CS}{vs:List Value}(hi:ys[i]?=some y)(hj:j+vs.length≤8)(hf:csv y'=wr (csv y) j vs)(hd:y'.d=y.d)(hp:y'.c.pairs=y.c.pairs):UpA (clA cd ys) cd.b (cd.o+i*8+j) vs (clA cd (ys.set i y')):=⟨fun m h=>by
 obtain⟨a,b,d,rfl,h1,h2⟩:=star2.1 h
 obtain⟨row,g1,g2,g3⟩:=(up_sl csv_len hi hj hf).out a h1
 have hb:b cd.b=none:=by
  rcases d cd.b with e|e
  ·rw[g1]at e;cases e
  ·exact e
 refine⟨row,un_l g1,g2,?_⟩
 rw[un_upd_l]
 exact star2.2 ⟨_,b,d.upd _ hb,rfl,g3,by rw[pr_set hi hd hp];exact h2⟩⟩
theorem up_cp{k j:Nat}{p p':Pair}{vs:List Value}(hi:ys[i]?=some y)(hk:y.c.pairs[k]?=some p)(hj:j+vs.length≤6)(hf:pv p'=wr (pv p) j vs):
 UpA (clA cd ys) y.d.b (y.d.o+k*6+j) vs (clA cd (ys.set i {y with c:={y.c with pairs:=y.c.pairs.set k p'}})):=⟨fun m h=>by
 have hlt:=(List.getElem?_eq_some_iff.1 hi).1
 obtain⟨a,b,d,rfl,h1,h2⟩:=star2.1 h
 obtain⟨b1,b2,d2,rfl,k1,k2⟩:=star2.1 (pr_out hi h2)
 obtain⟨row,g1,g2,g3⟩:=(up_sl pv_len hk hj hf).out b1 k1
 have hb2:b2 y.d.b=none:=by
  rcases d2 y.d.b with e|e
  ·rw[g1]at e;cases e
  ·exact e
 have ha:a y.d.b=none:=by
  rcases d y.d.b with e|e
  ·exact e
  ·rw[un_l g1]at e;cases e
 refine⟨row,un_r d (un_l g1),g2,?_⟩
 rw[un_upd_r _ ha,un_upd_l]
 refine star2.2 ⟨a,_,?_,rfl,?_,pr_in hlt (star2.2 ⟨_,b2,d2.upd _ hb2,rfl,g3,k2⟩)⟩
 ·rw[←un_upd_l]
  exact((Disj.symm d).upd _ ha).symm
 ·rw[slA_congr (ys:=ys) (flat_set hi (by unfold csv cv;simp)) (by simp)];exact h1⟩
end
structure HX where
 room:Int
 used:Int
 born:Int
 regs:List Word
 xs:List CS
 phase:Int
 hand:Int
 sub:Int
 gray:List Int
 per:Int
 start:Int
 rounds:Int
 forced:Int
 rd:D
 cd:D
 gd:D
def HX.H(x:HX):Heap:=⟨x.room,x.used,x.born,x.regs,x.xs.map (·.c),x.phase,x.hand,x.sub,x.gray,x.per,x.start,x.rounds,x.forced⟩
structure Hdr where
 room:Int
 used:Int
 born:Int
 rd:D
 nr:Nat
 cd:D
 nc:Nat
 phase:Int
 hand:Int
 sub:Int
 gd:D
 ng:Nat
 per:Int
 start:Int
 rounds:Int
 forced:Int
def Hdr.row(h:Hdr):List Value:=[.int .i64 h.room,.int .i64 h.used,.int .i64 h.born,.slice h.rd.a h.nr h.rd.cap,.slice h.cd.a h.nc h.cd.cap,.int .i64 h.phase,.int .i64 h.hand,.int .i64 h.sub,.slice h.gd.a h.ng h.gd.cap,.int .i64 h.per,.int .i64 h.start,.int .i64 h.rounds,.int .i64 h.forced]
def hdA(a:Nat)(h:Hdr):Asr:=bx a h.row
def HX.hdr(x:HX):Hdr:=⟨x.room,x.used,x.born,x.rd,x.regs.length,x.cd,x.xs.length,x.phase,x.hand,x.sub,x.gd,x.gray.length,x.per,x.start,x.rounds,x.forced⟩
abbrev HX.row(x:HX):List Value:=x.hdr.row
abbrev HX.v(x:HX):Value:=.agg x.row.toArray
abbrev HX.body(x:HX):List Asr:=[slA 3 wv x.rd x.regs,clA x.cd x.xs,slA 1 iv x.gd x.gray]
abbrev hp(a:Nat)(x:HX):List Asr:=[hdA a x.hdr,slA 3 wv x.rd x.regs,clA x.cd x.xs,slA 1 iv x.gd x.gray]
def HX.hs(x:HX):HS:=⟨x.H,.slice x.rd.a x.regs.length x.rd.cap,.slice x.cd.a x.xs.length x.cd.cap,.slice x.gd.a x.gray.length x.gd.cap,x.xs⟩
theorem HX.len(x:HX):x.H.cells.length=x.xs.length:=by simp[HX.H]
theorem body_r{x:HX}{m:Mem}(h:star x.body m):RHV m x.hs:=by
 obtain⟨a,r,d,rfl,h1,b,r2,d2,rfl,h2,c,r3,d3,rfl,h3,_⟩:=h
 have l1:=le_l a (b.un (c.un r3))
 have l2:b.le (a.un (b.un (c.un r3))):=Mem.le_trans (le_l _ _) (le_r d)
 have l3:c.le (a.un (b.un (c.un r3))):=Mem.le_trans (le_l _ _) (Mem.le_trans (le_r d2) (le_r d))
 refine⟨h1.1.le l1,⟨?_,fun y hy=>?_⟩,rfl,h3.1.le l3⟩
 ·obtain⟨b',l,k⟩:=clA_l h2;exact(k.1.le l).le l2
 ·obtain⟨i,hi⟩:=List.getElem?_of_mem hy
  obtain⟨b',l,k⟩:=clA_p h2 hi;exact(k.1.le l).le l2
noncomputable def e8:Env:=⟨Tryd.prog,[],15,[]⟩
noncomputable def c8:C:=
 .seq (.reg [z6 6]) (.seq (.reg [z0 7 0,z0 8 1,⟨some 9,none,.bin .geq (.tmp 7) (.tmp 8)⟩,z0 10 9,zD 11 10 0,zD 12 10 2,⟨some 13,some (10,true),.bin .leq (.tmp 11) (.tmp 12)⟩,zA 14 10 13,z0 6 14]) .ret)
theorem t8:Tryd.f8.body.bind (trC e8)=some c8:=by kernel_rfl
theorem r8:Tryd.f8.results.toList.mapM (trR Tryd.prog)=some [.tmp 6]:=by kernel_rfl
theorem fn8{args:List Value}{M:Mem}{post:Value→Mem→Prop}(hl:args.length≤15)(h:VC e8 c8 (fnQ [.tmp 6] post) (initS args 15) M):Fn Tryd.prog 8 args M post:=
 Fn.of' (E:=e8) Tryd.func8 t8 rfl r8 mixed hl h
end Go.Proofs.YtcjmodomfilagaaDoor.E
namespace Go.Proofs.YtcjmodomfilagaaDoor.E
open Go
open Classical
theorem impl.withinQ{M:Mem}{a lo hi:Int}:Qt Tryd.prog 10 [.int .i64 a,.int .i64 lo,.int .i64 hi] M (.bool (decide (lo≤a∧a≤hi))):=by
 refine fn10 (by simp) ?_
 repeat' (first
  |(refine vl_add rfl rfl (by omega) ?_)
  |(refine vl_sub rfl rfl (by omega) ?_)
  |(refine vl_mul rfl rfl (by omega) ?_)
  |(refine vl_pure rfl ?_)
  |(refine vl_gy rfl rfl ?_)
  |(refine vl_gn rfl rfl ?_)
  |(refine vl_gu rfl ?_)
  |(refine vl_nil ?_)
  |(refine VC.seq ?_)
  |(refine VC.regV ?_)
  |(refine vl_idx rfl rfl (by omega) ?_)
  |(refine vl_alloc ?_)
  |(refine vl_stw rfl rfl rfl rfl (by first|rfl|assumption) (Nat.le_of_ble_eq_true rfl) ?_)
  |(refine sk_zero ?_)
  |(refine sk_succ ?_)
  |(refine wk_nil ?_)
  |(refine wk_cons ?_)
  |(refine vl_box rfl rfl ?_)
  |(refine vl_bsl rfl ?_)
  |(refine VC.dregV ?_)
  |(refine VC.block ?_)
  |(refine VC.ret ?_)
  |(refine VC.exit ?_)
  |(refine VC.skip ?_)
  |(refine seqQ_n ?_)
  |(refine seqQ_r ?_)
  |(refine seqQ_e ?_)
  |(refine blkQ_n ?_)
  |(refine blkQ_r ?_)
  |(refine blkQ_e ?_)
  |(refine blkQ_o rfl ?_)
  |(refine vl_gs rfl (fun hb=>?_) (fun hb=>?_))
  |(refine vl_ps rfl (fun hb=>?_) (fun hb=>?_))
  |(refine VC.cond _ rfl (fun hb=>?_) (fun hb=>?_)))
 all_goals (refine fnQ_r rfl (Mem.le_refl _) (q_end ?_))
 all_goals (simp_all<;>omega)
theorem spec.l1inQ{M:Mem}{a lo hi:Int}:Qt Tryd.prog 8 [.int .i64 a,.int .i64 lo,.int .i64 hi] M (.bool (decide (lo≤a∧a≤hi))):=by
 refine fn8 (by simp) ?_
 repeat' (first
  |(refine vl_add rfl rfl (by omega) ?_)
  |(refine vl_sub rfl rfl (by omega) ?_)
  |(refine vl_mul rfl rfl (by omega) ?_)
  |(refine vl_pure rfl ?_)
  |(refine vl_gy rfl rfl ?_)
  |(refine vl_gn rfl rfl ?_)
  |(refine vl_gu rfl ?_)
  |(refine vl_nil ?_)
  |(refine VC.seq ?_)
  |(refine VC.regV ?_)
  |(refine vl_idx rfl rfl (by omega) ?_)
  |(refine vl_alloc ?_)
  |(refine vl_stw rfl rfl rfl rfl (by first|rfl|assumption) (Nat.le_of_ble_eq_true rfl) ?_)
  |(refine sk_zero ?_)
  |(refine sk_succ ?_)
  |(refine wk_nil ?_)
  |(refine wk_cons ?_)
  |(refine vl_box rfl rfl ?_)
  |(refine vl_bsl rfl ?_)
  |(refine VC.dregV ?_)
  |(refine VC.block ?_)
  |(refine VC.ret ?_)
  |(refine VC.exit ?_)
  |(refine VC.skip ?_)
  |(refine seqQ_n ?_)
  |(refine seqQ_r ?_)
  |(refine seqQ_e ?_)
  |(refine blkQ_n ?_)
  |(refine blkQ_r ?_)
  |(refine blkQ_e ?_)
  |(refine blkQ_o rfl ?_)
  |(refine vl_gs rfl (fun hb=>?_) (fun hb=>?_))
  |(refine vl_ps rfl (fun hb=>?_) (fun hb=>?_))
  |(refine VC.cond _ rfl (fun hb=>?_) (fun hb=>?_)))
 all_goals (refine fnQ_r rfl (Mem.le_refl _) (q_end ?_))
 all_goals (simp_all<;>omega)
structure PH (M:Mem) (a:Nat) (x:HS):Prop where
 blk:M a=some (.row (hv x.H x.rs x.cs x.gs))
 v:RHV M x
theorem PH.le{M M':Mem}{a:Nat}{x:HS}(h:PH M a x)(l:M.le M'):PH M' a x:=⟨l _ _ h.blk,h.v.le l⟩
theorem PH.at{M:Mem}{a:Nat}{x:HS}(h:PH M a x)(j:Nat):cell M a j=(hv x.H x.rs x.cs x.gs)[j]?:=row_cell h.blk j
theorem RHV.len{M:Mem}{x:HS}(h:RHV M x):x.xs.length=x.H.cells.length:=by rw[←h.eq];simp
theorem Formed.at{H:Heap}{w:Word}(h:Formed H w)(hk:w.kind=2):0≤w.at_∧w.at_<H.cells.length:=by
 rcases h with h|h|h
 ·omega
 ·omega
 ·exact⟨h.2.2.1,h.2.2.2⟩
def Heap.lead(H:Heap)(w:Word):Word:=if w.kind=2∧(H.getC w.at_).state=2 then⟨2,0,(H.getC w.at_).to⟩else w
end Go.Proofs.YtcjmodomfilagaaDoor.E
set_option maxHeartbeats 4000000
namespace Go.Proofs.YtcjmodomfilagaaDoor.E
open Go
theorem rd_hd{a j:Nat}{h:Hdr}{v:Value}(e:h.row[j]?=some v):RdA (hdA a h) a j v:=rd_bx e
theorem rs_hd{a:Nat}{h:Hdr}:RsA (hdA a h) a 0 13 h.row:=rs_bx (by simp[Hdr.row]) rfl
theorem up_hd{a j:Nat}{h h':Hdr}{vs:List Value}(hj:j+vs.length≤13)(e:WrK h.row j vs (fun c=>h'.row=c)):UpA (hdA a h) a j vs (hdA a h'):=
 up_bx (by simpa [Hdr.row]using hj) ⟨by unfold hdA;rw[e.out]⟩
def Hdr.s_room(h:Hdr)(v:Int):Hdr:={h with room:=v}
theorem u_room{a:Nat}{h:Hdr}{v:Int}:UpA (hdA a h) a 0 [.int .i64 v] (hdA a (h.s_room v)):=up_hd (by simp) ⟨rfl⟩
def Hdr.s_used(h:Hdr)(v:Int):Hdr:={h with used:=v}
theorem u_used{a:Nat}{h:Hdr}{v:Int}:UpA (hdA a h) a 1 [.int .i64 v] (hdA a (h.s_used v)):=up_hd (by simp) ⟨rfl⟩
def Hdr.s_born(h:Hdr)(v:Int):Hdr:={h with born:=v}
theorem u_born{a:Nat}{h:Hdr}{v:Int}:UpA (hdA a h) a 2 [.int .i64 v] (hdA a (h.s_born v)):=up_hd (by simp) ⟨rfl⟩
def Hdr.s_phase(h:Hdr)(v:Int):Hdr:={h with phase:=v}
theorem u_phase{a:Nat}{h:Hdr}{v:Int}:UpA (hdA a h) a 5 [.int .i64 v] (hdA a (h.s_phase v)):=up_hd (by simp) ⟨rfl⟩
def Hdr.s_hand(h:Hdr)(v:Int):Hdr:={h with hand:=v}
theorem u_hand{a:Nat}{h:Hdr}{v:Int}:UpA (hdA a h) a 6 [.int .i64 v] (hdA a (h.s_hand v)):=up_hd (by simp) ⟨rfl⟩
def Hdr.s_sub(h:Hdr)(v:Int):Hdr:={h with sub:=v}
theorem u_sub{a:Nat}{h:Hdr}{v:Int}:UpA (hdA a h) a 7 [.int .i64 v] (hdA a (h.s_sub v)):=up_hd (by simp) ⟨rfl⟩
def Hdr.s_per(h:Hdr)(v:Int):Hdr:={h with per:=v}
theorem u_per{a:Nat}{h:Hdr}{v:Int}:UpA (hdA a h) a 9 [.int .i64 v] (hdA a (h.s_per v)):=up_hd (by simp) ⟨rfl⟩
def Hdr.s_start(h:Hdr)(v:Int):Hdr:={h with start:=v}
theorem u_start{a:Nat}{h:Hdr}{v:Int}:UpA (hdA a h) a 10 [.int .i64 v] (hdA a (h.s_start v)):=up_hd (by simp) ⟨rfl⟩
def Hdr.s_rounds(h:Hdr)(v:Int):Hdr:={h with rounds:=v}
theorem u_rounds{a:Nat}{h:Hdr}{v:Int}:UpA (hdA a h) a 11 [.int .i64 v] (hdA a (h.s_rounds v)):=up_hd (by simp) ⟨rfl⟩
def Hdr.s_forced(h:Hdr)(v:Int):Hdr:={h with forced:=v}
theorem u_forced{a:Nat}{h:Hdr}{v:Int}:UpA (hdA a h) a 12 [.int .i64 v] (hdA a (h.s_forced v)):=up_hd (by simp) ⟨rfl⟩
def Hdr.s_rd(h:Hdr)(d:D)(n:Nat):Hdr:={h with rd:=d,nr:=n}
theorem u_rd{a:Nat}{h:Hdr}{d:D}{n:Nat}:UpA (hdA a h) a 3 [.slice d.a n d.cap] (hdA a (h.s_rd d n)):=up_hd (by simp) ⟨rfl⟩
def Hdr.s_cd(h:Hdr)(d:D)(n:Nat):Hdr:={h with cd:=d,nc:=n}
theorem u_cd{a:Nat}{h:Hdr}{d:D}{n:Nat}:UpA (hdA a h) a 4 [.slice d.a n d.cap] (hdA a (h.s_cd d n)):=up_hd (by simp) ⟨rfl⟩
def Hdr.s_gd(h:Hdr)(d:D)(n:Nat):Hdr:={h with gd:=d,ng:=n}
theorem u_gd{a:Nat}{h:Hdr}{d:D}{n:Nat}:UpA (hdA a h) a 8 [.slice d.a n d.cap] (hdA a (h.s_gd d n)):=up_hd (by simp) ⟨rfl⟩
def CS.s_state(y:CS)(v:Int):CS:={y with c:={y.c with state:=v}}
def CS.s_kind(y:CS)(v:Int):CS:={y with c:={y.c with kind:=v}}
def CS.s_weak(y:CS)(v:Int):CS:={y with c:={y.c with weak:=v}}
def CS.s_last(y:CS)(v:Int):CS:={y with c:={y.c with last:=v}}
def CS.s_born(y:CS)(v:Int):CS:={y with c:={y.c with born:=v}}
def CS.s_color(y:CS)(v:Int):CS:={y with c:={y.c with color:=v}}
def CS.s_to(y:CS)(v:Int):CS:={y with c:={y.c with to:=v}}
def CS.s_pair(y:CS)(k:Nat)(p:Pair):CS:={y with c:={y.c with pairs:=y.c.pairs.set k p}}
def Pair.s_key(p:Pair)(w:Word):Pair:={p with key:=w}
def Pair.s_val(p:Pair)(w:Word):Pair:={p with val:=w}
section
variable {cd:D} {ys:List CS} {i:Nat} {y:CS} {v:Int}
theorem u_cstate(hi:ys[i]?=some y):UpA (clA cd ys) cd.b (cd.o+i*8+0) [.int .i64 v] (clA cd (ys.set i (y.s_state v))):=up_cl hi (by simp) rfl rfl rfl
theorem u_ckind(hi:ys[i]?=some y):UpA (clA cd ys) cd.b (cd.o+i*8+1) [.int .i64 v] (clA cd (ys.set i (y.s_kind v))):=up_cl hi (by simp) rfl rfl rfl
theorem u_cweak(hi:ys[i]?=some y):UpA (clA cd ys) cd.b (cd.o+i*8+2) [.int .i64 v] (clA cd (ys.set i (y.s_weak v))):=up_cl hi (by simp) rfl rfl rfl
theorem u_clast(hi:ys[i]?=some y):UpA (clA cd ys) cd.b (cd.o+i*8+3) [.int .i64 v] (clA cd (ys.set i (y.s_last v))):=up_cl hi (by simp) rfl rfl rfl
theorem u_cborn(hi:ys[i]?=some y):UpA (clA cd ys) cd.b (cd.o+i*8+4) [.int .i64 v] (clA cd (ys.set i (y.s_born v))):=up_cl hi (by simp) rfl rfl rfl
theorem u_ccolor(hi:ys[i]?=some y):UpA (clA cd ys) cd.b (cd.o+i*8+5) [.int .i64 v] (clA cd (ys.set i (y.s_color v))):=up_cl hi (by simp) rfl rfl rfl
theorem u_cto(hi:ys[i]?=some y):UpA (clA cd ys) cd.b (cd.o+i*8+6) [.int .i64 v] (clA cd (ys.set i (y.s_to v))):=up_cl hi (by simp) rfl rfl rfl
variable {k:Nat} {p:Pair} {w:Word}
theorem u_key(hi:ys[i]?=some y)(hk:y.c.pairs[k]?=some p):UpA (clA cd ys) y.d.b (y.d.o+k*6+0) (wv w) (clA cd (ys.set i (y.s_pair k (p.s_key w)))):=up_cp hi hk (by simp[wv]) rfl
theorem u_val(hi:ys[i]?=some y)(hk:y.c.pairs[k]?=some p):UpA (clA cd ys) y.d.b (y.d.o+k*6+3) (wv w) (clA cd (ys.set i (y.s_pair k (p.s_val w)))):=up_cp hi hk (by simp[wv]) rfl
theorem r_key(hi:ys[i]?=some y)(hk:y.c.pairs[k]?=some p):RsA (clA cd ys) y.d.b (y.d.o+k*6+0) 3 (wv p.key):=rs_cpp hi hk (by omega) rfl
theorem r_val(hi:ys[i]?=some y)(hk:y.c.pairs[k]?=some p):RsA (clA cd ys) y.d.b (y.d.o+k*6+3) 3 (wv p.val):=rs_cpp hi hk (by omega) rfl
end
section
variable {d:D} {ws:List Word} {i:Nat} {w w':Word} {v:Int}
theorem u_reg(hi:ws[i]?=some w):UpA (slA 3 wv d ws) d.b (d.o+i*3) (wv w') (slA 3 wv d (ws.set i w')):=up_sl (j:=0) wv_len hi (by simp[wv]) rfl
theorem u_regat(hi:ws[i]?=some w):UpA (slA 3 wv d ws) d.b (d.o+i*3+2) [.int .i64 v] (slA 3 wv d (ws.set i {w with at_:=v})):=up_sl wv_len hi (by simp) rfl
theorem r_reg(hi:ws[i]?=some w):RsA (slA 3 wv d ws) d.b (d.o+i*3) 3 (wv w):=rs_sl wv_len hi
variable {is:List Int} {n m:Int}
theorem r_int(hi:is[i]?=some n):RdA (slA 1 iv d is) d.b (d.o+i*1) (.int .i64 n):=rd_sl (j:=0) iv_len hi rfl
theorem u_int(hi:is[i]?=some n):UpA (slA 1 iv d is) d.b (d.o+i*1) [.int .i64 m] (slA 1 iv d (is.set i m)):=up_sl (j:=0) iv_len hi (by simp) rfl
variable {bs:List Bool} {b b':Bool}
theorem r_bool(hi:bs[i]?=some b):RdA (slA 1 bv d bs) d.b (d.o+i*1) (.bool b):=rd_sl (j:=0) bv_len hi rfl
theorem u_bool(hi:bs[i]?=some b):UpA (slA 1 bv d bs) d.b (d.o+i*1) [.bool b'] (slA 1 bv d (bs.set i b')):=up_sl (j:=0) bv_len hi (by simp) rfl
end
@[simp] theorem HX.hs_H(x:HX):x.hs.H=x.H:=rfl
def Has(m:Mem)(As:List Asr):Prop:=∃a,a.le m∧star As a
theorem Has.le{m M:Mem}{As:List Asr}(h:Has m As)(l:m.le M):Has M As:=by obtain⟨a,l',s⟩:=h;exact⟨a,Mem.le_trans l' l,s⟩
theorem Has.ent{m:Mem}{As Bs:List Asr}(h:Has m As)(e:Ent As Bs):Has m Bs:=by obtain⟨a,l',s⟩:=h;obtain⟨b,l2,s2⟩:=e.out a s;exact⟨b,Mem.le_trans l2 l',s2⟩
def ro(m0:Mem):Asr:=fun m=>m=m0
theorem rd_ro{m0:Mem}{As:List Asr}{b o:Nat}{v:Value}(h:Has m0 As)(r:Rd As b o v):RdA (ro m0) b o v:=⟨fun m hm=>by
 have hm:m=m0:=hm
 subst hm;obtain⟨a,l,s⟩:=h;exact cell_le l (r.out a s)⟩
theorem rs_ro{m0:Mem}{As:List Asr}{b o n:Nat}{v:List Value}(h:Has m0 As)(r:Rs As b o n v):RsA (ro m0) b o n v:=⟨fun m hm=>by
 have hm:m=m0:=hm
 subst hm;obtain⟨a,l,s⟩:=h;exact cells_le l (r.out a s)⟩
theorem kn_ro{m0:Mem}{As:List Asr}{p:Prop}(h:Has m0 As)(r:Kn As p):KnA (ro m0) p:=⟨fun m hm=>by
 obtain⟨a,l,s⟩:=h;exact r.out a s⟩
theorem Has.b{m:Mem}{x:HX}(h:Has m x.body):RHV m x.hs:=by obtain⟨b,l,s⟩:=h;exact(body_r s).le l
theorem ro_of{As F:List Asr}{m0 m:Mem}(hm:star As m)(h:Pm As [ro m0] F):m0.le m:=by
 obtain⟨a,b,d,rfl,⟨a1,a2,d2,rfl,h1,h2⟩,_⟩:=star_append.1 (h.out m hm)
 have h1:a1=m0:=h1
 subst h1
 exact Mem.le_trans (le_l _ _) (le_l _ _)
theorem Fn.shrink{P:Program}{f:FuncId}{args:List Value}{M:Mem}{post:Value→Mem→Prop}(h:Fn P f args M (fun v M'=>∃m',m'.le M'∧post v m')):Fn P f args M post:=
 ⟨fun w hw=>(h.out w hw).mono fun e w' ⟨v,M',he,⟨m',l,hp⟩,hs,ht⟩=>⟨v,m',he,hp,hs.le l,ht.le l⟩⟩
theorem qt_of{P:Program}{f:FuncId}{args:List Value}{m:Mem}{r:Value}(h:FnA P f args [ro m] (fun v As=>v=r∧As=[ro m])):Qt P f args m r:=by
 refine Fn.shrink ((h.out m ⟨m,emp,disj_emp _,(un_emp _).symm,rfl,rfl⟩).mono ?_)
 rintro v M' ⟨As,m',l,s,rfl,rfl⟩
 obtain⟨a,b,d,rfl,h1,h2⟩:=s
 have h1:a=m:=h1
 subst h1
 exact⟨a,Mem.le_trans (le_l _ _) l,rfl,rfl⟩
theorem rd_bad{b o:Nat}{v:Value}(h:False):Rd [fun _=>False] b o v:=h.elim
theorem rs_bad{b o n:Nat}{v:List Value}(h:False):Rs [fun _=>False] b o n v:=h.elim
theorem kn_bad{p:Prop}(h:False):Kn [fun _=>False] p:=h.elim
theorem up_bad{b o:Nat}{v:List Value}{R:List Asr}(h:False):Up [fun _=>False] b o v R:=h.elim
theorem pm_bad{R F:List Asr}(h:False):Pm [fun _=>False] R F:=h.elim
theorem pmt{p:Prop}(h:p:=by(fail_if_success apply pm_bad);(repeat(first|exact pm_nil|(apply pm_cons;repeat(first|exact pk_h|apply pk_t))));fail_if_success focus skip):p:=h
section
variable {P:Program} {S:St} {As:List Asr} {post:St→List Asr→Prop} {r:List I} {d:Option Nat}
theorem k_L{i:I}(h:LA P (i::r) post S As):LA P (i::r) post S As:=h
theorem k_V{E:Env}{c:C}{Q:X→St→List Asr→Prop}(h:VA E c Q S As):VA E c Q S As:=h
theorem k_g{g:Nat×Bool}{k:K}(h:LA P (⟨d,some g,k⟩::r) post S As):LA P (⟨d,some g,k⟩::r) post S As:=h
theorem k_ad{x y:Operand}(h:LA P (⟨d,none,.bin .add x y⟩::r) post S As):LA P (⟨d,none,.bin .add x y⟩::r) post S As:=h
theorem k_su{x y:Operand}(h:LA P (⟨d,none,.bin .sub x y⟩::r) post S As):LA P (⟨d,none,.bin .sub x y⟩::r) post S As:=h
theorem k_ml{x y:Operand}(h:LA P (⟨d,none,.bin .mul x y⟩::r) post S As):LA P (⟨d,none,.bin .mul x y⟩::r) post S As:=h
theorem k_i{n:Nat}{x y:Operand}(h:LA P (⟨d,none,.iaddr n x y⟩::r) post S As):LA P (⟨d,none,.iaddr n x y⟩::r) post S As:=h
theorem k_l{n:Nat}{x:Operand}(h:LA P (⟨d,none,.load true n x⟩::r) post S As):LA P (⟨d,none,.load true n x⟩::r) post S As:=h
theorem k_ls{n:Nat}{x:Operand}(h:LA P (⟨d,none,.load false n x⟩::r) post S As):LA P (⟨d,none,.load false n x⟩::r) post S As:=h
theorem k_st{n:Nat}{x y:Operand}(h:LA P (⟨d,none,.store n x y⟩::r) post S As):LA P (⟨d,none,.store n x y⟩::r) post S As:=h
theorem k_al{z:List Value}(h:LA P (⟨d,none,.alloc true z⟩::r) post S As):LA P (⟨d,none,.alloc true z⟩::r) post S As:=h
theorem k_bx{x:Operand}(h:LA P (⟨d,none,.box true x⟩::r) post S As):LA P (⟨d,none,.box true x⟩::r) post S As:=h
theorem k_bl{a b:Nat}{z:List Value}{ps:List (Nat×Nat×Operand)}(h:LA P (⟨d,none,.bslice true a b z ps⟩::r) post S As):LA P (⟨d,none,.bslice true a b z ps⟩::r) post S As:=h
theorem k_q{g:FuncId}{xs:List Operand}(h:LA P (⟨d,none,.qcall g xs⟩::r) post S As):LA P (⟨d,none,.qcall g xs⟩::r) post S As:=h
theorem k_c{g:FuncId}{xs:List Operand}(h:LA P (⟨d,none,.call g xs⟩::r) post S As):LA P (⟨d,none,.call g xs⟩::r) post S As:=h
theorem k_p{s:Nat}{x y:Operand}(h:LA P (⟨d,none,.pick (.tmp s) x y⟩::r) post S As):LA P (⟨d,none,.pick (.tmp s) x y⟩::r) post S As:=h
end
section
variable {P:Program} {S:St} {As:List Asr} {post:St→List Asr→Prop} {r:List I} {d:Option Nat}
theorem g_ad{x y:Operand}{a b:Int}(hx:ev S x=some (.int .i64 a))(hy:ev S y=some (.int .i64 b))(hp:LA P r post (put S d (.v (.int .i64 (a+b)))) As)(hb: -9223372036854775808≤a+b∧a+b≤9223372036854775807:=by first|omega|(simp only[HX.hdr,Hdr.s_room,Hdr.s_used,Hdr.s_born,Hdr.s_phase,Hdr.s_hand,Hdr.s_sub,Hdr.s_per,Hdr.s_start,Hdr.s_rounds,Hdr.s_forced,Hdr.s_rd,Hdr.s_cd,Hdr.s_gd,HX.H,List.length_map,List.length_set]at*;omega)):LA P (⟨d,none,.bin .add x y⟩::r) post S As:=a_ad hx hy hb hp
theorem g_su{x y:Operand}{a b:Int}(hx:ev S x=some (.int .i64 a))(hy:ev S y=some (.int .i64 b))(hp:LA P r post (put S d (.v (.int .i64 (a-b)))) As)(hb: -9223372036854775808≤a-b∧a-b≤9223372036854775807:=by first|omega|(simp only[HX.hdr,Hdr.s_room,Hdr.s_used,Hdr.s_born,Hdr.s_phase,Hdr.s_hand,Hdr.s_sub,Hdr.s_per,Hdr.s_start,Hdr.s_rounds,Hdr.s_forced,Hdr.s_rd,Hdr.s_cd,Hdr.s_gd,HX.H,List.length_map,List.length_set]at*;omega)):LA P (⟨d,none,.bin .sub x y⟩::r) post S As:=a_su hx hy hb hp
theorem g_ml{x y:Operand}{a b:Int}(hx:ev S x=some (.int .i64 a))(hy:ev S y=some (.int .i64 b))(hp:LA P r post (put S d (.v (.int .i64 (a*b)))) As)(hb: -9223372036854775808≤a*b∧a*b≤9223372036854775807:=by first|omega|(simp only[HX.hdr,Hdr.s_room,Hdr.s_used,Hdr.s_born,Hdr.s_phase,Hdr.s_hand,Hdr.s_sub,Hdr.s_per,Hdr.s_start,Hdr.s_rounds,Hdr.s_forced,Hdr.s_rd,Hdr.s_cd,Hdr.s_gd,HX.H,List.length_map]at*;omega)):LA P (⟨d,none,.bin .mul x y⟩::r) post S As:=a_ml hx hy hb hp
theorem g_i{e:D}{x y:Operand}{size n cap:Nat}{k:IntKind}{i:Int}(hx:ev S x=some (.slice e.a n cap))(hy:ev S y=some (.int k i))(hp:LA P r post (put S d (.v (.pointer (some ⟨e.b,e.o+i.toNat*size,none⟩)))) As)(hi:0≤i∧i<n:=by first|omega|(simp only[HX.hdr,Hdr.s_room,Hdr.s_used,Hdr.s_born,Hdr.s_phase,Hdr.s_hand,Hdr.s_sub,Hdr.s_per,Hdr.s_start,Hdr.s_rounds,Hdr.s_forced,Hdr.s_rd,Hdr.s_cd,Hdr.s_gd,HX.H,List.length_map,List.length_set]at*;omega))
 (hb:Kn As (e.a=some ⟨e.b,e.o,none⟩):=by(fail_if_success apply kn_bad);(repeat(first|exact kn_h (kn_cl (by assumption))|exact kn_h (kn_cp (by assumption) (by assumption))|exact kn_h (bs_sl (by assumption))|exact kn_h (kn_ro (by assumption) (by(repeat(first|exact kn_h (kn_cl (by assumption))|exact kn_h (kn_cp (by assumption) (by assumption))|exact kn_h (bs_sl (by assumption))|apply kn_t));fail_if_success focus skip))|apply kn_t));fail_if_success focus skip):LA P (⟨d,none,.iaddr size x y⟩::r) post S As:=a_i hx hy hb hi hp
theorem g_l{n:Nat}{x:Operand}{b o:Nat}{v:Value}(hx:lc S x=some (.mm b o))(hp:LA P r post (put S d (.v v)) As)(hv:Rd As b o v:=by(fail_if_success apply rd_bad);(repeat(first|exact rd_h (rd_hd rfl)|exact rd_h (rd_bx rfl)|exact rd_h (rd_cl (by assumption) rfl)|exact rd_h (rd_cp (by assumption) (by assumption) rfl)|exact rd_h (r_int (by assumption))|exact rd_h (r_bool (by assumption))|exact rd_h (rd_ro (by assumption) (by(repeat(first|exact rd_h (rd_hd rfl)|exact rd_h (rd_cl (by assumption) rfl)|exact rd_h (rd_cp (by assumption) (by assumption) rfl)|exact rd_h (r_int (by assumption))|apply rd_t));fail_if_success focus skip))|apply rd_t));fail_if_success focus skip):LA P (⟨d,none,.load true n x⟩::r) post S As:=a_l hx hv hp
theorem g_ls{n:Nat}{x:Operand}{b o:Nat}{vs:List Value}(hx:lc S x=some (.mm b o))(hp:LA P r post (put S d (.v (.agg vs.toArray))) As)(hv:Rs As b o n vs:=by(fail_if_success apply rs_bad);(repeat(first|exact rs_h rs_hd|exact rs_h (rs_cl (by assumption))|exact rs_h (rs_cp (by assumption) (by assumption))|exact rs_h (r_key (by assumption) (by assumption))|exact rs_h (r_val (by assumption) (by assumption))|exact rs_h (r_reg (by assumption))|exact rs_h (rs_ro (by assumption) (by(repeat(first|exact rs_h rs_hd|exact rs_h (rs_cl (by assumption))|exact rs_h (rs_cp (by assumption) (by assumption))|exact rs_h (r_key (by assumption) (by assumption))|exact rs_h (r_val (by assumption) (by assumption))|exact rs_h (r_reg (by assumption))|apply rs_t));fail_if_success focus skip))|apply rs_t));fail_if_success focus skip):LA P (⟨d,none,.load false n x⟩::r) post S As:=a_ls hx hv hp
theorem g_st{n:Nat}{x y:Operand}{b o:Nat}{v:Value}{As':List Asr}(hx:lc S x=some (.mm b o))(hy:ev S y=some v)(hn:v.cells.size=n)(hpl:plainCells v.cells.toList=true)(hp:LA P r post S As')(hu:Up As b o v.cells.toList As':=by(fail_if_success apply up_bad);(repeat(first|exact up_h u_room|exact up_h u_used|exact up_h u_born|exact up_h u_phase|exact up_h u_hand|exact up_h u_sub|exact up_h u_per|exact up_h u_start|exact up_h u_rounds|exact up_h u_forced|exact up_h u_rd|exact up_h u_cd|exact up_h u_gd|exact up_h (u_cstate (by assumption))|exact up_h (u_ckind (by assumption))|exact up_h (u_cweak (by assumption))|exact up_h (u_clast (by assumption))|exact up_h (u_cborn (by assumption))|exact up_h (u_ccolor (by assumption))|exact up_h (u_cto (by assumption))|exact up_h (u_key (by assumption) (by assumption))|exact up_h (u_val (by assumption) (by assumption))|exact up_h (u_reg (by assumption))|exact up_h (u_regat (by assumption))|exact up_h (u_int (by assumption))|exact up_h (u_bool (by assumption))|apply up_t));fail_if_success focus skip):
 LA P (⟨d,none,.store n x y⟩::r) post S As:=a_st hx hy hn hpl hu hp
theorem g_sw{n:Nat}{x y:Operand}{s o:Nat}{cs:List Value}{v:Value}(hx:lc S x=some (.bx s o))(hb:S s=.box cs)(hy:ev S y=some v)(hn:v.cells.size=n)(hle:o+n≤cs.length)
 (hw:WrK cs o v.cells.toList (fun cs'=>LA P r post (upF S s (.box cs')) As)) (hpl:plainCells v.cells.toList=true:=by first|rfl|assumption):LA P (⟨d,none,.store n x y⟩::r) post S As:=a_sw hx hb hy hn hpl hle hw
end
section
variable {E:Env} {Q:X→St→List Asr→Prop} {S:St} {As:List Asr}
theorem v_rv{d:Option Nat}{v:Value}(h:Q .ret (put S d (.v v)) As):VA E (.seq (.reg [⟨d,none,.mov (.const v)⟩]) .ret) Q S As:=v_seq (v_reg (a_p (sv:=.v v) rfl (a_n (v_ret h))))
theorem v_bs{id:Nat}{a b:C}(h:VA E (.seq a b) (blkA id Q) S As):VA E (.block id (.seq a b)) Q S As:=v_blk h
theorem v_br{id:Nat}{l:List I}(h:VA E (.reg l) (blkA id Q) S As):VA E (.block id (.reg l)) Q S As:=v_blk h
theorem v_bd{id n:Nat}{l:List I}(h:VA E (.dreg n l) (blkA id Q) S As):VA E (.block id (.dreg n l)) Q S As:=v_blk h
theorem v_bc{id:Nat}{x:Operand}{a b:C}(h:VA E (.cond x a b) (blkA id Q) S As):VA E (.block id (.cond x a b)) Q S As:=v_blk h
theorem v_bk{id:Nat}(h:VA E .skip (blkA id Q) S As):VA E (.block id .skip) Q S As:=v_blk h
theorem v_bb{id id':Nat}{c:C}(h:VA E (.block id' c) (blkA id Q) S As):VA E (.block id (.block id' c)) Q S As:=v_blk h
def rngQ{α:Type}(b b' ti tn n:Nat)(T:α→List (Nat×SV))(At:α→List Asr)(Inv:Nat→α→Prop)(i:Nat)(Q:X→St→List Asr→Prop):X→St→List Asr→Prop
 |.nrm,S',As'=>∃x',leA ((ti,.v (.int .i64 i))::(tn,.v (.int .i64 n))::T x') S'∧Ent As' (At x')∧Inv (i+1) x'
 |.ext e,S',As'=>if e=b' then ∃x',leA ((ti,.v (.int .i64 i))::(tn,.v (.int .i64 n))::T x') S'∧Ent As' (At x')∧Inv (i+1) x' else if e=b then Q .nrm S' As' else Q (.ext e) S' As'
 |.ret,S',As'=>Q .ret S' As'
section
variable {α:Type} {b b' ti tn n:Nat} {T:α→List (Nat×SV)} {At:α→List Asr} {Inv:Nat→α→Prop} {i:Nat}
theorem r_rt(h:Q .ret S As):rngQ b b' ti tn n T At Inv i Q .ret S As:=h
theorem r_bk(hb:Nat.beq b b'=false)(h:Q .nrm S As):rngQ b b' ti tn n T At Inv i Q (.ext b) S As:=by
 have hne:b≠b':=fun e=>by rw[e]at hb;simp at hb
 show(if b=b' then _ else if b=b then _ else _);rw[if_neg hne,if_pos rfl];exact h
theorem r_ex{e:Nat}(h1:Nat.beq e b'=false)(h2:Nat.beq e b=false)(h:Q (.ext e) S As):rngQ b b' ti tn n T At Inv i Q (.ext e) S As:=by
 have n1:e≠b':=fun e'=>by rw[e']at h1;simp at h1
 have n2:e≠b:=fun e'=>by rw[e']at h2;simp at h2
 show(if e=b' then _ else if e=b then _ else _);rw[if_neg n1,if_neg n2];exact h
end
end
end Go.Proofs.YtcjmodomfilagaaDoor.E
namespace Go.Proofs.YtcjmodomfilagaaDoor.E
open Go
open Classical
theorem R2.pl{H:Heap}(h:R2 H){c:Cell}(hc:c∈H.cells):c.pairs.length≤200:=by
 obtain⟨i,hi⟩:=List.getElem?_of_mem hc
 rcases h.each i c hi with h|h|h
 ·rw[h.2.1.2.2.2.2.2];simp
 ·rw[h.2.1.2.2.2.2.2];simp
 ·exact h.2.2.2.2.2.2.2
theorem HX.at{x:HX}{i:Nat}(h:i<x.xs.length):∃y,x.xs[i]?=some y∧x.H.cells[i]?=some y.c:=by
 refine⟨_,List.getElem?_eq_getElem h,?_⟩
 simp[HX.H,List.getElem?_map,List.getElem?_eq_getElem h]
theorem ret_f{p:Prop}{_:Decidable p}(h:¬p):Value.bool false=.bool (decide p):=by rw[decide_eq_false h]
theorem fa_q{rl:List RV}{S:St}{m:Mem}{As F:List Asr}{v r:Value}{y:X}(hy:∀i,y≠.ext i)(h:∀m,star As m→resV S m rl=some v)(e:v=r)(hm:Pm As [ro m] F:=by exact pmt):fnA rl (fun v As=>v=r∧As=[ro m]) y S As:=by
 cases y with
 |ext i=>exact absurd rfl (hy i)
 |nrm=>exact⟨v,[ro m],h,hm.ent,e,rfl⟩
 |ret=>exact⟨v,[ro m],h,hm.ent,e,rfl⟩
theorem q_F{rl:List RV}{S:St}{m:Mem}{As F:List Asr}{p:Prop}{_:Decidable p}(hp:¬p)(h:∀m,star As m→resV S m rl=some (.bool false):=by(intro _ _;rfl))(hm:Pm As [ro m] F:=by exact pmt):fnA rl (fun v As=>v=.bool (decide p)∧As=[ro m]) .ret S As:=⟨_,[ro m],h,hm.ent,ret_f hp,rfl⟩
theorem q_B{rl:List RV}{S:St}{m:Mem}{As F:List Asr}{p:Prop}{_:Decidable p}{b:Bool}(h:∀m,star As m→resV S m rl=some (.bool b))(hp:b=true↔p)(hm:Pm As [ro m] F:=by exact pmt):fnA rl (fun v As=>v=.bool (decide p)∧As=[ro m]) .ret S As:=⟨_,[ro m],h,hm.ent,by congr 1;rw[Bool.eq_iff_iff,hp];simp,rfl⟩
end Go.Proofs.YtcjmodomfilagaaDoor.E
set_option maxHeartbeats 8000000
namespace Go.Proofs.YtcjmodomfilagaaDoor.E
open Go
open Classical
structure R2p (H:Heap) (n:Nat):Prop where
 each:∀(i:Nat) c,i<n→H.cells[i]?=some c→(c.state=0∧Bare c∧c.to=0)∨MovedOk H i c∨UsedOk H c
 born:∀(i j:Nat) c d,H.cells[i]?=some c→H.cells[j]?=some d→i<j→j<n→c.state=1→d.state=1→c.born≠d.born
 to:∀(i j:Nat) c d,H.cells[i]?=some c→H.cells[j]?=some d→i<j→j<n→c.state=2→d.state=2→c.to≠d.to
theorem R2p.all{H:Heap}:R2p H H.cells.length↔R2 H:=
 ⟨fun h=>⟨fun i c hc=>h.each i c (List.getElem?_eq_some_iff.1 hc).1 hc,fun i j c d hc hd hij=>h.born i j c d hc hd hij (List.getElem?_eq_some_iff.1 hd).1,fun i j c d hc hd hij=>h.to i j c d hc hd hij (List.getElem?_eq_some_iff.1 hd).1⟩,
  fun h=>⟨fun i c _=>h.each i c,fun i j c d hc hd hij _=>h.born i j c d hc hd hij,fun i j c d hc hd hij _=>h.to i j c d hc hd hij⟩⟩
theorem R2.used{H:Heap}(h:R2 H){n:Nat}{c:Cell}(hc:H.cells[n]?=some c)(s:c.state=1):UsedOk H c:=by
 rcases h.each n c hc with h|h|h
 ·have:=h.1;omega
 ·have:=h.1;omega
 ·exact h
end Go.Proofs.YtcjmodomfilagaaDoor.E
set_option maxHeartbeats 4000000
namespace Go.Proofs.YtcjmodomfilagaaDoor.E
open Go
open Classical
theorem qt_e{P:Program}{f:FuncId}{args:List Value}{m:Mem}{r r':Value}(h:Qt P f args m r)(e:r=r'):Qt P f args m r':=e▸h
def Heap.tgt(H:Heap)(w:Word):Option Nat:=if(H.lead w).kind=2 then some (H.lead w).at_.toNat else none
structure Grow (s t:List Bool×List Int):Prop where
 mono:∀j:Nat,s.1[j]?=some true→t.1[j]?=some true
 new:∀j:Nat,t.1[j]?=some true→s.1[j]?=some true∨(j:Int)∈t.2
 old:∀g,g∈s.2→g∈t.2
 msr:2*t.1.count false+t.2.length≤2*s.1.count false+s.2.length
 pre:s.2<+:t.2
theorem Grow.trans{s t u:List Bool×List Int}(h:Grow s t)(k:Grow t u):Grow s u:=
 ⟨fun j hj=>k.mono j (h.mono j hj),fun j hj=>(k.new j hj).elim (fun h'=>(h.new j h').elim .inl fun h''=>.inr (k.old _ h'')) .inr,fun g hg=>k.old g (h.old g hg),Nat.le_trans k.msr h.msr,h.pre.trans k.pre⟩
def Cell.col(c:Cell)(k:Int):Cell:={c with color:=k}
theorem R2.state{H:Heap}(h:R2 H){i:Nat}{c:Cell}(hc:H.cells[i]?=some c)(hp:H.phase<4):c.state=0∨c.state=1:=by
 rcases h.each i c hc with h|h|h
 ·exact .inl h.1
 ·have:=h.2.2.1;omega
 ·exact .inr h.1
structure Sh (H K:Heap):Prop where
 sound:Sound H→Sound K
 room:K.room=H.room
 used:K.used=H.used
 born:K.born=H.born
 regs:K.regs=H.regs
 phase:K.phase=H.phase
 hand:K.hand=H.hand
 sub:K.sub=H.sub
 per:K.per=H.per
 start:K.start=H.start
 rounds:K.rounds=H.rounds
 forced:K.forced=H.forced
 len:K.cells.length=H.cells.length
 cell:∀j:Int,(K.getC j).state=(H.getC j).state∧(K.getC j).pairs=(H.getC j).pairs∧(K.getC j).last=(H.getC j).last∧((H.getC j).color≠0→(K.getC j).color=(H.getC j).color)
 gray:H.gray<+:K.gray
theorem Sh.trans{H K L:Heap}(h:Sh H K)(k:Sh K L):Sh H L:=
 ⟨fun s=>k.sound (h.sound s),k.room.trans h.room,k.used.trans h.used,k.born.trans h.born,k.regs.trans h.regs,k.phase.trans h.phase,k.hand.trans h.hand,k.sub.trans h.sub,k.per.trans h.per,k.start.trans h.start,k.rounds.trans h.rounds,k.forced.trans h.forced,k.len.trans h.len,
  fun j=>⟨(k.cell j).1.trans (h.cell j).1,(k.cell j).2.1.trans (h.cell j).2.1,(k.cell j).2.2.1.trans (h.cell j).2.2.1,fun hc=>by
   have:=(h.cell j).2.2.2 hc
   rw[(k.cell j).2.2.2 (by rw[this];exact hc),this]⟩,h.gray.trans k.gray⟩
noncomputable def luG(H:Heap):Nat→Int
 |0=> -1
 |k+1=>if(H.getC k).state=1 then(k:Int)else luG H k
noncomputable def wgt(c:Cell):Int:=if c.color=0 then 408 else if c.color=1 then 204 else 0
noncomputable def wN(cs:List Cell):Int:=(cs.map wgt).sum
noncomputable def Heap.M(H:Heap):Int:=
 if H.phase=1 then 8000001+H.cells.length-H.hand
 else if H.phase=2 then 4000201+wN H.cells-H.sub
 else if H.phase=3 then 3000001+H.cells.length-H.hand
 else if H.phase=4 then 2000002+luG H H.cells.length
 else if H.phase=5 then 10201+(H.cells.length-H.hand)*202-H.sub
 else if H.phase=6 then H.hand+1 else 0
def KeyW(c:Cell):Prop:=IntKind.i64.wrap (BitVec.ofInt IntKind.i64.bits c.weak&&&BitVec.ofInt IntKind.i64.bits 1).toNat=0
def ValW(c:Cell):Prop:=IntKind.i64.wrap (BitVec.ofInt IntKind.i64.bits c.weak&&&BitVec.ofInt IntKind.i64.bits 2).toNat=0
inductive Held (H:Heap):Nat→Prop
 |reg {w:Word} {j:Nat}:w∈H.regs→H.tgt w=some j→Held H j
 |due {i:Nat} {c:Cell}:H.cells[i]?=some c→c.last=2→Held H i
 |key {i j:Nat} {c:Cell} {p:Pair}:Held H i→H.cells[i]?=some c→p∈c.pairs→KeyW c→H.tgt p.key=some j→Held H j
 |val {i j:Nat} {c:Cell} {p:Pair}:Held H i→H.cells[i]?=some c→p∈c.pairs→ValW c→(∀k,H.tgt p.key=some k→Held H k)→H.tgt p.val=some j→Held H j
def Same(s t:List Bool×List Int):Prop:=t=s∨s.2.length<t.2.length
theorem Same.trans{s t u:List Bool×List Int}(h:Same s t)(k:Same t u)(g:t.2.length≤u.2.length)(g2:s.2.length≤t.2.length):Same s u:=by
 rcases h with rfl|h
 ·exact k
 ·right;omega
theorem Grow.len{s t:List Bool×List Int}(h:Grow s t):s.2.length≤t.2.length:=by
 obtain⟨e,he⟩:=h.pre
 rw[←he];simp
end Go.Proofs.YtcjmodomfilagaaDoor.E
