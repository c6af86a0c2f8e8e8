/- A part of the proof. Conditions: none. -/
import Derived.Test.YtpleoapljeffiaaGreatDoorKP4
import Derived.Test.YtpleoapljeffiaaGreatDoorChecked
set_option linter.unusedVariables false
set_option linter.unusedSimpArgs false
namespace Go.Proofs.YtpleoapljeffiaaGreatDoor.E
open Go
theorem cell_le{m M:Mem}(l:m.le M){b o:Nat}{v:Value}(h:cell m b o=some v):cell M b o=some v:=by
 unfold cell at*
 cases hm:m b with
 |none=>rw[hm]at h;cases h
 |some k=>rw[l _ _ hm];rw[hm]at h;exact h
theorem cells_le{m M:Mem}(l:m.le M){b o n:Nat}{v:List Value}(h:cells m b o n=some v):cells M b o n=some v:=by
 unfold cells at*
 cases hm:m b with
 |none=>rw[hm]at h;cases h
 |some k=>rw[l _ _ hm];rw[hm]at h;exact h
structure RdA (A:Asr) (b o:Nat) (v:Value):Prop where
 out:∀m,A m→cell m b o=some v
structure Rd (As:List Asr) (b o:Nat) (v:Value):Prop where
 out:∀m,star As m→cell m b o=some v
theorem rd_h{A:Asr}{r:List Asr}{b o:Nat}{v:Value}(h:RdA A b o v):Rd (A::r) b o v:=
 ⟨fun m ⟨a,c,d,e,hA,hr⟩=>by subst e;exact cell_le (le_l _ _) (h.out a hA)⟩
theorem rd_t{A:Asr}{r:List Asr}{b o:Nat}{v:Value}(h:Rd r b o v):Rd (A::r) b o v:=
 ⟨fun m ⟨a,c,d,e,hA,hr⟩=>by subst e;exact cell_le (le_r d) (h.out c hr)⟩
structure RsA (A:Asr) (b o n:Nat) (v:List Value):Prop where
 out:∀m,A m→cells m b o n=some v
structure Rs (As:List Asr) (b o n:Nat) (v:List Value):Prop where
 out:∀m,star As m→cells m b o n=some v
theorem rs_h{A:Asr}{r:List Asr}{b o n:Nat}{v:List Value}(h:RsA A b o n v):Rs (A::r) b o n v:=
 ⟨fun m ⟨a,c,d,e,hA,hr⟩=>by subst e;exact cells_le (le_l _ _) (h.out a hA)⟩
theorem rs_t{A:Asr}{r:List Asr}{b o n:Nat}{v:List Value}(h:Rs r b o n v):Rs (A::r) b o n v:=
 ⟨fun m ⟨a,c,d,e,hA,hr⟩=>by subst e;exact cells_le (le_r d) (h.out c hr)⟩
structure UpA (A:Asr) (b o:Nat) (vs:List Value) (A':Asr):Prop where
 out:∀m,A m→∃row,m b=some (.row row)∧o+vs.length≤row.length∧A' (m.upd b (.row (wr row o vs)))
structure Up (As:List Asr) (b o:Nat) (vs:List Value) (As':List Asr):Prop where
 out:∀m,star As m→∃row,m b=some (.row row)∧o+vs.length≤row.length∧star As' (m.upd b (.row (wr row o vs)))
theorem up_h{A A':Asr}{r:List Asr}{b o:Nat}{vs:List Value}(h:UpA A b o vs A'):Up (A::r) b o vs (A'::r):=
 ⟨fun m ⟨a,c,d,e,hA,hr⟩=>by
   subst e
   obtain⟨row,h1,h2,h3⟩:=h.out a hA
   have hc:c b=none:=by
    rcases d b with e|e
    ·rw[h1]at e;cases e
    ·exact e
   exact⟨row,un_l h1,h2,_,c,d.upd _ hc,un_upd_l _,h3,hr⟩⟩
theorem up_t{A:Asr}{r r':List Asr}{b o:Nat}{vs:List Value}(h:Up r b o vs r'):Up (A::r) b o vs (A::r'):=
 ⟨fun m ⟨a,c,d,e,hA,hr⟩=>by
   subst e
   obtain⟨row,h1,h2,h3⟩:=h.out c hr
   have ha:a b=none:=by
    rcases d b with e|e
    ·exact e
    ·rw[h1]at e;cases e
   exact⟨row,un_r d h1,h2,a,_,(d.symm.upd _ ha).symm,un_upd_r _ ha,hA,h3⟩⟩
structure KnA (A:Asr) (p:Prop):Prop where
 out:∀m,A m→p
structure Kn (As:List Asr) (p:Prop):Prop where
 out:∀m,star As m→p
theorem kn_h{A:Asr}{r:List Asr}{p:Prop}(h:KnA A p):Kn (A::r) p:=⟨fun m ⟨a,c,d,e,hA,hr⟩=>h.out a hA⟩
theorem kn_t{A:Asr}{r:List Asr}{p:Prop}(h:Kn r p):Kn (A::r) p:=⟨fun m ⟨a,c,d,e,hA,hr⟩=>h.out c hr⟩
structure D where
 a:Option Addr
 cap:Nat
def D.b(d:D):Nat:=match d.a with|some x=>x.block|none=>0
def D.o(d:D):Nat:=match d.a with|some x=>x.off|none=>0
def D.v(d:D)(n:Nat):Value:=.slice d.a n d.cap
def slA(size:Nat){α:Type}(f:α→List Value)(d:D)(xs:List α):Asr:=fun m=>Sl m size f (.slice d.a xs.length d.cap) xs∧∀b,b∉own (.slice d.a xs.length d.cap)→m b=none
def bx(b:Nat)(vs:List Value):Asr:=fun m=>m=one b (.row vs)
section
variable {α:Type} {f:α→List Value} {size:Nat} {d:D} {xs:List α}
theorem D.plain{m:Mem}(h:slA size f d xs m):d.a=none∨d.a=some ⟨d.b,d.o,none⟩:=by
 rcases h.1 with⟨c,e,_⟩|⟨b,o,cap,row,e,_⟩
 ·simp only[Value.slice.injEq]at e;exact .inl e.1
 ·right
  simp only[Value.slice.injEq]at e
  have:d.a=some ⟨b,o,none⟩:=e.1
  unfold D.b D.o;rw[this]
theorem D.som{m:Mem}(h:slA size f d xs m){i:Nat}{e:α}(hi:xs[i]?=some e):d.a=some ⟨d.b,d.o,none⟩:=by
 rcases h.1 with⟨c,e,_,e2⟩|⟨b,o,cap,row,e,_⟩
 ·subst e2;simp at hi
 ·simp only[Value.slice.injEq]at e
  have:d.a=some ⟨b,o,none⟩:=e.1
  unfold D.b D.o;rw[this]
theorem rs_sl{i:Nat}{e:α}(hs:∀x,(f x).length=size)(hi:xs[i]?=some e):RsA (slA size f d xs) d.b (d.o+i*size) size (f e):=
 ⟨fun m h=>by
   obtain⟨b,o,ha,hc⟩:=h.1.at2 hs hi
   have e1:d.b=b:=by unfold D.b;rw[ha]
   have e2:d.o=o:=by unfold D.o;rw[ha]
   rw[e1,e2];exact hc⟩
theorem rd_sl{i j:Nat}{e:α}{v:Value}(hs:∀x,(f x).length=size)(hi:xs[i]?=some e)(hj:(f e)[j]?=some v):RdA (slA size f d xs) d.b (d.o+i*size+j) v:=
 ⟨fun m h=>cells_cell ((rs_sl hs hi).out m h) hj⟩
theorem cells_sub{M:Mem}{b o n j k:Nat}{vs ws:List Value}(h:cells M b o n=some vs)(hj:j+k≤vs.length)(hw:(vs.drop j).take k=ws):cells M b (o+j) k=some ws:=by
 obtain⟨cs,hM,hle,rfl⟩:=cells_row h
 simp only[List.length_take,List.length_drop]at hj
 have key:(if o+j+k≤cs.length then some ((cs.drop (o+j)).take k)else none)=some ws:=by
  rw[if_pos (by omega)]
  congr 1
  rw[←hw,List.drop_take,List.drop_drop,List.take_take]
  congr 1;omega
 unfold cells
 rcases hM with hM|⟨_,_,hM⟩<;>rw[hM]<;>exact key
theorem rs_slp{i j k:Nat}{e:α}{ws:List Value}(hs:∀x,(f x).length=size)(hi:xs[i]?=some e)(hj:j+k≤size)(hw:((f e).drop j).take k=ws):RsA (slA size f d xs) d.b (d.o+i*size+j) k ws:=
 ⟨fun m h=>cells_sub ((rs_sl hs hi).out m h) (by rw[hs];exact hj) hw⟩
theorem up_sl{i j:Nat}{e e':α}{vs:List Value}(hs:∀x,(f x).length=size)(hi:xs[i]?=some e)(hj:j+vs.length≤size)(hf:f e'=wr (f e) j vs):UpA (slA size f d xs) d.b (d.o+i*size+j) vs (slA size f d (xs.set i e')):=
 ⟨fun m h=>by
   have ha:=D.som h hi
   have h1:=h.1
   have h2:=h.2
   rw[ha]at h1 h2
   obtain⟨row,g1,g2,g3⟩:=h1.wr hs hi hj hf
   refine⟨row,g1,by omega,?_,?_⟩
   ·rw[List.length_set,ha];exact g3
   ·intro b hb
    rw[List.length_set,ha]at hb
    have hne:b≠d.b:=fun e=>hb (by simp[own,e])
    rw[Mem.upd_ne _ _ hne];exact h2 b hb⟩
theorem bs_sl{i:Nat}{e:α}(hi:xs[i]?=some e):KnA (slA size f d xs) (d.a=some ⟨d.b,d.o,none⟩):=⟨fun m h=>D.som h hi⟩
theorem pl_sl:KnA (slA size f d xs) (d.a=none∨d.a=some ⟨d.b,d.o,none⟩):=⟨fun m h=>D.plain h⟩
theorem bd_sl:KnA (slA size f d xs) (xs.length≤140737488355328):=⟨fun m h=>h.1.bound⟩
theorem cp_sl:KnA (slA size f d xs) (xs.length≤d.cap):=⟨fun m h=>by
 rcases h.1 with⟨c,e,_,e2⟩|⟨b,o,cap,row,e,hM,hc,_⟩
 ·subst e2;simp
 ·simp only[Value.slice.injEq]at e
  rw[e.2.2];exact hc⟩
theorem own_len(a:Option Addr)(n n' cap cap':Nat):own (.slice a n cap)=own (.slice a n' cap'):=by cases a<;>rfl
theorem flat_take(hs:∀x,(f x).length=size)(xs:List α)(k:Nat)(hk:k≤xs.length):(xs.flatMap f).take (k*size)=(xs.take k).flatMap f:=by
 have h2:xs.flatMap f=(xs.take k).flatMap f++(xs.drop k).flatMap f:=by rw[←List.flatMap_append,List.take_append_drop]
 rw[h2,List.take_left' (by rw[flat_len hs,List.length_take,Nat.min_eq_left hk])]
theorem flat_drop(hs:∀x,(f x).length=size)(xs:List α)(k:Nat)(hk:k≤xs.length):(xs.flatMap f).drop (k*size)=(xs.drop k).flatMap f:=by
 have h2:xs.flatMap f=(xs.take k).flatMap f++(xs.drop k).flatMap f:=by rw[←List.flatMap_append,List.take_append_drop]
 rw[h2,List.drop_left' (by rw[flat_len hs,List.length_take,Nat.min_eq_left hk])]
theorem sl_take(hs:∀x,(f x).length=size){k:Nat}{m:Mem}(h:slA size f d xs m)(hk:k≤xs.length):slA size f d (xs.take k) m:=by
 have hl:(xs.take k).length=k:=by simp;omega
 refine⟨?_,fun b hb=>h.2 b (by rw[own_len _ _ (xs.take k).length _ d.cap];exact hb)⟩
 rcases h.1 with⟨c,e,e1,e2⟩|⟨b,o,cap,row,e,hM,hc,hb,hr,he⟩
 ·subst e2;left;exact⟨c,by simpa using e,e1,by simp⟩
 ·right
  refine⟨b,o,cap,row,?_,hM,by omega,by omega,hr,?_⟩
  ·rw[hl];simp only[Value.slice.injEq,true_and]at e⊢;exact⟨e.1,e.2⟩
  ·rw[hl,←flat_take hs xs k hk,←he,List.take_take]
   congr 1
   have:=Nat.mul_le_mul_right size hk
   omega
def D.drop(d:D)(size k:Nat):D:=⟨match d.a with|some ⟨b,o,none⟩=>some (if d.cap=k then⟨b,o,none⟩else⟨b,o+k*size,none⟩)|x=>x,d.cap-k⟩
theorem own_drop(k n n':Nat):own (.slice (d.drop size k).a n (d.drop size k).cap)=own (.slice d.a n' d.cap):=by
 unfold D.drop
 obtain⟨a,cap⟩:=d
 cases a with
 |none=>rfl
 |some a=>
  obtain⟨b,o,sp⟩:=a
  cases sp with
  |none=>simp only;split<;>rfl
  |some s=>rfl
theorem sl_drop(hs:∀x,(f x).length=size){k:Nat}{m:Mem}(h:slA size f d xs m)(hk:k≤xs.length):slA size f (d.drop size k) (xs.drop k) m:=by
 have hl:(xs.drop k).length=xs.length-k:=by simp
 refine⟨?_,fun b hb=>h.2 b (by rw[own_drop _ _ xs.length]at hb;exact hb)⟩
 rcases h.1 with⟨c,e,e1,e2⟩|⟨b,o,cap,row,e,hM,hc,hb,hr,he⟩
 ·subst e2
  have hk0:k=0:=by simpa using hk
  subst hk0
  obtain⟨a,cp⟩:=d
  simp only[List.length_nil,Value.slice.injEq]at e
  obtain⟨ea,_,ec⟩:=e
  subst ea;subst ec;subst e1
  exact .inl ⟨0,by simp[D.drop],rfl,rfl⟩
 ·obtain⟨a,cp⟩:=d
  simp only[Value.slice.injEq]at e
  obtain⟨ea,_,ec⟩:=e
  subst ea;subst ec
  right
  unfold D.drop
  simp only
  by_cases hck:cp=k
  ·rw[if_pos hck]
   have hkl:k=xs.length:=by omega
   refine⟨b,o,cp-k,row,by rw[hl],hM,by omega,by omega,?_,?_⟩
   ·have:(cp-k)*size=0:=by rw[show cp-k=0 by omega];simp
    omega
   ·rw[hl,show xs.length-k=0 by omega,hkl];simp
  ·rw[if_neg hck]
   have e2:cp*size=k*size+(cp-k)*size:=by rw[←Nat.add_mul];congr 1;omega
   refine⟨b,o+k*size,cp-k,row,by rw[hl],hM,by omega,by omega,by omega,?_⟩
   rw[hl,←flat_drop hs xs k hk,←he,List.drop_take,List.drop_drop]
   congr 1
   rw[Nat.sub_mul]
theorem rd_bx{b o:Nat}{vs:List Value}{v:Value}(h:vs[o]?=some v):RdA (bx b vs) b o v:=⟨fun m hm=>by
 have hm:m=one b (.row vs):=hm
 subst hm;unfold cell;rw[one_same];exact h⟩
theorem rs_bx{b o n:Nat}{vs ws:List Value}(ho:o+n≤vs.length)(h:(vs.drop o).take n=ws):RsA (bx b vs) b o n ws:=⟨fun m hm=>by
 have hm:m=one b (.row vs):=hm
 subst hm;unfold cells;rw[one_same];simp only;rw[if_pos ho,h]⟩
theorem up_bx{b o:Nat}{vs ws:List Value}{A:Asr}(ho:o+ws.length≤vs.length)(hA:WrK vs o ws (fun c=>A=bx b c)):UpA (bx b vs) b o ws A:=⟨fun m hm=>by
 have hm:m=one b (.row vs):=hm
 have:=hA.out
 subst hm;subst this
 exact⟨vs,one_same _ _,ho,one_upd _ _ _⟩⟩
end
def keyI(e:MapEntry):Int:=match e.key with|.int _ j=>j|_=>0
def mpA(b:Nat)(g:Int→Option Value):Asr:=fun m=>∃es c,m=one b (.mp es c)∧mpInts es.toList=true∧(es.toList.map keyI).Nodup∧∀j,mpFind j es.toList=g j
theorem keyIs_iff{j:Int}{e:MapEntry}(h:(match e.key with|.int .i64 _=>true|_=>false)=true):keyIs j e=decide (keyI e=j):=by
 unfold keyIs keyI
 split at h
 ·rename_i i hk;rw[hk];simp only;by_cases h:i=j<;>simp[h]
 ·cases h
theorem mpFind_cons{j:Int}{e:MapEntry}{r:List MapEntry}(h:(match e.key with|.int .i64 _=>true|_=>false)=true):mpFind j (e::r)=if keyI e=j then some e.val else mpFind j r:=by
 unfold keyI
 split at h
 ·rename_i i hk;simp only[mpFind,hk]
 ·cases h
theorem mpFind_none{j:Int}:∀{l:List MapEntry},mpInts l=true→(mpFind j l=none↔j∉l.map keyI)
 |[],_=>by simp[mpFind]
 |e::r,h=>by
  simp only[mpInts,Bool.and_eq_true]at h
  rw[mpFind_cons h.1]
  by_cases hk:keyI e=j
  ·simp[hk]
  ·rw[if_neg hk,mpFind_none h.2,List.map_cons,List.mem_cons,not_or];exact⟨fun a=>⟨fun e=>hk e.symm,a⟩,fun a=>a.2⟩
theorem mp_set{j:Int}{y:Value}:∀{l:List MapEntry} {i:Nat},mpInts l=true→l.findIdx? (keyIs j)=some i→
 let l':=l.modify i fun e=>{e with key:=.int .i64 j,val:=y}
 mpInts l'=true∧l'.map keyI=l.map keyI∧∀j',mpFind j' l'=if j'=j then some y else mpFind j' l
 |[],i,_,hi=>by simp at hi
 |e::r,i,h,hi=>by
  simp only[mpInts,Bool.and_eq_true]at h
  rw[List.findIdx?_cons,keyIs_iff h.1]at hi
  by_cases hk:keyI e=j
  ·simp only[hk,decide_true,if_true,Option.some.injEq]at hi
   subst hi
   simp only[List.modify_zero_cons]
   refine⟨by simp only[mpInts,Bool.true_and];exact h.2,?_,?_⟩
   ·simp only[List.map_cons,List.cons.injEq,and_true];rw[hk];rfl
   ·intro j'
    rw[mpFind_cons (by rfl),mpFind_cons h.1]
    have:keyI {key:=Value.int IntKind.i64 j,val:=y,born:=e.born}=j:=rfl
    simp only[this,hk]
    by_cases h':j'=j
    ·rw[if_pos h'.symm,if_pos h']
    ·rw[if_neg (fun e=>h' (Eq.symm e)),if_neg (fun e=>h' (Eq.symm e)),if_neg h']
  ·simp only[hk,decide_false,Bool.false_eq_true,if_false,Option.map_eq_some_iff]at hi
   obtain⟨i',hi',rfl⟩:=hi
   obtain⟨a1,a2,a3⟩:=mp_set (y:=y) h.2 hi'
   simp only[List.modify_succ_cons]
   refine⟨by simp only[mpInts,Bool.and_eq_true];exact⟨h.1,a1⟩,?_,?_⟩
   ·simp only[List.map_cons,List.cons.injEq,true_and];exact a2
   ·intro j'
    rw[mpFind_cons h.1,mpFind_cons h.1,a3 j']
    by_cases h':keyI e=j'
    ·rw[if_pos h',if_pos h',if_neg (fun e'=>hk (h'.trans e'))]
    ·rw[if_neg h',if_neg h']
theorem mp_push{j:Int}{y:Value}{c:Nat}:∀{l:List MapEntry},mpInts l=true→l.findIdx? (keyIs j)=none→
 let l':=l++[⟨.int .i64 j,y,c⟩]
 mpInts l'=true∧j∉l.map keyI∧l'.map keyI=l.map keyI++[j]∧∀j',mpFind j' l'=if j'=j then some y else mpFind j' l
 |[],_,_=>by
  refine⟨rfl,by simp,rfl,fun j'=>?_⟩
  simp only[List.nil_append,mpFind]
  by_cases h:j'=j
  ·rw[if_pos h.symm,if_pos h]
  ·rw[if_neg (fun e=>h (Eq.symm e)),if_neg h]
 |e::r,h,hi=>by
  simp only[mpInts,Bool.and_eq_true]at h
  rw[List.findIdx?_cons,keyIs_iff h.1]at hi
  by_cases hk:keyI e=j
  ·simp[hk]at hi
  ·simp only[hk,decide_false,Bool.false_eq_true,if_false,Option.map_eq_none_iff]at hi
   obtain⟨a1,a2,a3,a4⟩:=mp_push (y:=y) (c:=c) h.2 hi
   refine⟨by simp only[List.cons_append,mpInts,Bool.and_eq_true];exact⟨h.1,a1⟩,?_,by simp only[List.cons_append,List.map_cons,a3],?_⟩
   ·simp only[List.map_cons,List.mem_cons,not_or];exact⟨fun e=>hk e.symm,a2⟩
   ·intro j'
    rw[List.cons_append,mpFind_cons h.1,mpFind_cons h.1,a4 j']
    by_cases h':keyI e=j'
    ·rw[if_pos h',if_pos h',if_neg (fun e'=>hk (h'.trans e'))]
    ·rw[if_neg h',if_neg h']
theorem mp_del{j:Int}:∀{l:List MapEntry} {i:Nat},mpInts l=true→(l.map keyI).Nodup→l.findIdx? (keyIs j)=some i→
 mpInts (l.eraseIdx i)=true∧((l.eraseIdx i).map keyI).Nodup∧∀j',mpFind j' (l.eraseIdx i)=if j'=j then none else mpFind j' l
 |[],i,_,_,hi=>by simp at hi
 |e::r,i,h,hn,hi=>by
  simp only[mpInts,Bool.and_eq_true]at h
  simp only[List.map_cons,List.nodup_cons]at hn
  rw[List.findIdx?_cons,keyIs_iff h.1]at hi
  by_cases hk:keyI e=j
  ·simp only[hk,decide_true,if_true,Option.some.injEq]at hi
   subst hi
   simp only[List.eraseIdx_zero,List.tail_cons]
   refine⟨h.2,hn.2,fun j'=>?_⟩
   rw[mpFind_cons h.1]
   by_cases h':j'=j
   ·rw[if_pos h',h'];exact(mpFind_none h.2).2 (by rw[←hk];exact hn.1)
   ·rw[if_neg h',if_neg (fun e'=>h' (by rw[←e',hk]))]
  ·simp only[hk,decide_false,Bool.false_eq_true,if_false,Option.map_eq_some_iff]at hi
   obtain⟨i',hi',rfl⟩:=hi
   obtain⟨a1,a2,a3⟩:=mp_del h.2 hn.2 hi'
   simp only[List.eraseIdx_cons_succ]
   refine⟨by simp only[mpInts,Bool.and_eq_true];exact⟨h.1,a1⟩,?_,fun j'=>?_⟩
   ·simp only[List.map_cons,List.nodup_cons]
    refine⟨fun hm=>hn.1 ?_,a2⟩
    exact List.Sublist.subset ((List.eraseIdx_sublist _ _).map keyI) hm
   ·rw[mpFind_cons h.1,mpFind_cons h.1,a3 j']
    by_cases h':keyI e=j'
    ·rw[if_pos h',if_pos h',if_neg (fun e'=>hk (h'.trans e'))]
    ·rw[if_neg h',if_neg h']
theorem mpSet_A{b:Nat}{g:Int→Option Value}{es:Array MapEntry}{c:Nat}{j:Int}{y:Value}(h1:mpInts es.toList=true)(h2:(es.toList.map keyI).Nodup)(h3:∀j,mpFind j es.toList=g j):
 mpA b (fun i=>if i=j then some y else g i) (one b (mpSet es c (.int .i64 j) j y)):=by
 unfold mpSet
 cases hf:es.toList.findIdx? (keyIs j)with
 |some i=>
  obtain⟨a1,a2,a3⟩:=mp_set (y:=y) h1 hf
  refine⟨_,c,rfl,?_⟩
  rw[Array.toList_modify]
  exact⟨a1,by rw[a2];exact h2,fun j'=>by rw[a3 j',h3 j']⟩
 |none=>
  obtain⟨a1,a2,a3,a4⟩:=mp_push (y:=y) (c:=c) h1 hf
  refine⟨_,c+1,rfl,?_⟩
  rw[Array.toList_push]
  exact⟨a1,by rw[a3];exact List.nodup_append.2 ⟨h2,by simp,fun x hx y hy e=>by simp at hy;subst hy;subst e;exact a2 hx⟩,fun j'=>by rw[a4 j',h3 j']⟩
theorem mpDel_A{b:Nat}{g:Int→Option Value}{es:Array MapEntry}{c:Nat}{j:Int}(h1:mpInts es.toList=true)(h2:(es.toList.map keyI).Nodup)(h3:∀j,mpFind j es.toList=g j):
 mpA b (fun i=>if i=j then none else g i) (one b (mpDel es c j)):=by
 unfold mpDel
 cases hf:es.toList.findIdx? (keyIs j)with
 |some i=>
  obtain⟨a1,a2,a3⟩:=mp_del h1 h2 hf
  refine⟨_,c,rfl,?_⟩
  rw[Array.toList_eraseIdxIfInBounds]
  exact⟨a1,a2,fun j'=>by rw[a3 j',h3 j']⟩
 |none=>
  refine⟨es,c,rfl,h1,h2,fun j'=>?_⟩
  rw[h3 j']
  show g j'=if j'=j then none else g j'
  by_cases e:j'=j
  ·rw[if_pos e,e,←h3 j]
   refine(mpFind_none h1).2 fun hm=>?_
   obtain⟨x,hx,hk⟩:=List.mem_map.1 hm
   have:=List.findIdx?_eq_none_iff.1 hf x hx
   have hx2:∀{l:List MapEntry},mpInts l=true→x∈l→(match x.key with|.int .i64 _=>true|_=>false)=true:=by
    intro l
    induction l with
    |nil=>intro _ h;cases h
    |cons e r ih=>
     intro h hm
     simp only[mpInts,Bool.and_eq_true]at h
     rcases List.mem_cons.1 hm with rfl|hm
     ·exact h.1
     ·exact ih h.2 hm
   rw[keyIs_iff (hx2 h1 hx),hk]at this
   simp at this
  ·rw[if_neg e]
def UpC(p:St→Mem→Prop):Prop:=∀S M M',M.le M'→p S M→p S M'
theorem upP_up(post:St→List Asr→Prop):UpC (upP post):=fun S M M' l ⟨As,m,h1,h2,h3⟩=>⟨As,m,Mem.le_trans h1 l,h2,h3⟩
theorem le_none{M M':Mem}(l:M.le M'){b:Nat}(h:M' b=none):M b=none:=by
 cases e:M b with
 |none=>rfl
 |some k=>rw[l b k e]at h;cases h
theorem Qt.up{P:Program}{f:FuncId}{args:List Value}{M M':Mem}{v:Value}(l:M.le M')(h:Qt P f args M v):Qt P f args M' v:=by
 have hd:Disj M (fun x=>match M x with|none=>M' x|some _=>none):=fun x=>by
  cases e:M x with
  |none=>exact .inl rfl
  |some k=>right;simp only[e]
 have he:M.un (fun x=>match M x with|none=>M' x|some _=>none)=M':=by
  funext x
  cases e:M x with
  |none=>rw[un_n e];simp only[e]
  |some k=>rw[un_l e,l x k e]
 have:=Fn.frame hd h
 rw[he]at this
 refine this.mono ?_
 rintro v' M1 ⟨m',⟨h1,h2⟩,_,h3⟩
 subst h2
 exact⟨h1,h3.trans he⟩
theorem fe_up{P:Program}{f:Nat→SV}{M M':Mem}(l:M.le M'){k:K}{sv:SV}(h:FE P f M k sv):FE P f M' k sv:=by
 rcases h with h|h
 ·exact .inl h
 ·right
  cases k<;>(try(exact h.elim))<;>(try exact h)
  case load one n x=>
   obtain⟨b,o,cs,v,h1,h2,h3,h4⟩:=h
   exact⟨b,o,cs,v,h1,h2.imp (l _ _) (fun⟨t,fr,e⟩=>⟨t,fr,l _ _ e⟩),h3,h4⟩
  case alloc ow z=>cases ow<;>first|exact h.elim|exact h
  case box ow z=>cases ow<;>first|exact h.elim|exact h
  case bslice ow len size z ps=>cases ow<;>first|exact h.elim|exact h
  case look one z ok x i=>
   obtain⟨es,c,j,h1,h2⟩:=h
   refine⟨es,c,j,h1.imp id (fun⟨b,e1,e2⟩=>⟨b,e1,l _ _ e2⟩),h2⟩
  case qcall g xs=>
   obtain⟨args,r,h1,h2,h3⟩:=h
   exact⟨args,r,h1,h2.up l,h3⟩
theorem srcV_up{M M':Mem}(l:M.le M'){size:Nat}{v:Value}{s:List Value×Nat}(h:srcC.srcV M size v=some s):srcC.srcV M' size v=some s:=by
 unfold srcC.srcV at*
 split at h
 ·exact h
 ·rename_i b o k c
  split at h
  ·rename_i cs hM;simp only[l _ _ hM];exact h
  ·cases h
 ·exact h
 ·cases h
theorem src_up{f:Nat→SV}{M M':Mem}(l:M.le M'){size:Nat}{x:Operand}{s:List Value×Nat}(h:srcC f M size x=some s):srcC f M' size x=some s:=by
 unfold srcC at*
 split at h
 ·split at h
  ·exact h
  ·exact srcV_up l h
  ·cases h
 ·exact srcV_up l h
 ·cases h
theorem appM_up{M M':Mem}(l:M.le M'){size bytes:Nat}{s:Value}{src:List Value}{k:Nat}{q:Value→Mem→Prop}(hq:∀v M M',M.le M'→q v M→q v M')(h:appM M size bytes s src k q):appM M' size bytes s src k q:=by
 unfold appM at*
 split at h
 ·obtain⟨h1,h2,h3,h4⟩:=h
  refine⟨h1,h2,h3,?_⟩
  rcases h4 with⟨h5,h6⟩|⟨h5,h6⟩
  ·exact .inl ⟨h5,hq _ _ _ l h6⟩
  ·exact .inr ⟨h5,fun b c z e1 e2 e3=>hq _ _ _ (Mem.upd_le_upd l _ _) (h6 b c z (le_none l e1) e2 e3)⟩
 ·obtain⟨cs,h1,h2,h4⟩:=h
  refine⟨cs,l _ _ h1,h2,?_⟩
  rcases h4 with⟨h5,h6,h7⟩|⟨h5,h6,h7⟩
  ·exact .inl ⟨h5,h6,hq _ _ _ (Mem.upd_le_upd l _ _) h7⟩
  ·exact .inr ⟨h5,h6,fun b c z e1 e2 e3=>hq _ _ _ (Mem.upd_le_upd l _ _) (h7 b c z (le_none l e1) e2 e3)⟩
 ·exact h
theorem vcK_up{P:Program}{k:K}{d:Option Nat}{p:St→Mem→Prop}(hp:UpC p){S:St}{M M':Mem}(l:M.le M')(h:vcK P k d p S M):vcK P k d p S M':=by
 have flo:(∃sv,FE P S M k sv∧p (if sv.isBox then putB S d sv else put S d sv) M)→∃sv,FE P S M' k sv∧p (if sv.isBox then putB S d sv else put S d sv) M':=
  fun⟨sv,h1,h2⟩=>⟨sv,fe_up l h1,hp _ _ _ l h2⟩
 cases k
 case call=>obtain⟨args,h1,h2⟩:=h;exact⟨args,h1,h2.le l⟩
 case callv=>obtain⟨g,u,c,args,h1,h2,h3,h4⟩:=h;exact⟨g,u,c,args,h1,h2,h3,h4.le l⟩
 case store=>
  obtain⟨v,h1,h2,h3,h4⟩:=h
  refine⟨v,h1,h2,h3,?_⟩
  rcases h4 with⟨s,o,cs,a1,a2,a3,a4⟩|⟨b,o,cs,a1,a2,a3,a4⟩
  ·exact .inl ⟨s,o,cs,a1,a2,a3,hp _ _ _ l a4⟩
  ·exact .inr ⟨b,o,cs,a1,l _ _ a2,a3,hp _ _ _ (Mem.upd_le_upd l _ _) a4⟩
 case alloc ow z=>
  cases ow with
  |false=>exact fun b hb=>hp _ _ _ (Mem.upd_le_upd l _ _) (h b (le_none l hb))
  |true=>exact flo h
 case box ow x=>
  cases ow with
  |false=>obtain⟨v,h1,h2⟩:=h;exact⟨v,h1,fun b hb=>hp _ _ _ (Mem.upd_le_upd l _ _) (h2 b (le_none l hb))⟩
  |true=>exact flo h
 case bslice ow len size z ps=>
  cases ow with
  |false=>obtain⟨v,h1,h2⟩:=h;exact⟨v,h1,fun b hb=>hp _ _ _ (Mem.upd_le_upd l _ _) (h2 b (le_none l hb))⟩
  |true=>exact flo h
 case mkslice=>obtain⟨n,m,h1,h2,h3,h4,h5,h6⟩:=h;exact⟨n,m,h1,h2,h3,h4,h5,fun b hb=>hp _ _ _ (Mem.upd_le_upd l _ _) (h6 b (le_none l hb))⟩
 case app=>obtain⟨sv,src,n,h1,h2,h3,h4⟩:=h;exact⟨sv,src,n,h1,src_up l h2,h3,appM_up l (fun _ _ _ l h=>hp _ _ _ l h) h4⟩
 case appz=>obtain⟨sv,n,h1,h2,h3,h4,h5⟩:=h;exact⟨sv,n,h1,h2,h3,h4,appM_up l (fun _ _ _ l h=>hp _ _ _ l h) h5⟩
 case mkmap=>exact fun b hb=>hp _ _ _ (Mem.upd_le_upd l _ _) (h b (le_none l hb))
 case mupd=>obtain⟨b,es,c,j,v,h1,h2,h3,h4,h5,h6⟩:=h;exact⟨b,es,c,j,v,h1,l _ _ h2,h3,h4,h5,hp _ _ _ (Mem.upd_le_upd l _ _) h6⟩
 case mdel=>obtain⟨b,es,c,j,h1,h2,h3,h4,h5⟩:=h;exact⟨b,es,c,j,h1,l _ _ h2,h3,h4,hp _ _ _ (Mem.upd_le_upd l _ _) h5⟩
 all_goals exact flo h
theorem vcL_up{P:Program}{p:St→Mem→Prop}(hp:UpC p):∀l:List I,UpC (vcL P l p)
 |[]=>hp
 |i::r=>fun S M M' le h=>by
  have ih:=vcL_up (P:=P) hp r
  show vcO P i (vcL P r p) S M'
  have h:vcO P i (vcL P r p) S M:=h
  unfold vcO at*
  split at h
  ·exact vcK_up ih le h
  ·split at h
   ·exact⟨fun e=>vcK_up ih le (h.1 e),fun e=>ih _ _ _ le (h.2 e)⟩
   ·exact ih _ _ _ le h
   ·exact h
theorem LA.at{P:Program}{l:List I}{post:St→List Asr→Prop}{S:St}{As:List Asr}(h:LA P l post S As){m M:Mem}(s:star As m)(le:m.le M):VL P l (upP post) S M:=
 ⟨vcL_up (upP_up post) l S m M le (h.out m s).out⟩
section
variable {P:Program} {S:St} {As:List Asr} {post:St→List Asr→Prop} {r:List I} {d:Option Nat}
theorem a_n(h:post S As):LA P [] post S As:=⟨fun m hm=>vl_nil (upP_of hm h)⟩
theorem a_p{k:K}{sv:SV}(h:pe S k=some sv)(hp:LA P r post (put S d sv) As):LA P (⟨d,none,k⟩::r) post S As:=⟨fun m hm=>vl_pure h (hp.out m hm)⟩
theorem a_ad{x y:Operand}{a b:Int}(hx:ev S x=some (.int .i64 a))(hy:ev S y=some (.int .i64 b))(hb: -9223372036854775808≤a+b∧a+b≤9223372036854775807)
 (hp:LA P r post (put S d (.v (.int .i64 (a+b)))) As):LA P (⟨d,none,.bin .add x y⟩::r) post S As:=⟨fun m hm=>vl_add hx hy hb (hp.out m hm)⟩
theorem a_su{x y:Operand}{a b:Int}(hx:ev S x=some (.int .i64 a))(hy:ev S y=some (.int .i64 b))(hb: -9223372036854775808≤a-b∧a-b≤9223372036854775807)
 (hp:LA P r post (put S d (.v (.int .i64 (a-b)))) As):LA P (⟨d,none,.bin .sub x y⟩::r) post S As:=⟨fun m hm=>vl_sub hx hy hb (hp.out m hm)⟩
theorem a_ml{x y:Operand}{a b:Int}(hx:ev S x=some (.int .i64 a))(hy:ev S y=some (.int .i64 b))(hb: -9223372036854775808≤a*b∧a*b≤9223372036854775807)
 (hp:LA P r post (put S d (.v (.int .i64 (a*b)))) As):LA P (⟨d,none,.bin .mul x y⟩::r) post S As:=⟨fun m hm=>vl_mul hx hy hb (hp.out m hm)⟩
theorem a_i{e:D}{x y:Operand}{size n cap:Nat}{k:IntKind}{i:Int}(hx:ev S x=some (.slice e.a n cap))(hy:ev S y=some (.int k i))(hb:Kn As (e.a=some ⟨e.b,e.o,none⟩))(hi:0≤i∧i<n)
 (hp:LA P r post (put S d (.v (.pointer (some ⟨e.b,e.o+i.toNat*size,none⟩)))) As):LA P (⟨d,none,.iaddr size x y⟩::r) post S As:=
 ⟨fun m hm=>vl_idx (by rw[hx,hb.out m hm]) hy hi (hp.out m hm)⟩
theorem a_l{n:Nat}{x:Operand}{b o:Nat}{v:Value}(hx:lc S x=some (.mm b o))(hv:Rd As b o v)(hp:LA P r post (put S d (.v v)) As):LA P (⟨d,none,.load true n x⟩::r) post S As:=
 ⟨fun m hm=>vl_ld hx (hv.out m hm) (hp.out m hm)⟩
theorem a_ls{n:Nat}{x:Operand}{b o:Nat}{vs:List Value}(hx:lc S x=some (.mm b o))(hv:Rs As b o n vs)(hp:LA P r post (put S d (.v (.agg vs.toArray))) As):LA P (⟨d,none,.load false n x⟩::r) post S As:=
 ⟨fun m hm=>vl_lds hx (hv.out m hm) (hp.out m hm)⟩
theorem a_al{z:List Value}(hp:LA P r post (putB S d (.box z)) As):LA P (⟨d,none,.alloc true z⟩::r) post S As:=⟨fun m hm=>vl_alloc (hp.out m hm)⟩
theorem a_bx{x:Operand}{v:Value}{cs:List Value}(hx:ev S x=some v)(hc:v.cells.toList=cs)(hp:LA P r post (putB S d (.box cs)) As):LA P (⟨d,none,.box true x⟩::r) post S As:=⟨fun m hm=>vl_box hx hc (hp.out m hm)⟩
theorem a_bl{len size:Nat}{z cs:List Value}{ps:List (Nat×Nat×Operand)}(hf:fillP S z ps=some cs)(hp:LA P r post (putB S d (.bsl cs len)) As):LA P (⟨d,none,.bslice true len size z ps⟩::r) post S As:=⟨fun _ hm=>vl_bsl hf (hp.out _ hm)⟩
theorem a_q{g:FuncId}{xs:List Operand}{args:List Value}{v:Value}(hx:evs S xs=some args)(hq:∀m,star As m→Qt P g args m v)(hp:LA P r post (put S d (.v v)) As):LA P (⟨d,none,.qcall g xs⟩::r) post S As:=⟨fun m hm=>vl_q hx (hq m hm) (hp.out m hm)⟩
theorem a_cq{g:FuncId}{xs:List Operand}{args:List Value}{v:Value}(hx:evs S xs=some args)(hq:∀m,star As m→Qt P g args m v)(hp:LA P r post (put S d (.v v)) As):LA P (⟨d,none,.call g xs⟩::r) post S As:=⟨fun m hm=>vl_cq hx (hq m hm) (hp.out m hm)⟩
theorem a_c{g:FuncId}{xs:List Operand}{args:List Value}{As1 F:List Asr}{q:Value→List Asr→Prop}(hx:evs S xs=some args)(hq:FnA P g args As1 q)(hm:Pm As As1 F)(hp:∀v As',q v As'→LA P r post (put S d (.v v)) (As'++F)):
 LA P (⟨d,none,.call g xs⟩::r) post S As:=
 ⟨fun m s=>vl_c hx ((hq.frame (F:=F)).out m (hm.out m s)) (fun v M' ⟨As',m',l,s',As1',h1,e⟩=>by subst e;exact(hp v As1' h1).at s' l)⟩
theorem a_cv{g:FuncId}{x:Operand}{u c:Array Value}{xs:List Operand}{args:List Value}{As1 F:List Asr}{q:Value→List Asr→Prop}(hf:ev S x=some (.func (.func g) u c))(hok:fnOk P g=true)(hx:evs S xs=some args)(hq:FnA P g (u.toList++args++c.toList) As1 q)(hm:Pm As As1 F)
 (hp:∀v As',q v As'→LA P r post (put S d (.v v)) (As'++F)):LA P (⟨d,none,.callv x xs⟩::r) post S As:=
 ⟨fun m s=>vl_cv hf hok hx ((hq.frame (F:=F)).out m (hm.out m s)) (fun v M' ⟨As',m',l,s',As1',h1,e⟩=>by subst e;exact(hp v As1' h1).at s' l)⟩
theorem a_cvq{g:FuncId}{x:Operand}{u c:Array Value}{xs:List Operand}{args:List Value}{v:Value}(hf:ev S x=some (.func (.func g) u c))(hok:fnOk P g=true)(hx:evs S xs=some args)(hq:∀m,star As m→Qt P g (u.toList++args++c.toList) m v)
 (hp:LA P r post (put S d (.v v)) As):LA P (⟨d,none,.callv x xs⟩::r) post S As:=
 ⟨fun m s=>vl_cv hf hok hx (hq m s) (fun v' M' ⟨h1,h2⟩=>by subst h1;rw[h2];exact hp.out m s)⟩
theorem a_sw{n:Nat}{x y:Operand}{s o:Nat}{cs:List Value}{v:Value}(hx:lc S x=some (.bx s o))(hb:S s=.box cs)(hy:ev S y=some v)(hn:v.cells.size=n)(hpl:plainCells v.cells.toList=true)(hle:o+n≤cs.length)
 (hw:WrK cs o v.cells.toList (fun cs'=>LA P r post (upF S s (.box cs')) As)):LA P (⟨d,none,.store n x y⟩::r) post S As:=⟨fun m hm=>vl_stb hx hb hy hn hpl hle rfl (hw.out.out m hm)⟩
theorem a_st{n:Nat}{x y:Operand}{b o:Nat}{v:Value}{As':List Asr}(hx:lc S x=some (.mm b o))(hy:ev S y=some v)(hn:v.cells.size=n)(hpl:plainCells v.cells.toList=true)(hu:Up As b o v.cells.toList As')
 (hp:LA P r post S As'):LA P (⟨d,none,.store n x y⟩::r) post S As:=
 ⟨fun m hm=>by
   obtain⟨row,h1,h2,h3⟩:=hu.out m hm
   exact vl_stm hx h1 hy hn hpl (by simp only[Array.length_toList]at h2;omega) (hp.out _ h3)⟩
theorem a_gy{s:Nat}{w:Bool}{k:K}{b:Bool}(hs:S s=.v (.bool b))(hb:b=w)(hp:LA P (⟨d,none,k⟩::r) post S As):LA P (⟨d,some (s,w),k⟩::r) post S As:=⟨fun m hm=>vl_gy hs hb (hp.out m hm)⟩
theorem a_gn{s:Nat}{w:Bool}{k:K}{b:Bool}(hs:S s=.v (.bool b))(hb:b= !w)(hp:LA P r post (put S d (.v undef)) As):LA P (⟨d,some (s,w),k⟩::r) post S As:=⟨fun m hm=>vl_gn hs hb (hp.out m hm)⟩
theorem a_gu{s:Nat}{w:Bool}{k:K}(hs:S s=.v undef)(hp:LA P r post (put S d (.v undef)) As):LA P (⟨d,some (s,w),k⟩::r) post S As:=⟨fun m hm=>vl_gu hs (hp.out m hm)⟩
theorem a_gs{s:Nat}{wt:Bool}{k:K}{b:Bool}(hs:S s=.v (.bool b))(h1:b=true→LA P (⟨d,some (s,wt),k⟩::r) post (upF S s (.v (.bool true))) As)(h2:b=false→LA P (⟨d,some (s,wt),k⟩::r) post (upF S s (.v (.bool false))) As):LA P (⟨d,some (s,wt),k⟩::r) post S As:=by
 cases b
 ·have:=h2 rfl;rwa [upF_self hs]at this
 ·have:=h1 rfl;rwa [upF_self hs]at this
theorem a_gd{s:Nat}{wt:Bool}{k:K}{p:Prop}{_:Decidable p}(hs:S s=.v (.bool (decide p)))(h1:p→LA P (⟨d,some (s,wt),k⟩::r) post (upF S s (.v (.bool true))) As)(h2:¬p→LA P (⟨d,some (s,wt),k⟩::r) post (upF S s (.v (.bool false))) As):LA P (⟨d,some (s,wt),k⟩::r) post S As:=
 a_gs hs (fun h=>h1 (of_decide_eq_true h)) (fun h=>h2 (of_decide_eq_false h))
theorem a_ge{s:Nat}{wt:Bool}{k:K}{u w:Int}(hs:S s=.v (.bool (u==w)))(h1:u=w→LA P (⟨d,some (s,wt),k⟩::r) post (upF S s (.v (.bool true))) As)(h2:u≠w→LA P (⟨d,some (s,wt),k⟩::r) post (upF S s (.v (.bool false))) As):LA P (⟨d,some (s,wt),k⟩::r) post S As:=
 a_gs hs (fun h=>h1 (by simpa using h)) (fun h=>h2 (by simpa using h))
theorem a_gne{s:Nat}{wt:Bool}{k:K}{u w:Int}(hs:S s=.v (.bool (u !=w)))(h1:u≠w→LA P (⟨d,some (s,wt),k⟩::r) post (upF S s (.v (.bool true))) As)(h2:u=w→LA P (⟨d,some (s,wt),k⟩::r) post (upF S s (.v (.bool false))) As):LA P (⟨d,some (s,wt),k⟩::r) post S As:=
 a_gs hs (fun h=>h1 (by simpa using h)) (fun h=>h2 (by simpa using h))
theorem a_gnd{s:Nat}{wt:Bool}{k:K}{p:Prop}{_:Decidable p}(hs:S s=.v (.bool (!decide p)))(h1:¬p→LA P (⟨d,some (s,wt),k⟩::r) post (upF S s (.v (.bool true))) As)(h2:p→LA P (⟨d,some (s,wt),k⟩::r) post (upF S s (.v (.bool false))) As):LA P (⟨d,some (s,wt),k⟩::r) post S As:=
 a_gs hs (fun h=>h1 (by simpa using h)) (fun h=>h2 (by simpa using h))
theorem a_ps{s:Nat}{x y:Operand}{b:Bool}(hs:S s=.v (.bool b))(h1:b=true→LA P (⟨d,none,.pick (.tmp s) x y⟩::r) post (upF S s (.v (.bool true))) As)(h2:b=false→LA P (⟨d,none,.pick (.tmp s) x y⟩::r) post (upF S s (.v (.bool false))) As):LA P (⟨d,none,.pick (.tmp s) x y⟩::r) post S As:=by
 cases b
 ·have:=h2 rfl;rwa [upF_self hs]at this
 ·have:=h1 rfl;rwa [upF_self hs]at this
theorem a_pd{s:Nat}{x y:Operand}{p:Prop}{_:Decidable p}(hs:S s=.v (.bool (decide p)))(h1:p→LA P (⟨d,none,.pick (.tmp s) x y⟩::r) post (upF S s (.v (.bool true))) As)(h2:¬p→LA P (⟨d,none,.pick (.tmp s) x y⟩::r) post (upF S s (.v (.bool false))) As):LA P (⟨d,none,.pick (.tmp s) x y⟩::r) post S As:=
 a_ps hs (fun h=>h1 (of_decide_eq_true h)) (fun h=>h2 (of_decide_eq_false h))
theorem a_pe{s:Nat}{x y:Operand}{u w:Int}(hs:S s=.v (.bool (u==w)))(h1:u=w→LA P (⟨d,none,.pick (.tmp s) x y⟩::r) post (upF S s (.v (.bool true))) As)(h2:u≠w→LA P (⟨d,none,.pick (.tmp s) x y⟩::r) post (upF S s (.v (.bool false))) As):LA P (⟨d,none,.pick (.tmp s) x y⟩::r) post S As:=
 a_ps hs (fun h=>h1 (by simpa using h)) (fun h=>h2 (by simpa using h))
theorem a_pne{s:Nat}{x y:Operand}{u w:Int}(hs:S s=.v (.bool (u !=w)))(h1:u≠w→LA P (⟨d,none,.pick (.tmp s) x y⟩::r) post (upF S s (.v (.bool true))) As)(h2:u=w→LA P (⟨d,none,.pick (.tmp s) x y⟩::r) post (upF S s (.v (.bool false))) As):LA P (⟨d,none,.pick (.tmp s) x y⟩::r) post S As:=
 a_ps hs (fun h=>h1 (by simpa using h)) (fun h=>h2 (by simpa using h))
theorem a_pnd{s:Nat}{x y:Operand}{p:Prop}{_:Decidable p}(hs:S s=.v (.bool (!decide p)))(h1:¬p→LA P (⟨d,none,.pick (.tmp s) x y⟩::r) post (upF S s (.v (.bool true))) As)(h2:p→LA P (⟨d,none,.pick (.tmp s) x y⟩::r) post (upF S s (.v (.bool false))) As):LA P (⟨d,none,.pick (.tmp s) x y⟩::r) post S As:=
 a_ps hs (fun h=>h1 (by simpa using h)) (fun h=>h2 (by simpa using h))
theorem star_new{A:Asr}{m:Mem}{b:Nat}{k:Bk}(s:star As m)(hb:m b=none)(hA:A (one b k)):star (A::As) (m.upd b k):=
 ⟨one b k,m,disj_one k hb,upd_one k hb,hA,s⟩
theorem a_nw{x:Operand}{v:Value}{vs:List Value}(hx:ev S x=some v)(hc:v.cells.toList=vs)(hp:∀b,LA P r post (put S d (.v (.pointer (some ⟨b,0,none⟩)))) (bx b vs::As)):LA P (⟨d,none,.box false x⟩::r) post S As:=
 ⟨fun m hm=>⟨⟨v,hx,fun b hb=>by subst hc;exact((hp b).out _ (star_new hm hb rfl)).out⟩⟩⟩
theorem a_nz{z:List Value}(hp:∀b,LA P r post (put S d (.v (.pointer (some ⟨b,0,none⟩)))) (bx b z::As)):LA P (⟨d,none,.alloc false z⟩::r) post S As:=
 ⟨fun m hm=>⟨fun b hb=>((hp b).out _ (star_new hm hb rfl)).out⟩⟩
theorem a_mk{α:Type}{f:α→List Value}{size bytes:Nat}{z:List Value}(e:α){l c:Operand}{n k:Int}(hs:∀x,(f x).length=size)(hz:f e=z)
 (hl:ev S l=some (.int .i64 n)) (hc:ev S c=some (.int .i64 k)) (hnm:0≤n∧n≤k) (hb:k*bytes≤140737488355328∧k≤140737488355328)
 (hp:∀g:D,g.cap=k.toNat→LA P r post (put S d (.v (.slice g.a n.toNat g.cap))) (slA size f g (List.replicate n.toNat e)::As)):LA P (⟨d,none,.mkslice size bytes z l c⟩::r) post S As:=
 ⟨fun m hm=>⟨⟨n.toNat,k.toNat,by rw[hl];congr 2;omega,by rw[hc];congr 2;omega,by omega,by
   have:((k.toNat*bytes:Nat):Int)≤140737488355328:=by rw[Int.natCast_mul,Int.toNat_of_nonneg (by omega)];exact hb.1
   omega,by omega,fun b hMb=>by
   subst hz
   refine((hp ⟨some ⟨b,0,none⟩,k.toNat⟩ rfl).out _ (star_new hm hMb ⟨?_,?_⟩)).out
   ·right
    refine⟨b,0,k.toNat,_,rfl,one_same _ _,by simp;omega,by simp;omega,?_,?_⟩
    ·rw[zrep_flat,flat_len hs];simp
    ·rw[zrep_flat,List.drop_zero,List.length_replicate]
     have:(List.replicate k.toNat e).flatMap f=(List.replicate n.toNat e).flatMap f++(List.replicate (k.toNat-n.toNat) e).flatMap f:=by
      rw[←List.flatMap_append,List.replicate_append_replicate,show n.toNat+(k.toNat-n.toNat)=k.toNat by omega]
     rw[this,List.take_left' (by rw[flat_len hs];simp)]
   ·intro c hc'
    exact one_ne _ (fun e=>hc' (by subst e;simp[own]))⟩⟩⟩
theorem Sl.own_s{M:Mem}{α:Type}{f:α→List Value}{size:Nat}{v:Value}{xs:List α}(h:Sl M size f v xs){c:Nat}(hc:c∈own v):M c≠none:=by
 rcases h with⟨c,rfl,_⟩|⟨b,o,cap,row,rfl,hM,_⟩
 ·simp[own]at hc
 ·simp[own]at hc;subst hc;rw[hM];simp
theorem app_star{α:Type}{f:α→List Value}{size:Nat}{e:D}{xs zs:List α}{R:List Asr}{m M':Mem}{v':Value}(s:star (slA size f e xs::R) m)(ha:AppE m (.slice e.a xs.length e.cap) v' M')(hs:Sl M' size f v' (xs++zs)):
 ∃e':D,v'=.slice e'.a (xs++zs).length e'.cap∧∃m',m'.le M'∧star (slA size f e' (xs++zs)::R) m':=by
 obtain⟨a,c,dj,rfl,hA,hR⟩:=s
 obtain⟨a',cap',rfl⟩:=hs.len
 refine⟨⟨a',cap'⟩,rfl,?_⟩
 have sub:∀(L:List Nat) (M1:Mem),Sl M1 size f (.slice a' (xs++zs).length cap') (xs++zs)→(∀b,b∈own (.slice a' (xs++zs).length cap')→b∈L)→Sl (fun b=>if b∈L then M1 b else none) size f (.slice a' (xs++zs).length cap') (xs++zs):=by
  intro L M1 h hL
  rcases h with h|⟨b,o,cap,row,e1,hM,h3⟩
  ·exact .inl h
  ·refine .inr ⟨b,o,cap,row,e1,?_,h3⟩
   have:b∈L:=hL b (by rw[e1];simp[own])
   simp only[this,if_true];exact hM
 rcases ha with⟨rfl,ho⟩|⟨b,hoff,ho,hb⟩
 ·refine⟨a.un c,Mem.le_refl _,a,c,dj,rfl,⟨?_,?_⟩,hR⟩
  ·rcases hs with h|⟨b,o,cap,row,e1,hM,h3⟩
   ·exact .inl h
   ·refine .inr ⟨b,o,cap,row,e1,?_,h3⟩
    have hbo:b∈own (.slice e.a xs.length e.cap):=by rw[←ho,e1];simp[own]
    have hac:a b≠none:=Sl.own_s hA.1 hbo
    cases h:a b with
    |none=>exact absurd h hac
    |some k=>rw[un_l h]at hM;exact hM
  ·intro b hb
   exact hA.2 b (by rw[←ho];exact hb)
 ·have hcb:c b=none:=by
   rcases hb with hb|hb
   ·have:a b≠none:=Sl.own_s hA.1 (by rw[hb];simp)
    rcases dj b with h|h
    ·exact absurd h this
    ·exact h
   ·exact(un_none.1 hb).2
  refine⟨Mem.un (fun x=>if x∈[b]then M' x else none) c,?_,_,c,?_,rfl,⟨sub [b] M' hs (fun x hx=>by rw[ho]at hx;exact hx),?_⟩,hR⟩
  ·intro x k hk
   by_cases hx:x=b
   ·subst hx
    cases h:M' x with
    |none=>rw[un_n (by simp[h])]at hk;rw[hcb]at hk;cases hk
    |some k'=>rw[un_l (by simp;exact h)]at hk;exact hk
   ·rw[un_n (by simp[hx])]at hk
    rw[hoff x hx];exact un_r dj hk
  ·intro x
   by_cases hx:x=b
   ·subst hx;exact .inr hcb
   ·exact .inl (by simp[hx])
  ·intro x hx
   rw[ho]at hx
   simp only[hx,if_false]
theorem a_ap{α:Type}{f:α→List Value}{size bytes:Nat}{z:List Value}{xs:List α}{e:D}{R:List Asr}{t:Nat}{cs:List Value}{k:Nat}(zs:List α){s:Operand}(hm:Pk As (slA size f e xs) R)(hs:∀x,(f x).length=size)(h0:0<size∧0<bytes)
 (hv:ev S s=some (.slice e.a xs.length e.cap)) (ht:S t=.bsl cs k) (hc:cs=zs.flatMap f) (hk:zs.length=k) (hpl:plainCells cs=true) (hb:((xs.length:Int)+k)*bytes≤140737488355328)
 (hp:∀e':D,LA P r post (put S d (.v (.slice e'.a (xs++zs).length e'.cap))) (slA size f e' (xs++zs)::R)):LA P (⟨d,none,.app size bytes z s (.tmp t)⟩::r) post S As:=
 ⟨fun m hm'=>by
   have st:=hm.out m hm'
   have hsl:Sl m size f (.slice e.a xs.length e.cap) xs:=by
    obtain⟨a,c,dj,e1,hA,hR⟩:=st
    exact hA.1.le (by rw[e1];exact le_l _ _)
   subst hc
   refine⟨⟨_,zs.flatMap f,zs.length,hv,?_,hpl,appM_sl hs hsl h0.1 h0.2 ?_ (fun v' M' ha hs'=>?_)⟩⟩
   ·unfold srcC
    simp only[ht]
    rw[hk,if_pos (by rw[flat_len hs,hk])]
   ·have:(((xs.length+zs.length)*bytes:Nat):Int)≤140737488355328:=by rw[Int.natCast_mul,Int.natCast_add,hk];exact hb
    omega
   ·obtain⟨e',rfl,m',l,s'⟩:=app_star st ha hs'
    exact((hp e').at s' l).out⟩
theorem a_az{α:Type}{f:α→List Value}{size bytes:Nat}{z:List Value}{xs:List α}{e:D}{R:List Asr}{k:Int}(y:α){s x:Operand}(hm:Pk As (slA size f e xs) R)(hs:∀x,(f x).length=size)(h0:0<size∧0<bytes)(hz:f y=z)
 (hv:ev S s=some (.slice e.a xs.length e.cap)) (hx:ev S x=some (.int .i64 k)) (hk:0≤k∧k≤140737488355328) (hpl:plainCells z=true) (hb:((xs.length:Int)+k)*bytes≤140737488355328)
 (hp:∀e':D,LA P r post (put S d (.v (.slice e'.a (xs++List.replicate k.toNat y).length e'.cap))) (slA size f e' (xs++List.replicate k.toNat y)::R)):LA P (⟨d,none,.appz size bytes z s x⟩::r) post S As:=
 ⟨fun m hm'=>by
   have st:=hm.out m hm'
   have hsl:Sl m size f (.slice e.a xs.length e.cap) xs:=by
    obtain⟨a,c,dj,e1,hA,hR⟩:=st
    exact hA.1.le (by rw[e1];exact le_l _ _)
   subst hz
   refine⟨⟨_,k.toNat,hv,by rw[hx];congr 2;omega,by omega,hpl,?_⟩⟩
   have:=appM_sl (bytes:=bytes) (zs:=List.replicate k.toNat y) (post:=fun v' M'=>vcL P r (upP post) (put S d (.v v')) M') hs hsl h0.1 h0.2 ?_ (fun v' M' ha hs'=>?_)
   ·rw[List.length_replicate]at this
    rw[zrep_flat];exact this
   ·have:(((xs.length+k.toNat)*bytes:Nat):Int)≤140737488355328:=by rw[Int.natCast_mul,Int.natCast_add,Int.toNat_of_nonneg hk.1];exact hb
    rw[List.length_replicate];omega
   ·obtain⟨e',rfl,m',l,s'⟩:=app_star st ha hs'
    exact((hp e').at s' l).out⟩
theorem a_tk{e:D}{x:Operand}{hi:Option Operand}{size n:Nat}{k:IntKind}{i:Int}(hx:ev S x=some (.slice e.a n e.cap))(hh:optEv S hi=some (some (.int k i)))(hb:Kn As (e.a=none∨e.a=some ⟨e.b,e.o,none⟩))(hi0:0≤i∧i≤e.cap)
 (hp:LA P r post (put S d (.v (.slice e.a i.toNat e.cap))) As):LA P (⟨d,none,.slc size x none hi⟩::r) post S As:=
 ⟨fun m hm=>by
   refine vl_pure (sv:=.v (.slice e.a i.toNat e.cap)) ?_ (hp.out m hm)
   have h1:bnd (some (.int k i)) n=some i.toNat:=by show(if 0≤i then some i.toNat else none)=_;rw[if_pos hi0.1]
   have h2:optEv S none=some none:=rfl
   have h3:bnd none 0=some 0:=rfl
   simp only[pe,hx,hh,h2,slcV,h1,h3]
   rw[if_pos ⟨Nat.zero_le _,by omega⟩]
   rcases hb.out m hm with h|h<;>rw[h]<;>simp⟩
theorem a_dr{e:D}{x:Operand}{lo:Option Operand}{size n:Nat}{k:IntKind}{i:Int}(hx:ev S x=some (.slice e.a n e.cap))(hl:optEv S lo=some (some (.int k i)))(hb:Kn As (e.a=none∨e.a=some ⟨e.b,e.o,none⟩))(hi0:0≤i∧i≤n)(hc:Kn As (n≤e.cap))
 (hp:LA P r post (put S d (.v (.slice (e.drop size i.toNat).a (n-i.toNat) (e.drop size i.toNat).cap))) As):LA P (⟨d,none,.slc size x lo none⟩::r) post S As:=
 ⟨fun m hm=>by
   refine vl_pure (sv:=.v (.slice (e.drop size i.toNat).a (n-i.toNat) (e.drop size i.toNat).cap)) ?_ (hp.out m hm)
   have hcap:=hc.out m hm
   have h1:bnd (some (.int k i)) 0=some i.toNat:=by show(if 0≤i then some i.toNat else none)=_;rw[if_pos hi0.1]
   have h2:optEv S none=some none:=rfl
   have h3:bnd none n=some n:=rfl
   simp only[pe,hx,hl,h2,slcV,h1,h3]
   rw[if_pos ⟨by omega,by omega⟩]
   obtain⟨a,cp⟩:=e
   rcases hb.out m hm with h|h
   ·have h':a=none:=h
    subst h';rfl
   ·have h':a=some ⟨D.b ⟨a,cp⟩,D.o ⟨a,cp⟩,none⟩:=h
    generalize D.b ⟨a,cp⟩=b0,D.o ⟨a,cp⟩=o0 at h'
    subst h'
    rfl⟩
theorem a_mm(hp:∀b,LA P r post (put S d (.v (.map (some b)))) (mpA b (fun _=>none)::As)):LA P (⟨d,none,.mkmap⟩::r) post S As:=
 ⟨fun m hm=>⟨fun b hb=>((hp b).out _ (star_new hm hb ⟨#[],0,rfl,rfl,by simp,fun j=>rfl⟩)).out⟩⟩
theorem a_lk{one:Bool}{z:Value}{ok:Bool}{x i:Operand}{b:Nat}{g:Int→Option Value}{R:List Asr}{j:Int}{v:Value}(hm:Pk As (mpA b g) R)(hx:ev S x=some (.map (some b)))(hi:ev S i=some (.int .i64 j))
 (hv:(if ok then .tuple #[(g j).getD z,.bool (g j).isSome]else(g j).getD z)=v) (hp:LA P r post (put S d (.v v)) As):LA P (⟨d,none,.look one z ok x i⟩::r) post S As:=
 ⟨fun m hm'=>by
   obtain⟨a,c,dj,e1,⟨es,clk,e2,h1,h2,h3⟩,hR⟩:=hm.out m hm'
   refine⟨vcK_fe (k:=.look one z ok x i) (sv:=.v v) rfl (.inr ⟨es,clk,j,.inr ⟨b,hx,?_⟩,hi,h1,?_⟩) (hp.out m hm').out⟩
   ·rw[e1];exact un_l (by rw[e2];exact one_same _ _)
   ·rw[h3 j,hv]⟩
theorem a_mu{x i y:Operand}{b:Nat}{g:Int→Option Value}{R:List Asr}{j:Int}{v:Value}(hm:Pk As (mpA b g) R)(hx:ev S x=some (.map (some b)))(hi:ev S i=some (.int .i64 j))(hy:ev S y=some v)
 (hp:LA P r post (put S d (.v undef)) (mpA b (fun i=>if i=j then some v else g i)::R)):LA P (⟨d,none,.mupd x i y⟩::r) post S As:=
 ⟨fun m hm'=>by
   obtain⟨a,c,dj,e1,⟨es,clk,e2,h1,h2,h3⟩,hR⟩:=hm.out m hm'
   subst e1;subst e2
   refine⟨⟨b,es,clk,j,v,hx,un_l (one_same _ _),hi,hy,h1,(hp.out _ ?_).out⟩⟩
   have hcb:c b=none:=by
    rcases dj b with h|h
    ·rw[one_same]at h;cases h
    ·exact h
   rw[un_upd_l,one_upd]
   exact⟨_,c,disj_one _ hcb,rfl,mpSet_A h1 h2 h3,hR⟩⟩
theorem a_md{x i:Operand}{b:Nat}{g:Int→Option Value}{R:List Asr}{j:Int}(hm:Pk As (mpA b g) R)(hx:ev S x=some (.map (some b)))(hi:ev S i=some (.int .i64 j))
 (hp:LA P r post (put S d (.v (.tuple #[]))) (mpA b (fun i=>if i=j then none else g i)::R)):LA P (⟨d,none,.mdel x i⟩::r) post S As:=
 ⟨fun m hm'=>by
   obtain⟨a,c,dj,e1,⟨es,clk,e2,h1,h2,h3⟩,hR⟩:=hm.out m hm'
   subst e1;subst e2
   refine⟨⟨b,es,clk,j,hx,un_l (one_same _ _),hi,h1,(hp.out _ ?_).out⟩⟩
   have hcb:c b=none:=by
    rcases dj b with h|h
    ·rw[one_same]at h;cases h
    ·exact h
   rw[un_upd_l,one_upd]
   exact⟨_,c,disj_one _ hcb,rfl,mpDel_A h1 h2 h3,hR⟩⟩
theorem LA.ent{l:List I}{Bs:List Asr}(e:Ent As Bs)(h:LA P l post S Bs):LA P l post S As:=
 ⟨fun m hm=>by obtain⟨m',l',s⟩:=e.out m hm;exact h.at s l'⟩
end
end Go.Proofs.YtpleoapljeffiaaGreatDoor.E
set_option maxRecDepth 100000
namespace Go.Proofs.YtpleoapljeffiaaGreatDoor.E
open Go
theorem mixed:Tryz.prog.follows .mixedOrders=true:=Tryz.checked.mixed
noncomputable def e126:Env:=⟨Tryz.prog,[3,4],31,[(1,15),(2,10)]⟩
abbrev z3(a0:Nat)(a1:Nat):I:=⟨some a0,none,.mov (.tmp a1)⟩
abbrev z4(a0:Nat)(a1:Nat)(a2:Nat):I:=⟨some a0,none,.faddr a1 (.tmp a2)⟩
abbrev z5(a0:Nat)(a1:Nat)(a2:Nat):I:=⟨some a0,none,.load true a1 (.tmp a2)⟩
abbrev z6(a0:Nat)(a1:Nat):I:=⟨some a0,none,.nilCheck (.tmp a1)⟩
abbrev z7(a0:Nat)(a1:Nat)(a2:Nat):I:=⟨none,none,.store a0 (.tmp a1) (.tmp a2)⟩
abbrev z8(a0:Nat)(a1:Nat)(a2:Nat)(a3:Nat):I:=⟨some a0,none,.iaddr a1 (.tmp a2) (.tmp a3)⟩
abbrev z9(a0:Nat)(a1:Nat)(a2:Nat):I:=⟨some a0,none,.load false a1 (.tmp a2)⟩
abbrev zA(a0:Nat)(a1:Int):I:=⟨some a0,none,.mov (.const (.int .i64 a1))⟩
abbrev zC(a0:Nat)(a1:Nat)(a2:Int):I:=⟨some a0,none,.bin .eql (.tmp a1) (.const (.int .i64 a2))⟩
abbrev zD(a0:Nat)(a1:Nat)(a2:Int):I:=⟨some a0,none,.bin .add (.tmp a1) (.const (.int .i64 a2))⟩
abbrev zE(a0:Nat)(a1:Nat):I:=⟨some a0,none,.lenS (.tmp a1)⟩
abbrev zF(a0:Nat):I:=⟨some a0,none,.mov (.const (.bool false))⟩
abbrev zG(a0:Nat)(a1:Nat)(a2:Nat)(a3:Nat):I:=⟨some a0,none,.call a1 [.tmp a2,.tmp a3]⟩
abbrev zJ(a0:Nat)(a1:Nat)(a2:Nat)(a3:Nat):I:=⟨some a0,some (a1,true),.load true a2 (.tmp a3)⟩
abbrev zK(a0:Nat)(a1:Nat)(a2:Nat):I:=⟨some a0,none,.bin .lss (.tmp a1) (.tmp a2)⟩
abbrev zL(a0:Nat)(a1:Nat)(a2:Nat):I:=⟨some a0,some (a1,true),.mov (.tmp a2)⟩
abbrev zM(a0:Nat)(a1:Nat)(a2:Nat)(a3:Nat):I:=⟨some a0,some (a1,true),.faddr a2 (.tmp a3)⟩
abbrev zN(a0:Nat)(a1:Nat)(a2:Nat):I:=⟨some a0,none,.bin .neq (.tmp a1) (.tmp a2)⟩
abbrev zO(a0:Nat)(a1:Nat):I:=⟨some a0,none,.box true (.tmp a1)⟩
abbrev zP(a0:Nat)(a1:Nat)(a2:Nat):I:=⟨some a0,none,.pick (.tmp a1) (.tmp a2) (.const (.bool false))⟩
abbrev zQ(a0:Nat)(a1:Nat):I:=⟨some a0,none,.not (.tmp a1)⟩
abbrev zR(a0:Nat)(a1:Nat)(a2:Nat)(a3:Nat):I:=⟨some a0,some (a1,false),.load true a2 (.tmp a3)⟩
abbrev zU(a0:Nat)(a1:Nat)(a2:Nat)(a3:Nat):I:=⟨some a0,some (a1,false),.faddr a2 (.tmp a3)⟩
abbrev zV(a0:Nat)(a1:Nat)(a2:Nat):I:=⟨some a0,some (a1,false),.mov (.tmp a2)⟩
abbrev zW(a0:Nat)(a1:Nat)(a2:Nat):I:=⟨some a0,none,.pick (.tmp a1) (.const (.bool true)) (.tmp a2)⟩
abbrev zX(a0:Nat):I:=⟨some a0,none,.mov (.const (.bool true))⟩
abbrev zY(a0:Nat)(a1:Nat)(a2:Nat):I:=⟨some a0,some (a1,true),.nilCheck (.tmp a2)⟩
abbrev zf(a0:Nat)(a1:Nat)(a2:Nat)(a3:Nat)(a4:Nat):I:=⟨some a0,some (a1,true),.iaddr a2 (.tmp a3) (.tmp a4)⟩
abbrev zk(a0:Nat)(a1:Int)(a2:Int)(a3:Int):I:=⟨some a0,none,.alloc true [.int .i64 a1,.int .i64 a2,.int .i64 a3]⟩
abbrev zn(a0:Nat)(a1:Nat)(a2:Nat)(a3:Nat):I:=⟨some a0,none,.qcall a1 [.tmp a2,.tmp a3]⟩
abbrev zo(a0:Nat)(a1:Int)(a2:Int)(a3:Int)(a4:Nat)(a5:Nat)(a6:Int)(a7:Nat)(a8:Nat)(a9:Nat):I:=⟨some a0,none,.build [.int .i64 a1,.int .i64 a2,.int .i64 a3] [(a4,a5,.const (.int .i64 a6)),(a7,a8,.tmp a9)]⟩
abbrev zq(a0:Nat)(a1:Nat)(a2:Int):I:=⟨some a0,none,.bin .neq (.tmp a1) (.const (.int .i64 a2))⟩
abbrev zx(a0:Nat)(a1:Nat)(a2:Nat)(a3:Int):I:=⟨some a0,some (a1,true),.bin .eql (.tmp a2) (.const (.int .i64 a3))⟩
abbrev zy(a0:Nat)(a1:Nat)(a2:Nat)(a3:Int):I:=⟨some a0,some (a1,false),.bin .eql (.tmp a2) (.const (.int .i64 a3))⟩
abbrev q4(a0:Nat)(a1:Nat)(a2:Nat):I:=⟨some a0,some (a1,false),.nilCheck (.tmp a2)⟩
abbrev qG(a0:Nat)(a1:Int)(a2:Nat):I:=⟨some a0,none,.bin .add (.const (.int .i64 a1)) (.tmp a2)⟩
abbrev qH(a0:Nat)(a1:Nat)(a2:Nat):I:=⟨some a0,none,.bin .geq (.tmp a1) (.tmp a2)⟩
abbrev qP(a0:Nat)(a1:Nat)(a2:Nat)(a3:Nat):I:=⟨some a0,some (a1,true),.pick (.tmp a2) (.const (.bool true)) (.tmp a3)⟩
noncomputable def c126:C:=
 .seq (.reg [zO 3 1,zk 4 0 0 0]) (.seq (.seq (.dreg 15 [z4 5 0 3,z5 6 1 5,zC 7 6 2,z3 8 7,zL 9 8 0,zY 10 8 9,zM 11 8 4 10,zJ 12 8 1 11,zM 13 8 2 3,zJ 14 8 1 13,zf 15 8 8 12 14,zM 16 8 0 15,zJ 17 8 1 16,zx 18 8 17 2,zP 19 8 18]) (.cond (.tmp 19) (.seq (.dreg 10 [z3 20 0,z6 21 20,z4 22 4 21,z5 23 1 22,z4 24 2 3,z5 25 1 24,z8 26 8 23 25,z4 27 6 26,z5 28 1 27,zo 29 0 0 0 0 1 2 2 1 28,z7 3 4 29])
 .ret) .skip)) (.seq (.reg [z9 30 3 3,z7 3 4 30]) .ret))
theorem t126:Tryz.f126.body.bind (trC e126)=some c126:=by kernel_rfl
theorem r126:Tryz.f126.results.toList.mapM (trR Tryz.prog)=some [.cell 4 false 3]:=by kernel_rfl
theorem fn126{args:List Value}{M:Mem}{post:Value→Mem→Prop}(hl:args.length≤31)(h:VC e126 c126 (fnQ [.cell 4 false 3] post) (initS args 31) M):Fn Tryz.prog 126 args M post:=
 Fn.of' (E:=e126) Tryz.func126 t126 rfl r126 mixed hl h
noncomputable def e150:Env:=⟨Tryz.prog,[],15,[]⟩
noncomputable def c150:C:=
 .seq (.reg [zF 2]) (.seq (.reg [z3 3 0,z6 4 3,z4 5 5 4,z5 6 1 5,zC 7 6 1,z3 8 7,zV 9 8 0,q4 10 8 9,zU 11 8 5 10,zR 12 8 1 11,zy 13 8 12 2,zW 14 8 13,z3 2 14]) .ret)
theorem t150:Tryz.f150.body.bind (trC e150)=some c150:=by kernel_rfl
theorem r150:Tryz.f150.results.toList.mapM (trR Tryz.prog)=some [.tmp 2]:=by kernel_rfl
theorem fn150{args:List Value}{M:Mem}{post:Value→Mem→Prop}(hl:args.length≤15)(h:VC e150 c150 (fnQ [.tmp 2] post) (initS args 15) M):Fn Tryz.prog 150 args M post:=
 Fn.of' (E:=e150) Tryz.func150 t150 rfl r150 mixed hl h
noncomputable def e124:Env:=⟨Tryz.prog,[3],12,[]⟩
noncomputable def c124:C:=
 .seq (.reg [zO 3 1,zA 4 0]) (.seq (.seq (.reg [z4 5 0 3,z5 6 1 5,zq 7 6 2]) (.cond (.tmp 7) (.seq (.reg [zA 4 (-1)]) .ret) .skip)) (.seq (.reg [z3 8 0,z9 9 3 3,zG 10 126 8 9,⟨some 11,none,.field true 2 1 (.tmp 10)⟩,z3 4 11]) .ret))
theorem t124:Tryz.f124.body.bind (trC e124)=some c124:=by kernel_rfl
theorem r124:Tryz.f124.results.toList.mapM (trR Tryz.prog)=some [.tmp 4]:=by kernel_rfl
theorem fn124{args:List Value}{M:Mem}{post:Value→Mem→Prop}(hl:args.length≤12)(h:VC e124 c124 (fnQ [.tmp 4] post) (initS args 12) M):Fn Tryz.prog 124 args M post:=
 Fn.of' (E:=e124) Tryz.func124 t124 rfl r124 mixed hl h
noncomputable def e144:Env:=⟨Tryz.prog,[1],10,[]⟩
noncomputable def c144:C:=
 .seq (.reg [zO 1 0,zA 2 0]) (.seq (.seq (.reg [z4 3 0 1,z5 4 1 3,zq 5 4 1]) (.cond (.tmp 5) (.seq (.reg [zA 2 0]) .ret) .skip)) (.seq (.reg [z4 6 7 1,z5 7 1 6,zE 8 7,qG 9 1 8,z3 2 9]) .ret))
theorem t144:Tryz.f144.body.bind (trC e144)=some c144:=by kernel_rfl
theorem r144:Tryz.f144.results.toList.mapM (trR Tryz.prog)=some [.tmp 2]:=by kernel_rfl
theorem fn144{args:List Value}{M:Mem}{post:Value→Mem→Prop}(hl:args.length≤10)(h:VC e144 c144 (fnQ [.tmp 2] post) (initS args 10) M):Fn Tryz.prog 144 args M post:=
 Fn.of' (E:=e144) Tryz.func144 t144 rfl r144 mixed hl h
noncomputable def e148:Env:=⟨Tryz.prog,[1],16,[]⟩
noncomputable def c148:C:=
 .seq (.reg [zO 1 0,zF 2]) (.seq (.reg [z4 3 0 1,z5 4 1 3,zC 5 4 1,z3 6 5,zM 7 6 3 1,zJ 8 6 1 7,zx 9 6 8 1,zL 10 6 9,zU 11 10 3 1,zR 12 10 1 11,zy 13 10 12 2,qP 14 6 10 13,zP 15 6 14,z3 2 15]) .ret)
theorem t148:Tryz.f148.body.bind (trC e148)=some c148:=by kernel_rfl
theorem r148:Tryz.f148.results.toList.mapM (trR Tryz.prog)=some [.tmp 2]:=by kernel_rfl
theorem fn148{args:List Value}{M:Mem}{post:Value→Mem→Prop}(hl:args.length≤16)(h:VC e148 c148 (fnQ [.tmp 2] post) (initS args 16) M):Fn Tryz.prog 148 args M post:=
 Fn.of' (E:=e148) Tryz.func148 t148 rfl r148 mixed hl h
noncomputable def e66:Env:=⟨Tryz.prog,[],15,[]⟩
noncomputable def c66:C:=
 .seq (.reg [zF 6]) (.seq (.reg [z3 7 0,z3 8 1,qH 9 7 8,z3 10 9,zL 11 10 0,zL 12 10 2,⟨some 13,some (10,true),.bin .leq (.tmp 11) (.tmp 12)⟩,zP 14 10 13,z3 6 14]) .ret)
theorem t66:Tryz.f66.body.bind (trC e66)=some c66:=by kernel_rfl
theorem r66:Tryz.f66.results.toList.mapM (trR Tryz.prog)=some [.tmp 6]:=by kernel_rfl
theorem fn66{args:List Value}{M:Mem}{post:Value→Mem→Prop}(hl:args.length≤15)(h:VC e66 c66 (fnQ [.tmp 6] post) (initS args 15) M):Fn Tryz.prog 66 args M post:=
 Fn.of' (E:=e66) Tryz.func66 t66 rfl r66 mixed hl h
noncomputable def e85:Env:=⟨Tryz.prog,[2,3],20,[]⟩
noncomputable def c85:C:=
 .seq (.reg [zO 2 0,zO 3 1,zF 4]) (.seq (.seq (.reg [z4 5 0 2,z5 6 1 5,z4 7 0 3,z5 8 1 7,zN 9 6 8]) (.cond (.tmp 9) (.seq (.reg [zF 4]) .ret) .skip)) (.seq (.seq (.reg [z4 10 1 2,z5 11 1 10,z4 12 1 3,z5 13 1 12,zN 14 11 13]) (.cond (.tmp 14) (.seq (.reg [zF 4]) .ret) .skip)) (.seq (.seq (.reg [z4 15 2 2,z5 16 1 15,z4 17 2 3,z5 18 1 17,zN 19 16 18]) (.cond (.tmp 19) (.seq (.reg [zF 4]) .ret)
 .skip)) (.seq (.reg [zX 4]) .ret))))
theorem t85:Tryz.f85.body.bind (trC e85)=some c85:=by kernel_rfl
theorem r85:Tryz.f85.results.toList.mapM (trR Tryz.prog)=some [.tmp 4]:=by kernel_rfl
theorem fn85{args:List Value}{M:Mem}{post:Value→Mem→Prop}(hl:args.length≤20)(h:VC e85 c85 (fnQ [.tmp 4] post) (initS args 20) M):Fn Tryz.prog 85 args M post:=
 Fn.of' (E:=e85) Tryz.func85 t85 rfl r85 mixed hl h
noncomputable def e47:Env:=⟨Tryz.prog,[],27,[(6,10)]⟩
noncomputable def c47:C:=
 .seq (.reg [zF 4]) (.seq (.seq (.reg [z3 6 0,zE 7 6,z3 8 1,zE 9 8,zN 10 7 9]) (.cond (.tmp 10) (.seq (.reg [zF 4]) .ret) .skip)) (.seq (.seq (.reg [zA 5 0]) (.block 0 (.loop (.seq (.seq (.reg [z3 11 5,z3 12 0,zE 13 12,zK 14 11 13]) (.cond (.tmp 14) .skip (.exit 0))) (.seq (.block 1 (.seq (.dreg 10 [z3 17 0,z3 18 5,z8 19 3 17 18,z9 20 3 19,z3 21 1,z3 22 5,z8 23 3 21 22,z9 24 3 23,zn 25 85 20
 24,zQ 26 25]) (.cond (.tmp 26) (.seq (.reg [zF 4]) .ret) .skip))) (.reg [z3 15 5,zD 16 15 1,z3 5 16])))))) (.seq (.reg [zX 4]) .ret)))
theorem t47:Tryz.f47.body.bind (trC e47)=some c47:=by kernel_rfl
theorem r47:Tryz.f47.results.toList.mapM (trR Tryz.prog)=some [.tmp 4]:=by kernel_rfl
theorem fn47{args:List Value}{M:Mem}{post:Value→Mem→Prop}(hl:args.length≤27)(h:VC e47 c47 (fnQ [.tmp 4] post) (initS args 27) M):Fn Tryz.prog 47 args M post:=
 Fn.of' (E:=e47) Tryz.func47 t47 rfl r47 mixed hl h
noncomputable def e164:Env:=⟨Tryz.prog,[2,3],17,[]⟩
noncomputable def c164:C:=
 .seq (.reg [zO 2 0,zO 3 1,zF 4]) (.seq (.seq (.reg [z4 5 0 2,z9 6 3 5,z4 7 0 3,z9 8 3 7,zG 9 85 6 8,zQ 10 9]) (.cond (.tmp 10) (.seq (.reg [zF 4]) .ret) .skip)) (.seq (.seq (.reg [z4 11 3 2,z9 12 3 11,z4 13 3 3,z9 14 3 13,zG 15 85 12 14,zQ 16 15]) (.cond (.tmp 16) (.seq (.reg [zF 4]) .ret) .skip)) (.seq (.reg [zX 4]) .ret)))
theorem t164:Tryz.f164.body.bind (trC e164)=some c164:=by kernel_rfl
theorem r164:Tryz.f164.results.toList.mapM (trR Tryz.prog)=some [.tmp 4]:=by kernel_rfl
theorem fn164{args:List Value}{M:Mem}{post:Value→Mem→Prop}(hl:args.length≤17)(h:VC e164 c164 (fnQ [.tmp 4] post) (initS args 17) M):Fn Tryz.prog 164 args M post:=
 Fn.of' (E:=e164) Tryz.func164 t164 rfl r164 mixed hl h
noncomputable def e132:Env:=⟨Tryz.prog,[],27,[(6,10)]⟩
noncomputable def c132:C:=
 .seq (.reg [zF 4]) (.seq (.seq (.reg [z3 6 0,zE 7 6,z3 8 1,zE 9 8,zN 10 7 9]) (.cond (.tmp 10) (.seq (.reg [zF 4]) .ret) .skip)) (.seq (.seq (.reg [zA 5 0]) (.block 0 (.loop (.seq (.seq (.reg [z3 11 5,z3 12 0,zE 13 12,zK 14 11 13]) (.cond (.tmp 14) .skip (.exit 0))) (.seq (.block 1 (.seq (.dreg 10 [z3 17 0,z3 18 5,z8 19 6 17 18,z9 20 6 19,z3 21 1,z3 22 5,z8 23 6 21 22,z9 24 6 23,zn 25 164
 20 24,zQ 26 25]) (.cond (.tmp 26) (.seq (.reg [zF 4]) .ret) .skip))) (.reg [z3 15 5,zD 16 15 1,z3 5 16])))))) (.seq (.reg [zX 4]) .ret)))
theorem t132:Tryz.f132.body.bind (trC e132)=some c132:=by kernel_rfl
theorem r132:Tryz.f132.results.toList.mapM (trR Tryz.prog)=some [.tmp 4]:=by kernel_rfl
theorem fn132{args:List Value}{M:Mem}{post:Value→Mem→Prop}(hl:args.length≤27)(h:VC e132 c132 (fnQ [.tmp 4] post) (initS args 27) M):Fn Tryz.prog 132 args M post:=
 Fn.of' (E:=e132) Tryz.func132 t132 rfl r132 mixed hl h
noncomputable def e86:Env:=⟨Tryz.prog,[2,3],46,[]⟩
noncomputable def c86:C:=
 .seq (.reg [zO 2 0,zO 3 1,zF 4]) (.seq (.seq (.reg [z4 5 0 2,z5 6 1 5,z4 7 0 3,z5 8 1 7,zN 9 6 8]) (.cond (.tmp 9) (.seq (.reg [zF 4]) .ret) .skip)) (.seq (.seq (.reg [z4 10 1 2,z5 11 1 10,z4 12 1 3,z5 13 1 12,zN 14 11 13]) (.cond (.tmp 14) (.seq (.reg [zF 4]) .ret) .skip)) (.seq (.seq (.reg [z4 15 2 2,z5 16 1 15,z4 17 2 3,z5 18 1 17,zN 19 16 18]) (.cond (.tmp 19) (.seq (.reg [zF 4]) .ret)
 .skip)) (.seq (.seq (.reg [z4 20 3 2,z5 21 1 20,z4 22 3 3,z5 23 1 22,zN 24 21 23]) (.cond (.tmp 24) (.seq (.reg [zF 4]) .ret) .skip)) (.seq (.seq (.reg [z4 25 4 2,z5 26 1 25,z4 27 4 3,z5 28 1 27,zN 29 26 28]) (.cond (.tmp 29) (.seq (.reg [zF 4]) .ret) .skip)) (.seq (.seq (.reg [z4 30 5 2,z5 31 1 30,z4 32 5 3,z5 33 1 32,zN 34 31 33]) (.cond (.tmp 34) (.seq (.reg [zF 4]) .ret) .skip)) (.seq
 (.seq (.reg [z4 35 6 2,z5 36 1 35,z4 37 6 3,z5 38 1 37,zN 39 36 38]) (.cond (.tmp 39) (.seq (.reg [zF 4]) .ret) .skip)) (.seq (.seq (.reg [z4 40 7 2,z5 41 1 40,z4 42 7 3,z5 43 1 42,zG 44 132 41 43,zQ 45 44]) (.cond (.tmp 45) (.seq (.reg [zF 4]) .ret) .skip)) (.seq (.reg [zX 4]) .ret)))))))))
theorem t86:Tryz.f86.body.bind (trC e86)=some c86:=by kernel_rfl
theorem r86:Tryz.f86.results.toList.mapM (trR Tryz.prog)=some [.tmp 4]:=by kernel_rfl
theorem fn86{args:List Value}{M:Mem}{post:Value→Mem→Prop}(hl:args.length≤46)(h:VC e86 c86 (fnQ [.tmp 4] post) (initS args 46) M):Fn Tryz.prog 86 args M post:=
 Fn.of' (E:=e86) Tryz.func86 t86 rfl r86 mixed hl h
noncomputable def e48:Env:=⟨Tryz.prog,[],27,[(6,10)]⟩
noncomputable def c48:C:=
 .seq (.reg [zF 4]) (.seq (.seq (.reg [z3 6 0,zE 7 6,z3 8 1,zE 9 8,zN 10 7 9]) (.cond (.tmp 10) (.seq (.reg [zF 4]) .ret) .skip)) (.seq (.seq (.reg [zA 5 0]) (.block 0 (.loop (.seq (.seq (.reg [z3 11 5,z3 12 0,zE 13 12,zK 14 11 13]) (.cond (.tmp 14) .skip (.exit 0))) (.seq (.block 1 (.seq (.dreg 10 [z3 17 0,z3 18 5,z8 19 8 17 18,z9 20 8 19,z3 21 1,z3 22 5,z8 23 8 21 22,z9 24 8 23,zn 25 86 20
 24,zQ 26 25]) (.cond (.tmp 26) (.seq (.reg [zF 4]) .ret) .skip))) (.reg [z3 15 5,zD 16 15 1,z3 5 16])))))) (.seq (.reg [zX 4]) .ret)))
theorem t48:Tryz.f48.body.bind (trC e48)=some c48:=by kernel_rfl
theorem r48:Tryz.f48.results.toList.mapM (trR Tryz.prog)=some [.tmp 4]:=by kernel_rfl
theorem fn48{args:List Value}{M:Mem}{post:Value→Mem→Prop}(hl:args.length≤27)(h:VC e48 c48 (fnQ [.tmp 4] post) (initS args 27) M):Fn Tryz.prog 48 args M post:=
 Fn.of' (E:=e48) Tryz.func48 t48 rfl r48 mixed hl h
noncomputable def e49:Env:=⟨Tryz.prog,[],26,[(6,9)]⟩
noncomputable def c49:C:=
 .seq (.reg [zF 4]) (.seq (.seq (.reg [z3 6 0,zE 7 6,z3 8 1,zE 9 8,zN 10 7 9]) (.cond (.tmp 10) (.seq (.reg [zF 4]) .ret) .skip)) (.seq (.seq (.reg [zA 5 0]) (.block 0 (.loop (.seq (.seq (.reg [z3 11 5,z3 12 0,zE 13 12,zK 14 11 13]) (.cond (.tmp 14) .skip (.exit 0))) (.seq (.block 1 (.seq (.dreg 9 [z3 17 0,z3 18 5,z8 19 1 17 18,z5 20 1 19,z3 21 1,z3 22 5,z8 23 1 21 22,z5 24 1 23,zN 25 20
 24]) (.cond (.tmp 25) (.seq (.reg [zF 4]) .ret) .skip))) (.reg [z3 15 5,zD 16 15 1,z3 5 16])))))) (.seq (.reg [zX 4]) .ret)))
theorem t49:Tryz.f49.body.bind (trC e49)=some c49:=by kernel_rfl
theorem r49:Tryz.f49.results.toList.mapM (trR Tryz.prog)=some [.tmp 4]:=by kernel_rfl
theorem fn49{args:List Value}{M:Mem}{post:Value→Mem→Prop}(hl:args.length≤26)(h:VC e49 c49 (fnQ [.tmp 4] post) (initS args 26) M):Fn Tryz.prog 49 args M post:=
 Fn.of' (E:=e49) Tryz.func49 t49 rfl r49 mixed hl h
noncomputable def e20:Env:=⟨Tryz.prog,[2,3],73,[]⟩
noncomputable def c20:C:=
 .seq (.reg [zO 2 0,zO 3 1,zF 4]) (.seq (.seq (.reg [z4 5 0 2,z5 6 1 5,z4 7 0 3,z5 8 1 7,zN 9 6 8]) (.cond (.tmp 9) (.seq (.reg [zF 4]) .ret) .skip)) (.seq (.seq (.reg [z4 10 1 2,z5 11 1 10,z4 12 1 3,z5 13 1 12,zN 14 11 13]) (.cond (.tmp 14) (.seq (.reg [zF 4]) .ret) .skip)) (.seq (.seq (.reg [z4 15 2 2,z5 16 1 15,z4 17 2 3,z5 18 1 17,zN 19 16 18]) (.cond (.tmp 19) (.seq (.reg [zF 4]) .ret)
 .skip)) (.seq (.seq (.reg [z4 20 3 2,z5 21 1 20,z4 22 3 3,z5 23 1 22,zG 24 47 21 23,zQ 25 24]) (.cond (.tmp 25) (.seq (.reg [zF 4]) .ret) .skip)) (.seq (.seq (.reg [z4 26 4 2,z5 27 1 26,z4 28 4 3,z5 29 1 28,zG 30 48 27 29,zQ 31 30]) (.cond (.tmp 31) (.seq (.reg [zF 4]) .ret) .skip)) (.seq (.seq (.reg [z4 32 5 2,z5 33 1 32,z4 34 5 3,z5 35 1 34,zN 36 33 35]) (.cond (.tmp 36) (.seq (.reg [zF
 4]) .ret) .skip)) (.seq (.seq (.reg [z4 37 6 2,z5 38 1 37,z4 39 6 3,z5 40 1 39,zN 41 38 40]) (.cond (.tmp 41) (.seq (.reg [zF 4]) .ret) .skip)) (.seq (.seq (.reg [z4 42 7 2,z5 43 1 42,z4 44 7 3,z5 45 1 44,zN 46 43 45]) (.cond (.tmp 46) (.seq (.reg [zF 4]) .ret) .skip)) (.seq (.seq (.reg [z4 47 8 2,z5 48 1 47,z4 49 8 3,z5 50 1 49,zG 51 49 48 50,zQ 52 51]) (.cond (.tmp 52) (.seq (.reg [zF 4])
 .ret) .skip)) (.seq (.seq (.reg [z4 53 9 2,z5 54 1 53,z4 55 9 3,z5 56 1 55,zN 57 54 56]) (.cond (.tmp 57) (.seq (.reg [zF 4]) .ret) .skip)) (.seq (.seq (.reg [z4 58 10 2,z5 59 1 58,z4 60 10 3,z5 61 1 60,zN 62 59 61]) (.cond (.tmp 62) (.seq (.reg [zF 4]) .ret) .skip)) (.seq (.seq (.reg [z4 63 11 2,z5 64 1 63,z4 65 11 3,z5 66 1 65,zN 67 64 66]) (.cond (.tmp 67) (.seq (.reg [zF 4]) .ret)
 .skip)) (.seq (.seq (.reg [z4 68 12 2,z5 69 1 68,z4 70 12 3,z5 71 1 70,zN 72 69 71]) (.cond (.tmp 72) (.seq (.reg [zF 4]) .ret) .skip)) (.seq (.reg [zX 4]) .ret))))))))))))))
theorem t20:Tryz.f20.body.bind (trC e20)=some c20:=by kernel_rfl
theorem r20:Tryz.f20.results.toList.mapM (trR Tryz.prog)=some [.tmp 4]:=by kernel_rfl
theorem fn20{args:List Value}{M:Mem}{post:Value→Mem→Prop}(hl:args.length≤73)(h:VC e20 c20 (fnQ [.tmp 4] post) (initS args 73) M):Fn Tryz.prog 20 args M post:=
 Fn.of' (E:=e20) Tryz.func20 t20 rfl r20 mixed hl h
noncomputable def e31:Env:=⟨Tryz.prog,[2,3],30,[]⟩
noncomputable def c31:C:=
 .seq (.reg [zO 2 0,zO 3 1,zF 4]) (.seq (.seq (.reg [z4 5 0 2,z5 6 1 5,z4 7 0 3,z5 8 1 7,zN 9 6 8]) (.cond (.tmp 9) (.seq (.reg [zF 4]) .ret) .skip)) (.seq (.seq (.reg [z4 10 1 2,z5 11 1 10,z4 12 1 3,z5 13 1 12,zN 14 11 13]) (.cond (.tmp 14) (.seq (.reg [zF 4]) .ret) .skip)) (.seq (.seq (.reg [z4 15 2 2,z5 16 1 15,z4 17 2 3,z5 18 1 17,zN 19 16 18]) (.cond (.tmp 19) (.seq (.reg [zF 4]) .ret)
 .skip)) (.seq (.seq (.reg [z4 20 3 2,z5 21 1 20,z4 22 3 3,z5 23 1 22,zN 24 21 23]) (.cond (.tmp 24) (.seq (.reg [zF 4]) .ret) .skip)) (.seq (.seq (.reg [z4 25 4 2,z5 26 1 25,z4 27 4 3,z5 28 1 27,zN 29 26 28]) (.cond (.tmp 29) (.seq (.reg [zF 4]) .ret) .skip)) (.seq (.reg [zX 4]) .ret))))))
theorem t31:Tryz.f31.body.bind (trC e31)=some c31:=by kernel_rfl
theorem r31:Tryz.f31.results.toList.mapM (trR Tryz.prog)=some [.tmp 4]:=by kernel_rfl
theorem fn31{args:List Value}{M:Mem}{post:Value→Mem→Prop}(hl:args.length≤30)(h:VC e31 c31 (fnQ [.tmp 4] post) (initS args 30) M):Fn Tryz.prog 31 args M post:=
 Fn.of' (E:=e31) Tryz.func31 t31 rfl r31 mixed hl h
noncomputable def e10:Env:=⟨Tryz.prog,[],27,[(6,10)]⟩
noncomputable def c10:C:=
 .seq (.reg [zF 4]) (.seq (.seq (.reg [z3 6 0,zE 7 6,z3 8 1,zE 9 8,zN 10 7 9]) (.cond (.tmp 10) (.seq (.reg [zF 4]) .ret) .skip)) (.seq (.seq (.reg [zA 5 0]) (.block 0 (.loop (.seq (.seq (.reg [z3 11 5,z3 12 0,zE 13 12,zK 14 11 13]) (.cond (.tmp 14) .skip (.exit 0))) (.seq (.block 1 (.seq (.dreg 10 [z3 17 0,z3 18 5,z8 19 5 17 18,z9 20 5 19,z3 21 1,z3 22 5,z8 23 5 21 22,z9 24 5 23,zn 25 31 20
 24,zQ 26 25]) (.cond (.tmp 26) (.seq (.reg [zF 4]) .ret) .skip))) (.reg [z3 15 5,zD 16 15 1,z3 5 16])))))) (.seq (.reg [zX 4]) .ret)))
theorem t10:Tryz.f10.body.bind (trC e10)=some c10:=by kernel_rfl
theorem r10:Tryz.f10.results.toList.mapM (trR Tryz.prog)=some [.tmp 4]:=by kernel_rfl
theorem fn10{args:List Value}{M:Mem}{post:Value→Mem→Prop}(hl:args.length≤27)(h:VC e10 c10 (fnQ [.tmp 4] post) (initS args 27) M):Fn Tryz.prog 10 args M post:=
 Fn.of' (E:=e10) Tryz.func10 t10 rfl r10 mixed hl h
end Go.Proofs.YtpleoapljeffiaaGreatDoor.E
namespace Go.Proofs.YtpleoapljeffiaaGreatDoor.E
open Go
open Classical
def wa(w:Word):Value:=.agg (wv w).toArray
def pa(p:Pair):Value:=.agg (pv p).toArray
def ca(x:CS):Value:=.agg (csv x).toArray
def aa(a:Act):Value:=.agg (av a).toArray
theorem eqWord_q{M:Mem}{a b:Word}:Qt Tryz.prog 85 [wa a,wa b] M (.bool (decide (a=b))):=by
 refine fn85 (by simp) ?_
 repeat' (first
  |(refine vl_pure rfl ?_)
  |(refine vl_nil ?_)
  |(refine VC.seq ?_)
  |(refine VC.regV ?_)
  |(refine vl_box rfl rfl ?_)
  |(refine VC.ret ?_)
  |(refine VC.skip ?_)
  |(refine seqQ_n ?_)
  |(refine seqQ_r ?_)
  |(refine VC.cond _ rfl (fun hb=>?_) (fun hb=>?_)))
 all_goals (refine fnQ_r rfl (Mem.le_refl _) (q_end ?_))
 all_goals (cases a;cases b;simp_all)
theorem eqPair_q{M:Mem}{a b:Pair}:Qt Tryz.prog 164 [pa a,pa b] M (.bool (decide (a=b))):=by
 refine fn164 (by simp) ?_
 repeat' (first
  |(refine vl_pure rfl ?_)
  |(refine vl_nil ?_)
  |(refine VC.seq ?_)
  |(refine VC.regV ?_)
  |(refine vl_box rfl rfl ?_)
  |(refine vl_cq rfl (eqWord_q (a:=a.key) (b:=b.key)) ?_)
  |(refine vl_cq rfl (eqWord_q (a:=a.val) (b:=b.val)) ?_)
  |(refine VC.ret ?_)
  |(refine VC.skip ?_)
  |(refine seqQ_n ?_)
  |(refine seqQ_r ?_)
  |(refine VC.cond _ rfl (fun hb=>?_) (fun hb=>?_)))
 all_goals (refine fnQ_r rfl (Mem.le_refl _) (q_end ?_))
 all_goals (cases a;cases b;simp_all)
theorem eqAct_q{M:Mem}{a b:Act}:Qt Tryz.prog 31 [aa a,aa b] M (.bool (decide (a=b))):=by
 refine fn31 (by simp) ?_
 repeat' (first
  |(refine vl_pure rfl ?_)
  |(refine vl_nil ?_)
  |(refine VC.seq ?_)
  |(refine VC.regV ?_)
  |(refine vl_box rfl rfl ?_)
  |(refine VC.ret ?_)
  |(refine VC.skip ?_)
  |(refine seqQ_n ?_)
  |(refine seqQ_r ?_)
  |(refine VC.cond _ rfl (fun hb=>?_) (fun hb=>?_)))
 all_goals (refine fnQ_r rfl (Mem.le_refl _) (q_end ?_))
 all_goals (cases a;cases b;simp_all)
theorem eqWordS_q{M:Mem}{va vb:Value}{xs ys:List Word}(ha:Sl M 3 wv va xs)(hb:Sl M 3 wv vb ys):Qt Tryz.prog 47 [va,vb] M (.bool (decide (xs=ys))):=by
 obtain⟨aa,ca,ea⟩:=ha.len
 obtain⟨ab,cb,eb⟩:=hb.len
 refine fn47 (by simp) ?_
 subst ea;subst eb
 repeat' (first
  |(refine vl_pure rfl ?_)
  |(refine vl_nil ?_)
  |(refine VC.seq ?_)
  |(refine VC.regV ?_)
  |(refine seqQ_n ?_))
 refine VC.cond _ rfl (fun h=>?_) (fun h=>?_)
 ·repeat' (first
   |(refine vl_pure rfl ?_)
   |(refine vl_nil ?_)
   |(refine VC.seq ?_)
   |(refine VC.regV ?_)
   |(refine VC.ret ?_)
   |(refine seqQ_r ?_))
  refine fnQ_r rfl (Mem.le_refl _) (q_end ?_)
  have:xs≠ys:=fun e=>by have e2:=congrArg List.length e;first|(simp only[List.length_map]at e2;simp[e2]at h)|(simp[e2]at h)
  simp[this]
 have hbd:=ha.bound
 have hl:xs.length=ys.length:=Int.ofNat_inj.1 (by simpa using h)
 repeat' (first
  |(refine vl_pure rfl ?_)
  |(refine vl_nil ?_)
  |(refine VC.seq ?_)
  |(refine VC.regV ?_)
  |(refine VC.block ?_)
  |(refine VC.skip ?_))
 refine VC.loop (α:=Nat) (fun i=>[(0,.v (.slice aa xs.length ca)),(1,.v (.slice ab ys.length cb)),(5,.v (.int .i64 i))]) (fun k i M'=>k=xs.length-i∧i≤xs.length∧M'=M∧xs.take i=ys.take i)
  ⟨_,0,M,⟨rfl,rfl,rfl,trivial⟩,Mem.le_refl _,rfl,Nat.zero_le _,rfl,by simp⟩ ?_
 rintro k i M' ⟨rfl,hi,rfl,hpre⟩
 repeat' (first
  |(refine vl_pure rfl ?_)
  |(refine vl_nil ?_)
  |(refine VC.seq ?_)
  |(refine VC.regV ?_)
  |(refine seqQ_n ?_))
 refine VC.cond _ rfl (fun h=>?_) (fun h=>?_)
 ·have hi:i<xs.length:=by simpa using h
  obtain⟨x,gx⟩:∃x,xs[i]?=some x:=⟨_,List.getElem?_eq_getElem hi⟩
  obtain⟨y,gy⟩:∃y,ys[i]?=some y:=⟨_,List.getElem?_eq_getElem (hl▸hi)⟩
  obtain⟨b1,o1,rfl,h1⟩:=ha.at2 (fun _=>rfl) gx
  obtain⟨b2,o2,rfl,h2⟩:=hb.at2 (fun _=>rfl) gy
  repeat' (first
   |(refine vl_pure rfl ?_)
   |(refine vl_nil ?_)
   |(refine VC.seq ?_)
   |(refine vl_idx rfl rfl (by omega) ?_)
   |(refine vl_lds rfl (by first|exact h1|exact h2) ?_)
   |(refine vl_q rfl (eqWord_q) ?_)
   |(refine VC.dregV ?_)
   |(refine VC.block ?_)
   |(refine VC.skip ?_)
   |(refine seqQ_n ?_))
  refine VC.cond _ rfl (fun h=>?_) (fun h=>?_)
  ·repeat' (first
    |(refine vl_pure rfl ?_)
    |(refine vl_nil ?_)
    |(refine VC.seq ?_)
    |(refine VC.regV ?_)
    |(refine VC.ret ?_)
    |(refine seqQ_r ?_)
    |(refine blkQ_r ?_))
   refine fnQ_r rfl (Mem.le_refl _) (q_end ?_)
   have:xs≠ys:=fun e=>by subst e;rw[gx]at gy;cases gy;simp at h
   simp[this]
  ·have hxy:x=y:=by simpa using h
   repeat' (first
    |(refine vl_add rfl rfl (by omega) ?_)
    |(refine vl_pure rfl ?_)
    |(refine vl_nil ?_)
    |(refine VC.regV ?_)
    |(refine VC.skip ?_)
    |(refine seqQ_n ?_))
   refine⟨_,i+1,_,?_,⟨rfl,rfl,rfl,trivial⟩,Mem.le_refl _,rfl,hi,rfl,?_⟩
   ·omega
   ·rw[List.take_add_one,List.take_add_one,hpre,gx,gy,hxy]
 ·have hi:¬i<xs.length:=by simpa using h
  repeat' (first
   |(refine vl_pure rfl ?_)
   |(refine vl_nil ?_)
   |(refine VC.seq ?_)
   |(refine VC.regV ?_)
   |(refine VC.ret ?_)
   |(refine VC.exit ?_))
  refine fnQ_r rfl (Mem.le_refl _) (q_end ?_)
  have hxy:xs=ys:=by
   have e:i=xs.length:=by omega
   subst e
   rw[List.take_of_length_le (by simp),List.take_of_length_le (by simp[hl])]at hpre
   exact hpre
  simp[hxy]
theorem eqPairS_q{M:Mem}{va vb:Value}{xs ys:List Pair}(ha:Sl M 6 pv va xs)(hb:Sl M 6 pv vb ys):Qt Tryz.prog 132 [va,vb] M (.bool (decide (xs=ys))):=by
 obtain⟨aa,ca,ea⟩:=ha.len
 obtain⟨ab,cb,eb⟩:=hb.len
 refine fn132 (by simp) ?_
 subst ea;subst eb
 repeat' (first
  |(refine vl_pure rfl ?_)
  |(refine vl_nil ?_)
  |(refine VC.seq ?_)
  |(refine VC.regV ?_)
  |(refine seqQ_n ?_))
 refine VC.cond _ rfl (fun h=>?_) (fun h=>?_)
 ·repeat' (first
   |(refine vl_pure rfl ?_)
   |(refine vl_nil ?_)
   |(refine VC.seq ?_)
   |(refine VC.regV ?_)
   |(refine VC.ret ?_)
   |(refine seqQ_r ?_))
  refine fnQ_r rfl (Mem.le_refl _) (q_end ?_)
  have:xs≠ys:=fun e=>by have e2:=congrArg List.length e;first|(simp only[List.length_map]at e2;simp[e2]at h)|(simp[e2]at h)
  simp[this]
 have hbd:=ha.bound
 have hl:xs.length=ys.length:=Int.ofNat_inj.1 (by simpa using h)
 repeat' (first
  |(refine vl_pure rfl ?_)
  |(refine vl_nil ?_)
  |(refine VC.seq ?_)
  |(refine VC.regV ?_)
  |(refine VC.block ?_)
  |(refine VC.skip ?_))
 refine VC.loop (α:=Nat) (fun i=>[(0,.v (.slice aa xs.length ca)),(1,.v (.slice ab ys.length cb)),(5,.v (.int .i64 i))]) (fun k i M'=>k=xs.length-i∧i≤xs.length∧M'=M∧xs.take i=ys.take i)
  ⟨_,0,M,⟨rfl,rfl,rfl,trivial⟩,Mem.le_refl _,rfl,Nat.zero_le _,rfl,by simp⟩ ?_
 rintro k i M' ⟨rfl,hi,rfl,hpre⟩
 repeat' (first
  |(refine vl_pure rfl ?_)
  |(refine vl_nil ?_)
  |(refine VC.seq ?_)
  |(refine VC.regV ?_)
  |(refine seqQ_n ?_))
 refine VC.cond _ rfl (fun h=>?_) (fun h=>?_)
 ·have hi:i<xs.length:=by simpa using h
  obtain⟨x,gx⟩:∃x,xs[i]?=some x:=⟨_,List.getElem?_eq_getElem hi⟩
  obtain⟨y,gy⟩:∃y,ys[i]?=some y:=⟨_,List.getElem?_eq_getElem (hl▸hi)⟩
  obtain⟨b1,o1,rfl,h1⟩:=ha.at2 (fun _=>rfl) gx
  obtain⟨b2,o2,rfl,h2⟩:=hb.at2 (fun _=>rfl) gy
  repeat' (first
   |(refine vl_pure rfl ?_)
   |(refine vl_nil ?_)
   |(refine VC.seq ?_)
   |(refine vl_idx rfl rfl (by omega) ?_)
   |(refine vl_lds rfl (by first|exact h1|exact h2) ?_)
   |(refine vl_q rfl (eqPair_q) ?_)
   |(refine VC.dregV ?_)
   |(refine VC.block ?_)
   |(refine VC.skip ?_)
   |(refine seqQ_n ?_))
  refine VC.cond _ rfl (fun h=>?_) (fun h=>?_)
  ·repeat' (first
    |(refine vl_pure rfl ?_)
    |(refine vl_nil ?_)
    |(refine VC.seq ?_)
    |(refine VC.regV ?_)
    |(refine VC.ret ?_)
    |(refine seqQ_r ?_)
    |(refine blkQ_r ?_))
   refine fnQ_r rfl (Mem.le_refl _) (q_end ?_)
   have:xs≠ys:=fun e=>by subst e;rw[gx]at gy;cases gy;simp at h
   simp[this]
  ·have hxy:x=y:=by simpa using h
   repeat' (first
    |(refine vl_add rfl rfl (by omega) ?_)
    |(refine vl_pure rfl ?_)
    |(refine vl_nil ?_)
    |(refine VC.regV ?_)
    |(refine VC.skip ?_)
    |(refine seqQ_n ?_))
   refine⟨_,i+1,_,?_,⟨rfl,rfl,rfl,trivial⟩,Mem.le_refl _,rfl,hi,rfl,?_⟩
   ·omega
   ·rw[List.take_add_one,List.take_add_one,hpre,gx,gy,hxy]
 ·have hi:¬i<xs.length:=by simpa using h
  repeat' (first
   |(refine vl_pure rfl ?_)
   |(refine vl_nil ?_)
   |(refine VC.seq ?_)
   |(refine VC.regV ?_)
   |(refine VC.ret ?_)
   |(refine VC.exit ?_))
  refine fnQ_r rfl (Mem.le_refl _) (q_end ?_)
  have hxy:xs=ys:=by
   have e:i=xs.length:=by omega
   subst e
   rw[List.take_of_length_le (by simp),List.take_of_length_le (by simp[hl])]at hpre
   exact hpre
  simp[hxy]
theorem eqIntS_q{M:Mem}{va vb:Value}{xs ys:List Int}(ha:Sl M 1 iv va xs)(hb:Sl M 1 iv vb ys):Qt Tryz.prog 49 [va,vb] M (.bool (decide (xs=ys))):=by
 obtain⟨aa,ca,ea⟩:=ha.len
 obtain⟨ab,cb,eb⟩:=hb.len
 refine fn49 (by simp) ?_
 subst ea;subst eb
 repeat' (first
  |(refine vl_pure rfl ?_)
  |(refine vl_nil ?_)
  |(refine VC.seq ?_)
  |(refine VC.regV ?_)
  |(refine seqQ_n ?_))
 refine VC.cond _ rfl (fun h=>?_) (fun h=>?_)
 ·repeat' (first
   |(refine vl_pure rfl ?_)
   |(refine vl_nil ?_)
   |(refine VC.seq ?_)
   |(refine VC.regV ?_)
   |(refine VC.ret ?_)
   |(refine seqQ_r ?_))
  refine fnQ_r rfl (Mem.le_refl _) (q_end ?_)
  have:xs≠ys:=fun e=>by have e2:=congrArg List.length e;first|(simp only[List.length_map]at e2;simp[e2]at h)|(simp[e2]at h)
  simp[this]
 have hbd:=ha.bound
 have hl:xs.length=ys.length:=Int.ofNat_inj.1 (by simpa using h)
 repeat' (first
  |(refine vl_pure rfl ?_)
  |(refine vl_nil ?_)
  |(refine VC.seq ?_)
  |(refine VC.regV ?_)
  |(refine VC.block ?_)
  |(refine VC.skip ?_))
 refine VC.loop (α:=Nat) (fun i=>[(0,.v (.slice aa xs.length ca)),(1,.v (.slice ab ys.length cb)),(5,.v (.int .i64 i))]) (fun k i M'=>k=xs.length-i∧i≤xs.length∧M'=M∧xs.take i=ys.take i)
  ⟨_,0,M,⟨rfl,rfl,rfl,trivial⟩,Mem.le_refl _,rfl,Nat.zero_le _,rfl,by simp⟩ ?_
 rintro k i M' ⟨rfl,hi,rfl,hpre⟩
 repeat' (first
  |(refine vl_pure rfl ?_)
  |(refine vl_nil ?_)
  |(refine VC.seq ?_)
  |(refine VC.regV ?_)
  |(refine seqQ_n ?_))
 refine VC.cond _ rfl (fun h=>?_) (fun h=>?_)
 ·have hi:i<xs.length:=by simpa using h
  obtain⟨x,gx⟩:∃x,xs[i]?=some x:=⟨_,List.getElem?_eq_getElem hi⟩
  obtain⟨y,gy⟩:∃y,ys[i]?=some y:=⟨_,List.getElem?_eq_getElem (hl▸hi)⟩
  obtain⟨b1,o1,rfl,h1⟩:=ha.at2 (fun _=>rfl) gx
  obtain⟨b2,o2,rfl,h2⟩:=hb.at2 (fun _=>rfl) gy
  repeat' (first
   |(refine vl_pure rfl ?_)
   |(refine vl_ld rfl (by first|exact cells_cell h1 (j:=0) rfl|exact cells_cell h2 (j:=0) rfl) ?_)
   |(refine vl_nil ?_)
   |(refine VC.seq ?_)
   |(refine vl_idx rfl rfl (by omega) ?_)
   |(refine VC.dregV ?_)
   |(refine VC.block ?_)
   |(refine VC.skip ?_)
   |(refine seqQ_n ?_))
  refine VC.cond _ rfl (fun h=>?_) (fun h=>?_)
  ·repeat' (first
    |(refine vl_pure rfl ?_)
    |(refine vl_nil ?_)
    |(refine VC.seq ?_)
    |(refine VC.regV ?_)
    |(refine VC.ret ?_)
    |(refine seqQ_r ?_)
    |(refine blkQ_r ?_))
   refine fnQ_r rfl (Mem.le_refl _) (q_end ?_)
   have:xs≠ys:=fun e=>by subst e;rw[gx]at gy;cases gy;simp at h
   simp[this]
  ·have hxy:x=y:=by simpa using h
   repeat' (first
    |(refine vl_add rfl rfl (by omega) ?_)
    |(refine vl_pure rfl ?_)
    |(refine vl_nil ?_)
    |(refine VC.regV ?_)
    |(refine VC.skip ?_)
    |(refine seqQ_n ?_))
   refine⟨_,i+1,_,?_,⟨rfl,rfl,rfl,trivial⟩,Mem.le_refl _,rfl,hi,rfl,?_⟩
   ·omega
   ·rw[List.take_add_one,List.take_add_one,hpre,gx,gy,hxy]
 ·have hi:¬i<xs.length:=by simpa using h
  repeat' (first
   |(refine vl_pure rfl ?_)
   |(refine vl_nil ?_)
   |(refine VC.seq ?_)
   |(refine VC.regV ?_)
   |(refine VC.ret ?_)
   |(refine VC.exit ?_))
  refine fnQ_r rfl (Mem.le_refl _) (q_end ?_)
  have hxy:xs=ys:=by
   have e:i=xs.length:=by omega
   subst e
   rw[List.take_of_length_le (by simp),List.take_of_length_le (by simp[hl])]at hpre
   exact hpre
  simp[hxy]
theorem eqActS_q{M:Mem}{va vb:Value}{xs ys:List Act}(ha:Sl M 5 av va xs)(hb:Sl M 5 av vb ys):Qt Tryz.prog 10 [va,vb] M (.bool (decide (xs=ys))):=by
 obtain⟨aa,ca,ea⟩:=ha.len
 obtain⟨ab,cb,eb⟩:=hb.len
 refine fn10 (by simp) ?_
 subst ea;subst eb
 repeat' (first
  |(refine vl_pure rfl ?_)
  |(refine vl_nil ?_)
  |(refine VC.seq ?_)
  |(refine VC.regV ?_)
  |(refine seqQ_n ?_))
 refine VC.cond _ rfl (fun h=>?_) (fun h=>?_)
 ·repeat' (first
   |(refine vl_pure rfl ?_)
   |(refine vl_nil ?_)
   |(refine VC.seq ?_)
   |(refine VC.regV ?_)
   |(refine VC.ret ?_)
   |(refine seqQ_r ?_))
  refine fnQ_r rfl (Mem.le_refl _) (q_end ?_)
  have:xs≠ys:=fun e=>by have e2:=congrArg List.length e;first|(simp only[List.length_map]at e2;simp[e2]at h)|(simp[e2]at h)
  simp[this]
 have hbd:=ha.bound
 have hl:xs.length=ys.length:=Int.ofNat_inj.1 (by simpa using h)
 repeat' (first
  |(refine vl_pure rfl ?_)
  |(refine vl_nil ?_)
  |(refine VC.seq ?_)
  |(refine VC.regV ?_)
  |(refine VC.block ?_)
  |(refine VC.skip ?_))
 refine VC.loop (α:=Nat) (fun i=>[(0,.v (.slice aa xs.length ca)),(1,.v (.slice ab ys.length cb)),(5,.v (.int .i64 i))]) (fun k i M'=>k=xs.length-i∧i≤xs.length∧M'=M∧xs.take i=ys.take i)
  ⟨_,0,M,⟨rfl,rfl,rfl,trivial⟩,Mem.le_refl _,rfl,Nat.zero_le _,rfl,by simp⟩ ?_
 rintro k i M' ⟨rfl,hi,rfl,hpre⟩
 repeat' (first
  |(refine vl_pure rfl ?_)
  |(refine vl_nil ?_)
  |(refine VC.seq ?_)
  |(refine VC.regV ?_)
  |(refine seqQ_n ?_))
 refine VC.cond _ rfl (fun h=>?_) (fun h=>?_)
 ·have hi:i<xs.length:=by simpa using h
  obtain⟨x,gx⟩:∃x,xs[i]?=some x:=⟨_,List.getElem?_eq_getElem hi⟩
  obtain⟨y,gy⟩:∃y,ys[i]?=some y:=⟨_,List.getElem?_eq_getElem (hl▸hi)⟩
  obtain⟨b1,o1,rfl,h1⟩:=ha.at2 (fun _=>rfl) gx
  obtain⟨b2,o2,rfl,h2⟩:=hb.at2 (fun _=>rfl) gy
  repeat' (first
   |(refine vl_pure rfl ?_)
   |(refine vl_nil ?_)
   |(refine VC.seq ?_)
   |(refine vl_idx rfl rfl (by omega) ?_)
   |(refine vl_lds rfl (by first|exact h1|exact h2) ?_)
   |(refine vl_q rfl (eqAct_q) ?_)
   |(refine VC.dregV ?_)
   |(refine VC.block ?_)
   |(refine VC.skip ?_)
   |(refine seqQ_n ?_))
  refine VC.cond _ rfl (fun h=>?_) (fun h=>?_)
  ·repeat' (first
    |(refine vl_pure rfl ?_)
    |(refine vl_nil ?_)
    |(refine VC.seq ?_)
    |(refine VC.regV ?_)
    |(refine VC.ret ?_)
    |(refine seqQ_r ?_)
    |(refine blkQ_r ?_))
   refine fnQ_r rfl (Mem.le_refl _) (q_end ?_)
   have:xs≠ys:=fun e=>by subst e;rw[gx]at gy;cases gy;simp at h
   simp[this]
  ·have hxy:x=y:=by simpa using h
   repeat' (first
    |(refine vl_add rfl rfl (by omega) ?_)
    |(refine vl_pure rfl ?_)
    |(refine vl_nil ?_)
    |(refine VC.regV ?_)
    |(refine VC.skip ?_)
    |(refine seqQ_n ?_))
   refine⟨_,i+1,_,?_,⟨rfl,rfl,rfl,trivial⟩,Mem.le_refl _,rfl,hi,rfl,?_⟩
   ·omega
   ·rw[List.take_add_one,List.take_add_one,hpre,gx,gy,hxy]
 ·have hi:¬i<xs.length:=by simpa using h
  repeat' (first
   |(refine vl_pure rfl ?_)
   |(refine vl_nil ?_)
   |(refine VC.seq ?_)
   |(refine VC.regV ?_)
   |(refine VC.ret ?_)
   |(refine VC.exit ?_))
  refine fnQ_r rfl (Mem.le_refl _) (q_end ?_)
  have hxy:xs=ys:=by
   have e:i=xs.length:=by omega
   subst e
   rw[List.take_of_length_le (by simp),List.take_of_length_le (by simp[hl])]at hpre
   exact hpre
  simp[hxy]
theorem eqCell_q{M:Mem}{a b:CS}(ga:Sl M 6 pv a.s a.c.pairs)(gb:Sl M 6 pv b.s b.c.pairs):Qt Tryz.prog 86 [ca a,ca b] M (.bool (decide (a.c=b.c))):=by
 refine fn86 (by simp) ?_
 repeat' (first
  |(refine vl_pure rfl ?_)
  |(refine vl_nil ?_)
  |(refine VC.seq ?_)
  |(refine VC.regV ?_)
  |(refine vl_box rfl rfl ?_)
  |(refine vl_cq rfl (eqPairS_q ga gb) ?_)
  |(refine VC.ret ?_)
  |(refine VC.skip ?_)
  |(refine seqQ_n ?_)
  |(refine seqQ_r ?_)
  |(refine VC.cond _ rfl (fun hb=>?_) (fun hb=>?_)))
 all_goals (refine fnQ_r rfl (Mem.le_refl _) (q_end ?_))
 all_goals (obtain⟨⟨⟩,_,_⟩:=a;obtain⟨⟨⟩,_,_⟩:=b;simp_all)
theorem eqCellS_q{M:Mem}{va vb:Value}{xs ys:List CS}(ha:Sl M 8 csv va xs)(hb:Sl M 8 csv vb ys)(hx:∀x,x∈xs→Sl M 6 pv x.s x.c.pairs)(hy:∀x,x∈ys→Sl M 6 pv x.s x.c.pairs):Qt Tryz.prog 48 [va,vb] M (.bool (decide (xs.map (·.c)=ys.map (·.c)))):=by
 obtain⟨aa,ca,ea⟩:=ha.len
 obtain⟨ab,cb,eb⟩:=hb.len
 refine fn48 (by simp) ?_
 subst ea;subst eb
 repeat' (first
  |(refine vl_pure rfl ?_)
  |(refine vl_nil ?_)
  |(refine VC.seq ?_)
  |(refine VC.regV ?_)
  |(refine seqQ_n ?_))
 refine VC.cond _ rfl (fun h=>?_) (fun h=>?_)
 ·repeat' (first
   |(refine vl_pure rfl ?_)
   |(refine vl_nil ?_)
   |(refine VC.seq ?_)
   |(refine VC.regV ?_)
   |(refine VC.ret ?_)
   |(refine seqQ_r ?_))
  refine fnQ_r rfl (Mem.le_refl _) (q_end ?_)
  have:xs.map (·.c)≠ys.map (·.c):=fun e=>by have e2:=congrArg List.length e;first|(simp only[List.length_map]at e2;simp[e2]at h)|(simp[e2]at h)
  simp[this]
 have hbd:=ha.bound
 have hl:xs.length=ys.length:=Int.ofNat_inj.1 (by simpa using h)
 repeat' (first
  |(refine vl_pure rfl ?_)
  |(refine vl_nil ?_)
  |(refine VC.seq ?_)
  |(refine VC.regV ?_)
  |(refine VC.block ?_)
  |(refine VC.skip ?_))
 refine VC.loop (α:=Nat) (fun i=>[(0,.v (.slice aa xs.length ca)),(1,.v (.slice ab ys.length cb)),(5,.v (.int .i64 i))]) (fun k i M'=>k=xs.length-i∧i≤xs.length∧M'=M∧(xs.map (·.c)).take i=(ys.map (·.c)).take i)
  ⟨_,0,M,⟨rfl,rfl,rfl,trivial⟩,Mem.le_refl _,rfl,Nat.zero_le _,rfl,by simp⟩ ?_
 rintro k i M' ⟨rfl,hi,rfl,hpre⟩
 repeat' (first
  |(refine vl_pure rfl ?_)
  |(refine vl_nil ?_)
  |(refine VC.seq ?_)
  |(refine VC.regV ?_)
  |(refine seqQ_n ?_))
 refine VC.cond _ rfl (fun h=>?_) (fun h=>?_)
 ·have hi:i<xs.length:=by simpa using h
  obtain⟨x,gx⟩:∃x,xs[i]?=some x:=⟨_,List.getElem?_eq_getElem hi⟩
  obtain⟨y,gy⟩:∃y,ys[i]?=some y:=⟨_,List.getElem?_eq_getElem (hl▸hi)⟩
  obtain⟨b1,o1,rfl,h1⟩:=ha.at2 (fun _=>rfl) gx
  obtain⟨b2,o2,rfl,h2⟩:=hb.at2 (fun _=>rfl) gy
  repeat' (first
   |(refine vl_pure rfl ?_)
   |(refine vl_nil ?_)
   |(refine VC.seq ?_)
   |(refine vl_idx rfl rfl (by omega) ?_)
   |(refine vl_lds rfl (by first|exact h1|exact h2) ?_)
   |(refine vl_q rfl (eqCell_q (hx _ (List.mem_of_getElem? gx)) (hy _ (List.mem_of_getElem? gy))) ?_)
   |(refine VC.dregV ?_)
   |(refine VC.block ?_)
   |(refine VC.skip ?_)
   |(refine seqQ_n ?_))
  refine VC.cond _ rfl (fun h=>?_) (fun h=>?_)
  ·repeat' (first
    |(refine vl_pure rfl ?_)
    |(refine vl_nil ?_)
    |(refine VC.seq ?_)
    |(refine VC.regV ?_)
    |(refine VC.ret ?_)
    |(refine seqQ_r ?_)
    |(refine blkQ_r ?_))
   refine fnQ_r rfl (Mem.le_refl _) (q_end ?_)
   have:xs.map (·.c)≠ys.map (·.c):=fun e=>by have e1:=congrArg (·[i]?) e;simp only[List.getElem?_map,gx,gy,Option.map_some,Option.some.injEq]at e1;simp[e1]at h
   simp[this]
  ·have hxy:x.c=y.c:=by simpa using h
   repeat' (first
    |(refine vl_add rfl rfl (by omega) ?_)
    |(refine vl_pure rfl ?_)
    |(refine vl_nil ?_)
    |(refine VC.regV ?_)
    |(refine VC.skip ?_)
    |(refine seqQ_n ?_))
   refine⟨_,i+1,_,?_,⟨rfl,rfl,rfl,trivial⟩,Mem.le_refl _,rfl,hi,rfl,?_⟩
   ·omega
   ·rw[List.take_add_one,List.take_add_one,hpre,List.getElem?_map,List.getElem?_map,gx,gy,Option.map_some,Option.map_some,hxy]
 ·have hi:¬i<xs.length:=by simpa using h
  repeat' (first
   |(refine vl_pure rfl ?_)
   |(refine vl_nil ?_)
   |(refine VC.seq ?_)
   |(refine VC.regV ?_)
   |(refine VC.ret ?_)
   |(refine VC.exit ?_))
  refine fnQ_r rfl (Mem.le_refl _) (q_end ?_)
  have hxy:xs.map (·.c)=ys.map (·.c):=by
   have e:i=xs.length:=by omega
   subst e
   rw[List.take_of_length_le (by simp),List.take_of_length_le (by simp[hl])]at hpre
   exact hpre
  simp[hxy]
end Go.Proofs.YtpleoapljeffiaaGreatDoor.E
