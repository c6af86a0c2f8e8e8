/- A part of the proof. Conditions: none. -/
import Derived.Test.YtpleoapljeffiaaDoorKL5
set_option linter.unusedVariables false
set_option linter.unusedSimpArgs false
set_option maxHeartbeats 4000000
namespace Go.Proofs.YtpleoapljeffiaaDoor.E
open Go
section
variable {E:Env} {Q:X→St→List Asr→Prop} {S:St} {As:List Asr}
theorem blk_eq{id e:Nat}(h:e=id)(hq:Q .nrm S As):blkA id Q (.ext e) S As:=by subst h;exact b_e hq
theorem blk_ne{id e:Nat}(h:e≠id)(hq:Q (.ext e) S As):blkA id Q (.ext e) S As:=by unfold blkA;simp only[if_neg h];exact hq
theorem v_rv{d:Option Nat}{v:Value}(h:Q .ret (put S d (.v v)) As):VA E (.seq (.reg [⟨d,none,.mov (.const v)⟩]) .ret) Q S As:=v_seq (v_reg (a_p (sv:=.v v) rfl (a_n (v_ret h))))
theorem v_bs{id:Nat}{a b:C}(h:VA E (.seq a b) (blkA id Q) S As):VA E (.block id (.seq a b)) Q S As:=v_blk h
theorem v_br{id:Nat}{l:List I}(h:VA E (.reg l) (blkA id Q) S As):VA E (.block id (.reg l)) Q S As:=v_blk h
theorem v_bd{id n:Nat}{l:List I}(h:VA E (.dreg n l) (blkA id Q) S As):VA E (.block id (.dreg n l)) Q S As:=v_blk h
theorem v_bc{id:Nat}{x:Operand}{a b:C}(h:VA E (.cond x a b) (blkA id Q) S As):VA E (.block id (.cond x a b)) Q S As:=v_blk h
theorem v_bk{id:Nat}(h:VA E .skip (blkA id Q) S As):VA E (.block id .skip) Q S As:=v_blk h
theorem v_bb{id id':Nat}{c:C}(h:VA E (.block id' c) (blkA id Q) S As):VA E (.block id (.block id' c)) Q S As:=v_blk h
theorem leA_up{d:Nat}{x:SV}:∀{l:List (Nat×SV)} {S:St},(l.all fun p=> !Nat.beq p.1 d)=true→leA l S→leA l (upF S d x)
 |[],_,_,_=>trivial
 |(e,y)::r,S,h,hl=>by
  simp only[List.all_cons,Bool.and_eq_true,Bool.not_eq_true']at h
  refine⟨?_,leA_up h.2 hl.2⟩
  show(bif Nat.beq e d then x else S e)=y
  rw[h.1];exact hl.1
def rngQ{α:Type}(b b' ti tn n:Nat)(T:α→List (Nat×SV))(At:α→List Asr)(Inv:Nat→α→Prop)(i:Nat)(Q:X→St→List Asr→Prop):X→St→List Asr→Prop
 |.nrm,S',As'=>∃x',leA ((ti,.v (.int .i64 i))::(tn,.v (.int .i64 n))::T x') S'∧Ent As' (At x')∧Inv (i+1) x'
 |.ext e,S',As'=>if e=b' then ∃x',leA ((ti,.v (.int .i64 i))::(tn,.v (.int .i64 n))::T x') S'∧Ent As' (At x')∧Inv (i+1) x' else if e=b then Q .nrm S' As' else Q (.ext e) S' As'
 |.ret,S',As'=>Q .ret S' As'
theorem v_range{α:Type}{body:C}{ti tn tc tu b b':Nat}(n:Nat)(T:α→List (Nat×SV))(At:α→List Asr)(Inv:Nat→α→Prop)
 (h0:∃x,leA ((ti,.v (.int .i64 0))::(tn,.v (.int .i64 n))::T x) S∧Ent As (At x)∧Inv 0 x) (hn:(n:Int)≤4611686018427387904)
 (hT:∀x,((T x).all fun p=> !Nat.beq p.1 ti&& !Nat.beq p.1 tc&& !Nat.beq p.1 tu)=true) (hd:(!Nat.beq ti tc&& !Nat.beq tn tc&& !Nat.beq ti tu&& !Nat.beq tn tu&& !Nat.beq tn ti)=true)
 (hb:∀i x,i<n→Inv i x→VA E body (rngQ b b' ti tn n T At Inv i Q) (ofL ((ti,.v (.int .i64 i))::(tn,.v (.int .i64 n))::T x)) (At x))
 (he:∀x,Inv n x→Q .nrm (upF (ofL ((ti,.v (.int .i64 n))::(tn,.v (.int .i64 n))::T x)) tc (.v (.bool (decide ((n:Int)<n))))) (At x)):
 VA E (.block b (.loop (.seq (.reg [⟨some tc,none,.bin .lss (.tmp ti) (.tmp tn)⟩]) (.seq (.cond (.tmp tc) .skip (.exit b)) (.seq (.block b' body) (.reg [⟨some tu,none,.bin .add (.tmp ti) (.const (.int .i64 1))⟩,⟨some ti,none,.mov (.tmp tu)⟩])))))) Q S As:=by
 simp only[Bool.and_eq_true,Bool.not_eq_true']at hd
 obtain⟨⟨⟨⟨d1,d2⟩,d3⟩,d4⟩,d5⟩:=hd
 have d5':Nat.beq ti tn=false:=by
  cases h:Nat.beq ti tn with
  |false=>rfl
  |true=>rw[Nat.eq_of_beq_eq_true h]at d5;simp at d5
 have hT1:∀x,((T x).all fun p=> !Nat.beq p.1 ti)=true:=fun x=>List.all_eq_true.2 fun p hp=>by
  have:=List.all_eq_true.1 (hT x) p hp;simp only[Bool.and_eq_true]at this;exact this.1.1
 have hT2:∀x,((T x).all fun p=> !Nat.beq p.1 tc)=true:=fun x=>List.all_eq_true.2 fun p hp=>by
  have:=List.all_eq_true.1 (hT x) p hp;simp only[Bool.and_eq_true]at this;exact this.1.2
 have hT3:∀x,((T x).all fun p=> !Nat.beq p.1 tu)=true:=fun x=>List.all_eq_true.2 fun p hp=>by
  have:=List.all_eq_true.1 (hT x) p hp;simp only[Bool.and_eq_true]at this;exact this.2
 refine v_blk ?_
 obtain⟨x0,g1,g2,g3⟩:=h0
 refine v_loop (fun p:Nat×α=>(ti,.v (.int .i64 p.1))::(tn,.v (.int .i64 n))::T p.2) (fun p=>At p.2) (fun k p=>k=n-p.1∧p.1≤n∧Inv p.1 p.2) ⟨_,(0,x0),g1,g2,rfl,Nat.zero_le _,g3⟩ ?_
 rintro k ⟨i,x⟩ ⟨rfl,hi,hinv⟩
 simp only at hi hinv⊢
 have e1:ofL ((ti,.v (.int .i64 (i:Int)))::(tn,.v (.int .i64 (n:Int)))::T x) ti=.v (.int .i64 i):=by show upF _ ti _ ti=_;rw[upF_eq,if_pos rfl]
 have e2:ofL ((ti,.v (.int .i64 (i:Int)))::(tn,.v (.int .i64 (n:Int)))::T x) tn=.v (.int .i64 n):=by
  show(bif Nat.beq tn ti then _ else upF _ tn _ tn)=_
  rw[d5];show upF _ tn _ tn=_;rw[upF_eq,if_pos rfl]
 have hl0:leF (ofL ((ti,.v (.int .i64 (i:Int)))::(tn,.v (.int .i64 (n:Int)))::T x)) (upF (ofL ((ti,.v (.int .i64 (i:Int)))::(tn,.v (.int .i64 (n:Int)))::T x)) tc (.v (.bool (decide ((i:Int)<n))))):=by
  intro t
  rw[upF_eq]
  by_cases e:t=tc
  ·left
   subst e
   show(bif Nat.beq t ti then _ else bif Nat.beq t tn then _ else ofL (T x) t)=_
   have a1:Nat.beq t ti=false:=by
    cases h:Nat.beq t ti with
    |false=>rfl
    |true=>rw[Nat.eq_of_beq_eq_true h]at d1;simp at d1
   have a2:Nat.beq t tn=false:=by
    cases h:Nat.beq t tn with
    |false=>rfl
    |true=>rw[Nat.eq_of_beq_eq_true h]at d2;simp at d2
   rw[a1,a2]
   show ofL (T x) t=.junk
   have:∀l:List (Nat×SV),(l.all fun p=> !Nat.beq p.1 t)=true→ofL l t=.junk:=by
    intro l
    induction l with
    |nil=>intro _;rfl
    |cons p r ih=>
     intro h
     simp only[List.all_cons,Bool.and_eq_true,Bool.not_eq_true']at h
     show(bif Nat.beq t p.1 then p.2 else ofL r t)=_
     have:Nat.beq t p.1=false:=by
      cases h':Nat.beq t p.1 with
      |false=>rfl
      |true=>rw[Nat.eq_of_beq_eq_true h']at h;simp at h
     rw[this];exact ih h.2
   exact this _ (hT2 x)
  ·right;rw[if_neg e]
 refine v_seq (v_reg (a_p (sv:=.v (.bool (decide ((i:Int)<n)))) ?_ (a_n ?_)))
 ·simp only[pe,ev,e1,e2];rfl
 refine v_seq (v_cond (decide ((i:Int)<n)) ?_ (fun h=>?_) (fun h=>?_))
 ·show ev (upF _ tc _) (.tmp tc)=_
  simp only[ev]
  rw[upF_eq,if_pos rfl]
 ·have hin:i<n:=by have:=of_decide_eq_true h;omega
  refine v_skip ?_
  show VA E _ _ _ _
  refine v_seq (v_blk ?_)
  refine⟨fun m hm=>?_⟩
  have hbody:=(hb i x hin hinv).out m hm
  refine VC.mono (Q:=upQ (rngQ b b' ti tn n T At Inv i Q)) ?_ ?_
  ·exact⟨fun code ht hmx W0 M0 β a w hR=>hbody.out code ht hmx W0 M0 β a w (hR.weak hl0)⟩
  ·rintro y S' M' ⟨As',m',l,s,hq'⟩
   refine⟨As',m',l,s,?_⟩
   have done:(∃x',leA ((ti,.v (.int .i64 i))::(tn,.v (.int .i64 n))::T x') S'∧Ent As' (At x')∧Inv (i+1) x')→
    VA E (.reg [⟨some tu,none,.bin .add (.tmp ti) (.const (.int .i64 1))⟩,⟨some ti,none,.mov (.tmp tu)⟩]) (seqA (fun S' As'=>∃k' x',k'<n-i∧leA ((ti,.v (.int .i64 (x':Nat×α).1))::(tn,.v (.int .i64 n))::T x'.2) S'∧Ent As' (At x'.2)∧k'=n-x'.1∧x'.1≤n∧Inv x'.1 x'.2) (blkA b Q)) S' As':=by
    rintro⟨x',h1,h2,h3⟩
    refine v_reg (a_ad (a:=i) (b:=1) ?_ rfl (by omega) (a_p (sv:=.v (.int .i64 ((i:Int)+1))) ?_ (a_n ?_)))
    ·simp only[ev,h1.1]
    ·show Option.map SV.v (ev (upF S' tu _) (.tmp tu))=_
     simp only[ev]
     rw[upF_eq,if_pos rfl];rfl
    ·refine⟨n-(i+1),(i+1,x'),by omega,⟨?_,?_,?_⟩,h2,rfl,by simp only;omega,h3⟩
     ·show upF _ ti _ ti=_;rw[upF_eq,if_pos rfl];rfl
     ·show(bif Nat.beq tn ti then _ else bif Nat.beq tn tu then _ else S' tn)=_
      rw[d5,d4];exact h1.2.1
     ·exact leA_up (hT1 x') (leA_up (hT3 x') h1.2.2)
   cases y with
   |nrm=>exact done hq'
   |ret=>exact hq'
   |ext e=>
    simp only[rngQ]at hq'
    by_cases h1:e=b'
    ·rw[if_pos h1]at hq';exact blk_eq h1 (done hq')
    ·rw[if_neg h1]at hq'
     refine blk_ne h1 ?_
     show blkA b Q (.ext e) S' As'
     by_cases h2:e=b
     ·rw[if_pos h2]at hq';exact blk_eq h2 hq'
     ·rw[if_neg h2]at hq';exact blk_ne h2 hq'
 ·have hin:i=n:=by have:=of_decide_eq_false h;omega
  subst hin
  refine v_exit ?_
  refine blk_eq rfl ?_
  exact he x hinv
section
variable {α:Type} {b b' ti tn n:Nat} {T:α→List (Nat×SV)} {At:α→List Asr} {Inv:Nat→α→Prop} {i:Nat}
theorem r_nx(x':α)(hi:Inv (i+1) x')(hl:leA ((ti,.v (.int .i64 i))::(tn,.v (.int .i64 n))::T x') S:=by repeat(first|exact trivial|refine⟨rfl,?_⟩))(he:Ent As (At x'):=by first|exact Ent.refl _|exact Pm.ent pmt):rngQ b b' ti tn n T At Inv i Q .nrm S As:=⟨x',hl,he,hi⟩
theorem r_ct(x':α)(hi:Inv (i+1) x')(hl:leA ((ti,.v (.int .i64 i))::(tn,.v (.int .i64 n))::T x') S:=by repeat(first|exact trivial|refine⟨rfl,?_⟩))(he:Ent As (At x'):=by first|exact Ent.refl _|exact Pm.ent pmt):rngQ b b' ti tn n T At Inv i Q (.ext b') S As:=by
 show(if b'=b' then _ else _);rw[if_pos rfl];exact⟨x',hl,he,hi⟩
theorem r_rt(h:Q .ret S As):rngQ b b' ti tn n T At Inv i Q .ret S As:=h
theorem r_bk(hb:Nat.beq b b'=false)(h:Q .nrm S As):rngQ b b' ti tn n T At Inv i Q (.ext b) S As:=by
 have hne:b≠b':=fun e=>by rw[e]at hb;simp at hb
 show(if b=b' then _ else if b=b then _ else _);rw[if_neg hne,if_pos rfl];exact h
theorem r_ex{e:Nat}(h1:Nat.beq e b'=false)(h2:Nat.beq e b=false)(h:Q (.ext e) S As):rngQ b b' ti tn n T At Inv i Q (.ext e) S As:=by
 have n1:e≠b':=fun e'=>by rw[e']at h1;simp at h1
 have n2:e≠b:=fun e'=>by rw[e']at h2;simp at h2
 show(if e=b' then _ else if e=b then _ else _);rw[if_neg n1,if_neg n2];exact h
end
theorem g_range{α:Type}{body:C}{ti tn tc tu b b':Nat}(n:Nat)(T:α→List (Nat×SV))(At:α→List Asr)(Inv:Nat→α→Prop)(x0:α)(hi:Inv 0 x0)
 (hb:∀i x,i<n→Inv i x→VA E body (rngQ b b' ti tn n T At Inv i Q) (ofL ((ti,.v (.int .i64 i))::(tn,.v (.int .i64 n))::T x)) (At x))
 (he:∀x,Inv n x→Q .nrm (upF (ofL ((ti,.v (.int .i64 n))::(tn,.v (.int .i64 n))::T x)) tc (.v (.bool (decide ((n:Int)<n))))) (At x))
 (hl:leA ((ti,.v (.int .i64 0))::(tn,.v (.int .i64 n))::T x0) S:=by repeat(first|exact trivial|refine⟨rfl,?_⟩)) (hent:Ent As (At x0):=by first|exact Ent.refl _|exact Pm.ent pmt) (hn:(n:Int)≤4611686018427387904:=by first|omega|(simp only[HX.hdr,Hdr.s_room,Hdr.s_used,Hdr.s_born,Hdr.s_phase,Hdr.s_hand,Hdr.s_sub,Hdr.s_per,Hdr.s_start,Hdr.s_rounds,Hdr.s_forced,Hdr.s_rd,Hdr.s_cd,Hdr.s_gd];omega))
 (hT:∀x,((T x).all fun p=> !Nat.beq p.1 ti&& !Nat.beq p.1 tc&& !Nat.beq p.1 tu)=true:=by intro _;rfl) (hd:(!Nat.beq ti tc&& !Nat.beq tn tc&& !Nat.beq ti tu&& !Nat.beq tn tu&& !Nat.beq tn ti)=true:=by rfl):
 VA E (.block b (.loop (.seq (.reg [⟨some tc,none,.bin .lss (.tmp ti) (.tmp tn)⟩]) (.seq (.cond (.tmp tc) .skip (.exit b)) (.seq (.block b' body) (.reg [⟨some tu,none,.bin .add (.tmp ti) (.const (.int .i64 1))⟩,⟨some ti,none,.mov (.tmp tu)⟩])))))) Q S As:=
 v_range n T At Inv ⟨x0,hl,hent,hi⟩ hn hT hd hb he
def Jx{α:Type}(T:α→List (Nat×SV))(At:α→List Asr)(Inv:α→Prop):St→List Asr→Prop:=fun S As=>∃x,leA (T x) S∧Ent As (At x)∧Inv x
theorem j_i{α:Type}{T:α→List (Nat×SV)}{At:α→List Asr}{Inv:α→Prop}(x:α)(hi:Inv x)(hl:leA (T x) S:=by repeat(first|exact trivial|refine⟨rfl,?_⟩))(he:Ent As (At x):=by first|exact Ent.refl _|exact Pm.ent pmt):Jx T At Inv S As:=⟨x,hl,he,hi⟩
theorem g_cut{α:Type}{a b:C}(T:α→List (Nat×SV))(At:α→List Asr)(Inv:α→Prop)(h1:VA E a (seqA (Jx T At Inv) Q) S As)(h2:∀x,Inv x→VA E b Q (ofL (T x)) (At x)):VA E (.seq a b) Q S As:=
 v_cut _ h1 fun S As ⟨x,hl,he,hi⟩=>v_weak _ hl (VA.ent he (h2 x hi))
end
end Go.Proofs.YtpleoapljeffiaaDoor.E
set_option maxRecDepth 100000
namespace Go.Proofs.YtpleoapljeffiaaDoor.E
open Go
open Classical
theorem unitsN_nn(cs:List Cell):0≤unitsN cs:=by
 unfold unitsN
 induction cs with
 |nil=>simp
 |cons c r ih=>
  simp only[List.map_cons,List.sum_cons]
  have:0≤c.units:=by unfold Cell.units;split<;>omega
  omega
theorem R2.pl{H:Heap}(h:R2 H){c:Cell}(hc:c∈H.cells):c.pairs.length≤200:=by
 obtain⟨i,hi⟩:=List.getElem?_of_mem hc
 rcases h.each i c hi with h|h|h
 ·rw[h.2.1.2.2.2.2.2];simp
 ·rw[h.2.1.2.2.2.2.2];simp
 ·exact h.2.2.2.2.2.2.2
theorem HX.at{x:HX}{i:Nat}(h:i<x.xs.length):∃y,x.xs[i]?=some y∧x.H.cells[i]?=some y.c:=by
 refine⟨_,List.getElem?_eq_getElem h,?_⟩
 simp[HX.H,List.getElem?_map,List.getElem?_eq_getElem h]
theorem ret_t{p:Prop}{_:Decidable p}(h:p):Value.bool true=.bool (decide p):=by rw[decide_eq_true h]
theorem ret_f{p:Prop}{_:Decidable p}(h:¬p):Value.bool false=.bool (decide p):=by rw[decide_eq_false h]
theorem Has.lens{m:Mem}{a:Nat}{x:HX}(h:Has m (hp a x)):x.regs.length≤140737488355328∧x.xs.length≤140737488355328∧x.gray.length≤140737488355328:=by
 obtain⟨b,l,s⟩:=h
 refine⟨(kn_t (kn_h bd_sl):Kn (hp a x) _).out b s,(kn_t (kn_t (kn_h kb_cl)):Kn (hp a x) _).out b s,(kn_t (kn_t (kn_t (kn_h bd_sl))):Kn (hp a x) _).out b s⟩
theorem HX.atI{x:HX}{i:Int}(h0:0≤i)(h:i<x.xs.length):∃y,x.xs[i.toNat]?=some y∧x.H.getC i=y.c:=by
 obtain⟨y,h1,h2⟩:=HX.at (x:=x) (i:=i.toNat) (by omega)
 refine⟨y,h1,?_⟩
 unfold Heap.getC
 rw[List.getD_eq_getElem?_getD,h2];rfl
section
variable {m0 m:Mem} {a:Nat} {x:HX} {w:Word} {As F:List Asr} {i k:Int} {mv:Bool}
theorem has_g{Bs:List Asr}(h:Has m0 Bs)(hm:star As m)(hp:Pm As [ro m0] F:=by exact pmt):Has m Bs:=h.le (ro_of hm hp)
end
theorem fa_q{rl:List RV}{S:St}{m:Mem}{As F:List Asr}{v r:Value}{y:X}(hy:∀i,y≠.ext i)(h:∀m,star As m→resV S m rl=some v)(e:v=r)(hm:Pm As [ro m] F:=by exact pmt):fnA rl (fun v As=>v=r∧As=[ro m]) y S As:=by
 cases y with
 |ext i=>exact absurd rfl (hy i)
 |nrm=>exact⟨v,[ro m],h,hm.ent,e,rfl⟩
 |ret=>exact⟨v,[ro m],h,hm.ent,e,rfl⟩
theorem q_F{rl:List RV}{S:St}{m:Mem}{As F:List Asr}{p:Prop}{_:Decidable p}(hp:¬p)(h:∀m,star As m→resV S m rl=some (.bool false):=by(intro _ _;rfl))(hm:Pm As [ro m] F:=by exact pmt):fnA rl (fun v As=>v=.bool (decide p)∧As=[ro m]) .ret S As:=⟨_,[ro m],h,hm.ent,ret_f hp,rfl⟩
theorem q_B{rl:List RV}{S:St}{m:Mem}{As F:List Asr}{p:Prop}{_:Decidable p}{b:Bool}(h:∀m,star As m→resV S m rl=some (.bool b))(hp:b=true↔p)(hm:Pm As [ro m] F:=by exact pmt):fnA rl (fun v As=>v=.bool (decide p)∧As=[ro m]) .ret S As:=⟨_,[ro m],h,hm.ent,by congr 1;rw[Bool.eq_iff_iff,hp];simp,rfl⟩
end Go.Proofs.YtpleoapljeffiaaDoor.E
set_option maxHeartbeats 8000000
namespace Go.Proofs.YtpleoapljeffiaaDoor.E
open Go
open Classical
structure R2p (H:Heap) (n:Nat):Prop where
 each:∀(i:Nat) c,i<n→H.cells[i]?=some c→(c.state=0∧Bare c∧c.to=0)∨MovedOk H i c∨UsedOk H c
 born:∀(i j:Nat) c d,H.cells[i]?=some c→H.cells[j]?=some d→i<j→j<n→c.state=1→d.state=1→c.born≠d.born
 to:∀(i j:Nat) c d,H.cells[i]?=some c→H.cells[j]?=some d→i<j→j<n→c.state=2→d.state=2→c.to≠d.to
def bornB(H:Heap)(n:Nat)(b:Int):Prop:=∃(j:Nat) (c:Cell),j<n∧H.cells[j]?=some c∧c.state=1∧c.born=b
def movedB(H:Heap)(n:Nat)(b:Int):Prop:=∃(j:Nat) (c:Cell),j<n∧H.cells[j]?=some c∧c.state=2∧c.to=b
theorem R2p.zero(H:Heap):R2p H 0:=⟨by omega,by omega,by omega⟩
theorem R2p.all{H:Heap}:R2p H H.cells.length↔R2 H:=
 ⟨fun h=>⟨fun i c hc=>h.each i c (List.getElem?_eq_some_iff.1 hc).1 hc,fun i j c d hc hd hij=>h.born i j c d hc hd hij (List.getElem?_eq_some_iff.1 hd).1,fun i j c d hc hd hij=>h.to i j c d hc hd hij (List.getElem?_eq_some_iff.1 hd).1⟩,
  fun h=>⟨fun i c _=>h.each i c,fun i j c d hc hd hij _=>h.born i j c d hc hd hij,fun i j c d hc hd hij _=>h.to i j c d hc hd hij⟩⟩
theorem R2p.next{H:Heap}{n:Nat}{c:Cell}(h:R2p H n)(hc:H.cells[n]?=some c)(h1:(c.state=0∧Bare c∧c.to=0)∨MovedOk H n c∨UsedOk H c)(h2:c.state=1→¬bornB H n c.born)(h3:c.state=2→¬movedB H n c.to):R2p H (n+1):=by
 refine⟨fun i d hi hd=>?_,fun i j a d ha hd hij hj s1 s2 e=>?_,fun i j a d ha hd hij hj s1 s2 e=>?_⟩
 ·by_cases e:i=n
  ·subst e;rw[hc]at hd;cases hd;exact h1
  ·exact h.each i d (by omega) hd
 ·by_cases e':j=n
  ·subst e';rw[hc]at hd;cases hd;exact h2 s2 ⟨i,a,hij,ha,s1,e⟩
  ·exact h.born i j a d ha hd hij (by omega) s1 s2 e
 ·by_cases e':j=n
  ·subst e';rw[hc]at hd;cases hd;exact h3 s2 ⟨i,a,hij,ha,s1,e⟩
  ·exact h.to i j a d ha hd hij (by omega) s1 s2 e
theorem R2.free{H:Heap}(h:R2 H){n:Nat}{c:Cell}(hc:H.cells[n]?=some c)(s:c.state=0):Bare c∧c.to=0:=by
 rcases h.each n c hc with h|h|h
 ·exact h.2
 ·have:=h.1;omega
 ·have:=h.1;omega
theorem R2.moved{H:Heap}(h:R2 H){n:Nat}{c:Cell}(hc:H.cells[n]?=some c)(s:c.state=2):MovedOk H n c:=by
 rcases h.each n c hc with h|h|h
 ·have:=h.1;omega
 ·exact h
 ·have:=h.1;omega
theorem R2.used{H:Heap}(h:R2 H){n:Nat}{c:Cell}(hc:H.cells[n]?=some c)(s:c.state=1):UsedOk H c:=by
 rcases h.each n c hc with h|h|h
 ·have:=h.1;omega
 ·have:=h.1;omega
 ·exact h
end Go.Proofs.YtpleoapljeffiaaDoor.E
set_option maxHeartbeats 4000000
namespace Go.Proofs.YtpleoapljeffiaaDoor.E
open Go
open Classical
theorem fnOk_of{P : Program}{g : FuncId}{fn : Func}(h : P.funcs[g]? = some fn)(hb : fn.body.isSome = true)(hn : (fn.name != "runtime.NumGoroutine") = true): fnOk P g = true := by
 unfold fnOk;rw[h];simp only[hb,hn];rfl
end Go.Proofs.YtpleoapljeffiaaDoor.E
set_option maxHeartbeats 8000000
namespace Go.Proofs.YtpleoapljeffiaaDoor.E
open Go
open Classical
def cnt(i:Int):List Int→Nat
 |[]=>0
 |g::r=>(if g=i then 1 else 0)+cnt i r
end Go.Proofs.YtpleoapljeffiaaDoor.E
namespace Go.Proofs.YtpleoapljeffiaaDoor.E
open Go
noncomputable def e53:Env:=⟨Tryd.prog,[7,9,10,12],87,[(16,13)]⟩
abbrev zG(a0:Nat)(a1:Nat)(a2:Int):I:=⟨some a0,none,.bin .add (.tmp a1) (.const (.int .i64 a2))⟩
abbrev zL(a0:Nat)(a1:Nat)(a2:Nat):I:=⟨some a0,none,.call a1 [.tmp a2]⟩
abbrev zM(a0:Nat)(a1:Nat)(a2:Nat):I:=⟨some a0,none,.bin .lss (.tmp a1) (.tmp a2)⟩
abbrev zZ(a0:Nat)(a1:Nat)(a2:Nat):I:=⟨some a0,none,.bin .add (.tmp a1) (.tmp a2)⟩
abbrev za(a0:Nat)(a1:Int)(a2:Int)(a3:Int)(a4:Int)(a5:Int)(a6:Int)(a7:Int)(a8:Nat)(a9:Nat):I:=⟨some a0,none,.alloc true [.int .i64 a1,.int .i64 a2,.int .i64 a3,.int .i64 a4,.int .i64 a5,.int .i64 a6,.int .i64 a7,.slice none a8 a9]⟩
abbrev zc(a0:Nat)(a1:Nat)(a2:Nat):I:=⟨some a0,none,.mov (.const (.slice none a1 a2))⟩
abbrev zi(a0:Nat)(a1:Nat)(a2:Nat):I:=⟨some a0,none,.callv (.tmp a1) [.tmp a2]⟩
abbrev zj(a0:Nat)(a1:Nat)(a2:Int):I:=⟨some a0,none,.bin .sub (.tmp a1) (.const (.int .i64 a2))⟩
abbrev zo(a0:Nat)(a1:Nat)(a2:Int):I:=⟨some a0,none,.bin .gtr (.tmp a1) (.const (.int .i64 a2))⟩
abbrev q7(a0:Nat)(a1:Nat)(a2:Nat):I:=⟨some a0,none,.alloc false [.slice none a1 a2]⟩
abbrev q8(a0:Nat)(a1:Nat)(a2:Nat)(a3:Nat)(a4:Nat):I:=⟨some a0,some (a1,false),.iaddr a2 (.tmp a3) (.tmp a4)⟩
abbrev qC(a0:Nat)(a1:Nat)(a2:Nat)(a3:Nat):I:=⟨some a0,none,.slc a1 (.tmp a2) none (some (.tmp a3))⟩
abbrev qD(a0:Nat)(a1:Int)(a2:Int)(a3:Int)(a4:Int)(a5:Int)(a6:Int):I:=⟨some a0,none,.alloc true [.int .i64 a1,.int .i64 a2,.int .i64 a3,.int .i64 a4,.int .i64 a5,.int .i64 a6]⟩
abbrev qE(a0:Nat)(a1:Nat)(a2:Nat):I:=⟨some a0,some (a1,true),.not (.tmp a2)⟩
abbrev qF(a0:Nat)(a1:Nat)(a2:Nat)(a3:Int)(a4:Nat)(a5:Nat)(a6:Nat):I:=⟨some a0,none,.bslice true a1 a2 [.int .i64 a3] [(a4,a5,.tmp a6)]⟩
abbrev qG(a0:Nat)(a1:Nat)(a2:Nat)(a3:Int)(a4:Nat)(a5:Nat):I:=⟨some a0,none,.app a1 a2 [.int .i64 a3] (.tmp a4) (.tmp a5)⟩
abbrev qH(a0:Nat)(a1:Nat)(a2:Int):I:=⟨some a0,none,.bin .lss (.tmp a1) (.const (.int .i64 a2))⟩
abbrev qN(a0:Nat)(a1:Nat):I:=⟨some a0,none,.box false (.tmp a1)⟩
abbrev qO(a0:Nat)(a1:Nat)(a2:Int):I:=⟨some a0,none,.bin .geq (.tmp a1) (.const (.int .i64 a2))⟩
abbrev qP(a0:Nat)(a1:Nat)(a2:Int):I:=⟨some a0,none,.bin .and (.tmp a1) (.const (.int .i64 a2))⟩
noncomputable def c53:C:=
 .seq (.reg [qN 1 0,zc 2 0 0]) (.seq (.reg [z5 13 1 1,z6 14 13,z4 15 4 14,z5 16 1 15,zC 17 16,⟨some 18,none,.mkslice 1 1 [.bool false] (.tmp 17) (.tmp 17)⟩,q7 3 0 0,z7 1 3 18]) (.seq (.reg [q7 4 0 0]) (.seq (.reg [⟨some 19,none,.mkfn 63 [] [.tmp 1,.tmp 3,.tmp 4]⟩,z3 5 19]) (.seq (.seq (.reg [z5 20 1 1,z6 21 20,z4 22 3 21,z5 23 1 22,zC 24 23,zD 25 0]) (.block 0 (.loop (.seq (.reg [zM 26 25
 24]) (.seq (.cond (.tmp 26) .skip (.exit 0)) (.seq (.block 1 (.seq (.reg [z9 27 3 23 25,z8 28 3 27,zt 7 0 0 0,z7 3 7 28]) (.reg [z3 29 5,z8 30 3 7,zi 31 29 30]))) (.reg [zG 32 25 1,z3 25 32]))))))) (.seq (.seq (.reg [z5 33 1 1,z6 34 33,z4 35 4 34,z5 36 1 35,zC 37 36,zD 38 0]) (.block 2 (.loop (.seq (.reg [zM 39 38 37]) (.seq (.cond (.tmp 39) .skip (.exit 2)) (.seq (.block 3 (.seq (.reg [z3
 40 38,z9 41 8 36 38,z8 42 8 41,za 9 0 0 0 0 0 0 0 0 0,z3 8 40,z7 8 9 42]) (.seq (.reg [z8 43 8 9,zL 44 33 43]) (.cond (.tmp 44) (.reg [z3 45 5,z3 46 8,zw 47 0 0 0 0 1 2 2 1 46,zi 48 45 47]) .skip)))) (.reg [zG 49 38 1,z3 38 49]))))))) (.seq (.block 4 (.loop (.seq (.seq (.reg [z5 50 1 4,zC 51 50,zo 52 51 0]) (.cond (.tmp 52) .skip (.exit 4))) (.block 5 (.seq (.dreg 13 [z5 53 1 1,z6 54 53,z4
 55 4 54,z5 56 1 55,z5 57 1 4,z5 58 1 4,zC 59 58,zj 60 59 1,z9 61 1 57 60,z5 62 1 61,z9 63 8 56 62,z8 64 8 63,za 10 0 0 0 0 0 0 0 0 0,z7 8 10 64]) (.seq (.reg [z5 65 1 4,z5 66 1 4,zC 67 66,zj 68 67 1,qC 69 1 65 68,z7 1 4 69]) (.seq (.reg [z4 70 7 10,z5 71 1 70,zC 72 71,zD 73 0]) (.block 6 (.loop (.seq (.reg [zM 74 73 72]) (.seq (.cond (.tmp 74) .skip (.exit 6)) (.seq (.block 7 (.seq (.reg [z9
 75 6 71 73,z8 76 6 75,qD 12 0 0 0 0 0 0,z7 6 12 76]) (.seq (.reg [z3 77 5,z4 78 0 12,z8 79 3 78,zi 80 77 79]) (.reg [z3 81 5,z4 82 3 12,z8 83 3 82,zi 84 81 83])))) (.reg [zG 85 73 1,z3 73 85]))))))))))))) (.seq (.reg [z5 86 1 3,z3 2 86]) .ret)))))))
theorem t53:Tryd.f53.body.bind (trC e53)=some c53:=by kernel_rfl
theorem r53:Tryd.f53.results.toList.mapM (trR Tryd.prog)=some [.tmp 2]:=by kernel_rfl
theorem fn53{args:List Value}{M:Mem}{post:Value→Mem→Prop}(hl:args.length≤87)(h:VC e53 c53 (fnQ [.tmp 2] post) (initS args 87) M):Fn Tryd.prog 53 args M post:=
 Fn.of' (E:=e53) Tryd.func53 t53 rfl r53 mixed hl h
noncomputable def e63:Env:=⟨Tryd.prog,[4,23],25,[]⟩
noncomputable def c63:C:=
 .seq (.reg [zN 4 0]) (.seq (.reg [z5 6 1 1,z8 7 3 4,zK 8 40 6 7,z3 5 8]) (.seq (.reg [z3 9 5,qO 10 9 0,z3 11 10,zE 12 11 1 2,zF 13 11 5,zn 14 11 1 12 13,zE 15 11 1 14,qE 16 11 15,zJ 17 11 16]) (.cond (.tmp 17) (.seq (.reg [z5 18 1 2,z3 19 5,z9 20 1 18 19,⟨none,none,.store 1 (.tmp 20) (.const (.bool true))⟩]) (.reg [z5 21 1 3,z3 22 5,qF 23 1 1 0 0 1 22,qG 24 1 8 0 21 23,z7 1 3 24])) .skip)))
theorem t63:Tryd.f63.body.bind (trC e63)=some c63:=by kernel_rfl
theorem r63:Tryd.f63.results.toList.mapM (trR Tryd.prog)=some []:=by kernel_rfl
theorem fn63{args:List Value}{M:Mem}{post:Value→Mem→Prop}(hl:args.length≤25)(h:VC e63 c63 (fnQ [] post) (initS args 25) M):Fn Tryd.prog 63 args M post:=
 Fn.of' (E:=e63) Tryd.func63 t63 rfl r63 mixed hl h
noncomputable def e52:Env:=⟨Tryd.prog,[8,10,13,14,16,139],143,[]⟩
noncomputable def c52:C:=
 .seq (.reg [qN 1 0,zc 2 0 0]) (.seq (.reg [z5 18 1 1,z6 19 18,z4 20 4 19,z5 21 1 20,zC 22 21,⟨some 23,none,.mkslice 1 1 [.bool false] (.tmp 22) (.tmp 22)⟩,q7 3 0 0,z7 1 3 23]) (.seq (.reg [⟨some 24,none,.mkmap⟩,z3 4 24]) (.seq (.reg [q7 5 0 0]) (.seq (.reg [⟨some 25,none,.mkfn 62 [] [.tmp 1,.tmp 3,.tmp 5]⟩,z3 6 25]) (.seq (.seq (.reg [z5 26 1 1,z6 27 26,z4 28 3 27,z5 29 1 28,zC 30 29,zD 31
 0]) (.block 0 (.loop (.seq (.reg [zM 32 31 30]) (.seq (.cond (.tmp 32) .skip (.exit 0)) (.seq (.block 1 (.seq (.reg [z9 33 3 29 31,z8 34 3 33,zt 8 0 0 0,z7 3 8 34]) (.reg [z3 35 6,z8 36 3 8,zi 37 35 36]))) (.reg [zG 38 31 1,z3 31 38]))))))) (.seq (.seq (.reg [z5 39 1 1,z6 40 39,z4 41 4 40,z5 42 1 41,zC 43 42,zD 44 0]) (.block 2 (.loop (.seq (.reg [zM 45 44 43]) (.seq (.cond (.tmp 45) .skip
 (.exit 2)) (.seq (.block 3 (.seq (.reg [z3 46 44,z9 47 8 42 44,z8 48 8 47,za 10 0 0 0 0 0 0 0 0 0,z3 9 46,z7 8 10 48]) (.seq (.reg [z4 49 0 10,z5 50 1 49,zA 51 50 1,z3 52 51,zI 53 52 3 10,zE 54 52 1 53,ze 55 52 54 2,zJ 56 52 55]) (.cond (.tmp 56) (.reg [z3 57 6,z3 58 9,zw 59 0 0 0 0 1 2 2 1 58,zi 60 57 59]) .skip)))) (.reg [zG 61 44 1,z3 44 61]))))))) (.seq (.block 4 (.loop (.seq (.seq (.reg
 [z5 62 1 5,zC 63 62,zo 64 63 0]) (.cond (.tmp 64) .skip (.exit 4))) (.block 5 (.seq (.reg [z5 65 1 5,z5 66 1 5,zC 67 66,zj 68 67 1,z9 69 1 65 68,z5 70 1 69,z3 11 70]) (.seq (.reg [z5 71 1 5,z5 72 1 5,zC 73 72,zj 74 73 1,qC 75 1 71 74,z7 1 5 75]) (.seq (.seq (.reg [z3 76 4,z3 77 11,⟨some 78,none,.look true (.slice none 0 0) false (.tmp 76) (.tmp 77)⟩,zC 79 78,zD 80 0]) (.block 6 (.loop (.seq
 (.reg [zM 81 80 79]) (.seq (.cond (.tmp 81) .skip (.exit 6)) (.seq (.block 7 (.seq (.reg [z9 82 3 78 80,z8 83 3 82,zt 13 0 0 0,z7 3 13 83]) (.reg [z3 84 6,z8 85 3 13,zi 86 84 85]))) (.reg [zG 87 80 1,z3 80 87]))))))) (.seq (.reg [z3 88 4,z3 89 11,⟨none,none,.mdel (.tmp 88) (.tmp 89)⟩]) (.seq (.reg [z5 90 1 1,z6 91 90,z4 92 4 91,z5 93 1 92,z3 94 11,z9 95 8 93 94,z8 96 8 95,za 14 0 0 0 0 0 0
 0 0 0,z7 8 14 96]) (.seq (.reg [z4 97 7 14,z5 98 1 97,zC 99 98,zD 100 0]) (.block 8 (.loop (.seq (.reg [zM 101 100 99]) (.seq (.cond (.tmp 101) .skip (.exit 8)) (.seq (.block 9 (.seq (.reg [z9 102 6 98 100,z8 103 6 102,qD 16 0 0 0 0 0 0,z7 6 16 103]) (.seq (.seq (.reg [z4 104 2 14,z5 105 1 104,qP 106 105 1,zA 107 106 0]) (.cond (.tmp 107) (.reg [z3 108 6,z4 109 0 16,z8 110 3 109,zi 111 108
 110]) .skip)) (.seq (.seq (.reg [z4 112 2 14,z5 113 1 112,qP 114 113 2,zz 115 114 0]) (.cond (.tmp 115) (.exit 9) .skip)) (.seq (.reg [z5 116 1 1,z4 117 0 16,z8 118 3 117,zK 119 40 116 118,z3 17 119]) (.seq (.reg [z3 120 17,qH 121 120 0,z3 122 121,zP 123 122 1 3,zQ 124 122 17,q8 125 122 1 123 124,zP 126 122 1 125,zX 127 122 126]) (.cond (.tmp 127) (.reg [z3 128 6,z4 129 3 16,z8 130 3 129,zi
 131 128 130]) (.reg [z3 132 4,z3 133 17,z3 134 4,z3 135 17,⟨some 136,none,.look true (.slice none 0 0) false (.tmp 134) (.tmp 135)⟩,z4 137 3 16,z8 138 3 137,⟨some 139,none,.bslice true 1 3 [.int .i64 0,.int .i64 0,.int .i64 0] [(0,3,.tmp 138)]⟩,⟨some 140,none,.app 3 24 [.int .i64 0,.int .i64 0,.int .i64 0] (.tmp 136) (.tmp 139)⟩,⟨none,none,.mupd (.tmp 132) (.tmp 133) (.tmp 140)⟩])))))))) (.reg [
 zG 141 100 1,z3 100 141])))))))))))))))) (.seq (.reg [z5 142 1 3,z3 2 142]) .ret))))))))
theorem t52:Tryd.f52.body.bind (trC e52)=some c52:=by kernel_rfl
theorem r52:Tryd.f52.results.toList.mapM (trR Tryd.prog)=some [.tmp 2]:=by kernel_rfl
theorem fn52{args:List Value}{M:Mem}{post:Value→Mem→Prop}(hl:args.length≤143)(h:VC e52 c52 (fnQ [.tmp 2] post) (initS args 143) M):Fn Tryd.prog 52 args M post:=
 Fn.of' (E:=e52) Tryd.func52 t52 rfl r52 mixed hl h
noncomputable def e62:Env:=⟨Tryd.prog,[4,23],25,[]⟩
noncomputable def c62:C:=
 .seq (.reg [zN 4 0]) (.seq (.reg [z5 6 1 1,z8 7 3 4,zK 8 40 6 7,z3 5 8]) (.seq (.reg [z3 9 5,qO 10 9 0,z3 11 10,zE 12 11 1 2,zF 13 11 5,zn 14 11 1 12 13,zE 15 11 1 14,qE 16 11 15,zJ 17 11 16]) (.cond (.tmp 17) (.seq (.reg [z5 18 1 2,z3 19 5,z9 20 1 18 19,⟨none,none,.store 1 (.tmp 20) (.const (.bool true))⟩]) (.reg [z5 21 1 3,z3 22 5,qF 23 1 1 0 0 1 22,qG 24 1 8 0 21 23,z7 1 3 24])) .skip)))
theorem t62:Tryd.f62.body.bind (trC e62)=some c62:=by kernel_rfl
theorem r62:Tryd.f62.results.toList.mapM (trR Tryd.prog)=some []:=by kernel_rfl
theorem fn62{args:List Value}{M:Mem}{post:Value→Mem→Prop}(hl:args.length≤25)(h:VC e62 c62 (fnQ [] post) (initS args 25) M):Fn Tryd.prog 62 args M post:=
 Fn.of' (E:=e62) Tryd.func62 t62 rfl r62 mixed hl h
noncomputable def e51:Env:=⟨Tryd.prog,[7],28,[]⟩
noncomputable def c51:C:=
 .seq (.reg [zD 4 0]) (.seq (.reg [zD 5 0]) (.seq (.seq (.reg [z3 8 0,z6 9 8,z4 10 4 9,z5 11 1 10,zC 12 11,zD 13 0]) (.block 0 (.loop (.seq (.reg [zM 14 13 12]) (.seq (.cond (.tmp 14) .skip (.exit 0)) (.seq (.block 1 (.seq (.reg [z3 15 13,z9 16 8 11 13,z8 17 8 16,za 7 0 0 0 0 0 0 0 0 0,z3 6 15,z7 8 7 17]) (.seq (.reg [z3 18 1,z3 19 6,z9 20 1 18 19,z5 21 1 20]) (.cond (.tmp 21) (.reg [z3 22
 5,z8 23 8 7,zL 24 29 23,zZ 25 22 24,z3 5 25]) .skip)))) (.reg [zG 26 13 1,z3 13 26]))))))) (.seq (.reg [z3 27 5,z3 4 27]) .ret)))
theorem t51:Tryd.f51.body.bind (trC e51)=some c51:=by kernel_rfl
theorem r51:Tryd.f51.results.toList.mapM (trR Tryd.prog)=some [.tmp 4]:=by kernel_rfl
theorem fn51{args:List Value}{M:Mem}{post:Value→Mem→Prop}(hl:args.length≤28)(h:VC e51 c51 (fnQ [.tmp 4] post) (initS args 28) M):Fn Tryd.prog 51 args M post:=
 Fn.of' (E:=e51) Tryd.func51 t51 rfl r51 mixed hl h
noncomputable def e50:Env:=⟨Tryd.prog,[5],44,[(5,25)]⟩
noncomputable def c50:C:=
 .seq (.reg [zD 2 0]) (.seq (.reg [zD 3 (-1)]) (.seq (.seq (.reg [z3 6 0,z6 7 6,z4 8 4 7,z5 9 1 8,zC 10 9,zD 11 0]) (.block 0 (.loop (.seq (.reg [zM 12 11 10]) (.seq (.cond (.tmp 12) .skip (.exit 0)) (.seq (.block 1 (.seq (.reg [z3 13 11,z9 14 8 9 11,z8 15 8 14,za 5 0 0 0 0 0 0 0 0 0,z3 4 13,z7 8 5 15]) (.seq (.dreg 25 [z4 16 0 5,z5 17 1 16,zA 18 17 1,z3 19 18,zI 20 19 3 5,zE 21 19 1 20,ze
 22 19 21 2,zJ 23 19 22,z3 24 23,zF 25 24 3,⟨some 26,some (24,true),.bin .lss (.tmp 25) (.const (.int .i64 0))⟩,zF 27 24 26,zT 28 27 4 5,zP 29 27 1 28,zQ 30 27 0,zx 31 27 30,zT 32 27 4 31,zP 33 27 1 32,zQ 34 27 3,q8 35 27 8 33 34,zT 36 27 4 35,zP 37 27 1 36,⟨some 38,some (27,false),.bin .lss (.tmp 29) (.tmp 37)⟩,qK 39 24 27 38,zJ 40 24 39]) (.cond (.tmp 40) (.reg [z3 41 4,z3 3 41]) .skip))))
 (.reg [zG 42 11 1,z3 11 42]))))))) (.seq (.reg [z3 43 3,z3 2 43]) .ret)))
theorem t50:Tryd.f50.body.bind (trC e50)=some c50:=by kernel_rfl
theorem r50:Tryd.f50.results.toList.mapM (trR Tryd.prog)=some [.tmp 2]:=by kernel_rfl
theorem fn50{args:List Value}{M:Mem}{post:Value→Mem→Prop}(hl:args.length≤44)(h:VC e50 c50 (fnQ [.tmp 2] post) (initS args 44) M):Fn Tryd.prog 50 args M post:=
 Fn.of' (E:=e50) Tryd.func50 t50 rfl r50 mixed hl h
end Go.Proofs.YtpleoapljeffiaaDoor.E
set_option maxHeartbeats 4000000
namespace Go.Proofs.YtpleoapljeffiaaDoor.E
open Go
open Classical
theorem qt_e{P:Program}{f:FuncId}{args:List Value}{m:Mem}{r r':Value}(h:Qt P f args m r)(e:r=r'):Qt P f args m r':=e▸h
noncomputable def ndG(H:Heap):Nat→Int
 |0=> -1
 |i+1=>if(H.getC i).last=2∧(ndG H i<0∨(H.getC i).born<(H.getC (ndG H i)).born)then(i:Int)else ndG H i
theorem ndG_lt(H:Heap):∀i,-1≤ndG H i∧ndG H i<i
 |0=>by simp[ndG]
 |i+1=>by
  have:=ndG_lt H i
  unfold ndG
  split<;>omega
theorem getC_nat{H:Heap}{i:Nat}{c:Cell}(h:H.cells[i]?=some c):H.getC (i:Int)=c:=by
 unfold Heap.getC
 simp[h]
theorem last2{H:Heap}(h:R2 H){i:Nat}{c:Cell}(hc:H.cells[i]?=some c)(hl:c.last=2):c.state=1:=by
 rcases h.each i c hc with h|h|h
 ·have:=h.2.1.2.2.1;omega
 ·have:=h.2.1.2.2.1;omega
 ·exact h.1
theorem nextDueLoop_q{m:Mem}{a:Nat}{x:HX}(h:Has m (hp a x))(h2:R2 x.H):Qt Tryd.prog 50 [ptr a] m (.int .i64 (ndG x.H x.H.cells.length)):=by
 have hb0:=h.lens
 have hl:=x.len
 refine qt_of (fnA_of (fun h=>fn50 (by simp) h) ?_)
 repeat' (first
  |(refine k_L ?_;first|refine a_p rfl ?_|(refine k_l ?_;refine g_l rfl ?_))
  |refine a_n ?_
  |(refine k_V ?_;first|refine v_seq ?_|refine v_reg ?_)
  |refine s_n ?_)
 refine g_range x.xs.length (fun n:Int=>[(0,.v (ptr a)),(3,.v (.int .i64 n)),(9,.v (.slice x.cd.a x.xs.length x.cd.cap))]) (fun _=>[ro m]) (fun i n=>n=ndG x.H i) (-1) rfl (fun i n hi hn=>?_) (fun n hn=>?_)
 ·obtain⟨y,gy,gc⟩:=HX.at hi
  have gi:=getC_nat gc
  have hb:=ndG_lt x.H i
  have hs:=last2 h2 gc
  by_cases hn0:n<0
  ·have e:ndG x.H (i+1)=if y.c.last=2 then(i:Int)else n:=by
    show(if _ then _ else _)=_
    rw[gi,←hn];simp[hn0]
   repeat' (first
    |(refine k_L ?_;first|refine a_p rfl ?_|(refine k_g ?_;first|refine a_gy rfl rfl ?_|refine a_gn rfl rfl ?_|refine a_gu rfl ?_|(refine a_gd rfl (fun hb=>?_) (fun hb=>?_)<;>try(exfalso;omega)))|(refine k_i ?_;refine g_i rfl rfl ?_)|(refine k_ls ?_;refine g_ls rfl ?_)|(refine k_st ?_;refine g_sw rfl rfl rfl rfl (Nat.le_of_ble_eq_true rfl) ?_)|(refine k_al ?_;refine a_al ?_))
    |refine a_n ?_
    |(refine k_V ?_;first|refine v_seq ?_|refine v_reg ?_|refine v_dreg ?_|refine v_skip ?_|refine v_ct rfl ?_|refine v_cf rfl ?_)
    |refine sk_zero ?_
    |refine sk_succ ?_
    |refine wk_nil ?_
    |refine wk_cons ?_)
   ·exact r_nx i (by rw[e];simp_all)
   ·exact r_nx n (by rw[e];simp_all)
   ·exact r_nx n (by rw[e,if_neg];intro hc;first|exact absurd (hs hc) ‹_›|exact absurd (hs hc.1) ‹_›)
  ·obtain⟨z,gz,gd⟩:=HX.atI (x:=x) (i:=n) (by omega) (by omega)
   have e:ndG x.H (i+1)=if y.c.last=2∧y.c.born<z.c.born then(i:Int)else n:=by
    show(if _ then _ else _)=_
    rw[gi,←hn,gd];simp[hn0]
   repeat' (first
    |(refine k_L ?_;first|refine a_p rfl ?_|(refine k_g ?_;first|refine a_gy rfl rfl ?_|refine a_gn rfl rfl ?_|refine a_gu rfl ?_|(refine a_gd rfl (fun hb=>?_) (fun hb=>?_)<;>try(exfalso;omega)))|(refine k_l ?_;refine g_l rfl ?_)|(refine k_i ?_;refine g_i rfl rfl ?_)|(refine k_ls ?_;refine g_ls rfl ?_)|(refine k_st ?_;refine g_sw rfl rfl rfl rfl (Nat.le_of_ble_eq_true rfl) ?_)|(refine k_al ?_;refine a_al ?_))
    |refine a_n ?_
    |(refine k_V ?_;first|refine v_seq ?_|refine v_reg ?_|refine v_dreg ?_|refine v_skip ?_|refine v_cf rfl ?_|(refine v_cd rfl (fun hb=>?_) (fun hb=>?_)<;>try(exfalso;omega)))
    |refine sk_zero ?_
    |refine sk_succ ?_
    |refine wk_nil ?_
    |refine wk_cons ?_)
   ·exact r_nx i (by rw[e];simp_all)
   ·exact r_nx n (by rw[e,if_neg (fun hc=>absurd hc.2 ‹_›)])
   ·exact r_nx n (by rw[e];simp_all)
   ·exact r_nx n (by rw[e,if_neg];intro hc;first|exact absurd (hs hc) ‹_›|exact absurd (hs hc.1) ‹_›)
 ·subst hn
  repeat' (first
   |(refine k_L ?_;refine a_p rfl ?_)
   |refine a_n ?_
   |(refine k_V ?_;first|refine v_seq ?_|refine v_reg ?_|refine v_ret ?_))
  exact fa_q (by simp) (fun _ _=>rfl) (by rw[hl])
def Heap.tgt(H:Heap)(w:Word):Option Nat:=if(H.lead w).kind=2 then some (H.lead w).at_.toNat else none
inductive Reached (H:Heap):Nat→Prop
 |reg {w:Word} {j:Nat}:w∈H.regs→H.tgt w=some j→Reached H j
 |root {i:Nat} {c:Cell}:H.cells[i]?=some c→Root c→Reached H i
 |pair {i j:Nat} {c:Cell} {p:Pair} {w:Word}:Reached H i→H.cells[i]?=some c→p∈c.pairs→(w=p.key∨w=p.val)→H.tgt w=some j→Reached H j
theorem lead_kind{H:Heap}{w:Word}:(H.lead w).kind=2↔w.kind=2:=by
 unfold Heap.lead
 split
 ·rename_i h;simp[h.1]
 ·rfl
theorem lead_at{H:Heap}(h:R2 H){w:Word}(hf:Formed H w)(hk:w.kind=2):0≤(H.lead w).at_∧(H.lead w).at_<H.cells.length:=by
 have hat:=hf.at hk
 unfold Heap.lead
 split
 ·rename_i hc
  obtain⟨c,hcc⟩:∃c,H.cells[w.at_.toNat]?=some c:=⟨_,List.getElem?_eq_getElem (by omega)⟩
  have hg:H.getC w.at_=c:=by unfold Heap.getC;simp[hcc]
  have hcc':=hcc
  rcases h.each _ c hcc with h1|h1|h1
  ·rw[hg]at hc;have:=h1.1;omega
  ·rw[hg]
   have:=h1.2.2.2.1
   simp only at this⊢
   omega
  ·rw[hg]at hc;have:=h1.1;omega
 ·exact hat
theorem tgt_lt{H:Heap}(h:R2 H){w:Word}(hf:Formed H w){j:Nat}(ht:H.tgt w=some j):j<H.cells.length∧(H.lead w).kind=2∧(H.lead w).at_=j:=by
 unfold Heap.tgt at ht
 split at ht
 ·rename_i hk
  simp only[Option.some.injEq]at ht
  have:=lead_at h hf (lead_kind.1 hk)
  exact⟨by omega,hk,by omega⟩
 ·cases ht
def mkW(H:Heap)(s:List Bool×List Int)(w:Word):List Bool×List Int:=
 match H.tgt w with
 |some j=>if s.1[j]?=some false then(s.1.set j true,s.2++[(j:Int)])else s
 |none=>s
def Hit(H:Heap)(seen:List Bool)(w:Word):Prop:=∀j,H.tgt w=some j→seen[j]?=some true
structure Mk (H:Heap) (S:Nat→Prop) (s:List Bool×List Int):Prop where
 len:s.1.length=H.cells.length
 snd:∀j,s.1[j]?=some true→S j
 stk:∀g,g∈s.2→∃j:Nat,g=j∧s.1[j]?=some true
 cnt:s.2.length+s.1.count false≤H.cells.length
structure Grow (s t:List Bool×List Int):Prop where
 mono:∀j:Nat,s.1[j]?=some true→t.1[j]?=some true
 new:∀j:Nat,t.1[j]?=some true→s.1[j]?=some true∨(j:Int)∈t.2
 old:∀g,g∈s.2→g∈t.2
 msr:2*t.1.count false+t.2.length≤2*s.1.count false+s.2.length
 pre:s.2<+:t.2
theorem Grow.refl(s:List Bool×List Int):Grow s s:=⟨fun _ h=>h,fun _ h=>.inl h,fun _ h=>h,Nat.le_refl _,List.prefix_refl _⟩
theorem Grow.trans{s t u:List Bool×List Int}(h:Grow s t)(k:Grow t u):Grow s u:=
 ⟨fun j hj=>k.mono j (h.mono j hj),fun j hj=>(k.new j hj).elim (fun h'=>(h.new j h').elim .inl fun h''=>.inr (k.old _ h'')) .inr,fun g hg=>k.old g (h.old g hg),Nat.le_trans k.msr h.msr,h.pre.trans k.pre⟩
theorem Hit.grow{H:Heap}{s t:List Bool×List Int}{w:Word}(h:Hit H s.1 w)(g:Grow s t):Hit H t.1 w:=fun j hj=>g.mono j (h j hj)
theorem count_set{l:List Bool}{j:Nat}(h:l[j]?=some false):(l.set j true).count false+1=l.count false:=by
 induction l generalizing j with
 |nil=>simp at h
 |cons b r ih=>
  cases j with
  |zero=>simp only[List.getElem?_cons_zero,Option.some.injEq]at h;subst h;simp
  |succ j=>
   simp only[List.getElem?_cons_succ]at h
   have:=ih h
   simp only[List.set_cons_succ,List.count_cons]
   omega
theorem mkW_ok{H:Heap}{S:Nat→Prop}{s:List Bool×List Int}{w:Word}(h:Mk H S s)(hw:∀j,H.tgt w=some j→j<H.cells.length∧S j):Mk H S (mkW H s w)∧Grow s (mkW H s w)∧Hit H (mkW H s w).1 w:=by
 unfold mkW
 cases ht:H.tgt w with
 |none=>exact⟨h,Grow.refl s,fun j hj=>by rw[ht]at hj;cases hj⟩
 |some j=>
  obtain⟨hj,hS⟩:=hw j ht
  simp only
  by_cases hs:s.1[j]?=some false
  ·rw[if_pos hs]
   have hc:=count_set hs
   have hjl:j<s.1.length:=by rw[h.len];exact hj
   have hset:∀k:Nat,(s.1.set j true)[k]?=some true↔k=j∨s.1[k]?=some true:=by
    intro k
    rw[List.getElem?_set]
    by_cases e:j=k
    ·subst e;simp[hjl]
    ·simp only[e,if_false]
     constructor
     ·exact .inr
     ·rintro(h|h)
      ·exact absurd h.symm e
      ·exact h
   refine⟨⟨by simpa using h.len,fun k hk=>?_,fun g hg=>?_,?_⟩,⟨fun k hk=>(hset k).2 (.inr hk),fun k hk=>?_,fun g hg=>List.mem_append_left _ hg,?_,List.prefix_append _ _⟩,fun k hk=>?_⟩
   ·rcases(hset k).1 hk with rfl|hk
    ·exact hS
    ·exact h.snd k hk
   ·rcases List.mem_append.1 hg with hg|hg
    ·obtain⟨k,e,hk⟩:=h.stk g hg
     exact⟨k,e,(hset k).2 (.inr hk)⟩
    ·exact⟨j,by simpa using hg,(hset j).2 (.inl rfl)⟩
   ·have:=h.cnt
    simp only[List.length_append,List.length_singleton]
    omega
   ·rcases(hset k).1 hk with rfl|hk
    ·exact .inr (List.mem_append_right _ (by simp))
    ·exact .inl hk
   ·simp only[List.length_append,List.length_singleton]
    omega
   ·rw[ht]at hk
    cases hk
    exact(hset j).2 (.inl rfl)
  ·rw[if_neg hs]
   refine⟨h,Grow.refl s,fun k hk=>?_⟩
   rw[ht]at hk
   cases hk
   have hjl:j<s.1.length:=by rw[h.len];exact hj
   rw[List.getElem?_eq_getElem hjl]at hs⊢
   cases hb:s.1[j]with
   |true=>rfl
   |false=>rw[hb]at hs;exact absurd rfl hs
noncomputable def reachL(H:Heap):List Bool:=(List.range H.cells.length).map fun i=>decide (Reached H i)
structure Full (H:Heap) (seen:List Bool):Prop where
 regs:∀w,w∈H.regs→Hit H seen w
 roots:∀(i:Nat) c,H.cells[i]?=some c→Root c→seen[i]?=some true
def Closed(H:Heap)(seen:List Bool)(open_:Nat→Prop):Prop:=∀(i:Nat) c,seen[i]?=some true→¬open_ i→H.cells[i]?=some c→∀p,p∈c.pairs→Hit H seen p.key∧Hit H seen p.val
theorem reach_end{H:Heap}{s:List Bool×List Int}(h:Mk H (Reached H) s)(hf:Full H s.1)(hc:Closed H s.1 fun _=>False):s.1=reachL H:=by
 have key:∀j,Reached H j→s.1[j]?=some true:=by
  intro j hj
  induction hj with
  |reg h1 h2=>exact hf.regs _ h1 _ h2
  |root h1 h2=>exact hf.roots _ _ h1 h2
  |pair _ h2 h3 h4 h5 ih=>
   have:=hc _ _ ih (fun h=>h) h2 _ h3
   rcases h4 with rfl|rfl
   ·exact this.1 _ h5
   ·exact this.2 _ h5
 unfold reachL
 apply List.ext_getElem?
 intro i
 by_cases hi:i<H.cells.length
 ·rw[List.getElem?_map,List.getElem?_range hi]
  simp only[Option.map_some]
  have hl:i<s.1.length:=by rw[h.len];exact hi
  rw[List.getElem?_eq_getElem hl]
  congr 1
  cases hb:s.1[i]with
  |true=>
   have:Reached H i:=h.snd i (by rw[List.getElem?_eq_getElem hl,hb])
   simp[this]
  |false=>
   have:¬Reached H i:=fun hr=>by
    have:=key i hr
    rw[List.getElem?_eq_getElem hl,hb]at this
    cases this
   simp[this]
 ·rw[List.getElem?_eq_none (by rw[h.len];omega),List.getElem?_eq_none (by simp;omega)]
def Cell.zero:Cell:=⟨0,0,0,0,0,0,0,[]⟩
def Cell.col(c:Cell)(k:Int):Cell:={c with color:=k}
theorem set_gt{α:Type}{l:List α}{i j:Nat}{a c:α}(h:(l.set i a)[j]?=some c):(j=i∧c=a∧i<l.length)∨(j≠i∧l[j]?=some c):=by
 rw[List.getElem?_set]at h
 split at h
 ·rename_i e
  subst e
  split at h
  ·rename_i hl;cases h;exact .inl ⟨rfl,rfl,hl⟩
  ·cases h
 ·rename_i e;exact .inr ⟨fun e'=>e e'.symm,h⟩
def getL(cs:List Cell)(j:Int):Cell:=cs.getD j.toNat Cell.zero
theorem getC_L(H:Heap)(j:Int):H.getC j=getL H.cells j:=rfl
theorem getL_at{cs:List Cell}{i:Nat}{c:Cell}{j:Int}(h:cs[i]?=some c)(e:j.toNat=i):getL cs j=c:=by
 unfold getL;rw[e,List.getD_eq_getElem?_getD,h];rfl
theorem getL_set{cs:List Cell}{i:Nat}{a:Cell}{j:Int}(hi:i<cs.length):getL (cs.set i a) j=if j.toNat=i then a else getL cs j:=by
 unfold getL
 rw[List.getD_eq_getElem?_getD,List.getD_eq_getElem?_getD,List.getElem?_set]
 by_cases e:i=j.toNat
 ·rw[if_pos e,if_pos hi,if_pos e.symm];rfl
 ·rw[if_neg e,if_neg (fun h=>e h.symm)]
theorem getL_some{cs:List Cell}{j:Int}(h0:0≤j)(h1:j<cs.length):cs[j.toNat]?=some (getL cs j):=by
 unfold getL
 rw[List.getD_eq_getElem?_getD,List.getElem?_eq_getElem (by omega)];rfl
theorem units_set:∀{cs:List Cell} {i:Nat} {c d:Cell},cs[i]?=some c→unitsN (cs.set i d)=unitsN cs-c.units+d.units
 |[],i,c,d,h=>by simp at h
 |a::r,0,c,d,h=>by
  simp only[List.getElem?_cons_zero,Option.some.injEq]at h
  subst h
  simp only[unitsN,List.set_cons_zero,List.map_cons,List.sum_cons];omega
 |a::r,i+1,c,d,h=>by
  simp only[List.getElem?_cons_succ]at h
  have:=units_set (d:=d) h
  simp only[unitsN,List.set_cons_succ,List.map_cons,List.sum_cons]at this⊢;omega
theorem nodup_len:∀(n:Nat) (l:List Int),l.Nodup→(∀g,g∈l→0≤g∧g<n)→l.length≤n
 |0,l,_,h=>by
  cases l with
  |nil=>simp
  |cons a r=>have:=h a (by simp);omega
 |n+1,l,hn,h=>by
  by_cases hm:(n:Int)∈l
  ·have h1:=nodup_len n (l.erase n) (hn.erase _) (fun g hg=>by
    have h2:=h g (List.mem_of_mem_erase hg)
    have h3:=(hn.mem_erase_iff.1 hg).1
    omega)
   rw[List.length_erase_of_mem hm]at h1
   omega
  ·have:=nodup_len n l hn (fun g hg=>by
    have h2:=h g hg
    have:g≠n:=fun e=>hm (by rw[←e];exact hg)
    omega)
   omega
theorem R2.bare{H:Heap}(h:R2 H){i:Nat}{c:Cell}(hc:H.cells[i]?=some c)(hu:c.state≠1):Bare c:=by
 rcases h.each i c hc with h|h|h
 ·exact h.2.1
 ·exact h.2.1
 ·exact absurd h.1 hu
theorem R2.state{H:Heap}(h:R2 H){i:Nat}{c:Cell}(hc:H.cells[i]?=some c)(hp:H.phase<4):c.state=0∨c.state=1:=by
 rcases h.each i c hc with h|h|h
 ·exact .inl h.1
 ·have:=h.2.2.1;omega
 ·exact .inr h.1
theorem orig{l:List Cell}{i j:Nat}{c d e:Cell}(hc:l[i]?=some c)(hd:(l.set i e)[j]?=some d):∃d0,l[j]?=some d0∧(j=i∧d0=c∧d=e∨j≠i∧d=d0):=by
 rcases set_gt hd with⟨rfl,rfl,_⟩|⟨h,hd⟩
 ·exact⟨c,hc,.inl ⟨rfl,rfl,rfl⟩⟩
 ·exact⟨d,hd,.inr ⟨h,rfl⟩⟩
theorem col_state{H H':Heap}{i:Nat}{c:Cell}{k:Int}(hc:H.cells[i]?=some c)(e1:H'.cells=H.cells.set i (c.col k))(j:Int):(H'.getC j).state=(H.getC j).state∧(H'.getC j).pairs=(H.getC j).pairs∧(H'.getC j).to=(H.getC j).to:=by
 have hlt:=(List.getElem?_eq_some_iff.1 hc).1
 rw[getC_L,getC_L,e1,getL_set hlt]
 by_cases e:j.toNat=i
 ·rw[if_pos e,getL_at hc e];exact⟨rfl,rfl,rfl⟩
 ·rw[if_neg e];exact⟨rfl,rfl,rfl⟩
theorem col_r2{H H':Heap}{i:Nat}{c:Cell}{k:Int}(h:R2 H)(hc:H.cells[i]?=some c)(hu:c.state=1)(hk:0≤k∧k≤2)(e1:H'.cells=H.cells.set i (c.col k))(e2:H'.born=H.born)(e3:H'.phase=H.phase):R2 H':=by
 have gs:=fun j=>(col_state hc e1 j).1
 refine⟨fun j d hd=>?_,fun j l d e hd he hjl h1 h2=>?_,fun j l d e hd he hjl h1 h2=>?_⟩
 ·rw[e1]at hd
  obtain⟨d0,hd0,⟨rfl,rfl,rfl⟩|⟨_,rfl⟩⟩:=orig hc hd
  ·obtain⟨_,a2,a3,a4,a5,a6,a7⟩:=h.used hd0 hu
   exact .inr (.inr ⟨hu,a2,a3,a4,by rw[e2];exact a5,hk,a7⟩)
  ·rcases h.each j d hd0 with h1|h1|h1
   ·exact .inl h1
   ·obtain⟨a1,a2,a3,a4,a5,a6⟩:=h1
    exact .inr (.inl ⟨a1,a2,by rw[e3];exact a3,a4,by rw[gs];exact a5,fun hp k h0 h1=>by rw[gs];exact a6 (by rw[←e3];exact hp) k h0 h1⟩)
   ·obtain⟨a1,a2,a3,a4,a5,a6⟩:=h1
    exact .inr (.inr ⟨a1,a2,a3,a4,by rw[e2];exact a5,a6⟩)
 ·rw[e1]at hd he
  obtain⟨d0,hd0,x⟩:=orig hc hd
  obtain⟨f0,he0,y⟩:=orig hc he
  have b1:d.born=d0.born∧d.state=d0.state:=by rcases x with⟨_,rfl,rfl⟩|⟨_,rfl⟩<;>exact⟨rfl,rfl⟩
  have b2:e.born=f0.born∧e.state=f0.state:=by rcases y with⟨_,rfl,rfl⟩|⟨_,rfl⟩<;>exact⟨rfl,rfl⟩
  rw[b1.1,b2.1]
  exact h.born j l d0 f0 hd0 he0 hjl (b1.2▸h1) (b2.2▸h2)
 ·rw[e1]at hd he
  obtain⟨d0,hd0,x⟩:=orig hc hd
  obtain⟨f0,he0,y⟩:=orig hc he
  have b1:d.to=d0.to∧d.state=d0.state:=by rcases x with⟨_,rfl,rfl⟩|⟨_,rfl⟩<;>exact⟨rfl,rfl⟩
  have b2:e.to=f0.to∧e.state=f0.state:=by rcases y with⟨_,rfl,rfl⟩|⟨_,rfl⟩<;>exact⟨rfl,rfl⟩
  rw[b1.1,b2.1]
  exact h.to j l d0 f0 hd0 he0 hjl (b1.2▸h1) (b2.2▸h2)
theorem col_r3{H H':Heap}{i:Nat}{c:Cell}{k:Int}(h:R3 H)(hc:H.cells[i]?=some c)(e1:H'.cells=H.cells.set i (c.col k))(e2:H'.used=H.used)(e3:H'.room=H.room):R3 H':=by
 unfold R3 at*
 rw[e1,e2,e3,units_set hc]
 have:(c.col k).units=c.units:=rfl
 rw[this];omega
theorem leads_of{H H':Heap}{w:Word}{m m':Prop}(hs:∀j,(H'.getC j).state=(H.getC j).state)(hd:∀j,Doomed H' j→Doomed H j)(hm:m→m')(h:LeadsWell H w m):LeadsWell H' w m':=fun hk=>by
 rw[hs]
 rcases h hk with⟨a,b⟩|⟨a,b⟩
 ·exact .inl ⟨a,fun h=>b (hd _ h)⟩
 ·exact .inr ⟨a,hm b⟩
theorem formed_len{H H':Heap}{w:Word}(hl:H'.cells.length=H.cells.length)(h:Formed H w):Formed H' w:=by unfold Formed at*;rw[hl];exact h
theorem r4_frame{H H':Heap}(h:R4 H)(hl:H'.cells.length=H.cells.length)(hr:H'.regs=H.regs)(hs:∀j,(H'.getC j).state=(H.getC j).state)(hd:∀j,Doomed H' j↔Doomed H j)
 (ho:∀(j:Nat) d,H'.cells[j]?=some d→∃d0,H.cells[j]?=some d0∧d.pairs=d0.pairs∧(Root d→Root d0))
 (hm:∀(j k:Nat) d p,H.cells[j]?=some d→d.pairs[k]?=some p→Mended H' j k→Mended H j k):R4 H':=by
 refine⟨fun w hw=>?_,fun i c hc hdm hrt=>?_,fun i c hc k p hp=>?_⟩
 ·obtain⟨a,b⟩:=h.regs w (by rw[←hr];exact hw)
  exact⟨formed_len hl a,leads_of hs (fun j=>(hd j).1) id b⟩
 ·obtain⟨d0,h0,_,h2⟩:=ho i c hc
  exact h.roots i d0 h0 ((hd i).1 hdm) (h2 hrt)
 ·obtain⟨d0,h0,h1,_⟩:=ho i c hc
  rw[h1]at hp
  obtain⟨a,b,g⟩:=h.pairs i d0 h0 k p hp
  refine⟨formed_len hl a,formed_len hl b,fun hn=>?_⟩
  obtain⟨g1,g2⟩:=g (fun h'=>hn ((hd i).2 h'))
  have hmm:¬Mended H i k→¬Mended H' i k:=fun a b=>a (hm i k d0 p h0 hp b)
  exact⟨leads_of hs (fun j=>(hd j).1) hmm g1,leads_of hs (fun j=>(hd j).1) hmm g2⟩
theorem same_orig{H H':Heap}(e:H'.cells=H.cells):∀(j:Nat) d,H'.cells[j]?=some d→∃d0,H.cells[j]?=some d0∧d.pairs=d0.pairs∧(Root d→Root d0):=fun j d hd=>⟨d,by rw[←e];exact hd,rfl,id⟩
theorem col_orig{H H':Heap}{i:Nat}{c:Cell}{k:Int}(hc:H.cells[i]?=some c)(e:H'.cells=H.cells.set i (c.col k)):∀(j:Nat) d,H'.cells[j]?=some d→∃d0,H.cells[j]?=some d0∧d.pairs=d0.pairs∧(Root d→Root d0):=fun j d hd=>by
 rw[e]at hd
 obtain⟨d0,hd0,⟨rfl,rfl,rfl⟩|⟨_,rfl⟩⟩:=orig hc hd
 ·exact⟨_,hd0,rfl,id⟩
 ·exact⟨d,hd0,rfl,id⟩
theorem not_mend{H:Heap}(hp:H.phase≠4∧H.phase≠5)(i k:Int):Mended H i k:=⟨hp.1,fun h=>absurd h hp.2⟩
theorem not_doom{H:Heap}(hp:H.phase≠3)(i:Int):¬Doomed H i:=fun h=>hp h.1
theorem r6_0{H:Heap}(hp:H.phase=0∨H.phase=4):R6 H↔H.hand=0∧H.sub=0:=by unfold R6;rw[if_pos hp]
theorem r6_2{H:Heap}(hp:H.phase=2):R6 H↔H.hand=0∧(match H.gray with|[]=>H.sub=0|g::_=>H.sub≤(H.getC g).pairs.length):=by unfold R6;rw[if_neg (by omega),if_pos hp];exact Iff.rfl
theorem r6_5{H:Heap}(hp:H.phase=5):R6 H↔(if H.hand<H.cells.length∧(H.getC H.hand).state=1 then H.sub≤(H.getC H.hand).pairs.length else H.sub=0):=by unfold R6;rw[if_neg (by omega),if_neg (by omega),if_pos hp]
theorem r6_e{H:Heap}(hp:H.phase≠0∧H.phase≠4∧H.phase≠2∧H.phase≠5):R6 H↔H.sub=0:=by unfold R6;rw[if_neg (by omega),if_neg (by omega),if_neg (by omega)]
theorem r6_2s{H:Heap}(hp:H.phase=2)(hh:H.hand=0)(hs:H.sub=0):R6 H:=by
 refine(r6_2 hp).2 ⟨hh,?_⟩
 rw[hs]
 cases H.gray with
 |nil=>rfl
 |cons a r=>simp
theorem R7.nil{H:Heap}(hp:¬Marking H):R7 H:=fun h=>absurd h hp
theorem R8.nil{H:Heap}(hp:H.phase≠6):R8 H:=fun h=>absurd h hp
def Heap.gray1(H:Heap)(i:Nat)(c:Cell):Heap:={H with cells:=H.cells.set i (c.col 1),gray:=H.gray++[(i:Int)]}
theorem gray1_sound{H:Heap}{i:Nat}{c:Cell}(h:Sound H)(hm:Marking H)(hc:H.cells[i]?=some c)(hu:c.state=1)(hw:c.color=0):Sound (H.gray1 i c):=by
 have hp:H.phase≠3∧H.phase≠4∧H.phase≠5∧H.phase≠6:=by rcases hm with e|e<;>rw[e]<;>omega
 have hp12:H.phase=1∨H.phase=2:=hm
 have hlt:=(List.getElem?_eq_some_iff.1 hc).1
 have hcs:=fun j=>col_state (H:=H) (H':=H.gray1 i c) (k:=1) hc rfl j
 obtain⟨g1,g2,g3⟩:=h.r5.mark hm
 have hi:(i:Int)∉H.gray:=fun hi=>by
  have:=(g2 _ hi).2.2.2
  rw[getC_nat hc,hw]at this;omega
 have gn:(H.gray++[(i:Int)]).Nodup:=List.nodup_append.2 ⟨g1,by simp,fun a ha b hb=>by simp at hb;subst hb;exact fun e=>hi (by rw[←e];exact ha)⟩
 have gC:∀j:Int,(H.gray1 i c).getC j=if j.toNat=i then c.col 1 else H.getC j:=fun j=>by
  rw[getC_L,getC_L];exact getL_set hlt
 have gm:∀g,g∈H.gray++[(i:Int)]→0≤g∧g<H.cells.length:=fun g hg=>by
  rcases List.mem_append.1 hg with hg|hg
  ·exact⟨(g2 g hg).1,(g2 g hg).2.1⟩
  ·simp at hg;subst hg;omega
 have hl:(H.gray1 i c).cells.length=H.cells.length:=by simp[Heap.gray1]
 have w_of:∀w,White (H.gray1 i c) w→White H w:=fun w hw'=>by
  refine⟨hw'.1,?_⟩
  have:=hw'.2
  rw[gC]at this
  split at this
  ·simp[Cell.col]at this
  ·exact this
 refine⟨?_,col_r2 h.r2 hc hu (by omega) rfl rfl rfl,col_r3 h.r3 hc rfl rfl rfl,?_,⟨fun _=>⟨gn,fun g hg=>?_,fun j d hd hdc=>?_⟩,fun hn=>absurd hm hn⟩,?_,fun _ j d hd=>?_,R8.nil hp.2.2.2⟩
 ·refine{h.r1 with cells:=by rw[hl];exact h.r1.cells,gray:=?_,hand:=by rw[hl];exact h.r1.hand}
  rw[hl];exact nodup_len _ _ gn gm
 ·exact r4_frame h.r4 hl rfl (fun j=>(hcs j).1) (fun j=>⟨fun h=>absurd h.1 hp.1,fun h=>absurd h.1 hp.1⟩) (col_orig hc rfl) (fun _ _ _ _ _ _ _=>not_mend ⟨hp.2.1,hp.2.2.1⟩ _ _)
 ·refine⟨(gm g hg).1,by rw[hl];exact(gm g hg).2,?_⟩
  rw[gC]
  by_cases e:g.toNat=i
  ·rw[if_pos e];exact⟨hu,rfl⟩
  ·rw[if_neg e]
   rcases List.mem_append.1 hg with hg|hg
   ·exact(g2 g hg).2.2
   ·simp at hg;subst hg;simp at e
 ·show(j:Int)∈H.gray++[(i:Int)]
  obtain⟨d0,hd0,⟨rfl,rfl,rfl⟩|⟨_,rfl⟩⟩:=orig hc hd
  ·simp
  ·exact List.mem_append_left _ (g3 j d hd0 hdc)
 ·have h6:=h.r6
  unfold R6 at h6⊢
  show if H.phase=0∨H.phase=4 then _ else if H.phase=2 then _ else if H.phase=5 then _ else _
  by_cases p2:H.phase=2
  ·rw[if_neg (by omega),if_pos p2]at h6⊢
   refine⟨h6.1,?_⟩
   have h7:=h6.2
   show match H.gray++[(i:Int)]with|[]=>H.sub=0|g::_=>H.sub≤((H.gray1 i c).getC g).pairs.length
   cases hg:H.gray with
   |nil=>
    rw[hg]at h7
    simp only[List.nil_append]at h7⊢
    omega
   |cons a r=>
    rw[hg]at h7
    simp only[List.cons_append]at h7⊢
    rw[(hcs a).2.1];exact h7
  ·rw[if_neg (by omega),if_neg p2,if_neg (by omega)]at h6⊢
   exact h6
 ·obtain⟨d0,hd0,x⟩:=orig hc hd
  obtain⟨a,b⟩:=h.r7 hm j d0 hd0
  refine⟨fun hr hcol=>?_,fun k p hk hsc=>?_⟩
  ·rcases x with⟨rfl,rfl,rfl⟩|⟨_,rfl⟩
   ·simp[Cell.col]at hcol
   ·exact a hr hcol
  ·have hpr:d.pairs=d0.pairs:=by rcases x with⟨_,rfl,rfl⟩|⟨_,rfl⟩<;>rfl
   rw[hpr]at hk
   have:(k:Int)<scanned H j d0:=by
    unfold scanned at hsc⊢
    have hph:(H.gray1 i c).phase=H.phase:=rfl
    have hsub:(H.gray1 i c).sub=H.sub:=rfl
    have hhd:(H.gray1 i c).gray.head?=some (j:Int)→H.phase=2→(H.gray.head?=some (j:Int))∨H.sub=0:=by
     intro h1 h2
     have h6:=h.r6
     unfold R6 at h6
     rw[if_neg (by omega),if_pos h2]at h6
     have h1:(H.gray++[(i:Int)]).head?=some (j:Int):=h1
     cases hg:H.gray with
     |nil=>rw[hg]at h6;exact .inr h6.2
     |cons a r=>rw[hg]at h1;left;simpa using h1
    rw[hph,hsub]at hsc
    rcases x with⟨rfl,rfl,rfl⟩|⟨_,rfl⟩
    ·have hcol:¬(d0.col 1).color=2:=by simp[Cell.col]
     rw[if_neg hcol]at hsc
     rw[if_neg (show ¬d0.color=2 by omega)]
     split at hsc
     ·rename_i e
      rcases hhd e.2 e.1 with h'|h'
      ·rw[if_pos ⟨e.1,h'⟩];exact hsc
      ·omega
     ·omega
    ·by_cases e2:d.color=2
     ·rw[if_pos e2]at hsc⊢;exact hsc
     ·rw[if_neg e2]at hsc⊢
      split at hsc
      ·rename_i e
       rcases hhd e.2 e.1 with h'|h'
       ·rw[if_pos ⟨e.1,h'⟩];exact hsc
       ·omega
      ·omega
   obtain⟨b1,b2⟩:=b k p hk this
   exact⟨fun h=>b1 (w_of _ h),fun h=>b2 (w_of _ h)⟩
noncomputable def Heap.shadeH(H:Heap)(i:Nat):Heap:=if Marking H∧(H.getC i).color=0 then H.gray1 i (H.getC i)else H
structure Sh (H K:Heap):Prop where
 sound:Sound H→Sound K
 room:K.room=H.room
 used:K.used=H.used
 born:K.born=H.born
 regs:K.regs=H.regs
 phase:K.phase=H.phase
 hand:K.hand=H.hand
 sub:K.sub=H.sub
 per:K.per=H.per
 start:K.start=H.start
 rounds:K.rounds=H.rounds
 forced:K.forced=H.forced
 len:K.cells.length=H.cells.length
 cell:∀j:Int,(K.getC j).state=(H.getC j).state∧(K.getC j).pairs=(H.getC j).pairs∧(K.getC j).last=(H.getC j).last∧((H.getC j).color≠0→(K.getC j).color=(H.getC j).color)
 gray:H.gray<+:K.gray
theorem Sh.refl(H:Heap):Sh H H:=⟨id,rfl,rfl,rfl,rfl,rfl,rfl,rfl,rfl,rfl,rfl,rfl,rfl,fun _=>⟨rfl,rfl,rfl,fun _=>rfl⟩,List.prefix_refl _⟩
theorem Sh.trans{H K L:Heap}(h:Sh H K)(k:Sh K L):Sh H L:=
 ⟨fun s=>k.sound (h.sound s),k.room.trans h.room,k.used.trans h.used,k.born.trans h.born,k.regs.trans h.regs,k.phase.trans h.phase,k.hand.trans h.hand,k.sub.trans h.sub,k.per.trans h.per,k.start.trans h.start,k.rounds.trans h.rounds,k.forced.trans h.forced,k.len.trans h.len,
  fun j=>⟨(k.cell j).1.trans (h.cell j).1,(k.cell j).2.1.trans (h.cell j).2.1,(k.cell j).2.2.1.trans (h.cell j).2.2.1,fun hc=>by
   have:=(h.cell j).2.2.2 hc
   rw[(k.cell j).2.2.2 (by rw[this];exact hc),this]⟩,h.gray.trans k.gray⟩
theorem shadeH_ok{H:Heap}{i:Nat}(hi:i<H.cells.length)(hu:(H.getC i).state=1):Sh H (H.shadeH i)∧(Marking H→((H.shadeH i).getC i).color≠0):=by
 unfold Heap.shadeH
 have hc:=getL_some (cs:=H.cells) (j:=i) (by omega) (by omega)
 rw[show((i:Int)).toNat=i by omega,←getC_L]at hc
 split
 ·rename_i hm
  refine⟨⟨fun h=>gray1_sound h hm.1 hc hu hm.2,rfl,rfl,rfl,rfl,rfl,rfl,rfl,rfl,rfl,rfl,rfl,by simp[Heap.gray1],fun j=>?_,List.prefix_append _ _⟩,fun _=>?_⟩
  ·have e:(H.gray1 i (H.getC i)).getC j=if j.toNat=i then(H.getC i).col 1 else H.getC j:=by rw[getC_L,getC_L];exact getL_set hi
   rw[e]
   split
   ·rename_i e
    have:H.getC j=H.getC i:=by rw[getC_L,getL_at hc e]
    rw[this]
    exact⟨rfl,rfl,rfl,fun h=>absurd hm.2 h⟩
   ·exact⟨rfl,rfl,rfl,fun _=>rfl⟩
  ·have e:(H.gray1 i (H.getC i)).getC i=if((i:Int)).toNat=i then(H.getC i).col 1 else H.getC i:=by rw[getC_L,getC_L];exact getL_set hi
   rw[e,if_pos (by omega)];simp[Cell.col]
 ·rename_i hm
  exact⟨Sh.refl H,fun h e=>hm ⟨h,e⟩⟩
theorem Sh.white{H K:Heap}(h:Sh H K){w:Word}(hw:¬White H w):¬White K w:=fun h'=>hw ⟨h'.1,by
 have:=h'.2
 by_cases e:(H.getC w.at_).color=0
 ·exact e
 ·rw[(h.cell _).2.2.2 e]at this;exact absurd this e⟩
noncomputable def Heap.shadeW(H:Heap)(w:Word):Heap:=if w.kind=2 then H.shadeH w.at_.toNat else H
theorem shadeW_ok{H:Heap}{w:Word}(hf:Formed H w)(hu:w.kind=2→(H.getC w.at_).state=1):Sh H (H.shadeW w)∧(Marking H→¬White (H.shadeW w) w):=by
 unfold Heap.shadeW
 split
 ·rename_i hk
  have ha:=hf.at hk
  have e:((w.at_.toNat:Nat):Int)=w.at_:=by omega
  obtain⟨a,b⟩:=shadeH_ok (H:=H) (i:=w.at_.toNat) (by omega) (by rw[e];exact hu hk)
  refine⟨a,fun hm hw=>b hm ?_⟩
  rw[e];exact hw.2
 ·rename_i hk
  exact⟨Sh.refl H,fun _ hw=>hk hw.1⟩
def Heap.enterH(H:Heap)(p:Int):Heap:={H with phase:=p,hand:=if p=6 then H.cells.length else 0,sub:=0}
theorem reg_used{H:Heap}(h:R4 H){w:Word}(hw:w∈H.regs):Formed H w∧(w.kind=2→(H.getC w.at_).state=1∧¬Doomed H w.at_):=by
 obtain⟨a,b⟩:=h.regs w hw
 refine⟨a,fun hk=>?_⟩
 rcases b hk with h|h
 ·exact h
 ·exact h.2.elim
theorem pair_used{H:Heap}(h:R4 H){i:Nat}{c:Cell}(hc:H.cells[i]?=some c){k:Nat}{p:Pair}(hp:c.pairs[k]?=some p)(hm:Mended H i k)(hd:¬Doomed H i){w:Word}(hw:w=p.key∨w=p.val):Formed H w∧(w.kind=2→(H.getC w.at_).state=1∧¬Doomed H w.at_):=by
 obtain⟨a,b,g⟩:=h.pairs i c hc k p hp
 obtain⟨g1,g2⟩:=g hd
 have key:∀w,LeadsWell H w (¬Mended H i k)→(w.kind=2→(H.getC w.at_).state=1∧¬Doomed H w.at_):=fun w hw hk=>by
  rcases hw hk with h|h
  ·exact h
  ·exact absurd hm h.2
 rcases hw with rfl|rfl
 ·exact⟨a,key _ g1⟩
 ·exact⟨b,key _ g2⟩
noncomputable def Heap.rootsU(H:Heap):Heap:=if H.hand=H.cells.length then H.enterH 2 else{(if Root (H.getC H.hand)then H.shadeH H.hand.toNat else H)with hand:=H.hand+1}
theorem enter2_sound{H:Heap}(h:Sound H)(hp:H.phase=1)(hh:H.hand=H.cells.length):Sound (H.enterH 2):=by
 have hm:Marking H:=.inl hp
 refine⟨{h.r1 with phase:=by simp[Heap.enterH],hand:=by simp[Heap.enterH],sub:=by simp[Heap.enterH]},⟨fun j d hd=>?_,h.r2.born,h.r2.to⟩,h.r3,?_,⟨fun _=>h.r5.mark hm,fun hn=>absurd (.inr rfl) hn⟩,?_,fun _ j d hd=>?_,R8.nil (by simp[Heap.enterH])⟩
 ·rcases h.r2.each j d hd with h1|h1|h1
  ·exact .inl h1
  ·have:=h1.2.2.1;omega
  ·exact .inr (.inr h1)
 ·exact r4_frame h.r4 rfl rfl (fun _=>rfl) (fun j=>⟨fun h=>by have:=h.1;simp[Heap.enterH]at this,fun h=>by have:=h.1;omega⟩) (same_orig rfl) (fun _ _ _ _ _ _ _=>not_mend (by omega) _ _)
 ·exact r6_2s rfl rfl rfl
 ·obtain⟨a,b⟩:=h.r7 hm j d hd
  have hj:j<H.cells.length:=(List.getElem?_eq_some_iff.1 hd).1
  refine⟨fun hr hc=>?_,fun k p hk hs=>?_⟩
  ·have:=(a hr hc).2;omega
  ·refine b k p hk ?_
   unfold scanned at hs⊢
   split at hs
   ·rename_i e;rw[if_pos e];exact hs
   ·split at hs
    ·have:(H.enterH 2).sub=0:=rfl
     omega
    ·omega
theorem hand1_sound{H:Heap}(h:Sound H)(hp:H.phase=1)(hh:H.hand<H.cells.length)(hr:Root (H.getC H.hand)→(H.getC H.hand).color≠0):Sound {H with hand:=H.hand+1}:=by
 have hm:Marking H:=.inl hp
 have h0:=h.r1.hand
 refine⟨{h.r1 with hand:=by show 0≤H.hand+1∧H.hand+1≤H.cells.length;omega},⟨fun j d hd=>h.r2.each j d hd,h.r2.born,h.r2.to⟩,h.r3,?_,⟨fun _=>h.r5.mark hm,fun hn=>absurd hm hn⟩,?_,fun _ j d hd=>?_,R8.nil (by show H.phase≠6;omega)⟩
 ·exact r4_frame h.r4 rfl rfl (fun _=>rfl) (fun j=>⟨fun h=>by have:=h.1;simp only at this;omega,fun h=>by have:=h.1;omega⟩) (same_orig rfl) (fun _ _ _ _ _ _ _=>not_mend (by omega) _ _)
 ·exact(r6_e (by simp only;omega)).2 ((r6_e (H:=H) (by omega)).1 h.r6)
 ·obtain⟨a,b⟩:=h.r7 hm j d hd
  refine⟨fun hr' hc=>⟨(a hr' hc).1,?_⟩,fun k p hk hs=>b k p hk hs⟩
  have h2:=(a hr' hc).2
  have:(j:Int)≠H.hand:=fun e=>by
   rw[←e,getC_nat (H:=H) hd]at hr
   exact hr hr' hc
  show H.hand+1≤j
  omega
theorem rootsU_sound{H:Heap}(h:Sound H)(hp:H.phase=1):Sound H.rootsU:=by
 unfold Heap.rootsU
 have h0:=h.r1.hand
 by_cases hh:H.hand=H.cells.length
 ·rw[if_pos hh];exact enter2_sound h hp hh
 ·rw[if_neg hh]
  by_cases hr:Root (H.getC H.hand)
  ·rw[if_pos hr]
   have e:((H.hand.toNat:Nat):Int)=H.hand:=by omega
   obtain⟨a,b⟩:=shadeH_ok (H:=H) (i:=H.hand.toNat) (by omega) (by rw[e];exact hr.1)
   have:=hand1_sound (a.sound h) (by rw[a.phase,hp]) (by rw[a.hand,a.len];omega) (fun _=>by rw[a.hand];rw[e]at b;exact b (.inl hp))
   rw[a.hand]at this
   exact this
  ·rw[if_neg hr]
   exact hand1_sound h hp (by omega) (fun h'=>absurd h' hr)
noncomputable def Heap.shadeL(H:Heap)(ws:List Word):Heap:=ws.foldl Heap.shadeW H
theorem shadeL_ok:∀(ws:List Word) (H:Heap),(∀w,w∈ws→Formed H w∧(w.kind=2→(H.getC w.at_).state=1))→Sh H (H.shadeL ws)∧(Marking H→∀w,w∈ws→¬White (H.shadeL ws) w)
 |[],H,_=>⟨Sh.refl H,fun _ w hw=>by cases hw⟩
 |w::r,H,h=>by
  obtain⟨a,b⟩:=shadeW_ok (h w (by simp)).1 (h w (by simp)).2
  obtain⟨k1,k2⟩:=shadeL_ok r (H.shadeW w) (fun v hv=>⟨formed_len a.len (h v (by simp[hv])).1,fun hk=>by rw[(a.cell _).1];exact(h v (by simp[hv])).2 hk⟩)
  refine⟨a.trans k1,fun hm v hv=>?_⟩
  have hm':Marking (H.shadeW w):=by unfold Marking at*;rw[a.phase];exact hm
  rcases List.mem_cons.1 hv with rfl|hv
  ·exact k1.white (b hm)
  ·exact k2 hm' v hv
def Heap.black(H:Heap)(g:Int)(r:List Int):Heap:={H with cells:=H.cells.set g.toNat ((H.getC g).col 2),gray:=r,sub:=0}
theorem black_sound{H:Heap}{g:Int}{r:List Int}(h:Sound H)(hp:H.phase=2)(hg:H.gray=g::r)(hs:(H.getC g).pairs.length≤H.sub):Sound (H.black g r):=by
 have hm:Marking H:=.inr hp
 obtain⟨g1,g2,g3⟩:=h.r5.mark hm
 obtain⟨b0,b1,b2,b3⟩:=g2 g (by rw[hg];simp)
 have hc:=getL_some (cs:=H.cells) b0 b1
 rw[←getC_L]at hc
 have hlt:=(List.getElem?_eq_some_iff.1 hc).1
 have e1:(H.black g r).cells=H.cells.set g.toNat ((H.getC g).col 2):=rfl
 have hcs:=fun j=>col_state hc e1 j
 have gC:∀j:Int,(H.black g r).getC j=if j.toNat=g.toNat then(H.getC g).col 2 else H.getC j:=fun j=>by
  rw[getC_L,getC_L];exact getL_set hlt
 rw[hg]at g1 g2 g3
 have hgr:=List.nodup_cons.1 g1
 have hl:(H.black g r).cells.length=H.cells.length:=by simp[Heap.black]
 have w_of:∀w,White (H.black g r) w→White H w:=fun w hw'=>by
  refine⟨hw'.1,?_⟩
  have:=hw'.2
  rw[gC]at this
  split at this
  ·simp[Cell.col]at this
  ·exact this
 refine⟨{h.r1 with cells:=by rw[hl];exact h.r1.cells,hand:=by rw[hl];exact h.r1.hand,gray:=?_,sub:=by simp[Heap.black]},col_r2 h.r2 hc b2 (by omega) e1 rfl rfl,col_r3 h.r3 hc e1 rfl rfl,?_,⟨fun _=>⟨hgr.2,fun a ha=>?_,fun j d hd hdc=>?_⟩,fun hn=>absurd hm hn⟩,?_,fun _ j d hd=>?_,R8.nil (by show H.phase≠6;omega)⟩
 ·have:=h.r1.gray
  rw[hg]at this
  rw[hl];simp only[List.length_cons]at this
  show r.length≤_
  omega
 ·exact r4_frame h.r4 hl rfl (fun j=>(hcs j).1) (fun j=>⟨fun h=>by have:H.phase=3:=h.1;omega,fun h=>by have:=h.1;omega⟩) (col_orig hc e1) (fun _ _ _ _ _ _ _=>not_mend (by omega) _ _)
 ·obtain⟨a0,a1,a2,a3⟩:=g2 a (by simp only[List.mem_cons];exact .inr ha)
  have hne:a.toNat≠g.toNat:=fun e=>hgr.1 (by rw[show g=a by omega];exact ha)
  refine⟨a0,by rw[hl];exact a1,?_⟩
  rw[gC,if_neg hne];exact⟨a2,a3⟩
 ·obtain⟨d0,hd0,⟨rfl,rfl,rfl⟩|⟨hne,rfl⟩⟩:=orig hc hd
  ·simp[Cell.col]at hdc
  ·rcases List.mem_cons.1 (g3 j d hd0 hdc)with h|h
   ·omega
   ·exact h
 ·exact r6_2s hp ((r6_2 hp).1 h.r6).1 rfl
 ·obtain⟨d0,hd0,x⟩:=orig hc hd
  obtain⟨a,b⟩:=h.r7 hm j d0 hd0
  refine⟨fun hr hcol=>?_,fun k p hk hsc=>?_⟩
  ·rcases x with⟨rfl,rfl,rfl⟩|⟨_,rfl⟩
   ·simp[Cell.col]at hcol
   ·exact a hr hcol
  ·have hpr:d.pairs=d0.pairs:=by rcases x with⟨_,rfl,rfl⟩|⟨_,rfl⟩<;>rfl
   rw[hpr]at hk
   have hsc2:(k:Int)<scanned H j d0:=by
    unfold scanned at hsc⊢
    rcases x with⟨rfl,rfl,rfl⟩|⟨_,rfl⟩
    ·have hkl:=(List.getElem?_eq_some_iff.1 hk).1
     rw[if_neg (by omega),if_pos ⟨hp,by rw[hg];simp;omega⟩]
     omega
    ·split at hsc
     ·rename_i e;rw[if_pos e];exact hsc
     ·split at hsc
      ·have:(H.black g r).sub=0:=rfl
       omega
      ·omega
   obtain⟨b1,b2⟩:=b k p hk hsc2
   exact⟨fun h=>b1 (w_of _ h),fun h=>b2 (w_of _ h)⟩
theorem sub1_sound{H:Heap}{g:Int}{r:List Int}{p:Pair}(h:Sound H)(hp:H.phase=2)(hg:H.gray=g::r)(hs:(H.getC g).pairs[H.sub.toNat]?=some p)(hk:¬White H p.key)(hv:¬White H p.val):Sound {H with sub:=H.sub+1}:=by
 have hm:Marking H:=.inr hp
 obtain⟨g1,g2,g3⟩:=h.r5.mark hm
 obtain⟨b0,b1,b2,b3⟩:=g2 g (by rw[hg];simp)
 have hc:=getL_some (cs:=H.cells) b0 b1
 rw[←getC_L]at hc
 have hlt:=(List.getElem?_eq_some_iff.1 hs).1
 have h0:=h.r1.sub
 have hpl:=(h.r2.used hc b2).2.2.2.2.2.2.2
 refine⟨{h.r1 with sub:=by show 0≤H.sub+1∧H.sub+1≤200;omega},⟨fun j d hd=>h.r2.each j d hd,h.r2.born,h.r2.to⟩,h.r3,?_,⟨fun _=>h.r5.mark hm,fun hn=>absurd hm hn⟩,?_,fun _ j d hd=>?_,R8.nil (by show H.phase≠6;omega)⟩
 ·exact r4_frame h.r4 rfl rfl (fun _=>rfl) (fun j=>⟨fun h=>by have:H.phase=3:=h.1;omega,fun h=>by have:=h.1;omega⟩) (same_orig rfl) (fun _ _ _ _ _ _ _=>not_mend (by omega) _ _)
 ·have h6:=(r6_2 hp).1 h.r6
  refine(r6_2 (H:={H with sub:=H.sub+1}) hp).2 ⟨h6.1,?_⟩
  show match H.gray with|[]=>H.sub+1=0|g::_=>H.sub+1≤((H.getC g).pairs.length:Int)
  rw[hg]
  show H.sub+1≤((H.getC g).pairs.length:Int)
  omega
 ·obtain⟨a,b⟩:=h.r7 hm j d hd
  refine⟨fun hr' hc=>a hr' hc,fun k q hq hsc=>?_⟩
  by_cases hlt2:(k:Int)<scanned H j d
  ·exact b k q hq hlt2
  ·unfold scanned at hsc hlt2
   by_cases e:d.color=2
   ·rw[if_pos e]at hsc hlt2;exact absurd hsc hlt2
   ·rw[if_neg e]at hsc hlt2
    by_cases e2:H.phase=2∧H.gray.head?=some (j:Int)
    ·rw[if_pos e2]at hsc hlt2
     have e3:g=j:=by have:=e2.2;rw[hg]at this;simpa using this
     rw[e3,getC_nat (H:=H) hd]at hs
     simp only at hsc
     have:H.sub.toNat=k:=by omega
     rw[this,hq]at hs
     cases hs
     exact⟨hk,hv⟩
    ·rw[if_neg e2]at hsc;omega
theorem enter3_sound{H:Heap}(h:Sound H)(hp:H.phase=2)(hg:H.gray=[])(hw:∀w,w∈H.regs→¬White H w):Sound (H.enterH 3):=by
 have hm:Marking H:=.inr hp
 obtain⟨_,_,g3⟩:=h.r5.mark hm
 rw[hg]at g3
 have nd:∀i,¬Doomed H i:=fun i=>not_doom (by omega) i
 refine⟨{h.r1 with phase:=by simp[Heap.enterH],hand:=by simp[Heap.enterH],sub:=by simp[Heap.enterH]},⟨fun j d hd=>?_,h.r2.born,h.r2.to⟩,h.r3,⟨fun w hwr=>?_,fun i c hc hd hr=>?_,fun i c hc k p hk=>?_⟩,⟨fun hn=>?_,fun _=>⟨hg,fun i c hc=>?_⟩⟩,?_,R7.nil ?_,R8.nil (by simp[Heap.enterH])⟩
 ·rcases h.r2.each j d hd with h1|h1|h1
  ·exact .inl h1
  ·have:=h1.2.2.1;omega
  ·exact .inr (.inr h1)
 ·obtain⟨a,b⟩:=reg_used h.r4 hwr
  exact⟨a,fun hk=>.inl ⟨(b hk).1,fun hd=>hw w hwr ⟨hk,hd.2.2.1⟩⟩⟩
 ·have hcol:c.color=0:=by have:=hd.2.2.1;rw[←getC_nat hc];exact this
  have:=(h.r7 hm i c hc).1 hr hcol
  exact this.1 hp
 ·obtain⟨a,b,_⟩:=h.r4.pairs i c hc k p hk
  refine⟨a,b,fun hn=>?_⟩
  have hu:c.state=1:=by
   rcases Decidable.em (c.state=1)with e|e
   ·exact e
   ·have:=(h.r2.bare hc e).2.2.2.2.2;rw[this]at hk;simp at hk
  have hcol:c.color=2:=by
   have h1:c.color≠0:=fun e=>hn ⟨rfl,by show(H.getC i).state=1;rw[getC_nat (H:=H) hc];exact hu,by show(H.getC i).color=0;rw[getC_nat (H:=H) hc];exact e,by show(0:Int)≤i;omega⟩
   have h2:c.color≠1:=fun e=>by have:=g3 i c hc e;cases this
   have h3:=(h.r2.used hc hu).2.2.2.2.2.1
   omega
  have hkl:=(List.getElem?_eq_some_iff.1 hk).1
  obtain⟨w1,w2⟩:=(h.r7 hm i c hc).2 k p hk (by unfold scanned;rw[if_pos hcol];omega)
  have m:=fun w hw=>(pair_used h.r4 hc hk (not_mend (by omega) _ _) (nd i) (w:=w) hw).2
  exact⟨fun hk=>.inl ⟨(m p.key (.inl rfl) hk).1,fun hd=>w1 ⟨hk,hd.2.2.1⟩⟩,fun hk=>.inl ⟨(m p.val (.inr rfl) hk).1,fun hd=>w2 ⟨hk,hd.2.2.1⟩⟩⟩
 ·rcases hn with e|e<;>simp[Heap.enterH]at e
 ·exact⟨fun e=>absurd (g3 i c hc e) (by simp),fun _=>⟨rfl,by show(0:Int)≤i;omega⟩⟩
 ·exact(r6_e (by simp[Heap.enterH])).2 rfl
 ·rintro(e|e)<;>simp[Heap.enterH]at e
noncomputable def Heap.markU(H:Heap):Heap:=match H.gray with
 |g::r=>match(H.getC g).pairs[H.sub.toNat]? with
  |some p=>{(H.shadeW p.key).shadeW p.val with sub:=H.sub+1}
  |none=>H.black g r
 |[]=>if ∃w,w∈H.regs∧White H w then H.shadeL H.regs else H.enterH 3
theorem markP{H:Heap}{g:Int}{r:List Int}{p:Pair}(h:Sound H)(hp:H.phase=2)(hg:H.gray=g::r)(hs:(H.getC g).pairs[H.sub.toNat]?=some p):
 (Formed H p.key∧(p.key.kind=2→(H.getC p.key.at_).state=1))∧Formed H p.val∧(p.val.kind=2→(H.getC p.val.at_).state=1):=by
 obtain⟨g1,g2,g3⟩:=h.r5.mark (.inr hp)
 obtain⟨b0,b1,b2,b3⟩:=g2 g (by rw[hg];simp)
 have hc:=getL_some (cs:=H.cells) b0 b1
 rw[←getC_L]at hc
 have m:=fun w hw=>pair_used h.r4 hc hs (not_mend (by omega) _ _) (not_doom (by omega) _) (w:=w) hw
 exact⟨⟨(m _ (.inl rfl)).1,fun hk=>((m _ (.inl rfl)).2 hk).1⟩,(m _ (.inr rfl)).1,fun hk=>((m _ (.inr rfl)).2 hk).1⟩
theorem markP2{H:Heap}{g:Int}{r:List Int}{p:Pair}(h:Sound H)(hp:H.phase=2)(hg:H.gray=g::r)(hs:(H.getC g).pairs[H.sub.toNat]?=some p):
 Sh H ((H.shadeW p.key).shadeW p.val)∧¬White ((H.shadeW p.key).shadeW p.val) p.key∧¬White ((H.shadeW p.key).shadeW p.val) p.val:=by
 have hm:Marking H:=.inr hp
 obtain⟨⟨k1,k2⟩,v1,v2⟩:=markP h hp hg hs
 obtain⟨a,b⟩:=shadeW_ok k1 k2
 obtain⟨c,d⟩:=shadeW_ok (H:=H.shadeW p.key) (w:=p.val) (formed_len a.len v1) (fun hk=>by rw[(a.cell _).1];exact v2 hk)
 exact⟨a.trans c,c.white (b hm),d (by unfold Marking at*;rw[a.phase];exact hm)⟩
theorem markU_sound{H:Heap}(h:Sound H)(hp:H.phase=2):Sound H.markU:=by
 have hm:Marking H:=.inr hp
 unfold Heap.markU
 cases hg:H.gray with
 |nil=>
  simp only
  have hr:=fun w hw=>reg_used h.r4 (w:=w) hw
  by_cases hx:∃w,w∈H.regs∧White H w
  ·rw[if_pos hx]
   exact(shadeL_ok H.regs H (fun w hw=>⟨(hr w hw).1,fun hk=>((hr w hw).2 hk).1⟩)).1.sound h
  ·rw[if_neg hx]
   exact enter3_sound h hp hg (fun w hw h'=>hx ⟨w,hw,h'⟩)
 |cons g r=>
  simp only
  cases hs:(H.getC g).pairs[H.sub.toNat]? with
  |none=>
   simp only
   have:=List.getElem?_eq_none_iff.1 hs
   have h0:=h.r1.sub
   exact black_sound h hp hg (by omega)
  |some p=>
   simp only
   obtain⟨a,b,c⟩:=markP2 h hp hg hs
   obtain⟨r',hr'⟩:=a.gray
   rw[hg]at hr'
   have:=sub1_sound (g:=g) (r:=r++r') (p:=p) (a.sound h) (by rw[a.phase,hp]) (by rw[←hr'];rfl) (by rw[(a.cell g).2.1,a.sub];exact hs) b c
   rw[a.sub]at this
   exact this
end Go.Proofs.YtpleoapljeffiaaDoor.E
