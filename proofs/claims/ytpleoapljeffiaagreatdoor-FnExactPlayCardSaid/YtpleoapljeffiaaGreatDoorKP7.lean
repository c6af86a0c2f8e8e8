/- A part of the proof. Conditions: none. -/
import Derived.Test.YtpleoapljeffiaaGreatDoorKP6
set_option linter.unusedVariables false
set_option linter.unusedSimpArgs false
set_option maxHeartbeats 4000000
namespace Go.Proofs.YtpleoapljeffiaaGreatDoor.E
open Go
section
variable {E:Env} {Q:X→St→List Asr→Prop} {S:St} {As:List Asr}
theorem blk_eq{id e:Nat}(h:e=id)(hq:Q .nrm S As):blkA id Q (.ext e) S As:=by subst h;exact b_e hq
theorem blk_ne{id e:Nat}(h:e≠id)(hq:Q (.ext e) S As):blkA id Q (.ext e) S As:=by unfold blkA;simp only[if_neg h];exact hq
theorem v_rv{d:Option Nat}{v:Value}(h:Q .ret (put S d (.v v)) As):VA E (.seq (.reg [⟨d,none,.mov (.const v)⟩]) .ret) Q S As:=v_seq (v_reg (a_p (sv:=.v v) rfl (a_n (v_ret h))))
theorem v_bs{id:Nat}{a b:C}(h:VA E (.seq a b) (blkA id Q) S As):VA E (.block id (.seq a b)) Q S As:=v_blk h
theorem v_br{id:Nat}{l:List I}(h:VA E (.reg l) (blkA id Q) S As):VA E (.block id (.reg l)) Q S As:=v_blk h
theorem v_bd{id n:Nat}{l:List I}(h:VA E (.dreg n l) (blkA id Q) S As):VA E (.block id (.dreg n l)) Q S As:=v_blk h
theorem v_bc{id:Nat}{x:Operand}{a b:C}(h:VA E (.cond x a b) (blkA id Q) S As):VA E (.block id (.cond x a b)) Q S As:=v_blk h
theorem v_bk{id:Nat}(h:VA E .skip (blkA id Q) S As):VA E (.block id .skip) Q S As:=v_blk h
theorem v_bb{id id':Nat}{c:C}(h:VA E (.block id' c) (blkA id Q) S As):VA E (.block id (.block id' c)) Q S As:=v_blk h
theorem leA_up{d:Nat}{x:SV}:∀{l:List (Nat×SV)} {S:St},(l.all fun p=> !Nat.beq p.1 d)=true→leA l S→leA l (upF S d x)
 |[],_,_,_=>trivial
 |(e,y)::r,S,h,hl=>by
  simp only[List.all_cons,Bool.and_eq_true,Bool.not_eq_true']at h
  refine⟨?_,leA_up h.2 hl.2⟩
  show(bif Nat.beq e d then x else S e)=y
  rw[h.1];exact hl.1
def rngQ{α:Type}(b b' ti tn n:Nat)(T:α→List (Nat×SV))(At:α→List Asr)(Inv:Nat→α→Prop)(i:Nat)(Q:X→St→List Asr→Prop):X→St→List Asr→Prop
 |.nrm,S',As'=>∃x',leA ((ti,.v (.int .i64 i))::(tn,.v (.int .i64 n))::T x') S'∧Ent As' (At x')∧Inv (i+1) x'
 |.ext e,S',As'=>if e=b' then ∃x',leA ((ti,.v (.int .i64 i))::(tn,.v (.int .i64 n))::T x') S'∧Ent As' (At x')∧Inv (i+1) x' else if e=b then Q .nrm S' As' else Q (.ext e) S' As'
 |.ret,S',As'=>Q .ret S' As'
theorem v_range{α:Type}{body:C}{ti tn tc tu b b':Nat}(n:Nat)(T:α→List (Nat×SV))(At:α→List Asr)(Inv:Nat→α→Prop)
 (h0:∃x,leA ((ti,.v (.int .i64 0))::(tn,.v (.int .i64 n))::T x) S∧Ent As (At x)∧Inv 0 x) (hn:(n:Int)≤4611686018427387904)
 (hT:∀x,((T x).all fun p=> !Nat.beq p.1 ti&& !Nat.beq p.1 tc&& !Nat.beq p.1 tu)=true) (hd:(!Nat.beq ti tc&& !Nat.beq tn tc&& !Nat.beq ti tu&& !Nat.beq tn tu&& !Nat.beq tn ti)=true)
 (hb:∀i x,i<n→Inv i x→VA E body (rngQ b b' ti tn n T At Inv i Q) (ofL ((ti,.v (.int .i64 i))::(tn,.v (.int .i64 n))::T x)) (At x))
 (he:∀x,Inv n x→Q .nrm (upF (ofL ((ti,.v (.int .i64 n))::(tn,.v (.int .i64 n))::T x)) tc (.v (.bool (decide ((n:Int)<n))))) (At x)):
 VA E (.block b (.loop (.seq (.reg [⟨some tc,none,.bin .lss (.tmp ti) (.tmp tn)⟩]) (.seq (.cond (.tmp tc) .skip (.exit b)) (.seq (.block b' body) (.reg [⟨some tu,none,.bin .add (.tmp ti) (.const (.int .i64 1))⟩,⟨some ti,none,.mov (.tmp tu)⟩])))))) Q S As:=by
 simp only[Bool.and_eq_true,Bool.not_eq_true']at hd
 obtain⟨⟨⟨⟨d1,d2⟩,d3⟩,d4⟩,d5⟩:=hd
 have d5':Nat.beq ti tn=false:=by
  cases h:Nat.beq ti tn with
  |false=>rfl
  |true=>rw[Nat.eq_of_beq_eq_true h]at d5;simp at d5
 have hT1:∀x,((T x).all fun p=> !Nat.beq p.1 ti)=true:=fun x=>List.all_eq_true.2 fun p hp=>by
  have:=List.all_eq_true.1 (hT x) p hp;simp only[Bool.and_eq_true]at this;exact this.1.1
 have hT2:∀x,((T x).all fun p=> !Nat.beq p.1 tc)=true:=fun x=>List.all_eq_true.2 fun p hp=>by
  have:=List.all_eq_true.1 (hT x) p hp;simp only[Bool.and_eq_true]at this;exact this.1.2
 have hT3:∀x,((T x).all fun p=> !Nat.beq p.1 tu)=true:=fun x=>List.all_eq_true.2 fun p hp=>by
  have:=List.all_eq_true.1 (hT x) p hp;simp only[Bool.and_eq_true]at this;exact this.2
 refine v_blk ?_
 obtain⟨x0,g1,g2,g3⟩:=h0
 refine v_loop (fun p:Nat×α=>(ti,.v (.int .i64 p.1))::(tn,.v (.int .i64 n))::T p.2) (fun p=>At p.2) (fun k p=>k=n-p.1∧p.1≤n∧Inv p.1 p.2) ⟨_,(0,x0),g1,g2,rfl,Nat.zero_le _,g3⟩ ?_
 rintro k ⟨i,x⟩ ⟨rfl,hi,hinv⟩
 simp only at hi hinv⊢
 have e1:ofL ((ti,.v (.int .i64 (i:Int)))::(tn,.v (.int .i64 (n:Int)))::T x) ti=.v (.int .i64 i):=by show upF _ ti _ ti=_;rw[upF_eq,if_pos rfl]
 have e2:ofL ((ti,.v (.int .i64 (i:Int)))::(tn,.v (.int .i64 (n:Int)))::T x) tn=.v (.int .i64 n):=by
  show(bif Nat.beq tn ti then _ else upF _ tn _ tn)=_
  rw[d5];show upF _ tn _ tn=_;rw[upF_eq,if_pos rfl]
 have hl0:leF (ofL ((ti,.v (.int .i64 (i:Int)))::(tn,.v (.int .i64 (n:Int)))::T x)) (upF (ofL ((ti,.v (.int .i64 (i:Int)))::(tn,.v (.int .i64 (n:Int)))::T x)) tc (.v (.bool (decide ((i:Int)<n))))):=by
  intro t
  rw[upF_eq]
  by_cases e:t=tc
  ·left
   subst e
   show(bif Nat.beq t ti then _ else bif Nat.beq t tn then _ else ofL (T x) t)=_
   have a1:Nat.beq t ti=false:=by
    cases h:Nat.beq t ti with
    |false=>rfl
    |true=>rw[Nat.eq_of_beq_eq_true h]at d1;simp at d1
   have a2:Nat.beq t tn=false:=by
    cases h:Nat.beq t tn with
    |false=>rfl
    |true=>rw[Nat.eq_of_beq_eq_true h]at d2;simp at d2
   rw[a1,a2]
   show ofL (T x) t=.junk
   have:∀l:List (Nat×SV),(l.all fun p=> !Nat.beq p.1 t)=true→ofL l t=.junk:=by
    intro l
    induction l with
    |nil=>intro _;rfl
    |cons p r ih=>
     intro h
     simp only[List.all_cons,Bool.and_eq_true,Bool.not_eq_true']at h
     show(bif Nat.beq t p.1 then p.2 else ofL r t)=_
     have:Nat.beq t p.1=false:=by
      cases h':Nat.beq t p.1 with
      |false=>rfl
      |true=>rw[Nat.eq_of_beq_eq_true h']at h;simp at h
     rw[this];exact ih h.2
   exact this _ (hT2 x)
  ·right;rw[if_neg e]
 refine v_seq (v_reg (a_p (sv:=.v (.bool (decide ((i:Int)<n)))) ?_ (a_n ?_)))
 ·simp only[pe,ev,e1,e2];rfl
 refine v_seq (v_cond (decide ((i:Int)<n)) ?_ (fun h=>?_) (fun h=>?_))
 ·show ev (upF _ tc _) (.tmp tc)=_
  simp only[ev]
  rw[upF_eq,if_pos rfl]
 ·have hin:i<n:=by have:=of_decide_eq_true h;omega
  refine v_skip ?_
  show VA E _ _ _ _
  refine v_seq (v_blk ?_)
  refine⟨fun m hm=>?_⟩
  have hbody:=(hb i x hin hinv).out m hm
  refine VC.mono (Q:=upQ (rngQ b b' ti tn n T At Inv i Q)) ?_ ?_
  ·exact⟨fun code ht hmx W0 M0 β a w hR=>hbody.out code ht hmx W0 M0 β a w (hR.weak hl0)⟩
  ·rintro y S' M' ⟨As',m',l,s,hq'⟩
   refine⟨As',m',l,s,?_⟩
   have done:(∃x',leA ((ti,.v (.int .i64 i))::(tn,.v (.int .i64 n))::T x') S'∧Ent As' (At x')∧Inv (i+1) x')→
    VA E (.reg [⟨some tu,none,.bin .add (.tmp ti) (.const (.int .i64 1))⟩,⟨some ti,none,.mov (.tmp tu)⟩]) (seqA (fun S' As'=>∃k' x',k'<n-i∧leA ((ti,.v (.int .i64 (x':Nat×α).1))::(tn,.v (.int .i64 n))::T x'.2) S'∧Ent As' (At x'.2)∧k'=n-x'.1∧x'.1≤n∧Inv x'.1 x'.2) (blkA b Q)) S' As':=by
    rintro⟨x',h1,h2,h3⟩
    refine v_reg (a_ad (a:=i) (b:=1) ?_ rfl (by omega) (a_p (sv:=.v (.int .i64 ((i:Int)+1))) ?_ (a_n ?_)))
    ·simp only[ev,h1.1]
    ·show Option.map SV.v (ev (upF S' tu _) (.tmp tu))=_
     simp only[ev]
     rw[upF_eq,if_pos rfl];rfl
    ·refine⟨n-(i+1),(i+1,x'),by omega,⟨?_,?_,?_⟩,h2,rfl,by simp only;omega,h3⟩
     ·show upF _ ti _ ti=_;rw[upF_eq,if_pos rfl];rfl
     ·show(bif Nat.beq tn ti then _ else bif Nat.beq tn tu then _ else S' tn)=_
      rw[d5,d4];exact h1.2.1
     ·exact leA_up (hT1 x') (leA_up (hT3 x') h1.2.2)
   cases y with
   |nrm=>exact done hq'
   |ret=>exact hq'
   |ext e=>
    simp only[rngQ]at hq'
    by_cases h1:e=b'
    ·rw[if_pos h1]at hq';exact blk_eq h1 (done hq')
    ·rw[if_neg h1]at hq'
     refine blk_ne h1 ?_
     show blkA b Q (.ext e) S' As'
     by_cases h2:e=b
     ·rw[if_pos h2]at hq';exact blk_eq h2 hq'
     ·rw[if_neg h2]at hq';exact blk_ne h2 hq'
 ·have hin:i=n:=by have:=of_decide_eq_false h;omega
  subst hin
  refine v_exit ?_
  refine blk_eq rfl ?_
  exact he x hinv
section
variable {α:Type} {b b' ti tn n:Nat} {T:α→List (Nat×SV)} {At:α→List Asr} {Inv:Nat→α→Prop} {i:Nat}
theorem r_nx(x':α)(hi:Inv (i+1) x')(hl:leA ((ti,.v (.int .i64 i))::(tn,.v (.int .i64 n))::T x') S:=by repeat(first|exact trivial|refine⟨rfl,?_⟩))(he:Ent As (At x'):=by first|exact Ent.refl _|exact Pm.ent pmt):rngQ b b' ti tn n T At Inv i Q .nrm S As:=⟨x',hl,he,hi⟩
theorem r_ct(x':α)(hi:Inv (i+1) x')(hl:leA ((ti,.v (.int .i64 i))::(tn,.v (.int .i64 n))::T x') S:=by repeat(first|exact trivial|refine⟨rfl,?_⟩))(he:Ent As (At x'):=by first|exact Ent.refl _|exact Pm.ent pmt):rngQ b b' ti tn n T At Inv i Q (.ext b') S As:=by
 show(if b'=b' then _ else _);rw[if_pos rfl];exact⟨x',hl,he,hi⟩
theorem r_rt(h:Q .ret S As):rngQ b b' ti tn n T At Inv i Q .ret S As:=h
theorem r_bk(hb:Nat.beq b b'=false)(h:Q .nrm S As):rngQ b b' ti tn n T At Inv i Q (.ext b) S As:=by
 have hne:b≠b':=fun e=>by rw[e]at hb;simp at hb
 show(if b=b' then _ else if b=b then _ else _);rw[if_neg hne,if_pos rfl];exact h
theorem r_ex{e:Nat}(h1:Nat.beq e b'=false)(h2:Nat.beq e b=false)(h:Q (.ext e) S As):rngQ b b' ti tn n T At Inv i Q (.ext e) S As:=by
 have n1:e≠b':=fun e'=>by rw[e']at h1;simp at h1
 have n2:e≠b:=fun e'=>by rw[e']at h2;simp at h2
 show(if e=b' then _ else if e=b then _ else _);rw[if_neg n1,if_neg n2];exact h
end
theorem g_range{α:Type}{body:C}{ti tn tc tu b b':Nat}(n:Nat)(T:α→List (Nat×SV))(At:α→List Asr)(Inv:Nat→α→Prop)(x0:α)(hi:Inv 0 x0)
 (hb:∀i x,i<n→Inv i x→VA E body (rngQ b b' ti tn n T At Inv i Q) (ofL ((ti,.v (.int .i64 i))::(tn,.v (.int .i64 n))::T x)) (At x))
 (he:∀x,Inv n x→Q .nrm (upF (ofL ((ti,.v (.int .i64 n))::(tn,.v (.int .i64 n))::T x)) tc (.v (.bool (decide ((n:Int)<n))))) (At x))
 (hl:leA ((ti,.v (.int .i64 0))::(tn,.v (.int .i64 n))::T x0) S:=by repeat(first|exact trivial|refine⟨rfl,?_⟩)) (hent:Ent As (At x0):=by first|exact Ent.refl _|exact Pm.ent pmt) (hn:(n:Int)≤4611686018427387904:=by first|omega|(simp only[HX.hdr,Hdr.s_room,Hdr.s_used,Hdr.s_born,Hdr.s_phase,Hdr.s_hand,Hdr.s_sub,Hdr.s_per,Hdr.s_start,Hdr.s_rounds,Hdr.s_forced,Hdr.s_rd,Hdr.s_cd,Hdr.s_gd];omega))
 (hT:∀x,((T x).all fun p=> !Nat.beq p.1 ti&& !Nat.beq p.1 tc&& !Nat.beq p.1 tu)=true:=by intro _;rfl) (hd:(!Nat.beq ti tc&& !Nat.beq tn tc&& !Nat.beq ti tu&& !Nat.beq tn tu&& !Nat.beq tn ti)=true:=by rfl):
 VA E (.block b (.loop (.seq (.reg [⟨some tc,none,.bin .lss (.tmp ti) (.tmp tn)⟩]) (.seq (.cond (.tmp tc) .skip (.exit b)) (.seq (.block b' body) (.reg [⟨some tu,none,.bin .add (.tmp ti) (.const (.int .i64 1))⟩,⟨some ti,none,.mov (.tmp tu)⟩])))))) Q S As:=
 v_range n T At Inv ⟨x0,hl,hent,hi⟩ hn hT hd hb he
def Jx{α:Type}(T:α→List (Nat×SV))(At:α→List Asr)(Inv:α→Prop):St→List Asr→Prop:=fun S As=>∃x,leA (T x) S∧Ent As (At x)∧Inv x
theorem j_i{α:Type}{T:α→List (Nat×SV)}{At:α→List Asr}{Inv:α→Prop}(x:α)(hi:Inv x)(hl:leA (T x) S:=by repeat(first|exact trivial|refine⟨rfl,?_⟩))(he:Ent As (At x):=by first|exact Ent.refl _|exact Pm.ent pmt):Jx T At Inv S As:=⟨x,hl,he,hi⟩
theorem g_cut{α:Type}{a b:C}(T:α→List (Nat×SV))(At:α→List Asr)(Inv:α→Prop)(h1:VA E a (seqA (Jx T At Inv) Q) S As)(h2:∀x,Inv x→VA E b Q (ofL (T x)) (At x)):VA E (.seq a b) Q S As:=
 v_cut _ h1 fun S As ⟨x,hl,he,hi⟩=>v_weak _ hl (VA.ent he (h2 x hi))
end
end Go.Proofs.YtpleoapljeffiaaGreatDoor.E
set_option maxRecDepth 100000
namespace Go.Proofs.YtpleoapljeffiaaGreatDoor.E
open Go
open Classical
theorem unitsN_nn(cs:List Cell):0≤unitsN cs:=by
 unfold unitsN
 induction cs with
 |nil=>simp
 |cons c r ih=>
  simp only[List.map_cons,List.sum_cons]
  have:0≤c.units:=by unfold Cell.units;split<;>omega
  omega
theorem R2.pl{H:Heap}(h:R2 H){c:Cell}(hc:c∈H.cells):c.pairs.length≤200:=by
 obtain⟨i,hi⟩:=List.getElem?_of_mem hc
 rcases h.each i c hi with h|h|h
 ·rw[h.2.1.2.2.2.2.2];simp
 ·rw[h.2.1.2.2.2.2.2];simp
 ·exact h.2.2.2.2.2.2.2
theorem HX.at{x:HX}{i:Nat}(h:i<x.xs.length):∃y,x.xs[i]?=some y∧x.H.cells[i]?=some y.c:=by
 refine⟨_,List.getElem?_eq_getElem h,?_⟩
 simp[HX.H,List.getElem?_map,List.getElem?_eq_getElem h]
theorem ret_t{p:Prop}{_:Decidable p}(h:p):Value.bool true=.bool (decide p):=by rw[decide_eq_true h]
theorem ret_f{p:Prop}{_:Decidable p}(h:¬p):Value.bool false=.bool (decide p):=by rw[decide_eq_false h]
theorem Has.lens{m:Mem}{a:Nat}{x:HX}(h:Has m (hp a x)):x.regs.length≤140737488355328∧x.xs.length≤140737488355328∧x.gray.length≤140737488355328:=by
 obtain⟨b,l,s⟩:=h
 refine⟨(kn_t (kn_h bd_sl):Kn (hp a x) _).out b s,(kn_t (kn_t (kn_h kb_cl)):Kn (hp a x) _).out b s,(kn_t (kn_t (kn_t (kn_h bd_sl))):Kn (hp a x) _).out b s⟩
theorem HX.atI{x:HX}{i:Int}(h0:0≤i)(h:i<x.xs.length):∃y,x.xs[i.toNat]?=some y∧x.H.getC i=y.c:=by
 obtain⟨y,h1,h2⟩:=HX.at (x:=x) (i:=i.toNat) (by omega)
 refine⟨y,h1,?_⟩
 unfold Heap.getC
 rw[List.getD_eq_getElem?_getD,h2];rfl
section
variable {m0 m:Mem} {a:Nat} {x:HX} {w:Word} {As F:List Asr} {i k:Int} {mv:Bool}
theorem has_g{Bs:List Asr}(h:Has m0 Bs)(hm:star As m)(hp:Pm As [ro m0] F:=by exact pmt):Has m Bs:=h.le (ro_of hm hp)
end
theorem fa_q{rl:List RV}{S:St}{m:Mem}{As F:List Asr}{v r:Value}{y:X}(hy:∀i,y≠.ext i)(h:∀m,star As m→resV S m rl=some v)(e:v=r)(hm:Pm As [ro m] F:=by exact pmt):fnA rl (fun v As=>v=r∧As=[ro m]) y S As:=by
 cases y with
 |ext i=>exact absurd rfl (hy i)
 |nrm=>exact⟨v,[ro m],h,hm.ent,e,rfl⟩
 |ret=>exact⟨v,[ro m],h,hm.ent,e,rfl⟩
theorem q_T{rl:List RV}{S:St}{m:Mem}{As F:List Asr}{p:Prop}{_:Decidable p}(hp:p)(h:∀m,star As m→resV S m rl=some (.bool true):=by(intro _ _;rfl))(hm:Pm As [ro m] F:=by exact pmt):fnA rl (fun v As=>v=.bool (decide p)∧As=[ro m]) .ret S As:=⟨_,[ro m],h,hm.ent,ret_t hp,rfl⟩
theorem q_F{rl:List RV}{S:St}{m:Mem}{As F:List Asr}{p:Prop}{_:Decidable p}(hp:¬p)(h:∀m,star As m→resV S m rl=some (.bool false):=by(intro _ _;rfl))(hm:Pm As [ro m] F:=by exact pmt):fnA rl (fun v As=>v=.bool (decide p)∧As=[ro m]) .ret S As:=⟨_,[ro m],h,hm.ent,ret_f hp,rfl⟩
theorem q_B{rl:List RV}{S:St}{m:Mem}{As F:List Asr}{p:Prop}{_:Decidable p}{b:Bool}(h:∀m,star As m→resV S m rl=some (.bool b))(hp:b=true↔p)(hm:Pm As [ro m] F:=by exact pmt):fnA rl (fun v As=>v=.bool (decide p)∧As=[ro m]) .ret S As:=⟨_,[ro m],h,hm.ent,by congr 1;rw[Bool.eq_iff_iff,hp];simp,rfl⟩
end Go.Proofs.YtpleoapljeffiaaGreatDoor.E
set_option maxHeartbeats 8000000
namespace Go.Proofs.YtpleoapljeffiaaGreatDoor.E
open Go
open Classical
structure R2p (H:Heap) (n:Nat):Prop where
 each:∀(i:Nat) c,i<n→H.cells[i]?=some c→(c.state=0∧Bare c∧c.to=0)∨MovedOk H i c∨UsedOk H c
 born:∀(i j:Nat) c d,H.cells[i]?=some c→H.cells[j]?=some d→i<j→j<n→c.state=1→d.state=1→c.born≠d.born
 to:∀(i j:Nat) c d,H.cells[i]?=some c→H.cells[j]?=some d→i<j→j<n→c.state=2→d.state=2→c.to≠d.to
def bornB(H:Heap)(n:Nat)(b:Int):Prop:=∃(j:Nat) (c:Cell),j<n∧H.cells[j]?=some c∧c.state=1∧c.born=b
def movedB(H:Heap)(n:Nat)(b:Int):Prop:=∃(j:Nat) (c:Cell),j<n∧H.cells[j]?=some c∧c.state=2∧c.to=b
theorem R2p.zero(H:Heap):R2p H 0:=⟨by omega,by omega,by omega⟩
theorem R2p.all{H:Heap}:R2p H H.cells.length↔R2 H:=
 ⟨fun h=>⟨fun i c hc=>h.each i c (List.getElem?_eq_some_iff.1 hc).1 hc,fun i j c d hc hd hij=>h.born i j c d hc hd hij (List.getElem?_eq_some_iff.1 hd).1,fun i j c d hc hd hij=>h.to i j c d hc hd hij (List.getElem?_eq_some_iff.1 hd).1⟩,
  fun h=>⟨fun i c _=>h.each i c,fun i j c d hc hd hij _=>h.born i j c d hc hd hij,fun i j c d hc hd hij _=>h.to i j c d hc hd hij⟩⟩
theorem R2p.next{H:Heap}{n:Nat}{c:Cell}(h:R2p H n)(hc:H.cells[n]?=some c)(h1:(c.state=0∧Bare c∧c.to=0)∨MovedOk H n c∨UsedOk H c)(h2:c.state=1→¬bornB H n c.born)(h3:c.state=2→¬movedB H n c.to):R2p H (n+1):=by
 refine⟨fun i d hi hd=>?_,fun i j a d ha hd hij hj s1 s2 e=>?_,fun i j a d ha hd hij hj s1 s2 e=>?_⟩
 ·by_cases e:i=n
  ·subst e;rw[hc]at hd;cases hd;exact h1
  ·exact h.each i d (by omega) hd
 ·by_cases e':j=n
  ·subst e';rw[hc]at hd;cases hd;exact h2 s2 ⟨i,a,hij,ha,s1,e⟩
  ·exact h.born i j a d ha hd hij (by omega) s1 s2 e
 ·by_cases e':j=n
  ·subst e';rw[hc]at hd;cases hd;exact h3 s2 ⟨i,a,hij,ha,s1,e⟩
  ·exact h.to i j a d ha hd hij (by omega) s1 s2 e
theorem R2.moved{H:Heap}(h:R2 H){n:Nat}{c:Cell}(hc:H.cells[n]?=some c)(s:c.state=2):MovedOk H n c:=by
 rcases h.each n c hc with h|h|h
 ·have:=h.1;omega
 ·exact h
 ·have:=h.1;omega
theorem R2.used{H:Heap}(h:R2 H){n:Nat}{c:Cell}(hc:H.cells[n]?=some c)(s:c.state=1):UsedOk H c:=by
 rcases h.each n c hc with h|h|h
 ·have:=h.1;omega
 ·have:=h.1;omega
 ·exact h
end Go.Proofs.YtpleoapljeffiaaGreatDoor.E
set_option maxHeartbeats 4000000
namespace Go.Proofs.YtpleoapljeffiaaGreatDoor.E
open Go
open Classical
theorem fnOk_of{P : Program}{g : FuncId}{fn : Func}(h : P.funcs[g]? = some fn)(hb : fn.body.isSome = true)(hn : (fn.name != "runtime.NumGoroutine") = true): fnOk P g = true := by
 unfold fnOk;rw[h];simp only[hb,hn];rfl
theorem a_nwh{P:Program}{S:St}{As:List Asr}{post:St→List Asr→Prop}{r:List I}{d:Option Nat}{t:Operand}(x:HX)(hx:ev S t=some x.v)(hp:∀b,LA P r post (put S d (.v (ptr b))) (hdA b x.hdr::As)):LA P (⟨d,none,.box false t⟩::r) post S As:=
 a_nw (vs:=x.row) hx rfl hp
end Go.Proofs.YtpleoapljeffiaaGreatDoor.E
namespace Go.Proofs.YtpleoapljeffiaaGreatDoor.E
open Go
noncomputable def e94:Env:=⟨Tryz.prog,[3,4],31,[(1,15),(2,10)]⟩
abbrev za(a0:Nat)(a1:Nat)(a2:Int):I:=⟨some a0,none,.bin .sub (.tmp a1) (.const (.int .i64 a2))⟩
abbrev zc(a0:Nat)(a1:Int)(a2:Int)(a3:Int)(a4:Int)(a5:Int)(a6:Int)(a7:Int)(a8:Nat)(a9:Nat):I:=⟨some a0,none,.alloc true [.int .i64 a1,.int .i64 a2,.int .i64 a3,.int .i64 a4,.int .i64 a5,.int .i64 a6,.int .i64 a7,.slice none a8 a9]⟩
abbrev zp(a0:Nat)(a1:Nat)(a2:Nat):I:=⟨some a0,none,.bin .add (.tmp a1) (.tmp a2)⟩
abbrev zz(a0:Nat)(a1:Int)(a2:Int)(a3:Int)(a4:Int)(a5:Int)(a6:Int):I:=⟨some a0,none,.alloc true [.int .i64 a1,.int .i64 a2,.int .i64 a3,.int .i64 a4,.int .i64 a5,.int .i64 a6]⟩
abbrev q6(a0:Nat)(a1:Nat)(a2:Nat):I:=⟨some a0,none,.ext (.tmp a1) a2⟩
abbrev q7(a0:Nat)(a1:Nat)(a2:Nat):I:=⟨some a0,none,.callv (.tmp a1) [.tmp a2]⟩
abbrev q8(a0:Nat)(a1:Nat)(a2:Int):I:=⟨some a0,none,.bin .gtr (.tmp a1) (.const (.int .i64 a2))⟩
abbrev q9(a0:Nat)(a1:Nat)(a2:Nat)(a3:Nat)(a4:Nat)(a5:Nat):I:=⟨some a0,none,.call a1 [.tmp a2,.tmp a3,.tmp a4,.tmp a5]⟩
abbrev qA(a0:Nat)(a1:Nat)(a2:Nat):I:=⟨some a0,some (a1,true),.not (.tmp a2)⟩
abbrev qB(a0:Nat)(a1:Nat)(a2:Nat)(a3:Nat)(a4:Nat):I:=⟨some a0,some (a1,false),.iaddr a2 (.tmp a3) (.tmp a4)⟩
abbrev qC(a0:Nat)(a1:Nat)(a2:Nat)(a3:Int):I:=⟨some a0,some (a1,true),.bin .neq (.tmp a2) (.const (.int .i64 a3))⟩
abbrev qD(a0:Nat)(a1:Nat)(a2:Nat)(a3:Nat):I:=⟨some a0,some (a1,false),.pick (.tmp a2) (.tmp a3) (.const (.bool false))⟩
abbrev qI(a0:Nat)(a1:Nat)(a2:Nat)(a3:Int)(a4:Nat)(a5:Nat)(a6:Nat):I:=⟨some a0,none,.bslice true a1 a2 [.int .i64 a3] [(a4,a5,.tmp a6)]⟩
abbrev qJ(a0:Nat)(a1:Nat)(a2:Nat)(a3:Int)(a4:Nat)(a5:Nat):I:=⟨some a0,none,.app a1 a2 [.int .i64 a3] (.tmp a4) (.tmp a5)⟩
abbrev qK(a0:Nat)(a1:Nat)(a2:Int):I:=⟨some a0,none,.bin .and (.tmp a1) (.const (.int .i64 a2))⟩
abbrev qL(a0:Nat)(a1:Nat)(a2:Nat)(a3:Int):I:=⟨some a0,some (a1,false),.bin .neq (.tmp a2) (.const (.int .i64 a3))⟩
abbrev qR(a0:Nat)(a1:Nat)(a2:Nat):I:=⟨some a0,none,.alloc false [.slice none a1 a2]⟩
abbrev qS(a0:Nat)(a1:Nat)(a2:Nat)(a3:Nat):I:=⟨some a0,none,.slc a1 (.tmp a2) none (some (.tmp a3))⟩
abbrev qT(a0:Nat)(a1:Nat)(a2:Int):I:=⟨some a0,none,.bin .geq (.tmp a1) (.const (.int .i64 a2))⟩
abbrev qb(a0:Nat)(a1:Nat)(a2:Nat)(a3:Nat)(a4:Nat):I:=⟨some a0,none,.mkslice a1 a2 [.bool false] (.tmp a3) (.tmp a4)⟩
abbrev qi(a0:Nat)(a1:Nat):I:=⟨none,none,.store a0 (.tmp a1) (.const (.bool true))⟩
noncomputable def c94:C:=
 .seq (.reg [zO 3 1,zk 4 0 0 0]) (.seq (.seq (.dreg 15 [z4 5 0 3,z5 6 1 5,zC 7 6 2,z3 8 7,zL 9 8 0,zY 10 8 9,zM 11 8 4 10,zJ 12 8 1 11,zM 13 8 2 3,zJ 14 8 1 13,zf 15 8 8 12 14,zM 16 8 0 15,zJ 17 8 1 16,zx 18 8 17 2,zP 19 8 18]) (.cond (.tmp 19) (.seq (.dreg 10 [z3 20 0,z6 21 20,z4 22 4 21,z5 23 1 22,z4 24 2 3,z5 25 1 24,z8 26 8 23 25,z4 27 6 26,z5 28 1 27,zo 29 0 0 0 0 1 2 2 1 28,z7 3 4 29])
 .ret) .skip)) (.seq (.reg [z9 30 3 3,z7 3 4 30]) .ret))
theorem t94:Tryz.f94.body.bind (trC e94)=some c94:=by kernel_rfl
theorem r94:Tryz.f94.results.toList.mapM (trR Tryz.prog)=some [.cell 4 false 3]:=by kernel_rfl
theorem fn94{args:List Value}{M:Mem}{post:Value→Mem→Prop}(hl:args.length≤31)(h:VC e94 c94 (fnQ [.cell 4 false 3] post) (initS args 31) M):Fn Tryz.prog 94 args M post:=
 Fn.of' (E:=e94) Tryz.func94 t94 rfl r94 mixed hl h
end Go.Proofs.YtpleoapljeffiaaGreatDoor.E
namespace Go.Proofs.YtpleoapljeffiaaGreatDoor.E
open Go
open Classical
section
variable {m:Mem} {a:Nat} {x:HX} {w:Word} {i k n:Int} {mv:Bool}
theorem l1resolve_q(h:Has m (hp a x))(hf:w.kind=2→0≤w.at_∧w.at_<x.H.cells.length):Qt Tryz.prog 94 [ptr a,wa w] m (wa (x.H.lead w)):=by
 unfold Heap.lead
 by_cases hk:w.kind=2
 ·have hat:=hf hk
  rw[x.len]at hat
  obtain⟨y,gy,gc⟩:=HX.atI (x:=x) hat.1 hat.2
  refine qt_of (fnA_of (fun h=>fn94 (by simp) h) ?_)
  repeat' (first
   |(refine k_L ?_;first|refine a_p rfl ?_|(refine k_g ?_;first|refine a_gy rfl rfl ?_|(refine a_gd rfl (fun hb=>?_) (fun hb=>?_)<;>try(exfalso;omega)))|(refine k_l ?_;refine g_l rfl ?_)|(refine k_i ?_;refine g_i rfl rfl ?_)|(refine k_st ?_;refine g_sw rfl rfl rfl rfl (Nat.le_of_ble_eq_true rfl) ?_)|(refine k_al ?_;refine a_al ?_)|(refine k_bx ?_;refine a_bx rfl rfl ?_))
   |refine a_n ?_
   |(refine k_V ?_;first|refine v_seq ?_|refine v_reg ?_|refine v_dreg ?_|refine v_ret ?_|refine v_skip ?_|(refine v_cd rfl (fun hb=>?_) (fun hb=>?_)<;>try(exfalso;omega)))
   |refine s_r ?_
   |refine sk_zero ?_
   |refine sk_succ ?_
   |refine wk_nil ?_
   |refine wk_cons ?_)
  ·refine fa_q (by simp) (fun _ _=>rfl) ?_
   rw[if_pos ⟨hk,by rw[gc];assumption⟩,gc];rfl
  all_goals refine fa_q (by simp) (fun _ _=>rfl) ?_
  all_goals (rw[if_neg (by rw[gc];simp_all)];rfl)
 ·refine qt_of (fnA_of (fun h=>fn94 (by simp) h) ?_)
  repeat' (first
   |(refine k_L ?_;first|refine a_p rfl ?_|(refine k_g ?_;first|refine a_gn rfl rfl ?_|(refine a_gd rfl (fun hb=>?_) (fun hb=>?_)<;>try(exfalso;omega)))|(refine k_st ?_;refine g_sw rfl rfl rfl rfl (Nat.le_of_ble_eq_true rfl) ?_)|(refine k_al ?_;refine a_al ?_)|(refine k_bx ?_;refine a_bx rfl rfl ?_))
   |refine a_n ?_
   |(refine k_V ?_;first|refine v_seq ?_|refine v_reg ?_|refine v_dreg ?_|refine v_ret ?_|refine v_skip ?_|refine v_cf rfl ?_)
   |refine sk_zero ?_
   |refine sk_succ ?_
   |refine wk_nil ?_
   |refine wk_cons ?_)
  refine fa_q (by simp) (fun _ _=>rfl) ?_
  rw[if_neg (by simp_all)];rfl
end
end Go.Proofs.YtpleoapljeffiaaGreatDoor.E
set_option maxHeartbeats 8000000
namespace Go.Proofs.YtpleoapljeffiaaGreatDoor.E
open Go
open Classical
def cnt(i:Int):List Int→Nat
 |[]=>0
 |g::r=>(if g=i then 1 else 0)+cnt i r
end Go.Proofs.YtpleoapljeffiaaGreatDoor.E
namespace Go.Proofs.YtpleoapljeffiaaGreatDoor.E
open Go
noncomputable def e157:Env:=⟨Tryz.prog,[7,9,10,12],87,[(16,13)]⟩
noncomputable def c157:C:=
 .seq (.reg [qa 1 0,zi 2 0 0]) (.seq (.reg [z5 13 1 1,z6 14 13,z4 15 4 14,z5 16 1 15,zE 17 16,qb 18 1 1 17 17,qR 3 0 0,z7 1 3 18]) (.seq (.reg [qR 4 0 0]) (.seq (.reg [⟨some 19,none,.mkfn 168 [] [.tmp 1,.tmp 3,.tmp 4]⟩,z3 5 19]) (.seq (.seq (.reg [z5 20 1 1,z6 21 20,z4 22 3 21,z5 23 1 22,zE 24 23,zA 25 0]) (.block 0 (.loop (.seq (.reg [zK 26 25 24]) (.seq (.cond (.tmp 26) .skip (.exit 0))
 (.seq (.block 1 (.seq (.reg [z8 27 3 23 25,z9 28 3 27,zk 7 0 0 0,z7 3 7 28]) (.reg [z3 29 5,z9 30 3 7,q7 31 29 30]))) (.reg [zD 32 25 1,z3 25 32]))))))) (.seq (.seq (.reg [z5 33 1 1,z6 34 33,z4 35 4 34,z5 36 1 35,zE 37 36,zA 38 0]) (.block 2 (.loop (.seq (.reg [zK 39 38 37]) (.seq (.cond (.tmp 39) .skip (.exit 2)) (.seq (.block 3 (.seq (.reg [z3 40 38,z8 41 8 36 38,z9 42 8 41,zc 9 0 0 0 0 0
 0 0 0 0,z3 8 40,z7 8 9 42]) (.seq (.reg [z9 43 8 9,zI 44 148 43]) (.cond (.tmp 44) (.reg [z3 45 5,z3 46 8,zo 47 0 0 0 0 1 2 2 1 46,q7 48 45 47]) .skip)))) (.reg [zD 49 38 1,z3 38 49]))))))) (.seq (.block 4 (.loop (.seq (.seq (.reg [z5 50 1 4,zE 51 50,q8 52 51 0]) (.cond (.tmp 52) .skip (.exit 4))) (.block 5 (.seq (.dreg 13 [z5 53 1 1,z6 54 53,z4 55 4 54,z5 56 1 55,z5 57 1 4,z5 58 1 4,zE 59
 58,za 60 59 1,z8 61 1 57 60,z5 62 1 61,z8 63 8 56 62,z9 64 8 63,zc 10 0 0 0 0 0 0 0 0 0,z7 8 10 64]) (.seq (.reg [z5 65 1 4,z5 66 1 4,zE 67 66,za 68 67 1,qS 69 1 65 68,z7 1 4 69]) (.seq (.reg [z4 70 7 10,z5 71 1 70,zE 72 71,zA 73 0]) (.block 6 (.loop (.seq (.reg [zK 74 73 72]) (.seq (.cond (.tmp 74) .skip (.exit 6)) (.seq (.block 7 (.seq (.reg [z8 75 6 71 73,z9 76 6 75,zz 12 0 0 0 0 0 0,z7 6
 12 76]) (.seq (.reg [z3 77 5,z4 78 0 12,z9 79 3 78,q7 80 77 79]) (.reg [z3 81 5,z4 82 3 12,z9 83 3 82,q7 84 81 83])))) (.reg [zD 85 73 1,z3 73 85]))))))))))))) (.seq (.reg [z5 86 1 3,z3 2 86]) .ret)))))))
theorem t157:Tryz.f157.body.bind (trC e157)=some c157:=by kernel_rfl
theorem r157:Tryz.f157.results.toList.mapM (trR Tryz.prog)=some [.tmp 2]:=by kernel_rfl
theorem fn157{args:List Value}{M:Mem}{post:Value→Mem→Prop}(hl:args.length≤87)(h:VC e157 c157 (fnQ [.tmp 2] post) (initS args 87) M):Fn Tryz.prog 157 args M post:=
 Fn.of' (E:=e157) Tryz.func157 t157 rfl r157 mixed hl h
noncomputable def e168:Env:=⟨Tryz.prog,[4,23],25,[]⟩
noncomputable def c168:C:=
 .seq (.reg [zO 4 0]) (.seq (.reg [z5 6 1 1,z9 7 3 4,zG 8 124 6 7,z3 5 8]) (.seq (.reg [z3 9 5,qT 10 9 0,z3 11 10,zJ 12 11 1 2,zL 13 11 5,zf 14 11 1 12 13,zJ 15 11 1 14,qA 16 11 15,zP 17 11 16]) (.cond (.tmp 17) (.seq (.reg [z5 18 1 2,z3 19 5,z8 20 1 18 19,qi 1 20]) (.reg [z5 21 1 3,z3 22 5,qI 23 1 1 0 0 1 22,qJ 24 1 8 0 21 23,z7 1 3 24])) .skip)))
theorem t168:Tryz.f168.body.bind (trC e168)=some c168:=by kernel_rfl
theorem r168:Tryz.f168.results.toList.mapM (trR Tryz.prog)=some []:=by kernel_rfl
theorem fn168{args:List Value}{M:Mem}{post:Value→Mem→Prop}(hl:args.length≤25)(h:VC e168 c168 (fnQ [] post) (initS args 25) M):Fn Tryz.prog 168 args M post:=
 Fn.of' (E:=e168) Tryz.func168 t168 rfl r168 mixed hl h
noncomputable def e156:Env:=⟨Tryz.prog,[8,10,13,14,16,139],143,[]⟩
noncomputable def c156:C:=
 .seq (.reg [qa 1 0,zi 2 0 0]) (.seq (.reg [z5 18 1 1,z6 19 18,z4 20 4 19,z5 21 1 20,zE 22 21,qb 23 1 1 22 22,qR 3 0 0,z7 1 3 23]) (.seq (.reg [⟨some 24,none,.mkmap⟩,z3 4 24]) (.seq (.reg [qR 5 0 0]) (.seq (.reg [⟨some 25,none,.mkfn 167 [] [.tmp 1,.tmp 3,.tmp 5]⟩,z3 6 25]) (.seq (.seq (.reg [z5 26 1 1,z6 27 26,z4 28 3 27,z5 29 1 28,zE 30 29,zA 31 0]) (.block 0 (.loop (.seq (.reg [zK 32 31
 30]) (.seq (.cond (.tmp 32) .skip (.exit 0)) (.seq (.block 1 (.seq (.reg [z8 33 3 29 31,z9 34 3 33,zk 8 0 0 0,z7 3 8 34]) (.reg [z3 35 6,z9 36 3 8,q7 37 35 36]))) (.reg [zD 38 31 1,z3 31 38]))))))) (.seq (.seq (.reg [z5 39 1 1,z6 40 39,z4 41 4 40,z5 42 1 41,zE 43 42,zA 44 0]) (.block 2 (.loop (.seq (.reg [zK 45 44 43]) (.seq (.cond (.tmp 45) .skip (.exit 2)) (.seq (.block 3 (.seq (.reg [z3
 46 44,z8 47 8 42 44,z9 48 8 47,zc 10 0 0 0 0 0 0 0 0 0,z3 9 46,z7 8 10 48]) (.seq (.reg [z4 49 0 10,z5 50 1 49,zC 51 50 1,z3 52 51,zM 53 52 3 10,zJ 54 52 1 53,zx 55 52 54 2,zP 56 52 55]) (.cond (.tmp 56) (.reg [z3 57 6,z3 58 9,zo 59 0 0 0 0 1 2 2 1 58,q7 60 57 59]) .skip)))) (.reg [zD 61 44 1,z3 44 61]))))))) (.seq (.block 4 (.loop (.seq (.seq (.reg [z5 62 1 5,zE 63 62,q8 64 63 0]) (.cond
 (.tmp 64) .skip (.exit 4))) (.block 5 (.seq (.reg [z5 65 1 5,z5 66 1 5,zE 67 66,za 68 67 1,z8 69 1 65 68,z5 70 1 69,z3 11 70]) (.seq (.reg [z5 71 1 5,z5 72 1 5,zE 73 72,za 74 73 1,qS 75 1 71 74,z7 1 5 75]) (.seq (.seq (.reg [z3 76 4,z3 77 11,⟨some 78,none,.look true (.slice none 0 0) false (.tmp 76) (.tmp 77)⟩,zE 79 78,zA 80 0]) (.block 6 (.loop (.seq (.reg [zK 81 80 79]) (.seq (.cond (.tmp
 81) .skip (.exit 6)) (.seq (.block 7 (.seq (.reg [z8 82 3 78 80,z9 83 3 82,zk 13 0 0 0,z7 3 13 83]) (.reg [z3 84 6,z9 85 3 13,q7 86 84 85]))) (.reg [zD 87 80 1,z3 80 87]))))))) (.seq (.reg [z3 88 4,z3 89 11,⟨none,none,.mdel (.tmp 88) (.tmp 89)⟩]) (.seq (.reg [z5 90 1 1,z6 91 90,z4 92 4 91,z5 93 1 92,z3 94 11,z8 95 8 93 94,z9 96 8 95,zc 14 0 0 0 0 0 0 0 0 0,z7 8 14 96]) (.seq (.reg [z4 97 7
 14,z5 98 1 97,zE 99 98,zA 100 0]) (.block 8 (.loop (.seq (.reg [zK 101 100 99]) (.seq (.cond (.tmp 101) .skip (.exit 8)) (.seq (.block 9 (.seq (.reg [z8 102 6 98 100,z9 103 6 102,zz 16 0 0 0 0 0 0,z7 6 16 103]) (.seq (.seq (.reg [z4 104 2 14,z5 105 1 104,qK 106 105 1,zC 107 106 0]) (.cond (.tmp 107) (.reg [z3 108 6,z4 109 0 16,z9 110 3 109,q7 111 108 110]) .skip)) (.seq (.seq (.reg [z4 112 2
 14,z5 113 1 112,qK 114 113 2,zq 115 114 0]) (.cond (.tmp 115) (.exit 9) .skip)) (.seq (.reg [z5 116 1 1,z4 117 0 16,z9 118 3 117,zG 119 124 116 118,z3 17 119]) (.seq (.reg [z3 120 17,zZ 121 120 0,z3 122 121,zR 123 122 1 3,zV 124 122 17,qB 125 122 1 123 124,zR 126 122 1 125,zW 127 122 126]) (.cond (.tmp 127) (.reg [z3 128 6,z4 129 3 16,z9 130 3 129,q7 131 128 130]) (.reg [z3 132 4,z3 133 17,z3
 134 4,z3 135 17,⟨some 136,none,.look true (.slice none 0 0) false (.tmp 134) (.tmp 135)⟩,z4 137 3 16,z9 138 3 137,⟨some 139,none,.bslice true 1 3 [.int .i64 0,.int .i64 0,.int .i64 0] [(0,3,.tmp 138)]⟩,⟨some 140,none,.app 3 24 [.int .i64 0,.int .i64 0,.int .i64 0] (.tmp 136) (.tmp 139)⟩,⟨none,none,.mupd (.tmp 132) (.tmp 133) (.tmp 140)⟩])))))))) (.reg [zD 141 100 1,z3 100 141]))))))))))))))))
 (.seq (.reg [z5 142 1 3,z3 2 142]) .ret))))))))
theorem t156:Tryz.f156.body.bind (trC e156)=some c156:=by kernel_rfl
theorem r156:Tryz.f156.results.toList.mapM (trR Tryz.prog)=some [.tmp 2]:=by kernel_rfl
theorem fn156{args:List Value}{M:Mem}{post:Value→Mem→Prop}(hl:args.length≤143)(h:VC e156 c156 (fnQ [.tmp 2] post) (initS args 143) M):Fn Tryz.prog 156 args M post:=
 Fn.of' (E:=e156) Tryz.func156 t156 rfl r156 mixed hl h
noncomputable def e167:Env:=⟨Tryz.prog,[4,23],25,[]⟩
noncomputable def c167:C:=
 .seq (.reg [zO 4 0]) (.seq (.reg [z5 6 1 1,z9 7 3 4,zG 8 124 6 7,z3 5 8]) (.seq (.reg [z3 9 5,qT 10 9 0,z3 11 10,zJ 12 11 1 2,zL 13 11 5,zf 14 11 1 12 13,zJ 15 11 1 14,qA 16 11 15,zP 17 11 16]) (.cond (.tmp 17) (.seq (.reg [z5 18 1 2,z3 19 5,z8 20 1 18 19,qi 1 20]) (.reg [z5 21 1 3,z3 22 5,qI 23 1 1 0 0 1 22,qJ 24 1 8 0 21 23,z7 1 3 24])) .skip)))
theorem t167:Tryz.f167.body.bind (trC e167)=some c167:=by kernel_rfl
theorem r167:Tryz.f167.results.toList.mapM (trR Tryz.prog)=some []:=by kernel_rfl
theorem fn167{args:List Value}{M:Mem}{post:Value→Mem→Prop}(hl:args.length≤25)(h:VC e167 c167 (fnQ [] post) (initS args 25) M):Fn Tryz.prog 167 args M post:=
 Fn.of' (E:=e167) Tryz.func167 t167 rfl r167 mixed hl h
noncomputable def e155:Env:=⟨Tryz.prog,[7],28,[]⟩
noncomputable def c155:C:=
 .seq (.reg [zA 4 0]) (.seq (.reg [zA 5 0]) (.seq (.seq (.reg [z3 8 0,z6 9 8,z4 10 4 9,z5 11 1 10,zE 12 11,zA 13 0]) (.block 0 (.loop (.seq (.reg [zK 14 13 12]) (.seq (.cond (.tmp 14) .skip (.exit 0)) (.seq (.block 1 (.seq (.reg [z3 15 13,z8 16 8 11 13,z9 17 8 16,zc 7 0 0 0 0 0 0 0 0 0,z3 6 15,z7 8 7 17]) (.seq (.reg [z3 18 1,z3 19 6,z8 20 1 18 19,z5 21 1 20]) (.cond (.tmp 21) (.reg [z3 22
 5,z9 23 8 7,zI 24 144 23,zp 25 22 24,z3 5 25]) .skip)))) (.reg [zD 26 13 1,z3 13 26]))))))) (.seq (.reg [z3 27 5,z3 4 27]) .ret)))
theorem t155:Tryz.f155.body.bind (trC e155)=some c155:=by kernel_rfl
theorem r155:Tryz.f155.results.toList.mapM (trR Tryz.prog)=some [.tmp 4]:=by kernel_rfl
theorem fn155{args:List Value}{M:Mem}{post:Value→Mem→Prop}(hl:args.length≤28)(h:VC e155 c155 (fnQ [.tmp 4] post) (initS args 28) M):Fn Tryz.prog 155 args M post:=
 Fn.of' (E:=e155) Tryz.func155 t155 rfl r155 mixed hl h
noncomputable def e154:Env:=⟨Tryz.prog,[5],44,[(5,25)]⟩
noncomputable def c154:C:=
 .seq (.reg [zA 2 0]) (.seq (.reg [zA 3 (-1)]) (.seq (.seq (.reg [z3 6 0,z6 7 6,z4 8 4 7,z5 9 1 8,zE 10 9,zA 11 0]) (.block 0 (.loop (.seq (.reg [zK 12 11 10]) (.seq (.cond (.tmp 12) .skip (.exit 0)) (.seq (.block 1 (.seq (.reg [z3 13 11,z8 14 8 9 11,z9 15 8 14,zc 5 0 0 0 0 0 0 0 0 0,z3 4 13,z7 8 5 15]) (.seq (.dreg 25 [z4 16 0 5,z5 17 1 16,zC 18 17 1,z3 19 18,zM 20 19 3 5,zJ 21 19 1 20,zx
 22 19 21 2,zP 23 19 22,z3 24 23,zL 25 24 3,⟨some 26,some (24,true),.bin .lss (.tmp 25) (.const (.int .i64 0))⟩,zL 27 24 26,zU 28 27 4 5,zR 29 27 1 28,zV 30 27 0,q4 31 27 30,zU 32 27 4 31,zR 33 27 1 32,zV 34 27 3,qB 35 27 8 33 34,zU 36 27 4 35,zR 37 27 1 36,⟨some 38,some (27,false),.bin .lss (.tmp 29) (.tmp 37)⟩,qP 39 24 27 38,zP 40 24 39]) (.cond (.tmp 40) (.reg [z3 41 4,z3 3 41]) .skip))))
 (.reg [zD 42 11 1,z3 11 42]))))))) (.seq (.reg [z3 43 3,z3 2 43]) .ret)))
theorem t154:Tryz.f154.body.bind (trC e154)=some c154:=by kernel_rfl
theorem r154:Tryz.f154.results.toList.mapM (trR Tryz.prog)=some [.tmp 2]:=by kernel_rfl
theorem fn154{args:List Value}{M:Mem}{post:Value→Mem→Prop}(hl:args.length≤44)(h:VC e154 c154 (fnQ [.tmp 2] post) (initS args 44) M):Fn Tryz.prog 154 args M post:=
 Fn.of' (E:=e154) Tryz.func154 t154 rfl r154 mixed hl h
noncomputable def e101:Env:=⟨Tryz.prog,[7,9,31],33,[]⟩
noncomputable def c101:C:=
 .seq (.reg [zO 7 3,zi 8 0 0]) (.seq (.reg [z3 10 0,z9 11 3 7,zG 12 94 10 11,zk 9 0 0 0,z7 3 9 12]) (.seq (.seq (.reg [z4 13 0 9,z5 14 1 13,zq 15 14 2,z3 16 15,zV 17 16 1,zU 18 16 2 9,zR 19 16 1 18,qB 20 16 1 17 19,zR 21 16 1 20,zW 22 16 21]) (.cond (.tmp 22) (.seq (.reg [z3 23 2,z3 8 23]) .ret) .skip)) (.seq (.reg [z3 24 1,z4 25 2 9,z5 26 1 25,z8 27 1 24 26,qi 1 27]) (.seq (.reg [z3 28 2,z4
 29 2 9,z5 30 1 29,qI 31 1 1 0 0 1 30,qJ 32 1 8 0 28 31,z3 8 32]) .ret))))
theorem t101:Tryz.f101.body.bind (trC e101)=some c101:=by kernel_rfl
theorem r101:Tryz.f101.results.toList.mapM (trR Tryz.prog)=some [.tmp 8]:=by kernel_rfl
theorem fn101{args:List Value}{M:Mem}{post:Value→Mem→Prop}(hl:args.length≤33)(h:VC e101 c101 (fnQ [.tmp 8] post) (initS args 33) M):Fn Tryz.prog 101 args M post:=
 Fn.of' (E:=e101) Tryz.func101 t101 rfl r101 mixed hl h
noncomputable def e134:Env:=⟨Tryz.prog,[5,34],89,[(8,28)]⟩
noncomputable def c134:C:=
 .seq (.reg [zi 2 0 0]) (.seq (.reg [zi 3 0 0]) (.seq (.seq (.reg [z3 9 0,z6 10 9,z4 11 4 10,z5 12 1 11,zE 13 12,zA 14 0]) (.block 0 (.loop (.seq (.reg [zK 15 14 13]) (.seq (.cond (.tmp 15) .skip (.exit 0)) (.seq (.block 1 (.seq (.reg [z3 16 14,z8 17 8 12 14,z9 18 8 17,zc 5 0 0 0 0 0 0 0 0 0,z3 4 16,z7 8 5 18]) (.seq (.seq (.reg [z4 19 0 5,z5 20 1 19,zq 21 20 1,z3 22 21,zU 23 22 3 5,zR 24 22
 1 23,qL 25 22 24 1,zV 26 22 25,zM 27 26 3 5,zJ 28 26 1 27,qC 29 26 28 2,qD 30 22 26 29,zW 31 22 30]) (.cond (.tmp 31) (.exit 1) .skip)) (.seq (.reg [z3 32 3,z3 33 4,qI 34 1 1 0 0 1 33,qJ 35 1 8 0 32 34,z3 3 35]) (.seq (.reg [z3 36 3,zE 37 36,za 38 37 1,z3 6 38]) (.block 2 (.loop (.seq (.seq (.dreg 28 [z3 39 6,q8 40 39 0,z3 41 40,zL 42 41 0,zY 43 41 42,zM 44 41 4 43,zJ 45 41 1 44,zL 46 41 3,zL
 47 41 6,⟨some 48,some (41,true),.bin .sub (.tmp 47) (.const (.int .i64 1))⟩,zf 49 41 1 46 48,zJ 50 41 1 49,zf 51 41 8 45 50,zM 52 41 4 51,zJ 53 41 1 52,zL 54 41 0,zY 55 41 54,zM 56 41 4 55,zJ 57 41 1 56,zL 58 41 3,zL 59 41 6,zf 60 41 1 58 59,zJ 61 41 1 60,zf 62 41 8 57 61,zM 63 41 4 62,zJ 64 41 1 63,⟨some 65,some (41,true),.bin .gtr (.tmp 53) (.tmp 64)⟩,zP 66 41 65]) (.cond (.tmp 66) .skip (.exit
 2))) (.seq (.block 3 (.seq (.reg [z3 69 3,z3 70 6,za 71 70 1,z8 72 1 69 71,z5 73 1 72,z3 7 73]) (.seq (.reg [z3 74 3,z3 75 6,z8 76 1 74 75,z5 77 1 76,z3 8 77]) (.seq (.reg [z3 78 3,z3 79 6,za 80 79 1,z3 81 8,z8 82 1 78 80,z7 1 82 81]) (.reg [z3 83 3,z3 84 6,z3 85 7,z8 86 1 83 84,z7 1 86 85]))))) (.reg [z3 67 6,za 68 67 1,z3 6 68])))))))))) (.reg [zD 87 14 1,z3 14 87]))))))) (.seq (.reg [z3
 88 3,z3 2 88]) .ret)))
theorem t134:Tryz.f134.body.bind (trC e134)=some c134:=by kernel_rfl
theorem r134:Tryz.f134.results.toList.mapM (trR Tryz.prog)=some [.tmp 2]:=by kernel_rfl
theorem fn134{args:List Value}{M:Mem}{post:Value→Mem→Prop}(hl:args.length≤89)(h:VC e134 c134 (fnQ [.tmp 2] post) (initS args 89) M):Fn Tryz.prog 134 args M post:=
 Fn.of' (E:=e134) Tryz.func134 t134 rfl r134 mixed hl h
noncomputable def e102:Env:=⟨Tryz.prog,[7,12],85,[(16,13)]⟩
noncomputable def c102:C:=
 .seq (.reg [zi 2 0 0,zi 3 0 0]) (.seq (.reg [z3 13 0,z6 14 13,z4 15 4 14,z5 16 1 15,zE 17 16,qb 18 1 1 17 17,z3 4 18]) (.seq (.reg [zi 5 0 0]) (.seq (.seq (.reg [z3 19 0,z6 20 19,z4 21 3 20,z5 22 1 21,zE 23 22,zA 24 0]) (.block 0 (.loop (.seq (.reg [zK 25 24 23]) (.seq (.cond (.tmp 25) .skip (.exit 0)) (.seq (.block 1 (.seq (.reg [z8 26 3 22 24,z9 27 3 26,zk 7 0 0 0,z7 3 7 27]) (.reg [z3
 28 0,z3 29 4,z3 30 5,z9 31 3 7,q9 32 101 28 29 30 31,z3 5 32]))) (.reg [zD 33 24 1,z3 24 33]))))))) (.seq (.seq (.reg [z3 34 0,zI 35 134 34,zE 36 35,zA 37 0]) (.block 2 (.loop (.seq (.reg [zK 38 37 36]) (.seq (.cond (.tmp 38) .skip (.exit 2)) (.seq (.block 3 (.seq (.reg [z8 39 1 35 37,z5 40 1 39,z3 9 40]) (.reg [z3 41 0,z3 42 4,z3 43 5,z3 44 9,zo 45 0 0 0 0 1 2 2 1 44,q9 46 101 41 42 43 45,
 z3 5 46]))) (.reg [zD 47 37 1,z3 37 47]))))))) (.seq (.seq (.reg [zA 10 0]) (.block 4 (.loop (.seq (.seq (.reg [z3 48 10,z3 49 5,zE 50 49,zK 51 48 50]) (.cond (.tmp 51) .skip (.exit 4))) (.seq (.block 5 (.seq (.dreg 13 [z3 54 0,z6 55 54,z4 56 4 55,z5 57 1 56,z3 58 5,z3 59 10,z8 60 1 58 59,z5 61 1 60,z8 62 8 57 61,z4 63 7 62,z5 64 1 63,zE 65 64,zA 66 0]) (.block 6 (.loop (.seq (.reg [zK 67 66
 65]) (.seq (.cond (.tmp 67) .skip (.exit 6)) (.seq (.block 7 (.seq (.reg [z8 68 6 64 66,z9 69 6 68,zz 12 0 0 0 0 0 0,z7 6 12 69]) (.seq (.reg [z3 70 0,z3 71 4,z3 72 5,z4 73 0 12,z9 74 3 73,q9 75 101 70 71 72 74,z3 5 75]) (.reg [z3 76 0,z3 77 4,z3 78 5,z4 79 3 12,z9 80 3 79,q9 81 101 76 77 78 80,z3 5 81])))) (.reg [zD 82 66 1,z3 66 82])))))))) (.reg [z3 52 10,zD 53 52 1,z3 10 53])))))) (.seq
 (.reg [z3 83 4,z3 84 5,z3 2 83,z3 3 84]) .ret))))))
theorem t102:Tryz.f102.body.bind (trC e102)=some c102:=by kernel_rfl
theorem r102:Tryz.f102.results.toList.mapM (trR Tryz.prog)=some [.tmp 2,.tmp 3]:=by kernel_rfl
theorem fn102{args:List Value}{M:Mem}{post:Value→Mem→Prop}(hl:args.length≤85)(h:VC e102 c102 (fnQ [.tmp 2,.tmp 3] post) (initS args 85) M):Fn Tryz.prog 102 args M post:=
 Fn.of' (E:=e102) Tryz.func102 t102 rfl r102 mixed hl h
noncomputable def e62:Env:=⟨Tryz.prog,[6,8,11,13,14],123,[(20,11)]⟩
noncomputable def c62:C:=
 .seq (.reg [zi 2 0 0]) (.seq (.reg [z3 15 0,z6 16 15,z4 17 4 16,z5 18 1 17,zE 19 18,qb 20 1 1 19 19,z3 3 20]) (.seq (.reg [zi 4 0 0]) (.seq (.seq (.reg [z3 21 0,z6 22 21,z4 23 3 22,z5 24 1 23,zE 25 24,zA 26 0]) (.block 0 (.loop (.seq (.reg [zK 27 26 25]) (.seq (.cond (.tmp 27) .skip (.exit 0)) (.seq (.block 1 (.seq (.reg [z8 28 3 24 26,z9 29 3 28,zk 6 0 0 0,z7 3 6 29]) (.reg [z3 30 0,z3 31
 3,z3 32 4,z9 33 3 6,q9 34 101 30 31 32 33,z3 4 34]))) (.reg [zD 35 26 1,z3 26 35]))))))) (.seq (.seq (.reg [z3 36 0,z6 37 36,z4 38 4 37,z5 39 1 38,zE 40 39,zA 41 0]) (.block 2 (.loop (.seq (.reg [zK 42 41 40]) (.seq (.cond (.tmp 42) .skip (.exit 2)) (.seq (.block 3 (.seq (.reg [z3 43 41,z8 44 8 39 41,z9 45 8 44,zc 8 0 0 0 0 0 0 0 0 0,z3 7 43,z7 8 8 45]) (.seq (.reg [z4 46 3 8,z5 47 1 46,zC
 48 47 2]) (.cond (.tmp 48) (.reg [z3 49 0,z3 50 3,z3 51 4,z3 52 7,zo 53 0 0 0 0 1 2 2 1 52,q9 54 101 49 50 51 53,z3 4 54]) .skip)))) (.reg [zD 55 41 1,z3 41 55]))))))) (.seq (.reg [zA 9 (-1)]) (.seq (.block 4 (.loop (.seq (.seq (.reg [z3 56 9,z3 57 4,zE 58 57,zN 59 56 58]) (.cond (.tmp 59) .skip (.exit 4))) (.block 5 (.seq (.reg [z3 60 4,zE 61 60,z3 9 61]) (.seq (.reg [zA 10 0]) (.block 6
 (.loop (.seq (.seq (.reg [z3 62 10,z3 63 4,zE 64 63,zK 65 62 64]) (.cond (.tmp 65) .skip (.exit 6))) (.seq (.block 7 (.seq (.dreg 11 [z3 68 0,z6 69 68,z4 70 4 69,z5 71 1 70,z3 72 4,z3 73 10,z8 74 1 72 73,z5 75 1 74,z8 76 8 71 75,z9 77 8 76,zc 11 0 0 0 0 0 0 0 0 0,z7 8 11 77]) (.seq (.reg [z4 78 7 11,z5 79 1 78,zE 80 79,zA 81 0]) (.block 8 (.loop (.seq (.reg [zK 82 81 80]) (.seq (.cond (.tmp
 82) .skip (.exit 8)) (.seq (.block 9 (.seq (.reg [z8 83 6 79 81,z9 84 6 83,zz 13 0 0 0 0 0 0,z7 6 13 84]) (.seq (.seq (.reg [z4 85 2 11,z5 86 1 85,qK 87 86 1,zC 88 87 0]) (.cond (.tmp 88) (.reg [z3 89 0,z3 90 3,z3 91 4,z4 92 0 13,z9 93 3 92,q9 94 101 89 90 91 93,z3 4 94]) .skip)) (.seq (.reg [z3 95 0,z4 96 0 13,z9 97 3 96,zG 98 94 95 97,zk 14 0 0 0,z7 3 14 98]) (.seq (.reg [z4 99 2 11,z5 100
 1 99,qK 101 100 2,zC 102 101 0,z3 103 102,zM 104 103 0 14,zJ 105 103 1 104,qC 106 103 105 2,zL 107 103 106,zV 108 107 3,zU 109 107 2 14,zR 110 107 1 109,qB 111 107 1 108 110,zR 112 107 1 111,qP 113 103 107 112,zP 114 103 113]) (.cond (.tmp 114) (.reg [z3 115 0,z3 116 3,z3 117 4,z4 118 3 13,z9 119 3 118,q9 120 101 115 116 117 119,z3 4 120]) .skip)))))) (.reg [zD 121 81 1,z3 81 121])))))))))
 (.reg [z3 66 10,zD 67 66 1,z3 10 67]))))))))))) (.seq (.reg [z3 122 3,z3 2 122]) .ret)))))))
theorem t62:Tryz.f62.body.bind (trC e62)=some c62:=by kernel_rfl
theorem r62:Tryz.f62.results.toList.mapM (trR Tryz.prog)=some [.tmp 2]:=by kernel_rfl
theorem fn62{args:List Value}{M:Mem}{post:Value→Mem→Prop}(hl:args.length≤123)(h:VC e62 c62 (fnQ [.tmp 2] post) (initS args 123) M):Fn Tryz.prog 62 args M post:=
 Fn.of' (E:=e62) Tryz.func62 t62 rfl r62 mixed hl h
noncomputable def e61:Env:=⟨Tryz.prog,[],30,[]⟩
noncomputable def c61:C:=
 .seq (.reg [zA 4 0]) (.seq (.reg [zA 5 0]) (.seq (.seq (.reg [z3 8 1,zE 9 8,zA 10 0]) (.block 0 (.loop (.seq (.reg [zK 11 10 9]) (.seq (.cond (.tmp 11) .skip (.exit 0)) (.seq (.block 1 (.seq (.reg [z3 12 10,z8 13 1 8 10,z5 14 1 13,z3 6 12,z3 7 14]) (.seq (.reg [z3 15 7]) (.cond (.tmp 15) (.reg [z3 16 5,z3 17 0,z6 18 17,z4 19 4 18,z5 20 1 19,z3 21 6,z8 22 8 20 21,z4 23 7 22,z5 24 1 23,zE 25
 24,qG 26 1 25,zp 27 16 26,z3 5 27]) .skip)))) (.reg [zD 28 10 1,z3 10 28]))))))) (.seq (.reg [z3 29 5,z3 4 29]) .ret)))
theorem t61:Tryz.f61.body.bind (trC e61)=some c61:=by kernel_rfl
theorem r61:Tryz.f61.results.toList.mapM (trR Tryz.prog)=some [.tmp 4]:=by kernel_rfl
theorem fn61{args:List Value}{M:Mem}{post:Value→Mem→Prop}(hl:args.length≤30)(h:VC e61 c61 (fnQ [.tmp 4] post) (initS args 30) M):Fn Tryz.prog 61 args M post:=
 Fn.of' (E:=e61) Tryz.func61 t61 rfl r61 mixed hl h
noncomputable def e63:Env:=⟨Tryz.prog,[],13,[]⟩
noncomputable def c63:C:=
 .seq (.reg [zA 2 0]) (.seq (.reg [z3 6 0,zI 7 102 6,z3 5 7,q6 8 5 0,q6 9 5 1,z3 3 8,z3 4 9]) (.seq (.reg [z3 10 0,z3 11 3,zG 12 61 10 11,z3 2 12]) .ret))
theorem t63:Tryz.f63.body.bind (trC e63)=some c63:=by kernel_rfl
theorem r63:Tryz.f63.results.toList.mapM (trR Tryz.prog)=some [.tmp 2]:=by kernel_rfl
theorem fn63{args:List Value}{M:Mem}{post:Value→Mem→Prop}(hl:args.length≤13)(h:VC e63 c63 (fnQ [.tmp 2] post) (initS args 13) M):Fn Tryz.prog 63 args M post:=
 Fn.of' (E:=e63) Tryz.func63 t63 rfl r63 mixed hl h
noncomputable def e100:Env:=⟨Tryz.prog,[5],39,[(5,20)]⟩
noncomputable def c100:C:=
 .seq (.reg [zA 2 0]) (.seq (.reg [zA 3 (-1)]) (.seq (.seq (.reg [z3 6 0,z6 7 6,z4 8 4 7,z5 9 1 8,zE 10 9,zA 11 0]) (.block 0 (.loop (.seq (.reg [zK 12 11 10]) (.seq (.cond (.tmp 12) .skip (.exit 0)) (.seq (.block 1 (.seq (.reg [z3 13 11,z8 14 8 9 11,z9 15 8 14,zc 5 0 0 0 0 0 0 0 0 0,z3 4 13,z7 8 5 15]) (.seq (.dreg 20 [z4 16 3 5,z5 17 1 16,zC 18 17 2,z3 19 18,zL 20 19 3,⟨some 21,some (19,
 true),.bin .lss (.tmp 20) (.const (.int .i64 0))⟩,zL 22 19 21,zU 23 22 4 5,zR 24 22 1 23,zV 25 22 0,q4 26 22 25,zU 27 22 4 26,zR 28 22 1 27,zV 29 22 3,qB 30 22 8 28 29,zU 31 22 4 30,zR 32 22 1 31,⟨some 33,some (22,false),.bin .lss (.tmp 24) (.tmp 32)⟩,qP 34 19 22 33,zP 35 19 34]) (.cond (.tmp 35) (.reg [z3 36 4,z3 3 36]) .skip)))) (.reg [zD 37 11 1,z3 11 37]))))))) (.seq (.reg [z3 38 3,z3 2
 38]) .ret)))
theorem t100:Tryz.f100.body.bind (trC e100)=some c100:=by kernel_rfl
theorem r100:Tryz.f100.results.toList.mapM (trR Tryz.prog)=some [.tmp 2]:=by kernel_rfl
theorem fn100{args:List Value}{M:Mem}{post:Value→Mem→Prop}(hl:args.length≤39)(h:VC e100 c100 (fnQ [.tmp 2] post) (initS args 39) M):Fn Tryz.prog 100 args M post:=
 Fn.of' (E:=e100) Tryz.func100 t100 rfl r100 mixed hl h
end Go.Proofs.YtpleoapljeffiaaGreatDoor.E
set_option maxHeartbeats 4000000
namespace Go.Proofs.YtpleoapljeffiaaGreatDoor.E
open Go
open Classical
theorem un_le{a b M:Mem}(h1:a.le M)(h2:b.le M):(a.un b).le M:=by
 intro x k hk
 cases ha:a x with
 |some k'=>rw[un_l ha]at hk;cases hk;exact h1 x k ha
 |none=>rw[un_n ha]at hk;exact h2 x k hk
theorem has_p{m:Mem}{As Bs F:List Asr}(hm:star As m)(hp:Pm As Bs F:=by exact pmt):Has m Bs:=by
 obtain⟨a,b,d,rfl,h,_⟩:=star_append.1 (hp.out m hm)
 exact⟨a,le_l _ _,h⟩
theorem qt_e{P:Program}{f:FuncId}{args:List Value}{m:Mem}{r r':Value}(h:Qt P f args m r)(e:r=r'):Qt P f args m r':=e▸h
noncomputable def ndG(H:Heap):Nat→Int
 |0=> -1
 |i+1=>if(H.getC i).last=2∧(ndG H i<0∨(H.getC i).born<(H.getC (ndG H i)).born)then(i:Int)else ndG H i
theorem ndG_lt(H:Heap):∀i,-1≤ndG H i∧ndG H i<i
 |0=>by simp[ndG]
 |i+1=>by
  have:=ndG_lt H i
  unfold ndG
  split<;>omega
theorem getC_nat{H:Heap}{i:Nat}{c:Cell}(h:H.cells[i]?=some c):H.getC (i:Int)=c:=by
 unfold Heap.getC
 simp[h]
theorem last2{H:Heap}(h:R2 H){i:Nat}{c:Cell}(hc:H.cells[i]?=some c)(hl:c.last=2):c.state=1:=by
 rcases h.each i c hc with h|h|h
 ·have:=h.2.1.2.2.1;omega
 ·have:=h.2.1.2.2.1;omega
 ·exact h.1
theorem nextDueLoop_q{m:Mem}{a:Nat}{x:HX}(h:Has m (hp a x))(h2:R2 x.H):Qt Tryz.prog 154 [ptr a] m (.int .i64 (ndG x.H x.H.cells.length)):=by
 have hb0:=h.lens
 have hl:=x.len
 refine qt_of (fnA_of (fun h=>fn154 (by simp) h) ?_)
 repeat' (first
  |(refine k_L ?_;first|refine a_p rfl ?_|(refine k_l ?_;refine g_l rfl ?_))
  |refine a_n ?_
  |(refine k_V ?_;first|refine v_seq ?_|refine v_reg ?_)
  |refine s_n ?_)
 refine g_range x.xs.length (fun n:Int=>[(0,.v (ptr a)),(3,.v (.int .i64 n)),(9,.v (.slice x.cd.a x.xs.length x.cd.cap))]) (fun _=>[ro m]) (fun i n=>n=ndG x.H i) (-1) rfl (fun i n hi hn=>?_) (fun n hn=>?_)
 ·obtain⟨y,gy,gc⟩:=HX.at hi
  have gi:=getC_nat gc
  have hb:=ndG_lt x.H i
  have hs:=last2 h2 gc
  by_cases hn0:n<0
  ·have e:ndG x.H (i+1)=if y.c.last=2 then(i:Int)else n:=by
    show(if _ then _ else _)=_
    rw[gi,←hn];simp[hn0]
   repeat' (first
    |(refine k_L ?_;first|refine a_p rfl ?_|(refine k_g ?_;first|refine a_gy rfl rfl ?_|refine a_gn rfl rfl ?_|refine a_gu rfl ?_|(refine a_gd rfl (fun hb=>?_) (fun hb=>?_)<;>try(exfalso;omega)))|(refine k_i ?_;refine g_i rfl rfl ?_)|(refine k_ls ?_;refine g_ls rfl ?_)|(refine k_st ?_;refine g_sw rfl rfl rfl rfl (Nat.le_of_ble_eq_true rfl) ?_)|(refine k_al ?_;refine a_al ?_))
    |refine a_n ?_
    |(refine k_V ?_;first|refine v_seq ?_|refine v_reg ?_|refine v_dreg ?_|refine v_skip ?_|refine v_ct rfl ?_|refine v_cf rfl ?_)
    |refine sk_zero ?_
    |refine sk_succ ?_
    |refine wk_nil ?_
    |refine wk_cons ?_)
   ·exact r_nx i (by rw[e];simp_all)
   ·exact r_nx n (by rw[e];simp_all)
   ·exact r_nx n (by rw[e,if_neg];intro hc;first|exact absurd (hs hc) ‹_›|exact absurd (hs hc.1) ‹_›)
  ·obtain⟨z,gz,gd⟩:=HX.atI (x:=x) (i:=n) (by omega) (by omega)
   have e:ndG x.H (i+1)=if y.c.last=2∧y.c.born<z.c.born then(i:Int)else n:=by
    show(if _ then _ else _)=_
    rw[gi,←hn,gd];simp[hn0]
   repeat' (first
    |(refine k_L ?_;first|refine a_p rfl ?_|(refine k_g ?_;first|refine a_gy rfl rfl ?_|refine a_gn rfl rfl ?_|refine a_gu rfl ?_|(refine a_gd rfl (fun hb=>?_) (fun hb=>?_)<;>try(exfalso;omega)))|(refine k_l ?_;refine g_l rfl ?_)|(refine k_i ?_;refine g_i rfl rfl ?_)|(refine k_ls ?_;refine g_ls rfl ?_)|(refine k_st ?_;refine g_sw rfl rfl rfl rfl (Nat.le_of_ble_eq_true rfl) ?_)|(refine k_al ?_;refine a_al ?_))
    |refine a_n ?_
    |(refine k_V ?_;first|refine v_seq ?_|refine v_reg ?_|refine v_dreg ?_|refine v_skip ?_|refine v_cf rfl ?_|(refine v_cd rfl (fun hb=>?_) (fun hb=>?_)<;>try(exfalso;omega)))
    |refine sk_zero ?_
    |refine sk_succ ?_
    |refine wk_nil ?_
    |refine wk_cons ?_)
   ·exact r_nx i (by rw[e];simp_all)
   ·exact r_nx n (by rw[e,if_neg (fun hc=>absurd hc.2 ‹_›)])
   ·exact r_nx n (by rw[e];simp_all)
   ·exact r_nx n (by rw[e,if_neg];intro hc;first|exact absurd (hs hc) ‹_›|exact absurd (hs hc.1) ‹_›)
 ·subst hn
  repeat' (first
   |(refine k_L ?_;refine a_p rfl ?_)
   |refine a_n ?_
   |(refine k_V ?_;first|refine v_seq ?_|refine v_reg ?_|refine v_ret ?_))
  exact fa_q (by simp) (fun _ _=>rfl) (by rw[hl])
theorem l4next_q{m:Mem}{a:Nat}{x:HX}(h:Has m (hp a x)):Qt Tryz.prog 100 [ptr a] m (.int .i64 (ndG x.H x.H.cells.length)):=by
 have hb0:=h.lens
 have hl:=x.len
 refine qt_of (fnA_of (fun h=>fn100 (by simp) h) ?_)
 repeat' (first
  |(refine k_L ?_;first|refine a_p rfl ?_|(refine k_l ?_;refine g_l rfl ?_))
  |refine a_n ?_
  |(refine k_V ?_;first|refine v_seq ?_|refine v_reg ?_)
  |refine s_n ?_)
 refine g_range x.xs.length (fun n:Int=>[(0,.v (ptr a)),(3,.v (.int .i64 n)),(9,.v (.slice x.cd.a x.xs.length x.cd.cap))]) (fun _=>[ro m]) (fun i n=>n=ndG x.H i) (-1) rfl (fun i n hi hn=>?_) (fun n hn=>?_)
 ·obtain⟨y,gy,gc⟩:=HX.at hi
  have gi:=getC_nat gc
  have hb:=ndG_lt x.H i
  by_cases hn0:n<0
  ·have e:ndG x.H (i+1)=if y.c.last=2 then(i:Int)else n:=by
    show(if _ then _ else _)=_
    rw[gi,←hn];simp[hn0]
   repeat' (first
    |(refine k_L ?_;first|refine a_p rfl ?_|(refine k_g ?_;first|refine a_gy rfl rfl ?_|refine a_gn rfl rfl ?_|refine a_gu rfl ?_|(refine a_gd rfl (fun hb=>?_) (fun hb=>?_)<;>try(exfalso;omega)))|(refine k_i ?_;refine g_i rfl rfl ?_)|(refine k_ls ?_;refine g_ls rfl ?_)|(refine k_st ?_;refine g_sw rfl rfl rfl rfl (Nat.le_of_ble_eq_true rfl) ?_)|(refine k_al ?_;refine a_al ?_))
    |refine a_n ?_
    |(refine k_V ?_;first|refine v_seq ?_|refine v_reg ?_|refine v_dreg ?_|refine v_skip ?_|refine v_ct rfl ?_|refine v_cf rfl ?_)
    |refine sk_zero ?_
    |refine sk_succ ?_
    |refine wk_nil ?_
    |refine wk_cons ?_)
   ·exact r_nx i (by rw[e];simp_all)
   ·exact r_nx n (by rw[e];simp_all)
  ·obtain⟨z,gz,gd⟩:=HX.atI (x:=x) (i:=n) (by omega) (by omega)
   have e:ndG x.H (i+1)=if y.c.last=2∧y.c.born<z.c.born then(i:Int)else n:=by
    show(if _ then _ else _)=_
    rw[gi,←hn,gd];simp[hn0]
   repeat' (first
    |(refine k_L ?_;first|refine a_p rfl ?_|(refine k_g ?_;first|refine a_gy rfl rfl ?_|refine a_gn rfl rfl ?_|refine a_gu rfl ?_|(refine a_gd rfl (fun hb=>?_) (fun hb=>?_)<;>try(exfalso;omega)))|(refine k_l ?_;refine g_l rfl ?_)|(refine k_i ?_;refine g_i rfl rfl ?_)|(refine k_ls ?_;refine g_ls rfl ?_)|(refine k_st ?_;refine g_sw rfl rfl rfl rfl (Nat.le_of_ble_eq_true rfl) ?_)|(refine k_al ?_;refine a_al ?_))
    |refine a_n ?_
    |(refine k_V ?_;first|refine v_seq ?_|refine v_reg ?_|refine v_dreg ?_|refine v_skip ?_|refine v_cf rfl ?_|(refine v_cd rfl (fun hb=>?_) (fun hb=>?_)<;>try(exfalso;omega)))
    |refine sk_zero ?_
    |refine sk_succ ?_
    |refine wk_nil ?_
    |refine wk_cons ?_)
   ·exact r_nx i (by rw[e];simp_all)
   ·exact r_nx n (by rw[e,if_neg (fun hc=>absurd hc.2 ‹_›)])
   ·exact r_nx n (by rw[e];simp_all)
 ·subst hn
  repeat' (first
   |(refine k_L ?_;refine a_p rfl ?_)
   |refine a_n ?_
   |(refine k_V ?_;first|refine v_seq ?_|refine v_reg ?_|refine v_ret ?_))
  exact fa_q (by simp) (fun _ _=>rfl) (by rw[hl])
def Heap.tgt(H:Heap)(w:Word):Option Nat:=if(H.lead w).kind=2 then some (H.lead w).at_.toNat else none
inductive Reached (H:Heap):Nat→Prop
 |reg {w:Word} {j:Nat}:w∈H.regs→H.tgt w=some j→Reached H j
 |root {i:Nat} {c:Cell}:H.cells[i]?=some c→Root c→Reached H i
 |pair {i j:Nat} {c:Cell} {p:Pair} {w:Word}:Reached H i→H.cells[i]?=some c→p∈c.pairs→(w=p.key∨w=p.val)→H.tgt w=some j→Reached H j
theorem lead_kind{H:Heap}{w:Word}:(H.lead w).kind=2↔w.kind=2:=by
 unfold Heap.lead
 split
 ·rename_i h;simp[h.1]
 ·rfl
theorem lead_at{H:Heap}(h:R2 H){w:Word}(hf:Formed H w)(hk:w.kind=2):0≤(H.lead w).at_∧(H.lead w).at_<H.cells.length:=by
 have hat:=hf.at hk
 unfold Heap.lead
 split
 ·rename_i hc
  obtain⟨c,hcc⟩:∃c,H.cells[w.at_.toNat]?=some c:=⟨_,List.getElem?_eq_getElem (by omega)⟩
  have hg:H.getC w.at_=c:=by unfold Heap.getC;simp[hcc]
  have hcc':=hcc
  rcases h.each _ c hcc with h1|h1|h1
  ·rw[hg]at hc;have:=h1.1;omega
  ·rw[hg]
   have:=h1.2.2.2.1
   simp only at this⊢
   omega
  ·rw[hg]at hc;have:=h1.1;omega
 ·exact hat
theorem tgt_lt{H:Heap}(h:R2 H){w:Word}(hf:Formed H w){j:Nat}(ht:H.tgt w=some j):j<H.cells.length∧(H.lead w).kind=2∧(H.lead w).at_=j:=by
 unfold Heap.tgt at ht
 split at ht
 ·rename_i hk
  simp only[Option.some.injEq]at ht
  have:=lead_at h hf (lead_kind.1 hk)
  exact⟨by omega,hk,by omega⟩
 ·cases ht
def mkW(H:Heap)(s:List Bool×List Int)(w:Word):List Bool×List Int:=
 match H.tgt w with
 |some j=>if s.1[j]?=some false then(s.1.set j true,s.2++[(j:Int)])else s
 |none=>s
def Hit(H:Heap)(seen:List Bool)(w:Word):Prop:=∀j,H.tgt w=some j→seen[j]?=some true
structure Mk (H:Heap) (S:Nat→Prop) (s:List Bool×List Int):Prop where
 len:s.1.length=H.cells.length
 snd:∀j,s.1[j]?=some true→S j
 stk:∀g,g∈s.2→∃j:Nat,g=j∧s.1[j]?=some true
 cnt:s.2.length+s.1.count false≤H.cells.length
structure Grow (s t:List Bool×List Int):Prop where
 mono:∀j:Nat,s.1[j]?=some true→t.1[j]?=some true
 new:∀j:Nat,t.1[j]?=some true→s.1[j]?=some true∨(j:Int)∈t.2
 old:∀g,g∈s.2→g∈t.2
 msr:2*t.1.count false+t.2.length≤2*s.1.count false+s.2.length
 pre:s.2<+:t.2
theorem Grow.refl(s:List Bool×List Int):Grow s s:=⟨fun _ h=>h,fun _ h=>.inl h,fun _ h=>h,Nat.le_refl _,List.prefix_refl _⟩
theorem Grow.trans{s t u:List Bool×List Int}(h:Grow s t)(k:Grow t u):Grow s u:=
 ⟨fun j hj=>k.mono j (h.mono j hj),fun j hj=>(k.new j hj).elim (fun h'=>(h.new j h').elim .inl fun h''=>.inr (k.old _ h'')) .inr,fun g hg=>k.old g (h.old g hg),Nat.le_trans k.msr h.msr,h.pre.trans k.pre⟩
theorem Hit.grow{H:Heap}{s t:List Bool×List Int}{w:Word}(h:Hit H s.1 w)(g:Grow s t):Hit H t.1 w:=fun j hj=>g.mono j (h j hj)
theorem count_set{l:List Bool}{j:Nat}(h:l[j]?=some false):(l.set j true).count false+1=l.count false:=by
 induction l generalizing j with
 |nil=>simp at h
 |cons b r ih=>
  cases j with
  |zero=>simp only[List.getElem?_cons_zero,Option.some.injEq]at h;subst h;simp
  |succ j=>
   simp only[List.getElem?_cons_succ]at h
   have:=ih h
   simp only[List.set_cons_succ,List.count_cons]
   omega
theorem mkW_ok{H:Heap}{S:Nat→Prop}{s:List Bool×List Int}{w:Word}(h:Mk H S s)(hw:∀j,H.tgt w=some j→j<H.cells.length∧S j):Mk H S (mkW H s w)∧Grow s (mkW H s w)∧Hit H (mkW H s w).1 w:=by
 unfold mkW
 cases ht:H.tgt w with
 |none=>exact⟨h,Grow.refl s,fun j hj=>by rw[ht]at hj;cases hj⟩
 |some j=>
  obtain⟨hj,hS⟩:=hw j ht
  simp only
  by_cases hs:s.1[j]?=some false
  ·rw[if_pos hs]
   have hc:=count_set hs
   have hjl:j<s.1.length:=by rw[h.len];exact hj
   have hset:∀k:Nat,(s.1.set j true)[k]?=some true↔k=j∨s.1[k]?=some true:=by
    intro k
    rw[List.getElem?_set]
    by_cases e:j=k
    ·subst e;simp[hjl]
    ·simp only[e,if_false]
     constructor
     ·exact .inr
     ·rintro(h|h)
      ·exact absurd h.symm e
      ·exact h
   refine⟨⟨by simpa using h.len,fun k hk=>?_,fun g hg=>?_,?_⟩,⟨fun k hk=>(hset k).2 (.inr hk),fun k hk=>?_,fun g hg=>List.mem_append_left _ hg,?_,List.prefix_append _ _⟩,fun k hk=>?_⟩
   ·rcases(hset k).1 hk with rfl|hk
    ·exact hS
    ·exact h.snd k hk
   ·rcases List.mem_append.1 hg with hg|hg
    ·obtain⟨k,e,hk⟩:=h.stk g hg
     exact⟨k,e,(hset k).2 (.inr hk)⟩
    ·exact⟨j,by simpa using hg,(hset j).2 (.inl rfl)⟩
   ·have:=h.cnt
    simp only[List.length_append,List.length_singleton]
    omega
   ·rcases(hset k).1 hk with rfl|hk
    ·exact .inr (List.mem_append_right _ (by simp))
    ·exact .inl hk
   ·simp only[List.length_append,List.length_singleton]
    omega
   ·rw[ht]at hk
    cases hk
    exact(hset j).2 (.inl rfl)
  ·rw[if_neg hs]
   refine⟨h,Grow.refl s,fun k hk=>?_⟩
   rw[ht]at hk
   cases hk
   have hjl:j<s.1.length:=by rw[h.len];exact hj
   rw[List.getElem?_eq_getElem hjl]at hs⊢
   cases hb:s.1[j]with
   |true=>rfl
   |false=>rw[hb]at hs;exact absurd rfl hs
noncomputable def reachL(H:Heap):List Bool:=(List.range H.cells.length).map fun i=>decide (Reached H i)
structure Full (H:Heap) (seen:List Bool):Prop where
 regs:∀w,w∈H.regs→Hit H seen w
 roots:∀(i:Nat) c,H.cells[i]?=some c→Root c→seen[i]?=some true
def Closed(H:Heap)(seen:List Bool)(open_:Nat→Prop):Prop:=∀(i:Nat) c,seen[i]?=some true→¬open_ i→H.cells[i]?=some c→∀p,p∈c.pairs→Hit H seen p.key∧Hit H seen p.val
theorem reach_end{H:Heap}{s:List Bool×List Int}(h:Mk H (Reached H) s)(hf:Full H s.1)(hc:Closed H s.1 fun _=>False):s.1=reachL H:=by
 have key:∀j,Reached H j→s.1[j]?=some true:=by
  intro j hj
  induction hj with
  |reg h1 h2=>exact hf.regs _ h1 _ h2
  |root h1 h2=>exact hf.roots _ _ h1 h2
  |pair _ h2 h3 h4 h5 ih=>
   have:=hc _ _ ih (fun h=>h) h2 _ h3
   rcases h4 with rfl|rfl
   ·exact this.1 _ h5
   ·exact this.2 _ h5
 unfold reachL
 apply List.ext_getElem?
 intro i
 by_cases hi:i<H.cells.length
 ·rw[List.getElem?_map,List.getElem?_range hi]
  simp only[Option.map_some]
  have hl:i<s.1.length:=by rw[h.len];exact hi
  rw[List.getElem?_eq_getElem hl]
  congr 1
  cases hb:s.1[i]with
  |true=>
   have:Reached H i:=h.snd i (by rw[List.getElem?_eq_getElem hl,hb])
   simp[this]
  |false=>
   have:¬Reached H i:=fun hr=>by
    have:=key i hr
    rw[List.getElem?_eq_getElem hl,hb]at this
    cases this
   simp[this]
 ·rw[List.getElem?_eq_none (by rw[h.len];omega),List.getElem?_eq_none (by simp;omega)]
end Go.Proofs.YtpleoapljeffiaaGreatDoor.E
