/- A part of the proof. Conditions: none. -/
import Derived.Test.YtpleoapljeffiaaGreatDoorKE3
import Derived.Test.YtpleoapljeffiaaGreatDoorRows
import Derived.Deep.Slices
import Derived.ProofKit
import Derived.OpenShut
import Derived.Carry
import Derived.SizedLaws
import Derived.Below
import Derived.Test.YtpleoapljeffiaaGreatDoorChecked
set_option linter.unusedVariables false
set_option linter.unusedSimpArgs false
namespace Go.Proofs.YtpleoapljeffiaaGreatDoor.E
open Go
inductive C where
 |reg (l:List I)
 |dreg (n:Nat) (l:List I)
 |zreg (ds:List Nat) (zs cs:List I)
 |hreg (bs:List Nat) (zs:List I) (t:T)
 |seq (a b:C)
 |cond (x:Operand) (a b:C)
 |block (id:Nat) (c:C)
 |loop (c:C)
 |exit (id:Nat)
 |ret
 |skip
structure Env where
 P:Program
 own:List Nat
 nt:Nat
 ns:List (Nat×Nat)
def trC(E:Env):Code→Option C
 |.skip=>some .skip
 |.region id ops draw=>
  if draw then
   match E.ns.lookup id with
   |some n=>match trL E.P E.own E.nt ops n ops.toList with
    |some l=>if drawB ops l n then some (.dreg n l)else if n==0&&zB ops l then some (.zreg (allD l) (getsI l (zOf ops l)) (getsI l (cOf ops l)))else
     if n==0&&Region.noSelect ops&&decide ((hZs ops l).length≤ops.size)then some (.hreg (hBs E.own ops l) (getsI l (hZs ops l)) (hT ops l))else none
    |none=>none
   |none=>none
  else(trL E.P E.own E.nt ops 0 ops.toList).map .reg
 |.seq a b=>match trC E a,trC E b with
  |some a',some b'=>some (.seq a' b')
  |_,_=>none
 |.cond x a b=>match trC E a,trC E b with
  |some a',some b'=>some (.cond x a' b')
  |_,_=>none
 |.block id c=>(trC E c).map (.block id)
 |.loop c=>(trC E c).map .loop
 |.exit id=>some (.exit id)
 |.ret=>some .ret
 |_=>none
inductive X where
 |nrm
 |ret
 |ext (id:Nat)
def exitIs:Exit→X→Prop
 |.normal,.nrm=>True
 |.ret,.ret=>True
 |.exit id,.ext id'=>id=id'
 |_,_=>False
def lift(nt:Nat)(Q:X→St→Mem→Prop)(W0:World)(M0:Mem):Exit→Act→World→Prop:=fun e a w=>
 ∃x S M β,exitIs e x∧Q x S M∧RepF W0 M0 β S nt M a w
structure VC (E:Env) (c:C) (Q:X→St→Mem→Prop) (S:St) (M:Mem):Prop where
 out:∀code,trC E code=some c→E.P.follows .mixedOrders=true→∀W0 M0 β a w,RepF W0 M0 β S E.nt M a w→code.wp E.P (lift E.nt Q W0 M0) a w
def seqQ(K:St→Mem→Prop)(Q:X→St→Mem→Prop):X→St→Mem→Prop
 |.nrm=>K
 |x=>Q x
def blkQ(id:Nat)(Q:X→St→Mem→Prop):X→St→Mem→Prop
 |.ext i=>if i=id then Q .nrm else Q (.ext i)
 |x=>Q x
def ofL:List (Nat×SV)→St
 |[]=>fun _=>.junk
 |(d,x)::r=>upF (ofL r) d x
def leA:List (Nat×SV)→St→Prop
 |[],_=>True
 |(d,x)::r,S=>S d=x∧leA r S
theorem leA.leF:∀{l:List (Nat×SV)} {S:St},leA l S→leF (ofL l) S
 |[],_,_=>fun _=>.inl rfl
 |(d,x)::r,S,h=>fun t=>by
  simp only[ofL,upF_eq]
  by_cases e:t=d
  ·rw[if_pos e,e];exact .inr h.1.symm
  ·rw[if_neg e];exact leA.leF h.2 t
section
variable {E:Env} {Q Q':X→St→Mem→Prop} {S S':St} {M M':Mem}
theorem VC.mono{c:C}(h:VC E c Q S M)(k:∀x S M,Q x S M→Q' x S M):VC E c Q' S M:=
 ⟨fun code ht hm W0 M0 β a w hR=>wp_mono (h.out code ht hm W0 M0 β a w hR) fun e a w ⟨x,S,M,β,he,hq,r⟩=>⟨x,S,M,β,he,k _ _ _ hq,r⟩⟩
theorem VC.weak{c:C}(l:List (Nat×SV))(hS:leA l S)(hM:M'.le M)(h:VC E c Q (ofL l) M'):VC E c Q S M:=
 ⟨fun code ht hm W0 M0 β a w hR=>h.out code ht hm W0 M0 β a w ((hR.weak hS.leF).le hM)⟩
theorem VC.drop{c:C}(hM:M'.le M)(h:VC E c Q S M'):VC E c Q S M:=
 ⟨fun code ht hm W0 M0 β a w hR=>h.out code ht hm W0 M0 β a w (hR.le hM)⟩
theorem trC_inv{code:Code}{c:C}(h:trC E code=some c):match c with
 |.skip=>code=.skip
 |.ret=>code=.ret
 |.exit id=>code=.exit id
 |.reg l=>∃id ops,code=.region id ops false∧trL E.P E.own E.nt ops 0 ops.toList=some l
 |.dreg n l=>∃id ops,code=.region id ops true∧trL E.P E.own E.nt ops n ops.toList=some l∧drawB ops l n=true
 |.zreg ds zs cs=>∃id ops l,code=.region id ops true∧trL E.P E.own E.nt ops 0 ops.toList=some l∧zB ops l=true∧ds=allD l∧zs=getsI l (zOf ops l)∧cs=getsI l (cOf ops l)
 |.hreg bs zs t=>∃id ops l,code=.region id ops true∧trL E.P E.own E.nt ops 0 ops.toList=some l∧Region.noSelect ops=true∧(hZs ops l).length≤ops.size∧bs=hBs E.own ops l∧zs=getsI l (hZs ops l)∧t=hT ops l
 |.seq a b=>∃x y,code=.seq x y∧trC E x=some a∧trC E y=some b
 |.cond t a b=>∃x y,code=.cond t x y∧trC E x=some a∧trC E y=some b
 |.block id a=>∃x,code=.block id x∧trC E x=some a
 |.loop a=>∃x,code=.loop x∧trC E x=some a:=by
 cases code<;>simp only[trC]at h
 case skip=>cases h;rfl
 case ret=>cases h;rfl
 case exit id=>cases h;rfl
 case region id ops draw=>
  cases draw with
  |false=>
   simp only[Bool.false_eq_true,if_false,Option.map_eq_some_iff]at h
   obtain⟨l,hl,h⟩:=h
   cases h
   exact⟨id,ops,rfl,hl⟩
  |true=>
   simp only[if_true]at h
   split at h
   ·split at h
    ·rename_i l hl
     split at h
     ·rename_i hB;cases h;exact⟨id,ops,rfl,hl,hB⟩
     ·split at h
      ·rename_i hn
       simp only[Bool.and_eq_true,beq_iff_eq]at hn
       obtain⟨rfl,hn⟩:=hn
       cases h
       exact⟨id,ops,l,rfl,hl,hn,rfl,rfl,rfl⟩
      ·split at h
       ·rename_i hn
        simp only[Bool.and_eq_true,beq_iff_eq,decide_eq_true_eq]at hn
        obtain⟨⟨rfl,hn⟩,hn2⟩:=hn
        cases h
        exact⟨id,ops,l,rfl,hl,hn,hn2,rfl,rfl,rfl⟩
       ·cases h
    ·cases h
   ·cases h
 case seq x y=>
  split at h
  ·rename_i a b h1 h2;cases h;exact⟨x,y,rfl,h1,h2⟩
  ·cases h
 case cond t x y=>
  split at h
  ·rename_i a b h1 h2;cases h;exact⟨x,y,rfl,h1,h2⟩
  ·cases h
 case block id x=>
  simp only[Option.map_eq_some_iff]at h
  obtain⟨a,h1,h⟩:=h
  cases h;exact⟨x,rfl,h1⟩
 case loop x=>
  simp only[Option.map_eq_some_iff]at h
  obtain⟨a,h1,h⟩:=h
  cases h;exact⟨x,rfl,h1⟩
 all_goals cases h
theorem VC.skip(h:Q .nrm S M):VC E .skip Q S M:=
 ⟨fun code ht hm W0 M0 β a w hR=>by
   have e:code=.skip:=trC_inv ht
   subst e
   exact wp_skip ⟨.nrm,S,M,β,trivial,h,hR⟩⟩
theorem VC.ret(h:Q .ret S M):VC E .ret Q S M:=
 ⟨fun code ht hm W0 M0 β a w hR=>by
   have e:code=.ret:=trC_inv ht
   subst e
   exact wp_ret ⟨.ret,S,M,β,trivial,h,hR⟩⟩
theorem VC.exit{id:Nat}(h:Q (.ext id) S M):VC E (.exit id) Q S M:=
 ⟨fun code ht hm W0 M0 β a w hR=>by
   have e:code=.exit id:=trC_inv ht
   subst e
   exact wp_exit ⟨.ext id,S,M,β,rfl,h,hR⟩⟩
theorem VC.reg{l:List I}(h:vcL E.P l (Q .nrm) S M):VC E (.reg l) Q S M:=
 ⟨fun code ht hm W0 M0 β a w hR=>by
   obtain⟨id,ops,rfl,hl⟩:=trC_inv ht
   exact wp_region_list (vcL_sound (fun S' M' a' w' β' hp hr=>⟨.nrm,S',M',β',trivial,hp,hr⟩) hl hR h)⟩
theorem VC.dreg{n:Nat}{l:List I}(h:vcL E.P l (Q .nrm) (fun t=>junkD (dsOf l n) (S t)) M):VC E (.dreg n l) Q S M:=
 ⟨fun code ht hm W0 M0 β a w hR=>by
   obtain⟨id,ops,rfl,hl,hB⟩:=trC_inv ht
   exact draw_sound hm hl hB (fun c a w ⟨x,_,_,_,he,_⟩=>by cases x<;>exact he) hR h (fun S' M' a' w' β' hp hr=>⟨.nrm,S',M',β',trivial,hp,hr⟩)⟩
theorem VC.zreg{ds:List Nat}{zs cs:List I}(h:vcL E.P zs (fun S' _=>vcL E.P cs (Q .nrm) S' M) (fun t=>junkD ds (S t)) (fun _=>none)):VC E (.zreg ds zs cs) Q S M:=
 ⟨fun code ht hm W0 M0 β a w hR=>by
   obtain⟨id,ops,l,rfl,hl,hB,rfl,rfl,rfl⟩:=trC_inv ht
   exact zreg_sound hm hl hB hR h (fun S' M' a' w' β' hp hr=>⟨.nrm,S',M',β',trivial,hp,hr⟩)⟩
theorem VC.hreg{bs:List Nat}{zs:List I}{t:T}{m F:Mem}(hd:Disj m F)(h:vcL E.P zs (fun S' _=>vcT E.P bs (Q .nrm) t F S' m) (jb bs S) F):VC E (.hreg bs zs t) Q S (m.un F):=
 ⟨fun code ht hm W0 M0 β a w hR=>by
   obtain⟨id,ops,l,rfl,hl,hs,hle,rfl,rfl,rfl⟩:=trC_inv ht
   exact hreg_sound hm hl hs (fun c a w ⟨x,_,_,_,he,_⟩=>by cases x<;>exact he) hd hle hR h (fun S' M' a' w' β' hp hr=>⟨.nrm,S',_,β',trivial,hp,hr⟩)⟩
theorem VC.seq{a b:C}(h:VC E a (seqQ (VC E b Q) Q) S M):VC E (.seq a b) Q S M:=
 ⟨fun code ht hm W0 M0 β ac w hR=>by
   obtain⟨x,y,rfl,h1,h2⟩:=trC_inv ht
   refine wp_seq (wp_mono (h.out x h1 hm W0 M0 β ac w hR) ?_)
   rintro e a' w' ⟨xx,S',M',β',he,hq,hr⟩
   cases e<;>cases xx<;>first|(exact he.elim)|skip
   ·exact hq.out y h2 hm W0 M0 β' a' w' hr
   ·exact⟨_,S',M',β',he,hq,hr⟩
   ·exact⟨_,S',M',β',he,hq,hr⟩⟩
theorem VC.cond{x:Operand}{a b:C}(t:Bool)(hx:ev S x=some (.bool t))(h1:t=true→VC E a Q S M)(h2:t=false→VC E b Q S M):VC E (.cond x a b) Q S M:=
 ⟨fun code ht hm W0 M0 β ac w hR=>by
   obtain⟨y,z,rfl,e1,e2⟩:=trC_inv ht
   exact wp_cond_split (hR.ev hx) (fun e=>(h1 e).out y e1 hm W0 M0 β ac w hR) (fun e=>(h2 e).out z e2 hm W0 M0 β ac w hR)⟩
theorem VC.block{id:Nat}{c:C}(h:VC E c (blkQ id Q) S M):VC E (.block id c) Q S M:=
 ⟨fun code ht hm W0 M0 β ac w hR=>by
   obtain⟨x,rfl,h1⟩:=trC_inv ht
   refine wp_block (wp_mono (h.out x h1 hm W0 M0 β ac w hR) ?_)
   rintro e a' w' ⟨xx,S',M',β',he,hq,hr⟩
   cases e<;>cases xx<;>first|(exact he.elim)|skip
   ·exact⟨_,S',M',β',he,hq,hr⟩
   ·rename_i i i'
    have he':i=i':=he
    subst he'
    simp only[blkQ]at hq
    simp only[Exit.inBlock]
    by_cases hi:i=id
    ·rw[if_pos hi]at hq⊢;exact⟨.nrm,S',M',β',trivial,hq,hr⟩
    ·rw[if_neg hi]at hq⊢;exact⟨.ext i,S',M',β',rfl,hq,hr⟩
   ·exact⟨_,S',M',β',he,hq,hr⟩⟩
theorem VC.loop{c:C}{α:Type}(T:α→List (Nat×SV))(Inv:Nat→α→Mem→Prop)(h0:∃k x M',leA (T x) S∧M'.le M∧Inv k x M')
 (h:∀k x M,Inv k x M→VC E c (seqQ (fun S' M'=>∃k' x' M'',k'<k∧leA (T x') S'∧M''.le M'∧Inv k' x' M'') Q) (ofL (T x)) M):VC E (.loop c) Q S M:=
 ⟨fun code ht hm W0 M0 β ac w hR=>by
   obtain⟨y,rfl,h1⟩:=trC_inv ht
   obtain⟨k,x,M',hle,hM,hinv⟩:=h0
   refine wp_loop_ghost (fun k a w=>∃x M β,Inv k x M∧RepF W0 M0 β (ofL (T x)) E.nt M a w) k ⟨x,M',β,hinv,(hR.weak hle.leF).le hM⟩ ?_
   rintro k a w ⟨x,M,β,hinv,hR⟩
   refine wp_mono ((h k x M hinv).out y h1 hm W0 M0 β a w hR) ?_
   rintro e a' w' ⟨xx,S',M',β',he,hq,hr⟩
   cases e<;>cases xx<;>first|(exact he.elim)|skip
   ·obtain⟨k',x',M'',hk,hle,hM,hinv⟩:=hq
    exact⟨k',hk,x',M'',β',hinv,(hr.weak hle.leF).le hM⟩
   ·exact⟨_,S',M',β',he,hq,hr⟩
   ·exact⟨_,S',M',β',he,hq,hr⟩⟩
inductive RV where
 |tmp (t:Nat)
 |cell (t:Nat) (one:Bool) (n:Nat)
def trR(P:Program):ResultVar→Option RV
 |.tmp t=>some (.tmp t)
 |.cell a t=>match P.underlying t,P.info? t with
  |some d,some i=>some (.cell a (!isAggD d) i.size)
  |_,_=>none
def rvV(S:St)(M:Mem):RV→Option Value
 |.tmp t=>ev S (.tmp t)
 |.cell t one n=>match lc S (.tmp t)with
  |some (.bx s o)=>match bxc (S s)with
   |some cs=>rdv one n cs o
   |none=>none
  |some (.mm b o)=>match M b with
   |some (.row cs)=>rdv one n cs o
   |_=>none
  |none=>none
def rvs(S:St)(M:Mem):List RV→Option (List Value)
 |[]=>some []
 |r::t=>match rvV S M r,rvs S M t with
  |some v,some l=>some (v::l)
  |_,_=>none
def resV(S:St)(M:Mem)(rs:List RV):Option Value:=
 match rvs S M rs with
 |some [v]=>some v
 |some l=>some (.tuple l.toArray)
 |none=>none
def fnQ(rs:List RV)(post:Value→Mem→Prop):X→St→Mem→Prop
 |.ext _,_,_=>False
 |_,S,M=>∃v M',resV S M rs=some v∧M'.le M∧post v M'
def rdRes(tmps:Array Value):ResultVar→Sem Value
 |.tmp t=>pure (tmps.getD t undef)
 |.cell a t=>do loadVar t (←asAddr (tmps.getD a undef))
theorem results_eq(fn:Func)(tmps:Array Value):results fn tmps=(do let vs←fn.results.mapM (rdRes tmps);pure (if h:vs.size=1 then vs[0]else .tuple vs)):=by
 rfl
theorem run_rv{P:Program}{W0:World}{M0:Mem}{β:Nat→Nat}{n:Nat}{a:Act}{w:World}(hR:RepF W0 M0 β S n M a w){r:ResultVar}{rv:RV}(ht:trR P r=some rv){v:Value}(h:rvV S M rv=some v):
 (rdRes a.tmps r).run P w=.ok v w:=by
 unfold rdRes
 cases r with
 |tmp t=>
  simp only[trR,Option.some.injEq]at ht
  subst ht
  have:=hR.ev (x:=.tmp t) h
  simp only[Sem.run_pure]
  exact congrArg (Result.ok · w) this
 |cell c t=>
  simp only[trR]at ht
  split at ht
  ·rename_i d i hd hi
   simp only[Option.some.injEq]at ht
   subst ht
   simp only[rvV]at h
   split at h
   ·rename_i s o hl
    split at h
    ·rename_i cs hc
     have e:a.tmps.getD c undef=.pointer (some ⟨β s,o,none⟩):=hR.lc_bx hl
     simp only[Sem.run_bind,e,asAddr,Sem.run_pure,Result.andThen_ok]
     exact run_loadVar hd hi (hR.bxc hc).2.ro h
    ·cases h
   ·rename_i b o hl
    split at h
    ·rename_i cs hc
     have e:a.tmps.getD c undef=.pointer (some ⟨b,o,none⟩):=hR.lc_mm hl
     simp only[Sem.run_bind,e,asAddr,Sem.run_pure,Result.andThen_ok]
     exact run_loadVar hd hi (hR.sat _ _ hc).ro h
    ·cases h
   ·cases h
  ·cases ht
theorem run_rvs{P:Program}{W0:World}{M0:Mem}{β:Nat→Nat}{n:Nat}{a:Act}{w:World}(hR:RepF W0 M0 β S n M a w):∀{l:List ResultVar} {rl:List RV},l.mapM (trR P)=some rl→∀{vs:List Value},rvs S M rl=some vs→
 (l.mapM (rdRes a.tmps)).run P w=.ok vs w
 |[],rl,ht,vs,h=>by
  simp only[List.mapM_nil,Option.pure_def,Option.some.injEq]at ht
  subst ht
  simp only[rvs,Option.some.injEq]at h
  subst h
  rfl
 |r::t,rl,ht,vs,h=>by
  simp only[List.mapM_cons,Option.pure_def,Option.bind_eq_bind,Option.bind_eq_some_iff,Option.some.injEq]at ht
  obtain⟨y,hy,r',hr,rfl⟩:=ht
  simp only[rvs]at h
  split at h
  ·rename_i v l h1 h2
   simp only[Option.some.injEq]at h
   subst h
   simp only[List.mapM_cons,Sem.run_bind]
   rw[run_rv hR hy h1]
   simp only[Result.andThen_ok,run_rvs hR hr h2,Sem.run_pure]
  ·cases h
theorem run_results{P:Program}{W0:World}{M0:Mem}{β:Nat→Nat}{n:Nat}{a:Act}{w:World}(hR:RepF W0 M0 β S n M a w){fn:Func}{rl:List RV}(ht:fn.results.toList.mapM (trR P)=some rl){v:Value}(h:resV S M rl=some v):
 (results fn a.tmps).run P w=.ok v w:=by
 unfold resV at h
 have key:∀{vs},rvs S M rl=some vs→(results fn a.tmps).run P w=.ok (if h:vs.toArray.size=1 then vs.toArray[0]else .tuple vs.toArray) w:=by
  intro vs hvs
  have:=run_rvs (P:=P) hR ht hvs
  rw[results_eq,Array.mapM_eq_mapM_toList]
  simp only[Sem.run_bind,Sem.run_map]
  rw[this]
  rfl
 split at h
 ·rename_i v' hvs
  simp only[Option.some.injEq]at h
  subst h
  rw[key hvs];rfl
 ·rename_i l hne hvs
  simp only[Option.some.injEq]at h
  subst h
  rw[key hvs]
  rw[dif_neg]
  intro hl
  match l,hl with
  |[x],_=>exact hne x rfl
 ·cases h
def initS:List Value→Nat→St
 |[],nt=>fun t=>bif Nat.blt t nt then .v undef else .junk
 |x::r,nt=>fun t=>match t with
  |0=>.v x
  |t+1=>initS r (nt-1) t
theorem initS_in:∀(args:List Value) (nt t:Nat),args.length≤nt→t<nt→initS args nt t=.v ((args++List.replicate (nt-args.length) undef).getD t undef)
 |[],nt,t,_,ht=>by
  have hb:Nat.blt t nt=true:=by simp[Nat.blt_eq,ht]
  simp only[initS,hb,cond_true,List.nil_append,List.length_nil,Nat.sub_zero,List.getD_eq_getElem?_getD]
  simp[ht]
 |x::r,nt,0,_,_=>by simp[initS]
 |x::r,nt,t+1,hl,ht=>by
  simp only[List.length_cons]at hl
  have:=initS_in r (nt-1) t (by omega) (by omega)
  simp only[initS,this,List.length_cons,List.cons_append,List.getD_eq_getElem?_getD,List.getElem?_cons_succ]
  rw[show nt-(r.length+1)=nt-1-r.length by omega]
theorem initS_out:∀(args:List Value) (nt t:Nat),args.length≤nt→nt≤t→initS args nt t=.junk
 |[],nt,t,_,ht=>by
  have hb:Nat.blt t nt=false:=by
   cases h:Nat.blt t nt with
   |false=>rfl
   |true=>rw[Nat.blt_eq]at h;omega
  simp only[initS,hb,cond_false]
 |x::r,nt,0,hl,ht=>by simp only[List.length_cons]at hl;omega
 |x::r,nt,t+1,hl,ht=>by
  simp only[List.length_cons]at hl
  exact initS_out r (nt-1) t (by omega) (by omega)
theorem Fn.of{f:FuncId}{fn:Func}{code:Code}{c:C}{rl:List RV}(hf:E.P.funcs[f]?=some fn)(hb:fn.body=some code)(hn:fn.ntmps=E.nt)(ht:trC E code=some c)(hr:fn.results.toList.mapM (trR E.P)=some rl)(hm:E.P.follows .mixedOrders=true)
 {args:List Value} {post:Value→Mem→Prop} (hl:args.length≤E.nt) (h:VC E c (fnQ rl post) (initS args E.nt) M):Fn E.P f args M post:=by
 refine⟨fun w hw=>calls_of_wp hf hb ?_⟩
 have hR:RepF w M (fun _=>0) (initS args E.nt) E.nt M {tmps:=args.toArray++Array.replicate (fn.ntmps-args.toArray.size) undef,defers:=[]} w:=by
  refine⟨rfl,?_,?_,hw,Stp.refl _ _,?_,?_⟩
  ·simp[hn];omega
  ·intro t ht;exact initS_out args E.nt t hl ht
  ·intro t
   rcases Nat.lt_or_ge t E.nt with h1|h1
   ·rw[initS_in args E.nt t hl h1]
    show _=_
    simp only[Array.getD_eq_getD_getElem?,List.getD_eq_getElem?_getD,hn]
    have:args.toArray++Array.replicate (E.nt-args.length) undef=(args++List.replicate (E.nt-args.length) undef).toArray:=by
     apply Array.ext';simp
    simp only[List.size_toArray]
    rw[this,List.getElem?_toArray]
   ·rw[initS_out args E.nt t hl h1];trivial
  ·intro t t' h1
   rcases Nat.lt_or_ge t E.nt with h2|h2
   ·rw[initS_in args E.nt t hl h2]at h1;cases h1
   ·rw[initS_out args E.nt t hl h2]at h1;cases h1
 refine wp_mono (h.out code ht hm w M _ _ w hR) ?_
 rintro e a' w' ⟨xx,S',M',β',he,hq,hr'⟩
 have fin:(∃v M'',resV S' M' rl=some v∧M''.le M'∧post v M'')→a'.defers=[]∧∃v,(results fn a'.tmps).run E.P w'=.ok v w'∧∃v' M'',Ending.returned v=.returned v'∧post v' M''∧Sat w' M''∧Stp w M w' M'':=by
  rintro⟨v,M'',hv,hle,hp⟩
  exact⟨hr'.df,v,run_results hr' hr hv,v,M'',rfl,hp,hr'.sat.le hle,hr'.stp.le hle⟩
 cases e<;>cases xx<;>first|(exact he.elim)|skip
 ·exact fin hq
 ·exact hq.elim
 ·exact fin hq
end
def cell(M:Mem)(b o:Nat):Option Value:=
 match M b with
 |some (.row cs)=>cs[o]?
 |some (.ro cs _ _)=>cs[o]?
 |_=>none
def cells(M:Mem)(b o n:Nat):Option (List Value):=
 match M b with
 |some (.row cs)=>if o+n≤cs.length then some ((cs.drop o).take n)else none
 |some (.ro cs _ _)=>if o+n≤cs.length then some ((cs.drop o).take n)else none
 |_=>none
theorem cell_row{M:Mem}{b o:Nat}{v:Value}(h:cell M b o=some v):∃cs,(M b=some (.row cs)∨∃t fr,M b=some (.ro cs t fr))∧cs[o]?=some v:=by
 unfold cell at h
 split at h
 ·rename_i cs hM;exact⟨cs,.inl hM,h⟩
 ·rename_i cs _ _ hM;exact⟨cs,.inr ⟨_,_,hM⟩,h⟩
 ·cases h
theorem cells_row{M:Mem}{b o n:Nat}{vs:List Value}(h:cells M b o n=some vs):∃cs,(M b=some (.row cs)∨∃t fr,M b=some (.ro cs t fr))∧o+n≤cs.length∧vs=(cs.drop o).take n:=by
 unfold cells at h
 split at h
 ·rename_i cs hM
  split at h
  ·rename_i hle;exact⟨cs,.inl hM,hle,(Option.some.inj h).symm⟩
  ·cases h
 ·rename_i cs _ _ hM
  split at h
  ·rename_i hle;exact⟨cs,.inr ⟨_,_,hM⟩,hle,(Option.some.inj h).symm⟩
  ·cases h
 ·cases h
section
variable {P:Program} {S:St} {M:Mem} {post:St→Mem→Prop} {r:List I} {d:Option Nat}
theorem pe_plain{f:Nat→SV}{k:K}{sv:SV}(h:pe f k=some sv):sv.isBox=false:=by
 cases k<;>simp only[pe]at h
 all_goals first
  |(cases h;done)
  |(simp only[Option.map_eq_some_iff]at h;obtain⟨_,_,rfl⟩:=h;rfl)
  |((repeat' split at h)<;>first|(cases h;done)|(simp only[Option.some.injEq]at h;subst h;rfl)|(simp only[Option.map_eq_some_iff]at h;obtain⟨_,_,rfl⟩:=h;rfl))
theorem pe_float{f:Nat→SV}{k:K}{sv:SV}(h:pe f k=some sv):floatK k=true:=by
 cases k<;>simp only[pe]at h<;>first
  |rfl
  |(cases h;done)
theorem vcK_fe{k:K}{sv:SV}(hf:floatK k=true)(h:FE P S M k sv)(hp:post (if sv.isBox then putB S d sv else put S d sv) M):vcK P k d post S M:=by
 cases k<;>first
  |(cases hf;done)
  |exact⟨sv,h,hp⟩
  |(rename_i ow _;cases ow<;>first|(cases hf;done)|exact⟨sv,h,hp⟩)
  |(rename_i ow _ _ _ _;cases ow<;>first|(cases hf;done)|exact⟨sv,h,hp⟩)
theorem wl_nil(h:post S M):vcL P [] post S M:=h
theorem wl_pure{k:K}{sv:SV}(h:pe S k=some sv)(hp:vcL P r post (put S d sv) M):vcL P (⟨d,none,k⟩::r) post S M:=by
 refine vcK_fe (pe_float h) (.inl h) ?_
 rw[pe_plain h];exact hp
theorem wl_add{x y:Operand}{a b:Int}(hx:ev S x=some (.int .i64 a))(hy:ev S y=some (.int .i64 b))(hb: -9223372036854775808≤a+b∧a+b≤9223372036854775807)
 (hp:vcL P r post (put S d (.v (.int .i64 (a+b)))) M):vcL P (⟨d,none,.bin .add x y⟩::r) post S M:=
 wl_pure (sv:=.v (.int .i64 (a+b))) (by simp only[pe,hx,hy,binV,binI,if_true,Option.map_some,IntWalk.i64_in _ hb]) hp
theorem wl_sub{x y:Operand}{a b:Int}(hx:ev S x=some (.int .i64 a))(hy:ev S y=some (.int .i64 b))(hb: -9223372036854775808≤a-b∧a-b≤9223372036854775807)
 (hp:vcL P r post (put S d (.v (.int .i64 (a-b)))) M):vcL P (⟨d,none,.bin .sub x y⟩::r) post S M:=
 wl_pure (sv:=.v (.int .i64 (a-b))) (by simp only[pe,hx,hy,binV,binI,if_true,Option.map_some,IntWalk.i64_in _ hb]) hp
theorem wl_mul{x y:Operand}{a b:Int}(hx:ev S x=some (.int .i64 a))(hy:ev S y=some (.int .i64 b))(hb: -9223372036854775808≤a*b∧a*b≤9223372036854775807)
 (hp:vcL P r post (put S d (.v (.int .i64 (a*b)))) M):vcL P (⟨d,none,.bin .mul x y⟩::r) post S M:=
 wl_pure (sv:=.v (.int .i64 (a*b))) (by simp only[pe,hx,hy,binV,binI,if_true,Option.map_some,IntWalk.i64_in _ hb]) hp
theorem wl_idx{x y:Operand}{size b o len cap:Nat}{k:IntKind}{i:Int}(hx:ev S x=some (.slice (some ⟨b,o,none⟩) len cap))(hy:ev S y=some (.int k i))(hb:0≤i∧i<len)
 (hp:vcL P r post (put S d (.v (.pointer (some ⟨b,o+i.toNat*size,none⟩)))) M):vcL P (⟨d,none,.iaddr size x y⟩::r) post S M:=
 wl_pure (sv:=.v (.pointer (some ⟨b,o+i.toNat*size,none⟩))) (by simp only[pe,hx,hy];rw[if_pos hb]) hp
theorem wl_ld{n:Nat}{x:Operand}{b o:Nat}{v:Value}(hx:lc S x=some (.mm b o))(hv:cell M b o=some v)(hp:vcL P r post (put S d (.v v)) M):vcL P (⟨d,none,.load true n x⟩::r) post S M:=by
 obtain⟨cs,hM,hc⟩:=cell_row hv
 exact vcK_fe (k:=.load true n x) (sv:=.v v) rfl (.inr ⟨b,o,cs,v,hx,hM,by simp[rdv,hc],rfl⟩) hp
theorem wl_lds{n:Nat}{x:Operand}{b o:Nat}{vs:List Value}(hx:lc S x=some (.mm b o))(hv:cells M b o n=some vs)(hp:vcL P r post (put S d (.v (.agg vs.toArray))) M):vcL P (⟨d,none,.load false n x⟩::r) post S M:=by
 obtain⟨cs,hM,hle,rfl⟩:=cells_row hv
 exact vcK_fe (k:=.load false n x) (sv:=.v (.agg ((cs.drop o).take n).toArray)) rfl (.inr ⟨b,o,cs,_,hx,hM,by simp[rdv,hle],rfl⟩) hp
theorem wl_alloc{z:List Value}(hp:vcL P r post (putB S d (.box z)) M):vcL P (⟨d,none,.alloc true z⟩::r) post S M:=
 vcK_fe (k:=.alloc true z) (sv:=.box z) rfl (.inr rfl) hp
theorem wl_box{x:Operand}{v:Value}{cs:List Value}(hx:ev S x=some v)(hc:v.cells.toList=cs)(hp:vcL P r post (putB S d (.box cs)) M):vcL P (⟨d,none,.box true x⟩::r) post S M:=by
 subst hc
 exact vcK_fe (k:=.box true x) (sv:=.box v.cells.toList) rfl (.inr ⟨v,hx,rfl⟩) hp
theorem wl_bsl{len size:Nat}{z cs:List Value}{ps:List (Nat×Nat×Operand)}(hf:fillP S z ps=some cs)(hp:vcL P r post (putB S d (.bsl cs len)) M):vcL P (⟨d,none,.bslice true len size z ps⟩::r) post S M:=
 vcK_fe (k:=.bslice true len size z ps) (sv:=.bsl cs len) rfl (.inr ⟨cs,hf,rfl⟩) hp
theorem wl_q{g:FuncId}{xs:List Operand}{args:List Value}{v:Value}(hx:evs S xs=some args)(hq:Qt P g args M v)(hp:vcL P r post (put S d (.v v)) M):vcL P (⟨d,none,.qcall g xs⟩::r) post S M:=
 vcK_fe (k:=.qcall g xs) (sv:=.v v) rfl (.inr ⟨args,v,hx,hq,rfl⟩) hp
theorem wl_cq{g:FuncId}{xs:List Operand}{args:List Value}{v:Value}(hx:evs S xs=some args)(hq:Qt P g args M v)(hp:vcL P r post (put S d (.v v)) M):vcL P (⟨d,none,.call g xs⟩::r) post S M:=
 ⟨args,hx,hq.mono fun v' M' ⟨e1,e2⟩=>by subst e1;subst e2;exact hp⟩
theorem wl_c{g:FuncId}{xs:List Operand}{args:List Value}{q:Value→Mem→Prop}(hx:evs S xs=some args)(hq:Fn P g args M q)(hp:∀v M',q v M'→vcL P r post (put S d (.v v)) M'):vcL P (⟨d,none,.call g xs⟩::r) post S M:=
 ⟨args,hx,hq.mono hp⟩
theorem wl_cv{g:FuncId}{x:Operand}{u c:Array Value}{xs:List Operand}{args:List Value}{q:Value→Mem→Prop}(hf:ev S x=some (.func (.func g) u c))(hok:fnOk P g=true)(hx:evs S xs=some args)(hq:Fn P g (u.toList++args++c.toList) M q)(hp:∀v M',q v M'→vcL P r post (put S d (.v v)) M'):
 vcL P (⟨d,none,.callv x xs⟩::r) post S M:=
 ⟨g,u,c,args,hf,hok,hx,hq.mono hp⟩
theorem wl_stb{n:Nat}{x y:Operand}{s o:Nat}{cs cs':List Value}{v:Value}(hx:lc S x=some (.bx s o))(hb:S s=.box cs)(hy:ev S y=some v)(hn:v.cells.size=n)(hpl:plainCells v.cells.toList=true)(hle:o+n≤cs.length)
 (hw:wr cs o v.cells.toList=cs') (hp:vcL P r post (upF S s (.box cs')) M):vcL P (⟨d,none,.store n x y⟩::r) post S M:=by
 subst hw
 exact⟨v,hy,hn,hpl,.inl ⟨s,o,cs,hx,hb,hle,hp⟩⟩
theorem wl_stm{n:Nat}{x y:Operand}{b o:Nat}{cs:List Value}{v:Value}(hx:lc S x=some (.mm b o))(hb:M b=some (.row cs))(hy:ev S y=some v)(hn:v.cells.size=n)(hpl:plainCells v.cells.toList=true)(hle:o+n≤cs.length)
 (hp:vcL P r post S (M.upd b (.row (wr cs o v.cells.toList)))):vcL P (⟨d,none,.store n x y⟩::r) post S M:=
 ⟨v,hy,hn,hpl,.inr ⟨b,o,cs,hx,hb,hle,hp⟩⟩
theorem wl_gy{s:Nat}{w:Bool}{k:K}{b:Bool}(hs:S s=.v (.bool b))(hb:b=w)(hp:vcL P (⟨d,none,k⟩::r) post S M):vcL P (⟨d,some (s,w),k⟩::r) post S M:=by
 show vcO P _ _ S M
 unfold vcO
 simp only[hs]
 exact⟨fun _=>hp,fun h=>absurd hb h⟩
theorem wl_gn{s:Nat}{w:Bool}{k:K}{b:Bool}(hs:S s=.v (.bool b))(hb:b= !w)(hp:vcL P r post (put S d (.v undef)) M):vcL P (⟨d,some (s,w),k⟩::r) post S M:=by
 show vcO P _ _ S M
 unfold vcO
 simp only[hs]
 refine⟨fun h=>?_,fun _=>hp⟩
 subst h;cases b<;>cases hb
theorem wl_gu{s:Nat}{w:Bool}{k:K}(hs:S s=.v undef)(hp:vcL P r post (put S d (.v undef)) M):vcL P (⟨d,some (s,w),k⟩::r) post S M:=by
 show vcO P _ _ S M
 unfold vcO
 simp only[hs]
 exact hp
theorem upF_self{S:St}{s:Nat}{x:SV}(h:S s=x):upF S s x=S:=by
 funext t
 rw[upF_eq]
 by_cases e:t=s
 ·rw[if_pos e,e,h]
 ·rw[if_neg e]
theorem wl_gs{s:Nat}{w:Bool}{k:K}{b:Bool}(hs:S s=.v (.bool b))(h1:b=true→vcL P (⟨d,some (s,w),k⟩::r) post (upF S s (.v (.bool true))) M)(h2:b=false→vcL P (⟨d,some (s,w),k⟩::r) post (upF S s (.v (.bool false))) M):vcL P (⟨d,some (s,w),k⟩::r) post S M:=by
 cases b
 ·have:=h2 rfl;rwa [upF_self hs]at this
 ·have:=h1 rfl;rwa [upF_self hs]at this
structure VL (P:Program) (l:List I) (post:St→Mem→Prop) (S:St) (M:Mem):Prop where
 out:vcL P l post S M
theorem vl_nil(h:post S M):VL P [] post S M:=
 ⟨wl_nil h⟩
theorem vl_pure{k:K}{sv:SV}(h:pe S k=some sv)(hp:VL P r post (put S d sv) M):VL P (⟨d,none,k⟩::r) post S M:=
 ⟨wl_pure h hp.out⟩
theorem vl_add{x y:Operand}{a b:Int}(hx:ev S x=some (.int .i64 a))(hy:ev S y=some (.int .i64 b))(hb: -9223372036854775808≤a+b∧a+b≤9223372036854775807)
 (hp:VL P r post (put S d (.v (.int .i64 (a+b)))) M):VL P (⟨d,none,.bin .add x y⟩::r) post S M:=
 ⟨wl_add hx hy hb hp.out⟩
theorem vl_sub{x y:Operand}{a b:Int}(hx:ev S x=some (.int .i64 a))(hy:ev S y=some (.int .i64 b))(hb: -9223372036854775808≤a-b∧a-b≤9223372036854775807)
 (hp:VL P r post (put S d (.v (.int .i64 (a-b)))) M):VL P (⟨d,none,.bin .sub x y⟩::r) post S M:=
 ⟨wl_sub hx hy hb hp.out⟩
theorem vl_mul{x y:Operand}{a b:Int}(hx:ev S x=some (.int .i64 a))(hy:ev S y=some (.int .i64 b))(hb: -9223372036854775808≤a*b∧a*b≤9223372036854775807)
 (hp:VL P r post (put S d (.v (.int .i64 (a*b)))) M):VL P (⟨d,none,.bin .mul x y⟩::r) post S M:=
 ⟨wl_mul hx hy hb hp.out⟩
theorem vl_idx{x y:Operand}{size b o len cap:Nat}{k:IntKind}{i:Int}(hx:ev S x=some (.slice (some ⟨b,o,none⟩) len cap))(hy:ev S y=some (.int k i))(hb:0≤i∧i<len)
 (hp:VL P r post (put S d (.v (.pointer (some ⟨b,o+i.toNat*size,none⟩)))) M):VL P (⟨d,none,.iaddr size x y⟩::r) post S M:=
 ⟨wl_idx hx hy hb hp.out⟩
theorem vl_ld{n:Nat}{x:Operand}{b o:Nat}{v:Value}(hx:lc S x=some (.mm b o))(hv:cell M b o=some v)(hp:VL P r post (put S d (.v v)) M):VL P (⟨d,none,.load true n x⟩::r) post S M:=
 ⟨wl_ld hx hv hp.out⟩
theorem vl_lds{n:Nat}{x:Operand}{b o:Nat}{vs:List Value}(hx:lc S x=some (.mm b o))(hv:cells M b o n=some vs)(hp:VL P r post (put S d (.v (.agg vs.toArray))) M):VL P (⟨d,none,.load false n x⟩::r) post S M:=
 ⟨wl_lds hx hv hp.out⟩
theorem vl_alloc{z:List Value}(hp:VL P r post (putB S d (.box z)) M):VL P (⟨d,none,.alloc true z⟩::r) post S M:=
 ⟨wl_alloc hp.out⟩
theorem vl_box{x:Operand}{v:Value}{cs:List Value}(hx:ev S x=some v)(hc:v.cells.toList=cs)(hp:VL P r post (putB S d (.box cs)) M):VL P (⟨d,none,.box true x⟩::r) post S M:=
 ⟨wl_box hx hc hp.out⟩
theorem vl_bsl{len size:Nat}{z cs:List Value}{ps:List (Nat×Nat×Operand)}(hf:fillP S z ps=some cs)(hp:VL P r post (putB S d (.bsl cs len)) M):VL P (⟨d,none,.bslice true len size z ps⟩::r) post S M:=
 ⟨wl_bsl hf hp.out⟩
theorem vl_q{g:FuncId}{xs:List Operand}{args:List Value}{v:Value}(hx:evs S xs=some args)(hq:Qt P g args M v)(hp:VL P r post (put S d (.v v)) M):VL P (⟨d,none,.qcall g xs⟩::r) post S M:=
 ⟨wl_q hx hq hp.out⟩
theorem vl_cq{g:FuncId}{xs:List Operand}{args:List Value}{v:Value}(hx:evs S xs=some args)(hq:Qt P g args M v)(hp:VL P r post (put S d (.v v)) M):VL P (⟨d,none,.call g xs⟩::r) post S M:=
 ⟨wl_cq hx hq hp.out⟩
theorem vl_c{g:FuncId}{xs:List Operand}{args:List Value}{q:Value→Mem→Prop}(hx:evs S xs=some args)(hq:Fn P g args M q)(hp:∀v M',q v M'→VL P r post (put S d (.v v)) M'):VL P (⟨d,none,.call g xs⟩::r) post S M:=
 ⟨wl_c hx hq (fun v M' hq=>(hp v M' hq).out)⟩
theorem vl_cv{g:FuncId}{x:Operand}{u c:Array Value}{xs:List Operand}{args:List Value}{q:Value→Mem→Prop}(hf:ev S x=some (.func (.func g) u c))(hok:fnOk P g=true)(hx:evs S xs=some args)(hq:Fn P g (u.toList++args++c.toList) M q)(hp:∀v M',q v M'→VL P r post (put S d (.v v)) M'):
 VL P (⟨d,none,.callv x xs⟩::r) post S M:=
 ⟨wl_cv hf hok hx hq (fun v M' hq=>(hp v M' hq).out)⟩
theorem vl_stb{n:Nat}{x y:Operand}{s o:Nat}{cs cs':List Value}{v:Value}(hx:lc S x=some (.bx s o))(hb:S s=.box cs)(hy:ev S y=some v)(hn:v.cells.size=n)(hpl:plainCells v.cells.toList=true)(hle:o+n≤cs.length)
 (hw:wr cs o v.cells.toList=cs') (hp:VL P r post (upF S s (.box cs')) M):VL P (⟨d,none,.store n x y⟩::r) post S M:=
 ⟨wl_stb hx hb hy hn hpl hle hw hp.out⟩
theorem vl_stm{n:Nat}{x y:Operand}{b o:Nat}{cs:List Value}{v:Value}(hx:lc S x=some (.mm b o))(hb:M b=some (.row cs))(hy:ev S y=some v)(hn:v.cells.size=n)(hpl:plainCells v.cells.toList=true)(hle:o+n≤cs.length)
 (hp:VL P r post S (M.upd b (.row (wr cs o v.cells.toList)))):VL P (⟨d,none,.store n x y⟩::r) post S M:=
 ⟨wl_stm hx hb hy hn hpl hle hp.out⟩
theorem vl_gy{s:Nat}{w:Bool}{k:K}{b:Bool}(hs:S s=.v (.bool b))(hb:b=w)(hp:VL P (⟨d,none,k⟩::r) post S M):VL P (⟨d,some (s,w),k⟩::r) post S M:=
 ⟨wl_gy hs hb hp.out⟩
theorem vl_gn{s:Nat}{w:Bool}{k:K}{b:Bool}(hs:S s=.v (.bool b))(hb:b= !w)(hp:VL P r post (put S d (.v undef)) M):VL P (⟨d,some (s,w),k⟩::r) post S M:=
 ⟨wl_gn hs hb hp.out⟩
theorem vl_gu{s:Nat}{w:Bool}{k:K}(hs:S s=.v undef)(hp:VL P r post (put S d (.v undef)) M):VL P (⟨d,some (s,w),k⟩::r) post S M:=
 ⟨wl_gu hs hp.out⟩
theorem vl_gs{s:Nat}{w:Bool}{k:K}{b:Bool}(hs:S s=.v (.bool b))(h1:b=true→VL P (⟨d,some (s,w),k⟩::r) post (upF S s (.v (.bool true))) M)(h2:b=false→VL P (⟨d,some (s,w),k⟩::r) post (upF S s (.v (.bool false))) M):VL P (⟨d,some (s,w),k⟩::r) post S M:=
 ⟨wl_gs hs (fun h=>(h1 h).out) (fun h=>(h2 h).out)⟩
end
section
variable {E:Env}
theorem VC.regV{l:List I}{Q:X→St→Mem→Prop}{S:St}{M:Mem}(h:VL E.P l (Q .nrm) S M):VC E (.reg l) Q S M:=VC.reg h.out
theorem VC.dregV{n:Nat}{l:List I}{Q:X→St→Mem→Prop}{S:St}{M:Mem}(h:VL E.P l (Q .nrm) (fun t=>junkD (dsOf l n) (S t)) M):VC E (.dreg n l) Q S M:=VC.dreg h.out
theorem Fn.of'{f:FuncId}{fn:Func}{c:C}{rl:List RV}(hf:E.P.funcs[f]?=some fn)(ht:fn.body.bind (trC E)=some c)(hn:fn.ntmps=E.nt)(hr:fn.results.toList.mapM (trR E.P)=some rl)(hm:E.P.follows .mixedOrders=true)
 {args:List Value} {M:Mem} {post:Value→Mem→Prop} (hl:args.length≤E.nt) (h:VC E c (fnQ rl post) (initS args E.nt) M):Fn E.P f args M post:=by
 rw[Option.bind_eq_some_iff]at ht
 obtain⟨code,hb,ht⟩:=ht
 exact Fn.of hf hb hn ht hr hm hl h
theorem fnQ_r{rl:List RV}{S:St}{M M':Mem}{v:Value}{post:Value→Mem→Prop}(h:resV S M rl=some v)(hM:M'.le M)(hp:post v M'):fnQ rl post .ret S M:=⟨v,M',h,hM,hp⟩
structure SetK (cs:List Value) (n:Nat) (v:Value) (K:List Value→Prop):Prop where
 out:K (cs.set n v)
theorem sk_zero{x v:Value}{r:List Value}{K:List Value→Prop}(h:K (v::r)):SetK (x::r) 0 v K:=⟨h⟩
theorem sk_succ{x v:Value}{r:List Value}{n:Nat}{K:List Value→Prop}(h:SetK r n v (fun r'=>K (x::r'))):SetK (x::r) (n+1) v K:=⟨h.out⟩
structure WrK (cs:List Value) (o:Nat) (vs:List Value) (K:List Value→Prop):Prop where
 out:K (wr cs o vs)
theorem wk_nil{cs:List Value}{o:Nat}{K:List Value→Prop}(h:K cs):WrK cs o [] K:=⟨h⟩
theorem wk_cons{cs r:List Value}{x:Value}{o:Nat}{K:List Value→Prop}(h:SetK cs o x (fun c=>WrK c (o+1) r K)):WrK cs o (x::r) K:=⟨h.out.out⟩
theorem vl_stw{P:Program}{S:St}{M:Mem}{post:St→Mem→Prop}{r:List I}{d:Option Nat}{n:Nat}{x y:Operand}{s o:Nat}{cs:List Value}{v:Value}(hx:lc S x=some (.bx s o))(hb:S s=.box cs)(hy:ev S y=some v)(hn:v.cells.size=n)(hpl:plainCells v.cells.toList=true)(hle:o+n≤cs.length)
 (hw:WrK cs o v.cells.toList (fun cs'=>VL P r post (upF S s (.box cs')) M)):VL P (⟨d,none,.store n x y⟩::r) post S M:=
 vl_stb hx hb hy hn hpl hle rfl hw.out
theorem seqQ_n{K:St→Mem→Prop}{Q:X→St→Mem→Prop}{S:St}{M:Mem}(h:K S M):seqQ K Q .nrm S M:=h
theorem seqQ_r{K:St→Mem→Prop}{Q:X→St→Mem→Prop}{S:St}{M:Mem}(h:Q .ret S M):seqQ K Q .ret S M:=h
theorem blkQ_r{Q:X→St→Mem→Prop}{S:St}{M:Mem}{id:Nat}(h:Q .ret S M):blkQ id Q .ret S M:=h
theorem q_end{v r:Value}{M:Mem}(h:v=r):v=r∧M=M:=⟨h,rfl⟩
end
structure Word where
 kind:Int
 num:Int
 at_:Int
structure Pair where
 key:Word
 val:Word
structure Cell where
 state:Int
 kind:Int
 weak:Int
 last:Int
 born:Int
 color:Int
 to:Int
 pairs:List Pair
structure Heap where
 room:Int
 used:Int
 born:Int
 regs:List Word
 cells:List Cell
 phase:Int
 hand:Int
 sub:Int
 gray:List Int
 per:Int
 start:Int
 rounds:Int
 forced:Int
structure Act where
 op:Int
 a:Int
 b:Int
 c:Int
 n:Int
def av(a:Act):List Value:=[.int .i64 a.op,.int .i64 a.a,.int .i64 a.b,.int .i64 a.c,.int .i64 a.n]
def wv(w:Word):List Value:=[.int .i64 w.kind,.int .i64 w.num,.int .i64 w.at_]
def pv(p:Pair):List Value:=[.int .i64 p.key.kind,.int .i64 p.key.num,.int .i64 p.key.at_,.int .i64 p.val.kind,.int .i64 p.val.num,.int .i64 p.val.at_]
def cv(c:Cell)(sa:Option Addr)(cap:Nat):List Value:=[.int .i64 c.state,.int .i64 c.kind,.int .i64 c.weak,.int .i64 c.last,.int .i64 c.born,.int .i64 c.color,.int .i64 c.to,.slice sa c.pairs.length cap]
def hv(H:Heap)(rs cs gs:Value):List Value:=[.int .i64 H.room,.int .i64 H.used,.int .i64 H.born,rs,cs,.int .i64 H.phase,.int .i64 H.hand,.int .i64 H.sub,gs,.int .i64 H.per,.int .i64 H.start,.int .i64 H.rounds,.int .i64 H.forced]
def iv(n:Int):List Value:=[.int .i64 n]
def bv(b:Bool):List Value:=[.bool b]
def Sl(M:Mem)(size:Nat){α:Type}(f:α→List Value)(v:Value)(xs:List α):Prop:=
 (∃c,v=.slice none 0 c∧c=0∧xs=[])∨
 ∃b o cap row,v=.slice (some ⟨b,o,none⟩) xs.length cap∧M b=some (.row row)∧xs.length≤cap∧xs.length≤140737488355328∧o+cap*size≤row.length∧(row.drop o).take (xs.length*size)=xs.flatMap f
theorem flat_get{α:Type}{f:α→List Value}{size:Nat}(hs:∀x,(f x).length=size):∀(xs:List α) (i:Nat) (x:α),xs[i]?=some x→((xs.flatMap f).drop (i*size)).take size=f x
 |[],i,x,h=>by simp at h
 |y::r,0,x,h=>by
  simp only[List.getElem?_cons_zero,Option.some.injEq]at h
  subst h
  simp only[Nat.zero_mul,List.drop_zero,List.flatMap_cons]
  rw[List.take_append_of_le_length (by rw[hs];exact Nat.le_refl _)]
  rw[←hs y,List.take_length]
 |y::r,i+1,x,h=>by
  simp only[List.getElem?_cons_succ]at h
  rw[List.flatMap_cons,Nat.succ_mul,Nat.add_comm,←List.drop_drop]
  have:(f y++List.flatMap f r).drop size=List.flatMap f r:=by rw[←hs y,List.drop_left]
  rw[this]
  exact flat_get hs r i x h
theorem flat_len{α:Type}{f:α→List Value}{size:Nat}(hs:∀x,(f x).length=size)(xs:List α):(xs.flatMap f).length=xs.length*size:=by
 induction xs with
 |nil=>simp
 |cons x r ih=>rw[List.flatMap_cons,List.length_append,hs,ih,List.length_cons,Nat.succ_mul,Nat.add_comm]
section
variable {M M':Mem} {α:Type} {f:α→List Value} {size:Nat} {v:Value} {xs:List α}
theorem Sl.len(h:Sl M size f v xs):∃a cap,v=.slice a xs.length cap:=by
 rcases h with⟨c,rfl,rfl,rfl⟩|⟨b,o,cap,row,rfl,_⟩
 ·exact⟨none,0,rfl⟩
 ·exact⟨_,cap,rfl⟩
theorem Sl.le(h:Sl M size f v xs)(l:M.le M'):Sl M' size f v xs:=by
 rcases h with h|⟨b,o,cap,row,h1,h2,h3⟩
 ·exact .inl h
 ·exact .inr ⟨b,o,cap,row,h1,l _ _ h2,h3⟩
theorem Sl.at(hs:∀x,(f x).length=size)(h:Sl M size f v xs){i:Int}(h0:0≤i)(h1:i<xs.length){x:α}(hx:xs[i.toNat]?=some x):
 ∃b o cap,v=.slice (some ⟨b,o,none⟩) xs.length cap∧cells M b (o+i.toNat*size) size=some (f x):=by
 rcases h with⟨c,rfl,rfl,rfl⟩|⟨b,o,cap,row,rfl,hM,hc,_,hr,he⟩
 ·simp at h1;omega
 ·refine⟨b,o,cap,rfl,?_⟩
  have hi:i.toNat<xs.length:=by omega
  have hmul:(i.toNat+1)*size≤cap*size:=Nat.mul_le_mul_right _ (by omega)
  rw[Nat.succ_mul]at hmul
  unfold cells
  rw[hM]
  simp only
  rw[if_pos (by omega)]
  congr 1
  rw[←flat_get hs xs i.toNat x hx,←he,←List.drop_drop,List.drop_take,List.take_take]
  congr 1
  have hmul2:(i.toNat+1)*size≤xs.length*size:=Nat.mul_le_mul_right _ (by omega)
  rw[Nat.succ_mul]at hmul2
  omega
end
theorem cells_cell{M:Mem}{b o n:Nat}{vs:List Value}(h:cells M b o n=some vs){j:Nat}{v:Value}(hj:vs[j]?=some v):cell M b (o+j)=some v:=by
 obtain⟨cs,hM,hle,rfl⟩:=cells_row h
 unfold cell
 rw[List.getElem?_take]at hj
 split at hj
 ·rw[List.getElem?_drop]at hj
  rcases hM with hM|⟨_,_,hM⟩<;>rw[hM]<;>exact hj
 ·cases hj
theorem row_cell{M:Mem}{b:Nat}{cs:List Value}(h:M b=some (.row cs))(j:Nat):cell M b j=cs[j]?:=by
 unfold cell;rw[h]
structure CS where
 c:Cell
 sa:Option Addr
 cap:Nat
def CS.s(x:CS):Value:=.slice x.sa x.c.pairs.length x.cap
def csv(x:CS):List Value:=cv x.c x.sa x.cap
structure RH (M:Mem) (a:Nat) (H:Heap):Prop where
 out:∃rs cs gs,∃(xs:List CS),M a=some (.row (hv H rs cs gs))∧Sl M 3 wv rs H.regs∧Sl M 8 csv cs xs∧xs.map (·.c)=H.cells∧Sl M 1 iv gs H.gray∧∀x,x∈xs→Sl M 6 pv x.s x.c.pairs
theorem RH.le{M M':Mem}{a:Nat}{H:Heap}(h:RH M a H)(l:M.le M'):RH M' a H:=by
 obtain⟨rs,cs,gs,xs,h1,h2,h3,h4,h5,h6⟩:=h.out
 exact⟨rs,cs,gs,xs,l _ _ h1,h2.le l,h3.le l,h4,h5.le l,fun x hx=>(h6 x hx).le l⟩
def Heap.getC(H:Heap)(i:Int):Cell:=H.cells.getD i.toNat ⟨0,0,0,0,0,0,0,[]⟩
theorem RH.cellAt{M:Mem}{a:Nat}{H:Heap}(h:RH M a H){i:Int}(h0:0≤i)(h1:i<H.cells.length):
 ∃rs gs b o cap sa sc,M a=some (.row (hv H rs (.slice (some ⟨b,o,none⟩) H.cells.length cap) gs))∧cells M b (o+i.toNat*8) 8=some (cv (H.getC i) sa sc)∧Sl M 6 pv (.slice sa (H.getC i).pairs.length sc) (H.getC i).pairs:=by
 obtain⟨rs,cs,gs,xs,g1,g2,g3,g4,g5,g6⟩:=h.out
 have hl:xs.length=H.cells.length:=by rw[←g4];simp
 have hi:i.toNat<xs.length:=by omega
 obtain⟨x,hx⟩:∃x,xs[i.toNat]?=some x:=⟨_,List.getElem?_eq_getElem hi⟩
 obtain⟨b,o,cap,rfl,hc⟩:=g3.at (f:=csv) (fun _=>rfl) h0 (by omega) hx
 have hxc:H.getC i=x.c:=by
  unfold Heap.getC
  rw[←g4,List.getD_eq_getElem?_getD,List.getElem?_map,hx];rfl
 rw[hl]at g1
 exact⟨rs,gs,b,o,cap,x.sa,x.cap,g1,by rw[hxc];exact hc,by rw[hxc];exact g6 x (List.mem_of_getElem? hx)⟩
def Off(M:Mem)(b:Nat)(M':Mem):Prop:=∀c,c≠b→M' c=M c
theorem Off.upd(M:Mem)(b:Nat)(k:Bk):Off M b (M.upd b k):=fun c h=>Mem.upd_ne _ _ h
theorem Off.le{M M':Mem}{b:Nat}(h:Off M b M')(hb:M b=none):M.le M':=fun c k e=>by
 rw[h c (fun e'=>by subst e';rw[hb]at e;cases e)];exact e
theorem Off.keep{M0 M M':Mem}{b:Nat}(h:Off M b M')(l:M0.le M)(hb:M0 b=none):M0.le M':=fun c k e=>by
 rw[h c (fun e'=>by subst e';rw[hb]at e;cases e)];exact l c k e
theorem Off.trans{A B C:Mem}{b:Nat}(h:Off A b B)(k:Off B b C):Off A b C:=fun c e=>(k c e).trans (h c e)
def own:Value→List Nat
 |.slice (some a) _ _=>[a.block]
 |_=>[]
theorem none_of_le{M0 M:Mem}(l:M0.le M){b:Nat}(h:M b=none):M0 b=none:=by
 cases e:M0 b with
 |none=>rfl
 |some k=>rw[l b k e]at h;cases h
section
variable {M M':Mem} {α:Type} {f:α→List Value} {size:Nat} {v:Value} {xs:List α}
theorem Sl.bound(h:Sl M size f v xs):xs.length≤140737488355328:=by
 rcases h with⟨c,rfl,rfl,rfl⟩|⟨b,o,cap,row,rfl,hM,hc,h2,hr,he⟩
 ·simp
 ·omega
theorem Sl.off(h:Sl M size f v xs){b:Nat}(o:Off M b M')(hb:b∉own v):Sl M' size f v xs:=by
 rcases h with h|⟨b',o',cap,row,rfl,hM,h3⟩
 ·exact .inl h
 ·refine .inr ⟨b',o',cap,row,rfl,?_,h3⟩
  rw[o b' (fun e=>hb (by simp[own,e]))];exact hM
theorem Sl.at2{sa:Option Addr}{n cap:Nat}(h:Sl M size f (.slice sa n cap) xs)(hs:∀x,(f x).length=size){i:Nat}{x:α}(hx:xs[i]?=some x):
 ∃b o,sa=some ⟨b,o,none⟩∧cells M b (o+i*size) size=some (f x):=by
 have hi:=(List.getElem?_eq_some_iff.1 hx).1
 obtain⟨b,o,cap',e,hc⟩:=h.at hs (i:=(i:Int)) (by omega) (by omega) hx
 cases e
 exact⟨b,o,rfl,hc⟩
theorem Sl.nil:Sl M size f (.slice none 0 0) ([]:List α):=.inl ⟨0,rfl,rfl,rfl⟩
end
def SlR(M:Mem)(size:Nat){α:Type}(f:α→List Value)(v:Value)(xs:List α):Prop:=
 (∃a c,v=.slice a 0 c∧xs=[])∨
 ∃b o cap row,v=.slice (some ⟨b,o,none⟩) xs.length cap∧(M b=some (.row row)∨∃t fr,M b=some (.ro row t fr))∧xs.length≤9223372036854775807∧o+xs.length*size≤row.length∧(row.drop o).take (xs.length*size)=xs.flatMap f
section
variable {M M':Mem} {α:Type} {f:α→List Value} {size:Nat} {v:Value} {xs:List α}
theorem Sl.r(h:Sl M size f v xs):SlR M size f v xs:=by
 rcases h with⟨c,h1,h2,h3⟩|⟨b,o,cap,row,rfl,hM,hc,h2,hr,he⟩
 ·exact .inl ⟨_,_,h1,h3⟩
 ·exact .inr ⟨b,o,cap,row,rfl,.inl hM,by omega,by have:=Nat.mul_le_mul_right size hc;omega,he⟩
theorem SlR.le(h:SlR M size f v xs)(l:M.le M'):SlR M' size f v xs:=by
 rcases h with h|⟨b,o,cap,row,h1,h2,h3⟩
 ·exact .inl h
 ·exact .inr ⟨b,o,cap,row,h1,h2.imp (l _ _) (fun⟨t,fr,e⟩=>⟨t,fr,l _ _ e⟩),h3⟩
theorem SlR.len(h:SlR M size f v xs):∃a cap,v=.slice a xs.length cap:=by
 rcases h with⟨a,c,rfl,rfl⟩|⟨b,o,cap,row,rfl,_⟩
 ·exact⟨a,c,rfl⟩
 ·exact⟨_,cap,rfl⟩
theorem SlR.bound(h:SlR M size f v xs):xs.length≤9223372036854775807:=by
 rcases h with⟨a,c,rfl,rfl⟩|⟨b,o,cap,row,rfl,hM,h2,hr,he⟩
 ·simp
 ·omega
theorem SlR.at2{sa:Option Addr}{n cap:Nat}(h:SlR M size f (.slice sa n cap) xs)(hs:∀x,(f x).length=size){i:Nat}{x:α}(hx:xs[i]?=some x):
 ∃b o,sa=some ⟨b,o,none⟩∧cells M b (o+i*size) size=some (f x):=by
 have hi:=(List.getElem?_eq_some_iff.1 hx).1
 rcases h with⟨a,c,e,rfl⟩|⟨b,o,cap,row,e,hM,h2,hr,he⟩
 ·simp at hi
 ·cases e
  refine⟨b,o,rfl,?_⟩
  have hmul2:(i+1)*size≤xs.length*size:=Nat.mul_le_mul_right _ (by omega)
  rw[Nat.succ_mul]at hmul2
  have key:(if o+i*size+size≤row.length then some ((row.drop (o+i*size)).take size)else none)=some (f x):=by
   rw[if_pos (by omega)]
   congr 1
   rw[←flat_get hs xs i x hx,←he,←List.drop_drop,List.drop_take,List.take_take]
   congr 1
   omega
  unfold cells
  rcases hM with hM|⟨_,_,hM⟩<;>rw[hM]<;>exact key
end
theorem wr_append_left(vs:List Value):∀(cs ds:List Value) (o:Nat),o+vs.length≤cs.length→wr (cs++ds) o vs=wr cs o vs++ds:=by
 induction vs with
 |nil=>intros;rfl
 |cons x r ih=>
  intro cs ds o h
  simp only[List.length_cons]at h
  simp only[wr]
  rw[List.set_append_left _ _ (by omega),ih _ _ _ (by simp;omega)]
theorem wr_append_right(vs:List Value):∀(cs ds:List Value) (o:Nat),cs.length≤o→wr (cs++ds) o vs=cs++wr ds (o-cs.length) vs:=by
 induction vs with
 |nil=>intros;rfl
 |cons x r ih=>
  intro cs ds o h
  simp only[wr]
  rw[List.set_append_right _ _ h,ih _ _ _ (by omega),show o+1-cs.length=o-cs.length+1 by omega]
theorem wr_all(vs:List Value):∀(cs:List Value),cs.length=vs.length→wr cs 0 vs=vs:=by
 intro cs h
 apply List.ext_getElem?
 intro j
 rw[wr_get _ _ _ _ (by omega)]
 by_cases hj:j<vs.length
 ·rw[if_pos (by omega)];simp
 ·rw[if_neg (by omega),List.getElem?_eq_none (by omega),List.getElem?_eq_none (by omega)]
theorem flat_wr{α:Type}{f:α→List Value}{size:Nat}(hs:∀x,(f x).length=size){j:Nat}{vs:List Value}(hj:j+vs.length≤size):
 ∀(xs:List α) (i:Nat) (x x':α),xs[i]?=some x→f x'=wr (f x) j vs→wr (xs.flatMap f) (i*size+j) vs=(xs.set i x').flatMap f
 |[],i,x,x',h,_=>by simp at h
 |y::r,0,x,x',h,hx=>by
  simp only[List.getElem?_cons_zero,Option.some.injEq]at h
  subst h
  simp only[Nat.zero_mul,Nat.zero_add,List.flatMap_cons,List.set_cons_zero]
  rw[wr_append_left _ _ _ _ (by rw[hs];exact hj),hx]
 |y::r,i+1,x,x',h,hx=>by
  simp only[List.getElem?_cons_succ]at h
  simp only[List.flatMap_cons,List.set_cons_succ]
  rw[wr_append_right _ _ _ _ (by rw[hs,Nat.succ_mul];omega),hs,←flat_wr hs hj r i x x' h hx]
  congr 2
  rw[Nat.succ_mul];omega
theorem wr_drop(vs:List Value):∀(cs:List Value) (o d:Nat),(wr cs (o+d) vs).drop o=wr (cs.drop o) d vs:=by
 induction vs with
 |nil=>intros;rfl
 |cons x r ih=>
  intro cs o d
  simp only[wr]
  rw[show o+d+1=o+(d+1) by omega,ih,List.drop_set,if_neg (by omega),show o+d-o=d by omega]
theorem wr_take(vs:List Value):∀(cs:List Value) (o n:Nat),o+vs.length≤n→(wr cs o vs).take n=wr (cs.take n) o vs:=by
 induction vs with
 |nil=>intros;rfl
 |cons x r ih=>
  intro cs o n h
  simp only[List.length_cons]at h
  simp only[wr]
  rw[ih _ _ _ (by omega),List.take_set]
section
variable {M M':Mem} {α:Type} {f:α→List Value} {size:Nat} {v:Value} {xs:List α}
theorem Sl.wr{b o n cap:Nat}(h:Sl M size f (.slice (some ⟨b,o,none⟩) n cap) xs)(hs:∀x,(f x).length=size){i j:Nat}{x x':α}{vs:List Value}(hx:xs[i]?=some x)(hj:j+vs.length≤size)(hf:f x'=E.wr (f x) j vs):
 ∃row,M b=some (.row row)∧o+i*size+j+vs.length≤row.length∧Sl (M.upd b (.row (E.wr row (o+i*size+j) vs))) size f (.slice (some ⟨b,o,none⟩) n cap) (xs.set i x'):=by
 rcases h with⟨c,e,_⟩|⟨b',o',cap',row,e,hM,hc,h2,hr,he⟩
 ·cases e
 ·cases e
  have hi:=(List.getElem?_eq_some_iff.1 hx).1
  have hm:(i+1)*size≤xs.length*size:=Nat.mul_le_mul_right _ (by omega)
  have hm2:xs.length*size≤cap*size:=Nat.mul_le_mul_right _ hc
  rw[Nat.succ_mul]at hm
  refine⟨row,hM,by omega,.inr ⟨b,o,cap,_,by simp,Mem.upd_same _ _ _,by simp;exact hc,by simp;exact h2,by rw[wr_length];exact hr,?_⟩⟩
  rw[Nat.add_assoc,wr_drop,List.length_set,wr_take _ _ _ _ (by omega),he,flat_wr hs hj xs i x x' hx hf]
end
section
variable {P:Program} {S:St} {M:Mem} {post:St→Mem→Prop} {r:List I} {d:Option Nat}
theorem vl_sts{α:Type}{f:α→List Value}{size:Nat}{xs:List α}{n cap:Nat}{w:Nat}{x y:Operand}{b o i j:Nat}{v:Value}{e:α}(e':α)
 (h:Sl M size f (.slice (some ⟨b,o,none⟩) n cap) xs) (hs:∀x,(f x).length=size) (hi:xs[i]?=some e)
 (hx:lc S x=some (.mm b (o+i*size+j))) (hy:ev S y=some v) (hn:v.cells.size=w) (hpl:plainCells v.cells.toList=true) (hj:j+v.cells.toList.length≤size) (hf:f e'=wr (f e) j v.cells.toList)
 (hp:∀M',Off M b M'→Sl M' size f (.slice (some ⟨b,o,none⟩) n cap) (xs.set i e')→VL P r post S M'):VL P (⟨d,none,.store w x y⟩::r) post S M:=by
 obtain⟨row,hM,hle,hsl⟩:=h.wr hs hi hj hf
 refine vl_stm hx hM hy hn hpl ?_ (hp _ (Off.upd _ _ _) hsl)
 simp only[Array.length_toList]at hle;omega
theorem zrep_flat{α:Type}{f:α→List Value}(z:α)(n:Nat):zrep (f z) n=(List.replicate n z).flatMap f:=by
 unfold zrep
 induction n with
 |zero=>rfl
 |succ n ih=>simp only[List.replicate_succ,List.flatten_cons,List.flatMap_cons,ih]
theorem vl_mks{α:Type}{f:α→List Value}{size bytes:Nat}{z:List Value}(e:α){l c:Operand}{n m:Nat}(hs:∀x,(f x).length=size)(hz:f e=z)
 (hl:ev S l=some (.int .i64 n)) (hc:ev S c=some (.int .i64 m)) (hnm:n≤m) (hb:m*bytes≤140737488355328) (hb2:m≤140737488355328)
 (hp:∀b M',M b=none→Off M b M'→Sl M' size f (.slice (some ⟨b,0,none⟩) n m) (List.replicate n e)→VL P r post (put S d (.v (.slice (some ⟨b,0,none⟩) n m))) M'):VL P (⟨d,none,.mkslice size bytes z l c⟩::r) post S M:=by
 refine⟨⟨n,m,hl,hc,hnm,hb,hb2,fun b hMb=>(hp b _ hMb (Off.upd _ _ _) ?_).out⟩⟩
 refine .inr ⟨b,0,m,_,by simp,Mem.upd_same _ _ _,by simpa using hnm,by simp;omega,?_,?_⟩
 ·subst hz;rw[zrep_flat,flat_len hs];simp
 ·subst hz
  rw[zrep_flat,List.drop_zero,List.length_replicate]
  have:(List.replicate m e).flatMap f=(List.replicate n e).flatMap f++(List.replicate (m-n) e).flatMap f:=by
   rw[←List.flatMap_append,List.replicate_append_replicate,show n+(m-n)=m by omega]
  rw[this,List.take_left' (by rw[flat_len hs];simp)]
def AppE(M:Mem)(v:Value)(v':Value)(M':Mem):Prop:=(M'=M∧own v'=own v)∨∃b,Off M b M'∧own v'=[b]∧(own v=[b]∨M b=none)
theorem appM_sl{α:Type}{f:α→List Value}{size bytes:Nat}{v:Value}{xs zs:List α}{post:Value→Mem→Prop}(hs:∀x,(f x).length=size)(h:Sl M size f v xs)(hs0:0<size)(hby:0<bytes)
 (hb:(xs.length+zs.length)*bytes≤140737488355328)
 (hp:∀v' M',AppE M v v' M'→Sl M' size f v' (xs++zs)→post v' M'):appM M size bytes v (zs.flatMap f) zs.length post:=by
 have hlz:(zs.flatMap f).length=zs.length*size:=flat_len hs zs
 have hlx:(xs.flatMap f).length=xs.length*size:=flat_len hs xs
 have hle:xs.length+zs.length≤140737488355328:=Nat.le_trans (Nat.le_mul_of_pos_right _ hby) hb
 rcases h with⟨c,rfl,rfl,rfl⟩|⟨b,o,cap,row,rfl,hM,hc,h2,hr,he⟩
 ·refine⟨rfl,rfl,by simpa using hb,?_⟩
  by_cases hz:zs=[]
  ·subst hz
   exact .inl ⟨rfl,hp _ _ (.inl ⟨rfl,rfl⟩) (.inl ⟨0,rfl,rfl,rfl⟩)⟩
  ·refine .inr ⟨List.length_pos_iff.2 hz,fun b cap' ys hMb hk hy=>hp _ _ (.inr ⟨b,Off.upd _ _ _,rfl,.inr hMb⟩) (.inr ⟨b,0,cap',_,by simp,Mem.upd_same _ _ _,by simpa using hk,by simp at hle⊢;exact hle,?_,?_⟩)⟩
   ·have:cap'*size=zs.length*size+(cap'-zs.length)*size:=by rw[←Nat.add_mul];congr 1;omega
    rw[List.length_append,hlz,hy,this];omega
   ·rw[List.drop_zero,List.nil_append,←hlz,List.take_left]
 ·refine⟨row,hM,hb,?_⟩
  have hcs:xs.length*size≤cap*size:=Nat.mul_le_mul_right _ hc
  by_cases hfit:xs.length+zs.length≤cap
  ·have hm:(xs.length+zs.length)*size≤cap*size:=Nat.mul_le_mul_right _ hfit
   have hm2:=hm
   rw[Nat.add_mul]at hm2
   refine .inl ⟨hfit,by omega,hp _ _ (.inr ⟨b,Off.upd _ _ _,rfl,.inl rfl⟩) (.inr ⟨b,o,cap,_,by simp,Mem.upd_same _ _ _,by simpa using hfit,by simpa using hle,by rw[wr_length];exact hr,?_⟩)⟩
   rw[wr_drop,List.flatMap_append,List.length_append,Nat.add_mul]
   have hdl:(row.drop o).length=row.length-o:=List.length_drop
   apply List.ext_getElem?
   intro j
   rw[List.getElem?_take,wr_get _ _ _ _ (by rw[hlz,hdl];omega),List.getElem?_append,hlx,hlz]
   have hx:∀j,j<xs.length*size→(row.drop o)[j]?=(xs.flatMap f)[j]?:=fun j hj=>by rw[←he,List.getElem?_take,if_pos hj]
   by_cases h1:j<xs.length*size
   ·rw[if_pos (by omega),if_neg (by omega),if_pos h1,hx j h1]
   ·by_cases h3:j<xs.length*size+zs.length*size
    ·rw[if_pos h3,if_pos (by omega),if_neg h1]
    ·rw[if_neg h3,if_neg h1,List.getElem?_eq_none (by omega)]
  ·refine .inr ⟨by omega,by omega,fun b' cap' ys hMb hk hy=>hp _ _ (.inr ⟨b',Off.upd _ _ _,rfl,.inr hMb⟩) (.inr ⟨b',0,cap',_,by simp,Mem.upd_same _ _ _,by simpa using hk,by simpa using hle,?_,?_⟩)⟩
   ·have:cap'*size=(xs.length+zs.length)*size+(cap'-(xs.length+zs.length))*size:=by rw[←Nat.add_mul];congr 1;omega
    rw[he,List.length_append,List.length_append,hlx,hlz,hy,this,Nat.add_mul];omega
   ·rw[he,List.drop_zero,List.flatMap_append,List.length_append,Nat.add_mul]
    rw[List.take_left' (by rw[List.length_append,hlx,hlz])]
theorem srcC_sl{α:Type}{f:α→List Value}{size:Nat}{zs:List α}{t:Nat}{v:Value}(hs:∀x,(f x).length=size)(h:Sl M size f v zs)(hv:S t=.v v):srcC S M size (.tmp t)=some (zs.flatMap f,zs.length):=by
 unfold srcC
 simp only[hv]
 rcases h with⟨c,rfl,rfl,rfl⟩|⟨b,o,cap,row,rfl,hM,hc,h2,hr,he⟩
 ·rfl
 ·have hcs:zs.length*size≤cap*size:=Nat.mul_le_mul_right _ hc
  unfold srcC.srcV
  simp only[hM]
  rw[if_pos (by omega),he]
end
end Go.Proofs.YtpleoapljeffiaaGreatDoor.E
namespace Go.Proofs.YtpleoapljeffiaaGreatDoor.E
open Go Go.RowKit
def memOf(W:World):Mem:=fun b=>
 match W.heap[b]? with
 |some (.cells cs t fr)=>some (.ro cs.toList t fr)
 |_=>none
theorem memOf_sat(W:World):Sat W (memOf W):=by
 intro b k h
 unfold memOf at h
 split at h
 ·rename_i cs t fr e
  cases h
  show W.heap[b]?=_
  rw[e]
 ·cases h
theorem memOf_cells{W:World}{b:Nat}{cs:Array Value}{t:TypeId}{fr:Nat×Nat}(h:W.heap[b]?=some (.cells cs t fr)):memOf W b=some (.ro cs.toList t fr):=by
 unfold memOf;rw[h]
theorem row_of{P:Program}{f:FuncId}{args:List Value}{W:World}{r:Value}(h:Fn P f args (memOf W) (fun v M'=>v=r∧(memOf W).le M')):
 Calls P f args.toArray W (fun e W'=>e=.returned r∧Below W.heap.size W W'):=by
 refine(h.out W (memOf_sat W)).mono ?_
 rintro e W' ⟨v,M',rfl,⟨rfl,hle⟩,hs,st⟩
 refine⟨rfl,⟨st.os,st.tape,st.output,st.size,fun k hk=>?_⟩⟩
 cases e:memOf W k with
 |none=>exact st.keep k hk e
 |some x=>
  have h2:=hs _ _ (hle _ _ e)
  unfold memOf at e
  split at e
  ·rename_i cs t fr e'
   cases e
   rw[e']
   exact h2
  ·cases e
section
variable {H:Type} {enc:TypeId×Value→H} {P:Program} {W:World} {spare:Nat→Bool} {held:Bool}
def fsOf(P:Program)(t:TypeId):Array Field:=
 match P.underlying t with
 |some (.struct fs)=>fs
 |_=> #[]
theorem open_struct{t:TypeId}{fuel:Nat}{cs:List Value}{x:DataW H×List MemPlace}{l:List (TypeId×Nat)}(ht:P.underlying t=some (.struct (fsOf P t)))(hl:(fsOf P t).toList.map (fun f=>(f.type,f.offset))=l)
 (h:DataW.trod enc P W 0 spare held fuel t cs=some x):cs.length=P.cellsOf t∧∃n,∀(i:Nat) u o,l[i]?=some (u,o)→∃y,DataW.trod enc P W 0 spare held n u ((cs.drop o).take (P.cellsOf u))=some y:=by
 obtain⟨xs,n,_,_,hlen,hx,hf⟩:=DataW.trod_struct ht h
 refine⟨hlen,n,fun i u o hi=>?_⟩
 subst hl
 rw[List.getElem?_map]at hi
 cases hg:(fsOf P t).toList[i]? with
 |none=>rw[hg]at hi;cases hi
 |some f=>
  rw[hg]at hi
  simp only[Option.map_some,Option.some.injEq,Prod.mk.injEq]at hi
  obtain⟨rfl,rfl⟩:=hi
  have hg':(fsOf P t)[i]?=some f:=by rw[←Array.getElem?_toList];exact hg
  have hi:=(Array.getElem?_eq_some_iff.1 hg').1
  refine⟨xs[i]'(by omega),?_⟩
  rw[hf i f hg',List.getElem?_eq_getElem (by omega)]
theorem cells_heap{a:Addr}{n:Nat}{cs:List Value}(h:W.cells? 0 a n=some cs)(hn:0<n):∃c t fr,a.spot=none∧W.heap[a.block]?=some (.cells c t fr)∧cs.length=n∧∀j,j<n→c[a.off+j]?=cs[j]?∧a.off+j<c.size:=by
 obtain⟨_,hlen,hc⟩:=World.cells?_some h
 have key:∀j,j<n→W.cell? (a.add j)=cs[j]?:=fun j hj=>hc j hj
 have h0:=key 0 hn
 have e0:a.add 0=a:=by unfold Addr.add;simp
 rw[e0,List.getElem?_eq_getElem (by omega)]at h0
 unfold World.cell? at h0
 split at h0
 ·rename_i c t fr hh
  split at h0
  ·cases h0
  ·rename_i hs
   have hsn:a.spot=none:=by cases e:a.spot with
    |none=>rfl
    |some _=>rw[e]at hs;simp at hs
   refine⟨c,t,fr,hsn,hh,hlen,fun j hj=>?_⟩
   have hk:=key j hj
   have ea:a.add j=⟨a.block,a.off+j,none⟩:=by
    cases a with
    |mk b o s=>simp only at hsn;subst hsn;exact add_none b o j
   rw[ea]at hk
   simp only[World.cell?,hh]at hk
   simp at hk
   refine⟨hk,?_⟩
   rw[List.getElem?_eq_getElem (by omega)]at hk
   exact(Array.getElem?_eq_some_iff.1 hk).1
 ·cases h0
theorem flat_of{α:Type}{f:α→List Value}{size:Nat}(hs:∀x,(f x).length=size)(row:List Value)(o:Nat)(X:Nat→α):∀n,(∀i,i<n→∀j,j<size→row[o+i*size+j]?=(f (X i))[j]?)→
 (row.drop o).take (n*size)=((List.range n).map X).flatMap f
 |0,_=>by simp
 |n+1,h=>by
  have ih:=flat_of hs row o X n (fun i hi j hj=>h i (by omega) j hj)
  rw[List.range_succ,List.map_append,List.flatMap_append,←ih,Nat.succ_mul,List.take_add]
  congr 1
  simp only[List.map_cons,List.map_nil,List.flatMap_cons,List.flatMap_nil,List.append_nil]
  apply List.ext_getElem?
  intro j
  rw[List.getElem?_take]
  split
  ·rename_i hj
   rw[List.drop_drop,List.getElem?_drop]
   exact h n (by omega) j hj
  ·rename_i hj
   rw[List.getElem?_eq_none (by rw[hs];omega)]
theorem open_sl{α:Type}[Inhabited α]{f:α→List Value}{size:Nat}{Q:α→Prop}{t e:TypeId}{fuel:Nat}{cs:List Value}{x:DataW H×List MemPlace}(hs:∀x,(f x).length=size)(hs0:0<size)
 (ht:P.underlying t=some (.slice e)) (hc:P.cellsOf e=size) (he:∀n cs y,DataW.trod enc P W 0 spare held n e cs=some y→∃x,cs=f x∧Q x)
 (h:DataW.trod enc P W 0 spare held fuel t cs=some x):∃v xs,cs=[v]∧SlR (memOf W) size f v xs∧∀x,x∈xs→Q x:=by
 rcases Deep.open_slice ht h with⟨rfl,_⟩|⟨a,len,cap,m,n,D,Pl,rfl,_,hlc,hcm,hm,_,hel⟩
 ·exact⟨_,[],rfl,.inl ⟨none,0,rfl,rfl⟩,by simp⟩
 ·have hlm:len≤m:=by rw[hm];split<;>omega
  obtain⟨X,hX⟩:=Deep.choose_lt (n:=len) (p:=fun i y=>W.cells? 0 (a.add (i*size)) size=some (f y)∧Q y) (fun i hi=>by
   obtain⟨cs',h1,h2⟩:=hel i (by omega)
   obtain⟨y,rfl,hq⟩:=he _ _ _ h2
   rw[hc]at h1
   exact⟨y,h1,hq⟩)
  refine⟨_,(List.range len).map X,rfl,?_,?_⟩
  ·by_cases h0:len=0
   ·subst h0;exact .inl ⟨_,_,rfl,rfl⟩
   ·obtain⟨c,u,fr,hsp,hh,_,_⟩:=cells_heap (hX 0 (by omega)).1 hs0
    have e0:a.add (0*size)=a:=by unfold Addr.add;simp
    rw[e0]at hsp hh
    have ea:a=⟨a.block,a.off,none⟩:=by cases a;simp only at hsp;subst hsp;rfl
    have hcell:∀i,i<len→∀j,j<size→c.toList[a.off+i*size+j]?=(f (X i))[j]?∧a.off+i*size+j<c.size:=by
     intro i hi j hj
     obtain⟨c',u',fr',hsp',hh',_,hj'⟩:=cells_heap (hX i hi).1 hs0
     have e1:a.add (i*size)=⟨a.block,a.off+i*size,none⟩:=by rw[ea];exact add_none _ _ _
     rw[e1]at hh' hj'
     rw[hh]at hh'
     cases hh'
     obtain⟨k1,k2⟩:=hj' j hj
     exact⟨by rw[Array.getElem?_toList];exact k1,k2⟩
    have hlast:=(hcell (len-1) (by omega) (size-1) (by omega)).2
    have hml:(len-1)*size+size=len*size:=by rw[←Nat.succ_mul];congr 1;omega
    refine .inr ⟨a.block,a.off,cap,c.toList,?_,.inr ⟨u,fr,memOf_cells hh⟩,?_,?_,?_⟩
    ·rw[←ea];simp
    ·simp;simp[maxLen]at hcm;omega
    ·simp only[List.length_map,List.length_range,Array.length_toList];omega
    ·simp only[List.length_map,List.length_range]
     exact flat_of hs _ _ X len (fun i hi j hj=>(hcell i hi j hj).1)
  ·intro y hy
   obtain⟨i,hi,rfl⟩:=List.mem_map.1 hy
   exact(hX i (by simpa using hi)).2
theorem take_one{cs:List Value}{o:Nat}{x:Value}(h:(cs.drop o).take 1=[x]):cs[o]?=some x:=by
 have:=congrArg (·[0]?) h
 simpa [List.getElem?_take,List.getElem?_drop]using this
end
end Go.Proofs.YtpleoapljeffiaaGreatDoor.E
set_option maxRecDepth 100000
namespace Go.Proofs.YtpleoapljeffiaaGreatDoor.E
open Go Go.ChangeShapes Go.WideShapes Go.ChangeAt Go.RowKit
theorem und_int:Tryz.prog.underlying 3=some (.int .i64):=by kernel_rfl
theorem und_int64:Tryz.prog.underlying 2=some (.int .i64):=by kernel_rfl
theorem cof_int:Tryz.prog.cellsOf 3=1:=by kernel_rfl
theorem cof_int64:Tryz.prog.cellsOf 2=1:=by kernel_rfl
theorem und_bool:Tryz.prog.underlying 4=some .bool:=by kernel_rfl
theorem ownknob:ownKnob Tryz.prog.godebug=none:=by kernel_rfl
theorem laid:laidOutB Tryz.prog=true:=by kernel_rfl
section
variable {H:Type} {enc:TypeId×Value→H} {W:World} {spare:Nat→Bool} {held:Bool}
theorem open_i{n:Nat}{cs:List Value}{o:Nat}{y:DataW H×List MemPlace}(h:DataW.trod enc Tryz.prog W 0 spare held n 3 ((cs.drop o).take (Tryz.prog.cellsOf 3))=some y):∃k,cs[o]?=some (.int .i64 k):=by
 obtain⟨k,e,_⟩:=DataW.trod_int und_int h
 rw[cof_int]at e
 exact⟨k,take_one e⟩
theorem open_i64{n:Nat}{cs:List Value}{o:Nat}{y:DataW H×List MemPlace}(h:DataW.trod enc Tryz.prog W 0 spare held n 2 ((cs.drop o).take (Tryz.prog.cellsOf 2))=some y):∃k,cs[o]?=some (.int .i64 k):=by
 obtain⟨k,e,_⟩:=DataW.trod_int und_int64 h
 rw[cof_int64]at e
 exact⟨k,take_one e⟩
end
end Go.Proofs.YtpleoapljeffiaaGreatDoor.E
namespace Go.Proofs.YtpleoapljeffiaaGreatDoor.E
open Go
theorem mixed:Tryz.prog.follows .mixedOrders=true:=Tryz.checked.mixed
noncomputable def e145:Env:=⟨Tryz.prog,[3],38,[(7,14)]⟩
abbrev z3(a0:Nat)(a1:Nat):I:=⟨some a0,none,.mov (.tmp a1)⟩
abbrev z4(a0:Nat)(a1:Nat)(a2:Nat):I:=⟨some a0,none,.faddr a1 (.tmp a2)⟩
abbrev z5(a0:Nat)(a1:Nat)(a2:Nat):I:=⟨some a0,none,.load true a1 (.tmp a2)⟩
abbrev z6(a0:Nat)(a1:Nat):I:=⟨some a0,none,.nilCheck (.tmp a1)⟩
abbrev z7(a0:Nat)(a1:Nat)(a2:Nat):I:=⟨none,none,.store a0 (.tmp a1) (.tmp a2)⟩
abbrev z8(a0:Nat)(a1:Nat)(a2:Nat)(a3:Nat):I:=⟨some a0,none,.iaddr a1 (.tmp a2) (.tmp a3)⟩
abbrev z9(a0:Nat)(a1:Nat)(a2:Nat):I:=⟨some a0,none,.load false a1 (.tmp a2)⟩
abbrev zA(a0:Nat)(a1:Nat)(a2:Int):I:=⟨some a0,none,.bin .eql (.tmp a1) (.const (.int .i64 a2))⟩
abbrev zC(a0:Nat)(a1:Int):I:=⟨some a0,none,.mov (.const (.int .i64 a1))⟩
abbrev zD(a0:Nat):I:=⟨some a0,none,.mov (.const (.bool false))⟩
abbrev zE(a0:Nat)(a1:Nat):I:=⟨some a0,none,.lenS (.tmp a1)⟩
abbrev zF(a0:Nat)(a1:Nat)(a2:Nat)(a3:Nat):I:=⟨some a0,some (a1,true),.load true a2 (.tmp a3)⟩
abbrev zI(a0:Nat)(a1:Nat)(a2:Nat)(a3:Nat):I:=⟨some a0,some (a1,true),.faddr a2 (.tmp a3)⟩
abbrev zJ(a0:Nat)(a1:Nat)(a2:Nat):I:=⟨some a0,some (a1,true),.mov (.tmp a2)⟩
abbrev zK(a0:Nat)(a1:Nat)(a2:Nat):I:=⟨some a0,none,.pick (.tmp a1) (.tmp a2) (.const (.bool false))⟩
abbrev zL(a0:Nat)(a1:Nat)(a2:Nat)(a3:Nat):I:=⟨some a0,none,.call a1 [.tmp a2,.tmp a3]⟩
abbrev zN(a0:Nat)(a1:Nat)(a2:Nat):I:=⟨some a0,none,.bin .lss (.tmp a1) (.tmp a2)⟩
abbrev zO(a0:Nat)(a1:Nat)(a2:Nat)(a3:Nat):I:=⟨some a0,some (a1,false),.faddr a2 (.tmp a3)⟩
abbrev zP(a0:Nat)(a1:Nat)(a2:Nat)(a3:Nat):I:=⟨some a0,some (a1,false),.load true a2 (.tmp a3)⟩
abbrev zQ(a0:Nat)(a1:Nat)(a2:Nat):I:=⟨some a0,some (a1,false),.mov (.tmp a2)⟩
abbrev zR(a0:Nat)(a1:Nat)(a2:Nat):I:=⟨some a0,none,.pick (.tmp a1) (.const (.bool true)) (.tmp a2)⟩
abbrev zT(a0:Nat)(a1:Nat):I:=⟨some a0,none,.box true (.tmp a1)⟩
abbrev zU(a0:Nat)(a1:Nat)(a2:Nat):I:=⟨some a0,some (a1,true),.nilCheck (.tmp a2)⟩
abbrev zX(a0:Nat)(a1:Int)(a2:Int)(a3:Int)(a4:Int)(a5:Int)(a6:Int)(a7:Int)(a8:Nat)(a9:Nat):I:=⟨some a0,none,.alloc true [.int .i64 a1,.int .i64 a2,.int .i64 a3,.int .i64 a4,.int .i64 a5,.int .i64 a6,.int .i64 a7,.slice none a8 a9]⟩
abbrev zY(a0:Nat)(a1:Nat)(a2:Nat)(a3:Int):I:=⟨some a0,some (a1,true),.bin .eql (.tmp a2) (.const (.int .i64 a3))⟩
abbrev zZ(a0:Nat):I:=⟨some a0,none,.mov (.const (.bool true))⟩
abbrev za(a0:Nat)(a1:Nat)(a2:Nat):I:=⟨some a0,some (a1,false),.nilCheck (.tmp a2)⟩
abbrev zj(a0:Nat)(a1:Nat)(a2:Nat)(a3:Nat)(a4:Nat):I:=⟨some a0,some (a1,true),.iaddr a2 (.tmp a3) (.tmp a4)⟩
abbrev zk(a0:Nat)(a1:Int)(a2:Int)(a3:Int):I:=⟨some a0,none,.alloc true [.int .i64 a1,.int .i64 a2,.int .i64 a3]⟩
abbrev zo(a0:Nat)(a1:Nat)(a2:Int):I:=⟨some a0,none,.bin .neq (.tmp a1) (.const (.int .i64 a2))⟩
abbrev zt(a0:Nat)(a1:Nat)(a2:Nat)(a3:Int):I:=⟨some a0,some (a1,false),.bin .eql (.tmp a2) (.const (.int .i64 a3))⟩
abbrev q5(a0:Nat)(a1:Nat)(a2:Nat):I:=⟨some a0,some (a1,true),.lenS (.tmp a2)⟩
abbrev q7(a0:Nat)(a1:Int)(a2:Int)(a3:Int)(a4:Nat)(a5:Nat)(a6:Int)(a7:Nat)(a8:Nat)(a9:Nat):I:=⟨some a0,none,.build [.int .i64 a1,.int .i64 a2,.int .i64 a3] [(a4,a5,.const (.int .i64 a6)),(a7,a8,.tmp a9)]⟩
abbrev q8(a0:Nat)(a1:Nat)(a2:Nat)(a3:Nat):I:=⟨some a0,some (a1,false),.pick (.tmp a2) (.tmp a3) (.const (.bool false))⟩
abbrev qA(a0:Nat)(a1:Nat)(a2:Nat):I:=⟨some a0,some (a1,true),.not (.tmp a2)⟩
abbrev qD(a0:Nat)(a1:Nat)(a2:Nat)(a3:Nat):I:=⟨some a0,some (a1,true),.pick (.tmp a2) (.const (.bool true)) (.tmp a3)⟩
abbrev qS(a0:Nat)(a1:Nat)(a2:Nat)(a3:Nat):I:=⟨some a0,some (a1,true),.bin .lss (.tmp a2) (.tmp a3)⟩
abbrev qT(a0:Nat)(a1:Int)(a2:Nat):I:=⟨some a0,none,.bin .add (.const (.int .i64 a1)) (.tmp a2)⟩
abbrev qX(a0:Nat)(a1:Nat)(a2:Nat):I:=⟨some a0,none,.bin .geq (.tmp a1) (.tmp a2)⟩
abbrev qh(a0:Nat)(a1:Nat)(a2:Nat)(a3:Nat):I:=⟨some a0,some (a1,true),.bin .geq (.tmp a2) (.tmp a3)⟩
abbrev qi(a0:Nat)(a1:Nat)(a2:Nat)(a3:Nat):I:=⟨some a0,some (a1,true),.bin .leq (.tmp a2) (.tmp a3)⟩
abbrev j4(a0:Nat)(a1:Nat)(a2:Nat)(a3:Nat)(a4:Nat):I:=⟨some a0,some (a1,true),.call a2 [.tmp a3,.tmp a4]⟩
noncomputable def c145:C:=
 .seq (.reg [zT 3 1,zD 4]) (.seq (.seq (.reg [z4 5 0 3,z5 6 1 5]) (.block 0 (.seq (.reg [zA 8 6 0,z3 7 8]) (.cond (.tmp 7) (.seq (.reg [z4 9 1 3,z5 10 1 9,zA 11 10 0,z3 12 11,zI 13 12 2 3,zF 14 12 1 13,zY 15 12 14 0,zK 16 12 15,z3 4 16]) .ret) (.seq (.reg [zA 18 6 1,z3 17 18]) (.cond (.tmp 17) (.seq (.reg [z4 19 2 3,z5 20 1 19,zA 21 20 0,z3 4 21]) .ret) (.seq (.reg [zA 23 6 2,z3 22 23])
 (.cond (.tmp 22) (.seq (.dreg 14 [z4 24 1 3,z5 25 1 24,zA 26 25 0,z3 27 26,zI 28 27 2 3,zF 29 27 1 28,zJ 30 27 0,zU 31 27 30,zI 32 27 4 31,zF 33 27 1 32,q5 34 27 33,⟨some 35,some (27,true),.bin .sub (.tmp 34) (.const (.int .i64 1))⟩,⟨some 36,some (27,true),.qcall 66 [.tmp 29,.const (.int .i64 0),.tmp 35]⟩,zK 37 27 36,z3 4 37]) .ret) .skip)))))))) (.seq (.reg [zD 4]) .ret))
theorem t145:Tryz.f145.body.bind (trC e145)=some c145:=by kernel_rfl
theorem r145:Tryz.f145.results.toList.mapM (trR Tryz.prog)=some [.tmp 4]:=by kernel_rfl
theorem fn145{args:List Value}{M:Mem}{post:Value→Mem→Prop}(hl:args.length≤38)(h:VC e145 c145 (fnQ [.tmp 4] post) (initS args 38) M):Fn Tryz.prog 145 args M post:=
 Fn.of' (E:=e145) Tryz.func145 t145 rfl r145 mixed hl h
noncomputable def e126:Env:=⟨Tryz.prog,[3,4],31,[(1,15),(2,10)]⟩
noncomputable def c126:C:=
 .seq (.reg [zT 3 1,zk 4 0 0 0]) (.seq (.seq (.dreg 15 [z4 5 0 3,z5 6 1 5,zA 7 6 2,z3 8 7,zJ 9 8 0,zU 10 8 9,zI 11 8 4 10,zF 12 8 1 11,zI 13 8 2 3,zF 14 8 1 13,zj 15 8 8 12 14,zI 16 8 0 15,zF 17 8 1 16,zY 18 8 17 2,zK 19 8 18]) (.cond (.tmp 19) (.seq (.dreg 10 [z3 20 0,z6 21 20,z4 22 4 21,z5 23 1 22,z4 24 2 3,z5 25 1 24,z8 26 8 23 25,z4 27 6 26,z5 28 1 27,q7 29 0 0 0 0 1 2 2 1 28,z7 3 4 29])
 .ret) .skip)) (.seq (.reg [z9 30 3 3,z7 3 4 30]) .ret))
theorem t126:Tryz.f126.body.bind (trC e126)=some c126:=by kernel_rfl
theorem r126:Tryz.f126.results.toList.mapM (trR Tryz.prog)=some [.cell 4 false 3]:=by kernel_rfl
theorem fn126{args:List Value}{M:Mem}{post:Value→Mem→Prop}(hl:args.length≤31)(h:VC e126 c126 (fnQ [.cell 4 false 3] post) (initS args 31) M):Fn Tryz.prog 126 args M post:=
 Fn.of' (E:=e126) Tryz.func126 t126 rfl r126 mixed hl h
noncomputable def e146:Env:=⟨Tryz.prog,[4],36,[(3,9)]⟩
noncomputable def c146:C:=
 .seq (.reg [zT 4 1,zD 6]) (.seq (.seq (.reg [z4 8 0 4,z5 9 1 8,zo 10 9 2]) (.cond (.tmp 10) (.seq (.reg [zZ 6]) .ret) .skip)) (.seq (.dreg 9 [z3 11 0,z6 12 11,z4 13 4 12,z5 14 1 13,z4 15 2 4,z5 16 1 15,z8 17 8 14 16,z4 18 0 17,z5 19 1 18,z3 7 19]) (.seq (.reg [z3 20 7,zA 21 20 1,z3 22 21,zJ 23 22 0,zI 24 22 2 4,zF 25 22 1 24,j4 26 22 147 23 25,qA 27 22 26,zK 28 22 27,z3 29 28,zQ 30 29 7,zt
 31 29 30 2,zQ 32 29 31,zJ 33 32 2,q8 34 29 32 33,zR 35 29 34,z3 6 35]) .ret)))
theorem t146:Tryz.f146.body.bind (trC e146)=some c146:=by kernel_rfl
theorem r146:Tryz.f146.results.toList.mapM (trR Tryz.prog)=some [.tmp 6]:=by kernel_rfl
theorem fn146{args:List Value}{M:Mem}{post:Value→Mem→Prop}(hl:args.length≤36)(h:VC e146 c146 (fnQ [.tmp 6] post) (initS args 36) M):Fn Tryz.prog 146 args M post:=
 Fn.of' (E:=e146) Tryz.func146 t146 rfl r146 mixed hl h
noncomputable def e147:Env:=⟨Tryz.prog,[5],36,[]⟩
noncomputable def c147:C:=
 .seq (.reg [zD 4]) (.seq (.reg [z3 6 0,z6 7 6,z4 8 4 7,z5 9 1 8,z3 10 1,z8 11 8 9 10,z9 12 8 11,zX 5 0 0 0 0 0 0 0 0 0,z7 8 5 12]) (.seq (.reg [z3 13 0,z6 14 13,z4 15 5 14,z5 16 1 15,zA 17 16 3,z3 18 17,zI 19 18 0 5,zF 20 18 1 19,zY 21 18 20 1,zK 22 18 21,z3 23 22,zI 24 23 5 5,zF 25 23 1 24,zY 26 23 25 0,zK 27 23 26,z3 28 27,zJ 29 28 1,zJ 30 28 0,zU 31 28 30,zI 32 28 6 31,zF 33 28 1 32,qh 34
 28 29 33,zK 35 28 34,z3 4 35]) .ret))
theorem t147:Tryz.f147.body.bind (trC e147)=some c147:=by kernel_rfl
theorem r147:Tryz.f147.results.toList.mapM (trR Tryz.prog)=some [.tmp 4]:=by kernel_rfl
theorem fn147{args:List Value}{M:Mem}{post:Value→Mem→Prop}(hl:args.length≤36)(h:VC e147 c147 (fnQ [.tmp 4] post) (initS args 36) M):Fn Tryz.prog 147 args M post:=
 Fn.of' (E:=e147) Tryz.func147 t147 rfl r147 mixed hl h
noncomputable def e149:Env:=⟨Tryz.prog,[],37,[]⟩
noncomputable def c149:C:=
 .seq (.reg [zD 6]) (.seq (.seq (.reg [z3 7 0,z6 8 7,z4 9 5 8,z5 10 1 9]) (.block 0 (.seq (.reg [zA 12 10 4,z3 11 12]) (.cond (.tmp 11) (.seq (.reg [zD 6]) .ret) (.seq (.reg [zA 14 10 5,z3 13 14]) (.cond (.tmp 13) (.seq (.reg [z3 15 1,z3 16 0,z6 17 16,z4 18 6 17,z5 19 1 18,zN 20 15 19,z3 21 20,zQ 22 21 1,zQ 23 21 0,za 24 21 23,zO 25 21 6 24,zP 26 21 1 25,⟨some 27,some (21,false),.bin .eql
 (.tmp 22) (.tmp 26)⟩,zQ 28 21 27,zJ 29 28 2,zJ 30 28 0,zU 31 28 30,zI 32 28 7 31,zF 33 28 1 32,qS 34 28 29 33,q8 35 21 28 34,zR 36 21 35,z3 6 36]) .ret) .skip)))))) (.seq (.reg [zZ 6]) .ret))
theorem t149:Tryz.f149.body.bind (trC e149)=some c149:=by kernel_rfl
theorem r149:Tryz.f149.results.toList.mapM (trR Tryz.prog)=some [.tmp 6]:=by kernel_rfl
theorem fn149{args:List Value}{M:Mem}{post:Value→Mem→Prop}(hl:args.length≤37)(h:VC e149 c149 (fnQ [.tmp 6] post) (initS args 37) M):Fn Tryz.prog 149 args M post:=
 Fn.of' (E:=e149) Tryz.func149 t149 rfl r149 mixed hl h
noncomputable def e150:Env:=⟨Tryz.prog,[],15,[]⟩
noncomputable def c150:C:=
 .seq (.reg [zD 2]) (.seq (.reg [z3 3 0,z6 4 3,z4 5 5 4,z5 6 1 5,zA 7 6 1,z3 8 7,zQ 9 8 0,za 10 8 9,zO 11 8 5 10,zP 12 8 1 11,zt 13 8 12 2,zR 14 8 13,z3 2 14]) .ret)
theorem t150:Tryz.f150.body.bind (trC e150)=some c150:=by kernel_rfl
theorem r150:Tryz.f150.results.toList.mapM (trR Tryz.prog)=some [.tmp 2]:=by kernel_rfl
theorem fn150{args:List Value}{M:Mem}{post:Value→Mem→Prop}(hl:args.length≤15)(h:VC e150 c150 (fnQ [.tmp 2] post) (initS args 15) M):Fn Tryz.prog 150 args M post:=
 Fn.of' (E:=e150) Tryz.func150 t150 rfl r150 mixed hl h
noncomputable def e151:Env:=⟨Tryz.prog,[3],20,[(1,15)]⟩
noncomputable def c151:C:=
 .seq (.reg [zT 3 1,zD 4]) (.seq (.dreg 15 [z4 5 0 3,z5 6 1 5,zA 7 6 2,z3 8 7,zJ 9 8 0,zU 10 8 9,zI 11 8 4 10,zF 12 8 1 11,zI 13 8 2 3,zF 14 8 1 13,zj 15 8 8 12 14,zI 16 8 5 15,zF 17 8 1 16,zY 18 8 17 0,zK 19 8 18,z3 4 19]) .ret)
theorem t151:Tryz.f151.body.bind (trC e151)=some c151:=by kernel_rfl
theorem r151:Tryz.f151.results.toList.mapM (trR Tryz.prog)=some [.tmp 4]:=by kernel_rfl
theorem fn151{args:List Value}{M:Mem}{post:Value→Mem→Prop}(hl:args.length≤20)(h:VC e151 c151 (fnQ [.tmp 4] post) (initS args 20) M):Fn Tryz.prog 151 args M post:=
 Fn.of' (E:=e151) Tryz.func151 t151 rfl r151 mixed hl h
noncomputable def e124:Env:=⟨Tryz.prog,[3],12,[]⟩
noncomputable def c124:C:=
 .seq (.reg [zT 3 1,zC 4 0]) (.seq (.seq (.reg [z4 5 0 3,z5 6 1 5,zo 7 6 2]) (.cond (.tmp 7) (.seq (.reg [zC 4 (-1)]) .ret) .skip)) (.seq (.reg [z3 8 0,z9 9 3 3,zL 10 126 8 9,⟨some 11,none,.field true 2 1 (.tmp 10)⟩,z3 4 11]) .ret))
theorem t124:Tryz.f124.body.bind (trC e124)=some c124:=by kernel_rfl
theorem r124:Tryz.f124.results.toList.mapM (trR Tryz.prog)=some [.tmp 4]:=by kernel_rfl
theorem fn124{args:List Value}{M:Mem}{post:Value→Mem→Prop}(hl:args.length≤12)(h:VC e124 c124 (fnQ [.tmp 4] post) (initS args 12) M):Fn Tryz.prog 124 args M post:=
 Fn.of' (E:=e124) Tryz.func124 t124 rfl r124 mixed hl h
noncomputable def e143:Env:=⟨Tryz.prog,[1],32,[]⟩
noncomputable def c143:C:=
 .seq (.reg [zT 1 0,zD 2]) (.seq (.reg [z4 3 1 1,z5 4 1 3,zA 5 4 0,z3 6 5,zI 7 6 2 1,zF 8 6 1 7,zY 9 6 8 0,zK 10 6 9,z3 11 10,zI 12 11 3 1,zF 13 11 1 12,zY 14 11 13 0,zK 15 11 14,z3 16 15,zI 17 16 4 1,zF 18 16 1 17,zY 19 16 18 0,zK 20 16 19,z3 21 20,zI 22 21 5 1,zF 23 21 1 22,zY 24 21 23 0,zK 25 21 24,z3 26 25,zI 27 26 7 1,zF 28 26 1 27,q5 29 26 28,zY 30 26 29 0,zK 31 26 30,z3 2 31]) .ret)
theorem t143:Tryz.f143.body.bind (trC e143)=some c143:=by kernel_rfl
theorem r143:Tryz.f143.results.toList.mapM (trR Tryz.prog)=some [.tmp 2]:=by kernel_rfl
theorem fn143{args:List Value}{M:Mem}{post:Value→Mem→Prop}(hl:args.length≤32)(h:VC e143 c143 (fnQ [.tmp 2] post) (initS args 32) M):Fn Tryz.prog 143 args M post:=
 Fn.of' (E:=e143) Tryz.func143 t143 rfl r143 mixed hl h
noncomputable def e144:Env:=⟨Tryz.prog,[1],10,[]⟩
noncomputable def c144:C:=
 .seq (.reg [zT 1 0,zC 2 0]) (.seq (.seq (.reg [z4 3 0 1,z5 4 1 3,zo 5 4 1]) (.cond (.tmp 5) (.seq (.reg [zC 2 0]) .ret) .skip)) (.seq (.reg [z4 6 7 1,z5 7 1 6,zE 8 7,qT 9 1 8,z3 2 9]) .ret))
theorem t144:Tryz.f144.body.bind (trC e144)=some c144:=by kernel_rfl
theorem r144:Tryz.f144.results.toList.mapM (trR Tryz.prog)=some [.tmp 2]:=by kernel_rfl
theorem fn144{args:List Value}{M:Mem}{post:Value→Mem→Prop}(hl:args.length≤10)(h:VC e144 c144 (fnQ [.tmp 2] post) (initS args 10) M):Fn Tryz.prog 144 args M post:=
 Fn.of' (E:=e144) Tryz.func144 t144 rfl r144 mixed hl h
noncomputable def e148:Env:=⟨Tryz.prog,[1],16,[]⟩
noncomputable def c148:C:=
 .seq (.reg [zT 1 0,zD 2]) (.seq (.reg [z4 3 0 1,z5 4 1 3,zA 5 4 1,z3 6 5,zI 7 6 3 1,zF 8 6 1 7,zY 9 6 8 1,zJ 10 6 9,zO 11 10 3 1,zP 12 10 1 11,zt 13 10 12 2,qD 14 6 10 13,zK 15 6 14,z3 2 15]) .ret)
theorem t148:Tryz.f148.body.bind (trC e148)=some c148:=by kernel_rfl
theorem r148:Tryz.f148.results.toList.mapM (trR Tryz.prog)=some [.tmp 2]:=by kernel_rfl
theorem fn148{args:List Value}{M:Mem}{post:Value→Mem→Prop}(hl:args.length≤16)(h:VC e148 c148 (fnQ [.tmp 2] post) (initS args 16) M):Fn Tryz.prog 148 args M post:=
 Fn.of' (E:=e148) Tryz.func148 t148 rfl r148 mixed hl h
noncomputable def e66:Env:=⟨Tryz.prog,[],15,[]⟩
noncomputable def c66:C:=
 .seq (.reg [zD 6]) (.seq (.reg [z3 7 0,z3 8 1,qX 9 7 8,z3 10 9,zJ 11 10 0,zJ 12 10 2,qi 13 10 11 12,zK 14 10 13,z3 6 14]) .ret)
theorem t66:Tryz.f66.body.bind (trC e66)=some c66:=by kernel_rfl
theorem r66:Tryz.f66.results.toList.mapM (trR Tryz.prog)=some [.tmp 6]:=by kernel_rfl
theorem fn66{args:List Value}{M:Mem}{post:Value→Mem→Prop}(hl:args.length≤15)(h:VC e66 c66 (fnQ [.tmp 6] post) (initS args 15) M):Fn Tryz.prog 66 args M post:=
 Fn.of' (E:=e66) Tryz.func66 t66 rfl r66 mixed hl h
end Go.Proofs.YtpleoapljeffiaaGreatDoor.E
