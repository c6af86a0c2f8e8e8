/- A part of the proof. Conditions: none. -/
import Derived.Test.YtpleoapljeffiaaGreatDoorKP3
import Derived.Test.YtpleoapljeffiaaGreatDoorRows
import Derived.Deep.Slices
import Derived.ProofKit
import Derived.OpenShut
import Derived.Carry
import Derived.SizedLaws
import Derived.Below
import Derived.LaidMore
import Derived.OpenVars
import Derived.ChangeArms
set_option linter.unusedVariables false
set_option linter.unusedSimpArgs false
namespace Go.Proofs.YtpleoapljeffiaaGreatDoor.E
open Go
inductive C where
 |reg (l:List I)
 |dreg (n:Nat) (l:List I)
 |zreg (ds:List Nat) (zs cs:List I)
 |hreg (bs:List Nat) (zs:List I) (t:T)
 |seq (a b:C)
 |cond (x:Operand) (a b:C)
 |block (id:Nat) (c:C)
 |loop (c:C)
 |exit (id:Nat)
 |ret
 |skip
structure Env where
 P:Program
 own:List Nat
 nt:Nat
 ns:List (Nat×Nat)
def trC(E:Env):Code→Option C
 |.skip=>some .skip
 |.region id ops draw=>
  if draw then
   match E.ns.lookup id with
   |some n=>match trL E.P E.own E.nt ops n ops.toList with
    |some l=>if drawB ops l n then some (.dreg n l)else if n==0&&zB ops l then some (.zreg (allD l) (getsI l (zOf ops l)) (getsI l (cOf ops l)))else
     if n==0&&Region.noSelect ops&&decide ((hZs ops l).length≤ops.size)then some (.hreg (hBs E.own ops l) (getsI l (hZs ops l)) (hT ops l))else none
    |none=>none
   |none=>none
  else(trL E.P E.own E.nt ops 0 ops.toList).map .reg
 |.seq a b=>match trC E a,trC E b with
  |some a',some b'=>some (.seq a' b')
  |_,_=>none
 |.cond x a b=>match trC E a,trC E b with
  |some a',some b'=>some (.cond x a' b')
  |_,_=>none
 |.block id c=>(trC E c).map (.block id)
 |.loop c=>(trC E c).map .loop
 |.exit id=>some (.exit id)
 |.ret=>some .ret
 |_=>none
inductive X where
 |nrm
 |ret
 |ext (id:Nat)
def exitIs:Exit→X→Prop
 |.normal,.nrm=>True
 |.ret,.ret=>True
 |.exit id,.ext id'=>id=id'
 |_,_=>False
def lift(nt:Nat)(Q:X→St→Mem→Prop)(W0:World)(M0:Mem):Exit→Act→World→Prop:=fun e a w=>
 ∃x S M β,exitIs e x∧Q x S M∧RepF W0 M0 β S nt M a w
structure VC (E:Env) (c:C) (Q:X→St→Mem→Prop) (S:St) (M:Mem):Prop where
 out:∀code,trC E code=some c→E.P.follows .mixedOrders=true→∀W0 M0 β a w,RepF W0 M0 β S E.nt M a w→code.wp E.P (lift E.nt Q W0 M0) a w
def seqQ(K:St→Mem→Prop)(Q:X→St→Mem→Prop):X→St→Mem→Prop
 |.nrm=>K
 |x=>Q x
def blkQ(id:Nat)(Q:X→St→Mem→Prop):X→St→Mem→Prop
 |.ext i=>if i=id then Q .nrm else Q (.ext i)
 |x=>Q x
def ofL:List (Nat×SV)→St
 |[]=>fun _=>.junk
 |(d,x)::r=>upF (ofL r) d x
def leA:List (Nat×SV)→St→Prop
 |[],_=>True
 |(d,x)::r,S=>S d=x∧leA r S
theorem leA.leF:∀{l:List (Nat×SV)} {S:St},leA l S→leF (ofL l) S
 |[],_,_=>fun _=>.inl rfl
 |(d,x)::r,S,h=>fun t=>by
  simp only[ofL,upF_eq]
  by_cases e:t=d
  ·rw[if_pos e,e];exact .inr h.1.symm
  ·rw[if_neg e];exact leA.leF h.2 t
section
variable {E:Env} {Q Q':X→St→Mem→Prop} {S S':St} {M M':Mem}
theorem VC.mono{c:C}(h:VC E c Q S M)(k:∀x S M,Q x S M→Q' x S M):VC E c Q' S M:=
 ⟨fun code ht hm W0 M0 β a w hR=>wp_mono (h.out code ht hm W0 M0 β a w hR) fun e a w ⟨x,S,M,β,he,hq,r⟩=>⟨x,S,M,β,he,k _ _ _ hq,r⟩⟩
theorem VC.weak{c:C}(l:List (Nat×SV))(hS:leA l S)(hM:M'.le M)(h:VC E c Q (ofL l) M'):VC E c Q S M:=
 ⟨fun code ht hm W0 M0 β a w hR=>h.out code ht hm W0 M0 β a w ((hR.weak hS.leF).le hM)⟩
theorem VC.drop{c:C}(hM:M'.le M)(h:VC E c Q S M'):VC E c Q S M:=
 ⟨fun code ht hm W0 M0 β a w hR=>h.out code ht hm W0 M0 β a w (hR.le hM)⟩
theorem trC_inv{code:Code}{c:C}(h:trC E code=some c):match c with
 |.skip=>code=.skip
 |.ret=>code=.ret
 |.exit id=>code=.exit id
 |.reg l=>∃id ops,code=.region id ops false∧trL E.P E.own E.nt ops 0 ops.toList=some l
 |.dreg n l=>∃id ops,code=.region id ops true∧trL E.P E.own E.nt ops n ops.toList=some l∧drawB ops l n=true
 |.zreg ds zs cs=>∃id ops l,code=.region id ops true∧trL E.P E.own E.nt ops 0 ops.toList=some l∧zB ops l=true∧ds=allD l∧zs=getsI l (zOf ops l)∧cs=getsI l (cOf ops l)
 |.hreg bs zs t=>∃id ops l,code=.region id ops true∧trL E.P E.own E.nt ops 0 ops.toList=some l∧Region.noSelect ops=true∧(hZs ops l).length≤ops.size∧bs=hBs E.own ops l∧zs=getsI l (hZs ops l)∧t=hT ops l
 |.seq a b=>∃x y,code=.seq x y∧trC E x=some a∧trC E y=some b
 |.cond t a b=>∃x y,code=.cond t x y∧trC E x=some a∧trC E y=some b
 |.block id a=>∃x,code=.block id x∧trC E x=some a
 |.loop a=>∃x,code=.loop x∧trC E x=some a:=by
 cases code<;>simp only[trC]at h
 case skip=>cases h;rfl
 case ret=>cases h;rfl
 case exit id=>cases h;rfl
 case region id ops draw=>
  cases draw with
  |false=>
   simp only[Bool.false_eq_true,if_false,Option.map_eq_some_iff]at h
   obtain⟨l,hl,h⟩:=h
   cases h
   exact⟨id,ops,rfl,hl⟩
  |true=>
   simp only[if_true]at h
   split at h
   ·split at h
    ·rename_i l hl
     split at h
     ·rename_i hB;cases h;exact⟨id,ops,rfl,hl,hB⟩
     ·split at h
      ·rename_i hn
       simp only[Bool.and_eq_true,beq_iff_eq]at hn
       obtain⟨rfl,hn⟩:=hn
       cases h
       exact⟨id,ops,l,rfl,hl,hn,rfl,rfl,rfl⟩
      ·split at h
       ·rename_i hn
        simp only[Bool.and_eq_true,beq_iff_eq,decide_eq_true_eq]at hn
        obtain⟨⟨rfl,hn⟩,hn2⟩:=hn
        cases h
        exact⟨id,ops,l,rfl,hl,hn,hn2,rfl,rfl,rfl⟩
       ·cases h
    ·cases h
   ·cases h
 case seq x y=>
  split at h
  ·rename_i a b h1 h2;cases h;exact⟨x,y,rfl,h1,h2⟩
  ·cases h
 case cond t x y=>
  split at h
  ·rename_i a b h1 h2;cases h;exact⟨x,y,rfl,h1,h2⟩
  ·cases h
 case block id x=>
  simp only[Option.map_eq_some_iff]at h
  obtain⟨a,h1,h⟩:=h
  cases h;exact⟨x,rfl,h1⟩
 case loop x=>
  simp only[Option.map_eq_some_iff]at h
  obtain⟨a,h1,h⟩:=h
  cases h;exact⟨x,rfl,h1⟩
 all_goals cases h
theorem VC.skip(h:Q .nrm S M):VC E .skip Q S M:=
 ⟨fun code ht hm W0 M0 β a w hR=>by
   have e:code=.skip:=trC_inv ht
   subst e
   exact wp_skip ⟨.nrm,S,M,β,trivial,h,hR⟩⟩
theorem VC.ret(h:Q .ret S M):VC E .ret Q S M:=
 ⟨fun code ht hm W0 M0 β a w hR=>by
   have e:code=.ret:=trC_inv ht
   subst e
   exact wp_ret ⟨.ret,S,M,β,trivial,h,hR⟩⟩
theorem VC.exit{id:Nat}(h:Q (.ext id) S M):VC E (.exit id) Q S M:=
 ⟨fun code ht hm W0 M0 β a w hR=>by
   have e:code=.exit id:=trC_inv ht
   subst e
   exact wp_exit ⟨.ext id,S,M,β,rfl,h,hR⟩⟩
theorem VC.reg{l:List I}(h:vcL E.P l (Q .nrm) S M):VC E (.reg l) Q S M:=
 ⟨fun code ht hm W0 M0 β a w hR=>by
   obtain⟨id,ops,rfl,hl⟩:=trC_inv ht
   exact wp_region_list (vcL_sound (fun S' M' a' w' β' hp hr=>⟨.nrm,S',M',β',trivial,hp,hr⟩) hl hR h)⟩
theorem VC.dreg{n:Nat}{l:List I}(h:vcL E.P l (Q .nrm) (fun t=>junkD (dsOf l n) (S t)) M):VC E (.dreg n l) Q S M:=
 ⟨fun code ht hm W0 M0 β a w hR=>by
   obtain⟨id,ops,rfl,hl,hB⟩:=trC_inv ht
   exact draw_sound hm hl hB (fun c a w ⟨x,_,_,_,he,_⟩=>by cases x<;>exact he) hR h (fun S' M' a' w' β' hp hr=>⟨.nrm,S',M',β',trivial,hp,hr⟩)⟩
theorem VC.zreg{ds:List Nat}{zs cs:List I}(h:vcL E.P zs (fun S' _=>vcL E.P cs (Q .nrm) S' M) (fun t=>junkD ds (S t)) (fun _=>none)):VC E (.zreg ds zs cs) Q S M:=
 ⟨fun code ht hm W0 M0 β a w hR=>by
   obtain⟨id,ops,l,rfl,hl,hB,rfl,rfl,rfl⟩:=trC_inv ht
   exact zreg_sound hm hl hB hR h (fun S' M' a' w' β' hp hr=>⟨.nrm,S',M',β',trivial,hp,hr⟩)⟩
theorem VC.hreg{bs:List Nat}{zs:List I}{t:T}{m F:Mem}(hd:Disj m F)(h:vcL E.P zs (fun S' _=>vcT E.P bs (Q .nrm) t F S' m) (jb bs S) F):VC E (.hreg bs zs t) Q S (m.un F):=
 ⟨fun code ht hm W0 M0 β a w hR=>by
   obtain⟨id,ops,l,rfl,hl,hs,hle,rfl,rfl,rfl⟩:=trC_inv ht
   exact hreg_sound hm hl hs (fun c a w ⟨x,_,_,_,he,_⟩=>by cases x<;>exact he) hd hle hR h (fun S' M' a' w' β' hp hr=>⟨.nrm,S',_,β',trivial,hp,hr⟩)⟩
theorem VC.seq{a b:C}(h:VC E a (seqQ (VC E b Q) Q) S M):VC E (.seq a b) Q S M:=
 ⟨fun code ht hm W0 M0 β ac w hR=>by
   obtain⟨x,y,rfl,h1,h2⟩:=trC_inv ht
   refine wp_seq (wp_mono (h.out x h1 hm W0 M0 β ac w hR) ?_)
   rintro e a' w' ⟨xx,S',M',β',he,hq,hr⟩
   cases e<;>cases xx<;>first|(exact he.elim)|skip
   ·exact hq.out y h2 hm W0 M0 β' a' w' hr
   ·exact⟨_,S',M',β',he,hq,hr⟩
   ·exact⟨_,S',M',β',he,hq,hr⟩⟩
theorem VC.cond{x:Operand}{a b:C}(t:Bool)(hx:ev S x=some (.bool t))(h1:t=true→VC E a Q S M)(h2:t=false→VC E b Q S M):VC E (.cond x a b) Q S M:=
 ⟨fun code ht hm W0 M0 β ac w hR=>by
   obtain⟨y,z,rfl,e1,e2⟩:=trC_inv ht
   exact wp_cond_split (hR.ev hx) (fun e=>(h1 e).out y e1 hm W0 M0 β ac w hR) (fun e=>(h2 e).out z e2 hm W0 M0 β ac w hR)⟩
theorem VC.block{id:Nat}{c:C}(h:VC E c (blkQ id Q) S M):VC E (.block id c) Q S M:=
 ⟨fun code ht hm W0 M0 β ac w hR=>by
   obtain⟨x,rfl,h1⟩:=trC_inv ht
   refine wp_block (wp_mono (h.out x h1 hm W0 M0 β ac w hR) ?_)
   rintro e a' w' ⟨xx,S',M',β',he,hq,hr⟩
   cases e<;>cases xx<;>first|(exact he.elim)|skip
   ·exact⟨_,S',M',β',he,hq,hr⟩
   ·rename_i i i'
    have he':i=i':=he
    subst he'
    simp only[blkQ]at hq
    simp only[Exit.inBlock]
    by_cases hi:i=id
    ·rw[if_pos hi]at hq⊢;exact⟨.nrm,S',M',β',trivial,hq,hr⟩
    ·rw[if_neg hi]at hq⊢;exact⟨.ext i,S',M',β',rfl,hq,hr⟩
   ·exact⟨_,S',M',β',he,hq,hr⟩⟩
theorem VC.loop{c:C}{α:Type}(T:α→List (Nat×SV))(Inv:Nat→α→Mem→Prop)(h0:∃k x M',leA (T x) S∧M'.le M∧Inv k x M')
 (h:∀k x M,Inv k x M→VC E c (seqQ (fun S' M'=>∃k' x' M'',k'<k∧leA (T x') S'∧M''.le M'∧Inv k' x' M'') Q) (ofL (T x)) M):VC E (.loop c) Q S M:=
 ⟨fun code ht hm W0 M0 β ac w hR=>by
   obtain⟨y,rfl,h1⟩:=trC_inv ht
   obtain⟨k,x,M',hle,hM,hinv⟩:=h0
   refine wp_loop_ghost (fun k a w=>∃x M β,Inv k x M∧RepF W0 M0 β (ofL (T x)) E.nt M a w) k ⟨x,M',β,hinv,(hR.weak hle.leF).le hM⟩ ?_
   rintro k a w ⟨x,M,β,hinv,hR⟩
   refine wp_mono ((h k x M hinv).out y h1 hm W0 M0 β a w hR) ?_
   rintro e a' w' ⟨xx,S',M',β',he,hq,hr⟩
   cases e<;>cases xx<;>first|(exact he.elim)|skip
   ·obtain⟨k',x',M'',hk,hle,hM,hinv⟩:=hq
    exact⟨k',hk,x',M'',β',hinv,(hr.weak hle.leF).le hM⟩
   ·exact⟨_,S',M',β',he,hq,hr⟩
   ·exact⟨_,S',M',β',he,hq,hr⟩⟩
inductive RV where
 |tmp (t:Nat)
 |cell (t:Nat) (one:Bool) (n:Nat)
def trR(P:Program):ResultVar→Option RV
 |.tmp t=>some (.tmp t)
 |.cell a t=>match P.underlying t,P.info? t with
  |some d,some i=>some (.cell a (!isAggD d) i.size)
  |_,_=>none
def rvV(S:St)(M:Mem):RV→Option Value
 |.tmp t=>ev S (.tmp t)
 |.cell t one n=>match lc S (.tmp t)with
  |some (.bx s o)=>match bxc (S s)with
   |some cs=>rdv one n cs o
   |none=>none
  |some (.mm b o)=>match M b with
   |some (.row cs)=>rdv one n cs o
   |_=>none
  |none=>none
def rvs(S:St)(M:Mem):List RV→Option (List Value)
 |[]=>some []
 |r::t=>match rvV S M r,rvs S M t with
  |some v,some l=>some (v::l)
  |_,_=>none
def resV(S:St)(M:Mem)(rs:List RV):Option Value:=
 match rvs S M rs with
 |some [v]=>some v
 |some l=>some (.tuple l.toArray)
 |none=>none
def fnQ(rs:List RV)(post:Value→Mem→Prop):X→St→Mem→Prop
 |.ext _,_,_=>False
 |_,S,M=>∃v M',resV S M rs=some v∧M'.le M∧post v M'
def rdRes(tmps:Array Value):ResultVar→Sem Value
 |.tmp t=>pure (tmps.getD t undef)
 |.cell a t=>do loadVar t (←asAddr (tmps.getD a undef))
theorem results_eq(fn:Func)(tmps:Array Value):results fn tmps=(do let vs←fn.results.mapM (rdRes tmps);pure (if h:vs.size=1 then vs[0]else .tuple vs)):=by
 rfl
theorem run_rv{P:Program}{W0:World}{M0:Mem}{β:Nat→Nat}{n:Nat}{a:Act}{w:World}(hR:RepF W0 M0 β S n M a w){r:ResultVar}{rv:RV}(ht:trR P r=some rv){v:Value}(h:rvV S M rv=some v):
 (rdRes a.tmps r).run P w=.ok v w:=by
 unfold rdRes
 cases r with
 |tmp t=>
  simp only[trR,Option.some.injEq]at ht
  subst ht
  have:=hR.ev (x:=.tmp t) h
  simp only[Sem.run_pure]
  exact congrArg (Result.ok · w) this
 |cell c t=>
  simp only[trR]at ht
  split at ht
  ·rename_i d i hd hi
   simp only[Option.some.injEq]at ht
   subst ht
   simp only[rvV]at h
   split at h
   ·rename_i s o hl
    split at h
    ·rename_i cs hc
     have e:a.tmps.getD c undef=.pointer (some ⟨β s,o,none⟩):=hR.lc_bx hl
     simp only[Sem.run_bind,e,asAddr,Sem.run_pure,Result.andThen_ok]
     exact run_loadVar hd hi (hR.bxc hc).2.ro h
    ·cases h
   ·rename_i b o hl
    split at h
    ·rename_i cs hc
     have e:a.tmps.getD c undef=.pointer (some ⟨b,o,none⟩):=hR.lc_mm hl
     simp only[Sem.run_bind,e,asAddr,Sem.run_pure,Result.andThen_ok]
     exact run_loadVar hd hi (hR.sat _ _ hc).ro h
    ·cases h
   ·cases h
  ·cases ht
theorem run_rvs{P:Program}{W0:World}{M0:Mem}{β:Nat→Nat}{n:Nat}{a:Act}{w:World}(hR:RepF W0 M0 β S n M a w):∀{l:List ResultVar} {rl:List RV},l.mapM (trR P)=some rl→∀{vs:List Value},rvs S M rl=some vs→
 (l.mapM (rdRes a.tmps)).run P w=.ok vs w
 |[],rl,ht,vs,h=>by
  simp only[List.mapM_nil,Option.pure_def,Option.some.injEq]at ht
  subst ht
  simp only[rvs,Option.some.injEq]at h
  subst h
  rfl
 |r::t,rl,ht,vs,h=>by
  simp only[List.mapM_cons,Option.pure_def,Option.bind_eq_bind,Option.bind_eq_some_iff,Option.some.injEq]at ht
  obtain⟨y,hy,r',hr,rfl⟩:=ht
  simp only[rvs]at h
  split at h
  ·rename_i v l h1 h2
   simp only[Option.some.injEq]at h
   subst h
   simp only[List.mapM_cons,Sem.run_bind]
   rw[run_rv hR hy h1]
   simp only[Result.andThen_ok,run_rvs hR hr h2,Sem.run_pure]
  ·cases h
theorem run_results{P:Program}{W0:World}{M0:Mem}{β:Nat→Nat}{n:Nat}{a:Act}{w:World}(hR:RepF W0 M0 β S n M a w){fn:Func}{rl:List RV}(ht:fn.results.toList.mapM (trR P)=some rl){v:Value}(h:resV S M rl=some v):
 (results fn a.tmps).run P w=.ok v w:=by
 unfold resV at h
 have key:∀{vs},rvs S M rl=some vs→(results fn a.tmps).run P w=.ok (if h:vs.toArray.size=1 then vs.toArray[0]else .tuple vs.toArray) w:=by
  intro vs hvs
  have:=run_rvs (P:=P) hR ht hvs
  rw[results_eq,Array.mapM_eq_mapM_toList]
  simp only[Sem.run_bind,Sem.run_map]
  rw[this]
  rfl
 split at h
 ·rename_i v' hvs
  simp only[Option.some.injEq]at h
  subst h
  rw[key hvs];rfl
 ·rename_i l hne hvs
  simp only[Option.some.injEq]at h
  subst h
  rw[key hvs]
  rw[dif_neg]
  intro hl
  match l,hl with
  |[x],_=>exact hne x rfl
 ·cases h
def initS:List Value→Nat→St
 |[],nt=>fun t=>bif Nat.blt t nt then .v undef else .junk
 |x::r,nt=>fun t=>match t with
  |0=>.v x
  |t+1=>initS r (nt-1) t
theorem initS_in:∀(args:List Value) (nt t:Nat),args.length≤nt→t<nt→initS args nt t=.v ((args++List.replicate (nt-args.length) undef).getD t undef)
 |[],nt,t,_,ht=>by
  have hb:Nat.blt t nt=true:=by simp[Nat.blt_eq,ht]
  simp only[initS,hb,cond_true,List.nil_append,List.length_nil,Nat.sub_zero,List.getD_eq_getElem?_getD]
  simp[ht]
 |x::r,nt,0,_,_=>by simp[initS]
 |x::r,nt,t+1,hl,ht=>by
  simp only[List.length_cons]at hl
  have:=initS_in r (nt-1) t (by omega) (by omega)
  simp only[initS,this,List.length_cons,List.cons_append,List.getD_eq_getElem?_getD,List.getElem?_cons_succ]
  rw[show nt-(r.length+1)=nt-1-r.length by omega]
theorem initS_out:∀(args:List Value) (nt t:Nat),args.length≤nt→nt≤t→initS args nt t=.junk
 |[],nt,t,_,ht=>by
  have hb:Nat.blt t nt=false:=by
   cases h:Nat.blt t nt with
   |false=>rfl
   |true=>rw[Nat.blt_eq]at h;omega
  simp only[initS,hb,cond_false]
 |x::r,nt,0,hl,ht=>by simp only[List.length_cons]at hl;omega
 |x::r,nt,t+1,hl,ht=>by
  simp only[List.length_cons]at hl
  exact initS_out r (nt-1) t (by omega) (by omega)
theorem Fn.of{f:FuncId}{fn:Func}{code:Code}{c:C}{rl:List RV}(hf:E.P.funcs[f]?=some fn)(hb:fn.body=some code)(hn:fn.ntmps=E.nt)(ht:trC E code=some c)(hr:fn.results.toList.mapM (trR E.P)=some rl)(hm:E.P.follows .mixedOrders=true)
 {args:List Value} {post:Value→Mem→Prop} (hl:args.length≤E.nt) (h:VC E c (fnQ rl post) (initS args E.nt) M):Fn E.P f args M post:=by
 refine⟨fun w hw=>calls_of_wp hf hb ?_⟩
 have hR:RepF w M (fun _=>0) (initS args E.nt) E.nt M {tmps:=args.toArray++Array.replicate (fn.ntmps-args.toArray.size) undef,defers:=[]} w:=by
  refine⟨rfl,?_,?_,hw,Stp.refl _ _,?_,?_⟩
  ·simp[hn];omega
  ·intro t ht;exact initS_out args E.nt t hl ht
  ·intro t
   rcases Nat.lt_or_ge t E.nt with h1|h1
   ·rw[initS_in args E.nt t hl h1]
    show _=_
    simp only[Array.getD_eq_getD_getElem?,List.getD_eq_getElem?_getD,hn]
    have:args.toArray++Array.replicate (E.nt-args.length) undef=(args++List.replicate (E.nt-args.length) undef).toArray:=by
     apply Array.ext';simp
    simp only[List.size_toArray]
    rw[this,List.getElem?_toArray]
   ·rw[initS_out args E.nt t hl h1];trivial
  ·intro t t' h1
   rcases Nat.lt_or_ge t E.nt with h2|h2
   ·rw[initS_in args E.nt t hl h2]at h1;cases h1
   ·rw[initS_out args E.nt t hl h2]at h1;cases h1
 refine wp_mono (h.out code ht hm w M _ _ w hR) ?_
 rintro e a' w' ⟨xx,S',M',β',he,hq,hr'⟩
 have fin:(∃v M'',resV S' M' rl=some v∧M''.le M'∧post v M'')→a'.defers=[]∧∃v,(results fn a'.tmps).run E.P w'=.ok v w'∧∃v' M'',Ending.returned v=.returned v'∧post v' M''∧Sat w' M''∧Stp w M w' M'':=by
  rintro⟨v,M'',hv,hle,hp⟩
  exact⟨hr'.df,v,run_results hr' hr hv,v,M'',rfl,hp,hr'.sat.le hle,hr'.stp.le hle⟩
 cases e<;>cases xx<;>first|(exact he.elim)|skip
 ·exact fin hq
 ·exact hq.elim
 ·exact fin hq
end
def cell(M:Mem)(b o:Nat):Option Value:=
 match M b with
 |some (.row cs)=>cs[o]?
 |some (.ro cs _ _)=>cs[o]?
 |_=>none
def cells(M:Mem)(b o n:Nat):Option (List Value):=
 match M b with
 |some (.row cs)=>if o+n≤cs.length then some ((cs.drop o).take n)else none
 |some (.ro cs _ _)=>if o+n≤cs.length then some ((cs.drop o).take n)else none
 |_=>none
theorem cell_row{M:Mem}{b o:Nat}{v:Value}(h:cell M b o=some v):∃cs,(M b=some (.row cs)∨∃t fr,M b=some (.ro cs t fr))∧cs[o]?=some v:=by
 unfold cell at h
 split at h
 ·rename_i cs hM;exact⟨cs,.inl hM,h⟩
 ·rename_i cs _ _ hM;exact⟨cs,.inr ⟨_,_,hM⟩,h⟩
 ·cases h
theorem cells_row{M:Mem}{b o n:Nat}{vs:List Value}(h:cells M b o n=some vs):∃cs,(M b=some (.row cs)∨∃t fr,M b=some (.ro cs t fr))∧o+n≤cs.length∧vs=(cs.drop o).take n:=by
 unfold cells at h
 split at h
 ·rename_i cs hM
  split at h
  ·rename_i hle;exact⟨cs,.inl hM,hle,(Option.some.inj h).symm⟩
  ·cases h
 ·rename_i cs _ _ hM
  split at h
  ·rename_i hle;exact⟨cs,.inr ⟨_,_,hM⟩,hle,(Option.some.inj h).symm⟩
  ·cases h
 ·cases h
section
variable {P:Program} {S:St} {M:Mem} {post:St→Mem→Prop} {r:List I} {d:Option Nat}
theorem pe_plain{f:Nat→SV}{k:K}{sv:SV}(h:pe f k=some sv):sv.isBox=false:=by
 cases k<;>simp only[pe]at h
 all_goals first
  |(cases h;done)
  |(simp only[Option.map_eq_some_iff]at h;obtain⟨_,_,rfl⟩:=h;rfl)
  |((repeat' split at h)<;>first|(cases h;done)|(simp only[Option.some.injEq]at h;subst h;rfl)|(simp only[Option.map_eq_some_iff]at h;obtain⟨_,_,rfl⟩:=h;rfl))
theorem pe_float{f:Nat→SV}{k:K}{sv:SV}(h:pe f k=some sv):floatK k=true:=by
 cases k<;>simp only[pe]at h<;>first
  |rfl
  |(cases h;done)
theorem vcK_fe{k:K}{sv:SV}(hf:floatK k=true)(h:FE P S M k sv)(hp:post (if sv.isBox then putB S d sv else put S d sv) M):vcK P k d post S M:=by
 cases k<;>first
  |(cases hf;done)
  |exact⟨sv,h,hp⟩
  |(rename_i ow _;cases ow<;>first|(cases hf;done)|exact⟨sv,h,hp⟩)
  |(rename_i ow _ _ _ _;cases ow<;>first|(cases hf;done)|exact⟨sv,h,hp⟩)
theorem wl_nil(h:post S M):vcL P [] post S M:=h
theorem wl_pure{k:K}{sv:SV}(h:pe S k=some sv)(hp:vcL P r post (put S d sv) M):vcL P (⟨d,none,k⟩::r) post S M:=by
 refine vcK_fe (pe_float h) (.inl h) ?_
 rw[pe_plain h];exact hp
theorem wl_add{x y:Operand}{a b:Int}(hx:ev S x=some (.int .i64 a))(hy:ev S y=some (.int .i64 b))(hb: -9223372036854775808≤a+b∧a+b≤9223372036854775807)
 (hp:vcL P r post (put S d (.v (.int .i64 (a+b)))) M):vcL P (⟨d,none,.bin .add x y⟩::r) post S M:=
 wl_pure (sv:=.v (.int .i64 (a+b))) (by simp only[pe,hx,hy,binV,binI,if_true,Option.map_some,IntWalk.i64_in _ hb]) hp
theorem wl_sub{x y:Operand}{a b:Int}(hx:ev S x=some (.int .i64 a))(hy:ev S y=some (.int .i64 b))(hb: -9223372036854775808≤a-b∧a-b≤9223372036854775807)
 (hp:vcL P r post (put S d (.v (.int .i64 (a-b)))) M):vcL P (⟨d,none,.bin .sub x y⟩::r) post S M:=
 wl_pure (sv:=.v (.int .i64 (a-b))) (by simp only[pe,hx,hy,binV,binI,if_true,Option.map_some,IntWalk.i64_in _ hb]) hp
theorem wl_mul{x y:Operand}{a b:Int}(hx:ev S x=some (.int .i64 a))(hy:ev S y=some (.int .i64 b))(hb: -9223372036854775808≤a*b∧a*b≤9223372036854775807)
 (hp:vcL P r post (put S d (.v (.int .i64 (a*b)))) M):vcL P (⟨d,none,.bin .mul x y⟩::r) post S M:=
 wl_pure (sv:=.v (.int .i64 (a*b))) (by simp only[pe,hx,hy,binV,binI,if_true,Option.map_some,IntWalk.i64_in _ hb]) hp
theorem wl_idx{x y:Operand}{size b o len cap:Nat}{k:IntKind}{i:Int}(hx:ev S x=some (.slice (some ⟨b,o,none⟩) len cap))(hy:ev S y=some (.int k i))(hb:0≤i∧i<len)
 (hp:vcL P r post (put S d (.v (.pointer (some ⟨b,o+i.toNat*size,none⟩)))) M):vcL P (⟨d,none,.iaddr size x y⟩::r) post S M:=
 wl_pure (sv:=.v (.pointer (some ⟨b,o+i.toNat*size,none⟩))) (by simp only[pe,hx,hy];rw[if_pos hb]) hp
theorem wl_ld{n:Nat}{x:Operand}{b o:Nat}{v:Value}(hx:lc S x=some (.mm b o))(hv:cell M b o=some v)(hp:vcL P r post (put S d (.v v)) M):vcL P (⟨d,none,.load true n x⟩::r) post S M:=by
 obtain⟨cs,hM,hc⟩:=cell_row hv
 exact vcK_fe (k:=.load true n x) (sv:=.v v) rfl (.inr ⟨b,o,cs,v,hx,hM,by simp[rdv,hc],rfl⟩) hp
theorem wl_lds{n:Nat}{x:Operand}{b o:Nat}{vs:List Value}(hx:lc S x=some (.mm b o))(hv:cells M b o n=some vs)(hp:vcL P r post (put S d (.v (.agg vs.toArray))) M):vcL P (⟨d,none,.load false n x⟩::r) post S M:=by
 obtain⟨cs,hM,hle,rfl⟩:=cells_row hv
 exact vcK_fe (k:=.load false n x) (sv:=.v (.agg ((cs.drop o).take n).toArray)) rfl (.inr ⟨b,o,cs,_,hx,hM,by simp[rdv,hle],rfl⟩) hp
theorem wl_alloc{z:List Value}(hp:vcL P r post (putB S d (.box z)) M):vcL P (⟨d,none,.alloc true z⟩::r) post S M:=
 vcK_fe (k:=.alloc true z) (sv:=.box z) rfl (.inr rfl) hp
theorem wl_box{x:Operand}{v:Value}{cs:List Value}(hx:ev S x=some v)(hc:v.cells.toList=cs)(hp:vcL P r post (putB S d (.box cs)) M):vcL P (⟨d,none,.box true x⟩::r) post S M:=by
 subst hc
 exact vcK_fe (k:=.box true x) (sv:=.box v.cells.toList) rfl (.inr ⟨v,hx,rfl⟩) hp
theorem wl_bsl{len size:Nat}{z cs:List Value}{ps:List (Nat×Nat×Operand)}(hf:fillP S z ps=some cs)(hp:vcL P r post (putB S d (.bsl cs len)) M):vcL P (⟨d,none,.bslice true len size z ps⟩::r) post S M:=
 vcK_fe (k:=.bslice true len size z ps) (sv:=.bsl cs len) rfl (.inr ⟨cs,hf,rfl⟩) hp
theorem wl_q{g:FuncId}{xs:List Operand}{args:List Value}{v:Value}(hx:evs S xs=some args)(hq:Qt P g args M v)(hp:vcL P r post (put S d (.v v)) M):vcL P (⟨d,none,.qcall g xs⟩::r) post S M:=
 vcK_fe (k:=.qcall g xs) (sv:=.v v) rfl (.inr ⟨args,v,hx,hq,rfl⟩) hp
theorem wl_cq{g:FuncId}{xs:List Operand}{args:List Value}{v:Value}(hx:evs S xs=some args)(hq:Qt P g args M v)(hp:vcL P r post (put S d (.v v)) M):vcL P (⟨d,none,.call g xs⟩::r) post S M:=
 ⟨args,hx,hq.mono fun v' M' ⟨e1,e2⟩=>by subst e1;subst e2;exact hp⟩
theorem wl_c{g:FuncId}{xs:List Operand}{args:List Value}{q:Value→Mem→Prop}(hx:evs S xs=some args)(hq:Fn P g args M q)(hp:∀v M',q v M'→vcL P r post (put S d (.v v)) M'):vcL P (⟨d,none,.call g xs⟩::r) post S M:=
 ⟨args,hx,hq.mono hp⟩
theorem wl_cv{g:FuncId}{x:Operand}{u c:Array Value}{xs:List Operand}{args:List Value}{q:Value→Mem→Prop}(hf:ev S x=some (.func (.func g) u c))(hok:fnOk P g=true)(hx:evs S xs=some args)(hq:Fn P g (u.toList++args++c.toList) M q)(hp:∀v M',q v M'→vcL P r post (put S d (.v v)) M'):
 vcL P (⟨d,none,.callv x xs⟩::r) post S M:=
 ⟨g,u,c,args,hf,hok,hx,hq.mono hp⟩
theorem wl_stb{n:Nat}{x y:Operand}{s o:Nat}{cs cs':List Value}{v:Value}(hx:lc S x=some (.bx s o))(hb:S s=.box cs)(hy:ev S y=some v)(hn:v.cells.size=n)(hpl:plainCells v.cells.toList=true)(hle:o+n≤cs.length)
 (hw:wr cs o v.cells.toList=cs') (hp:vcL P r post (upF S s (.box cs')) M):vcL P (⟨d,none,.store n x y⟩::r) post S M:=by
 subst hw
 exact⟨v,hy,hn,hpl,.inl ⟨s,o,cs,hx,hb,hle,hp⟩⟩
theorem wl_stm{n:Nat}{x y:Operand}{b o:Nat}{cs:List Value}{v:Value}(hx:lc S x=some (.mm b o))(hb:M b=some (.row cs))(hy:ev S y=some v)(hn:v.cells.size=n)(hpl:plainCells v.cells.toList=true)(hle:o+n≤cs.length)
 (hp:vcL P r post S (M.upd b (.row (wr cs o v.cells.toList)))):vcL P (⟨d,none,.store n x y⟩::r) post S M:=
 ⟨v,hy,hn,hpl,.inr ⟨b,o,cs,hx,hb,hle,hp⟩⟩
theorem wl_gy{s:Nat}{w:Bool}{k:K}{b:Bool}(hs:S s=.v (.bool b))(hb:b=w)(hp:vcL P (⟨d,none,k⟩::r) post S M):vcL P (⟨d,some (s,w),k⟩::r) post S M:=by
 show vcO P _ _ S M
 unfold vcO
 simp only[hs]
 exact⟨fun _=>hp,fun h=>absurd hb h⟩
theorem wl_gn{s:Nat}{w:Bool}{k:K}{b:Bool}(hs:S s=.v (.bool b))(hb:b= !w)(hp:vcL P r post (put S d (.v undef)) M):vcL P (⟨d,some (s,w),k⟩::r) post S M:=by
 show vcO P _ _ S M
 unfold vcO
 simp only[hs]
 refine⟨fun h=>?_,fun _=>hp⟩
 subst h;cases b<;>cases hb
theorem wl_gu{s:Nat}{w:Bool}{k:K}(hs:S s=.v undef)(hp:vcL P r post (put S d (.v undef)) M):vcL P (⟨d,some (s,w),k⟩::r) post S M:=by
 show vcO P _ _ S M
 unfold vcO
 simp only[hs]
 exact hp
theorem upF_self{S:St}{s:Nat}{x:SV}(h:S s=x):upF S s x=S:=by
 funext t
 rw[upF_eq]
 by_cases e:t=s
 ·rw[if_pos e,e,h]
 ·rw[if_neg e]
theorem wl_gs{s:Nat}{w:Bool}{k:K}{b:Bool}(hs:S s=.v (.bool b))(h1:b=true→vcL P (⟨d,some (s,w),k⟩::r) post (upF S s (.v (.bool true))) M)(h2:b=false→vcL P (⟨d,some (s,w),k⟩::r) post (upF S s (.v (.bool false))) M):vcL P (⟨d,some (s,w),k⟩::r) post S M:=by
 cases b
 ·have:=h2 rfl;rwa [upF_self hs]at this
 ·have:=h1 rfl;rwa [upF_self hs]at this
structure VL (P:Program) (l:List I) (post:St→Mem→Prop) (S:St) (M:Mem):Prop where
 out:vcL P l post S M
theorem vl_nil(h:post S M):VL P [] post S M:=
 ⟨wl_nil h⟩
theorem vl_pure{k:K}{sv:SV}(h:pe S k=some sv)(hp:VL P r post (put S d sv) M):VL P (⟨d,none,k⟩::r) post S M:=
 ⟨wl_pure h hp.out⟩
theorem vl_add{x y:Operand}{a b:Int}(hx:ev S x=some (.int .i64 a))(hy:ev S y=some (.int .i64 b))(hb: -9223372036854775808≤a+b∧a+b≤9223372036854775807)
 (hp:VL P r post (put S d (.v (.int .i64 (a+b)))) M):VL P (⟨d,none,.bin .add x y⟩::r) post S M:=
 ⟨wl_add hx hy hb hp.out⟩
theorem vl_sub{x y:Operand}{a b:Int}(hx:ev S x=some (.int .i64 a))(hy:ev S y=some (.int .i64 b))(hb: -9223372036854775808≤a-b∧a-b≤9223372036854775807)
 (hp:VL P r post (put S d (.v (.int .i64 (a-b)))) M):VL P (⟨d,none,.bin .sub x y⟩::r) post S M:=
 ⟨wl_sub hx hy hb hp.out⟩
theorem vl_mul{x y:Operand}{a b:Int}(hx:ev S x=some (.int .i64 a))(hy:ev S y=some (.int .i64 b))(hb: -9223372036854775808≤a*b∧a*b≤9223372036854775807)
 (hp:VL P r post (put S d (.v (.int .i64 (a*b)))) M):VL P (⟨d,none,.bin .mul x y⟩::r) post S M:=
 ⟨wl_mul hx hy hb hp.out⟩
theorem vl_idx{x y:Operand}{size b o len cap:Nat}{k:IntKind}{i:Int}(hx:ev S x=some (.slice (some ⟨b,o,none⟩) len cap))(hy:ev S y=some (.int k i))(hb:0≤i∧i<len)
 (hp:VL P r post (put S d (.v (.pointer (some ⟨b,o+i.toNat*size,none⟩)))) M):VL P (⟨d,none,.iaddr size x y⟩::r) post S M:=
 ⟨wl_idx hx hy hb hp.out⟩
theorem vl_ld{n:Nat}{x:Operand}{b o:Nat}{v:Value}(hx:lc S x=some (.mm b o))(hv:cell M b o=some v)(hp:VL P r post (put S d (.v v)) M):VL P (⟨d,none,.load true n x⟩::r) post S M:=
 ⟨wl_ld hx hv hp.out⟩
theorem vl_lds{n:Nat}{x:Operand}{b o:Nat}{vs:List Value}(hx:lc S x=some (.mm b o))(hv:cells M b o n=some vs)(hp:VL P r post (put S d (.v (.agg vs.toArray))) M):VL P (⟨d,none,.load false n x⟩::r) post S M:=
 ⟨wl_lds hx hv hp.out⟩
theorem vl_alloc{z:List Value}(hp:VL P r post (putB S d (.box z)) M):VL P (⟨d,none,.alloc true z⟩::r) post S M:=
 ⟨wl_alloc hp.out⟩
theorem vl_box{x:Operand}{v:Value}{cs:List Value}(hx:ev S x=some v)(hc:v.cells.toList=cs)(hp:VL P r post (putB S d (.box cs)) M):VL P (⟨d,none,.box true x⟩::r) post S M:=
 ⟨wl_box hx hc hp.out⟩
theorem vl_bsl{len size:Nat}{z cs:List Value}{ps:List (Nat×Nat×Operand)}(hf:fillP S z ps=some cs)(hp:VL P r post (putB S d (.bsl cs len)) M):VL P (⟨d,none,.bslice true len size z ps⟩::r) post S M:=
 ⟨wl_bsl hf hp.out⟩
theorem vl_q{g:FuncId}{xs:List Operand}{args:List Value}{v:Value}(hx:evs S xs=some args)(hq:Qt P g args M v)(hp:VL P r post (put S d (.v v)) M):VL P (⟨d,none,.qcall g xs⟩::r) post S M:=
 ⟨wl_q hx hq hp.out⟩
theorem vl_cq{g:FuncId}{xs:List Operand}{args:List Value}{v:Value}(hx:evs S xs=some args)(hq:Qt P g args M v)(hp:VL P r post (put S d (.v v)) M):VL P (⟨d,none,.call g xs⟩::r) post S M:=
 ⟨wl_cq hx hq hp.out⟩
theorem vl_c{g:FuncId}{xs:List Operand}{args:List Value}{q:Value→Mem→Prop}(hx:evs S xs=some args)(hq:Fn P g args M q)(hp:∀v M',q v M'→VL P r post (put S d (.v v)) M'):VL P (⟨d,none,.call g xs⟩::r) post S M:=
 ⟨wl_c hx hq (fun v M' hq=>(hp v M' hq).out)⟩
theorem vl_cv{g:FuncId}{x:Operand}{u c:Array Value}{xs:List Operand}{args:List Value}{q:Value→Mem→Prop}(hf:ev S x=some (.func (.func g) u c))(hok:fnOk P g=true)(hx:evs S xs=some args)(hq:Fn P g (u.toList++args++c.toList) M q)(hp:∀v M',q v M'→VL P r post (put S d (.v v)) M'):
 VL P (⟨d,none,.callv x xs⟩::r) post S M:=
 ⟨wl_cv hf hok hx hq (fun v M' hq=>(hp v M' hq).out)⟩
theorem vl_stb{n:Nat}{x y:Operand}{s o:Nat}{cs cs':List Value}{v:Value}(hx:lc S x=some (.bx s o))(hb:S s=.box cs)(hy:ev S y=some v)(hn:v.cells.size=n)(hpl:plainCells v.cells.toList=true)(hle:o+n≤cs.length)
 (hw:wr cs o v.cells.toList=cs') (hp:VL P r post (upF S s (.box cs')) M):VL P (⟨d,none,.store n x y⟩::r) post S M:=
 ⟨wl_stb hx hb hy hn hpl hle hw hp.out⟩
theorem vl_stm{n:Nat}{x y:Operand}{b o:Nat}{cs:List Value}{v:Value}(hx:lc S x=some (.mm b o))(hb:M b=some (.row cs))(hy:ev S y=some v)(hn:v.cells.size=n)(hpl:plainCells v.cells.toList=true)(hle:o+n≤cs.length)
 (hp:VL P r post S (M.upd b (.row (wr cs o v.cells.toList)))):VL P (⟨d,none,.store n x y⟩::r) post S M:=
 ⟨wl_stm hx hb hy hn hpl hle hp.out⟩
theorem vl_gy{s:Nat}{w:Bool}{k:K}{b:Bool}(hs:S s=.v (.bool b))(hb:b=w)(hp:VL P (⟨d,none,k⟩::r) post S M):VL P (⟨d,some (s,w),k⟩::r) post S M:=
 ⟨wl_gy hs hb hp.out⟩
theorem vl_gn{s:Nat}{w:Bool}{k:K}{b:Bool}(hs:S s=.v (.bool b))(hb:b= !w)(hp:VL P r post (put S d (.v undef)) M):VL P (⟨d,some (s,w),k⟩::r) post S M:=
 ⟨wl_gn hs hb hp.out⟩
theorem vl_gu{s:Nat}{w:Bool}{k:K}(hs:S s=.v undef)(hp:VL P r post (put S d (.v undef)) M):VL P (⟨d,some (s,w),k⟩::r) post S M:=
 ⟨wl_gu hs hp.out⟩
theorem vl_gs{s:Nat}{w:Bool}{k:K}{b:Bool}(hs:S s=.v (.bool b))(h1:b=true→VL P (⟨d,some (s,w),k⟩::r) post (upF S s (.v (.bool true))) M)(h2:b=false→VL P (⟨d,some (s,w),k⟩::r) post (upF S s (.v (.bool false))) M):VL P (⟨d,some (s,w),k⟩::r) post S M:=
 ⟨wl_gs hs (fun h=>(h1 h).out) (fun h=>(h2 h).out)⟩
end
section
variable {E:Env}
theorem VC.regV{l:List I}{Q:X→St→Mem→Prop}{S:St}{M:Mem}(h:VL E.P l (Q .nrm) S M):VC E (.reg l) Q S M:=VC.reg h.out
theorem VC.dregV{n:Nat}{l:List I}{Q:X→St→Mem→Prop}{S:St}{M:Mem}(h:VL E.P l (Q .nrm) (fun t=>junkD (dsOf l n) (S t)) M):VC E (.dreg n l) Q S M:=VC.dreg h.out
theorem Fn.of'{f:FuncId}{fn:Func}{c:C}{rl:List RV}(hf:E.P.funcs[f]?=some fn)(ht:fn.body.bind (trC E)=some c)(hn:fn.ntmps=E.nt)(hr:fn.results.toList.mapM (trR E.P)=some rl)(hm:E.P.follows .mixedOrders=true)
 {args:List Value} {M:Mem} {post:Value→Mem→Prop} (hl:args.length≤E.nt) (h:VC E c (fnQ rl post) (initS args E.nt) M):Fn E.P f args M post:=by
 rw[Option.bind_eq_some_iff]at ht
 obtain⟨code,hb,ht⟩:=ht
 exact Fn.of hf hb hn ht hr hm hl h
theorem fnQ_r{rl:List RV}{S:St}{M M':Mem}{v:Value}{post:Value→Mem→Prop}(h:resV S M rl=some v)(hM:M'.le M)(hp:post v M'):fnQ rl post .ret S M:=⟨v,M',h,hM,hp⟩
structure SetK (cs:List Value) (n:Nat) (v:Value) (K:List Value→Prop):Prop where
 out:K (cs.set n v)
theorem sk_zero{x v:Value}{r:List Value}{K:List Value→Prop}(h:K (v::r)):SetK (x::r) 0 v K:=⟨h⟩
theorem sk_succ{x v:Value}{r:List Value}{n:Nat}{K:List Value→Prop}(h:SetK r n v (fun r'=>K (x::r'))):SetK (x::r) (n+1) v K:=⟨h.out⟩
structure WrK (cs:List Value) (o:Nat) (vs:List Value) (K:List Value→Prop):Prop where
 out:K (wr cs o vs)
theorem wk_nil{cs:List Value}{o:Nat}{K:List Value→Prop}(h:K cs):WrK cs o [] K:=⟨h⟩
theorem wk_cons{cs r:List Value}{x:Value}{o:Nat}{K:List Value→Prop}(h:SetK cs o x (fun c=>WrK c (o+1) r K)):WrK cs o (x::r) K:=⟨h.out.out⟩
theorem vl_stw{P:Program}{S:St}{M:Mem}{post:St→Mem→Prop}{r:List I}{d:Option Nat}{n:Nat}{x y:Operand}{s o:Nat}{cs:List Value}{v:Value}(hx:lc S x=some (.bx s o))(hb:S s=.box cs)(hy:ev S y=some v)(hn:v.cells.size=n)(hpl:plainCells v.cells.toList=true)(hle:o+n≤cs.length)
 (hw:WrK cs o v.cells.toList (fun cs'=>VL P r post (upF S s (.box cs')) M)):VL P (⟨d,none,.store n x y⟩::r) post S M:=
 vl_stb hx hb hy hn hpl hle rfl hw.out
theorem seqQ_n{K:St→Mem→Prop}{Q:X→St→Mem→Prop}{S:St}{M:Mem}(h:K S M):seqQ K Q .nrm S M:=h
theorem seqQ_r{K:St→Mem→Prop}{Q:X→St→Mem→Prop}{S:St}{M:Mem}(h:Q .ret S M):seqQ K Q .ret S M:=h
theorem blkQ_r{Q:X→St→Mem→Prop}{S:St}{M:Mem}{id:Nat}(h:Q .ret S M):blkQ id Q .ret S M:=h
theorem q_end{v r:Value}{M:Mem}(h:v=r):v=r∧M=M:=⟨h,rfl⟩
end
structure Word where
 kind:Int
 num:Int
 at_:Int
structure Pair where
 key:Word
 val:Word
structure Cell where
 state:Int
 kind:Int
 weak:Int
 last:Int
 born:Int
 color:Int
 to:Int
 pairs:List Pair
structure Heap where
 room:Int
 used:Int
 born:Int
 regs:List Word
 cells:List Cell
 phase:Int
 hand:Int
 sub:Int
 gray:List Int
 per:Int
 start:Int
 rounds:Int
 forced:Int
structure Act where
 op:Int
 a:Int
 b:Int
 c:Int
 n:Int
def av(a:Act):List Value:=[.int .i64 a.op,.int .i64 a.a,.int .i64 a.b,.int .i64 a.c,.int .i64 a.n]
def wv(w:Word):List Value:=[.int .i64 w.kind,.int .i64 w.num,.int .i64 w.at_]
def pv(p:Pair):List Value:=[.int .i64 p.key.kind,.int .i64 p.key.num,.int .i64 p.key.at_,.int .i64 p.val.kind,.int .i64 p.val.num,.int .i64 p.val.at_]
def cv(c:Cell)(sa:Option Addr)(cap:Nat):List Value:=[.int .i64 c.state,.int .i64 c.kind,.int .i64 c.weak,.int .i64 c.last,.int .i64 c.born,.int .i64 c.color,.int .i64 c.to,.slice sa c.pairs.length cap]
def hv(H:Heap)(rs cs gs:Value):List Value:=[.int .i64 H.room,.int .i64 H.used,.int .i64 H.born,rs,cs,.int .i64 H.phase,.int .i64 H.hand,.int .i64 H.sub,gs,.int .i64 H.per,.int .i64 H.start,.int .i64 H.rounds,.int .i64 H.forced]
def iv(n:Int):List Value:=[.int .i64 n]
def bv(b:Bool):List Value:=[.bool b]
def Sl(M:Mem)(size:Nat){α:Type}(f:α→List Value)(v:Value)(xs:List α):Prop:=
 (∃c,v=.slice none 0 c∧c=0∧xs=[])∨
 ∃b o cap row,v=.slice (some ⟨b,o,none⟩) xs.length cap∧M b=some (.row row)∧xs.length≤cap∧xs.length≤140737488355328∧o+cap*size≤row.length∧(row.drop o).take (xs.length*size)=xs.flatMap f
theorem flat_get{α:Type}{f:α→List Value}{size:Nat}(hs:∀x,(f x).length=size):∀(xs:List α) (i:Nat) (x:α),xs[i]?=some x→((xs.flatMap f).drop (i*size)).take size=f x
 |[],i,x,h=>by simp at h
 |y::r,0,x,h=>by
  simp only[List.getElem?_cons_zero,Option.some.injEq]at h
  subst h
  simp only[Nat.zero_mul,List.drop_zero,List.flatMap_cons]
  rw[List.take_append_of_le_length (by rw[hs];exact Nat.le_refl _)]
  rw[←hs y,List.take_length]
 |y::r,i+1,x,h=>by
  simp only[List.getElem?_cons_succ]at h
  rw[List.flatMap_cons,Nat.succ_mul,Nat.add_comm,←List.drop_drop]
  have:(f y++List.flatMap f r).drop size=List.flatMap f r:=by rw[←hs y,List.drop_left]
  rw[this]
  exact flat_get hs r i x h
theorem flat_len{α:Type}{f:α→List Value}{size:Nat}(hs:∀x,(f x).length=size)(xs:List α):(xs.flatMap f).length=xs.length*size:=by
 induction xs with
 |nil=>simp
 |cons x r ih=>rw[List.flatMap_cons,List.length_append,hs,ih,List.length_cons,Nat.succ_mul,Nat.add_comm]
section
variable {M M':Mem} {α:Type} {f:α→List Value} {size:Nat} {v:Value} {xs:List α}
theorem Sl.len(h:Sl M size f v xs):∃a cap,v=.slice a xs.length cap:=by
 rcases h with⟨c,rfl,rfl,rfl⟩|⟨b,o,cap,row,rfl,_⟩
 ·exact⟨none,0,rfl⟩
 ·exact⟨_,cap,rfl⟩
theorem Sl.le(h:Sl M size f v xs)(l:M.le M'):Sl M' size f v xs:=by
 rcases h with h|⟨b,o,cap,row,h1,h2,h3⟩
 ·exact .inl h
 ·exact .inr ⟨b,o,cap,row,h1,l _ _ h2,h3⟩
theorem Sl.at(hs:∀x,(f x).length=size)(h:Sl M size f v xs){i:Int}(h0:0≤i)(h1:i<xs.length){x:α}(hx:xs[i.toNat]?=some x):
 ∃b o cap,v=.slice (some ⟨b,o,none⟩) xs.length cap∧cells M b (o+i.toNat*size) size=some (f x):=by
 rcases h with⟨c,rfl,rfl,rfl⟩|⟨b,o,cap,row,rfl,hM,hc,_,hr,he⟩
 ·simp at h1;omega
 ·refine⟨b,o,cap,rfl,?_⟩
  have hi:i.toNat<xs.length:=by omega
  have hmul:(i.toNat+1)*size≤cap*size:=Nat.mul_le_mul_right _ (by omega)
  rw[Nat.succ_mul]at hmul
  unfold cells
  rw[hM]
  simp only
  rw[if_pos (by omega)]
  congr 1
  rw[←flat_get hs xs i.toNat x hx,←he,←List.drop_drop,List.drop_take,List.take_take]
  congr 1
  have hmul2:(i.toNat+1)*size≤xs.length*size:=Nat.mul_le_mul_right _ (by omega)
  rw[Nat.succ_mul]at hmul2
  omega
end
theorem cells_cell{M:Mem}{b o n:Nat}{vs:List Value}(h:cells M b o n=some vs){j:Nat}{v:Value}(hj:vs[j]?=some v):cell M b (o+j)=some v:=by
 obtain⟨cs,hM,hle,rfl⟩:=cells_row h
 unfold cell
 rw[List.getElem?_take]at hj
 split at hj
 ·rw[List.getElem?_drop]at hj
  rcases hM with hM|⟨_,_,hM⟩<;>rw[hM]<;>exact hj
 ·cases hj
theorem row_cell{M:Mem}{b:Nat}{cs:List Value}(h:M b=some (.row cs))(j:Nat):cell M b j=cs[j]?:=by
 unfold cell;rw[h]
structure CS where
 c:Cell
 sa:Option Addr
 cap:Nat
def CS.s(x:CS):Value:=.slice x.sa x.c.pairs.length x.cap
def csv(x:CS):List Value:=cv x.c x.sa x.cap
structure RH (M:Mem) (a:Nat) (H:Heap):Prop where
 out:∃rs cs gs,∃(xs:List CS),M a=some (.row (hv H rs cs gs))∧Sl M 3 wv rs H.regs∧Sl M 8 csv cs xs∧xs.map (·.c)=H.cells∧Sl M 1 iv gs H.gray∧∀x,x∈xs→Sl M 6 pv x.s x.c.pairs
theorem RH.le{M M':Mem}{a:Nat}{H:Heap}(h:RH M a H)(l:M.le M'):RH M' a H:=by
 obtain⟨rs,cs,gs,xs,h1,h2,h3,h4,h5,h6⟩:=h.out
 exact⟨rs,cs,gs,xs,l _ _ h1,h2.le l,h3.le l,h4,h5.le l,fun x hx=>(h6 x hx).le l⟩
def Heap.getC(H:Heap)(i:Int):Cell:=H.cells.getD i.toNat ⟨0,0,0,0,0,0,0,[]⟩
theorem RH.cellAt{M:Mem}{a:Nat}{H:Heap}(h:RH M a H){i:Int}(h0:0≤i)(h1:i<H.cells.length):
 ∃rs gs b o cap sa sc,M a=some (.row (hv H rs (.slice (some ⟨b,o,none⟩) H.cells.length cap) gs))∧cells M b (o+i.toNat*8) 8=some (cv (H.getC i) sa sc)∧Sl M 6 pv (.slice sa (H.getC i).pairs.length sc) (H.getC i).pairs:=by
 obtain⟨rs,cs,gs,xs,g1,g2,g3,g4,g5,g6⟩:=h.out
 have hl:xs.length=H.cells.length:=by rw[←g4];simp
 have hi:i.toNat<xs.length:=by omega
 obtain⟨x,hx⟩:∃x,xs[i.toNat]?=some x:=⟨_,List.getElem?_eq_getElem hi⟩
 obtain⟨b,o,cap,rfl,hc⟩:=g3.at (f:=csv) (fun _=>rfl) h0 (by omega) hx
 have hxc:H.getC i=x.c:=by
  unfold Heap.getC
  rw[←g4,List.getD_eq_getElem?_getD,List.getElem?_map,hx];rfl
 rw[hl]at g1
 exact⟨rs,gs,b,o,cap,x.sa,x.cap,g1,by rw[hxc];exact hc,by rw[hxc];exact g6 x (List.mem_of_getElem? hx)⟩
def Off(M:Mem)(b:Nat)(M':Mem):Prop:=∀c,c≠b→M' c=M c
theorem Off.upd(M:Mem)(b:Nat)(k:Bk):Off M b (M.upd b k):=fun c h=>Mem.upd_ne _ _ h
theorem Off.le{M M':Mem}{b:Nat}(h:Off M b M')(hb:M b=none):M.le M':=fun c k e=>by
 rw[h c (fun e'=>by subst e';rw[hb]at e;cases e)];exact e
theorem Off.keep{M0 M M':Mem}{b:Nat}(h:Off M b M')(l:M0.le M)(hb:M0 b=none):M0.le M':=fun c k e=>by
 rw[h c (fun e'=>by subst e';rw[hb]at e;cases e)];exact l c k e
theorem Off.trans{A B C:Mem}{b:Nat}(h:Off A b B)(k:Off B b C):Off A b C:=fun c e=>(k c e).trans (h c e)
def own:Value→List Nat
 |.slice (some a) _ _=>[a.block]
 |_=>[]
section
variable {M M':Mem} {α:Type} {f:α→List Value} {size:Nat} {v:Value} {xs:List α}
theorem Sl.bound(h:Sl M size f v xs):xs.length≤140737488355328:=by
 rcases h with⟨c,rfl,rfl,rfl⟩|⟨b,o,cap,row,rfl,hM,hc,h2,hr,he⟩
 ·simp
 ·omega
theorem Sl.off(h:Sl M size f v xs){b:Nat}(o:Off M b M')(hb:b∉own v):Sl M' size f v xs:=by
 rcases h with h|⟨b',o',cap,row,rfl,hM,h3⟩
 ·exact .inl h
 ·refine .inr ⟨b',o',cap,row,rfl,?_,h3⟩
  rw[o b' (fun e=>hb (by simp[own,e]))];exact hM
theorem Sl.at2{sa:Option Addr}{n cap:Nat}(h:Sl M size f (.slice sa n cap) xs)(hs:∀x,(f x).length=size){i:Nat}{x:α}(hx:xs[i]?=some x):
 ∃b o,sa=some ⟨b,o,none⟩∧cells M b (o+i*size) size=some (f x):=by
 have hi:=(List.getElem?_eq_some_iff.1 hx).1
 obtain⟨b,o,cap',e,hc⟩:=h.at hs (i:=(i:Int)) (by omega) (by omega) hx
 cases e
 exact⟨b,o,rfl,hc⟩
theorem Sl.nil:Sl M size f (.slice none 0 0) ([]:List α):=.inl ⟨0,rfl,rfl,rfl⟩
end
def SlR(M:Mem)(size:Nat){α:Type}(f:α→List Value)(v:Value)(xs:List α):Prop:=
 (∃a c,v=.slice a 0 c∧xs=[])∨
 ∃b o cap row,v=.slice (some ⟨b,o,none⟩) xs.length cap∧(M b=some (.row row)∨∃t fr,M b=some (.ro row t fr))∧xs.length≤9223372036854775807∧o+xs.length*size≤row.length∧(row.drop o).take (xs.length*size)=xs.flatMap f
section
variable {M M':Mem} {α:Type} {f:α→List Value} {size:Nat} {v:Value} {xs:List α}
theorem Sl.r(h:Sl M size f v xs):SlR M size f v xs:=by
 rcases h with⟨c,h1,h2,h3⟩|⟨b,o,cap,row,rfl,hM,hc,h2,hr,he⟩
 ·exact .inl ⟨_,_,h1,h3⟩
 ·exact .inr ⟨b,o,cap,row,rfl,.inl hM,by omega,by have:=Nat.mul_le_mul_right size hc;omega,he⟩
theorem SlR.le(h:SlR M size f v xs)(l:M.le M'):SlR M' size f v xs:=by
 rcases h with h|⟨b,o,cap,row,h1,h2,h3⟩
 ·exact .inl h
 ·exact .inr ⟨b,o,cap,row,h1,h2.imp (l _ _) (fun⟨t,fr,e⟩=>⟨t,fr,l _ _ e⟩),h3⟩
theorem SlR.len(h:SlR M size f v xs):∃a cap,v=.slice a xs.length cap:=by
 rcases h with⟨a,c,rfl,rfl⟩|⟨b,o,cap,row,rfl,_⟩
 ·exact⟨a,c,rfl⟩
 ·exact⟨_,cap,rfl⟩
theorem SlR.bound(h:SlR M size f v xs):xs.length≤9223372036854775807:=by
 rcases h with⟨a,c,rfl,rfl⟩|⟨b,o,cap,row,rfl,hM,h2,hr,he⟩
 ·simp
 ·omega
theorem SlR.at2{sa:Option Addr}{n cap:Nat}(h:SlR M size f (.slice sa n cap) xs)(hs:∀x,(f x).length=size){i:Nat}{x:α}(hx:xs[i]?=some x):
 ∃b o,sa=some ⟨b,o,none⟩∧cells M b (o+i*size) size=some (f x):=by
 have hi:=(List.getElem?_eq_some_iff.1 hx).1
 rcases h with⟨a,c,e,rfl⟩|⟨b,o,cap,row,e,hM,h2,hr,he⟩
 ·simp at hi
 ·cases e
  refine⟨b,o,rfl,?_⟩
  have hmul2:(i+1)*size≤xs.length*size:=Nat.mul_le_mul_right _ (by omega)
  rw[Nat.succ_mul]at hmul2
  have key:(if o+i*size+size≤row.length then some ((row.drop (o+i*size)).take size)else none)=some (f x):=by
   rw[if_pos (by omega)]
   congr 1
   rw[←flat_get hs xs i x hx,←he,←List.drop_drop,List.drop_take,List.take_take]
   congr 1
   omega
  unfold cells
  rcases hM with hM|⟨_,_,hM⟩<;>rw[hM]<;>exact key
end
theorem wr_append_left(vs:List Value):∀(cs ds:List Value) (o:Nat),o+vs.length≤cs.length→wr (cs++ds) o vs=wr cs o vs++ds:=by
 induction vs with
 |nil=>intros;rfl
 |cons x r ih=>
  intro cs ds o h
  simp only[List.length_cons]at h
  simp only[wr]
  rw[List.set_append_left _ _ (by omega),ih _ _ _ (by simp;omega)]
theorem wr_append_right(vs:List Value):∀(cs ds:List Value) (o:Nat),cs.length≤o→wr (cs++ds) o vs=cs++wr ds (o-cs.length) vs:=by
 induction vs with
 |nil=>intros;rfl
 |cons x r ih=>
  intro cs ds o h
  simp only[wr]
  rw[List.set_append_right _ _ h,ih _ _ _ (by omega),show o+1-cs.length=o-cs.length+1 by omega]
theorem wr_all(vs:List Value):∀(cs:List Value),cs.length=vs.length→wr cs 0 vs=vs:=by
 intro cs h
 apply List.ext_getElem?
 intro j
 rw[wr_get _ _ _ _ (by omega)]
 by_cases hj:j<vs.length
 ·rw[if_pos (by omega)];simp
 ·rw[if_neg (by omega),List.getElem?_eq_none (by omega),List.getElem?_eq_none (by omega)]
theorem flat_wr{α:Type}{f:α→List Value}{size:Nat}(hs:∀x,(f x).length=size){j:Nat}{vs:List Value}(hj:j+vs.length≤size):
 ∀(xs:List α) (i:Nat) (x x':α),xs[i]?=some x→f x'=wr (f x) j vs→wr (xs.flatMap f) (i*size+j) vs=(xs.set i x').flatMap f
 |[],i,x,x',h,_=>by simp at h
 |y::r,0,x,x',h,hx=>by
  simp only[List.getElem?_cons_zero,Option.some.injEq]at h
  subst h
  simp only[Nat.zero_mul,Nat.zero_add,List.flatMap_cons,List.set_cons_zero]
  rw[wr_append_left _ _ _ _ (by rw[hs];exact hj),hx]
 |y::r,i+1,x,x',h,hx=>by
  simp only[List.getElem?_cons_succ]at h
  simp only[List.flatMap_cons,List.set_cons_succ]
  rw[wr_append_right _ _ _ _ (by rw[hs,Nat.succ_mul];omega),hs,←flat_wr hs hj r i x x' h hx]
  congr 2
  rw[Nat.succ_mul];omega
theorem wr_drop(vs:List Value):∀(cs:List Value) (o d:Nat),(wr cs (o+d) vs).drop o=wr (cs.drop o) d vs:=by
 induction vs with
 |nil=>intros;rfl
 |cons x r ih=>
  intro cs o d
  simp only[wr]
  rw[show o+d+1=o+(d+1) by omega,ih,List.drop_set,if_neg (by omega),show o+d-o=d by omega]
theorem wr_take(vs:List Value):∀(cs:List Value) (o n:Nat),o+vs.length≤n→(wr cs o vs).take n=wr (cs.take n) o vs:=by
 induction vs with
 |nil=>intros;rfl
 |cons x r ih=>
  intro cs o n h
  simp only[List.length_cons]at h
  simp only[wr]
  rw[ih _ _ _ (by omega),List.take_set]
section
variable {M M':Mem} {α:Type} {f:α→List Value} {size:Nat} {v:Value} {xs:List α}
theorem Sl.wr{b o n cap:Nat}(h:Sl M size f (.slice (some ⟨b,o,none⟩) n cap) xs)(hs:∀x,(f x).length=size){i j:Nat}{x x':α}{vs:List Value}(hx:xs[i]?=some x)(hj:j+vs.length≤size)(hf:f x'=E.wr (f x) j vs):
 ∃row,M b=some (.row row)∧o+i*size+j+vs.length≤row.length∧Sl (M.upd b (.row (E.wr row (o+i*size+j) vs))) size f (.slice (some ⟨b,o,none⟩) n cap) (xs.set i x'):=by
 rcases h with⟨c,e,_⟩|⟨b',o',cap',row,e,hM,hc,h2,hr,he⟩
 ·cases e
 ·cases e
  have hi:=(List.getElem?_eq_some_iff.1 hx).1
  have hm:(i+1)*size≤xs.length*size:=Nat.mul_le_mul_right _ (by omega)
  have hm2:xs.length*size≤cap*size:=Nat.mul_le_mul_right _ hc
  rw[Nat.succ_mul]at hm
  refine⟨row,hM,by omega,.inr ⟨b,o,cap,_,by simp,Mem.upd_same _ _ _,by simp;exact hc,by simp;exact h2,by rw[wr_length];exact hr,?_⟩⟩
  rw[Nat.add_assoc,wr_drop,List.length_set,wr_take _ _ _ _ (by omega),he,flat_wr hs hj xs i x x' hx hf]
end
section
variable {P:Program} {S:St} {M:Mem} {post:St→Mem→Prop} {r:List I} {d:Option Nat}
theorem vl_sts{α:Type}{f:α→List Value}{size:Nat}{xs:List α}{n cap:Nat}{w:Nat}{x y:Operand}{b o i j:Nat}{v:Value}{e:α}(e':α)
 (h:Sl M size f (.slice (some ⟨b,o,none⟩) n cap) xs) (hs:∀x,(f x).length=size) (hi:xs[i]?=some e)
 (hx:lc S x=some (.mm b (o+i*size+j))) (hy:ev S y=some v) (hn:v.cells.size=w) (hpl:plainCells v.cells.toList=true) (hj:j+v.cells.toList.length≤size) (hf:f e'=wr (f e) j v.cells.toList)
 (hp:∀M',Off M b M'→Sl M' size f (.slice (some ⟨b,o,none⟩) n cap) (xs.set i e')→VL P r post S M'):VL P (⟨d,none,.store w x y⟩::r) post S M:=by
 obtain⟨row,hM,hle,hsl⟩:=h.wr hs hi hj hf
 refine vl_stm hx hM hy hn hpl ?_ (hp _ (Off.upd _ _ _) hsl)
 simp only[Array.length_toList]at hle;omega
theorem zrep_flat{α:Type}{f:α→List Value}(z:α)(n:Nat):zrep (f z) n=(List.replicate n z).flatMap f:=by
 unfold zrep
 induction n with
 |zero=>rfl
 |succ n ih=>simp only[List.replicate_succ,List.flatten_cons,List.flatMap_cons,ih]
theorem vl_mks{α:Type}{f:α→List Value}{size bytes:Nat}{z:List Value}(e:α){l c:Operand}{n m:Nat}(hs:∀x,(f x).length=size)(hz:f e=z)
 (hl:ev S l=some (.int .i64 n)) (hc:ev S c=some (.int .i64 m)) (hnm:n≤m) (hb:m*bytes≤140737488355328) (hb2:m≤140737488355328)
 (hp:∀b M',M b=none→Off M b M'→Sl M' size f (.slice (some ⟨b,0,none⟩) n m) (List.replicate n e)→VL P r post (put S d (.v (.slice (some ⟨b,0,none⟩) n m))) M'):VL P (⟨d,none,.mkslice size bytes z l c⟩::r) post S M:=by
 refine⟨⟨n,m,hl,hc,hnm,hb,hb2,fun b hMb=>(hp b _ hMb (Off.upd _ _ _) ?_).out⟩⟩
 refine .inr ⟨b,0,m,_,by simp,Mem.upd_same _ _ _,by simpa using hnm,by simp;omega,?_,?_⟩
 ·subst hz;rw[zrep_flat,flat_len hs];simp
 ·subst hz
  rw[zrep_flat,List.drop_zero,List.length_replicate]
  have:(List.replicate m e).flatMap f=(List.replicate n e).flatMap f++(List.replicate (m-n) e).flatMap f:=by
   rw[←List.flatMap_append,List.replicate_append_replicate,show n+(m-n)=m by omega]
  rw[this,List.take_left' (by rw[flat_len hs];simp)]
def AppE(M:Mem)(v:Value)(v':Value)(M':Mem):Prop:=(M'=M∧own v'=own v)∨∃b,Off M b M'∧own v'=[b]∧(own v=[b]∨M b=none)
theorem appM_sl{α:Type}{f:α→List Value}{size bytes:Nat}{v:Value}{xs zs:List α}{post:Value→Mem→Prop}(hs:∀x,(f x).length=size)(h:Sl M size f v xs)(hs0:0<size)(hby:0<bytes)
 (hb:(xs.length+zs.length)*bytes≤140737488355328)
 (hp:∀v' M',AppE M v v' M'→Sl M' size f v' (xs++zs)→post v' M'):appM M size bytes v (zs.flatMap f) zs.length post:=by
 have hlz:(zs.flatMap f).length=zs.length*size:=flat_len hs zs
 have hlx:(xs.flatMap f).length=xs.length*size:=flat_len hs xs
 have hle:xs.length+zs.length≤140737488355328:=Nat.le_trans (Nat.le_mul_of_pos_right _ hby) hb
 rcases h with⟨c,rfl,rfl,rfl⟩|⟨b,o,cap,row,rfl,hM,hc,h2,hr,he⟩
 ·refine⟨rfl,rfl,by simpa using hb,?_⟩
  by_cases hz:zs=[]
  ·subst hz
   exact .inl ⟨rfl,hp _ _ (.inl ⟨rfl,rfl⟩) (.inl ⟨0,rfl,rfl,rfl⟩)⟩
  ·refine .inr ⟨List.length_pos_iff.2 hz,fun b cap' ys hMb hk hy=>hp _ _ (.inr ⟨b,Off.upd _ _ _,rfl,.inr hMb⟩) (.inr ⟨b,0,cap',_,by simp,Mem.upd_same _ _ _,by simpa using hk,by simp at hle⊢;exact hle,?_,?_⟩)⟩
   ·have:cap'*size=zs.length*size+(cap'-zs.length)*size:=by rw[←Nat.add_mul];congr 1;omega
    rw[List.length_append,hlz,hy,this];omega
   ·rw[List.drop_zero,List.nil_append,←hlz,List.take_left]
 ·refine⟨row,hM,hb,?_⟩
  have hcs:xs.length*size≤cap*size:=Nat.mul_le_mul_right _ hc
  by_cases hfit:xs.length+zs.length≤cap
  ·have hm:(xs.length+zs.length)*size≤cap*size:=Nat.mul_le_mul_right _ hfit
   have hm2:=hm
   rw[Nat.add_mul]at hm2
   refine .inl ⟨hfit,by omega,hp _ _ (.inr ⟨b,Off.upd _ _ _,rfl,.inl rfl⟩) (.inr ⟨b,o,cap,_,by simp,Mem.upd_same _ _ _,by simpa using hfit,by simpa using hle,by rw[wr_length];exact hr,?_⟩)⟩
   rw[wr_drop,List.flatMap_append,List.length_append,Nat.add_mul]
   have hdl:(row.drop o).length=row.length-o:=List.length_drop
   apply List.ext_getElem?
   intro j
   rw[List.getElem?_take,wr_get _ _ _ _ (by rw[hlz,hdl];omega),List.getElem?_append,hlx,hlz]
   have hx:∀j,j<xs.length*size→(row.drop o)[j]?=(xs.flatMap f)[j]?:=fun j hj=>by rw[←he,List.getElem?_take,if_pos hj]
   by_cases h1:j<xs.length*size
   ·rw[if_pos (by omega),if_neg (by omega),if_pos h1,hx j h1]
   ·by_cases h3:j<xs.length*size+zs.length*size
    ·rw[if_pos h3,if_pos (by omega),if_neg h1]
    ·rw[if_neg h3,if_neg h1,List.getElem?_eq_none (by omega)]
  ·refine .inr ⟨by omega,by omega,fun b' cap' ys hMb hk hy=>hp _ _ (.inr ⟨b',Off.upd _ _ _,rfl,.inr hMb⟩) (.inr ⟨b',0,cap',_,by simp,Mem.upd_same _ _ _,by simpa using hk,by simpa using hle,?_,?_⟩)⟩
   ·have:cap'*size=(xs.length+zs.length)*size+(cap'-(xs.length+zs.length))*size:=by rw[←Nat.add_mul];congr 1;omega
    rw[he,List.length_append,List.length_append,hlx,hlz,hy,this,Nat.add_mul];omega
   ·rw[he,List.drop_zero,List.flatMap_append,List.length_append,Nat.add_mul]
    rw[List.take_left' (by rw[List.length_append,hlx,hlz])]
end
end Go.Proofs.YtpleoapljeffiaaGreatDoor.E
namespace Go.Proofs.YtpleoapljeffiaaGreatDoor.E
open Go Go.RowKit
def memOf(W:World):Mem:=fun b=>
 match W.heap[b]? with
 |some (.cells cs t fr)=>some (.ro cs.toList t fr)
 |_=>none
theorem memOf_sat(W:World):Sat W (memOf W):=by
 intro b k h
 unfold memOf at h
 split at h
 ·rename_i cs t fr e
  cases h
  show W.heap[b]?=_
  rw[e]
 ·cases h
theorem memOf_cells{W:World}{b:Nat}{cs:Array Value}{t:TypeId}{fr:Nat×Nat}(h:W.heap[b]?=some (.cells cs t fr)):memOf W b=some (.ro cs.toList t fr):=by
 unfold memOf;rw[h]
theorem row_of{P:Program}{f:FuncId}{args:List Value}{W:World}{r:Value}(h:Fn P f args (memOf W) (fun v M'=>v=r∧(memOf W).le M')):
 Calls P f args.toArray W (fun e W'=>e=.returned r∧Below W.heap.size W W'):=by
 refine(h.out W (memOf_sat W)).mono ?_
 rintro e W' ⟨v,M',rfl,⟨rfl,hle⟩,hs,st⟩
 refine⟨rfl,⟨st.os,st.tape,st.output,st.size,fun k hk=>?_⟩⟩
 cases e:memOf W k with
 |none=>exact st.keep k hk e
 |some x=>
  have h2:=hs _ _ (hle _ _ e)
  unfold memOf at e
  split at e
  ·rename_i cs t fr e'
   cases e
   rw[e']
   exact h2
  ·cases e
section
variable {H:Type} {enc:TypeId×Value→H} {P:Program} {W:World} {spare:Nat→Bool} {held:Bool}
def fsOf(P:Program)(t:TypeId):Array Field:=
 match P.underlying t with
 |some (.struct fs)=>fs
 |_=> #[]
theorem open_struct{t:TypeId}{fuel:Nat}{cs:List Value}{x:DataW H×List MemPlace}{l:List (TypeId×Nat)}(ht:P.underlying t=some (.struct (fsOf P t)))(hl:(fsOf P t).toList.map (fun f=>(f.type,f.offset))=l)
 (h:DataW.trod enc P W 0 spare held fuel t cs=some x):cs.length=P.cellsOf t∧∃n,∀(i:Nat) u o,l[i]?=some (u,o)→∃y,DataW.trod enc P W 0 spare held n u ((cs.drop o).take (P.cellsOf u))=some y:=by
 obtain⟨xs,n,_,_,hlen,hx,hf⟩:=DataW.trod_struct ht h
 refine⟨hlen,n,fun i u o hi=>?_⟩
 subst hl
 rw[List.getElem?_map]at hi
 cases hg:(fsOf P t).toList[i]? with
 |none=>rw[hg]at hi;cases hi
 |some f=>
  rw[hg]at hi
  simp only[Option.map_some,Option.some.injEq,Prod.mk.injEq]at hi
  obtain⟨rfl,rfl⟩:=hi
  have hg':(fsOf P t)[i]?=some f:=by rw[←Array.getElem?_toList];exact hg
  have hi:=(Array.getElem?_eq_some_iff.1 hg').1
  refine⟨xs[i]'(by omega),?_⟩
  rw[hf i f hg',List.getElem?_eq_getElem (by omega)]
theorem cells_heap{a:Addr}{n:Nat}{cs:List Value}(h:W.cells? 0 a n=some cs)(hn:0<n):∃c t fr,a.spot=none∧W.heap[a.block]?=some (.cells c t fr)∧cs.length=n∧∀j,j<n→c[a.off+j]?=cs[j]?∧a.off+j<c.size:=by
 obtain⟨_,hlen,hc⟩:=World.cells?_some h
 have key:∀j,j<n→W.cell? (a.add j)=cs[j]?:=fun j hj=>hc j hj
 have h0:=key 0 hn
 have e0:a.add 0=a:=by unfold Addr.add;simp
 rw[e0,List.getElem?_eq_getElem (by omega)]at h0
 unfold World.cell? at h0
 split at h0
 ·rename_i c t fr hh
  split at h0
  ·cases h0
  ·rename_i hs
   have hsn:a.spot=none:=by cases e:a.spot with
    |none=>rfl
    |some _=>rw[e]at hs;simp at hs
   refine⟨c,t,fr,hsn,hh,hlen,fun j hj=>?_⟩
   have hk:=key j hj
   have ea:a.add j=⟨a.block,a.off+j,none⟩:=by
    cases a with
    |mk b o s=>simp only at hsn;subst hsn;exact add_none b o j
   rw[ea]at hk
   simp only[World.cell?,hh]at hk
   simp at hk
   refine⟨hk,?_⟩
   rw[List.getElem?_eq_getElem (by omega)]at hk
   exact(Array.getElem?_eq_some_iff.1 hk).1
 ·cases h0
theorem flat_of{α:Type}{f:α→List Value}{size:Nat}(hs:∀x,(f x).length=size)(row:List Value)(o:Nat)(X:Nat→α):∀n,(∀i,i<n→∀j,j<size→row[o+i*size+j]?=(f (X i))[j]?)→
 (row.drop o).take (n*size)=((List.range n).map X).flatMap f
 |0,_=>by simp
 |n+1,h=>by
  have ih:=flat_of hs row o X n (fun i hi j hj=>h i (by omega) j hj)
  rw[List.range_succ,List.map_append,List.flatMap_append,←ih,Nat.succ_mul,List.take_add]
  congr 1
  simp only[List.map_cons,List.map_nil,List.flatMap_cons,List.flatMap_nil,List.append_nil]
  apply List.ext_getElem?
  intro j
  rw[List.getElem?_take]
  split
  ·rename_i hj
   rw[List.drop_drop,List.getElem?_drop]
   exact h n (by omega) j hj
  ·rename_i hj
   rw[List.getElem?_eq_none (by rw[hs];omega)]
theorem open_sl{α:Type}[Inhabited α]{f:α→List Value}{size:Nat}{Q:α→Prop}{t e:TypeId}{fuel:Nat}{cs:List Value}{x:DataW H×List MemPlace}(hs:∀x,(f x).length=size)(hs0:0<size)
 (ht:P.underlying t=some (.slice e)) (hc:P.cellsOf e=size) (he:∀n cs y,DataW.trod enc P W 0 spare held n e cs=some y→∃x,cs=f x∧Q x)
 (h:DataW.trod enc P W 0 spare held fuel t cs=some x):∃v xs,cs=[v]∧SlR (memOf W) size f v xs∧∀x,x∈xs→Q x:=by
 rcases Deep.open_slice ht h with⟨rfl,_⟩|⟨a,len,cap,m,n,D,Pl,rfl,_,hlc,hcm,hm,_,hel⟩
 ·exact⟨_,[],rfl,.inl ⟨none,0,rfl,rfl⟩,by simp⟩
 ·have hlm:len≤m:=by rw[hm];split<;>omega
  obtain⟨X,hX⟩:=Deep.choose_lt (n:=len) (p:=fun i y=>W.cells? 0 (a.add (i*size)) size=some (f y)∧Q y) (fun i hi=>by
   obtain⟨cs',h1,h2⟩:=hel i (by omega)
   obtain⟨y,rfl,hq⟩:=he _ _ _ h2
   rw[hc]at h1
   exact⟨y,h1,hq⟩)
  refine⟨_,(List.range len).map X,rfl,?_,?_⟩
  ·by_cases h0:len=0
   ·subst h0;exact .inl ⟨_,_,rfl,rfl⟩
   ·obtain⟨c,u,fr,hsp,hh,_,_⟩:=cells_heap (hX 0 (by omega)).1 hs0
    have e0:a.add (0*size)=a:=by unfold Addr.add;simp
    rw[e0]at hsp hh
    have ea:a=⟨a.block,a.off,none⟩:=by cases a;simp only at hsp;subst hsp;rfl
    have hcell:∀i,i<len→∀j,j<size→c.toList[a.off+i*size+j]?=(f (X i))[j]?∧a.off+i*size+j<c.size:=by
     intro i hi j hj
     obtain⟨c',u',fr',hsp',hh',_,hj'⟩:=cells_heap (hX i hi).1 hs0
     have e1:a.add (i*size)=⟨a.block,a.off+i*size,none⟩:=by rw[ea];exact add_none _ _ _
     rw[e1]at hh' hj'
     rw[hh]at hh'
     cases hh'
     obtain⟨k1,k2⟩:=hj' j hj
     exact⟨by rw[Array.getElem?_toList];exact k1,k2⟩
    have hlast:=(hcell (len-1) (by omega) (size-1) (by omega)).2
    have hml:(len-1)*size+size=len*size:=by rw[←Nat.succ_mul];congr 1;omega
    refine .inr ⟨a.block,a.off,cap,c.toList,?_,.inr ⟨u,fr,memOf_cells hh⟩,?_,?_,?_⟩
    ·rw[←ea];simp
    ·simp;simp[maxLen]at hcm;omega
    ·simp only[List.length_map,List.length_range,Array.length_toList];omega
    ·simp only[List.length_map,List.length_range]
     exact flat_of hs _ _ X len (fun i hi j hj=>(hcell i hi j hj).1)
  ·intro y hy
   obtain⟨i,hi,rfl⟩:=List.mem_map.1 hy
   exact(hX i (by simpa using hi)).2
theorem take_one{cs:List Value}{o:Nat}{x:Value}(h:(cs.drop o).take 1=[x]):cs[o]?=some x:=by
 have:=congrArg (·[0]?) h
 simpa [List.getElem?_take,List.getElem?_drop]using this
end
end Go.Proofs.YtpleoapljeffiaaGreatDoor.E
set_option maxRecDepth 100000
namespace Go.Proofs.YtpleoapljeffiaaGreatDoor.E
open Go Go.ChangeShapes Go.WideShapes Go.ChangeAt Go.RowKit
theorem und_int:Tryz.prog.underlying 3=some (.int .i64):=by kernel_rfl
theorem und_int64:Tryz.prog.underlying 2=some (.int .i64):=by kernel_rfl
theorem cof_int:Tryz.prog.cellsOf 3=1:=by kernel_rfl
theorem cof_int64:Tryz.prog.cellsOf 2=1:=by kernel_rfl
theorem und_bool:Tryz.prog.underlying 4=some .bool:=by kernel_rfl
theorem ownknob:ownKnob Tryz.prog.godebug=none:=by kernel_rfl
theorem laid:laidOutB Tryz.prog=true:=by kernel_rfl
section
variable {H:Type} {enc:TypeId×Value→H} {W:World} {spare:Nat→Bool} {held:Bool}
theorem open_i{n:Nat}{cs:List Value}{o:Nat}{y:DataW H×List MemPlace}(h:DataW.trod enc Tryz.prog W 0 spare held n 3 ((cs.drop o).take (Tryz.prog.cellsOf 3))=some y):∃k,cs[o]?=some (.int .i64 k):=by
 obtain⟨k,e,_⟩:=DataW.trod_int und_int h
 rw[cof_int]at e
 exact⟨k,take_one e⟩
theorem open_i64{n:Nat}{cs:List Value}{o:Nat}{y:DataW H×List MemPlace}(h:DataW.trod enc Tryz.prog W 0 spare held n 2 ((cs.drop o).take (Tryz.prog.cellsOf 2))=some y):∃k,cs[o]?=some (.int .i64 k):=by
 obtain⟨k,e,_⟩:=DataW.trod_int und_int64 h
 rw[cof_int64]at e
 exact⟨k,take_one e⟩
end
section
variable {H:Type} {enc:TypeId×Value→H} {P:Program} {W:World} {spare:Nat→Bool} {held:Bool}
theorem open_slD{α:Type}[Inhabited α]{f:α→List Value}{size:Nat}{R:DataW H→α→Prop}{t e:TypeId}{fuel:Nat}{cs:List Value}{ds sp:List (DataW H)}{pl:List MemPlace}(hs:∀x,(f x).length=size)(hs0:0<size)
 (ht:P.underlying t=some (.slice e)) (hc:P.cellsOf e=size) (he:∀n cs y,DataW.trod enc P W 0 spare held n e cs=some y→∃x,cs=f x∧R y.1 x)
 (h:DataW.trod enc P W 0 spare held fuel t cs=some (.slice ds sp,pl)):∃v xs,cs=[v]∧SlR (memOf W) size f v xs∧xs.length=ds.length∧∀(i:Nat) d y,ds[i]?=some d→xs[i]?=some y→R d y:=by
 rcases Deep.open_slice ht h with⟨rfl,h0⟩|⟨a,len,cap,m,n,D,Pl,rfl,_,hlc,hcm,hm,hx,hel⟩
 ·cases h0
 ·simp only[Prod.mk.injEq,DataW.slice.injEq]at hx
  obtain⟨⟨hds,_⟩,_⟩:=hx
  have hlm:len≤m:=by rw[hm];split<;>omega
  obtain⟨X,hX⟩:=Deep.choose_lt (n:=len) (p:=fun i y=>W.cells? 0 (a.add (i*size)) size=some (f y)∧R (D i) y) (fun i hi=>by
   obtain⟨cs',h1,h2⟩:=hel i (by omega)
   obtain⟨y,rfl,hq⟩:=he _ _ _ h2
   rw[hc]at h1
   exact⟨y,h1,hq⟩)
  refine⟨_,(List.range len).map X,rfl,?_,by rw[hds];simp,?_⟩
  ·by_cases h0:len=0
   ·subst h0;exact .inl ⟨_,_,rfl,rfl⟩
   ·obtain⟨c,u,fr,hsp,hh,_,_⟩:=cells_heap (hX 0 (by omega)).1 hs0
    have e0:a.add (0*size)=a:=by unfold Addr.add;simp
    rw[e0]at hsp hh
    have ea:a=⟨a.block,a.off,none⟩:=by cases a;simp only at hsp;subst hsp;rfl
    have hcell:∀i,i<len→∀j,j<size→c.toList[a.off+i*size+j]?=(f (X i))[j]?∧a.off+i*size+j<c.size:=by
     intro i hi j hj
     obtain⟨c',u',fr',hsp',hh',_,hj'⟩:=cells_heap (hX i hi).1 hs0
     have e1:a.add (i*size)=⟨a.block,a.off+i*size,none⟩:=by rw[ea];exact add_none _ _ _
     rw[e1]at hh' hj'
     rw[hh]at hh'
     cases hh'
     obtain⟨k1,k2⟩:=hj' j hj
     exact⟨by rw[Array.getElem?_toList];exact k1,k2⟩
    have hlast:=(hcell (len-1) (by omega) (size-1) (by omega)).2
    have hml:(len-1)*size+size=len*size:=by rw[←Nat.succ_mul];congr 1;omega
    refine .inr ⟨a.block,a.off,cap,c.toList,?_,.inr ⟨u,fr,memOf_cells hh⟩,?_,?_,?_⟩
    ·rw[←ea];simp
    ·simp;simp[maxLen]at hcm;omega
    ·simp only[List.length_map,List.length_range,Array.length_toList];omega
    ·simp only[List.length_map,List.length_range]
     exact flat_of hs _ _ X len (fun i hi j hj=>(hcell i hi j hj).1)
  ·intro i d y hd hy
   rw[hds,List.getElem?_map]at hd
   rw[List.getElem?_map]at hy
   cases hr:(List.range len)[i]? with
   |none=>rw[hr]at hd;cases hd
   |some k=>
    rw[hr]at hd hy
    simp only[Option.map_some,Option.some.injEq]at hd hy
    subst hd;subst hy
    have:k<len:=List.mem_range.1 (List.mem_of_getElem? hr)
    exact(hX k this).2
end
structure Form where
 nm:ByteArray
 a:Int
 b:Int
 c:Int
 n:Bool
instance:Inhabited Form:=⟨⟨⟨#[]⟩,0,0,0,false⟩⟩
def fmV(f:Form):List Value:=[.string f.nm,.int .i64 f.a,.int .i64 f.b,.int .i64 f.c,.bool f.n]
def fmD{H:Type}(f:Form):DataW H:=.agg [.lit (.string f.nm.data.toList),.lit (.int .i64 f.a),.lit (.int .i64 f.b),.lit (.int .i64 f.c),.lit (.bool f.n)]
theorem und_form:Tryz.prog.underlying 137=some (.struct (fsOf Tryz.prog 137)):=by kernel_rfl
theorem fs_form:(fsOf Tryz.prog 137).toList.map (fun f=>(f.type,f.offset))=[(9,0),(3,1),(3,2),(3,3),(4,4)]:=by kernel_rfl
theorem und_forms:Tryz.prog.underlying 138=some (.slice 137):=by kernel_rfl
theorem cof_form:Tryz.prog.cellsOf 137=5:=by kernel_rfl
theorem fund_int:Tryz.prog.underlying 3=some (.int .i64):=by kernel_rfl
theorem fund_str:Tryz.prog.underlying 9=some .string:=by kernel_rfl
theorem fund_bool:Tryz.prog.underlying 4=some .bool:=by kernel_rfl
theorem fcof_int:Tryz.prog.cellsOf 3=1:=by kernel_rfl
theorem fcof_str:Tryz.prog.cellsOf 9=1:=by kernel_rfl
theorem fcof_bool:Tryz.prog.cellsOf 4=1:=by kernel_rfl
section
variable {H:Type} {enc:TypeId×Value→H} {W:World} {spare:Nat→Bool} {held:Bool}
theorem open_form:∀n cs y,DataW.trod enc Tryz.prog W 0 spare held n 137 cs=some y→∃x,cs=fmV x∧y.1=fmD x:=by
 intro n cs y h
 obtain⟨xs,k,_,rfl,hl,hlen,hf⟩:=DataW.trod_struct und_form h
 have hfs:=fs_form
 have hget:∀(i:Nat) u o,[(9,0),(3,1),(3,2),(3,3),(4,4)][i]?=some (u,o)→DataW.trod enc Tryz.prog W 0 spare held k u ((cs.drop o).take (Tryz.prog.cellsOf u))=xs[i]?:=fun i u o hi=>by
  rw[←hfs,List.getElem?_map]at hi
  cases hg:(fsOf Tryz.prog 137).toList[i]? with
  |none=>rw[hg]at hi;cases hi
  |some f=>
   rw[hg]at hi
   simp only[Option.map_some,Option.some.injEq,Prod.mk.injEq]at hi
   obtain⟨rfl,rfl⟩:=hi
   exact hf i f (by rw[←Array.getElem?_toList];exact hg)
 have hx5:xs.length=5:=by
  rw[hlen,←Array.length_toList]
  have:=congrArg List.length hfs
  rw[List.length_map]at this;exact this
 match xs,hx5,hget with
 |[x0,x1,x2,x3,x4],_,hget=>
  obtain⟨s,a0,b0,_⟩:=DataW.trod_string fund_str (hget 0 _ _ rfl)
  obtain⟨i1,a1,b1,_⟩:=DataW.trod_int fund_int (hget 1 _ _ rfl)
  obtain⟨i2,a2,b2,_⟩:=DataW.trod_int fund_int (hget 2 _ _ rfl)
  obtain⟨i3,a3,b3,_⟩:=DataW.trod_int fund_int (hget 3 _ _ rfl)
  obtain⟨b4,a4,c4⟩:=DataW.trod_bool fund_bool (hget 4 _ _ rfl)
  rw[fcof_str]at a0
  rw[fcof_int]at a1 a2 a3
  rw[fcof_bool]at a4
  have e0:=take_one a0
  have e1:=take_one a1
  have e2:=take_one a2
  have e3:=take_one a3
  have e4:=take_one a4
  refine⟨⟨s,i1,i2,i3,b4⟩,?_,by subst b0;subst b1;subst b2;subst b3;subst c4;rfl⟩
  have hl5:cs.length=5:=by rw[hl];exact cof_form
  match cs,hl5,e0,e1,e2,e3,e4 with
  |[v0,v1,v2,v3,v4],_,e0,e1,e2,e3,e4=>
   simp only[List.getElem?_cons_zero,List.getElem?_cons_succ,Option.some.injEq]at e0 e1 e2 e3 e4
   subst e0;subst e1;subst e2;subst e3;subst e4;rfl
end
end Go.Proofs.YtpleoapljeffiaaGreatDoor.E
namespace Go.Proofs.YtpleoapljeffiaaGreatDoor.E
open Go
abbrev Asr:=Mem→Prop
def star:List Asr→Asr
 |[],m=>m=emp
 |A::r,m=>∃a b,Disj a b∧m=a.un b∧A a∧star r b
theorem star_append{As Bs:List Asr}:∀{m:Mem},star (As++Bs) m↔∃a b,Disj a b∧m=a.un b∧star As a∧star Bs b:=by
 induction As with
 |nil=>
  intro m
  constructor
  ·intro h;exact⟨emp,m,fun _=>.inl rfl,(emp_un m).symm,rfl,h⟩
  ·rintro⟨a,b,d,rfl,rfl,h⟩;rw[emp_un];exact h
 |cons A r ih=>
  intro m
  constructor
  ·rintro⟨a,b,d,rfl,hA,h⟩
   obtain⟨c,e,d2,rfl,h1,h2⟩:=ih.1 h
   obtain⟨d3,d4⟩:=disj_un.1 d
   exact⟨a.un c,e,disj_un'.2 ⟨d4,d2⟩,(un_assoc _ _ _).symm,⟨a,c,d3,rfl,hA,h1⟩,h2⟩
  ·rintro⟨x,e,d,rfl,⟨a,c,d2,rfl,hA,h1⟩,h2⟩
   obtain⟨d3,d4⟩:=disj_un'.1 d
   exact⟨a,c.un e,disj_un.2 ⟨d2,d3⟩,un_assoc _ _ _,hA,ih.2 ⟨c,e,d4,rfl,h1,h2⟩⟩
theorem star_swap{A B:Asr}{r:List Asr}{m:Mem}(h:star (A::B::r) m):star (B::A::r) m:=by
 obtain⟨a,x,d,rfl,hA,b,c,d2,rfl,hB,hr⟩:=h
 obtain⟨d3,d4⟩:=disj_un.1 d
 refine⟨b,a.un c,disj_un.2 ⟨d3.symm,d2⟩,?_,hB,a,c,d4,rfl,hA,hr⟩
 rw[←un_assoc,un_comm d3,un_assoc]
theorem star_cons_mono{A B:Asr}{r s:List Asr}{m:Mem}(h:star (A::r) m)(h1:∀m,A m→B m)(h2:∀m,star r m→star s m):star (B::s) m:=by
 obtain⟨a,b,d,e,hA,hr⟩:=h
 exact⟨a,b,d,e,h1 _ hA,h2 _ hr⟩
structure Pk (As:List Asr) (A:Asr) (r:List Asr):Prop where
 out:∀m,star As m→star (A::r) m
theorem pk_h{A:Asr}{r:List Asr}:Pk (A::r) A r:=⟨fun _ h=>h⟩
theorem pk_t{A B:Asr}{r r':List Asr}(h:Pk r A r'):Pk (B::r) A (B::r'):=
 ⟨fun m hm=>star_swap (star_cons_mono hm (fun _ h=>h) h.out)⟩
structure Pm (As As1 F:List Asr):Prop where
 out:∀m,star As m→star (As1++F) m
theorem pm_nil{F:List Asr}:Pm F [] F:=⟨fun _ h=>h⟩
theorem pm_cons{As As' As1 F:List Asr}{A:Asr}(h:Pk As A As')(h2:Pm As' As1 F):Pm As (A::As1) F:=
 ⟨fun m hm=>star_cons_mono (h.out m hm) (fun _ h=>h) h2.out⟩
structure Ent (As Bs:List Asr):Prop where
 out:∀m,star As m→∃m',m'.le m∧star Bs m'
theorem Ent.refl(As:List Asr):Ent As As:=⟨fun m h=>⟨m,Mem.le_refl _,h⟩⟩
theorem Pm.ent{As As1 F:List Asr}(h:Pm As As1 F):Ent As As1:=⟨fun m hm=>by
 obtain⟨a,b,d,rfl,h1,h2⟩:=star_append.1 (h.out m hm)
 exact⟨a,le_l _ _,h1⟩⟩
theorem Ent.trans{A B C:List Asr}(h:Ent A B)(k:Ent B C):Ent A C:=⟨fun m hm=>by
 obtain⟨m1,l1,s1⟩:=h.out m hm
 obtain⟨m2,l2,s2⟩:=k.out m1 s1
 exact⟨m2,Mem.le_trans l2 l1,s2⟩⟩
def upQ(Q:X→St→List Asr→Prop):X→St→Mem→Prop:=fun x S M=>∃As m,m.le M∧star As m∧Q x S As
structure VA (E:Env) (c:C) (Q:X→St→List Asr→Prop) (S:St) (As:List Asr):Prop where
 out:∀m,star As m→VC E c (upQ Q) S m
def upP(post:St→List Asr→Prop):St→Mem→Prop:=fun S M=>∃As m,m.le M∧star As m∧post S As
structure LA (P:Program) (l:List I) (post:St→List Asr→Prop) (S:St) (As:List Asr):Prop where
 out:∀m,star As m→VL P l (upP post) S m
structure FnA (P:Program) (f:FuncId) (args:List Value) (As:List Asr) (post:Value→List Asr→Prop):Prop where
 out:∀m,star As m→Fn P f args m (fun v M'=>∃As' m',m'.le M'∧star As' m'∧post v As')
theorem FnA.mono{P:Program}{f:FuncId}{args:List Value}{As:List Asr}{post post':Value→List Asr→Prop}(h:FnA P f args As post)(k:∀v As',post v As'→post' v As'):FnA P f args As post':=
 ⟨fun m hm=>(h.out m hm).mono fun v M' ⟨As',m',l,s,p⟩=>⟨As',m',l,s,k _ _ p⟩⟩
theorem FnA.frame{P:Program}{f:FuncId}{args:List Value}{As F:List Asr}{post:Value→List Asr→Prop}(h:FnA P f args As post):FnA P f args (As++F) (fun v As'=>∃As1,post v As1∧As'=As1++F):=
 ⟨fun m hm=>by
   obtain⟨a,b,d,rfl,h1,h2⟩:=star_append.1 hm
   refine((h.out a h1).frame d).mono ?_
   rintro v M' ⟨m',⟨As',m1,l1,s1,hp⟩,hd,rfl⟩
   have hd1:Disj m1 b:=fun x=>by
    rcases hd x with e|e
    ·left
     cases h:m1 x with
     |none=>rfl
     |some k=>rw[l1 x k h]at e;cases e
    ·exact .inr e
   refine⟨As'++F,m1.un b,?_,star_append.2 ⟨m1,b,hd1,rfl,s1,h2⟩,As',hp,rfl⟩
   intro x k hk
   cases h:m1 x with
   |some k1=>rw[un_l h]at hk;cases hk;exact un_l (l1 x _ h)
   |none=>rw[un_n h]at hk;exact un_r hd hk⟩
theorem FnA.ent{P:Program}{f:FuncId}{args:List Value}{As Bs:List Asr}{post:Value→List Asr→Prop}(h:FnA P f args Bs post)(e:Ent As Bs):FnA P f args As post:=
 ⟨fun m hm=>by obtain⟨m',l,s⟩:=e.out m hm;exact(h.out m' s).le l⟩
theorem upP_of{post:St→List Asr→Prop}{S:St}{As:List Asr}{m:Mem}(s:star As m)(h:post S As):upP post S m:=⟨As,m,Mem.le_refl _,s,h⟩
theorem vcK_mono{P:Program}{c:K}{d:Option Nat}{p p':St→Mem→Prop}(k:∀S M,p S M→p' S M){S:St}{M:Mem}(h:vcK P c d p S M):vcK P c d p' S M:=by
 have am:∀{size bytes:Nat} {s:Value} {src:List Value} {n:Nat} {q q':Value→Mem→Prop},(∀v M,q v M→q' v M)→appM M size bytes s src n q→appM M size bytes s src n q':=by
  intro size bytes s src n q q' kq h
  unfold appM at*
  split at h
  ·obtain⟨h1,h2,h3,h4⟩:=h
   refine⟨h1,h2,h3,?_⟩
   rcases h4 with⟨h5,h6⟩|⟨h5,h6⟩
   ·exact .inl ⟨h5,kq _ _ h6⟩
   ·exact .inr ⟨h5,fun b c z e1 e2 e3=>kq _ _ (h6 b c z e1 e2 e3)⟩
  ·obtain⟨cs,h1,h2,h4⟩:=h
   refine⟨cs,h1,h2,?_⟩
   rcases h4 with⟨h5,h6,h7⟩|⟨h5,h6,h7⟩
   ·exact .inl ⟨h5,h6,kq _ _ h7⟩
   ·exact .inr ⟨h5,h6,fun b c z e1 e2 e3=>kq _ _ (h7 b c z e1 e2 e3)⟩
  ·exact h
 cases c
 case call=>obtain⟨args,h1,h2⟩:=h;exact⟨args,h1,h2.mono fun v M' h=>k _ _ h⟩
 case callv=>obtain⟨g,u,c,args,h1,h2,h3,h4⟩:=h;exact⟨g,u,c,args,h1,h2,h3,h4.mono fun v M' h=>k _ _ h⟩
 case store=>
  obtain⟨v,h1,h2,h3,h4⟩:=h
  refine⟨v,h1,h2,h3,?_⟩
  rcases h4 with⟨s,o,cs,a1,a2,a3,a4⟩|⟨b,o,cs,a1,a2,a3,a4⟩
  ·exact .inl ⟨s,o,cs,a1,a2,a3,k _ _ a4⟩
  ·exact .inr ⟨b,o,cs,a1,a2,a3,k _ _ a4⟩
 case alloc ow z=>
  cases ow with
  |false=>exact fun b hb=>k _ _ (h b hb)
  |true=>obtain⟨sv,h1,h2⟩:=h;exact⟨sv,h1,k _ _ h2⟩
 case box ow x=>
  cases ow with
  |false=>obtain⟨v,h1,h2⟩:=h;exact⟨v,h1,fun b hb=>k _ _ (h2 b hb)⟩
  |true=>obtain⟨sv,h1,h2⟩:=h;exact⟨sv,h1,k _ _ h2⟩
 case bslice ow len size z ps=>
  cases ow with
  |false=>obtain⟨v,h1,h2⟩:=h;exact⟨v,h1,fun b hb=>k _ _ (h2 b hb)⟩
  |true=>obtain⟨sv,h1,h2⟩:=h;exact⟨sv,h1,k _ _ h2⟩
 case mkslice=>obtain⟨n,m,h1,h2,h3,h4,h5,h6⟩:=h;exact⟨n,m,h1,h2,h3,h4,h5,fun b hb=>k _ _ (h6 b hb)⟩
 case app=>obtain⟨sv,src,n,h1,h2,h3,h4⟩:=h;exact⟨sv,src,n,h1,h2,h3,am (fun _ _ h=>k _ _ h) h4⟩
 case appz=>obtain⟨sv,n,h1,h2,h3,h4,h5⟩:=h;exact⟨sv,n,h1,h2,h3,h4,am (fun _ _ h=>k _ _ h) h5⟩
 case mkmap=>exact fun b hb=>k _ _ (h b hb)
 case mupd=>obtain⟨b,es,c,j,v,h1,h2,h3,h4,h5,h6⟩:=h;exact⟨b,es,c,j,v,h1,h2,h3,h4,h5,k _ _ h6⟩
 case mdel=>obtain⟨b,es,c,j,h1,h2,h3,h4,h5⟩:=h;exact⟨b,es,c,j,h1,h2,h3,h4,k _ _ h5⟩
 all_goals (obtain⟨sv,h1,h2⟩:=h;exact⟨sv,h1,k _ _ h2⟩)
theorem vcO_mono{P:Program}{i:I}{p p':St→Mem→Prop}(k:∀S M,p S M→p' S M){S:St}{M:Mem}(h:vcO P i p S M):vcO P i p' S M:=by
 unfold vcO at*
 split at h
 ·exact vcK_mono k h
 ·split at h
  ·exact⟨fun e=>vcK_mono k (h.1 e),fun e=>k _ _ (h.2 e)⟩
  ·exact k _ _ h
  ·exact h
theorem VL.mono{P:Program}{l:List I}{post post':St→Mem→Prop}(k:∀S M,post S M→post' S M){S:St}{M:Mem}(h:VL P l post S M):VL P l post' S M:=by
 refine⟨?_⟩
 have h:=h.out
 revert S M
 induction l with
 |nil=>intro S M _ h;exact k S M h
 |cons i r ih=>
  intro S M _ h
  have ih':∀S M,vcL P r post S M→vcL P r post' S M:=fun S M h=>ih ⟨h⟩ h
  show vcO P i (vcL P r post') S M
  have h:vcO P i (vcL P r post) S M:=h
  exact vcO_mono ih' h
section
variable {E:Env} {Q:X→St→List Asr→Prop} {S:St} {As Bs:List Asr} {K:St→List Asr→Prop}
def seqA(K:St→List Asr→Prop)(Q:X→St→List Asr→Prop):X→St→List Asr→Prop
 |.nrm=>K
 |x=>Q x
def blkA(id:Nat)(Q:X→St→List Asr→Prop):X→St→List Asr→Prop
 |.ext i=>if i=id then Q .nrm else Q (.ext i)
 |x=>Q x
theorem VA.ent{c:C}(e:Ent As Bs)(h:VA E c Q S Bs):VA E c Q S As:=
 ⟨fun m hm=>by obtain⟨m',l,s⟩:=e.out m hm;exact VC.drop l (h.out m' s)⟩
theorem v_reg{l:List I}(h:LA E.P l (Q .nrm) S As):VA E (.reg l) Q S As:=
 ⟨fun m hm=>VC.regV (h.out m hm)⟩
theorem v_dreg{n:Nat}{l:List I}(h:LA E.P l (Q .nrm) (fun t=>junkD (dsOf l n) (S t)) As):VA E (.dreg n l) Q S As:=
 ⟨fun m hm=>VC.dregV (h.out m hm)⟩
theorem v_zreg{ds:List Nat}{zs cs:List I}(h:LA E.P zs (fun S' _=>LA E.P cs (Q .nrm) S' As) (fun t=>junkD ds (S t)) []):VA E (.zreg ds zs cs) Q S As:=
 ⟨fun m hm=>VC.zreg (VL.mono (fun S' M' ⟨_,_,_,_,h⟩=>(h.out m hm).out) (h.out emp rfl)).out⟩
theorem un_rest{m M:Mem}(l:m.le M):∃F,Disj m F∧M=m.un F:=by
 refine⟨fun x=>match m x with|some _=>none|none=>M x,fun x=>?_,?_⟩
 ·cases h:m x with
  |none=>exact .inl rfl
  |some k=>right;simp only[h]
 ·funext x
  cases h:m x with
  |none=>rw[un_n h];simp only[h]
  |some k=>rw[un_l h];exact l _ _ h
theorem upP_le{post:St→List Asr→Prop}{S:St}{m M:Mem}(l:m.le M)(h:upP post S m):upP post S M:=by
 obtain⟨As,m',l',s,p⟩:=h
 exact⟨As,m',Mem.le_trans l' l,s,p⟩
theorem un_le_l{m m' F:Mem}(l:m.le m')(h:Disj m' F):(m.un F).le (m'.un F):=by
 intro x k hk
 cases e:m x with
 |some k1=>rw[un_l e]at hk;cases hk;exact un_l (l x _ e)
 |none=>rw[un_n e]at hk;exact un_r h hk
theorem vcT_up{P:Program}{B:List Nat}{post:St→Mem→Prop}(hp:∀S m M,m.le M→post S m→post S M):∀{t:T} {S:St} {m F G:Mem},Disj m F→Disj m G→Disj F G→vcT P B post t F S m→vcT P B post t F S (m.un G)
 |.done,S,m,F,G,h0,h1,h2,h=>hp _ _ _ (un_le_l (le_l m G) (disj_un'.2 ⟨h0,h2.symm⟩)) h
 |.none,_,_,_,_,_,_,_,_=>trivial
 |.bad,_,_,_,_,_,_,_,h=>h
 |.alt i t u,S,m,F,G,h0,h1,h2,h=>by
  refine⟨vcO_mono ?_ (vcO_frame h1 h.1),vcT_up hp h0 h1 h2 h.2⟩
  rintro S' M' ⟨m',⟨hk,hv⟩,hd',rfl⟩
  refine⟨hk,fun hd=>?_⟩
  have d1:=(disj_un'.1 hd).1
  exact vcT_up hp d1 hd' h2 (hv d1)
 |.alf i t u,S,m,F,G,h0,h1,h2,h=>by
  refine⟨?_,vcT_up hp h0 h1 h2 h.2⟩
  have e:(m.un G).un F=(m.un F).un G:=by rw[un_assoc,un_comm (h2.symm),←un_assoc]
  rw[e]
  refine vcO_mono ?_ (vcO_frame (disj_un'.2 ⟨h1,h2⟩) h.1)
  rintro S' M' ⟨m',hv,hd',rfl⟩
  exact vcT_up hp (disj_emp m') hd' (fun x=>.inl rfl) hv
structure TA (P:Program) (B:List Nat) (t:T) (post:St→List Asr→Prop) (S:St) (Gs Fs:List Asr):Prop where
 out:∀m F,Disj m F→star Gs m→star Fs F→vcT P B (upP post) t F S m
section
variable {P:Program} {B:List Nat} {post:St→List Asr→Prop} {S:St} {Gs Fs:List Asr} {i:I} {t u:T}
theorem t_d(h:post S (Gs++Fs)):TA P B .done post S Gs Fs:=⟨fun m F d h1 h2=>upP_of (star_append.2 ⟨m,F,d,rfl,h1,h2⟩) h⟩
theorem t_n:TA P B .none post S Gs Fs:=⟨fun m F d h1 h2=>trivial⟩
theorem t_a(h:LA P [i] (fun S' As'=>keepL B S S'∧TA P B t post S' As' Fs) S Gs)(h2:TA P B u post S Gs Fs):TA P B (.alt i t u) post S Gs Fs:=
 ⟨fun m F d hm hF=>by
   refine⟨?_,h2.out m F d hm hF⟩
   refine vcO_mono ?_ (h.out m hm).out
   rintro S' M' ⟨As',m',l,s,hk,ht⟩
   obtain⟨G,hd,rfl⟩:=un_rest l
   refine⟨hk,fun hF'=>?_⟩
   obtain⟨e1,e2⟩:=disj_un'.1 hF'
   exact vcT_up (post:=upP post) (fun S m M l h=>upP_le l h) e1 hd e2.symm (ht.out m' F e1 s hF)⟩
theorem t_f(h:LA P [i] (fun S' As'=>TA P B t post S' As' []) S (Gs++Fs))(h2:TA P B u post S Gs Fs):TA P B (.alf i t u) post S Gs Fs:=
 ⟨fun m F d hm hF=>by
   refine⟨?_,h2.out m F d hm hF⟩
   refine vcO_mono ?_ (h.out _ (star_append.2 ⟨m,F,d,rfl,hm,hF⟩)).out
   rintro S' M' ⟨As',m',l,s,ht⟩
   obtain⟨G,hd,rfl⟩:=un_rest l
   exact vcT_up (post:=upP post) (fun S m M l h=>upP_le l h) (disj_emp m') hd (fun x=>.inl rfl) (ht.out m' emp (disj_emp m') s rfl)⟩
end
theorem kl_0{S S':St}{p:Prop}(h:p):keepL [] S S'∧p:=⟨trivial,h⟩
theorem kl_1{b:Nat}{r:List Nat}{S S':St}{p:Prop}(hb:S' b=S b)(h:keepL r S S'∧p):keepL (b::r) S S'∧p:=⟨⟨hb,h.1⟩,h.2⟩
theorem v_hreg{Gs:List Asr}(Fs:List Asr){bs:List Nat}{zs:List I}{t:T}(hp:Pm As Gs Fs)(h:LA E.P zs (fun S' _=>TA E.P bs t (Q .nrm) S' Gs Fs) (jb bs S) Fs):VA E (.hreg bs zs t) Q S As:=
 ⟨fun m hm=>by
   obtain⟨a,b,d,rfl,h1,h2⟩:=star_append.1 (hp.out m hm)
   refine VC.hreg d (VL.mono (fun S' M' (hq:upP _ S' M')=>?_) (h.out b h2)).out
   obtain⟨As',m',l,s,ht⟩:=hq
   exact ht.out a b d h1 h2⟩
theorem v_seq{a b:C}(h:VA E a (seqA (VA E b Q) Q) S As):VA E (.seq a b) Q S As:=
 ⟨fun m hm=>VC.seq ((h.out m hm).mono fun x S M ⟨As',m',l,s,hq⟩=>by
   cases x with
   |nrm=>exact VC.drop l (hq.out m' s)
   |ret=>exact⟨As',m',l,s,hq⟩
   |ext i=>exact⟨As',m',l,s,hq⟩)⟩
theorem v_cond{x:Operand}{a b:C}(t:Bool)(hx:ev S x=some (.bool t))(h1:t=true→VA E a Q S As)(h2:t=false→VA E b Q S As):VA E (.cond x a b) Q S As:=
 ⟨fun m hm=>VC.cond t hx (fun e=>(h1 e).out m hm) (fun e=>(h2 e).out m hm)⟩
theorem v_blk{id:Nat}{c:C}(h:VA E c (blkA id Q) S As):VA E (.block id c) Q S As:=
 ⟨fun m hm=>VC.block ((h.out m hm).mono fun x S M ⟨As',m',l,s,hq⟩=>by
   cases x with
   |nrm=>exact⟨As',m',l,s,hq⟩
   |ret=>exact⟨As',m',l,s,hq⟩
   |ext i=>
    unfold blkA at hq
    unfold blkQ
    simp only at hq⊢
    split
    ·rename_i e;rw[if_pos e]at hq;exact⟨As',m',l,s,hq⟩
    ·rename_i e;rw[if_neg e]at hq;exact⟨As',m',l,s,hq⟩)⟩
theorem v_skip(h:Q .nrm S As):VA E .skip Q S As:=⟨fun m hm=>VC.skip ⟨As,m,Mem.le_refl _,hm,h⟩⟩
theorem v_ret(h:Q .ret S As):VA E .ret Q S As:=⟨fun m hm=>VC.ret ⟨As,m,Mem.le_refl _,hm,h⟩⟩
theorem v_exit{id:Nat}(h:Q (.ext id) S As):VA E (.exit id) Q S As:=⟨fun m hm=>VC.exit ⟨As,m,Mem.le_refl _,hm,h⟩⟩
theorem v_mono{c:C}{Q':X→St→List Asr→Prop}(h:VA E c Q S As)(k:∀x S As,Q x S As→Q' x S As):VA E c Q' S As:=
 ⟨fun m hm=>(h.out m hm).mono fun x S M ⟨As',m',l,s,hq⟩=>⟨As',m',l,s,k _ _ _ hq⟩⟩
theorem v_cut{a b:C}(J:St→List Asr→Prop)(h:VA E a (seqA J Q) S As)(h2:∀S As,J S As→VA E b Q S As):VA E (.seq a b) Q S As:=
 v_seq (v_mono h fun x S As hq=>by cases x<;>first|exact h2 _ _ hq|exact hq)
theorem v_weak{c:C}(l:List (Nat×SV))(hS:leA l S)(h:VA E c Q (ofL l) As):VA E c Q S As:=
 ⟨fun m hm=>VC.weak l hS (Mem.le_refl _) (h.out m hm)⟩
theorem v_loop{c:C}{α:Type}(T:α→List (Nat×SV))(At:α→List Asr)(Inv:Nat→α→Prop)(h0:∃k x,leA (T x) S∧Ent As (At x)∧Inv k x)
 (h:∀k x,Inv k x→VA E c (seqA (fun S' As'=>∃k' x',k'<k∧leA (T x') S'∧Ent As' (At x')∧Inv k' x') Q) (ofL (T x)) (At x)):VA E (.loop c) Q S As:=
 ⟨fun m hm=>by
   obtain⟨k0,x0,a1,a2,a3⟩:=h0
   obtain⟨m0,l0,s0⟩:=a2.out m hm
   refine VC.loop T (fun k x M=>Inv k x∧star (At x) M) ⟨k0,x0,m0,a1,l0,a3,s0⟩ ?_
   rintro k x M ⟨hi,hs⟩
   refine((h k x hi).out M hs).mono ?_
   rintro y S' M' ⟨As',m',l,s,hq⟩
   cases y with
   |nrm=>
    obtain⟨k',x',b1,b2,b3,b4⟩:=hq
    obtain⟨m2,l2,s2⟩:=b3.out m' s
    exact⟨k',x',m2,b1,b2,Mem.le_trans l2 l,b4,s2⟩
   |ret=>exact⟨As',m',l,s,hq⟩
   |ext i=>exact⟨As',m',l,s,hq⟩⟩
theorem v_ct{x:Operand}{a b:C}(hx:ev S x=some (.bool true))(h:VA E a Q S As):VA E (.cond x a b) Q S As:=v_cond true hx (fun _=>h) (fun e=>by cases e)
theorem v_cf{x:Operand}{a b:C}(hx:ev S x=some (.bool false))(h:VA E b Q S As):VA E (.cond x a b) Q S As:=v_cond false hx (fun e=>by cases e) (fun _=>h)
theorem v_cd{x:Operand}{a b:C}{p:Prop}{_:Decidable p}(hx:ev S x=some (.bool (decide p)))(h1:p→VA E a Q S As)(h2:¬p→VA E b Q S As):VA E (.cond x a b) Q S As:=
 v_cond _ hx (fun h=>h1 (of_decide_eq_true h)) (fun h=>h2 (of_decide_eq_false h))
theorem v_ce{x:Operand}{a b:C}{u w:Int}(hx:ev S x=some (.bool (u==w)))(h1:u=w→VA E a Q S As)(h2:u≠w→VA E b Q S As):VA E (.cond x a b) Q S As:=
 v_cond _ hx (fun h=>h1 (by simpa using h)) (fun h=>h2 (by simpa using h))
theorem v_cn{x:Operand}{a b:C}{u w:Int}(hx:ev S x=some (.bool (u !=w)))(h1:u≠w→VA E a Q S As)(h2:u=w→VA E b Q S As):VA E (.cond x a b) Q S As:=
 v_cond _ hx (fun h=>h1 (by simpa using h)) (fun h=>h2 (by simpa using h))
theorem v_cnd{x:Operand}{a b:C}{p:Prop}{_:Decidable p}(hx:ev S x=some (.bool (!decide p)))(h1:¬p→VA E a Q S As)(h2:p→VA E b Q S As):VA E (.cond x a b) Q S As:=
 v_cond _ hx (fun h=>h1 (by simpa using h)) (fun h=>h2 (by simpa using h))
theorem s_n(h:K S As):seqA K Q .nrm S As:=h
theorem s_r(h:Q .ret S As):seqA K Q .ret S As:=h
theorem s_e{i:Nat}(h:Q (.ext i) S As):seqA K Q (.ext i) S As:=h
theorem b_n{id:Nat}(h:Q .nrm S As):blkA id Q .nrm S As:=h
theorem b_r{id:Nat}(h:Q .ret S As):blkA id Q .ret S As:=h
theorem b_e{id:Nat}(h:Q .nrm S As):blkA id Q (.ext id) S As:=by unfold blkA;simp only[if_true];exact h
theorem b_o{id i:Nat}(hi:Nat.beq i id=false)(h:Q (.ext i) S As):blkA id Q (.ext i) S As:=by
 have e:i≠id:=fun e=>by subst e;simp at hi
 unfold blkA;simp only[if_neg e];exact h
end
def fnA(rs:List RV)(post:Value→List Asr→Prop):X→St→List Asr→Prop
 |.ext _,_,_=>False
 |_,S,As=>∃v As',(∀m,star As m→resV S m rs=some v)∧Ent As As'∧post v As'
theorem fa_r{rl:List RV}{S:St}{As As':List Asr}{v:Value}{post:Value→List Asr→Prop}(h:∀m,star As m→resV S m rl=some v)(e:Ent As As')(hp:post v As'):fnA rl post .ret S As:=⟨v,As',h,e,hp⟩
theorem fa_n{rl:List RV}{S:St}{As As':List Asr}{v:Value}{post:Value→List Asr→Prop}(h:∀m,star As m→resV S m rl=some v)(e:Ent As As')(hp:post v As'):fnA rl post .nrm S As:=⟨v,As',h,e,hp⟩
theorem rvs_le{S:St}{m M:Mem}(l:m.le M):∀{rs:List RV} {vs:List Value},rvs S m rs=some vs→rvs S M rs=some vs
 |[],vs,h=>h
 |r::t,vs,h=>by
  simp only[rvs]at h⊢
  split at h
  ·rename_i v l' h1 h2
   have h1':rvV S M r=some v:=by
    cases r with
    |tmp t=>exact h1
    |cell t one n=>
     simp only[rvV]at h1⊢
     split at h1
     ·exact h1
     ·rename_i b o hl
      split at h1
      ·rename_i cs hM;rw[l _ _ hM];exact h1
      ·cases h1
     ·cases h1
   rw[h1',rvs_le l h2];exact h
  ·cases h
theorem resV_le{S:St}{m M:Mem}(l:m.le M){rs:List RV}{v:Value}(h:resV S m rs=some v):resV S M rs=some v:=by
 unfold resV at*
 cases h1:rvs S m rs with
 |none=>rw[h1]at h;cases h
 |some vs=>rw[rvs_le l h1];rw[h1]at h;exact h
theorem fnA_of{E:Env}{c:C}{f:FuncId}{args:List Value}{nt:Nat}{rl:List RV}{P:Program}{As:List Asr}{post:Value→List Asr→Prop}
 (hf:∀{M:Mem} {p:Value→Mem→Prop},VC E c (fnQ rl p) (initS args nt) M→Fn P f args M p) (h:VA E c (fnA rl post) (initS args nt) As):FnA P f args As post:=
 ⟨fun m hm=>hf ((h.out m hm).mono fun x S M ⟨As',m',l,s,hq⟩=>by
   cases x with
   |ext i=>exact hq
   |nrm=>
    obtain⟨v,As2,h1,h2,h3⟩:=hq
    obtain⟨m2,l2,s2⟩:=h2.out m' s
    exact⟨v,m2,resV_le l (h1 m' s),Mem.le_trans l2 l,As2,m2,Mem.le_refl _,s2,h3⟩
   |ret=>
    obtain⟨v,As2,h1,h2,h3⟩:=hq
    obtain⟨m2,l2,s2⟩:=h2.out m' s
    exact⟨v,m2,resV_le l (h1 m' s),Mem.le_trans l2 l,As2,m2,Mem.le_refl _,s2,h3⟩)⟩
end Go.Proofs.YtpleoapljeffiaaGreatDoor.E
