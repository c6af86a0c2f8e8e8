/- A part of the proof. Conditions: none. -/
import Derived.Test.YtpleoapljeffiaaGreatDoorKE1
import Derived.IntWalk
set_option linter.unusedVariables false
set_option linter.unusedSimpArgs false
namespace Go.Proofs.YtpleoapljeffiaaGreatDoor.E
open Go
section
variable {P:Program} {W0:World} {M0 M M':Mem} {β:Nat→Nat} {f:Nat→SV} {n:Nat} {a:Act} {w w':World}
def upO(f:Nat→SV)(d:Option Nat)(sv:SV):Nat→SV:=match d with|some t=>upF f t sv|none=>f
theorem run_box{t:TypeId}{v:Value}:(Instr.box t v).run P w=.ok (.pointer (some ⟨w.heap.size,0,none⟩)) (wpush w (.cells v.cells t)):=by
 simp[Instr.box,newVar,newRow,wpush]
theorem run_alloc{t:TypeId}{i:TypeInfo}{z:Value}(hi:P.info? t=some i)(hz:i.zero=some z):(Instr.alloc t true (.tuple #[])).run P w=.ok (.pointer (some ⟨w.heap.size,0,none⟩)) (wpush w (.cells z.cells t)):=by
 simp[Instr.alloc,zeroValue,typeInfo,hi,hz,newVar,newRow,wpush]
theorem run_bslice{t e:TypeId}{i:TypeInfo}{z:Value}{len:Nat}{ps:List (Nat×Nat×Operand)}{parts:Array (Nat×Operand)}{cs:List Value}(hR:RepF W0 M0 β f n M a w)
 (he:P.underlying t=some (.slice e)) (hi:P.info? e=some i) (hz:i.zero=some z) (h1:len*i.size≤65536)
 (hp:partsI P (fun k=>some (k*i.size,i.size)) parts.toList=some ps) (hf:fillP f ((List.range (len*i.size)).map fun j=>z.cells[j%z.cells.size]!) ps=some cs):
 (Instr.buildSlice t len (parts.map fun x=>(x.1,a.eval x.2))).run P w=.ok (.slice (some ⟨w.heap.size,0,none⟩) len len) (wpush w (.cells cs.toArray e)):=by
 have h2:=fill_run (P:=P) hR hp hf
 have e1:((List.range (len*i.size)).map fun j=>z.cells[j%z.cells.size]!).toArray=(Array.range (len*i.size)).map fun j=>z.cells[j%z.cells.size]! :=by
  apply Array.ext';simp
 rw[e1]at h2
 have h3:¬len*i.size>2^24:=by omega
 by_cases h4:len*i.size=0
 ·have e3:∀g:Nat→Value,Array.map g (Array.range 0)= #[]:=fun g=>by apply Array.ext';simp
  rw[h4,e3]at h2
  have h5:¬(0:Nat)>2^24:=by decide
  simp only[Instr.buildSlice,underlying,sizeOf,typeInfo,zeroValue,Sem.run_bind,run_program,Result.andThen_ok,he,Sem.run_pure,hi,h4,h5,if_true,if_false,hz,Array.toList_map,e3]
  rw[h2]
  simp[newRow,wpush]
 ·simp only[Instr.buildSlice,underlying,sizeOf,typeInfo,zeroValue,Sem.run_bind,run_program,Result.andThen_ok,he,Sem.run_pure,hi,h3,h4,if_false,hz,Array.toList_map]
  rw[h2]
  simp[newRow,wpush]
theorem trK_inv{q own:Bool}{op:Op}{k:K}(hk:trK P q own op=some k):match k with
 |.load one m x=>∃t d i,op=.load t x∧P.underlying t=some d∧P.info? t=some i∧one= !isAggD d∧m=i.size
 |.look one z ok x i=>∃t kt e ik d inf,op=.lookup t x i ok∧P.underlying t=some (.map kt e)∧P.underlying kt=some (.int ik)∧P.underlying e=some d∧P.info? e=some inf∧inf.zero=some z
 |.alloc ow z=>∃t i zv,op=.alloc t∧P.info? t=some i∧i.zero=some zv∧z=zv.cells.toList
 |.box ow x=>∃t,op=.box t x
 |.bslice ow len size z ps=>∃t e i zv parts,op=.buildSlice t len parts∧P.underlying t=some (.slice e)∧P.info? e=some i∧i.zero=some zv∧len*i.size≤65536∧size=i.size∧
   z=((List.range (len*i.size)).map fun j=>zv.cells[j%zv.cells.size]!)∧partsI P (fun k=>some (k*i.size,i.size)) parts.toList=some ps
 |.qcall g xs=>∃args ats,op=.call {callee:=.value (.func g),args:=args,argTypes:=ats}∧xs=args.toList∧fnOk P g=true
 |.call g xs=>∃args ats,op=.call {callee:=.value (.func g),args:=args,argTypes:=ats}∧xs=args.toList∧fnOk P g=true
 |.callv x xs=>∃t args ats,op=.call {callee:=.value (.tmp t),args:=args,argTypes:=ats}∧x=.tmp t∧xs=args.toList
 |.store m x y=>∃t i,op=.store t x y∧P.info? t=some i∧m=i.size
 |.mkslice size bytes z l c=>∃t e i zv,op=.makeSlice t l c∧P.underlying t=some (.slice e)∧P.info? e=some i∧i.zero=some zv∧zv.cells.size=i.size∧0<i.size∧size=i.size∧bytes=i.bytes∧z=zv.cells.toList
 |.app size bytes z s x=>∃t u e i zv,op=.call {callee:=.builtin .append,args:=⟨[s,x]⟩,argTypes:=⟨[t,u]⟩}∧P.underlying t=some (.slice e)∧P.info? e=some i∧i.zero=some zv∧zv.cells.size=i.size∧0<i.size∧0<i.bytes∧size=i.size∧bytes=i.bytes∧z=zv.cells.toList∧
   ((∃e',P.underlying u=some (.slice e'))∨P.underlying u=some .string)
 |.appz size bytes z s x=>∃t u e i zv,op=.call {callee:=.builtin .append,args:=⟨[s,x]⟩,argTypes:=⟨[t,u]⟩}∧P.underlying t=some (.slice e)∧P.info? e=some i∧i.zero=some zv∧zv.cells.size=i.size∧0<i.size∧0<i.bytes∧size=i.size∧bytes=i.bytes∧z=zv.cells.toList∧
   (∃ik,P.underlying u=some (.int ik))
 |.mkmap=>∃t,op=.makeMap t none
 |.mupd m k y=>∃t kt e ik,op=.mapUpdate t m k y∧P.underlying t=some (.map kt e)∧P.underlying kt=some (.int ik)
 |.mdel m k=>∃t u kt e ik,op=.call {callee:=.builtin .delete,args:=⟨[m,k]⟩,argTypes:=⟨[t,u]⟩}∧P.underlying t=some (.map kt e)∧P.underlying kt=some (.int ik)
 |_=>True:=by
 cases op
 case call c=>
  obtain⟨cal,⟨args⟩,⟨ats⟩⟩:=c
  cases cal with
  |invoke r m=>simp only[trK]at hk;cases hk
  |value x=>
   cases x with
   |func g=>
    simp only[trK]at hk
    split at hk
    ·rename_i fn hf
     split at hk
     ·rename_i hc
      have hok:fnOk P g=true:=by unfold fnOk;rw[hf];exact hc
      cases q<;>(simp only[Bool.false_eq_true,if_true,if_false]at hk;cases hk;exact⟨_,_,rfl,rfl,hok⟩)
     ·cases hk
    ·cases hk
   |tmp t=>simp only[trK]at hk;cases hk;exact⟨_,_,_,rfl,rfl,rfl⟩
   |const v=>simp only[trK]at hk;cases hk
   |global g=>simp only[trK]at hk;cases hk
  |builtin b=>
   cases b<;>(try(simp only[trK]at hk;cases hk;done))
   case len=>
    match args,ats with
    |[x],[t]=>simp only[trK]at hk;(repeat' split at hk)<;>first|(cases hk;trivial)|(cases hk;done)
    |[],_=>simp only[trK]at hk;cases hk
    |_::_::_,_=>simp only[trK]at hk;cases hk
    |[_],[]=>simp only[trK]at hk;cases hk
    |[_],_::_::_=>simp only[trK]at hk;cases hk
   case min=>
    match args,ats with
    |[x,y],[t,_]=>simp only[trK]at hk;(repeat' split at hk)<;>first|(cases hk;trivial)|(cases hk;done)
    |[],_=>simp only[trK]at hk;cases hk
    |[_],_=>simp only[trK]at hk;cases hk
    |_::_::_::_,_=>simp only[trK]at hk;cases hk
    |[_,_],[]=>simp only[trK]at hk;cases hk
    |[_,_],[_]=>simp only[trK]at hk;cases hk
    |[_,_],_::_::_::_=>simp only[trK]at hk;cases hk
   case max=>
    match args,ats with
    |[x,y],[t,_]=>simp only[trK]at hk;(repeat' split at hk)<;>first|(cases hk;trivial)|(cases hk;done)
    |[],_=>simp only[trK]at hk;cases hk
    |[_],_=>simp only[trK]at hk;cases hk
    |_::_::_::_,_=>simp only[trK]at hk;cases hk
    |[_,_],[]=>simp only[trK]at hk;cases hk
    |[_,_],[_]=>simp only[trK]at hk;cases hk
    |[_,_],_::_::_::_=>simp only[trK]at hk;cases hk
   case append=>
    match args,ats with
    |[x,y],[t,u]=>
     simp only[trK]at hk
     split at hk
     ·rename_i e i he
      obtain⟨ht,hi⟩:=elemI_some he
      split at hk
      ·rename_i z hz
       split at hk
       ·rename_i hc
        split at hk
        ·rename_i ik hu;cases hk;exact⟨_,_,_,_,_,rfl,ht,hi,hz,hc.1,hc.2.1,hc.2.2,rfl,rfl,rfl,ik,hu⟩
        ·rename_i e' hu;cases hk;exact⟨_,_,_,_,_,rfl,ht,hi,hz,hc.1,hc.2.1,hc.2.2,rfl,rfl,rfl,.inl ⟨e',hu⟩⟩
        ·rename_i hu;cases hk;exact⟨_,_,_,_,_,rfl,ht,hi,hz,hc.1,hc.2.1,hc.2.2,rfl,rfl,rfl,.inr hu⟩
        ·cases hk
       ·cases hk
      ·cases hk
     ·cases hk
    |[],_=>simp only[trK]at hk;cases hk
    |[_],_=>simp only[trK]at hk;cases hk
    |_::_::_::_,_=>simp only[trK]at hk;cases hk
    |[_,_],[]=>simp only[trK]at hk;cases hk
    |[_,_],[_]=>simp only[trK]at hk;cases hk
    |[_,_],_::_::_::_=>simp only[trK]at hk;cases hk
   case delete=>
    match args,ats with
    |[x,y],[t,_]=>
     simp only[trK]at hk
     split at hk
     ·rename_i kt e ht
      split at hk
      ·rename_i ik hkt;cases hk;exact⟨_,_,_,_,_,rfl,ht,hkt⟩
      ·cases hk
     ·cases hk
    |[],_=>simp only[trK]at hk;cases hk
    |[_],_=>simp only[trK]at hk;cases hk
    |_::_::_::_,_=>simp only[trK]at hk;cases hk
    |[_,_],[]=>simp only[trK]at hk;cases hk
    |[_,_],[_]=>simp only[trK]at hk;cases hk
    |[_,_],_::_::_::_=>simp only[trK]at hk;cases hk
 case load t x=>
  simp only[trK]at hk
  split at hk
  ·rename_i d i hd hi;cases hk;exact⟨_,_,_,rfl,hd,hi,rfl,rfl⟩
  ·cases hk
 case lookup t x i ok=>
  simp only[trK]at hk
  split at hk
  ·rename_i kt e ht
   split at hk
   ·rename_i ik d z hkt hed hz
    cases hk
    rw[Option.bind_eq_some_iff]at hz
    obtain⟨inf,hinf,hz⟩:=hz
    exact⟨_,_,_,_,_,_,rfl,ht,hkt,hed,hinf,hz⟩
   ·cases hk
  ·cases hk
 case alloc t=>
  simp only[trK]at hk
  split at hk
  ·rename_i z hz
   cases hk
   rw[Option.bind_eq_some_iff]at hz
   obtain⟨inf,hinf,hz⟩:=hz
   exact⟨_,_,_,rfl,hinf,hz,rfl⟩
  ·cases hk
 case box t x=>simp only[trK]at hk;cases hk;exact⟨_,rfl⟩
 case buildSlice t len parts=>
  simp only[trK]at hk
  split at hk
  ·rename_i e i he
   obtain⟨ht,hi⟩:=elemI_some he
   split at hk
   ·rename_i z hz
    split at hk
    ·rename_i hc
     simp only[Option.map_eq_some_iff]at hk
     obtain⟨ps,hps,hk⟩:=hk
     cases hk
     exact⟨_,_,_,_,_,rfl,ht,hi,hz,hc.1,rfl,rfl,hps⟩
    ·cases hk
   ·cases hk
  ·cases hk
 case store t x y=>
  simp only[trK]at hk
  split at hk
  ·rename_i i hi;cases hk;exact⟨_,_,rfl,hi,rfl⟩
  ·cases hk
 case makeSlice t l c=>
  simp only[trK]at hk
  split at hk
  ·rename_i e i he
   obtain⟨ht,hi⟩:=elemI_some he
   split at hk
   ·rename_i z hz
    split at hk
    ·rename_i hc;cases hk;exact⟨_,_,_,_,rfl,ht,hi,hz,hc.1,hc.2,rfl,rfl,rfl⟩
    ·cases hk
   ·cases hk
  ·cases hk
 case makeMap t r=>
  cases r with
  |none=>simp only[trK]at hk;cases hk;exact⟨_,rfl⟩
  |some _=>simp only[trK]at hk;cases hk
 case mapUpdate t m k y=>
  simp only[trK]at hk
  split at hk
  ·rename_i kt e ht
   split at hk
   ·rename_i ik hkt;cases hk;exact⟨_,_,_,_,rfl,ht,hkt⟩
   ·cases hk
  ·cases hk
 case unOp op t x=>cases op<;>simp only[trK]at hk<;>cases hk;trivial
 case slice t x lo hi mx=>
  cases mx with
  |none=>simp only[trK]at hk;(repeat' split at hk)<;>first|(cases hk;trivial)|(cases hk;done)
  |some _=>simp only[trK]at hk;cases hk
 case makeFunc fn xs ys=>cases fn<;>simp only[trK]at hk<;>cases hk;trivial
 case build t ps=>
  simp only[trK]at hk
  split at hk
  ·split at hk
   ·simp only[Option.map_eq_some_iff]at hk
    obtain⟨_,_,hk⟩:=hk
    cases hk;trivial
   ·cases hk
  ·cases hk
 all_goals (simp only[trK]at hk;(repeat' split at hk)<;>first|(cases hk;trivial)|(cases hk;done))
theorem fe_exec(hR:RepF W0 M0 β f n M a w){o:Oper}{q own:Bool}{k:K}{sv:SV}{next:Act→World→Prop}{Q:Exit→Act→World→Prop}(hk:trK P q own o.op=some k)(h:FE P f M k sv)
 (hd:∀t,o.dst=some t→t<n) (hnb:sv.isBox=true→∃d,o.dst=some d∧∀t o',t≠d→f t≠.bp d o')
 (hK:∀a' w' β',RepF W0 M0 β' (upO f o.dst sv) n M a' w'→next a' w'):o.wp P a w next Q:=by
 have hdone:∀{x:Value} {w'},RepF W0 M0 β f n M a w'→RS β x sv→RepF W0 M0 β (upO f o.dst sv) n M (a.put o.dst x) w':=by
  intro x w' h1 h2
  unfold upO
  cases hdst:o.dst with
  |none=>exact h1
  |some t=>exact h1.put (hd t hdst) h2
 have hinv:=trK_inv hk
 rcases h with h|h
 ·obtain⟨x,hx,hs⟩:=pe_run hR hk h
  exact upon_value hx (hK _ _ β (hdone hR hs))
 ·obtain⟨dst,op,ty,pos,after,guard⟩:=o
  cases k<;>(try(exact h.elim))
  case load one m x=>
   obtain⟨b,off,cs,v,hl,hM,hv,rfl⟩:=h
   obtain⟨t,d,i,rfl,hdd,hi,rfl,rfl⟩:=hinv
   refine upon_value (x:=v) ?_ (hK _ _ β (hdone (x:=v) hR rfl))
   simp only[execOp,hR.lc_mm hl]
   exact run_val (by simp only[Instr.loadAt,Instr.sureAddr,Sem.run_bind,Sem.run_pure,Result.andThen_ok];exact run_loadVar hdd hi (hM.elim (fun e=>(hR.sat _ _ e).ro) (fun⟨t,fr,e⟩=>⟨t,fr,hR.sat _ _ e⟩)) hv)
  case look one z ok x i=>
   obtain⟨es,c,j,hx,hi,hints,rfl⟩:=h
   obtain⟨t,kt,e,ik,d,inf,rfl,ht,hkt,hed,hinf,hz⟩:=hinv
   refine upon_value (x:=(if ok then .tuple #[(mpFind j es.toList).getD z,.bool (mpFind j es.toList).isSome]else(mpFind j es.toList).getD z)) ?_ (hK _ _ β (hdone hR rfl))
   simp only[execOp,hR.ev hi]
   refine run_val (run_lookup (c:=c) ht hkt hinf hz ?_ hints)
   rcases hx with⟨h1,h2⟩|⟨b,h1,h2⟩
   ·exact .inl ⟨hR.ev h1,h2⟩
   ·exact .inr ⟨b,hR.ev h1,hR.sat _ _ h2⟩
  case alloc ow z=>
   cases ow with
   |false=>exact h.elim
   |true=>
    have h:sv=.box z:=h
    subst h
    obtain⟨t,inf,zv,rfl,hinf,hz,rfl⟩:=hinv
    obtain⟨d,hdst,hno⟩:=hnb rfl
    simp only at hdst
    subst hdst
    have hrun:(execOp a.eval {dst:=some d,op:=.alloc t,type:=ty,pos:=pos,after:=after,guard:=guard}).run P w=.ok (.value (.pointer (some ⟨w.heap.size,0,none⟩))) (wpush w (.cells zv.cells t)):=by
     simp[execOp,run_alloc (w:=w) hinf hz]
    refine upon_value hrun (hK _ _ (fun t=>if t=d then w.heap.size else β t) ?_)
    have:=hR.putB (x:=.pointer (some ⟨w.heap.size,0,none⟩)) (t0:=t) (cs:=zv.cells.toList) (hd d rfl) (.inl ⟨rfl,rfl⟩) hno
    simpa [upO]using this
  case box ow x=>
   cases ow with
   |false=>exact h.elim
   |true=>
    obtain⟨v,hv,rfl⟩:∃v,ev f x=some v∧sv=.box v.cells.toList:=h
    obtain⟨t,rfl⟩:=hinv
    obtain⟨d,hdst,hno⟩:=hnb rfl
    simp only at hdst
    subst hdst
    have hrun:(execOp a.eval {dst:=some d,op:=.box t x,type:=ty,pos:=pos,after:=after,guard:=guard}).run P w=.ok (.value (.pointer (some ⟨w.heap.size,0,none⟩))) (wpush w (.cells v.cells t)):=by
     simp[execOp,run_box,hR.ev hv]
    refine upon_value hrun (hK _ _ (fun t=>if t=d then w.heap.size else β t) ?_)
    have:=hR.putB (x:=.pointer (some ⟨w.heap.size,0,none⟩)) (t0:=t) (cs:=v.cells.toList) (hd d rfl) (.inl ⟨rfl,rfl⟩) hno
    simpa [upO]using this
  case bslice ow len size z ps=>
   cases ow with
   |false=>exact h.elim
   |true=>
    obtain⟨cs,hcs,rfl⟩:∃cs,fillP f z ps=some cs∧sv=.bsl cs len:=h
    obtain⟨t,e,i,zv,parts,rfl,ht,hi,hz,h1,rfl,rfl,hps⟩:=hinv
    obtain⟨d,hdst,hno⟩:=hnb rfl
    simp only at hdst
    subst hdst
    have hrun:(execOp a.eval {dst:=some d,op:=.buildSlice t len parts,type:=ty,pos:=pos,after:=after,guard:=guard}).run P w=.ok (.value (.slice (some ⟨w.heap.size,0,none⟩) len len)) (wpush w (.cells cs.toArray e)):=by
     have:=run_bslice (w:=w) hR ht hi hz h1 hps hcs
     simp[execOp,this]
    refine upon_value hrun (hK _ _ (fun t=>if t=d then w.heap.size else β t) ?_)
    have:=hR.putB (x:=.slice (some ⟨w.heap.size,0,none⟩) len len) (t0:=e) (cs:=cs) (hd d rfl) (.inr ⟨len,rfl,rfl⟩) hno
    simpa [upO]using this
  case qcall g xs=>
   obtain⟨args,r,hargs,hq,rfl⟩:=h
   obtain⟨arr,ats,rfl,rfl,hok⟩:=hinv
   refine upon_enter hR.sat (run_callF rfl hR hargs hok) hq ?_
   rintro v M' w' ⟨rfl,rfl⟩ hs ht
   exact hK _ _ β (hdone (hR.step hs ht) rfl)
end
section
variable {P:Program} {W0:World} {M0 M M':Mem} {β:Nat→Nat} {f:Nat→SV} {n:Nat} {a:Act} {w w':World}
theorem upO_put(S:St)(d:Option Nat)(x:SV):put S d x=upO S d x:=by cases d<;>rfl
theorem junkB_le(d:Nat)(g:Nat→SV):leF (fun t=>junkB d (g t)) g:=by
 intro t
 show junkB d (g t)=.junk∨junkB d (g t)=g t
 cases g t with
 |bp s o=>simp only[junkB];split<;>simp
 |_=>right;rfl
theorem junkB_no(d:Nat)(x:SV)(o:Nat):junkB d x≠.bp d o:=by
 cases x with
 |bp s o'=>
  simp only[junkB]
  split
  ·intro h;cases h
  ·rename_i h;intro e;cases e;exact h rfl
 |_=>intro h;cases h
theorem zrep_eq(z:Array Value)(m:Nat):((List.range (m*z.size)).map fun i=>z[i%z.size]!)=zrep z.toList m:=by
 induction m with
 |zero=>simp[zrep]
 |succ m ih=>
  rw[Nat.succ_mul,List.range_add,List.map_append,ih]
  unfold zrep
  rw[List.replicate_succ',List.flatten_append]
  congr 1
  simp only[List.map_map,List.flatten_cons,List.flatten_nil,List.append_nil]
  apply List.ext_getElem?
  intro j
  by_cases hj:j<z.size
  ·simp[hj,List.getElem?_range,Nat.add_comm,Nat.add_mul_mod_self_right,Nat.mod_eq_of_lt hj]
  ·simp[hj,List.getElem?_eq_none (Nat.le_of_not_lt hj)]
theorem zrep_length(z:List Value)(m:Nat):(zrep z m).length=m*z.length:=by
 simp[zrep,List.length_flatten,List.map_replicate,List.sum_replicate_nat]
theorem zrep_plain{z:List Value}(h:plainCells z=true)(m:Nat):plainCells (zrep z m)=true:=by
 unfold plainCells at*
 rw[List.all_eq_true]at*
 intro x hx
 unfold zrep at hx
 rw[List.mem_flatten]at hx
 obtain⟨l,hl,hx⟩:=hx
 rw[(List.mem_replicate.1 hl).2]at hx
 exact h x hx
theorem zero_eq(z:Array Value)(k s:Nat)(hs:z.size=s):(Array.range (k*s)).map (fun i=>z[i%z.size]!)=(zrep z.toList k).toArray:=by
 subst hs
 rw[←zrep_eq]
 apply Array.ext';simp
theorem zeroCells_eq(z:Array Value)(k:Nat):Builtin.zeroCells z k=(zrep z.toList k).toArray:=zero_eq z k _ rfl
theorem run_mkslice{t e:TypeId}{i:TypeInfo}{zv:Value}{l c:Nat}(ht:P.underlying t=some (.slice e))(hi:P.info? e=some i)(hz:i.zero=some zv)(hs:zv.cells.size=i.size)(h0:0<i.size)
 (hlc:l≤c) (hb:c*i.bytes≤140737488355328) (hc:c≤140737488355328):
 (Instr.makeSlice t (.int .i64 l) (.int .i64 c)).run P w=.ok (.slice (some ⟨w.heap.size,0,none⟩) l c) (wpush w (.cells (zrep zv.cells.toList c).toArray e)):=by
 have w1:IntKind.i64.wrap (l:Int)=l:=IntWalk.i64_in _ (by omega)
 have w2:IntKind.i64.wrap (c:Int)=c:=IntWalk.i64_in _ (by omega)
 have hbc:((i.bytes*c:Nat):Int)≤140737488355328:=by rw[Nat.mul_comm];omega
 have h1:¬((i.bytes:Int)*(c:Int)>2^48):=by rw[←Int.natCast_mul];omega
 have h2:((decide ((c:Int)<0)||decide ((i.bytes:Int)*(c:Int)>2^48))||decide ((l:Int)<0)||decide ((l:Int)>c))=false:=by
  simp only[Bool.or_eq_false_iff,decide_eq_false_iff_not]
  refine⟨⟨⟨by omega,h1⟩,by omega⟩,by omega⟩
 simp only[Instr.makeSlice,underlying,typeInfo,asInt,asIntOf,Sem.run_bind,run_program,Result.andThen_ok,ht,Sem.run_pure,hi,w1,w2,h2,Bool.false_eq_true,if_false,run_askRoom,sizeOf,Int.toNat_natCast]
 by_cases hcz:c=0
 ·subst hcz
  have e0:∀g:Nat→Value,Array.map g (Array.range 0)= #[]:=fun g=>by apply Array.ext';simp
  simp only[Nat.zero_mul,if_true,Sem.run_pure,Result.andThen_ok,newRow,run_newObj,Sem.run_bind,e0]
  rfl
 ·have hne:¬c*i.size=0:=by
   intro h;rcases Nat.mul_eq_zero.1 h with h|h<;>omega
  simp only[hne,if_false,zeroValue,typeInfo,Sem.run_bind,run_program,Result.andThen_ok,hi,Sem.run_pure,hz,zero_eq _ c _ hs,newRow,run_newObj]
  rfl
theorem run_firstCells{b o size k cap:Nat}{cs:List Value}(hb:holds w b (.row cs))(h:o+k*size≤cs.length):
 (Builtin.firstCells size k (.slice (some ⟨b,o,none⟩) k cap)).run P w=.ok ((cs.drop o).take (k*size)).toArray w:=by
 have hl:((cs.drop o).take (k*size)).length=k*size:=by simp;omega
 have:=run_loadCells_list (P:=P) w ⟨b,o,none⟩ ((cs.drop o).take (k*size)) (fun j v hj=>by
  rw[add_none,cell_of_row hb.ro]
  rw[List.getElem?_take]at hj
  split at hj
  ·rw[List.getElem?_drop]at hj;exact hj
  ·cases hj)
 rw[hl]at this
 exact this
structure Src (P:Program) (w:World) (size:Nat) (u:TypeId) (z:Value) (sx:Value) (src:List Value) (k:Nat):Prop where
 ty:(∃e',P.underlying u=some (.slice e'))∨P.underlying u=some .string
 len:(Builtin.lenOf sx).run P w=.ok k w
 cells:∀w',w'.heap=w.heap→(Builtin.firstCells size k sx).run P w'=.ok src.toArray w'
theorem run_app_room{t u e ty:TypeId}{i:TypeInfo}{zv:Value}{sx:Value}{src:List Value}{k b o m cap:Nat}{cs:List Value}(ht:P.underlying t=some (.slice e))(hi:P.info? e=some i)
 (hsrc:Src P w i.size u zv sx src k) (hp:plainCells src=true) (hl:src.length=k*i.size) (hb:holds w b (.row cs)) (hroom:m+k≤cap) (hfit:o+(m+k)*i.size≤cs.length):
 ∃w',(Builtin.append_ #[t,u] ty #[.slice (some ⟨b,o,none⟩) m cap,sx]).run P w=.ok (.slice (some ⟨b,o,none⟩) (m+k) cap) w'∧
  holds w' b (.row (wr cs (o+m*i.size) src))∧(∀x,x≠b→w'.heap[x]?=w.heap[x]?)∧w'.heap.size=w.heap.size∧w'.os=w.os∧w'.tape=w.tape∧w'.output=w.output:=by
 obtain⟨ety,hg⟩:=hb
 have hfit2:o+m*i.size+src.length≤cs.length:=by rw[hl,Nat.add_assoc,←Nat.add_mul];exact hfit
 have hr:=run_storeCells_at (P:=P) b (o+m*i.size) ety src 0 cs.toArray w hg (by simpa using hfit2) (fun x hx=>List.all_eq_true.1 hp x hx)
 simp only[Nat.add_zero]at hr
 refine⟨w.setRow b (cs.take (o+m*i.size)++src++cs.drop (o+m*i.size+src.length)).toArray,?_,?_,?_,?_,rfl,rfl,rfl⟩
 ·rcases hsrc.ty with⟨e',hdu⟩|hdu
  ·simp only[Builtin.append_,List.getElem?_toArray,List.getElem?_cons_zero,List.getElem?_cons_succ,underlying,sizeOf,typeInfo,Sem.run_bind,run_program,Result.andThen_ok,ht,Sem.run_pure,hi,hdu,Bool.false_eq_true,if_false,hsrc.len,hroom,if_true,Bool.not_false,hsrc.cells w rfl,add_none]
   rw[hr]
   rfl
  ·simp only[Builtin.append_,List.getElem?_toArray,List.getElem?_cons_zero,List.getElem?_cons_succ,underlying,sizeOf,typeInfo,Sem.run_bind,run_program,Result.andThen_ok,ht,Sem.run_pure,hi,hdu,Bool.false_eq_true,if_false,hsrc.len,hroom,if_true,Bool.not_false,hsrc.cells w rfl,add_none]
   rw[hr]
   rfl
 ·refine⟨ety,?_⟩
  rw[wr_eq _ _ _ hfit2]
  exact setRow_heap w b cs.toArray _ ety (0,0) hg
 ·intro x hx;exact setRow_other w b x _ hx
 ·simp[World.setRow]
theorem run_app_nil{t u e ty:TypeId}{i:TypeInfo}{zv:Value}{sx:Value}{src:List Value}(ht:P.underlying t=some (.slice e))(hi:P.info? e=some i)
 (hsrc:Src P w i.size u zv sx src 0):
 (Builtin.append_ #[t,u] ty #[.slice none 0 0,sx]).run P w=.ok (.slice none 0 0) w:=by
 rcases hsrc.ty with⟨e',hdu⟩|hdu
 ·simp only[Builtin.append_,List.getElem?_toArray,List.getElem?_cons_zero,List.getElem?_cons_succ,underlying,sizeOf,typeInfo,Sem.run_bind,run_program,Result.andThen_ok,ht,Sem.run_pure,hi,hdu,Bool.false_eq_true,if_false,hsrc.len,Nat.le_refl,if_true,Bool.not_false,hsrc.cells w rfl,Nat.add_zero]
 ·simp only[Builtin.append_,List.getElem?_toArray,List.getElem?_cons_zero,List.getElem?_cons_succ,underlying,sizeOf,typeInfo,Sem.run_bind,run_program,Result.andThen_ok,ht,Sem.run_pure,hi,hdu,Bool.false_eq_true,if_false,hsrc.len,Nat.le_refl,if_true,Bool.not_false,hsrc.cells w rfl,Nat.add_zero]
theorem run_app_grow{t u e ty:TypeId}{i:TypeInfo}{zv:Value}{sx sb:Value}{src old:List Value}{k m cap:Nat}{base:Option Addr}(ht:P.underlying t=some (.slice e))(hi:P.info? e=some i)
 (hzv:i.zero=some zv) (hzs:zv.cells.size=i.size) (hby:0<i.bytes) (hsrc:Src P w i.size u zv sx src k) (hsb:sb=.slice base m cap)
 (hold:∀w',w'.heap=w.heap→(Builtin.firstCells i.size m sb).run P w'=.ok old.toArray w')
 (hgrow:cap<m+k) (hbytes:(m+k)*i.bytes≤140737488355328):
 ∃cap' w1,m+k≤cap'∧w1.heap=w.heap∧w1.os=w.os∧w1.tape=w.tape∧w1.output=w.output∧
  (Builtin.append_ #[t,u] ty #[sb,sx]).run P w=.ok (.slice (some ⟨w.heap.size,0,none⟩) (m+k) cap') (wpush w1 (.cells (old++src++zrep zv.cells.toList (cap'-(m+k))).toArray e)):=by
 subst hsb
 have hk:¬m+k≤cap:=by omega
 have hle:m+k≤140737488355328:=Nat.le_trans (Nat.le_mul_of_pos_right _ hby) hbytes
 have h63:IntKind.i64.max=9223372036854775807:=by decide+kernel
 have h1:¬(((m+k:Nat):Int)>IntKind.i64.max∧((False:Prop)∨i.bytes=0)):=by rw[h63];omega
 have h2:¬(Builtin.nextslicecap (m+k) cap*i.bytes>2^48):=by
  have:=growslice_fits hgrow hbytes;omega
 refine⟨Question.cut (.appendCap (m+k) cap e) (w.tape w.drawn (.appendCap (m+k) cap e)),{w with drawn:=w.drawn+1},?_,rfl,rfl,rfl,rfl,?_⟩
 ·simp only[Question.cut];omega
 ·have e1:(Builtin.firstCells i.size k sx).run P {w with drawn:=w.drawn+1}=.ok src.toArray {w with drawn:=w.drawn+1}:=hsrc.cells _ rfl
  have e2:(Builtin.firstCells i.size m (.slice base m cap)).run P {w with drawn:=w.drawn+1}=.ok old.toArray {w with drawn:=w.drawn+1}:=hold _ rfl
  have h1':¬(((m+k:Nat):Int)>IntKind.i64.max∧((false=true:Prop)∨i.bytes=0)):=by rw[h63];omega
  rcases hsrc.ty with⟨e',hdu⟩|hdu
  ·simp only[Builtin.append_,List.getElem?_toArray,List.getElem?_cons_zero,List.getElem?_cons_succ,underlying,sizeOf,typeInfo,zeroValue,Sem.run_bind,run_program,Result.andThen_ok,ht,Sem.run_pure,hi,hdu,Bool.false_eq_true,if_false,hsrc.len,hk,h1,h2,run_choose,Question.forced,run_askRoom,e1,e2,Bool.not_false,if_true,hzv,zeroCells_eq,newRow,run_newObj]
   congr 1
   simp[wpush,List.append_assoc]
  ·simp only[Builtin.append_,List.getElem?_toArray,List.getElem?_cons_zero,List.getElem?_cons_succ,underlying,sizeOf,typeInfo,zeroValue,Sem.run_bind,run_program,Result.andThen_ok,ht,Sem.run_pure,hi,hdu,Bool.false_eq_true,if_false,hsrc.len,hk,h1,h2,run_choose,Question.forced,run_askRoom,e1,e2,Bool.not_false,if_true,hzv,zeroCells_eq,newRow,run_newObj]
   congr 1
   simp[wpush,List.append_assoc]
end
section
variable {P:Program} {W0:World} {M0 M M':Mem} {β:Nat→Nat} {S:St} {f:Nat→SV} {n nt:Nat} {a:Act} {w w':World}
theorem src_of(hR:RepF W0 M0 β f n M a w){size:Nat}{x:Operand}{src:List Value}{k:Nat}{u:TypeId}{z:Value}(h:srcC f M size x=some (src,k))
 (hu:(∃e',P.underlying u=some (.slice e'))∨P.underlying u=some .string):Src P w size u z (a.eval x) src k∧src.length=k*size:=by
 have hV:∀y,srcC.srcV M size y=some (src,k)→a.eval x=y→Src P w size u z (a.eval x) src k∧src.length=k*size:=by
  intro y hy e
  rw[e]
  unfold srcC.srcV at hy
  split at hy
  ·simp only[Option.some.injEq,Prod.mk.injEq]at hy
   obtain⟨rfl,rfl⟩:=hy
   exact⟨⟨hu,rfl,fun w' _=>rfl⟩,by simp⟩
  ·rename_i b o k' cap
   split at hy
   ·rename_i cs hM
    split at hy
    ·rename_i hle
     simp only[Option.some.injEq,Prod.mk.injEq]at hy
     obtain⟨rfl,rfl⟩:=hy
     refine⟨⟨hu,rfl,fun w' hw'=>?_⟩,by simp;omega⟩
     exact run_firstCells ((hR.sat _ _ hM).of_eq (by rw[hw'])) hle
    ·cases hy
   ·cases hy
  ·rename_i s
   split at hy
   ·rename_i hs
    simp only[Option.some.injEq,Prod.mk.injEq]at hy
    obtain⟨rfl,rfl⟩:=hy
    subst hs
    refine⟨⟨hu,rfl,fun w' _=>?_⟩,by simp⟩
    simp only[Builtin.firstCells,Sem.run_pure]
    congr 1
    apply Array.ext'
    have hx:s.extract 0 s.size=s:=by apply ByteArray.ext;simp
    rw[hx]
    simp
   ·cases hy
  ·cases hy
 cases x with
 |tmp t=>
  simp only[srcC]at h
  have hs:=hR.sv t
  split at h
  ·rename_i cs k' hf
   rw[hf]at hs
   obtain⟨e1,e2,e3,e4⟩:=hs
   split at h
   ·rename_i hl
    simp only[Option.some.injEq,Prod.mk.injEq]at h
    obtain⟨rfl,rfl⟩:=h
    have e1':a.eval (.tmp t)=.slice (some ⟨β t,0,none⟩) k' k':=e1
    rw[e1']
    refine⟨⟨hu,rfl,fun w' hw'=>?_⟩,hl⟩
    have:=run_firstCells (P:=P) (w:=w') (size:=size) (k:=k') (cap:=k') (o:=0) (e2.of_eq (by rw[hw'])) (by omega)
    rw[this]
    congr 2
    simp[←hl]
   ·cases h
  ·rename_i y hf
   rw[hf]at hs
   exact hV y h hs
  ·cases h
 |const y=>exact hV y h rfl
 |global g=>simp[srcC]at h
 |func g=>simp[srcC]at h
theorem put_done{S:St}{d:Option Nat}{x:Value}{next:Act→World→Prop}{post:St→Mem→Prop}(hR:RepF W0 M0 β S nt M a w)(hd:∀t,d=some t→t<nt)
 (hs:Sat w' M') (ht:Stp w M w' M') (hp:post (put S d (.v x)) M')
 (hK:∀S' M' a' w' β',post S' M'→RepF W0 M0 β' S' nt M' a' w'→next a' w'):next (a.put d x) w':=by
 refine hK _ _ _ _ β hp ?_
 rw[upO_put]
 have h1:=hR.step hs ht
 cases d with
 |none=>exact h1
 |some t=>exact h1.put (hd t rfl) rfl
theorem alloc_done{S:St}{d:Option Nat}{x:Value}{o:Obj}{k:Bk}{next:Act→World→Prop}{post:St→Mem→Prop}(hR:RepF W0 M0 β S nt M a w)(hd:∀t,d=some t→t<nt)
 {w1:World} (hw:w1.heap=w.heap) (h1:w1.os=w.os) (h2:w1.tape=w.tape) (h3:w1.output=w.output)
 (hk:holds (wpush w1 o) w1.heap.size k) (hp:post (put S d (.v x)) (M.upd w.heap.size k))
 (hK:∀S' M' a' w' β',post S' M'→RepF W0 M0 β' S' nt M' a' w'→next a' w'):next (a.put d x) (wpush w1 o):=by
 have hs1:Sat w1 M:=fun b kb e=>(hR.sat b kb e).of_eq (by rw[hw])
 have hst1:Stp w M w1 M:=⟨h1,h2,h3,by rw[hw];exact Nat.le_refl _,fun b _ _=>by rw[hw],fun b hb=>.inl hb⟩
 have hsz:w1.heap.size=w.heap.size:=by rw[hw]
 have hs2:=hs1.push_new hk
 have ht2:=hst1.trans (Stp.push_new (w:=w1) (M:=M) o k)
 rw[hsz]at hs2 ht2
 exact put_done hR hd hs2 ht2 hp hK
theorem appM_done{S:St}{sb sx:Value}{src:List Value}{k:Nat}{next:Act→World→Prop}{post:St→Mem→Prop}{o:Oper}{Q:Exit→Act→World→Prop}{t u e:TypeId}{i:TypeInfo}{zv:Value}
 (hR:RepF W0 M0 β S nt M a w) (hd:∀t,o.dst=some t→t<nt) (ht:P.underlying t=some (.slice e)) (hi:P.info? e=some i) (hz:i.zero=some zv) (hzs:zv.cells.size=i.size) (h0:0<i.size) (hby:0<i.bytes)
 (hsrc:Src P w i.size u zv sx src k) (hpl:plainCells src=true) (hl:src.length=k*i.size)
 (hrun:∀v w',(Builtin.append_ #[t,u] o.type #[sb,sx]).run P w=.ok v w'→(execOp a.eval o).run P w=.ok (.value v) w')
 (h:appM M i.size i.bytes sb src k (fun v M'=>post (put S o.dst (.v v)) M'))
 (hK:∀S' M' a' w' β',post S' M'→RepF W0 M0 β' S' nt M' a' w'→next a' w'):o.wp P a w next Q:=by
 unfold appM at h
 split at h
 ·rename_i n cap
  obtain⟨rfl,rfl,hb,h⟩:=h
  rcases h with⟨rfl,hp⟩|⟨hk,h⟩
  ·have hr:=run_app_nil (P:=P) (w:=w) (ty:=o.type) ht hi hsrc
   refine upon_value (hrun _ _ hr) ?_
   exact put_done hR hd hR.sat (Stp.refl _ _) hp hK
  ·obtain⟨cap',w1,hcap,e1,e2,e3,e4,hr⟩:=run_app_grow (P:=P) (w:=w) (ty:=o.type) (old:=[]) ht hi hz hzs hby hsrc (sb:=.slice none 0 0) rfl (fun w' _=>rfl) (by omega) (by simpa using hb)
   refine upon_value (hrun _ _ hr) ?_
   have:=h w.heap.size cap' (zrep zv.cells.toList (cap'-(0+k))) hR.sat.none_size (by omega) (by rw[zrep_length,Nat.zero_add];simp[hzs])
   simp only[Nat.zero_add,List.nil_append]at this⊢
   exact alloc_done hR hd e1 e2 e3 e4 holds_push_row this hK
 ·rename_i b off n cap
  obtain⟨cs,hM,hb,h⟩:=h
  rcases h with⟨hroom,hfit,hp⟩|⟨hgrow,hfit,h⟩
  ·obtain⟨w',hr,hh,ho,hsz,e1,e2,e3⟩:=run_app_room (P:=P) (w:=w) (ty:=o.type) (cap:=cap) ht hi hsrc hpl hl (hR.sat _ _ hM) hroom hfit
   refine upon_value (hrun _ _ hr) ?_
   exact put_done hR hd (hR.sat.set hh ho) (Stp.set hM ho hsz e1 e2 e3) hp hK
  ·obtain⟨cap',w1,hcap,e1,e2,e3,e4,hr⟩:=run_app_grow (P:=P) (w:=w) (ty:=o.type) (old:=(cs.drop off).take (n*i.size)) ht hi hz hzs hby hsrc (sb:=.slice (some ⟨b,off,none⟩) n cap) rfl
    (fun w' hw'=>run_firstCells ((hR.sat _ _ hM).of_eq (by rw[hw'])) hfit) hgrow hb
   refine upon_value (hrun _ _ hr) ?_
   have:=h w.heap.size cap' (zrep zv.cells.toList (cap'-(n+k))) hR.sat.none_size hcap (by rw[zrep_length];simp[hzs])
   exact alloc_done hR hd e1 e2 e3 e4 holds_push_row this hK
 ·exact h.elim
end
section
variable {P:Program} {W0:World} {M0 M M':Mem} {β:Nat→Nat} {S:St} {f:Nat→SV} {n nt:Nat} {a:Act} {w w':World}
theorem run_zeros{e:TypeId}{i:TypeInfo}{zv:Value}{k:Nat}(hi:P.info? e=some i)(hz:i.zero=some zv)(hzs:zv.cells.size=i.size)(h0:0<i.size):
 (if k*i.size=0 then pure #[]else do pure (Builtin.zeroCells (←zeroValue e).cells k):Sem (Array Value)).run P w=.ok (zrep zv.cells.toList k).toArray w:=by
 by_cases hk:k*i.size=0
 ·rcases Nat.mul_eq_zero.1 hk with h|h
  ·subst h;simp[zrep]
  ·omega
 ·simp only[hk,if_false,zeroValue,typeInfo,Sem.run_bind,run_program,Result.andThen_ok,hi,Sem.run_pure,hz,zeroCells_eq]
theorem run_appz_room{t u e ty:TypeId}{ik:IntKind}{i:TypeInfo}{zv:Value}{k b o m cap:Nat}{cs:List Value}(ht:P.underlying t=some (.slice e))(hu:P.underlying u=some (.int ik))(hi:P.info? e=some i)
 (hz:i.zero=some zv) (hzs:zv.cells.size=i.size) (h0:0<i.size) (hk:k≤140737488355328) (hbk:k*i.bytes≤140737488355328)
 (hp:plainCells zv.cells.toList=true) (hb:holds w b (.row cs)) (hroom:m+k≤cap) (hfit:o+(m+k)*i.size≤cs.length):
 ∃w',(Builtin.append_ #[t,u] ty #[.slice (some ⟨b,o,none⟩) m cap,.int .i64 k]).run P w=.ok (.slice (some ⟨b,o,none⟩) (m+k) cap) w'∧
  holds w' b (.row (wr cs (o+m*i.size) (zrep zv.cells.toList k)))∧(∀x,x≠b→w'.heap[x]?=w.heap[x]?)∧w'.heap.size=w.heap.size∧w'.os=w.os∧w'.tape=w.tape∧w'.output=w.output:=by
 obtain⟨ety,hg⟩:=hb
 have hl:(zrep zv.cells.toList k).length=k*i.size:=by rw[zrep_length];simp[hzs]
 have hfit2:o+m*i.size+(zrep zv.cells.toList k).length≤cs.length:=by rw[hl,Nat.add_assoc,←Nat.add_mul];exact hfit
 have hr:=run_storeCells_at (P:=P) b (o+m*i.size) ety (zrep zv.cells.toList k) 0 cs.toArray w hg (by simpa using hfit2) (fun x hx=>List.all_eq_true.1 (zrep_plain hp k) x hx)
 simp only[Nat.add_zero]at hr
 have wk:IntKind.i64.wrap (k:Int)=k:=IntWalk.i64_in _ (by omega)
 have h1:¬((k:Int)<0):=by omega
 have h2:¬((k:Int)*(i.bytes:Int)>2^48):=by rw[←Int.natCast_mul];omega
 refine⟨w.setRow b (cs.take (o+m*i.size)++zrep zv.cells.toList k++cs.drop (o+m*i.size+(zrep zv.cells.toList k).length)).toArray,?_,?_,?_,?_,rfl,rfl,rfl⟩
 ·simp only[Builtin.append_,List.getElem?_toArray,List.getElem?_cons_zero,List.getElem?_cons_succ,underlying,sizeOf,typeInfo,asInt,asIntOf,Sem.run_bind,run_program,Result.andThen_ok,ht,hu,Sem.run_pure,hi,if_true,wk,h1,h2,if_false,Int.toNat_natCast,hroom,Bool.not_true,Bool.false_eq_true,run_zeros hi hz hzs h0,add_none]
  rw[hr]
  rfl
 ·refine⟨ety,?_⟩
  rw[wr_eq _ _ _ hfit2]
  exact setRow_heap w b cs.toArray _ ety (0,0) hg
 ·intro x hx;exact setRow_other w b x _ hx
 ·simp[World.setRow]
theorem run_appz_nil{t u e ty:TypeId}{ik:IntKind}{i:TypeInfo}{zv:Value}(ht:P.underlying t=some (.slice e))(hu:P.underlying u=some (.int ik))(hi:P.info? e=some i)
 (hz:i.zero=some zv) (hzs:zv.cells.size=i.size) (h0:0<i.size):
 (Builtin.append_ #[t,u] ty #[.slice none 0 0,.int .i64 (0:Nat)]).run P w=.ok (.slice none 0 0) w:=by
 have wk:IntKind.i64.wrap ((0:Nat):Int)=(0:Nat):=IntWalk.i64_in _ (by omega)
 have h1:¬(((0:Nat):Int)<0):=by omega
 have h2:¬(((0:Nat):Int)*(i.bytes:Int)>2^48):=by simp
 simp only[Builtin.append_,List.getElem?_toArray,List.getElem?_cons_zero,List.getElem?_cons_succ,underlying,sizeOf,typeInfo,asInt,asIntOf,Sem.run_bind,run_program,Result.andThen_ok,ht,hu,Sem.run_pure,hi,if_true,wk,h1,h2,if_false,Int.toNat_natCast,Nat.le_refl,Bool.not_true,Bool.false_eq_true,run_zeros hi hz hzs h0,Nat.add_zero]
theorem run_appz_grow{t u e ty:TypeId}{ik:IntKind}{i:TypeInfo}{zv:Value}{sb:Value}{old:List Value}{k m cap:Nat}{base:Option Addr}(ht:P.underlying t=some (.slice e))(hu:P.underlying u=some (.int ik))(hi:P.info? e=some i)
 (hzv:i.zero=some zv) (hzs:zv.cells.size=i.size) (h0:0<i.size) (hby:0<i.bytes) (hkk:k≤140737488355328) (hsb:sb=.slice base m cap)
 (hold:∀w',w'.heap=w.heap→(Builtin.firstCells i.size m sb).run P w'=.ok old.toArray w')
 (hgrow:cap<m+k) (hbytes:(m+k)*i.bytes≤140737488355328):
 ∃cap' w1,m+k≤cap'∧w1.heap=w.heap∧w1.os=w.os∧w1.tape=w.tape∧w1.output=w.output∧
  (Builtin.append_ #[t,u] ty #[sb,.int .i64 k]).run P w=.ok (.slice (some ⟨w.heap.size,0,none⟩) (m+k) cap') (wpush w1 (.cells (old++zrep zv.cells.toList k++zrep zv.cells.toList (cap'-(m+k))).toArray e)):=by
 subst hsb
 have hk:¬m+k≤cap:=by omega
 have hle:m+k≤140737488355328:=Nat.le_trans (Nat.le_mul_of_pos_right _ hby) hbytes
 have hbk:k*i.bytes≤140737488355328:=Nat.le_trans (Nat.mul_le_mul_right _ (by omega)) hbytes
 have h63:IntKind.i64.max=9223372036854775807:=by decide+kernel
 have h1:¬(((m+k:Nat):Int)>IntKind.i64.max∧((True:Prop)∨i.bytes=0)):=by rw[h63];omega
 have h2:¬(Builtin.nextslicecap (m+k) cap*i.bytes>2^48):=by
  have:=growslice_fits hgrow hbytes;omega
 have wk:IntKind.i64.wrap (k:Int)=k:=IntWalk.i64_in _ (by omega)
 have h3:¬((k:Int)<0):=by omega
 have h4:¬((k:Int)*(i.bytes:Int)>2^48):=by rw[←Int.natCast_mul];omega
 refine⟨Question.cut (.appendCap (m+k) cap e) (w.tape w.drawn (.appendCap (m+k) cap e)),{w with drawn:=w.drawn+1},?_,rfl,rfl,rfl,rfl,?_⟩
 ·simp only[Question.cut];omega
 ·have e2:(Builtin.firstCells i.size m (.slice base m cap)).run P {w with drawn:=w.drawn+1}=.ok old.toArray {w with drawn:=w.drawn+1}:=hold _ rfl
  simp only[Builtin.append_,List.getElem?_toArray,List.getElem?_cons_zero,List.getElem?_cons_succ,underlying,sizeOf,typeInfo,asInt,asIntOf,Sem.run_bind,run_program,Result.andThen_ok,ht,hu,Sem.run_pure,hi,if_true,wk,h3,h4,if_false,Int.toNat_natCast,hk,h1,h2,run_choose,Question.forced,run_askRoom,e2,Bool.not_true,Bool.false_eq_true,run_zeros hi hzv hzs h0,newRow,run_newObj]
  simp only[zeroValue,typeInfo,Sem.run_bind,run_program,Result.andThen_ok,hi,Sem.run_pure,hzv,zeroCells_eq,run_newObj]
  congr 1
  simp[wpush,List.append_assoc]
theorem appMz_done{S:St}{sb:Value}{k:Nat}{next:Act→World→Prop}{post:St→Mem→Prop}{o:Oper}{Q:Exit→Act→World→Prop}{t u e:TypeId}{ik:IntKind}{i:TypeInfo}{zv:Value}
 (hR:RepF W0 M0 β S nt M a w) (hd:∀t,o.dst=some t→t<nt) (ht:P.underlying t=some (.slice e)) (hu:P.underlying u=some (.int ik)) (hi:P.info? e=some i) (hz:i.zero=some zv) (hzs:zv.cells.size=i.size) (h0:0<i.size) (hby:0<i.bytes)
 (hpl:plainCells zv.cells.toList=true) (hkk:k≤140737488355328)
 (hrun:∀v w',(Builtin.append_ #[t,u] o.type #[sb,.int .i64 k]).run P w=.ok v w'→(execOp a.eval o).run P w=.ok (.value v) w')
 (h:appM M i.size i.bytes sb (zrep zv.cells.toList k) k (fun v M'=>post (put S o.dst (.v v)) M'))
 (hK:∀S' M' a' w' β',post S' M'→RepF W0 M0 β' S' nt M' a' w'→next a' w'):o.wp P a w next Q:=by
 unfold appM at h
 split at h
 ·rename_i n cap
  obtain⟨rfl,rfl,hb,h⟩:=h
  rcases h with⟨rfl,hp⟩|⟨hk,h⟩
  ·have hr:=run_appz_nil (P:=P) (w:=w) (ty:=o.type) ht hu hi hz hzs h0
   refine upon_value (hrun _ _ hr) ?_
   exact put_done hR hd hR.sat (Stp.refl _ _) hp hK
  ·obtain⟨cap',w1,hcap,e1,e2,e3,e4,hr⟩:=run_appz_grow (P:=P) (w:=w) (ty:=o.type) (old:=[]) ht hu hi hz hzs h0 hby hkk (sb:=.slice none 0 0) rfl (fun w' _=>rfl) (by omega) (by simpa using hb)
   refine upon_value (hrun _ _ hr) ?_
   have:=h w.heap.size cap' (zrep zv.cells.toList (cap'-(0+k))) hR.sat.none_size (by omega) (by rw[zrep_length,Nat.zero_add];simp[hzs])
   simp only[Nat.zero_add,List.nil_append]at this⊢
   exact alloc_done hR hd e1 e2 e3 e4 holds_push_row this hK
 ·rename_i b off n cap
  obtain⟨cs,hM,hb,h⟩:=h
  rcases h with⟨hroom,hfit,hp⟩|⟨hgrow,hfit,h⟩
  ·obtain⟨w',hr,hh,ho,hsz,e1,e2,e3⟩:=run_appz_room (P:=P) (w:=w) (ty:=o.type) (cap:=cap) ht hu hi hz hzs h0 hkk (Nat.le_trans (Nat.mul_le_mul_right _ (Nat.le_add_left k n)) hb) hpl (hR.sat _ _ hM) hroom hfit
   refine upon_value (hrun _ _ hr) ?_
   exact put_done hR hd (hR.sat.set hh ho) (Stp.set hM ho hsz e1 e2 e3) hp hK
  ·obtain⟨cap',w1,hcap,e1,e2,e3,e4,hr⟩:=run_appz_grow (P:=P) (w:=w) (ty:=o.type) (old:=(cs.drop off).take (n*i.size)) ht hu hi hz hzs h0 hby hkk (sb:=.slice (some ⟨b,off,none⟩) n cap) rfl
    (fun w' hw'=>run_firstCells ((hR.sat _ _ hM).of_eq (by rw[hw'])) hfit) hgrow hb
   refine upon_value (hrun _ _ hr) ?_
   have:=h w.heap.size cap' (zrep zv.cells.toList (cap'-(n+k))) hR.sat.none_size hcap (by rw[zrep_length];simp[hzs])
   exact alloc_done hR hd e1 e2 e3 e4 holds_push_row this hK
 ·exact h.elim
theorem run_setObj{b:Nat}{es:Array MapEntry}{c:Nat}{o:Obj}(h:holds w b (.mp es c)):(setObj b o).run P w=.ok () {w with heap:=w.heap.setIfInBounds b o}:=by
 have h':w.heap[b]?=some (.map es c):=h
 simp[setObj,Sem.run,h']
theorem setMap_facts{b:Nat}{es es':Array MapEntry}{c c':Nat}(h:holds w b (.mp es c)):
 holds {w with heap:=w.heap.setIfInBounds b (.map es' c')} b (.mp es' c')∧(∀x,x≠b→({w with heap:=w.heap.setIfInBounds b (.map es' c')}:World).heap[x]?=w.heap[x]?):=by
 have hlt:=h.lt
 refine⟨?_,fun x hx=>?_⟩
 ·show(w.heap.setIfInBounds b (.map es' c'))[b]?=_
  simp[hlt]
 ·show(w.heap.setIfInBounds b (.map es' c'))[x]?=_
  rw[Array.getElem?_setIfInBounds_ne (Ne.symm hx)]
theorem sameBits_int(j:Int):Instr.sameBits 10000 (.int .i64 j) (.int .i64 j)=true:=by
 have:∀d,Instr.sameBits d (.int .i64 j) (.int .i64 j)=true:=by intro d;cases d<;>simp[Instr.sameBits]
 exact this _
theorem run_mapUpdate{t kt e:TypeId}{ik:IntKind}{b:Nat}{es:Array MapEntry}{c:Nat}{j:Int}{v:Value}(ht:P.underlying t=some (.map kt e))(hkt:P.underlying kt=some (.int ik))(hb:holds w b (.mp es c))(h:mpInts es.toList=true):
 ∃es' c',mpSet es c (.int .i64 j) j v=.mp es' c'∧(Instr.mapUpdate t (.map (some b)) (.int .i64 j) v).run P w=.ok () {w with heap:=w.heap.setIfInBounds b (.map es' c')}:=by
 obtain⟨r,hr,h1,h2⟩:=run_findKey (P:=P) (w:=w) (kt:=kt) (j:=j) hkt h
 unfold mpSet
 cases r with
 |none=>
  simp only[Option.map_none]at h2
  rw[←h2]
  refine⟨_,_,rfl,?_⟩
  simp only[Instr.mapUpdate,underlying,Sem.run_bind,run_program,Result.andThen_ok,ht,Sem.run_pure,run_getObj hb,run_checkKey hkt,hr,run_setObj hb]
 |some p=>
  obtain⟨i,x⟩:=p
  simp only[Option.map_some]at h2
  have h2':=h2
  rw[←h2]
  have hf:=(List.findIdx?_eq_some_iff_getElem.1 h2'.symm)
  obtain⟨hi,hp,_⟩:=hf
  have hi':i<es.size:=by simpa using hi
  have hkey:(((es[i]?).map (·.key)).getD (.int .i64 j))=.int .i64 j:=by
   rw[Array.getElem?_eq_getElem hi']
   simp only[Option.map_some,Option.getD_some]
   have hall:∀(l:List MapEntry) (i:Nat) (hi:i<l.length),mpInts l=true→keyIs j l[i]=true→l[i].key=.int .i64 j:=by
    intro l
    induction l with
    |nil=>intro i hi;exact absurd hi (Nat.not_lt_zero _)
    |cons e t ih=>
     intro i hi hm hk
     simp only[mpInts,Bool.and_eq_true]at hm
     cases i with
     |zero=>
      simp only[List.getElem_cons_zero]at hk⊢
      unfold keyIs at hk
      cases hek:e.key with
      |int k' m=>
       rw[hek]at hk hm
       cases k'<;>simp at hm
       simp only[beq_iff_eq]at hk
       rw[hk]
      |_=>rw[hek]at hk;cases hk
     |succ i=>
      simp only[List.getElem_cons_succ]at hk⊢
      exact ih i (by simpa using hi) hm.2 hk
   exact hall es.toList i hi h hp
  refine⟨_,_,rfl,?_⟩
  simp only[Instr.mapUpdate,underlying,Sem.run_bind,run_program,Result.andThen_ok,ht,Sem.run_pure,run_getObj hb,run_checkKey hkt,hr,hkey,Instr.keyThatStays,sameBits_int,if_true,run_setObj hb]
theorem run_delete{t u kt e ty:TypeId}{ik:IntKind}{b:Nat}{es:Array MapEntry}{c:Nat}{j:Int}(ht:P.underlying t=some (.map kt e))(hkt:P.underlying kt=some (.int ik))(hb:holds w b (.mp es c))(h:mpInts es.toList=true):
 ∃es' c',mpDel es c j=.mp es' c'∧(Builtin.delete_ #[t,u] ty #[.map (some b),.int .i64 j]).run P w=.ok (.tuple #[]) {w with heap:=w.heap.setIfInBounds b (.map es' c')}:=by
 obtain⟨r,hr,h1,h2⟩:=run_findKey (P:=P) (w:=w) (kt:=kt) (j:=j) hkt h
 unfold mpDel
 cases r with
 |none=>
  simp only[Option.map_none]at h2
  rw[←h2]
  refine⟨_,_,rfl,?_⟩
  simp only[Builtin.delete_,List.getElem?_toArray,List.getElem?_cons_zero,List.getElem?_cons_succ,underlying,Sem.run_bind,run_program,Result.andThen_ok,ht,Sem.run_pure,run_getObj hb,run_checkKey hkt,hr,run_setObj hb]
 |some p=>
  simp only[Option.map_some]at h2
  rw[←h2]
  refine⟨_,_,rfl,?_⟩
  simp only[Builtin.delete_,List.getElem?_toArray,List.getElem?_cons_zero,List.getElem?_cons_succ,underlying,Sem.run_bind,run_program,Result.andThen_ok,ht,Sem.run_pure,run_getObj hb,run_checkKey hkt,hr,run_setObj hb]
end
section
variable {P:Program} {W0:World} {M0 M M':Mem} {β:Nat→Nat} {S:St} {f:Nat→SV} {n nt:Nat} {a:Act} {w w':World}
def dstOk(d:Option Nat):K→Bool
 |.store _ _ _=>d.isNone
 |.alloc _ _|.box _ _|.bslice _ _ _ _ _=>d.isSome
 |_=>true
theorem ev_junk(d:Nat)(f:Nat→SV)(x:Operand):ev (fun t=>junkB d (f t)) x=ev f x:=by
 cases x with
 |tmp t=>
  simp only[ev]
  cases f t with
  |bp s o=>
   simp only[junkB]
   by_cases h:s=d
   ·rw[if_pos h]
   ·rw[if_neg h]
  |_=>rfl
 |_=>rfl
theorem fillP_junk(d:Nat)(f:Nat→SV):∀(ps:List (Nat×Nat×Operand)) (cs:List Value),fillP (fun t=>junkB d (f t)) cs ps=fillP f cs ps
 |[],cs=>rfl
 |(o,m,x)::r,cs=>by
  simp only[fillP,ev_junk]
  cases ev f x with
  |none=>rfl
  |some y=>simp only[];split<;>first|exact fillP_junk d f r _|rfl
theorem fl_sound(hR:RepF W0 M0 β S nt M a w){o:Oper}{q own:Bool}{k:K}{next:Act→World→Prop}{Q:Exit→Act→World→Prop}{post:St→Mem→Prop}(hk:trK P q own o.op=some k)
 (hd:∀t,o.dst=some t→t<nt) (hdo:dstOk o.dst k=true)
 (h:∃sv,FE P S M k sv∧post (if sv.isBox then putB S o.dst sv else put S o.dst sv) M)
 (hK:∀S' M' a' w' β',post S' M'→RepF W0 M0 β' S' nt M' a' w'→next a' w'):o.wp P a w next Q:=by
 obtain⟨sv,hfe,hp⟩:=h
 cases hb:sv.isBox with
 |false=>
  rw[hb]at hp
  simp only[Bool.false_eq_true,if_false]at hp
  refine fe_exec hR hk hfe hd (fun h=>by rw[hb]at h;cases h) ?_
  intro a' w' β' hR'
  refine hK _ _ _ _ β' hp ?_
  rw[upO_put];exact hR'
 |true=>
  rw[hb]at hp
  simp only[if_true]at hp
  have hdst:∃d,o.dst=some d:=by
   rcases hfe with h|h
   ·exfalso
    obtain⟨x,_,hs⟩:=pe_run (P:=P) hR hk h
    cases sv<;>first|(cases hb;done)|exact hs
   ·cases k<;>first
     |(exact h.elim)
     |(obtain⟨b,o,cs,v,_,_,_,rfl⟩:=h;cases hb;done)
     |(obtain⟨es,c,j,_,_,_,rfl⟩:=h;cases hb;done)
     |(obtain⟨args,r,_,_,rfl⟩:=h;cases hb;done)
     |(simp only[dstOk]at hdo;exact Option.isSome_iff_exists.1 hdo)
  obtain⟨d,hdd⟩:=hdst
  rw[hdd]at hp
  simp only[putB]at hp
  have hdl:=hd d hdd
  have hR1:=hR.weak (junkB_le d S)
  have hfe':FE P (fun t=>junkB d (S t)) M k sv:=by
   rcases hfe with h|h
   ·exfalso
    obtain⟨x,_,hs⟩:=pe_run (P:=P) hR hk h
    cases sv<;>first|(cases hb;done)|exact hs
   ·cases k<;>first
     |(exact h.elim)
     |(obtain⟨b,o,cs,v,_,_,_,rfl⟩:=h;cases hb;done)
     |(obtain⟨es,c,j,_,_,_,rfl⟩:=h;cases hb;done)
     |(obtain⟨args,r,_,_,rfl⟩:=h;cases hb;done)
     |skip
    case alloc ow z=>cases ow<;>first|exact h.elim|exact .inr h
    case box ow x=>
     cases ow with
     |false=>exact h.elim
     |true=>
      obtain⟨v,hv,rfl⟩:∃v,ev S x=some v∧sv=.box v.cells.toList:=h
      exact .inr ⟨v,by rw[ev_junk];exact hv,rfl⟩
    case bslice ow len size z ps=>
     cases ow with
     |false=>exact h.elim
     |true=>
      obtain⟨cs,hcs,rfl⟩:∃cs,fillP S z ps=some cs∧sv=.bsl cs len:=h
      exact .inr ⟨cs,by rw[fillP_junk];exact hcs,rfl⟩
  refine fe_exec hR1 hk hfe' hd (fun _=>⟨d,hdd,fun t o' _=>junkB_no d _ o'⟩) ?_
  intro a' w' β' hR'
  refine hK _ _ _ _ β' hp ?_
  rw[hdd]at hR'
  exact hR'
theorem vcK_sound(hR:RepF W0 M0 β S nt M a w){o:Oper}{q own:Bool}{k:K}{next:Act→World→Prop}{Q:Exit→Act→World→Prop}{post:St→Mem→Prop}(hk:trK P q own o.op=some k)
 (hd:∀t,o.dst=some t→t<nt) (hdo:dstOk o.dst k=true) (h:vcK P k o.dst post S M)
 (hK:∀S' M' a' w' β',post S' M'→RepF W0 M0 β' S' nt M' a' w'→next a' w'):o.wp P a w next Q:=by
 have hinv:=trK_inv hk
 cases k
 case call g xs=>
  obtain⟨args,hargs,hF⟩:=h
  obtain⟨arr,ats,hop,rfl,hok⟩:=hinv
  refine upon_enter hR.sat (run_callF hop hR hargs hok) hF ?_
  intro v M' w' hp hs ht
  exact put_done hR hd hs ht hp hK
 case callv x xs=>
  obtain⟨g,u,c,args,hx,hok,hargs,hF⟩:=h
  obtain⟨t,arr,ats,hop,rfl,rfl⟩:=hinv
  refine upon_enter hR.sat (run_callV hop hR hx hargs hok) hF ?_
  intro v M' w' hp hs ht
  exact put_done hR hd hs ht hp hK
 case store m x y=>
  obtain⟨v,hv,hm,hpl,h⟩:=h
  obtain⟨t,i,hop,hi,rfl⟩:=hinv
  have hdn:o.dst=none:=by simpa [dstOk]using hdo
  obtain⟨dst,op,ty,pos,after,guard⟩:=o
  simp only at hop hdn
  subst hop hdn
  rcases h with⟨s,off,cs,hl,hbx,hle,hp⟩|⟨b,off,cs,hl,hM,hle,hp⟩
  ·have hsv:=hR.sv s
   rw[hbx]at hsv
   obtain⟨w',hr,hh,ho,hsz,e1,e2,e3⟩:=run_storeVar (P:=P) (t:=t) (o:=off) hi hsv.2.1 hm hpl (by omega)
   refine upon_skip (w':=w') ?_ ?_
   ·simp only[execOp,hR.ev hv,hR.lc_bx hl,Instr.storeAt,Instr.sureAddr,Sem.run_bind,Sem.run_pure,Result.andThen_ok,hr]
   ·refine hK _ _ _ _ β hp ?_
    exact hR.setB hbx hh ho hsz e1 e2 e3
  ·obtain⟨w',hr,hh,ho,hsz,e1,e2,e3⟩:=run_storeVar (P:=P) (t:=t) (o:=off) hi (hR.sat _ _ hM) hm hpl (by omega)
   refine upon_skip (w':=w') ?_ ?_
   ·simp only[execOp,hR.ev hv,hR.lc_mm hl,Instr.storeAt,Instr.sureAddr,Sem.run_bind,Sem.run_pure,Result.andThen_ok,hr]
   ·exact hK _ _ _ _ β hp (hR.step (hR.sat.set hh ho) (Stp.set hM ho hsz e1 e2 e3))
 case alloc ow z=>
  cases ow with
  |true=>exact fl_sound hR hk hd hdo h hK
  |false=>
   obtain⟨t,inf,zv,hop,hinf,hz,rfl⟩:=hinv
   have hp:=h w.heap.size hR.sat.none_size
   obtain⟨dst,op,ty,pos,after,guard⟩:=o
   simp only at hop
   subst hop
   have hrun:(execOp a.eval {dst:=dst,op:=.alloc t,type:=ty,pos:=pos,after:=after,guard:=guard}).run P w=.ok (.value (.pointer (some ⟨w.heap.size,0,none⟩))) (wpush w (.cells zv.cells t)):=by
    simp[execOp,run_alloc (w:=w) hinf hz]
   refine upon_value hrun ?_
   exact alloc_done hR hd rfl rfl rfl rfl holds_push_row hp hK
 case box ow x=>
  cases ow with
  |true=>exact fl_sound hR hk hd hdo h hK
  |false=>
   obtain⟨v,hv,h⟩:=h
   obtain⟨t,hop⟩:=hinv
   have hp:=h w.heap.size hR.sat.none_size
   obtain⟨dst,op,ty,pos,after,guard⟩:=o
   simp only at hop
   subst hop
   have hrun:(execOp a.eval {dst:=dst,op:=.box t x,type:=ty,pos:=pos,after:=after,guard:=guard}).run P w=.ok (.value (.pointer (some ⟨w.heap.size,0,none⟩))) (wpush w (.cells v.cells t)):=by
    simp[execOp,run_box,hR.ev hv]
   refine upon_value hrun ?_
   exact alloc_done hR hd rfl rfl rfl rfl holds_push_row hp hK
 case bslice ow len size z ps=>
  cases ow with
  |true=>exact fl_sound hR hk hd hdo h hK
  |false=>
   obtain⟨cs,hcs,h⟩:=h
   obtain⟨t,e,i,zv,parts,hop,ht,hi,hz,h1,rfl,rfl,hps⟩:=hinv
   have hp:=h w.heap.size hR.sat.none_size
   obtain⟨dst,op,ty,pos,after,guard⟩:=o
   simp only at hop
   subst hop
   have hrun:(execOp a.eval {dst:=dst,op:=.buildSlice t len parts,type:=ty,pos:=pos,after:=after,guard:=guard}).run P w=.ok (.value (.slice (some ⟨w.heap.size,0,none⟩) len len)) (wpush w (.cells cs.toArray e)):=by
    have:=run_bslice (w:=w) hR ht hi hz h1 hps hcs
    simp[execOp,this]
   refine upon_value hrun ?_
   exact alloc_done hR hd rfl rfl rfl rfl (by have:=holds_push_row (w:=w) (cs:=cs.toArray) (t:=e);simpa using this) hp hK
 case mkslice size bytes z l c=>
  obtain⟨nn,m,hl,hc,hle,hb,hm,h⟩:=h
  obtain⟨t,e,i,zv,hop,ht,hi,hz,hzs,h0,rfl,rfl,rfl⟩:=hinv
  have hp:=h w.heap.size hR.sat.none_size
  obtain⟨dst,op,ty,pos,after,guard⟩:=o
  simp only at hop
  subst hop
  have hrun:(execOp a.eval {dst:=dst,op:=.makeSlice t l c,type:=ty,pos:=pos,after:=after,guard:=guard}).run P w=.ok (.value (.slice (some ⟨w.heap.size,0,none⟩) nn m)) (wpush w (.cells (zrep zv.cells.toList m).toArray e)):=by
   simp only[execOp,hR.ev hl,hR.ev hc]
   simp[run_mkslice (w:=w) ht hi hz hzs h0 hle hb hm]
  refine upon_value hrun ?_
  exact alloc_done hR hd rfl rfl rfl rfl (by have:=holds_push_row (w:=w) (cs:=(zrep zv.cells.toList m).toArray) (t:=e);simpa using this) hp hK
 case app size bytes z s x=>
  obtain⟨sv,src,k,hs,hsrc,hpl,h⟩:=h
  obtain⟨t,u,e,i,zv,hop,ht,hi,hz,hzs,h0,hby,rfl,rfl,rfl,hu⟩:=hinv
  obtain⟨hS,hl⟩:=src_of (P:=P) (u:=u) (z:=zv) hR hsrc hu
  refine appM_done (u:=u) hR hd ht hi hz hzs h0 hby hS hpl hl ?_ h hK
  intro v w' hr
  obtain⟨dst,op,ty,pos,after,guard⟩:=o
  simp only at hop
  subst hop
  simp only at hr
  have e1:a.eval s=sv:=hR.ev hs
  simp[execOp,resolve,invoke,builtin,e1,hr]
 case appz size bytes z s x=>
  obtain⟨sv,k,hs,hx,hkk,hpl,h⟩:=h
  obtain⟨t,u,e,i,zv,hop,ht,hi,hz,hzs,h0,hby,rfl,rfl,rfl,ik,hu⟩:=hinv
  refine appMz_done hR hd ht hu hi hz hzs h0 hby hpl hkk ?_ h hK
  intro v w' hr
  obtain⟨dst,op,ty,pos,after,guard⟩:=o
  simp only at hop
  subst hop
  simp only at hr
  have e1:a.eval s=sv:=hR.ev hs
  have e2:a.eval x=.int .i64 k:=hR.ev hx
  simp[execOp,resolve,invoke,builtin,e1,e2,hr]
 case mkmap=>
  obtain⟨t,hop⟩:=hinv
  have hp:=h w.heap.size hR.sat.none_size
  obtain⟨dst,op,ty,pos,after,guard⟩:=o
  simp only at hop
  subst hop
  have hrun:(execOp a.eval {dst:=dst,op:=.makeMap t none,type:=ty,pos:=pos,after:=after,guard:=guard}).run P w=.ok (.value (.map (some w.heap.size))) (wpush w (.map #[] 0)):=by
   simp[execOp,Instr.makeMap,wpush]
  refine upon_value hrun ?_
  exact alloc_done hR hd rfl rfl rfl rfl holds_push_mp hp hK
 case mupd m i y=>
  obtain⟨b,es,c,j,v,hm,hM,hi,hy,hints,hp⟩:=h
  obtain⟨t,kt,e,ik,hop,ht,hkt⟩:=hinv
  obtain⟨es',c',hset,hr⟩:=run_mapUpdate (P:=P) (v:=v) ht hkt (hR.sat _ _ hM) hints
  obtain⟨f1,f2⟩:=setMap_facts (es':=es') (c':=c') (hR.sat _ _ hM)
  rw[hset]at hp
  obtain⟨dst,op,ty,pos,after,guard⟩:=o
  simp only at hop
  subst hop
  have hrun:(execOp a.eval {dst:=dst,op:=.mapUpdate t m i y,type:=ty,pos:=pos,after:=after,guard:=guard}).run P w=.ok .skip {w with heap:=w.heap.setIfInBounds b (.map es' c')}:=by
   simp only[execOp,hR.ev hm,hR.ev hi,hR.ev hy,Sem.run_bind,hr,Result.andThen_ok,Sem.run_pure]
  refine upon_skip hrun ?_
  exact put_done hR hd (hR.sat.set f1 f2) (Stp.set hM f2 (by simp) rfl rfl rfl) hp hK
 case mdel m i=>
  obtain⟨b,es,c,j,hm,hM,hi,hints,hp⟩:=h
  obtain⟨t,u,kt,e,ik,hop,ht,hkt⟩:=hinv
  obtain⟨dst,op,ty,pos,after,guard⟩:=o
  obtain⟨es',c',hset,hr⟩:=run_delete (P:=P) (u:=u) (ty:=ty) ht hkt (hR.sat _ _ hM) hints
  obtain⟨f1,f2⟩:=setMap_facts (es':=es') (c':=c') (hR.sat _ _ hM)
  rw[hset]at hp
  simp only at hop
  subst hop
  have e1:=hR.ev hm
  have e2:=hR.ev hi
  have hrun:(execOp a.eval {dst:=dst,op:=.call {callee:=.builtin .delete,args:=⟨[m,i]⟩,argTypes:=⟨[t,u]⟩},type:=ty,pos:=pos,after:=after,guard:=guard}).run P w=.ok (.value (.tuple #[])) {w with heap:=w.heap.setIfInBounds b (.map es' c')}:=by
   simp[execOp,resolve,invoke,builtin,e1,e2,hr]
  refine upon_value hrun ?_
  exact put_done hR hd (hR.sat.set f1 f2) (Stp.set hM f2 (by simp) rfl rfl rfl) hp hK
 all_goals exact fl_sound hR hk hd hdo h hK
end
def slotOf(ops:Array Oper)(j:Nat):Option Nat:=(ops[j]?).bind (·.dst)
def dLt(nt:Nat):Option Nat→Bool
 |some d=>decide (d<nt)
 |none=>true
def dOwn(own:List Nat):Option Nat→Bool
 |some d=>own.contains d
 |none=>false
def trI(P:Program)(q:Bool)(own:List Nat)(nt:Nat)(ops:Array Oper)(o:Oper):Option I:=
 match trK P q (dOwn own o.dst) o.op with
 |none=>none
 |some k=>if dstOk o.dst k&&dLt nt o.dst then
   match o.guard with
   |none=>some ⟨o.dst,none,k⟩
   |some (j,want)=>match slotOf ops j with
    |some s=>some ⟨o.dst,some (s,want),k⟩
    |none=>none
  else none
def trL(P:Program)(own:List Nat)(nt:Nat)(ops:Array Oper):Nat→List Oper→Option (List I)
 |_,[]=>some []
 |n,o::r=>match trI P (decide (0<n)) own nt ops o,trL P own nt ops (n-1) r with
  |some i,some l=>some (i::l)
  |_,_=>none
def vcO(P:Program)(i:I)(post:St→Mem→Prop)(S:St)(M:Mem):Prop:=
 match i.g with
 |none=>vcK P i.k i.d post S M
 |some (s,want)=>match S s with
  |.v (.bool b)=>(b=want→vcK P i.k i.d post S M)∧(b≠want→post (put S i.d (.v undef)) M)
  |.v _=>post (put S i.d (.v undef)) M
  |_=>False
def vcL(P:Program):List I→(St→Mem→Prop)→St→Mem→Prop
 |[],post=>post
 |i::r,post=>vcO P i (vcL P r post)
section
variable {P:Program} {W0:World} {M0 M M':Mem} {β:Nat→Nat} {S:St} {f:Nat→SV} {n nt:Nat} {a:Act} {w w':World} {own:List Nat} {ops:Array Oper}
theorem trI_some{q:Bool}{o:Oper}{i:I}(h:trI P q own nt ops o=some i):∃ow,trK P q ow o.op=some i.k∧i.d=o.dst∧dstOk o.dst i.k=true∧(∀t,o.dst=some t→t<nt)∧
 ((o.guard=none∧i.g=none)∨∃j want s,o.guard=some (j,want)∧slotOf ops j=some s∧i.g=some (s,want)):=by
 unfold trI at h
 split at h
 ·cases h
 ·rename_i k hk
  split at h
  ·rename_i hc
   simp only[Bool.and_eq_true]at hc
   obtain⟨h1,h2⟩:=hc
   have h2':∀t,o.dst=some t→t<nt:=by
    intro t ht
    rw[ht]at h2
    simpa [dLt]using h2
   split at h
   ·rename_i hg
    cases h
    exact⟨_,hk,rfl,h1,h2',.inl ⟨hg,rfl⟩⟩
   ·rename_i j want hg
    split at h
    ·rename_i s hs
     cases h
     exact⟨_,hk,rfl,h1,h2',.inr ⟨j,want,s,hg,hs,rfl⟩⟩
    ·cases h
  ·cases h
theorem yielded_bool(hR:RepF W0 M0 β f n M a w){j s:Nat}{b:Bool}(hs:slotOf ops j=some s)(hf:f s=.v (.bool b)):yielded ops a.tmps j=some b:=by
 unfold yielded
 have hv:=hR.sv s
 rw[hf]at hv
 have hv':a.tmps.getD s undef=.bool b:=hv
 have hsome:a.tmps[s]?=some (.bool b):=by
  rcases Nat.lt_or_ge s a.tmps.size with h|h
  ·rw[Array.getElem?_eq_getElem h];simp[h]at hv';rw[hv']
  ·simp[Array.getElem?_eq_none h,undef]at hv'
 unfold slotOf at hs
 rw[hs]
 simp only[Option.bind_some,hsome]
theorem yielded_other(hR:RepF W0 M0 β f n M a w){j s:Nat}{x:Value}(hs:slotOf ops j=some s)(hf:f s=.v x)(hx:∀b,x≠.bool b):yielded ops a.tmps j=none:=by
 unfold yielded
 have hv:=hR.sv s
 rw[hf]at hv
 have hv':a.tmps.getD s undef=x:=hv
 unfold slotOf at hs
 rw[hs]
 simp only[Option.bind_some]
 cases ht:a.tmps[s]? with
 |none=>rfl
 |some y=>
  have:y=x:=by
   simp only[Array.getD_eq_getD_getElem?,ht,Option.getD_some]at hv';exact hv'
  subst this
  cases y<;>first|rfl|exact absurd rfl (hx _)
theorem vcO_sound{q:Bool}{o:Oper}{i:I}{K:Act→World→Prop}{Q:Exit→Act→World→Prop}{post:St→Mem→Prop}(hR:RepF W0 M0 β S nt M a w)(hi:trI P q own nt ops o=some i)(h:vcO P i post S M)
 (hK:∀S' M' a' w' β',post S' M'→RepF W0 M0 β' S' nt M' a' w'→K a' w'):
 if Region.wanted o (yielded ops a.tmps)then o.wp P a w K Q else K (a.put o.dst undef) w:=by
 obtain⟨ow,hk,hd,hdo,hlt,hg⟩:=trI_some hi
 have hlt':=hlt
 have hrun:vcK P i.k i.d post S M→o.wp P a w K Q:=fun hv=>vcK_sound hR hk hlt' hdo (hd▸hv) hK
 have hskip:post (put S i.d (.v undef)) M→K (a.put o.dst undef) w:=fun hv=>by
  rw[hd]at hv
  refine hK _ _ _ _ β hv ?_
  rw[upO_put]
  cases hdst:o.dst with
  |none=>exact hR
  |some t=>exact hR.put (hlt' t hdst) rfl
 unfold vcO at h
 rcases hg with⟨hg,hig⟩|⟨j,want,s,hg,hs,hig⟩
 ·rw[hig]at h
  rw[if_pos (by simp[Region.wanted,hg])]
  exact hrun h
 ·rw[hig]at h
  simp only at h
  split at h
  ·rename_i b hb
   have hy:=yielded_bool hR hs hb
   by_cases hbw:b=want
   ·rw[if_pos (by simp[Region.wanted,hg,hy,hbw])]
    exact hrun (h.1 hbw)
   ·rw[if_neg (by simp[Region.wanted,hg,hy,hbw])]
    exact hskip (h.2 hbw)
  ·rename_i x hnb hb
   have hy:=yielded_other hR hs hb (fun b e=>hnb b e)
   rw[if_neg (by simp[Region.wanted,hg,hy])]
   exact hskip h
  ·exact h.elim
theorem vcL_sound{Q:Exit→Act→World→Prop}{post:St→Mem→Prop}
 (hK:∀S' M' a' w' β',post S' M'→RepF W0 M0 β' S' nt M' a' w'→Q .normal a' w'):
 ∀{l:List Oper} {il:List I} {q:Nat} {S:St} {M:Mem} {β:Nat→Nat} {a:Act} {w:World},trL P own nt ops q l=some il→RepF W0 M0 β S nt M a w→vcL P il post S M→wpList P ops Q l a w
 |[],il,q,S,M,β,a,w,hl,hR,h=>by
  simp only[trL,Option.some.injEq]at hl
  subst hl
  exact hK _ _ _ _ β h hR
 |o::r,il,q,S,M,β,a,w,hl,hR,h=>by
  simp only[trL]at hl
  split at hl
  ·rename_i i l' h1 h2
   simp only[Option.some.injEq]at hl
   subst hl
   have:=vcO_sound (Q:=Q) (K:=wpList P ops Q r) hR h1 h (fun S' M' a' w' β' hp hr=>vcL_sound hK h2 hr hp)
   unfold wpList
   split
   ·rename_i hw;rw[if_pos hw]at this;exact .inl this
   ·rename_i hw;rw[if_neg hw]at this;exact this
  ·cases hl
end
def floatK:K→Bool
 |.call _ _|.callv _ _|.store _ _ _|.mkslice _ _ _ _ _|.app _ _ _ _ _|.appz _ _ _ _ _|.mkmap|.mupd _ _ _|.mdel _ _=>false
 |.alloc ow _=>ow
 |.box ow _=>ow
 |.bslice ow _ _ _ _=>ow
 |_=>true
def boxK:K→Bool
 |.alloc _ _|.box _ _|.bslice _ _ _ _ _=>true
 |_=>false
def dOf(l:List I)(i:Nat):Option Nat:=(l[i]?).bind (·.d)
def slotsAt(l:List I)(i:Nat):List Nat:=match l[i]? with|some x=>x.slots|none=>[]
def dsOf(l:List I)(n:Nat):List Nat:=(l.take n).filterMap (·.d)
def waitedB(ops:Array Oper)(n i:Nat):Bool:=(List.range (n+1)).any fun j=>decide (i<j)&&Region.waitsFor .any ops j i
def statB(ops:Array Oper)(i:Nat):Bool:=
 (match ops[i]? with
  |some o=>o.guard.isNone&&(o.after.all fun e=> !Region.binds .any e)&&(match o.op with|.move _=>true|_=>false)
  |none=>false)&&Region.free .any ops (Array.replicate ops.size false) i&&Region.noSelect ops
def drawB(ops:Array Oper)(l:List I)(n:Nat):Bool:=
 ((List.range n).all fun i=>match l[i]? with|some x=>floatK x.k&&x.d.isSome|none=>false)&&
 ((List.range n).all fun i=>(List.range i).all fun j=>dOf l i !=dOf l j)&&
 ((List.range n).all fun i=>(slotsAt l i).all fun t=>(List.range n).all fun j=>dOf l j !=some t||(decide (j<i)&&Region.waitsFor .any ops i j))&&
 ((List.range n).all fun i=> !(match l[i]? with|some x=>boxK x.k|none=>false)||(List.range n).all fun j=> !(slotsAt l j).any fun t=>dOf l i==some t)&&
 ((List.range ops.size).all fun i=>match ops[i]? with|some o=>o.after.all fun e=> !Region.binds .any e||decide (e.on<i)|none=>false)&&
 (n==ops.size||(decide (n<ops.size)&&((List.range n).all fun i=>waitedB ops n i||statB ops i)&&Region.chainB .any ops n))
def junkD(ds:List Nat):SV→SV
 |.bp s o=>if ds.contains s then .junk else .bp s o
 |x=>x
section
variable {P:Program} {W0:World} {M0 M M':Mem} {β:Nat→Nat} {S:St} {f g:Nat→SV} {n nt:Nat} {a:Act} {w w':World} {own:List Nat} {ops:Array Oper}
def FO(P:Program)(f:Nat→SV)(M:Mem)(i:I)(sv:SV):Prop:=
 match i.g with
 |none=>FE P f M i.k sv
 |some (s,want)=>match f s with
  |.v (.bool b)=>(b=want∧FE P f M i.k sv)∨(b≠want∧sv=.v undef)
  |.v _=>sv=.v undef
  |_=>False
def putX(S:St)(d:Option Nat)(sv:SV):St:=if sv.isBox then putB S d sv else put S d sv
theorem FO_of_vcO{i:I}{post:St→Mem→Prop}(hf:floatK i.k=true)(h:vcO P i post S M):∃sv,FO P S M i sv∧post (putX S i.d sv) M:=by
 have key:vcK P i.k i.d post S M→∃sv,FE P S M i.k sv∧post (putX S i.d sv) M:=by
  intro hv
  cases hk:i.k<;>rw[hk]at hv hf<;>first
   |(cases hf;done)
   |exact hv
   |skip
  case alloc ow z=>
   have:ow=true:=hf
   subst this;exact hv
  case box ow x=>
   have:ow=true:=hf
   subst this;exact hv
  case bslice ow len size z ps=>
   have:ow=true:=hf
   subst this;exact hv
 unfold vcO at h
 unfold FO
 cases hg:i.g with
 |none=>rw[hg]at h;exact key h
 |some p=>
  obtain⟨s,want⟩:=p
  rw[hg]at h
  simp only at h⊢
  cases hs:S s with
  |v x=>
   rw[hs]at h
   cases x
   case bool b=>
    simp only at h⊢
    by_cases hb:b=want
    ·obtain⟨sv,h1,h2⟩:=key (h.1 hb)
     exact⟨sv,.inl ⟨hb,h1⟩,h2⟩
    ·exact⟨_,.inr ⟨hb,rfl⟩,h.2 hb⟩
   all_goals exact⟨_,rfl,h⟩
  |_=>rw[hs]at h;exact h.elim
theorem mem_tmps{t:Nat}:∀{xs:List Operand},Operand.tmp t∈xs→t∈tmpsOf xs
 |[],h=>by cases h
 |y::r,h=>by
  rcases List.mem_cons.1 h with h1|h1
  ·subst h1;simp[tmpsOf]
  ·have ih:=mem_tmps h1
   cases y<;>simp only[tmpsOf]<;>first|exact ih|exact List.mem_cons_of_mem _ ih
def agree(f g:Nat→SV)(xs:List Operand):Prop:=∀t,t∈tmpsOf xs→f t=g t∧∀s o,f t=.bp s o→f s=g s
theorem agree.one{xs:List Operand}(h:agree f g xs){x:Operand}(hx:x∈xs)(t:Nat)(e:x=.tmp t):f t=g t∧∀s o,f t=.bp s o→f s=g s:=by subst e;exact h t (mem_tmps hx)
theorem ev_agree{xs:List Operand}(h:agree f g xs){x:Operand}(hx:x∈xs):ev g x=ev f x:=by
 cases x with
 |tmp t=>simp only[ev];rw[(h.one hx t rfl).1]
 |_=>rfl
theorem lc_agree{xs:List Operand}(h:agree f g xs){x:Operand}(hx:x∈xs):lc g x=lc f x:=by
 cases x with
 |tmp t=>simp only[lc];rw[(h.one hx t rfl).1]
 |_=>rfl
theorem bxc_agree{xs:List Operand}(h:agree f g xs){x:Operand}(hx:x∈xs){s o:Nat}(hl:lc f x=some (.bx s o)):g s=f s:=by
 cases x with
 |tmp t=>
  obtain⟨h1,h2⟩:=h.one hx t rfl
  simp only[lc]at hl
  cases hf:f t with
  |v y=>rw[hf]at hl;obtain⟨b,o',e',_⟩:=lcV_mm hl;cases e'
  |box cs=>rw[hf]at hl;simp only[Option.some.injEq,Lc.bx.injEq]at hl;rw[←hl.1];exact h1.symm
  |bp s' o'=>rw[hf]at hl;simp only[Option.some.injEq,Lc.bx.injEq]at hl;rw[←hl.1];exact(h2 _ _ hf).symm
  |_=>rw[hf]at hl;cases hl
 |const x=>obtain⟨b,o',e',_⟩:=lcV_mm hl;cases e'
 |global g=>simp[lc]at hl
 |func g=>simp[lc]at hl
theorem evs_agree{xs:List Operand}(h:agree f g xs):∀{ys:List Operand},(∀y∈ys,y∈xs)→evs g ys=evs f ys
 |[],_=>rfl
 |y::r,hy=>by
  simp only[evs]
  rw[ev_agree h (hy y (by simp)),evs_agree h (fun z hz=>hy z (by simp[hz]))]
theorem fillP_agree{xs:List Operand}(h:agree f g xs):∀{ps:List (Nat×Nat×Operand)} {cs:List Value},(∀p∈ps,p.2.2∈xs)→fillP g cs ps=fillP f cs ps
 |[],cs,_=>rfl
 |(o,m,x)::r,cs,hp=>by
  simp only[fillP]
  rw[ev_agree h (hp (o,m,x) (by simp))]
  cases ev f x with
  |none=>rfl
  |some y=>
   simp only[]
   split
   ·exact fillP_agree h (fun p hp'=>hp p (by simp[hp']))
   ·rfl
theorem optEv_agree{xs:List Operand}(h:agree f g xs){x:Option Operand}(hx:∀y,x=some y→y∈xs):optEv g x=optEv f x:=by
 cases x with
 |none=>rfl
 |some y=>simp only[optEv];rw[ev_agree h (hx y rfl)]
theorem pe_agree{k:K}(h:agree f g k.ops):pe g k=pe f k:=by
 cases k<;>simp only[pe]
 case mov x=>rw[ev_agree h (by simp[K.ops])]
 case pick c x y=>
  rw[ev_agree h (x:=c) (by simp[K.ops]),]
  have h1:=ev_agree h (x:=x) (by simp[K.ops])
  have h2:=ev_agree h (x:=y) (by simp[K.ops])
  split
  ·rename_i t _;cases t<;>simp[h1,h2]
  ·rfl
 case bin op x y=>rw[ev_agree h (x:=x) (by simp[K.ops]),ev_agree h (x:=y) (by simp[K.ops])]
 case eqB neg x y=>rw[ev_agree h (x:=x) (by simp[K.ops]),ev_agree h (x:=y) (by simp[K.ops])]
 case eqA neg m x y=>rw[ev_agree h (x:=x) (by simp[K.ops]),ev_agree h (x:=y) (by simp[K.ops])]
 case not x=>rw[ev_agree h (x:=x) (by simp[K.ops])]
 case conv k x=>rw[ev_agree h (x:=x) (by simp[K.ops])]
 case load one m x=>
  rw[lc_agree h (x:=x) (by simp[K.ops])]
  cases hl:lc f x with
  |none=>rfl
  |some l=>
   cases l with
   |mm b o=>rfl
   |bx s o=>simp only[];rw[bxc_agree h (x:=x) (by simp[K.ops]) hl]
 case nilCheck x=>rw[ev_agree h (x:=x) (by simp[K.ops])]
 case faddr off x=>rw[lc_agree h (x:=x) (by simp[K.ops])]
 case field one off m x=>rw[ev_agree h (x:=x) (by simp[K.ops])]
 case iaddr size x i=>rw[ev_agree h (x:=x) (by simp[K.ops]),ev_agree h (x:=i) (by simp[K.ops])]
 case sidx x i=>rw[ev_agree h (x:=x) (by simp[K.ops]),ev_agree h (x:=i) (by simp[K.ops])]
 case build z ps=>rw[fillP_agree h (fun p hp=>by simp only[K.ops,List.mem_map];exact⟨p,hp,rfl⟩)]
 case slc size x lo hi=>
  rw[ev_agree h (x:=x) (by simp[K.ops]),optEv_agree h (x:=lo) (fun y e=>by subst e;simp[K.ops]),optEv_agree h (x:=hi) (fun y e=>by subst e;simp[K.ops])]
 case sslc x lo hi=>
  rw[ev_agree h (x:=x) (by simp[K.ops]),optEv_agree h (x:=lo) (fun y e=>by subst e;simp[K.ops]),optEv_agree h (x:=hi) (fun y e=>by subst e;simp[K.ops])]
 case lenS x=>rw[ev_agree h (x:=x) (by simp[K.ops])]
 case lenT x=>rw[ev_agree h (x:=x) (by simp[K.ops])]
 case min x y=>rw[ev_agree h (x:=x) (by simp[K.ops]),ev_agree h (x:=y) (by simp[K.ops])]
 case max x y=>rw[ev_agree h (x:=x) (by simp[K.ops]),ev_agree h (x:=y) (by simp[K.ops])]
 case ext x i=>rw[ev_agree h (x:=x) (by simp[K.ops])]
 case mkfn gg xs ys=>rw[evs_agree h (ys:=xs) (fun y hy=>by simp[K.ops,hy]),evs_agree h (ys:=ys) (fun y hy=>by simp[K.ops,hy])]
theorem FE_agree{k:K}{sv:SV}(h:agree f g k.ops)(hfe:FE P f M k sv):FE P g M k sv:=by
 rcases hfe with hfe|hfe
 ·exact .inl (by rw[pe_agree h];exact hfe)
 ·refine .inr ?_
  cases k<;>first|(exact hfe.elim)|skip
  case load one m x=>
   obtain⟨b,o,cs,v,h1,h2⟩:=hfe
   exact⟨b,o,cs,v,by rw[lc_agree h (x:=x) (by simp[K.ops])];exact h1,h2⟩
  case look one z ok x i=>
   obtain⟨es,c,j,h1,h2,h3⟩:=hfe
   refine⟨es,c,j,?_,by rw[ev_agree h (x:=i) (by simp[K.ops])];exact h2,h3⟩
   rw[ev_agree h (x:=x) (by simp[K.ops])];exact h1
  case alloc ow z=>
   cases ow with
   |false=>exact hfe.elim
   |true=>exact hfe
  case box ow x=>
   cases ow with
   |false=>exact hfe.elim
   |true=>
    obtain⟨v,h1,h2⟩:∃v,ev f x=some v∧sv=.box v.cells.toList:=hfe
    exact⟨v,by rw[ev_agree h (x:=x) (by simp[K.ops])];exact h1,h2⟩
  case bslice ow len size z ps=>
   cases ow with
   |false=>exact hfe.elim
   |true=>
    obtain⟨cs,h1,h2⟩:∃cs,fillP f z ps=some cs∧sv=.bsl cs len:=hfe
    exact⟨cs,by rw[fillP_agree h (fun p hp=>by simp only[K.ops,List.mem_map];exact⟨p,hp,rfl⟩)];exact h1,h2⟩
  case qcall gg xs=>
   obtain⟨args,r,h1,h2⟩:=hfe
   exact⟨args,r,by rw[evs_agree h (ys:=xs) (fun y hy=>by simpa [K.ops]using hy)];exact h1,h2⟩
theorem FO_agree{i:I}{sv:SV}(h:∀t,t∈i.slots→f t=g t∧∀s o,f t=.bp s o→f s=g s)(hf:FO P f M i sv):FO P g M i sv:=by
 have hk:agree f g i.k.ops:=fun t ht=>h t (by unfold I.slots;exact List.mem_append_right _ ht)
 unfold FO at*
 cases hg:i.g with
 |none=>rw[hg]at hf;exact FE_agree hk hf
 |some p=>
  obtain⟨s,want⟩:=p
  rw[hg]at hf
  simp only at hf⊢
  have hs:=(h s (by unfold I.slots;rw[hg];simp)).1
  rw[←hs]
  cases hfs:f s with
  |v x=>
   rw[hfs]at hf
   cases x
   case bool b=>
    simp only at hf⊢
    rcases hf with⟨h1,h2⟩|h2
    ·exact .inl ⟨h1,FE_agree hk h2⟩
    ·exact .inr h2
   all_goals exact hf
  |_=>rw[hfs]at hf;exact hf.elim
end
structure DC (ops:Array Oper) (l:List I) (n:Nat):Prop where
 h1:∀i,i<n→∃x d,l[i]?=some x∧floatK x.k=true∧x.d=some d
 h2:∀i j,i<n→j<n→i≠j→dOf l i≠dOf l j
 h3:∀i,i<n→∀t,t∈slotsAt l i→∀j,j<n→dOf l j=some t→j<i∧Region.waitsFor .any ops i j=true
 h4:∀i x,i<n→l[i]?=some x→boxK x.k=true→∀j,j<n→∀t,t∈slotsAt l j→dOf l i≠some t
 h5:∀i o,ops[i]?=some o→∀e∈o.after,Region.binds .any e=true→e.on<i
 h6:n=ops.size∨(n<ops.size∧(∀i,i<n→waitedB ops n i=true∨statB ops i=true)∧Region.chainB .any ops n=true)
theorem DC.of{ops:Array Oper}{l:List I}{n:Nat}(h:drawB ops l n=true):DC ops l n:=by
 unfold drawB at h
 simp only[Bool.and_eq_true]at h
 obtain⟨⟨⟨⟨⟨a1,a2⟩,a3⟩,a4⟩,a5⟩,a6⟩:=h
 have b2:∀i j,i<n→j<i→dOf l i≠dOf l j:=by
  intro i j hi hj
  have:=List.all_eq_true.1 (List.all_eq_true.1 a2 i (List.mem_range.2 hi)) j (List.mem_range.2 hj)
  simpa using this
 refine⟨?_,?_,?_,?_,?_,?_⟩
 ·intro i hi
  have:=List.all_eq_true.1 a1 i (List.mem_range.2 hi)
  split at this
  ·rename_i x hx
   simp only[Bool.and_eq_true]at this
   obtain⟨d,hd⟩:=Option.isSome_iff_exists.1 this.2
   exact⟨x,d,hx,this.1,hd⟩
  ·cases this
 ·intro i j hi hj hne
  rcases Nat.lt_or_gt_of_ne hne with h|h
  ·exact fun e=>b2 j i hj h e.symm
  ·exact b2 i j hi h
 ·intro i hi t ht j hj hd
  have:=List.all_eq_true.1 (List.all_eq_true.1 (List.all_eq_true.1 a3 i (List.mem_range.2 hi)) t ht) j (List.mem_range.2 hj)
  rw[hd]at this
  simpa using this
 ·intro i x hi hx hb j hj t ht hd
  have:=List.all_eq_true.1 a4 i (List.mem_range.2 hi)
  rw[hx]at this
  simp only[hb,Bool.not_true,Bool.false_or]at this
  have:=List.all_eq_true.1 this j (List.mem_range.2 hj)
  simp only[Bool.not_eq_true']at this
  have h2:=List.any_eq_false.1 this t ht
  rw[hd]at h2
  simp at h2
 ·intro i o ho e he hb
  have hi:i<ops.size:=(Array.getElem?_eq_some_iff.1 ho).1
  have:=List.all_eq_true.1 a5 i (List.mem_range.2 hi)
  rw[ho]at this
  have:=Array.all_eq_true_iff_forall_mem.1 this e he
  rw[hb]at this
  simpa using this
 ·simp only[Bool.or_eq_true,beq_iff_eq,Bool.and_eq_true,decide_eq_true_eq]at a6
  rcases a6 with h|⟨⟨h1,h2⟩,h3⟩
  ·exact .inl h
  ·refine .inr ⟨h1,fun i hi=>?_,h3⟩
   have:=List.all_eq_true.1 h2 i (List.mem_range.2 hi)
   simpa using this
def Gs(l:List I)(n:Nat)(rs:Nat→SV)(f0:Nat→SV)(listed:Nat→Bool):Nat→SV:=fun t=>
 match(List.range n).find? (fun i=>listed i&&dOf l i==some t)with
 |some i=>rs i
 |none=>f0 t
section
variable {P:Program} {W0:World} {M0 M M':Mem} {β:Nat→Nat} {S:St} {f g f0:Nat→SV} {n nt:Nat} {a:Act} {w w':World} {own:List Nat} {ops:Array Oper} {l:List I} {rs rs':Nat→SV} {ls ls':Nat→Bool}
theorem Gs_hit(hD:DC ops l n){i t:Nat}(hi:i<n)(h1:ls i=true)(h2:dOf l i=some t):Gs l n rs f0 ls t=rs i:=by
 unfold Gs
 cases hf:(List.range n).find? (fun i=>ls i&&dOf l i==some t)with
 |none=>
  have:=List.find?_eq_none.1 hf i (List.mem_range.2 hi)
  simp[h1,h2]at this
 |some j=>
  have hj:=List.find?_some hf
  have hjn:=List.mem_range.1 (List.mem_of_find?_eq_some hf)
  simp only[Bool.and_eq_true,beq_iff_eq]at hj
  by_cases e:i=j
  ·subst e;rfl
  ·exact absurd (h2.trans hj.2.symm) (hD.h2 i j hi hjn e)
theorem Gs_miss{t:Nat}(h:∀i,i<n→ls i=true→dOf l i≠some t):Gs l n rs f0 ls t=f0 t:=by
 unfold Gs
 cases hf:(List.range n).find? (fun i=>ls i&&dOf l i==some t)with
 |none=>rfl
 |some j=>
  have hj:=List.find?_some hf
  have hjn:=List.mem_range.1 (List.mem_of_find?_eq_some hf)
  simp only[Bool.and_eq_true,beq_iff_eq]at hj
  exact absurd hj.2 (h j hjn hj.1)
theorem Gs_cases(hD:DC ops l n)(t:Nat):(∃i,i<n∧ls i=true∧dOf l i=some t∧Gs l n rs f0 ls t=rs i)∨((∀i,i<n→ls i=true→dOf l i≠some t)∧Gs l n rs f0 ls t=f0 t):=by
 by_cases h:∃i,i<n∧ls i=true∧dOf l i=some t
 ·obtain⟨i,a1,a2,a3⟩:=h
  exact .inl ⟨i,a1,a2,a3,Gs_hit hD a1 a2 a3⟩
 ·have:∀i,i<n→ls i=true→dOf l i≠some t:=fun i a1 a2 a3=>h ⟨i,a1,a2,a3⟩
  exact .inr ⟨this,Gs_miss this⟩
theorem Gs_step(hD:DC ops l n){i d:Nat}(hi:i<n)(hd:dOf l i=some d)(hu:ls i=false)(hl:∀j,ls' j=(ls j||j==i))(hrs:∀j,j<n→ls j=true→rs' j=rs j):
 Gs l n rs' f0 ls'=upF (Gs l n rs f0 ls) d (rs' i):=by
 funext t
 simp only[upF_eq]
 by_cases e:t=d
 ·subst e
  rw[if_pos rfl]
  exact Gs_hit hD hi (by rw[hl];simp) hd
 ·rw[if_neg e]
  rcases Gs_cases (rs:=rs) (f0:=f0) (ls:=ls) hD t with⟨j,a1,a2,a3,a4⟩|⟨a1,a2⟩
  ·rw[a4,Gs_hit hD a1 (by rw[hl,a2];rfl) a3]
   exact hrs j a1 a2
  ·rw[a2]
   refine Gs_miss fun j b1 b2 b3=>?_
   rw[hl]at b2
   simp only[Bool.or_eq_true,beq_iff_eq]at b2
   rcases b2 with b2|b2
   ·exact a1 j b1 b2 b3
   ·subst b2;rw[hd]at b3;exact e (Option.some.inj b3).symm
theorem Gs_rs(hD:DC ops l n)(hrs:∀j,j<n→ls j=true→rs' j=rs j):Gs l n rs' f0 ls=Gs l n rs f0 ls:=by
 funext t
 rcases Gs_cases (rs:=rs) (f0:=f0) (ls:=ls) hD t with⟨j,a1,a2,a3,a4⟩|⟨a1,a2⟩
 ·rw[a4,Gs_hit hD a1 a2 a3];exact hrs j a1 a2
 ·rw[a2];exact Gs_miss a1
theorem FO_bp{x:I}{s o:Nat}(h:FO P f M x (.bp s o)):∃t,t∈x.slots∧((∃cs,f t=.box cs∧t=s)∨∃o',f t=.bp s o'):=by
 have key:FE P f M x.k (.bp s o)→∃t,t∈x.slots∧((∃cs,f t=.box cs∧t=s)∨∃o',f t=.bp s o'):=by
  intro hfe
  rcases hfe with hfe|hfe
  ·cases hk:x.k<;>rw[hk]at hfe<;>simp only[pe]at hfe
   case faddr off y=>
    split at hfe
    ·rename_i s' o' hl
     simp only[Option.some.injEq,SV.bp.injEq]at hfe
     obtain⟨rfl,rfl⟩:=hfe
     cases y with
     |tmp t=>
      refine⟨t,by unfold I.slots;rw[hk];simp[K.ops,tmpsOf],?_⟩
      simp only[lc]at hl
      cases hf:f t with
      |v y=>rw[hf]at hl;obtain⟨b,o',e',_⟩:=lcV_mm hl;cases e'
      |box cs=>rw[hf]at hl;simp only[Option.some.injEq,Lc.bx.injEq]at hl;exact .inl ⟨cs,rfl,hl.1⟩
      |bp s' o''=>rw[hf]at hl;simp only[Option.some.injEq,Lc.bx.injEq]at hl;exact .inr ⟨o'',by rw[hl.1]⟩
      |_=>rw[hf]at hl;cases hl
     |const x=>obtain⟨b,o',e',_⟩:=lcV_mm hl;cases e'
     |global g=>simp[lc]at hl
     |func g=>simp[lc]at hl
    ·simp at hfe
    ·cases hfe
   all_goals first
    |(cases hfe;done)
    |(simp only[Option.map_eq_some_iff]at hfe;obtain⟨_,_,h2⟩:=hfe;cases h2;done)
    |((repeat' split at hfe)<;>first|(cases hfe;done)|(simp only[Option.map_eq_some_iff]at hfe;obtain⟨_,_,h2⟩:=hfe;cases h2;done))
  ·cases hk:x.k<;>rw[hk]at hfe<;>first
    |(exact hfe.elim)
    |(obtain⟨b,o,cs,v,_,_,_,h⟩:=hfe;cases h;done)
    |(obtain⟨es,c,j,_,_,_,h⟩:=hfe;cases h;done)
    |(obtain⟨args,r,_,_,h⟩:=hfe;cases h;done)
    |skip
   case alloc ow z=>cases ow<;>first|exact hfe.elim|cases hfe
   case box ow z=>cases ow<;>first|exact hfe.elim|(obtain⟨_,_,h⟩:=hfe;cases h)
   case bslice ow len size z ps=>cases ow<;>first|exact hfe.elim|(obtain⟨_,_,h⟩:=hfe;cases h)
 unfold FO at h
 cases hg:x.g with
 |none=>rw[hg]at h;exact key h
 |some p=>
  obtain⟨s',want⟩:=p
  rw[hg]at h
  simp only at h
  split at h
  ·rcases h with⟨_,h⟩|⟨_,h⟩
   ·exact key h
   ·cases h
  ·cases h
  ·exact h.elim
theorem FO_box{x:I}{sv:SV}(hb:sv.isBox=true)(h:FO P f M x sv):boxK x.k=true:=by
 have key:FE P f M x.k sv→boxK x.k=true:=by
  intro hfe
  rcases hfe with hfe|hfe
  ·exfalso
   have:∀{k:K} {sv:SV},pe f k=some sv→sv.isBox=false:=by
    intro k sv h
    cases k<;>simp only[pe]at h
    all_goals first
     |(cases h;done)
     |(simp only[Option.map_eq_some_iff]at h;obtain⟨_,_,rfl⟩:=h;rfl)
     |((repeat' split at h)<;>first|(cases h;done)|(simp only[Option.some.injEq]at h;subst h;rfl)|(simp only[Option.map_eq_some_iff]at h;obtain⟨_,_,rfl⟩:=h;rfl))
   rw[this hfe]at hb;cases hb
  ·cases hk:x.k<;>rw[hk]at hfe<;>first
    |(exact hfe.elim)
    |(obtain⟨b,o,cs,v,_,_,_,rfl⟩:=hfe;cases hb;done)
    |(obtain⟨es,c,j,_,_,_,rfl⟩:=hfe;cases hb;done)
    |(obtain⟨args,r,_,_,rfl⟩:=hfe;cases hb;done)
    |rfl
 unfold FO at h
 cases hg:x.g with
 |none=>rw[hg]at h;exact key h
 |some p=>
  obtain⟨s',want⟩:=p
  rw[hg]at h
  simp only at h
  split at h
  ·rcases h with⟨_,h⟩|⟨_,h⟩
   ·exact key h
   ·subst h;cases hb
  ·subst h;cases hb
  ·exact h.elim
end
section
variable {P:Program} {W0:World} {M0 M M':Mem} {β:Nat→Nat} {S:St} {f g f0:Nat→SV} {n nt:Nat} {a:Act} {w w':World} {own:List Nat} {ops:Array Oper} {l:List I} {rs rs':Nat→SV} {ls ls':Nat→Bool}
def inD(l:List I)(n:Nat)(s:Nat):Prop:=∃j,j<n∧dOf l j=some s
theorem junkD_spec{t s o:Nat}(ht:junkD (dsOf l n) (S t)=.bp s o):¬inD l n s:=by
 rintro⟨j,hj,hd⟩
 have hin:s∈dsOf l n:=by
  unfold dsOf
  rw[List.mem_filterMap]
  unfold dOf at hd
  cases hlj:l[j]? with
  |none=>rw[hlj]at hd;cases hd
  |some x=>
   rw[hlj]at hd
   refine⟨x,?_,hd⟩
   apply List.mem_of_getElem? (i:=j)
   rw[List.getElem?_take,if_pos hj,hlj]
 cases hS:S t with
 |bp s' o'=>
  rw[hS]at ht
  simp only[junkD]at ht
  split at ht
  ·cases ht
  ·rename_i hc
   cases ht
   exact hc (by simpa using hin)
 |_=>rw[hS]at ht;cases ht
theorem junkD_le(ds:List Nat)(g:Nat→SV):leF (fun t=>junkD ds (g t)) g:=by
 intro t
 show junkD ds (g t)=.junk∨junkD ds (g t)=g t
 cases g t with
 |bp s o=>simp only[junkD];split<;>simp
 |_=>right;rfl
structure Lex (P:Program) (l:List I) (n:Nat) (f0:Nat→SV) (M:Mem) (k:Nat) (rs:Nat→SV):Prop where
 fo:∀i,i<k→∃x,l[i]?=some x∧FO P (Gs l n rs f0 (fun j=>decide (j<i))) M x (rs i)
 nb:∀i s o,i<k→rs i=.bp s o→¬inD l n s
theorem lex_bp(hD:DC ops l n)(hn0:∀t s o,f0 t=.bp s o→¬inD l n s){k:Nat}(hk:k≤n)(h:Lex P l n f0 M k rs)(hls:∀j,ls j=true→j<k){t s o:Nat}(e:Gs l n rs f0 ls t=.bp s o):¬inD l n s:=by
 rcases Gs_cases (rs:=rs) (f0:=f0) (ls:=ls) hD t with⟨i,a1,a2,a3,a4⟩|⟨a1,a2⟩
 ·rw[a4]at e;exact h.nb i s o (hls i a2) e
 ·rw[a2]at e;exact hn0 t s o e
theorem lex_next(hD:DC ops l n)(hn0:∀t s o,f0 t=.bp s o→¬inD l n s){k:Nat}(hk:k<n)(h:Lex P l n f0 M k rs){x:I}(hx:l[k]?=some x){sv:SV}(hfo:FO P (Gs l n rs f0 (fun j=>decide (j<k))) M x sv):
 Lex P l n f0 M (k+1) (fun j=>if j=k then sv else rs j):=by
 have hg:∀i,i≤k→Gs l n (fun j=>if j=k then sv else rs j) f0 (fun j=>decide (j<i))=Gs l n rs f0 (fun j=>decide (j<i)):=by
  intro i hi
  refine Gs_rs hD fun j _ hj=>?_
  simp only[decide_eq_true_eq]at hj
  rw[if_neg (by omega)]
 refine⟨fun i hi=>?_,fun i s o hi=>?_⟩
 ·rw[hg i (by omega)]
  by_cases e:i=k
  ·subst e;simp only[if_true];exact⟨x,hx,hfo⟩
  ·simp only[e,if_false];exact h.fo i (by omega)
 ·by_cases e:i=k
  ·subst e
   simp only[if_true]
   intro hsv
   subst hsv
   obtain⟨t,ht,hc⟩:=FO_bp hfo
   have hslot:t∈slotsAt l i:=by unfold slotsAt;rw[hx];exact ht
   rcases hc with⟨cs,hb,rfl⟩|⟨o',hb⟩
   ·rintro⟨j,hj,hd⟩
    have h3:=hD.h3 i hk t hslot j hj hd
    have hv:Gs l n rs f0 (fun j=>decide (j<i)) t=rs j:=Gs_hit hD hj (by simpa using h3.1) hd
    rw[hb]at hv
    obtain⟨y,hy,hyfo⟩:=h.fo j h3.1
    have:=FO_box (sv:=rs j) (by rw[←hv];rfl) hyfo
    exact hD.h4 j y hj hy this i hk t hslot hd
   ·exact lex_bp hD hn0 (by omega) h (fun j hj=>by simpa using hj) hb
  ·simp only[e,if_false];exact h.nb i s o (by omega)
theorem lex_of(hD:DC ops l n)(hlen:l.length=ops.size)(hn0:∀t s o,S t=.bp s o→¬inD l n s){post:St→Mem→Prop}(h:vcL P l post S M):
 ∀k,k≤n→∃rs S',Lex P l n S M k rs∧vcL P (l.drop k) post S' M∧S'=Gs l n rs S (fun j=>decide (j<k)):=by
 intro k
 induction k with
 |zero=>
  intro _
  refine⟨fun _=>.junk,S,⟨fun i hi=>absurd hi (Nat.not_lt_zero _),fun i s o hi=>absurd hi (Nat.not_lt_zero _)⟩,h,?_⟩
  funext t
  exact(Gs_miss fun i _ hi=>by simp at hi).symm
 |succ k ih=>
  intro hk
  obtain⟨rs,S',hL,hv,hg⟩:=ih (by omega)
  obtain⟨x,d,hx,hf,hd⟩:=hD.h1 k (by omega)
  have hklt:k<l.length:=(List.getElem?_eq_some_iff.1 hx).1
  have hdr:l.drop k=x::l.drop (k+1):=by
   rw[List.drop_eq_getElem_cons hklt]
   congr 1
   exact(List.getElem?_eq_some_iff.1 hx).2
  rw[hdr]at hv
  obtain⟨sv,hfo,hp⟩:=FO_of_vcO hf hv
  rw[hg]at hfo
  have hdk:dOf l k=some d:=by unfold dOf;rw[hx];exact hd
  refine⟨_,_,lex_next hD hn0 (by omega) hL hx hfo,hp,?_⟩
  ·have e1:putX S' x.d sv=upF S' d sv:=by
    rw[hd]
    unfold putX
    cases hbx:sv.isBox with
    |false=>simp only[Bool.false_eq_true,if_false,put]
    |true=>
     simp only[if_true,putB]
     funext t
     simp only[upF_eq]
     by_cases e:t=d
     ·rw[if_pos e,if_pos e]
     ·rw[if_neg e,if_neg e]
      cases hst:S' t with
      |bp s o=>
       simp only[junkB]
       rw[if_neg]
       intro es
       subst es
       rw[hg]at hst
       exact lex_bp hD hn0 (by omega) hL (fun j hj=>by simpa using hj) hst ⟨k,by omega,hdk⟩
      |_=>rfl
   rw[e1,hg]
   have hstep:=Gs_step (ls:=fun j=>decide (j<k)) (ls':=fun j=>decide (j<k+1)) (rs:=rs) (rs':=fun j=>if j=k then sv else rs j) (f0:=S) hD (show k<n by omega) hdk (by simp)
    (fun j=>by
      by_cases h1:j<k
      ·simp[h1,show j<k+1 by omega]
      ·by_cases h2:j=k
       ·subst h2;simp
       ·simp[h1,h2,show ¬j<k+1 by omega])
    (fun j _ hj=>by
      simp only[decide_eq_true_eq]at hj
      exact if_neg (by omega))
   rw[hstep]
   simp only[if_true]
theorem waits_spec{i j:Nat}{o:Oper}(ho:ops[i]?=some o)(h:Region.waitsFor .any ops i j=true):∃e∈o.after,Region.binds .any e=true∧e.on=j:=by
 obtain⟨oj,hoj,e,he,hb,hon⟩:=Region.waitsFor_spec h
 rw[ho]at hoj
 cases hoj
 exact⟨e,he,hb,hon⟩
theorem trL_len:∀{lo:List Oper} {q:Nat} {il:List I},trL P own nt ops q lo=some il→il.length=lo.length
 |[],q,il,h=>by simp only[trL,Option.some.injEq]at h;subst h;rfl
 |o::r,q,il,h=>by
  simp only[trL]at h
  split at h
  ·rename_i i l' h1 h2
   simp only[Option.some.injEq]at h
   subst h
   simp[trL_len h2]
  ·cases h
theorem trL_get:∀{lo:List Oper} {q:Nat} {il:List I},trL P own nt ops q lo=some il→∀i o,lo[i]?=some o→∃x,il[i]?=some x∧trI P (decide (i<q)) own nt ops o=some x
 |[],q,il,h,i,o,ho=>by simp at ho
 |o'::r,q,il,h,i,o,ho=>by
  simp only[trL]at h
  split at h
  ·rename_i y l' h1 h2
   simp only[Option.some.injEq]at h
   subst h
   cases i with
   |zero=>
    simp only[List.getElem?_cons_zero,Option.some.injEq]at ho
    subst ho
    exact⟨y,by simp,h1⟩
   |succ i=>
    simp only[List.getElem?_cons_succ]at ho
    obtain⟨x,hx,ht⟩:=trL_get h2 i o ho
    refine⟨x,by simpa using hx,?_⟩
    rw[←ht]
    congr 1
    simp only[decide_eq_decide];omega
  ·cases h
theorem float_step(hD:DC ops l n)(hn0:∀t s o,f0 t=.bp s o→¬inD l n s)(hL:Lex P l n f0 M n rs){q i:Nat}{o:Oper}{x:I}(hi:i<n)(ho:ops[i]?=some o)(hx:l[i]?=some x)(htr:trI P (decide (i<q)) own nt ops o=some x)
 (hun:ls i=false) (hdep:∀j,j<n→Region.waitsFor .any ops i j=true→ls j=true) (hR:RepF W0 M0 β (Gs l n rs f0 ls) nt M a w) {K:Act→World→Prop} {Q:Exit→Act→World→Prop}
 (hK:∀a' w' β',RepF W0 M0 β' (Gs l n rs f0 (fun j=>ls j||j==i)) nt M a' w'→K a' w'):wpOp P ops Q i K a w:=by
 obtain⟨ow,hk,hd,hdo,hlt,hg⟩:=trI_some htr
 obtain⟨y,d,hy,hfl,hyd⟩:=hD.h1 i hi
 rw[hx]at hy
 cases hy
 obtain⟨y,hy,hfo⟩:=hL.fo i hi
 rw[hx]at hy
 cases hy
 have hod:o.dst=some d:=by rw[←hd];exact hyd
 have hdi:dOf l i=some d:=by unfold dOf;rw[hx];exact hyd
 --what it looks at is as it is in the order of the text
 have hag:∀t,t∈x.slots→Gs l n rs f0 (fun j=>decide (j<i)) t=Gs l n rs f0 ls t∧∀s o,Gs l n rs f0 (fun j=>decide (j<i)) t=.bp s o→Gs l n rs f0 (fun j=>decide (j<i)) s=Gs l n rs f0 ls s:=by
  intro t ht
  have hslot:t∈slotsAt l i:=by unfold slotsAt;rw[hx];exact ht
  refine⟨?_,fun s o' hs=>?_⟩
  ·rcases Gs_cases (rs:=rs) (f0:=f0) (ls:=ls) hD t with⟨j,a1,a2,a3,a4⟩|⟨a1,a2⟩
   ·rw[a4]
    have h3:=hD.h3 i hi t hslot j a1 a3
    exact Gs_hit hD a1 (by simpa using h3.1) a3
   ·rw[a2]
    refine Gs_miss fun j hj hjl hjd=>?_
    have h3:=hD.h3 i hi t hslot j hj hjd
    exact a1 j hj (hdep j hj h3.2) hjd
  ·have hnd:=lex_bp hD hn0 (Nat.le_refl n) hL (ls:=fun j=>decide (j<i)) (fun j hj=>by simp only[decide_eq_true_eq]at hj;omega) hs
   rw[Gs_miss (fun j hj _ hjd=>hnd ⟨j,hj,hjd⟩),Gs_miss (fun j hj _ hjd=>hnd ⟨j,hj,hjd⟩)]
 have hfo':=FO_agree hag hfo
 have hnext:∀a' w' β',RepF W0 M0 β' (upO (Gs l n rs f0 ls) o.dst (rs i)) nt M a' w'→K a' w':=by
  intro a' w' β' hR'
  refine hK a' w' β' ?_
  rw[hod]at hR'
  rw[Gs_step (rs:=rs) hD hi hdi hun (fun j=>rfl) (fun j _ _=>rfl)]
  exact hR'
 have hnb:(rs i).isBox=true→∃d,o.dst=some d∧∀t o',t≠d→Gs l n rs f0 ls t≠.bp d o':=by
  intro _
  refine⟨d,hod,fun t o' _ e=>?_⟩
  have hall:∀t s o,Gs l n rs f0 ls t=.bp s o→¬inD l n s:=by
   intro t s o e
   rcases Gs_cases (rs:=rs) (f0:=f0) (ls:=ls) hD t with⟨j,a1,a2,a3,a4⟩|⟨a1,a2⟩
   ·rw[a4]at e;exact hL.nb j s o a1 e
   ·rw[a2]at e;exact hn0 t s o e
  exact hall t d o' e ⟨i,hi,hdi⟩
 have hrun:FE P (Gs l n rs f0 ls) M x.k (rs i)→o.wp P a w K Q:=fun hfe=>fe_exec hR hk hfe (fun t ht=>hlt t ht) hnb hnext
 unfold wpOp
 rw[ho]
 simp only
 unfold FO at hfo'
 rcases hg with⟨hg,hig⟩|⟨j,want,s,hg,hs,hig⟩
 ·rw[hig]at hfo'
  rw[if_pos (by simp[Region.wanted,hg])]
  exact .inl (hrun hfo')
 ·rw[hig]at hfo'
  simp only at hfo'
  split at hfo'
  ·rename_i b hb
   have hy:=yielded_bool hR hs hb
   rcases hfo' with⟨hbw,hfe⟩|⟨hbw,hsv⟩
   ·rw[if_pos (by simp[Region.wanted,hg,hy,hbw])]
    exact .inl (hrun hfe)
   ·rw[if_neg (by simp[Region.wanted,hg,hy,hbw])]
    refine hnext _ _ β ?_
    rw[hod,hsv]
    exact hR.put (hlt d hod) rfl
  ·rename_i v hnb' hb
   have hy:=yielded_other hR hs hb (fun b e=>hnb' b e)
   rw[if_neg (by simp[Region.wanted,hg,hy])]
   refine hnext _ _ β ?_
   rw[hod,hfo']
   exact hR.put (hlt d hod) rfl
  ·exact hfo'.elim
end
end Go.Proofs.YtpleoapljeffiaaGreatDoor.E
