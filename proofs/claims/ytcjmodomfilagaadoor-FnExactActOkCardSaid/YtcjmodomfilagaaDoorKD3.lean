/- A part of the proof. Conditions: none. -/
import Derived.Test.YtcjmodomfilagaaDoorKD2
import Derived.OrdersHeld
set_option linter.unusedVariables false
set_option linter.unusedSimpArgs false
namespace Go.Proofs.YtcjmodomfilagaaDoor.E
open Go
section
variable {P:Program} {W0:World} {M0 M M':Mem} {β:Nat→Nat} {S:St} {f g f0:Nat→SV} {n nt:Nat} {a:Act} {w w':World} {own:List Nat} {ops:Array Oper} {l:List I} {rs rs':Nat→SV} {ls ls':Nat→Bool}
theorem getD_true_false{listed:Array Bool}{i:Nat}(hi:i<listed.size):listed.getD i true=listed.getD i false:=by simp[hi]
theorem listed_set{listed:Array Bool}{i j:Nat}(hi:i<listed.size):(listed.setIfInBounds i true).getD j false=(listed.getD j false||j==i):=by
 by_cases e:j=i
 ·subst e;simp[hi]
 ·rw[getD_set_ne false (Ne.symm e)]
  have:(j==i)=false:=by simpa using e
  rw[this];simp
theorem chain_any(hD:DC ops l n){q:Nat}(htr:trL P own nt ops q ops.toList=some l){Q:Exit→Act→World→Prop}{post:St→Mem→Prop}
 (hK:∀S' M' a' w' β',post S' M'→RepF W0 M0 β' S' nt M' a' w'→Q .normal a' w'):
 ∀(m t:Nat) (listed:Array Bool) (S:St) (M:Mem) (β:Nat→Nat) (a:Act) (w:World),ops.size-t=m→n≤t→t≤ops.size→listed.size=ops.size→(∀j,j<ops.size→listed.getD j false=decide (j<t))→
  vcL P (l.drop t) post S M→RepF W0 M0 β S nt M a w→wpAny P .any ops Q m listed a w:=by
 have hlen:l.length=ops.size:=by rw[trL_len htr];simp
 have hunl:∀{listed:Array Bool} {t j:Nat},listed.size=ops.size→(∀j,j<ops.size→listed.getD j false=decide (j<t))→j∈Region.ready .any ops listed→j<ops.size∧¬j<t:=by
  intro listed t j hsz hl hj
  obtain⟨h0,o,ho,_⟩:=mem_ready.1 hj
  have hjs:j<ops.size:=(Array.getElem?_eq_some_iff.1 ho).1
  refine⟨hjs,fun h=>?_⟩
  rw[getD_true_false (by omega),hl j hjs]at h0
  simp[h]at h0
 intro m
 induction m with
 |zero=>
  intro t listed S M β a w hm hn ht hsz hl hv hR
  have hte:t=ops.size:=by omega
  subst hte
  have hr:Region.ready .any ops listed=[]:=by
   apply List.eq_nil_iff_forall_not_mem.2
   intro j hj
   have:=hunl hsz hl hj;omega
  refine⟨hr,?_⟩
  rw[show l.drop ops.size=[]from List.drop_eq_nil_of_le (by omega)]at hv
  exact hK _ _ _ _ β hv hR
 |succ m ih=>
  intro t listed S M β a w hm hn ht hsz hl hv hR
  have hts:t<ops.size:=by omega
  obtain⟨o,ho⟩:∃o,ops[t]?=some o:=⟨_,Array.getElem?_eq_getElem hts⟩
  have hready:t∈Region.ready .any ops listed:=by
   refine mem_ready.2 ⟨by rw[getD_true_false (by omega),hl t hts];simp,o,ho,fun e he hb=>?_⟩
   have:=hD.h5 t o ho e he hb
   rw[hl e.on (by omega)];simpa using this
  refine⟨fun h=>(by rw[h]at hready;cases hready),fun i hi=>?_⟩
  have hit:i=t:=by
   obtain⟨h1,h2⟩:=hunl hsz hl hi
   by_cases e:i=t
   ·exact e
   ·exfalso
    have hgt:t<i:=by omega
    have hne:n≠ops.size:=by omega
    rcases hD.h6 with h|⟨_,_,hc⟩
    ·exact hne h
    ·have h1:=List.all_eq_true.1 hc i (List.mem_range.2 (by omega))
     simp only[Bool.or_eq_true,decide_eq_true_eq]at h1
     rcases h1 with h1|h1
     ·omega
     ·obtain⟨h0,o',ho',hall⟩:=mem_ready.1 hi
      obtain⟨e',he',hb',hon⟩:=waits_spec ho' h1
      have:=hall e' he' hb'
      rw[hon,hl (i-1) (by omega)]at this
      simp at this;omega
  subst hit
  have hdr:l.drop i=l[i]'(by omega)::l.drop (i+1):=List.drop_eq_getElem_cons (by omega)
  rw[hdr]at hv
  obtain⟨x,hx,htx⟩:=trL_get htr i o (by rw[Array.getElem?_toList];exact ho)
  have hxe:l[i]'(by omega)=x:=by
   have:=List.getElem?_eq_getElem (l:=l) (i:=i) (by omega)
   rw[hx]at this;exact(Option.some.inj this).symm
  rw[hxe]at hv
  have hstep:=vcO_sound (Q:=Q) (K:=wpAny P .any ops Q m (listed.setIfInBounds i true)) hR htx hv (fun S' M' a' w' β' hp hr=>by
   refine ih (i+1) (listed.setIfInBounds i true) S' M' β' a' w' (by omega) (by omega) (by omega) (by simpa using hsz) ?_ hp hr
   intro j hj
   rw[listed_set (by omega),hl j hj]
   by_cases e:j=i
   ·subst e;simp
   ·have:(j==i)=false:=by simpa using e
    rw[this]
    by_cases h1:j<i
    ·simp[h1,show j<i+1 by omega]
    ·simp[h1,show ¬j<i+1 by omega])
  unfold wpOp
  rw[ho]
  simp only
  split
  ·rename_i hw;rw[if_pos hw]at hstep;exact .inl hstep
  ·rename_i hw;rw[if_neg hw]at hstep;exact hstep
theorem least_mem:∀{U:List Nat},U≠[]→∃i,i∈U∧∀j,j∈U→i≤j
 |[],h=>absurd rfl h
 |[x],_=>⟨x,by simp,fun j hj=>by simp at hj;omega⟩
 |x::y::r,_=>by
  obtain⟨i,hi,hm⟩:=least_mem (U:=y::r) (by simp)
  by_cases h:x≤i
  ·exact⟨x,by simp,fun j hj=>by
    rcases List.mem_cons.1 hj with h'|h'
    ·omega
    ·have:=hm j h';omega⟩
  ·exact⟨i,List.mem_cons_of_mem _ hi,fun j hj=>by
    rcases List.mem_cons.1 hj with h'|h'
    ·omega
    ·exact hm j h'⟩
theorem tail_waits'(hc:Region.chainB .any ops n=true){listed:Array Bool}(inv:HeadInv .any ops n listed):
 ∀(d i:Nat),n-i=d→i<n→listed.getD i false=false→(∀i,i<n→listed.getD i false=false→waitedB ops n i=true)→∀t,n≤t→t∈Region.ready .any ops listed→False:=by
 intro d
 induction d using Nat.strongRecOn with
 |_ d ih=>
  intro i hd hi hun hw t ht hr
  obtain⟨_,o,ho,hall⟩:=mem_ready.1 hr
  have hts:t<ops.size:=(Array.getElem?_eq_some_iff.1 ho).1
  rcases Nat.lt_or_ge n t with h|h
  ·have h1:=List.all_eq_true.1 hc t (List.mem_range.2 hts)
   simp only[Bool.or_eq_true,decide_eq_true_eq]at h1
   rcases h1 with h1|h1
   ·omega
   ·obtain⟨e,he,hb,hon⟩:=waits_spec ho h1
    have h2:=hall e he hb
    rw[hon,getD_both (inv.tail (t-1) (by omega) (by omega))]at h2
    cases h2
  ·have htn:t=n:=by omega
   subst htn
   obtain⟨j,hj,h2⟩:=List.any_eq_true.1 (hw i hi hun)
   simp only[Bool.and_eq_true,decide_eq_true_eq]at h2
   have hjt:=List.mem_range.1 hj
   by_cases e:j=t
   ·subst e
    obtain⟨e',he,hb,hon⟩:=waits_spec ho h2.2
    have h3:=hall e' he hb
    rw[hon,hun]at h3
    cases h3
   ·cases hl:listed.getD j false with
    |false=>exact ih (t-j) (by omega) j rfl (by omega) hl hw t ht hr
    |true=>
     obtain⟨oj,hoj,_⟩:=Region.waitsFor_spec h2.2
     obtain⟨e',he,hb,hon⟩:=waits_spec hoj h2.2
     have h3:=inv.closed j oj hoj hl e' he hb
     rw[hon,hun]at h3
     cases h3
theorem statB_spec{i:Nat}(h:statB ops i=true):∃o x,ops[i]?=some o∧o.op=.move x∧o.guard=none∧(∀e∈o.after,Region.binds .any e=true→False)∧Region.free .any ops (Array.replicate ops.size false) i=true∧Region.noSelect ops=true:=by
 unfold statB at h
 simp only[Bool.and_eq_true]at h
 obtain⟨⟨h1,h2⟩,h3⟩:=h
 split at h1
 ·rename_i o ho
  simp only[Bool.and_eq_true,Option.isNone_iff_eq_none]at h1
  obtain⟨⟨g1,g2⟩,g3⟩:=h1
  split at g3
  ·rename_i x hx
   refine⟨o,x,ho,hx,g1,fun e he hb=>?_,h2,h3⟩
   have:=Array.all_eq_true_iff_forall_mem.1 g2 e he
   rw[hb]at this;cases this
  ·cases g3
 ·cases h1
theorem take_all(hD:DC ops l n)(hnl:n≤ops.size)(htr:trL P own nt ops n ops.toList=some l)(hL:Lex P l n S M n rs){Q:Exit→Act→World→Prop}(hQ:∀c a w,¬Q (.panic c) a w){fuel:Nat}:
 ∀(zs:List Nat) (listed:Array Bool) (a:Act) (w:World) (β:Nat→Nat),zs.Nodup→(∀z,z∈zs→z<n∧statB ops z=true∧listed.getD z false=false)→HeadInv .any ops n listed→
  RepF W0 M0 β (Gs l n rs S (fun j=>listed.getD j false)) nt M a w→
  (∀listed' a',HeadInv .any ops n listed'→(∀i,listed'.getD i false=(listed.getD i false||zs.contains i))→RepF W0 M0 β (Gs l n rs S (fun j=>listed'.getD j false)) nt M a' w→wpAny P .any ops Q fuel listed' a' w)→
  wpAny P .any ops Q (fuel+zs.length) listed a w:=by
 intro zs
 induction zs with
 |nil=>intro listed a w β _ _ inv hR hk;exact hk listed a inv (fun i=>by simp) hR
 |cons z r ih=>
  intro listed a w β hnd hz inv hR hk
  obtain⟨hzn,hzs,hzu⟩:=hz z (by simp)
  obtain⟨o,y,ho,hop,hg,hno,hfree,hsel⟩:=statB_spec hzs
  have hzsz:z<ops.size:=by omega
  have hzl:z<listed.size:=by rw[inv.size];exact hzsz
  obtain⟨x,d,hx,hfl,hd⟩:=hD.h1 z hzn
  obtain⟨x',hx',htx⟩:=trL_get htr z o (by rw[Array.getElem?_toList];exact ho)
  have hxx:x'=x:=by rw[hx]at hx';exact(Option.some.inj hx').symm
  subst hxx
  obtain⟨ow,hk1,hk2,hk3,hk4,hk5⟩:=trI_some htx
  rw[hop]at hk1
  simp only[trK,Option.some.injEq]at hk1
  have hxg:x'.g=none:=by
   rcases hk5 with⟨_,h⟩|⟨j,wt,s,h,_⟩
   ·exact h
   ·rw[hg]at h;cases h
  obtain⟨x2,hx2,hfo⟩:=hL.fo z hzn
  have hxx2:x2=x':=by rw[hx]at hx2;exact(Option.some.inj hx2).symm
  subst hxx2
  unfold FO at hfo
  rw[hxg,←hk1]at hfo
  have hnd':∀t,t∈slotsAt l z→∀j,j<n→dOf l j≠some t:=by
   intro t ht j hj he
   obtain⟨_,hw⟩:=hD.h3 z hzn t ht j hj he
   obtain⟨e,he,hb,_⟩:=waits_spec ho hw
   exact hno e he hb
  have hslot:∀t,y=.tmp t→t∈slotsAt l z:=by
   intro t e
   unfold slotsAt
   rw[hx]
   simp only[I.slots,hxg,←hk1,e,K.ops,tmpsOf,List.nil_append,List.mem_singleton]
  have hev:∀ls:Nat→Bool,ev (Gs l n rs S ls) y=ev S y:=by
   intro ls
   cases y with
   |tmp t=>
    simp only[ev]
    rw[Gs_miss (rs:=rs) (f0:=S) (ls:=ls) (t:=t) (fun i hi _=>hnd' t (hslot t rfl) i hi)]
   |_=>rfl
  obtain⟨v,hv,hrs⟩:∃v,ev S y=some v∧rs z=.v v:=by
   rcases hfo with h|h
   ·simp only[pe,hev,Option.map_eq_some_iff]at h
    obtain⟨v,h1,h2⟩:=h
    exact⟨v,h1,h2.symm⟩
   ·exact h.elim
  have hae:a.eval y=v:=hR.ev (by rw[hev];exact hv)
  have hready:z∈Region.ready .any ops listed:=by
   refine mem_ready.2 ⟨by rw[getD_true_false hzl];exact hzu,o,ho,fun e he hb=>(hno e he hb).elim⟩
  have hdst:o.dst=some d:=by rw[←hk2];exact hd
  have hdo:dOf l z=some d:=by unfold dOf;rw[hx];exact hd
  have hlt:d<nt:=hk4 d hdst
  rw[List.length_cons,←Nat.add_assoc]
  refine wpAny_first (v:=v) ho (Region.noSelect_spec hsel) (fun c a w h=>(hQ _ _ _ h).elim) (fuel+r.length) listed a w (fun j oj hj hne hun hnn=>Region.free_spec ho hfree j oj hj hne ?_ hnn) hready
   (.inl ⟨by unfold Region.wanted;rw[hg],fun w=>by rw[←hae];simp[execOp,hop]⟩) ?_
  ·rw[getD_true_false (by simp;exact(Array.getElem?_eq_some_iff.1 hj).1)];exact getD_replicate_false _ _
  ·have hstep:Gs l n rs S (fun j=>(listed.setIfInBounds z true).getD j false)=upF (Gs l n rs S (fun j=>listed.getD j false)) d (.v v):=by
    rw[←hrs]
    exact Gs_step hD hzn hdo hzu (fun j=>listed_set hzl) (fun _ _ _=>rfl)
   refine ih _ _ w β (List.nodup_cons.1 hnd).2 (fun z' hz'=>?_) (inv.set hready hzn) ?_ ?_
   ·obtain⟨h1,h2,h3⟩:=hz z' (List.mem_cons_of_mem _ hz')
    refine⟨h1,h2,?_⟩
    rw[listed_set hzl,h3]
    have:z'≠z:=fun e=>(List.nodup_cons.1 hnd).1 (by rw[←e];exact hz')
    simpa using this
   ·rw[hstep,hdst]
    exact hR.put hlt rfl
   ·intro listed' a' inv' hl' hR'
    refine hk listed' a' inv' (fun i=>?_) hR'
    rw[hl' i,listed_set hzl,List.contains_cons,Bool.or_assoc]
theorem float_any{Z:List Nat}(hD:DC ops l n)(hnl:n≤ops.size)(htr:trL P own nt ops n ops.toList=some l)(hn0:∀t s o,S t=.bp s o→¬inD l n s)(hL:Lex P l n S M n rs){Q:Exit→Act→World→Prop}
 (hw0:n=ops.size∨∀i,i<n→waitedB ops n i=true∨Z.contains i=true) (htail:∀(listed:Array Bool) (a:Act) (w:World) (β:Nat→Nat),listed.size=ops.size→(∀j,j<ops.size→listed.getD j false=decide (j<n))→RepF W0 M0 β (Gs l n rs S (fun j=>decide (j<n))) nt M a w→wpAny P .any ops Q (ops.size-n) listed a w):
 ∀(m:Nat) (U:List Nat) (listed:Array Bool) (a:Act) (w:World) (β:Nat→Nat),U.length=m→U.Nodup→(∀i,Z.contains i=true→listed.getD i false=true)→(∀i,i∈U↔i<n∧listed.getD i false=false)→HeadInv .any ops n listed→
  RepF W0 M0 β (Gs l n rs S (fun j=>listed.getD j false)) nt M a w→wpAny P .any ops Q (m+(ops.size-n)) listed a w:=by
 intro m
 induction m with
 |zero=>
  intro U listed a w β hU hnd hZ hmem inv hR
  rw[Nat.zero_add]
  have hU0:U=[]:=List.eq_nil_of_length_eq_zero hU
  subst hU0
  have hall:∀j,j<n→listed.getD j false=true:=by
   intro j hj
   cases h:listed.getD j false with
   |true=>rfl
   |false=>have:=(hmem j).2 ⟨hj,h⟩;cases this
  refine htail listed a w β inv.size (fun j hj=>?_) ?_
  ·by_cases h:j<n
   ·rw[hall j h];simp[h]
   ·have:=inv.tail j (by omega)
    rcases Nat.lt_or_ge j ops.size with h'|h'
    ·have:=inv.tail j (by omega) h'
     rw[getD_true_false (by rw[inv.size];omega)]at this
     rw[this];simp[h]
    ·omega
  ·have:Gs l n rs S (fun j=>listed.getD j false)=Gs l n rs S (fun j=>decide (j<n)):=by
    funext t
    rcases Gs_cases (rs:=rs) (f0:=S) (ls:=fun j=>listed.getD j false) hD t with⟨j,a1,a2,a3,a4⟩|⟨a1,a2⟩
    ·rw[a4,Gs_hit hD a1 (by simpa using a1) a3]
    ·rw[a2]
     exact(Gs_miss fun j hj _ hd=>a1 j hj (hall j hj) hd).symm
   rw[this]at hR
   exact hR
 |succ m ih=>
  intro U listed a w β hU hnd hZ hmem inv hR
  rw[Nat.add_right_comm]
  have hUne:U≠[]:=by intro h;subst h;cases hU
  --some one is ready
  obtain⟨i0,hi0,hleast⟩:=least_mem hUne
  obtain⟨hi0n,hi0u⟩:=(hmem i0).1 hi0
  have hi0s:i0<ops.size:=by omega
  have hready0:i0∈Region.ready .any ops listed:=by
   obtain⟨o,ho⟩:∃o,ops[i0]?=some o:=⟨_,Array.getElem?_eq_getElem hi0s⟩
   refine mem_ready.2 ⟨by rw[getD_true_false (by rw[inv.size];omega)];exact hi0u,o,ho,fun e he hb=>?_⟩
   have hlt:=hD.h5 i0 o ho e he hb
   cases hle:listed.getD e.on false with
   |true=>rfl
   |false=>
    have:=hleast e.on ((hmem e.on).2 ⟨by omega,hle⟩)
    omega
  refine⟨fun h=>(by rw[h]at hready0;cases hready0),fun i hi=>?_⟩
  obtain⟨hun,o,ho,hall⟩:=mem_ready.1 hi
  have his:i<ops.size:=(Array.getElem?_eq_some_iff.1 ho).1
  have hin:i<n:=by
   rcases hD.h6 with h|⟨hn,hs,hc⟩
   ·omega
   ·rcases Nat.lt_or_ge i n with h|h
    ·exact h
    ·exact(tail_waits' hc inv _ i0 rfl hi0n hi0u (fun i hi hu=>by
      rcases hw0 with h0|h0
      ·omega
      ·rcases h0 i hi with h'|h'
       ·exact h'
       ·rw[hZ i h']at hu;cases hu) i h hi).elim
  rw[getD_true_false (by rw[inv.size];omega)]at hun
  obtain⟨x,hx,htx⟩:=trL_get htr i o (by rw[Array.getElem?_toList];exact ho)
  refine float_step (ls:=fun j=>listed.getD j false) hD hn0 hL hin ho hx htx hun (fun j hj hw=>?_) hR ?_
  ·obtain⟨e,he,hb,hon⟩:=waits_spec ho hw
   have:=hall e he hb
   rw[hon]at this;exact this
  ·intro a' w' β' hR'
   have hiU:i∈U:=(hmem i).2 ⟨hin,hun⟩
   refine ih (U.erase i) (listed.setIfInBounds i true) a' w' β' ?_ (hnd.erase i) (fun j hj=>by rw[listed_set (by rw[inv.size];omega),hZ j hj];rfl) ?_ (inv.set hi hin) ?_
   ·rw[List.length_erase_of_mem hiU];omega
   ·intro j
    rw[hnd.mem_erase_iff,hmem j,listed_set (by rw[inv.size];omega)]
    constructor
    ·rintro⟨h1,h2,h3⟩
     refine⟨h2,?_⟩
     rw[h3];simpa using h1
    ·rintro⟨h1,h2⟩
     simp only[Bool.or_eq_false_iff,beq_eq_false_iff_ne,ne_eq]at h2
     exact⟨h2.2,h1,h2.1⟩
   ·have:(fun j=>(listed.setIfInBounds i true).getD j false)=fun j=>(listed.getD j false||j==i):=by
     funext j;exact listed_set (by rw[inv.size];omega)
    rw[this];exact hR'
theorem draw_sound{id:Nat}(hm:P.follows .mixedOrders=true)(htr:trL P own nt ops n ops.toList=some l)(hB:drawB ops l n=true){Q:Exit→Act→World→Prop}(hQ:∀c a w,¬Q (.panic c) a w){post:St→Mem→Prop}
 (hR:RepF W0 M0 β S nt M a w) (h:vcL P l post (fun t=>junkD (dsOf l n) (S t)) M)
 (hK:∀S' M' a' w' β',post S' M'→RepF W0 M0 β' S' nt M' a' w'→Q .normal a' w'):(Code.region id ops true).wp P Q a w:=by
 have hD:=DC.of hB
 have hlen:l.length=ops.size:=by rw[trL_len htr];simp
 have hnl:n≤ops.size:=by rcases hD.h6 with h|h<;>omega
 have hn0:∀t s o,(fun t=>junkD (dsOf l n) (S t)) t=.bp s o→¬inD l n s:=fun t s o e=>junkD_spec e
 have hRj:=hR.weak (junkD_le (dsOf l n) S)
 generalize(fun t=>junkD (dsOf l n) (S t))=S0 at h hn0 hRj
 obtain⟨rs,S1,hL,hv,hg⟩:=lex_of hD hlen hn0 h n (Nat.le_refl n)
 have hR1:RepF W0 M0 β S0 nt M a {w with drawn:=w.drawn+1}:=hRj.step (M':=M) (w':={w with drawn:=w.drawn+1}) (fun b k e=>(hR.sat b k e).of_eq rfl) ⟨rfl,rfl,rfl,Nat.le_refl _,fun _ _ _=>rfl,fun _ h=>.inl h⟩
 refine wp_region_any hm ?_
 have hinit:∀j,(Array.replicate ops.size false).getD j false=false:=fun j=>getD_replicate_false _ j
 have hG0:Gs l n rs S0 (fun j=>(Array.replicate ops.size false).getD j false)=S0:=by
  funext t
  exact Gs_miss fun i _ hi=>by rw[hinit]at hi;cases hi
 --the copies that nothing waits for
 obtain⟨Z,hZ1,hZ2,hZ3,hZ4⟩:∃Z:List Nat,Z.Nodup∧(∀z,z∈Z→z<n∧statB ops z=true)∧(n=ops.size∨∀i,i<n→waitedB ops n i=true∨Z.contains i=true)∧Z.length+((List.range n).filter fun i=> !Z.contains i).length=n:=by
  rcases hD.h6 with h|⟨_,h,_⟩
  ·exact⟨[],by simp,by simp,.inl h,by rw[show((List.range n).filter fun i=> !([]:List Nat).contains i)=List.range n from List.filter_eq_self.2 (fun _ _=>rfl)];simp⟩
  ·refine⟨(List.range n).filter fun i=> !waitedB ops n i,List.nodup_range.filter _,fun z hz=>?_,.inr fun i hi=>?_,?_⟩
   ·rw[List.mem_filter]at hz
    have hzn:=List.mem_range.1 hz.1
    rcases h z hzn with h'|h'
    ·simp[h']at hz
    ·exact⟨hzn,h'⟩
   ·cases hw:waitedB ops n i with
    |true=>exact .inl rfl
    |false=>right;simp[hi,hw]
   ·have e:(List.range n).filter (fun i=> !((List.range n).filter fun i=> !waitedB ops n i).contains i)=(List.range n).filter fun i=>waitedB ops n i:=by
     apply List.filter_congr
     intro i hi
     have hin:=List.mem_range.1 hi
     cases hw:waitedB ops n i<;>simp[hw,hin]
    rw[e,←List.countP_eq_length_filter,←List.countP_eq_length_filter]
    have:=List.length_eq_countP_add_countP (fun i=>waitedB ops n i) (l:=List.range n)
    simp only[List.length_range]at this
    have e2:List.countP (fun i=> !waitedB ops n i) (List.range n)=List.countP (fun a=>decide ¬waitedB ops n a=true) (List.range n):=by
     congr 1;funext i;cases waitedB ops n i<;>rfl
    omega
 have hfl:∀listed a,HeadInv .any ops n listed→(∀i,listed.getD i false=((Array.replicate ops.size false).getD i false||Z.contains i))→RepF W0 M0 β (Gs l n rs S0 (fun j=>listed.getD j false)) nt M a {w with drawn:=w.drawn+1}→
  wpAny P .any ops Q ((((List.range n).filter fun i=> !Z.contains i).length)+(ops.size-n)) listed a {w with drawn:=w.drawn+1}:=by
  intro listed a inv hl hR2
  refine float_any (Z:=Z) (W0:=W0) (M0:=M0) (Q:=Q) hD hnl htr hn0 hL hZ3 (fun listed a w β hsz hall hR'=>by
   rw[←hg]at hR'
   exact chain_any hD htr hK (ops.size-n) n listed S1 M β a w rfl (Nat.le_refl n) hnl hsz hall hv hR')
   _ ((List.range n).filter fun i=> !Z.contains i) listed a {w with drawn:=w.drawn+1} β rfl (List.nodup_range.filter _) (fun i hi=>by rw[hl i,hi];simp) (fun i=>?_) inv hR2
  rw[List.mem_filter,List.mem_range,hl i,hinit]
  simp
 have:=take_all (W0:=W0) (M0:=M0) (Q:=Q) hD hnl htr hL hQ (fuel:=(((List.range n).filter fun i=> !Z.contains i).length)+(ops.size-n)) Z (Array.replicate ops.size false) a {w with drawn:=w.drawn+1} β hZ1 (fun z hz=>⟨(hZ2 z hz).1,(hZ2 z hz).2,hinit z⟩)
  ⟨by simp,fun j oj _ hj=>(by rw[hinit]at hj;cases hj),fun t _ ht=>(by simp[ht])⟩ (by rw[hG0];exact hR1) hfl
 rw[show(((List.range n).filter fun i=> !Z.contains i).length)+(ops.size-n)+Z.length=ops.size by omega]at this
 exact this
end
def lateK:K→Bool
 |.mov _=>true
 |.load _ _ _=>true
 |.alloc true _=>true
 |_=>false
def lateI(ops:Array Oper)(l:List I)(i:Nat):Bool:=
 match ops[i]?,l[i]? with
 |some o,some x=>o.guard.isNone&&x.g.isNone&&x.d.isSome&&lateK x.k&&(o.after.all fun e=> !Region.binds .any e)
 |_,_=>false
def zOf(ops:Array Oper)(l:List I):List Nat:=(List.range ops.size).filter fun i=>lateI ops l i
def cOf(ops:Array Oper)(l:List I):List Nat:=(List.range ops.size).filter fun i=> !lateI ops l i
def getsI(l:List I)(is:List Nat):List I:=is.filterMap fun i=>l[i]?
def boxAt(l:List I)(i:Nat):Bool:=match l[i]? with|some x=>boxK x.k|none=>false
def chK(ops:Array Oper)(l:List I):K→Bool
 |.call _ _=>true
 |.not _=>true
 |.store _ (.tmp t) _=>(zOf ops l).any fun j=>boxAt l j&&dOf l j==some t
 |_=>false
def allD(l:List I):List Nat:=l.filterMap (·.d)
def linked(ops:Array Oper):List Nat→Bool
 |a::b::r=>Region.waitsFor .any ops b a&&linked ops (b::r)
 |_=>true
def zB(ops:Array Oper)(l:List I):Bool:=
 ((zOf ops l).all fun i=>(zOf ops l).all fun j=>i==j||dOf l i !=dOf l j)&&
 ((zOf ops l).all fun i=>(slotsAt l i).all fun t=> !(allD l).contains t)&&
 ((cOf ops l).all fun i=>match l[i]? with|some x=>x.g.isNone&&chK ops l x.k&&((zOf ops l).all fun j=>dOf l i !=dOf l j)|none=>false)&&
 ((cOf ops l).all fun i=>(slotsAt l i).all fun t=>(zOf ops l).all fun j=>dOf l j !=some t||Region.waitsFor .any ops i j)&&
 linked ops (cOf ops l)&&
 ((List.range ops.size).all fun i=>match ops[i]? with|some o=>o.after.all fun e=> !Region.binds .any e||decide (e.on<i)|none=>false)
structure ZC (ops:Array Oper) (l:List I):Prop where
 z1:∀i j d,i∈zOf ops l→j∈zOf ops l→dOf l i=some d→dOf l j=some d→i=j
 z2:∀i t,i∈zOf ops l→t∈slotsAt l i→t∉allD l
 c1:∀i,i∈cOf ops l→∃x,l[i]?=some x∧x.g=none∧chK ops l x.k=true∧∀j,j∈zOf ops l→x.d≠dOf l j
 c2:∀i t j,i∈cOf ops l→t∈slotsAt l i→j∈zOf ops l→dOf l j=some t→Region.waitsFor .any ops i j=true
 c3:linked ops (cOf ops l)=true
 e:∀i o,ops[i]?=some o→∀e∈o.after,Region.binds .any e=true→e.on<i
theorem ZC.of{ops:Array Oper}{l:List I}(h:zB ops l=true):ZC ops l:=by
 unfold zB at h
 simp only[Bool.and_eq_true]at h
 obtain⟨⟨⟨⟨⟨a1,a2⟩,a3⟩,a4⟩,a5⟩,a6⟩:=h
 refine⟨?_,?_,?_,?_,a5,?_⟩
 ·intro i j d hi hj h1 h2
  have:=List.all_eq_true.1 (List.all_eq_true.1 a1 i hi) j hj
  simp only[Bool.or_eq_true,beq_iff_eq,bne_iff_ne,ne_eq]at this
  rcases this with h|h
  ·exact h
  ·exact absurd (h1.trans h2.symm) h
 ·intro i t hi ht hc
  have:=List.all_eq_true.1 (List.all_eq_true.1 a2 i hi) t ht
  simp[hc]at this
 ·intro i hi
  have:=List.all_eq_true.1 a3 i hi
  split at this
  ·rename_i x hx
   simp only[Bool.and_eq_true,Option.isNone_iff_eq_none]at this
   refine⟨x,hx,this.1.1,this.1.2,fun j hj he=>?_⟩
   have h2:=List.all_eq_true.1 this.2 j hj
   have:dOf l i=x.d:=by unfold dOf;rw[hx];rfl
   rw[this,he]at h2
   simp at h2
  ·cases this
 ·intro i t j hi ht hj hd
  have:=List.all_eq_true.1 (List.all_eq_true.1 (List.all_eq_true.1 a4 i hi) t ht) j hj
  rw[hd]at this
  simpa using this
 ·intro i o ho e he hb
  have hi:i<ops.size:=(Array.getElem?_eq_some_iff.1 ho).1
  have:=List.all_eq_true.1 a6 i (List.mem_range.2 hi)
  rw[ho]at this
  have:=Array.all_eq_true_iff_forall_mem.1 this e he
  rw[hb]at this
  simpa using this
theorem lateI_spec{ops:Array Oper}{l:List I}{i:Nat}(h:i∈zOf ops l):i<ops.size∧∃o x d,ops[i]?=some o∧l[i]?=some x∧o.guard=none∧x.g=none∧x.d=some d∧lateK x.k=true∧∀e∈o.after,Region.binds .any e=true→False:=by
 unfold zOf at h
 rw[List.mem_filter,List.mem_range]at h
 refine⟨h.1,?_⟩
 have h2:=h.2
 unfold lateI at h2
 split at h2
 ·rename_i o x ho hx
  simp only[Bool.and_eq_true,Option.isNone_iff_eq_none]at h2
  obtain⟨d,hd⟩:=Option.isSome_iff_exists.1 h2.1.1.2
  refine⟨o,x,d,ho,hx,h2.1.1.1.1,h2.1.1.1.2,hd,h2.1.2,fun e he hb=>?_⟩
  have:=Array.all_eq_true_iff_forall_mem.1 h2.2 e he
  rw[hb]at this;cases this
 ·cases h2
theorem cz_split{ops:Array Oper}{l:List I}{i:Nat}(h:i<ops.size):i∈zOf ops l∨i∈cOf ops l:=by
 unfold zOf cOf
 simp only[List.mem_filter,List.mem_range,h,true_and]
 cases lateI ops l i<;>simp
theorem cz_no{ops:Array Oper}{l:List I}{i:Nat}(h:i∈cOf ops l):i∉zOf ops l:=by
 unfold zOf
 unfold cOf at h
 simp only[List.mem_filter]at*
 intro h2
 simp[h2.2]at h
theorem dOf_all{l:List I}{i d:Nat}(h:dOf l i=some d):d∈allD l:=by
 unfold dOf at h
 cases hx:l[i]? with
 |none=>rw[hx]at h;cases h
 |some x=>
  rw[hx]at h
  exact List.mem_filterMap.2 ⟨x,List.mem_of_getElem? hx,h⟩
def mk(V:Nat→Bool)(S:St):St:=fun t=>bif V t then .junk else S t
theorem mk_f{V:Nat→Bool}{S:St}{t:Nat}(h:V t=false):mk V S t=S t:=by simp[mk,h]
theorem mk_up{V:Nat→Bool}{S:St}{d:Nat}{x:SV}(h:V d=false):upF (mk V S) d x=mk V (upF S d x):=by
 funext t
 simp only[mk,upF_eq]
 by_cases e:t=d
 ·subst e;simp[h]
 ·simp[e]
section
variable {P:Program} {W0:World} {M0 M M':Mem} {β:Nat→Nat} {S S0:St} {f g f0:Nat→SV} {n nt:Nat} {a:Act} {w w':World} {own:List Nat} {ops:Array Oper} {l:List I} {rs:Nat→SV}
theorem FE_any{k:K}{sv:SV}(hk:lateK k=true)(h:FE P f (fun _=>none) k sv):FE P f M k sv:=by
 rcases h with h|h
 ·exact .inl h
 ·cases k<;>first|(cases hk;done)|(exact h.elim)|skip
  case load one m x=>
   obtain⟨b,o,cs,v,_,h2,_⟩:=h
   rcases h2 with h2|⟨_,_,h2⟩<;>cases h2
  case alloc ow z=>cases ow<;>first|exact h.elim|exact .inr h
theorem lateK_float{k:K}(h:lateK k=true):floatK k=true:=by
 cases k<;>first|rfl|(cases h;done)|skip
 case alloc ow z=>cases ow<;>first|rfl|cases h
def GZ(ds:List Nat)(rs:Nat→SV)(S:St):St:=fun t=>bif ds.contains t then rs t else S t
theorem late_vc{D:List Nat}(hn0:∀t s o,S0 t=.bp s o→s∉D){post:St→Mem→Prop}:∀(zs:List I) (S:St),(∀i∈zs,i.g=none∧lateK i.k=true∧(∀t∈i.slots,t∉D)∧∃d,i.d=some d∧d∈D)→
 (zs.filterMap (·.d)).Nodup→(∀t,t∉D→S t=S0 t)→(∀t s o,S t=.bp s o→s∉D)→vcL P zs post S (fun _=>none)→
 ∃rs,(∀i∈zs,∀d,i.d=some d→FE P S0 (fun _=>none) i.k (rs d))∧(∀d s o,d∈zs.filterMap (·.d)→rs d=.bp s o→s∉D)∧post (GZ (zs.filterMap (·.d)) rs S) (fun _=>none)
 |[],S,_,_,_,_,h=>⟨fun _=>.junk,fun i hi=>absurd hi (by simp),fun d s o hd=>absurd hd (by simp),h⟩
 |i::r,S,hz,hnd,ha,hb,h=>by
  obtain⟨hg,hk,hsl,d,hd,hdD⟩:=hz i (by simp)
  obtain⟨sv,hfo,hp⟩:=FO_of_vcO (lateK_float hk) h
  have hag:∀t,t∈i.slots→S t=S0 t∧∀s o,S t=.bp s o→S s=S0 s:=fun t ht=>⟨ha t (hsl t ht),fun s o e=>ha s (hb t s o e)⟩
  have hfo0:FO P S0 (fun _=>none) i sv:=FO_agree hag hfo
  have hfe0:FE P S0 (fun _=>none) i.k sv:=by unfold FO at hfo0;rw[hg]at hfo0;exact hfo0
  have hbp:∀s o,sv=.bp s o→s∉D:=by
   intro s o e
   subst e
   obtain⟨t,ht,hc⟩:=FO_bp hfo
   rcases hc with⟨cs,_,rfl⟩|⟨o',ho⟩
   ·exact hsl t ht
   ·exact hb t s o' ho
  have hput:putX S i.d sv=upF S d sv:=by
   rw[hd]
   unfold putX
   split
   ·simp only[putB]
    funext t
    simp only[upF_eq]
    by_cases e:t=d
    ·rw[if_pos e,if_pos e]
    ·rw[if_neg e,if_neg e]
     cases hst:S t with
     |bp s o=>
      simp only[junkB]
      rw[if_neg]
      intro e;subst e;exact hb t s o hst hdD
     |_=>rfl
   ·rfl
  rw[hput]at hp
  have hnd':d∉r.filterMap (·.d)∧(r.filterMap (·.d)).Nodup:=by
   simp only[List.filterMap_cons,hd]at hnd
   exact List.nodup_cons.1 hnd
  obtain⟨rs,h1,h2,h3⟩:=late_vc hn0 (post:=post) r (upF S d sv) (fun j hj=>hz j (by simp[hj])) hnd'.2
   (fun t ht=>by rw[upF_eq,if_neg (fun e=>ht (by subst e;exact hdD))];exact ha t ht)
   (fun t s o e=>by
     rw[upF_eq]at e
     split at e
     ·exact hbp s o e
     ·exact hb t s o e) hp
  refine⟨upF rs d sv,?_,?_,?_⟩
  ·intro j hj d' hd'
   rcases List.mem_cons.1 hj with e|e
   ·subst e
    rw[hd]at hd'
    cases hd'
    rw[upF_eq,if_pos rfl]
    exact hfe0
   ·rw[upF_eq,if_neg]
    ·exact h1 j e d' hd'
    ·intro e2;subst e2
     exact hnd'.1 (List.mem_filterMap.2 ⟨j,e,hd'⟩)
  ·intro d' s o hd' e
   rw[upF_eq]at e
   split at e
   ·exact hbp s o e
   ·rename_i hne
    simp only[List.filterMap_cons,hd,List.mem_cons]at hd'
    rcases hd' with h|h
    ·exact absurd h hne
    ·exact h2 d' s o h e
  ·have:GZ ((i::r).filterMap (·.d)) (upF rs d sv) S=GZ (r.filterMap (·.d)) rs (upF S d sv):=by
    funext t
    simp only[GZ,List.filterMap_cons,hd,List.contains_cons,upF_eq]
    by_cases e:t=d
    ·subst e
     have:(r.filterMap (·.d)).contains t=false:=by
      cases hc:(r.filterMap (·.d)).contains t with
      |false=>rfl
      |true=>exact absurd (by simpa using hc) hnd'.1
     rw[this];simp
    ·have:(t==d)=false:=by simpa using e
     simp[this,e]
   rw[this]
   exact h3
structure ZI (ops:Array Oper) (l:List I) (S0 S:St):Prop where
 a:∀t,t∉allD l→S t=S0 t
 b:∀t s o,S t=.bp s o→s∉allD l
 c:∀i d,i∈zOf ops l→boxAt l i=true→dOf l i=some d→(S d).isBox=true
theorem not_v{x:Operand}{sv:SV}(h:FE P f M (.not x) sv):∃v,sv=.v v:=by
 rcases h with h|h
 ·simp only[pe]at h
  split at h
  ·simp only[Option.some.injEq]at h;exact⟨_,h.symm⟩
  ·cases h
 ·exact h.elim
theorem vcO_mask(hZ:ZC ops l){c:Nat}(hc:c∈cOf ops l){x:I}(hx:l[c]?=some x){V:Nat→Bool}(hV:∀t,V t=true→∃i,i∈zOf ops l∧dOf l i=some t)(hsl:∀t,t∈x.slots→V t=false)(hI:ZI ops l S0 S)
 {post:St→Mem→Prop} (h:vcO P x post S M):vcO P x (fun S' M'=>∃S'',S'=mk V S''∧post S'' M'∧ZI ops l S0 S''∧∀t,V t=true→S'' t=S t) (mk V S) M:=by
 obtain⟨x',hx',hg,hk,hdz⟩:=hZ.c1 c hc
 have:x'=x:=by rw[hx]at hx';exact(Option.some.inj hx').symm
 subst this
 have hdc:dOf l c=x'.d:=by unfold dOf;rw[hx];rfl
 have hVD:∀t,V t=true→t∈allD l:=fun t ht=>let⟨i,_,hi⟩:=hV t ht;dOf_all hi
 have hag:agree S (mk V S) x'.k.ops:=by
  intro t ht
  have hs:=hsl t (by unfold I.slots;exact List.mem_append_right _ ht)
  refine⟨(mk_f hs).symm,fun s o e=>?_⟩
  have:V s=false:=by
   cases hvs:V s with
   |false=>rfl
   |true=>exact absurd (hVD s hvs) (hI.b t s o e)
  exact(mk_f this).symm
 have hdV:∀d,x'.d=some d→V d=false:=by
  intro d hd
  cases hvd:V d with
  |false=>rfl
  |true=>
   obtain⟨i,hi,hid⟩:=hV d hvd
   exact absurd (hd.trans hid.symm) (hdz i hi)
 have hput:∀v:Value,put (mk V S) x'.d (.v v)=mk V (put S x'.d (.v v)):=by
  intro v
  cases hd:x'.d with
  |none=>rfl
  |some d=>exact mk_up (hdV d hd)
 have hput2:∀v:Value,ZI ops l S0 (put S x'.d (.v v))∧∀t,V t=true→put S x'.d (.v v) t=S t:=by
  intro v
  cases hd:x'.d with
  |none=>exact⟨hI,fun _ _=>rfl⟩
  |some d=>
   have hdD:d∈allD l:=dOf_all (i:=c) (by rw[hdc,hd])
   refine⟨⟨fun t ht=>?_,fun t s o e=>?_,fun i d' hi hb hid=>?_⟩,fun t ht=>?_⟩
   ·simp only[put,upF_eq]
    rw[if_neg (fun e=>ht (by subst e;exact hdD))]
    exact hI.a t ht
   ·simp only[put,upF_eq]at e
    split at e
    ·cases e
    ·exact hI.b t s o e
   ·simp only[put,upF_eq]
    rw[if_neg (fun e=>hdz i hi (by rw[hd,hid,e]))]
    exact hI.c i d' hi hb hid
   ·simp only[put,upF_eq]
    rw[if_neg]
    intro e;subst e
    rw[hdV _ hd]at ht;cases ht
 unfold vcO at h⊢
 rw[hg]at h⊢
 simp only at h⊢
 cases hkk:x'.k<;>rw[hkk]at h hk hag<;>first|(cases hk;done)|skip
 case call g xs=>
  obtain⟨args,h1,h2⟩:=h
  refine⟨args,by rw[evs_agree hag (ys:=xs) (fun y hy=>by simpa [K.ops]using hy)];exact h1,h2.mono fun v M' hp=>?_⟩
  exact⟨_,hput v,hp,(hput2 v).1,(hput2 v).2⟩
 case not y=>
  obtain⟨sv,h1,h2⟩:=h
  obtain⟨v,rfl⟩:=not_v h1
  refine⟨_,FE_agree hag h1,?_⟩
  simp only[SV.isBox,Bool.false_eq_true,if_false]at h2⊢
  exact⟨_,hput v,h2,(hput2 v).1,(hput2 v).2⟩
 case store m y z=>
  cases y with
  |tmp t=>
   obtain⟨i,hi,hb⟩:=List.any_eq_true.1 hk
   simp only[Bool.and_eq_true,beq_iff_eq]at hb
   have hbx:=hI.c i t hi hb.1 hb.2
   have hVt:V t=false:=hsl t (by unfold I.slots;rw[hkk];simp[K.ops,tmpsOf])
   obtain⟨v,h1,h2,h3,h4⟩:=h
   cases hS:S t with
   |box cs0=>
    refine⟨v,by rw[ev_agree hag (x:=z) (by simp[K.ops])];exact h1,h2,h3,.inl ?_⟩
    rcases h4 with⟨s,o,cs,h5,h6,h7,h8⟩|⟨b,o,cs,h5,_⟩
    ·have hl:lc S (.tmp t)=some (.bx t 0):=by simp only[lc,hS]
     rw[hl]at h5
     cases h5
     refine⟨t,0,cs,by simp only[lc,mk_f hVt,hS],by rw[mk_f hVt];exact h6,h7,_,mk_up hVt,h8,⟨fun t' ht'=>?_,fun t' s o e=>?_,fun i' d' hi' hb' hid'=>?_⟩,fun t' ht'=>?_⟩
     ·rw[upF_eq,if_neg (fun e=>ht' (by subst e;exact dOf_all hb.2))]
      exact hI.a t' ht'
     ·rw[upF_eq]at e
      split at e
      ·cases e
      ·exact hI.b t' s o e
     ·rw[upF_eq]
      split
      ·rfl
      ·exact hI.c i' d' hi' hb' hid'
     ·rw[upF_eq,if_neg]
      intro e;subst e;rw[hVt]at ht';cases ht'
    ·exfalso
     simp only[lc,hS]at h5
     cases h5
   |bsl cs k=>
    exfalso
    rcases h4 with⟨s,o,cs,h5,_⟩|⟨b,o,cs,h5,_⟩<;>simp[lc,hS]at h5
   |_=>rw[hS]at hbx;cases hbx
  |_=>cases hk
def hidV(ops:Array Oper)(l:List I)(listed:Array Bool):Nat→Bool:=fun t=>(zOf ops l).any fun i=> !listed.getD i false&&dOf l i==some t
theorem hidV_some{listed:Array Bool}{t:Nat}:hidV ops l listed t=true↔∃i,i∈zOf ops l∧listed.getD i false=false∧dOf l i=some t:=by
 unfold hidV
 rw[List.any_eq_true]
 constructor
 ·rintro⟨i,hi,h⟩
  simp only[Bool.and_eq_true,Bool.not_eq_true',beq_iff_eq]at h
  exact⟨i,hi,h.1,h.2⟩
 ·rintro⟨i,hi,h1,h2⟩
  exact⟨i,hi,by simp[h1,h2]⟩
theorem linked_pred:∀{L:List Nat} {c:Nat},linked ops (c::L)=true→∀i,i∈L→∃p,p∈c::L∧Region.waitsFor .any ops i p=true
 |[],c,_,i,hi=>by cases hi
 |b::r,c,h,i,hi=>by
  simp only[linked,Bool.and_eq_true]at h
  rcases List.mem_cons.1 hi with e|e
  ·subst e;exact⟨c,by simp,h.1⟩
  ·obtain⟨p,hp,hw⟩:=linked_pred h.2 i e
   exact⟨p,List.mem_cons_of_mem _ hp,hw⟩
theorem linked_suffix:∀{pre rest:List Nat},linked ops (pre++rest)=true→linked ops rest=true
 |[],_,h=>h
 |[a],[],h=>rfl
 |[a],b::r,h=>by
  simp only[List.cons_append,List.nil_append,linked,Bool.and_eq_true]at h
  exact h.2
 |a::b::r,rest,h=>by
  simp only[List.cons_append,linked,Bool.and_eq_true]at h
  exact linked_suffix (pre:=b::r) h.2
theorem cOf_sorted:(cOf ops l).Pairwise (· < ·):=List.Pairwise.filter _ List.pairwise_lt_range
theorem zany(hZ:ZC ops l)(htr:trL P own nt ops 0 ops.toList=some l)(hF:∀i∈zOf ops l,∀x d,l[i]?=some x→x.d=some d→FE P S0 (fun _=>none) x.k (rs d))(hn0:∀t s o,S0 t=.bp s o→s∉allD l)
 {Q:Exit→Act→World→Prop} {post:St→Mem→Prop} (hK:∀S' M' a' w' β',post S' M'→RepF W0 M0 β' S' nt M' a' w'→Q .normal a' w'):
 ∀(m:Nat) (U rest pre:List Nat) (listed:Array Bool) (S:St) (M:Mem) (β:Nat→Nat) (a:Act) (w:World),U.length=m→U.Nodup→(∀i,i∈U↔i<ops.size∧listed.getD i false=false)→listed.size=ops.size→
  cOf ops l=pre++rest→(∀c∈pre,listed.getD c false=true)→(∀c∈rest,listed.getD c false=false)→vcL P (getsI l rest) post S M→ZI ops l S0 S→(∀i∈zOf ops l,listed.getD i false=false→∀d,dOf l i=some d→S d=rs d)→
  RepF W0 M0 β (mk (hidV ops l listed) S) nt M a w→wpAny P .any ops Q m listed a w:=by
 have hlen:l.length=ops.size:=by rw[trL_len htr];simp
 intro m
 induction m with
 |zero=>
  intro U rest pre listed S M β a w hU hnd hmem hsz hc hpre hrest hv hI hrs hR
  have hU0:U=[]:=List.eq_nil_of_length_eq_zero hU
  subst hU0
  have hall:∀j,j<ops.size→listed.getD j false=true:=by
   intro j hj
   cases h:listed.getD j false with
   |true=>rfl
   |false=>have:=(hmem j).2 ⟨hj,h⟩;cases this
  have hr0:rest=[]:=by
   cases rest with
   |nil=>rfl
   |cons c r=>
    have hcc:c∈cOf ops l:=by rw[hc];simp
    have hlt:c<ops.size:=by unfold cOf at hcc;rw[List.mem_filter,List.mem_range]at hcc;exact hcc.1
    have:=hrest c (by simp)
    rw[hall c hlt]at this;cases this
  subst hr0
  have hr:Region.ready .any ops listed=[]:=by
   apply List.eq_nil_iff_forall_not_mem.2
   intro j hj
   obtain⟨h0,o,ho,_⟩:=mem_ready.1 hj
   have hjs:j<ops.size:=(Array.getElem?_eq_some_iff.1 ho).1
   rw[getD_true_false (by omega),hall j hjs]at h0
   cases h0
  have hmk:mk (hidV ops l listed) S=S:=by
   funext t
   apply mk_f
   cases h:hidV ops l listed t with
   |false=>rfl
   |true=>
    obtain⟨i,hi,h1,_⟩:=hidV_some.1 h
    rw[hall i (lateI_spec hi).1]at h1;cases h1
  rw[hmk]at hR
  exact⟨hr,hK _ _ _ _ β hv hR⟩
 |succ m ih=>
  intro U rest pre listed S M β a w hU hnd hmem hsz hc hpre hrest hv hI hrs hR
  have hUne:U≠[]:=by intro h;subst h;cases hU
  obtain⟨i0,hi0,hleast⟩:=least_mem hUne
  obtain⟨hi0n,hi0u⟩:=(hmem i0).1 hi0
  have hready0:i0∈Region.ready .any ops listed:=by
   obtain⟨o,ho⟩:∃o,ops[i0]?=some o:=⟨_,Array.getElem?_eq_getElem hi0n⟩
   refine mem_ready.2 ⟨by rw[getD_true_false (by omega)];exact hi0u,o,ho,fun e he hb=>?_⟩
   have hlt:=hZ.e i0 o ho e he hb
   cases hle:listed.getD e.on false with
   |true=>rfl
   |false=>
    have:=hleast e.on ((hmem e.on).2 ⟨by omega,hle⟩)
    omega
  refine⟨fun h=>(by rw[h]at hready0;cases hready0),fun i hi=>?_⟩
  obtain⟨hun,o,ho,hall⟩:=mem_ready.1 hi
  have his:i<ops.size:=(Array.getElem?_eq_some_iff.1 ho).1
  rw[getD_true_false (by omega)]at hun
  obtain⟨x,hx,htx⟩:=trL_get htr i o (by rw[Array.getElem?_toList];exact ho)
  have hiU:i∈U:=(hmem i).2 ⟨his,hun⟩
  have hUl:(U.erase i).length=m:=by rw[List.length_erase_of_mem hiU];omega
  have hUm:∀j,j∈U.erase i↔j<ops.size∧(listed.setIfInBounds i true).getD j false=false:=by
   intro j
   rw[hnd.mem_erase_iff,hmem j,listed_set (by omega)]
   constructor
   ·rintro⟨h1,h2,h3⟩
    refine⟨h2,?_⟩
    rw[h3];simpa using h1
   ·rintro⟨h1,h2⟩
    simp only[Bool.or_eq_false_iff,beq_eq_false_iff_ne,ne_eq]at h2
    exact⟨h2.2,h1,h2.1⟩
  have hwait:∀j,Region.waitsFor .any ops i j=true→listed.getD j false=true:=by
   intro j hw
   obtain⟨e,he,hb,hon⟩:=waits_spec ho hw
   have:=hall e he hb
   rw[hon]at this;exact this
  rcases cz_split (l:=l) his with hz|hz
  ·--one that nothing moves
   obtain⟨_,o',x',d,ho',hx',hg,hxg,hd,hk,hno⟩:=lateI_spec hz
   have e1:o'=o:=by rw[ho]at ho';exact(Option.some.inj ho').symm
   have e2:x'=x:=by rw[hx]at hx';exact(Option.some.inj hx').symm
   subst e1 e2
   obtain⟨ow,hk1,hk2,hk3,hk4,hk5⟩:=trI_some htx
   have hdo:dOf l i=some d:=by unfold dOf;rw[hx];exact hd
   have hfe:=FE_any (M:=M) hk (hF i hz x' d hx hd)
   have hVD:∀t,t∉allD l→hidV ops l listed t=false:=by
    intro t ht
    cases h:hidV ops l listed t with
    |false=>rfl
    |true=>obtain⟨j,_,_,hj⟩:=hidV_some.1 h;exact absurd (dOf_all hj) ht
   have hag:agree S0 (mk (hidV ops l listed) S) x'.k.ops:=by
    intro t ht
    have htD:t∉allD l:=hZ.z2 i t hz (by unfold slotsAt;rw[hx];unfold I.slots;exact List.mem_append_right _ ht)
    refine⟨?_,fun s o e=>?_⟩
    ·rw[mk_f (hVD t htD),hI.a t htD]
    ·have:=hn0 t s o e
     rw[mk_f (hVD s this),hI.a s this]
   have hfe':=FE_agree hag hfe
   unfold wpOp
   rw[ho]
   simp only
   rw[if_pos (by simp[Region.wanted,hg])]
   refine .inl (fe_exec hR hk1 hfe' hk4 (fun _=>⟨d,by rw[←hk2];exact hd,fun t o' _ e=>?_⟩) ?_)
   ·have:S t=.bp d o':=by
     cases hh:hidV ops l listed t with
     |true=>simp[mk,hh]at e
     |false=>rw[mk_f hh]at e;exact e
    exact hI.b t d o' this (dOf_all hdo)
   ·intro a' w' β' hR'
    have hup:upO (mk (hidV ops l listed) S) o'.dst (rs d)=mk (hidV ops l (listed.setIfInBounds i true)) S:=by
     rw[←hk2,hd]
     funext t
     simp only[upO,upF_eq]
     by_cases e:t=d
     ·subst e
      rw[if_pos rfl,mk_f,hrs i hz hun t hdo]
      cases hh:hidV ops l (listed.setIfInBounds i true) t with
      |false=>rfl
      |true=>
       obtain⟨j,hj,h1,h2⟩:=hidV_some.1 hh
       have:=hZ.z1 i j t hz hj hdo h2
       subst this
       rw[listed_set (by omega)]at h1
       simp at h1
     ·rw[if_neg e]
      have:hidV ops l (listed.setIfInBounds i true) t=hidV ops l listed t:=by
       rw[Bool.eq_iff_iff,hidV_some,hidV_some]
       constructor
       ·rintro⟨j,hj,h1,h2⟩
        rw[listed_set (by omega)]at h1
        simp only[Bool.or_eq_false_iff]at h1
        exact⟨j,hj,h1.1,h2⟩
       ·rintro⟨j,hj,h1,h2⟩
        refine⟨j,hj,?_,h2⟩
        rw[listed_set (by omega),h1]
        have:j≠i:=fun e2=>by subst e2;rw[hdo]at h2;exact e (Option.some.inj h2).symm
        simpa using this
      simp only[mk,this]
    rw[hup]at hR'
    refine ih (U.erase i) rest pre (listed.setIfInBounds i true) S M β' a' w' hUl (hnd.erase i) hUm (by simpa using hsz) hc ?_ ?_ hv hI ?_ hR'
    ·intro c hcp;rw[listed_set (by omega),hpre c hcp];rfl
    ·intro c hcr
     rw[listed_set (by omega),hrest c hcr]
     have:c≠i:=fun e=>by
      subst e
      exact cz_no (ops:=ops) (l:=l) (by rw[hc];simp[hcr]) hz
     simpa using this
    ·intro j hj h1 d' hd'
     rw[listed_set (by omega)]at h1
     simp only[Bool.or_eq_false_iff]at h1
     exact hrs j hj h1.1 d' hd'
  ·--the next of the chain
   have hin:i∈rest:=by
    rw[hc]at hz
    rcases List.mem_append.1 hz with h|h
    ·rw[hpre i h]at hun;cases hun
    ·exact h
   cases rest with
   |nil=>cases hin
   |cons c r=>
    have hic:i=c:=by
     rcases List.mem_cons.1 hin with e|e
     ·exact e
     ·exfalso
      obtain⟨p,hp,hw⟩:=linked_pred (linked_suffix (pre:=pre) (rest:=c::r) (by rw[←hc];exact hZ.c3)) i e
      have:=hwait p hw
      rw[hrest p hp]at this;cases this
    subst hic
    have hgx:getsI l (i::r)=x::getsI l r:=by simp[getsI,hx]
    rw[hgx]at hv
    have hsl:∀t,t∈x.slots→hidV ops l listed t=false:=by
     intro t ht
     cases hh:hidV ops l listed t with
     |false=>rfl
     |true=>
      obtain⟨j,hj,h1,h2⟩:=hidV_some.1 hh
      have:=hwait j (hZ.c2 i t j hz (by unfold slotsAt;rw[hx];exact ht) hj h2)
      rw[h1]at this;cases this
    have hv':=vcO_mask hZ hz hx (V:=hidV ops l listed) (fun t ht=>let⟨i,hi,_,h⟩:=hidV_some.1 ht;⟨i,hi,h⟩) hsl hI hv
    have hnr:i∉r:=by
     have:=cOf_sorted (ops:=ops) (l:=l)
     rw[hc]at this
     have:=(List.pairwise_append.1 this).2.1
     have:=(List.pairwise_cons.1 this).1
     intro hir
     have:=this i hir
     omega
    have hhid:hidV ops l (listed.setIfInBounds i true)=hidV ops l listed:=by
     funext t
     rw[Bool.eq_iff_iff,hidV_some,hidV_some]
     constructor
     ·rintro⟨j,hj,h1,h2⟩
      rw[listed_set (by omega)]at h1
      simp only[Bool.or_eq_false_iff]at h1
      exact⟨j,hj,h1.1,h2⟩
     ·rintro⟨j,hj,h1,h2⟩
      refine⟨j,hj,?_,h2⟩
      rw[listed_set (by omega),h1]
      have:j≠i:=fun e2=>by subst e2;exact cz_no hz hj
      simpa using this
    have hstep:=vcO_sound (Q:=Q) (K:=wpAny P .any ops Q m (listed.setIfInBounds i true)) hR htx hv' (fun S' M' a' w' β' hp hr=>by
     obtain⟨S'',rfl,hp,hI',hsame⟩:=hp
     refine ih (U.erase i) r (pre++[i]) (listed.setIfInBounds i true) S'' M' β' a' w' hUl (hnd.erase i) hUm (by simpa using hsz) (by rw[hc];simp) ?_ ?_ hp hI' ?_ (by rw[hhid];exact hr)
     ·intro c' hcp
      rw[listed_set (by omega)]
      rcases List.mem_append.1 hcp with h|h
      ·rw[hpre c' h];rfl
      ·simp at h;subst h;simp
     ·intro c' hcr
      rw[listed_set (by omega),hrest c' (by simp[hcr])]
      have:c'≠i:=fun e=>by subst e;exact hnr hcr
      simpa using this
     ·intro j hj h1 d' hd'
      rw[listed_set (by omega)]at h1
      simp only[Bool.or_eq_false_iff]at h1
      rw[hsame d' (hidV_some.2 ⟨j,hj,h1.1,hd'⟩)]
      exact hrs j hj h1.1 d' hd')
    unfold wpOp
    rw[ho]
    simp only
    split
    ·rename_i hw;rw[if_pos hw]at hstep;exact .inl hstep
    ·rename_i hw;rw[if_neg hw]at hstep;exact hstep
theorem zreg_sound{id:Nat}(hm:P.follows .mixedOrders=true)(htr:trL P own nt ops 0 ops.toList=some l)(hB:zB ops l=true){Q:Exit→Act→World→Prop}{post:St→Mem→Prop}
 (hR:RepF W0 M0 β S nt M a w) (h:vcL P (getsI l (zOf ops l)) (fun S' _=>vcL P (getsI l (cOf ops l)) post S' M) (fun t=>junkD (allD l) (S t)) (fun _=>none))
 (hK:∀S' M' a' w' β',post S' M'→RepF W0 M0 β' S' nt M' a' w'→Q .normal a' w'):(Code.region id ops true).wp P Q a w:=by
 have hZ:=ZC.of hB
 have hlen:l.length=ops.size:=by rw[trL_len htr];simp
 have hn0:∀t s o,(fun t=>junkD (allD l) (S t)) t=.bp s o→s∉allD l:=by
  intro t s o e hs
  simp only at e
  cases hS:S t with
  |bp s' o'=>
   rw[hS]at e
   simp only[junkD]at e
   split at e
   ·cases e
   ·rename_i hc;cases e;exact hc (by simpa using hs)
  |_=>rw[hS]at e;cases e
 have hRj:=hR.weak (junkD_le (allD l) S)
 generalize(fun t=>junkD (allD l) (S t))=S0 at h hn0 hRj
 have hR1:RepF W0 M0 β S0 nt M a {w with drawn:=w.drawn+1}:=hRj.step (M':=M) (w':={w with drawn:=w.drawn+1}) (fun b k e=>(hR.sat b k e).of_eq rfl) ⟨rfl,rfl,rfl,Nat.le_refl _,fun _ _ _=>rfl,fun _ h=>.inl h⟩
 refine wp_region_any hm ?_
 have hinit:∀j,(Array.replicate ops.size false).getD j false=false:=fun j=>getD_replicate_false _ j
 have hgz:∀i,i∈getsI l (zOf ops l)↔∃j,j∈zOf ops l∧l[j]?=some i:=by
  intro i;unfold getsI;rw[List.mem_filterMap]
 have hds:∀d,d∈(getsI l (zOf ops l)).filterMap (·.d)↔∃j,j∈zOf ops l∧dOf l j=some d:=by
  intro d
  rw[List.mem_filterMap]
  constructor
  ·rintro⟨i,hi,hd⟩
   obtain⟨j,hj,hji⟩:=(hgz i).1 hi
   exact⟨j,hj,by unfold dOf;rw[hji];exact hd⟩
  ·rintro⟨j,hj,hd⟩
   unfold dOf at hd
   cases hji:l[j]? with
   |none=>rw[hji]at hd;cases hd
   |some i=>rw[hji]at hd;exact⟨i,(hgz i).2 ⟨j,hj,hji⟩,hd⟩
 have hnd:((getsI l (zOf ops l)).filterMap (·.d)).Nodup:=by
  have e:(getsI l (zOf ops l)).filterMap (·.d)=(zOf ops l).filterMap fun i=>dOf l i:=by
   unfold getsI
   rw[List.filterMap_filterMap]
   rfl
  rw[e]
  have hnz:(zOf ops l).Nodup:=List.nodup_range.filter _
  refine List.Pairwise.filterMap _ ?_ (List.Pairwise.and_mem.1 hnz)
  intro i j ⟨hi,hj,hne⟩ d hd d' hd'
  intro e
  subst e
  exact hne (hZ.z1 i j d hi hj hd hd')
 obtain⟨rs,h1,h2,h3⟩:=late_vc (P:=P) (D:=allD l) hn0 (getsI l (zOf ops l)) S0 (fun x hx=>by
  obtain⟨j,hj,hjx⟩:=(hgz x).1 hx
  obtain⟨_,o,x',d,ho,hx',hg,hxg,hd,hk,hno⟩:=lateI_spec hj
  have:x'=x:=by rw[hjx]at hx';exact(Option.some.inj hx').symm
  subst this
  exact⟨hxg,hk,fun t ht=>hZ.z2 j t hj (by unfold slotsAt;rw[hjx];exact ht),d,hd,dOf_all (i:=j) (by unfold dOf;rw[hjx];exact hd)⟩) hnd (fun t _=>rfl) hn0 h
 have hF:∀i∈zOf ops l,∀x d,l[i]?=some x→x.d=some d→FE P S0 (fun _=>none) x.k (rs d):=fun i hi x d hx hd=>h1 x ((hgz x).2 ⟨i,hi,hx⟩) d hd
 have hcz:∀t,((getsI l (zOf ops l)).filterMap (·.d)).contains t=true↔∃j,j∈zOf ops l∧dOf l j=some t:=by
  intro t;rw[List.contains_iff_mem];exact hds t
 have hGh:mk (hidV ops l (Array.replicate ops.size false)) (GZ ((getsI l (zOf ops l)).filterMap (·.d)) rs S0)=mk (hidV ops l (Array.replicate ops.size false)) S0:=by
  funext t
  cases hh:hidV ops l (Array.replicate ops.size false) t with
  |true=>simp[mk,hh]
  |false=>
   rw[mk_f hh,mk_f hh]
   unfold GZ
   cases hcc:((getsI l (zOf ops l)).filterMap (·.d)).contains t with
   |false=>rfl
   |true=>
    obtain⟨j,hj,hd⟩:=(hcz t).1 hcc
    rw[hidV_some.2 ⟨j,hj,hinit j,hd⟩]at hh
    cases hh
 refine zany hZ htr hF hn0 hK ops.size (List.range ops.size) (cOf ops l) [] (Array.replicate ops.size false) _ M β a {w with drawn:=w.drawn+1} (by simp) List.nodup_range (fun i=>by rw[List.mem_range,hinit];simp) (by simp) rfl (fun c hc=>by cases hc) (fun c _=>hinit c) h3 ?_ ?_ ?_
 ·refine⟨fun t ht=>?_,fun t s o e=>?_,fun i d hi hb hd=>?_⟩
  ·unfold GZ
   cases hcc:((getsI l (zOf ops l)).filterMap (·.d)).contains t with
   |false=>rfl
   |true=>
    obtain⟨j,hj,hd⟩:=(hcz t).1 hcc
    exact absurd (dOf_all hd) ht
  ·unfold GZ at e
   cases hcc:((getsI l (zOf ops l)).filterMap (·.d)).contains t with
   |false=>rw[hcc]at e;exact hn0 t s o e
   |true=>rw[hcc]at e;exact h2 t s o (by simpa using hcc) e
  ·have hcc:=(hcz d).2 ⟨i,hi,hd⟩
   unfold GZ
   rw[hcc]
   simp only[cond_true]
   obtain⟨_,o,x,d',ho,hx,hg,hxg,hd',hk,hno⟩:=lateI_spec hi
   have:d'=d:=by simpa [dOf,hx,hd']using hd
   subst this
   have hfe:=hF i hi x d' hx hd'
   unfold boxAt at hb
   rw[hx]at hb
   simp only at hb
   cases hkk:x.k<;>rw[hkk]at hb hk hfe<;>first|(cases hb;done)|(cases hk;done)|skip
   case alloc ow z=>
    cases ow with
    |false=>cases hk
    |true=>
     rcases hfe with hfe|hfe
     ·simp[pe]at hfe
     ·have:rs d'=.box z:=hfe
      rw[this];rfl
 ·intro i hi _ d hd
  unfold GZ
  rw[(hcz d).2 ⟨i,hi,hd⟩]
  rfl
 ·rw[hGh]
  exact hR1.weak fun t=>by
   show mk _ S0 t=.junk∨mk _ S0 t=S0 t
   unfold mk
   cases hidV ops l (Array.replicate ops.size false) t<;>simp
end
def Mem.un(a b:Mem):Mem:=fun x=>match a x with|some k=>some k|none=>b x
def Disj(a b:Mem):Prop:=∀x,a x=none∨b x=none
theorem Disj.symm{a b:Mem}(h:Disj a b):Disj b a:=fun x=>(h x).symm
theorem un_l{a b:Mem}{x:Nat}{k:Bk}(h:a x=some k):a.un b x=some k:=by unfold Mem.un;rw[h]
theorem un_n{a b:Mem}{x:Nat}(h:a x=none):a.un b x=b x:=by unfold Mem.un;rw[h]
theorem un_r{a b:Mem}(d:Disj a b){x:Nat}{k:Bk}(h:b x=some k):a.un b x=some k:=by
 rcases d x with e|e
 ·rw[un_n e];exact h
 ·rw[h]at e;cases e
theorem le_l(a b:Mem):a.le (a.un b):=fun x k h=>un_l h
theorem le_r{a b:Mem}(d:Disj a b):b.le (a.un b):=fun x k h=>un_r d h
theorem un_none{a b:Mem}{x:Nat}:a.un b x=none↔a x=none∧b x=none:=by
 unfold Mem.un
 cases h:a x<;>simp
theorem un_comm{a b:Mem}(d:Disj a b):a.un b=b.un a:=by
 funext x
 rcases d x with e|e
 ·rw[un_n e];cases h:b x with
  |none=>rw[un_n h,e]
  |some k=>rw[un_l h]
 ·rw[un_n (a:=b) e];cases h:a x with
  |none=>rw[un_n h,e]
  |some k=>rw[un_l h]
theorem un_assoc(a b c:Mem):(a.un b).un c=a.un (b.un c):=by
 funext x
 unfold Mem.un
 cases h:a x<;>simp
theorem disj_un{a b c:Mem}:Disj a (b.un c)↔Disj a b∧Disj a c:=by
 constructor
 ·intro h
  refine⟨fun x=>?_,fun x=>?_⟩<;>rcases h x with e|e
  ·exact .inl e
  ·exact .inr (un_none.1 e).1
  ·exact .inl e
  ·exact .inr (un_none.1 e).2
 ·rintro⟨h1,h2⟩ x
  rcases h1 x with e|e
  ·exact .inl e
  ·rcases h2 x with e'|e'
   ·exact .inl e'
   ·exact .inr (un_none.2 ⟨e,e'⟩)
theorem disj_un'{a b c:Mem}:Disj (a.un b) c↔Disj a c∧Disj b c:=by
 constructor
 ·intro h;have:=disj_un.1 h.symm;exact⟨this.1.symm,this.2.symm⟩
 ·rintro⟨h1,h2⟩;exact(disj_un.2 ⟨h1.symm,h2.symm⟩).symm
theorem un_upd_l{a b:Mem}{x:Nat}(k:Bk):(a.un b).upd x k=(a.upd x k).un b:=by
 funext y
 by_cases e:y=x
 ·subst e;rw[Mem.upd_same,un_l (Mem.upd_same _ _ _)]
 ·rw[Mem.upd_ne _ _ e];unfold Mem.un;rw[Mem.upd_ne _ _ e]
theorem un_upd_r{a b:Mem}{x:Nat}(k:Bk)(h:a x=none):(a.un b).upd x k=a.un (b.upd x k):=by
 funext y
 by_cases e:y=x
 ·subst e;rw[Mem.upd_same,un_n h,Mem.upd_same]
 ·rw[Mem.upd_ne _ _ e];unfold Mem.un;rw[Mem.upd_ne _ _ e]
theorem Disj.upd{a b:Mem}(d:Disj a b){x:Nat}(k:Bk)(h:b x=none):Disj (a.upd x k) b:=by
 intro y
 by_cases e:y=x
 ·subst e;exact .inr h
 ·rw[Mem.upd_ne _ _ e];exact d y
def one(b:Nat)(k:Bk):Mem:=fun x=>if x=b then some k else none
theorem one_same(b:Nat)(k:Bk):one b k b=some k:=by simp[one]
theorem one_upd(b:Nat)(k k':Bk):(one b k).upd b k'=one b k':=by
 funext x;unfold Mem.upd one;split<;>simp_all
def emp:Mem:=fun _=>none
theorem emp_un(m:Mem):emp.un m=m:=rfl
theorem un_emp(m:Mem):m.un emp=m:=by
 funext x;unfold Mem.un emp;cases m x<;>rfl
theorem disj_emp(m:Mem):Disj m emp:=fun _=>.inr rfl
theorem Fn.frame{P:Program}{f:FuncId}{args:List Value}{a b:Mem}{post:Value→Mem→Prop}(d:Disj a b)(h:Fn P f args a post):
 Fn P f args (a.un b) (fun v M'=>∃m',post v m'∧Disj m' b∧M'=m'.un b):=by
 refine⟨fun w hw=>?_⟩
 have hwa:Sat w a:=hw.le (le_l _ _)
 have hwb:Sat w b:=hw.le (le_r d)
 refine(h.out w hwa).mono fun e w' ⟨v,m',he,hp,hs,ht⟩=>?_
 have hd:Disj m' b:=by
  intro x
  cases h1:m' x with
  |none=>exact .inl rfl
  |some k=>
   right
   cases h2:b x with
   |none=>rfl
   |some k2=>
    have hlt:=(hwb x k2 h2).lt
    rcases ht.dom x (by rw[h1];simp)with h3|h3
    ·rcases d x with h4|h4
     ·exact absurd h4 h3
     ·rw[h2]at h4;cases h4
    ·omega
 refine⟨v,m'.un b,he,⟨m',hp,hd,rfl⟩,?_,⟨ht.os,ht.tape,ht.output,ht.size,?_,?_⟩⟩
 ·intro x k hk
  cases h1:m' x with
  |some k1=>rw[un_l h1]at hk;cases hk;exact hs x _ h1
  |none=>
   rw[un_n h1]at hk
   have hb:=hwb x k hk
   refine hb.of_eq (ht.keep x hb.lt ?_)
   rcases d x with h4|h4
   ·exact h4
   ·rw[hk]at h4;cases h4
 ·intro x hx hn
  exact ht.keep x hx (un_none.1 hn).1
 ·intro x hx
  cases h1:m' x with
  |some k1=>
   rcases ht.dom x (by rw[h1];simp)with h3|h3
   ·exact .inl fun e=>h3 (un_none.1 e).1
   ·exact .inr h3
  |none=>
   rw[un_n h1]at hx
   exact .inl fun e=>hx (un_none.1 e).2
theorem Fn.le{P:Program}{f:FuncId}{args:List Value}{m M:Mem}{post:Value→Mem→Prop}(l:m.le M)(h:Fn P f args m post):Fn P f args M post:=by
 refine⟨fun w hw=>(h.out w (hw.le l)).mono fun e w' ⟨v,m',he,hp,hs,ht⟩=>⟨v,m',he,hp,hs,ht.os,ht.tape,ht.output,ht.size,fun b hb hn=>ht.keep b hb ?_,fun b hb=>?_⟩⟩
 ·cases h:m b with
  |none=>rfl
  |some k=>rw[l b k h]at hn;cases hn
 ·rcases ht.dom b hb with h|h
  ·refine .inl fun e=>h ?_
   cases h':m b with
   |none=>rfl
   |some k=>rw[l b k h']at e;cases e
  ·exact .inr h
theorem Qt.frame{P:Program}{f:FuncId}{args:List Value}{a b:Mem}{r:Value}(d:Disj a b)(h:Qt P f args a r):Qt P f args (a.un b) r:=by
 refine(Fn.frame d h).mono ?_
 rintro v M' ⟨m',⟨rfl,rfl⟩,_,rfl⟩
 exact⟨rfl,rfl⟩
inductive T where
 |done
 |none
 |bad
 |alt (i:I) (t u:T)
 |alf (i:I) (t u:T)
def floatH:K→Bool
 |.mov _|.pick _ _ _|.bin _ _ _|.eqB _ _ _|.eqA _ _ _ _|.not _|.conv _ _|.load _ _ _|.nilCheck _|.faddr _ _|.field _ _ _ _|.iaddr _ _ _|.sidx _ _|.build _ _|.slc _ _ _ _|.sslc _ _ _|.lenS _|.lenT _|.min _ _|.max _ _|.ext _ _|.mkfn _ _ _=>true
 |_=>false
def hOk(ops:Array Oper)(l:List I)(listed:Array Bool)(i:Nat):Bool:=
 (match ops[i]?,l[i]? with
  |some o,some x=>o.guard.isNone&&x.d.isSome&&floatH x.k
  |_,_=>false)&&(Region.ready .any ops listed).contains i&&Region.free .any ops listed i
def hz(ops:Array Oper)(l:List I):Nat→Nat→Array Bool→List Nat
 |0,_,_=>[]
 |n+1,i,listed=>if hOk ops l listed i then i::hz ops l n (i+1) (listed.setIfInBounds i true)else hz ops l n (i+1) listed
def hL:List Nat→Array Bool→Array Bool
 |[],listed=>listed
 |i::r,listed=>hL r (listed.setIfInBounds i true)
def early(ops:Array Oper)(zs:List Nat)(j:Nat):Bool:= !zs.all fun i=>Region.waitsFor .any ops j i
def altT(l:List I)(al:Nat→Bool)(fr:Bool)(f g:Nat→T):List Nat→T
 |[]=>.none
 |i::r=>match l[i]? with
  |some x=>bif al i then(bif fr then .bad else .alt x (f i) (altT l al fr f g r))else .alf x (g i) (altT l al fr f g r)
  |none=>.bad
def treeT(ops:Array Oper)(l:List I)(zs:List Nat):Nat→Bool→Array Bool→T
 |0,_,listed=>if(Region.ready .any ops listed).isEmpty then .done else .bad
 |n+1,fr,listed=>if(Region.ready .any ops listed).isEmpty then .done else altT l (early ops zs) fr (fun i=>treeT ops l zs n fr (listed.setIfInBounds i true)) (fun i=>treeT ops l zs n true (listed.setIfInBounds i true)) (Region.ready .any ops listed)
def stT:K→Option Nat
 |.store _ (.tmp t) _=>some t
 |_=>none
def hBs(own:List Nat)(l:List I):List Nat:=own.filter fun t=> !(l.filterMap (·.d)).contains t&& !(l.filterMap fun x=>stT x.k).contains t
def hR0(ops:Array Oper):Array Bool:=Array.replicate ops.size false
def hZs(ops:Array Oper)(l:List I):List Nat:=hz ops l ops.size 0 (hR0 ops)
def hT(ops:Array Oper)(l:List I):T:=treeT ops l (hZs ops l) (ops.size-(hZs ops l).length) false (hL (hZs ops l) (hR0 ops))
inductive C where
 |reg (l:List I)
 |dreg (n:Nat) (l:List I)
 |zreg (ds:List Nat) (zs cs:List I)
 |hreg (bs:List Nat) (zs:List I) (t:T)
 |seq (a b:C)
 |cond (x:Operand) (a b:C)
 |block (id:Nat) (c:C)
 |loop (c:C)
 |exit (id:Nat)
 |ret
 |skip
structure Env where
 P:Program
 own:List Nat
 nt:Nat
 ns:List (Nat×Nat)
def trC(E:Env):Code→Option C
 |.skip=>some .skip
 |.region id ops draw=>
  if draw then
   match E.ns.lookup id with
   |some n=>match trL E.P E.own E.nt ops n ops.toList with
    |some l=>if drawB ops l n then some (.dreg n l)else if n==0&&zB ops l then some (.zreg (allD l) (getsI l (zOf ops l)) (getsI l (cOf ops l)))else
     if n==0&&Region.noSelect ops&&decide ((hZs ops l).length≤ops.size)then some (.hreg (hBs E.own l) (getsI l (hZs ops l)) (hT ops l))else none
    |none=>none
   |none=>none
  else(trL E.P E.own E.nt ops 0 ops.toList).map .reg
 |.seq a b=>match trC E a,trC E b with
  |some a',some b'=>some (.seq a' b')
  |_,_=>none
 |.cond x a b=>match trC E a,trC E b with
  |some a',some b'=>some (.cond x a' b')
  |_,_=>none
 |.block id c=>(trC E c).map (.block id)
 |.loop c=>(trC E c).map .loop
 |.exit id=>some (.exit id)
 |.ret=>some .ret
 |_=>none
inductive X where
 |nrm
 |ret
 |ext (id:Nat)
def exitIs:Exit→X→Prop
 |.normal,.nrm=>True
 |.ret,.ret=>True
 |.exit id,.ext id'=>id=id'
 |_,_=>False
def lift(nt:Nat)(Q:X→St→Mem→Prop)(W0:World)(M0:Mem):Exit→Act→World→Prop:=fun e a w=>
 ∃x S M β,exitIs e x∧Q x S M∧RepF W0 M0 β S nt M a w
structure VC (E:Env) (c:C) (Q:X→St→Mem→Prop) (S:St) (M:Mem):Prop where
 out:∀code,trC E code=some c→E.P.follows .mixedOrders=true→∀W0 M0 β a w,RepF W0 M0 β S E.nt M a w→code.wp E.P (lift E.nt Q W0 M0) a w
def seqQ(K:St→Mem→Prop)(Q:X→St→Mem→Prop):X→St→Mem→Prop
 |.nrm=>K
 |x=>Q x
def blkQ(id:Nat)(Q:X→St→Mem→Prop):X→St→Mem→Prop
 |.ext i=>if i=id then Q .nrm else Q (.ext i)
 |x=>Q x
def ofL:List (Nat×SV)→St
 |[]=>fun _=>.junk
 |(d,x)::r=>upF (ofL r) d x
def leA:List (Nat×SV)→St→Prop
 |[],_=>True
 |(d,x)::r,S=>S d=x∧leA r S
theorem leA.leF:∀{l:List (Nat×SV)} {S:St},leA l S→leF (ofL l) S
 |[],_,_=>fun _=>.inl rfl
 |(d,x)::r,S,h=>fun t=>by
  simp only[ofL,upF_eq]
  by_cases e:t=d
  ·rw[if_pos e,e];exact .inr h.1.symm
  ·rw[if_neg e];exact leA.leF h.2 t
section
variable {E:Env} {Q Q':X→St→Mem→Prop} {S S':St} {M M':Mem}
theorem VC.mono{c:C}(h:VC E c Q S M)(k:∀x S M,Q x S M→Q' x S M):VC E c Q' S M:=
 ⟨fun code ht hm W0 M0 β a w hR=>wp_mono (h.out code ht hm W0 M0 β a w hR) fun e a w ⟨x,S,M,β,he,hq,r⟩=>⟨x,S,M,β,he,k _ _ _ hq,r⟩⟩
theorem VC.weak{c:C}(l:List (Nat×SV))(hS:leA l S)(hM:M'.le M)(h:VC E c Q (ofL l) M'):VC E c Q S M:=
 ⟨fun code ht hm W0 M0 β a w hR=>h.out code ht hm W0 M0 β a w ((hR.weak hS.leF).le hM)⟩
theorem VC.drop{c:C}(hM:M'.le M)(h:VC E c Q S M'):VC E c Q S M:=
 ⟨fun code ht hm W0 M0 β a w hR=>h.out code ht hm W0 M0 β a w (hR.le hM)⟩
theorem trC_inv{code:Code}{c:C}(h:trC E code=some c):match c with
 |.skip=>code=.skip
 |.ret=>code=.ret
 |.exit id=>code=.exit id
 |.reg l=>∃id ops,code=.region id ops false∧trL E.P E.own E.nt ops 0 ops.toList=some l
 |.dreg n l=>∃id ops,code=.region id ops true∧trL E.P E.own E.nt ops n ops.toList=some l∧drawB ops l n=true
 |.zreg ds zs cs=>∃id ops l,code=.region id ops true∧trL E.P E.own E.nt ops 0 ops.toList=some l∧zB ops l=true∧ds=allD l∧zs=getsI l (zOf ops l)∧cs=getsI l (cOf ops l)
 |.hreg bs zs t=>∃id ops l,code=.region id ops true∧trL E.P E.own E.nt ops 0 ops.toList=some l∧Region.noSelect ops=true∧(hZs ops l).length≤ops.size∧bs=hBs E.own l∧zs=getsI l (hZs ops l)∧t=hT ops l
 |.seq a b=>∃x y,code=.seq x y∧trC E x=some a∧trC E y=some b
 |.cond t a b=>∃x y,code=.cond t x y∧trC E x=some a∧trC E y=some b
 |.block id a=>∃x,code=.block id x∧trC E x=some a
 |.loop a=>∃x,code=.loop x∧trC E x=some a:=by
 cases code<;>simp only[trC]at h
 case skip=>cases h;rfl
 case ret=>cases h;rfl
 case exit id=>cases h;rfl
 case region id ops draw=>
  cases draw with
  |false=>
   simp only[Bool.false_eq_true,if_false,Option.map_eq_some_iff]at h
   obtain⟨l,hl,h⟩:=h
   cases h
   exact⟨id,ops,rfl,hl⟩
  |true=>
   simp only[if_true]at h
   split at h
   ·split at h
    ·rename_i l hl
     split at h
     ·rename_i hB;cases h;exact⟨id,ops,rfl,hl,hB⟩
     ·split at h
      ·rename_i hn
       simp only[Bool.and_eq_true,beq_iff_eq]at hn
       obtain⟨rfl,hn⟩:=hn
       cases h
       exact⟨id,ops,l,rfl,hl,hn,rfl,rfl,rfl⟩
      ·split at h
       ·rename_i hn
        simp only[Bool.and_eq_true,beq_iff_eq,decide_eq_true_eq]at hn
        obtain⟨⟨rfl,hn⟩,hn2⟩:=hn
        cases h
        exact⟨id,ops,l,rfl,hl,hn,hn2,rfl,rfl,rfl⟩
       ·cases h
    ·cases h
   ·cases h
 case seq x y=>
  split at h
  ·rename_i a b h1 h2;cases h;exact⟨x,y,rfl,h1,h2⟩
  ·cases h
 case cond t x y=>
  split at h
  ·rename_i a b h1 h2;cases h;exact⟨x,y,rfl,h1,h2⟩
  ·cases h
 case block id x=>
  simp only[Option.map_eq_some_iff]at h
  obtain⟨a,h1,h⟩:=h
  cases h;exact⟨x,rfl,h1⟩
 case loop x=>
  simp only[Option.map_eq_some_iff]at h
  obtain⟨a,h1,h⟩:=h
  cases h;exact⟨x,rfl,h1⟩
 all_goals cases h
theorem VC.skip(h:Q .nrm S M):VC E .skip Q S M:=
 ⟨fun code ht hm W0 M0 β a w hR=>by
   have e:code=.skip:=trC_inv ht
   subst e
   exact wp_skip ⟨.nrm,S,M,β,trivial,h,hR⟩⟩
theorem VC.ret(h:Q .ret S M):VC E .ret Q S M:=
 ⟨fun code ht hm W0 M0 β a w hR=>by
   have e:code=.ret:=trC_inv ht
   subst e
   exact wp_ret ⟨.ret,S,M,β,trivial,h,hR⟩⟩
theorem VC.exit{id:Nat}(h:Q (.ext id) S M):VC E (.exit id) Q S M:=
 ⟨fun code ht hm W0 M0 β a w hR=>by
   have e:code=.exit id:=trC_inv ht
   subst e
   exact wp_exit ⟨.ext id,S,M,β,rfl,h,hR⟩⟩
theorem VC.reg{l:List I}(h:vcL E.P l (Q .nrm) S M):VC E (.reg l) Q S M:=
 ⟨fun code ht hm W0 M0 β a w hR=>by
   obtain⟨id,ops,rfl,hl⟩:=trC_inv ht
   exact wp_region_list (vcL_sound (fun S' M' a' w' β' hp hr=>⟨.nrm,S',M',β',trivial,hp,hr⟩) hl hR h)⟩
theorem VC.dreg{n:Nat}{l:List I}(h:vcL E.P l (Q .nrm) (fun t=>junkD (dsOf l n) (S t)) M):VC E (.dreg n l) Q S M:=
 ⟨fun code ht hm W0 M0 β a w hR=>by
   obtain⟨id,ops,rfl,hl,hB⟩:=trC_inv ht
   exact draw_sound hm hl hB (fun c a w ⟨x,_,_,_,he,_⟩=>by cases x<;>exact he) hR h (fun S' M' a' w' β' hp hr=>⟨.nrm,S',M',β',trivial,hp,hr⟩)⟩
theorem VC.zreg{ds:List Nat}{zs cs:List I}(h:vcL E.P zs (fun S' _=>vcL E.P cs (Q .nrm) S' M) (fun t=>junkD ds (S t)) (fun _=>none)):VC E (.zreg ds zs cs) Q S M:=
 ⟨fun code ht hm W0 M0 β a w hR=>by
   obtain⟨id,ops,l,rfl,hl,hB,rfl,rfl,rfl⟩:=trC_inv ht
   exact zreg_sound hm hl hB hR h (fun S' M' a' w' β' hp hr=>⟨.nrm,S',M',β',trivial,hp,hr⟩)⟩
theorem VC.seq{a b:C}(h:VC E a (seqQ (VC E b Q) Q) S M):VC E (.seq a b) Q S M:=
 ⟨fun code ht hm W0 M0 β ac w hR=>by
   obtain⟨x,y,rfl,h1,h2⟩:=trC_inv ht
   refine wp_seq (wp_mono (h.out x h1 hm W0 M0 β ac w hR) ?_)
   rintro e a' w' ⟨xx,S',M',β',he,hq,hr⟩
   cases e<;>cases xx<;>first|(exact he.elim)|skip
   ·exact hq.out y h2 hm W0 M0 β' a' w' hr
   ·exact⟨_,S',M',β',he,hq,hr⟩
   ·exact⟨_,S',M',β',he,hq,hr⟩⟩
theorem VC.cond{x:Operand}{a b:C}(t:Bool)(hx:ev S x=some (.bool t))(h1:t=true→VC E a Q S M)(h2:t=false→VC E b Q S M):VC E (.cond x a b) Q S M:=
 ⟨fun code ht hm W0 M0 β ac w hR=>by
   obtain⟨y,z,rfl,e1,e2⟩:=trC_inv ht
   exact wp_cond_split (hR.ev hx) (fun e=>(h1 e).out y e1 hm W0 M0 β ac w hR) (fun e=>(h2 e).out z e2 hm W0 M0 β ac w hR)⟩
theorem VC.block{id:Nat}{c:C}(h:VC E c (blkQ id Q) S M):VC E (.block id c) Q S M:=
 ⟨fun code ht hm W0 M0 β ac w hR=>by
   obtain⟨x,rfl,h1⟩:=trC_inv ht
   refine wp_block (wp_mono (h.out x h1 hm W0 M0 β ac w hR) ?_)
   rintro e a' w' ⟨xx,S',M',β',he,hq,hr⟩
   cases e<;>cases xx<;>first|(exact he.elim)|skip
   ·exact⟨_,S',M',β',he,hq,hr⟩
   ·rename_i i i'
    have he':i=i':=he
    subst he'
    simp only[blkQ]at hq
    simp only[Exit.inBlock]
    by_cases hi:i=id
    ·rw[if_pos hi]at hq⊢;exact⟨.nrm,S',M',β',trivial,hq,hr⟩
    ·rw[if_neg hi]at hq⊢;exact⟨.ext i,S',M',β',rfl,hq,hr⟩
   ·exact⟨_,S',M',β',he,hq,hr⟩⟩
theorem VC.loop{c:C}{α:Type}(T:α→List (Nat×SV))(Inv:Nat→α→Mem→Prop)(h0:∃k x M',leA (T x) S∧M'.le M∧Inv k x M')
 (h:∀k x M,Inv k x M→VC E c (seqQ (fun S' M'=>∃k' x' M'',k'<k∧leA (T x') S'∧M''.le M'∧Inv k' x' M'') Q) (ofL (T x)) M):VC E (.loop c) Q S M:=
 ⟨fun code ht hm W0 M0 β ac w hR=>by
   obtain⟨y,rfl,h1⟩:=trC_inv ht
   obtain⟨k,x,M',hle,hM,hinv⟩:=h0
   refine wp_loop_ghost (fun k a w=>∃x M β,Inv k x M∧RepF W0 M0 β (ofL (T x)) E.nt M a w) k ⟨x,M',β,hinv,(hR.weak hle.leF).le hM⟩ ?_
   rintro k a w ⟨x,M,β,hinv,hR⟩
   refine wp_mono ((h k x M hinv).out y h1 hm W0 M0 β a w hR) ?_
   rintro e a' w' ⟨xx,S',M',β',he,hq,hr⟩
   cases e<;>cases xx<;>first|(exact he.elim)|skip
   ·obtain⟨k',x',M'',hk,hle,hM,hinv⟩:=hq
    exact⟨k',hk,x',M'',β',hinv,(hr.weak hle.leF).le hM⟩
   ·exact⟨_,S',M',β',he,hq,hr⟩
   ·exact⟨_,S',M',β',he,hq,hr⟩⟩
inductive RV where
 |tmp (t:Nat)
 |cell (t:Nat) (one:Bool) (n:Nat)
def trR(P:Program):ResultVar→Option RV
 |.tmp t=>some (.tmp t)
 |.cell a t=>match P.underlying t,P.info? t with
  |some d,some i=>some (.cell a (!isAggD d) i.size)
  |_,_=>none
def rvV(S:St)(M:Mem):RV→Option Value
 |.tmp t=>ev S (.tmp t)
 |.cell t one n=>match lc S (.tmp t)with
  |some (.bx s o)=>match bxc (S s)with
   |some cs=>rdv one n cs o
   |none=>none
  |some (.mm b o)=>match M b with
   |some (.row cs)=>rdv one n cs o
   |_=>none
  |none=>none
def rvs(S:St)(M:Mem):List RV→Option (List Value)
 |[]=>some []
 |r::t=>match rvV S M r,rvs S M t with
  |some v,some l=>some (v::l)
  |_,_=>none
def resV(S:St)(M:Mem)(rs:List RV):Option Value:=
 match rvs S M rs with
 |some [v]=>some v
 |some l=>some (.tuple l.toArray)
 |none=>none
def fnQ(rs:List RV)(post:Value→Mem→Prop):X→St→Mem→Prop
 |.ext _,_,_=>False
 |_,S,M=>∃v M',resV S M rs=some v∧M'.le M∧post v M'
def rdRes(tmps:Array Value):ResultVar→Sem Value
 |.tmp t=>pure (tmps.getD t undef)
 |.cell a t=>do loadVar t (←asAddr (tmps.getD a undef))
theorem results_eq(fn:Func)(tmps:Array Value):results fn tmps=(do let vs←fn.results.mapM (rdRes tmps);pure (if h:vs.size=1 then vs[0]else .tuple vs)):=by
 rfl
theorem run_rv{P:Program}{W0:World}{M0:Mem}{β:Nat→Nat}{n:Nat}{a:Act}{w:World}(hR:RepF W0 M0 β S n M a w){r:ResultVar}{rv:RV}(ht:trR P r=some rv){v:Value}(h:rvV S M rv=some v):
 (rdRes a.tmps r).run P w=.ok v w:=by
 unfold rdRes
 cases r with
 |tmp t=>
  simp only[trR,Option.some.injEq]at ht
  subst ht
  have:=hR.ev (x:=.tmp t) h
  simp only[Sem.run_pure]
  exact congrArg (Result.ok · w) this
 |cell c t=>
  simp only[trR]at ht
  split at ht
  ·rename_i d i hd hi
   simp only[Option.some.injEq]at ht
   subst ht
   simp only[rvV]at h
   split at h
   ·rename_i s o hl
    split at h
    ·rename_i cs hc
     have e:a.tmps.getD c undef=.pointer (some ⟨β s,o,none⟩):=hR.lc_bx hl
     simp only[Sem.run_bind,e,asAddr,Sem.run_pure,Result.andThen_ok]
     exact run_loadVar hd hi (hR.bxc hc).2.ro h
    ·cases h
   ·rename_i b o hl
    split at h
    ·rename_i cs hc
     have e:a.tmps.getD c undef=.pointer (some ⟨b,o,none⟩):=hR.lc_mm hl
     simp only[Sem.run_bind,e,asAddr,Sem.run_pure,Result.andThen_ok]
     exact run_loadVar hd hi (hR.sat _ _ hc).ro h
    ·cases h
   ·cases h
  ·cases ht
theorem run_rvs{P:Program}{W0:World}{M0:Mem}{β:Nat→Nat}{n:Nat}{a:Act}{w:World}(hR:RepF W0 M0 β S n M a w):∀{l:List ResultVar} {rl:List RV},l.mapM (trR P)=some rl→∀{vs:List Value},rvs S M rl=some vs→
 (l.mapM (rdRes a.tmps)).run P w=.ok vs w
 |[],rl,ht,vs,h=>by
  simp only[List.mapM_nil,Option.pure_def,Option.some.injEq]at ht
  subst ht
  simp only[rvs,Option.some.injEq]at h
  subst h
  rfl
 |r::t,rl,ht,vs,h=>by
  simp only[List.mapM_cons,Option.pure_def,Option.bind_eq_bind,Option.bind_eq_some_iff,Option.some.injEq]at ht
  obtain⟨y,hy,r',hr,rfl⟩:=ht
  simp only[rvs]at h
  split at h
  ·rename_i v l h1 h2
   simp only[Option.some.injEq]at h
   subst h
   simp only[List.mapM_cons,Sem.run_bind]
   rw[run_rv hR hy h1]
   simp only[Result.andThen_ok,run_rvs hR hr h2,Sem.run_pure]
  ·cases h
theorem run_results{P:Program}{W0:World}{M0:Mem}{β:Nat→Nat}{n:Nat}{a:Act}{w:World}(hR:RepF W0 M0 β S n M a w){fn:Func}{rl:List RV}(ht:fn.results.toList.mapM (trR P)=some rl){v:Value}(h:resV S M rl=some v):
 (results fn a.tmps).run P w=.ok v w:=by
 unfold resV at h
 have key:∀{vs},rvs S M rl=some vs→(results fn a.tmps).run P w=.ok (if h:vs.toArray.size=1 then vs.toArray[0]else .tuple vs.toArray) w:=by
  intro vs hvs
  have:=run_rvs (P:=P) hR ht hvs
  rw[results_eq,Array.mapM_eq_mapM_toList]
  simp only[Sem.run_bind,Sem.run_map]
  rw[this]
  rfl
 split at h
 ·rename_i v' hvs
  simp only[Option.some.injEq]at h
  subst h
  rw[key hvs];rfl
 ·rename_i l hne hvs
  simp only[Option.some.injEq]at h
  subst h
  rw[key hvs]
  rw[dif_neg]
  intro hl
  match l,hl with
  |[x],_=>exact hne x rfl
 ·cases h
def initS:List Value→Nat→St
 |[],nt=>fun t=>bif Nat.blt t nt then .v undef else .junk
 |x::r,nt=>fun t=>match t with
  |0=>.v x
  |t+1=>initS r (nt-1) t
theorem initS_in:∀(args:List Value) (nt t:Nat),args.length≤nt→t<nt→initS args nt t=.v ((args++List.replicate (nt-args.length) undef).getD t undef)
 |[],nt,t,_,ht=>by
  have hb:Nat.blt t nt=true:=by simp[Nat.blt_eq,ht]
  simp only[initS,hb,cond_true,List.nil_append,List.length_nil,Nat.sub_zero,List.getD_eq_getElem?_getD]
  simp[ht]
 |x::r,nt,0,_,_=>by simp[initS]
 |x::r,nt,t+1,hl,ht=>by
  simp only[List.length_cons]at hl
  have:=initS_in r (nt-1) t (by omega) (by omega)
  simp only[initS,this,List.length_cons,List.cons_append,List.getD_eq_getElem?_getD,List.getElem?_cons_succ]
  rw[show nt-(r.length+1)=nt-1-r.length by omega]
theorem initS_out:∀(args:List Value) (nt t:Nat),args.length≤nt→nt≤t→initS args nt t=.junk
 |[],nt,t,_,ht=>by
  have hb:Nat.blt t nt=false:=by
   cases h:Nat.blt t nt with
   |false=>rfl
   |true=>rw[Nat.blt_eq]at h;omega
  simp only[initS,hb,cond_false]
 |x::r,nt,0,hl,ht=>by simp only[List.length_cons]at hl;omega
 |x::r,nt,t+1,hl,ht=>by
  simp only[List.length_cons]at hl
  exact initS_out r (nt-1) t (by omega) (by omega)
theorem Fn.of{f:FuncId}{fn:Func}{code:Code}{c:C}{rl:List RV}(hf:E.P.funcs[f]?=some fn)(hb:fn.body=some code)(hn:fn.ntmps=E.nt)(ht:trC E code=some c)(hr:fn.results.toList.mapM (trR E.P)=some rl)(hm:E.P.follows .mixedOrders=true)
 {args:List Value} {post:Value→Mem→Prop} (hl:args.length≤E.nt) (h:VC E c (fnQ rl post) (initS args E.nt) M):Fn E.P f args M post:=by
 refine⟨fun w hw=>calls_of_wp hf hb ?_⟩
 have hR:RepF w M (fun _=>0) (initS args E.nt) E.nt M {tmps:=args.toArray++Array.replicate (fn.ntmps-args.toArray.size) undef,defers:=[]} w:=by
  refine⟨rfl,?_,?_,hw,Stp.refl _ _,?_,?_⟩
  ·simp[hn];omega
  ·intro t ht;exact initS_out args E.nt t hl ht
  ·intro t
   rcases Nat.lt_or_ge t E.nt with h1|h1
   ·rw[initS_in args E.nt t hl h1]
    show _=_
    simp only[Array.getD_eq_getD_getElem?,List.getD_eq_getElem?_getD,hn]
    have:args.toArray++Array.replicate (E.nt-args.length) undef=(args++List.replicate (E.nt-args.length) undef).toArray:=by
     apply Array.ext';simp
    simp only[List.size_toArray]
    rw[this,List.getElem?_toArray]
   ·rw[initS_out args E.nt t hl h1];trivial
  ·intro t t' h1
   rcases Nat.lt_or_ge t E.nt with h2|h2
   ·rw[initS_in args E.nt t hl h2]at h1;cases h1
   ·rw[initS_out args E.nt t hl h2]at h1;cases h1
 refine wp_mono (h.out code ht hm w M _ _ w hR) ?_
 rintro e a' w' ⟨xx,S',M',β',he,hq,hr'⟩
 have fin:(∃v M'',resV S' M' rl=some v∧M''.le M'∧post v M'')→a'.defers=[]∧∃v,(results fn a'.tmps).run E.P w'=.ok v w'∧∃v' M'',Ending.returned v=.returned v'∧post v' M''∧Sat w' M''∧Stp w M w' M'':=by
  rintro⟨v,M'',hv,hle,hp⟩
  exact⟨hr'.df,v,run_results hr' hr hv,v,M'',rfl,hp,hr'.sat.le hle,hr'.stp.le hle⟩
 cases e<;>cases xx<;>first|(exact he.elim)|skip
 ·exact fin hq
 ·exact hq.elim
 ·exact fin hq
end
def cell(M:Mem)(b o:Nat):Option Value:=
 match M b with
 |some (.row cs)=>cs[o]?
 |some (.ro cs _ _)=>cs[o]?
 |_=>none
def cells(M:Mem)(b o n:Nat):Option (List Value):=
 match M b with
 |some (.row cs)=>if o+n≤cs.length then some ((cs.drop o).take n)else none
 |some (.ro cs _ _)=>if o+n≤cs.length then some ((cs.drop o).take n)else none
 |_=>none
theorem cell_row{M:Mem}{b o:Nat}{v:Value}(h:cell M b o=some v):∃cs,(M b=some (.row cs)∨∃t fr,M b=some (.ro cs t fr))∧cs[o]?=some v:=by
 unfold cell at h
 split at h
 ·rename_i cs hM;exact⟨cs,.inl hM,h⟩
 ·rename_i cs _ _ hM;exact⟨cs,.inr ⟨_,_,hM⟩,h⟩
 ·cases h
theorem cells_row{M:Mem}{b o n:Nat}{vs:List Value}(h:cells M b o n=some vs):∃cs,(M b=some (.row cs)∨∃t fr,M b=some (.ro cs t fr))∧o+n≤cs.length∧vs=(cs.drop o).take n:=by
 unfold cells at h
 split at h
 ·rename_i cs hM
  split at h
  ·rename_i hle;exact⟨cs,.inl hM,hle,(Option.some.inj h).symm⟩
  ·cases h
 ·rename_i cs _ _ hM
  split at h
  ·rename_i hle;exact⟨cs,.inr ⟨_,_,hM⟩,hle,(Option.some.inj h).symm⟩
  ·cases h
 ·cases h
section
variable {P:Program} {S:St} {M:Mem} {post:St→Mem→Prop} {r:List I} {d:Option Nat}
theorem pe_plain{f:Nat→SV}{k:K}{sv:SV}(h:pe f k=some sv):sv.isBox=false:=by
 cases k<;>simp only[pe]at h
 all_goals first
  |(cases h;done)
  |(simp only[Option.map_eq_some_iff]at h;obtain⟨_,_,rfl⟩:=h;rfl)
  |((repeat' split at h)<;>first|(cases h;done)|(simp only[Option.some.injEq]at h;subst h;rfl)|(simp only[Option.map_eq_some_iff]at h;obtain⟨_,_,rfl⟩:=h;rfl))
theorem pe_float{f:Nat→SV}{k:K}{sv:SV}(h:pe f k=some sv):floatK k=true:=by
 cases k<;>simp only[pe]at h<;>first
  |rfl
  |(cases h;done)
theorem vcK_fe{k:K}{sv:SV}(hf:floatK k=true)(h:FE P S M k sv)(hp:post (if sv.isBox then putB S d sv else put S d sv) M):vcK P k d post S M:=by
 cases k<;>first
  |(cases hf;done)
  |exact⟨sv,h,hp⟩
  |(rename_i ow _;cases ow<;>first|(cases hf;done)|exact⟨sv,h,hp⟩)
  |(rename_i ow _ _ _ _;cases ow<;>first|(cases hf;done)|exact⟨sv,h,hp⟩)
theorem wl_nil(h:post S M):vcL P [] post S M:=h
theorem wl_pure{k:K}{sv:SV}(h:pe S k=some sv)(hp:vcL P r post (put S d sv) M):vcL P (⟨d,none,k⟩::r) post S M:=by
 refine vcK_fe (pe_float h) (.inl h) ?_
 rw[pe_plain h];exact hp
theorem wl_add{x y:Operand}{a b:Int}(hx:ev S x=some (.int .i64 a))(hy:ev S y=some (.int .i64 b))(hb: -9223372036854775808≤a+b∧a+b≤9223372036854775807)
 (hp:vcL P r post (put S d (.v (.int .i64 (a+b)))) M):vcL P (⟨d,none,.bin .add x y⟩::r) post S M:=
 wl_pure (sv:=.v (.int .i64 (a+b))) (by simp only[pe,hx,hy,binV,binI,if_true,Option.map_some,IntWalk.i64_in _ hb]) hp
theorem wl_sub{x y:Operand}{a b:Int}(hx:ev S x=some (.int .i64 a))(hy:ev S y=some (.int .i64 b))(hb: -9223372036854775808≤a-b∧a-b≤9223372036854775807)
 (hp:vcL P r post (put S d (.v (.int .i64 (a-b)))) M):vcL P (⟨d,none,.bin .sub x y⟩::r) post S M:=
 wl_pure (sv:=.v (.int .i64 (a-b))) (by simp only[pe,hx,hy,binV,binI,if_true,Option.map_some,IntWalk.i64_in _ hb]) hp
theorem wl_mul{x y:Operand}{a b:Int}(hx:ev S x=some (.int .i64 a))(hy:ev S y=some (.int .i64 b))(hb: -9223372036854775808≤a*b∧a*b≤9223372036854775807)
 (hp:vcL P r post (put S d (.v (.int .i64 (a*b)))) M):vcL P (⟨d,none,.bin .mul x y⟩::r) post S M:=
 wl_pure (sv:=.v (.int .i64 (a*b))) (by simp only[pe,hx,hy,binV,binI,if_true,Option.map_some,IntWalk.i64_in _ hb]) hp
theorem wl_idx{x y:Operand}{size b o len cap:Nat}{k:IntKind}{i:Int}(hx:ev S x=some (.slice (some ⟨b,o,none⟩) len cap))(hy:ev S y=some (.int k i))(hb:0≤i∧i<len)
 (hp:vcL P r post (put S d (.v (.pointer (some ⟨b,o+i.toNat*size,none⟩)))) M):vcL P (⟨d,none,.iaddr size x y⟩::r) post S M:=
 wl_pure (sv:=.v (.pointer (some ⟨b,o+i.toNat*size,none⟩))) (by simp only[pe,hx,hy];rw[if_pos hb]) hp
theorem wl_ld{n:Nat}{x:Operand}{b o:Nat}{v:Value}(hx:lc S x=some (.mm b o))(hv:cell M b o=some v)(hp:vcL P r post (put S d (.v v)) M):vcL P (⟨d,none,.load true n x⟩::r) post S M:=by
 obtain⟨cs,hM,hc⟩:=cell_row hv
 exact vcK_fe (k:=.load true n x) (sv:=.v v) rfl (.inr ⟨b,o,cs,v,hx,hM,by simp[rdv,hc],rfl⟩) hp
theorem wl_lds{n:Nat}{x:Operand}{b o:Nat}{vs:List Value}(hx:lc S x=some (.mm b o))(hv:cells M b o n=some vs)(hp:vcL P r post (put S d (.v (.agg vs.toArray))) M):vcL P (⟨d,none,.load false n x⟩::r) post S M:=by
 obtain⟨cs,hM,hle,rfl⟩:=cells_row hv
 exact vcK_fe (k:=.load false n x) (sv:=.v (.agg ((cs.drop o).take n).toArray)) rfl (.inr ⟨b,o,cs,_,hx,hM,by simp[rdv,hle],rfl⟩) hp
theorem wl_alloc{z:List Value}(hp:vcL P r post (putB S d (.box z)) M):vcL P (⟨d,none,.alloc true z⟩::r) post S M:=
 vcK_fe (k:=.alloc true z) (sv:=.box z) rfl (.inr rfl) hp
theorem wl_box{x:Operand}{v:Value}{cs:List Value}(hx:ev S x=some v)(hc:v.cells.toList=cs)(hp:vcL P r post (putB S d (.box cs)) M):vcL P (⟨d,none,.box true x⟩::r) post S M:=by
 subst hc
 exact vcK_fe (k:=.box true x) (sv:=.box v.cells.toList) rfl (.inr ⟨v,hx,rfl⟩) hp
theorem wl_bsl{len size:Nat}{z cs:List Value}{ps:List (Nat×Nat×Operand)}(hf:fillP S z ps=some cs)(hp:vcL P r post (putB S d (.bsl cs len)) M):vcL P (⟨d,none,.bslice true len size z ps⟩::r) post S M:=
 vcK_fe (k:=.bslice true len size z ps) (sv:=.bsl cs len) rfl (.inr ⟨cs,hf,rfl⟩) hp
theorem wl_q{g:FuncId}{xs:List Operand}{args:List Value}{v:Value}(hx:evs S xs=some args)(hq:Qt P g args M v)(hp:vcL P r post (put S d (.v v)) M):vcL P (⟨d,none,.qcall g xs⟩::r) post S M:=
 vcK_fe (k:=.qcall g xs) (sv:=.v v) rfl (.inr ⟨args,v,hx,hq,rfl⟩) hp
theorem wl_cq{g:FuncId}{xs:List Operand}{args:List Value}{v:Value}(hx:evs S xs=some args)(hq:Qt P g args M v)(hp:vcL P r post (put S d (.v v)) M):vcL P (⟨d,none,.call g xs⟩::r) post S M:=
 ⟨args,hx,hq.mono fun v' M' ⟨e1,e2⟩=>by subst e1;subst e2;exact hp⟩
theorem wl_stb{n:Nat}{x y:Operand}{s o:Nat}{cs cs':List Value}{v:Value}(hx:lc S x=some (.bx s o))(hb:S s=.box cs)(hy:ev S y=some v)(hn:v.cells.size=n)(hpl:plainCells v.cells.toList=true)(hle:o+n≤cs.length)
 (hw:wr cs o v.cells.toList=cs') (hp:vcL P r post (upF S s (.box cs')) M):vcL P (⟨d,none,.store n x y⟩::r) post S M:=by
 subst hw
 exact⟨v,hy,hn,hpl,.inl ⟨s,o,cs,hx,hb,hle,hp⟩⟩
theorem wl_stm{n:Nat}{x y:Operand}{b o:Nat}{cs:List Value}{v:Value}(hx:lc S x=some (.mm b o))(hb:M b=some (.row cs))(hy:ev S y=some v)(hn:v.cells.size=n)(hpl:plainCells v.cells.toList=true)(hle:o+n≤cs.length)
 (hp:vcL P r post S (M.upd b (.row (wr cs o v.cells.toList)))):vcL P (⟨d,none,.store n x y⟩::r) post S M:=
 ⟨v,hy,hn,hpl,.inr ⟨b,o,cs,hx,hb,hle,hp⟩⟩
theorem wl_gy{s:Nat}{w:Bool}{k:K}{b:Bool}(hs:S s=.v (.bool b))(hb:b=w)(hp:vcL P (⟨d,none,k⟩::r) post S M):vcL P (⟨d,some (s,w),k⟩::r) post S M:=by
 show vcO P _ _ S M
 unfold vcO
 simp only[hs]
 exact⟨fun _=>hp,fun h=>absurd hb h⟩
theorem wl_gn{s:Nat}{w:Bool}{k:K}{b:Bool}(hs:S s=.v (.bool b))(hb:b= !w)(hp:vcL P r post (put S d (.v undef)) M):vcL P (⟨d,some (s,w),k⟩::r) post S M:=by
 show vcO P _ _ S M
 unfold vcO
 simp only[hs]
 refine⟨fun h=>?_,fun _=>hp⟩
 subst h;cases b<;>cases hb
theorem wl_gu{s:Nat}{w:Bool}{k:K}(hs:S s=.v undef)(hp:vcL P r post (put S d (.v undef)) M):vcL P (⟨d,some (s,w),k⟩::r) post S M:=by
 show vcO P _ _ S M
 unfold vcO
 simp only[hs]
 exact hp
theorem upF_self{S:St}{s:Nat}{x:SV}(h:S s=x):upF S s x=S:=by
 funext t
 rw[upF_eq]
 by_cases e:t=s
 ·rw[if_pos e,e,h]
 ·rw[if_neg e]
theorem wl_gs{s:Nat}{w:Bool}{k:K}{b:Bool}(hs:S s=.v (.bool b))(h1:b=true→vcL P (⟨d,some (s,w),k⟩::r) post (upF S s (.v (.bool true))) M)(h2:b=false→vcL P (⟨d,some (s,w),k⟩::r) post (upF S s (.v (.bool false))) M):vcL P (⟨d,some (s,w),k⟩::r) post S M:=by
 cases b
 ·have:=h2 rfl;rwa [upF_self hs]at this
 ·have:=h1 rfl;rwa [upF_self hs]at this
theorem wl_ps{s:Nat}{x y:Operand}{b:Bool}(hs:S s=.v (.bool b))(h1:b=true→vcL P (⟨d,none,.pick (.tmp s) x y⟩::r) post (upF S s (.v (.bool true))) M)(h2:b=false→vcL P (⟨d,none,.pick (.tmp s) x y⟩::r) post (upF S s (.v (.bool false))) M):vcL P (⟨d,none,.pick (.tmp s) x y⟩::r) post S M:=by
 cases b
 ·have:=h2 rfl;rwa [upF_self hs]at this
 ·have:=h1 rfl;rwa [upF_self hs]at this
structure VL (P:Program) (l:List I) (post:St→Mem→Prop) (S:St) (M:Mem):Prop where
 out:vcL P l post S M
theorem vl_nil(h:post S M):VL P [] post S M:=
 ⟨wl_nil h⟩
theorem vl_pure{k:K}{sv:SV}(h:pe S k=some sv)(hp:VL P r post (put S d sv) M):VL P (⟨d,none,k⟩::r) post S M:=
 ⟨wl_pure h hp.out⟩
theorem vl_add{x y:Operand}{a b:Int}(hx:ev S x=some (.int .i64 a))(hy:ev S y=some (.int .i64 b))(hb: -9223372036854775808≤a+b∧a+b≤9223372036854775807)
 (hp:VL P r post (put S d (.v (.int .i64 (a+b)))) M):VL P (⟨d,none,.bin .add x y⟩::r) post S M:=
 ⟨wl_add hx hy hb hp.out⟩
theorem vl_sub{x y:Operand}{a b:Int}(hx:ev S x=some (.int .i64 a))(hy:ev S y=some (.int .i64 b))(hb: -9223372036854775808≤a-b∧a-b≤9223372036854775807)
 (hp:VL P r post (put S d (.v (.int .i64 (a-b)))) M):VL P (⟨d,none,.bin .sub x y⟩::r) post S M:=
 ⟨wl_sub hx hy hb hp.out⟩
theorem vl_mul{x y:Operand}{a b:Int}(hx:ev S x=some (.int .i64 a))(hy:ev S y=some (.int .i64 b))(hb: -9223372036854775808≤a*b∧a*b≤9223372036854775807)
 (hp:VL P r post (put S d (.v (.int .i64 (a*b)))) M):VL P (⟨d,none,.bin .mul x y⟩::r) post S M:=
 ⟨wl_mul hx hy hb hp.out⟩
theorem vl_idx{x y:Operand}{size b o len cap:Nat}{k:IntKind}{i:Int}(hx:ev S x=some (.slice (some ⟨b,o,none⟩) len cap))(hy:ev S y=some (.int k i))(hb:0≤i∧i<len)
 (hp:VL P r post (put S d (.v (.pointer (some ⟨b,o+i.toNat*size,none⟩)))) M):VL P (⟨d,none,.iaddr size x y⟩::r) post S M:=
 ⟨wl_idx hx hy hb hp.out⟩
theorem vl_ld{n:Nat}{x:Operand}{b o:Nat}{v:Value}(hx:lc S x=some (.mm b o))(hv:cell M b o=some v)(hp:VL P r post (put S d (.v v)) M):VL P (⟨d,none,.load true n x⟩::r) post S M:=
 ⟨wl_ld hx hv hp.out⟩
theorem vl_lds{n:Nat}{x:Operand}{b o:Nat}{vs:List Value}(hx:lc S x=some (.mm b o))(hv:cells M b o n=some vs)(hp:VL P r post (put S d (.v (.agg vs.toArray))) M):VL P (⟨d,none,.load false n x⟩::r) post S M:=
 ⟨wl_lds hx hv hp.out⟩
theorem vl_alloc{z:List Value}(hp:VL P r post (putB S d (.box z)) M):VL P (⟨d,none,.alloc true z⟩::r) post S M:=
 ⟨wl_alloc hp.out⟩
theorem vl_box{x:Operand}{v:Value}{cs:List Value}(hx:ev S x=some v)(hc:v.cells.toList=cs)(hp:VL P r post (putB S d (.box cs)) M):VL P (⟨d,none,.box true x⟩::r) post S M:=
 ⟨wl_box hx hc hp.out⟩
theorem vl_bsl{len size:Nat}{z cs:List Value}{ps:List (Nat×Nat×Operand)}(hf:fillP S z ps=some cs)(hp:VL P r post (putB S d (.bsl cs len)) M):VL P (⟨d,none,.bslice true len size z ps⟩::r) post S M:=
 ⟨wl_bsl hf hp.out⟩
theorem vl_q{g:FuncId}{xs:List Operand}{args:List Value}{v:Value}(hx:evs S xs=some args)(hq:Qt P g args M v)(hp:VL P r post (put S d (.v v)) M):VL P (⟨d,none,.qcall g xs⟩::r) post S M:=
 ⟨wl_q hx hq hp.out⟩
theorem vl_cq{g:FuncId}{xs:List Operand}{args:List Value}{v:Value}(hx:evs S xs=some args)(hq:Qt P g args M v)(hp:VL P r post (put S d (.v v)) M):VL P (⟨d,none,.call g xs⟩::r) post S M:=
 ⟨wl_cq hx hq hp.out⟩
theorem vl_stb{n:Nat}{x y:Operand}{s o:Nat}{cs cs':List Value}{v:Value}(hx:lc S x=some (.bx s o))(hb:S s=.box cs)(hy:ev S y=some v)(hn:v.cells.size=n)(hpl:plainCells v.cells.toList=true)(hle:o+n≤cs.length)
 (hw:wr cs o v.cells.toList=cs') (hp:VL P r post (upF S s (.box cs')) M):VL P (⟨d,none,.store n x y⟩::r) post S M:=
 ⟨wl_stb hx hb hy hn hpl hle hw hp.out⟩
theorem vl_stm{n:Nat}{x y:Operand}{b o:Nat}{cs:List Value}{v:Value}(hx:lc S x=some (.mm b o))(hb:M b=some (.row cs))(hy:ev S y=some v)(hn:v.cells.size=n)(hpl:plainCells v.cells.toList=true)(hle:o+n≤cs.length)
 (hp:VL P r post S (M.upd b (.row (wr cs o v.cells.toList)))):VL P (⟨d,none,.store n x y⟩::r) post S M:=
 ⟨wl_stm hx hb hy hn hpl hle hp.out⟩
theorem vl_gy{s:Nat}{w:Bool}{k:K}{b:Bool}(hs:S s=.v (.bool b))(hb:b=w)(hp:VL P (⟨d,none,k⟩::r) post S M):VL P (⟨d,some (s,w),k⟩::r) post S M:=
 ⟨wl_gy hs hb hp.out⟩
theorem vl_gn{s:Nat}{w:Bool}{k:K}{b:Bool}(hs:S s=.v (.bool b))(hb:b= !w)(hp:VL P r post (put S d (.v undef)) M):VL P (⟨d,some (s,w),k⟩::r) post S M:=
 ⟨wl_gn hs hb hp.out⟩
theorem vl_gu{s:Nat}{w:Bool}{k:K}(hs:S s=.v undef)(hp:VL P r post (put S d (.v undef)) M):VL P (⟨d,some (s,w),k⟩::r) post S M:=
 ⟨wl_gu hs hp.out⟩
theorem vl_gs{s:Nat}{w:Bool}{k:K}{b:Bool}(hs:S s=.v (.bool b))(h1:b=true→VL P (⟨d,some (s,w),k⟩::r) post (upF S s (.v (.bool true))) M)(h2:b=false→VL P (⟨d,some (s,w),k⟩::r) post (upF S s (.v (.bool false))) M):VL P (⟨d,some (s,w),k⟩::r) post S M:=
 ⟨wl_gs hs (fun h=>(h1 h).out) (fun h=>(h2 h).out)⟩
theorem vl_ps{s:Nat}{x y:Operand}{b:Bool}(hs:S s=.v (.bool b))(h1:b=true→VL P (⟨d,none,.pick (.tmp s) x y⟩::r) post (upF S s (.v (.bool true))) M)(h2:b=false→VL P (⟨d,none,.pick (.tmp s) x y⟩::r) post (upF S s (.v (.bool false))) M):VL P (⟨d,none,.pick (.tmp s) x y⟩::r) post S M:=
 ⟨wl_ps hs (fun h=>(h1 h).out) (fun h=>(h2 h).out)⟩
end
section
variable {E:Env}
theorem VC.regV{l:List I}{Q:X→St→Mem→Prop}{S:St}{M:Mem}(h:VL E.P l (Q .nrm) S M):VC E (.reg l) Q S M:=VC.reg h.out
theorem VC.dregV{n:Nat}{l:List I}{Q:X→St→Mem→Prop}{S:St}{M:Mem}(h:VL E.P l (Q .nrm) (fun t=>junkD (dsOf l n) (S t)) M):VC E (.dreg n l) Q S M:=VC.dreg h.out
theorem Fn.of'{f:FuncId}{fn:Func}{c:C}{rl:List RV}(hf:E.P.funcs[f]?=some fn)(ht:fn.body.bind (trC E)=some c)(hn:fn.ntmps=E.nt)(hr:fn.results.toList.mapM (trR E.P)=some rl)(hm:E.P.follows .mixedOrders=true)
 {args:List Value} {M:Mem} {post:Value→Mem→Prop} (hl:args.length≤E.nt) (h:VC E c (fnQ rl post) (initS args E.nt) M):Fn E.P f args M post:=by
 rw[Option.bind_eq_some_iff]at ht
 obtain⟨code,hb,ht⟩:=ht
 exact Fn.of hf hb hn ht hr hm hl h
theorem fnQ_r{rl:List RV}{S:St}{M M':Mem}{v:Value}{post:Value→Mem→Prop}(h:resV S M rl=some v)(hM:M'.le M)(hp:post v M'):fnQ rl post .ret S M:=⟨v,M',h,hM,hp⟩
structure SetK (cs:List Value) (n:Nat) (v:Value) (K:List Value→Prop):Prop where
 out:K (cs.set n v)
theorem sk_zero{x v:Value}{r:List Value}{K:List Value→Prop}(h:K (v::r)):SetK (x::r) 0 v K:=⟨h⟩
theorem sk_succ{x v:Value}{r:List Value}{n:Nat}{K:List Value→Prop}(h:SetK r n v (fun r'=>K (x::r'))):SetK (x::r) (n+1) v K:=⟨h.out⟩
structure WrK (cs:List Value) (o:Nat) (vs:List Value) (K:List Value→Prop):Prop where
 out:K (wr cs o vs)
theorem wk_nil{cs:List Value}{o:Nat}{K:List Value→Prop}(h:K cs):WrK cs o [] K:=⟨h⟩
theorem wk_cons{cs r:List Value}{x:Value}{o:Nat}{K:List Value→Prop}(h:SetK cs o x (fun c=>WrK c (o+1) r K)):WrK cs o (x::r) K:=⟨h.out.out⟩
theorem vl_stw{P:Program}{S:St}{M:Mem}{post:St→Mem→Prop}{r:List I}{d:Option Nat}{n:Nat}{x y:Operand}{s o:Nat}{cs:List Value}{v:Value}(hx:lc S x=some (.bx s o))(hb:S s=.box cs)(hy:ev S y=some v)(hn:v.cells.size=n)(hpl:plainCells v.cells.toList=true)(hle:o+n≤cs.length)
 (hw:WrK cs o v.cells.toList (fun cs'=>VL P r post (upF S s (.box cs')) M)):VL P (⟨d,none,.store n x y⟩::r) post S M:=
 vl_stb hx hb hy hn hpl hle rfl hw.out
theorem seqQ_n{K:St→Mem→Prop}{Q:X→St→Mem→Prop}{S:St}{M:Mem}(h:K S M):seqQ K Q .nrm S M:=h
theorem seqQ_r{K:St→Mem→Prop}{Q:X→St→Mem→Prop}{S:St}{M:Mem}(h:Q .ret S M):seqQ K Q .ret S M:=h
theorem seqQ_e{K:St→Mem→Prop}{Q:X→St→Mem→Prop}{S:St}{M:Mem}{i:Nat}(h:Q (.ext i) S M):seqQ K Q (.ext i) S M:=h
theorem blkQ_n{Q:X→St→Mem→Prop}{S:St}{M:Mem}{id:Nat}(h:Q .nrm S M):blkQ id Q .nrm S M:=h
theorem blkQ_r{Q:X→St→Mem→Prop}{S:St}{M:Mem}{id:Nat}(h:Q .ret S M):blkQ id Q .ret S M:=h
theorem blkQ_e{Q:X→St→Mem→Prop}{S:St}{M:Mem}{id:Nat}(h:Q .nrm S M):blkQ id Q (.ext id) S M:=by
 unfold blkQ;simp only[if_true];exact h
theorem blkQ_o{Q:X→St→Mem→Prop}{S:St}{M:Mem}{id i:Nat}(hi:Nat.beq i id=false)(h:Q (.ext i) S M):blkQ id Q (.ext i) S M:=by
 have e:i≠id:=fun e=>by subst e;simp at hi
 unfold blkQ;simp only[if_neg e];exact h
theorem q_end{v r:Value}{M:Mem}(h:v=r):v=r∧M=M:=⟨h,rfl⟩
end
structure Word where
 kind:Int
 num:Int
 at_:Int
structure Pair where
 key:Word
 val:Word
structure Cell where
 state:Int
 kind:Int
 weak:Int
 last:Int
 born:Int
 color:Int
 to:Int
 pairs:List Pair
structure Heap where
 room:Int
 used:Int
 born:Int
 regs:List Word
 cells:List Cell
 phase:Int
 hand:Int
 sub:Int
 gray:List Int
 per:Int
 start:Int
 rounds:Int
 forced:Int
structure Act where
 op:Int
 a:Int
 b:Int
 c:Int
 n:Int
def av(a:Act):List Value:=[.int .i64 a.op,.int .i64 a.a,.int .i64 a.b,.int .i64 a.c,.int .i64 a.n]
def wv(w:Word):List Value:=[.int .i64 w.kind,.int .i64 w.num,.int .i64 w.at_]
def pv(p:Pair):List Value:=[.int .i64 p.key.kind,.int .i64 p.key.num,.int .i64 p.key.at_,.int .i64 p.val.kind,.int .i64 p.val.num,.int .i64 p.val.at_]
def cv(c:Cell)(sa:Option Addr)(cap:Nat):List Value:=[.int .i64 c.state,.int .i64 c.kind,.int .i64 c.weak,.int .i64 c.last,.int .i64 c.born,.int .i64 c.color,.int .i64 c.to,.slice sa c.pairs.length cap]
def hv(H:Heap)(rs cs gs:Value):List Value:=[.int .i64 H.room,.int .i64 H.used,.int .i64 H.born,rs,cs,.int .i64 H.phase,.int .i64 H.hand,.int .i64 H.sub,gs,.int .i64 H.per,.int .i64 H.start,.int .i64 H.rounds,.int .i64 H.forced]
def iv(n:Int):List Value:=[.int .i64 n]
def bv(b:Bool):List Value:=[.bool b]
def Sl(M:Mem)(size:Nat){α:Type}(f:α→List Value)(v:Value)(xs:List α):Prop:=
 (∃c,v=.slice none 0 c∧c=0∧xs=[])∨
 ∃b o cap row,v=.slice (some ⟨b,o,none⟩) xs.length cap∧M b=some (.row row)∧xs.length≤cap∧xs.length≤140737488355328∧o+cap*size≤row.length∧(row.drop o).take (xs.length*size)=xs.flatMap f
theorem flat_get{α:Type}{f:α→List Value}{size:Nat}(hs:∀x,(f x).length=size):∀(xs:List α) (i:Nat) (x:α),xs[i]?=some x→((xs.flatMap f).drop (i*size)).take size=f x
 |[],i,x,h=>by simp at h
 |y::r,0,x,h=>by
  simp only[List.getElem?_cons_zero,Option.some.injEq]at h
  subst h
  simp only[Nat.zero_mul,List.drop_zero,List.flatMap_cons]
  rw[List.take_append_of_le_length (by rw[hs];exact Nat.le_refl _)]
  rw[←hs y,List.take_length]
 |y::r,i+1,x,h=>by
  simp only[List.getElem?_cons_succ]at h
  rw[List.flatMap_cons,Nat.succ_mul,Nat.add_comm,←List.drop_drop]
  have:(f y++List.flatMap f r).drop size=List.flatMap f r:=by rw[←hs y,List.drop_left]
  rw[this]
  exact flat_get hs r i x h
section
variable {M M':Mem} {α:Type} {f:α→List Value} {size:Nat} {v:Value} {xs:List α}
theorem Sl.len(h:Sl M size f v xs):∃a cap,v=.slice a xs.length cap:=by
 rcases h with⟨c,rfl,rfl,rfl⟩|⟨b,o,cap,row,rfl,_⟩
 ·exact⟨none,0,rfl⟩
 ·exact⟨_,cap,rfl⟩
theorem Sl.le(h:Sl M size f v xs)(l:M.le M'):Sl M' size f v xs:=by
 rcases h with h|⟨b,o,cap,row,h1,h2,h3⟩
 ·exact .inl h
 ·exact .inr ⟨b,o,cap,row,h1,l _ _ h2,h3⟩
theorem Sl.at(hs:∀x,(f x).length=size)(h:Sl M size f v xs){i:Int}(h0:0≤i)(h1:i<xs.length){x:α}(hx:xs[i.toNat]?=some x):
 ∃b o cap,v=.slice (some ⟨b,o,none⟩) xs.length cap∧cells M b (o+i.toNat*size) size=some (f x):=by
 rcases h with⟨c,rfl,rfl,rfl⟩|⟨b,o,cap,row,rfl,hM,hc,_,hr,he⟩
 ·simp at h1;omega
 ·refine⟨b,o,cap,rfl,?_⟩
  have hi:i.toNat<xs.length:=by omega
  have hmul:(i.toNat+1)*size≤cap*size:=Nat.mul_le_mul_right _ (by omega)
  rw[Nat.succ_mul]at hmul
  unfold cells
  rw[hM]
  simp only
  rw[if_pos (by omega)]
  congr 1
  rw[←flat_get hs xs i.toNat x hx,←he,←List.drop_drop,List.drop_take,List.take_take]
  congr 1
  have hmul2:(i.toNat+1)*size≤xs.length*size:=Nat.mul_le_mul_right _ (by omega)
  rw[Nat.succ_mul]at hmul2
  omega
end
theorem cells_cell{M:Mem}{b o n:Nat}{vs:List Value}(h:cells M b o n=some vs){j:Nat}{v:Value}(hj:vs[j]?=some v):cell M b (o+j)=some v:=by
 obtain⟨cs,hM,hle,rfl⟩:=cells_row h
 unfold cell
 rw[List.getElem?_take]at hj
 split at hj
 ·rw[List.getElem?_drop]at hj
  rcases hM with hM|⟨_,_,hM⟩<;>rw[hM]<;>exact hj
 ·cases hj
theorem row_cell{M:Mem}{b:Nat}{cs:List Value}(h:M b=some (.row cs))(j:Nat):cell M b j=cs[j]?:=by
 unfold cell;rw[h]
structure CS where
 c:Cell
 sa:Option Addr
 cap:Nat
def CS.s(x:CS):Value:=.slice x.sa x.c.pairs.length x.cap
def csv(x:CS):List Value:=cv x.c x.sa x.cap
structure RH (M:Mem) (a:Nat) (H:Heap):Prop where
 out:∃rs cs gs,∃(xs:List CS),M a=some (.row (hv H rs cs gs))∧Sl M 3 wv rs H.regs∧Sl M 8 csv cs xs∧xs.map (·.c)=H.cells∧Sl M 1 iv gs H.gray∧∀x,x∈xs→Sl M 6 pv x.s x.c.pairs
theorem RH.le{M M':Mem}{a:Nat}{H:Heap}(h:RH M a H)(l:M.le M'):RH M' a H:=by
 obtain⟨rs,cs,gs,xs,h1,h2,h3,h4,h5,h6⟩:=h.out
 exact⟨rs,cs,gs,xs,l _ _ h1,h2.le l,h3.le l,h4,h5.le l,fun x hx=>(h6 x hx).le l⟩
def Heap.getC(H:Heap)(i:Int):Cell:=H.cells.getD i.toNat ⟨0,0,0,0,0,0,0,[]⟩
end Go.Proofs.YtcjmodomfilagaaDoor.E
