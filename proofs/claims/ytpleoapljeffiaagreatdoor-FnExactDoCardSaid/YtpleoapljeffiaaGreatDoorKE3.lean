/- A part of the proof. Conditions: none. -/
import Derived.Test.YtpleoapljeffiaaGreatDoorKE2
import Derived.OrdersHeld
set_option linter.unusedVariables false
set_option linter.unusedSimpArgs false
namespace Go.Proofs.YtpleoapljeffiaaGreatDoor.E
open Go
section
variable {P:Program} {W0:World} {M0 M M':Mem} {β:Nat→Nat} {S:St} {f g f0:Nat→SV} {n nt:Nat} {a:Act} {w w':World} {own:List Nat} {ops:Array Oper} {l:List I} {rs rs':Nat→SV} {ls ls':Nat→Bool}
theorem getD_true_false{listed:Array Bool}{i:Nat}(hi:i<listed.size):listed.getD i true=listed.getD i false:=by simp[hi]
theorem listed_set{listed:Array Bool}{i j:Nat}(hi:i<listed.size):(listed.setIfInBounds i true).getD j false=(listed.getD j false||j==i):=by
 by_cases e:j=i
 ·subst e;simp[hi]
 ·rw[getD_set_ne false (Ne.symm e)]
  have:(j==i)=false:=by simpa using e
  rw[this];simp
theorem chain_any(hD:DC ops l n){q:Nat}(htr:trL P own nt ops q ops.toList=some l){Q:Exit→Act→World→Prop}{post:St→Mem→Prop}
 (hK:∀S' M' a' w' β',post S' M'→RepF W0 M0 β' S' nt M' a' w'→Q .normal a' w'):
 ∀(m t:Nat) (listed:Array Bool) (S:St) (M:Mem) (β:Nat→Nat) (a:Act) (w:World),ops.size-t=m→n≤t→t≤ops.size→listed.size=ops.size→(∀j,j<ops.size→listed.getD j false=decide (j<t))→
  vcL P (l.drop t) post S M→RepF W0 M0 β S nt M a w→wpAny P .any ops Q m listed a w:=by
 have hlen:l.length=ops.size:=by rw[trL_len htr];simp
 have hunl:∀{listed:Array Bool} {t j:Nat},listed.size=ops.size→(∀j,j<ops.size→listed.getD j false=decide (j<t))→j∈Region.ready .any ops listed→j<ops.size∧¬j<t:=by
  intro listed t j hsz hl hj
  obtain⟨h0,o,ho,_⟩:=mem_ready.1 hj
  have hjs:j<ops.size:=(Array.getElem?_eq_some_iff.1 ho).1
  refine⟨hjs,fun h=>?_⟩
  rw[getD_true_false (by omega),hl j hjs]at h0
  simp[h]at h0
 intro m
 induction m with
 |zero=>
  intro t listed S M β a w hm hn ht hsz hl hv hR
  have hte:t=ops.size:=by omega
  subst hte
  have hr:Region.ready .any ops listed=[]:=by
   apply List.eq_nil_iff_forall_not_mem.2
   intro j hj
   have:=hunl hsz hl hj;omega
  refine⟨hr,?_⟩
  rw[show l.drop ops.size=[]from List.drop_eq_nil_of_le (by omega)]at hv
  exact hK _ _ _ _ β hv hR
 |succ m ih=>
  intro t listed S M β a w hm hn ht hsz hl hv hR
  have hts:t<ops.size:=by omega
  obtain⟨o,ho⟩:∃o,ops[t]?=some o:=⟨_,Array.getElem?_eq_getElem hts⟩
  have hready:t∈Region.ready .any ops listed:=by
   refine mem_ready.2 ⟨by rw[getD_true_false (by omega),hl t hts];simp,o,ho,fun e he hb=>?_⟩
   have:=hD.h5 t o ho e he hb
   rw[hl e.on (by omega)];simpa using this
  refine⟨fun h=>(by rw[h]at hready;cases hready),fun i hi=>?_⟩
  have hit:i=t:=by
   obtain⟨h1,h2⟩:=hunl hsz hl hi
   by_cases e:i=t
   ·exact e
   ·exfalso
    have hgt:t<i:=by omega
    have hne:n≠ops.size:=by omega
    rcases hD.h6 with h|⟨_,_,hc⟩
    ·exact hne h
    ·have h1:=List.all_eq_true.1 hc i (List.mem_range.2 (by omega))
     simp only[Bool.or_eq_true,decide_eq_true_eq]at h1
     rcases h1 with h1|h1
     ·omega
     ·obtain⟨h0,o',ho',hall⟩:=mem_ready.1 hi
      obtain⟨e',he',hb',hon⟩:=waits_spec ho' h1
      have:=hall e' he' hb'
      rw[hon,hl (i-1) (by omega)]at this
      simp at this;omega
  subst hit
  have hdr:l.drop i=l[i]'(by omega)::l.drop (i+1):=List.drop_eq_getElem_cons (by omega)
  rw[hdr]at hv
  obtain⟨x,hx,htx⟩:=trL_get htr i o (by rw[Array.getElem?_toList];exact ho)
  have hxe:l[i]'(by omega)=x:=by
   have:=List.getElem?_eq_getElem (l:=l) (i:=i) (by omega)
   rw[hx]at this;exact(Option.some.inj this).symm
  rw[hxe]at hv
  have hstep:=vcO_sound (Q:=Q) (K:=wpAny P .any ops Q m (listed.setIfInBounds i true)) hR htx hv (fun S' M' a' w' β' hp hr=>by
   refine ih (i+1) (listed.setIfInBounds i true) S' M' β' a' w' (by omega) (by omega) (by omega) (by simpa using hsz) ?_ hp hr
   intro j hj
   rw[listed_set (by omega),hl j hj]
   by_cases e:j=i
   ·subst e;simp
   ·have:(j==i)=false:=by simpa using e
    rw[this]
    by_cases h1:j<i
    ·simp[h1,show j<i+1 by omega]
    ·simp[h1,show ¬j<i+1 by omega])
  unfold wpOp
  rw[ho]
  simp only
  split
  ·rename_i hw;rw[if_pos hw]at hstep;exact .inl hstep
  ·rename_i hw;rw[if_neg hw]at hstep;exact hstep
theorem least_mem:∀{U:List Nat},U≠[]→∃i,i∈U∧∀j,j∈U→i≤j
 |[],h=>absurd rfl h
 |[x],_=>⟨x,by simp,fun j hj=>by simp at hj;omega⟩
 |x::y::r,_=>by
  obtain⟨i,hi,hm⟩:=least_mem (U:=y::r) (by simp)
  by_cases h:x≤i
  ·exact⟨x,by simp,fun j hj=>by
    rcases List.mem_cons.1 hj with h'|h'
    ·omega
    ·have:=hm j h';omega⟩
  ·exact⟨i,List.mem_cons_of_mem _ hi,fun j hj=>by
    rcases List.mem_cons.1 hj with h'|h'
    ·omega
    ·exact hm j h'⟩
theorem tail_waits'(hc:Region.chainB .any ops n=true){listed:Array Bool}(inv:HeadInv .any ops n listed):
 ∀(d i:Nat),n-i=d→i<n→listed.getD i false=false→(∀i,i<n→listed.getD i false=false→waitedB ops n i=true)→∀t,n≤t→t∈Region.ready .any ops listed→False:=by
 intro d
 induction d using Nat.strongRecOn with
 |_ d ih=>
  intro i hd hi hun hw t ht hr
  obtain⟨_,o,ho,hall⟩:=mem_ready.1 hr
  have hts:t<ops.size:=(Array.getElem?_eq_some_iff.1 ho).1
  rcases Nat.lt_or_ge n t with h|h
  ·have h1:=List.all_eq_true.1 hc t (List.mem_range.2 hts)
   simp only[Bool.or_eq_true,decide_eq_true_eq]at h1
   rcases h1 with h1|h1
   ·omega
   ·obtain⟨e,he,hb,hon⟩:=waits_spec ho h1
    have h2:=hall e he hb
    rw[hon,getD_both (inv.tail (t-1) (by omega) (by omega))]at h2
    cases h2
  ·have htn:t=n:=by omega
   subst htn
   obtain⟨j,hj,h2⟩:=List.any_eq_true.1 (hw i hi hun)
   simp only[Bool.and_eq_true,decide_eq_true_eq]at h2
   have hjt:=List.mem_range.1 hj
   by_cases e:j=t
   ·subst e
    obtain⟨e',he,hb,hon⟩:=waits_spec ho h2.2
    have h3:=hall e' he hb
    rw[hon,hun]at h3
    cases h3
   ·cases hl:listed.getD j false with
    |false=>exact ih (t-j) (by omega) j rfl (by omega) hl hw t ht hr
    |true=>
     obtain⟨oj,hoj,_⟩:=Region.waitsFor_spec h2.2
     obtain⟨e',he,hb,hon⟩:=waits_spec hoj h2.2
     have h3:=inv.closed j oj hoj hl e' he hb
     rw[hon,hun]at h3
     cases h3
theorem statB_spec{i:Nat}(h:statB ops i=true):∃o x,ops[i]?=some o∧o.op=.move x∧o.guard=none∧(∀e∈o.after,Region.binds .any e=true→False)∧Region.free .any ops (Array.replicate ops.size false) i=true∧Region.noSelect ops=true:=by
 unfold statB at h
 simp only[Bool.and_eq_true]at h
 obtain⟨⟨h1,h2⟩,h3⟩:=h
 split at h1
 ·rename_i o ho
  simp only[Bool.and_eq_true,Option.isNone_iff_eq_none]at h1
  obtain⟨⟨g1,g2⟩,g3⟩:=h1
  split at g3
  ·rename_i x hx
   refine⟨o,x,ho,hx,g1,fun e he hb=>?_,h2,h3⟩
   have:=Array.all_eq_true_iff_forall_mem.1 g2 e he
   rw[hb]at this;cases this
  ·cases g3
 ·cases h1
theorem take_all(hD:DC ops l n)(hnl:n≤ops.size)(htr:trL P own nt ops n ops.toList=some l)(hL:Lex P l n S M n rs){Q:Exit→Act→World→Prop}(hQ:∀c a w,¬Q (.panic c) a w){fuel:Nat}:
 ∀(zs:List Nat) (listed:Array Bool) (a:Act) (w:World) (β:Nat→Nat),zs.Nodup→(∀z,z∈zs→z<n∧statB ops z=true∧listed.getD z false=false)→HeadInv .any ops n listed→
  RepF W0 M0 β (Gs l n rs S (fun j=>listed.getD j false)) nt M a w→
  (∀listed' a',HeadInv .any ops n listed'→(∀i,listed'.getD i false=(listed.getD i false||zs.contains i))→RepF W0 M0 β (Gs l n rs S (fun j=>listed'.getD j false)) nt M a' w→wpAny P .any ops Q fuel listed' a' w)→
  wpAny P .any ops Q (fuel+zs.length) listed a w:=by
 intro zs
 induction zs with
 |nil=>intro listed a w β _ _ inv hR hk;exact hk listed a inv (fun i=>by simp) hR
 |cons z r ih=>
  intro listed a w β hnd hz inv hR hk
  obtain⟨hzn,hzs,hzu⟩:=hz z (by simp)
  obtain⟨o,y,ho,hop,hg,hno,hfree,hsel⟩:=statB_spec hzs
  have hzsz:z<ops.size:=by omega
  have hzl:z<listed.size:=by rw[inv.size];exact hzsz
  obtain⟨x,d,hx,hfl,hd⟩:=hD.h1 z hzn
  obtain⟨x',hx',htx⟩:=trL_get htr z o (by rw[Array.getElem?_toList];exact ho)
  have hxx:x'=x:=by rw[hx]at hx';exact(Option.some.inj hx').symm
  subst hxx
  obtain⟨ow,hk1,hk2,hk3,hk4,hk5⟩:=trI_some htx
  rw[hop]at hk1
  simp only[trK,Option.some.injEq]at hk1
  have hxg:x'.g=none:=by
   rcases hk5 with⟨_,h⟩|⟨j,wt,s,h,_⟩
   ·exact h
   ·rw[hg]at h;cases h
  obtain⟨x2,hx2,hfo⟩:=hL.fo z hzn
  have hxx2:x2=x':=by rw[hx]at hx2;exact(Option.some.inj hx2).symm
  subst hxx2
  unfold FO at hfo
  rw[hxg,←hk1]at hfo
  have hnd':∀t,t∈slotsAt l z→∀j,j<n→dOf l j≠some t:=by
   intro t ht j hj he
   obtain⟨_,hw⟩:=hD.h3 z hzn t ht j hj he
   obtain⟨e,he,hb,_⟩:=waits_spec ho hw
   exact hno e he hb
  have hslot:∀t,y=.tmp t→t∈slotsAt l z:=by
   intro t e
   unfold slotsAt
   rw[hx]
   simp only[I.slots,hxg,←hk1,e,K.ops,tmpsOf,List.nil_append,List.mem_singleton]
  have hev:∀ls:Nat→Bool,ev (Gs l n rs S ls) y=ev S y:=by
   intro ls
   cases y with
   |tmp t=>
    simp only[ev]
    rw[Gs_miss (rs:=rs) (f0:=S) (ls:=ls) (t:=t) (fun i hi _=>hnd' t (hslot t rfl) i hi)]
   |_=>rfl
  obtain⟨v,hv,hrs⟩:∃v,ev S y=some v∧rs z=.v v:=by
   rcases hfo with h|h
   ·simp only[pe,hev,Option.map_eq_some_iff]at h
    obtain⟨v,h1,h2⟩:=h
    exact⟨v,h1,h2.symm⟩
   ·exact h.elim
  have hae:a.eval y=v:=hR.ev (by rw[hev];exact hv)
  have hready:z∈Region.ready .any ops listed:=by
   refine mem_ready.2 ⟨by rw[getD_true_false hzl];exact hzu,o,ho,fun e he hb=>(hno e he hb).elim⟩
  have hdst:o.dst=some d:=by rw[←hk2];exact hd
  have hdo:dOf l z=some d:=by unfold dOf;rw[hx];exact hd
  have hlt:d<nt:=hk4 d hdst
  rw[List.length_cons,←Nat.add_assoc]
  refine wpAny_first (v:=v) ho (Region.noSelect_spec hsel) (fun c a w h=>(hQ _ _ _ h).elim) (fuel+r.length) listed a w (fun j oj hj hne hun hnn=>Region.free_spec ho hfree j oj hj hne ?_ hnn) hready
   (.inl ⟨by unfold Region.wanted;rw[hg],fun w=>by rw[←hae];simp[execOp,hop]⟩) ?_
  ·rw[getD_true_false (by simp;exact(Array.getElem?_eq_some_iff.1 hj).1)];exact getD_replicate_false _ _
  ·have hstep:Gs l n rs S (fun j=>(listed.setIfInBounds z true).getD j false)=upF (Gs l n rs S (fun j=>listed.getD j false)) d (.v v):=by
    rw[←hrs]
    exact Gs_step hD hzn hdo hzu (fun j=>listed_set hzl) (fun _ _ _=>rfl)
   refine ih _ _ w β (List.nodup_cons.1 hnd).2 (fun z' hz'=>?_) (inv.set hready hzn) ?_ ?_
   ·obtain⟨h1,h2,h3⟩:=hz z' (List.mem_cons_of_mem _ hz')
    refine⟨h1,h2,?_⟩
    rw[listed_set hzl,h3]
    have:z'≠z:=fun e=>(List.nodup_cons.1 hnd).1 (by rw[←e];exact hz')
    simpa using this
   ·rw[hstep,hdst]
    exact hR.put hlt rfl
   ·intro listed' a' inv' hl' hR'
    refine hk listed' a' inv' (fun i=>?_) hR'
    rw[hl' i,listed_set hzl,List.contains_cons,Bool.or_assoc]
theorem float_any{Z:List Nat}(hD:DC ops l n)(hnl:n≤ops.size)(htr:trL P own nt ops n ops.toList=some l)(hn0:∀t s o,S t=.bp s o→¬inD l n s)(hL:Lex P l n S M n rs){Q:Exit→Act→World→Prop}
 (hw0:n=ops.size∨∀i,i<n→waitedB ops n i=true∨Z.contains i=true) (htail:∀(listed:Array Bool) (a:Act) (w:World) (β:Nat→Nat),listed.size=ops.size→(∀j,j<ops.size→listed.getD j false=decide (j<n))→RepF W0 M0 β (Gs l n rs S (fun j=>decide (j<n))) nt M a w→wpAny P .any ops Q (ops.size-n) listed a w):
 ∀(m:Nat) (U:List Nat) (listed:Array Bool) (a:Act) (w:World) (β:Nat→Nat),U.length=m→U.Nodup→(∀i,Z.contains i=true→listed.getD i false=true)→(∀i,i∈U↔i<n∧listed.getD i false=false)→HeadInv .any ops n listed→
  RepF W0 M0 β (Gs l n rs S (fun j=>listed.getD j false)) nt M a w→wpAny P .any ops Q (m+(ops.size-n)) listed a w:=by
 intro m
 induction m with
 |zero=>
  intro U listed a w β hU hnd hZ hmem inv hR
  rw[Nat.zero_add]
  have hU0:U=[]:=List.eq_nil_of_length_eq_zero hU
  subst hU0
  have hall:∀j,j<n→listed.getD j false=true:=by
   intro j hj
   cases h:listed.getD j false with
   |true=>rfl
   |false=>have:=(hmem j).2 ⟨hj,h⟩;cases this
  refine htail listed a w β inv.size (fun j hj=>?_) ?_
  ·by_cases h:j<n
   ·rw[hall j h];simp[h]
   ·have:=inv.tail j (by omega)
    rcases Nat.lt_or_ge j ops.size with h'|h'
    ·have:=inv.tail j (by omega) h'
     rw[getD_true_false (by rw[inv.size];omega)]at this
     rw[this];simp[h]
    ·omega
  ·have:Gs l n rs S (fun j=>listed.getD j false)=Gs l n rs S (fun j=>decide (j<n)):=by
    funext t
    rcases Gs_cases (rs:=rs) (f0:=S) (ls:=fun j=>listed.getD j false) hD t with⟨j,a1,a2,a3,a4⟩|⟨a1,a2⟩
    ·rw[a4,Gs_hit hD a1 (by simpa using a1) a3]
    ·rw[a2]
     exact(Gs_miss fun j hj _ hd=>a1 j hj (hall j hj) hd).symm
   rw[this]at hR
   exact hR
 |succ m ih=>
  intro U listed a w β hU hnd hZ hmem inv hR
  rw[Nat.add_right_comm]
  have hUne:U≠[]:=by intro h;subst h;cases hU
  --some one is ready
  obtain⟨i0,hi0,hleast⟩:=least_mem hUne
  obtain⟨hi0n,hi0u⟩:=(hmem i0).1 hi0
  have hi0s:i0<ops.size:=by omega
  have hready0:i0∈Region.ready .any ops listed:=by
   obtain⟨o,ho⟩:∃o,ops[i0]?=some o:=⟨_,Array.getElem?_eq_getElem hi0s⟩
   refine mem_ready.2 ⟨by rw[getD_true_false (by rw[inv.size];omega)];exact hi0u,o,ho,fun e he hb=>?_⟩
   have hlt:=hD.h5 i0 o ho e he hb
   cases hle:listed.getD e.on false with
   |true=>rfl
   |false=>
    have:=hleast e.on ((hmem e.on).2 ⟨by omega,hle⟩)
    omega
  refine⟨fun h=>(by rw[h]at hready0;cases hready0),fun i hi=>?_⟩
  obtain⟨hun,o,ho,hall⟩:=mem_ready.1 hi
  have his:i<ops.size:=(Array.getElem?_eq_some_iff.1 ho).1
  have hin:i<n:=by
   rcases hD.h6 with h|⟨hn,hs,hc⟩
   ·omega
   ·rcases Nat.lt_or_ge i n with h|h
    ·exact h
    ·exact(tail_waits' hc inv _ i0 rfl hi0n hi0u (fun i hi hu=>by
      rcases hw0 with h0|h0
      ·omega
      ·rcases h0 i hi with h'|h'
       ·exact h'
       ·rw[hZ i h']at hu;cases hu) i h hi).elim
  rw[getD_true_false (by rw[inv.size];omega)]at hun
  obtain⟨x,hx,htx⟩:=trL_get htr i o (by rw[Array.getElem?_toList];exact ho)
  refine float_step (ls:=fun j=>listed.getD j false) hD hn0 hL hin ho hx htx hun (fun j hj hw=>?_) hR ?_
  ·obtain⟨e,he,hb,hon⟩:=waits_spec ho hw
   have:=hall e he hb
   rw[hon]at this;exact this
  ·intro a' w' β' hR'
   have hiU:i∈U:=(hmem i).2 ⟨hin,hun⟩
   refine ih (U.erase i) (listed.setIfInBounds i true) a' w' β' ?_ (hnd.erase i) (fun j hj=>by rw[listed_set (by rw[inv.size];omega),hZ j hj];rfl) ?_ (inv.set hi hin) ?_
   ·rw[List.length_erase_of_mem hiU];omega
   ·intro j
    rw[hnd.mem_erase_iff,hmem j,listed_set (by rw[inv.size];omega)]
    constructor
    ·rintro⟨h1,h2,h3⟩
     refine⟨h2,?_⟩
     rw[h3];simpa using h1
    ·rintro⟨h1,h2⟩
     simp only[Bool.or_eq_false_iff,beq_eq_false_iff_ne,ne_eq]at h2
     exact⟨h2.2,h1,h2.1⟩
   ·have:(fun j=>(listed.setIfInBounds i true).getD j false)=fun j=>(listed.getD j false||j==i):=by
     funext j;exact listed_set (by rw[inv.size];omega)
    rw[this];exact hR'
theorem draw_sound{id:Nat}(hm:P.follows .mixedOrders=true)(htr:trL P own nt ops n ops.toList=some l)(hB:drawB ops l n=true){Q:Exit→Act→World→Prop}(hQ:∀c a w,¬Q (.panic c) a w){post:St→Mem→Prop}
 (hR:RepF W0 M0 β S nt M a w) (h:vcL P l post (fun t=>junkD (dsOf l n) (S t)) M)
 (hK:∀S' M' a' w' β',post S' M'→RepF W0 M0 β' S' nt M' a' w'→Q .normal a' w'):(Code.region id ops true).wp P Q a w:=by
 have hD:=DC.of hB
 have hlen:l.length=ops.size:=by rw[trL_len htr];simp
 have hnl:n≤ops.size:=by rcases hD.h6 with h|h<;>omega
 have hn0:∀t s o,(fun t=>junkD (dsOf l n) (S t)) t=.bp s o→¬inD l n s:=fun t s o e=>junkD_spec e
 have hRj:=hR.weak (junkD_le (dsOf l n) S)
 generalize(fun t=>junkD (dsOf l n) (S t))=S0 at h hn0 hRj
 obtain⟨rs,S1,hL,hv,hg⟩:=lex_of hD hlen hn0 h n (Nat.le_refl n)
 have hR1:RepF W0 M0 β S0 nt M a {w with drawn:=w.drawn+1}:=hRj.step (M':=M) (w':={w with drawn:=w.drawn+1}) (fun b k e=>(hR.sat b k e).of_eq rfl) ⟨rfl,rfl,rfl,Nat.le_refl _,fun _ _ _=>rfl,fun _ h=>.inl h⟩
 refine wp_region_any hm ?_
 have hinit:∀j,(Array.replicate ops.size false).getD j false=false:=fun j=>getD_replicate_false _ j
 have hG0:Gs l n rs S0 (fun j=>(Array.replicate ops.size false).getD j false)=S0:=by
  funext t
  exact Gs_miss fun i _ hi=>by rw[hinit]at hi;cases hi
 --the copies that nothing waits for
 obtain⟨Z,hZ1,hZ2,hZ3,hZ4⟩:∃Z:List Nat,Z.Nodup∧(∀z,z∈Z→z<n∧statB ops z=true)∧(n=ops.size∨∀i,i<n→waitedB ops n i=true∨Z.contains i=true)∧Z.length+((List.range n).filter fun i=> !Z.contains i).length=n:=by
  rcases hD.h6 with h|⟨_,h,_⟩
  ·exact⟨[],by simp,by simp,.inl h,by rw[show((List.range n).filter fun i=> !([]:List Nat).contains i)=List.range n from List.filter_eq_self.2 (fun _ _=>rfl)];simp⟩
  ·refine⟨(List.range n).filter fun i=> !waitedB ops n i,List.nodup_range.filter _,fun z hz=>?_,.inr fun i hi=>?_,?_⟩
   ·rw[List.mem_filter]at hz
    have hzn:=List.mem_range.1 hz.1
    rcases h z hzn with h'|h'
    ·simp[h']at hz
    ·exact⟨hzn,h'⟩
   ·cases hw:waitedB ops n i with
    |true=>exact .inl rfl
    |false=>right;simp[hi,hw]
   ·have e:(List.range n).filter (fun i=> !((List.range n).filter fun i=> !waitedB ops n i).contains i)=(List.range n).filter fun i=>waitedB ops n i:=by
     apply List.filter_congr
     intro i hi
     have hin:=List.mem_range.1 hi
     cases hw:waitedB ops n i<;>simp[hw,hin]
    rw[e,←List.countP_eq_length_filter,←List.countP_eq_length_filter]
    have:=List.length_eq_countP_add_countP (fun i=>waitedB ops n i) (l:=List.range n)
    simp only[List.length_range]at this
    have e2:List.countP (fun i=> !waitedB ops n i) (List.range n)=List.countP (fun a=>decide ¬waitedB ops n a=true) (List.range n):=by
     congr 1;funext i;cases waitedB ops n i<;>rfl
    omega
 have hfl:∀listed a,HeadInv .any ops n listed→(∀i,listed.getD i false=((Array.replicate ops.size false).getD i false||Z.contains i))→RepF W0 M0 β (Gs l n rs S0 (fun j=>listed.getD j false)) nt M a {w with drawn:=w.drawn+1}→
  wpAny P .any ops Q ((((List.range n).filter fun i=> !Z.contains i).length)+(ops.size-n)) listed a {w with drawn:=w.drawn+1}:=by
  intro listed a inv hl hR2
  refine float_any (Z:=Z) (W0:=W0) (M0:=M0) (Q:=Q) hD hnl htr hn0 hL hZ3 (fun listed a w β hsz hall hR'=>by
   rw[←hg]at hR'
   exact chain_any hD htr hK (ops.size-n) n listed S1 M β a w rfl (Nat.le_refl n) hnl hsz hall hv hR')
   _ ((List.range n).filter fun i=> !Z.contains i) listed a {w with drawn:=w.drawn+1} β rfl (List.nodup_range.filter _) (fun i hi=>by rw[hl i,hi];simp) (fun i=>?_) inv hR2
  rw[List.mem_filter,List.mem_range,hl i,hinit]
  simp
 have:=take_all (W0:=W0) (M0:=M0) (Q:=Q) hD hnl htr hL hQ (fuel:=(((List.range n).filter fun i=> !Z.contains i).length)+(ops.size-n)) Z (Array.replicate ops.size false) a {w with drawn:=w.drawn+1} β hZ1 (fun z hz=>⟨(hZ2 z hz).1,(hZ2 z hz).2,hinit z⟩)
  ⟨by simp,fun j oj _ hj=>(by rw[hinit]at hj;cases hj),fun t _ ht=>(by simp[ht])⟩ (by rw[hG0];exact hR1) hfl
 rw[show(((List.range n).filter fun i=> !Z.contains i).length)+(ops.size-n)+Z.length=ops.size by omega]at this
 exact this
end
def lateK:K→Bool
 |.mov _=>true
 |.load _ _ _=>true
 |.alloc true _=>true
 |_=>false
def lateI(ops:Array Oper)(l:List I)(i:Nat):Bool:=
 match ops[i]?,l[i]? with
 |some o,some x=>o.guard.isNone&&x.g.isNone&&x.d.isSome&&lateK x.k&&(o.after.all fun e=> !Region.binds .any e)
 |_,_=>false
def zOf(ops:Array Oper)(l:List I):List Nat:=(List.range ops.size).filter fun i=>lateI ops l i
def cOf(ops:Array Oper)(l:List I):List Nat:=(List.range ops.size).filter fun i=> !lateI ops l i
def getsI(l:List I)(is:List Nat):List I:=is.filterMap fun i=>l[i]?
def boxAt(l:List I)(i:Nat):Bool:=match l[i]? with|some x=>boxK x.k|none=>false
def chK(ops:Array Oper)(l:List I):K→Bool
 |.call _ _=>true
 |.not _=>true
 |.store _ (.tmp t) _=>(zOf ops l).any fun j=>boxAt l j&&dOf l j==some t
 |_=>false
def allD(l:List I):List Nat:=l.filterMap (·.d)
def linked(ops:Array Oper):List Nat→Bool
 |a::b::r=>Region.waitsFor .any ops b a&&linked ops (b::r)
 |_=>true
def zB(ops:Array Oper)(l:List I):Bool:=
 ((zOf ops l).all fun i=>(zOf ops l).all fun j=>i==j||dOf l i !=dOf l j)&&
 ((zOf ops l).all fun i=>(slotsAt l i).all fun t=> !(allD l).contains t)&&
 ((cOf ops l).all fun i=>match l[i]? with|some x=>x.g.isNone&&chK ops l x.k&&((zOf ops l).all fun j=>dOf l i !=dOf l j)|none=>false)&&
 ((cOf ops l).all fun i=>(slotsAt l i).all fun t=>(zOf ops l).all fun j=>dOf l j !=some t||Region.waitsFor .any ops i j)&&
 linked ops (cOf ops l)&&
 ((List.range ops.size).all fun i=>match ops[i]? with|some o=>o.after.all fun e=> !Region.binds .any e||decide (e.on<i)|none=>false)
structure ZC (ops:Array Oper) (l:List I):Prop where
 z1:∀i j d,i∈zOf ops l→j∈zOf ops l→dOf l i=some d→dOf l j=some d→i=j
 z2:∀i t,i∈zOf ops l→t∈slotsAt l i→t∉allD l
 c1:∀i,i∈cOf ops l→∃x,l[i]?=some x∧x.g=none∧chK ops l x.k=true∧∀j,j∈zOf ops l→x.d≠dOf l j
 c2:∀i t j,i∈cOf ops l→t∈slotsAt l i→j∈zOf ops l→dOf l j=some t→Region.waitsFor .any ops i j=true
 c3:linked ops (cOf ops l)=true
 e:∀i o,ops[i]?=some o→∀e∈o.after,Region.binds .any e=true→e.on<i
theorem ZC.of{ops:Array Oper}{l:List I}(h:zB ops l=true):ZC ops l:=by
 unfold zB at h
 simp only[Bool.and_eq_true]at h
 obtain⟨⟨⟨⟨⟨a1,a2⟩,a3⟩,a4⟩,a5⟩,a6⟩:=h
 refine⟨?_,?_,?_,?_,a5,?_⟩
 ·intro i j d hi hj h1 h2
  have:=List.all_eq_true.1 (List.all_eq_true.1 a1 i hi) j hj
  simp only[Bool.or_eq_true,beq_iff_eq,bne_iff_ne,ne_eq]at this
  rcases this with h|h
  ·exact h
  ·exact absurd (h1.trans h2.symm) h
 ·intro i t hi ht hc
  have:=List.all_eq_true.1 (List.all_eq_true.1 a2 i hi) t ht
  simp[hc]at this
 ·intro i hi
  have:=List.all_eq_true.1 a3 i hi
  split at this
  ·rename_i x hx
   simp only[Bool.and_eq_true,Option.isNone_iff_eq_none]at this
   refine⟨x,hx,this.1.1,this.1.2,fun j hj he=>?_⟩
   have h2:=List.all_eq_true.1 this.2 j hj
   have:dOf l i=x.d:=by unfold dOf;rw[hx];rfl
   rw[this,he]at h2
   simp at h2
  ·cases this
 ·intro i t j hi ht hj hd
  have:=List.all_eq_true.1 (List.all_eq_true.1 (List.all_eq_true.1 a4 i hi) t ht) j hj
  rw[hd]at this
  simpa using this
 ·intro i o ho e he hb
  have hi:i<ops.size:=(Array.getElem?_eq_some_iff.1 ho).1
  have:=List.all_eq_true.1 a6 i (List.mem_range.2 hi)
  rw[ho]at this
  have:=Array.all_eq_true_iff_forall_mem.1 this e he
  rw[hb]at this
  simpa using this
theorem lateI_spec{ops:Array Oper}{l:List I}{i:Nat}(h:i∈zOf ops l):i<ops.size∧∃o x d,ops[i]?=some o∧l[i]?=some x∧o.guard=none∧x.g=none∧x.d=some d∧lateK x.k=true∧∀e∈o.after,Region.binds .any e=true→False:=by
 unfold zOf at h
 rw[List.mem_filter,List.mem_range]at h
 refine⟨h.1,?_⟩
 have h2:=h.2
 unfold lateI at h2
 split at h2
 ·rename_i o x ho hx
  simp only[Bool.and_eq_true,Option.isNone_iff_eq_none]at h2
  obtain⟨d,hd⟩:=Option.isSome_iff_exists.1 h2.1.1.2
  refine⟨o,x,d,ho,hx,h2.1.1.1.1,h2.1.1.1.2,hd,h2.1.2,fun e he hb=>?_⟩
  have:=Array.all_eq_true_iff_forall_mem.1 h2.2 e he
  rw[hb]at this;cases this
 ·cases h2
theorem cz_split{ops:Array Oper}{l:List I}{i:Nat}(h:i<ops.size):i∈zOf ops l∨i∈cOf ops l:=by
 unfold zOf cOf
 simp only[List.mem_filter,List.mem_range,h,true_and]
 cases lateI ops l i<;>simp
theorem cz_no{ops:Array Oper}{l:List I}{i:Nat}(h:i∈cOf ops l):i∉zOf ops l:=by
 unfold zOf
 unfold cOf at h
 simp only[List.mem_filter]at*
 intro h2
 simp[h2.2]at h
theorem dOf_all{l:List I}{i d:Nat}(h:dOf l i=some d):d∈allD l:=by
 unfold dOf at h
 cases hx:l[i]? with
 |none=>rw[hx]at h;cases h
 |some x=>
  rw[hx]at h
  exact List.mem_filterMap.2 ⟨x,List.mem_of_getElem? hx,h⟩
def mk(V:Nat→Bool)(S:St):St:=fun t=>bif V t then .junk else S t
theorem mk_f{V:Nat→Bool}{S:St}{t:Nat}(h:V t=false):mk V S t=S t:=by simp[mk,h]
theorem mk_up{V:Nat→Bool}{S:St}{d:Nat}{x:SV}(h:V d=false):upF (mk V S) d x=mk V (upF S d x):=by
 funext t
 simp only[mk,upF_eq]
 by_cases e:t=d
 ·subst e;simp[h]
 ·simp[e]
section
variable {P:Program} {W0:World} {M0 M M':Mem} {β:Nat→Nat} {S S0:St} {f g f0:Nat→SV} {n nt:Nat} {a:Act} {w w':World} {own:List Nat} {ops:Array Oper} {l:List I} {rs:Nat→SV}
theorem FE_any{k:K}{sv:SV}(hk:lateK k=true)(h:FE P f (fun _=>none) k sv):FE P f M k sv:=by
 rcases h with h|h
 ·exact .inl h
 ·cases k<;>first|(cases hk;done)|(exact h.elim)|skip
  case load one m x=>
   obtain⟨b,o,cs,v,_,h2,_⟩:=h
   rcases h2 with h2|⟨_,_,h2⟩<;>cases h2
  case alloc ow z=>cases ow<;>first|exact h.elim|exact .inr h
theorem lateK_float{k:K}(h:lateK k=true):floatK k=true:=by
 cases k<;>first|rfl|(cases h;done)|skip
 case alloc ow z=>cases ow<;>first|rfl|cases h
def GZ(ds:List Nat)(rs:Nat→SV)(S:St):St:=fun t=>bif ds.contains t then rs t else S t
theorem late_vc{D:List Nat}(hn0:∀t s o,S0 t=.bp s o→s∉D){post:St→Mem→Prop}:∀(zs:List I) (S:St),(∀i∈zs,i.g=none∧lateK i.k=true∧(∀t∈i.slots,t∉D)∧∃d,i.d=some d∧d∈D)→
 (zs.filterMap (·.d)).Nodup→(∀t,t∉D→S t=S0 t)→(∀t s o,S t=.bp s o→s∉D)→vcL P zs post S (fun _=>none)→
 ∃rs,(∀i∈zs,∀d,i.d=some d→FE P S0 (fun _=>none) i.k (rs d))∧(∀d s o,d∈zs.filterMap (·.d)→rs d=.bp s o→s∉D)∧post (GZ (zs.filterMap (·.d)) rs S) (fun _=>none)
 |[],S,_,_,_,_,h=>⟨fun _=>.junk,fun i hi=>absurd hi (by simp),fun d s o hd=>absurd hd (by simp),h⟩
 |i::r,S,hz,hnd,ha,hb,h=>by
  obtain⟨hg,hk,hsl,d,hd,hdD⟩:=hz i (by simp)
  obtain⟨sv,hfo,hp⟩:=FO_of_vcO (lateK_float hk) h
  have hag:∀t,t∈i.slots→S t=S0 t∧∀s o,S t=.bp s o→S s=S0 s:=fun t ht=>⟨ha t (hsl t ht),fun s o e=>ha s (hb t s o e)⟩
  have hfo0:FO P S0 (fun _=>none) i sv:=FO_agree hag hfo
  have hfe0:FE P S0 (fun _=>none) i.k sv:=by unfold FO at hfo0;rw[hg]at hfo0;exact hfo0
  have hbp:∀s o,sv=.bp s o→s∉D:=by
   intro s o e
   subst e
   obtain⟨t,ht,hc⟩:=FO_bp hfo
   rcases hc with⟨cs,_,rfl⟩|⟨o',ho⟩
   ·exact hsl t ht
   ·exact hb t s o' ho
  have hput:putX S i.d sv=upF S d sv:=by
   rw[hd]
   unfold putX
   split
   ·simp only[putB]
    funext t
    simp only[upF_eq]
    by_cases e:t=d
    ·rw[if_pos e,if_pos e]
    ·rw[if_neg e,if_neg e]
     cases hst:S t with
     |bp s o=>
      simp only[junkB]
      rw[if_neg]
      intro e;subst e;exact hb t s o hst hdD
     |_=>rfl
   ·rfl
  rw[hput]at hp
  have hnd':d∉r.filterMap (·.d)∧(r.filterMap (·.d)).Nodup:=by
   simp only[List.filterMap_cons,hd]at hnd
   exact List.nodup_cons.1 hnd
  obtain⟨rs,h1,h2,h3⟩:=late_vc hn0 (post:=post) r (upF S d sv) (fun j hj=>hz j (by simp[hj])) hnd'.2
   (fun t ht=>by rw[upF_eq,if_neg (fun e=>ht (by subst e;exact hdD))];exact ha t ht)
   (fun t s o e=>by
     rw[upF_eq]at e
     split at e
     ·exact hbp s o e
     ·exact hb t s o e) hp
  refine⟨upF rs d sv,?_,?_,?_⟩
  ·intro j hj d' hd'
   rcases List.mem_cons.1 hj with e|e
   ·subst e
    rw[hd]at hd'
    cases hd'
    rw[upF_eq,if_pos rfl]
    exact hfe0
   ·rw[upF_eq,if_neg]
    ·exact h1 j e d' hd'
    ·intro e2;subst e2
     exact hnd'.1 (List.mem_filterMap.2 ⟨j,e,hd'⟩)
  ·intro d' s o hd' e
   rw[upF_eq]at e
   split at e
   ·exact hbp s o e
   ·rename_i hne
    simp only[List.filterMap_cons,hd,List.mem_cons]at hd'
    rcases hd' with h|h
    ·exact absurd h hne
    ·exact h2 d' s o h e
  ·have:GZ ((i::r).filterMap (·.d)) (upF rs d sv) S=GZ (r.filterMap (·.d)) rs (upF S d sv):=by
    funext t
    simp only[GZ,List.filterMap_cons,hd,List.contains_cons,upF_eq]
    by_cases e:t=d
    ·subst e
     have:(r.filterMap (·.d)).contains t=false:=by
      cases hc:(r.filterMap (·.d)).contains t with
      |false=>rfl
      |true=>exact absurd (by simpa using hc) hnd'.1
     rw[this];simp
    ·have:(t==d)=false:=by simpa using e
     simp[this,e]
   rw[this]
   exact h3
structure ZI (ops:Array Oper) (l:List I) (S0 S:St):Prop where
 a:∀t,t∉allD l→S t=S0 t
 b:∀t s o,S t=.bp s o→s∉allD l
 c:∀i d,i∈zOf ops l→boxAt l i=true→dOf l i=some d→(S d).isBox=true
theorem not_v{x:Operand}{sv:SV}(h:FE P f M (.not x) sv):∃v,sv=.v v:=by
 rcases h with h|h
 ·simp only[pe]at h
  split at h
  ·simp only[Option.some.injEq]at h;exact⟨_,h.symm⟩
  ·cases h
 ·exact h.elim
theorem vcO_mask(hZ:ZC ops l){c:Nat}(hc:c∈cOf ops l){x:I}(hx:l[c]?=some x){V:Nat→Bool}(hV:∀t,V t=true→∃i,i∈zOf ops l∧dOf l i=some t)(hsl:∀t,t∈x.slots→V t=false)(hI:ZI ops l S0 S)
 {post:St→Mem→Prop} (h:vcO P x post S M):vcO P x (fun S' M'=>∃S'',S'=mk V S''∧post S'' M'∧ZI ops l S0 S''∧∀t,V t=true→S'' t=S t) (mk V S) M:=by
 obtain⟨x',hx',hg,hk,hdz⟩:=hZ.c1 c hc
 have:x'=x:=by rw[hx]at hx';exact(Option.some.inj hx').symm
 subst this
 have hdc:dOf l c=x'.d:=by unfold dOf;rw[hx];rfl
 have hVD:∀t,V t=true→t∈allD l:=fun t ht=>let⟨i,_,hi⟩:=hV t ht;dOf_all hi
 have hag:agree S (mk V S) x'.k.ops:=by
  intro t ht
  have hs:=hsl t (by unfold I.slots;exact List.mem_append_right _ ht)
  refine⟨(mk_f hs).symm,fun s o e=>?_⟩
  have:V s=false:=by
   cases hvs:V s with
   |false=>rfl
   |true=>exact absurd (hVD s hvs) (hI.b t s o e)
  exact(mk_f this).symm
 have hdV:∀d,x'.d=some d→V d=false:=by
  intro d hd
  cases hvd:V d with
  |false=>rfl
  |true=>
   obtain⟨i,hi,hid⟩:=hV d hvd
   exact absurd (hd.trans hid.symm) (hdz i hi)
 have hput:∀v:Value,put (mk V S) x'.d (.v v)=mk V (put S x'.d (.v v)):=by
  intro v
  cases hd:x'.d with
  |none=>rfl
  |some d=>exact mk_up (hdV d hd)
 have hput2:∀v:Value,ZI ops l S0 (put S x'.d (.v v))∧∀t,V t=true→put S x'.d (.v v) t=S t:=by
  intro v
  cases hd:x'.d with
  |none=>exact⟨hI,fun _ _=>rfl⟩
  |some d=>
   have hdD:d∈allD l:=dOf_all (i:=c) (by rw[hdc,hd])
   refine⟨⟨fun t ht=>?_,fun t s o e=>?_,fun i d' hi hb hid=>?_⟩,fun t ht=>?_⟩
   ·simp only[put,upF_eq]
    rw[if_neg (fun e=>ht (by subst e;exact hdD))]
    exact hI.a t ht
   ·simp only[put,upF_eq]at e
    split at e
    ·cases e
    ·exact hI.b t s o e
   ·simp only[put,upF_eq]
    rw[if_neg (fun e=>hdz i hi (by rw[hd,hid,e]))]
    exact hI.c i d' hi hb hid
   ·simp only[put,upF_eq]
    rw[if_neg]
    intro e;subst e
    rw[hdV _ hd]at ht;cases ht
 unfold vcO at h⊢
 rw[hg]at h⊢
 simp only at h⊢
 cases hkk:x'.k<;>rw[hkk]at h hk hag<;>first|(cases hk;done)|skip
 case call g xs=>
  obtain⟨args,h1,h2⟩:=h
  refine⟨args,by rw[evs_agree hag (ys:=xs) (fun y hy=>by simpa [K.ops]using hy)];exact h1,h2.mono fun v M' hp=>?_⟩
  exact⟨_,hput v,hp,(hput2 v).1,(hput2 v).2⟩
 case not y=>
  obtain⟨sv,h1,h2⟩:=h
  obtain⟨v,rfl⟩:=not_v h1
  refine⟨_,FE_agree hag h1,?_⟩
  simp only[SV.isBox,Bool.false_eq_true,if_false]at h2⊢
  exact⟨_,hput v,h2,(hput2 v).1,(hput2 v).2⟩
 case store m y z=>
  cases y with
  |tmp t=>
   obtain⟨i,hi,hb⟩:=List.any_eq_true.1 hk
   simp only[Bool.and_eq_true,beq_iff_eq]at hb
   have hbx:=hI.c i t hi hb.1 hb.2
   have hVt:V t=false:=hsl t (by unfold I.slots;rw[hkk];simp[K.ops,tmpsOf])
   obtain⟨v,h1,h2,h3,h4⟩:=h
   cases hS:S t with
   |box cs0=>
    refine⟨v,by rw[ev_agree hag (x:=z) (by simp[K.ops])];exact h1,h2,h3,.inl ?_⟩
    rcases h4 with⟨s,o,cs,h5,h6,h7,h8⟩|⟨b,o,cs,h5,_⟩
    ·have hl:lc S (.tmp t)=some (.bx t 0):=by simp only[lc,hS]
     rw[hl]at h5
     cases h5
     refine⟨t,0,cs,by simp only[lc,mk_f hVt,hS],by rw[mk_f hVt];exact h6,h7,_,mk_up hVt,h8,⟨fun t' ht'=>?_,fun t' s o e=>?_,fun i' d' hi' hb' hid'=>?_⟩,fun t' ht'=>?_⟩
     ·rw[upF_eq,if_neg (fun e=>ht' (by subst e;exact dOf_all hb.2))]
      exact hI.a t' ht'
     ·rw[upF_eq]at e
      split at e
      ·cases e
      ·exact hI.b t' s o e
     ·rw[upF_eq]
      split
      ·rfl
      ·exact hI.c i' d' hi' hb' hid'
     ·rw[upF_eq,if_neg]
      intro e;subst e;rw[hVt]at ht';cases ht'
    ·exfalso
     simp only[lc,hS]at h5
     cases h5
   |bsl cs k=>
    exfalso
    rcases h4 with⟨s,o,cs,h5,_⟩|⟨b,o,cs,h5,_⟩<;>simp[lc,hS]at h5
   |_=>rw[hS]at hbx;cases hbx
  |_=>cases hk
def hidV(ops:Array Oper)(l:List I)(listed:Array Bool):Nat→Bool:=fun t=>(zOf ops l).any fun i=> !listed.getD i false&&dOf l i==some t
theorem hidV_some{listed:Array Bool}{t:Nat}:hidV ops l listed t=true↔∃i,i∈zOf ops l∧listed.getD i false=false∧dOf l i=some t:=by
 unfold hidV
 rw[List.any_eq_true]
 constructor
 ·rintro⟨i,hi,h⟩
  simp only[Bool.and_eq_true,Bool.not_eq_true',beq_iff_eq]at h
  exact⟨i,hi,h.1,h.2⟩
 ·rintro⟨i,hi,h1,h2⟩
  exact⟨i,hi,by simp[h1,h2]⟩
theorem linked_pred:∀{L:List Nat} {c:Nat},linked ops (c::L)=true→∀i,i∈L→∃p,p∈c::L∧Region.waitsFor .any ops i p=true
 |[],c,_,i,hi=>by cases hi
 |b::r,c,h,i,hi=>by
  simp only[linked,Bool.and_eq_true]at h
  rcases List.mem_cons.1 hi with e|e
  ·subst e;exact⟨c,by simp,h.1⟩
  ·obtain⟨p,hp,hw⟩:=linked_pred h.2 i e
   exact⟨p,List.mem_cons_of_mem _ hp,hw⟩
theorem linked_suffix:∀{pre rest:List Nat},linked ops (pre++rest)=true→linked ops rest=true
 |[],_,h=>h
 |[a],[],h=>rfl
 |[a],b::r,h=>by
  simp only[List.cons_append,List.nil_append,linked,Bool.and_eq_true]at h
  exact h.2
 |a::b::r,rest,h=>by
  simp only[List.cons_append,linked,Bool.and_eq_true]at h
  exact linked_suffix (pre:=b::r) h.2
theorem cOf_sorted:(cOf ops l).Pairwise (· < ·):=List.Pairwise.filter _ List.pairwise_lt_range
theorem zany(hZ:ZC ops l)(htr:trL P own nt ops 0 ops.toList=some l)(hF:∀i∈zOf ops l,∀x d,l[i]?=some x→x.d=some d→FE P S0 (fun _=>none) x.k (rs d))(hn0:∀t s o,S0 t=.bp s o→s∉allD l)
 {Q:Exit→Act→World→Prop} {post:St→Mem→Prop} (hK:∀S' M' a' w' β',post S' M'→RepF W0 M0 β' S' nt M' a' w'→Q .normal a' w'):
 ∀(m:Nat) (U rest pre:List Nat) (listed:Array Bool) (S:St) (M:Mem) (β:Nat→Nat) (a:Act) (w:World),U.length=m→U.Nodup→(∀i,i∈U↔i<ops.size∧listed.getD i false=false)→listed.size=ops.size→
  cOf ops l=pre++rest→(∀c∈pre,listed.getD c false=true)→(∀c∈rest,listed.getD c false=false)→vcL P (getsI l rest) post S M→ZI ops l S0 S→(∀i∈zOf ops l,listed.getD i false=false→∀d,dOf l i=some d→S d=rs d)→
  RepF W0 M0 β (mk (hidV ops l listed) S) nt M a w→wpAny P .any ops Q m listed a w:=by
 have hlen:l.length=ops.size:=by rw[trL_len htr];simp
 intro m
 induction m with
 |zero=>
  intro U rest pre listed S M β a w hU hnd hmem hsz hc hpre hrest hv hI hrs hR
  have hU0:U=[]:=List.eq_nil_of_length_eq_zero hU
  subst hU0
  have hall:∀j,j<ops.size→listed.getD j false=true:=by
   intro j hj
   cases h:listed.getD j false with
   |true=>rfl
   |false=>have:=(hmem j).2 ⟨hj,h⟩;cases this
  have hr0:rest=[]:=by
   cases rest with
   |nil=>rfl
   |cons c r=>
    have hcc:c∈cOf ops l:=by rw[hc];simp
    have hlt:c<ops.size:=by unfold cOf at hcc;rw[List.mem_filter,List.mem_range]at hcc;exact hcc.1
    have:=hrest c (by simp)
    rw[hall c hlt]at this;cases this
  subst hr0
  have hr:Region.ready .any ops listed=[]:=by
   apply List.eq_nil_iff_forall_not_mem.2
   intro j hj
   obtain⟨h0,o,ho,_⟩:=mem_ready.1 hj
   have hjs:j<ops.size:=(Array.getElem?_eq_some_iff.1 ho).1
   rw[getD_true_false (by omega),hall j hjs]at h0
   cases h0
  have hmk:mk (hidV ops l listed) S=S:=by
   funext t
   apply mk_f
   cases h:hidV ops l listed t with
   |false=>rfl
   |true=>
    obtain⟨i,hi,h1,_⟩:=hidV_some.1 h
    rw[hall i (lateI_spec hi).1]at h1;cases h1
  rw[hmk]at hR
  exact⟨hr,hK _ _ _ _ β hv hR⟩
 |succ m ih=>
  intro U rest pre listed S M β a w hU hnd hmem hsz hc hpre hrest hv hI hrs hR
  have hUne:U≠[]:=by intro h;subst h;cases hU
  obtain⟨i0,hi0,hleast⟩:=least_mem hUne
  obtain⟨hi0n,hi0u⟩:=(hmem i0).1 hi0
  have hready0:i0∈Region.ready .any ops listed:=by
   obtain⟨o,ho⟩:∃o,ops[i0]?=some o:=⟨_,Array.getElem?_eq_getElem hi0n⟩
   refine mem_ready.2 ⟨by rw[getD_true_false (by omega)];exact hi0u,o,ho,fun e he hb=>?_⟩
   have hlt:=hZ.e i0 o ho e he hb
   cases hle:listed.getD e.on false with
   |true=>rfl
   |false=>
    have:=hleast e.on ((hmem e.on).2 ⟨by omega,hle⟩)
    omega
  refine⟨fun h=>(by rw[h]at hready0;cases hready0),fun i hi=>?_⟩
  obtain⟨hun,o,ho,hall⟩:=mem_ready.1 hi
  have his:i<ops.size:=(Array.getElem?_eq_some_iff.1 ho).1
  rw[getD_true_false (by omega)]at hun
  obtain⟨x,hx,htx⟩:=trL_get htr i o (by rw[Array.getElem?_toList];exact ho)
  have hiU:i∈U:=(hmem i).2 ⟨his,hun⟩
  have hUl:(U.erase i).length=m:=by rw[List.length_erase_of_mem hiU];omega
  have hUm:∀j,j∈U.erase i↔j<ops.size∧(listed.setIfInBounds i true).getD j false=false:=by
   intro j
   rw[hnd.mem_erase_iff,hmem j,listed_set (by omega)]
   constructor
   ·rintro⟨h1,h2,h3⟩
    refine⟨h2,?_⟩
    rw[h3];simpa using h1
   ·rintro⟨h1,h2⟩
    simp only[Bool.or_eq_false_iff,beq_eq_false_iff_ne,ne_eq]at h2
    exact⟨h2.2,h1,h2.1⟩
  have hwait:∀j,Region.waitsFor .any ops i j=true→listed.getD j false=true:=by
   intro j hw
   obtain⟨e,he,hb,hon⟩:=waits_spec ho hw
   have:=hall e he hb
   rw[hon]at this;exact this
  rcases cz_split (l:=l) his with hz|hz
  ·--one that nothing moves
   obtain⟨_,o',x',d,ho',hx',hg,hxg,hd,hk,hno⟩:=lateI_spec hz
   have e1:o'=o:=by rw[ho]at ho';exact(Option.some.inj ho').symm
   have e2:x'=x:=by rw[hx]at hx';exact(Option.some.inj hx').symm
   subst e1 e2
   obtain⟨ow,hk1,hk2,hk3,hk4,hk5⟩:=trI_some htx
   have hdo:dOf l i=some d:=by unfold dOf;rw[hx];exact hd
   have hfe:=FE_any (M:=M) hk (hF i hz x' d hx hd)
   have hVD:∀t,t∉allD l→hidV ops l listed t=false:=by
    intro t ht
    cases h:hidV ops l listed t with
    |false=>rfl
    |true=>obtain⟨j,_,_,hj⟩:=hidV_some.1 h;exact absurd (dOf_all hj) ht
   have hag:agree S0 (mk (hidV ops l listed) S) x'.k.ops:=by
    intro t ht
    have htD:t∉allD l:=hZ.z2 i t hz (by unfold slotsAt;rw[hx];unfold I.slots;exact List.mem_append_right _ ht)
    refine⟨?_,fun s o e=>?_⟩
    ·rw[mk_f (hVD t htD),hI.a t htD]
    ·have:=hn0 t s o e
     rw[mk_f (hVD s this),hI.a s this]
   have hfe':=FE_agree hag hfe
   unfold wpOp
   rw[ho]
   simp only
   rw[if_pos (by simp[Region.wanted,hg])]
   refine .inl (fe_exec hR hk1 hfe' hk4 (fun _=>⟨d,by rw[←hk2];exact hd,fun t o' _ e=>?_⟩) ?_)
   ·have:S t=.bp d o':=by
     cases hh:hidV ops l listed t with
     |true=>simp[mk,hh]at e
     |false=>rw[mk_f hh]at e;exact e
    exact hI.b t d o' this (dOf_all hdo)
   ·intro a' w' β' hR'
    have hup:upO (mk (hidV ops l listed) S) o'.dst (rs d)=mk (hidV ops l (listed.setIfInBounds i true)) S:=by
     rw[←hk2,hd]
     funext t
     simp only[upO,upF_eq]
     by_cases e:t=d
     ·subst e
      rw[if_pos rfl,mk_f,hrs i hz hun t hdo]
      cases hh:hidV ops l (listed.setIfInBounds i true) t with
      |false=>rfl
      |true=>
       obtain⟨j,hj,h1,h2⟩:=hidV_some.1 hh
       have:=hZ.z1 i j t hz hj hdo h2
       subst this
       rw[listed_set (by omega)]at h1
       simp at h1
     ·rw[if_neg e]
      have:hidV ops l (listed.setIfInBounds i true) t=hidV ops l listed t:=by
       rw[Bool.eq_iff_iff,hidV_some,hidV_some]
       constructor
       ·rintro⟨j,hj,h1,h2⟩
        rw[listed_set (by omega)]at h1
        simp only[Bool.or_eq_false_iff]at h1
        exact⟨j,hj,h1.1,h2⟩
       ·rintro⟨j,hj,h1,h2⟩
        refine⟨j,hj,?_,h2⟩
        rw[listed_set (by omega),h1]
        have:j≠i:=fun e2=>by subst e2;rw[hdo]at h2;exact e (Option.some.inj h2).symm
        simpa using this
      simp only[mk,this]
    rw[hup]at hR'
    refine ih (U.erase i) rest pre (listed.setIfInBounds i true) S M β' a' w' hUl (hnd.erase i) hUm (by simpa using hsz) hc ?_ ?_ hv hI ?_ hR'
    ·intro c hcp;rw[listed_set (by omega),hpre c hcp];rfl
    ·intro c hcr
     rw[listed_set (by omega),hrest c hcr]
     have:c≠i:=fun e=>by
      subst e
      exact cz_no (ops:=ops) (l:=l) (by rw[hc];simp[hcr]) hz
     simpa using this
    ·intro j hj h1 d' hd'
     rw[listed_set (by omega)]at h1
     simp only[Bool.or_eq_false_iff]at h1
     exact hrs j hj h1.1 d' hd'
  ·--the next of the chain
   have hin:i∈rest:=by
    rw[hc]at hz
    rcases List.mem_append.1 hz with h|h
    ·rw[hpre i h]at hun;cases hun
    ·exact h
   cases rest with
   |nil=>cases hin
   |cons c r=>
    have hic:i=c:=by
     rcases List.mem_cons.1 hin with e|e
     ·exact e
     ·exfalso
      obtain⟨p,hp,hw⟩:=linked_pred (linked_suffix (pre:=pre) (rest:=c::r) (by rw[←hc];exact hZ.c3)) i e
      have:=hwait p hw
      rw[hrest p hp]at this;cases this
    subst hic
    have hgx:getsI l (i::r)=x::getsI l r:=by simp[getsI,hx]
    rw[hgx]at hv
    have hsl:∀t,t∈x.slots→hidV ops l listed t=false:=by
     intro t ht
     cases hh:hidV ops l listed t with
     |false=>rfl
     |true=>
      obtain⟨j,hj,h1,h2⟩:=hidV_some.1 hh
      have:=hwait j (hZ.c2 i t j hz (by unfold slotsAt;rw[hx];exact ht) hj h2)
      rw[h1]at this;cases this
    have hv':=vcO_mask hZ hz hx (V:=hidV ops l listed) (fun t ht=>let⟨i,hi,_,h⟩:=hidV_some.1 ht;⟨i,hi,h⟩) hsl hI hv
    have hnr:i∉r:=by
     have:=cOf_sorted (ops:=ops) (l:=l)
     rw[hc]at this
     have:=(List.pairwise_append.1 this).2.1
     have:=(List.pairwise_cons.1 this).1
     intro hir
     have:=this i hir
     omega
    have hhid:hidV ops l (listed.setIfInBounds i true)=hidV ops l listed:=by
     funext t
     rw[Bool.eq_iff_iff,hidV_some,hidV_some]
     constructor
     ·rintro⟨j,hj,h1,h2⟩
      rw[listed_set (by omega)]at h1
      simp only[Bool.or_eq_false_iff]at h1
      exact⟨j,hj,h1.1,h2⟩
     ·rintro⟨j,hj,h1,h2⟩
      refine⟨j,hj,?_,h2⟩
      rw[listed_set (by omega),h1]
      have:j≠i:=fun e2=>by subst e2;exact cz_no hz hj
      simpa using this
    have hstep:=vcO_sound (Q:=Q) (K:=wpAny P .any ops Q m (listed.setIfInBounds i true)) hR htx hv' (fun S' M' a' w' β' hp hr=>by
     obtain⟨S'',rfl,hp,hI',hsame⟩:=hp
     refine ih (U.erase i) r (pre++[i]) (listed.setIfInBounds i true) S'' M' β' a' w' hUl (hnd.erase i) hUm (by simpa using hsz) (by rw[hc];simp) ?_ ?_ hp hI' ?_ (by rw[hhid];exact hr)
     ·intro c' hcp
      rw[listed_set (by omega)]
      rcases List.mem_append.1 hcp with h|h
      ·rw[hpre c' h];rfl
      ·simp at h;subst h;simp
     ·intro c' hcr
      rw[listed_set (by omega),hrest c' (by simp[hcr])]
      have:c'≠i:=fun e=>by subst e;exact hnr hcr
      simpa using this
     ·intro j hj h1 d' hd'
      rw[listed_set (by omega)]at h1
      simp only[Bool.or_eq_false_iff]at h1
      rw[hsame d' (hidV_some.2 ⟨j,hj,h1.1,hd'⟩)]
      exact hrs j hj h1.1 d' hd')
    unfold wpOp
    rw[ho]
    simp only
    split
    ·rename_i hw;rw[if_pos hw]at hstep;exact .inl hstep
    ·rename_i hw;rw[if_neg hw]at hstep;exact hstep
theorem zreg_sound{id:Nat}(hm:P.follows .mixedOrders=true)(htr:trL P own nt ops 0 ops.toList=some l)(hB:zB ops l=true){Q:Exit→Act→World→Prop}{post:St→Mem→Prop}
 (hR:RepF W0 M0 β S nt M a w) (h:vcL P (getsI l (zOf ops l)) (fun S' _=>vcL P (getsI l (cOf ops l)) post S' M) (fun t=>junkD (allD l) (S t)) (fun _=>none))
 (hK:∀S' M' a' w' β',post S' M'→RepF W0 M0 β' S' nt M' a' w'→Q .normal a' w'):(Code.region id ops true).wp P Q a w:=by
 have hZ:=ZC.of hB
 have hlen:l.length=ops.size:=by rw[trL_len htr];simp
 have hn0:∀t s o,(fun t=>junkD (allD l) (S t)) t=.bp s o→s∉allD l:=by
  intro t s o e hs
  simp only at e
  cases hS:S t with
  |bp s' o'=>
   rw[hS]at e
   simp only[junkD]at e
   split at e
   ·cases e
   ·rename_i hc;cases e;exact hc (by simpa using hs)
  |_=>rw[hS]at e;cases e
 have hRj:=hR.weak (junkD_le (allD l) S)
 generalize(fun t=>junkD (allD l) (S t))=S0 at h hn0 hRj
 have hR1:RepF W0 M0 β S0 nt M a {w with drawn:=w.drawn+1}:=hRj.step (M':=M) (w':={w with drawn:=w.drawn+1}) (fun b k e=>(hR.sat b k e).of_eq rfl) ⟨rfl,rfl,rfl,Nat.le_refl _,fun _ _ _=>rfl,fun _ h=>.inl h⟩
 refine wp_region_any hm ?_
 have hinit:∀j,(Array.replicate ops.size false).getD j false=false:=fun j=>getD_replicate_false _ j
 have hgz:∀i,i∈getsI l (zOf ops l)↔∃j,j∈zOf ops l∧l[j]?=some i:=by
  intro i;unfold getsI;rw[List.mem_filterMap]
 have hds:∀d,d∈(getsI l (zOf ops l)).filterMap (·.d)↔∃j,j∈zOf ops l∧dOf l j=some d:=by
  intro d
  rw[List.mem_filterMap]
  constructor
  ·rintro⟨i,hi,hd⟩
   obtain⟨j,hj,hji⟩:=(hgz i).1 hi
   exact⟨j,hj,by unfold dOf;rw[hji];exact hd⟩
  ·rintro⟨j,hj,hd⟩
   unfold dOf at hd
   cases hji:l[j]? with
   |none=>rw[hji]at hd;cases hd
   |some i=>rw[hji]at hd;exact⟨i,(hgz i).2 ⟨j,hj,hji⟩,hd⟩
 have hnd:((getsI l (zOf ops l)).filterMap (·.d)).Nodup:=by
  have e:(getsI l (zOf ops l)).filterMap (·.d)=(zOf ops l).filterMap fun i=>dOf l i:=by
   unfold getsI
   rw[List.filterMap_filterMap]
   rfl
  rw[e]
  have hnz:(zOf ops l).Nodup:=List.nodup_range.filter _
  refine List.Pairwise.filterMap _ ?_ (List.Pairwise.and_mem.1 hnz)
  intro i j ⟨hi,hj,hne⟩ d hd d' hd'
  intro e
  subst e
  exact hne (hZ.z1 i j d hi hj hd hd')
 obtain⟨rs,h1,h2,h3⟩:=late_vc (P:=P) (D:=allD l) hn0 (getsI l (zOf ops l)) S0 (fun x hx=>by
  obtain⟨j,hj,hjx⟩:=(hgz x).1 hx
  obtain⟨_,o,x',d,ho,hx',hg,hxg,hd,hk,hno⟩:=lateI_spec hj
  have:x'=x:=by rw[hjx]at hx';exact(Option.some.inj hx').symm
  subst this
  exact⟨hxg,hk,fun t ht=>hZ.z2 j t hj (by unfold slotsAt;rw[hjx];exact ht),d,hd,dOf_all (i:=j) (by unfold dOf;rw[hjx];exact hd)⟩) hnd (fun t _=>rfl) hn0 h
 have hF:∀i∈zOf ops l,∀x d,l[i]?=some x→x.d=some d→FE P S0 (fun _=>none) x.k (rs d):=fun i hi x d hx hd=>h1 x ((hgz x).2 ⟨i,hi,hx⟩) d hd
 have hcz:∀t,((getsI l (zOf ops l)).filterMap (·.d)).contains t=true↔∃j,j∈zOf ops l∧dOf l j=some t:=by
  intro t;rw[List.contains_iff_mem];exact hds t
 have hGh:mk (hidV ops l (Array.replicate ops.size false)) (GZ ((getsI l (zOf ops l)).filterMap (·.d)) rs S0)=mk (hidV ops l (Array.replicate ops.size false)) S0:=by
  funext t
  cases hh:hidV ops l (Array.replicate ops.size false) t with
  |true=>simp[mk,hh]
  |false=>
   rw[mk_f hh,mk_f hh]
   unfold GZ
   cases hcc:((getsI l (zOf ops l)).filterMap (·.d)).contains t with
   |false=>rfl
   |true=>
    obtain⟨j,hj,hd⟩:=(hcz t).1 hcc
    rw[hidV_some.2 ⟨j,hj,hinit j,hd⟩]at hh
    cases hh
 refine zany hZ htr hF hn0 hK ops.size (List.range ops.size) (cOf ops l) [] (Array.replicate ops.size false) _ M β a {w with drawn:=w.drawn+1} (by simp) List.nodup_range (fun i=>by rw[List.mem_range,hinit];simp) (by simp) rfl (fun c hc=>by cases hc) (fun c _=>hinit c) h3 ?_ ?_ ?_
 ·refine⟨fun t ht=>?_,fun t s o e=>?_,fun i d hi hb hd=>?_⟩
  ·unfold GZ
   cases hcc:((getsI l (zOf ops l)).filterMap (·.d)).contains t with
   |false=>rfl
   |true=>
    obtain⟨j,hj,hd⟩:=(hcz t).1 hcc
    exact absurd (dOf_all hd) ht
  ·unfold GZ at e
   cases hcc:((getsI l (zOf ops l)).filterMap (·.d)).contains t with
   |false=>rw[hcc]at e;exact hn0 t s o e
   |true=>rw[hcc]at e;exact h2 t s o (by simpa using hcc) e
  ·have hcc:=(hcz d).2 ⟨i,hi,hd⟩
   unfold GZ
   rw[hcc]
   simp only[cond_true]
   obtain⟨_,o,x,d',ho,hx,hg,hxg,hd',hk,hno⟩:=lateI_spec hi
   have:d'=d:=by simpa [dOf,hx,hd']using hd
   subst this
   have hfe:=hF i hi x d' hx hd'
   unfold boxAt at hb
   rw[hx]at hb
   simp only at hb
   cases hkk:x.k<;>rw[hkk]at hb hk hfe<;>first|(cases hb;done)|(cases hk;done)|skip
   case alloc ow z=>
    cases ow with
    |false=>cases hk
    |true=>
     rcases hfe with hfe|hfe
     ·simp[pe]at hfe
     ·have:rs d'=.box z:=hfe
      rw[this];rfl
 ·intro i hi _ d hd
  unfold GZ
  rw[(hcz d).2 ⟨i,hi,hd⟩]
  rfl
 ·rw[hGh]
  exact hR1.weak fun t=>by
   show mk _ S0 t=.junk∨mk _ S0 t=S0 t
   unfold mk
   cases hidV ops l (Array.replicate ops.size false) t<;>simp
end
def Mem.un(a b:Mem):Mem:=fun x=>match a x with|some k=>some k|none=>b x
def Disj(a b:Mem):Prop:=∀x,a x=none∨b x=none
theorem Disj.symm{a b:Mem}(h:Disj a b):Disj b a:=fun x=>(h x).symm
theorem un_l{a b:Mem}{x:Nat}{k:Bk}(h:a x=some k):a.un b x=some k:=by unfold Mem.un;rw[h]
theorem un_n{a b:Mem}{x:Nat}(h:a x=none):a.un b x=b x:=by unfold Mem.un;rw[h]
theorem un_r{a b:Mem}(d:Disj a b){x:Nat}{k:Bk}(h:b x=some k):a.un b x=some k:=by
 rcases d x with e|e
 ·rw[un_n e];exact h
 ·rw[h]at e;cases e
theorem le_l(a b:Mem):a.le (a.un b):=fun x k h=>un_l h
theorem le_r{a b:Mem}(d:Disj a b):b.le (a.un b):=fun x k h=>un_r d h
theorem un_none{a b:Mem}{x:Nat}:a.un b x=none↔a x=none∧b x=none:=by
 unfold Mem.un
 cases h:a x<;>simp
theorem un_comm{a b:Mem}(d:Disj a b):a.un b=b.un a:=by
 funext x
 rcases d x with e|e
 ·rw[un_n e];cases h:b x with
  |none=>rw[un_n h,e]
  |some k=>rw[un_l h]
 ·rw[un_n (a:=b) e];cases h:a x with
  |none=>rw[un_n h,e]
  |some k=>rw[un_l h]
theorem un_assoc(a b c:Mem):(a.un b).un c=a.un (b.un c):=by
 funext x
 unfold Mem.un
 cases h:a x<;>simp
theorem disj_un{a b c:Mem}:Disj a (b.un c)↔Disj a b∧Disj a c:=by
 constructor
 ·intro h
  refine⟨fun x=>?_,fun x=>?_⟩<;>rcases h x with e|e
  ·exact .inl e
  ·exact .inr (un_none.1 e).1
  ·exact .inl e
  ·exact .inr (un_none.1 e).2
 ·rintro⟨h1,h2⟩ x
  rcases h1 x with e|e
  ·exact .inl e
  ·rcases h2 x with e'|e'
   ·exact .inl e'
   ·exact .inr (un_none.2 ⟨e,e'⟩)
theorem disj_un'{a b c:Mem}:Disj (a.un b) c↔Disj a c∧Disj b c:=by
 constructor
 ·intro h;have:=disj_un.1 h.symm;exact⟨this.1.symm,this.2.symm⟩
 ·rintro⟨h1,h2⟩;exact(disj_un.2 ⟨h1.symm,h2.symm⟩).symm
theorem un_upd_l{a b:Mem}{x:Nat}(k:Bk):(a.un b).upd x k=(a.upd x k).un b:=by
 funext y
 by_cases e:y=x
 ·subst e;rw[Mem.upd_same,un_l (Mem.upd_same _ _ _)]
 ·rw[Mem.upd_ne _ _ e];unfold Mem.un;rw[Mem.upd_ne _ _ e]
theorem un_upd_r{a b:Mem}{x:Nat}(k:Bk)(h:a x=none):(a.un b).upd x k=a.un (b.upd x k):=by
 funext y
 by_cases e:y=x
 ·subst e;rw[Mem.upd_same,un_n h,Mem.upd_same]
 ·rw[Mem.upd_ne _ _ e];unfold Mem.un;rw[Mem.upd_ne _ _ e]
theorem Disj.upd{a b:Mem}(d:Disj a b){x:Nat}(k:Bk)(h:b x=none):Disj (a.upd x k) b:=by
 intro y
 by_cases e:y=x
 ·subst e;exact .inr h
 ·rw[Mem.upd_ne _ _ e];exact d y
def one(b:Nat)(k:Bk):Mem:=fun x=>if x=b then some k else none
theorem one_same(b:Nat)(k:Bk):one b k b=some k:=by simp[one]
theorem one_ne{b x:Nat}(k:Bk)(h:x≠b):one b k x=none:=by simp[one,h]
theorem one_upd(b:Nat)(k k':Bk):(one b k).upd b k'=one b k':=by
 funext x;unfold Mem.upd one;split<;>simp_all
theorem upd_one{m:Mem}{b:Nat}(k:Bk)(h:m b=none):m.upd b k=(one b k).un m:=by
 funext x
 by_cases e:x=b
 ·subst e;rw[Mem.upd_same,un_l (one_same _ _)]
 ·rw[Mem.upd_ne _ _ e,un_n (one_ne _ e)]
theorem disj_one{m:Mem}{b:Nat}(k:Bk)(h:m b=none):Disj (one b k) m:=by
 intro x
 by_cases e:x=b
 ·subst e;exact .inr h
 ·exact .inl (one_ne _ e)
def emp:Mem:=fun _=>none
theorem emp_un(m:Mem):emp.un m=m:=rfl
theorem un_emp(m:Mem):m.un emp=m:=by
 funext x;unfold Mem.un emp;cases m x<;>rfl
theorem disj_emp(m:Mem):Disj m emp:=fun _=>.inr rfl
theorem Fn.frame{P:Program}{f:FuncId}{args:List Value}{a b:Mem}{post:Value→Mem→Prop}(d:Disj a b)(h:Fn P f args a post):
 Fn P f args (a.un b) (fun v M'=>∃m',post v m'∧Disj m' b∧M'=m'.un b):=by
 refine⟨fun w hw=>?_⟩
 have hwa:Sat w a:=hw.le (le_l _ _)
 have hwb:Sat w b:=hw.le (le_r d)
 refine(h.out w hwa).mono fun e w' ⟨v,m',he,hp,hs,ht⟩=>?_
 have hd:Disj m' b:=by
  intro x
  cases h1:m' x with
  |none=>exact .inl rfl
  |some k=>
   right
   cases h2:b x with
   |none=>rfl
   |some k2=>
    have hlt:=(hwb x k2 h2).lt
    rcases ht.dom x (by rw[h1];simp)with h3|h3
    ·rcases d x with h4|h4
     ·exact absurd h4 h3
     ·rw[h2]at h4;cases h4
    ·omega
 refine⟨v,m'.un b,he,⟨m',hp,hd,rfl⟩,?_,⟨ht.os,ht.tape,ht.output,ht.size,?_,?_⟩⟩
 ·intro x k hk
  cases h1:m' x with
  |some k1=>rw[un_l h1]at hk;cases hk;exact hs x _ h1
  |none=>
   rw[un_n h1]at hk
   have hb:=hwb x k hk
   refine hb.of_eq (ht.keep x hb.lt ?_)
   rcases d x with h4|h4
   ·exact h4
   ·rw[hk]at h4;cases h4
 ·intro x hx hn
  exact ht.keep x hx (un_none.1 hn).1
 ·intro x hx
  cases h1:m' x with
  |some k1=>
   rcases ht.dom x (by rw[h1];simp)with h3|h3
   ·exact .inl fun e=>h3 (un_none.1 e).1
   ·exact .inr h3
  |none=>
   rw[un_n h1]at hx
   exact .inl fun e=>hx (un_none.1 e).2
theorem Fn.le{P:Program}{f:FuncId}{args:List Value}{m M:Mem}{post:Value→Mem→Prop}(l:m.le M)(h:Fn P f args m post):Fn P f args M post:=by
 refine⟨fun w hw=>(h.out w (hw.le l)).mono fun e w' ⟨v,m',he,hp,hs,ht⟩=>⟨v,m',he,hp,hs,ht.os,ht.tape,ht.output,ht.size,fun b hb hn=>ht.keep b hb ?_,fun b hb=>?_⟩⟩
 ·cases h:m b with
  |none=>rfl
  |some k=>rw[l b k h]at hn;cases hn
 ·rcases ht.dom b hb with h|h
  ·refine .inl fun e=>h ?_
   cases h':m b with
   |none=>rfl
   |some k=>rw[l b k h']at e;cases e
  ·exact .inr h
theorem Qt.frame{P:Program}{f:FuncId}{args:List Value}{a b:Mem}{r:Value}(d:Disj a b)(h:Qt P f args a r):Qt P f args (a.un b) r:=by
 refine(Fn.frame d h).mono ?_
 rintro v M' ⟨m',⟨rfl,rfl⟩,_,rfl⟩
 exact⟨rfl,rfl⟩
theorem FE_frame{P:Program}{f:Nat→SV}{m F:Mem}{k:K}{sv:SV}(d:Disj m F)(h:FE P f m k sv):FE P f (m.un F) k sv:=by
 rcases h with h|h
 ·exact .inl h
 ·right
  cases k<;>first|exact h.elim|skip
  case load one n x=>
   obtain⟨b,o,cs,v,h1,h2,h3⟩:=h
   exact⟨b,o,cs,v,h1,h2.imp un_l (fun⟨t,fr,h⟩=>⟨t,fr,un_l h⟩),h3⟩
  case look one z ok x i=>
   obtain⟨es,c,j,h1,h2⟩:=h
   exact⟨es,c,j,h1.imp id (fun⟨b,h,h'⟩=>⟨b,h,un_l h'⟩),h2⟩
  case alloc ow z=>cases ow<;>exact h
  case box ow x=>cases ow<;>exact h
  case bslice ow len size z ps=>cases ow<;>exact h
  case qcall g xs=>
   obtain⟨args,r,h1,h2,h3⟩:=h
   exact⟨args,r,h1,h2.frame d,h3⟩
theorem new_frame{m F:Mem}(d:Disj m F){q:Nat→Mem→Prop}{k:Nat→Bk}(h:∀b,m b=none→q b (m.upd b (k b))):∀b,(m.un F) b=none→∃m',q b m'∧Disj m' F∧(m.un F).upd b (k b)=m'.un F:=by
 intro b hb
 obtain⟨h1,h2⟩:=un_none.1 hb
 exact⟨_,h b h1,d.upd _ h2,un_upd_l _⟩
theorem set_frame{m F:Mem}(d:Disj m F){b:Nat}{k0 k:Bk}(hb:m b=some k0):Disj (m.upd b k) F∧(m.un F).upd b k=(m.upd b k).un F:=by
 have:F b=none:=by
  rcases d b with h|h
  ·rw[hb]at h;cases h
  ·exact h
 exact⟨d.upd _ this,un_upd_l _⟩
theorem appM_frame{m F:Mem}(d:Disj m F){size bytes:Nat}{s:Value}{src:List Value}{k:Nat}{q:Value→Mem→Prop}(h:appM m size bytes s src k q):
 appM (m.un F) size bytes s src k (fun v M'=>∃m',q v m'∧Disj m' F∧M'=m'.un F):=by
 unfold appM at*
 split at h
 ·obtain⟨h1,h2,h3,h4⟩:=h
  refine⟨h1,h2,h3,?_⟩
  rcases h4 with⟨h5,h6⟩|⟨h5,h6⟩
  ·exact .inl ⟨h5,_,h6,d,rfl⟩
  ·refine .inr ⟨h5,fun b c z e1 e2 e3=>?_⟩
   obtain⟨g1,g2⟩:=un_none.1 e1
   exact⟨_,h6 b c z g1 e2 e3,d.upd _ g2,un_upd_l _⟩
 ·obtain⟨cs,h1,h2,h4⟩:=h
  refine⟨cs,un_l h1,h2,?_⟩
  rcases h4 with⟨h5,h6,h7⟩|⟨h5,h6,h7⟩
  ·exact .inl ⟨h5,h6,_,h7,(set_frame d h1).1,(set_frame d h1).2⟩
  ·refine .inr ⟨h5,h6,fun b c z e1 e2 e3=>?_⟩
   obtain⟨g1,g2⟩:=un_none.1 e1
   exact⟨_,h7 b c z g1 e2 e3,d.upd _ g2,un_upd_l _⟩
 ·exact h
theorem srcC_frame{f:Nat→SV}{m F:Mem}{size:Nat}{x:Operand}{r:List Value×Nat}(h:srcC f m size x=some r):srcC f (m.un F) size x=some r:=by
 have key:∀y,srcC.srcV m size y=some r→srcC.srcV (m.un F) size y=some r:=by
  intro y hy
  unfold srcC.srcV at*
  split at hy
  ·exact hy
  ·split at hy
   ·rename_i cs hc
    rw[un_l hc];exact hy
   ·cases hy
  ·exact hy
  ·cases hy
 unfold srcC at*
 split at h
 ·split at h
  ·exact h
  ·exact key _ h
  ·cases h
 ·exact key _ h
 ·cases h
theorem vcK_frame{P:Program}{k:K}{dd:Option Nat}{post:St→Mem→Prop}{S:St}{m F:Mem}(d:Disj m F)(h:vcK P k dd post S m):vcK P k dd (fun S' M'=>∃m',post S' m'∧Disj m' F∧M'=m'.un F) S (m.un F):=by
 cases k
 case call g xs=>obtain⟨args,h1,h2⟩:=h;exact⟨args,h1,(h2.frame d).mono fun v M' h=>h⟩
 case callv x xs=>obtain⟨g,u,c,args,h1,h2,h3,h4⟩:=h;exact⟨g,u,c,args,h1,h2,h3,(h4.frame d).mono fun v M' h=>h⟩
 case store n x y=>
  obtain⟨v,h1,h2,h3,h4⟩:=h
  refine⟨v,h1,h2,h3,?_⟩
  rcases h4 with⟨s,o,cs,a1,a2,a3,a4⟩|⟨b,o,cs,a1,a2,a3,a4⟩
  ·exact .inl ⟨s,o,cs,a1,a2,a3,_,a4,d,rfl⟩
  ·exact .inr ⟨b,o,cs,a1,un_l a2,a3,_,a4,(set_frame d a2).1,(set_frame d a2).2⟩
 case alloc ow z=>
  cases ow with
  |false=>exact new_frame (k:=fun _=>.row z) d h
  |true=>obtain⟨sv,h1,h2⟩:=h;exact⟨sv,FE_frame d h1,_,h2,d,rfl⟩
 case box ow x=>
  cases ow with
  |false=>obtain⟨v,h1,h2⟩:=h;exact⟨v,h1,new_frame (k:=fun _=>.row v.cells.toList) d h2⟩
  |true=>obtain⟨sv,h1,h2⟩:=h;exact⟨sv,FE_frame d h1,_,h2,d,rfl⟩
 case bslice ow len size z ps=>
  cases ow with
  |false=>obtain⟨v,h1,h2⟩:=h;exact⟨v,h1,new_frame (k:=fun _=>.row v) d h2⟩
  |true=>obtain⟨sv,h1,h2⟩:=h;exact⟨sv,FE_frame d h1,_,h2,d,rfl⟩
 case mkslice size bytes z l c=>obtain⟨n,m,h1,h2,h3,h4,h5,h6⟩:=h;exact⟨n,m,h1,h2,h3,h4,h5,new_frame (k:=fun _=>.row (zrep z m)) d h6⟩
 case app size bytes z s x=>obtain⟨sv,src,n,h1,h2,h3,h4⟩:=h;exact⟨sv,src,n,h1,srcC_frame h2,h3,appM_frame d h4⟩
 case appz size bytes z s x=>obtain⟨sv,n,h1,h2,h3,h4,h5⟩:=h;exact⟨sv,n,h1,h2,h3,h4,appM_frame d h5⟩
 case mkmap=>exact new_frame (k:=fun _=>.mp #[] 0) d h
 case mupd m i y=>obtain⟨b,es,c,j,v,h1,h2,h3,h4,h5,h6⟩:=h;exact⟨b,es,c,j,v,h1,un_l h2,h3,h4,h5,_,h6,(set_frame d h2).1,(set_frame d h2).2⟩
 case mdel m i=>obtain⟨b,es,c,j,h1,h2,h3,h4,h5⟩:=h;exact⟨b,es,c,j,h1,un_l h2,h3,h4,_,h5,(set_frame d h2).1,(set_frame d h2).2⟩
 all_goals (obtain⟨sv,h1,h2⟩:=h;exact⟨sv,FE_frame d h1,_,h2,d,rfl⟩)
theorem vcO_frame{P:Program}{i:I}{post:St→Mem→Prop}{S:St}{m F:Mem}(d:Disj m F)(h:vcO P i post S m):vcO P i (fun S' M'=>∃m',post S' m'∧Disj m' F∧M'=m'.un F) S (m.un F):=by
 unfold vcO at*
 split at h
 ·exact vcK_frame d h
 ·split at h
  ·exact⟨fun e=>vcK_frame d (h.1 e),fun e=>⟨_,h.2 e,d,rfl⟩⟩
  ·exact⟨_,h,d,rfl⟩
  ·exact h
inductive T where
 |done
 |none
 |bad
 |alt (i:I) (t u:T)
 |alf (i:I) (t u:T)
def keepL:List Nat→St→St→Prop
 |[],_,_=>True
 |b::r,S,S'=>S' b=S b∧keepL r S S'
theorem keepL.get{S S':St}:∀{B:List Nat},keepL B S S'→∀t,t∈B→S' t=S t
 |b::r,h,t,ht=>by
  rcases List.mem_cons.1 ht with e|e
  ·subst e;exact h.1
  ·exact keepL.get h.2 t e
def vcT(P:Program)(B:List Nat)(post:St→Mem→Prop):T→Mem→St→Mem→Prop
 |.done,F,S,m=>post S (m.un F)
 |.none,_,_,_=>True
 |.bad,_,_,_=>False
 |.alt i t u,F,S,m=>vcO P i (fun S' m'=>keepL B S S'∧(Disj m' F→vcT P B post t F S' m')) S m∧vcT P B post u F S m
 |.alf i t u,F,S,m=>vcO P i (fun S' m'=>vcT P B post t emp S' m') S (m.un F)∧vcT P B post u F S m
def jx:SV→SV
 |.box _=>.junk
 |.bsl _ _=>.junk
 |x=>x
def jb(B:List Nat)(S:St):St:=fun t=>bif B.contains t then S t else jx (S t)
theorem jb_le(B:List Nat)(S:St):leF (jb B S) S:=fun t=>by
 unfold jb
 cases B.contains t with
 |true=>exact .inr rfl
 |false=>
  simp only[cond_false]
  cases S t<;>first|exact .inr rfl|exact .inl rfl
theorem jb_box{B:List Nat}{S:St}{t:Nat}(h:(jb B S t).isBox=true):t∈B:=by
 unfold jb at h
 cases hc:B.contains t with
 |true=>simpa using hc
 |false=>
  rw[hc]at h
  simp only[cond_false]at h
  cases hs:S t<;>rw[hs]at h<;>simp[jx,SV.isBox]at h
def floatH:K→Bool
 |.mov _|.pick _ _ _|.bin _ _ _|.eqB _ _ _|.eqA _ _ _ _|.not _|.conv _ _|.load _ _ _|.nilCheck _|.faddr _ _|.field _ _ _ _|.iaddr _ _ _|.sidx _ _|.build _ _|.slc _ _ _ _|.sslc _ _ _|.lenS _|.lenT _|.min _ _|.max _ _|.ext _ _|.mkfn _ _ _=>true
 |_=>false
def hOk(ops:Array Oper)(l:List I)(listed:Array Bool)(i:Nat):Bool:=
 (match ops[i]?,l[i]? with
  |some o,some x=>o.guard.isNone&&x.d.isSome&&floatH x.k
  |_,_=>false)&&(Region.ready .any ops listed).contains i&&Region.free .any ops listed i
def hz(ops:Array Oper)(l:List I):Nat→Nat→Array Bool→List Nat
 |0,_,_=>[]
 |n+1,i,listed=>if hOk ops l listed i then i::hz ops l n (i+1) (listed.setIfInBounds i true)else hz ops l n (i+1) listed
def hL:List Nat→Array Bool→Array Bool
 |[],listed=>listed
 |i::r,listed=>hL r (listed.setIfInBounds i true)
def early(ops:Array Oper)(zs:List Nat)(j:Nat):Bool:= !zs.all fun i=>Region.waitsFor .any ops j i
def altT(l:List I)(al:Nat→Bool)(fr:Bool)(f g:Nat→T):List Nat→T
 |[]=>.none
 |i::r=>match l[i]? with
  |some x=>bif al i then(bif fr then .bad else .alt x (f i) (altT l al fr f g r))else .alf x (g i) (altT l al fr f g r)
  |none=>.bad
def treeT(ops:Array Oper)(l:List I)(zs:List Nat):Nat→Bool→Array Bool→T
 |0,_,listed=>if(Region.ready .any ops listed).isEmpty then .done else .bad
 |n+1,fr,listed=>if(Region.ready .any ops listed).isEmpty then .done else altT l (early ops zs) fr (fun i=>treeT ops l zs n fr (listed.setIfInBounds i true)) (fun i=>treeT ops l zs n true (listed.setIfInBounds i true)) (Region.ready .any ops listed)
def stT:K→Option Nat
 |.store _ (.tmp t) _=>some t
 |_=>none
def hR0(ops:Array Oper):Array Bool:=Array.replicate ops.size false
def hZs(ops:Array Oper)(l:List I):List Nat:=hz ops l ops.size 0 (hR0 ops)
def hBs(own:List Nat)(ops:Array Oper)(l:List I):List Nat:=own.filter fun t=> !(l.filterMap (·.d)).contains t&& !((List.range l.length).any fun j=>early ops (hZs ops l) j&&((l[j]?).bind fun x=>stT x.k)==some t)
def hT(ops:Array Oper)(l:List I):T:=treeT ops l (hZs ops l) (ops.size-(hZs ops l).length) false (hL (hZs ops l) (hR0 ops))
section
variable {P:Program} {W0:World} {M0 M F:Mem} {β:Nat→Nat} {S S0:St} {f:Nat→SV} {n nt:Nat} {a a0:Act} {w w':World} {own:List Nat} {ops:Array Oper} {l:List I} {B:List Nat} {Q:Exit→Act→World→Prop}
theorem wpOp_tmps{i:Nat}{K:Act→World→Prop}(h:wpOp P ops Q i K a w):wpOp P ops Q i (fun a' w'=>(∀t,(∀o,ops[i]?=some o→o.dst≠some t)→a'.tmps.getD t undef=a.tmps.getD t undef)∧K a' w') a w:=by
 have key:∀(o:Oper) (x:Value) (a1:Act),a1.tmps=a.tmps→∀t,o.dst≠some t→(a1.put o.dst x).tmps.getD t undef=a.tmps.getD t undef:=by
  intro o x a1 e t ht
  cases hd:o.dst with
  |none=>show a1.tmps.getD t undef=_;rw[e]
  |some d=>
   have:t≠d:=fun e=>ht (by rw[hd,e])
   unfold Act.put
   simp only[Array.getD_eq_getD_getElem?]
   rw[Array.getElem?_setIfInBounds_ne (fun h=>this h.symm),e]
 unfold wpOp at*
 split
 ·rename_i ho;simp only[ho]at h;exact⟨fun t _=>rfl,h⟩
 ·rename_i o ho
  simp only[ho]at h
  have kk:∀(x:Value) (a1:Act),a1.tmps=a.tmps→∀t,(∀o',ops[i]?=some o'→o'.dst≠some t)→(a1.put o.dst x).tmps.getD t undef=a.tmps.getD t undef:=fun x a1 e t ht=>key o x a1 e t (ht o ho)
  split
  ·rename_i hw
   simp only[hw,if_true]at h
   refine h.imp ?_ id
   intro hh
   unfold Oper.wp at*
   generalize(execOp a.eval o).run P w=r at*
   cases r with
   |ok nx w1=>
    cases nx<;>simp only[Oper.upon]at hh⊢
    case value v=>exact⟨kk _ _ rfl,hh⟩
    case skip=>exact⟨kk _ _ rfl,hh⟩
    case defer d=>exact⟨kk _ _ rfl,hh⟩
    case enter g args=>
     refine Calls.mono hh fun e w'' he=>?_
     cases e with
     |returned u=>exact⟨kk _ _ rfl,he⟩
     |panicked c=>exact he
     |outgrown=>exact he
    case row row args=>exact Rows.mono hh fun u w'' he=>⟨kk _ _ rfl,he⟩
   |halt x w1=>cases x<;>simp only[Oper.upon]at hh⊢<;>exact hh
  ·rename_i hw
   simp only[hw]at h
   exact⟨kk _ _ rfl,h⟩
def wpAnyA(P:Program)(ops:Array Oper)(Q:Exit→Act→World→Prop)(S:World→Prop)(al:Nat→Bool):Nat→Array Bool→Act→World→Prop
 |0,listed,a,w=>Region.ready .any ops listed=[]∧Q .normal a w
 |fuel+1,listed,a,w=>(Region.ready .any ops listed=[]→Q .normal a w)∧
  ∀i∈Region.ready .any ops listed,wpOp P ops Q i (fun a' w'=>(al i=true→S w')∧wpAnyA P ops Q S al fuel (listed.setIfInBounds i true) a' w') a w
theorem wpAnyA_any{Sw:World→Prop}{al:Nat→Bool}:∀(fuel:Nat) {listed:Array Bool} {a:Act} {w:World},wpAnyA P ops Q Sw al fuel listed a w→wpAny P .any ops Q fuel listed a w
 |0,_,_,_,h=>h
 |fuel+1,_,_,_,h=>⟨h.1,fun i hi=>wpOp_mono (fun _ _ k=>wpAnyA_any fuel k.2) (h.2 i hi)⟩
theorem wpAnyA_take{Sw:World→Prop}{al:Nat→Bool}{i:Nat}{o:Oper}{v:Value}(ho:ops[i]?=some o)(hs:Region.noSelect ops=true)(hQ:∀c a w,¬Q (.panic c) a w)(hal:∀j,al j=false→Region.waitsFor .any ops j i=true):
 ∀(fuel:Nat) (listed:Array Bool) (a:Act) (w:World),(∀j oj,ops[j]?=some oj→j≠i→listed.getD j true=false→(∀e∈oj.after,Region.binds .any e=true→e.on≠i)→o.apart ops oj=true)→i∈Region.ready .any ops listed→
  YieldsIf P ops Sw o v a→Sw w→wpAnyA P ops Q Sw al fuel (listed.setIfInBounds i true) (a.put o.dst v) w→wpAnyA P ops Q Sw al (fuel+1) listed a w:=by
 intro fuel
 induction fuel with
 |zero=>
  intro listed a w _ hr hy hS H
  refine⟨fun h=>(by rw[h]at hr;cases hr),fun j hj=>?_⟩
  by_cases e:j=i
  ·subst e;exact hy.wpOp ho hS ⟨fun _=>hS,H⟩
  ·have:=ready_mono hj e
   rw[H.1]at this;cases this
 |succ fuel ih=>
  intro listed a w hf hr hy hS H
  refine⟨fun h=>(by rw[h]at hr;cases hr),fun j hj=>?_⟩
  by_cases e:j=i
  ·subst e;exact hy.wpOp ho hS ⟨fun _=>hS,H⟩
  ·obtain⟨hun,oj,hoj,hall⟩:=mem_ready.1 hj
   have hiu:=(mem_ready.1 hr).1
   have hno:∀e∈oj.after,Region.binds .any e=true→e.on≠i:=by
    intro e he hb heq
    have h1:=hall e he hb
    rw[heq]at h1
    rcases Nat.lt_or_ge i listed.size with h'|h'
    ·simp[h']at hiu h1;rw[hiu]at h1;cases h1
    ·simp[Array.getElem?_eq_none h']at h1
   have halj:al j=true:=by
    cases hc:al j with
    |true=>rfl
    |false=>
     obtain⟨e,he,hb,hon⟩:=waits_spec hoj (hal j hc)
     exact absurd hon (hno e he hb)
   have h2:=wpOp_putIf hoj (hf j oj hoj e hun hno) (fun cs b=>Region.noSelect_spec hs i o cs b ho) (fun cs b=>Region.noSelect_spec hs j oj cs b hoj) (fun c a w hq=>(hQ _ _ _ hq).elim) hy (H.2 j (ready_mono hj e))
   refine wpOp_mono ?_ h2
   rintro a' w' ⟨hy',hS',hrest⟩
   refine⟨fun _=>hS' halj,ih (listed.setIfInBounds j true) a' w' (fun k ok hk hki hku hkn=>hf k ok hk hki ?_ hkn) (ready_mono hr (Ne.symm e)) hy' (hS' halj) ?_⟩
   ·by_cases ejk:j=k
    ·subst ejk;exact hun
    ·rw[getD_set_ne true ejk]at hku;exact hku
   ·rw[Array.setIfInBounds_comm _ _ e];exact hrest
structure SwH (W0:World) (M0 F:Mem) (β:Nat→Nat) (B:List Nat) (S0:St) (w:World):Prop where
 sat:Sat w F
 stp:Stp W0 M0 w F
 bx:∀t,t∈B→match S0 t with
  |.box cs=>holds w (β t) (.row cs)
  |.bsl cs _=>holds w (β t) (.row cs)
  |_=>True
theorem RS_one{x y:Value}{sv:SV}(h:RS β x sv)(k:RS β y sv):x=y:=by
 cases sv<;>first|exact h.elim|exact Eq.trans h (Eq.symm k)
theorem fe_val(hR:RepF W0 M0 β f n M a w){o:Oper}{q own:Bool}{k:K}{sv:SV}(hk:trK P q own o.op=some k)(hf:floatH k=true)(h:FE P f M k sv):
 ∃x,(execOp a.eval o).run P w=.ok (.value x) w∧RS β x sv:=by
 rcases h with h|h
 ·exact pe_run hR hk h
 ·have hinv:=trK_inv hk
  cases k<;>first|(cases hf;done)|exact h.elim|skip
  case load one m x=>
   obtain⟨b,off,cs,v,hl,hM,hv,rfl⟩:=h
   obtain⟨t,d,i,hop,hdd,hi,rfl,rfl⟩:=hinv
   obtain⟨dst,op,ty,pos,after,guard⟩:=o
   simp only at hop
   subst hop
   refine⟨v,?_,rfl⟩
   simp only[execOp,hR.lc_mm hl]
   exact run_val (by simp only[Instr.loadAt,Instr.sureAddr,Sem.run_bind,Sem.run_pure,Result.andThen_ok];exact run_loadVar hdd hi (hM.elim (fun e=>(hR.sat _ _ e).ro) (fun⟨t,fr,e⟩=>⟨t,fr,hR.sat _ _ e⟩)) hv)
theorem floatH_float{k:K}(h:floatH k=true):floatK k=true:=by
 cases k<;>first|rfl|(cases h;done)
theorem RepF.swH{m:Mem}(hd:Disj m F)(hR:RepF W0 M0 β S nt (m.un F) a w)(hb:∀t,(S t).isBox=true→t∈B∧S t=S0 t)(h:SwH W0 M0 F β B S0 w'):RepF W0 M0 β S nt F a w' where
 df:=hR.df
 sz:=hR.sz
 out:=hR.out
 sat:=h.sat
 stp:=h.stp
 sv t:=by
  have hs:=hR.sv t
  cases e:S t with
  |v y=>rw[e]at hs;exact hs
  |bp s o=>rw[e]at hs;exact hs
  |junk=>exact trivial
  |box cs=>
   rw[e]at hs
   obtain⟨h1,h2⟩:=hb t (by rw[e];rfl)
   have h3:=h.bx t h1
   rw[←h2,e]at h3
   exact⟨hs.1,h3,(un_none.1 hs.2.2.1).2,hs.2.2.2⟩
  |bsl cs k=>
   rw[e]at hs
   obtain⟨h1,h2⟩:=hb t (by rw[e];rfl)
   have h3:=h.bx t h1
   rw[←h2,e]at h3
   exact⟨hs.1,h3,(un_none.1 hs.2.2.1).2,hs.2.2.2⟩
 inj:=hR.inj
structure KeepH (B:List Nat) (S0 S:St) (a0 a:Act):Prop where
 st:∀t,t∈B→S t=S0 t
 tm:∀t,t∈B→a.tmps.getD t undef=a0.tmps.getD t undef
theorem swH_of{β0:Nat→Nat}{w0:World}{m m0:Mem}(hd:Disj m F)(h0:RepF W0 M0 β0 S0 nt m0 a0 w0)(hR:RepF W0 M0 β S nt (m.un F) a w)(hk:KeepH B S0 S a0 a):SwH W0 M0 F β0 B S0 w where
 sat:=hR.sat.le (le_r hd)
 stp:=hR.stp.le (le_r hd)
 bx t ht:=by
  have h1:=h0.sv t
  have h2:=hR.sv t
  rw[hk.st t ht,hk.tm t ht]at h2
  cases e:S0 t<;>rw[e]at h1 h2<;>try exact trivial
  case box cs=>
   have e2:=h1.1.symm.trans h2.1
   simp only[Value.pointer.injEq,Option.some.injEq,Addr.mk.injEq,and_true]at e2
   show holds w (β0 t) _
   rw[e2];exact h2.2.1
  case bsl cs k=>
   have e2:=h1.1.symm.trans h2.1
   simp only[Value.slice.injEq,Option.some.injEq,Addr.mk.injEq,and_true]at e2
   show holds w (β0 t) _
   rw[e2];exact h2.2.1
theorem altT_mem{post:St→Mem→Prop}{al:Nat→Bool}{fr:Bool}{g g':Nat→T}{m:Mem}:∀{rs:List Nat},vcT P B post (altT l al fr g g' rs) F S m→∀i,i∈rs→∃x,l[i]?=some x∧
 ((al i=true∧fr=false∧vcO P x (fun S' m'=>keepL B S S'∧(Disj m' F→vcT P B post (g i) F S' m')) S m)∨(al i=false∧vcO P x (fun S' m'=>vcT P B post (g' i) emp S' m') S (m.un F)))
 |j::r,h,i,hi=>by
  unfold altT at h
  cases hj:l[j]? with
  |none=>rw[hj]at h;exact h.elim
  |some x=>
   rw[hj]at h
   simp only at h
   cases ha:al j with
   |true=>
    simp only[ha,cond_true]at h
    cases hfr:fr with
    |true=>simp only[hfr,cond_true]at h;exact h.elim
    |false=>
     have h:vcT P B post (.alt x (g j) (altT l al fr g g' r)) F S m:=by simpa only[hfr,cond_false]using h
     rcases List.mem_cons.1 hi with e|e
     ·subst e;exact⟨x,hj,.inl ⟨ha,rfl,h.1⟩⟩
     ·have:=altT_mem h.2 i e
      rwa [hfr]at this
   |false=>
    have h:vcT P B post (.alf x (g' j) (altT l al fr g g' r)) F S m:=by simpa only[ha,cond_false]using h
    rcases List.mem_cons.1 hi with e|e
    ·subst e;exact⟨x,hj,.inr ⟨ha,h.1⟩⟩
    ·exact altT_mem h.2 i e
theorem op_of{i:Nat}{o:Oper}{K:Act→World→Prop}(ho:ops[i]?=some o)(h:if Region.wanted o (yielded ops a.tmps)then o.wp P a w K Q else K (a.put o.dst undef) w):wpOp P ops Q i K a w:=by
 unfold wpOp
 rw[ho]
 simp only
 split
 ·rename_i hw;rw[if_pos hw]at h;exact .inl h
 ·rename_i hw;rw[if_neg hw]at h;exact h
theorem disj_e(m:Mem):Disj m emp:=disj_emp m
theorem T_sound{zs:List Nat}(htr:trL P own nt ops 0 ops.toList=some l)(hBd:∀x,x∈l→∀d,x.d=some d→d∉B){β0:Nat→Nat}{w0:World}{m0:Mem}(h0:RepF W0 M0 β0 S0 nt m0 a0 w0){post:St→Mem→Prop}
 (hK:∀S' m' a' w' β',post S' m'→RepF W0 M0 β' S' nt m' a' w'→Q .normal a' w'):
 ∀(fuel:Nat) (fr:Bool) (listed:Array Bool) (F':Mem) (S:St) (m:Mem) (β:Nat→Nat) (a:Act) (w:World),(fr=false→F'=F∧KeepH B S0 S a0 a)→Disj m F'→RepF W0 M0 β S nt (m.un F') a w→vcT P B post (treeT ops l zs fuel fr listed) F' S m→
  wpAnyA P ops Q (SwH W0 M0 F β0 B S0) (early ops zs) fuel listed a w
 |0,fr,listed,F',S,m,β,a,w,hk,hd,hR,hv=>by
  unfold treeT at hv
  split at hv
  ·rename_i he
   exact⟨by simpa using he,hK _ _ _ _ _ hv hR⟩
  ·exact hv.elim
 |fuel+1,fr,listed,F',S,m,β,a,w,hk,hd,hR,hv=>by
  unfold treeT at hv
  split at hv
  ·rename_i he
   have he:Region.ready .any ops listed=[]:=by simpa using he
   exact⟨fun _=>hK _ _ _ _ _ hv hR,fun i hi=>by rw[he]at hi;cases hi⟩
  ·rename_i he
   refine⟨fun h=>absurd (by simpa using h) he,fun i hi=>?_⟩
   obtain⟨x,hx,hvx⟩:=altT_mem hv i hi
   obtain⟨_,o,ho,_⟩:=mem_ready.1 hi
   obtain⟨x',hx',htx⟩:=trL_get htr i o (by rw[Array.getElem?_toList];exact ho)
   have:x'=x:=by rw[hx]at hx';exact(Option.some.inj hx').symm
   subst this
   obtain⟨_,_,hxd,_⟩:=trI_some htx
   rcases hvx with⟨hal,hfr,hvx⟩|⟨hal,hvx⟩
   ·obtain⟨hF,hk0⟩:=hk hfr
    have hF:=hF.symm
    subst hF
    have hst:=vcO_sound (Q:=Q) (K:=fun a' w'=>∃S' m' β',(keepL B S S'∧(Disj m' F→vcT P B post (treeT ops l zs fuel fr (listed.setIfInBounds i true)) F S' m'))∧Disj m' F∧RepF W0 M0 β' S' nt (m'.un F) a' w') hR htx (vcO_frame hd hvx) (by
     rintro S' M' a' w' β' ⟨m',hp,hd',rfl⟩ hR'
     exact⟨S',m',β',hp,hd',hR'⟩)
    refine wpOp_mono ?_ (wpOp_tmps (op_of ho hst))
    rintro a' w' ⟨htm,S',m',β',⟨hkl,hv'⟩,hd',hR'⟩
    have hk':KeepH B S0 S' a0 a':=⟨fun t ht=>by rw[hkl.get t ht,hk0.st t ht],fun t ht=>by
     rw[htm t (fun o' ho' hdt=>?_),hk0.tm t ht]
     rw[ho]at ho'
     cases ho'
     exact hBd x' (List.mem_of_getElem? hx) t (hxd.trans hdt) ht⟩
    exact⟨fun _=>swH_of hd' h0 hR' hk',T_sound htr hBd h0 hK fuel fr _ F S' m' β' a' w' (fun _=>⟨rfl,hk'⟩) hd' hR' (hv' hd')⟩
   ·have hst:=vcO_sound (Q:=Q) (K:=fun a' w'=>∃S' m' β',vcT P B post (treeT ops l zs fuel true (listed.setIfInBounds i true)) emp S' m'∧RepF W0 M0 β' S' nt m' a' w') hR htx hvx (by
     intro S' M' a' w' β' hp hR'
     exact⟨S',M',β',hp,hR'⟩)
    refine wpOp_mono ?_ (op_of ho hst)
    rintro a' w' ⟨S',m',β',hv',hR'⟩
    exact⟨fun h=>(by rw[hal]at h;cases h),T_sound htr hBd h0 hK fuel true _ emp S' m' β' a' w' (fun h=>by cases h) (disj_e m') (by rw[un_emp];exact hR') hv'⟩
theorem hz_ok:∀(k i:Nat) (listed:Array Bool) {j:Nat} {r:List Nat},j::r=hz ops l k i listed→hOk ops l listed j=true∧∃k',r=hz ops l k' (j+1) (listed.setIfInBounds j true)
 |0,i,listed,j,r,h=>by simp[hz]at h
 |k+1,i,listed,j,r,h=>by
  simp only[hz]at h
  by_cases c:hOk ops l listed i=true
  ·rw[if_pos c]at h
   obtain⟨rfl,rfl⟩:=List.cons.inj h
   exact⟨c,k,rfl⟩
  ·rw[if_neg c]at h
   exact hz_ok k (i+1) listed h
theorem Z_sound{al:Nat→Bool}(hs:Region.noSelect ops=true)(hQ:∀c a w,¬Q (.panic c) a w)(htr:trL P own nt ops 0 ops.toList=some l)(hBd:∀x,x∈l→∀d,x.d=some d→d∉B){β:Nat→Nat}{w:World}{m:Mem}(hd:Disj m F)(hsw:SwH W0 M0 F β B S0 w)
 {post:St→Mem→Prop} {fuel:Nat} {Lf:Array Bool} (hK:∀S' a',post S' F→RepF W0 M0 β S' nt (m.un F) a' w→KeepH B S0 S' a0 a'→wpAnyA P ops Q (SwH W0 M0 F β B S0) al fuel Lf a' w):
 ∀(zs:List Nat) (k i:Nat) (listed:Array Bool) (S:St) (a:Act),(∀z,z∈zs→∀j,al j=false→Region.waitsFor .any ops j z=true)→zs=hz ops l k i listed→hL zs listed=Lf→RepF W0 M0 β S nt (m.un F) a w→KeepH B S0 S a0 a→(∀t,(S t).isBox=true→t∈B)→
  vcL P (getsI l zs) post S F→wpAnyA P ops Q (SwH W0 M0 F β B S0) al (zs.length+fuel) listed a w
 |[],k,i,listed,S,a,_,_,hl,hR,hk,hb,hv=>by
  have hl:listed=Lf:=hl
  subst hl
  simpa using hK S a hv hR hk
 |j::r,k,i,listed,S,a,hal,hz',hl,hR,hk,hb,hv=>by
  obtain⟨hok,k',hr⟩:=hz_ok (ops:=ops) (l:=l) k i listed hz'
  unfold hOk at hok
  simp only[Bool.and_eq_true]at hok
  obtain⟨⟨h1,h2⟩,h3⟩:=hok
  split at h1
  ·rename_i o x ho hx
   simp only[Bool.and_eq_true,Option.isNone_iff_eq_none]at h1
   obtain⟨⟨hg,hdd⟩,hf⟩:=h1
   obtain⟨d,hxd⟩:=Option.isSome_iff_exists.1 hdd
   obtain⟨x',hx',htx⟩:=trL_get htr j o (by rw[Array.getElem?_toList];exact ho)
   have:x'=x:=by rw[hx]at hx';exact(Option.some.inj hx').symm
   subst this
   obtain⟨ow,hk1,hk2,hk3,hk4,hk5⟩:=trI_some htx
   have hxg:x'.g=none:=by
    rcases hk5 with⟨_,h⟩|⟨_,_,_,h,_⟩
    ·exact h
    ·rw[hg]at h;cases h
   have hgets:getsI l (j::r)=x'::getsI l r:=by simp[getsI,hx]
   rw[hgets]at hv
   obtain⟨sv,hfo,hp⟩:=FO_of_vcO (floatH_float hf) hv
   have hfe:FE P S F x'.k sv:=by unfold FO at hfo;rw[hxg]at hfo;exact hfo
   have hbb:∀t,(S t).isBox=true→t∈B∧S t=S0 t:=fun t ht=>⟨hb t ht,hk.st t (hb t ht)⟩
   obtain⟨v,hv1,hv2⟩:=fe_val (hR.swH hd hbb hsw) hk1 hf hfe
   have hnb:sv.isBox=false:=by cases sv<;>first|rfl|exact hv2.elim
   have hdst:o.dst=some d:=by rw[←hk2];exact hxd
   have hdl:d<nt:=hk4 d hdst
   have hdB:d∉B:=hBd x' (List.mem_of_getElem? hx) d hxd
   have hput:putX S x'.d sv=upF S d sv:=by
    rw[hxd];unfold putX;rw[hnb];simp only[Bool.false_eq_true,if_false]
    cases sv<;>first|rfl|(cases hnb)
   rw[hput]at hp
   have hy:YieldsIf P ops (SwH W0 M0 F β B S0) o v a:=by
    refine .inl ⟨by simp[Region.wanted,hg],fun w' hw'=>?_⟩
    obtain⟨v',hv1',hv2'⟩:=fe_val (hR.swH hd hbb hw') hk1 hf hfe
    rw[hv1',RS_one hv2' hv2]
   have hR':RepF W0 M0 β (upF S d sv) nt (m.un F) (a.put o.dst v) w:=by rw[hdst];exact hR.put hdl hv2
   have hk':KeepH B S0 (upF S d sv) a0 (a.put o.dst v):=by
    refine⟨fun t ht=>?_,fun t ht=>?_⟩
    ·have:t≠d:=fun e=>hdB (by rw[←e];exact ht)
     rw[upF_eq,if_neg this];exact hk.st t ht
    ·have:t≠d:=fun e=>hdB (by rw[←e];exact ht)
     rw[hdst,getD_put (by rw[hR.sz];exact hdl),if_neg this];exact hk.tm t ht
   have hb':∀t,(upF S d sv t).isBox=true→t∈B:=by
    intro t ht
    rw[upF_eq]at ht
    split at ht
    ·rw[hnb]at ht;cases ht
    ·exact hb t ht
   have:=Z_sound hs hQ htr hBd hd hsw hK r k' (j+1) (listed.setIfInBounds j true) (upF S d sv) (a.put o.dst v) (fun z hz=>hal z (by simp[hz])) hr hl hR' hk' hb' hp
   rw[show(j::r).length+fuel=(r.length+fuel)+1 by simp;omega]
   exact wpAnyA_take ho hs hQ (hal j (by simp)) _ listed a w (Region.free_spec ho h3) (by simpa using h2) hy hsw this
  ·cases h1
theorem hreg_sound{id:Nat}(hm:P.follows .mixedOrders=true)(htr:trL P own nt ops 0 ops.toList=some l)(hs:Region.noSelect ops=true)(hQ:∀c a w,¬Q (.panic c) a w){post:St→Mem→Prop}{m:Mem}(hd:Disj m F)
 (hle:(hZs ops l).length≤ops.size) (hR:RepF W0 M0 β S nt (m.un F) a w) (h:vcL P (getsI l (hZs ops l)) (fun S' _=>vcT P (hBs own ops l) post (hT ops l) F S' m) (jb (hBs own ops l) S) F)
 (hK:∀S' m' a' w' β',post S' m'→RepF W0 M0 β' S' nt m' a' w'→Q .normal a' w'):(Code.region id ops true).wp P Q a w:=by
 have hBd:∀x,x∈l→∀d,x.d=some d→d∉hBs own ops l:=by
  intro x hx d hxd hb
  unfold hBs at hb
  rw[List.mem_filter]at hb
  have hc:(l.filterMap (·.d)).contains d=true:=by
   rw[List.contains_iff_mem]
   exact List.mem_filterMap.2 ⟨x,hx,hxd⟩
  rw[hc]at hb
  simp at hb
 have hRj:=hR.weak (jb_le (hBs own ops l) S)
 have hR1:RepF W0 M0 β (jb (hBs own ops l) S) nt (m.un F) a {w with drawn:=w.drawn+1}:=hRj.step (M':=m.un F) (w':={w with drawn:=w.drawn+1}) (fun b k e=>(hRj.sat b k e).of_eq rfl) ⟨rfl,rfl,rfl,Nat.le_refl _,fun _ _ _=>rfl,fun _ h=>.inl h⟩
 have hk0:KeepH (hBs own ops l) (jb (hBs own ops l) S) (jb (hBs own ops l) S) a a:=⟨fun _ _=>rfl,fun _ _=>rfl⟩
 have hsw:=swH_of hd hR1 hR1 hk0
 refine wp_region_any hm (wpAnyA_any (Sw:=SwH W0 M0 F β (hBs own ops l) (jb (hBs own ops l) S)) (al:=early ops (hZs ops l)) _ ?_)
 have hal:∀z,z∈hZs ops l→∀j,early ops (hZs ops l) j=false→Region.waitsFor .any ops j z=true:=by
  intro z hz j hj
  unfold early at hj
  simp only[Bool.not_eq_false']at hj
  exact List.all_eq_true.1 hj z hz
 have:=Z_sound (a0:=a) (post:=fun S' _=>vcT P (hBs own ops l) post (hT ops l) F S' m) (fuel:=ops.size-(hZs ops l).length) (Lf:=hL (hZs ops l) (hR0 ops)) hs hQ htr hBd hd hsw (fun S' a' hv hR' hk'=>T_sound htr hBd hR1 hK _ false _ F S' m β a' _ (fun _=>⟨rfl,hk'⟩) hd hR' hv)
  (hZs ops l) ops.size 0 (hR0 ops) (jb (hBs own ops l) S) a hal rfl rfl hR1 hk0 (fun t ht=>jb_box ht) h
 rw[show(hZs ops l).length+(ops.size-(hZs ops l).length)=ops.size by omega]at this
 exact this
end
end Go.Proofs.YtpleoapljeffiaaGreatDoor.E
