/- A part of the proof. Conditions: none. -/
import Derived.Test.YtpleoapljeffiaaGreatDoorKE6
set_option linter.unusedVariables false
set_option linter.unusedSimpArgs false
namespace Go.Proofs.YtpleoapljeffiaaGreatDoor.E
open Go
def UpC(p:St→Mem→Prop):Prop:=∀S M M',M.le M'→p S M→p S M'
theorem upP_up(post:St→List Asr→Prop):UpC (upP post):=fun S M M' l ⟨As,m,h1,h2,h3⟩=>⟨As,m,Mem.le_trans h1 l,h2,h3⟩
theorem le_none{M M':Mem}(l:M.le M'){b:Nat}(h:M' b=none):M b=none:=by
 cases e:M b with
 |none=>rfl
 |some k=>rw[l b k e]at h;cases h
theorem Qt.up{P:Program}{f:FuncId}{args:List Value}{M M':Mem}{v:Value}(l:M.le M')(h:Qt P f args M v):Qt P f args M' v:=by
 have hd:Disj M (fun x=>match M x with|none=>M' x|some _=>none):=fun x=>by
  cases e:M x with
  |none=>exact .inl rfl
  |some k=>right;simp only[e]
 have he:M.un (fun x=>match M x with|none=>M' x|some _=>none)=M':=by
  funext x
  cases e:M x with
  |none=>rw[un_n e];simp only[e]
  |some k=>rw[un_l e,l x k e]
 have:=Fn.frame hd h
 rw[he]at this
 refine this.mono ?_
 rintro v' M1 ⟨m',⟨h1,h2⟩,_,h3⟩
 subst h2
 exact⟨h1,h3.trans he⟩
theorem fe_up{P:Program}{f:Nat→SV}{M M':Mem}(l:M.le M'){k:K}{sv:SV}(h:FE P f M k sv):FE P f M' k sv:=by
 rcases h with h|h
 ·exact .inl h
 ·right
  cases k<;>(try(exact h.elim))<;>(try exact h)
  case load one n x=>
   obtain⟨b,o,cs,v,h1,h2,h3,h4⟩:=h
   exact⟨b,o,cs,v,h1,h2.imp (l _ _) (fun⟨t,fr,e⟩=>⟨t,fr,l _ _ e⟩),h3,h4⟩
  case alloc ow z=>cases ow<;>first|exact h.elim|exact h
  case box ow z=>cases ow<;>first|exact h.elim|exact h
  case bslice ow len size z ps=>cases ow<;>first|exact h.elim|exact h
  case look one z ok x i=>
   obtain⟨es,c,j,h1,h2⟩:=h
   refine⟨es,c,j,h1.imp id (fun⟨b,e1,e2⟩=>⟨b,e1,l _ _ e2⟩),h2⟩
  case qcall g xs=>
   obtain⟨args,r,h1,h2,h3⟩:=h
   exact⟨args,r,h1,h2.up l,h3⟩
theorem srcV_up{M M':Mem}(l:M.le M'){size:Nat}{v:Value}{s:List Value×Nat}(h:srcC.srcV M size v=some s):srcC.srcV M' size v=some s:=by
 unfold srcC.srcV at*
 split at h
 ·exact h
 ·rename_i b o k c
  split at h
  ·rename_i cs hM;simp only[l _ _ hM];exact h
  ·cases h
 ·exact h
 ·cases h
theorem src_up{f:Nat→SV}{M M':Mem}(l:M.le M'){size:Nat}{x:Operand}{s:List Value×Nat}(h:srcC f M size x=some s):srcC f M' size x=some s:=by
 unfold srcC at*
 split at h
 ·split at h
  ·exact h
  ·exact srcV_up l h
  ·cases h
 ·exact srcV_up l h
 ·cases h
theorem appM_up{M M':Mem}(l:M.le M'){size bytes:Nat}{s:Value}{src:List Value}{k:Nat}{q:Value→Mem→Prop}(hq:∀v M M',M.le M'→q v M→q v M')(h:appM M size bytes s src k q):appM M' size bytes s src k q:=by
 unfold appM at*
 split at h
 ·obtain⟨h1,h2,h3,h4⟩:=h
  refine⟨h1,h2,h3,?_⟩
  rcases h4 with⟨h5,h6⟩|⟨h5,h6⟩
  ·exact .inl ⟨h5,hq _ _ _ l h6⟩
  ·exact .inr ⟨h5,fun b c z e1 e2 e3=>hq _ _ _ (Mem.upd_le_upd l _ _) (h6 b c z (le_none l e1) e2 e3)⟩
 ·obtain⟨cs,h1,h2,h4⟩:=h
  refine⟨cs,l _ _ h1,h2,?_⟩
  rcases h4 with⟨h5,h6,h7⟩|⟨h5,h6,h7⟩
  ·exact .inl ⟨h5,h6,hq _ _ _ (Mem.upd_le_upd l _ _) h7⟩
  ·exact .inr ⟨h5,h6,fun b c z e1 e2 e3=>hq _ _ _ (Mem.upd_le_upd l _ _) (h7 b c z (le_none l e1) e2 e3)⟩
 ·exact h
theorem vcK_up{P:Program}{k:K}{d:Option Nat}{p:St→Mem→Prop}(hp:UpC p){S:St}{M M':Mem}(l:M.le M')(h:vcK P k d p S M):vcK P k d p S M':=by
 have flo:(∃sv,FE P S M k sv∧p (if sv.isBox then putB S d sv else put S d sv) M)→∃sv,FE P S M' k sv∧p (if sv.isBox then putB S d sv else put S d sv) M':=
  fun⟨sv,h1,h2⟩=>⟨sv,fe_up l h1,hp _ _ _ l h2⟩
 cases k
 case call=>obtain⟨args,h1,h2⟩:=h;exact⟨args,h1,h2.le l⟩
 case callv=>obtain⟨g,u,c,args,h1,h2,h3,h4⟩:=h;exact⟨g,u,c,args,h1,h2,h3,h4.le l⟩
 case store=>
  obtain⟨v,h1,h2,h3,h4⟩:=h
  refine⟨v,h1,h2,h3,?_⟩
  rcases h4 with⟨s,o,cs,a1,a2,a3,a4⟩|⟨b,o,cs,a1,a2,a3,a4⟩
  ·exact .inl ⟨s,o,cs,a1,a2,a3,hp _ _ _ l a4⟩
  ·exact .inr ⟨b,o,cs,a1,l _ _ a2,a3,hp _ _ _ (Mem.upd_le_upd l _ _) a4⟩
 case alloc ow z=>
  cases ow with
  |false=>exact fun b hb=>hp _ _ _ (Mem.upd_le_upd l _ _) (h b (le_none l hb))
  |true=>exact flo h
 case box ow x=>
  cases ow with
  |false=>obtain⟨v,h1,h2⟩:=h;exact⟨v,h1,fun b hb=>hp _ _ _ (Mem.upd_le_upd l _ _) (h2 b (le_none l hb))⟩
  |true=>exact flo h
 case bslice ow len size z ps=>
  cases ow with
  |false=>obtain⟨v,h1,h2⟩:=h;exact⟨v,h1,fun b hb=>hp _ _ _ (Mem.upd_le_upd l _ _) (h2 b (le_none l hb))⟩
  |true=>exact flo h
 case mkslice=>obtain⟨n,m,h1,h2,h3,h4,h5,h6⟩:=h;exact⟨n,m,h1,h2,h3,h4,h5,fun b hb=>hp _ _ _ (Mem.upd_le_upd l _ _) (h6 b (le_none l hb))⟩
 case app=>obtain⟨sv,src,n,h1,h2,h3,h4⟩:=h;exact⟨sv,src,n,h1,src_up l h2,h3,appM_up l (fun _ _ _ l h=>hp _ _ _ l h) h4⟩
 case appz=>obtain⟨sv,n,h1,h2,h3,h4,h5⟩:=h;exact⟨sv,n,h1,h2,h3,h4,appM_up l (fun _ _ _ l h=>hp _ _ _ l h) h5⟩
 case mkmap=>exact fun b hb=>hp _ _ _ (Mem.upd_le_upd l _ _) (h b (le_none l hb))
 case mupd=>obtain⟨b,es,c,j,v,h1,h2,h3,h4,h5,h6⟩:=h;exact⟨b,es,c,j,v,h1,l _ _ h2,h3,h4,h5,hp _ _ _ (Mem.upd_le_upd l _ _) h6⟩
 case mdel=>obtain⟨b,es,c,j,h1,h2,h3,h4,h5⟩:=h;exact⟨b,es,c,j,h1,l _ _ h2,h3,h4,hp _ _ _ (Mem.upd_le_upd l _ _) h5⟩
 all_goals exact flo h
theorem vcL_up{P:Program}{p:St→Mem→Prop}(hp:UpC p):∀l:List I,UpC (vcL P l p)
 |[]=>hp
 |i::r=>fun S M M' le h=>by
  have ih:=vcL_up (P:=P) hp r
  show vcO P i (vcL P r p) S M'
  have h:vcO P i (vcL P r p) S M:=h
  unfold vcO at*
  split at h
  ·exact vcK_up ih le h
  ·split at h
   ·exact⟨fun e=>vcK_up ih le (h.1 e),fun e=>ih _ _ _ le (h.2 e)⟩
   ·exact ih _ _ _ le h
   ·exact h
theorem LA.at{P:Program}{l:List I}{post:St→List Asr→Prop}{S:St}{As:List Asr}(h:LA P l post S As){m M:Mem}(s:star As m)(le:m.le M):VL P l (upP post) S M:=
 ⟨vcL_up (upP_up post) l S m M le (h.out m s).out⟩
section
variable {P:Program} {S:St} {As:List Asr} {post:St→List Asr→Prop} {r:List I} {d:Option Nat}
theorem a_n(h:post S As):LA P [] post S As:=⟨fun m hm=>vl_nil (upP_of hm h)⟩
theorem a_p{k:K}{sv:SV}(h:pe S k=some sv)(hp:LA P r post (put S d sv) As):LA P (⟨d,none,k⟩::r) post S As:=⟨fun m hm=>vl_pure h (hp.out m hm)⟩
theorem a_ad{x y:Operand}{a b:Int}(hx:ev S x=some (.int .i64 a))(hy:ev S y=some (.int .i64 b))(hb: -9223372036854775808≤a+b∧a+b≤9223372036854775807)
 (hp:LA P r post (put S d (.v (.int .i64 (a+b)))) As):LA P (⟨d,none,.bin .add x y⟩::r) post S As:=⟨fun m hm=>vl_add hx hy hb (hp.out m hm)⟩
theorem a_su{x y:Operand}{a b:Int}(hx:ev S x=some (.int .i64 a))(hy:ev S y=some (.int .i64 b))(hb: -9223372036854775808≤a-b∧a-b≤9223372036854775807)
 (hp:LA P r post (put S d (.v (.int .i64 (a-b)))) As):LA P (⟨d,none,.bin .sub x y⟩::r) post S As:=⟨fun m hm=>vl_sub hx hy hb (hp.out m hm)⟩
theorem a_ml{x y:Operand}{a b:Int}(hx:ev S x=some (.int .i64 a))(hy:ev S y=some (.int .i64 b))(hb: -9223372036854775808≤a*b∧a*b≤9223372036854775807)
 (hp:LA P r post (put S d (.v (.int .i64 (a*b)))) As):LA P (⟨d,none,.bin .mul x y⟩::r) post S As:=⟨fun m hm=>vl_mul hx hy hb (hp.out m hm)⟩
theorem a_i{e:D}{x y:Operand}{size n cap:Nat}{k:IntKind}{i:Int}(hx:ev S x=some (.slice e.a n cap))(hy:ev S y=some (.int k i))(hb:Kn As (e.a=some ⟨e.b,e.o,none⟩))(hi:0≤i∧i<n)
 (hp:LA P r post (put S d (.v (.pointer (some ⟨e.b,e.o+i.toNat*size,none⟩)))) As):LA P (⟨d,none,.iaddr size x y⟩::r) post S As:=
 ⟨fun m hm=>vl_idx (by rw[hx,hb.out m hm]) hy hi (hp.out m hm)⟩
theorem a_l{n:Nat}{x:Operand}{b o:Nat}{v:Value}(hx:lc S x=some (.mm b o))(hv:Rd As b o v)(hp:LA P r post (put S d (.v v)) As):LA P (⟨d,none,.load true n x⟩::r) post S As:=
 ⟨fun m hm=>vl_ld hx (hv.out m hm) (hp.out m hm)⟩
theorem a_ls{n:Nat}{x:Operand}{b o:Nat}{vs:List Value}(hx:lc S x=some (.mm b o))(hv:Rs As b o n vs)(hp:LA P r post (put S d (.v (.agg vs.toArray))) As):LA P (⟨d,none,.load false n x⟩::r) post S As:=
 ⟨fun m hm=>vl_lds hx (hv.out m hm) (hp.out m hm)⟩
theorem a_al{z:List Value}(hp:LA P r post (putB S d (.box z)) As):LA P (⟨d,none,.alloc true z⟩::r) post S As:=⟨fun m hm=>vl_alloc (hp.out m hm)⟩
theorem a_bx{x:Operand}{v:Value}{cs:List Value}(hx:ev S x=some v)(hc:v.cells.toList=cs)(hp:LA P r post (putB S d (.box cs)) As):LA P (⟨d,none,.box true x⟩::r) post S As:=⟨fun m hm=>vl_box hx hc (hp.out m hm)⟩
theorem a_bl{len size:Nat}{z cs:List Value}{ps:List (Nat×Nat×Operand)}(hf:fillP S z ps=some cs)(hp:LA P r post (putB S d (.bsl cs len)) As):LA P (⟨d,none,.bslice true len size z ps⟩::r) post S As:=⟨fun _ hm=>vl_bsl hf (hp.out _ hm)⟩
theorem a_q{g:FuncId}{xs:List Operand}{args:List Value}{v:Value}(hx:evs S xs=some args)(hq:∀m,star As m→Qt P g args m v)(hp:LA P r post (put S d (.v v)) As):LA P (⟨d,none,.qcall g xs⟩::r) post S As:=⟨fun m hm=>vl_q hx (hq m hm) (hp.out m hm)⟩
theorem a_cq{g:FuncId}{xs:List Operand}{args:List Value}{v:Value}(hx:evs S xs=some args)(hq:∀m,star As m→Qt P g args m v)(hp:LA P r post (put S d (.v v)) As):LA P (⟨d,none,.call g xs⟩::r) post S As:=⟨fun m hm=>vl_cq hx (hq m hm) (hp.out m hm)⟩
theorem a_c{g:FuncId}{xs:List Operand}{args:List Value}{As1 F:List Asr}{q:Value→List Asr→Prop}(hx:evs S xs=some args)(hq:FnA P g args As1 q)(hm:Pm As As1 F)(hp:∀v As',q v As'→LA P r post (put S d (.v v)) (As'++F)):
 LA P (⟨d,none,.call g xs⟩::r) post S As:=
 ⟨fun m s=>vl_c hx ((hq.frame (F:=F)).out m (hm.out m s)) (fun v M' ⟨As',m',l,s',As1',h1,e⟩=>by subst e;exact(hp v As1' h1).at s' l)⟩
theorem a_cv{g:FuncId}{x:Operand}{u c:Array Value}{xs:List Operand}{args:List Value}{As1 F:List Asr}{q:Value→List Asr→Prop}(hf:ev S x=some (.func (.func g) u c))(hok:fnOk P g=true)(hx:evs S xs=some args)(hq:FnA P g (u.toList++args++c.toList) As1 q)(hm:Pm As As1 F)
 (hp:∀v As',q v As'→LA P r post (put S d (.v v)) (As'++F)):LA P (⟨d,none,.callv x xs⟩::r) post S As:=
 ⟨fun m s=>vl_cv hf hok hx ((hq.frame (F:=F)).out m (hm.out m s)) (fun v M' ⟨As',m',l,s',As1',h1,e⟩=>by subst e;exact(hp v As1' h1).at s' l)⟩
theorem a_cvq{g:FuncId}{x:Operand}{u c:Array Value}{xs:List Operand}{args:List Value}{v:Value}(hf:ev S x=some (.func (.func g) u c))(hok:fnOk P g=true)(hx:evs S xs=some args)(hq:∀m,star As m→Qt P g (u.toList++args++c.toList) m v)
 (hp:LA P r post (put S d (.v v)) As):LA P (⟨d,none,.callv x xs⟩::r) post S As:=
 ⟨fun m s=>vl_cv hf hok hx (hq m s) (fun v' M' ⟨h1,h2⟩=>by subst h1;rw[h2];exact hp.out m s)⟩
theorem a_sw{n:Nat}{x y:Operand}{s o:Nat}{cs:List Value}{v:Value}(hx:lc S x=some (.bx s o))(hb:S s=.box cs)(hy:ev S y=some v)(hn:v.cells.size=n)(hpl:plainCells v.cells.toList=true)(hle:o+n≤cs.length)
 (hw:WrK cs o v.cells.toList (fun cs'=>LA P r post (upF S s (.box cs')) As)):LA P (⟨d,none,.store n x y⟩::r) post S As:=⟨fun m hm=>vl_stb hx hb hy hn hpl hle rfl (hw.out.out m hm)⟩
theorem a_st{n:Nat}{x y:Operand}{b o:Nat}{v:Value}{As':List Asr}(hx:lc S x=some (.mm b o))(hy:ev S y=some v)(hn:v.cells.size=n)(hpl:plainCells v.cells.toList=true)(hu:Up As b o v.cells.toList As')
 (hp:LA P r post S As'):LA P (⟨d,none,.store n x y⟩::r) post S As:=
 ⟨fun m hm=>by
   obtain⟨row,h1,h2,h3⟩:=hu.out m hm
   exact vl_stm hx h1 hy hn hpl (by simp only[Array.length_toList]at h2;omega) (hp.out _ h3)⟩
theorem a_gy{s:Nat}{w:Bool}{k:K}{b:Bool}(hs:S s=.v (.bool b))(hb:b=w)(hp:LA P (⟨d,none,k⟩::r) post S As):LA P (⟨d,some (s,w),k⟩::r) post S As:=⟨fun m hm=>vl_gy hs hb (hp.out m hm)⟩
theorem a_gn{s:Nat}{w:Bool}{k:K}{b:Bool}(hs:S s=.v (.bool b))(hb:b= !w)(hp:LA P r post (put S d (.v undef)) As):LA P (⟨d,some (s,w),k⟩::r) post S As:=⟨fun m hm=>vl_gn hs hb (hp.out m hm)⟩
theorem a_gu{s:Nat}{w:Bool}{k:K}(hs:S s=.v undef)(hp:LA P r post (put S d (.v undef)) As):LA P (⟨d,some (s,w),k⟩::r) post S As:=⟨fun m hm=>vl_gu hs (hp.out m hm)⟩
theorem a_gs{s:Nat}{wt:Bool}{k:K}{b:Bool}(hs:S s=.v (.bool b))(h1:b=true→LA P (⟨d,some (s,wt),k⟩::r) post (upF S s (.v (.bool true))) As)(h2:b=false→LA P (⟨d,some (s,wt),k⟩::r) post (upF S s (.v (.bool false))) As):LA P (⟨d,some (s,wt),k⟩::r) post S As:=by
 cases b
 ·have:=h2 rfl;rwa [upF_self hs]at this
 ·have:=h1 rfl;rwa [upF_self hs]at this
theorem a_gd{s:Nat}{wt:Bool}{k:K}{p:Prop}{_:Decidable p}(hs:S s=.v (.bool (decide p)))(h1:p→LA P (⟨d,some (s,wt),k⟩::r) post (upF S s (.v (.bool true))) As)(h2:¬p→LA P (⟨d,some (s,wt),k⟩::r) post (upF S s (.v (.bool false))) As):LA P (⟨d,some (s,wt),k⟩::r) post S As:=
 a_gs hs (fun h=>h1 (of_decide_eq_true h)) (fun h=>h2 (of_decide_eq_false h))
theorem a_ge{s:Nat}{wt:Bool}{k:K}{u w:Int}(hs:S s=.v (.bool (u==w)))(h1:u=w→LA P (⟨d,some (s,wt),k⟩::r) post (upF S s (.v (.bool true))) As)(h2:u≠w→LA P (⟨d,some (s,wt),k⟩::r) post (upF S s (.v (.bool false))) As):LA P (⟨d,some (s,wt),k⟩::r) post S As:=
 a_gs hs (fun h=>h1 (by simpa using h)) (fun h=>h2 (by simpa using h))
theorem a_gne{s:Nat}{wt:Bool}{k:K}{u w:Int}(hs:S s=.v (.bool (u !=w)))(h1:u≠w→LA P (⟨d,some (s,wt),k⟩::r) post (upF S s (.v (.bool true))) As)(h2:u=w→LA P (⟨d,some (s,wt),k⟩::r) post (upF S s (.v (.bool false))) As):LA P (⟨d,some (s,wt),k⟩::r) post S As:=
 a_gs hs (fun h=>h1 (by simpa using h)) (fun h=>h2 (by simpa using h))
theorem a_gnd{s:Nat}{wt:Bool}{k:K}{p:Prop}{_:Decidable p}(hs:S s=.v (.bool (!decide p)))(h1:¬p→LA P (⟨d,some (s,wt),k⟩::r) post (upF S s (.v (.bool true))) As)(h2:p→LA P (⟨d,some (s,wt),k⟩::r) post (upF S s (.v (.bool false))) As):LA P (⟨d,some (s,wt),k⟩::r) post S As:=
 a_gs hs (fun h=>h1 (by simpa using h)) (fun h=>h2 (by simpa using h))
theorem a_ps{s:Nat}{x y:Operand}{b:Bool}(hs:S s=.v (.bool b))(h1:b=true→LA P (⟨d,none,.pick (.tmp s) x y⟩::r) post (upF S s (.v (.bool true))) As)(h2:b=false→LA P (⟨d,none,.pick (.tmp s) x y⟩::r) post (upF S s (.v (.bool false))) As):LA P (⟨d,none,.pick (.tmp s) x y⟩::r) post S As:=by
 cases b
 ·have:=h2 rfl;rwa [upF_self hs]at this
 ·have:=h1 rfl;rwa [upF_self hs]at this
theorem a_pd{s:Nat}{x y:Operand}{p:Prop}{_:Decidable p}(hs:S s=.v (.bool (decide p)))(h1:p→LA P (⟨d,none,.pick (.tmp s) x y⟩::r) post (upF S s (.v (.bool true))) As)(h2:¬p→LA P (⟨d,none,.pick (.tmp s) x y⟩::r) post (upF S s (.v (.bool false))) As):LA P (⟨d,none,.pick (.tmp s) x y⟩::r) post S As:=
 a_ps hs (fun h=>h1 (of_decide_eq_true h)) (fun h=>h2 (of_decide_eq_false h))
theorem a_pe{s:Nat}{x y:Operand}{u w:Int}(hs:S s=.v (.bool (u==w)))(h1:u=w→LA P (⟨d,none,.pick (.tmp s) x y⟩::r) post (upF S s (.v (.bool true))) As)(h2:u≠w→LA P (⟨d,none,.pick (.tmp s) x y⟩::r) post (upF S s (.v (.bool false))) As):LA P (⟨d,none,.pick (.tmp s) x y⟩::r) post S As:=
 a_ps hs (fun h=>h1 (by simpa using h)) (fun h=>h2 (by simpa using h))
theorem a_pne{s:Nat}{x y:Operand}{u w:Int}(hs:S s=.v (.bool (u !=w)))(h1:u≠w→LA P (⟨d,none,.pick (.tmp s) x y⟩::r) post (upF S s (.v (.bool true))) As)(h2:u=w→LA P (⟨d,none,.pick (.tmp s) x y⟩::r) post (upF S s (.v (.bool false))) As):LA P (⟨d,none,.pick (.tmp s) x y⟩::r) post S As:=
 a_ps hs (fun h=>h1 (by simpa using h)) (fun h=>h2 (by simpa using h))
theorem a_pnd{s:Nat}{x y:Operand}{p:Prop}{_:Decidable p}(hs:S s=.v (.bool (!decide p)))(h1:¬p→LA P (⟨d,none,.pick (.tmp s) x y⟩::r) post (upF S s (.v (.bool true))) As)(h2:p→LA P (⟨d,none,.pick (.tmp s) x y⟩::r) post (upF S s (.v (.bool false))) As):LA P (⟨d,none,.pick (.tmp s) x y⟩::r) post S As:=
 a_ps hs (fun h=>h1 (by simpa using h)) (fun h=>h2 (by simpa using h))
theorem star_new{A:Asr}{m:Mem}{b:Nat}{k:Bk}(s:star As m)(hb:m b=none)(hA:A (one b k)):star (A::As) (m.upd b k):=
 ⟨one b k,m,disj_one k hb,upd_one k hb,hA,s⟩
theorem a_nw{x:Operand}{v:Value}{vs:List Value}(hx:ev S x=some v)(hc:v.cells.toList=vs)(hp:∀b,LA P r post (put S d (.v (.pointer (some ⟨b,0,none⟩)))) (bx b vs::As)):LA P (⟨d,none,.box false x⟩::r) post S As:=
 ⟨fun m hm=>⟨⟨v,hx,fun b hb=>by subst hc;exact((hp b).out _ (star_new hm hb rfl)).out⟩⟩⟩
theorem a_nz{z:List Value}(hp:∀b,LA P r post (put S d (.v (.pointer (some ⟨b,0,none⟩)))) (bx b z::As)):LA P (⟨d,none,.alloc false z⟩::r) post S As:=
 ⟨fun m hm=>⟨fun b hb=>((hp b).out _ (star_new hm hb rfl)).out⟩⟩
theorem a_ns{α:Type}{f:α→List Value}{len size:Nat}{z cs:List Value}{ps:List (Nat×Nat×Operand)}(xs:List α)(hs:∀x,(f x).length=size)(hf:fillP S z ps=some cs)(hc:cs=xs.flatMap f)(hl:xs.length=len)(hb:len≤140737488355328)
 (hp:∀e:D,e.cap=len→LA P r post (put S d (.v (.slice e.a len len))) (slA size f e xs::As)):LA P (⟨d,none,.bslice false len size z ps⟩::r) post S As:=
 ⟨fun m hm=>⟨⟨cs,hf,fun b hMb=>by
   refine((hp ⟨some ⟨b,0,none⟩,len⟩ rfl).out _ (star_new hm hMb ⟨?_,?_⟩)).out
   ·right
    refine⟨b,0,len,cs,rfl,one_same _ _,by omega,by omega,?_,?_⟩
    ·rw[hc,flat_len hs,hl];omega
    ·rw[List.drop_zero,hc]
     exact List.take_of_length_le (by rw[flat_len hs];exact Nat.le_refl _)
   ·intro c hc'
    exact one_ne _ (fun e=>hc' (by subst e;simp[own]))⟩⟩⟩
theorem a_mk{α:Type}{f:α→List Value}{size bytes:Nat}{z:List Value}(e:α){l c:Operand}{n k:Int}(hs:∀x,(f x).length=size)(hz:f e=z)
 (hl:ev S l=some (.int .i64 n)) (hc:ev S c=some (.int .i64 k)) (hnm:0≤n∧n≤k) (hb:k*bytes≤140737488355328∧k≤140737488355328)
 (hp:∀g:D,g.cap=k.toNat→LA P r post (put S d (.v (.slice g.a n.toNat g.cap))) (slA size f g (List.replicate n.toNat e)::As)):LA P (⟨d,none,.mkslice size bytes z l c⟩::r) post S As:=
 ⟨fun m hm=>⟨⟨n.toNat,k.toNat,by rw[hl];congr 2;omega,by rw[hc];congr 2;omega,by omega,by
   have:((k.toNat*bytes:Nat):Int)≤140737488355328:=by rw[Int.natCast_mul,Int.toNat_of_nonneg (by omega)];exact hb.1
   omega,by omega,fun b hMb=>by
   subst hz
   refine((hp ⟨some ⟨b,0,none⟩,k.toNat⟩ rfl).out _ (star_new hm hMb ⟨?_,?_⟩)).out
   ·right
    refine⟨b,0,k.toNat,_,rfl,one_same _ _,by simp;omega,by simp;omega,?_,?_⟩
    ·rw[zrep_flat,flat_len hs];simp
    ·rw[zrep_flat,List.drop_zero,List.length_replicate]
     have:(List.replicate k.toNat e).flatMap f=(List.replicate n.toNat e).flatMap f++(List.replicate (k.toNat-n.toNat) e).flatMap f:=by
      rw[←List.flatMap_append,List.replicate_append_replicate,show n.toNat+(k.toNat-n.toNat)=k.toNat by omega]
     rw[this,List.take_left' (by rw[flat_len hs];simp)]
   ·intro c hc'
    exact one_ne _ (fun e=>hc' (by subst e;simp[own]))⟩⟩⟩
theorem Sl.own_s{M:Mem}{α:Type}{f:α→List Value}{size:Nat}{v:Value}{xs:List α}(h:Sl M size f v xs){c:Nat}(hc:c∈own v):M c≠none:=by
 rcases h with⟨c,rfl,_⟩|⟨b,o,cap,row,rfl,hM,_⟩
 ·simp[own]at hc
 ·simp[own]at hc;subst hc;rw[hM];simp
theorem app_star{α:Type}{f:α→List Value}{size:Nat}{e:D}{xs zs:List α}{R:List Asr}{m M':Mem}{v':Value}(s:star (slA size f e xs::R) m)(ha:AppE m (.slice e.a xs.length e.cap) v' M')(hs:Sl M' size f v' (xs++zs)):
 ∃e':D,v'=.slice e'.a (xs++zs).length e'.cap∧∃m',m'.le M'∧star (slA size f e' (xs++zs)::R) m':=by
 obtain⟨a,c,dj,rfl,hA,hR⟩:=s
 obtain⟨a',cap',rfl⟩:=hs.len
 refine⟨⟨a',cap'⟩,rfl,?_⟩
 have sub:∀(L:List Nat) (M1:Mem),Sl M1 size f (.slice a' (xs++zs).length cap') (xs++zs)→(∀b,b∈own (.slice a' (xs++zs).length cap')→b∈L)→Sl (fun b=>if b∈L then M1 b else none) size f (.slice a' (xs++zs).length cap') (xs++zs):=by
  intro L M1 h hL
  rcases h with h|⟨b,o,cap,row,e1,hM,h3⟩
  ·exact .inl h
  ·refine .inr ⟨b,o,cap,row,e1,?_,h3⟩
   have:b∈L:=hL b (by rw[e1];simp[own])
   simp only[this,if_true];exact hM
 rcases ha with⟨rfl,ho⟩|⟨b,hoff,ho,hb⟩
 ·refine⟨a.un c,Mem.le_refl _,a,c,dj,rfl,⟨?_,?_⟩,hR⟩
  ·rcases hs with h|⟨b,o,cap,row,e1,hM,h3⟩
   ·exact .inl h
   ·refine .inr ⟨b,o,cap,row,e1,?_,h3⟩
    have hbo:b∈own (.slice e.a xs.length e.cap):=by rw[←ho,e1];simp[own]
    have hac:a b≠none:=Sl.own_s hA.1 hbo
    cases h:a b with
    |none=>exact absurd h hac
    |some k=>rw[un_l h]at hM;exact hM
  ·intro b hb
   exact hA.2 b (by rw[←ho];exact hb)
 ·have hcb:c b=none:=by
   rcases hb with hb|hb
   ·have:a b≠none:=Sl.own_s hA.1 (by rw[hb];simp)
    rcases dj b with h|h
    ·exact absurd h this
    ·exact h
   ·exact(un_none.1 hb).2
  refine⟨Mem.un (fun x=>if x∈[b]then M' x else none) c,?_,_,c,?_,rfl,⟨sub [b] M' hs (fun x hx=>by rw[ho]at hx;exact hx),?_⟩,hR⟩
  ·intro x k hk
   by_cases hx:x=b
   ·subst hx
    cases h:M' x with
    |none=>rw[un_n (by simp[h])]at hk;rw[hcb]at hk;cases hk
    |some k'=>rw[un_l (by simp;exact h)]at hk;exact hk
   ·rw[un_n (by simp[hx])]at hk
    rw[hoff x hx];exact un_r dj hk
  ·intro x
   by_cases hx:x=b
   ·subst hx;exact .inr hcb
   ·exact .inl (by simp[hx])
  ·intro x hx
   rw[ho]at hx
   simp only[hx,if_false]
theorem a_ap{α:Type}{f:α→List Value}{size bytes:Nat}{z:List Value}{xs:List α}{e:D}{R:List Asr}{t:Nat}{cs:List Value}{k:Nat}(zs:List α){s:Operand}(hm:Pk As (slA size f e xs) R)(hs:∀x,(f x).length=size)(h0:0<size∧0<bytes)
 (hv:ev S s=some (.slice e.a xs.length e.cap)) (ht:S t=.bsl cs k) (hc:cs=zs.flatMap f) (hk:zs.length=k) (hpl:plainCells cs=true) (hb:((xs.length:Int)+k)*bytes≤140737488355328)
 (hp:∀e':D,LA P r post (put S d (.v (.slice e'.a (xs++zs).length e'.cap))) (slA size f e' (xs++zs)::R)):LA P (⟨d,none,.app size bytes z s (.tmp t)⟩::r) post S As:=
 ⟨fun m hm'=>by
   have st:=hm.out m hm'
   have hsl:Sl m size f (.slice e.a xs.length e.cap) xs:=by
    obtain⟨a,c,dj,e1,hA,hR⟩:=st
    exact hA.1.le (by rw[e1];exact le_l _ _)
   subst hc
   refine⟨⟨_,zs.flatMap f,zs.length,hv,?_,hpl,appM_sl hs hsl h0.1 h0.2 ?_ (fun v' M' ha hs'=>?_)⟩⟩
   ·unfold srcC
    simp only[ht]
    rw[hk,if_pos (by rw[flat_len hs,hk])]
   ·have:(((xs.length+zs.length)*bytes:Nat):Int)≤140737488355328:=by rw[Int.natCast_mul,Int.natCast_add,hk];exact hb
    omega
   ·obtain⟨e',rfl,m',l,s'⟩:=app_star st ha hs'
    exact((hp e').at s' l).out⟩
theorem a_as{α:Type}{f:α→List Value}{size bytes:Nat}{z:List Value}{xs zs:List α}{e g:D}{R:List Asr}{t:Nat}{s:Operand}(hm:Pk As (slA size f e xs) R)(hs:∀x,(f x).length=size)(h0:0<size∧0<bytes)
 (hv:ev S s=some (.slice e.a xs.length e.cap)) (ht:S t=.v (.slice g.a zs.length g.cap)) (hg:∀m,star As m→Sl m size f (.slice g.a zs.length g.cap) zs) (hpl:plainCells (zs.flatMap f)=true) (hb:((xs.length:Int)+zs.length)*bytes≤140737488355328)
 (hp:∀e':D,LA P r post (put S d (.v (.slice e'.a (xs++zs).length e'.cap))) (slA size f e' (xs++zs)::R)):LA P (⟨d,none,.app size bytes z s (.tmp t)⟩::r) post S As:=
 ⟨fun m hm'=>by
   have st:=hm.out m hm'
   have hsl:Sl m size f (.slice e.a xs.length e.cap) xs:=by
    obtain⟨a,c,dj,e1,hA,hR⟩:=st
    exact hA.1.le (by rw[e1];exact le_l _ _)
   refine⟨⟨_,zs.flatMap f,zs.length,hv,srcC_sl hs (hg m hm') ht,hpl,appM_sl hs hsl h0.1 h0.2 ?_ (fun v' M' ha hs'=>?_)⟩⟩
   ·have:(((xs.length+zs.length)*bytes:Nat):Int)≤140737488355328:=by rw[Int.natCast_mul,Int.natCast_add];exact hb
    omega
   ·obtain⟨e',rfl,m',l,s'⟩:=app_star st ha hs'
    exact((hp e').at s' l).out⟩
theorem a_az{α:Type}{f:α→List Value}{size bytes:Nat}{z:List Value}{xs:List α}{e:D}{R:List Asr}{k:Int}(y:α){s x:Operand}(hm:Pk As (slA size f e xs) R)(hs:∀x,(f x).length=size)(h0:0<size∧0<bytes)(hz:f y=z)
 (hv:ev S s=some (.slice e.a xs.length e.cap)) (hx:ev S x=some (.int .i64 k)) (hk:0≤k∧k≤140737488355328) (hpl:plainCells z=true) (hb:((xs.length:Int)+k)*bytes≤140737488355328)
 (hp:∀e':D,LA P r post (put S d (.v (.slice e'.a (xs++List.replicate k.toNat y).length e'.cap))) (slA size f e' (xs++List.replicate k.toNat y)::R)):LA P (⟨d,none,.appz size bytes z s x⟩::r) post S As:=
 ⟨fun m hm'=>by
   have st:=hm.out m hm'
   have hsl:Sl m size f (.slice e.a xs.length e.cap) xs:=by
    obtain⟨a,c,dj,e1,hA,hR⟩:=st
    exact hA.1.le (by rw[e1];exact le_l _ _)
   subst hz
   refine⟨⟨_,k.toNat,hv,by rw[hx];congr 2;omega,by omega,hpl,?_⟩⟩
   have:=appM_sl (bytes:=bytes) (zs:=List.replicate k.toNat y) (post:=fun v' M'=>vcL P r (upP post) (put S d (.v v')) M') hs hsl h0.1 h0.2 ?_ (fun v' M' ha hs'=>?_)
   ·rw[List.length_replicate]at this
    rw[zrep_flat];exact this
   ·have:(((xs.length+k.toNat)*bytes:Nat):Int)≤140737488355328:=by rw[Int.natCast_mul,Int.natCast_add,Int.toNat_of_nonneg hk.1];exact hb
    rw[List.length_replicate];omega
   ·obtain⟨e',rfl,m',l,s'⟩:=app_star st ha hs'
    exact((hp e').at s' l).out⟩
theorem a_tk{e:D}{x:Operand}{hi:Option Operand}{size n:Nat}{k:IntKind}{i:Int}(hx:ev S x=some (.slice e.a n e.cap))(hh:optEv S hi=some (some (.int k i)))(hb:Kn As (e.a=none∨e.a=some ⟨e.b,e.o,none⟩))(hi0:0≤i∧i≤e.cap)
 (hp:LA P r post (put S d (.v (.slice e.a i.toNat e.cap))) As):LA P (⟨d,none,.slc size x none hi⟩::r) post S As:=
 ⟨fun m hm=>by
   refine vl_pure (sv:=.v (.slice e.a i.toNat e.cap)) ?_ (hp.out m hm)
   have h1:bnd (some (.int k i)) n=some i.toNat:=by show(if 0≤i then some i.toNat else none)=_;rw[if_pos hi0.1]
   have h2:optEv S none=some none:=rfl
   have h3:bnd none 0=some 0:=rfl
   simp only[pe,hx,hh,h2,slcV,h1,h3]
   rw[if_pos ⟨Nat.zero_le _,by omega⟩]
   rcases hb.out m hm with h|h<;>rw[h]<;>simp⟩
theorem a_dr{e:D}{x:Operand}{lo:Option Operand}{size n:Nat}{k:IntKind}{i:Int}(hx:ev S x=some (.slice e.a n e.cap))(hl:optEv S lo=some (some (.int k i)))(hb:Kn As (e.a=none∨e.a=some ⟨e.b,e.o,none⟩))(hi0:0≤i∧i≤n)(hc:Kn As (n≤e.cap))
 (hp:LA P r post (put S d (.v (.slice (e.drop size i.toNat).a (n-i.toNat) (e.drop size i.toNat).cap))) As):LA P (⟨d,none,.slc size x lo none⟩::r) post S As:=
 ⟨fun m hm=>by
   refine vl_pure (sv:=.v (.slice (e.drop size i.toNat).a (n-i.toNat) (e.drop size i.toNat).cap)) ?_ (hp.out m hm)
   have hcap:=hc.out m hm
   have h1:bnd (some (.int k i)) 0=some i.toNat:=by show(if 0≤i then some i.toNat else none)=_;rw[if_pos hi0.1]
   have h2:optEv S none=some none:=rfl
   have h3:bnd none n=some n:=rfl
   simp only[pe,hx,hl,h2,slcV,h1,h3]
   rw[if_pos ⟨by omega,by omega⟩]
   obtain⟨a,cp⟩:=e
   rcases hb.out m hm with h|h
   ·have h':a=none:=h
    subst h';rfl
   ·have h':a=some ⟨D.b ⟨a,cp⟩,D.o ⟨a,cp⟩,none⟩:=h
    generalize D.b ⟨a,cp⟩=b0,D.o ⟨a,cp⟩=o0 at h'
    subst h'
    rfl⟩
theorem a_mm(hp:∀b,LA P r post (put S d (.v (.map (some b)))) (mpA b (fun _=>none)::As)):LA P (⟨d,none,.mkmap⟩::r) post S As:=
 ⟨fun m hm=>⟨fun b hb=>((hp b).out _ (star_new hm hb ⟨#[],0,rfl,rfl,by simp,fun j=>rfl⟩)).out⟩⟩
theorem a_lk{one:Bool}{z:Value}{ok:Bool}{x i:Operand}{b:Nat}{g:Int→Option Value}{R:List Asr}{j:Int}{v:Value}(hm:Pk As (mpA b g) R)(hx:ev S x=some (.map (some b)))(hi:ev S i=some (.int .i64 j))
 (hv:(if ok then .tuple #[(g j).getD z,.bool (g j).isSome]else(g j).getD z)=v) (hp:LA P r post (put S d (.v v)) As):LA P (⟨d,none,.look one z ok x i⟩::r) post S As:=
 ⟨fun m hm'=>by
   obtain⟨a,c,dj,e1,⟨es,clk,e2,h1,h2,h3⟩,hR⟩:=hm.out m hm'
   refine⟨vcK_fe (k:=.look one z ok x i) (sv:=.v v) rfl (.inr ⟨es,clk,j,.inr ⟨b,hx,?_⟩,hi,h1,?_⟩) (hp.out m hm').out⟩
   ·rw[e1];exact un_l (by rw[e2];exact one_same _ _)
   ·rw[h3 j,hv]⟩
theorem a_mu{x i y:Operand}{b:Nat}{g:Int→Option Value}{R:List Asr}{j:Int}{v:Value}(hm:Pk As (mpA b g) R)(hx:ev S x=some (.map (some b)))(hi:ev S i=some (.int .i64 j))(hy:ev S y=some v)
 (hp:LA P r post (put S d (.v undef)) (mpA b (fun i=>if i=j then some v else g i)::R)):LA P (⟨d,none,.mupd x i y⟩::r) post S As:=
 ⟨fun m hm'=>by
   obtain⟨a,c,dj,e1,⟨es,clk,e2,h1,h2,h3⟩,hR⟩:=hm.out m hm'
   subst e1;subst e2
   refine⟨⟨b,es,clk,j,v,hx,un_l (one_same _ _),hi,hy,h1,(hp.out _ ?_).out⟩⟩
   have hcb:c b=none:=by
    rcases dj b with h|h
    ·rw[one_same]at h;cases h
    ·exact h
   rw[un_upd_l,one_upd]
   exact⟨_,c,disj_one _ hcb,rfl,mpSet_A h1 h2 h3,hR⟩⟩
theorem a_md{x i:Operand}{b:Nat}{g:Int→Option Value}{R:List Asr}{j:Int}(hm:Pk As (mpA b g) R)(hx:ev S x=some (.map (some b)))(hi:ev S i=some (.int .i64 j))
 (hp:LA P r post (put S d (.v (.tuple #[]))) (mpA b (fun i=>if i=j then none else g i)::R)):LA P (⟨d,none,.mdel x i⟩::r) post S As:=
 ⟨fun m hm'=>by
   obtain⟨a,c,dj,e1,⟨es,clk,e2,h1,h2,h3⟩,hR⟩:=hm.out m hm'
   subst e1;subst e2
   refine⟨⟨b,es,clk,j,hx,un_l (one_same _ _),hi,h1,(hp.out _ ?_).out⟩⟩
   have hcb:c b=none:=by
    rcases dj b with h|h
    ·rw[one_same]at h;cases h
    ·exact h
   rw[un_upd_l,one_upd]
   exact⟨_,c,disj_one _ hcb,rfl,mpDel_A h1 h2 h3,hR⟩⟩
theorem LA.ent{l:List I}{Bs:List Asr}(e:Ent As Bs)(h:LA P l post S Bs):LA P l post S As:=
 ⟨fun m hm=>by obtain⟨m',l',s⟩:=e.out m hm;exact h.at s l'⟩
end
def Formed(H:Heap)(w:Word):Prop:=(w.kind=0∧w.num=0∧w.at_=0)∨(w.kind=1∧w.at_=0)∨(w.kind=2∧w.num=0∧0≤w.at_∧w.at_<H.cells.length)
def Bare(c:Cell):Prop:=c.kind=0∧c.weak=0∧c.last=0∧c.born=0∧c.color=0∧c.pairs=[]
def Doomed(H:Heap)(i:Int):Prop:=H.phase=3∧(H.getC i).state=1∧(H.getC i).color=0∧H.hand≤i
def Marking(H:Heap):Prop:=H.phase=1∨H.phase=2
def Mended(H:Heap)(i k:Int):Prop:=H.phase≠4∧(H.phase=5→i<H.hand∨i=H.hand∧k<H.sub)
def Root(c:Cell):Prop:=c.state=1∧(c.last=1∨c.last=2)
def LeadsWell(H:Heap)(w:Word)(moved:Prop):Prop:=w.kind=2→((H.getC w.at_).state=1∧¬Doomed H w.at_)∨((H.getC w.at_).state=2∧moved)
def White(H:Heap)(w:Word):Prop:=w.kind=2∧(H.getC w.at_).color=0
structure R1 (H:Heap):Prop where
 room:1≤H.room∧H.room≤4000
 regs:H.regs.length=16
 cells:(H.cells.length:Int)≤2*H.room
 gray:H.gray.length≤H.cells.length
 born:0≤H.born∧H.born≤1000000000
 rounds:0≤H.rounds∧H.rounds≤1000000000
 forced:0≤H.forced∧H.forced≤1000000000
 per:0≤H.per∧H.per≤64
 start:0≤H.start∧H.start≤4000
 phase:0≤H.phase∧H.phase≤6
 hand:0≤H.hand∧H.hand≤H.cells.length
 sub:0≤H.sub∧H.sub≤200
def UsedOk(H:Heap)(c:Cell):Prop:=c.state=1∧(0≤c.kind∧c.kind≤255)∧(0≤c.weak∧c.weak≤3)∧(0≤c.last∧c.last≤3)∧(1≤c.born∧c.born≤H.born)∧(0≤c.color∧c.color≤2)∧c.to=0∧c.pairs.length≤200
def MovedOk(H:Heap)(i:Int)(c:Cell):Prop:=c.state=2∧Bare c∧4≤H.phase∧(0≤c.to∧c.to<i)∧(H.getC c.to).state=1∧(H.phase=4→∀k:Int,0≤k→k<c.to→(H.getC k).state≠0)
structure R2 (H:Heap):Prop where
 each:∀(i:Nat) c,H.cells[i]?=some c→(c.state=0∧Bare c∧c.to=0)∨MovedOk H i c∨UsedOk H c
 born:∀(i j:Nat) c d,H.cells[i]?=some c→H.cells[j]?=some d→i<j→c.state=1→d.state=1→c.born≠d.born
 to:∀(i j:Nat) c d,H.cells[i]?=some c→H.cells[j]?=some d→i<j→c.state=2→d.state=2→c.to≠d.to
def Cell.units(c:Cell):Int:=if c.state=1 then 1+c.pairs.length else 0
def unitsN(cs:List Cell):Int:=(cs.map Cell.units).sum
def R3(H:Heap):Prop:=unitsN H.cells=H.used∧H.used≤H.room
structure R4 (H:Heap):Prop where
 regs:∀w,w∈H.regs→Formed H w∧LeadsWell H w False
 roots:∀(i:Nat) c,H.cells[i]?=some c→Doomed H i→¬Root c
 pairs:∀(i:Nat) c,H.cells[i]?=some c→∀(k:Nat) p,c.pairs[k]?=some p→Formed H p.key∧Formed H p.val∧(¬Doomed H i→LeadsWell H p.key (¬Mended H i k)∧LeadsWell H p.val (¬Mended H i k))
structure R5 (H:Heap):Prop where
 mark:Marking H→H.gray.Nodup∧(∀g,g∈H.gray→0≤g∧g<H.cells.length∧(H.getC g).state=1∧(H.getC g).color=1)∧∀(i:Nat) c,H.cells[i]?=some c→c.color=1→(i:Int)∈H.gray
 else_:¬Marking H→H.gray=[]∧∀(i:Nat) c,H.cells[i]?=some c→c.color≠1∧(c.color=2→H.phase=3∧H.hand≤i)
def R6(H:Heap):Prop:=
 if H.phase=0∨H.phase=4 then H.hand=0∧H.sub=0
 else if H.phase=2 then H.hand=0∧(match H.gray with|[]=>H.sub=0|g::_=>H.sub≤(H.getC g).pairs.length)
 else if H.phase=5 then(if H.hand<H.cells.length∧(H.getC H.hand).state=1 then H.sub≤(H.getC H.hand).pairs.length else H.sub=0)
 else H.sub=0
def scanned(H:Heap)(i:Int)(c:Cell):Int:=
 if c.color=2 then c.pairs.length else if H.phase=2∧H.gray.head?=some i then H.sub else 0
def R7(H:Heap):Prop:=Marking H→∀(i:Nat) c,H.cells[i]?=some c→(Root c→c.color=0→H.phase≠2∧H.hand≤i)∧∀(k:Nat) p,c.pairs[k]?=some p→(k:Int)<scanned H i c→¬White H p.key∧¬White H p.val
def R8(H:Heap):Prop:=H.phase=6→∀(i:Nat) c,H.cells[i]?=some c→H.hand≤i→c.state≠2
open Classical in
noncomputable def okH(H:Heap):Int:=
 if ¬R1 H then 1 else if ¬R2 H then 2 else if ¬R3 H then 3 else if ¬R4 H then 4 else if ¬R5 H then 5 else if ¬R6 H then 6 else if ¬R7 H then 7 else if ¬R8 H then 8 else 0
structure Sound (H:Heap):Prop where
 r1:R1 H
 r2:R2 H
 r3:R3 H
 r4:R4 H
 r5:R5 H
 r6:R6 H
 r7:R7 H
 r8:R8 H
theorem okH_sound(H:Heap):okH H=0↔Sound H:=by
 unfold okH
 constructor
 ·intro h
  repeat' split at h
  all_goals first
   |(cases h;done)
   |(rename_i h1 h2 h3 h4 h5 h6 h7 h8;exact⟨Classical.not_not.1 h1,Classical.not_not.1 h2,Classical.not_not.1 h3,Classical.not_not.1 h4,Classical.not_not.1 h5,Classical.not_not.1 h6,Classical.not_not.1 h7,Classical.not_not.1 h8⟩)
 ·intro⟨h1,h2,h3,h4,h5,h6,h7,h8⟩
  simp[h1,h2,h3,h4,h5,h6,h7,h8]
theorem star_perm{As Bs:List Asr}(h:As.Perm Bs):∀{m:Mem},star As m→star Bs m:=by
 induction h with
 |nil=>exact fun h=>h
 |cons A _ ih=>exact fun h=>star_cons_mono h (fun _ h=>h) (fun _ h=>ih h)
 |swap A B l=>exact fun h=>star_swap h
 |trans _ _ ih1 ih2=>exact fun h=>ih2 (ih1 h)
theorem star_in{As R:List Asr}{m:Mem}:star (star As::R) m↔star (As++R) m:=by
 constructor
 ·rintro⟨a,b,d,rfl,h1,h2⟩;exact star_append.2 ⟨a,b,d,rfl,h1,h2⟩
 ·intro h;obtain⟨a,b,d,rfl,h1,h2⟩:=star_append.1 h;exact⟨a,b,d,rfl,h1,h2⟩
theorem ent_of{As Bs:List Asr}(h:∀m,star As m→star Bs m):Ent As Bs:=⟨fun m hm=>⟨m,Mem.le_refl _,h m hm⟩⟩
theorem ent_h{A B:Asr}{r:List Asr}(h:∀m,A m→B m):Ent (A::r) (B::r):=ent_of fun m hm=>star_cons_mono hm h (fun _ h=>h)
theorem Ent.cons{A:Asr}{r s:List Asr}(h:Ent r s):Ent (A::r) (A::s):=⟨fun m ⟨a,b,d,e,hA,hr⟩=>by
 subst e
 obtain⟨b',l,s'⟩:=h.out b hr
 have d':Disj a b':=fun x=>by
  rcases d x with h|h
  ·exact .inl h
  ·exact .inr (le_none l h)
 refine⟨a.un b',?_,a,b',d',rfl,hA,s'⟩
 intro x k hk
 cases ha:a x with
 |some k'=>rw[un_l ha]at hk;cases hk;exact un_l ha
 |none=>rw[un_n ha]at hk;exact un_r d (l x k hk)⟩
def CS.d(y:CS):D:=⟨y.sa,y.cap⟩
def prA(ys:List CS):Asr:=star (ys.map fun y=>slA 6 pv y.d y.c.pairs)
def clA(cd:D)(ys:List CS):Asr:=star [slA 8 csv cd ys,prA ys]
theorem cl_open{cd:D}{ys:List CS}{R:List Asr}:Ent (clA cd ys::R) (slA 8 csv cd ys::prA ys::R):=ent_of fun m h=>star_in.1 h
theorem cl_close{cd:D}{ys:List CS}{R:List Asr}:Ent (slA 8 csv cd ys::prA ys::R) (clA cd ys::R):=ent_of fun m h=>star_in.2 h
theorem erase_perm{α:Type}:∀{l:List α} {i:Nat} (h:i<l.length),(l[i]::l.eraseIdx i).Perm l
 |a::l,0,_=>.refl _
 |a::l,i+1,h=>by
  simp only[List.getElem_cons_succ,List.eraseIdx_cons_succ]
  exact(List.Perm.swap _ _ _).trans (.cons a (erase_perm (by simpa using h)))
theorem pr_out{ys:List CS}{i:Nat}{y:CS}(hi:ys[i]?=some y){m:Mem}(h:prA ys m):star [slA 6 pv y.d y.c.pairs,prA (ys.eraseIdx i)] m:=by
 obtain⟨hlt,e⟩:=List.getElem?_eq_some_iff.1 hi
 have hp:=(erase_perm hlt).symm.map (fun y:CS=>slA 6 pv y.d y.c.pairs)
 have:=star_perm hp h
 rw[e]at this
 obtain⟨a,b,d,e1,h1,h2⟩:=this
 exact⟨a,b,d,e1,h1,b,emp,disj_emp _,(un_emp _).symm,h2,rfl⟩
theorem pr_in{ys:List CS}{i:Nat}{y':CS}(hi:i<ys.length){m:Mem}(h:star [slA 6 pv y'.d y'.c.pairs,prA (ys.eraseIdx i)] m):prA (ys.set i y') m:=by
 have hlt:i<(ys.set i y').length:=by simpa using hi
 have hp:=(erase_perm hlt).map (fun y:CS=>slA 6 pv y.d y.c.pairs)
 rw[List.getElem_set_self,List.eraseIdx_set_eq]at hp
 refine star_perm hp ?_
 obtain⟨a,b,d,e1,h1,b',e',d2,e2,h2,h3⟩:=h
 have h3:e'=emp:=h3
 subst h3
 rw[un_emp]at e2;subst e2
 exact⟨a,b,d,e1,h1,h2⟩
theorem pr_set{ys:List CS}{i:Nat}{y y':CS}(hi:ys[i]?=some y)(h1:y'.d=y.d)(h2:y'.c.pairs=y.c.pairs):prA (ys.set i y')=prA ys:=by
 unfold prA
 congr 1
 rw[List.map_set]
 apply List.ext_getElem?
 intro j
 rw[List.getElem?_set]
 split
 ·rename_i e;subst e
  split
  ·rw[List.getElem?_map,hi,h1,h2];rfl
  ·rename_i hlt
   have:=(List.getElem?_eq_some_iff.1 hi).1
   simp at hlt;omega
 ·rfl
theorem slA_congr{α:Type}{f:α→List Value}{size:Nat}{d:D}{xs ys:List α}(h1:xs.flatMap f=ys.flatMap f)(h2:xs.length=ys.length):slA size f d xs=slA size f d ys:=by
 have hz:(xs=[]↔ys=[]):=by rw[←List.length_eq_zero_iff,←List.length_eq_zero_iff,h2]
 funext m
 unfold slA Sl
 rw[h1,h2]
 simp only[hz]
theorem flat_set{α:Type}{f:α→List Value}{xs:List α}{i:Nat}{x x':α}(hi:xs[i]?=some x)(h:f x'=f x):(xs.set i x').flatMap f=xs.flatMap f:=by
 induction xs generalizing i with
 |nil=>simp at hi
 |cons a r ih=>
  cases i with
  |zero=>simp only[List.getElem?_cons_zero,Option.some.injEq]at hi;subst hi;simp[h]
  |succ i=>simp only[List.getElem?_cons_succ]at hi;simp[ih hi]
theorem csv_len(y:CS):(csv y).length=8:=rfl
theorem pv_len(p:Pair):(pv p).length=6:=rfl
theorem wv_len(w:Word):(wv w).length=3:=rfl
theorem iv_len(n:Int):(iv n).length=1:=rfl
theorem bv_len(n:Bool):(bv n).length=1:=rfl
section
variable {cd:D} {ys:List CS} {i:Nat} {y:CS}
theorem clA_l{m:Mem}(h:clA cd ys m):∃a,a.le m∧slA 8 csv cd ys a:=by
 obtain⟨a,b,d,e,h1,_⟩:=h
 exact⟨a,by rw[e];exact le_l _ _,h1⟩
theorem clA_p{m:Mem}(h:clA cd ys m)(hi:ys[i]?=some y):∃a,a.le m∧slA 6 pv y.d y.c.pairs a:=by
 obtain⟨a,b,d,e,_,b',e',d2,e2,h2,h3⟩:=h
 have h3:e'=emp:=h3
 subst h3
 rw[un_emp]at e2;subst e2
 obtain⟨a',c,d3,e3,h4,_⟩:=pr_out hi h2
 exact⟨a',by rw[e,e3];exact Mem.le_trans (le_l _ _) (le_r (by rw[e3]at d;exact d)),h4⟩
def csw(y:CS):List Value:=[.int .i64 y.c.state,.int .i64 y.c.kind,.int .i64 y.c.weak,.int .i64 y.c.last,.int .i64 y.c.born,.int .i64 y.c.color,.int .i64 y.c.to,.slice y.d.a y.c.pairs.length y.d.cap]
theorem rs_cl(hi:ys[i]?=some y):RsA (clA cd ys) cd.b (cd.o+i*8) 8 (csw y):=⟨fun m h=>by
 obtain⟨a,l,h1⟩:=clA_l h;exact cells_le l ((rs_sl csv_len hi).out a h1)⟩
theorem rd_cl{j:Nat}{v:Value}(hi:ys[i]?=some y)(hj:(csw y)[j]?=some v):RdA (clA cd ys) cd.b (cd.o+i*8+j) v:=⟨fun m h=>cells_cell ((rs_cl hi).out m h) hj⟩
theorem kn_cl(hi:ys[i]?=some y):KnA (clA cd ys) (cd.a=some ⟨cd.b,cd.o,none⟩):=⟨fun m h=>by
 obtain⟨a,l,h1⟩:=clA_l h;exact D.som h1 hi⟩
theorem kp_cl:KnA (clA cd ys) (cd.a=none∨cd.a=some ⟨cd.b,cd.o,none⟩):=⟨fun m h=>by
 obtain⟨a,l,h1⟩:=clA_l h;exact D.plain h1⟩
theorem kb_cl:KnA (clA cd ys) (ys.length≤140737488355328):=⟨fun m h=>by
 obtain⟨a,l,h1⟩:=clA_l h;exact h1.1.bound⟩
theorem kc_cl:KnA (clA cd ys) (ys.length≤cd.cap):=⟨fun m h=>by
 obtain⟨a,l,h1⟩:=clA_l h;exact cp_sl.out a h1⟩
theorem rs_cp{k:Nat}{p:Pair}(hi:ys[i]?=some y)(hk:y.c.pairs[k]?=some p):RsA (clA cd ys) y.d.b (y.d.o+k*6) 6 (pv p):=⟨fun m h=>by
 obtain⟨a,l,h1⟩:=clA_p h hi;exact cells_le l ((rs_sl pv_len hk).out a h1)⟩
theorem rs_cpp{k j n:Nat}{p:Pair}{ws:List Value}(hi:ys[i]?=some y)(hk:y.c.pairs[k]?=some p)(hj:j+n≤6)(hw:((pv p).drop j).take n=ws):RsA (clA cd ys) y.d.b (y.d.o+k*6+j) n ws:=⟨fun m h=>by
 obtain⟨a,l,h1⟩:=clA_p h hi;exact cells_le l ((rs_slp pv_len hk hj hw).out a h1)⟩
theorem rd_cp{k j:Nat}{p:Pair}{v:Value}(hi:ys[i]?=some y)(hk:y.c.pairs[k]?=some p)(hj:(pv p)[j]?=some v):RdA (clA cd ys) y.d.b (y.d.o+k*6+j) v:=⟨fun m h=>cells_cell ((rs_cp hi hk).out m h) hj⟩
theorem kn_cp{k:Nat}{p:Pair}(hi:ys[i]?=some y)(hk:y.c.pairs[k]?=some p):KnA (clA cd ys) (y.d.a=some ⟨y.d.b,y.d.o,none⟩):=⟨fun m h=>by
 obtain⟨a,l,h1⟩:=clA_p h hi;exact D.som h1 hk⟩
theorem kp_cp(hi:ys[i]?=some y):KnA (clA cd ys) (y.d.a=none∨y.d.a=some ⟨y.d.b,y.d.o,none⟩):=⟨fun m h=>by
 obtain⟨a,l,h1⟩:=clA_p h hi;exact D.plain h1⟩
theorem kb_cp(hi:ys[i]?=some y):KnA (clA cd ys) (y.c.pairs.length≤140737488355328):=⟨fun m h=>by
 obtain⟨a,l,h1⟩:=clA_p h hi;exact h1.1.bound⟩
theorem kc_cp(hi:ys[i]?=some y):KnA (clA cd ys) (y.c.pairs.length≤y.d.cap):=⟨fun m h=>by
 obtain⟨a,l,h1⟩:=clA_p h hi;exact cp_sl.out a h1⟩
theorem star2{A B:Asr}{m:Mem}:star [A,B] m↔∃a b,Disj a b∧m=a.un b∧A a∧B b:=by
 constructor
 ·rintro⟨a,b,d,e,h1,b',e',d2,e2,h2,h3⟩
  have h3:e'=emp:=h3
  subst h3
  rw[un_emp]at e2;subst e2
  exact⟨a,b,d,e,h1,h2⟩
 ·rintro⟨a,b,d,e,h1,h2⟩
  exact⟨a,b,d,e,h1,b,emp,disj_emp _,(un_emp _).symm,h2,rfl⟩
theorem up_cl{j:Nat}{y':CS}{vs:List Value}(hi:ys[i]?=some y)(hj:j+vs.length≤8)(hf:csv y'=wr (csv y) j vs)(hd:y'.d=y.d)(hp:y'.c.pairs=y.c.pairs):UpA (clA cd ys) cd.b (cd.o+i*8+j) vs (clA cd (ys.set i y')):=⟨fun m h=>by
 obtain⟨a,b,d,rfl,h1,h2⟩:=star2.1 h
 obtain⟨row,g1,g2,g3⟩:=(up_sl csv_len hi hj hf).out a h1
 have hb:b cd.b=none:=by
  rcases d cd.b with e|e
  ·rw[g1]at e;cases e
  ·exact e
 refine⟨row,un_l g1,g2,?_⟩
 rw[un_upd_l]
 exact star2.2 ⟨_,b,d.upd _ hb,rfl,g3,by rw[pr_set hi hd hp];exact h2⟩⟩
theorem up_c0{y':CS}(hi:ys[i]?=some y)(hd:y'.d=⟨none,0⟩)(hp:y'.c.pairs=[]):∀m,clA cd ys m→∃row,m cd.b=some (.row row)∧cd.o+i*8+(csv y').length≤row.length∧∃m',m'.le (m.upd cd.b (.row (wr row (cd.o+i*8) (csv y'))))∧clA cd (ys.set i y') m':=fun m h=>by
 obtain⟨a,b,d,rfl,h1,h2⟩:=star2.1 h
 obtain⟨row,g1,g2,g3⟩:=(up_sl (j:=0) (vs:=csv y') (e':=y') csv_len hi (by rw[csv_len];exact Nat.le_refl _) (by rw[wr_all _ _ (by rw[csv_len,csv_len])])).out a h1
 have hb:b cd.b=none:=by
  rcases d cd.b with e|e
  ·rw[g1]at e;cases e
  ·exact e
 have hlt:=(List.getElem?_eq_some_iff.1 hi).1
 obtain⟨b1,b2,d2,rfl,k1,k2⟩:=star2.1 (pr_out hi h2)
 rw[Nat.add_zero]at g2 g3
 refine⟨row,un_l g1,g2,(a.upd cd.b (.row (wr row (cd.o+i*8) (csv y')))).un b2,?_,star2.2 ⟨_,b2,?_,rfl,g3,?_⟩⟩
 ·rw[un_upd_l]
  intro x k hk
  cases hx:(a.upd cd.b (.row (wr row (cd.o+i*8) (csv y')))) x with
  |some k'=>rw[un_l hx]at hk;cases hk;exact un_l hx
  |none=>
   rw[un_n hx]at hk
   rw[un_n hx];exact un_r d2 hk
 ·exact(disj_un.1 d).2.upd _ (un_none.1 hb).2
 ·refine pr_in hlt (star2.2 ⟨emp,b2,fun _=>.inl rfl,rfl,?_,k2⟩)
  rw[hp,hd]
  exact⟨.inl ⟨0,rfl,rfl,rfl⟩,fun _ _=>rfl⟩
theorem up_cp{k j:Nat}{p p':Pair}{vs:List Value}(hi:ys[i]?=some y)(hk:y.c.pairs[k]?=some p)(hj:j+vs.length≤6)(hf:pv p'=wr (pv p) j vs):
 UpA (clA cd ys) y.d.b (y.d.o+k*6+j) vs (clA cd (ys.set i {y with c:={y.c with pairs:=y.c.pairs.set k p'}})):=⟨fun m h=>by
 have hlt:=(List.getElem?_eq_some_iff.1 hi).1
 obtain⟨a,b,d,rfl,h1,h2⟩:=star2.1 h
 obtain⟨b1,b2,d2,rfl,k1,k2⟩:=star2.1 (pr_out hi h2)
 obtain⟨row,g1,g2,g3⟩:=(up_sl pv_len hk hj hf).out b1 k1
 have hb2:b2 y.d.b=none:=by
  rcases d2 y.d.b with e|e
  ·rw[g1]at e;cases e
  ·exact e
 have ha:a y.d.b=none:=by
  rcases d y.d.b with e|e
  ·exact e
  ·rw[un_l g1]at e;cases e
 refine⟨row,un_r d (un_l g1),g2,?_⟩
 rw[un_upd_r _ ha,un_upd_l]
 refine star2.2 ⟨a,_,?_,rfl,?_,pr_in hlt (star2.2 ⟨_,b2,d2.upd _ hb2,rfl,g3,k2⟩)⟩
 ·rw[←un_upd_l]
  exact((Disj.symm d).upd _ ha).symm
 ·rw[slA_congr (ys:=ys) (flat_set hi (by unfold csv cv;simp)) (by simp)];exact h1⟩
end
structure HX where
 room:Int
 used:Int
 born:Int
 regs:List Word
 xs:List CS
 phase:Int
 hand:Int
 sub:Int
 gray:List Int
 per:Int
 start:Int
 rounds:Int
 forced:Int
 rd:D
 cd:D
 gd:D
def HX.H(x:HX):Heap:=⟨x.room,x.used,x.born,x.regs,x.xs.map (·.c),x.phase,x.hand,x.sub,x.gray,x.per,x.start,x.rounds,x.forced⟩
structure Hdr where
 room:Int
 used:Int
 born:Int
 rd:D
 nr:Nat
 cd:D
 nc:Nat
 phase:Int
 hand:Int
 sub:Int
 gd:D
 ng:Nat
 per:Int
 start:Int
 rounds:Int
 forced:Int
def Hdr.row(h:Hdr):List Value:=[.int .i64 h.room,.int .i64 h.used,.int .i64 h.born,.slice h.rd.a h.nr h.rd.cap,.slice h.cd.a h.nc h.cd.cap,.int .i64 h.phase,.int .i64 h.hand,.int .i64 h.sub,.slice h.gd.a h.ng h.gd.cap,.int .i64 h.per,.int .i64 h.start,.int .i64 h.rounds,.int .i64 h.forced]
def hdA(a:Nat)(h:Hdr):Asr:=bx a h.row
def HX.hdr(x:HX):Hdr:=⟨x.room,x.used,x.born,x.rd,x.regs.length,x.cd,x.xs.length,x.phase,x.hand,x.sub,x.gd,x.gray.length,x.per,x.start,x.rounds,x.forced⟩
abbrev HX.row(x:HX):List Value:=x.hdr.row
abbrev HX.v(x:HX):Value:=.agg x.row.toArray
abbrev HX.body(x:HX):List Asr:=[slA 3 wv x.rd x.regs,clA x.cd x.xs,slA 1 iv x.gd x.gray]
abbrev hp(a:Nat)(x:HX):List Asr:=[hdA a x.hdr,slA 3 wv x.rd x.regs,clA x.cd x.xs,slA 1 iv x.gd x.gray]
def HX.hs(x:HX):HS:=⟨x.H,.slice x.rd.a x.regs.length x.rd.cap,.slice x.cd.a x.xs.length x.cd.cap,.slice x.gd.a x.gray.length x.gd.cap,x.xs⟩
theorem HX.len(x:HX):x.H.cells.length=x.xs.length:=by simp[HX.H]
theorem body_r{x:HX}{m:Mem}(h:star x.body m):RHV m x.hs:=by
 obtain⟨a,r,d,rfl,h1,b,r2,d2,rfl,h2,c,r3,d3,rfl,h3,_⟩:=h
 have l1:=le_l a (b.un (c.un r3))
 have l2:b.le (a.un (b.un (c.un r3))):=Mem.le_trans (le_l _ _) (le_r d)
 have l3:c.le (a.un (b.un (c.un r3))):=Mem.le_trans (le_l _ _) (Mem.le_trans (le_r d2) (le_r d))
 refine⟨h1.1.le l1,⟨?_,fun y hy=>?_⟩,rfl,h3.1.le l3⟩
 ·obtain⟨b',l,k⟩:=clA_l h2;exact(k.1.le l).le l2
 ·obtain⟨i,hi⟩:=List.getElem?_of_mem hy
  obtain⟨b',l,k⟩:=clA_p h2 hi;exact(k.1.le l).le l2
def resL(M:Mem)(L:List Nat):Mem:=fun b=>if b∈L then M b else none
theorem resL_le(M:Mem)(L:List Nat):(resL M L).le M:=fun b k h=>by unfold resL at h;split at h;exact h;cases h
theorem sl_res{M:Mem}{α:Type}{f:α→List Value}{size:Nat}{v:Value}{xs:List α}(h:Sl M size f v xs):∃d:D,v=.slice d.a xs.length d.cap∧slA size f d xs (resL M (own v)):=by
 obtain⟨a,cap,rfl⟩:=h.len
 refine⟨⟨a,cap⟩,rfl,?_,fun b hb=>?_⟩
 ·rcases h with h|⟨b,o,cap',row,e,hM,h3⟩
  ·exact .inl h
  ·refine .inr ⟨b,o,cap',row,e,?_,h3⟩
   unfold resL;rw[if_pos (by rw[e];simp[own])];exact hM
 ·unfold resL;rw[if_neg hb]
theorem resL_un(M:Mem)(L K:List Nat):(resL M L).un (resL M K)=resL M (L++K):=by
 funext b
 unfold Mem.un resL
 by_cases h1:b∈L<;>by_cases h2:b∈K<;>simp[h1,h2]
 all_goals (cases M b<;>rfl)
theorem resL_disj{M:Mem}{L K:List Nat}(h:∀b,b∈L→b∈K→False):Disj (resL M L) (resL M K):=by
 intro b
 by_cases h1:b∈L
 ·right;unfold resL;rw[if_neg (fun h2=>h b h1 h2)]
 ·left;unfold resL;rw[if_neg h1]
theorem pr_res{M:Mem}:∀{ys:List CS},(∀y,y∈ys→Sl M 6 pv y.s y.c.pairs)→(ys.flatMap fun y=>own y.s).Nodup→prA ys (resL M (ys.flatMap fun y=>own y.s))
 |[],_,_=>by funext b;simp[resL,emp]
 |y::r,h,hn=>by
  rw[List.flatMap_cons,List.nodup_append]at hn
  rw[List.flatMap_cons,←resL_un]
  obtain⟨d,e,hs⟩:=sl_res (h y (by simp))
  have hd:d=y.d:=by
   obtain⟨a,c⟩:=d
   simp only[CS.s,Value.slice.injEq,true_and]at e
   unfold CS.d;rw[e.1,e.2]
  refine⟨_,_,resL_disj (fun b h1 h2=>hn.2.2 b h1 b h2 rfl),rfl,by rw[hd]at hs;exact hs,pr_res (fun y hy=>h y (by simp[hy])) hn.2.1⟩
theorem body_w{y:HS}{M:Mem}(h:WHV M y):∃x:HX,x.hs=y∧star x.body (resL M y.fp):=by
 obtain⟨⟨h1,h2,h3,h4⟩,hn⟩:=h
 obtain⟨H,rs,cs,gs,xs⟩:=y
 obtain⟨rd,e1,k1⟩:=sl_res h1
 obtain⟨cd,e2,k2⟩:=sl_res h2.sl
 obtain⟨gd,e3,k3⟩:=sl_res h4
 simp only at e1 e2 e3 h3
 subst e1;subst e2;subst e3
 obtain⟨room,used,born,regs,cells,phase,hand,sub,gray,per,start,rounds,forced⟩:=H
 simp only at h3
 subst h3
 simp only[HS.fp,fpC,List.nodup_append]at hn
 obtain⟨n1,⟨⟨n2,n3,n4⟩,n5,n6⟩,n7⟩:=hn
 refine⟨⟨room,used,born,regs,xs,phase,hand,sub,gray,per,start,rounds,forced,rd,cd,gd⟩,rfl,?_⟩
 have kp:=pr_res h2.ps n3
 simp only[HS.fp,fpC]
 rw[←resL_un,←resL_un,←resL_un]
 refine⟨_,_,?_,rfl,k1,_,_,?_,rfl,star2.2 ⟨_,_,resL_disj (fun b a1 a2=>n4 b a1 b a2 rfl),rfl,k2,kp⟩,_,emp,disj_emp _,(un_emp _).symm,k3,rfl⟩
 ·rw[resL_un,resL_un];exact resL_disj (fun b a1 a2=>n7 b a1 b a2 rfl)
 ·rw[resL_un];exact resL_disj (fun b a1 a2=>n6 b a1 b a2 rfl)
end Go.Proofs.YtpleoapljeffiaaGreatDoor.E
set_option maxRecDepth 100000
namespace Go.Proofs.YtpleoapljeffiaaGreatDoor.E
open Go
noncomputable def e28:Env:=⟨Tryz.prog,[2],10,[]⟩
noncomputable def e24:Env:=⟨Tryz.prog,[],15,[]⟩
noncomputable def c24:C:=
 .seq (.reg [zD 6]) (.seq (.reg [z3 7 0,z3 8 1,qX 9 7 8,z3 10 9,zJ 11 10 0,zJ 12 10 2,qi 13 10 11 12,zK 14 10 13,z3 6 14]) .ret)
theorem t24:Tryz.f24.body.bind (trC e24)=some c24:=by kernel_rfl
theorem r24:Tryz.f24.results.toList.mapM (trR Tryz.prog)=some [.tmp 6]:=by kernel_rfl
theorem fn24{args:List Value}{M:Mem}{post:Value→Mem→Prop}(hl:args.length≤15)(h:VC e24 c24 (fnQ [.tmp 6] post) (initS args 15) M):Fn Tryz.prog 24 args M post:=
 Fn.of' (E:=e24) Tryz.func24 t24 rfl r24 mixed hl h
end Go.Proofs.YtpleoapljeffiaaGreatDoor.E
namespace Go.Proofs.YtpleoapljeffiaaGreatDoor.E
open Go
open Classical
theorem impl.withinQ{M:Mem}{a lo hi:Int}:Qt Tryz.prog 66 [.int .i64 a,.int .i64 lo,.int .i64 hi] M (.bool (decide (lo≤a∧a≤hi))):=by
 refine fn66 (by simp) ?_
 repeat' (first
  |(refine xw ?_)
  |(refine vl_gs rfl (fun hb=>?_) (fun hb=>?_))
  |(fail))
 all_goals (refine fnQ_r rfl (Mem.le_refl _) (q_end ?_))
 all_goals (simp_all<;>omega)
theorem spec.l1inQ{M:Mem}{a lo hi:Int}:Qt Tryz.prog 24 [.int .i64 a,.int .i64 lo,.int .i64 hi] M (.bool (decide (lo≤a∧a≤hi))):=by
 refine fn24 (by simp) ?_
 repeat' (first
  |(refine xw ?_)
  |(refine vl_gs rfl (fun hb=>?_) (fun hb=>?_))
  |(fail))
 all_goals (refine fnQ_r rfl (Mem.le_refl _) (q_end ?_))
 all_goals (simp_all<;>omega)
def ptr(a:Nat):Value:=.pointer (some ⟨a,0,none⟩)
structure PH (M:Mem) (a:Nat) (x:HS):Prop where
 blk:M a=some (.row (hv x.H x.rs x.cs x.gs))
 v:RHV M x
theorem PH.le{M M':Mem}{a:Nat}{x:HS}(h:PH M a x)(l:M.le M'):PH M' a x:=⟨l _ _ h.blk,h.v.le l⟩
theorem PH.at{M:Mem}{a:Nat}{x:HS}(h:PH M a x)(j:Nat):cell M a j=(hv x.H x.rs x.cs x.gs)[j]?:=row_cell h.blk j
theorem RHV.len{M:Mem}{x:HS}(h:RHV M x):x.xs.length=x.H.cells.length:=by rw[←h.eq];simp
theorem RHV.cellAt{M:Mem}{x:HS}(h:RHV M x){i:Int}(h0:0≤i)(h1:i<x.H.cells.length):
 ∃b o cap y,x.cs=.slice (some ⟨b,o,none⟩) x.H.cells.length cap∧cells M b (o+i.toNat*8) 8=some (csv y)∧y.c=x.H.getC i∧x.xs[i.toNat]?=some y∧Sl M 6 pv y.s y.c.pairs:=by
 have hl:=h.len
 have hi:i.toNat<x.xs.length:=by omega
 obtain⟨y,hy⟩:∃y,x.xs[i.toNat]?=some y:=⟨_,List.getElem?_eq_getElem hi⟩
 obtain⟨b,o,cap,e,hc⟩:=h.cl.sl.at (f:=csv) (fun _=>rfl) h0 (by omega) hy
 refine⟨b,o,cap,y,by rw[e,hl],hc,?_,hy,h.cl.ps y (List.mem_of_getElem? hy)⟩
 unfold Heap.getC
 rw[←h.eq,List.getD_eq_getElem?_getD,List.getElem?_map,hy];rfl
theorem bool_dec{b:Bool}{p:Prop}(h:b=true↔p):Value.bool b=.bool (decide p):=by
 congr 1
 rw[Bool.eq_iff_iff,h];simp
theorem bare_q{M:Mem}{y:CS}:Qt Tryz.prog 143 [ca y] M (.bool (decide (Bare y.c))):=by
 refine fn143 (by simp) ?_
 repeat' (first
  |(refine xw ?_)
  |(refine vl_gs rfl (fun hb=>?_) (fun hb=>?_))
  |(fail))
 all_goals (refine fnQ_r rfl (Mem.le_refl _) (q_end (bool_dec ?_)))
 all_goals (obtain⟨⟨_,_,_,_,_,_,_,ps⟩,_,_⟩:=y;simp_all [Bare])
theorem root_q{M:Mem}{y:CS}:Qt Tryz.prog 148 [ca y] M (.bool (decide (Root y.c))):=by
 refine fn148 (by simp) ?_
 repeat' (first
  |(refine xw ?_)
  |(refine vl_gs rfl (fun hb=>?_) (fun hb=>?_))
  |(fail))
 all_goals (refine fnQ_r rfl (Mem.le_refl _) (q_end (bool_dec ?_)))
 all_goals (obtain⟨⟨_,_,_,_,_,_,_,ps⟩,_,_⟩:=y;simp_all [Root])
theorem units_q{M:Mem}{y:CS}(hb:y.c.pairs.length≤4611686018427387904):Qt Tryz.prog 144 [ca y] M (.int .i64 y.c.units):=by
 refine fn144 (by simp) ?_
 repeat' (first
  |(refine xw ?_)
  |(refine seqQ_n ?_)
  |(refine seqQ_r ?_)
  |(refine VC.cond _ rfl (fun hb=>?_) (fun hb=>?_))
  |(fail))
 all_goals (refine fnQ_r rfl (Mem.le_refl _) (q_end ?_))
 all_goals (simp_all [Cell.units])
theorem marking_q{M:Mem}{a:Nat}{x:HS}(h:PH M a x):Qt Tryz.prog 150 [ptr a] M (.bool (decide (Marking x.H))):=by
 have f5:cell M a 5=_:=h.at 5
 refine fn150 (by simp) ?_
 repeat' (first
  |(refine xw ?_)
  |(refine vl_ld rfl (by first|exact f5) ?_)
  |(refine vl_gs rfl (fun hb=>?_) (fun hb=>?_))
  |(fail))
 all_goals (refine fnQ_r rfl (Mem.le_refl _) (q_end (bool_dec ?_)))
 all_goals simp_all [Marking]
theorem doomed_q{M:Mem}{a:Nat}{x:HS}{i:Int}(h:PH M a x)(h0:0≤i)(h1:i<x.H.cells.length):Qt Tryz.prog 147 [ptr a,.int .i64 i] M (.bool (decide (Doomed x.H i))):=by
 obtain⟨b,o,cap,y,e,hc,hy,_⟩:=h.v.cellAt h0 h1
 have f4:cell M a 4=_:=(h.at 4).trans (congrArg some e)
 have f5:cell M a 5=_:=h.at 5
 have f6:cell M a 6=_:=h.at 6
 refine fn147 (by simp) ?_
 repeat' (first
  |(refine xw ?_)
  |(refine vl_ld rfl (by first|exact f4|exact f5|exact f6|exact hc) ?_)
  |(refine vl_lds rfl (by first|exact f4|exact f5|exact f6|exact hc) ?_)
  |(refine vl_gs rfl (fun hb=>?_) (fun hb=>?_))
  |(fail))
 all_goals (refine fnQ_r rfl (Mem.le_refl _) (q_end (bool_dec ?_)))
 all_goals simp_all [Doomed]
theorem mended_q{M:Mem}{a:Nat}{x:HS}{i k:Int}(h:PH M a x):Qt Tryz.prog 149 [ptr a,.int .i64 i,.int .i64 k] M (.bool (decide (Mended x.H i k))):=by
 have f5:cell M a 5=_:=h.at 5
 have f6:cell M a 6=_:=h.at 6
 have f7:cell M a 7=_:=h.at 7
 refine fn149 (by simp) ?_
 repeat' (first
  |(refine xw ?_)
  |(refine vl_ld rfl (by first|exact f5|exact f6|exact f7) ?_)
  |(refine seqQ_n ?_)
  |(refine seqQ_r ?_)
  |(refine blkQ_r ?_)
  |(refine vl_gs rfl (fun hb=>?_) (fun hb=>?_))
  |(refine VC.cond _ rfl (fun hb=>?_) (fun hb=>?_))
  |(fail))
 all_goals (refine fnQ_r rfl (Mem.le_refl _) (q_end (bool_dec ?_)))
 all_goals (simp_all [Mended]<;>omega)
theorem formed_q{M:Mem}{a:Nat}{x:HS}{w:Word}(h:PH M a x):Qt Tryz.prog 145 [ptr a,wa w] M (.bool (decide (Formed x.H w))):=by
 obtain⟨sc,cc,e⟩:=h.v.cl.sl.len
 rw[h.v.len]at e
 have hbd:=h.v.cl.sl.bound
 rw[h.v.len]at hbd
 have f4:cell M a 4=_:=(h.at 4).trans (congrArg some e)
 refine fn145 (by simp) ?_
 repeat' (first
  |(refine xw ?_)
  |(refine vl_ld rfl (by first|exact f4) ?_)
  |(refine vl_q rfl (impl.withinQ) ?_)
  |(refine seqQ_n ?_)
  |(refine seqQ_r ?_)
  |(refine blkQ_r ?_)
  |(refine vl_gs rfl (fun hb=>?_) (fun hb=>?_))
  |(refine VC.cond _ rfl (fun hb=>?_) (fun hb=>?_))
  |(fail))
 all_goals (refine fnQ_r rfl (Mem.le_refl _) (q_end (bool_dec ?_)))
 all_goals (simp_all [Formed]<;>omega)
theorem Formed.at{H:Heap}{w:Word}(h:Formed H w)(hk:w.kind=2):0≤w.at_∧w.at_<H.cells.length:=by
 rcases h with h|h|h
 ·omega
 ·omega
 ·exact⟨h.2.2.1,h.2.2.2⟩
theorem white_q{M:Mem}{a:Nat}{x:HS}{w:Word}(h:PH M a x)(hf:Formed x.H w):Qt Tryz.prog 151 [ptr a,wa w] M (.bool (decide (White x.H w))):=by
 refine fn151 (by simp) ?_
 by_cases hk:w.kind=2
 ·obtain⟨b,o,cap,y,e,hc,hy,_⟩:=h.v.cellAt (hf.at hk).1 (hf.at hk).2
  have f4:cell M a 4=_:=(h.at 4).trans (congrArg some e)
  have hat:=hf.at hk
  repeat' (first
   |(refine xw ?_)
   |(refine vl_ld rfl (by first|exact f4|exact hc|exact cells_cell hc (j:=5) rfl) ?_)
   |(refine vl_gs rfl (fun hb=>?_) (fun hb=>?_))
   |(fail))
  all_goals (refine fnQ_r rfl (Mem.le_refl _) (q_end (bool_dec ?_)))
  all_goals simp_all [White]
 ·repeat' (first
   |(refine xw ?_)
   |(exact absurd (by simpa using hb) hk)
   |(refine vl_gs rfl (fun hb=>?_) (fun hb=>?_))
   |(fail))
  all_goals (refine fnQ_r rfl (Mem.le_refl _) (q_end (bool_dec ?_)))
  all_goals simp_all [White]
theorem leadsWell_q{M:Mem}{a:Nat}{x:HS}{w:Word}{m:Bool}(h:PH M a x)(hf:Formed x.H w):Qt Tryz.prog 146 [ptr a,wa w,.bool m] M (.bool (decide (LeadsWell x.H w (m=true)))):=by
 refine fn146 (by simp) ?_
 by_cases hk:w.kind=2
 ·obtain⟨b,o,cap,y,e,hc,hy,_⟩:=h.v.cellAt (hf.at hk).1 (hf.at hk).2
  have f4:cell M a 4=_:=(h.at 4).trans (congrArg some e)
  have hat:=hf.at hk
  repeat' (first
   |(refine xw ?_)
   |(refine vl_ld rfl (by first|exact f4|exact hc|exact cells_cell hc (j:=0) rfl) ?_)
   |(refine vl_cq rfl (doomed_q h hat.1 hat.2) ?_)
   |(refine seqQ_n ?_)
   |(refine seqQ_r ?_)
   |(refine vl_gs rfl (fun hb=>?_) (fun hb=>?_))
   |(refine VC.cond _ rfl (fun hb=>?_) (fun hb=>?_))
   |(fail))
  all_goals (refine fnQ_r rfl (Mem.le_refl _) (q_end (bool_dec ?_)))
  all_goals (simp_all [LeadsWell])
 ·repeat' (first
   |(refine xw ?_)
   |(exact absurd (by simpa using hb) hk)
   |(refine seqQ_n ?_)
   |(refine seqQ_r ?_)
   |(refine VC.cond _ rfl (fun hb=>?_) (fun hb=>?_))
   |(fail))
  all_goals (refine fnQ_r rfl (Mem.le_refl _) (q_end (bool_dec ?_)))
  all_goals (simp_all [LeadsWell])
def Heap.lead(H:Heap)(w:Word):Word:=if w.kind=2∧(H.getC w.at_).state=2 then⟨2,0,(H.getC w.at_).to⟩else w
theorem lead_q{M:Mem}{a:Nat}{x:HS}{w:Word}(h:PH M a x)(hf:w.kind=2→0≤w.at_∧w.at_<x.H.cells.length):Qt Tryz.prog 126 [ptr a,wa w] M (wa (x.H.lead w)):=by
 refine fn126 (by simp) ?_
 unfold Heap.lead
 by_cases hk:w.kind=2
 ·obtain⟨b,o,cap,y,e,hc,hy,_⟩:=h.v.cellAt (hf hk).1 (hf hk).2
  have f4:cell M a 4=_:=(h.at 4).trans (congrArg some e)
  have hat:=hf hk
  repeat' (first
   |(refine xw ?_)
   |(refine vl_ld rfl (by first|exact f4|exact hc|exact cells_cell hc (j:=0) rfl|exact cells_cell hc (j:=6) rfl) ?_)
   |(refine seqQ_n ?_)
   |(refine seqQ_r ?_)
   |(refine vl_gs rfl (fun hb=>?_) (fun hb=>?_))
   |(refine VC.cond _ rfl (fun hb=>?_) (fun hb=>?_))
   |(fail))
  all_goals (refine fnQ_r rfl (Mem.le_refl _) (q_end ?_))
  any_goals (exfalso;simp_all;done)
  any_goals (rw[if_pos (by simp_all)];rw[←hy];rfl)
  all_goals (rw[if_neg (by simp_all)];rfl)
 ·repeat' (first
   |(refine xw ?_)
   |(exfalso;simp_all;done)
   |(refine seqQ_n ?_)
   |(refine vl_gs rfl (fun hb=>?_) (fun hb=>?_))
   |(refine VC.cond _ rfl (fun hb=>?_) (fun hb=>?_))
   |(fail))
  all_goals (refine fnQ_r rfl (Mem.le_refl _) (q_end ?_))
  all_goals (rw[if_neg (by simp_all)];rfl)
end Go.Proofs.YtpleoapljeffiaaGreatDoor.E
set_option maxHeartbeats 4000000
namespace Go.Proofs.YtpleoapljeffiaaGreatDoor.E
open Go
theorem rd_hd{a j:Nat}{h:Hdr}{v:Value}(e:h.row[j]?=some v):RdA (hdA a h) a j v:=rd_bx e
theorem rs_hd{a:Nat}{h:Hdr}:RsA (hdA a h) a 0 13 h.row:=rs_bx (by simp[Hdr.row]) rfl
theorem up_hd{a j:Nat}{h h':Hdr}{vs:List Value}(hj:j+vs.length≤13)(e:WrK h.row j vs (fun c=>h'.row=c)):UpA (hdA a h) a j vs (hdA a h'):=
 up_bx (by simpa [Hdr.row]using hj) ⟨by unfold hdA;rw[e.out]⟩
def Hdr.s_room(h:Hdr)(v:Int):Hdr:={h with room:=v}
theorem u_room{a:Nat}{h:Hdr}{v:Int}:UpA (hdA a h) a 0 [.int .i64 v] (hdA a (h.s_room v)):=up_hd (by simp) ⟨rfl⟩
def Hdr.s_used(h:Hdr)(v:Int):Hdr:={h with used:=v}
theorem u_used{a:Nat}{h:Hdr}{v:Int}:UpA (hdA a h) a 1 [.int .i64 v] (hdA a (h.s_used v)):=up_hd (by simp) ⟨rfl⟩
def Hdr.s_born(h:Hdr)(v:Int):Hdr:={h with born:=v}
theorem u_born{a:Nat}{h:Hdr}{v:Int}:UpA (hdA a h) a 2 [.int .i64 v] (hdA a (h.s_born v)):=up_hd (by simp) ⟨rfl⟩
def Hdr.s_phase(h:Hdr)(v:Int):Hdr:={h with phase:=v}
theorem u_phase{a:Nat}{h:Hdr}{v:Int}:UpA (hdA a h) a 5 [.int .i64 v] (hdA a (h.s_phase v)):=up_hd (by simp) ⟨rfl⟩
def Hdr.s_hand(h:Hdr)(v:Int):Hdr:={h with hand:=v}
theorem u_hand{a:Nat}{h:Hdr}{v:Int}:UpA (hdA a h) a 6 [.int .i64 v] (hdA a (h.s_hand v)):=up_hd (by simp) ⟨rfl⟩
def Hdr.s_sub(h:Hdr)(v:Int):Hdr:={h with sub:=v}
theorem u_sub{a:Nat}{h:Hdr}{v:Int}:UpA (hdA a h) a 7 [.int .i64 v] (hdA a (h.s_sub v)):=up_hd (by simp) ⟨rfl⟩
def Hdr.s_per(h:Hdr)(v:Int):Hdr:={h with per:=v}
theorem u_per{a:Nat}{h:Hdr}{v:Int}:UpA (hdA a h) a 9 [.int .i64 v] (hdA a (h.s_per v)):=up_hd (by simp) ⟨rfl⟩
def Hdr.s_start(h:Hdr)(v:Int):Hdr:={h with start:=v}
theorem u_start{a:Nat}{h:Hdr}{v:Int}:UpA (hdA a h) a 10 [.int .i64 v] (hdA a (h.s_start v)):=up_hd (by simp) ⟨rfl⟩
def Hdr.s_rounds(h:Hdr)(v:Int):Hdr:={h with rounds:=v}
theorem u_rounds{a:Nat}{h:Hdr}{v:Int}:UpA (hdA a h) a 11 [.int .i64 v] (hdA a (h.s_rounds v)):=up_hd (by simp) ⟨rfl⟩
def Hdr.s_forced(h:Hdr)(v:Int):Hdr:={h with forced:=v}
theorem u_forced{a:Nat}{h:Hdr}{v:Int}:UpA (hdA a h) a 12 [.int .i64 v] (hdA a (h.s_forced v)):=up_hd (by simp) ⟨rfl⟩
def Hdr.s_rd(h:Hdr)(d:D)(n:Nat):Hdr:={h with rd:=d,nr:=n}
theorem u_rd{a:Nat}{h:Hdr}{d:D}{n:Nat}:UpA (hdA a h) a 3 [.slice d.a n d.cap] (hdA a (h.s_rd d n)):=up_hd (by simp) ⟨rfl⟩
def Hdr.s_cd(h:Hdr)(d:D)(n:Nat):Hdr:={h with cd:=d,nc:=n}
theorem u_cd{a:Nat}{h:Hdr}{d:D}{n:Nat}:UpA (hdA a h) a 4 [.slice d.a n d.cap] (hdA a (h.s_cd d n)):=up_hd (by simp) ⟨rfl⟩
def Hdr.s_gd(h:Hdr)(d:D)(n:Nat):Hdr:={h with gd:=d,ng:=n}
theorem u_gd{a:Nat}{h:Hdr}{d:D}{n:Nat}:UpA (hdA a h) a 8 [.slice d.a n d.cap] (hdA a (h.s_gd d n)):=up_hd (by simp) ⟨rfl⟩
def CS.s_state(y:CS)(v:Int):CS:={y with c:={y.c with state:=v}}
def CS.s_kind(y:CS)(v:Int):CS:={y with c:={y.c with kind:=v}}
def CS.s_weak(y:CS)(v:Int):CS:={y with c:={y.c with weak:=v}}
def CS.s_last(y:CS)(v:Int):CS:={y with c:={y.c with last:=v}}
def CS.s_born(y:CS)(v:Int):CS:={y with c:={y.c with born:=v}}
def CS.s_color(y:CS)(v:Int):CS:={y with c:={y.c with color:=v}}
def CS.s_to(y:CS)(v:Int):CS:={y with c:={y.c with to:=v}}
def CS.s_pair(y:CS)(k:Nat)(p:Pair):CS:={y with c:={y.c with pairs:=y.c.pairs.set k p}}
def Pair.s_key(p:Pair)(w:Word):Pair:={p with key:=w}
def Pair.s_val(p:Pair)(w:Word):Pair:={p with val:=w}
section
variable {cd:D} {ys:List CS} {i:Nat} {y:CS} {v:Int}
theorem u_cstate(hi:ys[i]?=some y):UpA (clA cd ys) cd.b (cd.o+i*8+0) [.int .i64 v] (clA cd (ys.set i (y.s_state v))):=up_cl hi (by simp) rfl rfl rfl
theorem u_ckind(hi:ys[i]?=some y):UpA (clA cd ys) cd.b (cd.o+i*8+1) [.int .i64 v] (clA cd (ys.set i (y.s_kind v))):=up_cl hi (by simp) rfl rfl rfl
theorem u_cweak(hi:ys[i]?=some y):UpA (clA cd ys) cd.b (cd.o+i*8+2) [.int .i64 v] (clA cd (ys.set i (y.s_weak v))):=up_cl hi (by simp) rfl rfl rfl
theorem u_clast(hi:ys[i]?=some y):UpA (clA cd ys) cd.b (cd.o+i*8+3) [.int .i64 v] (clA cd (ys.set i (y.s_last v))):=up_cl hi (by simp) rfl rfl rfl
theorem u_cborn(hi:ys[i]?=some y):UpA (clA cd ys) cd.b (cd.o+i*8+4) [.int .i64 v] (clA cd (ys.set i (y.s_born v))):=up_cl hi (by simp) rfl rfl rfl
theorem u_ccolor(hi:ys[i]?=some y):UpA (clA cd ys) cd.b (cd.o+i*8+5) [.int .i64 v] (clA cd (ys.set i (y.s_color v))):=up_cl hi (by simp) rfl rfl rfl
theorem u_cto(hi:ys[i]?=some y):UpA (clA cd ys) cd.b (cd.o+i*8+6) [.int .i64 v] (clA cd (ys.set i (y.s_to v))):=up_cl hi (by simp) rfl rfl rfl
variable {k:Nat} {p:Pair} {w:Word}
theorem u_key(hi:ys[i]?=some y)(hk:y.c.pairs[k]?=some p):UpA (clA cd ys) y.d.b (y.d.o+k*6+0) (wv w) (clA cd (ys.set i (y.s_pair k (p.s_key w)))):=up_cp hi hk (by simp[wv]) rfl
theorem u_val(hi:ys[i]?=some y)(hk:y.c.pairs[k]?=some p):UpA (clA cd ys) y.d.b (y.d.o+k*6+3) (wv w) (clA cd (ys.set i (y.s_pair k (p.s_val w)))):=up_cp hi hk (by simp[wv]) rfl
theorem r_key(hi:ys[i]?=some y)(hk:y.c.pairs[k]?=some p):RsA (clA cd ys) y.d.b (y.d.o+k*6+0) 3 (wv p.key):=rs_cpp hi hk (by omega) rfl
theorem r_val(hi:ys[i]?=some y)(hk:y.c.pairs[k]?=some p):RsA (clA cd ys) y.d.b (y.d.o+k*6+3) 3 (wv p.val):=rs_cpp hi hk (by omega) rfl
end
section
variable {d:D} {ws:List Word} {i:Nat} {w w':Word} {v:Int}
theorem u_reg(hi:ws[i]?=some w):UpA (slA 3 wv d ws) d.b (d.o+i*3) (wv w') (slA 3 wv d (ws.set i w')):=up_sl (j:=0) wv_len hi (by simp[wv]) rfl
theorem u_regat(hi:ws[i]?=some w):UpA (slA 3 wv d ws) d.b (d.o+i*3+2) [.int .i64 v] (slA 3 wv d (ws.set i {w with at_:=v})):=up_sl wv_len hi (by simp) rfl
theorem r_reg(hi:ws[i]?=some w):RsA (slA 3 wv d ws) d.b (d.o+i*3) 3 (wv w):=rs_sl wv_len hi
variable {is:List Int} {n m:Int}
theorem r_int(hi:is[i]?=some n):RdA (slA 1 iv d is) d.b (d.o+i*1) (.int .i64 n):=rd_sl (j:=0) iv_len hi rfl
theorem u_int(hi:is[i]?=some n):UpA (slA 1 iv d is) d.b (d.o+i*1) [.int .i64 m] (slA 1 iv d (is.set i m)):=up_sl (j:=0) iv_len hi (by simp) rfl
variable {bs:List Bool} {b b':Bool}
theorem r_bool(hi:bs[i]?=some b):RdA (slA 1 bv d bs) d.b (d.o+i*1) (.bool b):=rd_sl (j:=0) bv_len hi rfl
theorem u_bool(hi:bs[i]?=some b):UpA (slA 1 bv d bs) d.b (d.o+i*1) [.bool b'] (slA 1 bv d (bs.set i b')):=up_sl (j:=0) bv_len hi (by simp) rfl
end
@[simp] theorem HX.hs_H(x:HX):x.hs.H=x.H:=rfl
theorem hp_r{a:Nat}{x:HX}{m:Mem}(h:star (hp a x) m):PH m a x.hs:=by
 obtain⟨b,r,d,rfl,h1,h2⟩:=h
 have h1:b=one a (.row x.row):=h1
 subst h1
 exact⟨un_l (one_same _ _),(body_r h2).le (le_r d)⟩
theorem ph_of{a:Nat}{x:HX}{As F:List Asr}{m:Mem}(hm:star As m)(h:Pm As (hp a x) F):PH m a x.hs:=by
 obtain⟨m1,m2,d,rfl,h1,h2⟩:=star_append.1 (h.out m hm)
 exact(hp_r h1).le (le_l _ _)
def Has(m:Mem)(As:List Asr):Prop:=∃a,a.le m∧star As a
theorem Has.le{m M:Mem}{As:List Asr}(h:Has m As)(l:m.le M):Has M As:=by obtain⟨a,l',s⟩:=h;exact⟨a,Mem.le_trans l' l,s⟩
theorem Has.ent{m:Mem}{As Bs:List Asr}(h:Has m As)(e:Ent As Bs):Has m Bs:=by obtain⟨a,l',s⟩:=h;obtain⟨b,l2,s2⟩:=e.out a s;exact⟨b,Mem.le_trans l2 l',s2⟩
def ro(m0:Mem):Asr:=fun m=>m=m0
theorem rd_ro{m0:Mem}{As:List Asr}{b o:Nat}{v:Value}(h:Has m0 As)(r:Rd As b o v):RdA (ro m0) b o v:=⟨fun m hm=>by
 have hm:m=m0:=hm
 subst hm;obtain⟨a,l,s⟩:=h;exact cell_le l (r.out a s)⟩
theorem rs_ro{m0:Mem}{As:List Asr}{b o n:Nat}{v:List Value}(h:Has m0 As)(r:Rs As b o n v):RsA (ro m0) b o n v:=⟨fun m hm=>by
 have hm:m=m0:=hm
 subst hm;obtain⟨a,l,s⟩:=h;exact cells_le l (r.out a s)⟩
theorem kn_ro{m0:Mem}{As:List Asr}{p:Prop}(h:Has m0 As)(r:Kn As p):KnA (ro m0) p:=⟨fun m hm=>by
 obtain⟨a,l,s⟩:=h;exact r.out a s⟩
theorem Has.ph{m:Mem}{a:Nat}{x:HX}(h:Has m (hp a x)):PH m a x.hs:=by obtain⟨b,l,s⟩:=h;exact(hp_r s).le l
theorem Has.b{m:Mem}{x:HX}(h:Has m x.body):RHV m x.hs:=by obtain⟨b,l,s⟩:=h;exact(body_r s).le l
theorem ro_of{As F:List Asr}{m0 m:Mem}(hm:star As m)(h:Pm As [ro m0] F):m0.le m:=by
 obtain⟨a,b,d,rfl,⟨a1,a2,d2,rfl,h1,h2⟩,_⟩:=star_append.1 (h.out m hm)
 have h1:a1=m0:=h1
 subst h1
 exact Mem.le_trans (le_l _ _) (le_l _ _)
theorem Fn.shrink{P:Program}{f:FuncId}{args:List Value}{M:Mem}{post:Value→Mem→Prop}(h:Fn P f args M (fun v M'=>∃m',m'.le M'∧post v m')):Fn P f args M post:=
 ⟨fun w hw=>(h.out w hw).mono fun e w' ⟨v,M',he,⟨m',l,hp⟩,hs,ht⟩=>⟨v,m',he,hp,hs.le l,ht.le l⟩⟩
theorem qt_of{P:Program}{f:FuncId}{args:List Value}{m:Mem}{r:Value}(h:FnA P f args [ro m] (fun v As=>v=r∧As=[ro m])):Qt P f args m r:=by
 refine Fn.shrink ((h.out m ⟨m,emp,disj_emp _,(un_emp _).symm,rfl,rfl⟩).mono ?_)
 rintro v M' ⟨As,m',l,s,rfl,rfl⟩
 obtain⟨a,b,d,rfl,h1,h2⟩:=s
 have h1:a=m:=h1
 subst h1
 exact⟨a,Mem.le_trans (le_l _ _) l,rfl,rfl⟩
theorem has_new{m m0:Mem}{b:Nat}{x:HX}{As F:List Asr}(h:Has m0 x.body)(s:star As m)(hm:Pm As [hdA b x.hdr,ro m0] F):Has m (hp b x):=by
 obtain⟨a,c,d,rfl,⟨a1,a2,d2,rfl,h1,⟨a3,a4,d3,rfl,h3,_⟩⟩,_⟩:=star_append.1 (hm.out m s)
 have h3:a3=m0:=h3
 subst h3
 obtain⟨m',l,s'⟩:=h
 have l':m'.le (a3.un a4):=Mem.le_trans l (le_l _ _)
 have d':Disj a1 m':=fun x=>by
  rcases d2 x with h|h
  ·exact .inl h
  ·exact .inr (le_none l' h)
 refine⟨a1.un m',?_,a1,m',d',rfl,h1,s'⟩
 refine Mem.le_trans ?_ (le_l _ _)
 intro x k hk
 cases ha:a1 x with
 |some k'=>rw[un_l ha]at hk;cases hk;exact un_l ha
 |none=>rw[un_n ha]at hk;exact un_r d2 (l' x k hk)
theorem sep_has{As F Bs:List Asr}{m:Mem}(hm:star As m)(h:Pm As Bs F):Has m Bs:=by
 obtain⟨m1,m2,d,rfl,h1,h2⟩:=star_append.1 (h.out m hm)
 exact⟨m1,le_l _ _,h1⟩
theorem rd_bad{b o:Nat}{v:Value}(h:False):Rd [fun _=>False] b o v:=h.elim
theorem rs_bad{b o n:Nat}{v:List Value}(h:False):Rs [fun _=>False] b o n v:=h.elim
theorem kn_bad{p:Prop}(h:False):Kn [fun _=>False] p:=h.elim
theorem up_bad{b o:Nat}{v:List Value}{R:List Asr}(h:False):Up [fun _=>False] b o v R:=h.elim
theorem pk_bad{A:Asr}{R:List Asr}(h:False):Pk [fun _=>False] A R:=h.elim
theorem pm_bad{R F:List Asr}(h:False):Pm [fun _=>False] R F:=h.elim
theorem pmt{p:Prop}(h:p:=by(fail_if_success apply pm_bad);(repeat(first|exact pm_nil|(apply pm_cons;repeat(first|exact pk_h|apply pk_t))));fail_if_success focus skip):p:=h
section
variable {P:Program} {S:St} {As:List Asr} {post:St→List Asr→Prop} {r:List I} {d:Option Nat}
theorem k_L{i:I}(h:LA P (i::r) post S As):LA P (i::r) post S As:=h
theorem k_V{E:Env}{c:C}{Q:X→St→List Asr→Prop}(h:VA E c Q S As):VA E c Q S As:=h
theorem k_g{g:Nat×Bool}{k:K}(h:LA P (⟨d,some g,k⟩::r) post S As):LA P (⟨d,some g,k⟩::r) post S As:=h
theorem k_ad{x y:Operand}(h:LA P (⟨d,none,.bin .add x y⟩::r) post S As):LA P (⟨d,none,.bin .add x y⟩::r) post S As:=h
theorem k_su{x y:Operand}(h:LA P (⟨d,none,.bin .sub x y⟩::r) post S As):LA P (⟨d,none,.bin .sub x y⟩::r) post S As:=h
theorem k_ml{x y:Operand}(h:LA P (⟨d,none,.bin .mul x y⟩::r) post S As):LA P (⟨d,none,.bin .mul x y⟩::r) post S As:=h
theorem k_i{n:Nat}{x y:Operand}(h:LA P (⟨d,none,.iaddr n x y⟩::r) post S As):LA P (⟨d,none,.iaddr n x y⟩::r) post S As:=h
theorem k_l{n:Nat}{x:Operand}(h:LA P (⟨d,none,.load true n x⟩::r) post S As):LA P (⟨d,none,.load true n x⟩::r) post S As:=h
theorem k_ls{n:Nat}{x:Operand}(h:LA P (⟨d,none,.load false n x⟩::r) post S As):LA P (⟨d,none,.load false n x⟩::r) post S As:=h
theorem k_st{n:Nat}{x y:Operand}(h:LA P (⟨d,none,.store n x y⟩::r) post S As):LA P (⟨d,none,.store n x y⟩::r) post S As:=h
theorem k_al{z:List Value}(h:LA P (⟨d,none,.alloc true z⟩::r) post S As):LA P (⟨d,none,.alloc true z⟩::r) post S As:=h
theorem k_bx{x:Operand}(h:LA P (⟨d,none,.box true x⟩::r) post S As):LA P (⟨d,none,.box true x⟩::r) post S As:=h
theorem k_bl{a b:Nat}{z:List Value}{ps:List (Nat×Nat×Operand)}(h:LA P (⟨d,none,.bslice true a b z ps⟩::r) post S As):LA P (⟨d,none,.bslice true a b z ps⟩::r) post S As:=h
theorem k_q{g:FuncId}{xs:List Operand}(h:LA P (⟨d,none,.qcall g xs⟩::r) post S As):LA P (⟨d,none,.qcall g xs⟩::r) post S As:=h
theorem k_c{g:FuncId}{xs:List Operand}(h:LA P (⟨d,none,.call g xs⟩::r) post S As):LA P (⟨d,none,.call g xs⟩::r) post S As:=h
theorem k_p{s:Nat}{x y:Operand}(h:LA P (⟨d,none,.pick (.tmp s) x y⟩::r) post S As):LA P (⟨d,none,.pick (.tmp s) x y⟩::r) post S As:=h
end
section
variable {P:Program} {S:St} {As:List Asr} {post:St→List Asr→Prop} {r:List I} {d:Option Nat}
theorem g_ad{x y:Operand}{a b:Int}(hx:ev S x=some (.int .i64 a))(hy:ev S y=some (.int .i64 b))(hp:LA P r post (put S d (.v (.int .i64 (a+b)))) As)(hb: -9223372036854775808≤a+b∧a+b≤9223372036854775807:=by first|omega|(simp only[HX.hdr,Hdr.s_room,Hdr.s_used,Hdr.s_born,Hdr.s_phase,Hdr.s_hand,Hdr.s_sub,Hdr.s_per,Hdr.s_start,Hdr.s_rounds,Hdr.s_forced,Hdr.s_rd,Hdr.s_cd,Hdr.s_gd,HX.H,List.length_map,List.length_set]at*;omega)):LA P (⟨d,none,.bin .add x y⟩::r) post S As:=a_ad hx hy hb hp
theorem g_su{x y:Operand}{a b:Int}(hx:ev S x=some (.int .i64 a))(hy:ev S y=some (.int .i64 b))(hp:LA P r post (put S d (.v (.int .i64 (a-b)))) As)(hb: -9223372036854775808≤a-b∧a-b≤9223372036854775807:=by first|omega|(simp only[HX.hdr,Hdr.s_room,Hdr.s_used,Hdr.s_born,Hdr.s_phase,Hdr.s_hand,Hdr.s_sub,Hdr.s_per,Hdr.s_start,Hdr.s_rounds,Hdr.s_forced,Hdr.s_rd,Hdr.s_cd,Hdr.s_gd,HX.H,List.length_map,List.length_set]at*;omega)):LA P (⟨d,none,.bin .sub x y⟩::r) post S As:=a_su hx hy hb hp
theorem g_ml{x y:Operand}{a b:Int}(hx:ev S x=some (.int .i64 a))(hy:ev S y=some (.int .i64 b))(hp:LA P r post (put S d (.v (.int .i64 (a*b)))) As)(hb: -9223372036854775808≤a*b∧a*b≤9223372036854775807:=by first|omega|(simp only[HX.hdr,Hdr.s_room,Hdr.s_used,Hdr.s_born,Hdr.s_phase,Hdr.s_hand,Hdr.s_sub,Hdr.s_per,Hdr.s_start,Hdr.s_rounds,Hdr.s_forced,Hdr.s_rd,Hdr.s_cd,Hdr.s_gd,HX.H,List.length_map]at*;omega)):LA P (⟨d,none,.bin .mul x y⟩::r) post S As:=a_ml hx hy hb hp
theorem g_i{e:D}{x y:Operand}{size n cap:Nat}{k:IntKind}{i:Int}(hx:ev S x=some (.slice e.a n cap))(hy:ev S y=some (.int k i))(hp:LA P r post (put S d (.v (.pointer (some ⟨e.b,e.o+i.toNat*size,none⟩)))) As)(hi:0≤i∧i<n:=by first|omega|(simp only[HX.hdr,Hdr.s_room,Hdr.s_used,Hdr.s_born,Hdr.s_phase,Hdr.s_hand,Hdr.s_sub,Hdr.s_per,Hdr.s_start,Hdr.s_rounds,Hdr.s_forced,Hdr.s_rd,Hdr.s_cd,Hdr.s_gd,HX.H,List.length_map,List.length_set]at*;omega))
 (hb:Kn As (e.a=some ⟨e.b,e.o,none⟩):=by(fail_if_success apply kn_bad);(repeat(first|exact kn_h (kn_cl (by assumption))|exact kn_h (kn_cp (by assumption) (by assumption))|exact kn_h (bs_sl (by assumption))|exact kn_h (kn_ro (by assumption) (by(repeat(first|exact kn_h (kn_cl (by assumption))|exact kn_h (kn_cp (by assumption) (by assumption))|exact kn_h (bs_sl (by assumption))|apply kn_t));fail_if_success focus skip))|apply kn_t));fail_if_success focus skip):LA P (⟨d,none,.iaddr size x y⟩::r) post S As:=a_i hx hy hb hi hp
theorem g_tk{e:D}{x:Operand}{hi:Option Operand}{size n:Nat}{k:IntKind}{i:Int}(hx:ev S x=some (.slice e.a n e.cap))(hh:optEv S hi=some (some (.int k i)))(hp:LA P r post (put S d (.v (.slice e.a i.toNat e.cap))) As)(hi0:0≤i∧i≤e.cap:=by first|omega|(simp only[HX.hdr,Hdr.s_room,Hdr.s_used,Hdr.s_born,Hdr.s_phase,Hdr.s_hand,Hdr.s_sub,Hdr.s_per,Hdr.s_start,Hdr.s_rounds,Hdr.s_forced,Hdr.s_rd,Hdr.s_cd,Hdr.s_gd,HX.H,List.length_map,List.length_set]at*;omega))
 (hb:Kn As (e.a=none∨e.a=some ⟨e.b,e.o,none⟩):=by(fail_if_success apply kn_bad);(repeat(first|exact kn_h (kp_cp (by assumption))|exact kn_h kp_cl|exact kn_h pl_sl|exact kn_h (kn_ro (by assumption) (by(repeat(first|exact kn_h (kp_cp (by assumption))|exact kn_h kp_cl|exact kn_h pl_sl|apply kn_t));fail_if_success focus skip))|apply kn_t));fail_if_success focus skip):LA P (⟨d,none,.slc size x none hi⟩::r) post S As:=a_tk hx hh hb hi0 hp
theorem g_l{n:Nat}{x:Operand}{b o:Nat}{v:Value}(hx:lc S x=some (.mm b o))(hp:LA P r post (put S d (.v v)) As)(hv:Rd As b o v:=by(fail_if_success apply rd_bad);(repeat(first|exact rd_h (rd_hd rfl)|exact rd_h (rd_bx rfl)|exact rd_h (rd_cl (by assumption) rfl)|exact rd_h (rd_cp (by assumption) (by assumption) rfl)|exact rd_h (r_int (by assumption))|exact rd_h (r_bool (by assumption))|exact rd_h (rd_ro (by assumption) (by(repeat(first|exact rd_h (rd_hd rfl)|exact rd_h (rd_cl (by assumption) rfl)|exact rd_h (rd_cp (by assumption) (by assumption) rfl)|exact rd_h (r_int (by assumption))|apply rd_t));fail_if_success focus skip))|apply rd_t));fail_if_success focus skip):LA P (⟨d,none,.load true n x⟩::r) post S As:=a_l hx hv hp
theorem g_ls{n:Nat}{x:Operand}{b o:Nat}{vs:List Value}(hx:lc S x=some (.mm b o))(hp:LA P r post (put S d (.v (.agg vs.toArray))) As)(hv:Rs As b o n vs:=by(fail_if_success apply rs_bad);(repeat(first|exact rs_h rs_hd|exact rs_h (rs_cl (by assumption))|exact rs_h (rs_cp (by assumption) (by assumption))|exact rs_h (r_key (by assumption) (by assumption))|exact rs_h (r_val (by assumption) (by assumption))|exact rs_h (r_reg (by assumption))|exact rs_h (rs_ro (by assumption) (by(repeat(first|exact rs_h rs_hd|exact rs_h (rs_cl (by assumption))|exact rs_h (rs_cp (by assumption) (by assumption))|exact rs_h (r_key (by assumption) (by assumption))|exact rs_h (r_val (by assumption) (by assumption))|exact rs_h (r_reg (by assumption))|apply rs_t));fail_if_success focus skip))|apply rs_t));fail_if_success focus skip):LA P (⟨d,none,.load false n x⟩::r) post S As:=a_ls hx hv hp
theorem g_st{n:Nat}{x y:Operand}{b o:Nat}{v:Value}{As':List Asr}(hx:lc S x=some (.mm b o))(hy:ev S y=some v)(hn:v.cells.size=n)(hpl:plainCells v.cells.toList=true)(hp:LA P r post S As')(hu:Up As b o v.cells.toList As':=by(fail_if_success apply up_bad);(repeat(first|exact up_h u_room|exact up_h u_used|exact up_h u_born|exact up_h u_phase|exact up_h u_hand|exact up_h u_sub|exact up_h u_per|exact up_h u_start|exact up_h u_rounds|exact up_h u_forced|exact up_h u_rd|exact up_h u_cd|exact up_h u_gd|exact up_h (u_cstate (by assumption))|exact up_h (u_ckind (by assumption))|exact up_h (u_cweak (by assumption))|exact up_h (u_clast (by assumption))|exact up_h (u_cborn (by assumption))|exact up_h (u_ccolor (by assumption))|exact up_h (u_cto (by assumption))|exact up_h (u_key (by assumption) (by assumption))|exact up_h (u_val (by assumption) (by assumption))|exact up_h (u_reg (by assumption))|exact up_h (u_regat (by assumption))|exact up_h (u_int (by assumption))|exact up_h (u_bool (by assumption))|apply up_t));fail_if_success focus skip):
 LA P (⟨d,none,.store n x y⟩::r) post S As:=a_st hx hy hn hpl hu hp
theorem g_sw{n:Nat}{x y:Operand}{s o:Nat}{cs:List Value}{v:Value}(hx:lc S x=some (.bx s o))(hb:S s=.box cs)(hy:ev S y=some v)(hn:v.cells.size=n)(hle:o+n≤cs.length)
 (hw:WrK cs o v.cells.toList (fun cs'=>LA P r post (upF S s (.box cs')) As)) (hpl:plainCells v.cells.toList=true:=by first|rfl|assumption):LA P (⟨d,none,.store n x y⟩::r) post S As:=a_sw hx hb hy hn hpl hle hw
theorem g_c{g:FuncId}{xs:List Operand}{args:List Value}{As1 F:List Asr}{q:Value→List Asr→Prop}(hx:evs S xs=some args)(hq:FnA P g args As1 q)(hp:∀v As',q v As'→LA P r post (put S d (.v v)) (As'++F))(hm:Pm As As1 F:=by exact pmt):
 LA P (⟨d,none,.call g xs⟩::r) post S As:=a_c hx hq hm hp
theorem g_ap{α:Type}{f:α→List Value}{size bytes:Nat}{z:List Value}{xs:List α}{e:D}{R:List Asr}{t:Nat}{cs:List Value}{s:Operand}(y:α)(hs:∀x,(f x).length=size)(hv:ev S s=some (.slice e.a xs.length e.cap))(ht:S t=.bsl cs 1)(hc:cs=f y)(h0:0<size∧0<bytes)
 (hp:∀e':D,LA P r post (put S d (.v (.slice e'.a (xs++[y]).length e'.cap))) (slA size f e' (xs++[y])::R)) (hpl:plainCells cs=true:=by first|rfl|assumption) (hb:((xs.length:Int)+1)*bytes≤140737488355328:=by omega)
 (hm:Pk As (slA size f e xs) R:=by(fail_if_success apply pk_bad);(repeat(first|exact pk_h|apply pk_t));fail_if_success focus skip):LA P (⟨d,none,.app size bytes z s (.tmp t)⟩::r) post S As:=
 a_ap [y] hm hs h0 hv ht (by rw[hc];simp) rfl hpl hb hp
theorem g_ai{bytes:Nat}{z:List Value}{xs:List Int}{e:D}{R:List Asr}{t:Nat}{y:Int}{s:Operand}(hv:ev S s=some (.slice e.a xs.length e.cap))(ht:S t=.bsl [.int .i64 y] 1)(h0:0<bytes)
 (hp:∀e':D,LA P r post (put S d (.v (.slice e'.a (xs++[y]).length e'.cap))) (slA 1 iv e' (xs++[y])::R)) (hb:((xs.length:Int)+1)*bytes≤140737488355328:=by omega)
 (hm:Pk As (slA 1 iv e xs) R:=by(fail_if_success apply pk_bad);(repeat(first|exact pk_h|apply pk_t));fail_if_success focus skip):LA P (⟨d,none,.app 1 bytes z s (.tmp t)⟩::r) post S As:=
 a_ap [y] hm iv_len ⟨by omega,h0⟩ hv ht rfl rfl rfl hb hp
theorem ph_g{a:Nat}{x:HX}{F:List Asr}{m:Mem}(hm:star As m)(h:Pm As (hp a x) F:=by exact pmt):PH m a x.hs:=ph_of hm h
theorem fin{a:Nat}{h:Hdr}{regs:List Word}{xs:List CS}{gray:List Int}{F:List Asr}(y:HX)(hm:Pm As [hdA a h,slA 3 wv h.rd regs,clA h.cd xs,slA 1 iv h.gd gray] F:=by exact pmt)(e1:h={y.hdr with nr:=h.nr,nc:=h.nc,ng:=h.ng}:=by rfl)
 (h1:h.nr=regs.length:=by first|rfl|(simp[HX.hdr,Hdr.s_room,Hdr.s_used,Hdr.s_born,Hdr.s_phase,Hdr.s_hand,Hdr.s_sub,Hdr.s_per,Hdr.s_start,Hdr.s_rounds,Hdr.s_forced,Hdr.s_rd,Hdr.s_cd,Hdr.s_gd];done)) (h2:h.nc=xs.length:=by first|rfl|(simp[HX.hdr,Hdr.s_room,Hdr.s_used,Hdr.s_born,Hdr.s_phase,Hdr.s_hand,Hdr.s_sub,Hdr.s_per,Hdr.s_start,Hdr.s_rounds,Hdr.s_forced,Hdr.s_rd,Hdr.s_cd,Hdr.s_gd];done)) (h3:h.ng=gray.length:=by first|rfl|(simp[HX.hdr,Hdr.s_room,Hdr.s_used,Hdr.s_born,Hdr.s_phase,Hdr.s_hand,Hdr.s_sub,Hdr.s_per,Hdr.s_start,Hdr.s_rounds,Hdr.s_forced,Hdr.s_rd,Hdr.s_cd,Hdr.s_gd];done)) (e2:regs=y.regs:=by rfl) (e3:xs=y.xs:=by rfl) (e4:gray=y.gray:=by rfl):Pm As (hp a y) F:=by
 subst e2;subst e3;subst e4
 have e:h=y.hdr:=by rw[e1,h1,h2,h3];rfl
 subst e;exact hm
end
section
variable {E:Env} {Q:X→St→List Asr→Prop} {S:St} {As:List Asr}
theorem blk_eq{id e:Nat}(h:e=id)(hq:Q .nrm S As):blkA id Q (.ext e) S As:=by subst h;exact b_e hq
theorem blk_ne{id e:Nat}(h:e≠id)(hq:Q (.ext e) S As):blkA id Q (.ext e) S As:=by unfold blkA;simp only[if_neg h];exact hq
theorem v_rv{d:Option Nat}{v:Value}(h:Q .ret (put S d (.v v)) As):VA E (.seq (.reg [⟨d,none,.mov (.const v)⟩]) .ret) Q S As:=v_seq (v_reg (a_p (sv:=.v v) rfl (a_n (v_ret h))))
theorem v_bs{id:Nat}{a b:C}(h:VA E (.seq a b) (blkA id Q) S As):VA E (.block id (.seq a b)) Q S As:=v_blk h
theorem v_br{id:Nat}{l:List I}(h:VA E (.reg l) (blkA id Q) S As):VA E (.block id (.reg l)) Q S As:=v_blk h
theorem v_bd{id n:Nat}{l:List I}(h:VA E (.dreg n l) (blkA id Q) S As):VA E (.block id (.dreg n l)) Q S As:=v_blk h
theorem v_bc{id:Nat}{x:Operand}{a b:C}(h:VA E (.cond x a b) (blkA id Q) S As):VA E (.block id (.cond x a b)) Q S As:=v_blk h
theorem v_bk{id:Nat}(h:VA E .skip (blkA id Q) S As):VA E (.block id .skip) Q S As:=v_blk h
theorem v_bb{id id':Nat}{c:C}(h:VA E (.block id' c) (blkA id Q) S As):VA E (.block id (.block id' c)) Q S As:=v_blk h
theorem leA_up{d:Nat}{x:SV}:∀{l:List (Nat×SV)} {S:St},(l.all fun p=> !Nat.beq p.1 d)=true→leA l S→leA l (upF S d x)
 |[],_,_,_=>trivial
 |(e,y)::r,S,h,hl=>by
  simp only[List.all_cons,Bool.and_eq_true,Bool.not_eq_true']at h
  refine⟨?_,leA_up h.2 hl.2⟩
  show(bif Nat.beq e d then x else S e)=y
  rw[h.1];exact hl.1
def rngQ{α:Type}(b b' ti tn n:Nat)(T:α→List (Nat×SV))(At:α→List Asr)(Inv:Nat→α→Prop)(i:Nat)(Q:X→St→List Asr→Prop):X→St→List Asr→Prop
 |.nrm,S',As'=>∃x',leA ((ti,.v (.int .i64 i))::(tn,.v (.int .i64 n))::T x') S'∧Ent As' (At x')∧Inv (i+1) x'
 |.ext e,S',As'=>if e=b' then ∃x',leA ((ti,.v (.int .i64 i))::(tn,.v (.int .i64 n))::T x') S'∧Ent As' (At x')∧Inv (i+1) x' else if e=b then Q .nrm S' As' else Q (.ext e) S' As'
 |.ret,S',As'=>Q .ret S' As'
theorem v_range{α:Type}{body:C}{ti tn tc tu b b':Nat}(n:Nat)(T:α→List (Nat×SV))(At:α→List Asr)(Inv:Nat→α→Prop)
 (h0:∃x,leA ((ti,.v (.int .i64 0))::(tn,.v (.int .i64 n))::T x) S∧Ent As (At x)∧Inv 0 x) (hn:(n:Int)≤4611686018427387904)
 (hT:∀x,((T x).all fun p=> !Nat.beq p.1 ti&& !Nat.beq p.1 tc&& !Nat.beq p.1 tu)=true) (hd:(!Nat.beq ti tc&& !Nat.beq tn tc&& !Nat.beq ti tu&& !Nat.beq tn tu&& !Nat.beq tn ti)=true)
 (hb:∀i x,i<n→Inv i x→VA E body (rngQ b b' ti tn n T At Inv i Q) (ofL ((ti,.v (.int .i64 i))::(tn,.v (.int .i64 n))::T x)) (At x))
 (he:∀x,Inv n x→Q .nrm (upF (ofL ((ti,.v (.int .i64 n))::(tn,.v (.int .i64 n))::T x)) tc (.v (.bool (decide ((n:Int)<n))))) (At x)):
 VA E (.block b (.loop (.seq (.reg [⟨some tc,none,.bin .lss (.tmp ti) (.tmp tn)⟩]) (.seq (.cond (.tmp tc) .skip (.exit b)) (.seq (.block b' body) (.reg [⟨some tu,none,.bin .add (.tmp ti) (.const (.int .i64 1))⟩,⟨some ti,none,.mov (.tmp tu)⟩])))))) Q S As:=by
 simp only[Bool.and_eq_true,Bool.not_eq_true']at hd
 obtain⟨⟨⟨⟨d1,d2⟩,d3⟩,d4⟩,d5⟩:=hd
 have d5':Nat.beq ti tn=false:=by
  cases h:Nat.beq ti tn with
  |false=>rfl
  |true=>rw[Nat.eq_of_beq_eq_true h]at d5;simp at d5
 have hT1:∀x,((T x).all fun p=> !Nat.beq p.1 ti)=true:=fun x=>List.all_eq_true.2 fun p hp=>by
  have:=List.all_eq_true.1 (hT x) p hp;simp only[Bool.and_eq_true]at this;exact this.1.1
 have hT2:∀x,((T x).all fun p=> !Nat.beq p.1 tc)=true:=fun x=>List.all_eq_true.2 fun p hp=>by
  have:=List.all_eq_true.1 (hT x) p hp;simp only[Bool.and_eq_true]at this;exact this.1.2
 have hT3:∀x,((T x).all fun p=> !Nat.beq p.1 tu)=true:=fun x=>List.all_eq_true.2 fun p hp=>by
  have:=List.all_eq_true.1 (hT x) p hp;simp only[Bool.and_eq_true]at this;exact this.2
 refine v_blk ?_
 obtain⟨x0,g1,g2,g3⟩:=h0
 refine v_loop (fun p:Nat×α=>(ti,.v (.int .i64 p.1))::(tn,.v (.int .i64 n))::T p.2) (fun p=>At p.2) (fun k p=>k=n-p.1∧p.1≤n∧Inv p.1 p.2) ⟨_,(0,x0),g1,g2,rfl,Nat.zero_le _,g3⟩ ?_
 rintro k ⟨i,x⟩ ⟨rfl,hi,hinv⟩
 simp only at hi hinv⊢
 have e1:ofL ((ti,.v (.int .i64 (i:Int)))::(tn,.v (.int .i64 (n:Int)))::T x) ti=.v (.int .i64 i):=by show upF _ ti _ ti=_;rw[upF_eq,if_pos rfl]
 have e2:ofL ((ti,.v (.int .i64 (i:Int)))::(tn,.v (.int .i64 (n:Int)))::T x) tn=.v (.int .i64 n):=by
  show(bif Nat.beq tn ti then _ else upF _ tn _ tn)=_
  rw[d5];show upF _ tn _ tn=_;rw[upF_eq,if_pos rfl]
 have hl0:leF (ofL ((ti,.v (.int .i64 (i:Int)))::(tn,.v (.int .i64 (n:Int)))::T x)) (upF (ofL ((ti,.v (.int .i64 (i:Int)))::(tn,.v (.int .i64 (n:Int)))::T x)) tc (.v (.bool (decide ((i:Int)<n))))):=by
  intro t
  rw[upF_eq]
  by_cases e:t=tc
  ·left
   subst e
   show(bif Nat.beq t ti then _ else bif Nat.beq t tn then _ else ofL (T x) t)=_
   have a1:Nat.beq t ti=false:=by
    cases h:Nat.beq t ti with
    |false=>rfl
    |true=>rw[Nat.eq_of_beq_eq_true h]at d1;simp at d1
   have a2:Nat.beq t tn=false:=by
    cases h:Nat.beq t tn with
    |false=>rfl
    |true=>rw[Nat.eq_of_beq_eq_true h]at d2;simp at d2
   rw[a1,a2]
   show ofL (T x) t=.junk
   have:∀l:List (Nat×SV),(l.all fun p=> !Nat.beq p.1 t)=true→ofL l t=.junk:=by
    intro l
    induction l with
    |nil=>intro _;rfl
    |cons p r ih=>
     intro h
     simp only[List.all_cons,Bool.and_eq_true,Bool.not_eq_true']at h
     show(bif Nat.beq t p.1 then p.2 else ofL r t)=_
     have:Nat.beq t p.1=false:=by
      cases h':Nat.beq t p.1 with
      |false=>rfl
      |true=>rw[Nat.eq_of_beq_eq_true h']at h;simp at h
     rw[this];exact ih h.2
   exact this _ (hT2 x)
  ·right;rw[if_neg e]
 refine v_seq (v_reg (a_p (sv:=.v (.bool (decide ((i:Int)<n)))) ?_ (a_n ?_)))
 ·simp only[pe,ev,e1,e2];rfl
 refine v_seq (v_cond (decide ((i:Int)<n)) ?_ (fun h=>?_) (fun h=>?_))
 ·show ev (upF _ tc _) (.tmp tc)=_
  simp only[ev]
  rw[upF_eq,if_pos rfl]
 ·have hin:i<n:=by have:=of_decide_eq_true h;omega
  refine v_skip ?_
  show VA E _ _ _ _
  refine v_seq (v_blk ?_)
  refine⟨fun m hm=>?_⟩
  have hbody:=(hb i x hin hinv).out m hm
  refine VC.mono (Q:=upQ (rngQ b b' ti tn n T At Inv i Q)) ?_ ?_
  ·exact⟨fun code ht hmx W0 M0 β a w hR=>hbody.out code ht hmx W0 M0 β a w (hR.weak hl0)⟩
  ·rintro y S' M' ⟨As',m',l,s,hq'⟩
   refine⟨As',m',l,s,?_⟩
   have done:(∃x',leA ((ti,.v (.int .i64 i))::(tn,.v (.int .i64 n))::T x') S'∧Ent As' (At x')∧Inv (i+1) x')→
    VA E (.reg [⟨some tu,none,.bin .add (.tmp ti) (.const (.int .i64 1))⟩,⟨some ti,none,.mov (.tmp tu)⟩]) (seqA (fun S' As'=>∃k' x',k'<n-i∧leA ((ti,.v (.int .i64 (x':Nat×α).1))::(tn,.v (.int .i64 n))::T x'.2) S'∧Ent As' (At x'.2)∧k'=n-x'.1∧x'.1≤n∧Inv x'.1 x'.2) (blkA b Q)) S' As':=by
    rintro⟨x',h1,h2,h3⟩
    refine v_reg (a_ad (a:=i) (b:=1) ?_ rfl (by omega) (a_p (sv:=.v (.int .i64 ((i:Int)+1))) ?_ (a_n ?_)))
    ·simp only[ev,h1.1]
    ·show Option.map SV.v (ev (upF S' tu _) (.tmp tu))=_
     simp only[ev]
     rw[upF_eq,if_pos rfl];rfl
    ·refine⟨n-(i+1),(i+1,x'),by omega,⟨?_,?_,?_⟩,h2,rfl,by simp only;omega,h3⟩
     ·show upF _ ti _ ti=_;rw[upF_eq,if_pos rfl];rfl
     ·show(bif Nat.beq tn ti then _ else bif Nat.beq tn tu then _ else S' tn)=_
      rw[d5,d4];exact h1.2.1
     ·exact leA_up (hT1 x') (leA_up (hT3 x') h1.2.2)
   cases y with
   |nrm=>exact done hq'
   |ret=>exact hq'
   |ext e=>
    simp only[rngQ]at hq'
    by_cases h1:e=b'
    ·rw[if_pos h1]at hq';exact blk_eq h1 (done hq')
    ·rw[if_neg h1]at hq'
     refine blk_ne h1 ?_
     show blkA b Q (.ext e) S' As'
     by_cases h2:e=b
     ·rw[if_pos h2]at hq';exact blk_eq h2 hq'
     ·rw[if_neg h2]at hq';exact blk_ne h2 hq'
 ·have hin:i=n:=by have:=of_decide_eq_false h;omega
  subst hin
  refine v_exit ?_
  refine blk_eq rfl ?_
  exact he x hinv
section
variable {α:Type} {b b' ti tn n:Nat} {T:α→List (Nat×SV)} {At:α→List Asr} {Inv:Nat→α→Prop} {i:Nat}
theorem r_nx(x':α)(hi:Inv (i+1) x')(hl:leA ((ti,.v (.int .i64 i))::(tn,.v (.int .i64 n))::T x') S:=by repeat(first|exact trivial|refine⟨rfl,?_⟩))(he:Ent As (At x'):=by first|exact Ent.refl _|exact Pm.ent pmt):rngQ b b' ti tn n T At Inv i Q .nrm S As:=⟨x',hl,he,hi⟩
theorem r_ct(x':α)(hi:Inv (i+1) x')(hl:leA ((ti,.v (.int .i64 i))::(tn,.v (.int .i64 n))::T x') S:=by repeat(first|exact trivial|refine⟨rfl,?_⟩))(he:Ent As (At x'):=by first|exact Ent.refl _|exact Pm.ent pmt):rngQ b b' ti tn n T At Inv i Q (.ext b') S As:=by
 show(if b'=b' then _ else _);rw[if_pos rfl];exact⟨x',hl,he,hi⟩
theorem r_rt(h:Q .ret S As):rngQ b b' ti tn n T At Inv i Q .ret S As:=h
theorem r_bk(hb:Nat.beq b b'=false)(h:Q .nrm S As):rngQ b b' ti tn n T At Inv i Q (.ext b) S As:=by
 have hne:b≠b':=fun e=>by rw[e]at hb;simp at hb
 show(if b=b' then _ else if b=b then _ else _);rw[if_neg hne,if_pos rfl];exact h
theorem r_ex{e:Nat}(h1:Nat.beq e b'=false)(h2:Nat.beq e b=false)(h:Q (.ext e) S As):rngQ b b' ti tn n T At Inv i Q (.ext e) S As:=by
 have n1:e≠b':=fun e'=>by rw[e']at h1;simp at h1
 have n2:e≠b:=fun e'=>by rw[e']at h2;simp at h2
 show(if e=b' then _ else if e=b then _ else _);rw[if_neg n1,if_neg n2];exact h
end
theorem g_range{α:Type}{body:C}{ti tn tc tu b b':Nat}(n:Nat)(T:α→List (Nat×SV))(At:α→List Asr)(Inv:Nat→α→Prop)(x0:α)(hi:Inv 0 x0)
 (hb:∀i x,i<n→Inv i x→VA E body (rngQ b b' ti tn n T At Inv i Q) (ofL ((ti,.v (.int .i64 i))::(tn,.v (.int .i64 n))::T x)) (At x))
 (he:∀x,Inv n x→Q .nrm (upF (ofL ((ti,.v (.int .i64 n))::(tn,.v (.int .i64 n))::T x)) tc (.v (.bool (decide ((n:Int)<n))))) (At x))
 (hl:leA ((ti,.v (.int .i64 0))::(tn,.v (.int .i64 n))::T x0) S:=by repeat(first|exact trivial|refine⟨rfl,?_⟩)) (hent:Ent As (At x0):=by first|exact Ent.refl _|exact Pm.ent pmt) (hn:(n:Int)≤4611686018427387904:=by first|omega|(simp only[HX.hdr,Hdr.s_room,Hdr.s_used,Hdr.s_born,Hdr.s_phase,Hdr.s_hand,Hdr.s_sub,Hdr.s_per,Hdr.s_start,Hdr.s_rounds,Hdr.s_forced,Hdr.s_rd,Hdr.s_cd,Hdr.s_gd];omega))
 (hT:∀x,((T x).all fun p=> !Nat.beq p.1 ti&& !Nat.beq p.1 tc&& !Nat.beq p.1 tu)=true:=by intro _;rfl) (hd:(!Nat.beq ti tc&& !Nat.beq tn tc&& !Nat.beq ti tu&& !Nat.beq tn tu&& !Nat.beq tn ti)=true:=by rfl):
 VA E (.block b (.loop (.seq (.reg [⟨some tc,none,.bin .lss (.tmp ti) (.tmp tn)⟩]) (.seq (.cond (.tmp tc) .skip (.exit b)) (.seq (.block b' body) (.reg [⟨some tu,none,.bin .add (.tmp ti) (.const (.int .i64 1))⟩,⟨some ti,none,.mov (.tmp tu)⟩])))))) Q S As:=
 v_range n T At Inv ⟨x0,hl,hent,hi⟩ hn hT hd hb he
def Jx{α:Type}(T:α→List (Nat×SV))(At:α→List Asr)(Inv:α→Prop):St→List Asr→Prop:=fun S As=>∃x,leA (T x) S∧Ent As (At x)∧Inv x
theorem j_i{α:Type}{T:α→List (Nat×SV)}{At:α→List Asr}{Inv:α→Prop}(x:α)(hi:Inv x)(hl:leA (T x) S:=by repeat(first|exact trivial|refine⟨rfl,?_⟩))(he:Ent As (At x):=by first|exact Ent.refl _|exact Pm.ent pmt):Jx T At Inv S As:=⟨x,hl,he,hi⟩
theorem g_cut{α:Type}{a b:C}(T:α→List (Nat×SV))(At:α→List Asr)(Inv:α→Prop)(h1:VA E a (seqA (Jx T At Inv) Q) S As)(h2:∀x,Inv x→VA E b Q (ofL (T x)) (At x)):VA E (.seq a b) Q S As:=
 v_cut _ h1 fun S As ⟨x,hl,he,hi⟩=>v_weak _ hl (VA.ent he (h2 x hi))
end
end Go.Proofs.YtpleoapljeffiaaGreatDoor.E
