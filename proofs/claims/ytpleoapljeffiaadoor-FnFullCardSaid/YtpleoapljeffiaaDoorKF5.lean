/- A part of the proof. Conditions: none. -/
import Derived.Test.YtpleoapljeffiaaDoorKF4
import Derived.Test.YtpleoapljeffiaaDoorChecked
set_option linter.unusedVariables false
set_option linter.unusedSimpArgs false
namespace Go.Proofs.YtpleoapljeffiaaDoor.E
open Go
def UpC(p:St→Mem→Prop):Prop:=∀S M M',M.le M'→p S M→p S M'
theorem upP_up(post:St→List Asr→Prop):UpC (upP post):=fun S M M' l ⟨As,m,h1,h2,h3⟩=>⟨As,m,Mem.le_trans h1 l,h2,h3⟩
theorem le_none{M M':Mem}(l:M.le M'){b:Nat}(h:M' b=none):M b=none:=by
 cases e:M b with
 |none=>rfl
 |some k=>rw[l b k e]at h;cases h
theorem Qt.up{P:Program}{f:FuncId}{args:List Value}{M M':Mem}{v:Value}(l:M.le M')(h:Qt P f args M v):Qt P f args M' v:=by
 have hd:Disj M (fun x=>match M x with|none=>M' x|some _=>none):=fun x=>by
  cases e:M x with
  |none=>exact .inl rfl
  |some k=>right;simp only[e]
 have he:M.un (fun x=>match M x with|none=>M' x|some _=>none)=M':=by
  funext x
  cases e:M x with
  |none=>rw[un_n e];simp only[e]
  |some k=>rw[un_l e,l x k e]
 have:=Fn.frame hd h
 rw[he]at this
 refine this.mono ?_
 rintro v' M1 ⟨m',⟨h1,h2⟩,_,h3⟩
 subst h2
 exact⟨h1,h3.trans he⟩
theorem fe_up{P:Program}{f:Nat→SV}{M M':Mem}(l:M.le M'){k:K}{sv:SV}(h:FE P f M k sv):FE P f M' k sv:=by
 rcases h with h|h
 ·exact .inl h
 ·right
  cases k<;>(try(exact h.elim))<;>(try exact h)
  case load one n x=>
   obtain⟨b,o,cs,v,h1,h2,h3,h4⟩:=h
   exact⟨b,o,cs,v,h1,h2.imp (l _ _) (fun⟨t,fr,e⟩=>⟨t,fr,l _ _ e⟩),h3,h4⟩
  case alloc ow z=>cases ow<;>first|exact h.elim|exact h
  case box ow z=>cases ow<;>first|exact h.elim|exact h
  case bslice ow len size z ps=>cases ow<;>first|exact h.elim|exact h
  case look one z ok x i=>
   obtain⟨es,c,j,h1,h2⟩:=h
   refine⟨es,c,j,h1.imp id (fun⟨b,e1,e2⟩=>⟨b,e1,l _ _ e2⟩),h2⟩
  case qcall g xs=>
   obtain⟨args,r,h1,h2,h3⟩:=h
   exact⟨args,r,h1,h2.up l,h3⟩
theorem srcV_up{M M':Mem}(l:M.le M'){size:Nat}{v:Value}{s:List Value×Nat}(h:srcC.srcV M size v=some s):srcC.srcV M' size v=some s:=by
 unfold srcC.srcV at*
 split at h
 ·exact h
 ·rename_i b o k c
  split at h
  ·rename_i cs hM;simp only[l _ _ hM];exact h
  ·cases h
 ·exact h
 ·cases h
theorem src_up{f:Nat→SV}{M M':Mem}(l:M.le M'){size:Nat}{x:Operand}{s:List Value×Nat}(h:srcC f M size x=some s):srcC f M' size x=some s:=by
 unfold srcC at*
 split at h
 ·split at h
  ·exact h
  ·exact srcV_up l h
  ·cases h
 ·exact srcV_up l h
 ·cases h
theorem appM_up{M M':Mem}(l:M.le M'){size bytes:Nat}{s:Value}{src:List Value}{k:Nat}{q:Value→Mem→Prop}(hq:∀v M M',M.le M'→q v M→q v M')(h:appM M size bytes s src k q):appM M' size bytes s src k q:=by
 unfold appM at*
 split at h
 ·obtain⟨h1,h2,h3,h4⟩:=h
  refine⟨h1,h2,h3,?_⟩
  rcases h4 with⟨h5,h6⟩|⟨h5,h6⟩
  ·exact .inl ⟨h5,hq _ _ _ l h6⟩
  ·exact .inr ⟨h5,fun b c z e1 e2 e3=>hq _ _ _ (Mem.upd_le_upd l _ _) (h6 b c z (le_none l e1) e2 e3)⟩
 ·obtain⟨cs,h1,h2,h4⟩:=h
  refine⟨cs,l _ _ h1,h2,?_⟩
  rcases h4 with⟨h5,h6,h7⟩|⟨h5,h6,h7⟩
  ·exact .inl ⟨h5,h6,hq _ _ _ (Mem.upd_le_upd l _ _) h7⟩
  ·exact .inr ⟨h5,h6,fun b c z e1 e2 e3=>hq _ _ _ (Mem.upd_le_upd l _ _) (h7 b c z (le_none l e1) e2 e3)⟩
 ·exact h
theorem vcK_up{P:Program}{k:K}{d:Option Nat}{p:St→Mem→Prop}(hp:UpC p){S:St}{M M':Mem}(l:M.le M')(h:vcK P k d p S M):vcK P k d p S M':=by
 have flo:(∃sv,FE P S M k sv∧p (if sv.isBox then putB S d sv else put S d sv) M)→∃sv,FE P S M' k sv∧p (if sv.isBox then putB S d sv else put S d sv) M':=
  fun⟨sv,h1,h2⟩=>⟨sv,fe_up l h1,hp _ _ _ l h2⟩
 cases k
 case call=>obtain⟨args,h1,h2⟩:=h;exact⟨args,h1,h2.le l⟩
 case callv=>obtain⟨g,u,c,args,h1,h2,h3,h4⟩:=h;exact⟨g,u,c,args,h1,h2,h3,h4.le l⟩
 case store=>
  obtain⟨v,h1,h2,h3,h4⟩:=h
  refine⟨v,h1,h2,h3,?_⟩
  rcases h4 with⟨s,o,cs,a1,a2,a3,a4⟩|⟨b,o,cs,a1,a2,a3,a4⟩
  ·exact .inl ⟨s,o,cs,a1,a2,a3,hp _ _ _ l a4⟩
  ·exact .inr ⟨b,o,cs,a1,l _ _ a2,a3,hp _ _ _ (Mem.upd_le_upd l _ _) a4⟩
 case alloc ow z=>
  cases ow with
  |false=>exact fun b hb=>hp _ _ _ (Mem.upd_le_upd l _ _) (h b (le_none l hb))
  |true=>exact flo h
 case box ow x=>
  cases ow with
  |false=>obtain⟨v,h1,h2⟩:=h;exact⟨v,h1,fun b hb=>hp _ _ _ (Mem.upd_le_upd l _ _) (h2 b (le_none l hb))⟩
  |true=>exact flo h
 case bslice ow len size z ps=>
  cases ow with
  |false=>obtain⟨v,h1,h2⟩:=h;exact⟨v,h1,fun b hb=>hp _ _ _ (Mem.upd_le_upd l _ _) (h2 b (le_none l hb))⟩
  |true=>exact flo h
 case mkslice=>obtain⟨n,m,h1,h2,h3,h4,h5,h6⟩:=h;exact⟨n,m,h1,h2,h3,h4,h5,fun b hb=>hp _ _ _ (Mem.upd_le_upd l _ _) (h6 b (le_none l hb))⟩
 case app=>obtain⟨sv,src,n,h1,h2,h3,h4⟩:=h;exact⟨sv,src,n,h1,src_up l h2,h3,appM_up l (fun _ _ _ l h=>hp _ _ _ l h) h4⟩
 case appz=>obtain⟨sv,n,h1,h2,h3,h4,h5⟩:=h;exact⟨sv,n,h1,h2,h3,h4,appM_up l (fun _ _ _ l h=>hp _ _ _ l h) h5⟩
 case mkmap=>exact fun b hb=>hp _ _ _ (Mem.upd_le_upd l _ _) (h b (le_none l hb))
 case mupd=>obtain⟨b,es,c,j,v,h1,h2,h3,h4,h5,h6⟩:=h;exact⟨b,es,c,j,v,h1,l _ _ h2,h3,h4,h5,hp _ _ _ (Mem.upd_le_upd l _ _) h6⟩
 case mdel=>obtain⟨b,es,c,j,h1,h2,h3,h4,h5⟩:=h;exact⟨b,es,c,j,h1,l _ _ h2,h3,h4,hp _ _ _ (Mem.upd_le_upd l _ _) h5⟩
 all_goals exact flo h
theorem vcL_up{P:Program}{p:St→Mem→Prop}(hp:UpC p):∀l:List I,UpC (vcL P l p)
 |[]=>hp
 |i::r=>fun S M M' le h=>by
  have ih:=vcL_up (P:=P) hp r
  show vcO P i (vcL P r p) S M'
  have h:vcO P i (vcL P r p) S M:=h
  unfold vcO at*
  split at h
  ·exact vcK_up ih le h
  ·split at h
   ·exact⟨fun e=>vcK_up ih le (h.1 e),fun e=>ih _ _ _ le (h.2 e)⟩
   ·exact ih _ _ _ le h
   ·exact h
theorem LA.at{P:Program}{l:List I}{post:St→List Asr→Prop}{S:St}{As:List Asr}(h:LA P l post S As){m M:Mem}(s:star As m)(le:m.le M):VL P l (upP post) S M:=
 ⟨vcL_up (upP_up post) l S m M le (h.out m s).out⟩
section
variable {P:Program} {S:St} {As:List Asr} {post:St→List Asr→Prop} {r:List I} {d:Option Nat}
theorem a_n(h:post S As):LA P [] post S As:=⟨fun m hm=>vl_nil (upP_of hm h)⟩
theorem a_p{k:K}{sv:SV}(h:pe S k=some sv)(hp:LA P r post (put S d sv) As):LA P (⟨d,none,k⟩::r) post S As:=⟨fun m hm=>vl_pure h (hp.out m hm)⟩
theorem a_ad{x y:Operand}{a b:Int}(hx:ev S x=some (.int .i64 a))(hy:ev S y=some (.int .i64 b))(hb: -9223372036854775808≤a+b∧a+b≤9223372036854775807)
 (hp:LA P r post (put S d (.v (.int .i64 (a+b)))) As):LA P (⟨d,none,.bin .add x y⟩::r) post S As:=⟨fun m hm=>vl_add hx hy hb (hp.out m hm)⟩
theorem a_su{x y:Operand}{a b:Int}(hx:ev S x=some (.int .i64 a))(hy:ev S y=some (.int .i64 b))(hb: -9223372036854775808≤a-b∧a-b≤9223372036854775807)
 (hp:LA P r post (put S d (.v (.int .i64 (a-b)))) As):LA P (⟨d,none,.bin .sub x y⟩::r) post S As:=⟨fun m hm=>vl_sub hx hy hb (hp.out m hm)⟩
theorem a_ml{x y:Operand}{a b:Int}(hx:ev S x=some (.int .i64 a))(hy:ev S y=some (.int .i64 b))(hb: -9223372036854775808≤a*b∧a*b≤9223372036854775807)
 (hp:LA P r post (put S d (.v (.int .i64 (a*b)))) As):LA P (⟨d,none,.bin .mul x y⟩::r) post S As:=⟨fun m hm=>vl_mul hx hy hb (hp.out m hm)⟩
theorem a_i{e:D}{x y:Operand}{size n cap:Nat}{k:IntKind}{i:Int}(hx:ev S x=some (.slice e.a n cap))(hy:ev S y=some (.int k i))(hb:Kn As (e.a=some ⟨e.b,e.o,none⟩))(hi:0≤i∧i<n)
 (hp:LA P r post (put S d (.v (.pointer (some ⟨e.b,e.o+i.toNat*size,none⟩)))) As):LA P (⟨d,none,.iaddr size x y⟩::r) post S As:=
 ⟨fun m hm=>vl_idx (by rw[hx,hb.out m hm]) hy hi (hp.out m hm)⟩
theorem a_l{n:Nat}{x:Operand}{b o:Nat}{v:Value}(hx:lc S x=some (.mm b o))(hv:Rd As b o v)(hp:LA P r post (put S d (.v v)) As):LA P (⟨d,none,.load true n x⟩::r) post S As:=
 ⟨fun m hm=>vl_ld hx (hv.out m hm) (hp.out m hm)⟩
theorem a_ls{n:Nat}{x:Operand}{b o:Nat}{vs:List Value}(hx:lc S x=some (.mm b o))(hv:Rs As b o n vs)(hp:LA P r post (put S d (.v (.agg vs.toArray))) As):LA P (⟨d,none,.load false n x⟩::r) post S As:=
 ⟨fun m hm=>vl_lds hx (hv.out m hm) (hp.out m hm)⟩
theorem a_al{z:List Value}(hp:LA P r post (putB S d (.box z)) As):LA P (⟨d,none,.alloc true z⟩::r) post S As:=⟨fun m hm=>vl_alloc (hp.out m hm)⟩
theorem a_bx{x:Operand}{v:Value}{cs:List Value}(hx:ev S x=some v)(hc:v.cells.toList=cs)(hp:LA P r post (putB S d (.box cs)) As):LA P (⟨d,none,.box true x⟩::r) post S As:=⟨fun m hm=>vl_box hx hc (hp.out m hm)⟩
theorem a_bl{len size:Nat}{z cs:List Value}{ps:List (Nat×Nat×Operand)}(hf:fillP S z ps=some cs)(hp:LA P r post (putB S d (.bsl cs len)) As):LA P (⟨d,none,.bslice true len size z ps⟩::r) post S As:=⟨fun _ hm=>vl_bsl hf (hp.out _ hm)⟩
theorem a_q{g:FuncId}{xs:List Operand}{args:List Value}{v:Value}(hx:evs S xs=some args)(hq:∀m,star As m→Qt P g args m v)(hp:LA P r post (put S d (.v v)) As):LA P (⟨d,none,.qcall g xs⟩::r) post S As:=⟨fun m hm=>vl_q hx (hq m hm) (hp.out m hm)⟩
theorem a_cq{g:FuncId}{xs:List Operand}{args:List Value}{v:Value}(hx:evs S xs=some args)(hq:∀m,star As m→Qt P g args m v)(hp:LA P r post (put S d (.v v)) As):LA P (⟨d,none,.call g xs⟩::r) post S As:=⟨fun m hm=>vl_cq hx (hq m hm) (hp.out m hm)⟩
theorem a_c{g:FuncId}{xs:List Operand}{args:List Value}{As1 F:List Asr}{q:Value→List Asr→Prop}(hx:evs S xs=some args)(hq:FnA P g args As1 q)(hm:Pm As As1 F)(hp:∀v As',q v As'→LA P r post (put S d (.v v)) (As'++F)):
 LA P (⟨d,none,.call g xs⟩::r) post S As:=
 ⟨fun m s=>vl_c hx ((hq.frame (F:=F)).out m (hm.out m s)) (fun v M' ⟨As',m',l,s',As1',h1,e⟩=>by subst e;exact(hp v As1' h1).at s' l)⟩
theorem a_cvq{g:FuncId}{x:Operand}{u c:Array Value}{xs:List Operand}{args:List Value}{v:Value}(hf:ev S x=some (.func (.func g) u c))(hok:fnOk P g=true)(hx:evs S xs=some args)(hq:∀m,star As m→Qt P g (u.toList++args++c.toList) m v)
 (hp:LA P r post (put S d (.v v)) As):LA P (⟨d,none,.callv x xs⟩::r) post S As:=
 ⟨fun m s=>vl_cv hf hok hx (hq m s) (fun v' M' ⟨h1,h2⟩=>by subst h1;rw[h2];exact hp.out m s)⟩
theorem a_sw{n:Nat}{x y:Operand}{s o:Nat}{cs:List Value}{v:Value}(hx:lc S x=some (.bx s o))(hb:S s=.box cs)(hy:ev S y=some v)(hn:v.cells.size=n)(hpl:plainCells v.cells.toList=true)(hle:o+n≤cs.length)
 (hw:WrK cs o v.cells.toList (fun cs'=>LA P r post (upF S s (.box cs')) As)):LA P (⟨d,none,.store n x y⟩::r) post S As:=⟨fun m hm=>vl_stb hx hb hy hn hpl hle rfl (hw.out.out m hm)⟩
theorem a_st{n:Nat}{x y:Operand}{b o:Nat}{v:Value}{As':List Asr}(hx:lc S x=some (.mm b o))(hy:ev S y=some v)(hn:v.cells.size=n)(hpl:plainCells v.cells.toList=true)(hu:Up As b o v.cells.toList As')
 (hp:LA P r post S As'):LA P (⟨d,none,.store n x y⟩::r) post S As:=
 ⟨fun m hm=>by
   obtain⟨row,h1,h2,h3⟩:=hu.out m hm
   exact vl_stm hx h1 hy hn hpl (by simp only[Array.length_toList]at h2;omega) (hp.out _ h3)⟩
theorem a_gy{s:Nat}{w:Bool}{k:K}{b:Bool}(hs:S s=.v (.bool b))(hb:b=w)(hp:LA P (⟨d,none,k⟩::r) post S As):LA P (⟨d,some (s,w),k⟩::r) post S As:=⟨fun m hm=>vl_gy hs hb (hp.out m hm)⟩
theorem a_gn{s:Nat}{w:Bool}{k:K}{b:Bool}(hs:S s=.v (.bool b))(hb:b= !w)(hp:LA P r post (put S d (.v undef)) As):LA P (⟨d,some (s,w),k⟩::r) post S As:=⟨fun m hm=>vl_gn hs hb (hp.out m hm)⟩
theorem a_gu{s:Nat}{w:Bool}{k:K}(hs:S s=.v undef)(hp:LA P r post (put S d (.v undef)) As):LA P (⟨d,some (s,w),k⟩::r) post S As:=⟨fun m hm=>vl_gu hs (hp.out m hm)⟩
theorem a_gs{s:Nat}{wt:Bool}{k:K}{b:Bool}(hs:S s=.v (.bool b))(h1:b=true→LA P (⟨d,some (s,wt),k⟩::r) post (upF S s (.v (.bool true))) As)(h2:b=false→LA P (⟨d,some (s,wt),k⟩::r) post (upF S s (.v (.bool false))) As):LA P (⟨d,some (s,wt),k⟩::r) post S As:=by
 cases b
 ·have:=h2 rfl;rwa [upF_self hs]at this
 ·have:=h1 rfl;rwa [upF_self hs]at this
theorem a_gd{s:Nat}{wt:Bool}{k:K}{p:Prop}{_:Decidable p}(hs:S s=.v (.bool (decide p)))(h1:p→LA P (⟨d,some (s,wt),k⟩::r) post (upF S s (.v (.bool true))) As)(h2:¬p→LA P (⟨d,some (s,wt),k⟩::r) post (upF S s (.v (.bool false))) As):LA P (⟨d,some (s,wt),k⟩::r) post S As:=
 a_gs hs (fun h=>h1 (of_decide_eq_true h)) (fun h=>h2 (of_decide_eq_false h))
theorem a_ge{s:Nat}{wt:Bool}{k:K}{u w:Int}(hs:S s=.v (.bool (u==w)))(h1:u=w→LA P (⟨d,some (s,wt),k⟩::r) post (upF S s (.v (.bool true))) As)(h2:u≠w→LA P (⟨d,some (s,wt),k⟩::r) post (upF S s (.v (.bool false))) As):LA P (⟨d,some (s,wt),k⟩::r) post S As:=
 a_gs hs (fun h=>h1 (by simpa using h)) (fun h=>h2 (by simpa using h))
theorem a_gne{s:Nat}{wt:Bool}{k:K}{u w:Int}(hs:S s=.v (.bool (u !=w)))(h1:u≠w→LA P (⟨d,some (s,wt),k⟩::r) post (upF S s (.v (.bool true))) As)(h2:u=w→LA P (⟨d,some (s,wt),k⟩::r) post (upF S s (.v (.bool false))) As):LA P (⟨d,some (s,wt),k⟩::r) post S As:=
 a_gs hs (fun h=>h1 (by simpa using h)) (fun h=>h2 (by simpa using h))
theorem a_gnd{s:Nat}{wt:Bool}{k:K}{p:Prop}{_:Decidable p}(hs:S s=.v (.bool (!decide p)))(h1:¬p→LA P (⟨d,some (s,wt),k⟩::r) post (upF S s (.v (.bool true))) As)(h2:p→LA P (⟨d,some (s,wt),k⟩::r) post (upF S s (.v (.bool false))) As):LA P (⟨d,some (s,wt),k⟩::r) post S As:=
 a_gs hs (fun h=>h1 (by simpa using h)) (fun h=>h2 (by simpa using h))
theorem a_ps{s:Nat}{x y:Operand}{b:Bool}(hs:S s=.v (.bool b))(h1:b=true→LA P (⟨d,none,.pick (.tmp s) x y⟩::r) post (upF S s (.v (.bool true))) As)(h2:b=false→LA P (⟨d,none,.pick (.tmp s) x y⟩::r) post (upF S s (.v (.bool false))) As):LA P (⟨d,none,.pick (.tmp s) x y⟩::r) post S As:=by
 cases b
 ·have:=h2 rfl;rwa [upF_self hs]at this
 ·have:=h1 rfl;rwa [upF_self hs]at this
theorem a_pd{s:Nat}{x y:Operand}{p:Prop}{_:Decidable p}(hs:S s=.v (.bool (decide p)))(h1:p→LA P (⟨d,none,.pick (.tmp s) x y⟩::r) post (upF S s (.v (.bool true))) As)(h2:¬p→LA P (⟨d,none,.pick (.tmp s) x y⟩::r) post (upF S s (.v (.bool false))) As):LA P (⟨d,none,.pick (.tmp s) x y⟩::r) post S As:=
 a_ps hs (fun h=>h1 (of_decide_eq_true h)) (fun h=>h2 (of_decide_eq_false h))
theorem a_pe{s:Nat}{x y:Operand}{u w:Int}(hs:S s=.v (.bool (u==w)))(h1:u=w→LA P (⟨d,none,.pick (.tmp s) x y⟩::r) post (upF S s (.v (.bool true))) As)(h2:u≠w→LA P (⟨d,none,.pick (.tmp s) x y⟩::r) post (upF S s (.v (.bool false))) As):LA P (⟨d,none,.pick (.tmp s) x y⟩::r) post S As:=
 a_ps hs (fun h=>h1 (by simpa using h)) (fun h=>h2 (by simpa using h))
theorem a_pne{s:Nat}{x y:Operand}{u w:Int}(hs:S s=.v (.bool (u !=w)))(h1:u≠w→LA P (⟨d,none,.pick (.tmp s) x y⟩::r) post (upF S s (.v (.bool true))) As)(h2:u=w→LA P (⟨d,none,.pick (.tmp s) x y⟩::r) post (upF S s (.v (.bool false))) As):LA P (⟨d,none,.pick (.tmp s) x y⟩::r) post S As:=
 a_ps hs (fun h=>h1 (by simpa using h)) (fun h=>h2 (by simpa using h))
theorem a_pnd{s:Nat}{x y:Operand}{p:Prop}{_:Decidable p}(hs:S s=.v (.bool (!decide p)))(h1:¬p→LA P (⟨d,none,.pick (.tmp s) x y⟩::r) post (upF S s (.v (.bool true))) As)(h2:p→LA P (⟨d,none,.pick (.tmp s) x y⟩::r) post (upF S s (.v (.bool false))) As):LA P (⟨d,none,.pick (.tmp s) x y⟩::r) post S As:=
 a_ps hs (fun h=>h1 (by simpa using h)) (fun h=>h2 (by simpa using h))
theorem star_new{A:Asr}{m:Mem}{b:Nat}{k:Bk}(s:star As m)(hb:m b=none)(hA:A (one b k)):star (A::As) (m.upd b k):=
 ⟨one b k,m,disj_one k hb,upd_one k hb,hA,s⟩
theorem a_nw{x:Operand}{v:Value}{vs:List Value}(hx:ev S x=some v)(hc:v.cells.toList=vs)(hp:∀b,LA P r post (put S d (.v (.pointer (some ⟨b,0,none⟩)))) (bx b vs::As)):LA P (⟨d,none,.box false x⟩::r) post S As:=
 ⟨fun m hm=>⟨⟨v,hx,fun b hb=>by subst hc;exact((hp b).out _ (star_new hm hb rfl)).out⟩⟩⟩
theorem a_nz{z:List Value}(hp:∀b,LA P r post (put S d (.v (.pointer (some ⟨b,0,none⟩)))) (bx b z::As)):LA P (⟨d,none,.alloc false z⟩::r) post S As:=
 ⟨fun m hm=>⟨fun b hb=>((hp b).out _ (star_new hm hb rfl)).out⟩⟩
theorem a_ns{α:Type}{f:α→List Value}{len size:Nat}{z cs:List Value}{ps:List (Nat×Nat×Operand)}(xs:List α)(hs:∀x,(f x).length=size)(hf:fillP S z ps=some cs)(hc:cs=xs.flatMap f)(hl:xs.length=len)(hb:len≤140737488355328)
 (hp:∀e:D,e.cap=len→LA P r post (put S d (.v (.slice e.a len len))) (slA size f e xs::As)):LA P (⟨d,none,.bslice false len size z ps⟩::r) post S As:=
 ⟨fun m hm=>⟨⟨cs,hf,fun b hMb=>by
   refine((hp ⟨some ⟨b,0,none⟩,len⟩ rfl).out _ (star_new hm hMb ⟨?_,?_⟩)).out
   ·right
    refine⟨b,0,len,cs,rfl,one_same _ _,by omega,by omega,?_,?_⟩
    ·rw[hc,flat_len hs,hl];omega
    ·rw[List.drop_zero,hc]
     exact List.take_of_length_le (by rw[flat_len hs];exact Nat.le_refl _)
   ·intro c hc'
    exact one_ne _ (fun e=>hc' (by subst e;simp[own]))⟩⟩⟩
theorem a_mk{α:Type}{f:α→List Value}{size bytes:Nat}{z:List Value}(e:α){l c:Operand}{n k:Int}(hs:∀x,(f x).length=size)(hz:f e=z)
 (hl:ev S l=some (.int .i64 n)) (hc:ev S c=some (.int .i64 k)) (hnm:0≤n∧n≤k) (hb:k*bytes≤140737488355328∧k≤140737488355328)
 (hp:∀g:D,g.cap=k.toNat→LA P r post (put S d (.v (.slice g.a n.toNat g.cap))) (slA size f g (List.replicate n.toNat e)::As)):LA P (⟨d,none,.mkslice size bytes z l c⟩::r) post S As:=
 ⟨fun m hm=>⟨⟨n.toNat,k.toNat,by rw[hl];congr 2;omega,by rw[hc];congr 2;omega,by omega,by
   have:((k.toNat*bytes:Nat):Int)≤140737488355328:=by rw[Int.natCast_mul,Int.toNat_of_nonneg (by omega)];exact hb.1
   omega,by omega,fun b hMb=>by
   subst hz
   refine((hp ⟨some ⟨b,0,none⟩,k.toNat⟩ rfl).out _ (star_new hm hMb ⟨?_,?_⟩)).out
   ·right
    refine⟨b,0,k.toNat,_,rfl,one_same _ _,by simp;omega,by simp;omega,?_,?_⟩
    ·rw[zrep_flat,flat_len hs];simp
    ·rw[zrep_flat,List.drop_zero,List.length_replicate]
     have:(List.replicate k.toNat e).flatMap f=(List.replicate n.toNat e).flatMap f++(List.replicate (k.toNat-n.toNat) e).flatMap f:=by
      rw[←List.flatMap_append,List.replicate_append_replicate,show n.toNat+(k.toNat-n.toNat)=k.toNat by omega]
     rw[this,List.take_left' (by rw[flat_len hs];simp)]
   ·intro c hc'
    exact one_ne _ (fun e=>hc' (by subst e;simp[own]))⟩⟩⟩
theorem Sl.own_s{M:Mem}{α:Type}{f:α→List Value}{size:Nat}{v:Value}{xs:List α}(h:Sl M size f v xs){c:Nat}(hc:c∈own v):M c≠none:=by
 rcases h with⟨c,rfl,_⟩|⟨b,o,cap,row,rfl,hM,_⟩
 ·simp[own]at hc
 ·simp[own]at hc;subst hc;rw[hM];simp
theorem app_star{α:Type}{f:α→List Value}{size:Nat}{e:D}{xs zs:List α}{R:List Asr}{m M':Mem}{v':Value}(s:star (slA size f e xs::R) m)(ha:AppE m (.slice e.a xs.length e.cap) v' M')(hs:Sl M' size f v' (xs++zs)):
 ∃e':D,v'=.slice e'.a (xs++zs).length e'.cap∧∃m',m'.le M'∧star (slA size f e' (xs++zs)::R) m':=by
 obtain⟨a,c,dj,rfl,hA,hR⟩:=s
 obtain⟨a',cap',rfl⟩:=hs.len
 refine⟨⟨a',cap'⟩,rfl,?_⟩
 have sub:∀(L:List Nat) (M1:Mem),Sl M1 size f (.slice a' (xs++zs).length cap') (xs++zs)→(∀b,b∈own (.slice a' (xs++zs).length cap')→b∈L)→Sl (fun b=>if b∈L then M1 b else none) size f (.slice a' (xs++zs).length cap') (xs++zs):=by
  intro L M1 h hL
  rcases h with h|⟨b,o,cap,row,e1,hM,h3⟩
  ·exact .inl h
  ·refine .inr ⟨b,o,cap,row,e1,?_,h3⟩
   have:b∈L:=hL b (by rw[e1];simp[own])
   simp only[this,if_true];exact hM
 rcases ha with⟨rfl,ho⟩|⟨b,hoff,ho,hb⟩
 ·refine⟨a.un c,Mem.le_refl _,a,c,dj,rfl,⟨?_,?_⟩,hR⟩
  ·rcases hs with h|⟨b,o,cap,row,e1,hM,h3⟩
   ·exact .inl h
   ·refine .inr ⟨b,o,cap,row,e1,?_,h3⟩
    have hbo:b∈own (.slice e.a xs.length e.cap):=by rw[←ho,e1];simp[own]
    have hac:a b≠none:=Sl.own_s hA.1 hbo
    cases h:a b with
    |none=>exact absurd h hac
    |some k=>rw[un_l h]at hM;exact hM
  ·intro b hb
   exact hA.2 b (by rw[←ho];exact hb)
 ·have hcb:c b=none:=by
   rcases hb with hb|hb
   ·have:a b≠none:=Sl.own_s hA.1 (by rw[hb];simp)
    rcases dj b with h|h
    ·exact absurd h this
    ·exact h
   ·exact(un_none.1 hb).2
  refine⟨Mem.un (fun x=>if x∈[b]then M' x else none) c,?_,_,c,?_,rfl,⟨sub [b] M' hs (fun x hx=>by rw[ho]at hx;exact hx),?_⟩,hR⟩
  ·intro x k hk
   by_cases hx:x=b
   ·subst hx
    cases h:M' x with
    |none=>rw[un_n (by simp[h])]at hk;rw[hcb]at hk;cases hk
    |some k'=>rw[un_l (by simp;exact h)]at hk;exact hk
   ·rw[un_n (by simp[hx])]at hk
    rw[hoff x hx];exact un_r dj hk
  ·intro x
   by_cases hx:x=b
   ·subst hx;exact .inr hcb
   ·exact .inl (by simp[hx])
  ·intro x hx
   rw[ho]at hx
   simp only[hx,if_false]
theorem a_ap{α:Type}{f:α→List Value}{size bytes:Nat}{z:List Value}{xs:List α}{e:D}{R:List Asr}{t:Nat}{cs:List Value}{k:Nat}(zs:List α){s:Operand}(hm:Pk As (slA size f e xs) R)(hs:∀x,(f x).length=size)(h0:0<size∧0<bytes)
 (hv:ev S s=some (.slice e.a xs.length e.cap)) (ht:S t=.bsl cs k) (hc:cs=zs.flatMap f) (hk:zs.length=k) (hpl:plainCells cs=true) (hb:((xs.length:Int)+k)*bytes≤140737488355328)
 (hp:∀e':D,LA P r post (put S d (.v (.slice e'.a (xs++zs).length e'.cap))) (slA size f e' (xs++zs)::R)):LA P (⟨d,none,.app size bytes z s (.tmp t)⟩::r) post S As:=
 ⟨fun m hm'=>by
   have st:=hm.out m hm'
   have hsl:Sl m size f (.slice e.a xs.length e.cap) xs:=by
    obtain⟨a,c,dj,e1,hA,hR⟩:=st
    exact hA.1.le (by rw[e1];exact le_l _ _)
   subst hc
   refine⟨⟨_,zs.flatMap f,zs.length,hv,?_,hpl,appM_sl hs hsl h0.1 h0.2 ?_ (fun v' M' ha hs'=>?_)⟩⟩
   ·unfold srcC
    simp only[ht]
    rw[hk,if_pos (by rw[flat_len hs,hk])]
   ·have:(((xs.length+zs.length)*bytes:Nat):Int)≤140737488355328:=by rw[Int.natCast_mul,Int.natCast_add,hk];exact hb
    omega
   ·obtain⟨e',rfl,m',l,s'⟩:=app_star st ha hs'
    exact((hp e').at s' l).out⟩
theorem a_tk{e:D}{x:Operand}{hi:Option Operand}{size n:Nat}{k:IntKind}{i:Int}(hx:ev S x=some (.slice e.a n e.cap))(hh:optEv S hi=some (some (.int k i)))(hb:Kn As (e.a=none∨e.a=some ⟨e.b,e.o,none⟩))(hi0:0≤i∧i≤e.cap)
 (hp:LA P r post (put S d (.v (.slice e.a i.toNat e.cap))) As):LA P (⟨d,none,.slc size x none hi⟩::r) post S As:=
 ⟨fun m hm=>by
   refine vl_pure (sv:=.v (.slice e.a i.toNat e.cap)) ?_ (hp.out m hm)
   have h1:bnd (some (.int k i)) n=some i.toNat:=by show(if 0≤i then some i.toNat else none)=_;rw[if_pos hi0.1]
   have h2:optEv S none=some none:=rfl
   have h3:bnd none 0=some 0:=rfl
   simp only[pe,hx,hh,h2,slcV,h1,h3]
   rw[if_pos ⟨Nat.zero_le _,by omega⟩]
   rcases hb.out m hm with h|h<;>rw[h]<;>simp⟩
theorem a_dr{e:D}{x:Operand}{lo:Option Operand}{size n:Nat}{k:IntKind}{i:Int}(hx:ev S x=some (.slice e.a n e.cap))(hl:optEv S lo=some (some (.int k i)))(hb:Kn As (e.a=none∨e.a=some ⟨e.b,e.o,none⟩))(hi0:0≤i∧i≤n)(hc:Kn As (n≤e.cap))
 (hp:LA P r post (put S d (.v (.slice (e.drop size i.toNat).a (n-i.toNat) (e.drop size i.toNat).cap))) As):LA P (⟨d,none,.slc size x lo none⟩::r) post S As:=
 ⟨fun m hm=>by
   refine vl_pure (sv:=.v (.slice (e.drop size i.toNat).a (n-i.toNat) (e.drop size i.toNat).cap)) ?_ (hp.out m hm)
   have hcap:=hc.out m hm
   have h1:bnd (some (.int k i)) 0=some i.toNat:=by show(if 0≤i then some i.toNat else none)=_;rw[if_pos hi0.1]
   have h2:optEv S none=some none:=rfl
   have h3:bnd none n=some n:=rfl
   simp only[pe,hx,hl,h2,slcV,h1,h3]
   rw[if_pos ⟨by omega,by omega⟩]
   obtain⟨a,cp⟩:=e
   rcases hb.out m hm with h|h
   ·have h':a=none:=h
    subst h';rfl
   ·have h':a=some ⟨D.b ⟨a,cp⟩,D.o ⟨a,cp⟩,none⟩:=h
    generalize D.b ⟨a,cp⟩=b0,D.o ⟨a,cp⟩=o0 at h'
    subst h'
    rfl⟩
theorem a_mm(hp:∀b,LA P r post (put S d (.v (.map (some b)))) (mpA b (fun _=>none)::As)):LA P (⟨d,none,.mkmap⟩::r) post S As:=
 ⟨fun m hm=>⟨fun b hb=>((hp b).out _ (star_new hm hb ⟨#[],0,rfl,rfl,by simp,fun j=>rfl⟩)).out⟩⟩
theorem a_lk{one:Bool}{z:Value}{ok:Bool}{x i:Operand}{b:Nat}{g:Int→Option Value}{R:List Asr}{j:Int}{v:Value}(hm:Pk As (mpA b g) R)(hx:ev S x=some (.map (some b)))(hi:ev S i=some (.int .i64 j))
 (hv:(if ok then .tuple #[(g j).getD z,.bool (g j).isSome]else(g j).getD z)=v) (hp:LA P r post (put S d (.v v)) As):LA P (⟨d,none,.look one z ok x i⟩::r) post S As:=
 ⟨fun m hm'=>by
   obtain⟨a,c,dj,e1,⟨es,clk,e2,h1,h2,h3⟩,hR⟩:=hm.out m hm'
   refine⟨vcK_fe (k:=.look one z ok x i) (sv:=.v v) rfl (.inr ⟨es,clk,j,.inr ⟨b,hx,?_⟩,hi,h1,?_⟩) (hp.out m hm').out⟩
   ·rw[e1];exact un_l (by rw[e2];exact one_same _ _)
   ·rw[h3 j,hv]⟩
theorem a_mu{x i y:Operand}{b:Nat}{g:Int→Option Value}{R:List Asr}{j:Int}{v:Value}(hm:Pk As (mpA b g) R)(hx:ev S x=some (.map (some b)))(hi:ev S i=some (.int .i64 j))(hy:ev S y=some v)
 (hp:LA P r post (put S d (.v undef)) (mpA b (fun i=>if i=j then some v else g i)::R)):LA P (⟨d,none,.mupd x i y⟩::r) post S As:=
 ⟨fun m hm'=>by
   obtain⟨a,c,dj,e1,⟨es,clk,e2,h1,h2,h3⟩,hR⟩:=hm.out m hm'
   subst e1;subst e2
   refine⟨⟨b,es,clk,j,v,hx,un_l (one_same _ _),hi,hy,h1,(hp.out _ ?_).out⟩⟩
   have hcb:c b=none:=by
    rcases dj b with h|h
    ·rw[one_same]at h;cases h
    ·exact h
   rw[un_upd_l,one_upd]
   exact⟨_,c,disj_one _ hcb,rfl,mpSet_A h1 h2 h3,hR⟩⟩
theorem LA.ent{l:List I}{Bs:List Asr}(e:Ent As Bs)(h:LA P l post S Bs):LA P l post S As:=
 ⟨fun m hm=>by obtain⟨m',l',s⟩:=e.out m hm;exact h.at s l'⟩
theorem LA.pk{l:List I}{A:Asr}{R:List Asr}(e:Pk As A R)(h:LA P l post S (A::R)):LA P l post S As:=⟨fun m hm=>h.out m (e.out m hm)⟩
end
end Go.Proofs.YtpleoapljeffiaaDoor.E
set_option maxRecDepth 100000
namespace Go.Proofs.YtpleoapljeffiaaDoor.E
open Go
theorem mixed:Tryd.prog.follows .mixedOrders=true:=Tryd.checked.mixed
noncomputable def e30:Env:=⟨Tryd.prog,[3],38,[(7,14)]⟩
abbrev z0(a0:Nat)(a1:Nat):I:=⟨some a0,none,.mov (.tmp a1)⟩
abbrev z3(a0:Nat)(a1:Nat)(a2:Nat):I:=⟨some a0,none,.faddr a1 (.tmp a2)⟩
abbrev z4(a0:Nat)(a1:Nat)(a2:Nat):I:=⟨some a0,none,.load true a1 (.tmp a2)⟩
abbrev z5(a0:Nat)(a1:Nat):I:=⟨some a0,none,.nilCheck (.tmp a1)⟩
abbrev z6(a0:Nat)(a1:Nat)(a2:Nat):I:=⟨none,none,.store a0 (.tmp a1) (.tmp a2)⟩
abbrev z7(a0:Nat)(a1:Nat)(a2:Int):I:=⟨some a0,none,.bin .eql (.tmp a1) (.const (.int .i64 a2))⟩
abbrev z8(a0:Nat)(a1:Nat)(a2:Nat):I:=⟨some a0,none,.load false a1 (.tmp a2)⟩
abbrev z9(a0:Nat)(a1:Nat)(a2:Nat)(a3:Nat):I:=⟨some a0,some (a1,true),.faddr a2 (.tmp a3)⟩
abbrev zA(a0:Nat)(a1:Nat)(a2:Nat)(a3:Nat):I:=⟨some a0,some (a1,true),.load true a2 (.tmp a3)⟩
abbrev zC(a0:Nat)(a1:Nat)(a2:Nat)(a3:Nat):I:=⟨some a0,none,.iaddr a1 (.tmp a2) (.tmp a3)⟩
abbrev zD(a0:Nat)(a1:Nat)(a2:Nat):I:=⟨some a0,some (a1,true),.mov (.tmp a2)⟩
abbrev zE(a0:Nat)(a1:Nat)(a2:Nat):I:=⟨some a0,none,.pick (.tmp a1) (.tmp a2) (.const (.bool false))⟩
abbrev zF(a0:Nat):I:=⟨some a0,none,.mov (.const (.bool false))⟩
abbrev zG(a0:Nat)(a1:Nat):I:=⟨some a0,none,.lenS (.tmp a1)⟩
abbrev zH(a0:Nat)(a1:Nat)(a2:Nat)(a3:Nat):I:=⟨some a0,some (a1,false),.faddr a2 (.tmp a3)⟩
abbrev zI(a0:Nat)(a1:Int):I:=⟨some a0,none,.mov (.const (.int .i64 a1))⟩
abbrev zJ(a0:Nat)(a1:Nat)(a2:Nat):I:=⟨some a0,some (a1,true),.nilCheck (.tmp a2)⟩
abbrev zK(a0:Nat)(a1:Nat)(a2:Nat)(a3:Nat):I:=⟨some a0,some (a1,false),.load true a2 (.tmp a3)⟩
abbrev zL(a0:Nat)(a1:Nat)(a2:Nat):I:=⟨some a0,some (a1,false),.mov (.tmp a2)⟩
abbrev zO(a0:Nat)(a1:Nat)(a2:Nat):I:=⟨some a0,none,.pick (.tmp a1) (.const (.bool true)) (.tmp a2)⟩
abbrev zP(a0:Nat)(a1:Nat)(a2:Nat)(a3:Nat):I:=⟨some a0,none,.call a1 [.tmp a2,.tmp a3]⟩
abbrev zQ(a0:Nat)(a1:Nat)(a2:Nat):I:=⟨some a0,none,.bin .lss (.tmp a1) (.tmp a2)⟩
abbrev zR(a0:Nat)(a1:Nat):I:=⟨some a0,none,.box true (.tmp a1)⟩
abbrev zT(a0:Nat)(a1:Nat)(a2:Nat)(a3:Int):I:=⟨some a0,some (a1,true),.bin .eql (.tmp a2) (.const (.int .i64 a3))⟩
abbrev zU(a0:Nat)(a1:Nat):I:=⟨some a0,none,.not (.tmp a1)⟩
abbrev zV(a0:Nat)(a1:Int)(a2:Int)(a3:Int)(a4:Int)(a5:Int)(a6:Int)(a7:Int)(a8:Nat)(a9:Nat):I:=⟨some a0,none,.alloc true [.int .i64 a1,.int .i64 a2,.int .i64 a3,.int .i64 a4,.int .i64 a5,.int .i64 a6,.int .i64 a7,.slice none a8 a9]⟩
abbrev zW(a0:Nat)(a1:Nat)(a2:Nat):I:=⟨some a0,some (a1,false),.nilCheck (.tmp a2)⟩
abbrev zX(a0:Nat):I:=⟨some a0,none,.mov (.const (.bool true))⟩
abbrev ze(a0:Nat)(a1:Nat)(a2:Nat)(a3:Int):I:=⟨some a0,some (a1,false),.bin .eql (.tmp a2) (.const (.int .i64 a3))⟩
abbrev zi(a0:Nat)(a1:Nat)(a2:Nat):I:=⟨some a0,some (a1,true),.lenS (.tmp a2)⟩
abbrev zo(a0:Nat)(a1:Nat)(a2:Int):I:=⟨some a0,none,.bin .neq (.tmp a1) (.const (.int .i64 a2))⟩
abbrev zt(a0:Nat)(a1:Nat)(a2:Nat)(a3:Nat)(a4:Nat):I:=⟨some a0,some (a1,true),.iaddr a2 (.tmp a3) (.tmp a4)⟩
abbrev zu(a0:Nat)(a1:Int)(a2:Nat):I:=⟨some a0,none,.bin .add (.const (.int .i64 a1)) (.tmp a2)⟩
abbrev q4(a0:Nat)(a1:Int)(a2:Int)(a3:Int):I:=⟨some a0,none,.alloc true [.int .i64 a1,.int .i64 a2,.int .i64 a3]⟩
abbrev q5(a0:Nat)(a1:Int)(a2:Int)(a3:Int)(a4:Nat)(a5:Nat)(a6:Int)(a7:Nat)(a8:Nat)(a9:Nat):I:=⟨some a0,none,.build [.int .i64 a1,.int .i64 a2,.int .i64 a3] [(a4,a5,.const (.int .i64 a6)),(a7,a8,.tmp a9)]⟩
abbrev q6(a0:Nat)(a1:Nat)(a2:Nat)(a3:Nat):I:=⟨some a0,some (a1,false),.pick (.tmp a2) (.tmp a3) (.const (.bool false))⟩
abbrev q7(a0:Nat)(a1:Nat)(a2:Nat)(a3:Nat):I:=⟨some a0,some (a1,true),.pick (.tmp a2) (.const (.bool true)) (.tmp a3)⟩
abbrev q8(a0:Nat)(a1:Nat)(a2:Nat)(a3:Nat):I:=⟨some a0,some (a1,true),.bin .leq (.tmp a2) (.tmp a3)⟩
abbrev q9(a0:Nat)(a1:Nat)(a2:Nat)(a3:Int)(a4:Int):I:=⟨some a0,none,.call a1 [.tmp a2,.const (.int .i64 a3),.const (.int .i64 a4)]⟩
abbrev qE(a0:Nat)(a1:Nat)(a2:Nat):I:=⟨some a0,none,.bin .geq (.tmp a1) (.tmp a2)⟩
noncomputable def c30:C:=
 .seq (.reg [zR 3 1,zF 4]) (.seq (.seq (.reg [z3 5 0 3,z4 6 1 5]) (.block 0 (.seq (.reg [z7 8 6 0,z0 7 8]) (.cond (.tmp 7) (.seq (.reg [z3 9 1 3,z4 10 1 9,z7 11 10 0,z0 12 11,z9 13 12 2 3,zA 14 12 1 13,zT 15 12 14 0,zE 16 12 15,z0 4 16]) .ret) (.seq (.reg [z7 18 6 1,z0 17 18]) (.cond (.tmp 17) (.seq (.reg [z3 19 2 3,z4 20 1 19,z7 21 20 0,z0 4 21]) .ret) (.seq (.reg [z7 23 6 2,z0 22 23])
 (.cond (.tmp 22) (.seq (.dreg 14 [z3 24 1 3,z4 25 1 24,z7 26 25 0,z0 27 26,z9 28 27 2 3,zA 29 27 1 28,zD 30 27 0,zJ 31 27 30,z9 32 27 4 31,zA 33 27 1 32,zi 34 27 33,⟨some 35,some (27,true),.bin .sub (.tmp 34) (.const (.int .i64 1))⟩,⟨some 36,some (27,true),.qcall 26 [.tmp 29,.const (.int .i64 0),.tmp 35]⟩,zE 37 27 36,z0 4 37]) .ret) .skip)))))))) (.seq (.reg [zF 4]) .ret))
theorem t30:Tryd.f30.body.bind (trC e30)=some c30:=by kernel_rfl
theorem r30:Tryd.f30.results.toList.mapM (trR Tryd.prog)=some [.tmp 4]:=by kernel_rfl
theorem fn30{args:List Value}{M:Mem}{post:Value→Mem→Prop}(hl:args.length≤38)(h:VC e30 c30 (fnQ [.tmp 4] post) (initS args 38) M):Fn Tryd.prog 30 args M post:=
 Fn.of' (E:=e30) Tryd.func30 t30 rfl r30 mixed hl h
noncomputable def e42:Env:=⟨Tryd.prog,[3,4],31,[(1,15),(2,10)]⟩
noncomputable def c42:C:=
 .seq (.reg [zR 3 1,q4 4 0 0 0]) (.seq (.seq (.dreg 15 [z3 5 0 3,z4 6 1 5,z7 7 6 2,z0 8 7,zD 9 8 0,zJ 10 8 9,z9 11 8 4 10,zA 12 8 1 11,z9 13 8 2 3,zA 14 8 1 13,zt 15 8 8 12 14,z9 16 8 0 15,zA 17 8 1 16,zT 18 8 17 2,zE 19 8 18]) (.cond (.tmp 19) (.seq (.dreg 10 [z0 20 0,z5 21 20,z3 22 4 21,z4 23 1 22,z3 24 2 3,z4 25 1 24,zC 26 8 23 25,z3 27 6 26,z4 28 1 27,q5 29 0 0 0 0 1 2 2 1 28,z6 3 4 29])
 .ret) .skip)) (.seq (.reg [z8 30 3 3,z6 3 4 30]) .ret))
theorem t42:Tryd.f42.body.bind (trC e42)=some c42:=by kernel_rfl
theorem r42:Tryd.f42.results.toList.mapM (trR Tryd.prog)=some [.cell 4 false 3]:=by kernel_rfl
theorem fn42{args:List Value}{M:Mem}{post:Value→Mem→Prop}(hl:args.length≤31)(h:VC e42 c42 (fnQ [.cell 4 false 3] post) (initS args 31) M):Fn Tryd.prog 42 args M post:=
 Fn.of' (E:=e42) Tryd.func42 t42 rfl r42 mixed hl h
noncomputable def e31:Env:=⟨Tryd.prog,[4],36,[(3,9)]⟩
noncomputable def c31:C:=
 .seq (.reg [zR 4 1,zF 6]) (.seq (.seq (.reg [z3 8 0 4,z4 9 1 8,zo 10 9 2]) (.cond (.tmp 10) (.seq (.reg [zX 6]) .ret) .skip)) (.seq (.dreg 9 [z0 11 0,z5 12 11,z3 13 4 12,z4 14 1 13,z3 15 2 4,z4 16 1 15,zC 17 8 14 16,z3 18 0 17,z4 19 1 18,z0 7 19]) (.seq (.reg [z0 20 7,z7 21 20 1,z0 22 21,zD 23 22 0,z9 24 22 2 4,zA 25 22 1 24,⟨some 26,some (22,true),.call 32 [.tmp 23,.tmp 25]⟩,⟨some 27,some
 (22,true),.not (.tmp 26)⟩,zE 28 22 27,z0 29 28,zL 30 29 7,ze 31 29 30 2,zL 32 29 31,zD 33 32 2,q6 34 29 32 33,zO 35 29 34,z0 6 35]) .ret)))
theorem t31:Tryd.f31.body.bind (trC e31)=some c31:=by kernel_rfl
theorem r31:Tryd.f31.results.toList.mapM (trR Tryd.prog)=some [.tmp 6]:=by kernel_rfl
theorem fn31{args:List Value}{M:Mem}{post:Value→Mem→Prop}(hl:args.length≤36)(h:VC e31 c31 (fnQ [.tmp 6] post) (initS args 36) M):Fn Tryd.prog 31 args M post:=
 Fn.of' (E:=e31) Tryd.func31 t31 rfl r31 mixed hl h
noncomputable def e32:Env:=⟨Tryd.prog,[5],36,[]⟩
noncomputable def c32:C:=
 .seq (.reg [zF 4]) (.seq (.reg [z0 6 0,z5 7 6,z3 8 4 7,z4 9 1 8,z0 10 1,zC 11 8 9 10,z8 12 8 11,zV 5 0 0 0 0 0 0 0 0 0,z6 8 5 12]) (.seq (.reg [z0 13 0,z5 14 13,z3 15 5 14,z4 16 1 15,z7 17 16 3,z0 18 17,z9 19 18 0 5,zA 20 18 1 19,zT 21 18 20 1,zE 22 18 21,z0 23 22,z9 24 23 5 5,zA 25 23 1 24,zT 26 23 25 0,zE 27 23 26,z0 28 27,zD 29 28 1,zD 30 28 0,zJ 31 28 30,z9 32 28 6 31,zA 33 28 1 32,⟨some
 34,some (28,true),.bin .geq (.tmp 29) (.tmp 33)⟩,zE 35 28 34,z0 4 35]) .ret))
theorem t32:Tryd.f32.body.bind (trC e32)=some c32:=by kernel_rfl
theorem r32:Tryd.f32.results.toList.mapM (trR Tryd.prog)=some [.tmp 4]:=by kernel_rfl
theorem fn32{args:List Value}{M:Mem}{post:Value→Mem→Prop}(hl:args.length≤36)(h:VC e32 c32 (fnQ [.tmp 4] post) (initS args 36) M):Fn Tryd.prog 32 args M post:=
 Fn.of' (E:=e32) Tryd.func32 t32 rfl r32 mixed hl h
noncomputable def e34:Env:=⟨Tryd.prog,[],37,[]⟩
noncomputable def c34:C:=
 .seq (.reg [zF 6]) (.seq (.seq (.reg [z0 7 0,z5 8 7,z3 9 5 8,z4 10 1 9]) (.block 0 (.seq (.reg [z7 12 10 4,z0 11 12]) (.cond (.tmp 11) (.seq (.reg [zF 6]) .ret) (.seq (.reg [z7 14 10 5,z0 13 14]) (.cond (.tmp 13) (.seq (.reg [z0 15 1,z0 16 0,z5 17 16,z3 18 6 17,z4 19 1 18,zQ 20 15 19,z0 21 20,zL 22 21 1,zL 23 21 0,zW 24 21 23,zH 25 21 6 24,zK 26 21 1 25,⟨some 27,some (21,false),.bin .eql
 (.tmp 22) (.tmp 26)⟩,zL 28 21 27,zD 29 28 2,zD 30 28 0,zJ 31 28 30,z9 32 28 7 31,zA 33 28 1 32,⟨some 34,some (28,true),.bin .lss (.tmp 29) (.tmp 33)⟩,q6 35 21 28 34,zO 36 21 35,z0 6 36]) .ret) .skip)))))) (.seq (.reg [zX 6]) .ret))
theorem t34:Tryd.f34.body.bind (trC e34)=some c34:=by kernel_rfl
theorem r34:Tryd.f34.results.toList.mapM (trR Tryd.prog)=some [.tmp 6]:=by kernel_rfl
theorem fn34{args:List Value}{M:Mem}{post:Value→Mem→Prop}(hl:args.length≤37)(h:VC e34 c34 (fnQ [.tmp 6] post) (initS args 37) M):Fn Tryd.prog 34 args M post:=
 Fn.of' (E:=e34) Tryd.func34 t34 rfl r34 mixed hl h
noncomputable def e35:Env:=⟨Tryd.prog,[],15,[]⟩
noncomputable def c35:C:=
 .seq (.reg [zF 2]) (.seq (.reg [z0 3 0,z5 4 3,z3 5 5 4,z4 6 1 5,z7 7 6 1,z0 8 7,zL 9 8 0,zW 10 8 9,zH 11 8 5 10,zK 12 8 1 11,ze 13 8 12 2,zO 14 8 13,z0 2 14]) .ret)
theorem t35:Tryd.f35.body.bind (trC e35)=some c35:=by kernel_rfl
theorem r35:Tryd.f35.results.toList.mapM (trR Tryd.prog)=some [.tmp 2]:=by kernel_rfl
theorem fn35{args:List Value}{M:Mem}{post:Value→Mem→Prop}(hl:args.length≤15)(h:VC e35 c35 (fnQ [.tmp 2] post) (initS args 15) M):Fn Tryd.prog 35 args M post:=
 Fn.of' (E:=e35) Tryd.func35 t35 rfl r35 mixed hl h
noncomputable def e36:Env:=⟨Tryd.prog,[3],20,[(1,15)]⟩
noncomputable def c36:C:=
 .seq (.reg [zR 3 1,zF 4]) (.seq (.dreg 15 [z3 5 0 3,z4 6 1 5,z7 7 6 2,z0 8 7,zD 9 8 0,zJ 10 8 9,z9 11 8 4 10,zA 12 8 1 11,z9 13 8 2 3,zA 14 8 1 13,zt 15 8 8 12 14,z9 16 8 5 15,zA 17 8 1 16,zT 18 8 17 0,zE 19 8 18,z0 4 19]) .ret)
theorem t36:Tryd.f36.body.bind (trC e36)=some c36:=by kernel_rfl
theorem r36:Tryd.f36.results.toList.mapM (trR Tryd.prog)=some [.tmp 4]:=by kernel_rfl
theorem fn36{args:List Value}{M:Mem}{post:Value→Mem→Prop}(hl:args.length≤20)(h:VC e36 c36 (fnQ [.tmp 4] post) (initS args 20) M):Fn Tryd.prog 36 args M post:=
 Fn.of' (E:=e36) Tryd.func36 t36 rfl r36 mixed hl h
noncomputable def e40:Env:=⟨Tryd.prog,[3],12,[]⟩
noncomputable def c40:C:=
 .seq (.reg [zR 3 1,zI 4 0]) (.seq (.seq (.reg [z3 5 0 3,z4 6 1 5,zo 7 6 2]) (.cond (.tmp 7) (.seq (.reg [zI 4 (-1)]) .ret) .skip)) (.seq (.reg [z0 8 0,z8 9 3 3,zP 10 42 8 9,⟨some 11,none,.field true 2 1 (.tmp 10)⟩,z0 4 11]) .ret))
theorem t40:Tryd.f40.body.bind (trC e40)=some c40:=by kernel_rfl
theorem r40:Tryd.f40.results.toList.mapM (trR Tryd.prog)=some [.tmp 4]:=by kernel_rfl
theorem fn40{args:List Value}{M:Mem}{post:Value→Mem→Prop}(hl:args.length≤12)(h:VC e40 c40 (fnQ [.tmp 4] post) (initS args 12) M):Fn Tryd.prog 40 args M post:=
 Fn.of' (E:=e40) Tryd.func40 t40 rfl r40 mixed hl h
noncomputable def e28:Env:=⟨Tryd.prog,[1],32,[]⟩
noncomputable def c28:C:=
 .seq (.reg [zR 1 0,zF 2]) (.seq (.reg [z3 3 1 1,z4 4 1 3,z7 5 4 0,z0 6 5,z9 7 6 2 1,zA 8 6 1 7,zT 9 6 8 0,zE 10 6 9,z0 11 10,z9 12 11 3 1,zA 13 11 1 12,zT 14 11 13 0,zE 15 11 14,z0 16 15,z9 17 16 4 1,zA 18 16 1 17,zT 19 16 18 0,zE 20 16 19,z0 21 20,z9 22 21 5 1,zA 23 21 1 22,zT 24 21 23 0,zE 25 21 24,z0 26 25,z9 27 26 7 1,zA 28 26 1 27,zi 29 26 28,zT 30 26 29 0,zE 31 26 30,z0 2 31]) .ret)
theorem t28:Tryd.f28.body.bind (trC e28)=some c28:=by kernel_rfl
theorem r28:Tryd.f28.results.toList.mapM (trR Tryd.prog)=some [.tmp 2]:=by kernel_rfl
theorem fn28{args:List Value}{M:Mem}{post:Value→Mem→Prop}(hl:args.length≤32)(h:VC e28 c28 (fnQ [.tmp 2] post) (initS args 32) M):Fn Tryd.prog 28 args M post:=
 Fn.of' (E:=e28) Tryd.func28 t28 rfl r28 mixed hl h
noncomputable def e29:Env:=⟨Tryd.prog,[1],10,[]⟩
noncomputable def c29:C:=
 .seq (.reg [zR 1 0,zI 2 0]) (.seq (.seq (.reg [z3 3 0 1,z4 4 1 3,zo 5 4 1]) (.cond (.tmp 5) (.seq (.reg [zI 2 0]) .ret) .skip)) (.seq (.reg [z3 6 7 1,z4 7 1 6,zG 8 7,zu 9 1 8,z0 2 9]) .ret))
theorem t29:Tryd.f29.body.bind (trC e29)=some c29:=by kernel_rfl
theorem r29:Tryd.f29.results.toList.mapM (trR Tryd.prog)=some [.tmp 2]:=by kernel_rfl
theorem fn29{args:List Value}{M:Mem}{post:Value→Mem→Prop}(hl:args.length≤10)(h:VC e29 c29 (fnQ [.tmp 2] post) (initS args 10) M):Fn Tryd.prog 29 args M post:=
 Fn.of' (E:=e29) Tryd.func29 t29 rfl r29 mixed hl h
noncomputable def e33:Env:=⟨Tryd.prog,[1],16,[]⟩
noncomputable def c33:C:=
 .seq (.reg [zR 1 0,zF 2]) (.seq (.reg [z3 3 0 1,z4 4 1 3,z7 5 4 1,z0 6 5,z9 7 6 3 1,zA 8 6 1 7,zT 9 6 8 1,zD 10 6 9,zH 11 10 3 1,zK 12 10 1 11,ze 13 10 12 2,q7 14 6 10 13,zE 15 6 14,z0 2 15]) .ret)
theorem t33:Tryd.f33.body.bind (trC e33)=some c33:=by kernel_rfl
theorem r33:Tryd.f33.results.toList.mapM (trR Tryd.prog)=some [.tmp 2]:=by kernel_rfl
theorem fn33{args:List Value}{M:Mem}{post:Value→Mem→Prop}(hl:args.length≤16)(h:VC e33 c33 (fnQ [.tmp 2] post) (initS args 16) M):Fn Tryd.prog 33 args M post:=
 Fn.of' (E:=e33) Tryd.func33 t33 rfl r33 mixed hl h
noncomputable def e26:Env:=⟨Tryd.prog,[],15,[]⟩
noncomputable def c26:C:=
 .seq (.reg [zF 6]) (.seq (.reg [z0 7 0,z0 8 1,qE 9 7 8,z0 10 9,zD 11 10 0,zD 12 10 2,q8 13 10 11 12,zE 14 10 13,z0 6 14]) .ret)
theorem t26:Tryd.f26.body.bind (trC e26)=some c26:=by kernel_rfl
theorem r26:Tryd.f26.results.toList.mapM (trR Tryd.prog)=some [.tmp 6]:=by kernel_rfl
theorem fn26{args:List Value}{M:Mem}{post:Value→Mem→Prop}(hl:args.length≤15)(h:VC e26 c26 (fnQ [.tmp 6] post) (initS args 15) M):Fn Tryd.prog 26 args M post:=
 Fn.of' (E:=e26) Tryd.func26 t26 rfl r26 mixed hl h
end Go.Proofs.YtpleoapljeffiaaDoor.E
namespace Go.Proofs.YtpleoapljeffiaaDoor.E
open Go
open Classical
def wa(w:Word):Value:=.agg (wv w).toArray
def ca(x:CS):Value:=.agg (csv x).toArray
def pairsN(cs:List Cell):Int:=(cs.map fun c=>(c.pairs.length:Int)).sum
theorem pairsN_nonneg(cs:List Cell):0≤pairsN cs:=by
 unfold pairsN
 induction cs with
 |nil=>simp
 |cons c r ih=>simp only[List.map_cons,List.sum_cons];omega
structure CL (M:Mem) (v:Value) (ys:List CS):Prop where
 sl:Sl M 8 csv v ys
 ps:∀y,y∈ys→Sl M 6 pv y.s y.c.pairs
def fpC(v:Value)(ys:List CS):List Nat:=own v++ys.flatMap fun y=>own y.s
structure HS where
 H:Heap
 rs:Value
 cs:Value
 gs:Value
 xs:List CS
def HS.v(x:HS):Value:=.agg (hv x.H x.rs x.cs x.gs).toArray
def HS.fp(x:HS):List Nat:=own x.rs++(fpC x.cs x.xs++own x.gs)
structure RHV (M:Mem) (x:HS):Prop where
 regs:Sl M 3 wv x.rs x.H.regs
 cl:CL M x.cs x.xs
 eq:x.xs.map (·.c)=x.H.cells
 gray:Sl M 1 iv x.gs x.H.gray
structure CLR (M:Mem) (v:Value) (ys:List CS):Prop where
 sl:SlR M 8 csv v ys
 ps:∀y,y∈ys→SlR M 6 pv y.s y.c.pairs
structure RHVR (M:Mem) (x:HS):Prop where
 regs:SlR M 3 wv x.rs x.H.regs
 cl:CLR M x.cs x.xs
 eq:x.xs.map (·.c)=x.H.cells
 gray:SlR M 1 iv x.gs x.H.gray
structure WHV (M:Mem) (x:HS):Prop where
 r:RHV M x
 nd:x.fp.Nodup
def OffL(M:Mem)(L:List Nat)(M':Mem):Prop:=∀b k,M b=some k→b∉L→M' b=some k
theorem CL.le{M M':Mem}{v:Value}{ys:List CS}(h:CL M v ys)(l:M.le M'):CL M' v ys:=⟨h.sl.le l,fun y hy=>(h.ps y hy).le l⟩
theorem CLR.le{M M':Mem}{v:Value}{ys:List CS}(h:CLR M v ys)(l:M.le M'):CLR M' v ys:=⟨h.sl.le l,fun y hy=>(h.ps y hy).le l⟩
theorem RHVR.le{M M':Mem}{x:HS}(h:RHVR M x)(l:M.le M'):RHVR M' x:=⟨h.regs.le l,h.cl.le l,h.eq,h.gray.le l⟩
theorem RHV.le{M M':Mem}{x:HS}(h:RHV M x)(l:M.le M'):RHV M' x:=⟨h.regs.le l,h.cl.le l,h.eq,h.gray.le l⟩
theorem WHV.le{M M':Mem}{x:HS}(h:WHV M x)(l:M.le M'):WHV M' x:=⟨h.r.le l,h.nd⟩
end Go.Proofs.YtpleoapljeffiaaDoor.E
namespace Go.Proofs.YtpleoapljeffiaaDoor.E
open Go
def Formed(H:Heap)(w:Word):Prop:=(w.kind=0∧w.num=0∧w.at_=0)∨(w.kind=1∧w.at_=0)∨(w.kind=2∧w.num=0∧0≤w.at_∧w.at_<H.cells.length)
def Bare(c:Cell):Prop:=c.kind=0∧c.weak=0∧c.last=0∧c.born=0∧c.color=0∧c.pairs=[]
def Doomed(H:Heap)(i:Int):Prop:=H.phase=3∧(H.getC i).state=1∧(H.getC i).color=0∧H.hand≤i
def Marking(H:Heap):Prop:=H.phase=1∨H.phase=2
def Mended(H:Heap)(i k:Int):Prop:=H.phase≠4∧(H.phase=5→i<H.hand∨i=H.hand∧k<H.sub)
def Root(c:Cell):Prop:=c.state=1∧(c.last=1∨c.last=2)
def LeadsWell(H:Heap)(w:Word)(moved:Prop):Prop:=w.kind=2→((H.getC w.at_).state=1∧¬Doomed H w.at_)∨((H.getC w.at_).state=2∧moved)
def White(H:Heap)(w:Word):Prop:=w.kind=2∧(H.getC w.at_).color=0
structure R1 (H:Heap):Prop where
 room:1≤H.room∧H.room≤4000
 regs:H.regs.length=16
 cells:(H.cells.length:Int)≤2*H.room
 gray:H.gray.length≤H.cells.length
 born:0≤H.born∧H.born≤1000000000
 rounds:0≤H.rounds∧H.rounds≤1000000000
 forced:0≤H.forced∧H.forced≤1000000000
 per:0≤H.per∧H.per≤64
 start:0≤H.start∧H.start≤4000
 phase:0≤H.phase∧H.phase≤6
 hand:0≤H.hand∧H.hand≤H.cells.length
 sub:0≤H.sub∧H.sub≤200
def UsedOk(H:Heap)(c:Cell):Prop:=c.state=1∧(0≤c.kind∧c.kind≤255)∧(0≤c.weak∧c.weak≤3)∧(0≤c.last∧c.last≤3)∧(1≤c.born∧c.born≤H.born)∧(0≤c.color∧c.color≤2)∧c.to=0∧c.pairs.length≤200
def MovedOk(H:Heap)(i:Int)(c:Cell):Prop:=c.state=2∧Bare c∧4≤H.phase∧(0≤c.to∧c.to<i)∧(H.getC c.to).state=1∧(H.phase=4→∀k:Int,0≤k→k<c.to→(H.getC k).state≠0)
structure R2 (H:Heap):Prop where
 each:∀(i:Nat) c,H.cells[i]?=some c→(c.state=0∧Bare c∧c.to=0)∨MovedOk H i c∨UsedOk H c
 born:∀(i j:Nat) c d,H.cells[i]?=some c→H.cells[j]?=some d→i<j→c.state=1→d.state=1→c.born≠d.born
 to:∀(i j:Nat) c d,H.cells[i]?=some c→H.cells[j]?=some d→i<j→c.state=2→d.state=2→c.to≠d.to
def Cell.units(c:Cell):Int:=if c.state=1 then 1+c.pairs.length else 0
def unitsN(cs:List Cell):Int:=(cs.map Cell.units).sum
def R3(H:Heap):Prop:=unitsN H.cells=H.used∧H.used≤H.room
structure R4 (H:Heap):Prop where
 regs:∀w,w∈H.regs→Formed H w∧LeadsWell H w False
 roots:∀(i:Nat) c,H.cells[i]?=some c→Doomed H i→¬Root c
 pairs:∀(i:Nat) c,H.cells[i]?=some c→∀(k:Nat) p,c.pairs[k]?=some p→Formed H p.key∧Formed H p.val∧(¬Doomed H i→LeadsWell H p.key (¬Mended H i k)∧LeadsWell H p.val (¬Mended H i k))
structure R5 (H:Heap):Prop where
 mark:Marking H→H.gray.Nodup∧(∀g,g∈H.gray→0≤g∧g<H.cells.length∧(H.getC g).state=1∧(H.getC g).color=1)∧∀(i:Nat) c,H.cells[i]?=some c→c.color=1→(i:Int)∈H.gray
 else_:¬Marking H→H.gray=[]∧∀(i:Nat) c,H.cells[i]?=some c→c.color≠1∧(c.color=2→H.phase=3∧H.hand≤i)
def R6(H:Heap):Prop:=
 if H.phase=0∨H.phase=4 then H.hand=0∧H.sub=0
 else if H.phase=2 then H.hand=0∧(match H.gray with|[]=>H.sub=0|g::_=>H.sub≤(H.getC g).pairs.length)
 else if H.phase=5 then(if H.hand<H.cells.length∧(H.getC H.hand).state=1 then H.sub≤(H.getC H.hand).pairs.length else H.sub=0)
 else H.sub=0
def scanned(H:Heap)(i:Int)(c:Cell):Int:=
 if c.color=2 then c.pairs.length else if H.phase=2∧H.gray.head?=some i then H.sub else 0
def R7(H:Heap):Prop:=Marking H→∀(i:Nat) c,H.cells[i]?=some c→(Root c→c.color=0→H.phase≠2∧H.hand≤i)∧∀(k:Nat) p,c.pairs[k]?=some p→(k:Int)<scanned H i c→¬White H p.key∧¬White H p.val
def R8(H:Heap):Prop:=H.phase=6→∀(i:Nat) c,H.cells[i]?=some c→H.hand≤i→c.state≠2
open Classical in
noncomputable def okH(H:Heap):Int:=
 if ¬R1 H then 1 else if ¬R2 H then 2 else if ¬R3 H then 3 else if ¬R4 H then 4 else if ¬R5 H then 5 else if ¬R6 H then 6 else if ¬R7 H then 7 else if ¬R8 H then 8 else 0
structure Sound (H:Heap):Prop where
 r1:R1 H
 r2:R2 H
 r3:R3 H
 r4:R4 H
 r5:R5 H
 r6:R6 H
 r7:R7 H
 r8:R8 H
theorem okH_sound(H:Heap):okH H=0↔Sound H:=by
 unfold okH
 constructor
 ·intro h
  repeat' split at h
  all_goals first
   |(cases h;done)
   |(rename_i h1 h2 h3 h4 h5 h6 h7 h8;exact⟨Classical.not_not.1 h1,Classical.not_not.1 h2,Classical.not_not.1 h3,Classical.not_not.1 h4,Classical.not_not.1 h5,Classical.not_not.1 h6,Classical.not_not.1 h7,Classical.not_not.1 h8⟩)
 ·intro⟨h1,h2,h3,h4,h5,h6,h7,h8⟩
  simp[h1,h2,h3,h4,h5,h6,h7,h8]
theorem star_perm{As Bs:List Asr}(h:As.Perm Bs):∀{m:Mem},star As m→star Bs m:=by
 induction h with
 |nil=>exact fun h=>h
 |cons A _ ih=>exact fun h=>star_cons_mono h (fun _ h=>h) (fun _ h=>ih h)
 |swap A B l=>exact fun h=>star_swap h
 |trans _ _ ih1 ih2=>exact fun h=>ih2 (ih1 h)
theorem star_in{As R:List Asr}{m:Mem}:star (star As::R) m↔star (As++R) m:=by
 constructor
 ·rintro⟨a,b,d,rfl,h1,h2⟩;exact star_append.2 ⟨a,b,d,rfl,h1,h2⟩
 ·intro h;obtain⟨a,b,d,rfl,h1,h2⟩:=star_append.1 h;exact⟨a,b,d,rfl,h1,h2⟩
theorem ent_of{As Bs:List Asr}(h:∀m,star As m→star Bs m):Ent As Bs:=⟨fun m hm=>⟨m,Mem.le_refl _,h m hm⟩⟩
theorem ent_h{A B:Asr}{r:List Asr}(h:∀m,A m→B m):Ent (A::r) (B::r):=ent_of fun m hm=>star_cons_mono hm h (fun _ h=>h)
theorem Ent.cons{A:Asr}{r s:List Asr}(h:Ent r s):Ent (A::r) (A::s):=⟨fun m ⟨a,b,d,e,hA,hr⟩=>by
 subst e
 obtain⟨b',l,s'⟩:=h.out b hr
 have d':Disj a b':=fun x=>by
  rcases d x with h|h
  ·exact .inl h
  ·exact .inr (le_none l h)
 refine⟨a.un b',?_,a,b',d',rfl,hA,s'⟩
 intro x k hk
 cases ha:a x with
 |some k'=>rw[un_l ha]at hk;cases hk;exact un_l ha
 |none=>rw[un_n ha]at hk;exact un_r d (l x k hk)⟩
def CS.d(y:CS):D:=⟨y.sa,y.cap⟩
def prA(ys:List CS):Asr:=star (ys.map fun y=>slA 6 pv y.d y.c.pairs)
def clA(cd:D)(ys:List CS):Asr:=star [slA 8 csv cd ys,prA ys]
theorem cl_open{cd:D}{ys:List CS}{R:List Asr}:Ent (clA cd ys::R) (slA 8 csv cd ys::prA ys::R):=ent_of fun m h=>star_in.1 h
theorem cl_close{cd:D}{ys:List CS}{R:List Asr}:Ent (slA 8 csv cd ys::prA ys::R) (clA cd ys::R):=ent_of fun m h=>star_in.2 h
theorem erase_perm{α:Type}:∀{l:List α} {i:Nat} (h:i<l.length),(l[i]::l.eraseIdx i).Perm l
 |a::l,0,_=>.refl _
 |a::l,i+1,h=>by
  simp only[List.getElem_cons_succ,List.eraseIdx_cons_succ]
  exact(List.Perm.swap _ _ _).trans (.cons a (erase_perm (by simpa using h)))
theorem pr_out{ys:List CS}{i:Nat}{y:CS}(hi:ys[i]?=some y){m:Mem}(h:prA ys m):star [slA 6 pv y.d y.c.pairs,prA (ys.eraseIdx i)] m:=by
 obtain⟨hlt,e⟩:=List.getElem?_eq_some_iff.1 hi
 have hp:=(erase_perm hlt).symm.map (fun y:CS=>slA 6 pv y.d y.c.pairs)
 have:=star_perm hp h
 rw[e]at this
 obtain⟨a,b,d,e1,h1,h2⟩:=this
 exact⟨a,b,d,e1,h1,b,emp,disj_emp _,(un_emp _).symm,h2,rfl⟩
theorem pr_in{ys:List CS}{i:Nat}{y':CS}(hi:i<ys.length){m:Mem}(h:star [slA 6 pv y'.d y'.c.pairs,prA (ys.eraseIdx i)] m):prA (ys.set i y') m:=by
 have hlt:i<(ys.set i y').length:=by simpa using hi
 have hp:=(erase_perm hlt).map (fun y:CS=>slA 6 pv y.d y.c.pairs)
 rw[List.getElem_set_self,List.eraseIdx_set_eq]at hp
 refine star_perm hp ?_
 obtain⟨a,b,d,e1,h1,b',e',d2,e2,h2,h3⟩:=h
 have h3:e'=emp:=h3
 subst h3
 rw[un_emp]at e2;subst e2
 exact⟨a,b,d,e1,h1,h2⟩
theorem pr_set{ys:List CS}{i:Nat}{y y':CS}(hi:ys[i]?=some y)(h1:y'.d=y.d)(h2:y'.c.pairs=y.c.pairs):prA (ys.set i y')=prA ys:=by
 unfold prA
 congr 1
 rw[List.map_set]
 apply List.ext_getElem?
 intro j
 rw[List.getElem?_set]
 split
 ·rename_i e;subst e
  split
  ·rw[List.getElem?_map,hi,h1,h2];rfl
  ·rename_i hlt
   have:=(List.getElem?_eq_some_iff.1 hi).1
   simp at hlt;omega
 ·rfl
theorem slA_congr{α:Type}{f:α→List Value}{size:Nat}{d:D}{xs ys:List α}(h1:xs.flatMap f=ys.flatMap f)(h2:xs.length=ys.length):slA size f d xs=slA size f d ys:=by
 have hz:(xs=[]↔ys=[]):=by rw[←List.length_eq_zero_iff,←List.length_eq_zero_iff,h2]
 funext m
 unfold slA Sl
 rw[h1,h2]
 simp only[hz]
theorem flat_set{α:Type}{f:α→List Value}{xs:List α}{i:Nat}{x x':α}(hi:xs[i]?=some x)(h:f x'=f x):(xs.set i x').flatMap f=xs.flatMap f:=by
 induction xs generalizing i with
 |nil=>simp at hi
 |cons a r ih=>
  cases i with
  |zero=>simp only[List.getElem?_cons_zero,Option.some.injEq]at hi;subst hi;simp[h]
  |succ i=>simp only[List.getElem?_cons_succ]at hi;simp[ih hi]
theorem csv_len(y:CS):(csv y).length=8:=rfl
theorem pv_len(p:Pair):(pv p).length=6:=rfl
theorem wv_len(w:Word):(wv w).length=3:=rfl
theorem iv_len(n:Int):(iv n).length=1:=rfl
theorem bv_len(n:Bool):(bv n).length=1:=rfl
section
variable {cd:D} {ys:List CS} {i:Nat} {y:CS}
theorem clA_l{m:Mem}(h:clA cd ys m):∃a,a.le m∧slA 8 csv cd ys a:=by
 obtain⟨a,b,d,e,h1,_⟩:=h
 exact⟨a,by rw[e];exact le_l _ _,h1⟩
theorem clA_p{m:Mem}(h:clA cd ys m)(hi:ys[i]?=some y):∃a,a.le m∧slA 6 pv y.d y.c.pairs a:=by
 obtain⟨a,b,d,e,_,b',e',d2,e2,h2,h3⟩:=h
 have h3:e'=emp:=h3
 subst h3
 rw[un_emp]at e2;subst e2
 obtain⟨a',c,d3,e3,h4,_⟩:=pr_out hi h2
 exact⟨a',by rw[e,e3];exact Mem.le_trans (le_l _ _) (le_r (by rw[e3]at d;exact d)),h4⟩
def csw(y:CS):List Value:=[.int .i64 y.c.state,.int .i64 y.c.kind,.int .i64 y.c.weak,.int .i64 y.c.last,.int .i64 y.c.born,.int .i64 y.c.color,.int .i64 y.c.to,.slice y.d.a y.c.pairs.length y.d.cap]
theorem rs_cl(hi:ys[i]?=some y):RsA (clA cd ys) cd.b (cd.o+i*8) 8 (csw y):=⟨fun m h=>by
 obtain⟨a,l,h1⟩:=clA_l h;exact cells_le l ((rs_sl csv_len hi).out a h1)⟩
theorem rd_cl{j:Nat}{v:Value}(hi:ys[i]?=some y)(hj:(csw y)[j]?=some v):RdA (clA cd ys) cd.b (cd.o+i*8+j) v:=⟨fun m h=>cells_cell ((rs_cl hi).out m h) hj⟩
theorem kn_cl(hi:ys[i]?=some y):KnA (clA cd ys) (cd.a=some ⟨cd.b,cd.o,none⟩):=⟨fun m h=>by
 obtain⟨a,l,h1⟩:=clA_l h;exact D.som h1 hi⟩
theorem kp_cl:KnA (clA cd ys) (cd.a=none∨cd.a=some ⟨cd.b,cd.o,none⟩):=⟨fun m h=>by
 obtain⟨a,l,h1⟩:=clA_l h;exact D.plain h1⟩
theorem kb_cl:KnA (clA cd ys) (ys.length≤140737488355328):=⟨fun m h=>by
 obtain⟨a,l,h1⟩:=clA_l h;exact h1.1.bound⟩
theorem kc_cl:KnA (clA cd ys) (ys.length≤cd.cap):=⟨fun m h=>by
 obtain⟨a,l,h1⟩:=clA_l h;exact cp_sl.out a h1⟩
theorem rs_cp{k:Nat}{p:Pair}(hi:ys[i]?=some y)(hk:y.c.pairs[k]?=some p):RsA (clA cd ys) y.d.b (y.d.o+k*6) 6 (pv p):=⟨fun m h=>by
 obtain⟨a,l,h1⟩:=clA_p h hi;exact cells_le l ((rs_sl pv_len hk).out a h1)⟩
theorem rs_cpp{k j n:Nat}{p:Pair}{ws:List Value}(hi:ys[i]?=some y)(hk:y.c.pairs[k]?=some p)(hj:j+n≤6)(hw:((pv p).drop j).take n=ws):RsA (clA cd ys) y.d.b (y.d.o+k*6+j) n ws:=⟨fun m h=>by
 obtain⟨a,l,h1⟩:=clA_p h hi;exact cells_le l ((rs_slp pv_len hk hj hw).out a h1)⟩
theorem rd_cp{k j:Nat}{p:Pair}{v:Value}(hi:ys[i]?=some y)(hk:y.c.pairs[k]?=some p)(hj:(pv p)[j]?=some v):RdA (clA cd ys) y.d.b (y.d.o+k*6+j) v:=⟨fun m h=>cells_cell ((rs_cp hi hk).out m h) hj⟩
theorem kn_cp{k:Nat}{p:Pair}(hi:ys[i]?=some y)(hk:y.c.pairs[k]?=some p):KnA (clA cd ys) (y.d.a=some ⟨y.d.b,y.d.o,none⟩):=⟨fun m h=>by
 obtain⟨a,l,h1⟩:=clA_p h hi;exact D.som h1 hk⟩
theorem kp_cp(hi:ys[i]?=some y):KnA (clA cd ys) (y.d.a=none∨y.d.a=some ⟨y.d.b,y.d.o,none⟩):=⟨fun m h=>by
 obtain⟨a,l,h1⟩:=clA_p h hi;exact D.plain h1⟩
theorem kb_cp(hi:ys[i]?=some y):KnA (clA cd ys) (y.c.pairs.length≤140737488355328):=⟨fun m h=>by
 obtain⟨a,l,h1⟩:=clA_p h hi;exact h1.1.bound⟩
theorem kc_cp(hi:ys[i]?=some y):KnA (clA cd ys) (y.c.pairs.length≤y.d.cap):=⟨fun m h=>by
 obtain⟨a,l,h1⟩:=clA_p h hi;exact cp_sl.out a h1⟩
theorem star2{A B:Asr}{m:Mem}:star [A,B] m↔∃a b,Disj a b∧m=a.un b∧A a∧B b:=by
 constructor
 ·rintro⟨a,b,d,e,h1,b',e',d2,e2,h2,h3⟩
  have h3:e'=emp:=h3
  subst h3
  rw[un_emp]at e2;subst e2
  exact⟨a,b,d,e,h1,h2⟩
 ·rintro⟨a,b,d,e,h1,h2⟩
  exact⟨a,b,d,e,h1,b,emp,disj_emp _,(un_emp _).symm,h2,rfl⟩
theorem up_cl{j:Nat}{y':CS}{vs:List Value}(hi:ys[i]?=some y)(hj:j+vs.length≤8)(hf:csv y'=wr (csv y) j vs)(hd:y'.d=y.d)(hp:y'.c.pairs=y.c.pairs):UpA (clA cd ys) cd.b (cd.o+i*8+j) vs (clA cd (ys.set i y')):=⟨fun m h=>by
 obtain⟨a,b,d,rfl,h1,h2⟩:=star2.1 h
 obtain⟨row,g1,g2,g3⟩:=(up_sl csv_len hi hj hf).out a h1
 have hb:b cd.b=none:=by
  rcases d cd.b with e|e
  ·rw[g1]at e;cases e
  ·exact e
 refine⟨row,un_l g1,g2,?_⟩
 rw[un_upd_l]
 exact star2.2 ⟨_,b,d.upd _ hb,rfl,g3,by rw[pr_set hi hd hp];exact h2⟩⟩
theorem up_c0{y':CS}(hi:ys[i]?=some y)(hd:y'.d=⟨none,0⟩)(hp:y'.c.pairs=[]):∀m,clA cd ys m→∃row,m cd.b=some (.row row)∧cd.o+i*8+(csv y').length≤row.length∧∃m',m'.le (m.upd cd.b (.row (wr row (cd.o+i*8) (csv y'))))∧clA cd (ys.set i y') m':=fun m h=>by
 obtain⟨a,b,d,rfl,h1,h2⟩:=star2.1 h
 obtain⟨row,g1,g2,g3⟩:=(up_sl (j:=0) (vs:=csv y') (e':=y') csv_len hi (by rw[csv_len];exact Nat.le_refl _) (by rw[wr_all _ _ (by rw[csv_len,csv_len])])).out a h1
 have hb:b cd.b=none:=by
  rcases d cd.b with e|e
  ·rw[g1]at e;cases e
  ·exact e
 have hlt:=(List.getElem?_eq_some_iff.1 hi).1
 obtain⟨b1,b2,d2,rfl,k1,k2⟩:=star2.1 (pr_out hi h2)
 rw[Nat.add_zero]at g2 g3
 refine⟨row,un_l g1,g2,(a.upd cd.b (.row (wr row (cd.o+i*8) (csv y')))).un b2,?_,star2.2 ⟨_,b2,?_,rfl,g3,?_⟩⟩
 ·rw[un_upd_l]
  intro x k hk
  cases hx:(a.upd cd.b (.row (wr row (cd.o+i*8) (csv y')))) x with
  |some k'=>rw[un_l hx]at hk;cases hk;exact un_l hx
  |none=>
   rw[un_n hx]at hk
   rw[un_n hx];exact un_r d2 hk
 ·exact(disj_un.1 d).2.upd _ (un_none.1 hb).2
 ·refine pr_in hlt (star2.2 ⟨emp,b2,fun _=>.inl rfl,rfl,?_,k2⟩)
  rw[hp,hd]
  exact⟨.inl ⟨0,rfl,rfl,rfl⟩,fun _ _=>rfl⟩
theorem up_cp{k j:Nat}{p p':Pair}{vs:List Value}(hi:ys[i]?=some y)(hk:y.c.pairs[k]?=some p)(hj:j+vs.length≤6)(hf:pv p'=wr (pv p) j vs):
 UpA (clA cd ys) y.d.b (y.d.o+k*6+j) vs (clA cd (ys.set i {y with c:={y.c with pairs:=y.c.pairs.set k p'}})):=⟨fun m h=>by
 have hlt:=(List.getElem?_eq_some_iff.1 hi).1
 obtain⟨a,b,d,rfl,h1,h2⟩:=star2.1 h
 obtain⟨b1,b2,d2,rfl,k1,k2⟩:=star2.1 (pr_out hi h2)
 obtain⟨row,g1,g2,g3⟩:=(up_sl pv_len hk hj hf).out b1 k1
 have hb2:b2 y.d.b=none:=by
  rcases d2 y.d.b with e|e
  ·rw[g1]at e;cases e
  ·exact e
 have ha:a y.d.b=none:=by
  rcases d y.d.b with e|e
  ·exact e
  ·rw[un_l g1]at e;cases e
 refine⟨row,un_r d (un_l g1),g2,?_⟩
 rw[un_upd_r _ ha,un_upd_l]
 refine star2.2 ⟨a,_,?_,rfl,?_,pr_in hlt (star2.2 ⟨_,b2,d2.upd _ hb2,rfl,g3,k2⟩)⟩
 ·rw[←un_upd_l]
  exact((Disj.symm d).upd _ ha).symm
 ·rw[slA_congr (ys:=ys) (flat_set hi (by unfold csv cv;simp)) (by simp)];exact h1⟩
end
structure HX where
 room:Int
 used:Int
 born:Int
 regs:List Word
 xs:List CS
 phase:Int
 hand:Int
 sub:Int
 gray:List Int
 per:Int
 start:Int
 rounds:Int
 forced:Int
 rd:D
 cd:D
 gd:D
def HX.H(x:HX):Heap:=⟨x.room,x.used,x.born,x.regs,x.xs.map (·.c),x.phase,x.hand,x.sub,x.gray,x.per,x.start,x.rounds,x.forced⟩
structure Hdr where
 room:Int
 used:Int
 born:Int
 rd:D
 nr:Nat
 cd:D
 nc:Nat
 phase:Int
 hand:Int
 sub:Int
 gd:D
 ng:Nat
 per:Int
 start:Int
 rounds:Int
 forced:Int
def Hdr.row(h:Hdr):List Value:=[.int .i64 h.room,.int .i64 h.used,.int .i64 h.born,.slice h.rd.a h.nr h.rd.cap,.slice h.cd.a h.nc h.cd.cap,.int .i64 h.phase,.int .i64 h.hand,.int .i64 h.sub,.slice h.gd.a h.ng h.gd.cap,.int .i64 h.per,.int .i64 h.start,.int .i64 h.rounds,.int .i64 h.forced]
def hdA(a:Nat)(h:Hdr):Asr:=bx a h.row
def HX.hdr(x:HX):Hdr:=⟨x.room,x.used,x.born,x.rd,x.regs.length,x.cd,x.xs.length,x.phase,x.hand,x.sub,x.gd,x.gray.length,x.per,x.start,x.rounds,x.forced⟩
abbrev HX.row(x:HX):List Value:=x.hdr.row
abbrev HX.v(x:HX):Value:=.agg x.row.toArray
abbrev HX.body(x:HX):List Asr:=[slA 3 wv x.rd x.regs,clA x.cd x.xs,slA 1 iv x.gd x.gray]
abbrev hp(a:Nat)(x:HX):List Asr:=[hdA a x.hdr,slA 3 wv x.rd x.regs,clA x.cd x.xs,slA 1 iv x.gd x.gray]
def HX.hs(x:HX):HS:=⟨x.H,.slice x.rd.a x.regs.length x.rd.cap,.slice x.cd.a x.xs.length x.cd.cap,.slice x.gd.a x.gray.length x.gd.cap,x.xs⟩
theorem HX.len(x:HX):x.H.cells.length=x.xs.length:=by simp[HX.H]
theorem body_r{x:HX}{m:Mem}(h:star x.body m):RHV m x.hs:=by
 obtain⟨a,r,d,rfl,h1,b,r2,d2,rfl,h2,c,r3,d3,rfl,h3,_⟩:=h
 have l1:=le_l a (b.un (c.un r3))
 have l2:b.le (a.un (b.un (c.un r3))):=Mem.le_trans (le_l _ _) (le_r d)
 have l3:c.le (a.un (b.un (c.un r3))):=Mem.le_trans (le_l _ _) (Mem.le_trans (le_r d2) (le_r d))
 refine⟨h1.1.le l1,⟨?_,fun y hy=>?_⟩,rfl,h3.1.le l3⟩
 ·obtain⟨b',l,k⟩:=clA_l h2;exact(k.1.le l).le l2
 ·obtain⟨i,hi⟩:=List.getElem?_of_mem hy
  obtain⟨b',l,k⟩:=clA_p h2 hi;exact(k.1.le l).le l2
noncomputable def e16:Env:=⟨Tryd.prog,[2],10,[]⟩
noncomputable def c16:C:=
 .seq (.reg [⟨some 2,none,.alloc true [.int .i64 0,.int .i64 0,.int .i64 0,.slice none 0 0,.slice none 0 0,.int .i64 0,.int .i64 0,.int .i64 0,.slice none 0 0,.int .i64 0,.int .i64 0,.int .i64 0,.int .i64 0]⟩]) (.seq (.seq (.reg [z0 3 0,q9 4 26 3 1 4000,zU 5 4]) (.cond (.tmp 5) (.seq (.reg [⟨some 6,none,.build [.int .i64 0,.int .i64 0,.int .i64 0,.slice none 0 0,.slice none 0 0,.int .i64 0,.int
 .i64 0,.int .i64 0,.slice none 0 0,.int .i64 0,.int .i64 0,.int .i64 0,.int .i64 0] []⟩,z6 13 2 6]) .ret) .skip)) (.seq (.reg [z0 7 0,⟨some 8,none,.mkslice 3 24 [.int .i64 0,.int .i64 0,.int .i64 0] (.const (.int .i64 16)) (.const (.int .i64 16))⟩,⟨some 9,none,.build [.int .i64 0,.int .i64 0,.int .i64 0,.slice none 0 0,.slice none 0 0,.int .i64 0,.int .i64 0,.int .i64 0,.slice none 0 0,.int .i64
 0,.int .i64 0,.int .i64 0,.int .i64 0] [(0,1,.tmp 7),(3,1,.tmp 8)]⟩,z6 13 2 9]) .ret))
theorem t16:Tryd.f16.body.bind (trC e16)=some c16:=by kernel_rfl
theorem r16:Tryd.f16.results.toList.mapM (trR Tryd.prog)=some [.cell 2 false 13]:=by kernel_rfl
theorem fn16{args:List Value}{M:Mem}{post:Value→Mem→Prop}(hl:args.length≤10)(h:VC e16 c16 (fnQ [.cell 2 false 13] post) (initS args 10) M):Fn Tryd.prog 16 args M post:=
 Fn.of' (E:=e16) Tryd.func16 t16 rfl r16 mixed hl h
end Go.Proofs.YtpleoapljeffiaaDoor.E
namespace Go.Proofs.YtpleoapljeffiaaDoor.E
open Go
open Classical
theorem impl.withinQ{M:Mem}{a lo hi:Int}:Qt Tryd.prog 26 [.int .i64 a,.int .i64 lo,.int .i64 hi] M (.bool (decide (lo≤a∧a≤hi))):=by
 refine fn26 (by simp) ?_
 repeat' (first
  |(refine vl_pure rfl ?_)
  |(refine vl_gy rfl rfl ?_)
  |(refine vl_gn rfl rfl ?_)
  |(refine vl_nil ?_)
  |(refine VC.seq ?_)
  |(refine VC.regV ?_)
  |(refine VC.ret ?_)
  |(refine vl_gs rfl (fun hb=>?_) (fun hb=>?_)))
 all_goals (refine fnQ_r rfl (Mem.le_refl _) (q_end ?_))
 all_goals (simp_all<;>omega)
def ptr(a:Nat):Value:=.pointer (some ⟨a,0,none⟩)
structure PH (M:Mem) (a:Nat) (x:HS):Prop where
 blk:M a=some (.row (hv x.H x.rs x.cs x.gs))
 v:RHV M x
theorem PH.le{M M':Mem}{a:Nat}{x:HS}(h:PH M a x)(l:M.le M'):PH M' a x:=⟨l _ _ h.blk,h.v.le l⟩
theorem PH.at{M:Mem}{a:Nat}{x:HS}(h:PH M a x)(j:Nat):cell M a j=(hv x.H x.rs x.cs x.gs)[j]?:=row_cell h.blk j
theorem RHV.len{M:Mem}{x:HS}(h:RHV M x):x.xs.length=x.H.cells.length:=by rw[←h.eq];simp
theorem RHV.cellAt{M:Mem}{x:HS}(h:RHV M x){i:Int}(h0:0≤i)(h1:i<x.H.cells.length):
 ∃b o cap y,x.cs=.slice (some ⟨b,o,none⟩) x.H.cells.length cap∧cells M b (o+i.toNat*8) 8=some (csv y)∧y.c=x.H.getC i∧x.xs[i.toNat]?=some y∧Sl M 6 pv y.s y.c.pairs:=by
 have hl:=h.len
 have hi:i.toNat<x.xs.length:=by omega
 obtain⟨y,hy⟩:∃y,x.xs[i.toNat]?=some y:=⟨_,List.getElem?_eq_getElem hi⟩
 obtain⟨b,o,cap,e,hc⟩:=h.cl.sl.at (f:=csv) (fun _=>rfl) h0 (by omega) hy
 refine⟨b,o,cap,y,by rw[e,hl],hc,?_,hy,h.cl.ps y (List.mem_of_getElem? hy)⟩
 unfold Heap.getC
 rw[←h.eq,List.getD_eq_getElem?_getD,List.getElem?_map,hy];rfl
theorem bool_dec{b:Bool}{p:Prop}(h:b=true↔p):Value.bool b=.bool (decide p):=by
 congr 1
 rw[Bool.eq_iff_iff,h];simp
theorem bare_q{M:Mem}{y:CS}:Qt Tryd.prog 28 [ca y] M (.bool (decide (Bare y.c))):=by
 refine fn28 (by simp) ?_
 repeat' (first
  |(refine vl_pure rfl ?_)
  |(refine vl_gy rfl rfl ?_)
  |(refine vl_gn rfl rfl ?_)
  |(refine vl_nil ?_)
  |(refine VC.seq ?_)
  |(refine VC.regV ?_)
  |(refine vl_box rfl rfl ?_)
  |(refine VC.ret ?_)
  |(refine vl_gs rfl (fun hb=>?_) (fun hb=>?_)))
 all_goals (refine fnQ_r rfl (Mem.le_refl _) (q_end (bool_dec ?_)))
 all_goals (obtain⟨⟨_,_,_,_,_,_,_,ps⟩,_,_⟩:=y;simp_all [Bare])
theorem root_q{M:Mem}{y:CS}:Qt Tryd.prog 33 [ca y] M (.bool (decide (Root y.c))):=by
 refine fn33 (by simp) ?_
 repeat' (first
  |(refine vl_pure rfl ?_)
  |(refine vl_gy rfl rfl ?_)
  |(refine vl_gn rfl rfl ?_)
  |(refine vl_gu rfl ?_)
  |(refine vl_nil ?_)
  |(refine VC.seq ?_)
  |(refine VC.regV ?_)
  |(refine vl_box rfl rfl ?_)
  |(refine VC.ret ?_)
  |(refine vl_gs rfl (fun hb=>?_) (fun hb=>?_)))
 all_goals (refine fnQ_r rfl (Mem.le_refl _) (q_end (bool_dec ?_)))
 all_goals (obtain⟨⟨_,_,_,_,_,_,_,ps⟩,_,_⟩:=y;simp_all [Root])
theorem units_q{M:Mem}{y:CS}(hb:y.c.pairs.length≤4611686018427387904):Qt Tryd.prog 29 [ca y] M (.int .i64 y.c.units):=by
 refine fn29 (by simp) ?_
 repeat' (first
  |(refine vl_add rfl rfl (by omega) ?_)
  |(refine vl_pure rfl ?_)
  |(refine vl_nil ?_)
  |(refine VC.seq ?_)
  |(refine VC.regV ?_)
  |(refine vl_box rfl rfl ?_)
  |(refine VC.ret ?_)
  |(refine VC.skip ?_)
  |(refine seqQ_n ?_)
  |(refine seqQ_r ?_)
  |(refine VC.cond _ rfl (fun hb=>?_) (fun hb=>?_)))
 all_goals (refine fnQ_r rfl (Mem.le_refl _) (q_end ?_))
 all_goals (simp_all [Cell.units])
theorem marking_q{M:Mem}{a:Nat}{x:HS}(h:PH M a x):Qt Tryd.prog 35 [ptr a] M (.bool (decide (Marking x.H))):=by
 have f5:cell M a 5=_:=h.at 5
 refine fn35 (by simp) ?_
 repeat' (first
  |(refine vl_pure rfl ?_)
  |(refine vl_gy rfl rfl ?_)
  |(refine vl_gn rfl rfl ?_)
  |(refine vl_ld rfl (by first|exact f5) ?_)
  |(refine vl_nil ?_)
  |(refine VC.seq ?_)
  |(refine VC.regV ?_)
  |(refine VC.ret ?_)
  |(refine vl_gs rfl (fun hb=>?_) (fun hb=>?_)))
 all_goals (refine fnQ_r rfl (Mem.le_refl _) (q_end (bool_dec ?_)))
 all_goals simp_all [Marking]
theorem doomed_q{M:Mem}{a:Nat}{x:HS}{i:Int}(h:PH M a x)(h0:0≤i)(h1:i<x.H.cells.length):Qt Tryd.prog 32 [ptr a,.int .i64 i] M (.bool (decide (Doomed x.H i))):=by
 obtain⟨b,o,cap,y,e,hc,hy,_⟩:=h.v.cellAt h0 h1
 have f4:cell M a 4=_:=(h.at 4).trans (congrArg some e)
 have f5:cell M a 5=_:=h.at 5
 have f6:cell M a 6=_:=h.at 6
 refine fn32 (by simp) ?_
 repeat' (first
  |(refine vl_pure rfl ?_)
  |(refine vl_gy rfl rfl ?_)
  |(refine vl_gn rfl rfl ?_)
  |(refine vl_ld rfl (by first|exact f4|exact f5|exact f6|exact hc) ?_)
  |(refine vl_nil ?_)
  |(refine VC.seq ?_)
  |(refine VC.regV ?_)
  |(refine vl_idx rfl rfl (by omega) ?_)
  |(refine vl_lds rfl (by first|exact f4|exact f5|exact f6|exact hc) ?_)
  |(refine vl_alloc ?_)
  |(refine vl_stw rfl rfl rfl rfl (by first|rfl|assumption) (Nat.le_of_ble_eq_true rfl) ?_)
  |(refine sk_zero ?_)
  |(refine sk_succ ?_)
  |(refine wk_nil ?_)
  |(refine wk_cons ?_)
  |(refine VC.ret ?_)
  |(refine vl_gs rfl (fun hb=>?_) (fun hb=>?_)))
 all_goals (refine fnQ_r rfl (Mem.le_refl _) (q_end (bool_dec ?_)))
 all_goals simp_all [Doomed]
theorem mended_q{M:Mem}{a:Nat}{x:HS}{i k:Int}(h:PH M a x):Qt Tryd.prog 34 [ptr a,.int .i64 i,.int .i64 k] M (.bool (decide (Mended x.H i k))):=by
 have f5:cell M a 5=_:=h.at 5
 have f6:cell M a 6=_:=h.at 6
 have f7:cell M a 7=_:=h.at 7
 refine fn34 (by simp) ?_
 repeat' (first
  |(refine vl_pure rfl ?_)
  |(refine vl_gy rfl rfl ?_)
  |(refine vl_gn rfl rfl ?_)
  |(refine vl_gu rfl ?_)
  |(refine vl_ld rfl (by first|exact f5|exact f6|exact f7) ?_)
  |(refine vl_nil ?_)
  |(refine VC.seq ?_)
  |(refine VC.regV ?_)
  |(refine VC.block ?_)
  |(refine VC.ret ?_)
  |(refine VC.skip ?_)
  |(refine seqQ_n ?_)
  |(refine seqQ_r ?_)
  |(refine blkQ_r ?_)
  |(refine vl_gs rfl (fun hb=>?_) (fun hb=>?_))
  |(refine VC.cond _ rfl (fun hb=>?_) (fun hb=>?_)))
 all_goals (refine fnQ_r rfl (Mem.le_refl _) (q_end (bool_dec ?_)))
 all_goals (simp_all [Mended]<;>omega)
theorem formed_q{M:Mem}{a:Nat}{x:HS}{w:Word}(h:PH M a x):Qt Tryd.prog 30 [ptr a,wa w] M (.bool (decide (Formed x.H w))):=by
 obtain⟨sc,cc,e⟩:=h.v.cl.sl.len
 rw[h.v.len]at e
 have hbd:=h.v.cl.sl.bound
 rw[h.v.len]at hbd
 have f4:cell M a 4=_:=(h.at 4).trans (congrArg some e)
 refine fn30 (by simp) ?_
 repeat' (first
  |(refine vl_sub rfl rfl (by omega) ?_)
  |(refine vl_pure rfl ?_)
  |(refine vl_gy rfl rfl ?_)
  |(refine vl_gn rfl rfl ?_)
  |(refine vl_ld rfl (by first|exact f4) ?_)
  |(refine vl_nil ?_)
  |(refine VC.seq ?_)
  |(refine VC.regV ?_)
  |(refine vl_box rfl rfl ?_)
  |(refine vl_q rfl (impl.withinQ) ?_)
  |(refine VC.dregV ?_)
  |(refine VC.block ?_)
  |(refine VC.ret ?_)
  |(refine VC.skip ?_)
  |(refine seqQ_n ?_)
  |(refine seqQ_r ?_)
  |(refine blkQ_r ?_)
  |(refine vl_gs rfl (fun hb=>?_) (fun hb=>?_))
  |(refine VC.cond _ rfl (fun hb=>?_) (fun hb=>?_)))
 all_goals (refine fnQ_r rfl (Mem.le_refl _) (q_end (bool_dec ?_)))
 all_goals (simp_all [Formed]<;>omega)
theorem Formed.at{H:Heap}{w:Word}(h:Formed H w)(hk:w.kind=2):0≤w.at_∧w.at_<H.cells.length:=by
 rcases h with h|h|h
 ·omega
 ·omega
 ·exact⟨h.2.2.1,h.2.2.2⟩
theorem white_q{M:Mem}{a:Nat}{x:HS}{w:Word}(h:PH M a x)(hf:Formed x.H w):Qt Tryd.prog 36 [ptr a,wa w] M (.bool (decide (White x.H w))):=by
 refine fn36 (by simp) ?_
 by_cases hk:w.kind=2
 ·obtain⟨b,o,cap,y,e,hc,hy,_⟩:=h.v.cellAt (hf.at hk).1 (hf.at hk).2
  have f4:cell M a 4=_:=(h.at 4).trans (congrArg some e)
  have hat:=hf.at hk
  repeat' (first
   |(refine vl_pure rfl ?_)
   |(refine vl_gy rfl rfl ?_)
   |(refine vl_gn rfl rfl ?_)
   |(refine vl_ld rfl (by first|exact f4|exact hc|exact cells_cell hc (j:=5) rfl) ?_)
   |(refine vl_nil ?_)
   |(refine VC.seq ?_)
   |(refine VC.regV ?_)
   |(refine vl_idx rfl rfl (by omega) ?_)
   |(refine vl_box rfl rfl ?_)
   |(refine VC.dregV ?_)
   |(refine VC.ret ?_)
   |(refine vl_gs rfl (fun hb=>?_) (fun hb=>?_)))
  all_goals (refine fnQ_r rfl (Mem.le_refl _) (q_end (bool_dec ?_)))
  all_goals simp_all [White]
 ·repeat' (first
   |(refine vl_pure rfl ?_)
   |(refine vl_gy rfl rfl ?_)
   |(refine vl_gn rfl rfl ?_)
   |(refine vl_nil ?_)
   |(refine VC.seq ?_)
   |(refine VC.regV ?_)
   |(refine vl_box rfl rfl ?_)
   |(exact absurd (by simpa using hb) hk)
   |(refine VC.dregV ?_)
   |(refine VC.ret ?_)
   |(refine vl_gs rfl (fun hb=>?_) (fun hb=>?_)))
  all_goals (refine fnQ_r rfl (Mem.le_refl _) (q_end (bool_dec ?_)))
  all_goals simp_all [White]
theorem leadsWell_q{M:Mem}{a:Nat}{x:HS}{w:Word}{m:Bool}(h:PH M a x)(hf:Formed x.H w):Qt Tryd.prog 31 [ptr a,wa w,.bool m] M (.bool (decide (LeadsWell x.H w (m=true)))):=by
 refine fn31 (by simp) ?_
 by_cases hk:w.kind=2
 ·obtain⟨b,o,cap,y,e,hc,hy,_⟩:=h.v.cellAt (hf.at hk).1 (hf.at hk).2
  have f4:cell M a 4=_:=(h.at 4).trans (congrArg some e)
  have hat:=hf.at hk
  repeat' (first
   |(refine vl_pure rfl ?_)
   |(refine vl_gy rfl rfl ?_)
   |(refine vl_gn rfl rfl ?_)
   |(refine vl_gu rfl ?_)
   |(refine vl_ld rfl (by first|exact f4|exact hc|exact cells_cell hc (j:=0) rfl) ?_)
   |(refine vl_nil ?_)
   |(refine VC.seq ?_)
   |(refine VC.regV ?_)
   |(refine vl_idx rfl rfl (by omega) ?_)
   |(refine vl_box rfl rfl ?_)
   |(refine vl_cq rfl (doomed_q h hat.1 hat.2) ?_)
   |(refine VC.dregV ?_)
   |(refine VC.ret ?_)
   |(refine VC.skip ?_)
   |(refine seqQ_n ?_)
   |(refine seqQ_r ?_)
   |(refine vl_gs rfl (fun hb=>?_) (fun hb=>?_))
   |(refine VC.cond _ rfl (fun hb=>?_) (fun hb=>?_)))
  all_goals (refine fnQ_r rfl (Mem.le_refl _) (q_end (bool_dec ?_)))
  all_goals (simp_all [LeadsWell])
 ·repeat' (first
   |(refine vl_pure rfl ?_)
   |(refine vl_nil ?_)
   |(refine VC.seq ?_)
   |(refine VC.regV ?_)
   |(refine vl_box rfl rfl ?_)
   |(exact absurd (by simpa using hb) hk)
   |(refine VC.ret ?_)
   |(refine seqQ_n ?_)
   |(refine seqQ_r ?_)
   |(refine VC.cond _ rfl (fun hb=>?_) (fun hb=>?_)))
  all_goals (refine fnQ_r rfl (Mem.le_refl _) (q_end (bool_dec ?_)))
  all_goals (simp_all [LeadsWell])
def Heap.lead(H:Heap)(w:Word):Word:=if w.kind=2∧(H.getC w.at_).state=2 then⟨2,0,(H.getC w.at_).to⟩else w
theorem lead_q{M:Mem}{a:Nat}{x:HS}{w:Word}(h:PH M a x)(hf:w.kind=2→0≤w.at_∧w.at_<x.H.cells.length):Qt Tryd.prog 42 [ptr a,wa w] M (wa (x.H.lead w)):=by
 refine fn42 (by simp) ?_
 unfold Heap.lead
 by_cases hk:w.kind=2
 ·obtain⟨b,o,cap,y,e,hc,hy,_⟩:=h.v.cellAt (hf hk).1 (hf hk).2
  have f4:cell M a 4=_:=(h.at 4).trans (congrArg some e)
  have hat:=hf hk
  repeat' (first
   |(refine vl_pure rfl ?_)
   |(refine vl_gy rfl rfl ?_)
   |(refine vl_gn rfl rfl ?_)
   |(refine vl_ld rfl (by first|exact f4|exact hc|exact cells_cell hc (j:=0) rfl|exact cells_cell hc (j:=6) rfl) ?_)
   |(refine vl_nil ?_)
   |(refine VC.seq ?_)
   |(refine VC.regV ?_)
   |(refine vl_idx rfl rfl (by omega) ?_)
   |(refine vl_alloc ?_)
   |(refine vl_stw rfl rfl rfl rfl (by first|rfl|assumption) (Nat.le_of_ble_eq_true rfl) ?_)
   |(refine sk_zero ?_)
   |(refine sk_succ ?_)
   |(refine wk_nil ?_)
   |(refine wk_cons ?_)
   |(refine vl_box rfl rfl ?_)
   |(refine VC.dregV ?_)
   |(refine VC.ret ?_)
   |(refine VC.skip ?_)
   |(refine seqQ_n ?_)
   |(refine seqQ_r ?_)
   |(refine vl_gs rfl (fun hb=>?_) (fun hb=>?_))
   |(refine VC.cond _ rfl (fun hb=>?_) (fun hb=>?_)))
  all_goals (refine fnQ_r rfl (Mem.le_refl _) (q_end ?_))
  any_goals (exfalso;simp_all;done)
  any_goals (rw[if_pos (by simp_all)];rw[←hy];rfl)
  all_goals (rw[if_neg (by simp_all)];rfl)
 ·repeat' (first
   |(refine vl_pure rfl ?_)
   |(refine vl_gy rfl rfl ?_)
   |(refine vl_gn rfl rfl ?_)
   |(refine vl_nil ?_)
   |(refine VC.seq ?_)
   |(refine VC.regV ?_)
   |(refine vl_alloc ?_)
   |(refine vl_stw rfl rfl rfl rfl (by first|rfl|assumption) (Nat.le_of_ble_eq_true rfl) ?_)
   |(refine sk_zero ?_)
   |(refine sk_succ ?_)
   |(refine wk_nil ?_)
   |(refine wk_cons ?_)
   |(refine vl_box rfl rfl ?_)
   |(exfalso;simp_all;done)
   |(refine VC.dregV ?_)
   |(refine VC.ret ?_)
   |(refine VC.skip ?_)
   |(refine seqQ_n ?_)
   |(refine vl_gs rfl (fun hb=>?_) (fun hb=>?_))
   |(refine VC.cond _ rfl (fun hb=>?_) (fun hb=>?_)))
  all_goals (refine fnQ_r rfl (Mem.le_refl _) (q_end ?_))
  all_goals (rw[if_neg (by simp_all)];rfl)
end Go.Proofs.YtpleoapljeffiaaDoor.E
