/- A part of the proof. Conditions: none. -/
import Derived.Test.YtpleoapljeffiaaDoorKF5
set_option linter.unusedVariables false
set_option linter.unusedSimpArgs false
set_option maxHeartbeats 4000000
namespace Go.Proofs.YtpleoapljeffiaaDoor.E
open Go
theorem rd_hd{a j:Nat}{h:Hdr}{v:Value}(e:h.row[j]?=some v):RdA (hdA a h) a j v:=rd_bx e
theorem rs_hd{a:Nat}{h:Hdr}:RsA (hdA a h) a 0 13 h.row:=rs_bx (by simp[Hdr.row]) rfl
theorem up_hd{a j:Nat}{h h':Hdr}{vs:List Value}(hj:j+vs.length≤13)(e:WrK h.row j vs (fun c=>h'.row=c)):UpA (hdA a h) a j vs (hdA a h'):=
 up_bx (by simpa [Hdr.row]using hj) ⟨by unfold hdA;rw[e.out]⟩
def Hdr.s_room(h:Hdr)(v:Int):Hdr:={h with room:=v}
theorem u_room{a:Nat}{h:Hdr}{v:Int}:UpA (hdA a h) a 0 [.int .i64 v] (hdA a (h.s_room v)):=up_hd (by simp) ⟨rfl⟩
def Hdr.s_used(h:Hdr)(v:Int):Hdr:={h with used:=v}
theorem u_used{a:Nat}{h:Hdr}{v:Int}:UpA (hdA a h) a 1 [.int .i64 v] (hdA a (h.s_used v)):=up_hd (by simp) ⟨rfl⟩
def Hdr.s_born(h:Hdr)(v:Int):Hdr:={h with born:=v}
theorem u_born{a:Nat}{h:Hdr}{v:Int}:UpA (hdA a h) a 2 [.int .i64 v] (hdA a (h.s_born v)):=up_hd (by simp) ⟨rfl⟩
def Hdr.s_phase(h:Hdr)(v:Int):Hdr:={h with phase:=v}
theorem u_phase{a:Nat}{h:Hdr}{v:Int}:UpA (hdA a h) a 5 [.int .i64 v] (hdA a (h.s_phase v)):=up_hd (by simp) ⟨rfl⟩
def Hdr.s_hand(h:Hdr)(v:Int):Hdr:={h with hand:=v}
theorem u_hand{a:Nat}{h:Hdr}{v:Int}:UpA (hdA a h) a 6 [.int .i64 v] (hdA a (h.s_hand v)):=up_hd (by simp) ⟨rfl⟩
def Hdr.s_sub(h:Hdr)(v:Int):Hdr:={h with sub:=v}
theorem u_sub{a:Nat}{h:Hdr}{v:Int}:UpA (hdA a h) a 7 [.int .i64 v] (hdA a (h.s_sub v)):=up_hd (by simp) ⟨rfl⟩
def Hdr.s_per(h:Hdr)(v:Int):Hdr:={h with per:=v}
theorem u_per{a:Nat}{h:Hdr}{v:Int}:UpA (hdA a h) a 9 [.int .i64 v] (hdA a (h.s_per v)):=up_hd (by simp) ⟨rfl⟩
def Hdr.s_start(h:Hdr)(v:Int):Hdr:={h with start:=v}
theorem u_start{a:Nat}{h:Hdr}{v:Int}:UpA (hdA a h) a 10 [.int .i64 v] (hdA a (h.s_start v)):=up_hd (by simp) ⟨rfl⟩
def Hdr.s_rounds(h:Hdr)(v:Int):Hdr:={h with rounds:=v}
theorem u_rounds{a:Nat}{h:Hdr}{v:Int}:UpA (hdA a h) a 11 [.int .i64 v] (hdA a (h.s_rounds v)):=up_hd (by simp) ⟨rfl⟩
def Hdr.s_forced(h:Hdr)(v:Int):Hdr:={h with forced:=v}
theorem u_forced{a:Nat}{h:Hdr}{v:Int}:UpA (hdA a h) a 12 [.int .i64 v] (hdA a (h.s_forced v)):=up_hd (by simp) ⟨rfl⟩
def Hdr.s_rd(h:Hdr)(d:D)(n:Nat):Hdr:={h with rd:=d,nr:=n}
theorem u_rd{a:Nat}{h:Hdr}{d:D}{n:Nat}:UpA (hdA a h) a 3 [.slice d.a n d.cap] (hdA a (h.s_rd d n)):=up_hd (by simp) ⟨rfl⟩
def Hdr.s_cd(h:Hdr)(d:D)(n:Nat):Hdr:={h with cd:=d,nc:=n}
theorem u_cd{a:Nat}{h:Hdr}{d:D}{n:Nat}:UpA (hdA a h) a 4 [.slice d.a n d.cap] (hdA a (h.s_cd d n)):=up_hd (by simp) ⟨rfl⟩
def Hdr.s_gd(h:Hdr)(d:D)(n:Nat):Hdr:={h with gd:=d,ng:=n}
theorem u_gd{a:Nat}{h:Hdr}{d:D}{n:Nat}:UpA (hdA a h) a 8 [.slice d.a n d.cap] (hdA a (h.s_gd d n)):=up_hd (by simp) ⟨rfl⟩
def CS.s_state(y:CS)(v:Int):CS:={y with c:={y.c with state:=v}}
def CS.s_kind(y:CS)(v:Int):CS:={y with c:={y.c with kind:=v}}
def CS.s_weak(y:CS)(v:Int):CS:={y with c:={y.c with weak:=v}}
def CS.s_last(y:CS)(v:Int):CS:={y with c:={y.c with last:=v}}
def CS.s_born(y:CS)(v:Int):CS:={y with c:={y.c with born:=v}}
def CS.s_color(y:CS)(v:Int):CS:={y with c:={y.c with color:=v}}
def CS.s_to(y:CS)(v:Int):CS:={y with c:={y.c with to:=v}}
def CS.s_pair(y:CS)(k:Nat)(p:Pair):CS:={y with c:={y.c with pairs:=y.c.pairs.set k p}}
def Pair.s_key(p:Pair)(w:Word):Pair:={p with key:=w}
def Pair.s_val(p:Pair)(w:Word):Pair:={p with val:=w}
section
variable {cd:D} {ys:List CS} {i:Nat} {y:CS} {v:Int}
theorem u_cstate(hi:ys[i]?=some y):UpA (clA cd ys) cd.b (cd.o+i*8+0) [.int .i64 v] (clA cd (ys.set i (y.s_state v))):=up_cl hi (by simp) rfl rfl rfl
theorem u_ckind(hi:ys[i]?=some y):UpA (clA cd ys) cd.b (cd.o+i*8+1) [.int .i64 v] (clA cd (ys.set i (y.s_kind v))):=up_cl hi (by simp) rfl rfl rfl
theorem u_cweak(hi:ys[i]?=some y):UpA (clA cd ys) cd.b (cd.o+i*8+2) [.int .i64 v] (clA cd (ys.set i (y.s_weak v))):=up_cl hi (by simp) rfl rfl rfl
theorem u_clast(hi:ys[i]?=some y):UpA (clA cd ys) cd.b (cd.o+i*8+3) [.int .i64 v] (clA cd (ys.set i (y.s_last v))):=up_cl hi (by simp) rfl rfl rfl
theorem u_cborn(hi:ys[i]?=some y):UpA (clA cd ys) cd.b (cd.o+i*8+4) [.int .i64 v] (clA cd (ys.set i (y.s_born v))):=up_cl hi (by simp) rfl rfl rfl
theorem u_ccolor(hi:ys[i]?=some y):UpA (clA cd ys) cd.b (cd.o+i*8+5) [.int .i64 v] (clA cd (ys.set i (y.s_color v))):=up_cl hi (by simp) rfl rfl rfl
theorem u_cto(hi:ys[i]?=some y):UpA (clA cd ys) cd.b (cd.o+i*8+6) [.int .i64 v] (clA cd (ys.set i (y.s_to v))):=up_cl hi (by simp) rfl rfl rfl
variable {k:Nat} {p:Pair} {w:Word}
theorem u_key(hi:ys[i]?=some y)(hk:y.c.pairs[k]?=some p):UpA (clA cd ys) y.d.b (y.d.o+k*6+0) (wv w) (clA cd (ys.set i (y.s_pair k (p.s_key w)))):=up_cp hi hk (by simp[wv]) rfl
theorem u_val(hi:ys[i]?=some y)(hk:y.c.pairs[k]?=some p):UpA (clA cd ys) y.d.b (y.d.o+k*6+3) (wv w) (clA cd (ys.set i (y.s_pair k (p.s_val w)))):=up_cp hi hk (by simp[wv]) rfl
theorem r_key(hi:ys[i]?=some y)(hk:y.c.pairs[k]?=some p):RsA (clA cd ys) y.d.b (y.d.o+k*6+0) 3 (wv p.key):=rs_cpp hi hk (by omega) rfl
theorem r_val(hi:ys[i]?=some y)(hk:y.c.pairs[k]?=some p):RsA (clA cd ys) y.d.b (y.d.o+k*6+3) 3 (wv p.val):=rs_cpp hi hk (by omega) rfl
end
section
variable {d:D} {ws:List Word} {i:Nat} {w w':Word} {v:Int}
theorem u_reg(hi:ws[i]?=some w):UpA (slA 3 wv d ws) d.b (d.o+i*3) (wv w') (slA 3 wv d (ws.set i w')):=up_sl (j:=0) wv_len hi (by simp[wv]) rfl
theorem u_regat(hi:ws[i]?=some w):UpA (slA 3 wv d ws) d.b (d.o+i*3+2) [.int .i64 v] (slA 3 wv d (ws.set i {w with at_:=v})):=up_sl wv_len hi (by simp) rfl
theorem r_reg(hi:ws[i]?=some w):RsA (slA 3 wv d ws) d.b (d.o+i*3) 3 (wv w):=rs_sl wv_len hi
variable {is:List Int} {n m:Int}
theorem r_int(hi:is[i]?=some n):RdA (slA 1 iv d is) d.b (d.o+i*1) (.int .i64 n):=rd_sl (j:=0) iv_len hi rfl
theorem u_int(hi:is[i]?=some n):UpA (slA 1 iv d is) d.b (d.o+i*1) [.int .i64 m] (slA 1 iv d (is.set i m)):=up_sl (j:=0) iv_len hi (by simp) rfl
variable {bs:List Bool} {b b':Bool}
theorem r_bool(hi:bs[i]?=some b):RdA (slA 1 bv d bs) d.b (d.o+i*1) (.bool b):=rd_sl (j:=0) bv_len hi rfl
theorem u_bool(hi:bs[i]?=some b):UpA (slA 1 bv d bs) d.b (d.o+i*1) [.bool b'] (slA 1 bv d (bs.set i b')):=up_sl (j:=0) bv_len hi (by simp) rfl
end
@[simp] theorem HX.hs_H(x:HX):x.hs.H=x.H:=rfl
theorem hp_r{a:Nat}{x:HX}{m:Mem}(h:star (hp a x) m):PH m a x.hs:=by
 obtain⟨b,r,d,rfl,h1,h2⟩:=h
 have h1:b=one a (.row x.row):=h1
 subst h1
 exact⟨un_l (one_same _ _),(body_r h2).le (le_r d)⟩
theorem ph_of{a:Nat}{x:HX}{As F:List Asr}{m:Mem}(hm:star As m)(h:Pm As (hp a x) F):PH m a x.hs:=by
 obtain⟨m1,m2,d,rfl,h1,h2⟩:=star_append.1 (h.out m hm)
 exact(hp_r h1).le (le_l _ _)
def Has(m:Mem)(As:List Asr):Prop:=∃a,a.le m∧star As a
theorem Has.le{m M:Mem}{As:List Asr}(h:Has m As)(l:m.le M):Has M As:=by obtain⟨a,l',s⟩:=h;exact⟨a,Mem.le_trans l' l,s⟩
theorem Has.ent{m:Mem}{As Bs:List Asr}(h:Has m As)(e:Ent As Bs):Has m Bs:=by obtain⟨a,l',s⟩:=h;obtain⟨b,l2,s2⟩:=e.out a s;exact⟨b,Mem.le_trans l2 l',s2⟩
def ro(m0:Mem):Asr:=fun m=>m=m0
theorem rd_ro{m0:Mem}{As:List Asr}{b o:Nat}{v:Value}(h:Has m0 As)(r:Rd As b o v):RdA (ro m0) b o v:=⟨fun m hm=>by
 have hm:m=m0:=hm
 subst hm;obtain⟨a,l,s⟩:=h;exact cell_le l (r.out a s)⟩
theorem rs_ro{m0:Mem}{As:List Asr}{b o n:Nat}{v:List Value}(h:Has m0 As)(r:Rs As b o n v):RsA (ro m0) b o n v:=⟨fun m hm=>by
 have hm:m=m0:=hm
 subst hm;obtain⟨a,l,s⟩:=h;exact cells_le l (r.out a s)⟩
theorem kn_ro{m0:Mem}{As:List Asr}{p:Prop}(h:Has m0 As)(r:Kn As p):KnA (ro m0) p:=⟨fun m hm=>by
 obtain⟨a,l,s⟩:=h;exact r.out a s⟩
theorem Has.ph{m:Mem}{a:Nat}{x:HX}(h:Has m (hp a x)):PH m a x.hs:=by obtain⟨b,l,s⟩:=h;exact(hp_r s).le l
theorem Has.b{m:Mem}{x:HX}(h:Has m x.body):RHV m x.hs:=by obtain⟨b,l,s⟩:=h;exact(body_r s).le l
theorem ro_of{As F:List Asr}{m0 m:Mem}(hm:star As m)(h:Pm As [ro m0] F):m0.le m:=by
 obtain⟨a,b,d,rfl,⟨a1,a2,d2,rfl,h1,h2⟩,_⟩:=star_append.1 (h.out m hm)
 have h1:a1=m0:=h1
 subst h1
 exact Mem.le_trans (le_l _ _) (le_l _ _)
theorem Fn.shrink{P:Program}{f:FuncId}{args:List Value}{M:Mem}{post:Value→Mem→Prop}(h:Fn P f args M (fun v M'=>∃m',m'.le M'∧post v m')):Fn P f args M post:=
 ⟨fun w hw=>(h.out w hw).mono fun e w' ⟨v,M',he,⟨m',l,hp⟩,hs,ht⟩=>⟨v,m',he,hp,hs.le l,ht.le l⟩⟩
theorem qt_of{P:Program}{f:FuncId}{args:List Value}{m:Mem}{r:Value}(h:FnA P f args [ro m] (fun v As=>v=r∧As=[ro m])):Qt P f args m r:=by
 refine Fn.shrink ((h.out m ⟨m,emp,disj_emp _,(un_emp _).symm,rfl,rfl⟩).mono ?_)
 rintro v M' ⟨As,m',l,s,rfl,rfl⟩
 obtain⟨a,b,d,rfl,h1,h2⟩:=s
 have h1:a=m:=h1
 subst h1
 exact⟨a,Mem.le_trans (le_l _ _) l,rfl,rfl⟩
theorem has_new{m m0:Mem}{b:Nat}{x:HX}{As F:List Asr}(h:Has m0 x.body)(s:star As m)(hm:Pm As [hdA b x.hdr,ro m0] F):Has m (hp b x):=by
 obtain⟨a,c,d,rfl,⟨a1,a2,d2,rfl,h1,⟨a3,a4,d3,rfl,h3,_⟩⟩,_⟩:=star_append.1 (hm.out m s)
 have h3:a3=m0:=h3
 subst h3
 obtain⟨m',l,s'⟩:=h
 have l':m'.le (a3.un a4):=Mem.le_trans l (le_l _ _)
 have d':Disj a1 m':=fun x=>by
  rcases d2 x with h|h
  ·exact .inl h
  ·exact .inr (le_none l' h)
 refine⟨a1.un m',?_,a1,m',d',rfl,h1,s'⟩
 refine Mem.le_trans ?_ (le_l _ _)
 intro x k hk
 cases ha:a1 x with
 |some k'=>rw[un_l ha]at hk;cases hk;exact un_l ha
 |none=>rw[un_n ha]at hk;exact un_r d2 (l' x k hk)
theorem sep_has{As F Bs:List Asr}{m:Mem}(hm:star As m)(h:Pm As Bs F):Has m Bs:=by
 obtain⟨m1,m2,d,rfl,h1,h2⟩:=star_append.1 (h.out m hm)
 exact⟨m1,le_l _ _,h1⟩
theorem rd_bad{b o:Nat}{v:Value}(h:False):Rd [fun _=>False] b o v:=h.elim
theorem rs_bad{b o n:Nat}{v:List Value}(h:False):Rs [fun _=>False] b o n v:=h.elim
theorem kn_bad{p:Prop}(h:False):Kn [fun _=>False] p:=h.elim
theorem up_bad{b o:Nat}{v:List Value}{R:List Asr}(h:False):Up [fun _=>False] b o v R:=h.elim
theorem pk_bad{A:Asr}{R:List Asr}(h:False):Pk [fun _=>False] A R:=h.elim
theorem pm_bad{R F:List Asr}(h:False):Pm [fun _=>False] R F:=h.elim
theorem pmt{p:Prop}(h:p:=by(fail_if_success apply pm_bad);(repeat(first|exact pm_nil|(apply pm_cons;repeat(first|exact pk_h|apply pk_t))));fail_if_success focus skip):p:=h
section
variable {P:Program} {S:St} {As:List Asr} {post:St→List Asr→Prop} {r:List I} {d:Option Nat}
theorem k_L{i:I}(h:LA P (i::r) post S As):LA P (i::r) post S As:=h
theorem k_V{E:Env}{c:C}{Q:X→St→List Asr→Prop}(h:VA E c Q S As):VA E c Q S As:=h
theorem k_g{g:Nat×Bool}{k:K}(h:LA P (⟨d,some g,k⟩::r) post S As):LA P (⟨d,some g,k⟩::r) post S As:=h
theorem k_ad{x y:Operand}(h:LA P (⟨d,none,.bin .add x y⟩::r) post S As):LA P (⟨d,none,.bin .add x y⟩::r) post S As:=h
theorem k_su{x y:Operand}(h:LA P (⟨d,none,.bin .sub x y⟩::r) post S As):LA P (⟨d,none,.bin .sub x y⟩::r) post S As:=h
theorem k_ml{x y:Operand}(h:LA P (⟨d,none,.bin .mul x y⟩::r) post S As):LA P (⟨d,none,.bin .mul x y⟩::r) post S As:=h
theorem k_i{n:Nat}{x y:Operand}(h:LA P (⟨d,none,.iaddr n x y⟩::r) post S As):LA P (⟨d,none,.iaddr n x y⟩::r) post S As:=h
theorem k_l{n:Nat}{x:Operand}(h:LA P (⟨d,none,.load true n x⟩::r) post S As):LA P (⟨d,none,.load true n x⟩::r) post S As:=h
theorem k_ls{n:Nat}{x:Operand}(h:LA P (⟨d,none,.load false n x⟩::r) post S As):LA P (⟨d,none,.load false n x⟩::r) post S As:=h
theorem k_st{n:Nat}{x y:Operand}(h:LA P (⟨d,none,.store n x y⟩::r) post S As):LA P (⟨d,none,.store n x y⟩::r) post S As:=h
theorem k_al{z:List Value}(h:LA P (⟨d,none,.alloc true z⟩::r) post S As):LA P (⟨d,none,.alloc true z⟩::r) post S As:=h
theorem k_bx{x:Operand}(h:LA P (⟨d,none,.box true x⟩::r) post S As):LA P (⟨d,none,.box true x⟩::r) post S As:=h
theorem k_bl{a b:Nat}{z:List Value}{ps:List (Nat×Nat×Operand)}(h:LA P (⟨d,none,.bslice true a b z ps⟩::r) post S As):LA P (⟨d,none,.bslice true a b z ps⟩::r) post S As:=h
theorem k_q{g:FuncId}{xs:List Operand}(h:LA P (⟨d,none,.qcall g xs⟩::r) post S As):LA P (⟨d,none,.qcall g xs⟩::r) post S As:=h
theorem k_c{g:FuncId}{xs:List Operand}(h:LA P (⟨d,none,.call g xs⟩::r) post S As):LA P (⟨d,none,.call g xs⟩::r) post S As:=h
theorem k_p{s:Nat}{x y:Operand}(h:LA P (⟨d,none,.pick (.tmp s) x y⟩::r) post S As):LA P (⟨d,none,.pick (.tmp s) x y⟩::r) post S As:=h
end
section
variable {P:Program} {S:St} {As:List Asr} {post:St→List Asr→Prop} {r:List I} {d:Option Nat}
theorem g_ad{x y:Operand}{a b:Int}(hx:ev S x=some (.int .i64 a))(hy:ev S y=some (.int .i64 b))(hp:LA P r post (put S d (.v (.int .i64 (a+b)))) As)(hb: -9223372036854775808≤a+b∧a+b≤9223372036854775807:=by first|omega|(simp only[HX.hdr,Hdr.s_room,Hdr.s_used,Hdr.s_born,Hdr.s_phase,Hdr.s_hand,Hdr.s_sub,Hdr.s_per,Hdr.s_start,Hdr.s_rounds,Hdr.s_forced,Hdr.s_rd,Hdr.s_cd,Hdr.s_gd,HX.H,List.length_map,List.length_set]at*;omega)):LA P (⟨d,none,.bin .add x y⟩::r) post S As:=a_ad hx hy hb hp
theorem g_su{x y:Operand}{a b:Int}(hx:ev S x=some (.int .i64 a))(hy:ev S y=some (.int .i64 b))(hp:LA P r post (put S d (.v (.int .i64 (a-b)))) As)(hb: -9223372036854775808≤a-b∧a-b≤9223372036854775807:=by first|omega|(simp only[HX.hdr,Hdr.s_room,Hdr.s_used,Hdr.s_born,Hdr.s_phase,Hdr.s_hand,Hdr.s_sub,Hdr.s_per,Hdr.s_start,Hdr.s_rounds,Hdr.s_forced,Hdr.s_rd,Hdr.s_cd,Hdr.s_gd,HX.H,List.length_map,List.length_set]at*;omega)):LA P (⟨d,none,.bin .sub x y⟩::r) post S As:=a_su hx hy hb hp
theorem g_ml{x y:Operand}{a b:Int}(hx:ev S x=some (.int .i64 a))(hy:ev S y=some (.int .i64 b))(hp:LA P r post (put S d (.v (.int .i64 (a*b)))) As)(hb: -9223372036854775808≤a*b∧a*b≤9223372036854775807:=by first|omega|(simp only[HX.hdr,Hdr.s_room,Hdr.s_used,Hdr.s_born,Hdr.s_phase,Hdr.s_hand,Hdr.s_sub,Hdr.s_per,Hdr.s_start,Hdr.s_rounds,Hdr.s_forced,Hdr.s_rd,Hdr.s_cd,Hdr.s_gd,HX.H,List.length_map]at*;omega)):LA P (⟨d,none,.bin .mul x y⟩::r) post S As:=a_ml hx hy hb hp
theorem g_i{e:D}{x y:Operand}{size n cap:Nat}{k:IntKind}{i:Int}(hx:ev S x=some (.slice e.a n cap))(hy:ev S y=some (.int k i))(hp:LA P r post (put S d (.v (.pointer (some ⟨e.b,e.o+i.toNat*size,none⟩)))) As)(hi:0≤i∧i<n:=by first|omega|(simp only[HX.hdr,Hdr.s_room,Hdr.s_used,Hdr.s_born,Hdr.s_phase,Hdr.s_hand,Hdr.s_sub,Hdr.s_per,Hdr.s_start,Hdr.s_rounds,Hdr.s_forced,Hdr.s_rd,Hdr.s_cd,Hdr.s_gd,HX.H,List.length_map,List.length_set]at*;omega))
 (hb:Kn As (e.a=some ⟨e.b,e.o,none⟩):=by(fail_if_success apply kn_bad);(repeat(first|exact kn_h (kn_cl (by assumption))|exact kn_h (kn_cp (by assumption) (by assumption))|exact kn_h (bs_sl (by assumption))|exact kn_h (kn_ro (by assumption) (by(repeat(first|exact kn_h (kn_cl (by assumption))|exact kn_h (kn_cp (by assumption) (by assumption))|exact kn_h (bs_sl (by assumption))|apply kn_t));fail_if_success focus skip))|apply kn_t));fail_if_success focus skip):LA P (⟨d,none,.iaddr size x y⟩::r) post S As:=a_i hx hy hb hi hp
theorem g_tk{e:D}{x:Operand}{hi:Option Operand}{size n:Nat}{k:IntKind}{i:Int}(hx:ev S x=some (.slice e.a n e.cap))(hh:optEv S hi=some (some (.int k i)))(hp:LA P r post (put S d (.v (.slice e.a i.toNat e.cap))) As)(hi0:0≤i∧i≤e.cap:=by first|omega|(simp only[HX.hdr,Hdr.s_room,Hdr.s_used,Hdr.s_born,Hdr.s_phase,Hdr.s_hand,Hdr.s_sub,Hdr.s_per,Hdr.s_start,Hdr.s_rounds,Hdr.s_forced,Hdr.s_rd,Hdr.s_cd,Hdr.s_gd,HX.H,List.length_map,List.length_set]at*;omega))
 (hb:Kn As (e.a=none∨e.a=some ⟨e.b,e.o,none⟩):=by(fail_if_success apply kn_bad);(repeat(first|exact kn_h (kp_cp (by assumption))|exact kn_h kp_cl|exact kn_h pl_sl|exact kn_h (kn_ro (by assumption) (by(repeat(first|exact kn_h (kp_cp (by assumption))|exact kn_h kp_cl|exact kn_h pl_sl|apply kn_t));fail_if_success focus skip))|apply kn_t));fail_if_success focus skip):LA P (⟨d,none,.slc size x none hi⟩::r) post S As:=a_tk hx hh hb hi0 hp
theorem g_l{n:Nat}{x:Operand}{b o:Nat}{v:Value}(hx:lc S x=some (.mm b o))(hp:LA P r post (put S d (.v v)) As)(hv:Rd As b o v:=by(fail_if_success apply rd_bad);(repeat(first|exact rd_h (rd_hd rfl)|exact rd_h (rd_bx rfl)|exact rd_h (rd_cl (by assumption) rfl)|exact rd_h (rd_cp (by assumption) (by assumption) rfl)|exact rd_h (r_int (by assumption))|exact rd_h (r_bool (by assumption))|exact rd_h (rd_ro (by assumption) (by(repeat(first|exact rd_h (rd_hd rfl)|exact rd_h (rd_cl (by assumption) rfl)|exact rd_h (rd_cp (by assumption) (by assumption) rfl)|exact rd_h (r_int (by assumption))|apply rd_t));fail_if_success focus skip))|apply rd_t));fail_if_success focus skip):LA P (⟨d,none,.load true n x⟩::r) post S As:=a_l hx hv hp
theorem g_ls{n:Nat}{x:Operand}{b o:Nat}{vs:List Value}(hx:lc S x=some (.mm b o))(hp:LA P r post (put S d (.v (.agg vs.toArray))) As)(hv:Rs As b o n vs:=by(fail_if_success apply rs_bad);(repeat(first|exact rs_h rs_hd|exact rs_h (rs_cl (by assumption))|exact rs_h (rs_cp (by assumption) (by assumption))|exact rs_h (r_key (by assumption) (by assumption))|exact rs_h (r_val (by assumption) (by assumption))|exact rs_h (r_reg (by assumption))|exact rs_h (rs_ro (by assumption) (by(repeat(first|exact rs_h rs_hd|exact rs_h (rs_cl (by assumption))|exact rs_h (rs_cp (by assumption) (by assumption))|exact rs_h (r_key (by assumption) (by assumption))|exact rs_h (r_val (by assumption) (by assumption))|exact rs_h (r_reg (by assumption))|apply rs_t));fail_if_success focus skip))|apply rs_t));fail_if_success focus skip):LA P (⟨d,none,.load false n x⟩::r) post S As:=a_ls hx hv hp
theorem g_st{n:Nat}{x y:Operand}{b o:Nat}{v:Value}{As':List Asr}(hx:lc S x=some (.mm b o))(hy:ev S y=some v)(hn:v.cells.size=n)(hpl:plainCells v.cells.toList=true)(hp:LA P r post S As')(hu:Up As b o v.cells.toList As':=by(fail_if_success apply up_bad);(repeat(first|exact up_h u_room|exact up_h u_used|exact up_h u_born|exact up_h u_phase|exact up_h u_hand|exact up_h u_sub|exact up_h u_per|exact up_h u_start|exact up_h u_rounds|exact up_h u_forced|exact up_h u_rd|exact up_h u_cd|exact up_h u_gd|exact up_h (u_cstate (by assumption))|exact up_h (u_ckind (by assumption))|exact up_h (u_cweak (by assumption))|exact up_h (u_clast (by assumption))|exact up_h (u_cborn (by assumption))|exact up_h (u_ccolor (by assumption))|exact up_h (u_cto (by assumption))|exact up_h (u_key (by assumption) (by assumption))|exact up_h (u_val (by assumption) (by assumption))|exact up_h (u_reg (by assumption))|exact up_h (u_regat (by assumption))|exact up_h (u_int (by assumption))|exact up_h (u_bool (by assumption))|apply up_t));fail_if_success focus skip):
 LA P (⟨d,none,.store n x y⟩::r) post S As:=a_st hx hy hn hpl hu hp
theorem g_sw{n:Nat}{x y:Operand}{s o:Nat}{cs:List Value}{v:Value}(hx:lc S x=some (.bx s o))(hb:S s=.box cs)(hy:ev S y=some v)(hn:v.cells.size=n)(hle:o+n≤cs.length)
 (hw:WrK cs o v.cells.toList (fun cs'=>LA P r post (upF S s (.box cs')) As)) (hpl:plainCells v.cells.toList=true:=by first|rfl|assumption):LA P (⟨d,none,.store n x y⟩::r) post S As:=a_sw hx hb hy hn hpl hle hw
theorem g_c{g:FuncId}{xs:List Operand}{args:List Value}{As1 F:List Asr}{q:Value→List Asr→Prop}(hx:evs S xs=some args)(hq:FnA P g args As1 q)(hp:∀v As',q v As'→LA P r post (put S d (.v v)) (As'++F))(hm:Pm As As1 F:=by exact pmt):
 LA P (⟨d,none,.call g xs⟩::r) post S As:=a_c hx hq hm hp
theorem g_ap{α:Type}{f:α→List Value}{size bytes:Nat}{z:List Value}{xs:List α}{e:D}{R:List Asr}{t:Nat}{cs:List Value}{s:Operand}(y:α)(hs:∀x,(f x).length=size)(hv:ev S s=some (.slice e.a xs.length e.cap))(ht:S t=.bsl cs 1)(hc:cs=f y)(h0:0<size∧0<bytes)
 (hp:∀e':D,LA P r post (put S d (.v (.slice e'.a (xs++[y]).length e'.cap))) (slA size f e' (xs++[y])::R)) (hpl:plainCells cs=true:=by first|rfl|assumption) (hb:((xs.length:Int)+1)*bytes≤140737488355328:=by omega)
 (hm:Pk As (slA size f e xs) R:=by(fail_if_success apply pk_bad);(repeat(first|exact pk_h|apply pk_t));fail_if_success focus skip):LA P (⟨d,none,.app size bytes z s (.tmp t)⟩::r) post S As:=
 a_ap [y] hm hs h0 hv ht (by rw[hc];simp) rfl hpl hb hp
theorem g_ai{bytes:Nat}{z:List Value}{xs:List Int}{e:D}{R:List Asr}{t:Nat}{y:Int}{s:Operand}(hv:ev S s=some (.slice e.a xs.length e.cap))(ht:S t=.bsl [.int .i64 y] 1)(h0:0<bytes)
 (hp:∀e':D,LA P r post (put S d (.v (.slice e'.a (xs++[y]).length e'.cap))) (slA 1 iv e' (xs++[y])::R)) (hb:((xs.length:Int)+1)*bytes≤140737488355328:=by omega)
 (hm:Pk As (slA 1 iv e xs) R:=by(fail_if_success apply pk_bad);(repeat(first|exact pk_h|apply pk_t));fail_if_success focus skip):LA P (⟨d,none,.app 1 bytes z s (.tmp t)⟩::r) post S As:=
 a_ap [y] hm iv_len ⟨by omega,h0⟩ hv ht rfl rfl rfl hb hp
theorem ph_g{a:Nat}{x:HX}{F:List Asr}{m:Mem}(hm:star As m)(h:Pm As (hp a x) F:=by exact pmt):PH m a x.hs:=ph_of hm h
theorem fin{a:Nat}{h:Hdr}{regs:List Word}{xs:List CS}{gray:List Int}{F:List Asr}(y:HX)(hm:Pm As [hdA a h,slA 3 wv h.rd regs,clA h.cd xs,slA 1 iv h.gd gray] F:=by exact pmt)(e1:h={y.hdr with nr:=h.nr,nc:=h.nc,ng:=h.ng}:=by rfl)
 (h1:h.nr=regs.length:=by first|rfl|(simp[HX.hdr,Hdr.s_room,Hdr.s_used,Hdr.s_born,Hdr.s_phase,Hdr.s_hand,Hdr.s_sub,Hdr.s_per,Hdr.s_start,Hdr.s_rounds,Hdr.s_forced,Hdr.s_rd,Hdr.s_cd,Hdr.s_gd];done)) (h2:h.nc=xs.length:=by first|rfl|(simp[HX.hdr,Hdr.s_room,Hdr.s_used,Hdr.s_born,Hdr.s_phase,Hdr.s_hand,Hdr.s_sub,Hdr.s_per,Hdr.s_start,Hdr.s_rounds,Hdr.s_forced,Hdr.s_rd,Hdr.s_cd,Hdr.s_gd];done)) (h3:h.ng=gray.length:=by first|rfl|(simp[HX.hdr,Hdr.s_room,Hdr.s_used,Hdr.s_born,Hdr.s_phase,Hdr.s_hand,Hdr.s_sub,Hdr.s_per,Hdr.s_start,Hdr.s_rounds,Hdr.s_forced,Hdr.s_rd,Hdr.s_cd,Hdr.s_gd];done)) (e2:regs=y.regs:=by rfl) (e3:xs=y.xs:=by rfl) (e4:gray=y.gray:=by rfl):Pm As (hp a y) F:=by
 subst e2;subst e3;subst e4
 have e:h=y.hdr:=by rw[e1,h1,h2,h3];rfl
 subst e;exact hm
end
section
variable {E:Env} {Q:X→St→List Asr→Prop} {S:St} {As:List Asr}
theorem blk_eq{id e:Nat}(h:e=id)(hq:Q .nrm S As):blkA id Q (.ext e) S As:=by subst h;exact b_e hq
theorem blk_ne{id e:Nat}(h:e≠id)(hq:Q (.ext e) S As):blkA id Q (.ext e) S As:=by unfold blkA;simp only[if_neg h];exact hq
theorem v_rv{d:Option Nat}{v:Value}(h:Q .ret (put S d (.v v)) As):VA E (.seq (.reg [⟨d,none,.mov (.const v)⟩]) .ret) Q S As:=v_seq (v_reg (a_p (sv:=.v v) rfl (a_n (v_ret h))))
theorem v_bs{id:Nat}{a b:C}(h:VA E (.seq a b) (blkA id Q) S As):VA E (.block id (.seq a b)) Q S As:=v_blk h
theorem v_br{id:Nat}{l:List I}(h:VA E (.reg l) (blkA id Q) S As):VA E (.block id (.reg l)) Q S As:=v_blk h
theorem v_bd{id n:Nat}{l:List I}(h:VA E (.dreg n l) (blkA id Q) S As):VA E (.block id (.dreg n l)) Q S As:=v_blk h
theorem v_bc{id:Nat}{x:Operand}{a b:C}(h:VA E (.cond x a b) (blkA id Q) S As):VA E (.block id (.cond x a b)) Q S As:=v_blk h
theorem v_bk{id:Nat}(h:VA E .skip (blkA id Q) S As):VA E (.block id .skip) Q S As:=v_blk h
theorem v_bb{id id':Nat}{c:C}(h:VA E (.block id' c) (blkA id Q) S As):VA E (.block id (.block id' c)) Q S As:=v_blk h
theorem leA_up{d:Nat}{x:SV}:∀{l:List (Nat×SV)} {S:St},(l.all fun p=> !Nat.beq p.1 d)=true→leA l S→leA l (upF S d x)
 |[],_,_,_=>trivial
 |(e,y)::r,S,h,hl=>by
  simp only[List.all_cons,Bool.and_eq_true,Bool.not_eq_true']at h
  refine⟨?_,leA_up h.2 hl.2⟩
  show(bif Nat.beq e d then x else S e)=y
  rw[h.1];exact hl.1
def rngQ{α:Type}(b b' ti tn n:Nat)(T:α→List (Nat×SV))(At:α→List Asr)(Inv:Nat→α→Prop)(i:Nat)(Q:X→St→List Asr→Prop):X→St→List Asr→Prop
 |.nrm,S',As'=>∃x',leA ((ti,.v (.int .i64 i))::(tn,.v (.int .i64 n))::T x') S'∧Ent As' (At x')∧Inv (i+1) x'
 |.ext e,S',As'=>if e=b' then ∃x',leA ((ti,.v (.int .i64 i))::(tn,.v (.int .i64 n))::T x') S'∧Ent As' (At x')∧Inv (i+1) x' else if e=b then Q .nrm S' As' else Q (.ext e) S' As'
 |.ret,S',As'=>Q .ret S' As'
theorem v_range{α:Type}{body:C}{ti tn tc tu b b':Nat}(n:Nat)(T:α→List (Nat×SV))(At:α→List Asr)(Inv:Nat→α→Prop)
 (h0:∃x,leA ((ti,.v (.int .i64 0))::(tn,.v (.int .i64 n))::T x) S∧Ent As (At x)∧Inv 0 x) (hn:(n:Int)≤4611686018427387904)
 (hT:∀x,((T x).all fun p=> !Nat.beq p.1 ti&& !Nat.beq p.1 tc&& !Nat.beq p.1 tu)=true) (hd:(!Nat.beq ti tc&& !Nat.beq tn tc&& !Nat.beq ti tu&& !Nat.beq tn tu&& !Nat.beq tn ti)=true)
 (hb:∀i x,i<n→Inv i x→VA E body (rngQ b b' ti tn n T At Inv i Q) (ofL ((ti,.v (.int .i64 i))::(tn,.v (.int .i64 n))::T x)) (At x))
 (he:∀x,Inv n x→Q .nrm (upF (ofL ((ti,.v (.int .i64 n))::(tn,.v (.int .i64 n))::T x)) tc (.v (.bool (decide ((n:Int)<n))))) (At x)):
 VA E (.block b (.loop (.seq (.reg [⟨some tc,none,.bin .lss (.tmp ti) (.tmp tn)⟩]) (.seq (.cond (.tmp tc) .skip (.exit b)) (.seq (.block b' body) (.reg [⟨some tu,none,.bin .add (.tmp ti) (.const (.int .i64 1))⟩,⟨some ti,none,.mov (.tmp tu)⟩])))))) Q S As:=by
 simp only[Bool.and_eq_true,Bool.not_eq_true']at hd
 obtain⟨⟨⟨⟨d1,d2⟩,d3⟩,d4⟩,d5⟩:=hd
 have d5':Nat.beq ti tn=false:=by
  cases h:Nat.beq ti tn with
  |false=>rfl
  |true=>rw[Nat.eq_of_beq_eq_true h]at d5;simp at d5
 have hT1:∀x,((T x).all fun p=> !Nat.beq p.1 ti)=true:=fun x=>List.all_eq_true.2 fun p hp=>by
  have:=List.all_eq_true.1 (hT x) p hp;simp only[Bool.and_eq_true]at this;exact this.1.1
 have hT2:∀x,((T x).all fun p=> !Nat.beq p.1 tc)=true:=fun x=>List.all_eq_true.2 fun p hp=>by
  have:=List.all_eq_true.1 (hT x) p hp;simp only[Bool.and_eq_true]at this;exact this.1.2
 have hT3:∀x,((T x).all fun p=> !Nat.beq p.1 tu)=true:=fun x=>List.all_eq_true.2 fun p hp=>by
  have:=List.all_eq_true.1 (hT x) p hp;simp only[Bool.and_eq_true]at this;exact this.2
 refine v_blk ?_
 obtain⟨x0,g1,g2,g3⟩:=h0
 refine v_loop (fun p:Nat×α=>(ti,.v (.int .i64 p.1))::(tn,.v (.int .i64 n))::T p.2) (fun p=>At p.2) (fun k p=>k=n-p.1∧p.1≤n∧Inv p.1 p.2) ⟨_,(0,x0),g1,g2,rfl,Nat.zero_le _,g3⟩ ?_
 rintro k ⟨i,x⟩ ⟨rfl,hi,hinv⟩
 simp only at hi hinv⊢
 have e1:ofL ((ti,.v (.int .i64 (i:Int)))::(tn,.v (.int .i64 (n:Int)))::T x) ti=.v (.int .i64 i):=by show upF _ ti _ ti=_;rw[upF_eq,if_pos rfl]
 have e2:ofL ((ti,.v (.int .i64 (i:Int)))::(tn,.v (.int .i64 (n:Int)))::T x) tn=.v (.int .i64 n):=by
  show(bif Nat.beq tn ti then _ else upF _ tn _ tn)=_
  rw[d5];show upF _ tn _ tn=_;rw[upF_eq,if_pos rfl]
 have hl0:leF (ofL ((ti,.v (.int .i64 (i:Int)))::(tn,.v (.int .i64 (n:Int)))::T x)) (upF (ofL ((ti,.v (.int .i64 (i:Int)))::(tn,.v (.int .i64 (n:Int)))::T x)) tc (.v (.bool (decide ((i:Int)<n))))):=by
  intro t
  rw[upF_eq]
  by_cases e:t=tc
  ·left
   subst e
   show(bif Nat.beq t ti then _ else bif Nat.beq t tn then _ else ofL (T x) t)=_
   have a1:Nat.beq t ti=false:=by
    cases h:Nat.beq t ti with
    |false=>rfl
    |true=>rw[Nat.eq_of_beq_eq_true h]at d1;simp at d1
   have a2:Nat.beq t tn=false:=by
    cases h:Nat.beq t tn with
    |false=>rfl
    |true=>rw[Nat.eq_of_beq_eq_true h]at d2;simp at d2
   rw[a1,a2]
   show ofL (T x) t=.junk
   have:∀l:List (Nat×SV),(l.all fun p=> !Nat.beq p.1 t)=true→ofL l t=.junk:=by
    intro l
    induction l with
    |nil=>intro _;rfl
    |cons p r ih=>
     intro h
     simp only[List.all_cons,Bool.and_eq_true,Bool.not_eq_true']at h
     show(bif Nat.beq t p.1 then p.2 else ofL r t)=_
     have:Nat.beq t p.1=false:=by
      cases h':Nat.beq t p.1 with
      |false=>rfl
      |true=>rw[Nat.eq_of_beq_eq_true h']at h;simp at h
     rw[this];exact ih h.2
   exact this _ (hT2 x)
  ·right;rw[if_neg e]
 refine v_seq (v_reg (a_p (sv:=.v (.bool (decide ((i:Int)<n)))) ?_ (a_n ?_)))
 ·simp only[pe,ev,e1,e2];rfl
 refine v_seq (v_cond (decide ((i:Int)<n)) ?_ (fun h=>?_) (fun h=>?_))
 ·show ev (upF _ tc _) (.tmp tc)=_
  simp only[ev]
  rw[upF_eq,if_pos rfl]
 ·have hin:i<n:=by have:=of_decide_eq_true h;omega
  refine v_skip ?_
  show VA E _ _ _ _
  refine v_seq (v_blk ?_)
  refine⟨fun m hm=>?_⟩
  have hbody:=(hb i x hin hinv).out m hm
  refine VC.mono (Q:=upQ (rngQ b b' ti tn n T At Inv i Q)) ?_ ?_
  ·exact⟨fun code ht hmx W0 M0 β a w hR=>hbody.out code ht hmx W0 M0 β a w (hR.weak hl0)⟩
  ·rintro y S' M' ⟨As',m',l,s,hq'⟩
   refine⟨As',m',l,s,?_⟩
   have done:(∃x',leA ((ti,.v (.int .i64 i))::(tn,.v (.int .i64 n))::T x') S'∧Ent As' (At x')∧Inv (i+1) x')→
    VA E (.reg [⟨some tu,none,.bin .add (.tmp ti) (.const (.int .i64 1))⟩,⟨some ti,none,.mov (.tmp tu)⟩]) (seqA (fun S' As'=>∃k' x',k'<n-i∧leA ((ti,.v (.int .i64 (x':Nat×α).1))::(tn,.v (.int .i64 n))::T x'.2) S'∧Ent As' (At x'.2)∧k'=n-x'.1∧x'.1≤n∧Inv x'.1 x'.2) (blkA b Q)) S' As':=by
    rintro⟨x',h1,h2,h3⟩
    refine v_reg (a_ad (a:=i) (b:=1) ?_ rfl (by omega) (a_p (sv:=.v (.int .i64 ((i:Int)+1))) ?_ (a_n ?_)))
    ·simp only[ev,h1.1]
    ·show Option.map SV.v (ev (upF S' tu _) (.tmp tu))=_
     simp only[ev]
     rw[upF_eq,if_pos rfl];rfl
    ·refine⟨n-(i+1),(i+1,x'),by omega,⟨?_,?_,?_⟩,h2,rfl,by simp only;omega,h3⟩
     ·show upF _ ti _ ti=_;rw[upF_eq,if_pos rfl];rfl
     ·show(bif Nat.beq tn ti then _ else bif Nat.beq tn tu then _ else S' tn)=_
      rw[d5,d4];exact h1.2.1
     ·exact leA_up (hT1 x') (leA_up (hT3 x') h1.2.2)
   cases y with
   |nrm=>exact done hq'
   |ret=>exact hq'
   |ext e=>
    simp only[rngQ]at hq'
    by_cases h1:e=b'
    ·rw[if_pos h1]at hq';exact blk_eq h1 (done hq')
    ·rw[if_neg h1]at hq'
     refine blk_ne h1 ?_
     show blkA b Q (.ext e) S' As'
     by_cases h2:e=b
     ·rw[if_pos h2]at hq';exact blk_eq h2 hq'
     ·rw[if_neg h2]at hq';exact blk_ne h2 hq'
 ·have hin:i=n:=by have:=of_decide_eq_false h;omega
  subst hin
  refine v_exit ?_
  refine blk_eq rfl ?_
  exact he x hinv
section
variable {α:Type} {b b' ti tn n:Nat} {T:α→List (Nat×SV)} {At:α→List Asr} {Inv:Nat→α→Prop} {i:Nat}
theorem r_nx(x':α)(hi:Inv (i+1) x')(hl:leA ((ti,.v (.int .i64 i))::(tn,.v (.int .i64 n))::T x') S:=by repeat(first|exact trivial|refine⟨rfl,?_⟩))(he:Ent As (At x'):=by first|exact Ent.refl _|exact Pm.ent pmt):rngQ b b' ti tn n T At Inv i Q .nrm S As:=⟨x',hl,he,hi⟩
theorem r_ct(x':α)(hi:Inv (i+1) x')(hl:leA ((ti,.v (.int .i64 i))::(tn,.v (.int .i64 n))::T x') S:=by repeat(first|exact trivial|refine⟨rfl,?_⟩))(he:Ent As (At x'):=by first|exact Ent.refl _|exact Pm.ent pmt):rngQ b b' ti tn n T At Inv i Q (.ext b') S As:=by
 show(if b'=b' then _ else _);rw[if_pos rfl];exact⟨x',hl,he,hi⟩
theorem r_rt(h:Q .ret S As):rngQ b b' ti tn n T At Inv i Q .ret S As:=h
theorem r_bk(hb:Nat.beq b b'=false)(h:Q .nrm S As):rngQ b b' ti tn n T At Inv i Q (.ext b) S As:=by
 have hne:b≠b':=fun e=>by rw[e]at hb;simp at hb
 show(if b=b' then _ else if b=b then _ else _);rw[if_neg hne,if_pos rfl];exact h
theorem r_ex{e:Nat}(h1:Nat.beq e b'=false)(h2:Nat.beq e b=false)(h:Q (.ext e) S As):rngQ b b' ti tn n T At Inv i Q (.ext e) S As:=by
 have n1:e≠b':=fun e'=>by rw[e']at h1;simp at h1
 have n2:e≠b:=fun e'=>by rw[e']at h2;simp at h2
 show(if e=b' then _ else if e=b then _ else _);rw[if_neg n1,if_neg n2];exact h
end
theorem g_range{α:Type}{body:C}{ti tn tc tu b b':Nat}(n:Nat)(T:α→List (Nat×SV))(At:α→List Asr)(Inv:Nat→α→Prop)(x0:α)(hi:Inv 0 x0)
 (hb:∀i x,i<n→Inv i x→VA E body (rngQ b b' ti tn n T At Inv i Q) (ofL ((ti,.v (.int .i64 i))::(tn,.v (.int .i64 n))::T x)) (At x))
 (he:∀x,Inv n x→Q .nrm (upF (ofL ((ti,.v (.int .i64 n))::(tn,.v (.int .i64 n))::T x)) tc (.v (.bool (decide ((n:Int)<n))))) (At x))
 (hl:leA ((ti,.v (.int .i64 0))::(tn,.v (.int .i64 n))::T x0) S:=by repeat(first|exact trivial|refine⟨rfl,?_⟩)) (hent:Ent As (At x0):=by first|exact Ent.refl _|exact Pm.ent pmt) (hn:(n:Int)≤4611686018427387904:=by first|omega|(simp only[HX.hdr,Hdr.s_room,Hdr.s_used,Hdr.s_born,Hdr.s_phase,Hdr.s_hand,Hdr.s_sub,Hdr.s_per,Hdr.s_start,Hdr.s_rounds,Hdr.s_forced,Hdr.s_rd,Hdr.s_cd,Hdr.s_gd];omega))
 (hT:∀x,((T x).all fun p=> !Nat.beq p.1 ti&& !Nat.beq p.1 tc&& !Nat.beq p.1 tu)=true:=by intro _;rfl) (hd:(!Nat.beq ti tc&& !Nat.beq tn tc&& !Nat.beq ti tu&& !Nat.beq tn tu&& !Nat.beq tn ti)=true:=by rfl):
 VA E (.block b (.loop (.seq (.reg [⟨some tc,none,.bin .lss (.tmp ti) (.tmp tn)⟩]) (.seq (.cond (.tmp tc) .skip (.exit b)) (.seq (.block b' body) (.reg [⟨some tu,none,.bin .add (.tmp ti) (.const (.int .i64 1))⟩,⟨some ti,none,.mov (.tmp tu)⟩])))))) Q S As:=
 v_range n T At Inv ⟨x0,hl,hent,hi⟩ hn hT hd hb he
def Jx{α:Type}(T:α→List (Nat×SV))(At:α→List Asr)(Inv:α→Prop):St→List Asr→Prop:=fun S As=>∃x,leA (T x) S∧Ent As (At x)∧Inv x
theorem j_i{α:Type}{T:α→List (Nat×SV)}{At:α→List Asr}{Inv:α→Prop}(x:α)(hi:Inv x)(hl:leA (T x) S:=by repeat(first|exact trivial|refine⟨rfl,?_⟩))(he:Ent As (At x):=by first|exact Ent.refl _|exact Pm.ent pmt):Jx T At Inv S As:=⟨x,hl,he,hi⟩
theorem g_cut{α:Type}{a b:C}(T:α→List (Nat×SV))(At:α→List Asr)(Inv:α→Prop)(h1:VA E a (seqA (Jx T At Inv) Q) S As)(h2:∀x,Inv x→VA E b Q (ofL (T x)) (At x)):VA E (.seq a b) Q S As:=
 v_cut _ h1 fun S As ⟨x,hl,he,hi⟩=>v_weak _ hl (VA.ent he (h2 x hi))
end
end Go.Proofs.YtpleoapljeffiaaDoor.E
set_option maxRecDepth 100000
namespace Go.Proofs.YtpleoapljeffiaaDoor.E
open Go
noncomputable def e18:Env:=⟨Tryd.prog,[],97,[]⟩
abbrev zM(a0:Nat)(a1:Nat)(a2:Nat):I:=⟨some a0,none,.call a1 [.tmp a2]⟩
abbrev zN(a0:Nat)(a1:Nat)(a2:Int):I:=⟨some a0,none,.bin .add (.tmp a1) (.const (.int .i64 a2))⟩
abbrev zY(a0:Nat)(a1:Nat)(a2:Nat):I:=⟨some a0,none,.bin .add (.tmp a1) (.tmp a2)⟩
abbrev zc(a0:Nat)(a1:Nat)(a2:Nat):I:=⟨some a0,some (a1,false),.not (.tmp a2)⟩
abbrev zf(a0:Nat)(a1:Nat)(a2:Nat):I:=⟨some a0,none,.mkfn a1 [.tmp a2] []⟩
abbrev zj(a0:Nat)(a1:Nat)(a2:Nat)(a3:Nat)(a4:Int)(a5:Int):I:=⟨some a0,some (a1,true),.call a2 [.tmp a3,.const (.int .i64 a4),.const (.int .i64 a5)]⟩
abbrev zk(a0:Nat)(a1:Nat)(a2:Nat)(a3:Int):I:=⟨some a0,some (a1,false),.bin .neq (.tmp a2) (.const (.int .i64 a3))⟩
abbrev zm(a0:Nat)(a1:Nat)(a2:Nat)(a3:Int):I:=⟨some a0,none,.iaddr a1 (.tmp a2) (.const (.int .i64 a3))⟩
abbrev zp(a0:Nat)(a1:Nat)(a2:Nat):I:=⟨some a0,none,.bin .eql (.tmp a1) (.tmp a2)⟩
abbrev zw(a0:Nat)(a1:Nat)(a2:Nat)(a3:Nat):I:=⟨some a0,some (a1,false),.load false a2 (.tmp a3)⟩
abbrev zx(a0:Nat)(a1:Nat)(a2:Int):I:=⟨some a0,none,.bin .sub (.tmp a1) (.const (.int .i64 a2))⟩
abbrev zy(a0:Nat)(a1:Nat)(a2:Nat):I:=⟨some a0,none,.bin .leq (.tmp a1) (.tmp a2)⟩
abbrev qA(a0:Nat)(a1:Nat)(a2:Nat):I:=⟨some a0,none,.qcall a1 [.tmp a2]⟩
abbrev qB(a0:Nat)(a1:Nat)(a2:Nat)(a3:Nat)(a4:Nat):I:=⟨some a0,some (a1,false),.iaddr a2 (.tmp a3) (.tmp a4)⟩
abbrev qC(a0:Nat)(a1:Nat)(a2:Nat)(a3:Nat)(a4:Nat):I:=⟨some a0,none,.call a1 [.tmp a2,.tmp a3,.tmp a4]⟩
abbrev qF(a0:Nat)(a1:Nat)(a2:Nat)(a3:Nat)(a4:Int)(a5:Nat):I:=⟨some a0,some (a1,true),.call a2 [.tmp a3,.const (.int .i64 a4),.tmp a5]⟩
abbrev qG(a0:Nat):I:=⟨some a0,none,.mkmap⟩
abbrev qH(a0:Nat)(a1:Nat)(a2:Nat)(a3:Nat):I:=⟨some a0,some (a1,false),.look true (.bool false) false (.tmp a2) (.tmp a3)⟩
abbrev qI(a0:Nat)(a1:Nat):I:=⟨none,none,.mupd (.tmp a0) (.tmp a1) (.const (.bool true))⟩
abbrev qJ(a0:Nat)(a1:Nat)(a2:Nat)(a3:Nat)(a4:Int)(a5:Int):I:=⟨some a0,some (a1,false),.qcall a2 [.tmp a3,.const (.int .i64 a4),.const (.int .i64 a5)]⟩
abbrev qK(a0:Nat)(a1:Int)(a2:Int)(a3:Int)(a4:Int)(a5:Int)(a6:Int):I:=⟨some a0,none,.alloc true [.int .i64 a1,.int .i64 a2,.int .i64 a3,.int .i64 a4,.int .i64 a5,.int .i64 a6]⟩
abbrev qL(a0:Nat)(a1:Nat)(a2:Nat)(a3:Nat)(a4:Nat):I:=⟨some a0,some (a1,false),.call a2 [.tmp a3,.tmp a4]⟩
noncomputable def c18:C:=
 .seq (.reg [zF 2]) (.seq (.reg [z0 4 0,z5 5 4,z3 6 4 5,z4 7 1 6,zG 8 7,z0 3 8]) (.seq (.reg [z0 9 0,z5 10 9,z3 11 0 10,z4 12 1 11,q9 13 26 12 1 4000,z0 14 13,zD 15 14 0,zJ 16 14 15,z9 17 14 3 16,zA 18 14 1 17,zi 19 14 18,zT 20 14 19 16,zE 21 14 20,z0 22 21,zD 23 22 3,zD 24 22 0,zJ 25 22 24,z9 26 22 0 25,zA 27 22 1 26,⟨some 28,some (22,true),.bin .mul (.const (.int .i64 2)) (.tmp 27)⟩,q8 29 22
 23 28,zE 30 22 29,z0 31 30,zD 32 31 0,zJ 33 31 32,z9 34 31 8 33,zA 35 31 1 34,zi 36 31 35,zD 37 31 3,q8 38 31 36 37,zE 39 31 38,z0 40 39,zD 41 40 0,zJ 42 40 41,z9 43 40 2 42,zA 44 40 1 43,zj 45 40 26 44 0 1000000000,zE 46 40 45,z0 47 46,zD 48 47 0,zJ 49 47 48,z9 50 47 11 49,zA 51 47 1 50,zj 52 47 26 51 0 1000000000,zE 53 47 52,z0 54 53,zD 55 54 0,zJ 56 54 55,z9 57 54 12 56,zA 58 54 1 57,zj 59 54
 26 58 0 1000000000,zE 60 54 59,z0 61 60,zD 62 61 0,zJ 63 61 62,z9 64 61 9 63,zA 65 61 1 64,zj 66 61 26 65 0 64,zE 67 61 66,z0 68 67,zD 69 68 0,zJ 70 68 69,z9 71 68 10 70,zA 72 68 1 71,zj 73 68 26 72 0 4000,zE 74 68 73,z0 75 74,zD 76 75 0,zJ 77 75 76,z9 78 75 5 77,zA 79 75 1 78,zj 80 75 26 79 0 6,zE 81 75 80,z0 82 81,zD 83 82 0,zJ 84 82 83,z9 85 82 6 84,zA 86 82 1 85,zD 87 82 3,qF 88 82 26 86 0 87,
 zE 89 82 88,z0 90 89,zD 91 90 0,zJ 92 90 91,z9 93 90 7 92,zA 94 90 1 93,zj 95 90 26 94 0 200,zE 96 90 95,z0 2 96]) .ret))
theorem t18:Tryd.f18.body.bind (trC e18)=some c18:=by kernel_rfl
theorem r18:Tryd.f18.results.toList.mapM (trR Tryd.prog)=some [.tmp 2]:=by kernel_rfl
theorem fn18{args:List Value}{M:Mem}{post:Value→Mem→Prop}(hl:args.length≤97)(h:VC e18 c18 (fnQ [.tmp 2] post) (initS args 97) M):Fn Tryd.prog 18 args M post:=
 Fn.of' (E:=e18) Tryd.func18 t18 rfl r18 mixed hl h
noncomputable def e19:Env:=⟨Tryd.prog,[6],150,[(11,36),(20,49)]⟩
noncomputable def c19:C:=
 .seq (.reg [zF 2]) (.seq (.reg [qG 8,qG 9,z0 3 8,z0 4 9]) (.seq (.seq (.reg [z0 10 0,z5 11 10,z3 12 4 11,z4 13 1 12,zG 14 13,zI 15 0]) (.block 0 (.loop (.seq (.reg [zQ 16 15 14]) (.seq (.cond (.tmp 16) .skip (.exit 0)) (.seq (.block 1 (.seq (.reg [z0 17 15,zC 18 8 13 15,z8 19 8 18,zV 6 0 0 0 0 0 0 0 0 0,z0 5 17,z6 8 6 19]) (.seq (.reg [z3 20 0 6,z4 21 1 20]) (.block 2 (.seq (.reg [z7 23 21
 0,z0 22 23]) (.cond (.tmp 22) (.seq (.reg [z8 24 8 6,zM 25 28 24,zU 26 25,z0 27 26,zH 28 27 6 6,zK 29 27 1 28,zk 30 27 29 0,zO 31 27 30]) (.cond (.tmp 31) (.seq (.reg [zF 2]) .ret) .skip)) (.seq (.reg [z7 33 21 2,z0 32 33]) (.cond (.tmp 32) (.seq (.seq (.dreg 36 [z8 34 8 6,qA 35 28 34,zU 36 35,z0 37 36,zL 38 37 0,zW 39 37 38,zH 40 37 5 39,zK 41 37 1 40,⟨some 42,some (37,false),.bin .lss (.tmp
 41) (.const (.int .i64 4))⟩,zO 43 37 42,z0 44 43,zH 45 44 6 6,zK 46 44 1 45,zL 47 44 5,⟨some 48,some (44,false),.bin .sub (.tmp 47) (.const (.int .i64 1))⟩,⟨some 49,some (44,false),.qcall 26 [.tmp 46,.const (.int .i64 0),.tmp 48]⟩,zc 50 44 49,zO 51 44 50,z0 52 51,zL 53 52 0,zW 54 52 53,zH 55 52 4 54,zK 56 52 1 55,zH 57 52 6 6,zK 58 52 1 57,qB 59 52 8 56 58,zH 60 52 0 59,zK 61 52 1 60,zk 62 52 61
 1,zO 63 52 62,z0 64 63,zL 65 64 4,zH 66 64 6 6,zK 67 64 1 66,qH 68 64 65 67,zO 69 64 68]) (.cond (.tmp 69) (.seq (.reg [zF 2]) .ret) .skip)) (.seq (.reg [z0 70 4,z3 71 6 6,z4 72 1 71,qI 70 72]) (.seq (.reg [zI 7 0]) (.block 3 (.loop (.seq (.seq (.reg [z0 73 7,z3 74 6 6,z4 75 1 74,zQ 76 73 75,z0 77 76,zD 78 77 0,zJ 79 77 78,z9 80 77 5 79,zA 81 77 1 80,zT 82 77 81 4,zE 83 77 82]) (.cond (.tmp
 83) .skip (.exit 3))) (.seq (.block 4 (.seq (.reg [z0 86 0,z5 87 86,z3 88 4 87,z4 89 1 88,z0 90 7,zC 91 8 89 90,z3 92 0 91,z4 93 1 92,z7 94 93 0]) (.cond (.tmp 94) (.seq (.reg [zF 2]) .ret) .skip))) (.reg [z0 84 7,zN 85 84 1,z0 7 85])))))))) (.seq (.reg [z7 96 21 1,z0 95 96]) (.cond (.tmp 95) (.seq (.seq (.dreg 49 [z3 97 1 6,z4 98 1 97,⟨some 99,none,.qcall 26 [.tmp 98,.const (.int .i64 0),
 .const (.int .i64 255)]⟩,zU 100 99,z0 101 100,zH 102 101 2 6,zK 103 101 1 102,qJ 104 101 26 103 0 3,zc 105 101 104,zO 106 101 105,z0 107 106,zH 108 107 3 6,zK 109 107 1 108,qJ 110 107 26 109 0 3,zc 111 107 110,zO 112 107 111,z0 113 112,zH 114 113 4 6,zK 115 113 1 114,zL 116 113 0,zW 117 113 116,zH 118 113 2 117,zK 119 113 1 118,⟨some 120,some (113,false),.qcall 26 [.tmp 115,.const (.int .i64 1),
 .tmp 119]⟩,zc 121 113 120,zO 122 113 121,z0 123 122,zH 124 123 5 6,zK 125 123 1 124,qJ 126 123 26 125 0 2,zc 127 123 126,zO 128 123 127,z0 129 128,zH 130 129 6 6,zK 131 129 1 130,zk 132 129 131 0,zO 133 129 132,z0 134 133,zH 135 134 7 6,zK 136 134 1 135,⟨some 137,some (134,false),.lenS (.tmp 136)⟩,⟨some 138,some (134,false),.bin .gtr (.tmp 137) (.const (.int .i64 200))⟩,zO 139 134 138,z0 140 139,
 zL 141 140 3,zH 142 140 4 6,zK 143 140 1 142,qH 144 140 141 143,zO 145 140 144]) (.cond (.tmp 145) (.seq (.reg [zF 2]) .ret) .skip)) (.reg [z0 146 3,z3 147 4 6,z4 148 1 147,qI 146 148])) (.seq (.reg [zF 2]) .ret))))))))))) (.reg [zN 149 15 1,z0 15 149]))))))) (.seq (.reg [zX 2]) .ret)))
theorem t19:Tryd.f19.body.bind (trC e19)=some c19:=by kernel_rfl
theorem r19:Tryd.f19.results.toList.mapM (trR Tryd.prog)=some [.tmp 2]:=by kernel_rfl
theorem fn19{args:List Value}{M:Mem}{post:Value→Mem→Prop}(hl:args.length≤150)(h:VC e19 c19 (fnQ [.tmp 2] post) (initS args 150) M):Fn Tryd.prog 19 args M post:=
 Fn.of' (E:=e19) Tryd.func19 t19 rfl r19 mixed hl h
noncomputable def e20:Env:=⟨Tryd.prog,[5],34,[]⟩
noncomputable def c20:C:=
 .seq (.reg [zF 2]) (.seq (.reg [zI 3 0]) (.seq (.seq (.reg [z0 6 0,z5 7 6,z3 8 4 7,z4 9 1 8,zG 10 9,zI 11 0]) (.block 0 (.loop (.seq (.reg [zQ 12 11 10]) (.seq (.cond (.tmp 12) .skip (.exit 0)) (.seq (.block 1 (.seq (.reg [zC 13 8 9 11,z8 14 8 13,zV 5 0 0 0 0 0 0 0 0 0,z6 8 5 14]) (.reg [z0 15 3,z8 16 8 5,zM 17 29 16,zY 18 15 17,z0 3 18]))) (.reg [zN 19 11 1,z0 11 19]))))))) (.seq (.reg [
 z0 20 3,z0 21 0,z5 22 21,z3 23 1 22,z4 24 1 23,zp 25 20 24,z0 26 25,zD 27 26 3,zD 28 26 0,zJ 29 26 28,z9 30 26 0 29,zA 31 26 1 30,q8 32 26 27 31,zE 33 26 32,z0 2 33]) .ret)))
theorem t20:Tryd.f20.body.bind (trC e20)=some c20:=by kernel_rfl
theorem r20:Tryd.f20.results.toList.mapM (trR Tryd.prog)=some [.tmp 2]:=by kernel_rfl
theorem fn20{args:List Value}{M:Mem}{post:Value→Mem→Prop}(hl:args.length≤34)(h:VC e20 c20 (fnQ [.tmp 2] post) (initS args 34) M):Fn Tryd.prog 20 args M post:=
 Fn.of' (E:=e20) Tryd.func20 t20 rfl r20 mixed hl h
noncomputable def e21:Env:=⟨Tryd.prog,[4,6,8],91,[]⟩
noncomputable def c21:C:=
 .seq (.reg [zF 2]) (.seq (.seq (.reg [z0 10 0,z5 11 10,z3 12 3 11,z4 13 1 12,zG 14 13,zI 15 0]) (.block 0 (.loop (.seq (.reg [zQ 16 15 14]) (.seq (.cond (.tmp 16) .skip (.exit 0)) (.seq (.block 1 (.seq (.reg [zC 17 3 13 15,z8 18 3 17,q4 4 0 0 0,z6 3 4 18]) (.seq (.reg [z0 19 0,z8 20 3 4,zP 21 30 19 20,zU 22 21,z0 23 22,zL 24 23 0,zw 25 23 3 4,⟨some 26,some (23,false),.call 31 [.tmp 24,.tmp
 25,.const (.bool false)]⟩,zc 27 23 26,zO 28 23 27]) (.cond (.tmp 28) (.seq (.reg [zF 2]) .ret) .skip)))) (.reg [zN 29 15 1,z0 15 29]))))))) (.seq (.seq (.reg [z0 30 0,z5 31 30,z3 32 4 31,z4 33 1 32,zG 34 33,zI 35 0]) (.block 2 (.loop (.seq (.reg [zQ 36 35 34]) (.seq (.cond (.tmp 36) .skip (.exit 2)) (.seq (.block 3 (.seq (.reg [z0 37 35,zC 38 8 33 35,z8 39 8 38,zV 6 0 0 0 0 0 0 0 0 0,z0 5 37,
 z6 8 6 39]) (.seq (.seq (.reg [z0 40 0,z0 41 5,zP 42 32 40 41,z0 43 42,⟨some 44,some (43,true),.load false 8 (.tmp 6)⟩,⟨some 45,some (43,true),.call 33 [.tmp 44]⟩,zE 46 43 45]) (.cond (.tmp 46) (.seq (.reg [zF 2]) .ret) .skip)) (.seq (.reg [z3 47 7 6,z4 48 1 47,zG 49 48,zI 50 0]) (.block 4 (.loop (.seq (.reg [zQ 51 50 49]) (.seq (.cond (.tmp 51) .skip (.exit 4)) (.seq (.block 5 (.seq (.reg [
 z0 52 50,zC 53 6 48 50,z8 54 6 53,qK 8 0 0 0 0 0 0,z0 7 52,z6 6 8 54]) (.seq (.seq (.reg [z0 55 0,z3 56 0 8,z8 57 3 56,zP 58 30 55 57,zU 59 58,z0 60 59,zL 61 60 0,zH 62 60 3 8,zw 63 60 3 62,qL 64 60 30 61 63,zc 65 60 64,zO 66 60 65]) (.cond (.tmp 66) (.seq (.reg [zF 2]) .ret) .skip)) (.seq (.seq (.reg [z0 67 0,z0 68 5,zP 69 32 67 68]) (.cond (.tmp 69) (.exit 5) .skip)) (.seq (.reg [z0 70 0,z0
 71 5,z0 72 7,qC 73 34 70 71 72,zU 74 73,z0 9 74]) (.seq (.reg [z0 75 0,z3 76 0 8,z8 77 3 76,z0 78 9,qC 79 31 75 77 78,zU 80 79,z0 81 80,zL 82 81 0,zH 83 81 3 8,zw 84 81 3 83,zL 85 81 9,⟨some 86,some (81,false),.call 31 [.tmp 82,.tmp 84,.tmp 85]⟩,zc 87 81 86,zO 88 81 87]) (.cond (.tmp 88) (.seq (.reg [zF 2]) .ret) .skip))))))) (.reg [zN 89 50 1,z0 50 89])))))))))) (.reg [zN 90 35 1,z0 35
 90]))))))) (.seq (.reg [zX 2]) .ret)))
theorem t21:Tryd.f21.body.bind (trC e21)=some c21:=by kernel_rfl
theorem r21:Tryd.f21.results.toList.mapM (trR Tryd.prog)=some [.tmp 2]:=by kernel_rfl
theorem fn21{args:List Value}{M:Mem}{post:Value→Mem→Prop}(hl:args.length≤91)(h:VC e21 c21 (fnQ [.tmp 2] post) (initS args 91) M):Fn Tryd.prog 21 args M post:=
 Fn.of' (E:=e21) Tryd.func21 t21 rfl r21 mixed hl h
noncomputable def e22:Env:=⟨Tryd.prog,[7,9],121,[]⟩
noncomputable def c22:C:=
 .seq (.reg [zF 2]) (.seq (.seq (.reg [z0 10 0,zM 11 35 10]) (.cond (.tmp 11) (.seq (.reg [qG 12,z0 3 12]) (.seq (.seq (.reg [z0 13 0,z5 14 13,z3 15 8 14,z4 16 1 15,zG 17 16,zI 18 0]) (.block 0 (.loop (.seq (.reg [zQ 19 18 17]) (.seq (.cond (.tmp 19) .skip (.exit 0)) (.seq (.block 1 (.seq (.reg [zC 20 1 16 18,z4 21 1 20,z0 5 21]) (.seq (.seq (.reg [z0 22 5,z0 23 0,z5 24 23,z3 25 4 24,z4 26
 1 25,zG 27 26,zx 28 27 1,⟨some 29,none,.call 26 [.tmp 22,.const (.int .i64 0),.tmp 28]⟩,zU 30 29,z0 31 30,zL 32 31 3,zL 33 31 5,qH 34 31 32 33,zO 35 31 34,z0 36 35,zL 37 36 0,zW 38 36 37,zH 39 36 4 38,zK 40 36 1 39,zL 41 36 5,qB 42 36 8 40 41,zH 43 36 0 42,zK 44 36 1 43,zk 45 36 44 1,zO 46 36 45,z0 47 46,zL 48 47 0,zW 49 47 48,zH 50 47 4 49,zK 51 47 1 50,zL 52 47 5,qB 53 47 8 51 52,zH 54 47 5 53,
 zK 55 47 1 54,zk 56 47 55 1,zO 57 47 56]) (.cond (.tmp 57) (.seq (.reg [zF 2]) .ret) .skip)) (.reg [z0 58 3,z0 59 5,qI 58 59])))) (.reg [zN 60 18 1,z0 18 60]))))))) (.seq (.seq (.reg [z0 61 0,z5 62 61,z3 63 4 62,z4 64 1 63,zG 65 64,zI 66 0]) (.block 2 (.loop (.seq (.reg [zQ 67 66 65]) (.seq (.cond (.tmp 67) .skip (.exit 2)) (.seq (.block 3 (.seq (.reg [z0 68 66,zC 69 8 64 66,z8 70 8 69,zV 7
 0 0 0 0 0 0 0 0 0,z0 6 68,z6 8 7 70]) (.seq (.reg [z3 71 5 7,z4 72 1 71,z7 73 72 1,z0 74 73,zD 75 74 3,zD 76 74 6,⟨some 77,some (74,true),.look true (.bool false) false (.tmp 75) (.tmp 76)⟩,⟨some 78,some (74,true),.not (.tmp 77)⟩,zE 79 74 78]) (.cond (.tmp 79) (.seq (.reg [zF 2]) .ret) .skip)))) (.reg [zN 80 66 1,z0 66 80]))))))) (.seq (.reg [zX 2]) .ret)))) .skip)) (.seq (.seq (.reg [z0 81
 0,z5 82 81,z3 83 4 82,z4 84 1 83,zG 85 84,zI 86 0]) (.block 4 (.loop (.seq (.reg [zQ 87 86 85]) (.seq (.cond (.tmp 87) .skip (.exit 4)) (.seq (.block 5 (.seq (.reg [z0 88 86,zC 89 8 84 86,z8 90 8 89,zV 9 0 0 0 0 0 0 0 0 0,z0 8 88,z6 8 9 90]) (.seq (.reg [z3 91 5 9,z4 92 1 91,z7 93 92 1,z0 94 93,zH 95 94 5 9,zK 96 94 1 95,ze 97 94 96 2,zL 98 94 97,zD 99 98 0,zJ 100 98 99,z9 101 98 5 100,zA 102
 98 1 101,⟨some 103,some (98,true),.bin .neq (.tmp 102) (.const (.int .i64 3))⟩,zD 104 98 103,zL 105 104 8,zL 106 104 0,zW 107 104 106,zH 108 104 6 107,zK 109 104 1 108,⟨some 110,some (104,false),.bin .lss (.tmp 105) (.tmp 109)⟩,q7 111 98 104 110,q6 112 94 98 111,zO 113 94 112]) (.cond (.tmp 113) (.seq (.reg [zF 2]) .ret) .skip)))) (.reg [zN 114 86 1,z0 86 114]))))))) (.seq (.reg [z0 115 0,z5
 116 115,z3 117 8 116,z4 118 1 117,zG 119 118,z7 120 119 0,z0 2 120]) .ret)))
theorem t22:Tryd.f22.body.bind (trC e22)=some c22:=by kernel_rfl
theorem r22:Tryd.f22.results.toList.mapM (trR Tryd.prog)=some [.tmp 2]:=by kernel_rfl
theorem fn22{args:List Value}{M:Mem}{post:Value→Mem→Prop}(hl:args.length≤121)(h:VC e22 c22 (fnQ [.tmp 2] post) (initS args 121) M):Fn Tryd.prog 22 args M post:=
 Fn.of' (E:=e22) Tryd.func22 t22 rfl r22 mixed hl h
noncomputable def e23:Env:=⟨Tryd.prog,[],107,[(10,19),(12,24),(13,17)]⟩
noncomputable def c23:C:=
 .seq (.reg [zF 2]) (.seq (.seq (.reg [z0 3 0,z5 4 3,z3 5 5 4,z4 6 1 5]) (.block 0 (.seq (.seq (.reg [z7 8 6 0,z0 7 8]) (.cond (.tmp 7) .skip (.reg [z7 9 6 4,z0 7 9]))) (.cond (.tmp 7) (.seq (.reg [z0 10 0,z5 11 10,z3 12 6 11,z4 13 1 12,z7 14 13 0,z0 15 14,zD 16 15 0,zJ 17 15 16,z9 18 15 7 17,zA 19 15 1 18,zT 20 15 19 0,zE 21 15 20,z0 2 21]) .ret) (.seq (.reg [z7 23 6 2,z0 22 23]) (.cond
 (.tmp 22) (.seq (.seq (.reg [z0 24 0,z5 25 24,z3 26 6 25,z4 27 1 26,zo 28 27 0]) (.cond (.tmp 28) (.seq (.reg [zF 2]) .ret) .skip)) (.seq (.seq (.reg [z0 29 0,z5 30 29,z3 31 8 30,z4 32 1 31,zG 33 32,z7 34 33 0]) (.cond (.tmp 34) (.seq (.reg [z0 35 0,z5 36 35,z3 37 7 36,z4 38 1 37,z7 39 38 0,z0 2 39]) .ret) .skip)) (.seq (.dreg 19 [z0 40 0,z5 41 40,z3 42 7 41,z4 43 1 42,z0 44 0,z5 45 44,z3 46
 4 45,z4 47 1 46,z0 48 0,z5 49 48,z3 50 8 49,z4 51 1 50,zm 52 1 51 0,z4 53 1 52,zC 54 8 47 53,z3 55 7 54,z4 56 1 55,zG 57 56,zy 58 43 57,z0 2 58]) .ret))) (.seq (.reg [z7 60 6 5,z0 59 60]) (.cond (.tmp 59) (.seq (.dreg 24 [z0 61 0,z5 62 61,z3 63 6 62,z4 64 1 63,z0 65 0,z5 66 65,z3 67 4 66,z4 68 1 67,zG 69 68,zQ 70 64 69,z0 71 70,zD 72 71 0,zJ 73 71 72,z9 74 71 4 73,zA 75 71 1 74,zD 76 71 0,zJ 77
 71 76,z9 78 71 6 77,zA 79 71 1 78,zt 80 71 8 75 79,z9 81 71 0 80,zA 82 71 1 81,zT 83 71 82 1,zE 84 71 83]) (.cond (.tmp 84) (.seq (.dreg 17 [z0 85 0,z5 86 85,z3 87 7 86,z4 88 1 87,z0 89 0,z5 90 89,z3 91 4 90,z4 92 1 91,z0 93 0,z5 94 93,z3 95 6 94,z4 96 1 95,zC 97 8 92 96,z3 98 7 97,z4 99 1 98,zG 100 99,zy 101 88 100,z0 2 101]) .ret) .skip)) .skip)))))))) (.seq (.reg [z0 102 0,z5 103 102,z3 104
 7 103,z4 105 1 104,z7 106 105 0,z0 2 106]) .ret))
theorem t23:Tryd.f23.body.bind (trC e23)=some c23:=by kernel_rfl
theorem r23:Tryd.f23.results.toList.mapM (trR Tryd.prog)=some [.tmp 2]:=by kernel_rfl
theorem fn23{args:List Value}{M:Mem}{post:Value→Mem→Prop}(hl:args.length≤107)(h:VC e23 c23 (fnQ [.tmp 2] post) (initS args 107) M):Fn Tryd.prog 23 args M post:=
 Fn.of' (E:=e23) Tryd.func23 t23 rfl r23 mixed hl h
noncomputable def e24:Env:=⟨Tryd.prog,[4,7],97,[]⟩
noncomputable def c24:C:=
 .seq (.reg [zF 2]) (.seq (.seq (.reg [z0 8 0,zM 9 35 8,zU 10 9]) (.cond (.tmp 10) (.seq (.reg [zX 2]) .ret) .skip)) (.seq (.seq (.reg [z0 11 0,z5 12 11,z3 13 4 12,z4 14 1 13,zG 15 14,zI 16 0]) (.block 0 (.loop (.seq (.reg [zQ 17 16 15]) (.seq (.cond (.tmp 17) .skip (.exit 0)) (.seq (.block 1 (.seq (.reg [z0 18 16,zC 19 8 14 16,z8 20 8 19,zV 4 0 0 0 0 0 0 0 0 0,z0 3 18,z6 8 4 20]) (.seq
 (.seq (.reg [z8 21 8 4,zM 22 33 21,z0 23 22,z9 24 23 5 4,zA 25 23 1 24,zT 26 23 25 0,zE 27 23 26,z0 28 27,zD 29 28 0,zJ 30 28 29,z9 31 28 5 30,zA 32 28 1 31,zT 33 28 32 2,zD 34 28 33,zL 35 34 3,zL 36 34 0,zW 37 34 36,zH 38 34 6 37,zK 39 34 1 38,⟨some 40,some (34,false),.bin .lss (.tmp 35) (.tmp 39)⟩,q7 41 28 34 40,zE 42 28 41]) (.cond (.tmp 42) (.seq (.reg [zF 2]) .ret) .skip)) (.seq (.reg [zI
 5 0]) (.seq (.seq (.reg [z3 43 5 4,z4 44 1 43,z7 45 44 2]) (.cond (.tmp 45) (.reg [z3 46 7 4,z4 47 1 46,zG 48 47,z0 5 48]) (.seq (.reg [z0 49 0,z5 50 49,z3 51 5 50,z4 52 1 51,z7 53 52 2,z0 54 53,zD 55 54 0,zJ 56 54 55,z9 57 54 8 56,zA 58 54 1 57,zi 59 54 58,⟨some 60,some (54,true),.bin .gtr (.tmp 59) (.const (.int .i64 0))⟩,zE 61 54 60,z0 62 61,zD 63 62 0,zJ 64 62 63,z9 65 62 8 64,zA 66 62 1
 65,⟨some 67,some (62,true),.iaddr 1 (.tmp 66) (.const (.int .i64 0))⟩,zA 68 62 1 67,zD 69 62 3,⟨some 70,some (62,true),.bin .eql (.tmp 68) (.tmp 69)⟩,zE 71 62 70]) (.cond (.tmp 71) (.reg [z0 72 0,z5 73 72,z3 74 7 73,z4 75 1 74,z0 5 75]) .skip)))) (.seq (.reg [z3 76 7 4,z4 77 1 76,z0 78 5,⟨some 79,none,.slc 6 (.tmp 77) none (some (.tmp 78))⟩,zG 80 79,zI 81 0]) (.block 2 (.loop (.seq (.reg [zQ
 82 81 80]) (.seq (.cond (.tmp 82) .skip (.exit 2)) (.seq (.block 3 (.seq (.reg [zC 83 6 79 81,z8 84 6 83,qK 7 0 0 0 0 0 0,z6 6 7 84]) (.seq (.reg [z0 85 0,z3 86 0 7,z8 87 3 86,zP 88 36 85 87,z0 89 88,zL 90 89 0,zH 91 89 3 7,zw 92 89 3 91,qL 93 89 36 90 92,zO 94 89 93]) (.cond (.tmp 94) (.seq (.reg [zF 2]) .ret) .skip)))) (.reg [zN 95 81 1,z0 81 95])))))))))))) (.reg [zN 96 16 1,z0 16
 96]))))))) (.seq (.reg [zX 2]) .ret)))
theorem t24:Tryd.f24.body.bind (trC e24)=some c24:=by kernel_rfl
theorem r24:Tryd.f24.results.toList.mapM (trR Tryd.prog)=some [.tmp 2]:=by kernel_rfl
theorem fn24{args:List Value}{M:Mem}{post:Value→Mem→Prop}(hl:args.length≤97)(h:VC e24 c24 (fnQ [.tmp 2] post) (initS args 97) M):Fn Tryd.prog 24 args M post:=
 Fn.of' (E:=e24) Tryd.func24 t24 rfl r24 mixed hl h
noncomputable def e25:Env:=⟨Tryd.prog,[],33,[]⟩
noncomputable def c25:C:=
 .seq (.reg [zF 2]) (.seq (.seq (.reg [z0 4 0,z5 5 4,z3 6 6 5,z4 7 1 6,z0 3 7]) (.block 0 (.loop (.seq (.seq (.reg [z0 8 0,z5 9 8,z3 10 5 9,z4 11 1 10,z7 12 11 6,z0 13 12,zD 14 13 3,zD 15 13 0,zJ 16 13 15,z9 17 13 4 16,zA 18 13 1 17,zi 19 13 18,⟨some 20,some (13,true),.bin .lss (.tmp 14) (.tmp 19)⟩,zE 21 13 20]) (.cond (.tmp 21) .skip (.exit 0))) (.seq (.block 1 (.seq (.reg [z0 24 0,z5 25 24,
 z3 26 4 25,z4 27 1 26,z0 28 3,zC 29 8 27 28,z3 30 0 29,z4 31 1 30,z7 32 31 2]) (.cond (.tmp 32) (.seq (.reg [zF 2]) .ret) .skip))) (.reg [z0 22 3,zN 23 22 1,z0 3 23])))))) (.seq (.reg [zX 2]) .ret))
theorem t25:Tryd.f25.body.bind (trC e25)=some c25:=by kernel_rfl
theorem r25:Tryd.f25.results.toList.mapM (trR Tryd.prog)=some [.tmp 2]:=by kernel_rfl
theorem fn25{args:List Value}{M:Mem}{post:Value→Mem→Prop}(hl:args.length≤33)(h:VC e25 c25 (fnQ [.tmp 2] post) (initS args 33) M):Fn Tryd.prog 25 args M post:=
 Fn.of' (E:=e25) Tryd.func25 t25 rfl r25 mixed hl h
noncomputable def e13:Env:=⟨Tryd.prog,[],26,[]⟩
noncomputable def c13:C:=
 .seq (.reg [⟨some 1,none,.box false (.tmp 0)⟩,zI 2 0]) (.seq (.seq (.reg [zf 5 18 1,zf 6 19 1,zf 7 20 1,zf 8 21 1,zf 9 22 1,zf 10 23 1,zf 11 24 1,zf 12 25 1,⟨some 13,none,.bslice false 8 1 [.nilFunc,.nilFunc,.nilFunc,.nilFunc,.nilFunc,.nilFunc,.nilFunc,.nilFunc] [(0,1,.tmp 5),(1,1,.tmp 6),(2,1,.tmp 7),(3,1,.tmp 8),(4,1,.tmp 9),(5,1,.tmp 10),(6,1,.tmp 11),(7,1,.tmp 12)]⟩,zG 14 13,zI 15 0])
 (.block 0 (.loop (.seq (.reg [zQ 16 15 14]) (.seq (.cond (.tmp 16) .skip (.exit 0)) (.seq (.block 1 (.seq (.reg [z0 17 15,zC 18 1 13 15,z4 19 1 18,z0 3 17,z0 4 19]) (.seq (.reg [z0 20 4,⟨some 21,none,.callv (.tmp 20) []⟩,zU 22 21]) (.cond (.tmp 22) (.seq (.reg [z0 23 3,zN 24 23 1,z0 2 24]) .ret) .skip)))) (.reg [zN 25 15 1,z0 15 25]))))))) (.seq (.reg [zI 2 0]) .ret))
theorem t13:Tryd.f13.body.bind (trC e13)=some c13:=by kernel_rfl
theorem r13:Tryd.f13.results.toList.mapM (trR Tryd.prog)=some [.tmp 2]:=by kernel_rfl
theorem fn13{args:List Value}{M:Mem}{post:Value→Mem→Prop}(hl:args.length≤26)(h:VC e13 c13 (fnQ [.tmp 2] post) (initS args 26) M):Fn Tryd.prog 13 args M post:=
 Fn.of' (E:=e13) Tryd.func13 t13 rfl r13 mixed hl h
end Go.Proofs.YtpleoapljeffiaaDoor.E
namespace Go.Proofs.YtpleoapljeffiaaDoor.E
open Go
open Classical
theorem unitsN_nn(cs:List Cell):0≤unitsN cs:=by
 unfold unitsN
 induction cs with
 |nil=>simp
 |cons c r ih=>
  simp only[List.map_cons,List.sum_cons]
  have:0≤c.units:=by unfold Cell.units;split<;>omega
  omega
theorem unitsN_take{cs:List Cell}{i:Nat}{c:Cell}(h:cs[i]?=some c):unitsN (cs.take (i+1))=unitsN (cs.take i)+c.units:=by
 unfold unitsN
 rw[List.take_add_one,h];simp
theorem unitsN_le{cs:List Cell}(h:∀c,c∈cs→c.pairs.length≤200):∀i:Nat,unitsN (cs.take i)≤201*i:=by
 intro i
 induction i with
 |zero=>simp[unitsN]
 |succ i ih=>
  cases hc:cs[i]? with
  |none=>
   have hl:cs.length≤i:=List.getElem?_eq_none_iff.1 hc
   rw[List.take_of_length_le (by omega)]at ih⊢;omega
  |some c=>
   rw[unitsN_take hc]
   have:=h c (List.mem_of_getElem? hc)
   have:c.units≤201:=by unfold Cell.units;split<;>omega
   omega
theorem R2.pl{H:Heap}(h:R2 H){c:Cell}(hc:c∈H.cells):c.pairs.length≤200:=by
 obtain⟨i,hi⟩:=List.getElem?_of_mem hc
 rcases h.each i c hi with h|h|h
 ·rw[h.2.1.2.2.2.2.2];simp
 ·rw[h.2.1.2.2.2.2.2];simp
 ·exact h.2.2.2.2.2.2.2
theorem HX.at{x:HX}{i:Nat}(h:i<x.xs.length):∃y,x.xs[i]?=some y∧x.H.cells[i]?=some y.c:=by
 refine⟨_,List.getElem?_eq_getElem h,?_⟩
 simp[HX.H,List.getElem?_map,List.getElem?_eq_getElem h]
theorem rule3_q{m:Mem}{a:Nat}{x:HX}(h:Has m (hp a x))(h1:R1 x.H)(h2:R2 x.H):Qt Tryd.prog 20 [ptr a] m (.bool (decide (R3 x.H))):=by
 have hc:=h1.cells
 have hr:=h1.room
 have hl:=x.len
 have hu:=unitsN_le (cs:=x.H.cells) (fun c=>h2.pl)
 refine qt_of (fnA_of (fun h=>fn20 (by simp) h) ?_)
 repeat' (first
  |(refine k_L ?_;first|refine a_p rfl ?_|(refine k_l ?_;refine g_l rfl ?_))
  |refine a_n ?_
  |(refine k_V ?_;first|refine v_seq ?_|refine v_reg ?_)
  |refine s_n ?_)
 refine g_range x.xs.length (fun n:Int=>[(0,.v (ptr a)),(3,.v (.int .i64 n)),(9,.v (.slice x.cd.a x.xs.length x.cd.cap))]) (fun _=>[ro m]) (fun i n=>n=unitsN (x.H.cells.take i)) 0 rfl (fun i n hi hn=>?_) (fun n hn=>?_)
 ·obtain⟨y,gy,gc⟩:=HX.at hi
  have hu1:=hu i
  have hu2:=hu (i+1)
  have hu3:=unitsN_nn (x.H.cells.take i)
  rw[unitsN_take gc]at hu2
  have hp:=h2.pl (List.mem_of_getElem? gc)
  have hu4:0≤y.c.units:=by unfold Cell.units;split<;>omega
  repeat' (first
   |(refine k_L ?_;first|(refine k_ad ?_;refine g_ad rfl rfl ?_)|refine a_p rfl ?_|(refine k_i ?_;refine g_i rfl rfl ?_)|(refine k_ls ?_;refine g_ls rfl ?_)|(refine k_st ?_;refine g_sw rfl rfl rfl rfl (Nat.le_of_ble_eq_true rfl) ?_)|(refine k_al ?_;refine a_al ?_)|(refine k_c ?_;refine a_cq rfl (fun m hm=>units_q (y:=y) (by omega)) ?_))
   |refine a_n ?_
   |(refine k_V ?_;first|refine v_seq ?_|refine v_reg ?_)
   |refine sk_zero ?_
   |refine sk_succ ?_
   |refine wk_nil ?_
   |refine wk_cons ?_)
  exact r_nx (n+y.c.units) (by rw[unitsN_take gc,hn])
 ·rw[List.take_of_length_le (by omega)]at hn
  subst hn
  repeat' (first
   |(refine k_L ?_;first|refine a_p rfl ?_|(refine k_g ?_;first|refine a_gy rfl rfl ?_|refine a_gn rfl rfl ?_|(refine a_gd rfl (fun hb=>?_) (fun hb=>?_)<;>try(exfalso;omega)))|(refine k_l ?_;refine g_l rfl ?_))
   |refine a_n ?_
   |(refine k_V ?_;first|refine v_seq ?_|refine v_reg ?_|refine v_ret ?_))
  all_goals refine fa_r (fun _ _=>rfl) (Ent.refl _) ⟨bool_dec ?_,rfl⟩
  all_goals simp_all [R3,HX.hdr,HX.H]
  all_goals trace_state
theorem ret_t{p:Prop}{_:Decidable p}(h:p):Value.bool true=.bool (decide p):=by rw[decide_eq_true h]
theorem ret_f{p:Prop}{_:Decidable p}(h:¬p):Value.bool false=.bool (decide p):=by rw[decide_eq_false h]
theorem Has.lens{m:Mem}{a:Nat}{x:HX}(h:Has m (hp a x)):x.regs.length≤140737488355328∧x.xs.length≤140737488355328∧x.gray.length≤140737488355328:=by
 obtain⟨b,l,s⟩:=h
 refine⟨(kn_t (kn_h bd_sl):Kn (hp a x) _).out b s,(kn_t (kn_t (kn_h kb_cl)):Kn (hp a x) _).out b s,(kn_t (kn_t (kn_t (kn_h bd_sl))):Kn (hp a x) _).out b s⟩
theorem R1_iff(H:Heap):R1 H↔((1≤H.room∧H.room≤4000)∧H.regs.length=16∧(H.cells.length:Int)≤2*H.room∧H.gray.length≤H.cells.length∧(0≤H.born∧H.born≤1000000000)∧(0≤H.rounds∧H.rounds≤1000000000)∧(0≤H.forced∧H.forced≤1000000000)∧(0≤H.per∧H.per≤64)∧(0≤H.start∧H.start≤4000)∧(0≤H.phase∧H.phase≤6)∧(0≤H.hand∧H.hand≤H.cells.length)∧(0≤H.sub∧H.sub≤200)):=
 ⟨fun⟨a,b,c,d,e,f,g,h,i,j,k,l⟩=>⟨a,b,c,d,e,f,g,h,i,j,k,l⟩,fun⟨a,b,c,d,e,f,g,h,i,j,k,l⟩=>⟨a,b,c,d,e,f,g,h,i,j,k,l⟩⟩
theorem rule1_q{m:Mem}{a:Nat}{x:HX}(h:Has m (hp a x)):Qt Tryd.prog 18 [ptr a] m (.bool (decide (R1 x.H))):=by
 have hb:=h.lens
 refine qt_of (fnA_of (fun h=>fn18 (by simp) h) ?_)
 repeat' (first
  |(refine k_L ?_;first|(refine k_ml ?_;refine g_ml rfl rfl ?_)|refine a_p rfl ?_|(refine k_g ?_;first|refine a_gy rfl rfl ?_|refine a_gn rfl rfl ?_|(refine a_gd rfl (fun hb=>?_) (fun hb=>?_)<;>try(exfalso;omega)))|(refine k_l ?_;refine g_l rfl ?_)|(refine k_c ?_;refine a_cq rfl (fun m hm=>impl.withinQ) ?_))
  |refine a_n ?_
  |(refine k_V ?_;first|refine v_seq ?_|refine v_reg ?_|refine v_ret ?_))
 all_goals refine fa_r (fun _ _=>rfl) (Ent.refl _) ⟨bool_dec ?_,rfl⟩
 all_goals (rw[R1_iff];(try simp only[decide_eq_true_eq]);simp only[HX.hdr,Hdr.s_room,Hdr.s_used,Hdr.s_born,Hdr.s_phase,Hdr.s_hand,Hdr.s_sub,Hdr.s_per,Hdr.s_start,Hdr.s_rounds,Hdr.s_forced,Hdr.s_rd,Hdr.s_cd,Hdr.s_gd,HX.H,List.length_map]at*)
 all_goals simp_all
 all_goals omega
theorem HX.atI{x:HX}{i:Int}(h0:0≤i)(h:i<x.xs.length):∃y,x.xs[i.toNat]?=some y∧x.H.getC i=y.c:=by
 obtain⟨y,h1,h2⟩:=HX.at (x:=x) (i:=i.toNat) (by omega)
 refine⟨y,h1,?_⟩
 unfold Heap.getC
 rw[List.getD_eq_getElem?_getD,h2];rfl
theorem rule6_q{m:Mem}{a:Nat}{x:HX}(h:Has m (hp a x))(h1:R1 x.H)(h5:R5 x.H):Qt Tryd.prog 23 [ptr a] m (.bool (decide (R6 x.H))):=by
 have hb:=h.lens
 have hh:=h1.hand
 have hl:=x.len
 refine qt_of (fnA_of (fun h=>fn23 (by simp) h) ?_)
 by_cases hp2:x.phase=2
 ·have hm:=(h5.mark (.inr hp2)).2.1
  have hp2':x.hdr.phase=2:=hp2
  cases hg:x.gray with
  |nil=>
   have hgl:(x.hdr.ng:Int)=0:=by simp[HX.hdr,hg]
   have hgl2:x.gray.length=0:=by simp[hg]
   have hg':x.H.gray=[]:=hg
   repeat' (first
    |(refine k_L ?_;first|refine a_p rfl ?_|(refine k_l ?_;refine g_l rfl ?_))
    |refine a_n ?_
    |(refine k_V ?_;first|refine v_rv ?_|refine v_seq ?_|refine v_reg ?_|refine v_bs ?_|refine v_ret ?_|refine v_skip ?_|(refine v_cd rfl (fun hb=>?_) (fun hb=>?_)<;>try(exfalso;omega))|(refine v_cn rfl (fun hb=>?_) (fun hb=>?_)<;>try(exfalso;omega)))
    |refine s_r ?_
    |refine b_r ?_)
   all_goals refine fa_r (fun _ _=>rfl) (Ent.refl _) ⟨bool_dec ?_,rfl⟩
   all_goals simp_all [R6,HX.hdr,Hdr.s_room,Hdr.s_used,Hdr.s_born,Hdr.s_phase,Hdr.s_hand,Hdr.s_sub,Hdr.s_per,Hdr.s_start,Hdr.s_rounds,Hdr.s_forced,Hdr.s_rd,Hdr.s_cd,Hdr.s_gd,HX.H]
  |cons g r=>
   have hgl1:(x.hdr.ng:Int)=r.length+1:=by simp[HX.hdr,hg]
   have hg':x.H.gray=g::r:=hg
   obtain⟨g0,g1,_⟩:=hm g (by rw[hg'];simp)
   obtain⟨y,gy,gc⟩:=HX.atI (x:=x) g0 (by omega)
   have g00:x.gray[(0:Int).toNat]?=some g:=by rw[hg];rfl
   have hgl:(x.gray.length:Int)=r.length+1:=by rw[hg];simp
   repeat' (first
    |(refine k_L ?_;first|refine a_p rfl ?_|(refine k_l ?_;refine g_l rfl ?_)|(refine k_i ?_;refine g_i rfl rfl ?_))
    |refine a_n ?_
    |(refine k_V ?_;first|refine v_rv ?_|refine v_seq ?_|refine v_reg ?_|refine v_dreg ?_|refine v_bs ?_|refine v_ret ?_|refine v_skip ?_|(refine v_cd rfl (fun hb=>?_) (fun hb=>?_)<;>try(exfalso;omega))|(refine v_cn rfl (fun hb=>?_) (fun hb=>?_)<;>try(exfalso;omega)))
    |refine s_r ?_
    |refine b_r ?_)
   all_goals refine fa_r (fun _ _=>rfl) (Ent.refl _) ⟨bool_dec ?_,rfl⟩
   all_goals simp_all [R6,HX.hdr,Hdr.s_room,Hdr.s_used,Hdr.s_born,Hdr.s_phase,Hdr.s_hand,Hdr.s_sub,Hdr.s_per,Hdr.s_start,Hdr.s_rounds,Hdr.s_forced,Hdr.s_rd,Hdr.s_cd,Hdr.s_gd]
   all_goals simp_all [HX.H]
 ·have hp2':¬x.hdr.phase=2:=hp2
  by_cases hh5:x.hand<x.xs.length
  ·obtain⟨y,gy,gc⟩:=HX.atI (x:=x) hh.1 hh5
   have hh5':x.hdr.hand<x.hdr.nc:=hh5
   repeat' (first
    |(refine k_L ?_;first|refine a_p rfl ?_|(refine k_g ?_;first|refine a_gy rfl rfl ?_|refine a_gn rfl rfl ?_|(refine a_gd rfl (fun hb=>?_) (fun hb=>?_)<;>try(exfalso;omega)))|(refine k_l ?_;refine g_l rfl ?_)|(refine k_i ?_;refine g_i rfl rfl ?_))
    |refine a_n ?_
    |(refine k_V ?_;first|refine v_seq ?_|refine v_reg ?_|refine v_dreg ?_|refine v_bs ?_|refine v_ret ?_|refine v_skip ?_|(refine v_cd rfl (fun hb=>?_) (fun hb=>?_)<;>try(exfalso;omega)))
    |refine s_r ?_
    |refine b_r ?_)
   all_goals refine fa_r (fun _ _=>rfl) (Ent.refl _) ⟨bool_dec ?_,rfl⟩
   all_goals simp_all [R6,HX.hdr,Hdr.s_room,Hdr.s_used,Hdr.s_born,Hdr.s_phase,Hdr.s_hand,Hdr.s_sub,Hdr.s_per,Hdr.s_start,Hdr.s_rounds,Hdr.s_forced,Hdr.s_rd,Hdr.s_cd,Hdr.s_gd]
   all_goals simp_all [HX.H]
  ·have hh5':¬(x.hdr.hand<x.hdr.nc):=hh5
   repeat' (first
    |(refine k_L ?_;first|refine a_p rfl ?_|(refine k_g ?_;first|refine a_gy rfl rfl ?_|refine a_gn rfl rfl ?_|(refine a_gd rfl (fun hb=>?_) (fun hb=>?_)<;>try(exfalso;omega)))|(refine k_l ?_;refine g_l rfl ?_))
    |refine a_n ?_
    |(refine k_V ?_;first|refine v_seq ?_|refine v_reg ?_|refine v_dreg ?_|refine v_bs ?_|refine v_ret ?_|refine v_skip ?_|refine v_cf rfl ?_|(refine v_cd rfl (fun hb=>?_) (fun hb=>?_)<;>try(exfalso;omega)))
    |refine s_r ?_
    |refine b_r ?_)
   all_goals refine fa_r (fun _ _=>rfl) (Ent.refl _) ⟨bool_dec ?_,rfl⟩
   all_goals simp_all [R6,HX.hdr,Hdr.s_room,Hdr.s_used,Hdr.s_born,Hdr.s_phase,Hdr.s_hand,Hdr.s_sub,Hdr.s_per,Hdr.s_start,Hdr.s_rounds,Hdr.s_forced,Hdr.s_rd,Hdr.s_cd,Hdr.s_gd]
   all_goals simp_all [HX.H]
   all_goals (intros;exfalso;omega)
section
variable {m0 m:Mem} {a:Nat} {x:HX} {w:Word} {As F:List Asr} {i k:Int} {mv:Bool}
theorem has_g{Bs:List Asr}(h:Has m0 Bs)(hm:star As m)(hp:Pm As [ro m0] F:=by exact pmt):Has m Bs:=h.le (ro_of hm hp)
theorem formed_g(h:Has m0 (hp a x))(hm:star As m)(hp:Pm As [ro m0] F:=by exact pmt):Qt Tryd.prog 30 [ptr a,wa w] m (.bool (decide (Formed x.H w))):=formed_q (h.le (ro_of hm hp)).ph
theorem marking_g(h:Has m0 (hp a x))(hm:star As m)(hp:Pm As [ro m0] F:=by exact pmt):Qt Tryd.prog 35 [ptr a] m (.bool (decide (Marking x.H))):=marking_q (h.le (ro_of hm hp)).ph
theorem doomed_g(h:Has m0 (hp a x))(h0:0≤i)(h1:i<x.H.cells.length)(hm:star As m)(hp:Pm As [ro m0] F:=by exact pmt):Qt Tryd.prog 32 [ptr a,.int .i64 i] m (.bool (decide (Doomed x.H i))):=doomed_q (h.le (ro_of hm hp)).ph h0 h1
theorem mended_g(h:Has m0 (hp a x))(hm:star As m)(hp:Pm As [ro m0] F:=by exact pmt):Qt Tryd.prog 34 [ptr a,.int .i64 i,.int .i64 k] m (.bool (decide (Mended x.H i k))):=mended_q (h.le (ro_of hm hp)).ph
theorem white_g(h:Has m0 (hp a x))(hf:Formed x.H w)(hm:star As m)(hp:Pm As [ro m0] F:=by exact pmt):Qt Tryd.prog 36 [ptr a,wa w] m (.bool (decide (White x.H w))):=white_q (h.le (ro_of hm hp)).ph hf
theorem leadsWell_g(h:Has m0 (hp a x))(hf:Formed x.H w)(hm:star As m)(hp:Pm As [ro m0] F:=by exact pmt):Qt Tryd.prog 31 [ptr a,wa w,.bool mv] m (.bool (decide (LeadsWell x.H w (mv=true)))):=leadsWell_q (h.le (ro_of hm hp)).ph hf
end
theorem fa_q{rl:List RV}{S:St}{m:Mem}{As F:List Asr}{v r:Value}{y:X}(hy:∀i,y≠.ext i)(h:∀m,star As m→resV S m rl=some v)(e:v=r)(hm:Pm As [ro m] F:=by exact pmt):fnA rl (fun v As=>v=r∧As=[ro m]) y S As:=by
 cases y with
 |ext i=>exact absurd rfl (hy i)
 |nrm=>exact⟨v,[ro m],h,hm.ent,e,rfl⟩
 |ret=>exact⟨v,[ro m],h,hm.ent,e,rfl⟩
theorem q_T{rl:List RV}{S:St}{m:Mem}{As F:List Asr}{p:Prop}{_:Decidable p}(hp:p)(h:∀m,star As m→resV S m rl=some (.bool true):=by(intro _ _;rfl))(hm:Pm As [ro m] F:=by exact pmt):fnA rl (fun v As=>v=.bool (decide p)∧As=[ro m]) .ret S As:=⟨_,[ro m],h,hm.ent,ret_t hp,rfl⟩
theorem q_F{rl:List RV}{S:St}{m:Mem}{As F:List Asr}{p:Prop}{_:Decidable p}(hp:¬p)(h:∀m,star As m→resV S m rl=some (.bool false):=by(intro _ _;rfl))(hm:Pm As [ro m] F:=by exact pmt):fnA rl (fun v As=>v=.bool (decide p)∧As=[ro m]) .ret S As:=⟨_,[ro m],h,hm.ent,ret_f hp,rfl⟩
theorem q_B{rl:List RV}{S:St}{m:Mem}{As F:List Asr}{p:Prop}{_:Decidable p}{b:Bool}(h:∀m,star As m→resV S m rl=some (.bool b))(hp:b=true↔p)(hm:Pm As [ro m] F:=by exact pmt):fnA rl (fun v As=>v=.bool (decide p)∧As=[ro m]) .ret S As:=⟨_,[ro m],h,hm.ent,by congr 1;rw[Bool.eq_iff_iff,hp];simp,rfl⟩
end Go.Proofs.YtpleoapljeffiaaDoor.E
