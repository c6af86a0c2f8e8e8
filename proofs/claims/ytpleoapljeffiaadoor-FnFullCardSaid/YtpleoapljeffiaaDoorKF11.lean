/- A part of the proof. Conditions: none. -/
import Derived.Test.YtpleoapljeffiaaDoorKF10
import Derived.LaidMore
import Derived.OpenVars
import Derived.ChangeArms
import Derived.Test.YtpleoapljeffiaaDoorRows
import Derived.Stop.Joined
set_option linter.unusedVariables false
set_option linter.unusedSimpArgs false
set_option maxHeartbeats 8000000
set_option maxRecDepth 100000
namespace Go.Proofs.YtpleoapljeffiaaDoor.E
open Go
open Classical
theorem used_b{z:HX}(h:Sound z.H):0≤z.hdr.used∧z.hdr.used≤4000:=by
 have h1:=h.r1.room
 have h2:=h.r3
 have h3:=unitsN_nn z.H.cells
 have e1:z.hdr.used=z.H.used:=rfl
 unfold R3 at h2
 omega
def HX.frc(x:HX)(n:Int):HX:={x with forced:=n}
theorem step_begun{H:Heap}(hp:H.phase=0){n:Int}(hn:n≠0):(H.enterH 1).stepH n=H.stepH n:=by
 have e1:(H.enterH 1).beginH=H.enterH 1:=by unfold Heap.beginH;rw[if_neg (by show ¬(1:Int)=0;omega)]
 have e2:H.beginH=H.enterH 1:=by unfold Heap.beginH;rw[if_pos hp]
 unfold Heap.stepH stepN
 simp only[if_neg hn,e1,e2]
theorem b_p{P:Program}{r:List I}{d:Option Nat}{post:St→List Asr→Prop}{S:St}{As:List Asr}{k:K}{sv:SV}(h:pe S k=some sv)(hp:LA P r post (put S d sv) As):LA P (⟨d,none,k⟩::r) post S As:=a_p h hp
theorem b_w{P:Program}{r:List I}{d:Option Nat}{post:St→List Asr→Prop}{S:St}{As:List Asr}{k:K}(w:Word)(h:pe S k=some (.v (wa w)))(hp:LA P r post (put S d (.v (wa w))) As):LA P (⟨d,none,k⟩::r) post S As:=a_p h hp
abbrev WE:=D×List Word
def PairOk(H:Heap)(seen:List Bool)(W:List WE)(c:Cell)(p:Pair):Prop:=
 (KeyW c→Hit H seen p.key)∧(ValW c→Hit H seen p.val∨∃k e,H.tgt p.key=some k∧W[k]?=some e∧p.val∈e.2)
structure HI (H:Heap) (s:List Bool×List Int) (W:List WE) (B:Nat) (pc:Nat) (ex ew:Nat→Prop):Prop where
 mk':Mk H (Held H) s
 pc:pc+s.2.length+s.1.count false≤H.cells.length
 wl:W.length=H.cells.length
 wlen:∀e,e∈W→e.2.length≤B
 wok:∀(k:Nat) e,W[k]?=some e→∀w,w∈e.2→Formed H w∧(Held H k→∀j,H.tgt w=some j→j<H.cells.length∧Held H j)
 rule:∀(i:Nat) c,s.1[i]?=some true→(i:Int)∉s.2→¬ex i→H.cells[i]?=some c→∀p,p∈c.pairs→PairOk H s.1 W c p
 empt:∀(k:Nat) e,W[k]?=some e→s.1[k]?=some true→(k:Int)∉s.2→¬ew k→e.2=[]
theorem PairOk.grow{H:Heap}{s t:List Bool×List Int}{W:List WE}{c:Cell}{p:Pair}(h:PairOk H s.1 W c p)(g:Grow s t):PairOk H t.1 W c p:=
 ⟨fun k=>(h.1 k).grow g,fun v=>(h.2 v).imp (fun h=>h.grow g) id⟩
theorem HI.mark{H:Heap}{s:List Bool×List Int}{W:List WE}{B pc:Nat}{ex ew:Nat→Prop}{w:Word}(h:HI H s W B pc ex ew)(hw:∀j,H.tgt w=some j→j<H.cells.length∧Held H j):HI H (mkW H s w) W B pc ex ew∧Grow s (mkW H s w)∧Hit H (mkW H s w).1 w:=by
 obtain⟨a,g,d⟩:=mkW_ok h.mk' hw
 have hn:∀i:Nat,(mkW H s w).1[i]?=some true→(i:Int)∉(mkW H s w).2→s.1[i]?=some true∧(i:Int)∉s.2:=fun i h1 h2=>⟨(g.new i h1).elim id fun h'=>absurd h' h2,fun h'=>h2 (g.old _ h')⟩
 refine⟨⟨a,?_,h.wl,h.wlen,h.wok,fun i c h1 h2 h3 h4 p hp=>(h.rule i c (hn i h1 h2).1 (hn i h1 h2).2 h3 h4 p hp).grow g,fun k e h1 h2 h3 h4=>h.empt k e h1 (hn k h2 h3).1 (hn k h2 h3).2 h4⟩,g,d⟩
 have:=h.pc
 unfold mkW
 split
 ·split
  ·rename_i j _ hs
   have:=count_set hs
   simp only[List.length_append,List.length_singleton]
   omega
  ·exact this
 ·exact this
theorem HI.weak{H:Heap}{s:List Bool×List Int}{W:List WE}{B B' pc:Nat}{ex ew:Nat→Prop}(h:HI H s W B pc ex ew)(hB:B≤B'):HI H s W B' pc ex ew:=⟨h.mk',h.pc,h.wl,fun e he=>Nat.le_trans (h.wlen e he) hB,h.wok,h.rule,h.empt⟩
theorem HI.done{H:Heap}{s:List Bool×List Int}{W:List WE}{B pc j:Nat}{c:Cell}(h:HI H s W B pc (fun i=>i=j) (fun _=>False))(hc:H.cells[j]?=some c)(hp:∀p,p∈c.pairs→PairOk H s.1 W c p):HI H s W B pc (fun _=>False) (fun _=>False):=
 ⟨h.mk',h.pc,h.wl,h.wlen,h.wok,fun i c' h1 h2 _ h4 p hp'=>by
   by_cases e:i=j
   ·subst e;rw[hc]at h4;cases h4;exact hp p hp'
   ·exact h.rule i c' h1 h2 e h4 p hp',h.empt⟩
theorem HI.fin{H:Heap}{seen:List Bool}{W:List WE}{B pc:Nat}(h:HI H (seen,[]) W B pc (fun _=>False) (fun _=>False))(hf:HFull H seen):seen=heldL H:=
 held_end h.mk' hf fun i c hi hc p hp=>by
  obtain⟨r1,r2⟩:=h.rule i c hi (by simp) (fun h=>h) hc p hp
  refine⟨r1,fun hv hk=>?_⟩
  rcases r2 hv with r|⟨k,e,ht,he,hm⟩
  ·exact r
  ·have:=h.empt k e he (hk k ht) (by simp) (fun h=>h)
   rw[this]at hm;cases hm
structure Cod (m:Mem) (ca:Option Addr) (cn:Nat):Prop where
 at_:∀i:Nat,i<cn→∃b o v,ca=some ⟨b,o,none⟩∧cell m b (o+i*1)=some (.int .u8 v)∧0≤v∧v≤255
 bd:cn≤9223372036854775807
theorem wrap64{n:Int}(h: -9223372036854775808≤n∧n≤9223372036854775807):IntKind.i64.wrap n=n:=IntWalk.i64_in n h
theorem rd_cod{m:Mem}{b o:Nat}{v:Value}(h:cell m b o=some v):RdA (ro m) b o v:=⟨fun m' hm=>by
 have hm:m'=m:=hm
 subst hm;exact h⟩
end Go.Proofs.YtpleoapljeffiaaDoor.E
namespace Go.Proofs.YtpleoapljeffiaaDoor.E
open Go Go.ChangeShapes Go.WideShapes Go.ChangeAt Go.RowKit
theorem und_byte:Tryd.prog.underlying 5=some (.int .u8):=by kernel_rfl
theorem cof_byte:Tryd.prog.cellsOf 5=1:=by kernel_rfl
theorem und_bytes:Tryd.prog.underlying 22=some (.slice 5):=by kernel_rfl
theorem ownknob:ownKnob Tryd.prog.godebug=none:=by kernel_rfl
theorem laid:laidOutB Tryd.prog=true:=by kernel_rfl
theorem und_bool:Tryd.prog.underlying 4=some .bool:=by kernel_rfl
section
variable {H:Type} {enc:TypeId×Value→H} {W:World} {spare:Nat→Bool} {held:Bool}
theorem open_byte:∀n cs y,DataW.trod enc Tryd.prog W 0 spare held n 5 cs=some y→∃x:Int,cs=[Value.int .u8 x]∧(0≤x∧x≤255):=by
 intro n cs y h
 obtain⟨k,e,_,hw⟩:=DataW.trod_int und_byte h
 refine⟨k,e,?_⟩
 have h1:IntKind.u8.min=0:=by decide
 have h2:IntKind.u8.max=255:=by decide
 simpa [Lit.wf,h1,h2]using hw
theorem open_bytes{fuel:Nat}{sa:Option Addr}{n cap:Nat}{x:DataW H×List MemPlace}(h:DataW.trod enc Tryd.prog W 0 spare held fuel 22 (Value.slice sa n cap).cells.toList=some x):Cod (memOf W) sa n:=by
 obtain⟨v,xs,e,hsl,hq⟩:=open_sl (f:=fun v:Int=>[Value.int .u8 v]) (size:=1) (Q:=fun v=>0≤v∧v≤255) (fun _=>rfl) (by omega) und_bytes cof_byte open_byte h
 have e:v=.slice sa n cap:=by simp[Value.cells]at e;exact e.symm
 subst e
 have hbd:=hsl.bound
 have hn:n=xs.length:=by
  obtain⟨a,c,e⟩:=hsl.len
  cases e;rfl
 subst hn
 refine⟨fun i hi=>?_,hbd⟩
 obtain⟨b,o,e,hc⟩:=hsl.at2 (fun _=>rfl) (List.getElem?_eq_getElem hi)
 have:=hq _ (List.getElem_mem hi)
 exact⟨b,o,xs[i],e,cells_cell (j:=0) hc rfl,this⟩
end
section
variable {H:Type} {enc:TypeId×Value→H} {P:Program} {W:World} {spare:Nat→Bool} {held:Bool}
theorem open_slD{α:Type}[Inhabited α]{f:α→List Value}{size:Nat}{R:DataW H→α→Prop}{t e:TypeId}{fuel:Nat}{cs:List Value}{ds sp:List (DataW H)}{pl:List MemPlace}(hs:∀x,(f x).length=size)(hs0:0<size)
 (ht:P.underlying t=some (.slice e)) (hc:P.cellsOf e=size) (he:∀n cs y,DataW.trod enc P W 0 spare held n e cs=some y→∃x,cs=f x∧R y.1 x)
 (h:DataW.trod enc P W 0 spare held fuel t cs=some (.slice ds sp,pl)):∃v xs,cs=[v]∧SlR (memOf W) size f v xs∧xs.length=ds.length∧∀(i:Nat) d y,ds[i]?=some d→xs[i]?=some y→R d y:=by
 rcases Deep.open_slice ht h with⟨rfl,h0⟩|⟨a,len,cap,m,n,D,Pl,rfl,_,hlc,hcm,hm,hx,hel⟩
 ·cases h0
 ·simp only[Prod.mk.injEq,DataW.slice.injEq]at hx
  obtain⟨⟨hds,_⟩,_⟩:=hx
  have hlm:len≤m:=by rw[hm];split<;>omega
  obtain⟨X,hX⟩:=Deep.choose_lt (n:=len) (p:=fun i y=>W.cells? 0 (a.add (i*size)) size=some (f y)∧R (D i) y) (fun i hi=>by
   obtain⟨cs',h1,h2⟩:=hel i (by omega)
   obtain⟨y,rfl,hq⟩:=he _ _ _ h2
   rw[hc]at h1
   exact⟨y,h1,hq⟩)
  refine⟨_,(List.range len).map X,rfl,?_,by rw[hds];simp,?_⟩
  ·by_cases h0:len=0
   ·subst h0;exact .inl ⟨_,_,rfl,rfl⟩
   ·obtain⟨c,u,fr,hsp,hh,_,_⟩:=cells_heap (hX 0 (by omega)).1 hs0
    have e0:a.add (0*size)=a:=by unfold Addr.add;simp
    rw[e0]at hsp hh
    have ea:a=⟨a.block,a.off,none⟩:=by cases a;simp only at hsp;subst hsp;rfl
    have hcell:∀i,i<len→∀j,j<size→c.toList[a.off+i*size+j]?=(f (X i))[j]?∧a.off+i*size+j<c.size:=by
     intro i hi j hj
     obtain⟨c',u',fr',hsp',hh',_,hj'⟩:=cells_heap (hX i hi).1 hs0
     have e1:a.add (i*size)=⟨a.block,a.off+i*size,none⟩:=by rw[ea];exact add_none _ _ _
     rw[e1]at hh' hj'
     rw[hh]at hh'
     cases hh'
     obtain⟨k1,k2⟩:=hj' j hj
     exact⟨by rw[Array.getElem?_toList];exact k1,k2⟩
    have hlast:=(hcell (len-1) (by omega) (size-1) (by omega)).2
    have hml:(len-1)*size+size=len*size:=by rw[←Nat.succ_mul];congr 1;omega
    refine .inr ⟨a.block,a.off,cap,c.toList,?_,.inr ⟨u,fr,memOf_cells hh⟩,?_,?_,?_⟩
    ·rw[←ea];simp
    ·simp;simp[maxLen]at hcm;omega
    ·simp only[List.length_map,List.length_range,Array.length_toList];omega
    ·simp only[List.length_map,List.length_range]
     exact flat_of hs _ _ X len (fun i hi j hj=>(hcell i hi j hj).1)
  ·intro i d y hd hy
   rw[hds,List.getElem?_map]at hd
   rw[List.getElem?_map]at hy
   cases hr:(List.range len)[i]? with
   |none=>rw[hr]at hd;cases hd
   |some k=>
    rw[hr]at hd hy
    simp only[Option.map_some,Option.some.injEq]at hd hy
    subst hd;subst hy
    have:k<len:=List.mem_range.1 (List.mem_of_getElem? hr)
    exact(hX k this).2
end
structure Form where
 nm:ByteArray
 a:Int
 b:Int
 c:Int
 n:Bool
instance:Inhabited Form:=⟨⟨⟨#[]⟩,0,0,0,false⟩⟩
def fmV(f:Form):List Value:=[.string f.nm,.int .i64 f.a,.int .i64 f.b,.int .i64 f.c,.bool f.n]
def fmD{H:Type}(f:Form):DataW H:=.agg [.lit (.string f.nm.data.toList),.lit (.int .i64 f.a),.lit (.int .i64 f.b),.lit (.int .i64 f.c),.lit (.bool f.n)]
theorem und_form:Tryd.prog.underlying 71=some (.struct (fsOf Tryd.prog 71)):=by kernel_rfl
theorem fs_form:(fsOf Tryd.prog 71).toList.map (fun f=>(f.type,f.offset))=[(9,0),(3,1),(3,2),(3,3),(4,4)]:=by kernel_rfl
theorem und_forms:Tryd.prog.underlying 72=some (.slice 71):=by kernel_rfl
theorem cof_form:Tryd.prog.cellsOf 71=5:=by kernel_rfl
theorem fund_int:Tryd.prog.underlying 3=some (.int .i64):=by kernel_rfl
theorem fund_str:Tryd.prog.underlying 9=some .string:=by kernel_rfl
theorem fund_bool:Tryd.prog.underlying 4=some .bool:=by kernel_rfl
theorem fcof_int:Tryd.prog.cellsOf 3=1:=by kernel_rfl
theorem fcof_str:Tryd.prog.cellsOf 9=1:=by kernel_rfl
theorem fcof_bool:Tryd.prog.cellsOf 4=1:=by kernel_rfl
section
variable {H:Type} {enc:TypeId×Value→H} {W:World} {spare:Nat→Bool} {held:Bool}
theorem open_form:∀n cs y,DataW.trod enc Tryd.prog W 0 spare held n 71 cs=some y→∃x,cs=fmV x∧y.1=fmD x:=by
 intro n cs y h
 obtain⟨xs,k,_,rfl,hl,hlen,hf⟩:=DataW.trod_struct und_form h
 have hfs:=fs_form
 have hget:∀(i:Nat) u o,[(9,0),(3,1),(3,2),(3,3),(4,4)][i]?=some (u,o)→DataW.trod enc Tryd.prog W 0 spare held k u ((cs.drop o).take (Tryd.prog.cellsOf u))=xs[i]?:=fun i u o hi=>by
  rw[←hfs,List.getElem?_map]at hi
  cases hg:(fsOf Tryd.prog 71).toList[i]? with
  |none=>rw[hg]at hi;cases hi
  |some f=>
   rw[hg]at hi
   simp only[Option.map_some,Option.some.injEq,Prod.mk.injEq]at hi
   obtain⟨rfl,rfl⟩:=hi
   exact hf i f (by rw[←Array.getElem?_toList];exact hg)
 have hx5:xs.length=5:=by
  rw[hlen,←Array.length_toList]
  have:=congrArg List.length hfs
  rw[List.length_map]at this;exact this
 match xs,hx5,hget with
 |[x0,x1,x2,x3,x4],_,hget=>
  obtain⟨s,a0,b0,_⟩:=DataW.trod_string fund_str (hget 0 _ _ rfl)
  obtain⟨i1,a1,b1,_⟩:=DataW.trod_int fund_int (hget 1 _ _ rfl)
  obtain⟨i2,a2,b2,_⟩:=DataW.trod_int fund_int (hget 2 _ _ rfl)
  obtain⟨i3,a3,b3,_⟩:=DataW.trod_int fund_int (hget 3 _ _ rfl)
  obtain⟨b4,a4,c4⟩:=DataW.trod_bool fund_bool (hget 4 _ _ rfl)
  rw[fcof_str]at a0
  rw[fcof_int]at a1 a2 a3
  rw[fcof_bool]at a4
  have e0:=take_one a0
  have e1:=take_one a1
  have e2:=take_one a2
  have e3:=take_one a3
  have e4:=take_one a4
  refine⟨⟨s,i1,i2,i3,b4⟩,?_,by subst b0;subst b1;subst b2;subst b3;subst c4;rfl⟩
  have hl5:cs.length=5:=by rw[hl];exact cof_form
  match cs,hl5,e0,e1,e2,e3,e4 with
  |[v0,v1,v2,v3,v4],_,e0,e1,e2,e3,e4=>
   simp only[List.getElem?_cons_zero,List.getElem?_cons_succ,Option.some.injEq]at e0 e1 e2 e3 e4
   subst e0;subst e1;subst e2;subst e3;subst e4;rfl
end
end Go.Proofs.YtpleoapljeffiaaDoor.E
namespace Go.Proofs.YtpleoapljeffiaaDoor.E
open Go
noncomputable def e37:Env:=⟨Tryd.prog,[1,3],44,[]⟩
abbrev zZ(a0:Nat)(a1:Nat)(a2:Int):I:=⟨some a0,none,.call a1 [.const (.int .i64 a2)]⟩
abbrev zn(a0:Nat)(a1:Int)(a2:Int):I:=⟨some a0,none,.alloc true [.int .i64 a1,.int .i64 a2]⟩
abbrev qN(a0:Nat)(a1:Int)(a2:Int)(a3:Nat)(a4:Nat)(a5:Nat):I:=⟨some a0,none,.build [.int .i64 a1,.int .i64 a2] [(a3,a4,.tmp a5)]⟩
abbrev qO(a0:Nat)(a1:Int)(a2:Int)(a3:Int)(a4:Int)(a5:Int)(a6:Int)(a7:Int)(a8:Nat)(a9:Nat)(a10:Nat)(a11:Nat)(a12:Int)(a13:Nat)(a14:Nat)(a15:Nat)(a16:Nat)(a17:Nat)(a18:Nat)(a19:Nat)(a20:Nat)(a21:Nat):I:=⟨some a0,none,.build [.int .i64 a1,.int .i64 a2,.int .i64 a3,.int .i64 a4,.int .i64 a5,.int .i64 a6,.int .i64 a7,.slice none a8 a9] [(a10,a11,.const (.int .i64 a12)),(a13,a14,.tmp a15),(a16,a17,.tmp a18),(a19,a20,.tmp a21)]⟩
noncomputable def c37:C:=
 .seq (.reg [zR 1 0,zF 2]) (.seq (.seq (.reg [z3 4 0 1,z4 5 1 4,q9 6 26 5 1 24,zU 7 6]) (.cond (.tmp 7) (.seq (.reg [zF 2]) .ret) .skip)) (.seq (.reg [⟨some 8,none,.load true 1 (.global 0)⟩,z3 9 0 1,z4 10 1 9,zC 11 5 8 10,z8 12 5 11,⟨some 3,none,.alloc true [.string ⟨#[]⟩,.int .i64 0,.int .i64 0,.int .i64 0,.bool false]⟩,z6 5 3 12]) (.seq (.reg [z3 13 1 1,z4 14 1 13,z3 15 1 3,z4 16 1 15,⟨some
 17,none,.max (.tmp 16) (.const (.int .i64 0))⟩,⟨some 18,none,.call 26 [.tmp 14,.const (.int .i64 0),.tmp 17]⟩,z0 19 18,z9 20 19 2 1,zA 21 19 1 20,z9 22 19 2 3,zA 23 19 1 22,⟨some 24,some (19,true),.max (.tmp 23) (.const (.int .i64 0))⟩,qF 25 19 26 21 0 24,zE 26 19 25,z0 27 26,z9 28 27 3 1,zA 29 27 1 28,z9 30 27 3 3,zA 31 27 1 30,⟨some 32,some (27,true),.max (.tmp 31) (.const (.int .i64 0))⟩,qF 33
 27 26 29 0 32,zE 34 27 33,z0 35 34,z9 36 35 4 3,zA 37 35 1 36,zD 38 35 37,zH 39 38 4 1,zK 40 38 1 39,ze 41 38 40 0,q7 42 35 38 41,zE 43 35 42,z0 2 43]) .ret)))
theorem t37:Tryd.f37.body.bind (trC e37)=some c37:=by kernel_rfl
theorem r37:Tryd.f37.results.toList.mapM (trR Tryd.prog)=some [.tmp 2]:=by kernel_rfl
theorem fn37{args:List Value}{M:Mem}{post:Value→Mem→Prop}(hl:args.length≤44)(h:VC e37 c37 (fnQ [.tmp 2] post) (initS args 44) M):Fn Tryd.prog 37 args M post:=
 Fn.of' (E:=e37) Tryd.func37 t37 rfl r37 mixed hl h
end Go.Proofs.YtpleoapljeffiaaDoor.E
namespace Go.Proofs.YtpleoapljeffiaaDoor.E
open Go
open Classical
def formsL:List Form:=[⟨⟨#[]⟩,0,0,0,false⟩,⟨⟨#[110,101,119]⟩,15,255,200,false⟩,⟨⟨#[110,117,109]⟩,15,-1,-1,true⟩,⟨⟨#[110,105,108]⟩,15,-1,-1,false⟩,⟨⟨#[99,111,112,121]⟩,15,15,-1,false⟩,⟨⟨#[107,101,121]⟩,15,15,199,false⟩,⟨⟨#[118,97,108]⟩,15,15,199,false⟩,⟨⟨#[115,101,116,107,101,121]⟩,15,15,199,false⟩,⟨⟨#[115,101,116,118,97,108]⟩,15,15,199,false⟩,⟨⟨#[103,114,111,119]⟩,15,-1,200,false⟩,⟨⟨#[99,117,116]⟩,15,-1,200,false⟩,⟨⟨#[119,101,97,107]⟩,15,-1,3,false⟩,⟨⟨#[108,97,115,116]⟩,15,-1,1,false⟩,⟨⟨#[115,97,109,101]⟩,15,15,-1,false⟩,⟨⟨#[119,111,114,100]⟩,15,-1,-1,false⟩,⟨⟨#[110,117,109,98,101,114]⟩,15,-1,-1,false⟩,⟨⟨#[107,105,110,100]⟩,15,-1,-1,false⟩,⟨⟨#[115,105,122,101]⟩,15,-1,-1,false⟩,⟨⟨#[115,101,116,116,108,101]⟩,-1,-1,-1,false⟩,⟨⟨#[100,117,101]⟩,15,-1,-1,false⟩,⟨⟨#[99,111,117,110,116]⟩,-1,-1,-1,false⟩,⟨⟨#[108,105,118,101]⟩,-1,-1,-1,false⟩,⟨⟨#[115,116,101,112]⟩,-1,-1,100000,false⟩,⟨⟨#[112,97,99,101]⟩,-1,64,4000,false⟩,⟨⟨#[114,111,117,110,100]⟩,-1,-1,-1,false⟩]
structure Frm (m:Mem):Prop where
 out:∃b o cap,cell m 0 0=some (.slice (some ⟨b,o,none⟩) 25 cap)∧∀(i:Nat) F,formsL[i]?=some F→cells m b (o+i*5) 5=some (fmV F)
theorem Frm.le{m m':Mem}(h:Frm m)(l:m.le m'):Frm m':=by
 obtain⟨b,o,cap,h1,h2⟩:=h.out
 exact⟨b,o,cap,cell_le l h1,fun i F hF=>cells_le l (h2 i F hF)⟩
theorem rd_gl{m:Mem}{b o:Nat}{v:Value}(h:cell m b o=some v):RdA (ro m) b o v:=⟨fun m' hm=>by
 have hm:m'=m:=hm
 subst hm;exact h⟩
theorem rs_cods{m:Mem}{b o n:Nat}{vs:List Value}(h:cells m b o n=some vs):RsA (ro m) b o n vs:=⟨fun m' hm=>by
 have hm:m'=m:=hm
 subst hm;exact h⟩
theorem form_ok{op:Int}(h:1≤op∧op≤24):∃F,formsL[op.toNat]?=some F∧aMost op=(if F.a<0 then 0 else F.a)∧bMost op=(if F.b<0 then 0 else F.b)∧cMost op=(if F.c<0 then 0 else F.c)∧(F.n=true↔op=2):=by
 have e:op=1∨op=2∨op=3∨op=4∨op=5∨op=6∨op=7∨op=8∨op=9∨op=10∨op=11∨op=12∨op=13∨op=14∨op=15∨op=16∨op=17∨op=18∨op=19∨op=20∨op=21∨op=22∨op=23∨op=24:=by omega
 rcases e with rfl|rfl|rfl|rfl|rfl|rfl|rfl|rfl|rfl|rfl|rfl|rfl|rfl|rfl|rfl|rfl|rfl|rfl|rfl|rfl|rfl|rfl|rfl|rfl<;>
  exact⟨_,rfl,by simp[aMost],by simp[bMost],by simp[cMost],by simp⟩
theorem implActOk_q{m:Mem}{a:Act}(hf:Frm m):Qt Tryd.prog 37 [actV a] m (.bool (decide (ActP a))):=by
 refine qt_of (fnA_of (fun h=>fn37 (by simp) h) ?_)
 obtain⟨b,o,cap,h1,h2⟩:=hf.out
 by_cases hop:1≤a.op∧a.op≤24
 ·obtain⟨⟨nm,ra,rb,rc,rn⟩,hF,fa,fb,fc,fn⟩:=form_ok hop
  have h3:=h2 _ _ hF
  dsimp only at fa fb fc fn
  cases rn with
  |true=>
   have e2:a.op=2:=fn.1 rfl
   repeat' (first
    |(refine k_L ?_;first|refine a_p rfl ?_|(refine k_g ?_;first|refine a_gy rfl rfl ?_|refine a_gn rfl rfl ?_|refine a_gu rfl ?_|(refine a_gd rfl (fun hb=>?_) (fun hb=>?_)<;>try(exfalso;omega)))|(refine k_st ?_;refine g_sw rfl rfl rfl rfl (Nat.le_of_ble_eq_true rfl) ?_)|(refine k_al ?_;refine a_al ?_)|(refine k_bx ?_;refine a_bx rfl rfl ?_)|(refine k_c ?_;refine a_cq rfl (fun m hm=>impl.withinQ) ?_)|(refine a_l rfl (rd_h (rd_gl h1)) ?_)|(refine a_i (e:=⟨some ⟨b,o,none⟩,cap⟩) rfl rfl ⟨fun _ _=>rfl⟩ (by omega) ?_)|(refine a_ls rfl (rs_h (rs_cods h3)) ?_))
    |refine a_n ?_
    |(refine k_V ?_;first|refine v_seq ?_|refine v_reg ?_|refine v_ret ?_|refine v_skip ?_|(refine v_cnd rfl (fun hb=>?_) (fun hb=>?_)<;>try(exfalso;omega)))
    |refine sk_zero ?_
    |refine sk_succ ?_
    |refine wk_nil ?_
    |refine wk_cons ?_)
   all_goals first
    |exact q_F (fun h=>by(try dsimp only at*);unfold ActP at h;omega)
    |exact q_B (fun _ _=>rfl) (by dsimp only at*;unfold ActP;first|(rw[beq_iff_eq];omega)|(rw[decide_eq_true_eq];omega)|exact⟨fun _=>by omega,fun _=>rfl⟩)
  |false=>
   have e2:a.op≠2:=fun e=>by have:=fn.2 e;cases this
   repeat' (first
    |(refine k_L ?_;first|refine a_p rfl ?_|(refine k_g ?_;first|refine a_gy rfl rfl ?_|refine a_gn rfl rfl ?_|refine a_gu rfl ?_|(refine a_gd rfl (fun hb=>?_) (fun hb=>?_)<;>try(exfalso;omega)))|(refine k_st ?_;refine g_sw rfl rfl rfl rfl (Nat.le_of_ble_eq_true rfl) ?_)|(refine k_al ?_;refine a_al ?_)|(refine k_bx ?_;refine a_bx rfl rfl ?_)|(refine k_c ?_;refine a_cq rfl (fun m hm=>impl.withinQ) ?_)|(refine a_l rfl (rd_h (rd_gl h1)) ?_)|(refine a_i (e:=⟨some ⟨b,o,none⟩,cap⟩) rfl rfl ⟨fun _ _=>rfl⟩ (by omega) ?_)|(refine a_ls rfl (rs_h (rs_cods h3)) ?_))
    |refine a_n ?_
    |(refine k_V ?_;first|refine v_seq ?_|refine v_reg ?_|refine v_ret ?_|refine v_skip ?_|(refine v_cnd rfl (fun hb=>?_) (fun hb=>?_)<;>try(exfalso;omega)))
    |refine sk_zero ?_
    |refine sk_succ ?_
    |refine wk_nil ?_
    |refine wk_cons ?_)
   all_goals first
    |exact q_F (fun h=>by(try dsimp only at*);unfold ActP at h;omega)
    |exact q_B (fun _ _=>rfl) (by dsimp only at*;unfold ActP;first|(rw[beq_iff_eq];omega)|(rw[decide_eq_true_eq];omega)|exact⟨fun _=>by omega,fun _=>rfl⟩)
 ·repeat' (first
   |(refine k_L ?_;first|refine a_p rfl ?_|(refine k_bx ?_;refine a_bx rfl rfl ?_)|(refine k_c ?_;refine a_cq rfl (fun m hm=>impl.withinQ) ?_))
   |refine a_n ?_
   |(refine k_V ?_;first|refine v_rv ?_|refine v_seq ?_|refine v_reg ?_|(refine v_cnd rfl (fun hb=>?_) (fun hb=>?_)<;>try(exfalso;omega)))
   |refine s_r ?_)
  all_goals first
   |exact q_F (fun h=>by(try dsimp only at*);unfold ActP at h;omega)
end Go.Proofs.YtpleoapljeffiaaDoor.E
namespace Go.Proofs.YtpleoapljeffiaaDoor.E
open Go Go.ChangeShapes Go.WideShapes Go.ChangeAt Go.RowKit
theorem gForms: Tryd.prog.globalNamed "loop.example/spool/impl.forms" = some 0 := by kernel_rfl
theorem tForms:(Tryd.prog.globals[0]?).map (·.type)=some 72:=by kernel_rfl
theorem cell_of{W:World}{b o:Nat}{v:Value}(h:W.cell? ⟨b,o,none⟩=some v):cell (memOf W) b o=some v:=by
 unfold World.cell? at h
 split at h
 ·rename_i c t fr hh
  have:=memOf_cells hh
  unfold cell
  rw[this]
  simp at h⊢
  exact h
 ·cases h
theorem fmD_inj{H:Type}{x y:Form}(h:(fmD x:DataW H)=fmD y):x=y:=by
 obtain⟨⟨⟨xn⟩⟩,xa,xb,xc,xd⟩:=x
 obtain⟨⟨⟨yn⟩⟩,ya,yb,yc,yd⟩:=y
 simp only[fmD,DataW.agg.injEq,List.cons.injEq,DataW.lit.injEq,Lit.string.injEq,Lit.int.injEq,Lit.bool.injEq,and_true,true_and]at h
 obtain⟨h1,rfl,rfl,rfl,rfl⟩:=h
 try simp only at h1
 subst h1
 rfl
abbrev laidF: List (String × DataW Unit) := [("loop.example/spool/impl.forms", Rows.laid_loop_example_spool_impl_forms)]
theorem frm_of_met{L:List (String×DataW Unit)}(hL:L=laidF){W:World}(h:laidMetH Tryd.prog L W):Frm (memOf W):=by
 subst hL
 rw[MakeChecks.laidMetH_plain _ _ _ (by kernel_rfl)]at h
 obtain⟨ps,⟨g0,t0,cs0,f0,p0,q0,hg0,ht0,hv0,hd0,_,_⟩,_,_⟩:=h
 obtain rfl:=Option.some.inj (gForms.symm.trans hg0)
 obtain rfl:=Option.some.inj (tForms.symm.trans ht0)
 obtain⟨v,xs,e,hsl,hl,hR⟩:=open_slD (f:=fmV) (size:=5) (R:=fun d x=>d=fmD x) (ds:=formsL.map fmD) (sp:=[]) (fun _=>rfl) (by omega) und_forms cof_form open_form hd0
 have hv:=World.var?_cell hg0 hv0 0
 have hx:xs=formsL:=by
  apply List.ext_getElem?
  intro i
  have hl':xs.length=formsL.length:=by rw[hl,List.length_map]
  cases hi:xs[i]? with
  |none=>rw[List.getElem?_eq_none_iff]at hi;rw[List.getElem?_eq_none (by omega)]
  |some y=>
   have hlt:=(List.getElem?_eq_some_iff.1 hi).1
   have hF:formsL[i]?=some formsL[i]:=List.getElem?_eq_getElem (by omega)
   have:=hR i (fmD formsL[i]) y (by rw[List.getElem?_map,hF];rfl) hi
   rw[hF,fmD_inj this]
 subst hx
 obtain⟨a,cap,rfl⟩:=hsl.len
 have hc0:cs0[0]?=some (.slice a formsL.length cap):=by rw[←Array.getElem?_toList,e];rfl
 rw[hc0]at hv
 obtain⟨b,o,rfl,_⟩:=hsl.at2 (fun _=>rfl) (i:=0) rfl
 refine⟨b,o,cap,cell_of hv,fun i F hF=>?_⟩
 obtain⟨b',o',e',h2⟩:=hsl.at2 (fun _=>rfl) hF
 cases e'
 exact h2
end Go.Proofs.YtpleoapljeffiaaDoor.E
namespace Go.Proofs.YtpleoapljeffiaaDoor.E
open Go
noncomputable def e6:Env:=⟨Tryd.prog,[],16,[]⟩
noncomputable def c6:C:=
 .seq (.reg [zI 4 0]) (.seq (.seq (.reg [z0 5 0,zG 6 5,z7 7 6 0]) (.cond (.tmp 7) (.seq (.reg [zI 4 0]) .ret) .skip)) (.seq (.reg [z0 8 0,z0 9 1,z0 10 0,zG 11 10,⟨some 12,none,.bin .rem (.tmp 9) (.tmp 11)⟩,zC 13 1 8 12,z4 14 1 13,⟨some 15,none,.conv .i64 (.tmp 14)⟩,z0 4 15]) .ret))
theorem t6:Tryd.f6.body.bind (trC e6)=some c6:=by kernel_rfl
theorem r6:Tryd.f6.results.toList.mapM (trR Tryd.prog)=some [.tmp 4]:=by kernel_rfl
theorem fn6{args:List Value}{M:Mem}{post:Value→Mem→Prop}(hl:args.length≤16)(h:VC e6 c6 (fnQ [.tmp 4] post) (initS args 16) M):Fn Tryd.prog 6 args M post:=
 Fn.of' (E:=e6) Tryd.func6 t6 rfl r6 mixed hl h
end Go.Proofs.YtpleoapljeffiaaDoor.E
namespace Go.Proofs.YtpleoapljeffiaaDoor.E
open Go
open Classical
theorem Cod.le{m m':Mem}{ca:Option Addr}{cn:Nat}(h:Cod m ca cn)(l:m.le m'):Cod m' ca cn:=⟨fun i hi=>by
 obtain⟨b,o,v,e,hc,hv⟩:=h.at_ i hi
 exact⟨b,o,v,e,cell_le l hc,hv⟩,h.bd⟩
theorem wByte_q{ca:Option Addr}{cn cc:Nat}{m:Mem}{i:Int}(hc:Cod m ca cn)(hi:0≤i∧i≤1000000):∃k:Int,(0≤k∧k≤255)∧∀m',m.le m'→Qt Tryd.prog 6 [.slice ca cn cc,.int .i64 i] m' (.int .i64 k):=by
 by_cases hn:cn=0
 ·refine⟨0,by omega,fun m' l=>qt_of (fnA_of (fun h=>fn6 (by simp) h) ?_)⟩
  have:(cn:Int)=0:=by omega
  repeat' (first
   |(refine k_L ?_;refine a_p rfl ?_)
   |refine a_n ?_
   |(refine k_V ?_;first|refine v_rv ?_|refine v_seq ?_|refine v_reg ?_|(refine v_cd rfl (fun hb=>?_) (fun hb=>?_)<;>try(exfalso;omega)))
   |refine s_r ?_)
  exact fa_q (by simp) (fun _ _=>rfl) rfl
 ·have hbd:=hc.bd
  have hne:(cn:Int)≠0:=by omega
  have h1:=Int.tmod_nonneg (cn:Int) hi.1
  have h2:=Int.tmod_lt_of_pos i (by omega:0<(cn:Int))
  obtain⟨j,hj⟩:=Int.eq_ofNat_of_zero_le h1
  rw[hj]at h2
  obtain⟨b,o,v,e,hcell,hv⟩:=hc.at_ j (by omega)
  subst e
  refine⟨v,hv,fun m' l=>qt_of (fnA_of (fun h=>fn6 (by simp) h) ?_)⟩
  have hcell:=cell_le l hcell
  have rm:∀{P:Program} {r:List I} {d:Option Nat} {post:St→List Asr→Prop} {S:St} {As:List Asr} {x y:Operand},ev S x=some (.int .i64 i)→ev S y=some (.int .i64 cn)→LA P r post (put S d (.v (.int .i64 j))) As→LA P (⟨d,none,.bin .rem x y⟩::r) post S As:=
   fun hx hy hp=>a_p (sv:=.v (.int .i64 _)) (by simp only[pe,hx,hy,binV,binI,if_true,if_neg hne,Option.map_some,hj]) hp
  repeat' (first
   |(refine k_L ?_;first|(refine k_l ?_;refine a_l rfl (by exact rd_h (rd_cod hcell)) ?_)|(refine rm rfl rfl ?_)|(refine b_p rfl ?_)|(refine a_i (e:=⟨some ⟨b,o,none⟩,cc⟩) rfl rfl ⟨fun _ _=>rfl⟩ (by omega) ?_))
   |refine a_n ?_
   |(refine k_V ?_;first|refine v_seq ?_|refine v_reg ?_|refine v_ret ?_|refine v_skip ?_|(refine v_cd rfl (fun hb=>?_) (fun hb=>?_)<;>try(exfalso;omega))))
  exact fa_q (by simp) (fun _ _=>rfl) (by rw[wrap64 (by omega)])
theorem out0{H:Heap}(h:Sound H):outN H=0↔H.phase=0:=by
 have:=out_phase h (j:=0) (by omega)
 constructor
 ·intro e;exact this.2 e.symm
 ·intro e;exact(this.1 e).symm
theorem begin_on{H:Heap}(hp:H.phase≠0):H.beginH=H:=by unfold Heap.beginH;rw[if_neg hp]
end Go.Proofs.YtpleoapljeffiaaDoor.E
namespace Go.Proofs.YtpleoapljeffiaaDoor.E
open Go
noncomputable def e60:Env:=⟨Tryd.prog,[1,4],30,[]⟩
noncomputable def c60:C:=
 .seq (.reg [zR 1 0,zI 2 0]) (.seq (.seq (.reg [z3 5 1 1,z4 6 1 5,zU 7 6]) (.cond (.tmp 7) (.seq (.reg [z3 8 0 1,z4 9 1 8,z5 10 9,z3 11 4 10,z4 12 1 11,zG 13 12,zI 14 0]) (.block 0 (.loop (.seq (.reg [zQ 15 14 13]) (.seq (.cond (.tmp 15) .skip (.exit 0)) (.seq (.block 1 (.seq (.reg [z0 16 14,zC 17 8 12 14,z8 18 8 17,zV 4 0 0 0 0 0 0 0 0 0,z0 3 16,z6 8 4 18]) (.seq (.reg [z3 19 0 4,z4 20 1 19,
 z7 21 20 0]) (.cond (.tmp 21) (.seq (.reg [z0 22 3,z0 2 22]) .ret) .skip)))) (.reg [zN 23 14 1,z0 14 23]))))))) .skip)) (.seq (.reg [z3 24 0 1,z4 25 1 24,z5 26 25,z3 27 4 26,z4 28 1 27,zG 29 28,z0 2 29]) .ret))
theorem t60:Tryd.f60.body.bind (trC e60)=some c60:=by kernel_rfl
theorem r60:Tryd.f60.results.toList.mapM (trR Tryd.prog)=some [.tmp 2]:=by kernel_rfl
theorem fn60{args:List Value}{M:Mem}{post:Value→Mem→Prop}(hl:args.length≤30)(h:VC e60 c60 (fnQ [.tmp 2] post) (initS args 30) M):Fn Tryd.prog 60 args M post:=
 Fn.of' (E:=e60) Tryd.func60 t60 rfl r60 mixed hl h
noncomputable def e57:Env:=⟨Tryd.prog,[2],61,[(2,0),(3,13),(4,11),(6,13)]⟩
noncomputable def c57:C:=
 .seq (.reg [zR 2 0,zF 4]) (.seq (.seq (.reg [z3 5 1 2,z4 6 1 5]) (.cond (.tmp 6) (.seq (.hreg [2] [z3 7 0 2,z4 8 1 7,z3 9 0 2,z4 10 1 9,z0 13 1,z3 15 0 2,z4 16 1 15,z5 17 16,z3 18 0 17,z4 19 1 18] (.alt (zM 11 53 10) (.alt (zP 12 51 8 11) (.alt (zY 14 12 13) (.alt (zy 20 14 19) (.alf (z0 4 20) (.done) (.none)) (.none)) (.none)) (.none)) (.none))) .ret) .skip)) (.seq (.seq (.dreg 13 [z3 21 0 2,
 z4 22 1 21,z5 23 22,z3 24 1 23,z4 25 1 24,z0 26 1,zY 27 25 26,z3 28 0 2,z4 29 1 28,z5 30 29,z3 31 0 30,z4 32 1 31,⟨some 33,none,.bin .gtr (.tmp 27) (.tmp 32)⟩]) (.cond (.tmp 33) (.seq (.dreg 11 [z3 34 0 2,z4 35 1 34,z3 36 0 2,z4 37 1 36,z5 38 37,z3 39 12 38,z4 40 1 39,zN 41 40 1,⟨some 42,none,.min (.tmp 41) (.const (.int .i64 1000000000))⟩,z5 43 35,z3 44 12 43,z6 1 44 42]) (.reg [z3 45 0 2,z4
 46 1 45,zM 47 56 46])) .skip)) (.seq (.dreg 13 [z3 48 0 2,z4 49 1 48,z5 50 49,z3 51 1 50,z4 52 1 51,z0 53 1,zY 54 52 53,z3 55 0 2,z4 56 1 55,z5 57 56,z3 58 0 57,z4 59 1 58,zy 60 54 59,z0 4 60]) .ret)))
theorem t57:Tryd.f57.body.bind (trC e57)=some c57:=by kernel_rfl
theorem r57:Tryd.f57.results.toList.mapM (trR Tryd.prog)=some [.tmp 4]:=by kernel_rfl
theorem fn57{args:List Value}{M:Mem}{post:Value→Mem→Prop}(hl:args.length≤61)(h:VC e57 c57 (fnQ [.tmp 4] post) (initS args 61) M):Fn Tryd.prog 57 args M post:=
 Fn.of' (E:=e57) Tryd.func57 t57 rfl r57 mixed hl h
noncomputable def e58:Env:=⟨Tryd.prog,[2],50,[(2,19),(4,9)]⟩
noncomputable def c58:C:=
 .seq (.reg [zR 2 0]) (.seq (.seq (.reg [z3 4 1 2,z4 5 1 4,z0 6 5,zL 7 6 1,ze 8 6 7 0,zO 9 6 8,z0 10 9,zH 11 10 0 2,zK 12 10 1 11,zW 13 10 12,zH 14 10 9 13,zK 15 10 1 14,ze 16 10 15 0,zO 17 10 16]) (.cond (.tmp 17) .ret .skip)) (.seq (.seq (.dreg 19 [z3 18 0 2,z4 19 1 18,z5 20 19,z3 21 5 20,z4 22 1 21,z7 23 22 0,z0 24 23,z9 25 24 0 2,zA 26 24 1 25,zJ 27 24 26,z9 28 24 1 27,zA 29 24 1 28,z9 30
 24 0 2,zA 31 24 1 30,zJ 32 24 31,z9 33 24 10 32,zA 34 24 1 33,⟨some 35,some (24,true),.bin .gtr (.tmp 29) (.tmp 34)⟩,zE 36 24 35]) (.cond (.tmp 36) (.reg [z3 37 0 2,z4 38 1 37,zM 39 54 38]) .skip)) (.dreg 9 [z3 40 0 2,z4 41 1 40,z3 42 0 2,z4 43 1 42,z5 44 43,z3 45 9 44,z4 46 1 45,z0 47 1,⟨some 48,none,.bin .mul (.tmp 46) (.tmp 47)⟩,zP 49 55 41 48])))
theorem t58:Tryd.f58.body.bind (trC e58)=some c58:=by kernel_rfl
theorem r58:Tryd.f58.results.toList.mapM (trR Tryd.prog)=some []:=by kernel_rfl
theorem fn58{args:List Value}{M:Mem}{post:Value→Mem→Prop}(hl:args.length≤50)(h:VC e58 c58 (fnQ [] post) (initS args 50) M):Fn Tryd.prog 58 args M post:=
 Fn.of' (E:=e58) Tryd.func58 t58 rfl r58 mixed hl h
noncomputable def e38:Env:=⟨Tryd.prog,[2],5,[]⟩
noncomputable def c38:C:=
 .seq (.reg [zn 2 0 0]) (.seq (.reg [z0 3 0,qN 4 0 0 0 1 3,z6 2 2 4]) .ret)
theorem t38:Tryd.f38.body.bind (trC e38)=some c38:=by kernel_rfl
theorem r38:Tryd.f38.results.toList.mapM (trR Tryd.prog)=some [.cell 2 false 2]:=by kernel_rfl
theorem fn38{args:List Value}{M:Mem}{post:Value→Mem→Prop}(hl:args.length≤5)(h:VC e38 c38 (fnQ [.cell 2 false 2] post) (initS args 5) M):Fn Tryd.prog 38 args M post:=
 Fn.of' (E:=e38) Tryd.func38 t38 rfl r38 mixed hl h
noncomputable def e47:Env:=⟨Tryd.prog,[2],5,[]⟩
noncomputable def c47:C:=
 .seq (.reg [zn 2 0 0]) (.seq (.reg [z0 3 0,qN 4 0 0 1 1 3,z6 2 2 4]) .ret)
theorem t47:Tryd.f47.body.bind (trC e47)=some c47:=by kernel_rfl
theorem r47:Tryd.f47.results.toList.mapM (trR Tryd.prog)=some [.cell 2 false 2]:=by kernel_rfl
theorem fn47{args:List Value}{M:Mem}{post:Value→Mem→Prop}(hl:args.length≤5)(h:VC e47 c47 (fnQ [.cell 2 false 2] post) (initS args 5) M):Fn Tryd.prog 47 args M post:=
 Fn.of' (E:=e47) Tryd.func47 t47 rfl r47 mixed hl h
end Go.Proofs.YtpleoapljeffiaaDoor.E
namespace Go.Proofs.YtpleoapljeffiaaDoor.E
open Go
open Classical
def eV(a:Nat):Value:=.agg #[ptr a,.bool false]
theorem codeE_q{m:Mem}{n:Int}:Qt Tryd.prog 38 [.int .i64 n] m (an n 0):=by
 refine qt_of (fnA_of (fun h=>fn38 (by simp) h) ?_)
 repeat' (first
  |(refine k_L ?_;first|refine a_p rfl ?_|(refine k_st ?_;refine g_sw rfl rfl rfl rfl (Nat.le_of_ble_eq_true rfl) ?_)|(refine k_al ?_;refine a_al ?_))
  |refine a_n ?_
  |(refine k_V ?_;first|refine v_seq ?_|refine v_reg ?_|refine v_ret ?_)
  |refine sk_zero ?_
  |refine sk_succ ?_
  |refine wk_nil ?_
  |refine wk_cons ?_)
 exact fa_q (by simp) (fun _ _=>rfl) rfl
theorem numE_q{m:Mem}{n:Int}:Qt Tryd.prog 47 [.int .i64 n] m (an 0 n):=by
 refine qt_of (fnA_of (fun h=>fn47 (by simp) h) ?_)
 repeat' (first
  |(refine k_L ?_;first|refine a_p rfl ?_|(refine k_st ?_;refine g_sw rfl rfl rfl rfl (Nat.le_of_ble_eq_true rfl) ?_)|(refine k_al ?_;refine a_al ?_))
  |refine a_n ?_
  |(refine k_V ?_;first|refine v_seq ?_|refine v_reg ?_|refine v_ret ?_)
  |refine sk_zero ?_
  |refine sk_succ ?_
  |refine wk_nil ?_
  |refine wk_cons ?_)
 exact fa_q (by simp) (fun _ _=>rfl) rfl
theorem fits_a{a:Nat}{x:HX}{u:Int}(h:Sound x.H)(hu:0≤u∧u≤201):FnA Tryd.prog 57 [eV a,.int .i64 u] (hp a x) (fun v As=>∃z:HX,v=.bool (decide ((x.H.fitsH u).used+u≤(x.H.fitsH u).room))∧As=hp a z∧z.H=x.H.fitsH u):=by
 refine fnA_of (fun h=>fn57 (by simp) h) ?_
 have e1:x.hdr.used=x.H.used:=rfl
 have e2:x.hdr.room=x.H.room:=rfl
 have e3:x.hdr.forced=x.H.forced:=rfl
 have h1:=h.r1.room
 have h2:=h.r3.2
 have h3:=h.r1.forced
 have h4:0≤x.H.used:=by have:=h.r3.1;have:=unitsN_nn x.H.cells;omega
 by_cases hf:x.H.used+u≤x.H.room
 ·have e:x.H.fitsH u=x.H:=by unfold Heap.fitsH;rw[if_pos hf]
  rw[e]
  repeat' (first
   |(refine k_L ?_;first|(refine k_ad ?_;refine g_ad rfl rfl ?_)|refine a_p rfl ?_|(refine k_l ?_;refine g_l rfl ?_)|(refine k_bx ?_;refine a_bx rfl rfl ?_))
   |refine a_n ?_
   |(refine k_V ?_;first|refine v_seq ?_|refine v_reg ?_|refine v_dreg ?_|refine v_ret ?_|refine v_skip ?_|refine v_cf rfl ?_|(refine v_cd rfl (fun hb=>?_) (fun hb=>?_)<;>try(exfalso;omega))))
  exact fa_r (fun _ _=>rfl) (Pm.ent pmt) ⟨x,by simp[hf,e1,e2],rfl,rfl⟩
 ·have fr:∀n:Int,(x.frc n).H={x.H with forced:=n}:=fun n=>rfl
  have end_:∀(z:HX) (F:Heap),z.H=F→(z.hdr.used+u≤z.hdr.room↔F.used+u≤F.room):=fun z F e=>by rw[←e];exact Iff.rfl
  have e:x.H.fitsH u=(x.frc (if(1000000000:Int)<x.H.forced+1 then 1000000000 else x.H.forced+1)).H.roundH:=by
   unfold Heap.fitsH;rw[if_neg hf,fr]
   congr 2
   split<;>split<;>omega
  have eb:(if(1000000000:Int)<x.H.forced+1 then(1000000000:Int)else x.H.forced+1)≤1000000000∧0≤(if(1000000000:Int)<x.H.forced+1 then(1000000000:Int)else x.H.forced+1):=by split<;>omega
  rw[e]
  have sS:Sound (x.frc (if(1000000000:Int)<x.H.forced+1 then 1000000000 else x.H.forced+1)).H:=by rw[fr];exact forced_sound h ⟨eb.2,eb.1⟩
  repeat' (first
   |(refine k_L ?_;first|(refine k_ad ?_;refine g_ad rfl rfl ?_)|refine a_p rfl ?_|(refine k_l ?_;refine g_l rfl ?_)|(refine k_st ?_;refine g_st rfl rfl rfl rfl ?_)|(refine k_bx ?_;refine a_bx rfl rfl ?_)|(refine g_c rfl (round_a (x:=x.frc (if(1000000000:Int)<x.H.forced+1 then 1000000000 else x.H.forced+1)) sS) (fun v As' hq=>?_);obtain⟨z,rfl,hz⟩:=hq;have zb:=used_b (z:=z) (by rw[hz];exact(roundH_ok sS).1)))
   |refine a_n ?_
   |(refine k_V ?_;first|refine v_seq ?_|refine v_reg ?_|refine v_dreg ?_|refine v_ret ?_|refine v_skip ?_|refine v_cf rfl ?_|(refine v_cd rfl (fun hb=>?_) (fun hb=>?_)<;>try(exfalso;omega))))
  all_goals exact fa_r (fun _ _=>rfl) (Pm.ent pmt) ⟨z,by congr 1;rw[Bool.eq_iff_iff];simp only[decide_eq_true_eq];exact end_ z _ hz,rfl,hz⟩
theorem step_idle{H:Heap}(h:Sound H)(hp:H.phase=0)(k:Nat):iterU (min k (outN H)) H=H:=by
 rw[(out0 h).2 hp,Nat.min_zero];rfl
theorem step_busy{H:Heap}(hp:H.phase≠0){n:Int}(hn:n≠0):iterU (min n.toNat (outN H)) H=H.stepH n:=by
 unfold Heap.stepH stepN
 rw[if_neg hn,begin_on hp,if_neg hn]
theorem pace_a{a:Nat}{x:HX}{u:Int}(h:Sound x.H)(hu:0≤u∧u≤201):FnA Tryd.prog 58 [eV a,.int .i64 u] (hp a x) (fun v As=>∃z:HX,As=hp a z∧z.H=x.H.paceH u):=by
 refine fnA_of (fun h=>fn58 (by simp) h) ?_
 have e1:x.hdr.used=x.H.used:=rfl
 have e2:x.hdr.per=x.H.per:=rfl
 have e3:x.hdr.start=x.H.start:=rfl
 have e4:x.hdr.phase=x.H.phase:=rfl
 have h1:=h.r1.per
 have hm:0≤x.H.per*u∧x.H.per*u≤64*201:=⟨Int.mul_nonneg h1.1 hu.1,Int.mul_le_mul h1.2 hu.2 hu.1 (by omega)⟩
 unfold Heap.paceH
 by_cases c1:x.H.per=0∨u=0
 ·rw[if_pos c1]
  repeat' (first
   |(refine k_L ?_;first|refine a_p rfl ?_|(refine k_g ?_;first|refine a_gy rfl rfl ?_|refine a_gn rfl rfl ?_|(refine a_gd rfl (fun hb=>?_) (fun hb=>?_)<;>try(exfalso;omega)))|(refine k_l ?_;refine g_l rfl ?_)|(refine k_bx ?_;refine a_bx rfl rfl ?_))
   |refine a_n ?_
   |(refine k_V ?_;first|refine v_seq ?_|refine v_reg ?_|refine v_ret ?_|refine v_ct rfl ?_|(refine v_cd rfl (fun hb=>?_) (fun hb=>?_)<;>try(exfalso;omega)))
   |refine s_r ?_)
  all_goals first
   |exact fa_n (fun _ _=>rfl) (Pm.ent pmt) ⟨x,rfl,rfl⟩
   |exact fa_r (fun _ _=>rfl) (Pm.ent pmt) ⟨x,rfl,rfl⟩
   |(exfalso;omega)
 ·rw[if_neg c1]
  have c2:¬x.H.per=0:=fun e=>c1 (.inl e)
  have c3:¬u=0:=fun e=>c1 (.inr e)
  have hn:x.H.per*u≠0:=fun e=>by
   rcases Int.mul_eq_zero.1 e with e|e
   ·exact c2 e
   ·exact c3 e
  by_cases c4:x.H.phase=0
  ·by_cases c5:x.H.used≤x.H.start
   ·rw[if_pos ⟨c4,c5⟩]
    repeat' (first
     |(refine k_L ?_;first|(refine k_ml ?_;refine g_ml rfl rfl ?_)|refine a_p rfl ?_|(refine k_g ?_;first|refine a_gy rfl rfl ?_|(refine a_gd rfl (fun hb=>?_) (fun hb=>?_)<;>try(exfalso;omega)))|(refine k_l ?_;refine g_l rfl ?_)|(refine k_bx ?_;refine a_bx rfl rfl ?_)|(refine g_c rfl (step_a (x:=x) (n:=x.H.per*u) h (by omega)) (fun v As' hq=>?_);obtain⟨z,rfl,rfl,hz⟩:=hq))
     |refine a_n ?_
     |(refine k_V ?_;first|refine v_seq ?_|refine v_reg ?_|refine v_dreg ?_|refine v_skip ?_|(refine v_cd rfl (fun hb=>?_) (fun hb=>?_)<;>try(exfalso;omega))))
    all_goals first
     |exact fa_n (fun _ _=>rfl) (Pm.ent pmt) ⟨z,rfl,by rw[hz,step_idle h c4]⟩
     |(exfalso;omega)
   ·rw[if_neg (fun e=>c5 e.2)]
    have pb:x.begin.H=x.H.enterH 1:=by rw[begin_H];unfold Heap.beginH;rw[if_pos c4]
    have hsb:Sound x.begin.H:=by rw[pb];exact begin_sound h c4
    have pp:x.begin.hdr.per=x.H.per:=by show x.begin.H.per=_;rw[pb];rfl
    have hm2:0≤x.begin.hdr.per*u∧x.begin.hdr.per*u≤64*201:=by rw[pp];exact hm
    repeat' (first
     |(refine k_L ?_;first|(refine k_ml ?_;refine g_ml rfl rfl ?_)|refine a_p rfl ?_|(refine k_g ?_;first|refine a_gy rfl rfl ?_|(refine a_gd rfl (fun hb=>?_) (fun hb=>?_)<;>try(exfalso;omega)))|(refine k_l ?_;refine g_l rfl ?_)|(refine k_bx ?_;refine a_bx rfl rfl ?_)|(refine g_c rfl (begin_a (x:=x)) (fun v As' hq=>?_);subst hq))
     |refine a_n ?_
     |(refine k_V ?_;first|refine v_seq ?_|refine v_reg ?_|refine v_dreg ?_|refine v_skip ?_|(refine v_cd rfl (fun hb=>?_) (fun hb=>?_)<;>try(exfalso;omega))))
    refine g_c rfl (step_a (x:=x.begin) (n:=x.begin.hdr.per*u) hsb (by rw[pp];omega)) (fun v As' hq=>?_)
    obtain⟨z,rfl,rfl,hz⟩:=hq
    repeat' (first
     |(refine k_L ?_;first|(refine k_ad ?_;refine g_ad rfl rfl ?_)|(refine k_su ?_;refine g_su rfl rfl ?_)|(refine k_ml ?_;refine g_ml rfl rfl ?_)|refine a_p rfl ?_|(refine k_g ?_;first|refine a_gy rfl rfl ?_|refine a_gn rfl rfl ?_|refine a_gu rfl ?_|(refine a_gd rfl (fun hb=>?_) (fun hb=>?_)<;>try(exfalso;omega))|(refine a_ge rfl (fun hb=>?_) (fun hb=>?_)<;>try(exfalso;omega))|(refine a_gne rfl (fun hb=>?_) (fun hb=>?_)<;>try(exfalso;omega))|(refine a_gnd rfl (fun hb=>?_) (fun hb=>?_)<;>try(exfalso;omega)))|(refine k_l ?_;refine g_l rfl ?_)|(refine k_i ?_;refine g_i rfl rfl ?_)|(refine k_ls ?_;refine g_ls rfl ?_)|(refine k_st ?_;first|refine g_st rfl rfl rfl rfl ?_|refine g_sw rfl rfl rfl rfl (Nat.le_of_ble_eq_true rfl) ?_)|(refine k_al ?_;refine a_al ?_)|(refine k_bx ?_;refine a_bx rfl rfl ?_)|(refine k_bl ?_;refine a_bl rfl ?_)|(refine k_p ?_;first|(refine a_pd rfl (fun hb=>?_) (fun hb=>?_)<;>try(exfalso;omega))|(refine a_pe rfl (fun hb=>?_) (fun hb=>?_)<;>try(exfalso;omega))|(refine a_pne rfl (fun hb=>?_) (fun hb=>?_)<;>try(exfalso;omega))|(refine a_pnd rfl (fun hb=>?_) (fun hb=>?_)<;>try(exfalso;omega))))
     |refine a_n ?_
     |(refine k_V ?_;first|refine v_rv ?_|refine v_seq ?_|refine v_reg ?_|refine v_dreg ?_|refine v_zreg ?_|refine v_bs ?_|refine v_br ?_|refine v_bd ?_|refine v_bc ?_|refine v_bk ?_|refine v_bb ?_|refine v_ret ?_|refine v_exit ?_|refine v_skip ?_|refine v_ct rfl ?_|refine v_cf rfl ?_|(refine v_cd rfl (fun hb=>?_) (fun hb=>?_)<;>try(exfalso;omega))|(refine v_ce rfl (fun hb=>?_) (fun hb=>?_)<;>try(exfalso;omega))|(refine v_cn rfl (fun hb=>?_) (fun hb=>?_)<;>try(exfalso;omega))|(refine v_cnd rfl (fun hb=>?_) (fun hb=>?_)<;>try(exfalso;omega)))
     |refine s_n ?_
     |refine s_r ?_
     |refine s_e ?_
     |refine b_n ?_
     |refine b_r ?_
     |refine b_e ?_
     |refine b_o rfl ?_
     |refine r_rt ?_
     |refine r_bk rfl ?_
     |refine r_ex rfl rfl ?_
     |refine sk_zero ?_
     |refine sk_succ ?_
     |refine wk_nil ?_
     |refine wk_cons ?_)
    exact fa_n (fun _ _=>rfl) (Pm.ent pmt) ⟨z,rfl,by rw[hz,pp,step_busy (by rw[pb];show(1:Int)≠0;omega) hn,pb];exact step_begun c4 hn⟩
  ·rw[if_neg (fun e=>c4 e.1)]
   repeat' (first
    |(refine k_L ?_;first|(refine k_ml ?_;refine g_ml rfl rfl ?_)|refine a_p rfl ?_|(refine k_g ?_;first|refine a_gy rfl rfl ?_|refine a_gn rfl rfl ?_|(refine a_gd rfl (fun hb=>?_) (fun hb=>?_)<;>try(exfalso;omega)))|(refine k_l ?_;refine g_l rfl ?_)|(refine k_bx ?_;refine a_bx rfl rfl ?_)|(refine g_c rfl (step_a (x:=x) (n:=x.H.per*u) h (by omega)) (fun v As' hq=>?_);obtain⟨z,rfl,rfl,hz⟩:=hq))
    |refine a_n ?_
    |(refine k_V ?_;first|refine v_seq ?_|refine v_reg ?_|refine v_dreg ?_|refine v_skip ?_|refine v_cf rfl ?_|(refine v_cd rfl (fun hb=>?_) (fun hb=>?_)<;>try(exfalso;omega))))
   all_goals exact fa_n (fun _ _=>rfl) (Pm.ent pmt) ⟨z,rfl,by rw[hz];exact step_busy c4 hn⟩
end Go.Proofs.YtpleoapljeffiaaDoor.E
namespace Go.Proofs.YtpleoapljeffiaaDoor.E
open Go
noncomputable def e48:Env:=⟨Tryd.prog,[2,3,4,6,80],119,[(5,0),(9,0),(10,8),(11,11),(12,10)]⟩
noncomputable def c48:C:=
 .seq (.reg [zR 2 0,zR 3 1,zn 4 0 0]) (.seq (.seq (.reg [z3 7 0 2,z4 8 1 7,z5 9 8,z3 10 2 9,z4 11 1 10,z7 12 11 1000000000,z0 13 12,zw 14 13 2 2,zH 15 13 3 3,zK 16 13 1 15,⟨some 17,some (13,false),.bin .add (.const (.int .i64 1)) (.tmp 16)⟩,qL 18 13 57 14 17,zc 19 13 18,zO 20 13 19]) (.cond (.tmp 20) (.seq (.reg [zZ 21 38 4,z6 2 4 21]) .ret) .skip)) (.seq (.reg [z8 22 2 2,zM 23 60 22,z0 5 23])
 (.seq (.reg [z3 24 0 2,z4 25 1 24,z5 26 25,z3 27 2 26,z4 28 1 27,zN 29 28 1,z5 30 25,z3 31 2 30,z6 1 31 29]) (.seq (.hreg [2,3,4,80] [z3 32 2 3,z4 33 1 32,z3 34 0 2,z4 35 1 34,z5 36 35,z3 37 2 36,z4 38 1 37,z3 39 3 3,z4 40 1 39] (.alt ⟨some 41,none,.mkslice 6 48 [.int .i64 0,.int .i64 0,.int .i64 0,.int .i64 0,.int .i64 0,.int .i64 0] (.tmp 40) (.tmp 40)⟩ (.alt (qO 42 0 0 0 0 0 0 0 0 0 0 1 1 1
 1 33 4 1 38 7 1 41) (.alt (zV 6 0 0 0 0 0 0 0 0 0) (.alf (z6 8 6 42) (.done) (.none)) (.none)) (.alt (zV 6 0 0 0 0 0 0 0 0 0) (.alt (qO 42 0 0 0 0 0 0 0 0 0 0 1 1 1 1 33 4 1 38 7 1 41) (.alf (z6 8 6 42) (.done) (.none)) (.none)) (.none))) (.alt (zV 6 0 0 0 0 0 0 0 0 0) (.alt ⟨some 41,none,.mkslice 6 48 [.int .i64 0,.int .i64 0,.int .i64 0,.int .i64 0,.int .i64 0,.int .i64 0] (.tmp 40) (.tmp 40)⟩
 (.alt (qO 42 0 0 0 0 0 0 0 0 0 0 1 1 1 1 33 4 1 38 7 1 41) (.alf (z6 8 6 42) (.done) (.none)) (.none)) (.none)) (.none)))) (.seq (.seq (.reg [z3 43 0 2,z4 44 1 43,zM 45 35 44,z0 46 45,zH 47 46 0 2,zK 48 46 1 47,zW 49 46 48,zH 50 46 5 49,zK 51 46 1 50,ze 52 46 51 3,zL 53 46 52,zD 54 53 5,z9 55 53 0 2,zA 56 53 1 55,zJ 57 53 56,z9 58 53 6 57,zA 59 53 1 58,⟨some 60,some (53,true),.bin .geq (.tmp 54)
 (.tmp 59)⟩,q6 61 46 53 60,zO 62 46 61]) (.cond (.tmp 62) (.reg [z3 63 5 6,zd 1 63 2]) .skip)) (.seq (.seq (.reg [z0 64 5,z3 65 0 2,z4 66 1 65,z5 67 66,z3 68 4 67,z4 69 1 68,zG 70 69,zp 71 64 70]) (.cond (.tmp 71) (.hreg [2,3,4,6] [z3 72 0 2,z4 73 1 72,z3 74 0 2,z4 75 1 74,z5 76 75,z3 77 4 76,z4 78 1 77,z8 79 8 6] (.alt ⟨some 80,none,.bslice true 1 8 [.int .i64 0,.int .i64 0,.int .i64 0,.int
 .i64 0,.int .i64 0,.int .i64 0,.int .i64 0,.slice none 0 0] [(0,8,.tmp 79)]⟩ (.alt ⟨some 81,none,.app 8 80 [.int .i64 0,.int .i64 0,.int .i64 0,.int .i64 0,.int .i64 0,.int .i64 0,.int .i64 0,.slice none 0 0] (.tmp 78) (.tmp 80)⟩ (.alf (z5 82 73) (.alf (z3 83 4 82) (.alf (z6 1 83 81) (.done) (.none)) (.none)) (.none)) (.none)) (.none))) (.dreg 8 [z3 84 0 2,z4 85 1 84,z5 86 85,z3 87 4 86,z4 88 1
 87,z0 89 5,z8 90 8 6,zC 91 8 88 89,z6 8 91 90]))) (.seq (.dreg 11 [z3 92 0 2,z4 93 1 92,z5 94 93,z3 95 1 94,z4 96 1 95,z3 97 3 3,z4 98 1 97,zu 99 1 98,zY 100 96 99,z5 101 93,z3 102 1 101,z6 1 102 100]) (.seq (.dreg 10 [z3 103 0 2,z4 104 1 103,z5 105 104,z3 106 3 105,z4 107 1 106,z3 108 1 3,z4 109 1 108,z0 110 5,q5 111 0 0 0 0 1 2 2 1 110,zC 112 3 107 109,z6 3 112 111]) (.seq (.reg [z8 113 2 2,
 z3 114 3 3,z4 115 1 114,zu 116 1 115,zP 117 58 113 116]) (.seq (.reg [zZ 118 47 0,z6 2 4 118]) .ret))))))))))
theorem t48:Tryd.f48.body.bind (trC e48)=some c48:=by kernel_rfl
theorem r48:Tryd.f48.results.toList.mapM (trR Tryd.prog)=some [.cell 4 false 2]:=by kernel_rfl
theorem fn48{args:List Value}{M:Mem}{post:Value→Mem→Prop}(hl:args.length≤119)(h:VC e48 c48 (fnQ [.cell 4 false 2] post) (initS args 119) M):Fn Tryd.prog 48 args M post:=
 Fn.of' (E:=e48) Tryd.func48 t48 rfl r48 mixed hl h
noncomputable def e39:Env:=⟨Tryd.prog,[2,3,4],210,[(6,12),(15,12),(24,8),(26,7),(29,15),(31,15),(33,12),(34,6),(36,12),(37,6)]⟩
noncomputable def c39:C:=
 .seq (.reg [zR 2 0,zR 3 1,zn 4 0 0]) (.seq (.reg [zI 5 (-1)]) (.seq (.seq (.reg [z3 8 0 3,z4 9 1 8]) (.block 0 (.seq (.seq (.reg [z7 14 9 5,z0 13 14]) (.cond (.tmp 13) .skip (.reg [z7 15 9 6,z0 13 15]))) (.cond (.tmp 13) (.dreg 12 [z3 16 0 2,z4 17 1 16,z3 18 0 2,z4 19 1 18,z5 20 19,z3 21 3 20,z4 22 1 21,z3 23 2 3,z4 24 1 23,zC 25 3 22 24,z8 26 3 25,zq 27 40 17 26,z0 5 27]) (.seq (.seq (.reg
 [z7 29 9 7,z0 28 29]) (.cond (.tmp 28) .skip (.seq (.reg [z7 30 9 8,z0 28 30]) (.cond (.tmp 28) .skip (.seq (.reg [z7 31 9 9,z0 28 31]) (.cond (.tmp 28) .skip (.seq (.reg [z7 32 9 10,z0 28 32]) (.cond (.tmp 28) .skip (.seq (.reg [z7 33 9 11,z0 28 33]) (.cond (.tmp 28) .skip (.seq (.reg [z7 34 9 12,z0 28 34]) (.cond (.tmp 28) .skip (.seq (.reg [z7 35 9 16,z0 28 35]) (.cond (.tmp 28) .skip
 (.reg [z7 36 9 17,z0 28 36]))))))))))))))) (.cond (.tmp 28) (.dreg 12 [z3 37 0 2,z4 38 1 37,z3 39 0 2,z4 40 1 39,z5 41 40,z3 42 3 41,z4 43 1 42,z3 44 1 3,z4 45 1 44,zC 46 3 43 45,z8 47 3 46,zq 48 40 38 47,z0 5 48]) (.seq (.reg [z8 10 2 2,z8 11 5 3,zP 12 41 10 11,z6 2 4 12]) .ret))))))) (.seq (.seq (.reg [z0 49 5,qM 50 49 0]) (.cond (.tmp 50) (.seq (.reg [zZ 51 38 2,z6 2 4 51]) .ret) .skip))
 (.seq (.reg [z3 52 0 2,z4 53 1 52,z5 54 53,z3 55 4 54,z4 56 1 55,z0 57 5,zC 58 8 56 57,z0 6 58]) (.seq (.seq (.reg [z3 59 0 3,z4 60 1 59]) (.block 1 (.seq (.seq (.reg [z7 62 60 5,z0 61 62]) (.cond (.tmp 61) .skip (.seq (.reg [z7 63 60 6,z0 61 63]) (.cond (.tmp 61) .skip (.seq (.reg [z7 64 60 7,z0 61 64]) (.cond (.tmp 61) .skip (.reg [z7 65 60 8,z0 61 65]))))))) (.cond (.tmp 61) (.seq (.seq
 (.dreg 8 [z3 66 3 3,z4 67 1 66,z0 68 6,z5 69 68,z3 70 7 69,z4 71 1 70,zG 72 71,qE 73 67 72]) (.cond (.tmp 73) (.seq (.reg [zZ 74 38 3,z6 2 4 74]) .ret) .skip)) (.seq (.dreg 7 [z0 75 6,z5 76 75,z3 77 7 76,z4 78 1 77,z3 79 3 3,z4 80 1 79,zC 81 6 78 80,z0 7 81]) (.seq (.reg [z3 82 0 3,z4 83 1 82]) (.block 2 (.seq (.reg [z7 85 83 5,z0 84 85]) (.cond (.tmp 84) (.dreg 15 [z3 86 0 2,z4 87 1 86,z5
 88 87,z3 89 3 88,z4 90 1 89,z3 91 1 3,z4 92 1 91,z3 93 0 2,z4 94 1 93,z0 95 7,z5 96 95,z3 97 0 96,z8 98 3 97,zq 99 42 94 98,zC 100 3 90 92,z6 3 100 99]) (.seq (.reg [z7 102 83 6,z0 101 102]) (.cond (.tmp 101) (.dreg 15 [z3 103 0 2,z4 104 1 103,z5 105 104,z3 106 3 105,z4 107 1 106,z3 108 1 3,z4 109 1 108,z3 110 0 2,z4 111 1 110,z0 112 7,z5 113 112,z3 114 3 113,z8 115 3 114,zq 116 42 111 115,zC
 117 3 107 109,z6 3 117 116]) (.seq (.reg [z7 119 83 7,z0 118 119]) (.cond (.tmp 118) (.seq (.dreg 12 [z0 120 7,z3 121 0 2,z4 122 1 121,z5 123 122,z3 124 3 123,z4 125 1 124,z3 126 2 3,z4 127 1 126,zC 128 3 125 127,z8 129 3 128,z5 130 120,z3 131 0 130,z6 3 131 129]) (.dreg 6 [z3 132 0 2,z4 133 1 132,z0 134 7,z5 135 134,z3 136 0 135,z8 137 3 136,zP 138 43 133 137])) (.seq (.reg [z7 140 83 8,z0
 139 140]) (.cond (.tmp 139) (.seq (.dreg 12 [z0 141 7,z3 142 0 2,z4 143 1 142,z5 144 143,z3 145 3 144,z4 146 1 145,z3 147 2 3,z4 148 1 147,zC 149 3 146 148,z8 150 3 149,z5 151 141,z3 152 3 151,z6 3 152 150]) (.dreg 6 [z3 153 0 2,z4 154 1 153,z0 155 7,z5 156 155,z3 157 3 156,z8 158 3 157,zP 159 43 154 158])) .skip)))))))))))) (.seq (.reg [z7 161 60 9,z0 160 161]) (.cond (.tmp 160) (.seq (.reg [
 z8 162 2 2,z0 163 5,z8 164 5 3,qC 165 44 162 163 164,z6 2 4 165]) .ret) (.seq (.reg [z7 167 60 10,z0 166 167]) (.cond (.tmp 166) (.reg [z8 168 2 2,z0 169 5,z3 170 3 3,z4 171 1 170,qC 172 45 168 169 171]) (.seq (.reg [z7 174 60 11,z0 173 174]) (.cond (.tmp 173) (.reg [z0 175 6,z3 176 3 3,z4 177 1 176,z5 178 175,z3 179 2 178,z6 1 179 177]) (.seq (.reg [z7 181 60 12,z0 180 181]) (.cond (.tmp
 180) (.seq (.reg [z0 182 6,z3 183 3 3,z4 184 1 183,z5 185 182,z3 186 3 185,z6 1 186 184]) (.seq (.reg [z3 187 3 3,z4 188 1 187,z7 189 188 1]) (.cond (.tmp 189) (.reg [z3 190 0 2,z4 191 1 190,z0 192 5,zP 193 46 191 192]) .skip))) (.seq (.reg [z7 195 60 16,z0 194 195]) (.cond (.tmp 194) (.seq (.reg [z0 196 6,z5 197 196,z3 198 1 197,z4 199 1 198,zM 200 47 199,z6 2 4 200]) .ret) (.seq (.reg [z7
 202 60 17,z0 201 202]) (.cond (.tmp 201) (.seq (.reg [z0 203 6,z5 204 203,z3 205 7 204,z4 206 1 205,zG 207 206,zM 208 47 207,z6 2 4 208]) .ret) .skip)))))))))))))))) (.seq (.reg [zZ 209 47 0,z6 2 4 209]) .ret))))))
theorem t39:Tryd.f39.body.bind (trC e39)=some c39:=by kernel_rfl
theorem r39:Tryd.f39.results.toList.mapM (trR Tryd.prog)=some [.cell 4 false 2]:=by kernel_rfl
theorem fn39{args:List Value}{M:Mem}{post:Value→Mem→Prop}(hl:args.length≤210)(h:VC e39 c39 (fnQ [.cell 4 false 2] post) (initS args 210) M):Fn Tryd.prog 39 args M post:=
 Fn.of' (E:=e39) Tryd.func39 t39 rfl r39 mixed hl h
noncomputable def e41:Env:=⟨Tryd.prog,[2,3,4],226,[(5,11),(7,9),(9,17),(11,19),(14,11),(16,11),(18,11),(25,9),(28,10),(31,0),(33,0),(40,0)]⟩
noncomputable def c41:C:=
 .seq (.reg [zR 2 0,zR 3 1,zn 4 0 0]) (.seq (.seq (.reg [z3 8 0 3,z4 9 1 8]) (.block 0 (.seq (.reg [z7 11 9 1,z0 10 11]) (.cond (.tmp 10) (.seq (.reg [z8 12 2 2,z8 13 5 3,zP 14 48 12 13,z6 2 4 14]) .ret) (.seq (.reg [z7 16 9 2,z0 15 16]) (.cond (.tmp 15) (.dreg 11 [z3 17 0 2,z4 18 1 17,z5 19 18,z3 20 3 19,z4 21 1 20,z3 22 1 3,z4 23 1 22,z3 24 4 3,z4 25 1 24,q5 26 0 0 0 0 1 1 1 1 25,zC 27 3
 21 23,z6 3 27 26]) (.seq (.reg [z7 29 9 3,z0 28 29]) (.cond (.tmp 28) (.dreg 9 [z3 30 0 2,z4 31 1 30,z5 32 31,z3 33 3 32,z4 34 1 33,z3 35 1 3,z4 36 1 35,⟨some 37,none,.build [.int .i64 0,.int .i64 0,.int .i64 0] []⟩,zC 38 3 34 36,z6 3 38 37]) (.seq (.reg [z7 40 9 4,z0 39 40]) (.cond (.tmp 39) (.dreg 17 [z3 41 0 2,z4 42 1 41,z5 43 42,z3 44 3 43,z4 45 1 44,z3 46 1 3,z4 47 1 46,z3 48 0 2,z4 49 1
 48,z5 50 49,z3 51 3 50,z4 52 1 51,z3 53 2 3,z4 54 1 53,zC 55 3 52 54,z8 56 3 55,zC 57 3 45 47,z6 3 57 56]) (.seq (.reg [z7 59 9 13,z0 58 59]) (.cond (.tmp 58) (.seq (.dreg 19 [z3 60 0 2,z4 61 1 60,z5 62 61,z3 63 3 62,z4 64 1 63,z3 65 1 3,z4 66 1 65,zC 67 3 64 66,z8 68 3 67,z3 69 0 2,z4 70 1 69,z5 71 70,z3 72 3 71,z4 73 1 72,z3 74 2 3,z4 75 1 74,zC 76 3 73 75,z8 77 3 76,⟨some 78,none,.eqA false
 3 (.tmp 68) (.tmp 77)⟩]) (.cond (.tmp 78) (.seq (.reg [zZ 79 47 1,z6 2 4 79]) .ret) .skip)) (.seq (.reg [z7 81 9 14,z0 80 81]) (.cond (.tmp 80) (.seq (.dreg 11 [z3 82 0 2,z4 83 1 82,z5 84 83,z3 85 3 84,z4 86 1 85,z3 87 1 3,z4 88 1 87,zC 89 3 86 88,z3 90 0 89,z4 91 1 90,qA 92 47 91,z6 2 4 92]) .ret) (.seq (.reg [z7 94 9 15,z0 93 94]) (.cond (.tmp 93) (.seq (.seq (.dreg 11 [z3 95 0 2,z4 96 1
 95,z5 97 96,z3 98 3 97,z4 99 1 98,z3 100 1 3,z4 101 1 100,zC 102 3 99 101,z3 103 0 102,z4 104 1 103,zo 105 104 1]) (.cond (.tmp 105) (.seq (.reg [zZ 106 38 2,z6 2 4 106]) .ret) .skip)) (.seq (.dreg 11 [z3 107 0 2,z4 108 1 107,z5 109 108,z3 110 3 109,z4 111 1 110,z3 112 1 3,z4 113 1 112,zC 114 3 111 113,z3 115 1 114,z4 116 1 115,qN 117 0 0 1 1 116,z6 2 4 117]) .ret)) (.seq (.reg [z7 119 9 18,z0
 118 119]) (.cond (.tmp 118) (.seq (.reg [z3 121 0 2,z4 122 1 121,zM 123 49 122,z0 120 123,⟨some 124,none,.ext (.tmp 120) 0⟩,⟨some 125,none,.ext (.tmp 120) 1⟩,z0 5 124,z0 6 125]) (.seq (.reg [z0 126 6,zM 127 47 126,z6 2 4 127]) .ret)) (.seq (.reg [z7 129 9 19,z0 128 129]) (.cond (.tmp 128) (.seq (.reg [z3 130 0 2,z4 131 1 130,zM 132 50 131,z0 7 132]) (.seq (.seq (.reg [z0 133 7,qM 134 133 0])
 (.cond (.tmp 134) (.seq (.dreg 9 [z3 135 0 2,z4 136 1 135,z5 137 136,z3 138 3 137,z4 139 1 138,z3 140 1 3,z4 141 1 140,⟨some 142,none,.build [.int .i64 0,.int .i64 0,.int .i64 0] []⟩,zC 143 3 139 141,z6 3 143 142]) (.seq (.reg [zZ 144 47 0,z6 2 4 144]) .ret)) .skip)) (.seq (.reg [z3 145 0 2,z4 146 1 145,z5 147 146,z3 148 4 147,z4 149 1 148,z0 150 7,zC 151 8 149 150,z3 152 3 151,zd 1 152 3])
 (.seq (.dreg 10 [z3 153 0 2,z4 154 1 153,z5 155 154,z3 156 3 155,z4 157 1 156,z3 158 1 3,z4 159 1 158,z0 160 7,q5 161 0 0 0 0 1 2 2 1 160,zC 162 3 157 159,z6 3 162 161]) (.seq (.reg [zZ 163 47 1,z6 2 4 163]) .ret))))) (.seq (.reg [z7 165 9 20,z0 164 165]) (.cond (.tmp 164) (.seq (.hreg [2,3,4] [z3 166 0 2,z4 167 1 166,z3 168 0 2,z4 169 1 168] (.alt (zM 170 52 169) (.alt (zP 171 51 167 170)
 (.alt (zM 172 47 171) (.alf (z6 2 4 172) (.done) (.none)) (.none)) (.none)) (.none))) .ret) (.seq (.reg [z7 174 9 21,z0 173 174]) (.cond (.tmp 173) (.seq (.hreg [2,3,4] [z3 175 0 2,z4 176 1 175,z3 177 0 2,z4 178 1 177] (.alt (zM 179 53 178) (.alt (zP 180 51 176 179) (.alt (zM 181 47 180) (.alf (z6 2 4 181) (.done) (.none)) (.none)) (.none)) (.none))) .ret) (.seq (.reg [z7 183 9 22,z0 182 183])
 (.cond (.tmp 182) (.seq (.reg [z3 184 1 2,z4 185 1 184,zU 186 185,z0 187 186,z9 188 187 3 3,zA 189 187 1 188,⟨some 190,some (187,true),.bin .gtr (.tmp 189) (.const (.int .i64 0))⟩,zE 191 187 190]) (.cond (.tmp 191) (.seq (.reg [z3 192 0 2,z4 193 1 192,zM 194 54 193]) (.reg [z3 195 0 2,z4 196 1 195,z3 197 3 3,z4 198 1 197,zP 199 55 196 198])) .skip)) (.seq (.reg [z7 201 9 23,z0 200 201])
 (.cond (.tmp 200) (.seq (.reg [z3 202 1 2,z4 203 1 202,zU 204 203]) (.cond (.tmp 204) (.hreg [2,3,4] [z3 205 0 2,z4 206 1 205,z3 207 0 2,z4 208 1 207,z3 209 2 3,z4 210 1 209,z3 211 3 3,z4 212 1 211,z5 213 206,z3 214 9 213] (.alt (z6 1 214 210) (.alf (z5 215 208) (.alf (z3 216 10 215) (.alf (z6 1 216 212) (.done) (.none)) (.none)) (.none)) (.none))) .skip)) (.seq (.reg [z7 218 9 24,z0 217 218])
 (.cond (.tmp 217) (.seq (.reg [z3 219 1 2,z4 220 1 219,zU 221 220]) (.cond (.tmp 221) (.reg [z3 222 0 2,z4 223 1 222,zM 224 56 223]) .skip)) .skip)))))))))))))))))))))))))))))) (.seq (.reg [zZ 225 47 0,z6 2 4 225]) .ret))
theorem t41:Tryd.f41.body.bind (trC e41)=some c41:=by kernel_rfl
theorem r41:Tryd.f41.results.toList.mapM (trR Tryd.prog)=some [.cell 4 false 2]:=by kernel_rfl
theorem fn41{args:List Value}{M:Mem}{post:Value→Mem→Prop}(hl:args.length≤226)(h:VC e41 c41 (fnQ [.cell 4 false 2] post) (initS args 226) M):Fn Tryd.prog 41 args M post:=
 Fn.of' (E:=e41) Tryd.func41 t41 rfl r41 mixed hl h
noncomputable def e27:Env:=⟨Tryd.prog,[2,3,4],12,[]⟩
noncomputable def c27:C:=
 .seq (.reg [zR 2 0,zR 3 1,zn 4 0 0]) (.seq (.seq (.reg [z8 5 5 3,zM 6 37 5,zU 7 6]) (.cond (.tmp 7) (.seq (.reg [zZ 8 38 1,z6 2 4 8]) .ret) .skip)) (.seq (.reg [z8 9 2 2,z8 10 5 3,zP 11 39 9 10,z6 2 4 11]) .ret))
theorem t27:Tryd.f27.body.bind (trC e27)=some c27:=by kernel_rfl
theorem r27:Tryd.f27.results.toList.mapM (trR Tryd.prog)=some [.cell 4 false 2]:=by kernel_rfl
theorem fn27{args:List Value}{M:Mem}{post:Value→Mem→Prop}(hl:args.length≤12)(h:VC e27 c27 (fnQ [.cell 4 false 2] post) (initS args 12) M):Fn Tryd.prog 27 args M post:=
 Fn.of' (E:=e27) Tryd.func27 t27 rfl r27 mixed hl h
end Go.Proofs.YtpleoapljeffiaaDoor.E
