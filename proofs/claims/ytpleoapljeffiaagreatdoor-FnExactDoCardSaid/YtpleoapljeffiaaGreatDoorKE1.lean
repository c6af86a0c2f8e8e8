/- A part of the proof. Conditions: none. -/
import Derived.Calls
import Derived.Tactics
import Derived.Deep.LoopGhost
import Derived.StillTail
import Derived.Laws.Sem
import Derived.Laws.World
import Derived.Laws.Cells
import Derived.Laws.CopyRow
import Derived.KernelRfl
import Derived.ChangeKeysEq
import Derived.Laws.Tables
import Derived.Laws.Append
set_option linter.unusedVariables false
set_option linter.unusedSimpArgs false
namespace Go.Proofs.YtpleoapljeffiaaGreatDoor.E
open Go
theorem xx{G G2:Prop}(h:G2)(s:G2→G:=by intro h;first|(refine k_L ?_;first|(refine k_ad ?_;exact g_ad rfl rfl h)|(refine k_su ?_;exact g_su rfl rfl h)|(refine k_ml ?_;exact g_ml rfl rfl h)|exact a_p rfl h|(refine k_g ?_;first|exact a_gy rfl rfl h|exact a_gn rfl rfl h|exact a_gu rfl h)|(refine k_l ?_;first|exact g_l rfl h)|(refine k_i ?_;exact g_i rfl rfl h)|(refine k_ls ?_;exact g_ls rfl h)|(refine k_st ?_;first|exact g_st rfl rfl rfl rfl h|exact g_sw rfl rfl rfl rfl (Nat.le_of_ble_eq_true rfl) h)|(refine k_al ?_;exact a_al h)|(refine k_bx ?_;exact a_bx rfl rfl h)|(refine k_bl ?_;exact a_bl rfl h))|exact a_n h|(refine k_V ?_;first|exact v_rv h|exact v_seq h|exact v_reg h|exact v_dreg h|exact v_zreg h|exact v_bs h|exact v_br h|exact v_bd h|exact v_bc h|exact v_bk h|exact v_bb h|exact v_ret h|exact v_exit h|exact v_skip h|exact v_ct rfl h|exact v_cf rfl h)|exact s_n h|exact s_r h|exact s_e h|exact b_n h|exact b_r h|exact b_e h|exact b_o rfl h|exact r_rt h|exact r_bk rfl h|exact r_ex rfl rfl h|exact sk_zero h|exact sk_succ h|exact wk_nil h|exact wk_cons h):G:=s h
theorem xy{G A B:Prop}(h:A)(g:B)(s:A→B→G:=by intro h g;first|(refine k_L ?_;first|(refine k_g ?_;first|exact a_gd rfl h g|exact a_ge rfl h g|exact a_gne rfl h g|exact a_gnd rfl h g)|(refine k_p ?_;first|exact a_pd rfl h g|exact a_pe rfl h g|exact a_pne rfl h g|exact a_pnd rfl h g))|(refine k_V ?_;first|exact v_cd rfl h g|exact v_ce rfl h g|exact v_cn rfl h g|exact v_cnd rfl h g)):G:=s h g
theorem xw{G G2:Prop}(h:G2)(s:G2→G:=by intro h;first|exact vl_add rfl rfl (by omega) h|exact vl_sub rfl rfl (by omega) h|exact vl_mul rfl rfl (by omega) h|exact vl_pure rfl h|exact vl_gy rfl rfl h|exact vl_gn rfl rfl h|exact vl_gu rfl h|exact vl_nil h|exact VC.seq h|exact VC.regV h|exact vl_idx rfl rfl (by omega) h|exact vl_alloc h|exact vl_stw rfl rfl rfl rfl (by first|rfl|assumption) (Nat.le_of_ble_eq_true rfl) h|exact sk_zero h|exact sk_succ h|exact wk_nil h|exact wk_cons h|exact vl_box rfl rfl h|exact vl_bsl rfl h|exact VC.dregV h|exact VC.block h|exact VC.ret h|exact VC.exit h|exact VC.skip h):G:=s h
inductive Bk where
 |row (cs:List Value)
 |ro (cs:List Value) (t:TypeId) (fr:Nat×Nat)
 |mp (es:Array MapEntry) (clk:Nat)
abbrev Mem:=Nat→Option Bk
def Mem.upd(M:Mem)(b:Nat)(k:Bk):Mem:=fun x=>if x=b then some k else M x
theorem Mem.upd_same(M:Mem)(b:Nat)(k:Bk):M.upd b k b=some k:=by simp[Mem.upd]
theorem Mem.upd_ne(M:Mem){b x:Nat}(k:Bk)(h:x≠b):M.upd b k x=M x:=by simp[Mem.upd,h]
def Mem.le(M M':Mem):Prop:=∀b k,M b=some k→M' b=some k
theorem Mem.le_refl(M:Mem):M.le M:=fun _ _ h=>h
theorem Mem.le_trans{A B C:Mem}(h:A.le B)(h':B.le C):A.le C:=fun b k e=>h' b k (h b k e)
theorem Mem.upd_le_upd{M M':Mem}(h:M.le M')(b:Nat)(k:Bk):(M.upd b k).le (M'.upd b k):=by
 intro x kx hx
 by_cases hxb:x=b
 ·subst hxb;rw[Mem.upd_same]at*;exact hx
 ·rw[Mem.upd_ne _ _ hxb]at*;exact h _ _ hx
def holds(w:World)(b:Nat):Bk→Prop
 |.row cs=>∃t,w.heap[b]?=some (.cells cs.toArray t (0,0))
 |.ro cs t fr=>w.heap[b]?=some (.cells cs.toArray t fr)
 |.mp es c=>w.heap[b]?=some (.map es c)
theorem holds.lt{w:World}{b:Nat}{k:Bk}(h:holds w b k):b<w.heap.size:=by
 cases k with
 |row cs=>obtain⟨t,h⟩:=h;exact(Array.getElem?_eq_some_iff.1 h).1
 |ro cs t fr=>exact(Array.getElem?_eq_some_iff.1 h).1
 |mp es c=>exact(Array.getElem?_eq_some_iff.1 h).1
theorem holds.of_eq{w w':World}{b:Nat}{k:Bk}(h:holds w b k)(e:w'.heap[b]?=w.heap[b]?):holds w' b k:=by
 cases k with
 |row cs=>obtain⟨t,h⟩:=h;exact⟨t,e.trans h⟩
 |ro cs t fr=>exact e.trans h
 |mp es c=>exact e.trans h
theorem holds.ro{w:World}{b:Nat}{cs:List Value}(h:holds w b (.row cs)):∃t fr,holds w b (.ro cs t fr):=let⟨t,h⟩:=h;⟨t,_,h⟩
def Sat(w:World)(M:Mem):Prop:=∀b k,M b=some k→holds w b k
theorem Sat.lt{w:World}{M:Mem}(h:Sat w M){b:Nat}(hb:M b≠none):b<w.heap.size:=by
 cases hk:M b with
 |none=>exact absurd hk hb
 |some k=>exact(h b k hk).lt
theorem Sat.le{w:World}{M M':Mem}(h:Sat w M')(l:M.le M'):Sat w M:=fun b k e=>h b k (l b k e)
structure Stp (w:World) (M:Mem) (w':World) (M':Mem):Prop where
 os:w'.os=w.os
 tape:w'.tape=w.tape
 output:w'.output=w.output
 size:w.heap.size≤w'.heap.size
 keep:∀b,b<w.heap.size→M b=none→w'.heap[b]?=w.heap[b]?
 dom:∀b,M' b≠none→M b≠none∨w.heap.size≤b
theorem Stp.refl(w:World)(M:Mem):Stp w M w M:=⟨rfl,rfl,rfl,Nat.le_refl _,fun _ _ _=>rfl,fun _ h=>.inl h⟩
theorem Stp.trans{w w1 w2:World}{M M1 M2:Mem}(h:Stp w M w1 M1)(k:Stp w1 M1 w2 M2):Stp w M w2 M2 where
 os:=k.os.trans h.os
 tape:=k.tape.trans h.tape
 output:=k.output.trans h.output
 size:=Nat.le_trans h.size k.size
 keep b hb hM:=by
  have h1:M1 b=none:=by
   cases e:M1 b with
   |none=>rfl
   |some x=>rcases h.dom b (by rw[e];simp)with h'|h'
            ·exact absurd hM h'
            ·omega
  exact(k.keep b (Nat.lt_of_lt_of_le hb h.size) h1).trans (h.keep b hb hM)
 dom b hb:=by
  rcases k.dom b hb with h'|h'
  ·exact h.dom b h'
  ·exact .inr (Nat.le_trans h.size h')
theorem Stp.le{w w1:World}{M M1 M2:Mem}(h:Stp w M w1 M1)(l:M2.le M1):Stp w M w1 M2:=
 ⟨h.os,h.tape,h.output,h.size,h.keep,fun b hb=>h.dom b (by
   cases e:M2 b with
   |none=>exact absurd e hb
   |some k=>rw[l b k e];simp)⟩
structure Fn (P:Program) (f:FuncId) (args:List Value) (M:Mem) (post:Value→Mem→Prop):Prop where
 out:∀w,Sat w M→Calls P f args.toArray w (fun e w'=>∃v M',e=.returned v∧post v M'∧Sat w' M'∧Stp w M w' M')
theorem Fn.mono{P:Program}{f:FuncId}{args:List Value}{M:Mem}{post post':Value→Mem→Prop}(h:Fn P f args M post)(k:∀v M',post v M'→post' v M'):Fn P f args M post':=
 ⟨fun w hw=>(h.out w hw).mono fun _ _ ⟨v,M',e,p,s,t⟩=>⟨v,M',e,k v M' p,s,t⟩⟩
def Qt(P:Program)(f:FuncId)(args:List Value)(M:Mem)(r:Value):Prop:=Fn P f args M (fun v M'=>v=r∧M'=M)
inductive SV where
 |v (x:Value)
 |box (cs:List Value)
 |bsl (cs:List Value) (n:Nat)
 |bp (s off:Nat)
 |junk
abbrev St:=Nat→SV
def SV.isBox:SV→Bool
 |.box _|.bsl _ _=>true
 |_=>false
def ev(f:Nat→SV):Operand→Option Value
 |.tmp t=>match f t with|.v x=>some x|_=>none
 |.const x=>some x
 |.global g=>some (.pointer (some ⟨g,0,none⟩))
 |.func g=>some (.func (.func g) #[] #[])
def evs(f:Nat→SV):List Operand→Option (List Value)
 |[]=>some []
 |x::r=>match ev f x,evs f r with|some a,some b=>some (a::b)|_,_=>none
inductive Lc where
 |bx (s off:Nat)
 |mm (b off:Nat)
def lcV:Value→Option Lc
 |.pointer (some ⟨b,o,none⟩)=>some (.mm b o)
 |_=>none
def lc(f:Nat→SV):Operand→Option Lc
 |.tmp t=>match f t with
  |.box _=>some (.bx t 0)
  |.bp s o=>some (.bx s o)
  |.v x=>lcV x
  |_=>none
 |.global g=>some (.mm g 0)
 |.const x=>lcV x
 |_=>none
def bxc:SV→Option (List Value)
 |.box cs=>some cs
 |_=>none
def rdv(one:Bool)(n:Nat)(cs:List Value)(o:Nat):Option Value:=
 if one then cs[o]? else if o+n≤cs.length then some (.agg ((cs.drop o).take n).toArray)else none
def wr:List Value→Nat→List Value→List Value
 |cs,_,[]=>cs
 |cs,o,x::r=>wr (cs.set o x) (o+1) r
theorem wr_length(vs:List Value):∀cs o,(wr cs o vs).length=cs.length:=by
 induction vs with
 |nil=>intro cs o;rfl
 |cons x r ih=>intro cs o;simp[wr,ih]
theorem wr_get(vs:List Value):∀(cs:List Value) (o j:Nat),o+vs.length≤cs.length→(wr cs o vs)[j]?=if o≤j∧j<o+vs.length then vs[j-o]? else cs[j]?:=by
 induction vs with
 |nil=>intro cs o j _;simp only[wr,List.length_nil];rw[if_neg (by omega)]
 |cons x r ih=>
  intro cs o j h
  simp only[List.length_cons]at h
  simp only[wr,List.length_cons]
  rw[ih _ _ _ (by simp;omega)]
  by_cases h1:o+1≤j∧j<o+1+r.length
  ·rw[if_pos h1,if_pos (by omega)]
   rw[show j-o=(j-(o+1))+1 by omega,List.getElem?_cons_succ]
  ·rw[if_neg h1]
   by_cases h2:j=o
   ·subst h2
    rw[if_pos (by omega)]
    simp[List.getElem?_set];omega
   ·rw[if_neg (by omega),List.getElem?_set_ne (by omega)]
inductive K where
 |mov (x:Operand)
 |pick (c a b:Operand)
 |bin (op:BinOp) (x y:Operand)
 |eqB (neg:Bool) (x y:Operand)
 |eqA (neg:Bool) (n:Nat) (x y:Operand)
 |not (x:Operand)
 |conv(k:IntKind) (x:Operand)
 |load (one:Bool) (n:Nat) (x:Operand)
 |nilCheck (x:Operand)
 |faddr (off:Nat) (x:Operand)
 |field (one:Bool) (off n:Nat) (x:Operand)
 |iaddr (size:Nat) (x i:Operand)
 |sidx (x i:Operand)
 |build (zero:List Value) (parts:List (Nat×Nat×Operand))
 |slc (size:Nat) (x:Operand) (lo hi:Option Operand)
 |sslc (x:Operand) (lo hi:Option Operand)
 |lenS (x:Operand)
 |lenT (x:Operand)
 |min (x y:Operand)
 |max (x y:Operand)
 |ext (x:Operand) (i:Nat)
 |mkfn (f:FuncId) (xs ys:List Operand)
 |look (one:Bool) (zero:Value) (ok:Bool) (x i:Operand)
 |alloc (own:Bool) (zero:List Value)
 |box (own:Bool) (x:Operand)
 |bslice (own:Bool) (len size:Nat) (zero:List Value) (parts:List (Nat×Nat×Operand))
 |qcall (f:FuncId) (xs:List Operand)
 |call (f:FuncId) (xs:List Operand)
 |callv (x:Operand) (xs:List Operand)
 |store (n:Nat) (x y:Operand)
 |mkslice (size bytes:Nat) (zero:List Value) (l c:Operand)
 |app (size bytes:Nat) (zero:List Value) (s x:Operand)
 |appz (size bytes:Nat) (zero:List Value) (s x:Operand)
 |mkmap
 |mupd (x k y:Operand)
 |mdel (x k:Operand)
structure I where
 d:Option Nat
 g:Option (Nat×Bool)
 k:K
def K.ops:K→List Operand
 |.mov x|.not x|.conv _ x|.load _ _ x|.nilCheck x|.faddr _ x|.field _ _ _ x|.lenS x|.lenT x|.ext x _|.box _ x=>[x]
 |.pick c a b=>[c,a,b]
 |.bin _ x y|.eqB _ x y|.eqA _ _ x y|.iaddr _ x y|.sidx x y|.min x y|.max x y|.look _ _ _ x y|.store _ x y|.mkslice _ _ _ x y|.app _ _ _ x y|.appz _ _ _ x y|.mdel x y=>[x,y]
 |.build _ ps|.bslice _ _ _ _ ps=>ps.map (·.2.2)
 |.slc _ x l h|.sslc x l h=>x::(l.toList++h.toList)
 |.mkfn _ xs ys=>xs++ys
 |.alloc _ _|.mkmap=>[]
 |.qcall _ xs|.call _ xs=>xs
 |.callv x xs=>x::xs
 |.mupd x y z=>[x,y,z]
def tmpsOf:List Operand→List Nat
 |[]=>[]
 |.tmp t::r=>t::tmpsOf r
 |_::r=>tmpsOf r
def I.slots(i:I):List Nat:=(match i.g with|some (s,_)=>[s]|none=>[])++tmpsOf i.k.ops
def binI(op:BinOp)(k:IntKind)(a b:Int):Option Value:=
 match op with
 |.add=>some (.int k (k.wrap (a+b)))
 |.sub=>some (.int k (k.wrap (a-b)))
 |.mul=>some (.int k (k.wrap (a*b)))
 |.quo=>if b=0 then none else some (.int k (k.wrap (a.tdiv b)))
 |.rem=>if b=0 then none else some (.int k (a.tmod b))
 |.and=>some (.int k (k.wrap (BitVec.ofInt k.bits a&&&BitVec.ofInt k.bits b).toNat))
 |.or=>some (.int k (k.wrap (BitVec.ofInt k.bits a|||BitVec.ofInt k.bits b).toNat))
 |.eql=>some (.bool (a==b))
 |.neq=>some (.bool (a !=b))
 |.lss=>some (.bool (a<b))
 |.leq=>some (.bool (a≤b))
 |.gtr=>some (.bool (a>b))
 |.geq=>some (.bool (a≥b))
 |_=>none
def binS(op:BinOp)(a b:ByteArray):Option Value:=
 match op with
 |.add=>if((a.size+b.size:Nat):Int)>9223372036854775807 then none else some (.string (a++b))
 |.eql=>some (.bool (a.toList==b.toList))
 |.neq=>some (.bool !(a.toList==b.toList))
 |_=>none
def shrI(k:IntKind)(a b:Int):Option Value:=if 0≤b∧b≤k.bits then some (.int k (a/2^b.toNat))else none
def binV(op:BinOp):Value→Value→Option Value
 |.int k a,.int k' b=>match op with
  |.shr=>shrI k a b
  |_=>if k=k' then binI op k a b else none
 |.string a,.string b=>binS op a b
 |_,_=>none
def allI:List Value→Option (List Int)
 |[]=>some []
 |.int .i64 a::r=>(allI r).map (a:: ·)
 |_=>none
def eqAgg(n:Nat):Value→Value→Option Bool
 |.agg a,.agg b=>match allI a.toList,allI b.toList with
  |some l,some l'=>if l.length=n∧l'.length=n then some (l==l')else none
  |_,_=>none
 |_,_=>none
def bnd:Option Value→Nat→Option Nat
 |none,d=>some d
 |some (.int _ n),_=>if 0≤n then some n.toNat else none
 |_,_=>none
def slcV(size:Nat)(x:Value)(lo hi:Option Value):Option Value:=
 match x with
 |.slice a len cap=>
  match bnd lo 0,bnd hi len with
  |some l,some h=>if l≤h∧h≤cap then
    match a with
    |none=>some (.slice none (h-l) (cap-l))
    |some ⟨b,o,none⟩=>some (.slice (some (if cap=l then⟨b,o,none⟩else⟨b,o+l*size,none⟩)) (h-l) (cap-l))
    |_=>none
   else none
  |_,_=>none
 |_=>none
def sslcV(x:Value)(lo hi:Option Value):Option Value:=
 match x with
 |.string s=>match bnd lo 0,bnd hi s.size with
  |some l,some h=>if l≤h∧h≤s.size then some (.string (s.extract l h))else none
  |_,_=>none
 |_=>none
def optEv(f:Nat→SV):Option Operand→Option (Option Value)
 |none=>some none
 |some x=>(ev f x).map some
def fillP(f:Nat→SV):List Value→List (Nat×Nat×Operand)→Option (List Value)
 |cs,[]=>some cs
 |cs,(o,n,x)::r=>match ev f x with
  |some y=>if y.cells.size=n∧o+n≤cs.length then fillP f (wr cs o y.cells.toList) r else none
  |none=>none
def plainCells(vs:List Value):Bool:=vs.all (·.oneCell')
def pe(f:Nat→SV):K→Option SV
 |.mov x=>(ev f x).map .v
 |.pick c a b=>match ev f c with
  |some (.bool t)=>(ev f (if t then a else b)).map .v
  |_=>none
 |.bin op x y=>match ev f x,ev f y with
  |some a,some b=>(binV op a b).map .v
  |_,_=>none
 |.eqB neg x y=>match ev f x,ev f y with
  |some (.bool a),some (.bool b)=>some (.v (.bool (if neg then !(a==b)else a==b)))
  |_,_=>none
 |.eqA neg n x y=>match ev f x,ev f y with
  |some a,some b=>(eqAgg n a b).map fun t=>.v (.bool (if neg then !t else t))
  |_,_=>none
 |.not x=>match ev f x with
  |some (.bool a)=>some (.v (.bool !a))
  |_=>none
 |.conv k x=>match ev f x with
  |some (.int _ n)=>some (.v (.int k (k.wrap n)))
  |_=>none
 |.load one n x=>match lc f x with
  |some (.bx s o)=>match bxc (f s)with
   |some cs=>(rdv one n cs o).map .v
   |none=>none
  |_=>none
 |.nilCheck x=>match ev f x with
  |some (.pointer (some a))=>some (.v (.pointer (some a)))
  |some (.func (.func g) a b)=>some (.v (.func (.func g) a b))
  |_=>none
 |.faddr off x=>match lc f x with
  |some (.bx s o)=>some (.bp s (o+off))
  |some (.mm b o)=>some (.v (.pointer (some ⟨b,o+off,none⟩)))
  |none=>none
 |.field one off n x=>match ev f x with
  |some (.agg cs)=>if one then(cs.toList[off]?).map .v else some (.v (.agg ((cs.toList.drop off).take n).toArray))
  |_=>none
 |.iaddr size x i=>match ev f x,ev f i with
  |some (.slice (some ⟨b,o,none⟩) len _),some (.int _ n)=>if 0≤n∧n<len then some (.v (.pointer (some ⟨b,o+n.toNat*size,none⟩)))else none
  |_,_=>none
 |.sidx x i=>match ev f x,ev f i with
  |some (.string s),some (.int _ n)=>if h:0≤n∧n.toNat<s.size then some (.v (.int .u8 ((s[n.toNat]'h.2).toNat:Int)))else none
  |_,_=>none
 |.build zero ps=>(fillP f zero ps).map fun cs=>.v (.agg cs.toArray)
 |.slc size x lo hi=>match ev f x,optEv f lo,optEv f hi with
  |some a,some l,some h=>(slcV size a l h).map .v
  |_,_,_=>none
 |.sslc x lo hi=>match ev f x,optEv f lo,optEv f hi with
  |some a,some l,some h=>(sslcV a l h).map .v
  |_,_,_=>none
 |.lenS x=>match ev f x with
  |some (.slice _ n _)=>some (.v (.int .i64 n))
  |_=>none
 |.lenT x=>match ev f x with
  |some (.string s)=>some (.v (.int .i64 s.size))
  |_=>none
 |.min x y=>match ev f x,ev f y with
  |some (.int k a),some (.int _ b)=>some (.v (.int k (if b<a then b else a)))
  |_,_=>none
 |.max x y=>match ev f x,ev f y with
  |some (.int k a),some (.int _ b)=>some (.v (.int k (if a<b then b else a)))
  |_,_=>none
 |.ext x i=>match ev f x with
  |some (.tuple vs)=>(vs.toList[i]?).map .v
  |_=>none
 |.mkfn g xs ys=>match evs f xs,evs f ys with
  |some a,some b=>some (.v (.func (.func g) a.toArray b.toArray))
  |_,_=>none
 |_=>none
def intF(P:Program)(g:TypeId→Option Nat):Nat→List Field→Option Nat
 |off,[]=>some off
 |off,f::fs=>match g f.type with
  | some n => if f.name ≠ "_" ∧ f.offset = off then intF P g (off + n) fs else none
  |none=>none
def intT(P:Program):Nat→TypeId→Option Nat
 |0,_=>none
 |d+1,t=>match P.underlying t with
  |some (.int _)=>some 1
  |some (.struct fs)=>if P.stoodInHeld t then none else match intF P (intT P d) 0 fs.toList with
   |some n=>if P.cellsOf t=n then some n else none
   |none=>none
  |_=>none
def iL(l:List Int):List Value:=l.map fun x=>.int .i64 x
theorem allI_iL:∀{vs:List Value} {l:List Int},allI vs=some l→vs=iL l
 |[],l,h=>by simp only[allI,Option.some.injEq]at h;subst h;rfl
 |v::r,l,h=>by
  unfold allI at h
  split at h
  ·rename_i h0;cases h0
  ·rename_i a r' h0
   cases h0
   simp only[Option.map_eq_some_iff]at h
   obtain⟨l',h1,rfl⟩:=h
   rw[allI_iL h1];rfl
  ·cases h
section
variable {P:Program}
def EqI(P:Program)(d:Nat)(t:TypeId)(n:Nat):Prop:=∀(w:World) (xs ys:Array Value) (off:Nat) (l l':List Int),(xs.toList.drop off).take n=iL l→(ys.toList.drop off).take n=iL l'→l.length=n→l'.length=n→
 ∃a b,(part t xs off).run P w=.ok a w∧(part t ys off).run P w=.ok b w∧∀k,(Op.equalIn (d+k) t a b).run P w=.ok (l==l') w
theorem intF_le{g:TypeId→Option Nat}:∀(fs:List Field) (off N:Nat),intF P g off fs=some N→off≤N
 |[],off,N,h=>by simp only[intF,Option.some.injEq]at h;omega
 |f::fs,off,N,h=>by
  simp only[intF]at h
  split at h
  ·split at h
   ·have:=intF_le fs _ N h;omega
   ·cases h
  ·cases h
theorem run_fieldsI{d:Nat}{g:TypeId→Option Nat}(hg:∀t n,g t=some n→EqI P d t n)(w:World)(k:Nat)(xs ys:Array Value):∀(fs:List Field) (off N:Nat) (l l':List Int),intF P g off fs=some N→xs.toList.drop off=iL l→ys.toList.drop off=iL l'→off+l.length=N→off+l'.length=N→
 (Op.eqFields (d+k) xs ys fs).run P w=.ok (l==l') w
 |[],off,N,l,l',h,hx,hy,hl,hl'=>by
  simp only[intF,Option.some.injEq]at h
  have e:l=[]:=List.length_eq_zero_iff.1 (by omega)
  have e':l'=[]:=List.length_eq_zero_iff.1 (by omega)
  subst e;subst e'
  simp[Op.eqFields]
 |f::fs,off,N,l,l',h,hx,hy,hl,hl'=>by
  simp only[intF]at h
  split at h
  ·rename_i n hn
   split at h
   ·rename_i hc
    have hle:=intF_le fs _ N h
    have tk:∀(zs:Array Value) (m:List Int),zs.toList.drop off=iL m→(zs.toList.drop f.offset).take n=iL (m.take n):=fun zs m e=>by
     rw[hc.2,e];unfold iL;rw[List.map_take]
    have dp:∀(zs:Array Value) (m:List Int),zs.toList.drop off=iL m→zs.toList.drop (off+n)=iL (m.drop n):=fun zs m e=>by
     rw[←List.drop_drop,e];unfold iL;rw[List.map_drop]
    obtain⟨a,b,p1,p2,p3⟩:=hg f.type n hn w xs ys f.offset (l.take n) (l'.take n) (tk xs l hx) (tk ys l' hy) (by rw[List.length_take];omega) (by rw[List.length_take];omega)
    have ih:=run_fieldsI hg w k xs ys fs (off+n) N (l.drop n) (l'.drop n) h (dp xs l hx) (dp ys l' hy) (by rw[List.length_drop];omega) (by rw[List.length_drop];omega)
    simp only[Op.eqFields,hc.1,ne_eq,not_false_eq_true,if_true,Sem.run_bind,p1,p2,p3 k,Result.andThen_ok]
    by_cases e:l.take n=l'.take n
    ·have e1:(l.take n==l'.take n)=true:=by simp[e]
     rw[e1]
     simp only[Bool.not_true,Bool.false_eq_true,if_false]
     rw[ih]
     congr 1
     rw[Bool.eq_iff_iff]
     simp only[beq_iff_eq]
     constructor
     ·intro x
      have:=congrArg (l.take n++ ·) x
      simp only[List.take_append_drop]at this
      rw[e,List.take_append_drop]at this;exact this
     ·intro x;rw[x]
    ·have e1:(l.take n==l'.take n)=false:=by simp[e]
     rw[e1]
     simp only[Bool.not_false,if_true,Sem.run_pure]
     congr 1
     symm
     simp only[beq_eq_false_iff_ne,ne_eq]
     intro x;exact e (by rw[x])
   ·cases h
  ·cases h
theorem run_eqI:∀(d:Nat) (t:TypeId) (n:Nat),intT P d t=some n→EqI P d t n
 |0,t,n,h=>by cases h
 |d+1,t,n,h=>by
  intro w xs ys off l l' hx hy hl hl'
  simp only[intT]at h
  split at h
  ·rename_i q hu
   simp only[Option.some.injEq]at h
   subst h
   match l,l',hl,hl' with
   |[x],[y],_,_=>
    have g:∀(zs:Array Value) (z:Int),(zs.toList.drop off).take 1=iL [z]→zs[off]?=some (.int .i64 z):=fun zs z e=>by
     rw[←Array.getElem?_toList]
     have:=congrArg (fun m=>m[0]?) e
     simp only[List.getElem?_take,List.getElem?_drop,iL]at this
     simpa using this
    refine⟨.int .i64 x,.int .i64 y,by simp[part,isAgg,run_underlying hu,g xs x hx],by simp[part,isAgg,run_underlying hu,g ys y hy],fun k=>?_⟩
    rw[show d+1+k=(d+k)+1 by omega,run_equalIn_int w (d+k) t .i64 q x y hu]
    simp
  ·rename_i fs hu
   split at h
   ·cases h
   rename_i hsh
   split at h
   ·rename_i m hm
    split at h
    ·rename_i hcl
     simp only[Option.some.injEq]at h
     subst h
     obtain⟨i,hi⟩:=info_of_underlying hu
     have ex:∀zs:Array Value,(zs.extract off (off+P.cellsOf t)).toList=(zs.toList.drop off).take m:=fun zs=>by
      rw[Array.toList_extract,hcl];simp[List.extract]
     refine⟨.agg (xs.extract off (off+P.cellsOf t)),.agg (ys.extract off (off+P.cellsOf t)),by simp[part,isAgg,run_underlying hu,run_sizeOf w hi],by simp[part,isAgg,run_underlying hu,run_sizeOf w hi],fun k=>?_⟩
     have hf:P.fieldsOf t=fs:=by simp[Program.fieldsOf,hu]
     rw[show d+1+k=(d+k)+1 by omega,run_equalIn_struct w (d+k) t _ _ (by rw[hf];exact hu) (by simpa using hsh),hf]
     exact run_fieldsI (fun t n h=>run_eqI d t n h) w k _ _ fs.toList 0 m l l' hm (by rw[List.drop_zero,ex];exact hx) (by rw[List.drop_zero,ex];exact hy) (by omega) (by omega)
    ·cases h
   ·cases h
  ·cases h
theorem run_eqAgg{t:TypeId}{n:Nat}{w:World}{a b:Value}{r:Bool}{fs:Array Field}(hu:P.underlying t=some (.struct fs))(hT:intT P 8 t=some n)(h:eqAgg n a b=some r):(Op.equal t a b).run P w=.ok r w∧∃xs ys,a=.agg xs∧b=.agg ys:=by
 unfold eqAgg at h
 split at h
 ·rename_i xs ys
  split at h
  ·rename_i l l' h1 h2
   split at h
   ·rename_i hl
    simp only[Option.some.injEq]at h
    subst h
    refine⟨?_,xs,ys,rfl,rfl⟩
    simp only[intT,hu]at hT
    split at hT
    ·cases hT
    rename_i hsh
    split at hT
    ·rename_i m hm
     split at hT
     ·simp only[Option.some.injEq]at hT
      subst hT
      have hf:P.fieldsOf t=fs:=by simp[Program.fieldsOf,hu]
      show(Op.equalIn (9999+1) t (.agg xs) (.agg ys)).run P w=_
      rw[run_equalIn_struct w 9999 t _ _ (by rw[hf];exact hu) (by simpa using hsh),hf]
      exact run_fieldsI (d:=7) (fun t n h=>run_eqI 7 t n h) w 9992 _ _ fs.toList 0 m l l' hm (by rw[List.drop_zero];exact allI_iL h1) (by rw[List.drop_zero];exact allI_iL h2) (by omega) (by omega)
     ·cases hT
    ·cases hT
   ·cases h
  ·cases h
 ·cases h
theorem run_eqA{t:TypeId}{n:Nat}{w:World}{a b:Value}{r:Bool}{fs:Array Field}{p q:Operand}(neg:Bool)(hu:P.underlying t=some (.struct fs))(hT:intT P 8 t=some n)(hG:P.eqGuardType P.depth t=false)(h:eqAgg n a b=some r):
 (do eqGuard (if neg then .neq else .eql) t p q a b;binOp (if neg then .neq else .eql) t a b:Sem Value).run P w=.ok (.bool (if neg then !r else r)) w:=by
 obtain⟨h1,xs,ys,rfl,rfl⟩:=run_eqAgg (w:=w) hu hT h
 cases neg with
 |false=>
  have hg:(eqGuard .eql t p q (.agg xs) (.agg ys)).run P w=.ok () w:=by simp[eqGuard,hG,run_program]
  have hb:binOp .eql t (.agg xs) (.agg ys)=(do pure (.bool (←Op.equal t (.agg xs) (.agg ys)))):=rfl
  simp only[Bool.false_eq_true,if_false,Sem.run_bind,hg,Result.andThen_ok,hb,h1,Sem.run_pure]
 |true=>
  have hg:(eqGuard .neq t p q (.agg xs) (.agg ys)).run P w=.ok () w:=by simp[eqGuard,hG,run_program]
  have hb:binOp .neq t (.agg xs) (.agg ys)=(do pure (.bool (!(←Op.equal t (.agg xs) (.agg ys))))):=rfl
  simp only[if_true,Sem.run_bind,hg,Result.andThen_ok,hb,h1,Sem.run_pure]
end
def RSV(W0:World)(β:Nat→Nat)(M:Mem)(w:World)(x:Value)(t:Nat):SV→Prop
 |.v y=>x=y
 |.box cs=>x=.pointer (some ⟨β t,0,none⟩)∧holds w (β t) (.row cs)∧M (β t)=none∧W0.heap.size≤β t
 |.bsl cs k=>x=.slice (some ⟨β t,0,none⟩) k k∧holds w (β t) (.row cs)∧M (β t)=none∧W0.heap.size≤β t
 |.bp s o=>x=.pointer (some ⟨β s,o,none⟩)
 |.junk=>True
structure RepF (W0:World) (M0:Mem) (β:Nat→Nat) (f:Nat→SV) (n:Nat) (M:Mem) (a:Act) (w:World):Prop where
 df:a.defers=[]
 sz:a.tmps.size=n
 out:∀t,n≤t→f t=.junk
 sat:Sat w M
 stp:Stp W0 M0 w M
 sv:∀t,RSV W0 β M w (a.tmps.getD t undef) t (f t)
 inj:∀t t',(f t).isBox=true→(f t').isBox=true→β t=β t'→t=t'
section
variable {W0:World} {M0 M:Mem} {β:Nat→Nat} {f:Nat→SV} {n:Nat} {a:Act} {w:World}
theorem RepF.ev(h:RepF W0 M0 β f n M a w){x:Operand}{v:Value}(e:ev f x=some v):a.eval x=v:=by
 cases x with
 |tmp t=>
  have hs:=h.sv t
  simp only[E.ev]at e
  cases hf:f t with
  |v y=>rw[hf]at e hs;simp only[Option.some.injEq]at e;subst e;exact hs
  |_=>rw[hf]at e;cases e
 |const x=>simpa [E.ev,Act.eval]using e
 |global g=>simpa [E.ev,Act.eval]using e
 |func g=>simpa [E.ev,Act.eval]using e
theorem RepF.evs(h:RepF W0 M0 β f n M a w):∀{xs:List Operand} {vs:List Value},evs f xs=some vs→xs.map a.eval=vs
 |[],vs,e=>by simp only[E.evs,Option.some.injEq]at e;subst e;rfl
 |x::r,vs,e=>by
  simp only[E.evs]at e
  split at e
  ·rename_i v vs' h1 h2
   simp only[Option.some.injEq]at e
   subst e
   simp[h.ev h1,h.evs h2]
  ·cases e
theorem lcV_mm{x:Value}{l:Lc}(e:lcV x=some l):∃b o,l=.mm b o∧x=.pointer (some ⟨b,o,none⟩):=by
 unfold lcV at e
 split at e
 ·simp only[Option.some.injEq]at e;exact⟨_,_,e.symm,rfl⟩
 ·cases e
theorem RepF.lc_bx(h:RepF W0 M0 β f n M a w){x:Operand}{s o:Nat}(e:lc f x=some (.bx s o)):a.eval x=.pointer (some ⟨β s,o,none⟩):=by
 cases x with
 |tmp t=>
  have hs:=h.sv t
  simp only[lc]at e
  cases hf:f t with
  |v y=>rw[hf]at e;obtain⟨b,o',e',_⟩:=lcV_mm e;cases e'
  |box cs=>rw[hf]at e hs;simp only[Option.some.injEq,Lc.bx.injEq]at e;obtain⟨rfl,rfl⟩:=e;exact hs.1
  |bp s' o'=>rw[hf]at e hs;simp only[Option.some.injEq,Lc.bx.injEq]at e;obtain⟨rfl,rfl⟩:=e;exact hs
  |_=>rw[hf]at e;cases e
 |const x=>obtain⟨b,o',e',_⟩:=lcV_mm e;cases e'
 |global g=>simp[lc]at e
 |func g=>simp[lc]at e
theorem RepF.lc_mm(h:RepF W0 M0 β f n M a w){x:Operand}{b o:Nat}(e:lc f x=some (.mm b o)):a.eval x=.pointer (some ⟨b,o,none⟩):=by
 cases x with
 |tmp t=>
  have hs:=h.sv t
  simp only[lc]at e
  cases hf:f t with
  |v y=>rw[hf]at e hs;obtain⟨b',o',e',e2⟩:=lcV_mm e;cases e';rw[←e2];exact hs
  |_=>rw[hf]at e;simp at e
 |const x=>obtain⟨b',o',e',e2⟩:=lcV_mm e;cases e';simpa [Act.eval]using e2
 |global g=>simp only[lc,Option.some.injEq,Lc.mm.injEq]at e;obtain⟨rfl,rfl⟩:=e;rfl
 |func g=>simp[lc]at e
theorem RepF.bxc(h:RepF W0 M0 β f n M a w){s:Nat}{cs:List Value}(e:bxc (f s)=some cs):f s=.box cs∧holds w (β s) (.row cs):=by
 have hs:=h.sv s
 cases hf:f s with
 |box c=>rw[hf]at e hs;simp only[E.bxc,Option.some.injEq]at e;subst e;exact⟨rfl,hs.2.1⟩
 |_=>rw[hf]at e;simp[E.bxc]at e
end
section
variable {P:Program} {w:World}
theorem add_none(b o i:Nat):(⟨b,o,none⟩:Addr).add i=⟨b,o+i,none⟩:=by unfold Addr.add;split<;>simp_all
theorem cell_of_row{b o:Nat}{cs:List Value}(h:∃t fr,holds w b (.ro cs t fr)):w.cell? ⟨b,o,none⟩=cs[o]?:=by
 obtain⟨t,fr,h⟩:=h
 unfold holds at h
 simp[World.cell?,h]
def isAggD:TypeDesc→Bool
 |.struct _|.array _ _=>true
 |_=>false
theorem run_isAgg{t:TypeId}{d:TypeDesc}(hd:P.underlying t=some d):(isAgg t).run P w=.ok (isAggD d) w:=by
 unfold isAgg underlying
 simp only[Sem.run_bind,run_program,Result.andThen_ok,hd,Sem.run_pure]
 cases d<;>rfl
theorem run_loadVar{t:TypeId}{d:TypeDesc}{i:TypeInfo}{b o:Nat}{cs:List Value}{v:Value}(hd:P.underlying t=some d)(hi:P.info? t=some i)
 (hb:∃t fr,holds w b (.ro cs t fr)) (hv:rdv (!isAggD d) i.size cs o=some v):(loadVar t ⟨b,o,none⟩).run P w=.ok v w:=by
 unfold loadVar
 simp only[Sem.run_bind,run_isAgg hd,Result.andThen_ok]
 cases hg:isAggD d with
 |false=>
  simp only[hg,Bool.not_false,rdv,if_true]at hv
  simp only[Bool.false_eq_true,if_false,run_load,cell_of_row hb,hv]
 |true=>
  simp only[hg,Bool.not_true,rdv,Bool.false_eq_true,if_false]at hv
  split at hv
  ·rename_i hle
   simp only[Option.some.injEq]at hv
   subst hv
   have hl:((cs.drop o).take i.size).length=i.size:=by simp;omega
   have:=run_loadCells_list (P:=P) w ⟨b,o,none⟩ ((cs.drop o).take i.size) (fun j v hj=>by
    rw[add_none,cell_of_row hb]
    rw[List.getElem?_take]at hj
    split at hj
    ·rw[List.getElem?_drop]at hj;exact hj
    ·cases hj)
   rw[hl]at this
   simp only[if_true,Sem.run_bind,sizeOf,typeInfo,run_program,Result.andThen_ok,hi,Sem.run_pure,this]
  ·cases hv
end
theorem run_val{P:Program}{w:World}{v:Value}{s:Sem Value}(h:s.run P w=.ok v w):(do pure (Next.value (←s)):Sem Next).run P w=.ok (.value v) w:=by
 simp[h]
def elemI(P:Program)(t:TypeId):Option (TypeId×TypeInfo):=
 match P.underlying t with
 |some (.slice e)=>(P.info? e).map fun i=>(e,i)
 |_=>none
def fieldI(P:Program)(t:TypeId)(k:Nat):Option (Field×TypeInfo):=
 match P.underlying t with
 |some (.struct fs)=>match fs[k]? with
  |some f=>(P.info? f.type).map fun i=>(f,i)
  |none=>none
 |_=>none
def partsI(P:Program)(place:Nat→Option (Nat×Nat)):List (Nat×Operand)→Option (List (Nat×Nat×Operand))
 |[]=>some []
 |(k,x)::r=>match place k,partsI P place r with
  |some (o,n),some r'=>some ((o,n,x)::r')
  |_,_=>none
def trK(P:Program)(q own:Bool):Op→Option K
 |.move x|.assign x=>some (.mov x)
 |.pick c a b=>some (.pick c a b)
 |.binOp op t x y _=>match P.underlying t with
  |some (.int _)|some .string=>some (.bin op x y)
  |some .bool=>match op with
   |.eql=>some (.eqB false x y)
   |.neq=>some (.eqB true x y)
   |_=>none
  |some (.struct _)=>match intT P 8 t with
   |some n=>if P.eqGuardType P.depth t then none else match op with
    |.eql=>some (.eqA false n x y)
    |.neq=>some (.eqA true n x y)
    |_=>none
   |none=>none
  |_=>none
 |.unOp .not _ x=>some (.not x)
 |.convert s d x=>match P.underlying s,P.underlying d with
  |some (.int _),some (.int k)=>some (.conv k x)
  |_,_=>none
 |.load t x=>match P.underlying t,P.info? t with
  |some d,some i=>some (.load (!isAggD d) i.size x)
  |_,_=>none
 |.nilCheck x=>some (.nilCheck x)
 |.fieldAddr t x k=>match fieldI P t k with
  |some (f,i)=>if i.size=0 then none else some (.faddr f.offset x)
  |none=>none
 |.field t x k=>match fieldI P t k with
  |some (f,i)=>match P.underlying f.type with
   |some d=>some (.field (!isAggD d) f.offset i.size x)
   |none=>none
  |none=>none
 |.indexAddr t x i=>match elemI P t with
  |some (_,e)=>some (.iaddr e.size x i)
  |none=>none
 |.index t x i=>match P.underlying t with
  |some .string=>some (.sidx x i)
  |_=>none
 |.extract x i=>some (.ext x i)
 |.slice t x lo hi none=>match P.underlying t with
  |some .string=>some (.sslc x lo hi)
  |some (.slice e)=>match P.info? e with
   |some i=>some (.slc i.size x lo hi)
   |none=>none
  |_=>none
 |.call {callee:=.builtin .len,args:=⟨[x]⟩,argTypes:=⟨[t]⟩}=>match P.underlying t with
  |some (.slice _)=>some (.lenS x)
  |some .string=>some (.lenT x)
  |_=>none
 |.call {callee:=.builtin .min,args:=⟨[x,y]⟩,argTypes:=⟨[t,_]⟩}=>match P.underlying t with
  |some (.int _)=>some (.min x y)
  |_=>none
 |.call {callee:=.builtin .max,args:=⟨[x,y]⟩,argTypes:=⟨[t,_]⟩}=>match P.underlying t with
  |some (.int _)=>some (.max x y)
  |_=>none
 |.makeFunc (.func g) xs ys=>some (.mkfn g xs.toList ys.toList)
 |.build t ps=>match P.underlying t,(P.info? t).bind (·.zero)with
  |some (.struct fs),some z=>match fs.toList.mapM (fun f=>(P.info? f.type).map fun i=>(f.offset,i.size))with
   |some pl=>(partsI P (pl[·]?) ps.toList).map (.build z.cells.toList)
   |none=>none
  |_,_=>none
 |.alloc t=>match(P.info? t).bind (·.zero)with
  |some z=>some (.alloc own z.cells.toList)
  |none=>none
 |.box t x=>some (.box own x)
 |.buildSlice t len ps=>match elemI P t with
  |some (_,i)=>match i.zero with
   |some z=>if len*i.size≤65536∧z.cells.size=i.size then
     (partsI P (fun k=>some (k*i.size,i.size)) ps.toList).map (.bslice own len i.size ((List.range (len*i.size)).map fun j=>z.cells[j%z.cells.size]!))else none
   |none=>none
  |none=>none
 |.call {callee:=.value (.func g),args,..}=>match P.funcs[g]? with
  | some fn => if fn.body.isSome && fn.name != "runtime.NumGoroutine" then some (if q then .qcall g args.toList else .call g args.toList) else none
  |none=>none
 |.call {callee:=.value (.tmp t),args,..}=>some (.callv (.tmp t) args.toList)
 |.store t x y=>match P.info? t with
  |some i=>some (.store i.size x y)
  |none=>none
 |.makeSlice t l c=>match elemI P t with
  |some (_,i)=>match i.zero with
   |some z=>if z.cells.size=i.size∧0<i.size then some (.mkslice i.size i.bytes z.cells.toList l c)else none
   |none=>none
  |none=>none
 |.call {callee:=.builtin .append,args:=⟨[s,x]⟩,argTypes:=⟨[t,u]⟩}=>match elemI P t with
  |some (_,i)=>match i.zero with
   |some z=>if z.cells.size=i.size∧0<i.size∧0<i.bytes then
     match P.underlying u with
     |some (.int _)=>some (.appz i.size i.bytes z.cells.toList s x)
     |some (.slice _)=>some (.app i.size i.bytes z.cells.toList s x)
     |some .string=>some (.app i.size i.bytes z.cells.toList s x)
     |_=>none
    else none
   |none=>none
  |none=>none
 |.makeMap t none=>some .mkmap
 |.lookup t x i ok=>match P.underlying t with
  |some (.map k e)=>match P.underlying k,P.underlying e,(P.info? e).bind (·.zero)with
   |some (.int _),some d,some z=>some (.look (!isAggD d) z ok x i)
   |_,_,_=>none
  |_=>none
 |.mapUpdate t m k y=>match P.underlying t with
  |some (.map k' _)=>match P.underlying k' with
   |some (.int _)=>some (.mupd m k y)
   |_=>none
  |_=>none
 |.call {callee:=.builtin .delete,args:=⟨[m,k]⟩,argTypes:=⟨[t,_]⟩}=>match P.underlying t with
  |some (.map k' _)=>match P.underlying k' with
   |some (.int _)=>some (.mdel m k)
   |_=>none
  |_=>none
 |_=>none
section
variable {P:Program} {W0:World} {M0 M:Mem} {β:Nat→Nat} {f:Nat→SV} {n:Nat} {a:Act} {w:World}
theorem run_binV{op:BinOp}{t:TypeId}{d:TypeDesc}{x y:Operand}{u v r:Value}(hd:P.underlying t=some d)(h:binV op u v=some r):
 (do eqGuard op t x y u v;binOp op t u v:Sem Value).run P w=.ok r w:=by
 unfold binV at h
 split at h
 ·rename_i k a k' b
  split at h
  ·unfold shrI at h
   split at h
   ·rename_i hb
    simp only[Option.some.injEq]at h
    subst h
    have hg:(eqGuard .shr t x y (.int k a) (.int k' b)).run P w=.ok () w:=by unfold eqGuard;simp
    simp only[Sem.run_bind,hg,Result.andThen_ok]
    rw[binOp_shr,shift_shr k k' a b hb.1 hb.2];simp
   ·cases h
  ·rename_i hns
   split at h
   ·rename_i hk
    subst hk
    have hg:(eqGuard op t x y (.int k a) (.int k b)).run P w=.ok () w:=by unfold eqGuard;cases op<;>simp
    simp only[Sem.run_bind,hg,Result.andThen_ok]
    cases op<;>simp only[binI]at h<;>(try simp at h)<;>
     (first
       |(subst h;simp[binOp,Op.intArith,Op.intCmp,Op.intBits];done)
       |(obtain⟨h0,rfl⟩:=h;simp[binOp,Op.intDiv,h0];done))
   ·cases h
 ·rename_i a b
  have hg:(eqGuard op t x y (.string a) (.string b)).run P w=.ok () w:=by unfold eqGuard;cases op<;>simp
  simp only[Sem.run_bind,hg,Result.andThen_ok]
  cases op<;>simp only[binS]at h<;>(try simp at h)<;>
   (first
     |(subst h;simp[binOp,Op.stringOp];done)
     |(obtain⟨h0,rfl⟩:=h;have e64:IntKind.i64.max=9223372036854775807:=by decide+kernel
       simp[binOp,Op.stringOp,e64];omega))
 ·cases h
def RS(β:Nat→Nat)(x:Value):SV→Prop
 |.v y=>x=y
 |.bp s o=>x=.pointer (some ⟨β s,o,none⟩)
 |_=>False
theorem run_fieldAt{t:TypeId}{fs:Array Field}{k:Nat}{fl:Field}{i:TypeInfo}{b o:Nat}(hd:P.underlying t=some (.struct fs))(hf:fs[k]?=some fl)(hi:P.info? fl.type=some i)(hz:i.size≠0):
 (Instr.fieldAt t (.pointer (some ⟨b,o,none⟩)) k).run P w=.ok (.pointer (some ⟨b,o+fl.offset,none⟩)) w:=by
 simp[Instr.fieldAt,underlying,hd,hf,Instr.sureAddr,fieldPlace,sizeOf,typeInfo,hi,hz,add_none]
theorem fieldI_some{t:TypeId}{k:Nat}{fl:Field}{i:TypeInfo}(h:fieldI P t k=some (fl,i)):∃fs,P.underlying t=some (.struct fs)∧fs[k]?=some fl∧P.info? fl.type=some i:=by
 unfold fieldI at h
 split at h
 ·rename_i fs hd
  split at h
  ·rename_i f hf
   simp only[Option.map_eq_some_iff,Prod.mk.injEq]at h
   obtain⟨j,hj,rfl,rfl⟩:=h
   exact⟨fs,hd,hf,hj⟩
  ·cases h
 ·cases h
theorem elemI_some{t:TypeId}{e:TypeId}{i:TypeInfo}(h:elemI P t=some (e,i)):P.underlying t=some (.slice e)∧P.info? e=some i:=by
 unfold elemI at h
 split at h
 ·rename_i e' hd
  simp only[Option.map_eq_some_iff,Prod.mk.injEq]at h
  obtain⟨j,hj,rfl,rfl⟩:=h
  exact⟨hd,hj⟩
 ·cases h
theorem run_indexAt{t e:TypeId}{i:TypeInfo}{b o len cap:Nat}{k:IntKind}{m:Int}(hd:P.underlying t=some (.slice e))(hi:P.info? e=some i)(hm:0≤m∧m<len):
 (Instr.indexAt t (.slice (some ⟨b,o,none⟩) len cap) (.int k m)).run P w=.ok (.pointer (some ⟨b,o+m.toNat*i.size,none⟩)) w:=by
 simp[Instr.indexAt,asIntOf,underlying,hd,sizeOf,typeInfo,hi,hm,add_none]
theorem bnd_run{v:Option Value}{d y:Nat}{l:Nat}{code:BoundsCode}(h:bnd v d=some l)(hy:l≤y):
 (match v with|some v=>Instr.sliceBound v y code|none=>pure d:Sem Nat).run P w=.ok l w:=by
 cases v with
 |none=>simp only[bnd,Option.some.injEq]at h;subst h;rfl
 |some x=>
  cases x with
  |int k n=>
   simp only[bnd]at h
   split at h
   ·rename_i h0
    simp only[Option.some.injEq]at h
    subst h
    have:0≤n∧n≤(y:Int):=⟨h0,by omega⟩
    simp[Instr.sliceBound,asIntOf,this]
   ·cases h
  |_=>simp[bnd]at h
theorem sb_run{x:Value}{d y l:Nat}{code:BoundsCode}(h:bnd (some x) d=some l)(hy:l≤y):(Instr.sliceBound x y code).run P w=.ok l w:=
 bnd_run (v:=some x) h hy
theorem run_bounds{isS:Bool}{len cap:Nat}{lo hi:Option Value}{l h:Nat}(hl:bnd lo 0=some l)(hh:bnd hi len=some h)(h1:l≤h)(h2:h≤cap):
 (Instr.sliceBounds isS len cap lo hi none).run P w=.ok (l,h,cap) w:=by
 cases hi with
 |none=>
  simp only[bnd,Option.some.injEq]at hh
  subst hh
  cases lo with
  |none=>simp only[bnd,Option.some.injEq]at hl;subst hl;simp[Instr.sliceBounds]
  |some v=>simp[Instr.sliceBounds,sb_run (P:=P) (w:=w) (code:=.sliceB) hl h1]
 |some u=>
  have hu:=sb_run (P:=P) (w:=w) (code:=(if isS then .sliceAcap else .sliceAlen)) hh h2
  cases lo with
  |none=>simp only[bnd,Option.some.injEq]at hl;subst hl;simp[Instr.sliceBounds,hu]
  |some v=>simp[Instr.sliceBounds,hu,sb_run (P:=P) (w:=w) (code:=.sliceB) hl h1]
theorem run_slc{t e:TypeId}{i:TypeInfo}{x:Value}{lo hi:Option Value}{r:Value}(hd:P.underlying t=some (.slice e))(hi':P.info? e=some i)(h:slcV i.size x lo hi=some r):
 (Instr.slice t x lo hi none).run P w=.ok r w:=by
 unfold slcV at h
 split at h
 ·rename_i a len cap
  split at h
  ·rename_i l hh hl0 hh0
   split at h
   ·rename_i hle
    have hb:=run_bounds (P:=P) (w:=w) (isS:=true) hl0 hh0 hle.1 hle.2
    split at h
    ·simp only[Option.some.injEq]at h;subst h
     simp[Instr.slice,underlying,hd,hb,sizeOf,typeInfo,hi']
    ·simp only[Option.some.injEq]at h;subst h
     simp only[Instr.slice,underlying,Sem.run_bind,run_program,Result.andThen_ok,hd,Sem.run_pure,hb,sizeOf,typeInfo,hi',Option.map_some,add_none]
     split<;>rfl
    ·cases h
   ·cases h
  ·cases h
 ·cases h
theorem run_sslc{t:TypeId}{x:Value}{lo hi:Option Value}{r:Value}(hd:P.underlying t=some .string)(h:sslcV x lo hi=some r):
 (Instr.slice t x lo hi none).run P w=.ok r w:=by
 unfold sslcV at h
 split at h
 ·rename_i s
  split at h
  ·rename_i l hh hl0 hh0
   split at h
   ·rename_i hle
    have hb:=run_bounds (P:=P) (w:=w) (isS:=false) hl0 hh0 hle.1 hle.2
    simp only[Option.some.injEq]at h;subst h
    simp[Instr.slice,underlying,hd,hb]
   ·cases h
  ·cases h
 ·cases h
theorem RepF.optEv(h:RepF W0 M0 β f n M a w){x:Option Operand}{v:Option Value}(e:optEv f x=some v):x.map a.eval=v:=by
 cases x with
 |none=>simpa [E.optEv]using e
 |some x=>
  simp only[E.optEv,Option.map_eq_some_iff]at e
  obtain⟨u,hu,rfl⟩:=e
  simp[h.ev hu]
theorem strEv{s:ByteArray}{m:Int}(h:0≤m∧m.toNat<s.size):(if 0≤m then s[m.toNat]? else none)=some (s[m.toNat]'h.2):=by
 rw[if_pos h.1]
 exact getElem?_pos s m.toNat h.2
theorem run_eqBool{t:TypeId}{d:Nat}{x y:Bool}(hd:P.underlying t=some .bool):(Op.equalIn (d+1) t (.bool x) (.bool y)).run P w=.ok (x==y) w:=by
 simp[Op.equalIn,underlying,hd]
theorem run_eqB{t:TypeId}{x y:Bool}{p q:Operand}(neg:Bool)(hd:P.underlying t=some .bool):
 (do eqGuard (if neg then .neq else .eql) t p q (.bool x) (.bool y);binOp (if neg then .neq else .eql) t (.bool x) (.bool y):Sem Value).run P w=.ok (.bool (if neg then !(x==y)else x==y)) w:=by
 have h:=run_eqBool (P:=P) (w:=w) (d:=9999) (x:=x) (y:=y) hd
 have he:Op.equal t (.bool x) (.bool y)=Op.equalIn (9999+1) t (.bool x) (.bool y):=rfl
 cases neg with
 |false=>
  have hg:(eqGuard .eql t p q (.bool x) (.bool y)).run P w=.ok () w:=by simp[eqGuard]
  have hb:binOp .eql t (.bool x) (.bool y)=(do pure (.bool (←Op.equal t (.bool x) (.bool y)))):=rfl
  simp only[Bool.false_eq_true,if_false,Sem.run_bind,hg,Result.andThen_ok,hb,he,h,Sem.run_pure]
 |true=>
  have hg:(eqGuard .neq t p q (.bool x) (.bool y)).run P w=.ok () w:=by simp[eqGuard]
  have hb:binOp .neq t (.bool x) (.bool y)=(do pure (.bool (!(←Op.equal t (.bool x) (.bool y))))):=rfl
  simp only[if_true,Sem.run_bind,hg,Result.andThen_ok,hb,he,h,Sem.run_pure]
theorem fold_wr(off:Nat):∀(l:List Value) (k:Nat) (cells:Array Value),(l.zipIdx k).foldl (fun cs (x:Value×Nat)=>cs.setIfInBounds (off+x.2) x.1) cells=(wr cells.toList (off+k) l).toArray
 |[],k,cells=>by simp[wr]
 |x::r,k,cells=>by
  simp only[List.zipIdx_cons,List.foldl_cons,wr]
  rw[fold_wr off r (k+1)]
  simp[Nat.add_assoc]
theorem fill_run{place:Nat→Option (Nat×Nat)}(hR:RepF W0 M0 β f n M a w):∀{parts:List (Nat×Operand)} {ps:List (Nat×Nat×Operand)} {cs r:List Value},partsI P place parts=some ps→fillP f cs ps=some r→
 Instr.fill place cs.toArray (parts.map fun x=>(x.1,a.eval x.2))=some r.toArray
 |[],ps,cs,r,hp,hf=>by
  simp only[partsI,Option.some.injEq]at hp
  subst hp
  simp only[fillP,Option.some.injEq]at hf
  subst hf
  rfl
 |(k,x)::t,ps,cs,r,hp,hf=>by
  simp only[partsI]at hp
  split at hp
  ·rename_i o m r' h1 h2
   simp only[Option.some.injEq]at hp
   subst hp
   simp only[fillP]at hf
   split at hf
   ·rename_i y hy
    split at hf
    ·rename_i hc
     have ih:=fill_run hR h2 hf
     simp only[List.map_cons,Instr.fill,h1,hR.ev hy]
     rw[if_neg (by simp;omega)]
     have:=fold_wr o y.cells.toList 0 cs.toArray
     simp only[Nat.add_zero]at this
     rw[←Array.foldl_toList,Array.toList_zipIdx]
     exact(congrArg (fun z=>Instr.fill place z (t.map fun x=>(x.1,a.eval x.2))) this).trans ih
    ·cases hf
   ·cases hf
  ·cases hp
theorem mapM_run{α γ:Type}{g:α→Sem γ}{h:α→Option γ}(hg:∀x y,h x=some y→(g x).run P w=.ok y w):∀{l:List α} {r:List γ},l.mapM h=some r→(l.mapM g).run P w=.ok r w
 |[],r,e=>by simp only[List.mapM_nil,Option.pure_def,Option.some.injEq]at e;subst e;simp
 |x::t,r,e=>by
  simp only[List.mapM_cons,Option.pure_def,Option.bind_eq_bind,Option.bind_eq_some_iff,Option.some.injEq]at e
  obtain⟨y,hy,r',hr,rfl⟩:=e
  simp only[List.mapM_cons,Sem.run_bind,hg x y hy,Result.andThen_ok,mapM_run hg hr,Sem.run_pure]
theorem run_build{t:TypeId}{fs:Array Field}{z:Value}{i:TypeInfo}{pl:List (Nat×Nat)}{ps:List (Nat×Nat×Operand)}{parts:Array (Nat×Operand)}{cs:List Value}
 (hR:RepF W0 M0 β f n M a w) (hd:P.underlying t=some (.struct fs)) (hi:P.info? t=some i) (hz:i.zero=some z)
 (hpl:fs.toList.mapM (fun f=>(P.info? f.type).map fun i=>(f.offset,i.size))=some pl) (hp:partsI P (pl[·]?) parts.toList=some ps) (hf:fillP f z.cells.toList ps=some cs):
 (Instr.build t (parts.map fun x=>(x.1,a.eval x.2))).run P w=.ok (.agg cs.toArray) w:=by
 have h1:(fs.mapM (fun f=>do pure (f.offset,←sizeOf f.type):Field→Sem (Nat×Nat))).run P w=.ok pl.toArray w:=by
  rw[Array.mapM_eq_mapM_toList]
  have:=mapM_run (P:=P) (w:=w) (g:=fun f:Field=>(do pure (f.offset,←sizeOf f.type):Sem (Nat×Nat))) (h:=fun f=>(P.info? f.type).map fun i=>(f.offset,i.size)) (fun x y hxy=>by
   simp only[Option.map_eq_some_iff]at hxy
   obtain⟨j,hj,rfl⟩:=hxy
   simp[sizeOf,typeInfo,hj]) hpl
  simp only[Sem.run_map,this,Result.andThen_ok]
 have h2:=fill_run (P:=P) hR hp hf
 have h3:(fun k:Nat=>(pl.toArray)[k]?)=fun k:Nat=>pl[k]?:=by funext k;simp
 simp only[Instr.build,zeroValue,typeInfo,Sem.run_bind,run_program,Result.andThen_ok,hi,Sem.run_pure,hz,underlying,hd,h1,h3,Array.toList_map]
 simp only[Array.toArray_toList]at h2
 rw[h2]
 rfl
theorem pe_run(hR:RepF W0 M0 β f n M a w){o:Oper}{q own:Bool}{k:K}{sv:SV}(hk:trK P q own o.op=some k)(h:pe f k=some sv):
 ∃x,(execOp a.eval o).run P w=.ok (.value x) w∧RS β x sv:=by
 obtain⟨dst,op,ty,pos,after,guard⟩:=o
 cases op<;>simp only[trK]at hk<;>(try(cases hk;done))
 case move x=>
  cases hk
  simp only[pe,Option.map_eq_some_iff]at h
  obtain⟨v,hv,rfl⟩:=h
  exact⟨v,by simp[execOp,hR.ev hv],rfl⟩
 case assign x=>
  cases hk
  simp only[pe,Option.map_eq_some_iff]at h
  obtain⟨v,hv,rfl⟩:=h
  exact⟨v,by simp[execOp,hR.ev hv],rfl⟩
 case pick c x y=>
  cases hk
  simp only[pe]at h
  split at h
  ·rename_i t ht
   simp only[Option.map_eq_some_iff]at h
   obtain⟨v,hv,rfl⟩:=h
   refine⟨v,?_,rfl⟩
   cases t with
   |true=>simp[execOp,hR.ev ht,asBool];simpa using hR.ev hv
   |false=>simp[execOp,hR.ev ht,asBool];simpa using hR.ev hv
  ·cases h
 case binOp op t x y yt=>
  split at hk
  ·rename_i k0 hd
   cases hk
   simp only[pe]at h
   split at h
   ·rename_i u v hu hv
    simp only[Option.map_eq_some_iff]at h
    obtain⟨r,hr,rfl⟩:=h
    refine⟨r,?_,rfl⟩
    have:=run_binV (P:=P) (w:=w) (t:=t) (x:=x) (y:=y) hd hr
    simp only[execOp,hR.ev hu,hR.ev hv]
    exact run_val this
   ·cases h
  ·rename_i hd
   cases hk
   simp only[pe]at h
   split at h
   ·rename_i u v hu hv
    simp only[Option.map_eq_some_iff]at h
    obtain⟨r,hr,rfl⟩:=h
    refine⟨r,?_,rfl⟩
    have:=run_binV (P:=P) (w:=w) (t:=t) (x:=x) (y:=y) hd hr
    simp only[execOp,hR.ev hu,hR.ev hv]
    exact run_val this
   ·cases h
  ·rename_i hd
   split at hk
   ·cases hk
    simp only[pe]at h
    split at h
    ·rename_i u v hu hv
     simp only[Option.some.injEq]at h
     subst h
     refine⟨_,?_,rfl⟩
     simp only[execOp,hR.ev hu,hR.ev hv]
     exact run_val (run_eqB false hd)
    ·cases h
   ·cases hk
    simp only[pe]at h
    split at h
    ·rename_i u v hu hv
     simp only[Option.some.injEq]at h
     subst h
     refine⟨_,?_,rfl⟩
     simp only[execOp,hR.ev hu,hR.ev hv]
     exact run_val (run_eqB true hd)
    ·cases h
   ·cases hk
  ·rename_i fs hd
   split at hk
   ·rename_i m hm
    split at hk
    ·cases hk
    rename_i hG
    have hG:P.eqGuardType P.depth t=false:=by simpa using hG
    split at hk
    ·cases hk
     simp only[pe]at h
     split at h
     ·rename_i u v hu hv
      simp only[Option.map_eq_some_iff]at h
      obtain⟨r,hr,rfl⟩:=h
      refine⟨_,?_,rfl⟩
      simp only[execOp,hR.ev hu,hR.ev hv]
      exact run_val (run_eqA false hd hm hG hr)
     ·cases h
    ·cases hk
     simp only[pe]at h
     split at h
     ·rename_i u v hu hv
      simp only[Option.map_eq_some_iff]at h
      obtain⟨r,hr,rfl⟩:=h
      refine⟨_,?_,rfl⟩
      simp only[execOp,hR.ev hu,hR.ev hv]
      exact run_val (run_eqA true hd hm hG hr)
     ·cases h
    ·cases hk
   ·cases hk
  ·cases hk
 case unOp op t x=>
  cases op<;>simp only[trK]at hk<;>(try(cases hk;done))
  cases hk
  simp only[pe]at h
  split at h
  ·rename_i u hu
   simp only[Option.some.injEq]at h
   subst h
   refine⟨_,?_,rfl⟩
   simp only[execOp,hR.ev hu]
   exact run_val (by simp[Op.unary])
  ·cases h
 case convert s d x=>
  split at hk
  ·rename_i k0 k1 hs hd
   cases hk
   simp only[pe]at h
   split at h
   ·rename_i k2 m hu
    simp only[Option.some.injEq]at h
    subst h
    refine⟨_,?_,rfl⟩
    simp only[execOp,hR.ev hu]
    exact run_val (by simp[convert,underlying,hs,hd,Conv.intToInt])
   ·cases h
  ·cases hk
 case load t x=>
  split at hk
  ·rename_i d i hd hi
   cases hk
   simp only[pe]at h
   split at h
   ·rename_i s off hl
    split at h
    ·rename_i cs hc
     simp only[Option.map_eq_some_iff]at h
     obtain⟨v,hv,rfl⟩:=h
     refine⟨v,?_,rfl⟩
     simp only[execOp,hR.lc_bx hl]
     exact run_val (by simp only[Instr.loadAt,Instr.sureAddr,Sem.run_bind,Sem.run_pure,Result.andThen_ok];exact run_loadVar hd hi (hR.bxc hc).2.ro hv)
    ·cases h
   ·cases h
  ·cases hk
 case nilCheck x=>
  cases hk
  simp only[pe]at h
  split at h
  ·rename_i ad hu
   simp only[Option.some.injEq]at h
   subst h
   exact⟨_,by simp[execOp,hR.ev hu],rfl⟩
  ·rename_i g u v hu
   simp only[Option.some.injEq]at h
   subst h
   exact⟨_,by simp[execOp,hR.ev hu],rfl⟩
  ·cases h
 case fieldAddr t x k=>
  split at hk
  ·rename_i fl i hf
   obtain⟨fs,hd,hfk,hi⟩:=fieldI_some hf
   split at hk
   ·cases hk
   ·rename_i hz
    cases hk
    simp only[pe]at h
    split at h
    ·rename_i s off hl
     simp only[Option.some.injEq]at h
     subst h
     refine⟨_,?_,rfl⟩
     simp only[execOp,hR.lc_bx hl]
     exact run_val (run_fieldAt hd hfk hi hz)
    ·rename_i b off hl
     simp only[Option.some.injEq]at h
     subst h
     refine⟨_,?_,rfl⟩
     simp only[execOp,hR.lc_mm hl]
     exact run_val (run_fieldAt hd hfk hi hz)
    ·cases h
  ·cases hk
 case field t x k=>
  split at hk
  ·rename_i fl i hf
   obtain⟨fs,hd,hfk,hi⟩:=fieldI_some hf
   split at hk
   ·rename_i d hfd
    cases hk
    simp only[pe]at h
    split at h
    ·rename_i cs hu
     simp only[execOp,hR.ev hu]
     cases hg:isAggD d with
     |false=>
      simp only[hg,Bool.not_false,if_true,Option.map_eq_some_iff]at h
      obtain⟨v,hv,rfl⟩:=h
      refine⟨v,?_,rfl⟩
      refine run_val ?_
      simp only[Array.getElem?_toList]at hv
      simp only[Instr.field,underlying,Sem.run_bind,run_program,Result.andThen_ok,hd,Sem.run_pure,hfk,asAgg,part,run_isAgg hfd,hg,Bool.false_eq_true,if_false,hv]
     |true=>
      simp only[hg,Bool.not_true,Bool.false_eq_true,if_false,Option.some.injEq]at h
      subst h
      refine⟨_,?_,rfl⟩
      refine run_val ?_
      simp only[Instr.field,underlying,Sem.run_bind,run_program,Result.andThen_ok,hd,Sem.run_pure,hfk,asAgg,part,run_isAgg hfd,hg,if_true,sizeOf,typeInfo,hi]
      congr 2
      apply Array.ext'
      simp[Array.toList_extract,List.extract_eq_take_drop]
    ·cases h
   ·cases hk
  ·cases hk
 case indexAddr t x i=>
  split at hk
  ·rename_i e ei he
   obtain⟨hd,hi⟩:=elemI_some he
   cases hk
   simp only[pe]at h
   split at h
   ·rename_i b off len cap kk m hu hv
    split at h
    ·rename_i hm
     simp only[Option.some.injEq]at h
     subst h
     refine⟨_,?_,rfl⟩
     simp only[execOp,hR.ev hu,hR.ev hv]
     exact run_val (run_indexAt hd hi hm)
    ·cases h
   ·cases h
  ·cases hk
 case index t x i=>
  split at hk
  ·rename_i hd
   cases hk
   simp only[pe]at h
   split at h
   ·rename_i s kk m hu hv
    split at h
    ·rename_i hm
     simp only[Option.some.injEq]at h
     subst h
     refine⟨_,?_,rfl⟩
     simp only[execOp,hR.ev hu,hR.ev hv]
     refine run_val ?_
     simp only[Instr.index,asIntOf,underlying,Sem.run_bind,run_program,Result.andThen_ok,hd,Sem.run_pure,strEv hm]
    ·cases h
   ·cases h
  ·cases hk
 case extract x i=>
  cases hk
  simp only[pe]at h
  split at h
  ·rename_i vs hu
   simp only[Option.map_eq_some_iff]at h
   obtain⟨v,hv,rfl⟩:=h
   refine⟨v,?_,rfl⟩
   simp only[execOp,hR.ev hu]
   refine run_val ?_
   simp only[Array.getElem?_toList]at hv
   simp[Instr.extract,hv]
  ·cases h
 case slice t x lo hi mx=>
  cases mx with
  |some _=>simp only[trK]at hk;cases hk
  |none=>
   simp only[trK]at hk
   split at hk
   ·rename_i hd
    cases hk
    simp only[pe]at h
    split at h
    ·rename_i u l hh hu hl hh0
     simp only[Option.map_eq_some_iff]at h
     obtain⟨r,hr,rfl⟩:=h
     refine⟨r,?_,rfl⟩
     simp only[execOp,hR.ev hu,hR.optEv hl,hR.optEv hh0,Option.map_none]
     refine run_val ?_
     simp only[Instr.sliceAt,underlying,Sem.run_bind,run_program,Result.andThen_ok,hd,Sem.run_pure]
     exact run_sslc hd hr
    ·cases h
   ·rename_i e hd
    split at hk
    ·rename_i i hi'
     cases hk
     simp only[pe]at h
     split at h
     ·rename_i u l hh hu hl hh0
      simp only[Option.map_eq_some_iff]at h
      obtain⟨r,hr,rfl⟩:=h
      refine⟨r,?_,rfl⟩
      simp only[execOp,hR.ev hu,hR.optEv hl,hR.optEv hh0,Option.map_none]
      refine run_val ?_
      simp only[Instr.sliceAt,underlying,Sem.run_bind,run_program,Result.andThen_ok,hd,Sem.run_pure]
      exact run_slc hd hi' hr
     ·cases h
    ·cases hk
   ·cases hk
 case makeFunc fn xs ys=>
  cases fn<;>simp only[trK]at hk<;>(try(cases hk;done))
  cases hk
  simp only[pe]at h
  split at h
  ·rename_i u v hu hv
   simp only[Option.some.injEq]at h
   subst h
   refine⟨_,?_,rfl⟩
   simp only[execOp]
   refine run_val ?_
   have e1:xs.map a.eval=u.toArray:=by rw[←hR.evs hu];apply Array.ext';simp
   have e2:ys.map a.eval=v.toArray:=by rw[←hR.evs hv];apply Array.ext';simp
   simp[Instr.makeFunc,e1,e2]
  ·cases h
 case build t ps=>
  split at hk
  ·rename_i fs z hd hz
   split at hk
   ·rename_i pl hpl
    simp only[Option.map_eq_some_iff]at hk
    obtain⟨qs,hq,rfl⟩:=hk
    simp only[pe,Option.map_eq_some_iff]at h
    obtain⟨cs,hcs,rfl⟩:=h
    refine⟨_,?_,rfl⟩
    simp only[execOp]
    refine run_val ?_
    rw[Option.bind_eq_some_iff]at hz
    obtain⟨i,hi,hz⟩:=hz
    exact run_build hR hd hi hz hpl hq hcs
   ·cases hk
  ·cases hk
 case call c=>
  obtain⟨cal,⟨args⟩,⟨ats⟩⟩:=c
  cases cal with
  |invoke r m=>simp only[trK]at hk;cases hk
  |value x=>
   cases x with
   |func g=>
    simp only[trK]at hk
    split at hk
    ·split at hk
     ·cases q<;>(simp only[Bool.false_eq_true,if_true,if_false]at hk;cases hk;simp[pe]at h)
     ·cases hk
    ·cases hk
   |tmp t=>simp only[trK]at hk;cases hk;simp[pe]at h
   |const v=>simp only[trK]at hk;cases hk
   |global g=>simp only[trK]at hk;cases hk
  |builtin b=>
   cases b<;>(try(simp only[trK]at hk;cases hk;done))
   case len=>
    match args,ats with
    |[x],[t]=>
     simp only[trK]at hk
     split at hk
     ·rename_i e hd
      cases hk
      simp only[pe]at h
      split at h
      ·rename_i ad m cp hu
       simp only[Option.some.injEq]at h
       subst h
       refine⟨_,?_,rfl⟩
       simp[execOp,resolve,invoke,builtin,hR.ev hu,Builtin.len_,underlying,hd,goInt]
      ·cases h
     ·rename_i hd
      cases hk
      simp only[pe]at h
      split at h
      ·rename_i s hu
       simp only[Option.some.injEq]at h
       subst h
       refine⟨_,?_,rfl⟩
       simp[execOp,resolve,invoke,builtin,hR.ev hu,Builtin.len_,underlying,hd,goInt]
      ·cases h
     ·cases hk
    |[],_=>simp only[trK]at hk;cases hk
    |_::_::_,_=>simp only[trK]at hk;cases hk
    |[_],[]=>simp only[trK]at hk;cases hk
    |[_],_::_::_=>simp only[trK]at hk;cases hk
   case min=>
    match args,ats with
    |[x,y],[t,_]=>
     simp only[trK]at hk
     split at hk
     ·cases hk
      simp only[pe]at h
      split at h
      ·rename_i k1 m1 k2 m2 hu hv
       simp only[Option.some.injEq]at h
       subst h
       refine⟨_,?_,rfl⟩
       simp[execOp,resolve,invoke,builtin,hR.ev hu,hR.ev hv,Builtin.min_,Builtin.min2]
      ·cases h
     ·cases hk
    |[],_=>simp only[trK]at hk;cases hk
    |[_],_=>simp only[trK]at hk;cases hk
    |_::_::_::_,_=>simp only[trK]at hk;cases hk
    |[_,_],[]=>simp only[trK]at hk;cases hk
    |[_,_],[_]=>simp only[trK]at hk;cases hk
    |[_,_],_::_::_::_=>simp only[trK]at hk;cases hk
   case max=>
    match args,ats with
    |[x,y],[t,_]=>
     simp only[trK]at hk
     split at hk
     ·cases hk
      simp only[pe]at h
      split at h
      ·rename_i k1 m1 k2 m2 hu hv
       simp only[Option.some.injEq]at h
       subst h
       refine⟨_,?_,rfl⟩
       simp[execOp,resolve,invoke,builtin,hR.ev hu,hR.ev hv,Builtin.max_,Builtin.max2]
      ·cases h
     ·cases hk
    |[],_=>simp only[trK]at hk;cases hk
    |[_],_=>simp only[trK]at hk;cases hk
    |_::_::_::_,_=>simp only[trK]at hk;cases hk
    |[_,_],[]=>simp only[trK]at hk;cases hk
    |[_,_],[_]=>simp only[trK]at hk;cases hk
    |[_,_],_::_::_::_=>simp only[trK]at hk;cases hk
   case append=>
    match args,ats with
    |[x,y],[t,_]=>
     simp only[trK]at hk
     (repeat' split at hk)<;>first|(cases hk;simp[pe]at h;done)|(cases hk;done)
    |[],_=>simp only[trK]at hk;cases hk
    |[_],_=>simp only[trK]at hk;cases hk
    |_::_::_::_,_=>simp only[trK]at hk;cases hk
    |[_,_],[]=>simp only[trK]at hk;cases hk
    |[_,_],[_]=>simp only[trK]at hk;cases hk
    |[_,_],_::_::_::_=>simp only[trK]at hk;cases hk
   case delete=>
    match args,ats with
    |[x,y],[t,_]=>
     simp only[trK]at hk
     (repeat' split at hk)<;>first|(cases hk;simp[pe]at h;done)|(cases hk;done)
    |[],_=>simp only[trK]at hk;cases hk
    |[_],_=>simp only[trK]at hk;cases hk
    |_::_::_::_,_=>simp only[trK]at hk;cases hk
    |[_,_],[]=>simp only[trK]at hk;cases hk
    |[_,_],[_]=>simp only[trK]at hk;cases hk
    |[_,_],_::_::_::_=>simp only[trK]at hk;cases hk
 case makeMap t r=>
  cases r<;>(simp only[trK]at hk;cases hk)
  simp[pe]at h
 all_goals ((repeat' split at hk)<;>first|(cases hk;simp[pe]at h;done)|(cases hk;done)|(simp only[Option.map_eq_some_iff]at hk;obtain⟨_,_,rfl⟩:=hk;simp[pe]at h;done))
end
def upF(f:Nat→SV)(d:Nat)(x:SV):Nat→SV:=fun t=>bif Nat.beq t d then x else f t
theorem upF_eq(f:Nat→SV)(d:Nat)(x:SV)(t:Nat):upF f d x t=if t=d then x else f t:=by
 unfold upF
 by_cases h:t=d
 ·subst h;simp
 ·have:Nat.beq t d=false:=by
   cases hb:Nat.beq t d with
   |false=>rfl
   |true=>exact absurd (Nat.eq_of_beq_eq_true hb) h
  rw[this,if_neg h];rfl
def junkB(d:Nat):SV→SV
 |.bp s o=>if s=d then .junk else .bp s o
 |x=>x
def put(S:St):Option Nat→SV→St
 |none,_=>S
 |some d,x=>upF S d x
def putB(S:St):Option Nat→SV→St
 |none,_=>S
 |some d,x=>upF (fun t=>junkB d (S t)) d x
section
variable {W0:World} {M0 M M':Mem} {β:Nat→Nat} {f:Nat→SV} {n:Nat} {a:Act} {w w':World}
theorem RepF.step(h:RepF W0 M0 β f n M a w)(hs:Sat w' M')(ht:Stp w M w' M'):RepF W0 M0 β f n M' a w' where
 df:=h.df
 sz:=h.sz
 out:=h.out
 sat:=hs
 stp:=h.stp.trans ht
 sv t:=by
  have hv:=h.sv t
  cases hf:f t with
  |v y=>rw[hf]at hv;exact hv
  |junk=>trivial
  |bp s o=>rw[hf]at hv;exact hv
  |box cs=>
   rw[hf]at hv
   obtain⟨h1,h2,h3,h4⟩:=hv
   refine⟨h1,h2.of_eq (ht.keep _ h2.lt h3),?_,h4⟩
   cases e:M' (β t)with
   |none=>rfl
   |some k=>rcases ht.dom (β t) (by rw[e];simp)with h'|h'
            ·exact absurd h3 h'
            ·have:=h2.lt;omega
  |bsl cs k=>
   rw[hf]at hv
   obtain⟨h1,h2,h3,h4⟩:=hv
   refine⟨h1,h2.of_eq (ht.keep _ h2.lt h3),?_,h4⟩
   cases e:M' (β t)with
   |none=>rfl
   |some k=>rcases ht.dom (β t) (by rw[e];simp)with h'|h'
            ·exact absurd h3 h'
            ·have:=h2.lt;omega
 inj:=h.inj
theorem RepF.le(h:RepF W0 M0 β f n M a w)(l:M'.le M):RepF W0 M0 β f n M' a w:=
 ⟨h.df,h.sz,h.out,h.sat.le l,h.stp.le l,fun t=>by
   have hv:=h.sv t
   have hn:∀b,M b=none→M' b=none:=fun b hb=>by
    cases e:M' b with
    |none=>rfl
    |some k=>rw[l b k e]at hb;cases hb
   cases hf:f t with
   |v y=>rw[hf]at hv;exact hv
   |junk=>trivial
   |bp s o=>rw[hf]at hv;exact hv
   |box cs=>rw[hf]at hv;exact⟨hv.1,hv.2.1,hn _ hv.2.2.1,hv.2.2.2⟩
   |bsl cs k=>rw[hf]at hv;exact⟨hv.1,hv.2.1,hn _ hv.2.2.1,hv.2.2.2⟩,h.inj⟩
def leF(g f:Nat→SV):Prop:=∀t,g t=.junk∨g t=f t
theorem RepF.weak{g:Nat→SV}(h:RepF W0 M0 β f n M a w)(l:leF g f):RepF W0 M0 β g n M a w where
 df:=h.df
 sz:=h.sz
 out t ht:=by rcases l t with e|e
              ·exact e
              ·rw[e];exact h.out t ht
 sat:=h.sat
 stp:=h.stp
 sv t:=by rcases l t with e|e
          ·rw[e];trivial
          ·rw[e];exact h.sv t
 inj t t' h1 h2 e:=by
  refine h.inj t t' ?_ ?_ e
  ·rcases l t with e1|e1
   ·rw[e1]at h1;cases h1
   ·rw[←e1];exact h1
  ·rcases l t' with e1|e1
   ·rw[e1]at h2;cases h2
   ·rw[←e1];exact h2
theorem getD_put{d:Nat}{x:Value}(hd:d<a.tmps.size)(t:Nat):(a.put (some d) x).tmps.getD t undef=if t=d then x else a.tmps.getD t undef:=by
 simp only[Act.put]
 by_cases h:t=d
 ·subst h;simp[hd]
 ·rw[if_neg h];simp[Array.getElem?_setIfInBounds_ne (Ne.symm h)]
theorem RepF.put{d:Nat}{x:Value}{sv:SV}(h:RepF W0 M0 β f n M a w)(hd:d<n)(hs:RS β x sv):RepF W0 M0 β (upF f d sv) n M (a.put (some d) x) w where
 df:=h.df
 sz:=by simp[Act.put,h.sz]
 out t ht:=by simp only[upF_eq];rw[if_neg (by omega)];exact h.out t ht
 sat:=h.sat
 stp:=h.stp
 sv t:=by
  rw[getD_put (by rw[h.sz];exact hd)]
  simp only[upF_eq]
  by_cases e:t=d
  ·rw[if_pos e,if_pos e]
   cases sv with
   |v y=>exact hs
   |bp s o=>exact hs
   |box c=>exact hs.elim
   |bsl c k=>exact hs.elim
   |junk=>trivial
  ·rw[if_neg e,if_neg e];exact h.sv t
 inj t t' h1 h2 e:=by
  have key:∀u,(upF f d sv u).isBox=true→(f u).isBox=true:=by
   intro u hu
   simp only[upF_eq]at hu
   by_cases e:u=d
   ·rw[if_pos e]at hu
    cases sv with
    |v y=>cases hu
    |bp s o=>cases hu
    |box c=>exact hs.elim
    |bsl c k=>exact hs.elim
    |junk=>cases hu
   ·rw[if_neg e]at hu;exact hu
  exact h.inj t t' (key t h1) (key t' h2) e
def wpush(w:World)(o:Obj):World:={w with heap:=w.heap.push o}
theorem wpush_old{o:Obj}{b:Nat}(hb:b<w.heap.size):(wpush w o).heap[b]?=w.heap[b]?:=by
 show(w.heap.push o)[b]?=_
 rw[Array.getElem?_push,if_neg (by omega)]
theorem wpush_new{o:Obj}:(wpush w o).heap[w.heap.size]?=some o:=by
 show(w.heap.push o)[w.heap.size]?=_
 rw[Array.getElem?_push,if_pos rfl]
theorem Sat.push(h:Sat w M)(o:Obj):Sat (wpush w o) M:=fun b k e=>(h b k e).of_eq (wpush_old (h b k e).lt)
theorem Stp.push(o:Obj):Stp w M (wpush w o) M:=⟨rfl,rfl,rfl,by simp[wpush],fun b hb _=>wpush_old hb,fun b hb=>.inl hb⟩
theorem Sat.none_size(h:Sat w M):M w.heap.size=none:=by
 cases e:M w.heap.size with
 |none=>rfl
 |some k=>have:=(h _ _ e).lt;omega
theorem Sat.push_new(h:Sat w M){o:Obj}{k:Bk}(hk:holds (wpush w o) w.heap.size k):Sat (wpush w o) (M.upd w.heap.size k):=by
 intro b k' e
 by_cases hb:b=w.heap.size
 ·subst hb;rw[Mem.upd_same]at e;cases e;exact hk
 ·rw[Mem.upd_ne _ _ hb]at e;exact(h b k' e).of_eq (wpush_old (h b k' e).lt)
theorem Stp.push_new(o:Obj)(k:Bk):Stp w M (wpush w o) (M.upd w.heap.size k):=
 ⟨rfl,rfl,rfl,by simp[wpush],fun b hb _=>wpush_old hb,fun b hb=>by
   by_cases e:b=w.heap.size
   ·exact .inr (by omega)
   ·rw[Mem.upd_ne _ _ e]at hb;exact .inl hb⟩
theorem holds_push_row{cs:Array Value}{t:TypeId}:holds (wpush w (.cells cs t)) w.heap.size (.row cs.toList):=⟨t,by rw[wpush_new]⟩
theorem holds_push_mp{es:Array MapEntry}{c:Nat}:holds (wpush w (.map es c)) w.heap.size (.mp es c):=wpush_new
theorem RepF.putB{d:Nat}{x:Value}{sv:SV}{cs:List Value}{t0:TypeId}(h:RepF W0 M0 β f n M a w)(hd:d<n)
 (hsv:(sv=.box cs∧x=.pointer (some ⟨w.heap.size,0,none⟩))∨∃k,sv=.bsl cs k∧x=.slice (some ⟨w.heap.size,0,none⟩) k k)
 (hnb:∀t o,t≠d→f t≠.bp d o):
 RepF W0 M0 (fun t=>if t=d then w.heap.size else β t) (upF f d sv) n M (a.put (some d) x) (wpush w (.cells cs.toArray t0)):=by
 have h1:=h.step (h.sat.push (.cells cs.toArray t0)) (Stp.push (.cells cs.toArray t0))
 have hnew:holds (wpush w (.cells cs.toArray t0)) w.heap.size (.row cs):=⟨t0,wpush_new⟩
 have hMn:=h.sat.none_size
 have hW:W0.heap.size≤w.heap.size:=h.stp.size
 have hlt:∀t,(f t).isBox=true→β t<w.heap.size:=by
  intro t ht
  have hv:=h.sv t
  cases hf:f t with
  |box c=>rw[hf]at hv;exact hv.2.1.lt
  |bsl c k=>rw[hf]at hv;exact hv.2.1.lt
  |v y=>rw[hf]at ht;cases ht
  |bp s o=>rw[hf]at ht;cases ht
  |junk=>rw[hf]at ht;cases ht
 refine⟨h.df,by simp[Act.put,h.sz],fun t ht=>by simp only[upF_eq];rw[if_neg (by omega)];exact h.out t ht,h1.sat,h1.stp,?_,?_⟩
 ·intro t
  rw[getD_put (by rw[h.sz];exact hd)]
  simp only[upF_eq]
  by_cases e:t=d
  ·subst e
   rw[if_pos rfl,if_pos rfl]
   rcases hsv with⟨rfl,rfl⟩|⟨k,rfl,rfl⟩
   ·exact⟨by simp,by simpa using hnew,by simpa using hMn,by simpa using hW⟩
   ·exact⟨by simp,by simpa using hnew,by simpa using hMn,by simpa using hW⟩
  ·rw[if_neg e,if_neg e]
   have hv:=h1.sv t
   cases hf:f t with
   |v y=>rw[hf]at hv;exact hv
   |junk=>trivial
   |box c=>rw[hf]at hv;obtain⟨a1,a2,a3,a4⟩:=hv;exact⟨by simp only[e,if_false];exact a1,by simp only[e,if_false];exact a2,by simp only[e,if_false];exact a3,by simp only[e,if_false];exact a4⟩
   |bsl c k=>rw[hf]at hv;obtain⟨a1,a2,a3,a4⟩:=hv;exact⟨by simp only[e,if_false];exact a1,by simp only[e,if_false];exact a2,by simp only[e,if_false];exact a3,by simp only[e,if_false];exact a4⟩
   |bp s o=>
    rw[hf]at hv
    have hs:s≠d:=fun e'=>hnb t o e (by rw[hf,e'])
    show a.tmps.getD t undef=Value.pointer (some ⟨if s=d then w.heap.size else β s,o,none⟩)
    rw[if_neg hs];exact hv
 ·intro t t' ht ht' e
  simp only[upF_eq]at ht ht'
  by_cases e1:t=d<;>by_cases e2:t'=d
  ·rw[e1,e2]
  ·simp only[e1,if_true,e2,if_false]at e ht'
   have:=hlt t' ht';omega
  ·simp only[e1,if_false,e2,if_true]at e ht
   have:=hlt t ht;omega
  ·simp only[e1,e2,if_false]at e ht ht'
   exact h.inj t t' ht ht' e
end
def fnOk(P:Program)(g:FuncId):Bool:=
 match P.funcs[g]? with
 | some fn => fn.body.isSome && fn.name != "runtime.NumGoroutine"
 |none=>false
def zrep(zero:List Value)(m:Nat):List Value:=(List.replicate m zero).flatten
def mpFind(k:Int):List MapEntry→Option Value
 |[]=>none
 |e::r=>match e.key with
  |.int _ j=>if j=k then some e.val else mpFind k r
  |_=>none
def mpInts:List MapEntry→Bool
 |[]=>true
 |e::r=>(match e.key with|.int .i64 _=>true|_=>false)&&mpInts r
def FE(P:Program)(f:Nat→SV)(M:Mem)(k:K)(sv:SV):Prop:=
 pe f k=some sv∨
 match k with
 |.load one n x=>∃b o cs v,lc f x=some (.mm b o)∧(M b=some (.row cs)∨∃t fr,M b=some (.ro cs t fr))∧rdv one n cs o=some v∧sv=.v v
 |.look one z ok x i=>∃es c j,(ev f x=some (.map none)∧es= #[]∨∃b,ev f x=some (.map (some b))∧M b=some (.mp es c))∧ev f i=some (.int .i64 j)∧mpInts es.toList=true∧
   sv=.v (if ok then .tuple #[(mpFind j es.toList).getD z,.bool (mpFind j es.toList).isSome]else(mpFind j es.toList).getD z)
 |.alloc true z=>sv=.box z
 |.box true x=>∃v,ev f x=some v∧sv=.box v.cells.toList
 |.bslice true len size z ps=>∃cs,fillP f z ps=some cs∧sv=.bsl cs len
 |.qcall g xs=>∃args r,evs f xs=some args∧Qt P g args M r∧sv=.v r
 |_=>False
def srcC(f:Nat→SV)(M:Mem)(size:Nat)(x:Operand):Option (List Value×Nat):=
 match x with
 |.tmp t=>match f t with
  |.bsl cs k=>if cs.length=k*size then some (cs,k)else none
  |.v y=>srcV M size y
  |_=>none
 |.const y=>srcV M size y
 |_=>none
where srcV (M:Mem) (size:Nat):Value→Option (List Value×Nat)
 |.slice none 0 _=>some ([],0)
 |.slice (some ⟨b,o,none⟩) k _=>match M b with
  |some (.row cs)=>if o+k*size≤cs.length then some ((cs.drop o).take (k*size),k)else none
  |_=>none
 |.string s=>if size=1 then some (s.data.toList.map fun b=>.int .u8 b.toNat,s.size)else none
 |_=>none
def appM(M:Mem)(size bytes:Nat)(s:Value)(src:List Value)(k:Nat)(post:Value→Mem→Prop):Prop:=
 match s with
 |.slice none n cap=>n=0∧cap=0∧k*bytes≤140737488355328∧((k=0∧post (.slice none 0 0) M)∨(0<k∧∀b cap' zs,M b=none→k≤cap'→zs.length=(cap'-k)*size→post (.slice (some ⟨b,0,none⟩) k cap') (M.upd b (.row (src++zs)))))
 |.slice (some ⟨b,o,none⟩) n cap=>∃cs,M b=some (.row cs)∧(n+k)*bytes≤140737488355328∧
   ((n+k≤cap∧o+(n+k)*size≤cs.length∧post (.slice (some ⟨b,o,none⟩) (n+k) cap) (M.upd b (.row (wr cs (o+n*size) src))))∨
    (cap<n+k∧o+n*size≤cs.length∧∀b' cap' zs,M b'=none→n+k≤cap'→zs.length=(cap'-(n+k))*size→
      post (.slice (some ⟨b',0,none⟩) (n+k) cap') (M.upd b' (.row ((cs.drop o).take (n*size)++src++zs)))))
 |_=>False
def keyIs(j:Int)(e:MapEntry):Bool:=
 match e.key with
 |.int _ i=>i==j
 |_=>false
def mpSet(es:Array MapEntry)(clk:Nat)(k:Value)(j:Int)(y:Value):Bk:=
 match es.toList.findIdx? (keyIs j)with
 |some i=>.mp (es.modify i fun e=>{e with key:=k,val:=y}) clk
 |none=>.mp (es.push {key:=k,val:=y,born:=clk}) (clk+1)
def mpDel(es:Array MapEntry)(clk:Nat)(j:Int):Bk:=
 match es.toList.findIdx? (keyIs j)with
 |some i=>.mp (es.eraseIdxIfInBounds i) clk
 |none=>.mp es clk
def vcK(P:Program)(k:K)(d:Option Nat)(post:St→Mem→Prop)(S:St)(M:Mem):Prop:=
 match k with
 |.call g xs=>∃args,evs S xs=some args∧Fn P g args M (fun v M'=>post (put S d (.v v)) M')
 |.callv x xs=>∃g u c args,ev S x=some (.func (.func g) u c)∧fnOk P g=true∧evs S xs=some args∧Fn P g (u.toList++args++c.toList) M (fun v M'=>post (put S d (.v v)) M')
 |.store n x y=>∃v,ev S y=some v∧v.cells.size=n∧plainCells v.cells.toList=true∧
   ((∃s o cs,lc S x=some (.bx s o)∧S s=.box cs∧o+n≤cs.length∧post (upF S s (.box (wr cs o v.cells.toList))) M)∨
    (∃b o cs,lc S x=some (.mm b o)∧M b=some (.row cs)∧o+n≤cs.length∧post S (M.upd b (.row (wr cs o v.cells.toList)))))
 |.alloc false z=>∀b,M b=none→post (put S d (.v (.pointer (some ⟨b,0,none⟩)))) (M.upd b (.row z))
 |.box false x=>∃v,ev S x=some v∧∀b,M b=none→post (put S d (.v (.pointer (some ⟨b,0,none⟩)))) (M.upd b (.row v.cells.toList))
 |.bslice false len size z ps=>∃cs,fillP S z ps=some cs∧∀b,M b=none→post (put S d (.v (.slice (some ⟨b,0,none⟩) len len))) (M.upd b (.row cs))
 |.mkslice size bytes z l c=>∃n m:Nat,ev S l=some (.int .i64 n)∧ev S c=some (.int .i64 m)∧n≤m∧m*bytes≤140737488355328∧m≤140737488355328∧
   ∀b,M b=none→post (put S d (.v (.slice (some ⟨b,0,none⟩) n m))) (M.upd b (.row (zrep z m)))
 |.app size bytes z s x=>∃sv src k,ev S s=some sv∧srcC S M size x=some (src,k)∧plainCells src=true∧appM M size bytes sv src k (fun v M'=>post (put S d (.v v)) M')
 |.appz size bytes z s x=>∃sv,∃k:Nat,ev S s=some sv∧ev S x=some (.int .i64 k)∧k≤140737488355328∧plainCells z=true∧appM M size bytes sv (zrep z k) k (fun v M'=>post (put S d (.v v)) M')
 |.mkmap=>∀b,M b=none→post (put S d (.v (.map (some b)))) (M.upd b (.mp #[] 0))
 |.mupd m i y=>∃b es c j v,ev S m=some (.map (some b))∧M b=some (.mp es c)∧ev S i=some (.int .i64 j)∧ev S y=some v∧mpInts es.toList=true∧
   post (put S d (.v undef)) (M.upd b (mpSet es c (.int .i64 j) j v))
 |.mdel m i=>∃b es c j,ev S m=some (.map (some b))∧M b=some (.mp es c)∧ev S i=some (.int .i64 j)∧mpInts es.toList=true∧
   post (put S d (.v (.tuple #[]))) (M.upd b (mpDel es c j))
 |k=>∃sv,FE P S M k sv∧post (if sv.isBox then putB S d sv else put S d sv) M
section
variable {P:Program} {W0:World} {M0 M M':Mem} {β:Nat→Nat} {f:Nat→SV} {n:Nat} {a:Act} {w w':World}
theorem setRow_other(w:World)(g b:Nat)(cells:Array Value)(h:b≠g):(w.setRow g cells).heap[b]?=w.heap[b]?:=by
 simp only[World.setRow,Array.getElem?_modify]
 rw[if_neg (Ne.symm h)]
theorem wr_eq(vs:List Value)(cs:List Value)(o:Nat)(h:o+vs.length≤cs.length):wr cs o vs=cs.take o++vs++cs.drop (o+vs.length):=by
 apply List.ext_getElem?
 intro j
 rw[wr_get _ _ _ _ h]
 have hl:(cs.take o).length=o:=by simp;omega
 by_cases h1:j<o
 ·rw[if_neg (by omega),List.append_assoc,List.getElem?_append_left (by omega),List.getElem?_take,if_pos h1]
 ·by_cases h2:j<o+vs.length
  ·rw[if_pos (by omega),List.append_assoc,List.getElem?_append_right (by omega),hl,List.getElem?_append_left (by omega)]
  ·rw[if_neg (by omega),List.getElem?_append_right (by simp[hl];omega),List.getElem?_drop]
   congr 1
   simp;omega
theorem run_storeVar{t:TypeId}{i:TypeInfo}{b o:Nat}{cs:List Value}{v:Value}(hi:P.info? t=some i)(hb:holds w b (.row cs))(hv:v.cells.size=i.size)(hp:plainCells v.cells.toList=true)
 (ho:o+v.cells.size≤cs.length):∃w',(storeVar t ⟨b,o,none⟩ v).run P w=.ok () w'∧holds w' b (.row (wr cs o v.cells.toList))∧(∀x,x≠b→w'.heap[x]?=w.heap[x]?)∧w'.heap.size=w.heap.size∧w'.os=w.os∧w'.tape=w.tape∧w'.output=w.output:=by
 obtain⟨ty,hg⟩:=hb
 have hr:=run_storeCells_at (P:=P) b o ty v.cells.toList 0 cs.toArray w hg (by simp;omega) (fun x hx=>List.all_eq_true.1 hp x hx)
 simp only[Nat.add_zero]at hr
 refine⟨w.setRow b (cs.take o++v.cells.toList++cs.drop (o+v.cells.toList.length)).toArray,?_,?_,?_,?_,rfl,rfl,rfl⟩
 ·unfold storeVar
  simp only[Sem.run_bind,sizeOf,typeInfo,run_program,Result.andThen_ok,hi,Sem.run_pure,hv]
  simp only[ne_eq,not_true_eq_false,if_false]
  exact hr
 ·refine⟨ty,?_⟩
  rw[wr_eq _ _ _ (by simpa using ho)]
  exact setRow_heap w b cs.toArray _ ty (0,0) hg
 ·intro x hx;exact setRow_other w b x _ hx
 ·simp[World.setRow]
theorem Sat.set(h:Sat w M){b:Nat}{k:Bk}(hk:holds w' b k)(ho:∀x,x≠b→w'.heap[x]?=w.heap[x]?):Sat w' (M.upd b k):=by
 intro x kx e
 by_cases hx:x=b
 ·subst hx;rw[Mem.upd_same]at e;cases e;exact hk
 ·rw[Mem.upd_ne _ _ hx]at e;exact(h x kx e).of_eq (ho x hx)
theorem Stp.set{b:Nat}{k k0:Bk}(hb:M b=some k0)(ho:∀x,x≠b→w'.heap[x]?=w.heap[x]?)(hs:w'.heap.size=w.heap.size)(h1:w'.os=w.os)(h2:w'.tape=w.tape)(h3:w'.output=w.output):
 Stp w M w' (M.upd b k):=
 ⟨h1,h2,h3,by omega,fun x _ hx=>ho x (fun e=>by subst e;rw[hb]at hx;cases hx),fun x hx=>by
   by_cases e:x=b
   ·subst e;rw[hb];exact .inl (by simp)
   ·rw[Mem.upd_ne _ _ e]at hx;exact .inl hx⟩
theorem RepF.setB{s:Nat}{cs cs':List Value}(h:RepF W0 M0 β f n M a w)(hf:f s=.box cs)(hk:holds w' (β s) (.row cs'))(ho:∀x,x≠β s→w'.heap[x]?=w.heap[x]?)(hsz:w'.heap.size=w.heap.size)(h1:w'.os=w.os)(h2:w'.tape=w.tape)(h3:w'.output=w.output):
 RepF W0 M0 β (upF f s (.box cs')) n M a w':=by
 have hs:=h.sv s
 rw[hf]at hs
 obtain⟨e1,e2,e3,e4⟩:=hs
 have hbox:(f s).isBox=true:=by rw[hf];rfl
 refine⟨h.df,h.sz,?_,?_,?_,?_,?_⟩
 ·intro t ht
  simp only[upF_eq]
  rw[if_neg (fun e=>by subst e;rw[h.out t ht]at hf;cases hf)]
  exact h.out t ht
 ·intro b k e
  refine(h.sat b k e).of_eq (ho b fun e'=>?_)
  subst e';rw[e3]at e;cases e
 ·refine⟨h1.trans h.stp.os,h2.trans h.stp.tape,h3.trans h.stp.output,by have:=h.stp.size;omega,fun b hb hM=>?_,h.stp.dom⟩
  rw[ho b (by omega)]
  exact h.stp.keep b hb hM
 ·intro t
  simp only[upF_eq]
  by_cases e:t=s
  ·subst e;rw[if_pos rfl];exact⟨e1,hk,e3,e4⟩
  ·rw[if_neg e]
   have hv:=h.sv t
   cases hft:f t with
   |v y=>rw[hft]at hv;exact hv
   |junk=>trivial
   |bp s' o'=>rw[hft]at hv;exact hv
   |box c=>
    rw[hft]at hv
    refine⟨hv.1,hv.2.1.of_eq (ho _ fun e'=>e (h.inj t s (by rw[hft];rfl) hbox e')),hv.2.2⟩
   |bsl c k=>
    rw[hft]at hv
    refine⟨hv.1,hv.2.1.of_eq (ho _ fun e'=>e (h.inj t s (by rw[hft];rfl) hbox e')),hv.2.2⟩
 ·intro t t' ht ht' e
  have key:∀u,(upF f s (.box cs') u).isBox=true→(f u).isBox=true:=by
   intro u hu
   simp only[upF_eq]at hu
   by_cases e:u=s
   ·subst e;exact hbox
   ·rw[if_neg e]at hu;exact hu
  exact h.inj t t' (key t ht) (key t' ht') e
theorem upon_value{o:Oper}{next:Act→World→Prop}{Q:Exit→Act→World→Prop}{x:Value}(hr:(execOp a.eval o).run P w=.ok (.value x) w')(h:next (a.put o.dst x) w'):o.wp P a w next Q:=by
 unfold Oper.wp;rw[hr];exact h
theorem upon_skip{o:Oper}{next:Act→World→Prop}{Q:Exit→Act→World→Prop}(hr:(execOp a.eval o).run P w=.ok .skip w')(h:next (a.put o.dst undef) w'):o.wp P a w next Q:=by
 unfold Oper.wp;rw[hr];exact h
theorem upon_enter{o:Oper}{next:Act→World→Prop}{Q:Exit→Act→World→Prop}{g:FuncId}{args:List Value}{post:Value→Mem→Prop}(hS:Sat w M)
 (hr:(execOp a.eval o).run P w=.ok (.enter g args.toArray) w) (hF:Fn P g args M post)
 (h:∀v M' w',post v M'→Sat w' M'→Stp w M w' M'→next (a.put o.dst v) w'):o.wp P a w next Q:=by
 unfold Oper.wp;rw[hr]
 exact(hF.out w hS).mono fun e w'' ⟨v,M',he,hp,hs,ht⟩=>by subst he;exact h v M' w'' hp hs ht
theorem callFunc_ok{g:FuncId}{args:Array Value}(h:fnOk P g=true):(callFunc g args).run P w=.ok (.enter g args) w:=by
 unfold fnOk at h
 split at h
 ·rename_i fn hf
  simp only[Bool.and_eq_true,bne_iff_ne,ne_eq]at h
  have h1 : (fn.name == "runtime.NumGoroutine") = false := by simpa using h.2
  have h2:fn.body.isNone=false:=by cases hb:fn.body<;>simp_all
  simp only[callFunc,Sem.run_bind,run_program,Result.andThen_ok,hf,h1,h2,Bool.false_eq_true,if_false,Sem.run_pure]
 ·cases h
theorem run_callF{o:Oper}{g:FuncId}{xs:Array Operand}{ats:Array TypeId}{args:List Value}(ho:o.op=.call {callee:=.value (.func g),args:=xs,argTypes:=ats})
 (hR:RepF W0 M0 β f n M a w) (he:evs f xs.toList=some args) (hok:fnOk P g=true):(execOp a.eval o).run P w=.ok (.enter g args.toArray) w:=by
 have e1:xs.map a.eval=args.toArray:=by rw[←hR.evs he];apply Array.ext';simp
 obtain⟨dst,op,ty,pos,after,guard⟩:=o
 simp only at ho
 subst ho
 simp[execOp,resolve,Act.eval,Deferred.ofValue,invoke,e1,callFunc_ok hok]
theorem run_callV{o:Oper}{t:Nat}{g:FuncId}{u c:Array Value}{xs:Array Operand}{ats:Array TypeId}{args:List Value}(ho:o.op=.call {callee:=.value (.tmp t),args:=xs,argTypes:=ats})
 (hR:RepF W0 M0 β f n M a w) (hf:ev f (.tmp t)=some (.func (.func g) u c)) (he:evs f xs.toList=some args) (hok:fnOk P g=true):
 (execOp a.eval o).run P w=.ok (.enter g (u.toList++args++c.toList).toArray) w:=by
 have e1:xs.map a.eval=args.toArray:=by rw[←hR.evs he];apply Array.ext';simp
 have e2:=hR.ev hf
 obtain⟨dst,op,ty,pos,after,guard⟩:=o
 simp only at ho
 subst ho
 simp only[execOp,resolve,Sem.run_bind,e2,Deferred.ofValue,Sem.run_pure,Result.andThen_ok,invoke,e1,callFunc_ok hok]
 congr 2
 apply Array.ext';simp
theorem findNow_ints{k:IntKind}(j:Int):∀(es:List MapEntry) (i:Nat),mpInts es=true→
 ∃r,Instr.findNow (.int k) (.int .i64 j) es i=some r∧r.map (·.2)=mpFind j es∧r.map (·.1)=(es.findIdx? (keyIs j)).map (· +i)
 |[],i,_=>⟨none,rfl,rfl,rfl⟩
 |e::t,i,h=>by
  simp only[mpInts,Bool.and_eq_true]at h
  obtain⟨h1,h2⟩:=h
  obtain⟨key,val,born⟩:=e
  cases key<;>simp at h1
  rename_i k' m
  cases k'<;>simp at h1
  obtain⟨r,hr,hr1,hr2⟩:=findNow_ints (k:=k) j t (i+1) h2
  by_cases hm:j=m
  ·subst hm
   exact⟨some (i,val),by simp[Instr.findNow,Instr.sameNow],by simp[mpFind],by simp[List.findIdx?_cons,keyIs]⟩
  ·have hm':¬m=j:=fun e=>hm e.symm
   refine⟨r,?_,?_,?_⟩
   ·have:(j==m)=false:=by simpa using hm
    simp[Instr.findNow,Instr.sameNow,this,hr]
   ·simp[mpFind,hm',hr1]
   ·rw[hr2,List.findIdx?_cons]
    have:(m==j)=false:=by simpa using hm'
    simp only[keyIs,this,Bool.false_eq_true,if_false]
    cases List.findIdx? (keyIs j) t<;>simp[Nat.add_comm,Nat.add_left_comm]
theorem run_findKey{kt:TypeId}{k:IntKind}{j:Int}{es:List MapEntry}(hk:P.underlying kt=some (.int k))(h:mpInts es=true):
 ∃r,(Instr.findKey kt (.int .i64 j) es).run P w=.ok r w∧r.map (·.2)=mpFind j es∧r.map (·.1)=es.findIdx? (keyIs j):=by
 obtain⟨r,hr,h1,h2⟩:=findNow_ints (k:=k) j es 0 h
 refine⟨r,?_,h1,by rw[h2];simp⟩
 simp[Instr.findKey,underlying,hk,hr]
theorem run_checkKey{kt:TypeId}{k:IntKind}{j:Int}{e:Bool}(hk:P.underlying kt=some (.int k)):(Instr.checkKey e 10000 kt (.int .i64 j)).run P w=.ok () w:=by
 have:∀d,(Instr.checkKey e (d+1) kt (.int .i64 j)).run P w=.ok () w:=fun d=>by simp[Instr.checkKey,underlying,hk]
 exact this 9999
theorem run_getObj{b:Nat}{es:Array MapEntry}{c:Nat}(h:holds w b (.mp es c)):(getObj b).run P w=.ok (.map es c) w:=by
 have h':w.heap[b]?=some (.map es c):=h
 simp[getObj,Sem.run,h']
theorem run_lookup{t kt e:TypeId}{k:IntKind}{z:Value}{i:TypeInfo}{j:Int}{ok:Bool}{x:Value}{es:Array MapEntry}{c:Nat}(ht:P.underlying t=some (.map kt e))(hk:P.underlying kt=some (.int k))
 (hi:P.info? e=some i) (hz:i.zero=some z) (hx:(x=.map none∧es= #[])∨∃b,x=.map (some b)∧holds w b (.mp es c)) (h:mpInts es.toList=true):
 (Instr.lookup t x (.int .i64 j) ok).run P w=.ok (if ok then .tuple #[(mpFind j es.toList).getD z,.bool (mpFind j es.toList).isSome]else(mpFind j es.toList).getD z) w:=by
 obtain⟨r,hr,h1,_⟩:=run_findKey (P:=P) (w:=w) (kt:=kt) (j:=j) hk h
 have hes:(match x with
  |.map none=>pure #[]
  |.map (some r)=>do
   let .map es _ ← getObj r | stuck "Lookup: map expected"
   pure es
  | _ => stuck "Lookup: map expected" : Sem (Array MapEntry)).run P w = .ok es w := by
  rcases hx with⟨rfl,rfl⟩|⟨b,rfl,hb⟩
  ·rfl
  ·simp[run_getObj hb]
 have hzr:(zeroValue e).run P w=.ok z w:=by simp[zeroValue,typeInfo,hi,hz]
 rcases hx with⟨rfl,rfl⟩|⟨b,rfl,hb⟩
 ·simp only[Instr.lookup,underlying,Sem.run_bind,run_program,Result.andThen_ok,ht,Sem.run_pure,run_checkKey hk,hr]
  cases r with
  |none=>simp only[Option.map_none]at h1;rw[←h1];simp only[Sem.run_bind,hzr,Result.andThen_ok,Sem.run_pure];cases ok<;>rfl
  |some p=>simp only[Option.map_some]at h1;rw[←h1];simp only[Sem.run_bind,Sem.run_pure,Result.andThen_ok];cases ok<;>rfl
 ·simp only[Instr.lookup,underlying,Sem.run_bind,run_program,Result.andThen_ok,ht,Sem.run_pure,run_getObj hb,run_checkKey hk,hr]
  cases r with
  |none=>simp only[Option.map_none]at h1;rw[←h1];simp only[Sem.run_bind,hzr,Result.andThen_ok,Sem.run_pure];cases ok<;>rfl
  |some p=>simp only[Option.map_some]at h1;rw[←h1];simp only[Sem.run_bind,Sem.run_pure,Result.andThen_ok];cases ok<;>rfl
end
end Go.Proofs.YtpleoapljeffiaaGreatDoor.E
