/- A part of the proof. Conditions: none. -/
import Derived.Test.YtpleoapljeffiaaGreatDoorKE5
import Derived.LaidMore
import Derived.OpenVars
import Derived.ChangeArms
set_option linter.unusedVariables false
set_option linter.unusedSimpArgs false
set_option maxRecDepth 100000
namespace Go.Proofs.YtpleoapljeffiaaGreatDoor.E
open Go
open Classical
theorem szWordS_q{M:Mem}{va:Value}{xs:List Word}{l:Int}(h0:0≤l)(h1:l≤1048576)(ha:SlR M 3 wv va xs):Qt Tryz.prog 35 [va,.int .i64 l] M (.int .i64 (if(xs.length:Int)≤l then l-xs.length else-1)):=by
 obtain⟨aa,ca,ea⟩:=ha.len
 have hbd:=ha.bound
 refine fn35 (by simp) ?_
 subst ea
 repeat' (first
  |(refine xw ?_)
  |(refine seqQ_n ?_)
  |(refine seqQ_r ?_)
  |(refine VC.cond _ rfl (fun hb=>?_) (fun hb=>?_))
  |(fail))
 all_goals (refine fnQ_r rfl (Mem.le_refl _) (q_end ?_))
 ·have h:l-(xs.length:Int)<0:=by simpa using hb
  rw[if_neg (by omega)]
 ·have h:¬l-(xs.length:Int)<0:=by simpa using hb
  rw[if_pos (by omega)]
theorem szPairS_q{M:Mem}{va:Value}{xs:List Pair}{l:Int}(h0:0≤l)(h1:l≤1048576)(ha:SlR M 6 pv va xs):Qt Tryz.prog 107 [va,.int .i64 l] M (.int .i64 (if(xs.length:Int)≤l then l-xs.length else-1)):=by
 obtain⟨aa,ca,ea⟩:=ha.len
 have hbd:=ha.bound
 refine fn107 (by simp) ?_
 subst ea
 repeat' (first
  |(refine xw ?_)
  |(refine seqQ_n ?_)
  |(refine seqQ_r ?_)
  |(refine VC.cond _ rfl (fun hb=>?_) (fun hb=>?_))
  |(fail))
 all_goals (refine fnQ_r rfl (Mem.le_refl _) (q_end ?_))
 ·have h:l-(xs.length:Int)<0:=by simpa using hb
  rw[if_neg (by omega)]
 ·have h:¬l-(xs.length:Int)<0:=by simpa using hb
  rw[if_pos (by omega)]
theorem szIntS_q{M:Mem}{va:Value}{xs:List Int}{l:Int}(h0:0≤l)(h1:l≤1048576)(ha:SlR M 1 iv va xs):Qt Tryz.prog 37 [va,.int .i64 l] M (.int .i64 (if(xs.length:Int)≤l then l-xs.length else-1)):=by
 obtain⟨aa,ca,ea⟩:=ha.len
 have hbd:=ha.bound
 refine fn37 (by simp) ?_
 subst ea
 repeat' (first
  |(refine xw ?_)
  |(refine seqQ_n ?_)
  |(refine seqQ_r ?_)
  |(refine VC.cond _ rfl (fun hb=>?_) (fun hb=>?_))
  |(fail))
 all_goals (refine fnQ_r rfl (Mem.le_refl _) (q_end ?_))
 ·have h:l-(xs.length:Int)<0:=by simpa using hb
  rw[if_neg (by omega)]
 ·have h:¬l-(xs.length:Int)<0:=by simpa using hb
  rw[if_pos (by omega)]
theorem szCell_q{M:Mem}{x:CS}{l:Int}(h0:0≤l)(h1:l≤1048576)(ha:SlR M 6 pv x.s x.c.pairs):Qt Tryz.prog 70 [ca x,.int .i64 l] M (.int .i64 (if(x.c.pairs.length:Int)≤l then l-x.c.pairs.length else-1)):=by
 refine fn70 (by simp) ?_
 repeat' (first
  |(refine xw ?_)
  |(refine vl_cq rfl (szPairS_q h0 h1 ha) ?_)
  |(refine seqQ_n ?_)
  |(refine seqQ_r ?_)
  |(refine VC.cond _ rfl (fun hb=>?_) (fun hb=>?_))
  |(fail))
 all_goals (refine fnQ_r rfl (Mem.le_refl _) (q_end ?_))
 ·by_cases h:(x.c.pairs.length:Int)≤l
  ·rw[if_pos h]at hb;simp at hb;omega
  ·rw[if_neg h]
 ·rfl
def pairsN(cs:List Cell):Int:=(cs.map fun c=>(c.pairs.length:Int)).sum
theorem pairsN_nonneg(cs:List Cell):0≤pairsN cs:=by
 unfold pairsN
 induction cs with
 |nil=>simp
 |cons c r ih=>simp only[List.map_cons,List.sum_cons];omega
theorem pairsN_take{cs:List Cell}{i:Nat}{c:Cell}(h:cs[i]?=some c):pairsN (cs.take (i+1))=pairsN (cs.take i)+c.pairs.length:=by
 unfold pairsN
 rw[List.take_add_one,h,List.map_append,List.sum_append];simp
theorem pairsN_le(cs:List Cell)(i:Nat):pairsN (cs.take i)≤pairsN cs:=by
 have h:pairsN cs=pairsN (cs.take i)+pairsN (cs.drop i):=by
  unfold pairsN
  rw[←List.sum_append,←List.map_append,List.take_append_drop]
 have:=pairsN_nonneg (cs.drop i)
 omega
theorem szCellS_q{M:Mem}{va:Value}{xs:List CS}{l:Int}(h0:0≤l)(h1:l≤1048576)(ha:SlR M 8 csv va xs)(hx:∀x,x∈xs→SlR M 6 pv x.s x.c.pairs):
 Qt Tryz.prog 36 [va,.int .i64 l] M (.int .i64 (if(xs.length:Int)+pairsN (xs.map (·.c))≤l then l-(xs.length+pairsN (xs.map (·.c)))else-1)):=by
 obtain⟨aa,ca,ea⟩:=ha.len
 have hbd:=ha.bound
 have hnn:=pairsN_nonneg (xs.map (·.c))
 refine fn36 (by simp) ?_
 subst ea
 repeat' (first
  |(refine vl_sub rfl rfl (by omega) ?_)
  |(refine vl_pure rfl ?_)
  |(refine vl_nil ?_)
  |(refine VC.seq ?_)
  |(refine VC.regV ?_)
  |(refine seqQ_n ?_))
 refine VC.cond _ rfl (fun h=>?_) (fun h=>?_)
 ·repeat' (first
   |(refine xw ?_)
   |(refine seqQ_r ?_)
   |(fail))
  refine fnQ_r rfl (Mem.le_refl _) (q_end ?_)
  have h:l-(xs.length:Int)<0:=by simpa using h
  rw[if_neg (by omega)]
 have hl:¬l-(xs.length:Int)<0:=by simpa using h
 repeat' (first
  |(refine vl_pure rfl ?_)
  |(refine vl_nil ?_)
  |(refine VC.seq ?_)
  |(refine VC.regV ?_)
  |(refine VC.block ?_)
  |(refine VC.skip ?_))
 refine VC.loop (α:=Nat×Int) (fun p=>[(0,.v (.slice aa xs.length ca)),(1,.v (.int .i64 p.2)),(5,.v (.int .i64 p.1))]) (fun k p M'=>k=xs.length-p.1∧p.1≤xs.length∧M'=M∧0≤p.2∧p.2=l-xs.length-pairsN ((xs.map (·.c)).take p.1))
  ⟨_,(0,_),M,⟨rfl,rfl,rfl,trivial⟩,Mem.le_refl _,rfl,Nat.zero_le _,rfl,by dsimp only;omega,by simp[pairsN]⟩ ?_
 rintro k ⟨i,l'⟩ M' ⟨rfl,hi,rfl,hp,hpre⟩
 dsimp only at hi hp hpre⊢
 repeat' (first
  |(refine vl_pure rfl ?_)
  |(refine vl_nil ?_)
  |(refine VC.seq ?_)
  |(refine VC.regV ?_)
  |(refine seqQ_n ?_))
 refine VC.cond _ rfl (fun h=>?_) (fun h=>?_)
 ·have hi:i<xs.length:=by simpa using h
  obtain⟨x,gx⟩:∃x,xs[i]?=some x:=⟨_,List.getElem?_eq_getElem hi⟩
  obtain⟨b1,o1,rfl,c1⟩:=ha.at2 (fun _=>rfl) gx
  have hnt:=pairsN_nonneg ((xs.map (·.c)).take i)
  have htk:=pairsN_take (cs:=xs.map (·.c)) (i:=i) (c:=x.c) (by rw[List.getElem?_map,gx];rfl)
  have hle:=pairsN_le (xs.map (·.c)) (i+1)
  repeat' (first
   |(refine vl_pure rfl ?_)
   |(refine vl_nil ?_)
   |(refine VC.seq ?_)
   |(refine VC.regV ?_)
   |(refine vl_idx rfl rfl (by omega) ?_)
   |(refine vl_lds rfl (by first|exact c1) ?_)
   |(refine vl_cq rfl (szCell_q (x:=x) (l:=l') hp (by omega) (hx _ (List.mem_of_getElem? gx))) ?_)
   |(refine VC.block ?_)
   |(refine VC.skip ?_)
   |(refine seqQ_n ?_))
  refine VC.cond _ rfl (fun h=>?_) (fun h=>?_)
  ·repeat' (first
    |(refine xw ?_)
    |(refine seqQ_r ?_)
    |(refine blkQ_r ?_)
    |(fail))
   refine fnQ_r rfl (Mem.le_refl _) (q_end ?_)
   by_cases hq:(x.c.pairs.length:Int)≤l'
   ·rw[if_pos hq]at h;simp at h;omega
   ·rw[if_neg (by omega)]
  ·by_cases hq:(x.c.pairs.length:Int)≤l'
   ·rw[if_pos hq]
    repeat' (first
     |(refine xw ?_)
     |(refine seqQ_n ?_)
     |(fail))
    refine⟨_,(i+1,_),_,?_,⟨rfl,rfl,rfl,trivial⟩,Mem.le_refl _,rfl,hi,rfl,?_,?_⟩
    ·dsimp only;omega
    ·dsimp only;omega
    ·dsimp only;omega
   ·rw[if_neg hq]at h;simp at h
 ·have hi:¬i<xs.length:=by simpa using h
  repeat' (first
   |(refine xw ?_)
   |(fail))
  refine fnQ_r rfl (Mem.le_refl _) (q_end ?_)
  have e:i=xs.length:=by omega
  rw[e,List.take_of_length_le (by simp)]at hpre
  rw[if_pos (by omega),hpre]
  congr 1;omega
theorem toWord_q{M:Mem}{a:Word}:Qt Tryz.prog 79 [wa a] M (wa a):=by
 refine fn79 (by simp) ?_
 repeat' (first
  |(refine xw ?_)
  |(fail))
 refine fnQ_r rfl (Mem.le_refl _) (q_end ?_)
 rfl
theorem toPair_q{M:Mem}{a:Pair}:Qt Tryz.prog 142 [pa a] M (pa a):=by
 refine fn142 (by simp) ?_
 repeat' (first
  |(refine xw ?_)
  |(refine vl_cq rfl (toWord_q (a:=a.key)) ?_)
  |(refine vl_cq rfl (toWord_q (a:=a.val)) ?_)
  |(fail))
 refine fnQ_r rfl (Mem.le_refl _) (q_end ?_)
 rfl
theorem toAct_q{M:Mem}{a:Act}:Qt Tryz.prog 17 [aa a] M (aa a):=by
 refine fn17 (by simp) ?_
 repeat' (first
  |(refine xw ?_)
  |(fail))
 refine fnQ_r rfl (Mem.le_refl _) (q_end ?_)
 rfl
def fillL{α:Type}(z:α)(xs:List α)(i:Nat):List α:=xs.take i++List.replicate (xs.length-i) z
theorem fillL_zero{α:Type}(z:α)(xs:List α):fillL z xs 0=List.replicate xs.length z:=by simp[fillL]
theorem fillL_all{α:Type}(z:α)(xs:List α){i:Nat}(h:xs.length≤i):fillL z xs i=xs:=by
 unfold fillL;rw[List.take_of_length_le h,show xs.length-i=0 by omega];simp
theorem fillL_get{α:Type}{z:α}{xs:List α}{i:Nat}(h:i<xs.length):(fillL z xs i)[i]?=some z:=by
 unfold fillL
 rw[List.getElem?_append_right (by simp;omega),List.length_take,Nat.min_eq_left (by omega),Nat.sub_self]
 obtain⟨n,hn⟩:∃n,xs.length-i=n+1:=⟨xs.length-i-1,by omega⟩
 rw[hn,List.replicate_succ,List.getElem?_cons_zero]
theorem fillL_set{α:Type}{z x:α}{xs:List α}{i:Nat}(h:xs[i]?=some x):(fillL z xs i).set i x=fillL z xs (i+1):=by
 have hi:=(List.getElem?_eq_some_iff.1 h).1
 unfold fillL
 rw[List.set_append_right _ _ (by simp;omega),List.take_add_one,h]
 simp only[List.length_take,Nat.min_eq_left (Nat.le_of_lt hi),Nat.sub_self]
 obtain⟨n,hn⟩:∃n,xs.length-i=n+1:=⟨xs.length-i-1,by omega⟩
 rw[hn,List.replicate_succ,List.set_cons_zero,show xs.length-(i+1)=n by omega]
 simp
theorem toWordS_f{M:Mem}{va:Value}{xs:List Word}(hn:xs.length≤1048576)(ha:SlR M 3 wv va xs):Fn Tryz.prog 40 [va] M (fun v M'=>∃b,M b=none∧Off M b M'∧own v=[b]∧Sl M' 3 wv v xs):=by
 obtain⟨aa,ca,ea⟩:=ha.len
 refine fn40 (by simp) ?_
 subst ea
 repeat' (first
  |(refine xw ?_)
  |(fail))
 refine vl_mks (f:=wv) ⟨0,0,0⟩ (fun _=>rfl) rfl rfl rfl (Nat.le_refl _) (by omega) (by omega) (fun b M1 hMb hoff hsl=>?_)
 rw[←fillL_zero]at hsl
 repeat' (first
  |(refine vl_pure rfl ?_)
  |(refine vl_nil ?_)
  |(refine VC.seq ?_)
  |(refine VC.regV ?_)
  |(refine VC.block ?_))
 refine VC.loop (α:=Nat) (fun i=>[(0,.v (.slice aa xs.length ca)),(3,.v (.slice (some ⟨b,0,none⟩) xs.length xs.length)),(4,.v (.int .i64 i))]) (fun k i M'=>k=xs.length-i∧i≤xs.length∧Off M b M'∧Sl M' 3 wv (.slice (some ⟨b,0,none⟩) xs.length xs.length) (fillL ⟨0,0,0⟩ xs i))
  ⟨_,0,_,⟨rfl,rfl,rfl,trivial⟩,Mem.le_refl _,rfl,Nat.zero_le _,hoff,hsl⟩ ?_
 rintro k i M2 ⟨rfl,hi,hoff,hsl⟩
 repeat' (first
  |(refine vl_pure rfl ?_)
  |(refine vl_nil ?_)
  |(refine VC.seq ?_)
  |(refine VC.regV ?_)
  |(refine seqQ_n ?_))
 refine VC.cond _ rfl (fun h=>?_) (fun h=>?_)
 ·have hi:i<xs.length:=by simpa using h
  obtain⟨x,gx⟩:∃x,xs[i]?=some x:=⟨_,List.getElem?_eq_getElem hi⟩
  obtain⟨b1,o1,rfl,h1⟩:=(ha.le (hoff.le hMb)).at2 (fun _=>rfl) gx
  repeat' (first
   |(refine vl_pure rfl ?_)
   |(refine VC.seq ?_)
   |(refine VC.regV ?_)
   |(refine vl_idx rfl rfl (by omega) ?_)
   |(refine vl_lds rfl (by first|exact h1) ?_)
   |(refine vl_cq rfl (toWord_q) ?_)
   |(refine VC.block ?_)
   |(refine VC.skip ?_))
  refine vl_sts x hsl (fun _=>rfl) (fillL_get hi) (i:=i) (j:=0) rfl rfl rfl rfl (Nat.le_of_ble_eq_true rfl) rfl (fun M3 o3 s3=>?_)
  rw[fillL_set gx]at s3
  repeat' (first
   |(refine xw ?_)
   |(refine seqQ_n ?_)
   |(fail))
  refine⟨_,i+1,_,?_,⟨rfl,rfl,rfl,trivial⟩,Mem.le_refl _,rfl,hi,hoff.trans o3,s3⟩
  omega
 ·have hi:¬i<xs.length:=by simpa using h
  repeat' (first
   |(refine xw ?_)
   |(fail))
  refine fnQ_r rfl (Mem.le_refl _) ⟨b,hMb,hoff,rfl,?_⟩
  rwa [fillL_all _ _ (by omega)]at hsl
theorem toPairS_f{M:Mem}{va:Value}{xs:List Pair}(hn:xs.length≤1048576)(ha:SlR M 6 pv va xs):Fn Tryz.prog 115 [va] M (fun v M'=>∃b,M b=none∧Off M b M'∧own v=[b]∧Sl M' 6 pv v xs):=by
 obtain⟨aa,ca,ea⟩:=ha.len
 refine fn115 (by simp) ?_
 subst ea
 repeat' (first
  |(refine xw ?_)
  |(fail))
 refine vl_mks (f:=pv) ⟨⟨0,0,0⟩,⟨0,0,0⟩⟩ (fun _=>rfl) rfl rfl rfl (Nat.le_refl _) (by omega) (by omega) (fun b M1 hMb hoff hsl=>?_)
 rw[←fillL_zero]at hsl
 repeat' (first
  |(refine vl_pure rfl ?_)
  |(refine vl_nil ?_)
  |(refine VC.seq ?_)
  |(refine VC.regV ?_)
  |(refine VC.block ?_))
 refine VC.loop (α:=Nat) (fun i=>[(0,.v (.slice aa xs.length ca)),(3,.v (.slice (some ⟨b,0,none⟩) xs.length xs.length)),(4,.v (.int .i64 i))]) (fun k i M'=>k=xs.length-i∧i≤xs.length∧Off M b M'∧Sl M' 6 pv (.slice (some ⟨b,0,none⟩) xs.length xs.length) (fillL ⟨⟨0,0,0⟩,⟨0,0,0⟩⟩ xs i))
  ⟨_,0,_,⟨rfl,rfl,rfl,trivial⟩,Mem.le_refl _,rfl,Nat.zero_le _,hoff,hsl⟩ ?_
 rintro k i M2 ⟨rfl,hi,hoff,hsl⟩
 repeat' (first
  |(refine vl_pure rfl ?_)
  |(refine vl_nil ?_)
  |(refine VC.seq ?_)
  |(refine VC.regV ?_)
  |(refine seqQ_n ?_))
 refine VC.cond _ rfl (fun h=>?_) (fun h=>?_)
 ·have hi:i<xs.length:=by simpa using h
  obtain⟨x,gx⟩:∃x,xs[i]?=some x:=⟨_,List.getElem?_eq_getElem hi⟩
  obtain⟨b1,o1,rfl,h1⟩:=(ha.le (hoff.le hMb)).at2 (fun _=>rfl) gx
  repeat' (first
   |(refine vl_pure rfl ?_)
   |(refine VC.seq ?_)
   |(refine VC.regV ?_)
   |(refine vl_idx rfl rfl (by omega) ?_)
   |(refine vl_lds rfl (by first|exact h1) ?_)
   |(refine vl_cq rfl (toPair_q) ?_)
   |(refine VC.block ?_)
   |(refine VC.skip ?_))
  refine vl_sts x hsl (fun _=>rfl) (fillL_get hi) (i:=i) (j:=0) rfl rfl rfl rfl (Nat.le_of_ble_eq_true rfl) rfl (fun M3 o3 s3=>?_)
  rw[fillL_set gx]at s3
  repeat' (first
   |(refine xw ?_)
   |(refine seqQ_n ?_)
   |(fail))
  refine⟨_,i+1,_,?_,⟨rfl,rfl,rfl,trivial⟩,Mem.le_refl _,rfl,hi,hoff.trans o3,s3⟩
  omega
 ·have hi:¬i<xs.length:=by simpa using h
  repeat' (first
   |(refine xw ?_)
   |(fail))
  refine fnQ_r rfl (Mem.le_refl _) ⟨b,hMb,hoff,rfl,?_⟩
  rwa [fillL_all _ _ (by omega)]at hsl
theorem toIntS_f{M:Mem}{va:Value}{xs:List Int}(hn:xs.length≤1048576)(ha:SlR M 1 iv va xs):Fn Tryz.prog 42 [va] M (fun v M'=>∃b,M b=none∧Off M b M'∧own v=[b]∧Sl M' 1 iv v xs):=by
 obtain⟨aa,ca,ea⟩:=ha.len
 refine fn42 (by simp) ?_
 subst ea
 repeat' (first
  |(refine xw ?_)
  |(fail))
 refine vl_mks (f:=iv) 0 (fun _=>rfl) rfl rfl rfl (Nat.le_refl _) (by omega) (by omega) (fun b M1 hMb hoff hsl=>?_)
 rw[←fillL_zero]at hsl
 repeat' (first
  |(refine vl_pure rfl ?_)
  |(refine vl_nil ?_)
  |(refine VC.seq ?_)
  |(refine VC.regV ?_)
  |(refine VC.block ?_))
 refine VC.loop (α:=Nat) (fun i=>[(0,.v (.slice aa xs.length ca)),(3,.v (.slice (some ⟨b,0,none⟩) xs.length xs.length)),(4,.v (.int .i64 i))]) (fun k i M'=>k=xs.length-i∧i≤xs.length∧Off M b M'∧Sl M' 1 iv (.slice (some ⟨b,0,none⟩) xs.length xs.length) (fillL 0 xs i))
  ⟨_,0,_,⟨rfl,rfl,rfl,trivial⟩,Mem.le_refl _,rfl,Nat.zero_le _,hoff,hsl⟩ ?_
 rintro k i M2 ⟨rfl,hi,hoff,hsl⟩
 repeat' (first
  |(refine vl_pure rfl ?_)
  |(refine vl_nil ?_)
  |(refine VC.seq ?_)
  |(refine VC.regV ?_)
  |(refine seqQ_n ?_))
 refine VC.cond _ rfl (fun h=>?_) (fun h=>?_)
 ·have hi:i<xs.length:=by simpa using h
  obtain⟨x,gx⟩:∃x,xs[i]?=some x:=⟨_,List.getElem?_eq_getElem hi⟩
  obtain⟨b1,o1,rfl,h1⟩:=(ha.le (hoff.le hMb)).at2 (fun _=>rfl) gx
  repeat' (first
   |(refine vl_pure rfl ?_)
   |(refine vl_ld rfl (by first|exact cells_cell h1 (j:=0) rfl) ?_)
   |(refine VC.seq ?_)
   |(refine VC.regV ?_)
   |(refine vl_idx rfl rfl (by omega) ?_)
   |(refine VC.block ?_)
   |(refine VC.skip ?_))
  refine vl_sts x hsl (fun _=>rfl) (fillL_get hi) (i:=i) (j:=0) rfl rfl rfl rfl (Nat.le_of_ble_eq_true rfl) rfl (fun M3 o3 s3=>?_)
  rw[fillL_set gx]at s3
  repeat' (first
   |(refine xw ?_)
   |(refine seqQ_n ?_)
   |(fail))
  refine⟨_,i+1,_,?_,⟨rfl,rfl,rfl,trivial⟩,Mem.le_refl _,rfl,hi,hoff.trans o3,s3⟩
  omega
 ·have hi:¬i<xs.length:=by simpa using h
  repeat' (first
   |(refine xw ?_)
   |(fail))
  refine fnQ_r rfl (Mem.le_refl _) ⟨b,hMb,hoff,rfl,?_⟩
  rwa [fillL_all _ _ (by omega)]at hsl
structure CL (M:Mem) (v:Value) (ys:List CS):Prop where
 sl:Sl M 8 csv v ys
 ps:∀y,y∈ys→Sl M 6 pv y.s y.c.pairs
def fpC(v:Value)(ys:List CS):List Nat:=own v++ys.flatMap fun y=>own y.s
structure HS where
 H:Heap
 rs:Value
 cs:Value
 gs:Value
 xs:List CS
def HS.v(x:HS):Value:=.agg (hv x.H x.rs x.cs x.gs).toArray
def HS.fp(x:HS):List Nat:=own x.rs++(fpC x.cs x.xs++own x.gs)
structure RHV (M:Mem) (x:HS):Prop where
 regs:Sl M 3 wv x.rs x.H.regs
 cl:CL M x.cs x.xs
 eq:x.xs.map (·.c)=x.H.cells
 gray:Sl M 1 iv x.gs x.H.gray
structure CLR (M:Mem) (v:Value) (ys:List CS):Prop where
 sl:SlR M 8 csv v ys
 ps:∀y,y∈ys→SlR M 6 pv y.s y.c.pairs
structure RHVR (M:Mem) (x:HS):Prop where
 regs:SlR M 3 wv x.rs x.H.regs
 cl:CLR M x.cs x.xs
 eq:x.xs.map (·.c)=x.H.cells
 gray:SlR M 1 iv x.gs x.H.gray
structure WHV (M:Mem) (x:HS):Prop where
 r:RHV M x
 nd:x.fp.Nodup
def OffL(M:Mem)(L:List Nat)(M':Mem):Prop:=∀b k,M b=some k→b∉L→M' b=some k
theorem Sl.own_some{M:Mem}{α:Type}{f:α→List Value}{size:Nat}{v:Value}{xs:List α}(h:Sl M size f v xs){c:Nat}(hc:c∈own v):M c≠none:=by
 rcases h with⟨c,rfl,_⟩|⟨b,o,cap,row,rfl,hM,_⟩
 ·simp[own]at hc
 ·simp[own]at hc;subst hc;rw[hM];simp
theorem Sl.offL{M M':Mem}{α:Type}{f:α→List Value}{size:Nat}{v:Value}{xs:List α}{L:List Nat}(h:Sl M size f v xs)(o:OffL M L M')(hb:∀b,b∈own v→b∉L):Sl M' size f v xs:=by
 rcases h with h|⟨b',o',cap,row,rfl,hM,h3⟩
 ·exact .inl h
 ·exact .inr ⟨b',o',cap,row,rfl,o _ _ hM (hb _ (by simp[own])),h3⟩
theorem CL.le{M M':Mem}{v:Value}{ys:List CS}(h:CL M v ys)(l:M.le M'):CL M' v ys:=⟨h.sl.le l,fun y hy=>(h.ps y hy).le l⟩
theorem CLR.le{M M':Mem}{v:Value}{ys:List CS}(h:CLR M v ys)(l:M.le M'):CLR M' v ys:=⟨h.sl.le l,fun y hy=>(h.ps y hy).le l⟩
theorem RHVR.le{M M':Mem}{x:HS}(h:RHVR M x)(l:M.le M'):RHVR M' x:=⟨h.regs.le l,h.cl.le l,h.eq,h.gray.le l⟩
theorem RHV.le{M M':Mem}{x:HS}(h:RHV M x)(l:M.le M'):RHV M' x:=⟨h.regs.le l,h.cl.le l,h.eq,h.gray.le l⟩
theorem WHV.le{M M':Mem}{x:HS}(h:WHV M x)(l:M.le M'):WHV M' x:=⟨h.r.le l,h.nd⟩
theorem RHV.offL{M M':Mem}{x:HS}{L:List Nat}(h:RHV M x)(o:OffL M L M')(hb:∀b,b∈x.fp→b∉L):RHV M' x where
 regs:=h.regs.offL o fun b m=>hb b (by simp[HS.fp,m])
 cl:=⟨h.cl.sl.offL o fun b m=>hb b (by simp[HS.fp,fpC,m]),fun y hy=>(h.cl.ps y hy).offL o fun b m=>hb b (by
  simp only[HS.fp,fpC,List.mem_append,List.mem_flatMap];exact .inr (.inl (.inr ⟨y,hy,m⟩)))⟩
 eq:=h.eq
 gray:=h.gray.offL o fun b m=>hb b (by simp[HS.fp,m])
theorem WHV.offL{M M':Mem}{x:HS}{L:List Nat}(h:WHV M x)(o:OffL M L M')(hb:∀b,b∈x.fp→b∉L):WHV M' x:=⟨h.r.offL o hb,h.nd⟩
theorem eqHeap_q{M:Mem}{x y:HS}(hx:RHV M x)(hy:RHV M y):Qt Tryz.prog 20 [x.v,y.v] M (.bool (decide (x.H=y.H))):=by
 refine fn20 (by simp) ?_
 repeat' (first
  |(refine xw ?_)
  |(refine vl_cq rfl (eqWordS_q hx.regs hy.regs) ?_)
  |(refine vl_cq rfl (eqCellS_q hx.cl.sl hy.cl.sl hx.cl.ps hy.cl.ps) ?_)
  |(refine vl_cq rfl (eqIntS_q hx.gray hy.gray) ?_)
  |(refine seqQ_n ?_)
  |(refine seqQ_r ?_)
  |(refine VC.cond _ rfl (fun hb=>?_) (fun hb=>?_))
  |(fail))
 all_goals (refine fnQ_r rfl (Mem.le_refl _) (q_end ?_))
 all_goals (obtain⟨⟨⟩,_,_,_,_⟩:=x;obtain⟨⟨⟩,_,_,_,_⟩:=y;have e1:=hx.eq;have e2:=hy.eq;simp_all)
def Heap.bulk(H:Heap):Int:=H.regs.length+(H.cells.length+pairsN H.cells)+H.gray.length
theorem szHeap_q{M:Mem}{x:HS}{l:Int}(h0:0≤l)(h1:l≤1048576)(hx:RHVR M x):Qt Tryz.prog 14 [x.v,.int .i64 l] M (.int .i64 (if x.H.bulk≤l then l-x.H.bulk else-1)):=by
 have hl:(x.xs.length:Int)=x.H.cells.length:=by rw[←hx.eq];simp
 have e:=hx.eq
 have hnn:=pairsN_nonneg x.H.cells
 unfold Heap.bulk
 refine fn14 (by simp) ?_
 by_cases g1:(x.H.regs.length:Int)≤l
 ·have q1:=szWordS_q h0 h1 hx.regs
  rw[if_pos g1]at q1
  have q2:=szCellS_q (l:=l-x.H.regs.length) (by omega) (by omega) hx.cl.sl hx.cl.ps
  rw[e,hl]at q2
  by_cases g2:(x.H.cells.length:Int)+pairsN x.H.cells≤l-x.H.regs.length
  ·rw[if_pos g2]at q2
   have q3:=szIntS_q (l:=l-x.H.regs.length-(x.H.cells.length+pairsN x.H.cells)) (by omega) (by omega) hx.gray
   repeat' (first
    |(refine xw ?_)
    |(refine vl_cq rfl (q1) ?_)
    |(refine vl_cq rfl (q2) ?_)
    |(refine vl_cq rfl (q3) ?_)
    |(refine seqQ_n ?_)
    |(refine seqQ_r ?_)
    |(refine VC.cond _ rfl (fun hb=>?_) (fun hb=>?_))
    |(fail))
   all_goals (refine fnQ_r rfl (Mem.le_refl _) (q_end ?_))
   all_goals simp only[decide_eq_true_eq,decide_eq_false_iff_not]at*
   ·omega
   ·omega
   ·by_cases g3:(x.H.gray.length:Int)≤l-x.H.regs.length-(x.H.cells.length+pairsN x.H.cells)
    ·rw[if_pos g3]at*;omega
    ·rw[if_neg (by omega)]
   ·by_cases g3:(x.H.gray.length:Int)≤l-x.H.regs.length-(x.H.cells.length+pairsN x.H.cells)
    ·rw[if_pos g3,if_pos (by omega)];congr 1;omega
    ·rw[if_neg g3]at*;omega
  ·rw[if_neg g2]at q2
   repeat' (first
    |(refine xw ?_)
    |(refine vl_cq rfl (q1) ?_)
    |(refine vl_cq rfl (q2) ?_)
    |(exact absurd hb (by decide))
    |(refine seqQ_n ?_)
    |(refine seqQ_r ?_)
    |(refine VC.cond _ rfl (fun hb=>?_) (fun hb=>?_))
    |(fail))
   all_goals (refine fnQ_r rfl (Mem.le_refl _) (q_end ?_))
   all_goals simp only[decide_eq_true_eq,decide_eq_false_iff_not]at*
   ·omega
   ·rw[if_neg (by omega)]
 ·have q1:=szWordS_q h0 h1 hx.regs
  rw[if_neg g1]at q1
  repeat' (first
   |(refine xw ?_)
   |(refine vl_cq rfl (q1) ?_)
   |(exact absurd hb (by decide))
   |(refine seqQ_n ?_)
   |(refine seqQ_r ?_)
   |(refine VC.cond _ rfl (fun hb=>?_) (fun hb=>?_))
   |(fail))
  all_goals (refine fnQ_r rfl (Mem.le_refl _) (q_end ?_))
  rw[if_neg (by omega)]
theorem toCell_f{M:Mem}{x:CS}(hn:x.c.pairs.length≤1048576)(ha:SlR M 6 pv x.s x.c.pairs):Fn Tryz.prog 80 [ca x] M (fun v M'=>∃b y,v=ca y∧y.c=x.c∧M b=none∧Off M b M'∧own y.s=[b]∧Sl M' 6 pv y.s y.c.pairs):=by
 refine fn80 (by simp) ?_
 repeat' (first
  |(refine xw ?_)
  |(fail))
 refine vl_c rfl (toPairS_f hn ha) (fun v M1 hq=>?_)
 obtain⟨b,hb,ho,hw,hs⟩:=hq
 obtain⟨sa,cap,rfl⟩:=hs.len
 repeat' (first
  |(refine xw ?_)
  |(fail))
 exact fnQ_r rfl (Mem.le_refl _) ⟨b,⟨x.c,sa,cap⟩,rfl,rfl,hb,ho,hw,hs⟩
theorem grow_get{α:Type}{z:α}{ys:List α}{n i:Nat}(hl:ys.length=i)(hi:i<n):(ys++List.replicate (n-i) z)[i]?=some z:=by
 subst hl
 rw[List.getElem?_append_right (Nat.le_refl _),Nat.sub_self]
 obtain⟨m,hm⟩:∃m,n-ys.length=m+1:=⟨n-ys.length-1,by omega⟩
 rw[hm,List.replicate_succ,List.getElem?_cons_zero]
theorem grow_set{α:Type}{z y:α}{ys:List α}{n i:Nat}(hl:ys.length=i)(hi:i<n):(ys++List.replicate (n-i) z).set i y=(ys++[y])++List.replicate (n-(i+1)) z:=by
 subst hl
 rw[List.set_append_right _ _ (Nat.le_refl _),Nat.sub_self]
 obtain⟨m,hm⟩:∃m,n-ys.length=m+1:=⟨n-ys.length-1,by omega⟩
 rw[hm,List.replicate_succ,List.set_cons_zero,show n-(ys.length+1)=m by omega]
 simp
def zCS:CS:=⟨⟨0,0,0,0,0,0,0,[]⟩,none,0⟩
theorem toCellS_f{M:Mem}{va:Value}{xs:List CS}(hn:xs.length≤1048576)(hp:∀x,x∈xs→x.c.pairs.length≤1048576)(ha:CLR M va xs):
 Fn Tryz.prog 41 [va] M (fun v M'=>∃ys:List CS,ys.map (·.c)=xs.map (·.c)∧CL M' v ys∧(fpC v ys).Nodup∧(∀b,b∈fpC v ys→M b=none)∧M.le M'):=by
 obtain⟨aa,ca,ea⟩:=ha.sl.len
 refine fn41 (by simp) ?_
 subst ea
 repeat' (first
  |(refine xw ?_)
  |(fail))
 refine vl_mks (f:=csv) zCS (fun _=>rfl) rfl rfl rfl (Nat.le_refl _) (by omega) (by omega) (fun b M1 hMb hoff hsl=>?_)
 repeat' (first
  |(refine vl_pure rfl ?_)
  |(refine vl_nil ?_)
  |(refine VC.seq ?_)
  |(refine VC.regV ?_)
  |(refine VC.block ?_))
 refine VC.loop (α:=Nat) (fun i=>[(0,.v (.slice aa xs.length ca)),(3,.v (.slice (some ⟨b,0,none⟩) xs.length xs.length)),(4,.v (.int .i64 i))])
  (fun k i M'=>k=xs.length-i∧i≤xs.length∧M.le M'∧∃ys:List CS,ys.length=i∧ys.map (·.c)=(xs.map (·.c)).take i∧Sl M' 8 csv (.slice (some ⟨b,0,none⟩) xs.length xs.length) (ys++List.replicate (xs.length-i) zCS)∧
    (b::ys.flatMap fun y=>own y.s).Nodup∧(∀c,c∈(ys.flatMap fun y=>own y.s)→M c=none)∧∀y,y∈ys→Sl M' 6 pv y.s y.c.pairs)
  ⟨_,0,_,⟨rfl,rfl,rfl,trivial⟩,Mem.le_refl _,rfl,Nat.zero_le _,hoff.le hMb,[],rfl,rfl,hsl,by simp,by simp,by simp⟩ ?_
 rintro k i M2 ⟨rfl,hi,hle,ys,hyl,hyc,hsl,hnd,hfr,hps⟩
 repeat' (first
  |(refine vl_pure rfl ?_)
  |(refine vl_nil ?_)
  |(refine VC.seq ?_)
  |(refine VC.regV ?_)
  |(refine seqQ_n ?_))
 refine VC.cond _ rfl (fun h=>?_) (fun h=>?_)
 ·have hi:i<xs.length:=by simpa using h
  obtain⟨x,gx⟩:∃x,xs[i]?=some x:=⟨_,List.getElem?_eq_getElem hi⟩
  have hxm:=List.mem_of_getElem? gx
  obtain⟨b1,o1,rfl,h1⟩:=(ha.sl.le hle).at2 (fun _=>rfl) gx
  repeat' (first
   |(refine vl_pure rfl ?_)
   |(refine VC.seq ?_)
   |(refine VC.regV ?_)
   |(refine vl_idx rfl rfl (by omega) ?_)
   |(refine vl_lds rfl (by first|exact h1) ?_)
   |(refine VC.block ?_)
   |(refine VC.skip ?_))
  refine vl_c rfl (toCell_f (hp x hxm) ((ha.ps x hxm).le hle)) (fun v M3 hq=>?_)
  obtain⟨b',y,rfl,hyx,hb',ho',hw',hs'⟩:=hq
  repeat' (first
   |(refine vl_idx rfl rfl (by omega) ?_))
  have hs3:=hsl.le (ho'.le hb')
  refine vl_sts y hs3 (fun _=>rfl) (grow_get hyl hi) (i:=i) (j:=0) rfl rfl rfl rfl (Nat.le_of_ble_eq_true rfl) rfl (fun M4 o4 s4=>?_)
  rw[grow_set hyl hi]at s4
  have hMb2:M2 b≠none:=hsl.own_some (by simp[own])
  have hbb:b'≠b:=fun e=>hMb2 (by rw[←e];exact hb')
  have hold:∀c,c∈(ys.flatMap fun y=>own y.s)→M2 c≠none:=by
   intro c hc
   obtain⟨y',hy',hc'⟩:=List.mem_flatMap.1 hc
   exact(hps y' hy').own_some hc'
  repeat' (first
   |(refine xw ?_)
   |(refine seqQ_n ?_)
   |(fail))
  refine⟨_,i+1,_,?_,⟨rfl,rfl,rfl,trivial⟩,Mem.le_refl _,rfl,hi,?_,ys++[y],by simp[hyl],?_,s4,?_,?_,?_⟩
  ·omega
  ·exact o4.keep (Mem.le_trans hle (ho'.le hb')) hMb
  ·rw[List.map_append,hyc,List.take_add_one,List.getElem?_map,gx];simp[hyx]
  ·rw[List.flatMap_append,←List.cons_append]
   refine List.nodup_append.2 ⟨hnd,by simp[hw'],?_⟩
   intro c hc d hd e
   simp only[List.flatMap_cons,List.flatMap_nil,List.append_nil,hw',List.mem_singleton]at hd
   subst hd;subst e
   rcases List.mem_cons.1 hc with e|hc
   ·exact hbb e
   ·exact hold _ hc hb'
  ·intro c hc
   rw[List.flatMap_append,List.mem_append]at hc
   rcases hc with hc|hc
   ·exact hfr c hc
   ·simp only[List.flatMap_cons,List.flatMap_nil,List.append_nil,hw',List.mem_singleton]at hc
    subst hc;exact none_of_le hle hb'
  ·intro y' hy'
   rcases List.mem_append.1 hy' with hy'|hy'
   ·refine((hps y' hy').le (ho'.le hb')).off o4 fun hm=>?_
    exact(List.nodup_cons.1 hnd).1 (List.mem_flatMap.2 ⟨y',hy',hm⟩)
   ·simp only[List.mem_singleton]at hy'
    subst hy'
    exact hs'.off o4 (by rw[hw'];simpa using hbb.symm)
 ·have hi:¬i<xs.length:=by simpa using h
  have e:i=xs.length:=by omega
  subst e
  repeat' (first
   |(refine xw ?_)
   |(fail))
  rw[Nat.sub_self,List.replicate_zero,List.append_nil]at hsl
  rw[List.take_of_length_le (by simp)]at hyc
  refine fnQ_r rfl (Mem.le_refl _) ⟨ys,hyc,⟨hsl,hps⟩,hnd,?_,hle⟩
  intro c hc
  rcases List.mem_cons.1 hc with e|hc
  ·subst e;exact hMb
  ·exact hfr c hc
theorem pairs_bulk{cs:List Cell}{c:Cell}(h:c∈cs):(c.pairs.length:Int)≤pairsN cs:=by
 induction cs with
 |nil=>cases h
 |cons d r ih=>
  have e:pairsN (d::r)=d.pairs.length+pairsN r:=by simp[pairsN]
  have:=pairsN_nonneg r
  rcases List.mem_cons.1 h with rfl|h
  ·omega
  ·have:=ih h;omega
theorem toHeap_f{M:Mem}{x:HS}(hb:x.H.bulk≤1048576)(hx:RHVR M x):
 Fn Tryz.prog 16 [x.v] M (fun v M'=>∃y:HS,v=y.v∧y.H=x.H∧WHV M' y∧(∀b,b∈y.fp→M b=none)∧M.le M'):=by
 have hl:x.xs.length=x.H.cells.length:=by rw[←hx.eq];simp
 have hnn:=pairsN_nonneg x.H.cells
 unfold Heap.bulk at hb
 refine fn16 (by simp) ?_
 repeat' (first
  |(refine xw ?_)
  |(fail))
 refine vl_c rfl (toWordS_f (by omega) hx.regs) (fun v M1 hq=>?_)
 obtain⟨b1,hb1,ho1,hw1,hs1⟩:=hq
 obtain⟨sa1,cap1,rfl⟩:=hs1.len
 repeat' (first
  |(refine xw ?_)
  |(fail))
 have hx1:=hx.le (ho1.le hb1)
 refine vl_c rfl (toCellS_f (by omega) (fun y hy=>?_) hx1.cl) (fun v M2 hq=>?_)
 ·have:=pairs_bulk (cs:=x.H.cells) (c:=y.c) (by rw[←hx.eq];exact List.mem_map_of_mem hy)
  omega
 obtain⟨ys,hyc,hcl,hnd,hfr,hle⟩:=hq
 obtain⟨sa2,cap2,rfl⟩:=hcl.sl.len
 repeat' (first
  |(refine xw ?_)
  |(fail))
 have hx2:=hx1.le hle
 refine vl_c rfl (toIntS_f (by omega) hx2.gray) (fun v M3 hq=>?_)
 obtain⟨b3,hb3,ho3,hw3,hs3⟩:=hq
 obtain⟨sa3,cap3,rfl⟩:=hs3.len
 repeat' (first
  |(refine xw ?_)
  |(fail))
 refine fnQ_r rfl (Mem.le_refl _) ⟨⟨x.H,.slice sa1 x.H.regs.length cap1,.slice sa2 ys.length cap2,.slice sa3 x.H.gray.length cap3,ys⟩,rfl,rfl,⟨⟨(hs1.le hle).le (ho3.le hb3),hcl.le (ho3.le hb3),?_,hs3⟩,?_⟩,?_,Mem.le_trans (Mem.le_trans (ho1.le hb1) hle) (ho3.le hb3)⟩
 ·rw[hyc,hx.eq]
 ·simp only[HS.fp,hw1,hw3]
  have h2:∀b,b∈fpC (.slice sa2 ys.length cap2) ys→M2 b≠none:=by
   intro b hb
   simp only[fpC,List.mem_append,List.mem_flatMap]at hb
   rcases hb with hb|⟨y,hy,hb⟩
   ·exact hcl.sl.own_some hb
   ·exact(hcl.ps y hy).own_some hb
  have h1:M1 b1≠none:=hs1.own_some (by rw[hw1];simp)
  refine List.nodup_append.2 ⟨by simp,List.nodup_append.2 ⟨hnd,by simp,?_⟩,?_⟩
  ·intro c hc d hd e
   simp only[List.mem_singleton]at hd
   subst hd;subst e
   exact h2 _ hc hb3
  ·intro c hc d hd e
   simp only[List.mem_singleton]at hc
   subst hc;subst e
   rcases List.mem_append.1 hd with hd|hd
   ·exact h1 (hfr _ hd)
   ·simp only[List.mem_singleton]at hd
    subst hd
    exact h1 (none_of_le hle hb3)
 ·intro b hb
  simp only[HS.fp,hw1,hw3,List.mem_append,List.mem_singleton]at hb
  rcases hb with rfl|hb|rfl
  ·exact hb1
  ·exact none_of_le (ho1.le hb1) (hfr b hb)
  ·exact none_of_le (ho1.le hb1) (none_of_le hle hb3)
end Go.Proofs.YtpleoapljeffiaaGreatDoor.E
namespace Go.Proofs.YtpleoapljeffiaaGreatDoor.E
open Go Go.ChangeShapes Go.WideShapes Go.ChangeAt Go.RowKit
instance:Inhabited Word:=⟨⟨0,0,0⟩⟩
instance:Inhabited Pair:=⟨⟨default,default⟩⟩
instance:Inhabited CS:=⟨⟨⟨0,0,0,0,0,0,0,[]⟩,none,0⟩⟩
theorem und_word:Tryz.prog.underlying 113=some (.struct (fsOf Tryz.prog 113)):=by kernel_rfl
theorem fs_word:(fsOf Tryz.prog 113).toList.map (fun f=>(f.type,f.offset))=[(3,0),(2,1),(3,2)]:=by kernel_rfl
theorem cof_word:Tryz.prog.cellsOf 113=3:=by kernel_rfl
theorem und_pair:Tryz.prog.underlying 151=some (.struct (fsOf Tryz.prog 151)):=by kernel_rfl
theorem fs_pair:(fsOf Tryz.prog 151).toList.map (fun f=>(f.type,f.offset))=[(113,0),(113,3)]:=by kernel_rfl
theorem cof_pair:Tryz.prog.cellsOf 151=6:=by kernel_rfl
theorem und_cell:Tryz.prog.underlying 105=some (.struct (fsOf Tryz.prog 105)):=by kernel_rfl
theorem fs_cell:(fsOf Tryz.prog 105).toList.map (fun f=>(f.type,f.offset))=[(3,0),(3,1),(3,2),(3,3),(3,4),(3,5),(3,6),(103,7)]:=by kernel_rfl
theorem cof_cell:Tryz.prog.cellsOf 105=8:=by kernel_rfl
theorem und_heap:Tryz.prog.underlying 43=some (.struct (fsOf Tryz.prog 43)):=by kernel_rfl
theorem fs_heap:(fsOf Tryz.prog 43).toList.map (fun f=>(f.type,f.offset))=[(3,0),(3,1),(3,2),(40,3),(41,4),(3,5),(3,6),(3,7),(27,8),(3,9),(3,10),(3,11),(3,12)]:=by kernel_rfl
theorem cof_heap:Tryz.prog.cellsOf 43=13:=by kernel_rfl
theorem und_words:Tryz.prog.underlying 40=some (.slice 113):=by kernel_rfl
theorem und_pairs:Tryz.prog.underlying 103=some (.slice 151):=by kernel_rfl
theorem und_cells:Tryz.prog.underlying 41=some (.slice 105):=by kernel_rfl
theorem und_ints:Tryz.prog.underlying 27=some (.slice 3):=by kernel_rfl
theorem cof_words:Tryz.prog.cellsOf 40=1:=by kernel_rfl
theorem cof_pairs:Tryz.prog.cellsOf 103=1:=by kernel_rfl
theorem cof_cells:Tryz.prog.cellsOf 41=1:=by kernel_rfl
theorem cof_ints:Tryz.prog.cellsOf 27=1:=by kernel_rfl
section
variable {H:Type} {enc:TypeId×Value→H} {W:World} {spare:Nat→Bool} {held:Bool}
theorem open_word:∀n cs y,DataW.trod enc Tryz.prog W 0 spare held n 113 cs=some y→∃x:Word,cs=wv x∧True:=by
 intro n cs y h
 obtain⟨hl,m,hf⟩:=open_struct und_word fs_word h
 rw[cof_word]at hl
 obtain⟨_,h0⟩:=hf 0 _ _ rfl
 obtain⟨_,h1⟩:=hf 1 _ _ rfl
 obtain⟨_,h2⟩:=hf 2 _ _ rfl
 obtain⟨a,ha⟩:=open_i h0
 obtain⟨b,hb⟩:=open_i64 h1
 obtain⟨c,hc⟩:=open_i h2
 refine⟨⟨a,b,c⟩,?_,trivial⟩
 match cs,hl with
 |[v0,v1,v2],_=>
  simp at ha hb hc
  subst ha;subst hb;subst hc;rfl
theorem open_pair:∀n cs y,DataW.trod enc Tryz.prog W 0 spare held n 151 cs=some y→∃x:Pair,cs=pv x∧True:=by
 intro n cs y h
 obtain⟨hl,m,hf⟩:=open_struct und_pair fs_pair h
 rw[cof_pair]at hl
 obtain⟨_,h0⟩:=hf 0 _ _ rfl
 obtain⟨_,h1⟩:=hf 1 _ _ rfl
 rw[cof_word]at h0 h1
 obtain⟨a,ha,_⟩:=open_word _ _ _ h0
 obtain⟨b,hb,_⟩:=open_word _ _ _ h1
 refine⟨⟨a,b⟩,?_,trivial⟩
 match cs,hl with
 |[v0,v1,v2,v3,v4,v5],_=>
  simp[wv]at ha hb
  obtain⟨rfl,rfl,rfl⟩:=ha
  obtain⟨rfl,rfl,rfl⟩:=hb
  rfl
theorem open_int1:∀n cs y,DataW.trod enc Tryz.prog W 0 spare held n 3 cs=some y→∃x:Int,cs=iv x∧True:=by
 intro n cs y h
 obtain⟨k,e,_⟩:=DataW.trod_int und_int h
 exact⟨k,e,trivial⟩
theorem open_cell:∀n cs y,DataW.trod enc Tryz.prog W 0 spare held n 105 cs=some y→∃x:CS,cs=csv x∧SlR (memOf W) 6 pv x.s x.c.pairs:=by
 intro n cs y h
 obtain⟨hl,m,hf⟩:=open_struct und_cell fs_cell h
 rw[cof_cell]at hl
 obtain⟨_,h0⟩:=hf 0 _ _ rfl
 obtain⟨_,h1⟩:=hf 1 _ _ rfl
 obtain⟨_,h2⟩:=hf 2 _ _ rfl
 obtain⟨_,h3⟩:=hf 3 _ _ rfl
 obtain⟨_,h4⟩:=hf 4 _ _ rfl
 obtain⟨_,h5⟩:=hf 5 _ _ rfl
 obtain⟨_,h6⟩:=hf 6 _ _ rfl
 obtain⟨_,h7⟩:=hf 7 _ _ rfl
 obtain⟨a0,e0⟩:=open_i h0
 obtain⟨a1,e1⟩:=open_i h1
 obtain⟨a2,e2⟩:=open_i h2
 obtain⟨a3,e3⟩:=open_i h3
 obtain⟨a4,e4⟩:=open_i h4
 obtain⟨a5,e5⟩:=open_i h5
 obtain⟨a6,e6⟩:=open_i h6
 rw[cof_pairs]at h7
 obtain⟨v,ps,e7,hs,_⟩:=open_sl (f:=pv) (Q:=fun _=>True) (fun _=>rfl) (by omega) und_pairs cof_pair open_pair h7
 obtain⟨sa,cap,rfl⟩:=hs.len
 have e7:=take_one e7
 refine⟨⟨⟨a0,a1,a2,a3,a4,a5,a6,ps⟩,sa,cap⟩,?_,hs⟩
 match cs,hl with
 |[v0,v1,v2,v3,v4,v5,v6,v7],_=>
  simp at e0 e1 e2 e3 e4 e5 e6 e7
  subst e0;subst e1;subst e2;subst e3;subst e4;subst e5;subst e6;subst e7;rfl
theorem open_heap{n:Nat}{cs:List Value}{y:DataW H×List MemPlace}(h:DataW.trod enc Tryz.prog W 0 spare held n 43 cs=some y):∃x:HS,cs=hv x.H x.rs x.cs x.gs∧RHVR (memOf W) x:=by
 obtain⟨hl,m,hf⟩:=open_struct und_heap fs_heap h
 rw[cof_heap]at hl
 obtain⟨_,h0⟩:=hf 0 _ _ rfl
 obtain⟨_,h1⟩:=hf 1 _ _ rfl
 obtain⟨_,h2⟩:=hf 2 _ _ rfl
 obtain⟨_,h3⟩:=hf 3 _ _ rfl
 obtain⟨_,h4⟩:=hf 4 _ _ rfl
 obtain⟨_,h5⟩:=hf 5 _ _ rfl
 obtain⟨_,h6⟩:=hf 6 _ _ rfl
 obtain⟨_,h7⟩:=hf 7 _ _ rfl
 obtain⟨_,h8⟩:=hf 8 _ _ rfl
 obtain⟨_,h9⟩:=hf 9 _ _ rfl
 obtain⟨_,h10⟩:=hf 10 _ _ rfl
 obtain⟨_,h11⟩:=hf 11 _ _ rfl
 obtain⟨_,h12⟩:=hf 12 _ _ rfl
 obtain⟨a0,e0⟩:=open_i h0
 obtain⟨a1,e1⟩:=open_i h1
 obtain⟨a2,e2⟩:=open_i h2
 rw[cof_words]at h3
 obtain⟨rv,rs,e3,hs3,_⟩:=open_sl (f:=wv) (Q:=fun _=>True) (fun _=>rfl) (by omega) und_words cof_word open_word h3
 rw[cof_cells]at h4
 obtain⟨cv',ys,e4,hs4,hq4⟩:=open_sl (f:=csv) (size:=8) (Q:=fun x:CS=>SlR (memOf W) 6 pv x.s x.c.pairs) (fun _=>rfl) (by omega) und_cells cof_cell open_cell h4
 obtain⟨a5,e5⟩:=open_i h5
 obtain⟨a6,e6⟩:=open_i h6
 obtain⟨a7,e7⟩:=open_i h7
 rw[cof_ints]at h8
 obtain⟨gv,gs,e8,hs8,_⟩:=open_sl (f:=iv) (size:=1) (Q:=fun _=>True) (fun _=>rfl) (by omega) und_ints cof_int open_int1 h8
 obtain⟨a9,e9⟩:=open_i h9
 obtain⟨a10,e10⟩:=open_i h10
 obtain⟨a11,e11⟩:=open_i h11
 obtain⟨a12,e12⟩:=open_i h12
 have e3:=take_one e3
 have e4:=take_one e4
 have e8:=take_one e8
 refine⟨⟨⟨a0,a1,a2,rs,ys.map (·.c),a5,a6,a7,gs,a9,a10,a11,a12⟩,rv,cv',gv,ys⟩,?_,⟨hs3,⟨hs4,hq4⟩,rfl,hs8⟩⟩
 match cs,hl with
 |[v0,v1,v2,v3,v4,v5,v6,v7,v8,v9,v10,v11,v12],_=>
  simp at e0 e1 e2 e3 e4 e5 e6 e7 e8 e9 e10 e11 e12
  subst e0;subst e1;subst e2;subst e3;subst e4;subst e5;subst e6;subst e7;subst e8;subst e9;subst e10;subst e11;subst e12;rfl
end
section
variable {H:Type} {enc:TypeId×Value→H} {P:Program} {W:World} {spare:Nat→Bool} {held:Bool}
theorem open_slD{α:Type}[Inhabited α]{f:α→List Value}{size:Nat}{R:DataW H→α→Prop}{t e:TypeId}{fuel:Nat}{cs:List Value}{ds sp:List (DataW H)}{pl:List MemPlace}(hs:∀x,(f x).length=size)(hs0:0<size)
 (ht:P.underlying t=some (.slice e)) (hc:P.cellsOf e=size) (he:∀n cs y,DataW.trod enc P W 0 spare held n e cs=some y→∃x,cs=f x∧R y.1 x)
 (h:DataW.trod enc P W 0 spare held fuel t cs=some (.slice ds sp,pl)):∃v xs,cs=[v]∧SlR (memOf W) size f v xs∧xs.length=ds.length∧∀(i:Nat) d y,ds[i]?=some d→xs[i]?=some y→R d y:=by
 rcases Deep.open_slice ht h with⟨rfl,h0⟩|⟨a,len,cap,m,n,D,Pl,rfl,_,hlc,hcm,hm,hx,hel⟩
 ·cases h0
 ·simp only[Prod.mk.injEq,DataW.slice.injEq]at hx
  obtain⟨⟨hds,_⟩,_⟩:=hx
  have hlm:len≤m:=by rw[hm];split<;>omega
  obtain⟨X,hX⟩:=Deep.choose_lt (n:=len) (p:=fun i y=>W.cells? 0 (a.add (i*size)) size=some (f y)∧R (D i) y) (fun i hi=>by
   obtain⟨cs',h1,h2⟩:=hel i (by omega)
   obtain⟨y,rfl,hq⟩:=he _ _ _ h2
   rw[hc]at h1
   exact⟨y,h1,hq⟩)
  refine⟨_,(List.range len).map X,rfl,?_,by rw[hds];simp,?_⟩
  ·by_cases h0:len=0
   ·subst h0;exact .inl ⟨_,_,rfl,rfl⟩
   ·obtain⟨c,u,fr,hsp,hh,_,_⟩:=cells_heap (hX 0 (by omega)).1 hs0
    have e0:a.add (0*size)=a:=by unfold Addr.add;simp
    rw[e0]at hsp hh
    have ea:a=⟨a.block,a.off,none⟩:=by cases a;simp only at hsp;subst hsp;rfl
    have hcell:∀i,i<len→∀j,j<size→c.toList[a.off+i*size+j]?=(f (X i))[j]?∧a.off+i*size+j<c.size:=by
     intro i hi j hj
     obtain⟨c',u',fr',hsp',hh',_,hj'⟩:=cells_heap (hX i hi).1 hs0
     have e1:a.add (i*size)=⟨a.block,a.off+i*size,none⟩:=by rw[ea];exact add_none _ _ _
     rw[e1]at hh' hj'
     rw[hh]at hh'
     cases hh'
     obtain⟨k1,k2⟩:=hj' j hj
     exact⟨by rw[Array.getElem?_toList];exact k1,k2⟩
    have hlast:=(hcell (len-1) (by omega) (size-1) (by omega)).2
    have hml:(len-1)*size+size=len*size:=by rw[←Nat.succ_mul];congr 1;omega
    refine .inr ⟨a.block,a.off,cap,c.toList,?_,.inr ⟨u,fr,memOf_cells hh⟩,?_,?_,?_⟩
    ·rw[←ea];simp
    ·simp;simp[maxLen]at hcm;omega
    ·simp only[List.length_map,List.length_range,Array.length_toList];omega
    ·simp only[List.length_map,List.length_range]
     exact flat_of hs _ _ X len (fun i hi j hj=>(hcell i hi j hj).1)
  ·intro i d y hd hy
   rw[hds,List.getElem?_map]at hd
   rw[List.getElem?_map]at hy
   cases hr:(List.range len)[i]? with
   |none=>rw[hr]at hd;cases hd
   |some k=>
    rw[hr]at hd hy
    simp only[Option.map_some,Option.some.injEq]at hd hy
    subst hd;subst hy
    have:k<len:=List.mem_range.1 (List.mem_of_getElem? hr)
    exact(hX k this).2
end
structure Form where
 nm:ByteArray
 a:Int
 b:Int
 c:Int
 n:Bool
instance:Inhabited Form:=⟨⟨⟨#[]⟩,0,0,0,false⟩⟩
def fmV(f:Form):List Value:=[.string f.nm,.int .i64 f.a,.int .i64 f.b,.int .i64 f.c,.bool f.n]
def fmD{H:Type}(f:Form):DataW H:=.agg [.lit (.string f.nm.data.toList),.lit (.int .i64 f.a),.lit (.int .i64 f.b),.lit (.int .i64 f.c),.lit (.bool f.n)]
theorem und_form:Tryz.prog.underlying 137=some (.struct (fsOf Tryz.prog 137)):=by kernel_rfl
theorem fs_form:(fsOf Tryz.prog 137).toList.map (fun f=>(f.type,f.offset))=[(9,0),(3,1),(3,2),(3,3),(4,4)]:=by kernel_rfl
theorem und_forms:Tryz.prog.underlying 138=some (.slice 137):=by kernel_rfl
theorem cof_form:Tryz.prog.cellsOf 137=5:=by kernel_rfl
theorem fund_int:Tryz.prog.underlying 3=some (.int .i64):=by kernel_rfl
theorem fund_str:Tryz.prog.underlying 9=some .string:=by kernel_rfl
theorem fund_bool:Tryz.prog.underlying 4=some .bool:=by kernel_rfl
theorem fcof_int:Tryz.prog.cellsOf 3=1:=by kernel_rfl
theorem fcof_str:Tryz.prog.cellsOf 9=1:=by kernel_rfl
theorem fcof_bool:Tryz.prog.cellsOf 4=1:=by kernel_rfl
section
variable {H:Type} {enc:TypeId×Value→H} {W:World} {spare:Nat→Bool} {held:Bool}
theorem open_form:∀n cs y,DataW.trod enc Tryz.prog W 0 spare held n 137 cs=some y→∃x,cs=fmV x∧y.1=fmD x:=by
 intro n cs y h
 obtain⟨xs,k,_,rfl,hl,hlen,hf⟩:=DataW.trod_struct und_form h
 have hfs:=fs_form
 have hget:∀(i:Nat) u o,[(9,0),(3,1),(3,2),(3,3),(4,4)][i]?=some (u,o)→DataW.trod enc Tryz.prog W 0 spare held k u ((cs.drop o).take (Tryz.prog.cellsOf u))=xs[i]?:=fun i u o hi=>by
  rw[←hfs,List.getElem?_map]at hi
  cases hg:(fsOf Tryz.prog 137).toList[i]? with
  |none=>rw[hg]at hi;cases hi
  |some f=>
   rw[hg]at hi
   simp only[Option.map_some,Option.some.injEq,Prod.mk.injEq]at hi
   obtain⟨rfl,rfl⟩:=hi
   exact hf i f (by rw[←Array.getElem?_toList];exact hg)
 have hx5:xs.length=5:=by
  rw[hlen,←Array.length_toList]
  have:=congrArg List.length hfs
  rw[List.length_map]at this;exact this
 match xs,hx5,hget with
 |[x0,x1,x2,x3,x4],_,hget=>
  obtain⟨s,a0,b0,_⟩:=DataW.trod_string fund_str (hget 0 _ _ rfl)
  obtain⟨i1,a1,b1,_⟩:=DataW.trod_int fund_int (hget 1 _ _ rfl)
  obtain⟨i2,a2,b2,_⟩:=DataW.trod_int fund_int (hget 2 _ _ rfl)
  obtain⟨i3,a3,b3,_⟩:=DataW.trod_int fund_int (hget 3 _ _ rfl)
  obtain⟨b4,a4,c4⟩:=DataW.trod_bool fund_bool (hget 4 _ _ rfl)
  rw[fcof_str]at a0
  rw[fcof_int]at a1 a2 a3
  rw[fcof_bool]at a4
  have e0:=take_one a0
  have e1:=take_one a1
  have e2:=take_one a2
  have e3:=take_one a3
  have e4:=take_one a4
  refine⟨⟨s,i1,i2,i3,b4⟩,?_,by subst b0;subst b1;subst b2;subst b3;subst c4;rfl⟩
  have hl5:cs.length=5:=by rw[hl];exact cof_form
  match cs,hl5,e0,e1,e2,e3,e4 with
  |[v0,v1,v2,v3,v4],_,e0,e1,e2,e3,e4=>
   simp only[List.getElem?_cons_zero,List.getElem?_cons_succ,Option.some.injEq]at e0 e1 e2 e3 e4
   subst e0;subst e1;subst e2;subst e3;subst e4;rfl
end
end Go.Proofs.YtpleoapljeffiaaGreatDoor.E
namespace Go.Proofs.YtpleoapljeffiaaGreatDoor.E
open Go
abbrev Asr:=Mem→Prop
def star:List Asr→Asr
 |[],m=>m=emp
 |A::r,m=>∃a b,Disj a b∧m=a.un b∧A a∧star r b
theorem star_append{As Bs:List Asr}:∀{m:Mem},star (As++Bs) m↔∃a b,Disj a b∧m=a.un b∧star As a∧star Bs b:=by
 induction As with
 |nil=>
  intro m
  constructor
  ·intro h;exact⟨emp,m,fun _=>.inl rfl,(emp_un m).symm,rfl,h⟩
  ·rintro⟨a,b,d,rfl,rfl,h⟩;rw[emp_un];exact h
 |cons A r ih=>
  intro m
  constructor
  ·rintro⟨a,b,d,rfl,hA,h⟩
   obtain⟨c,e,d2,rfl,h1,h2⟩:=ih.1 h
   obtain⟨d3,d4⟩:=disj_un.1 d
   exact⟨a.un c,e,disj_un'.2 ⟨d4,d2⟩,(un_assoc _ _ _).symm,⟨a,c,d3,rfl,hA,h1⟩,h2⟩
  ·rintro⟨x,e,d,rfl,⟨a,c,d2,rfl,hA,h1⟩,h2⟩
   obtain⟨d3,d4⟩:=disj_un'.1 d
   exact⟨a,c.un e,disj_un.2 ⟨d2,d3⟩,un_assoc _ _ _,hA,ih.2 ⟨c,e,d4,rfl,h1,h2⟩⟩
theorem star_swap{A B:Asr}{r:List Asr}{m:Mem}(h:star (A::B::r) m):star (B::A::r) m:=by
 obtain⟨a,x,d,rfl,hA,b,c,d2,rfl,hB,hr⟩:=h
 obtain⟨d3,d4⟩:=disj_un.1 d
 refine⟨b,a.un c,disj_un.2 ⟨d3.symm,d2⟩,?_,hB,a,c,d4,rfl,hA,hr⟩
 rw[←un_assoc,un_comm d3,un_assoc]
theorem star_cons_mono{A B:Asr}{r s:List Asr}{m:Mem}(h:star (A::r) m)(h1:∀m,A m→B m)(h2:∀m,star r m→star s m):star (B::s) m:=by
 obtain⟨a,b,d,e,hA,hr⟩:=h
 exact⟨a,b,d,e,h1 _ hA,h2 _ hr⟩
structure Pk (As:List Asr) (A:Asr) (r:List Asr):Prop where
 out:∀m,star As m→star (A::r) m
theorem pk_h{A:Asr}{r:List Asr}:Pk (A::r) A r:=⟨fun _ h=>h⟩
theorem pk_t{A B:Asr}{r r':List Asr}(h:Pk r A r'):Pk (B::r) A (B::r'):=
 ⟨fun m hm=>star_swap (star_cons_mono hm (fun _ h=>h) h.out)⟩
structure Pm (As As1 F:List Asr):Prop where
 out:∀m,star As m→star (As1++F) m
theorem pm_nil{F:List Asr}:Pm F [] F:=⟨fun _ h=>h⟩
theorem pm_cons{As As' As1 F:List Asr}{A:Asr}(h:Pk As A As')(h2:Pm As' As1 F):Pm As (A::As1) F:=
 ⟨fun m hm=>star_cons_mono (h.out m hm) (fun _ h=>h) h2.out⟩
structure Ent (As Bs:List Asr):Prop where
 out:∀m,star As m→∃m',m'.le m∧star Bs m'
theorem Ent.refl(As:List Asr):Ent As As:=⟨fun m h=>⟨m,Mem.le_refl _,h⟩⟩
theorem Pm.ent{As As1 F:List Asr}(h:Pm As As1 F):Ent As As1:=⟨fun m hm=>by
 obtain⟨a,b,d,rfl,h1,h2⟩:=star_append.1 (h.out m hm)
 exact⟨a,le_l _ _,h1⟩⟩
theorem Ent.trans{A B C:List Asr}(h:Ent A B)(k:Ent B C):Ent A C:=⟨fun m hm=>by
 obtain⟨m1,l1,s1⟩:=h.out m hm
 obtain⟨m2,l2,s2⟩:=k.out m1 s1
 exact⟨m2,Mem.le_trans l2 l1,s2⟩⟩
def upQ(Q:X→St→List Asr→Prop):X→St→Mem→Prop:=fun x S M=>∃As m,m.le M∧star As m∧Q x S As
structure VA (E:Env) (c:C) (Q:X→St→List Asr→Prop) (S:St) (As:List Asr):Prop where
 out:∀m,star As m→VC E c (upQ Q) S m
def upP(post:St→List Asr→Prop):St→Mem→Prop:=fun S M=>∃As m,m.le M∧star As m∧post S As
structure LA (P:Program) (l:List I) (post:St→List Asr→Prop) (S:St) (As:List Asr):Prop where
 out:∀m,star As m→VL P l (upP post) S m
structure FnA (P:Program) (f:FuncId) (args:List Value) (As:List Asr) (post:Value→List Asr→Prop):Prop where
 out:∀m,star As m→Fn P f args m (fun v M'=>∃As' m',m'.le M'∧star As' m'∧post v As')
theorem FnA.mono{P:Program}{f:FuncId}{args:List Value}{As:List Asr}{post post':Value→List Asr→Prop}(h:FnA P f args As post)(k:∀v As',post v As'→post' v As'):FnA P f args As post':=
 ⟨fun m hm=>(h.out m hm).mono fun v M' ⟨As',m',l,s,p⟩=>⟨As',m',l,s,k _ _ p⟩⟩
theorem FnA.frame{P:Program}{f:FuncId}{args:List Value}{As F:List Asr}{post:Value→List Asr→Prop}(h:FnA P f args As post):FnA P f args (As++F) (fun v As'=>∃As1,post v As1∧As'=As1++F):=
 ⟨fun m hm=>by
   obtain⟨a,b,d,rfl,h1,h2⟩:=star_append.1 hm
   refine((h.out a h1).frame d).mono ?_
   rintro v M' ⟨m',⟨As',m1,l1,s1,hp⟩,hd,rfl⟩
   have hd1:Disj m1 b:=fun x=>by
    rcases hd x with e|e
    ·left
     cases h:m1 x with
     |none=>rfl
     |some k=>rw[l1 x k h]at e;cases e
    ·exact .inr e
   refine⟨As'++F,m1.un b,?_,star_append.2 ⟨m1,b,hd1,rfl,s1,h2⟩,As',hp,rfl⟩
   intro x k hk
   cases h:m1 x with
   |some k1=>rw[un_l h]at hk;cases hk;exact un_l (l1 x _ h)
   |none=>rw[un_n h]at hk;exact un_r hd hk⟩
theorem FnA.ent{P:Program}{f:FuncId}{args:List Value}{As Bs:List Asr}{post:Value→List Asr→Prop}(h:FnA P f args Bs post)(e:Ent As Bs):FnA P f args As post:=
 ⟨fun m hm=>by obtain⟨m',l,s⟩:=e.out m hm;exact(h.out m' s).le l⟩
theorem upP_of{post:St→List Asr→Prop}{S:St}{As:List Asr}{m:Mem}(s:star As m)(h:post S As):upP post S m:=⟨As,m,Mem.le_refl _,s,h⟩
theorem vcK_mono{P:Program}{c:K}{d:Option Nat}{p p':St→Mem→Prop}(k:∀S M,p S M→p' S M){S:St}{M:Mem}(h:vcK P c d p S M):vcK P c d p' S M:=by
 have am:∀{size bytes:Nat} {s:Value} {src:List Value} {n:Nat} {q q':Value→Mem→Prop},(∀v M,q v M→q' v M)→appM M size bytes s src n q→appM M size bytes s src n q':=by
  intro size bytes s src n q q' kq h
  unfold appM at*
  split at h
  ·obtain⟨h1,h2,h3,h4⟩:=h
   refine⟨h1,h2,h3,?_⟩
   rcases h4 with⟨h5,h6⟩|⟨h5,h6⟩
   ·exact .inl ⟨h5,kq _ _ h6⟩
   ·exact .inr ⟨h5,fun b c z e1 e2 e3=>kq _ _ (h6 b c z e1 e2 e3)⟩
  ·obtain⟨cs,h1,h2,h4⟩:=h
   refine⟨cs,h1,h2,?_⟩
   rcases h4 with⟨h5,h6,h7⟩|⟨h5,h6,h7⟩
   ·exact .inl ⟨h5,h6,kq _ _ h7⟩
   ·exact .inr ⟨h5,h6,fun b c z e1 e2 e3=>kq _ _ (h7 b c z e1 e2 e3)⟩
  ·exact h
 cases c
 case call=>obtain⟨args,h1,h2⟩:=h;exact⟨args,h1,h2.mono fun v M' h=>k _ _ h⟩
 case callv=>obtain⟨g,u,c,args,h1,h2,h3,h4⟩:=h;exact⟨g,u,c,args,h1,h2,h3,h4.mono fun v M' h=>k _ _ h⟩
 case store=>
  obtain⟨v,h1,h2,h3,h4⟩:=h
  refine⟨v,h1,h2,h3,?_⟩
  rcases h4 with⟨s,o,cs,a1,a2,a3,a4⟩|⟨b,o,cs,a1,a2,a3,a4⟩
  ·exact .inl ⟨s,o,cs,a1,a2,a3,k _ _ a4⟩
  ·exact .inr ⟨b,o,cs,a1,a2,a3,k _ _ a4⟩
 case alloc ow z=>
  cases ow with
  |false=>exact fun b hb=>k _ _ (h b hb)
  |true=>obtain⟨sv,h1,h2⟩:=h;exact⟨sv,h1,k _ _ h2⟩
 case box ow x=>
  cases ow with
  |false=>obtain⟨v,h1,h2⟩:=h;exact⟨v,h1,fun b hb=>k _ _ (h2 b hb)⟩
  |true=>obtain⟨sv,h1,h2⟩:=h;exact⟨sv,h1,k _ _ h2⟩
 case bslice ow len size z ps=>
  cases ow with
  |false=>obtain⟨v,h1,h2⟩:=h;exact⟨v,h1,fun b hb=>k _ _ (h2 b hb)⟩
  |true=>obtain⟨sv,h1,h2⟩:=h;exact⟨sv,h1,k _ _ h2⟩
 case mkslice=>obtain⟨n,m,h1,h2,h3,h4,h5,h6⟩:=h;exact⟨n,m,h1,h2,h3,h4,h5,fun b hb=>k _ _ (h6 b hb)⟩
 case app=>obtain⟨sv,src,n,h1,h2,h3,h4⟩:=h;exact⟨sv,src,n,h1,h2,h3,am (fun _ _ h=>k _ _ h) h4⟩
 case appz=>obtain⟨sv,n,h1,h2,h3,h4,h5⟩:=h;exact⟨sv,n,h1,h2,h3,h4,am (fun _ _ h=>k _ _ h) h5⟩
 case mkmap=>exact fun b hb=>k _ _ (h b hb)
 case mupd=>obtain⟨b,es,c,j,v,h1,h2,h3,h4,h5,h6⟩:=h;exact⟨b,es,c,j,v,h1,h2,h3,h4,h5,k _ _ h6⟩
 case mdel=>obtain⟨b,es,c,j,h1,h2,h3,h4,h5⟩:=h;exact⟨b,es,c,j,h1,h2,h3,h4,k _ _ h5⟩
 all_goals (obtain⟨sv,h1,h2⟩:=h;exact⟨sv,h1,k _ _ h2⟩)
theorem vcO_mono{P:Program}{i:I}{p p':St→Mem→Prop}(k:∀S M,p S M→p' S M){S:St}{M:Mem}(h:vcO P i p S M):vcO P i p' S M:=by
 unfold vcO at*
 split at h
 ·exact vcK_mono k h
 ·split at h
  ·exact⟨fun e=>vcK_mono k (h.1 e),fun e=>k _ _ (h.2 e)⟩
  ·exact k _ _ h
  ·exact h
theorem VL.mono{P:Program}{l:List I}{post post':St→Mem→Prop}(k:∀S M,post S M→post' S M){S:St}{M:Mem}(h:VL P l post S M):VL P l post' S M:=by
 refine⟨?_⟩
 have h:=h.out
 revert S M
 induction l with
 |nil=>intro S M _ h;exact k S M h
 |cons i r ih=>
  intro S M _ h
  have ih':∀S M,vcL P r post S M→vcL P r post' S M:=fun S M h=>ih ⟨h⟩ h
  show vcO P i (vcL P r post') S M
  have h:vcO P i (vcL P r post) S M:=h
  exact vcO_mono ih' h
section
variable {E:Env} {Q:X→St→List Asr→Prop} {S:St} {As Bs:List Asr} {K:St→List Asr→Prop}
def seqA(K:St→List Asr→Prop)(Q:X→St→List Asr→Prop):X→St→List Asr→Prop
 |.nrm=>K
 |x=>Q x
def blkA(id:Nat)(Q:X→St→List Asr→Prop):X→St→List Asr→Prop
 |.ext i=>if i=id then Q .nrm else Q (.ext i)
 |x=>Q x
theorem VA.ent{c:C}(e:Ent As Bs)(h:VA E c Q S Bs):VA E c Q S As:=
 ⟨fun m hm=>by obtain⟨m',l,s⟩:=e.out m hm;exact VC.drop l (h.out m' s)⟩
theorem v_reg{l:List I}(h:LA E.P l (Q .nrm) S As):VA E (.reg l) Q S As:=
 ⟨fun m hm=>VC.regV (h.out m hm)⟩
theorem v_dreg{n:Nat}{l:List I}(h:LA E.P l (Q .nrm) (fun t=>junkD (dsOf l n) (S t)) As):VA E (.dreg n l) Q S As:=
 ⟨fun m hm=>VC.dregV (h.out m hm)⟩
theorem v_zreg{ds:List Nat}{zs cs:List I}(h:LA E.P zs (fun S' _=>LA E.P cs (Q .nrm) S' As) (fun t=>junkD ds (S t)) []):VA E (.zreg ds zs cs) Q S As:=
 ⟨fun m hm=>VC.zreg (VL.mono (fun S' M' ⟨_,_,_,_,h⟩=>(h.out m hm).out) (h.out emp rfl)).out⟩
theorem un_rest{m M:Mem}(l:m.le M):∃F,Disj m F∧M=m.un F:=by
 refine⟨fun x=>match m x with|some _=>none|none=>M x,fun x=>?_,?_⟩
 ·cases h:m x with
  |none=>exact .inl rfl
  |some k=>right;simp only[h]
 ·funext x
  cases h:m x with
  |none=>rw[un_n h];simp only[h]
  |some k=>rw[un_l h];exact l _ _ h
theorem upP_le{post:St→List Asr→Prop}{S:St}{m M:Mem}(l:m.le M)(h:upP post S m):upP post S M:=by
 obtain⟨As,m',l',s,p⟩:=h
 exact⟨As,m',Mem.le_trans l' l,s,p⟩
theorem un_le_l{m m' F:Mem}(l:m.le m')(h:Disj m' F):(m.un F).le (m'.un F):=by
 intro x k hk
 cases e:m x with
 |some k1=>rw[un_l e]at hk;cases hk;exact un_l (l x _ e)
 |none=>rw[un_n e]at hk;exact un_r h hk
theorem vcT_up{P:Program}{B:List Nat}{post:St→Mem→Prop}(hp:∀S m M,m.le M→post S m→post S M):∀{t:T} {S:St} {m F G:Mem},Disj m F→Disj m G→Disj F G→vcT P B post t F S m→vcT P B post t F S (m.un G)
 |.done,S,m,F,G,h0,h1,h2,h=>hp _ _ _ (un_le_l (le_l m G) (disj_un'.2 ⟨h0,h2.symm⟩)) h
 |.none,_,_,_,_,_,_,_,_=>trivial
 |.bad,_,_,_,_,_,_,_,h=>h
 |.alt i t u,S,m,F,G,h0,h1,h2,h=>by
  refine⟨vcO_mono ?_ (vcO_frame h1 h.1),vcT_up hp h0 h1 h2 h.2⟩
  rintro S' M' ⟨m',⟨hk,hv⟩,hd',rfl⟩
  refine⟨hk,fun hd=>?_⟩
  have d1:=(disj_un'.1 hd).1
  exact vcT_up hp d1 hd' h2 (hv d1)
 |.alf i t u,S,m,F,G,h0,h1,h2,h=>by
  refine⟨?_,vcT_up hp h0 h1 h2 h.2⟩
  have e:(m.un G).un F=(m.un F).un G:=by rw[un_assoc,un_comm (h2.symm),←un_assoc]
  rw[e]
  refine vcO_mono ?_ (vcO_frame (disj_un'.2 ⟨h1,h2⟩) h.1)
  rintro S' M' ⟨m',hv,hd',rfl⟩
  exact vcT_up hp (disj_emp m') hd' (fun x=>.inl rfl) hv
structure TA (P:Program) (B:List Nat) (t:T) (post:St→List Asr→Prop) (S:St) (Gs Fs:List Asr):Prop where
 out:∀m F,Disj m F→star Gs m→star Fs F→vcT P B (upP post) t F S m
section
variable {P:Program} {B:List Nat} {post:St→List Asr→Prop} {S:St} {Gs Fs:List Asr} {i:I} {t u:T}
theorem t_d(h:post S (Gs++Fs)):TA P B .done post S Gs Fs:=⟨fun m F d h1 h2=>upP_of (star_append.2 ⟨m,F,d,rfl,h1,h2⟩) h⟩
theorem t_n:TA P B .none post S Gs Fs:=⟨fun m F d h1 h2=>trivial⟩
theorem t_a(h:LA P [i] (fun S' As'=>keepL B S S'∧TA P B t post S' As' Fs) S Gs)(h2:TA P B u post S Gs Fs):TA P B (.alt i t u) post S Gs Fs:=
 ⟨fun m F d hm hF=>by
   refine⟨?_,h2.out m F d hm hF⟩
   refine vcO_mono ?_ (h.out m hm).out
   rintro S' M' ⟨As',m',l,s,hk,ht⟩
   obtain⟨G,hd,rfl⟩:=un_rest l
   refine⟨hk,fun hF'=>?_⟩
   obtain⟨e1,e2⟩:=disj_un'.1 hF'
   exact vcT_up (post:=upP post) (fun S m M l h=>upP_le l h) e1 hd e2.symm (ht.out m' F e1 s hF)⟩
theorem t_f(h:LA P [i] (fun S' As'=>TA P B t post S' As' []) S (Gs++Fs))(h2:TA P B u post S Gs Fs):TA P B (.alf i t u) post S Gs Fs:=
 ⟨fun m F d hm hF=>by
   refine⟨?_,h2.out m F d hm hF⟩
   refine vcO_mono ?_ (h.out _ (star_append.2 ⟨m,F,d,rfl,hm,hF⟩)).out
   rintro S' M' ⟨As',m',l,s,ht⟩
   obtain⟨G,hd,rfl⟩:=un_rest l
   exact vcT_up (post:=upP post) (fun S m M l h=>upP_le l h) (disj_emp m') hd (fun x=>.inl rfl) (ht.out m' emp (disj_emp m') s rfl)⟩
end
theorem kl_0{S S':St}{p:Prop}(h:p):keepL [] S S'∧p:=⟨trivial,h⟩
theorem kl_1{b:Nat}{r:List Nat}{S S':St}{p:Prop}(hb:S' b=S b)(h:keepL r S S'∧p):keepL (b::r) S S'∧p:=⟨⟨hb,h.1⟩,h.2⟩
theorem v_hreg{Gs:List Asr}(Fs:List Asr){bs:List Nat}{zs:List I}{t:T}(hp:Pm As Gs Fs)(h:LA E.P zs (fun S' _=>TA E.P bs t (Q .nrm) S' Gs Fs) (jb bs S) Fs):VA E (.hreg bs zs t) Q S As:=
 ⟨fun m hm=>by
   obtain⟨a,b,d,rfl,h1,h2⟩:=star_append.1 (hp.out m hm)
   refine VC.hreg d (VL.mono (fun S' M' (hq:upP _ S' M')=>?_) (h.out b h2)).out
   obtain⟨As',m',l,s,ht⟩:=hq
   exact ht.out a b d h1 h2⟩
theorem v_seq{a b:C}(h:VA E a (seqA (VA E b Q) Q) S As):VA E (.seq a b) Q S As:=
 ⟨fun m hm=>VC.seq ((h.out m hm).mono fun x S M ⟨As',m',l,s,hq⟩=>by
   cases x with
   |nrm=>exact VC.drop l (hq.out m' s)
   |ret=>exact⟨As',m',l,s,hq⟩
   |ext i=>exact⟨As',m',l,s,hq⟩)⟩
theorem v_cond{x:Operand}{a b:C}(t:Bool)(hx:ev S x=some (.bool t))(h1:t=true→VA E a Q S As)(h2:t=false→VA E b Q S As):VA E (.cond x a b) Q S As:=
 ⟨fun m hm=>VC.cond t hx (fun e=>(h1 e).out m hm) (fun e=>(h2 e).out m hm)⟩
theorem v_blk{id:Nat}{c:C}(h:VA E c (blkA id Q) S As):VA E (.block id c) Q S As:=
 ⟨fun m hm=>VC.block ((h.out m hm).mono fun x S M ⟨As',m',l,s,hq⟩=>by
   cases x with
   |nrm=>exact⟨As',m',l,s,hq⟩
   |ret=>exact⟨As',m',l,s,hq⟩
   |ext i=>
    unfold blkA at hq
    unfold blkQ
    simp only at hq⊢
    split
    ·rename_i e;rw[if_pos e]at hq;exact⟨As',m',l,s,hq⟩
    ·rename_i e;rw[if_neg e]at hq;exact⟨As',m',l,s,hq⟩)⟩
theorem v_skip(h:Q .nrm S As):VA E .skip Q S As:=⟨fun m hm=>VC.skip ⟨As,m,Mem.le_refl _,hm,h⟩⟩
theorem v_ret(h:Q .ret S As):VA E .ret Q S As:=⟨fun m hm=>VC.ret ⟨As,m,Mem.le_refl _,hm,h⟩⟩
theorem v_exit{id:Nat}(h:Q (.ext id) S As):VA E (.exit id) Q S As:=⟨fun m hm=>VC.exit ⟨As,m,Mem.le_refl _,hm,h⟩⟩
theorem v_mono{c:C}{Q':X→St→List Asr→Prop}(h:VA E c Q S As)(k:∀x S As,Q x S As→Q' x S As):VA E c Q' S As:=
 ⟨fun m hm=>(h.out m hm).mono fun x S M ⟨As',m',l,s,hq⟩=>⟨As',m',l,s,k _ _ _ hq⟩⟩
theorem v_cut{a b:C}(J:St→List Asr→Prop)(h:VA E a (seqA J Q) S As)(h2:∀S As,J S As→VA E b Q S As):VA E (.seq a b) Q S As:=
 v_seq (v_mono h fun x S As hq=>by cases x<;>first|exact h2 _ _ hq|exact hq)
theorem v_weak{c:C}(l:List (Nat×SV))(hS:leA l S)(h:VA E c Q (ofL l) As):VA E c Q S As:=
 ⟨fun m hm=>VC.weak l hS (Mem.le_refl _) (h.out m hm)⟩
theorem v_loop{c:C}{α:Type}(T:α→List (Nat×SV))(At:α→List Asr)(Inv:Nat→α→Prop)(h0:∃k x,leA (T x) S∧Ent As (At x)∧Inv k x)
 (h:∀k x,Inv k x→VA E c (seqA (fun S' As'=>∃k' x',k'<k∧leA (T x') S'∧Ent As' (At x')∧Inv k' x') Q) (ofL (T x)) (At x)):VA E (.loop c) Q S As:=
 ⟨fun m hm=>by
   obtain⟨k0,x0,a1,a2,a3⟩:=h0
   obtain⟨m0,l0,s0⟩:=a2.out m hm
   refine VC.loop T (fun k x M=>Inv k x∧star (At x) M) ⟨k0,x0,m0,a1,l0,a3,s0⟩ ?_
   rintro k x M ⟨hi,hs⟩
   refine((h k x hi).out M hs).mono ?_
   rintro y S' M' ⟨As',m',l,s,hq⟩
   cases y with
   |nrm=>
    obtain⟨k',x',b1,b2,b3,b4⟩:=hq
    obtain⟨m2,l2,s2⟩:=b3.out m' s
    exact⟨k',x',m2,b1,b2,Mem.le_trans l2 l,b4,s2⟩
   |ret=>exact⟨As',m',l,s,hq⟩
   |ext i=>exact⟨As',m',l,s,hq⟩⟩
theorem v_ct{x:Operand}{a b:C}(hx:ev S x=some (.bool true))(h:VA E a Q S As):VA E (.cond x a b) Q S As:=v_cond true hx (fun _=>h) (fun e=>by cases e)
theorem v_cf{x:Operand}{a b:C}(hx:ev S x=some (.bool false))(h:VA E b Q S As):VA E (.cond x a b) Q S As:=v_cond false hx (fun e=>by cases e) (fun _=>h)
theorem v_cd{x:Operand}{a b:C}{p:Prop}{_:Decidable p}(hx:ev S x=some (.bool (decide p)))(h1:p→VA E a Q S As)(h2:¬p→VA E b Q S As):VA E (.cond x a b) Q S As:=
 v_cond _ hx (fun h=>h1 (of_decide_eq_true h)) (fun h=>h2 (of_decide_eq_false h))
theorem v_ce{x:Operand}{a b:C}{u w:Int}(hx:ev S x=some (.bool (u==w)))(h1:u=w→VA E a Q S As)(h2:u≠w→VA E b Q S As):VA E (.cond x a b) Q S As:=
 v_cond _ hx (fun h=>h1 (by simpa using h)) (fun h=>h2 (by simpa using h))
theorem v_cn{x:Operand}{a b:C}{u w:Int}(hx:ev S x=some (.bool (u !=w)))(h1:u≠w→VA E a Q S As)(h2:u=w→VA E b Q S As):VA E (.cond x a b) Q S As:=
 v_cond _ hx (fun h=>h1 (by simpa using h)) (fun h=>h2 (by simpa using h))
theorem v_cnd{x:Operand}{a b:C}{p:Prop}{_:Decidable p}(hx:ev S x=some (.bool (!decide p)))(h1:¬p→VA E a Q S As)(h2:p→VA E b Q S As):VA E (.cond x a b) Q S As:=
 v_cond _ hx (fun h=>h1 (by simpa using h)) (fun h=>h2 (by simpa using h))
theorem s_n(h:K S As):seqA K Q .nrm S As:=h
theorem s_r(h:Q .ret S As):seqA K Q .ret S As:=h
theorem s_e{i:Nat}(h:Q (.ext i) S As):seqA K Q (.ext i) S As:=h
theorem b_n{id:Nat}(h:Q .nrm S As):blkA id Q .nrm S As:=h
theorem b_r{id:Nat}(h:Q .ret S As):blkA id Q .ret S As:=h
theorem b_e{id:Nat}(h:Q .nrm S As):blkA id Q (.ext id) S As:=by unfold blkA;simp only[if_true];exact h
theorem b_o{id i:Nat}(hi:Nat.beq i id=false)(h:Q (.ext i) S As):blkA id Q (.ext i) S As:=by
 have e:i≠id:=fun e=>by subst e;simp at hi
 unfold blkA;simp only[if_neg e];exact h
end
def fnA(rs:List RV)(post:Value→List Asr→Prop):X→St→List Asr→Prop
 |.ext _,_,_=>False
 |_,S,As=>∃v As',(∀m,star As m→resV S m rs=some v)∧Ent As As'∧post v As'
theorem fa_r{rl:List RV}{S:St}{As As':List Asr}{v:Value}{post:Value→List Asr→Prop}(h:∀m,star As m→resV S m rl=some v)(e:Ent As As')(hp:post v As'):fnA rl post .ret S As:=⟨v,As',h,e,hp⟩
theorem fa_n{rl:List RV}{S:St}{As As':List Asr}{v:Value}{post:Value→List Asr→Prop}(h:∀m,star As m→resV S m rl=some v)(e:Ent As As')(hp:post v As'):fnA rl post .nrm S As:=⟨v,As',h,e,hp⟩
theorem rvs_le{S:St}{m M:Mem}(l:m.le M):∀{rs:List RV} {vs:List Value},rvs S m rs=some vs→rvs S M rs=some vs
 |[],vs,h=>h
 |r::t,vs,h=>by
  simp only[rvs]at h⊢
  split at h
  ·rename_i v l' h1 h2
   have h1':rvV S M r=some v:=by
    cases r with
    |tmp t=>exact h1
    |cell t one n=>
     simp only[rvV]at h1⊢
     split at h1
     ·exact h1
     ·rename_i b o hl
      split at h1
      ·rename_i cs hM;rw[l _ _ hM];exact h1
      ·cases h1
     ·cases h1
   rw[h1',rvs_le l h2];exact h
  ·cases h
theorem resV_le{S:St}{m M:Mem}(l:m.le M){rs:List RV}{v:Value}(h:resV S m rs=some v):resV S M rs=some v:=by
 unfold resV at*
 cases h1:rvs S m rs with
 |none=>rw[h1]at h;cases h
 |some vs=>rw[rvs_le l h1];rw[h1]at h;exact h
theorem fnA_of{E:Env}{c:C}{f:FuncId}{args:List Value}{nt:Nat}{rl:List RV}{P:Program}{As:List Asr}{post:Value→List Asr→Prop}
 (hf:∀{M:Mem} {p:Value→Mem→Prop},VC E c (fnQ rl p) (initS args nt) M→Fn P f args M p) (h:VA E c (fnA rl post) (initS args nt) As):FnA P f args As post:=
 ⟨fun m hm=>hf ((h.out m hm).mono fun x S M ⟨As',m',l,s,hq⟩=>by
   cases x with
   |ext i=>exact hq
   |nrm=>
    obtain⟨v,As2,h1,h2,h3⟩:=hq
    obtain⟨m2,l2,s2⟩:=h2.out m' s
    exact⟨v,m2,resV_le l (h1 m' s),Mem.le_trans l2 l,As2,m2,Mem.le_refl _,s2,h3⟩
   |ret=>
    obtain⟨v,As2,h1,h2,h3⟩:=hq
    obtain⟨m2,l2,s2⟩:=h2.out m' s
    exact⟨v,m2,resV_le l (h1 m' s),Mem.le_trans l2 l,As2,m2,Mem.le_refl _,s2,h3⟩)⟩
theorem cell_le{m M:Mem}(l:m.le M){b o:Nat}{v:Value}(h:cell m b o=some v):cell M b o=some v:=by
 unfold cell at*
 cases hm:m b with
 |none=>rw[hm]at h;cases h
 |some k=>rw[l _ _ hm];rw[hm]at h;exact h
theorem cells_le{m M:Mem}(l:m.le M){b o n:Nat}{v:List Value}(h:cells m b o n=some v):cells M b o n=some v:=by
 unfold cells at*
 cases hm:m b with
 |none=>rw[hm]at h;cases h
 |some k=>rw[l _ _ hm];rw[hm]at h;exact h
structure RdA (A:Asr) (b o:Nat) (v:Value):Prop where
 out:∀m,A m→cell m b o=some v
structure Rd (As:List Asr) (b o:Nat) (v:Value):Prop where
 out:∀m,star As m→cell m b o=some v
theorem rd_h{A:Asr}{r:List Asr}{b o:Nat}{v:Value}(h:RdA A b o v):Rd (A::r) b o v:=
 ⟨fun m ⟨a,c,d,e,hA,hr⟩=>by subst e;exact cell_le (le_l _ _) (h.out a hA)⟩
theorem rd_t{A:Asr}{r:List Asr}{b o:Nat}{v:Value}(h:Rd r b o v):Rd (A::r) b o v:=
 ⟨fun m ⟨a,c,d,e,hA,hr⟩=>by subst e;exact cell_le (le_r d) (h.out c hr)⟩
structure RsA (A:Asr) (b o n:Nat) (v:List Value):Prop where
 out:∀m,A m→cells m b o n=some v
structure Rs (As:List Asr) (b o n:Nat) (v:List Value):Prop where
 out:∀m,star As m→cells m b o n=some v
theorem rs_h{A:Asr}{r:List Asr}{b o n:Nat}{v:List Value}(h:RsA A b o n v):Rs (A::r) b o n v:=
 ⟨fun m ⟨a,c,d,e,hA,hr⟩=>by subst e;exact cells_le (le_l _ _) (h.out a hA)⟩
theorem rs_t{A:Asr}{r:List Asr}{b o n:Nat}{v:List Value}(h:Rs r b o n v):Rs (A::r) b o n v:=
 ⟨fun m ⟨a,c,d,e,hA,hr⟩=>by subst e;exact cells_le (le_r d) (h.out c hr)⟩
structure UpA (A:Asr) (b o:Nat) (vs:List Value) (A':Asr):Prop where
 out:∀m,A m→∃row,m b=some (.row row)∧o+vs.length≤row.length∧A' (m.upd b (.row (wr row o vs)))
structure Up (As:List Asr) (b o:Nat) (vs:List Value) (As':List Asr):Prop where
 out:∀m,star As m→∃row,m b=some (.row row)∧o+vs.length≤row.length∧star As' (m.upd b (.row (wr row o vs)))
theorem up_h{A A':Asr}{r:List Asr}{b o:Nat}{vs:List Value}(h:UpA A b o vs A'):Up (A::r) b o vs (A'::r):=
 ⟨fun m ⟨a,c,d,e,hA,hr⟩=>by
   subst e
   obtain⟨row,h1,h2,h3⟩:=h.out a hA
   have hc:c b=none:=by
    rcases d b with e|e
    ·rw[h1]at e;cases e
    ·exact e
   exact⟨row,un_l h1,h2,_,c,d.upd _ hc,un_upd_l _,h3,hr⟩⟩
theorem up_t{A:Asr}{r r':List Asr}{b o:Nat}{vs:List Value}(h:Up r b o vs r'):Up (A::r) b o vs (A::r'):=
 ⟨fun m ⟨a,c,d,e,hA,hr⟩=>by
   subst e
   obtain⟨row,h1,h2,h3⟩:=h.out c hr
   have ha:a b=none:=by
    rcases d b with e|e
    ·exact e
    ·rw[h1]at e;cases e
   exact⟨row,un_r d h1,h2,a,_,(d.symm.upd _ ha).symm,un_upd_r _ ha,hA,h3⟩⟩
structure KnA (A:Asr) (p:Prop):Prop where
 out:∀m,A m→p
structure Kn (As:List Asr) (p:Prop):Prop where
 out:∀m,star As m→p
theorem kn_h{A:Asr}{r:List Asr}{p:Prop}(h:KnA A p):Kn (A::r) p:=⟨fun m ⟨a,c,d,e,hA,hr⟩=>h.out a hA⟩
theorem kn_t{A:Asr}{r:List Asr}{p:Prop}(h:Kn r p):Kn (A::r) p:=⟨fun m ⟨a,c,d,e,hA,hr⟩=>h.out c hr⟩
structure D where
 a:Option Addr
 cap:Nat
def D.b(d:D):Nat:=match d.a with|some x=>x.block|none=>0
def D.o(d:D):Nat:=match d.a with|some x=>x.off|none=>0
def D.v(d:D)(n:Nat):Value:=.slice d.a n d.cap
def slA(size:Nat){α:Type}(f:α→List Value)(d:D)(xs:List α):Asr:=fun m=>Sl m size f (.slice d.a xs.length d.cap) xs∧∀b,b∉own (.slice d.a xs.length d.cap)→m b=none
def bx(b:Nat)(vs:List Value):Asr:=fun m=>m=one b (.row vs)
section
variable {α:Type} {f:α→List Value} {size:Nat} {d:D} {xs:List α}
theorem D.plain{m:Mem}(h:slA size f d xs m):d.a=none∨d.a=some ⟨d.b,d.o,none⟩:=by
 rcases h.1 with⟨c,e,_⟩|⟨b,o,cap,row,e,_⟩
 ·simp only[Value.slice.injEq]at e;exact .inl e.1
 ·right
  simp only[Value.slice.injEq]at e
  have:d.a=some ⟨b,o,none⟩:=e.1
  unfold D.b D.o;rw[this]
theorem D.som{m:Mem}(h:slA size f d xs m){i:Nat}{e:α}(hi:xs[i]?=some e):d.a=some ⟨d.b,d.o,none⟩:=by
 rcases h.1 with⟨c,e,_,e2⟩|⟨b,o,cap,row,e,_⟩
 ·subst e2;simp at hi
 ·simp only[Value.slice.injEq]at e
  have:d.a=some ⟨b,o,none⟩:=e.1
  unfold D.b D.o;rw[this]
theorem rs_sl{i:Nat}{e:α}(hs:∀x,(f x).length=size)(hi:xs[i]?=some e):RsA (slA size f d xs) d.b (d.o+i*size) size (f e):=
 ⟨fun m h=>by
   obtain⟨b,o,ha,hc⟩:=h.1.at2 hs hi
   have e1:d.b=b:=by unfold D.b;rw[ha]
   have e2:d.o=o:=by unfold D.o;rw[ha]
   rw[e1,e2];exact hc⟩
theorem rd_sl{i j:Nat}{e:α}{v:Value}(hs:∀x,(f x).length=size)(hi:xs[i]?=some e)(hj:(f e)[j]?=some v):RdA (slA size f d xs) d.b (d.o+i*size+j) v:=
 ⟨fun m h=>cells_cell ((rs_sl hs hi).out m h) hj⟩
theorem cells_sub{M:Mem}{b o n j k:Nat}{vs ws:List Value}(h:cells M b o n=some vs)(hj:j+k≤vs.length)(hw:(vs.drop j).take k=ws):cells M b (o+j) k=some ws:=by
 obtain⟨cs,hM,hle,rfl⟩:=cells_row h
 simp only[List.length_take,List.length_drop]at hj
 have key:(if o+j+k≤cs.length then some ((cs.drop (o+j)).take k)else none)=some ws:=by
  rw[if_pos (by omega)]
  congr 1
  rw[←hw,List.drop_take,List.drop_drop,List.take_take]
  congr 1;omega
 unfold cells
 rcases hM with hM|⟨_,_,hM⟩<;>rw[hM]<;>exact key
theorem rs_slp{i j k:Nat}{e:α}{ws:List Value}(hs:∀x,(f x).length=size)(hi:xs[i]?=some e)(hj:j+k≤size)(hw:((f e).drop j).take k=ws):RsA (slA size f d xs) d.b (d.o+i*size+j) k ws:=
 ⟨fun m h=>cells_sub ((rs_sl hs hi).out m h) (by rw[hs];exact hj) hw⟩
theorem up_sl{i j:Nat}{e e':α}{vs:List Value}(hs:∀x,(f x).length=size)(hi:xs[i]?=some e)(hj:j+vs.length≤size)(hf:f e'=wr (f e) j vs):UpA (slA size f d xs) d.b (d.o+i*size+j) vs (slA size f d (xs.set i e')):=
 ⟨fun m h=>by
   have ha:=D.som h hi
   have h1:=h.1
   have h2:=h.2
   rw[ha]at h1 h2
   obtain⟨row,g1,g2,g3⟩:=h1.wr hs hi hj hf
   refine⟨row,g1,by omega,?_,?_⟩
   ·rw[List.length_set,ha];exact g3
   ·intro b hb
    rw[List.length_set,ha]at hb
    have hne:b≠d.b:=fun e=>hb (by simp[own,e])
    rw[Mem.upd_ne _ _ hne];exact h2 b hb⟩
theorem bs_sl{i:Nat}{e:α}(hi:xs[i]?=some e):KnA (slA size f d xs) (d.a=some ⟨d.b,d.o,none⟩):=⟨fun m h=>D.som h hi⟩
theorem pl_sl:KnA (slA size f d xs) (d.a=none∨d.a=some ⟨d.b,d.o,none⟩):=⟨fun m h=>D.plain h⟩
theorem bd_sl:KnA (slA size f d xs) (xs.length≤140737488355328):=⟨fun m h=>h.1.bound⟩
theorem cp_sl:KnA (slA size f d xs) (xs.length≤d.cap):=⟨fun m h=>by
 rcases h.1 with⟨c,e,_,e2⟩|⟨b,o,cap,row,e,hM,hc,_⟩
 ·subst e2;simp
 ·simp only[Value.slice.injEq]at e
  rw[e.2.2];exact hc⟩
theorem own_len(a:Option Addr)(n n' cap cap':Nat):own (.slice a n cap)=own (.slice a n' cap'):=by cases a<;>rfl
theorem flat_take(hs:∀x,(f x).length=size)(xs:List α)(k:Nat)(hk:k≤xs.length):(xs.flatMap f).take (k*size)=(xs.take k).flatMap f:=by
 have h2:xs.flatMap f=(xs.take k).flatMap f++(xs.drop k).flatMap f:=by rw[←List.flatMap_append,List.take_append_drop]
 rw[h2,List.take_left' (by rw[flat_len hs,List.length_take,Nat.min_eq_left hk])]
theorem flat_drop(hs:∀x,(f x).length=size)(xs:List α)(k:Nat)(hk:k≤xs.length):(xs.flatMap f).drop (k*size)=(xs.drop k).flatMap f:=by
 have h2:xs.flatMap f=(xs.take k).flatMap f++(xs.drop k).flatMap f:=by rw[←List.flatMap_append,List.take_append_drop]
 rw[h2,List.drop_left' (by rw[flat_len hs,List.length_take,Nat.min_eq_left hk])]
theorem sl_take(hs:∀x,(f x).length=size){k:Nat}{m:Mem}(h:slA size f d xs m)(hk:k≤xs.length):slA size f d (xs.take k) m:=by
 have hl:(xs.take k).length=k:=by simp;omega
 refine⟨?_,fun b hb=>h.2 b (by rw[own_len _ _ (xs.take k).length _ d.cap];exact hb)⟩
 rcases h.1 with⟨c,e,e1,e2⟩|⟨b,o,cap,row,e,hM,hc,hb,hr,he⟩
 ·subst e2;left;exact⟨c,by simpa using e,e1,by simp⟩
 ·right
  refine⟨b,o,cap,row,?_,hM,by omega,by omega,hr,?_⟩
  ·rw[hl];simp only[Value.slice.injEq,true_and]at e⊢;exact⟨e.1,e.2⟩
  ·rw[hl,←flat_take hs xs k hk,←he,List.take_take]
   congr 1
   have:=Nat.mul_le_mul_right size hk
   omega
def D.drop(d:D)(size k:Nat):D:=⟨match d.a with|some ⟨b,o,none⟩=>some (if d.cap=k then⟨b,o,none⟩else⟨b,o+k*size,none⟩)|x=>x,d.cap-k⟩
theorem own_drop(k n n':Nat):own (.slice (d.drop size k).a n (d.drop size k).cap)=own (.slice d.a n' d.cap):=by
 unfold D.drop
 obtain⟨a,cap⟩:=d
 cases a with
 |none=>rfl
 |some a=>
  obtain⟨b,o,sp⟩:=a
  cases sp with
  |none=>simp only;split<;>rfl
  |some s=>rfl
theorem sl_drop(hs:∀x,(f x).length=size){k:Nat}{m:Mem}(h:slA size f d xs m)(hk:k≤xs.length):slA size f (d.drop size k) (xs.drop k) m:=by
 have hl:(xs.drop k).length=xs.length-k:=by simp
 refine⟨?_,fun b hb=>h.2 b (by rw[own_drop _ _ xs.length]at hb;exact hb)⟩
 rcases h.1 with⟨c,e,e1,e2⟩|⟨b,o,cap,row,e,hM,hc,hb,hr,he⟩
 ·subst e2
  have hk0:k=0:=by simpa using hk
  subst hk0
  obtain⟨a,cp⟩:=d
  simp only[List.length_nil,Value.slice.injEq]at e
  obtain⟨ea,_,ec⟩:=e
  subst ea;subst ec;subst e1
  exact .inl ⟨0,by simp[D.drop],rfl,rfl⟩
 ·obtain⟨a,cp⟩:=d
  simp only[Value.slice.injEq]at e
  obtain⟨ea,_,ec⟩:=e
  subst ea;subst ec
  right
  unfold D.drop
  simp only
  by_cases hck:cp=k
  ·rw[if_pos hck]
   have hkl:k=xs.length:=by omega
   refine⟨b,o,cp-k,row,by rw[hl],hM,by omega,by omega,?_,?_⟩
   ·have:(cp-k)*size=0:=by rw[show cp-k=0 by omega];simp
    omega
   ·rw[hl,show xs.length-k=0 by omega,hkl];simp
  ·rw[if_neg hck]
   have e2:cp*size=k*size+(cp-k)*size:=by rw[←Nat.add_mul];congr 1;omega
   refine⟨b,o+k*size,cp-k,row,by rw[hl],hM,by omega,by omega,by omega,?_⟩
   rw[hl,←flat_drop hs xs k hk,←he,List.drop_take,List.drop_drop]
   congr 1
   rw[Nat.sub_mul]
theorem rd_bx{b o:Nat}{vs:List Value}{v:Value}(h:vs[o]?=some v):RdA (bx b vs) b o v:=⟨fun m hm=>by
 have hm:m=one b (.row vs):=hm
 subst hm;unfold cell;rw[one_same];exact h⟩
theorem rs_bx{b o n:Nat}{vs ws:List Value}(ho:o+n≤vs.length)(h:(vs.drop o).take n=ws):RsA (bx b vs) b o n ws:=⟨fun m hm=>by
 have hm:m=one b (.row vs):=hm
 subst hm;unfold cells;rw[one_same];simp only;rw[if_pos ho,h]⟩
theorem up_bx{b o:Nat}{vs ws:List Value}{A:Asr}(ho:o+ws.length≤vs.length)(hA:WrK vs o ws (fun c=>A=bx b c)):UpA (bx b vs) b o ws A:=⟨fun m hm=>by
 have hm:m=one b (.row vs):=hm
 have:=hA.out
 subst hm;subst this
 exact⟨vs,one_same _ _,ho,one_upd _ _ _⟩⟩
end
def keyI(e:MapEntry):Int:=match e.key with|.int _ j=>j|_=>0
def mpA(b:Nat)(g:Int→Option Value):Asr:=fun m=>∃es c,m=one b (.mp es c)∧mpInts es.toList=true∧(es.toList.map keyI).Nodup∧∀j,mpFind j es.toList=g j
theorem keyIs_iff{j:Int}{e:MapEntry}(h:(match e.key with|.int .i64 _=>true|_=>false)=true):keyIs j e=decide (keyI e=j):=by
 unfold keyIs keyI
 split at h
 ·rename_i i hk;rw[hk];simp only;by_cases h:i=j<;>simp[h]
 ·cases h
theorem mpFind_cons{j:Int}{e:MapEntry}{r:List MapEntry}(h:(match e.key with|.int .i64 _=>true|_=>false)=true):mpFind j (e::r)=if keyI e=j then some e.val else mpFind j r:=by
 unfold keyI
 split at h
 ·rename_i i hk;simp only[mpFind,hk]
 ·cases h
theorem mpFind_none{j:Int}:∀{l:List MapEntry},mpInts l=true→(mpFind j l=none↔j∉l.map keyI)
 |[],_=>by simp[mpFind]
 |e::r,h=>by
  simp only[mpInts,Bool.and_eq_true]at h
  rw[mpFind_cons h.1]
  by_cases hk:keyI e=j
  ·simp[hk]
  ·rw[if_neg hk,mpFind_none h.2,List.map_cons,List.mem_cons,not_or];exact⟨fun a=>⟨fun e=>hk e.symm,a⟩,fun a=>a.2⟩
theorem mp_set{j:Int}{y:Value}:∀{l:List MapEntry} {i:Nat},mpInts l=true→l.findIdx? (keyIs j)=some i→
 let l':=l.modify i fun e=>{e with key:=.int .i64 j,val:=y}
 mpInts l'=true∧l'.map keyI=l.map keyI∧∀j',mpFind j' l'=if j'=j then some y else mpFind j' l
 |[],i,_,hi=>by simp at hi
 |e::r,i,h,hi=>by
  simp only[mpInts,Bool.and_eq_true]at h
  rw[List.findIdx?_cons,keyIs_iff h.1]at hi
  by_cases hk:keyI e=j
  ·simp only[hk,decide_true,if_true,Option.some.injEq]at hi
   subst hi
   simp only[List.modify_zero_cons]
   refine⟨by simp only[mpInts,Bool.true_and];exact h.2,?_,?_⟩
   ·simp only[List.map_cons,List.cons.injEq,and_true];rw[hk];rfl
   ·intro j'
    rw[mpFind_cons (by rfl),mpFind_cons h.1]
    have:keyI {key:=Value.int IntKind.i64 j,val:=y,born:=e.born}=j:=rfl
    simp only[this,hk]
    by_cases h':j'=j
    ·rw[if_pos h'.symm,if_pos h']
    ·rw[if_neg (fun e=>h' (Eq.symm e)),if_neg (fun e=>h' (Eq.symm e)),if_neg h']
  ·simp only[hk,decide_false,Bool.false_eq_true,if_false,Option.map_eq_some_iff]at hi
   obtain⟨i',hi',rfl⟩:=hi
   obtain⟨a1,a2,a3⟩:=mp_set (y:=y) h.2 hi'
   simp only[List.modify_succ_cons]
   refine⟨by simp only[mpInts,Bool.and_eq_true];exact⟨h.1,a1⟩,?_,?_⟩
   ·simp only[List.map_cons,List.cons.injEq,true_and];exact a2
   ·intro j'
    rw[mpFind_cons h.1,mpFind_cons h.1,a3 j']
    by_cases h':keyI e=j'
    ·rw[if_pos h',if_pos h',if_neg (fun e'=>hk (h'.trans e'))]
    ·rw[if_neg h',if_neg h']
theorem mp_push{j:Int}{y:Value}{c:Nat}:∀{l:List MapEntry},mpInts l=true→l.findIdx? (keyIs j)=none→
 let l':=l++[⟨.int .i64 j,y,c⟩]
 mpInts l'=true∧j∉l.map keyI∧l'.map keyI=l.map keyI++[j]∧∀j',mpFind j' l'=if j'=j then some y else mpFind j' l
 |[],_,_=>by
  refine⟨rfl,by simp,rfl,fun j'=>?_⟩
  simp only[List.nil_append,mpFind]
  by_cases h:j'=j
  ·rw[if_pos h.symm,if_pos h]
  ·rw[if_neg (fun e=>h (Eq.symm e)),if_neg h]
 |e::r,h,hi=>by
  simp only[mpInts,Bool.and_eq_true]at h
  rw[List.findIdx?_cons,keyIs_iff h.1]at hi
  by_cases hk:keyI e=j
  ·simp[hk]at hi
  ·simp only[hk,decide_false,Bool.false_eq_true,if_false,Option.map_eq_none_iff]at hi
   obtain⟨a1,a2,a3,a4⟩:=mp_push (y:=y) (c:=c) h.2 hi
   refine⟨by simp only[List.cons_append,mpInts,Bool.and_eq_true];exact⟨h.1,a1⟩,?_,by simp only[List.cons_append,List.map_cons,a3],?_⟩
   ·simp only[List.map_cons,List.mem_cons,not_or];exact⟨fun e=>hk e.symm,a2⟩
   ·intro j'
    rw[List.cons_append,mpFind_cons h.1,mpFind_cons h.1,a4 j']
    by_cases h':keyI e=j'
    ·rw[if_pos h',if_pos h',if_neg (fun e'=>hk (h'.trans e'))]
    ·rw[if_neg h',if_neg h']
theorem mp_del{j:Int}:∀{l:List MapEntry} {i:Nat},mpInts l=true→(l.map keyI).Nodup→l.findIdx? (keyIs j)=some i→
 mpInts (l.eraseIdx i)=true∧((l.eraseIdx i).map keyI).Nodup∧∀j',mpFind j' (l.eraseIdx i)=if j'=j then none else mpFind j' l
 |[],i,_,_,hi=>by simp at hi
 |e::r,i,h,hn,hi=>by
  simp only[mpInts,Bool.and_eq_true]at h
  simp only[List.map_cons,List.nodup_cons]at hn
  rw[List.findIdx?_cons,keyIs_iff h.1]at hi
  by_cases hk:keyI e=j
  ·simp only[hk,decide_true,if_true,Option.some.injEq]at hi
   subst hi
   simp only[List.eraseIdx_zero,List.tail_cons]
   refine⟨h.2,hn.2,fun j'=>?_⟩
   rw[mpFind_cons h.1]
   by_cases h':j'=j
   ·rw[if_pos h',h'];exact(mpFind_none h.2).2 (by rw[←hk];exact hn.1)
   ·rw[if_neg h',if_neg (fun e'=>h' (by rw[←e',hk]))]
  ·simp only[hk,decide_false,Bool.false_eq_true,if_false,Option.map_eq_some_iff]at hi
   obtain⟨i',hi',rfl⟩:=hi
   obtain⟨a1,a2,a3⟩:=mp_del h.2 hn.2 hi'
   simp only[List.eraseIdx_cons_succ]
   refine⟨by simp only[mpInts,Bool.and_eq_true];exact⟨h.1,a1⟩,?_,fun j'=>?_⟩
   ·simp only[List.map_cons,List.nodup_cons]
    refine⟨fun hm=>hn.1 ?_,a2⟩
    exact List.Sublist.subset ((List.eraseIdx_sublist _ _).map keyI) hm
   ·rw[mpFind_cons h.1,mpFind_cons h.1,a3 j']
    by_cases h':keyI e=j'
    ·rw[if_pos h',if_pos h',if_neg (fun e'=>hk (h'.trans e'))]
    ·rw[if_neg h',if_neg h']
theorem mpSet_A{b:Nat}{g:Int→Option Value}{es:Array MapEntry}{c:Nat}{j:Int}{y:Value}(h1:mpInts es.toList=true)(h2:(es.toList.map keyI).Nodup)(h3:∀j,mpFind j es.toList=g j):
 mpA b (fun i=>if i=j then some y else g i) (one b (mpSet es c (.int .i64 j) j y)):=by
 unfold mpSet
 cases hf:es.toList.findIdx? (keyIs j)with
 |some i=>
  obtain⟨a1,a2,a3⟩:=mp_set (y:=y) h1 hf
  refine⟨_,c,rfl,?_⟩
  rw[Array.toList_modify]
  exact⟨a1,by rw[a2];exact h2,fun j'=>by rw[a3 j',h3 j']⟩
 |none=>
  obtain⟨a1,a2,a3,a4⟩:=mp_push (y:=y) (c:=c) h1 hf
  refine⟨_,c+1,rfl,?_⟩
  rw[Array.toList_push]
  exact⟨a1,by rw[a3];exact List.nodup_append.2 ⟨h2,by simp,fun x hx y hy e=>by simp at hy;subst hy;subst e;exact a2 hx⟩,fun j'=>by rw[a4 j',h3 j']⟩
theorem mpDel_A{b:Nat}{g:Int→Option Value}{es:Array MapEntry}{c:Nat}{j:Int}(h1:mpInts es.toList=true)(h2:(es.toList.map keyI).Nodup)(h3:∀j,mpFind j es.toList=g j):
 mpA b (fun i=>if i=j then none else g i) (one b (mpDel es c j)):=by
 unfold mpDel
 cases hf:es.toList.findIdx? (keyIs j)with
 |some i=>
  obtain⟨a1,a2,a3⟩:=mp_del h1 h2 hf
  refine⟨_,c,rfl,?_⟩
  rw[Array.toList_eraseIdxIfInBounds]
  exact⟨a1,a2,fun j'=>by rw[a3 j',h3 j']⟩
 |none=>
  refine⟨es,c,rfl,h1,h2,fun j'=>?_⟩
  rw[h3 j']
  show g j'=if j'=j then none else g j'
  by_cases e:j'=j
  ·rw[if_pos e,e,←h3 j]
   refine(mpFind_none h1).2 fun hm=>?_
   obtain⟨x,hx,hk⟩:=List.mem_map.1 hm
   have:=List.findIdx?_eq_none_iff.1 hf x hx
   have hx2:∀{l:List MapEntry},mpInts l=true→x∈l→(match x.key with|.int .i64 _=>true|_=>false)=true:=by
    intro l
    induction l with
    |nil=>intro _ h;cases h
    |cons e r ih=>
     intro h hm
     simp only[mpInts,Bool.and_eq_true]at h
     rcases List.mem_cons.1 hm with rfl|hm
     ·exact h.1
     ·exact ih h.2 hm
   rw[keyIs_iff (hx2 h1 hx),hk]at this
   simp at this
  ·rw[if_neg e]
end Go.Proofs.YtpleoapljeffiaaGreatDoor.E
