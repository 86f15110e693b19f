/- A part of the proof: D4 D5 D6. -/
import Derived.Test.YtpcbnjbpdooejaaGreatDoorPae
import Derived.Test.YtpcbnjbpdooejaaGreatDoorPaf
import Derived.Test.YtpcbnjbpdooejaaGreatDoorPad
set_option linter.unusedSimpArgs false
set_option linter.unusedVariables false
set_option maxRecDepth 100000
set_option maxHeartbeats 8000000
namespace Go.AW
open Proofs
set_option maxHeartbeats 4000000
def Qa (n:Int):List AV:=[.v (.int .i64 n)]
theorem QDb (n:Int):idfL (Qa n)=true:=(rfl)
theorem QDf {l:List Int}:idfL (flat Qa l)=true:=QZ QDb l
theorem QFd {l:List Int}:(flat Qa l).length=l.length:=by rw [QW (sz:=1) (fun _=>rfl),Nat.mul_one]
theorem QII {l:List Int} {i:Nat} (hi:i<l.length):(flat Qa l).drop i=.v (.int .i64 l[i])::flat Qa (l.drop (i+1)):=by
 have:=QAh (f:=Qa) (sz:=1) (fun _=>rfl) l i hi
 rwa [Nat.mul_one] at this
attribute [push_cast] QDf QDb QFd QII
theorem QNh (n:Nat) (xs:List AV) (hx:idfL xs=true):QE Tryz.prog [] 236 [.seq n 1 xs] (.clo (.func 250) [] [.rop [.seq n 1 xs]]):=by
 refine QE.start Tryz.func236 rfl zK rfl Tryz.ntmps236 fol zK (by simp [idfL,idf,hx]) (by simp [idf,idfL,hx]) ?_
 refine zz ?_
 exact zC
def runs:List Int→List (Int×Nat)
 | []=>[]
 | x::l=>(x,1+(l.takeWhile (·==x)).length)::runs (l.dropWhile (·==x))
termination_by l=>l.length
decreasing_by
 have:=(List.dropWhile_sublist (l:=l) (fun y=>y==x)).length_le
 simp only [List.length_cons];omega
theorem QLr (l:List Int) (i k:Nat) (hi:i<l.length) (hk:i≤k∧k≤l.length∧∀j,i≤j→j<k→l[j]?=l[i]?) (hs:k=l.length∨∃h:k<l.length,¬l[k]=l[i]):i<k∧runs (l.drop i)=(l[i],k - i)::runs (l.drop k):=by
 have hlt:i<k:=by
  rcases hs with h | ⟨h,h2⟩
  ·omega
  ·rcases Nat.lt_or_ge i k with h3 | h3
   ·exact h3
   ·have:k=i:=by omega
    subst this;exact absurd rfl h2
 refine⟨hlt,?_⟩
 have h1:l.drop i=l[i]::l.drop (i+1):=List.drop_eq_getElem_cons hi
 have h2:l.drop (i+1)=List.replicate (k - i - 1) l[i]++l.drop k:=by
  apply List.ext_getElem?
  intro j
  rw [List.getElem?_drop,List.getElem?_append]
  simp only [List.length_replicate]
  split
  ·rename_i hj
   rw [hk.2.2 _ zo zo,List.getElem?_eq_getElem hi,List.getElem?_replicate]
   simp [hj]
  ·rename_i hj
   rw [List.getElem?_drop]
   congr 1
   omega
 have h3:(l.drop k).takeWhile (·==l[i])=[]∧(l.drop k).dropWhile (·==l[i])=l.drop k:=by
  rcases hs with h | ⟨h,h2⟩
  ·rw [List.drop_eq_nil_of_le zo];simp
  ·have hb:(l[k]==l[i])=false:=by simpa using h2
   rw [List.drop_eq_getElem_cons h]
   simp only [List.takeWhile_cons,List.dropWhile_cons,hb,Bool.false_eq_true,if_false,and_self]
 have h4:∀n:Nat,(List.replicate n l[i]++l.drop k).takeWhile (·==l[i])=List.replicate n l[i]∧(List.replicate n l[i]++l.drop k).dropWhile (·==l[i])=l.drop k:=by
  intro n
  induction n with
  | zero=>simpa using h3
  | succ n ih=>simp only [List.replicate_succ,List.cons_append,List.takeWhile_cons,List.dropWhile_cons,beq_self_eq_true,if_true,ih,and_self]
 rw [h1,runs,h2,(h4 _).1,(h4 _).2,List.length_replicate]
 congr 2
 omega
def runB (p:Int×Nat):List UInt8:=lebU p.2++lebS p.1
theorem QIY:∀rs:List (Int×Nat),(∀p∈rs,(lebU p.2).length≤10∧(lebS p.1).length≤10)→(rs.flatMap runB).length≤20*rs.length
 | [],_=>by simp
 | p::rs,h=>by
  have h1:=h p (by simp)
  have:=QIY rs (fun q hq=>h q (by simp [hq]))
  simp only [List.flatMap_cons,List.length_append,runB,List.length_cons] at*
  omega
def QAI (l:List Int):List UInt8:=lebU (runs l).length++(runs l).flatMap runB
theorem QaJ (l:List Int) (hl:l.length≤1048576) (hr:∀x∈l,-9223372036854775808≤x∧x<9223372036854775808):POwn Tryz.prog [] 195 [.seq l.length 1 (flat Qa l)] (QAI l).length 1 5 (flat QC (QAI l)):=by
 refine POwn.start Tryz.func195 rfl zK rfl Tryz.ntmps195 fol zK (by simp [idfL,idf,QZ QDb]) QQ ?_
 refine zZ ?_
 have hAB:rfG Tryz.prog 195 0=some (_,_):=rfl
 have hA:=QRe hAB
 have hB:=QTC hAB
 clear hAB
 refine (QNh l.length (flat Qa l) (QZ QDb l)).useV ?_
 refine zS ?_
 rw [←hA,←hB]
 refine Qr.start Tryz.func250 rfl zK rfl Tryz.ntmps250 fol zK ?_
 refine zZ ?_
 refine QD (ι:=Nat×List (Int×Nat)) (fun q=>⟨[(0,.yld 104),(1,.rop [.seq l.length 1 (flat Qa l)]),(3,.v (.int .i64 q.1))],⟨[(104,.loop 26 [8,7,4,3,2,0] [.clo (.func 250) [] [.rop [.seq l.length 1 (flat Qa l)]],.seq l.length 1 (flat Qa l),.ptr 56 0,.ptr 29 0,.v (.slice none 0 0),.seq l.length 1 (flat Qa l)] #[9,10] (rfA Tryz.prog 195 0) (rfB Tryz.prog 195 0) .ready none),(56,.cells 154 [.v (.int .u64 q.2.length)] false),(29,.cells 23 [.sl 105 0 (q.2.flatMap runB).length 1] false),(105,.cells 5 (flat QC (q.2.flatMap runB)) true)],106,106,0⟩⟩) (fun q=>q.1≤l.length∧runs l=q.2++runs (l.drop q.1)∧(∀p∈q.2,(lebU p.2).length≤10∧(lebS p.1).length≤10)∧q.2.length≤q.1) (fun q=>l.length - q.1) (0,[]) ⟨Nat.zero_le _,by simp,by simp,Nat.le_refl _⟩ ?_ ?_
 ·refine Ent.freezeN 105 [(104,104),(56,56),(29,29)] [104,29] ?_ ?_ rfl rfl rfl zD rfl rfl
  ·exact zC
  ·exact zC
 rintro⟨i,rs⟩ ⟨hi,hrs,hrb,hrn⟩
 simp only at hi hrs hrb hrn
 have hbl:(rs.flatMap runB).length≤20*rs.length:=QIY rs hrb
 have hrl:rs.length≤l.length:=by omega
 refine zS ?_
 refine⟨fun h=>?_,fun h=>?_⟩
 ·have hi1:i<l.length:=by omega
  have hri:=hr l[i] (List.getElem_mem hi1)
  have hls:=QMn hri.1 hri.2
  refine zS ?_
  refine QD (ι:=Nat) (fun k=>⟨[(0,.yld 104),(1,.rop [.seq l.length 1 (flat Qa l)]),(3,.v (.int .i64 i)),(4,.v (.int .i64 k))],⟨[(104,.loop 26 [8,7,4,3,2,0] [.clo (.func 250) [] [.rop [.seq l.length 1 (flat Qa l)]],.seq l.length 1 (flat Qa l),.ptr 56 0,.ptr 29 0,.v (.slice none 0 0),.seq l.length 1 (flat Qa l)] #[9,10] (rfA Tryz.prog 195 0) (rfB Tryz.prog 195 0) .ready none),(56,.cells 154 [.v (.int .u64 rs.length)] false),(29,.cells 23 [.sl 105 0 (rs.flatMap runB).length 1] false),(105,.cells 5 (flat QC (rs.flatMap runB)) true)],106,106,0⟩⟩) (fun k=>i≤k∧k≤l.length∧∀j,i≤j→j<k→l[j]?=l[i]?) (fun k=>l.length - k) i ⟨Nat.le_refl _,by omega,fun j h1 h2=>by omega⟩ ?_ ?_
  ·refine Ent.freezeN 105 [(104,104),(56,56),(29,29),(105,105)] [104,29] ?_ ?_ rfl rfl rfl zD rfl rfl
   ·exact zC
   ·exact zC
  intro k hk
  refine zS ?_
  refine⟨fun hk1=>?_,fun hk1=>?_⟩
  ·have hk2:k<l.length:=by omega
   refine zS ?_
   refine⟨fun he=>?_,fun he=>?_⟩
   ·refine zS ?_
    refine⟨k+1,⟨by omega,by omega,fun j h1 h2=>?_⟩,zO,?_⟩
    ·rcases Nat.lt_or_ge j k with hj | hj
     ·exact hk.2.2 j h1 hj
     ·have:j=k:=by omega
      subst this
      rw [List.getElem?_eq_getElem hk2,List.getElem?_eq_getElem hi1,he]
    ·refine Ent.freezeN 105 [(104,104),(56,56),(29,29),(105,105)] [104,29] ?_ ?_ rfl rfl rfl zD rfl rfl
     ·exact zC
     ·exact zC
   ·obtain⟨hlt,hrun⟩:=QLr l i k hi1 hk (.inr ⟨hk2,he⟩)
    have hwk:((k:Int) - (i:Int))=((k - i:Nat):Int):=by omega
    refine zS ?_
    refine QD2.enter fol rfl rfl rfl (by rw [hA];kernel_rfl) (by rw [hB];kernel_rfl) ?_
    rw [hA,hB]
    refine zS ?_
    have hlu:=QAA (show k - i<18446744073709551616 by omega)
    rw [hwk]
    refine QO.useN (QCg (k - i) zo) rfl ?_
    refine zS ?_
    refine QO.useN (QLC l[i] hri.1 hri.2) rfl ?_
    refine zS ?_
    rw [←hA,←hB]
    have hfm:(rs++[(l[i],k - i)]).flatMap runB=rs.flatMap runB++lebU (k - i)++lebS l[i]:=by simp [runB]
    refine⟨(k,rs++[(l[i],k - i)]),⟨hk.2.1,by rw [hrs,hrun];simp,fun p hp=>?_,by simp;omega⟩,zO,?_⟩
    ·rcases List.mem_append.1 hp with hp | hp
     ·exact hrb p hp
     ·simp only [List.mem_singleton] at hp;subst hp;exact⟨hlu,hls⟩
    simp only [hfm,List.length_append,List.length_cons,List.length_nil,Nat.zero_add]
    refine Ent.freezeN 105 [(104,104),(56,56),(29,29),(105,279)] [104,29] ?_ ?_ rfl rfl rfl zD rfl rfl
    ·exact zC
    ·exact zC
  ·obtain⟨hlt,hrun⟩:=QLr l i k hi1 hk (.inl zo)
   have hwk:((k:Int) - (i:Int))=((k - i:Nat):Int):=by omega
   refine zS ?_
   refine QD2.enter fol rfl rfl rfl (by rw [hA];kernel_rfl) (by rw [hB];kernel_rfl) ?_
   rw [hA,hB]
   refine zS ?_
   have hlu:=QAA (show k - i<18446744073709551616 by omega)
   rw [hwk]
   refine QO.useN (QCg (k - i) zo) rfl ?_
   refine zS ?_
   refine QO.useN (QLC l[i] hri.1 hri.2) rfl ?_
   refine zS ?_
   rw [←hA,←hB]
   have hfm:(rs++[(l[i],k - i)]).flatMap runB=rs.flatMap runB++lebU (k - i)++lebS l[i]:=by simp [runB]
   refine⟨(k,rs++[(l[i],k - i)]),⟨hk.2.1,by rw [hrs,hrun];simp,fun p hp=>?_,by simp;omega⟩,zO,?_⟩
   ·rcases List.mem_append.1 hp with hp | hp
    ·exact hrb p hp
    ·simp only [List.mem_singleton] at hp;subst hp;exact⟨hlu,hls⟩
   simp only [hfm,List.length_append,List.length_cons,List.length_nil,Nat.zero_add]
   refine Ent.freezeN 105 [(104,104),(56,56),(29,29),(105,279)] [104,29] ?_ ?_ rfl rfl rfl zD rfl rfl
   ·exact zC
   ·exact zC
 ·refine zS ?_
  have hlu:=QAA (show rs.length<18446744073709551616 by omega)
  have hi2:i=l.length:=by omega
  have hend:runs l=rs:=by rw [hrs,hi2,List.drop_length];simp [runs]
  have hRB:QAI l=lebU rs.length++rs.flatMap runB:=by rw [QAI,hend]
  refine QO.useOV (QDo rs.length zo) rfl rfl rfl ?_
  refine zS ?_
  rw [hRB,List.length_append]
  refine Ent.freezeN 0 [(0,169)] [] ?_ ?_ rfl rfl rfl zD rfl rfl
  ·exact zC
  ·exact zC
theorem QRj (l:List Int) (hl:l.length≤1048576) (hr:∀x∈l,-9223372036854775808≤x∧x<9223372036854775808):PNew Tryz.prog [] 195 [.seq l.length 1 (flat Qa l)] (.seq (QAI l).length 1 (flat QC (QAI l))):=(QaJ l hl hr).toNew (by rw [QH,Nat.mul_one])
open Proofs
set_option maxHeartbeats 4000000
theorem Q5 (x:UInt32) (n:Nat) (h:n≤32):QE Tryz.prog [] 238 [.v (.int .u32 x.toNat),.v (.int .u64 n)] (.v (.int .u32 (rotF x n).toNat)):=by
 refine QE.start Tryz.func238 rfl zK rfl Tryz.ntmps238 fol zK (by simp [idfL,idf]) rfl ?_
 refine zz ?_
 have e:((32:Int) - (n:Int)).toNat=32 - n:=by omega
 (have X1:=e;first | exact zC1 | refine zS1 ?_)
 rfl
def bw (blk:List UInt8) (j:Nat):UInt32:=UInt32.ofNat (blk.getD j 0).toNat
def w0 (blk:List UInt8) (i:Nat):UInt32:=shlW (bw blk (4*i)) 24|||shlW (bw blk (4*i+1)) 16|||shlW (bw blk (4*i+2)) 8|||bw blk (4*i+3)
def QM2 (ws:List UInt32) (i:Nat):UInt32:=
 let a:=ws.getD (i - 15) 0
 let b:=ws.getD (i - 2) 0
 ws.getD (i - 16) 0+(rotF a 7 ^^^ rotF a 18 ^^^ shrW a 3)+ws.getD (i - 7) 0+(rotF b 17 ^^^ rotF b 19 ^^^ shrW b 10)
def wsF (blk:List UInt8):Nat→List UInt32
 | 0=>[]
 | i+1=>wsF blk i++[if i<16 then w0 blk i else QM2 (wsF blk i) i]
theorem Qf (blk:List UInt8):∀i,(wsF blk i).length=i
 | 0=>rfl
 | i+1=>by simp [wsF,Qf blk i]
def padW (ws:List UInt32):List UInt32:=ws++List.replicate (64 - ws.length) 0
def QT8 (k w:UInt32) (s:List UInt32):List UInt32:=
 let a:=s.getD 0 0
 let b:=s.getD 1 0
 let c:=s.getD 2 0
 let e:=s.getD 4 0
 let f:=s.getD 5 0
 let g:=s.getD 6 0
 let t:=s.getD 7 0+(rotF e 6 ^^^ rotF e 11 ^^^ rotF e 25)+(e&&&f ^^^ ~~~ e&&&g)+k+w
 let u:=(rotF a 2 ^^^ rotF a 13 ^^^ rotF a 22)+(a&&&b ^^^ a&&&c ^^^ b&&&c)
 [t+u,a,b,c,s.getD 3 0+t,e,f,g]
def rdF (ws st:List UInt32):Nat→List UInt32
 | 0=>st
 | i+1=>QT8 (kR.getD i 0) (ws.getD i 0) (rdF ws st i)
def mixF (st:List UInt32) (blk:List UInt8):List UInt32:=List.zipWith (·+·) st (rdF (wsF blk 64) st 64)
theorem QKr:kR.length=64:=by decide
theorem QHg {ws st:List UInt32} (h:st.length=8):∀i,(rdF ws st i).length=8
 | 0=>h
 | i+1=>rfl
theorem QEW {ws:List UInt32} {v:UInt32} (h:ws.length<64):(padW ws).set ws.length v=padW (ws++[v]):=by
 unfold padW
 obtain⟨k,hk⟩:∃k,64 - ws.length=k+1:=⟨63 - ws.length,by omega⟩
 rw [hk,List.replicate_succ,List.set_append_right _ _ (Nat.le_refl _),Nat.sub_self,List.set_cons_zero]
 simp only [List.length_append,List.length_cons,List.length_nil,List.append_assoc,List.cons_append,List.nil_append]
 congr 3
 omega
theorem QN5 {ws:List UInt32} (h:ws.length≤64):(padW ws).length=64:=by simp [padW];omega
theorem QO2 {ws:List UInt32} {j:Nat} (h:j<ws.length):(padW ws).getD j 0=ws.getD j 0:=by
 simp only [padW,List.getD_eq_getElem?_getD,List.getElem?_append_left h]
def addP (st s:List UInt32) (i:Nat):List UInt32:=(List.zipWith (·+·) st s).take i++st.drop i
theorem QCr (st s:List UInt32) (i:Nat) (h1:st.length=8) (h2:s.length=8):(addP st s i).length=8:=by
 simp only [addP,List.length_append,List.length_take,List.length_drop,List.length_zipWith,h1,h2];omega
theorem QO0 (st s:List UInt32) (i:Nat) (h1:st.length=8) (h2:s.length=8) (hi:i<8):(addP st s i).getD i 0=st.getD i 0:=by
 have:((List.zipWith (·+·) st s).take i).length=i:=by simp [h1,h2];omega
 simp only [addP,List.getD_eq_getElem?_getD]
 rw [List.getElem?_append_right zo,this,Nat.sub_self,List.getElem?_drop]
 simp
theorem QOw (st s:List UInt32) (i:Nat) (h1:st.length=8) (h2:s.length=8) (hi:i<8):(addP st s i).set i (st.getD i 0+s.getD i 0)=addP st s (i+1):=by
 have hl:((List.zipWith (·+·) st s).take i).length=i:=by simp [h1,h2];omega
 simp only [addP]
 rw [List.set_append_right _ _ zo,hl,Nat.sub_self,List.drop_eq_getElem_cons zo,List.set_cons_zero,List.take_succ_eq_append_getElem (by simp [h1,h2];omega)]
 simp only [List.getElem_zipWith,List.append_assoc,List.cons_append,List.nil_append]
 congr 3
 ·rw [List.getD_eq_getElem?_getD,List.getElem?_eq_getElem zo];rfl
 ·rw [List.getD_eq_getElem?_getD,List.getElem?_eq_getElem zo];rfl
def z8:List UInt32:=List.replicate 8 0
theorem tz_260:tz Tryz.prog 260=some (List.replicate 64 (Value.int .u32 0)):=zK
attribute [push_cast] tz_260
theorem mix_c (st:List UInt32) (hst:st.length=8) (blk:List UInt8) (hb:blk.length=64):QE Tryz.prog gK 203 [.agg (flat Qb st),.agg (flat QC blk)] (.agg (flat Qb (mixF st blk))):=by
 refine QE.start Tryz.func203 rfl zK rfl Tryz.ntmps203 fol zK (by simp [idfL,idf,QDs,Qg]) (by simp [idf,QDs]) ?_
 refine zZ ?_
 refine QD (ι:=Nat) (fun i=>⟨[(2,.ptr 2 0),(3,.ptr 3 0),(4,.ptr 4 0),(5,.ptr 5 0),(23,.v (.int .i64 i))],⟨[(2,.cells 208 (flat Qb st) false),(3,.cells 248 (flat QC blk) false),(4,.cells 208 (flat Qb z8) false),(5,.cells 260 (flat Qb (padW (wsF blk i))) false)],6,6,0⟩⟩) (fun i=>i≤16) (fun i=>16 - i) 0 (Nat.zero_le _) ?_ ?_
 ·refine Ent.freezeN 0 [(2,2),(3,3),(4,4),(5,216)] [] ?_ ?_ rfl rfl rfl zD rfl rfl
  ·exact zC
  ·first | exact zC | refine zS ?_
   exact⟨rfl,rfl⟩
 intro i hi
 have hpl:(padW (wsF blk i)).length=64:=by simp [padW,Qf];omega
 refine zS ?_
 refine⟨fun h=>?_,fun h=>?_⟩
 ·have h':i<16:=by omega
  have e0:(4*(i:Int)).toNat=4*i:=by omega
  have e1:(4*(i:Int)+1).toNat=4*i+1:=by omega
  have e2:(4*(i:Int)+2).toNat=4*i+2:=by omega
  have e3:(4*(i:Int)+3).toNat=4*i+3:=by omega
  have g0:(flat QC blk)[4*i]?=_:=QBm zo
  have g1:(flat QC blk)[4*i+1]?=_:=QBm zo
  have g2:(flat QC blk)[4*i+2]?=_:=QBm zo
  have g3:(flat QC blk)[4*i+3]?=_:=QBm zo
  have hset:(padW (wsF blk i)).set i (w0 blk i)=padW (wsF blk (i+1)):=by
   have:=QEW (ws:=wsF blk i) (v:=w0 blk i) (by rw [Qf];omega)
   rw [Qf] at this
   rw [this,wsF,if_pos h']
  have hset':(padW (wsF blk i)).set i (shlW (UInt32.ofNat (blk.getD (4*i) 0).toNat) (Int.toNat 24)|||shlW (UInt32.ofNat (blk.getD (4*i+1) 0).toNat) (Int.toNat 16)|||shlW (UInt32.ofNat (blk.getD (4*i+2) 0).toNat) (Int.toNat 8)|||UInt32.ofNat (blk.getD (4*i+3) 0).toNat)=padW (wsF blk (i+1)):=hset
  (have X1:=e0;have X2:=e1;have X3:=e2;have X4:=e3;have X5:=g0;have X6:=g1;have X7:=g2;have X8:=g3;have X9:=hpl;refine zS9 ?_;clear X1 X2 X3 X4 X5 X6 X7 X8 X9)
  refine⟨i+1,zO,zO,?_⟩
  refine Ent.freezeN 0 [(2,2),(3,3),(4,4),(5,5)] [] ?_ ?_ rfl rfl rfl zD rfl rfl
  ·exact zC
  ·(have X1:=hset';exact zC1)
 ·have hi16:i=16:=by omega
  subst hi16
  refine zS ?_
  refine QD (ι:=Nat) (fun i=>⟨[(2,.ptr 2 0),(4,.ptr 4 0),(5,.ptr 5 0),(7,.v (.int .i64 i))],⟨[(2,.cells 208 (flat Qb st) false),(4,.cells 208 (flat Qb z8) false),(5,.cells 260 (flat Qb (padW (wsF blk i))) false)],6,6,0⟩⟩) (fun i=>16≤i∧i≤64) (fun i=>64 - i) 16 ⟨Nat.le_refl _,by omega⟩ ?_ ?_
  ·refine Ent.freezeN 0 [(2,2),(4,4),(5,5)] [] ?_ ?_ rfl rfl rfl zD rfl rfl
   ·first | exact zC | refine zS ?_
    rfl
   ·exact zC
  clear hi hpl h
  intro i hi
  have hpl:(padW (wsF blk i)).length=64:=QN5 (by rw [Qf];exact hi.2)
  refine zS ?_
  refine⟨fun h=>?_,fun h=>?_⟩
  ·have h':i<64:=by omega
   have get:∀j,j<i→(flat Qb (padW (wsF blk i)))[j]?=some (.v (.int .u32 (((wsF blk i).getD j 0).toNat:Nat))):=fun j hj=>by
    rw [QB7 zo,QO2 (by rw [Qf];exact hj)]
   have e15:((i:Int) - 15).toNat=i - 15:=by omega
   have e2:((i:Int) - 2).toNat=i - 2:=by omega
   have e16:((i:Int) - 16).toNat=i - 16:=by omega
   have e7:((i:Int) - 7).toNat=i - 7:=by omega
   have g15:=get (i - 15) zo
   have g2:=get (i - 2) zo
   have g16:=get (i - 16) zo
   have g7:=get (i - 7) zo
   have hset:(padW (wsF blk i)).set i (QM2 (wsF blk i) i)=padW (wsF blk (i+1)):=by
    have:=QEW (ws:=wsF blk i) (v:=QM2 (wsF blk i) i) (by rw [Qf];omega)
    rw [Qf] at this
    rw [this,wsF,if_neg zo]
   unfold QM2 at hset
   simp only at hset
   (have X1:=e15;have X2:=e2;have X3:=e16;have X4:=e7;have X5:=g15;have X6:=g2;have X7:=g16;have X8:=g7;refine zS8 ?_;clear X1 X2 X3 X4 X5 X6 X7 X8)
   refine QO.useV (Q5 _ 7 zD).gam rfl ?_
   (have X1:=e15;have X2:=e2;have X3:=e16;have X4:=e7;have X5:=g15;have X6:=g2;have X7:=g16;have X8:=g7;refine zS8 ?_;clear X1 X2 X3 X4 X5 X6 X7 X8)
   refine QO.useV (Q5 _ 18 zD).gam rfl ?_
   (have X1:=e15;have X2:=e2;have X3:=e16;have X4:=e7;have X5:=g15;have X6:=g2;have X7:=g16;have X8:=g7;refine zS8 ?_;clear X1 X2 X3 X4 X5 X6 X7 X8)
   refine QO.useV (Q5 _ 17 zD).gam rfl ?_
   (have X1:=e15;have X2:=e2;have X3:=e16;have X4:=e7;have X5:=g15;have X6:=g2;have X7:=g16;have X8:=g7;refine zS8 ?_;clear X1 X2 X3 X4 X5 X6 X7 X8)
   refine QO.useV (Q5 _ 19 zD).gam rfl ?_
   (have X1:=e15;have X2:=e2;have X3:=e16;have X4:=e7;have X5:=g15;have X6:=g2;have X7:=g16;have X8:=g7;refine zS8 ?_;clear X1 X2 X3 X4 X5 X6 X7 X8)
   refine⟨i+1,⟨by omega,by omega⟩,zO,?_⟩
   refine Ent.freezeN 0 [(2,2),(4,4),(5,5)] [] ?_ ?_ rfl rfl rfl zD rfl rfl
   ·exact zC
   ·(have X1:=hset;exact zC1)
  ·have hi64:i=64:=by omega
   subst hi64
   refine zS ?_
   have hpw:padW (wsF blk 64)=wsF blk 64:=by simp [padW,Qf]
   rw [hpw]
   refine QD (ι:=Nat) (fun i=>⟨[(2,.ptr 2 0),(4,.ptr 4 0),(5,.ptr 5 0),(10,.v (.int .u32 (((rdF (wsF blk 64) st i).getD 0 0).toNat:Nat))),(11,.v (.int .u32 (((rdF (wsF blk 64) st i).getD 1 0).toNat:Nat))),(12,.v (.int .u32 (((rdF (wsF blk 64) st i).getD 2 0).toNat:Nat))),(13,.v (.int .u32 (((rdF (wsF blk 64) st i).getD 3 0).toNat:Nat))),(14,.v (.int .u32 (((rdF (wsF blk 64) st i).getD 4 0).toNat:Nat))),(15,.v (.int .u32 (((rdF (wsF blk 64) st i).getD 5 0).toNat:Nat))),(16,.v (.int .u32 (((rdF (wsF blk 64) st i).getD 6 0).toNat:Nat))),(17,.v (.int .u32 (((rdF (wsF blk 64) st i).getD 7 0).toNat:Nat))),(127,.v (.int .i64 i))],⟨[(2,.cells 208 (flat Qb st) false),(4,.cells 208 (flat Qb z8) false),(5,.cells 260 (flat Qb (wsF blk 64)) false)],6,6,0⟩⟩) (fun i=>i≤64) (fun i=>64 - i) 0 (Nat.zero_le _) ?_ ?_
   ·refine Ent.freezeN 0 [(2,2),(4,4),(5,5)] [] ?_ ?_ rfl rfl rfl zD rfl rfl
    ·first | exact zC | refine zS ?_
     exact⟨rfl,rfl,rfl,rfl,rfl,rfl,rfl,rfl⟩
    ·exact zC
   clear hi hpl h
   intro i hi
   refine zS ?_
   refine⟨fun h=>?_,fun h=>?_⟩
   ·have h':i<64:=by omega
    have hk:i<kR.length:=by rw [QKr];exact h'
    have hw:i<(wsF blk 64).length:=by rw [Qf];exact h'
    have hkd:=QPi hk
    have hnext:rdF (wsF blk 64) st (i+1)=QT8 (kR.getD i 0) ((wsF blk 64).getD i 0) (rdF (wsF blk 64) st i):=rfl
    generalize rdF (wsF blk 64) st i=s at hnext ⊢
    (have X1:=hkd;refine zS1 ?_;clear X1)
    refine QO.useV (Q5 _ 6 zD).gam rfl ?_
    (have X1:=hkd;refine zS1 ?_;clear X1)
    refine QO.useV (Q5 _ 11 zD).gam rfl ?_
    (have X1:=hkd;refine zS1 ?_;clear X1)
    refine QO.useV (Q5 _ 25 zD).gam rfl ?_
    (have X1:=hkd;refine zS1 ?_;clear X1)
    refine (Q5 _ 2 zD).gam.useV ?_
    (have X1:=hkd;refine zS1 ?_;clear X1)
    refine (Q5 _ 13 zD).gam.useV ?_
    (have X1:=hkd;refine zS1 ?_;clear X1)
    refine (Q5 _ 22 zD).gam.useV ?_
    (have X1:=hkd;refine zS1 ?_;clear X1)
    refine⟨i+1,zO,zO,?_⟩
    simp only [hnext]
    refine Ent.freezeN 0 [(2,2),(4,4),(5,5)] [] ?_ ?_ rfl rfl rfl zD rfl rfl
    ·first | exact zC | refine zS ?_
     exact⟨rfl,rfl,rfl,rfl,rfl,rfl,rfl,rfl⟩
    ·exact zC
   ·have hi64:i=64:=by omega
    subst hi64
    refine zS ?_
    obtain⟨x0,x1,x2,x3,x4,x5,x6,x7,hx⟩:∃x0 x1 x2 x3 x4 x5 x6 x7,rdF (wsF blk 64) st 64=[x0,x1,x2,x3,x4,x5,x6,x7]:=⟨_,_,_,_,_,_,_,_,rfl⟩
    have hmix:mixF st blk=List.zipWith (·+·) st [x0,x1,x2,x3,x4,x5,x6,x7]:=by rw [mixF,hx]
    rw [hmix,hx]
    have hag:AV.agg [.v (.int .u32 (x0.toNat:Nat)),.v (.int .u32 (x1.toNat:Nat)),.v (.int .u32 (x2.toNat:Nat)),.v (.int .u32 (x3.toNat:Nat)),.v (.int .u32 (x4.toNat:Nat)),.v (.int .u32 (x5.toNat:Nat)),.v (.int .u32 (x6.toNat:Nat)),.v (.int .u32 (x7.toNat:Nat))]=.agg (flat Qb [x0,x1,x2,x3,x4,x5,x6,x7]):=rfl
    have hxl:[x0,x1,x2,x3,x4,x5,x6,x7].length=8:=rfl
    simp only [List.getD_cons_zero,List.getD_cons_succ]
    rw [hag]
    generalize [x0,x1,x2,x3,x4,x5,x6,x7]=s at hxl
    refine QD (ι:=Nat) (fun i=>⟨[(2,.ptr 2 0),(4,.ptr 4 0),(198,.agg (flat Qb s)),(199,.v (.int .i64 i))],⟨[(2,.cells 208 (flat Qb (addP st s i)) false),(4,.cells 208 (flat Qb z8) false)],6,6,0⟩⟩) (fun i=>i≤8) (fun i=>8 - i) 0 (Nat.zero_le _) ?_ ?_
    ·refine Ent.freezeN 0 [(2,2),(4,4)] [] ?_ ?_ rfl rfl rfl zD rfl rfl
     ·exact zC
     ·first | exact zC | refine zS ?_
      rfl
    clear hi h
    intro i hi
    refine zS ?_
    refine⟨fun h=>?_,fun h=>?_⟩
    ·have h':i<8:=by omega
     have hal:=QCr st s i hst hxl
     have hset:=QOw st s i hst hxl h'
     have hget:=QO0 st s i hst hxl h'
     (have X1:=hget;refine zS1 ?_;clear X1)
     rw [hset]
     refine⟨i+1,zO,zO,?_⟩
     refine Ent.freezeN 0 [(2,2),(4,4)] [] ?_ ?_ rfl rfl rfl zD rfl rfl
     ·exact zC
     ·exact zC
    ·have hi8:i=8:=by omega
     subst hi8
     have hfin:addP st s 8=List.zipWith (·+·) st s:=by
      simp only [addP]
      rw [List.take_of_length_le (by simp [hst,hxl]),List.drop_eq_nil_of_le zo,List.append_nil]
     have hal:=QCr st s 8 hst hxl
     have hzl:z8.length=8:=rfl
     (have X1:=hal;have X2:=hzl;refine zS2 ?_;clear X1 X2)
     have ht:List.take 8 (flat Qb (addP st s 8))=flat Qb (addP st s 8):=List.take_of_length_le (by rw [QI,hal];exact Nat.le_refl _)
     have hsl:setL (flat Qb z8) 0 (flat Qb (addP st s 8))=flat Qb (addP st s 8):=QAK (by rw [QI,QI,hal,hzl])
     rw [ht,hsl,ht]
     have hzz:(List.zipWith (·+·) st s).length=8:=by rw [←hfin];exact hal
     (have X1:=hal;have X2:=hfin;have X3:=hzz;exact zC3)
open Proofs
set_option maxHeartbeats 4000000
theorem QDn {a:List AV}:∀{cs b:List AV} {i:Nat},setL (a++b) (a.length+i) cs=a++setL b i cs
 | [],b,i=>rfl
 | c::cs,b,i=>by
  simp only [setL]
  rw [List.set_append_right _ _ (Nat.le_add_right _ _),Nat.add_sub_cancel_left,Nat.add_assoc,QDn]
theorem QEq:∀{cs a b:List AV} {i:Nat},i+cs.length≤a.length→setL (a++b) i cs=setL a i cs++b
 | [],a,b,i,_=>rfl
 | c::cs,a,b,i,h=>by
  simp only [List.length_cons] at h
  simp only [setL]
  rw [List.set_append_left _ _ zo,QEq (by simp;omega)]
def setU (w:List UInt8) (h:Nat) (q:List UInt8):List UInt8:=w.take h++q++w.drop (h+q.length)
theorem QEN {w:List UInt8} {h:Nat} {q:List UInt8} (hl:h+q.length≤w.length):(setU w h q).length=w.length:=by
 simp only [setU,List.length_append,List.length_take,List.length_drop];omega
theorem QaL:∀{q w:List UInt8} {h:Nat},h+q.length≤w.length→setL (flat QC w) h (flat QC q)=flat QC (setU w h q)
 | [],w,h,_=>by simp [setU,setL,flat]
 | c::q,w,h,hl=>by
  simp only [List.length_cons] at hl
  have e:flat QC (c::q)=.v (.int .u8 c.toNat)::flat QC q:=rfl
  rw [e,setL,QL5,QaL (by simp;omega)]
  congr 1
  simp only [setU,List.length_cons]
  rw [List.take_succ_eq_append_getElem (by simp;omega),List.getElem_set_self,List.take_set_of_le (Nat.le_refl _),List.drop_set_of_lt zo]
  rw [show h+1+q.length=h+(q.length+1) by omega]
  simp only [List.append_assoc,List.cons_append,List.nil_append]
def hcells (st:List UInt32) (wait:List UInt8) (held n:Int):List AV:=flat Qb st++(flat QC wait++[.v (.int .i64 held),.v (.int .i64 n)])
section
variable {st : List UInt32} {wait : List UInt8} {held n : Int}
theorem Ql (h1:st.length=8) (h2:wait.length=64):(hcells st wait held n).length=74:=by simp [hcells,QI,QH,h1,h2]
theorem QQB:idfL (hcells st wait held n)=true:=by simp [hcells,Qy,QDs,Qg,idfL,idf]
attribute [push_cast] QQB
theorem QKm (h1:st.length=8):(hcells st wait held n).take 8=flat Qb st:=by
 rw [hcells,List.take_append_of_le_length (by rw [QI];omega),List.take_of_length_le (by rw [QI];omega)]
theorem QGe (h1:st.length=8) (h2:wait.length=64):((hcells st wait held n).drop 8).take 64=flat QC wait:=by
 rw [hcells,List.drop_left' (by rw [QI,h1]),List.take_left' (by rw [QH,h2])]
theorem QEP (h1:st.length=8) (h2:wait.length=64):(hcells st wait held n)[72]?=some (.v (.int .i64 held)):=by
 rw [hcells,List.getElem?_append_right (by rw [QI,h1];decide),QI,h1,List.getElem?_append_right (by rw [QH,h2];decide),QH,h2];rfl
theorem QO1 (h1:st.length=8) (h2:wait.length=64):(hcells st wait held n)[73]?=some (.v (.int .i64 n)):=by
 rw [hcells,List.getElem?_append_right (by rw [QI,h1];decide),QI,h1,List.getElem?_append_right (by rw [QH,h2];decide),QH,h2];rfl
theorem QNM (h1:st.length=8) (h2:wait.length=64) {x:Int}:(hcells st wait held n).set 73 (.v (.int .i64 x))=hcells st wait held x:=by
 rw [hcells,List.set_append_right _ _ (by rw [QI,h1];decide),QI,h1,List.set_append_right _ _ (by rw [QH,h2];decide),QH,h2];rfl
theorem QEO (h1:st.length=8) (h2:wait.length=64) {x:Int}:(hcells st wait held n).set 72 (.v (.int .i64 x))=hcells st wait x n:=by
 rw [hcells,List.set_append_right _ _ (by rw [QI,h1];decide),QI,h1,List.set_append_right _ _ (by rw [QH,h2];decide),QH,h2];rfl
theorem QHI (h1:st.length=8) {st':List UInt32} (h3:st'.length=8):setL (hcells st wait held n) 0 (flat Qb st')=hcells st' wait held n:=by
 rw [hcells,QEq (by rw [QI,QI];omega),QAK (by rw [QI,QI,h1,h3])];rfl
theorem QMr (h1:st.length=8) (h2:wait.length=64) {q:List UInt8} {h:Nat} (hq:h+q.length≤64):setL (hcells st wait held n) (8+h) (flat QC q)=hcells st (setU wait h q) held n:=by
 have:(flat Qb st).length=8:=by rw [QI,h1]
 rw [hcells,←this,QDn,QEq (by rw [QH,QH];omega),QaL zo];rfl
end
def wrF:Nat→List UInt32→List UInt8→Nat→List UInt8→List UInt32×List UInt8×Nat
 | 0,st,wait,held,_=>(st,wait,held)
 | f+1,st,wait,held,p=>if p.length=0 then (st,wait,held) else
   let k:=min p.length (64 - held)
   if held+k=64 then wrF f (mixF st (setU wait held (p.take k))) (setU wait held (p.take k)) 0 (p.drop k)
   else wrF f st (setU wait held (p.take k)) (held+k) (p.drop k)
theorem QCt {st:List UInt32} {blk:List UInt8} (h:st.length=8):(mixF st blk).length=8:=by
 rw [mixF,List.length_zipWith,QHg h,h];rfl
theorem QRc:QLl Tryz.prog 192=some 0:=zK
attribute [push_cast] QRc
theorem QIz (st:List UInt32) (wait p:List UInt8) (held n:Nat) (hst:st.length=8) (hw:wait.length=64) (hh:held<64) (hn:n+p.length≤4611686018427387904):
  QM Tryz.prog gK 152 [.ptr 0 0,.seq p.length 1 (flat QC p)] [(0,.cells 250 (hcells st wait held n) false)] 1 (.tup [])
   [(0,.cells 250 (hcells (wrF p.length st wait held p).1 (wrF p.length st wait held p).2.1 (wrF p.length st wait held p).2.2 ((n:Int)+p.length)) false)] 1:=by
 refine QM.start Tryz.func152 rfl zK rfl Tryz.ntmps152 fol zK (Nat.le_refl _) ?_
 refine zz ?_
 simp (maxSteps:=400000) (disch:=first | omega | exact okT rfl | simp only [push_cast]) only [push_cast,↓QG,↓reduceIte,Nat.reduceAdd,Nat.reduceMul,Nat.reduceSub,Nat.reduceEqDiff,Nat.reduceBEq,Nat.reduceBNe,Nat.reduceLT,Nat.reduceLeDiff,reduceCtorEq,Op.operands,QA,QB,Nat.sub_zero,QO1 hst hw,QNM hst hw,Ql hst hw]
 refine QD (ι:=List UInt32×List UInt8×Nat×List UInt8×Nat) (fun q=>⟨[(0,.ptr 0 0),(1,.seq q.2.2.2.1.length 1 (flat QC q.2.2.2.1))],⟨[(0,.cells 250 (hcells q.1 q.2.1 q.2.2.1 ((n:Int)+p.length)) false)],1,1,0⟩⟩)
  (fun q=>q.1.length=8∧q.2.1.length=64∧q.2.2.1<64∧q.2.2.2.1.length≤q.2.2.2.2∧q.2.2.2.1.length≤p.length∧wrF p.length st wait held p=wrF q.2.2.2.2 q.1 q.2.1 q.2.2.1 q.2.2.2.1) (fun q=>q.2.2.2.1.length) (st,wait,held,p,p.length) ⟨hst,hw,hh,Nat.le_refl _,Nat.le_refl _,rfl⟩ ?_ ?_
 ·refine Ent.freezeN 1 [(0,0)] [] ?_ ?_ rfl rfl rfl zD rfl rfl
  ·exact zC
  ·exact zC
 rintro⟨st1,wait1,held1,p1,f⟩ ⟨h1,h2,h3,h4,h5,h6⟩
 simp only at h1 h2 h3 h4 h5 h6
 rw [h6]
 refine zS ?_
 refine⟨fun h=>?_,fun h=>?_⟩
 ·have hp:0<p1.length:=by omega
  obtain⟨g,rfl⟩:∃g,f=g+1:=⟨f - 1,by omega⟩
  obtain⟨k,hk⟩:∃k,k=min p1.length (64 - held1):=⟨_,rfl⟩
  have hk1:k≤p1.length:=by omega
  have hk2:held1+k≤64:=by omega
  have hk3:0<k:=by omega
  have hkt:(p1.take k).length=k:=by rw [List.length_take];omega
  obtain⟨w1,hw1⟩:∃w1,w1=setU wait1 held1 (p1.take k):=⟨_,rfl⟩
  have h2':w1.length=64:=by rw [hw1,QEN (by rw [hkt,h2];exact hk2),h2]
  have hset:∀N,setL (hcells st1 wait1 held1 N) (8+held1) (List.take k (flat QC p1))=hcells st1 w1 held1 N:=fun N=>by
   rw [QT,QMr h1 h2 (by rw [hkt];exact hk2),←hw1]
  have hmk:=QCt (st:=st1) (blk:=w1) h1
  simp (maxSteps:=400000) (disch:=first | omega | exact okT rfl | simp only [push_cast]) only [push_cast,↓QG,↓reduceIte,Nat.reduceAdd,Nat.reduceMul,Nat.reduceSub,Nat.reduceEqDiff,Nat.reduceBEq,Nat.reduceBNe,Nat.reduceLT,Nat.reduceLeDiff,reduceCtorEq,Op.operands,QA,QB,Nat.sub_zero,QEP h1 h2,Ql h1 h2,QEO h1 h2,←hk,hset,QEP h1 h2',Ql h1 h2',QEO h1 h2']
  have hwr:wrF (g+1) st1 wait1 held1 p1=if held1+k=64 then wrF g (mixF st1 w1) w1 0 (p1.drop k) else wrF g st1 w1 (held1+k) (p1.drop k):=by
   rw [wrF,if_neg zo];simp only [←hk,←hw1]
  have hdl:(p1.drop k).length=p1.length - k:=List.length_drop
  refine⟨fun he=>?_,fun he=>?_⟩
  ·have he':held1+k=64:=by omega
   rw [if_pos he'] at hwr
   simp (maxSteps:=400000) (disch:=first | omega | exact okT rfl | simp only [push_cast]) only [push_cast,↓QG,↓reduceIte,Nat.reduceAdd,Nat.reduceMul,Nat.reduceSub,Nat.reduceEqDiff,Nat.reduceBEq,Nat.reduceBNe,Nat.reduceLT,Nat.reduceLeDiff,reduceCtorEq,Op.operands,QA,QB,Nat.sub_zero,QKm h1,QGe h1 h2',Ql h1 h2']
   refine QO.useV (mix_c st1 h1 w1 h2') rfl ?_
   simp (maxSteps:=400000) (disch:=first | omega | exact okT rfl | simp only [push_cast]) only [push_cast,↓QG,↓reduceIte,Nat.reduceAdd,Nat.reduceMul,Nat.reduceSub,Nat.reduceEqDiff,Nat.reduceBEq,Nat.reduceBNe,Nat.reduceLT,Nat.reduceLeDiff,reduceCtorEq,Op.operands,QA,QB,Nat.sub_zero,QKm h1,QGe h1 h2',Ql h1 h2',QHI h1 hmk,QEO hmk h2',Ql hmk h2',hmk]
   refine⟨(mixF st1 w1,w1,0,p1.drop k,g),⟨hmk,h2',(by show 0<64;decide),(by show (p1.drop k).length≤g;rw [hdl];omega),(by show (p1.drop k).length≤p.length;rw [hdl];omega),by rw [hwr]⟩,zO,?_⟩
   simp only [hdl]
   have hdt:List.take (p1.length - k) (List.drop k (flat QC p1))=flat QC (p1.drop k):=by rw [QL,QGx (by rw [hdl];exact Nat.le_refl _)]
   refine Ent.freezeN 1 [(0,0)] [] ?_ ?_ rfl rfl rfl zD rfl rfl
   ·(have X1:=hdt;exact zC1)
   ·exact zC
  ·have he':¬held1+k=64:=by omega
   rw [if_neg he'] at hwr
   refine zS ?_
   refine⟨(st1,w1,held1+k,p1.drop k,g),⟨h1,h2',(zO),(by show (p1.drop k).length≤g;rw [hdl];omega),(by show (p1.drop k).length≤p.length;rw [hdl];omega),by rw [hwr]⟩,zO,?_⟩
   simp only [hdl]
   have hdt:List.take (p1.length - k) (List.drop k (flat QC p1))=flat QC (p1.drop k):=by rw [QL,QGx (by rw [hdl];exact Nat.le_refl _)]
   refine Ent.freezeN 1 [(0,0)] [] ?_ ?_ rfl rfl rfl zD rfl rfl
   ·(have X1:=hdt;exact zC1)
   ·exact zC
 ·have hp:p1=[]:=by
   rcases p1 with _ | ⟨a,l⟩
   ·rfl
   ·simp at h
  subst hp
  have hz:wrF f st1 wait1 held1 []=(st1,wait1,held1):=by cases f<;>simp [wrF]
  rw [hz]
  refine zS ?_
  refine Ent.freezeN 1 [(0,0)] [] ?_ ?_ rfl rfl rfl zD rfl rfl
  ·exact zC
  ·exact zC
end Go.AW
