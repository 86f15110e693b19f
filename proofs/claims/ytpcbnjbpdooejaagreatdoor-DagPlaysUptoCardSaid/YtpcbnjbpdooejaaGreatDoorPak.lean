/- A part of the proof: D25 D26 D27. -/
import Derived.Test.YtpcbnjbpdooejaaGreatDoorPae
import Derived.Test.YtpcbnjbpdooejaaGreatDoorPaj
set_option linter.unusedSimpArgs false
set_option linter.unusedVariables false
set_option maxRecDepth 100000
set_option maxHeartbeats 8000000
namespace Go.AW
open Proofs
def QFh (rs:List (Int×Nat)) (x:Int):List (Int×Nat):=match rs.getLast? with
 | some p=>if p.1=x then rs.dropLast++[(p.1,p.2+1)] else rs++[(x,1)]
 | none=>[(x,1)]
theorem QH3 {rs:List (Int×Nat)} {x:Int} {n:Nat}:QFh (rs++[(x,n)]) x=rs++[(x,n+1)]:=by simp [QFh]
theorem QRH {rs:List (Int×Nat)} {x y:Int} {n:Nat} (h:x≠y):QFh (rs++[(x,n)]) y=rs++[(x,n)]++[(y,1)]:=by simp [QFh,h]
theorem QJ1 {x:Int}:∀(k:Nat) (rs:List (Int×Nat)) (n:Nat),(List.replicate k x).foldl QFh (rs++[(x,n)])=rs++[(x,n+k)]
 | 0,rs,n=>rfl
 | k+1,rs,n=>by rw [List.replicate_succ,List.foldl_cons,QH3,QJ1 k rs (n+1)];congr 3;omega
theorem QD1 {p:Int→Bool} {b:Int}:∀{l:List Int},b∈l.takeWhile p→p b=true
 | [],h=>by simp at h
 | a::l,h=>by
  rw [List.takeWhile_cons] at h
  split at h
  ·rcases List.mem_cons.1 h with e | e
   ·rw [e];assumption
   ·exact QD1 e
  ·simp at h
theorem QHq:∀(m:Nat) (l:List Int),l.length≤m→∀rs:List (Int×Nat),(∀p,rs.getLast?=some p→∀x,l.head?=some x→p.1≠x)→l.foldl QFh rs=rs++runs l
 | _,[],_,rs,_=>by simp [runs]
 | 0,_::_,h,_,_=>by simp at h
 | m+1,x::l,h,rs,hr=>by
  have h1:QFh rs x=rs++[(x,1)]:=by
   rw [QFh]
   cases e:rs.getLast? with
   | none=>simp [List.getLast?_eq_none_iff.1 e]
   | some p=>simp [hr p e x rfl]
  have h2:l=List.replicate (l.takeWhile (·==x)).length x++l.dropWhile (·==x):=by
   conv=>lhs;rw [←List.takeWhile_append_dropWhile (p:=(·==x)) (l:=l)]
   congr 1
   apply List.eq_replicate_iff.2
   refine⟨rfl,fun b hb=>?_⟩
   exact eq_of_beq (QD1 (p:=fun y=>y==x) hb)
  rw [List.foldl_cons,h1,runs]
  conv=>lhs;rw [h2]
  rw [List.foldl_append,QJ1,QHq m]
  ·simp
  ·have:=(List.dropWhile_sublist (l:=l) (fun y=>y==x)).length_le
   simp only [List.length_cons] at h;omega
  ·intro p hp y hy
   simp only [List.getLast?_append,List.getLast?_singleton,Option.some_or,Option.some.injEq] at hp
   subst hp
   intro e
   simp only at e
   subst e
   have:=List.head?_dropWhile_not (fun y=>y==x) l
   rw [hy] at this
   simp at this
def QD3 (l:List Int):List (Int×Nat):=l.foldl QFh []
theorem QKQ (l:List Int):QD3 l=runs l:=by rw [QD3,QHq l.length l (Nat.le_refl _) [] (by simp)];simp
def QBC (p:Int×Nat):List AV:=[.v (.int .i64 p.2),.v (.int .i64 p.1)]
theorem QCz (p:Int×Nat):(QBC p).length=2:=rfl
theorem QNg {l:List (Int×Nat)}:idfL (flat QBC l)=true:=QZ (fun _=>rfl) l
theorem QBK {l:List (Int×Nat)}:(flat QBC l).length=l.length*2:=QW QCz _
theorem QEU {l:List (Int×Nat)} {x:Int} {n:Nat}:flat QBC l++[.v (.int .i64 n),.v (.int .i64 x)]=flat QBC (l++[(x,n)]):=by simp [flat,QBC]
theorem QLR {l:List (Int×Nat)} {x:Int}:flat QBC l++[.v (.int .i64 1),.v (.int .i64 x)]=flat QBC (l++[(x,1)]):=by simp [flat,QBC]
theorem p2flat_get {l:List (Int×Nat)} {x:Int} {n:Nat}:(flat QBC (l++[(x,n)]))[l.length*2]?=some (.v (.int .i64 n)):=by
 rw [←QEU,List.getElem?_append_right (by rw [QBK];exact Nat.le_refl _),QBK,Nat.sub_self];rfl
theorem QQp {l:List (Int×Nat)} {x:Int} {n m:Nat}:(flat QBC (l++[(x,n)])).set (l.length*2) (.v (.int .i64 m))=flat QBC (l++[(x,m)]):=by
 rw [←QEU,List.set_append_right _ _ (by rw [QBK];exact Nat.le_refl _),QBK,Nat.sub_self,←QEU];rfl
attribute [push_cast] QNg QCz QBK QLR
theorem QVt (l:List Int) (hl:l.length≤1048576):QE Tryz.prog [] 247 [.seq l.length 1 (flat Qa l)] (.seq (QD3 l).length 2 (flat QBC (QD3 l))):=by
 refine QE.start Tryz.func247 rfl zK rfl Tryz.ntmps247 fol zK (by simp [idfL,idf,QZ QS,QS,Qg,Qy,QDf,QNg]) (by simp [idfL,idf,QZ QS,QS,Qg,Qy,QDf,QNg]) ?_
 refine zZ ?_
 refine QD (ι:=Nat×List (Int×Nat)) (fun q=>⟨[(0,.seq l.length 1 (flat Qa l)),(3,.sl 0 0 q.2.length 2),(4,.v (.int .i64 q.1))],⟨[(0,.cells 301 (flat QBC q.2) true)],1,1,0⟩⟩) (fun q=>q.1≤l.length∧q.2=QD3 (l.take q.1)∧q.2.length≤q.1∧(0<q.1→∃rs n,q.2=rs++[(l.getD (q.1 - 1) 0,n)]∧n≤q.1)) (fun q=>l.length - q.1) (0,[]) ⟨Nat.zero_le _,rfl,Nat.le_refl _,fun h=>absurd h zD⟩ ?_ ?_
 ·exact fzN 0 [] []
 rintro⟨i,rs⟩ ⟨hi,hs,hn,hq⟩
 simp only at hi hs hn hq
 refine zS ?_
 refine⟨fun h1=>?_,fun h1=>?_⟩
 ·have hi1:i<l.length:=by omega
  have hst:QD3 (l.take (i+1))=QFh rs l[i]:=by
   rw [List.take_succ_eq_append_getElem hi1,QD3,List.foldl_append,hs];rfl
  refine zS ?_
  refine⟨fun h2=>?_,fun h2=>?_⟩
  ·obtain⟨rs0,n,rfl,hnn⟩:=hq zo
   have e1:((i:Int) - 1).toNat=i - 1:=by omega
   have e2:((rs0.length:Int)+1 - 1).toNat=rs0.length:=by omega
   simp only [List.length_append,List.length_cons,List.length_nil,Nat.zero_add] at hn
   have hgi:l.getD (i+1 - 1) 0=l[i]:=by rw [Nat.add_sub_cancel,List.getD_eq_getElem?_getD,List.getElem?_eq_getElem hi1];rfl
   have hget:l.getD (i - 1) 0=l[i - 1]:=by rw [List.getD_eq_getElem?_getD,List.getElem?_eq_getElem zo];rfl
   have hlen:(rs0++[(l.getD (i - 1) 0,n)]).length=rs0.length+1:=by simp
   (have X1:=e1;refine zS1 ?_;clear X1)
   refine⟨fun h3=>?_,fun h3=>?_⟩
   ·have e3:QFh (rs0++[(l.getD (i - 1) 0,n)]) l[i]=rs0++[(l.getD (i - 1) 0,n+1)]:=by rw [h3,←hget,QH3]
    have hset:∀x:Int,(flat QBC (rs0++[(x,n)])).set (rs0.length*2) (.v (.int .i64 ((n:Int)+1)))=flat QBC (rs0++[(x,n+1)]):=fun x=>QQp (m:=n+1)
    (have X1:=e1;have X2:=e2;have X3:=@p2flat_get;have X4:=hset;refine zS4 ?_;clear X1 X2 X3 X4)
    refine⟨(i+1,rs0++[(l.getD (i - 1) 0,n+1)]),⟨hi1,by rw [hst,e3],by simp;omega,fun _=>⟨rs0,n+1,by rw [hgi,h3,hget],by omega⟩⟩,zO,?_⟩
    (have X1:=@List.length_append.{0};have X2:=@List.length_cons.{0};have X3:=@List.length_nil.{0};exact fzN3 0 [(0,0)] [])
   ·have e3:QFh (rs0++[(l.getD (i - 1) 0,n)]) l[i]=rs0++[(l.getD (i - 1) 0,n)]++[(l[i],1)]:=by rw [QRH (by rw [hget];exact fun e=>h3 e.symm)]
    (have X1:=e1;have X2:=e2;refine zS2 ?_;clear X1 X2)
    refine⟨(i+1,rs0++[(l.getD (i - 1) 0,n)]++[(l[i],1)]),⟨hi1,by rw [hst,e3],by simp;omega,fun _=>⟨_,1,by rw [hgi],by omega⟩⟩,zO,?_⟩
    (have X1:=@List.length_append.{0};have X2:=@List.length_cons.{0};have X3:=@List.length_nil.{0};exact fzN3 0 [(0,131)] [])
  ·obtain rfl:i=0:=by omega
   obtain rfl:rs=[]:=by rw [hs];rfl
   refine zS ?_
   refine⟨(1,[(l[0],1)]),⟨hi1,by rw [show 1=0+1 from rfl,hst];rfl,by simp,fun _=>⟨[],1,by simp [List.getD_eq_getElem?_getD,List.getElem?_eq_getElem hi1],by omega⟩⟩,zO,?_⟩
   (have X1:=@List.length_cons.{0};have X2:=@List.length_nil.{0};refine fzNM 0 [(0,131)] [] ?_ ?_<;>first | exact zC2 | refine zS2 ?_)
   rfl
 ·refine zS ?_
  have hi1:i=l.length:=by omega
  subst hi1
  rw [hs,List.take_length]
open Proofs
theorem QJK:∀(m:Nat) (l:List Int),l.length≤m→(runs l).length≤l.length∧∀p∈runs l,p.1∈l∧p.2≤l.length∧1≤p.2
 | _,[],_=>by simp [runs]
 | 0,_::_,h=>by simp at h
 | m+1,x::l,h=>by
  have h1:=(List.dropWhile_sublist (l:=l) (fun y=>y==x)).length_le
  have h2:=(List.takeWhile_sublist (l:=l) (fun y=>y==x)).length_le
  simp only [List.length_cons] at h
  obtain⟨k1,k2⟩:=QJK m (l.dropWhile (·==x)) zo
  rw [runs]
  refine⟨by simp only [List.length_cons];omega,fun p hp=>?_⟩
  rcases List.mem_cons.1 hp with e | e
  ·subst e;simp;omega
  ·obtain⟨a,b,c⟩:=k2 p e
   exact⟨List.mem_cons_of_mem _ ((List.dropWhile_sublist _).subset a),by simp only [List.length_cons];omega,c⟩
theorem QIw (l:List Int) (hl:l.length≤1048576) (hr:∀x∈l,-9223372036854775808≤x∧x<9223372036854775808):POwn Tryz.prog [] 233 [.seq l.length 1 (flat Qa l)] (QAI l).length 1 5 (flat QC (QAI l)):=by
 refine POwn.start Tryz.func233 rfl zK rfl Tryz.ntmps233 fol zK (by simp [idfL,idf,QZ QS,QS,Qg,Qy,QDf]) (by simp [QQ,QDf]) ?_
 refine zZ ?_
 refine (QVt l hl).useV ?_
 refine zS ?_
 obtain⟨hl1,hl2⟩:=QJK l.length l (Nat.le_refl _)
 rw [←QKQ] at hl1 hl2
 have hRB:QAI l=lebU (QD3 l).length++(QD3 l).flatMap runB:=by rw [QAI,QKQ]
 rw [hRB]
 generalize QD3 l=rs at*
 have hw:IntKind.u64.wrap (rs.length:Int)=rs.length:=QU zo zo
 rw [hw]
 have hlu:=QAA (show rs.length<18446744073709551616 by omega)
 refine POwn.useV (QGw rs.length zo) ?_
 refine zS ?_
 refine QD (ι:=Nat×List UInt8) (fun q=>⟨[(3,.seq rs.length 2 (flat QBC rs)),(4,.sl 0 0 q.2.length 1),(5,.v (.int .i64 q.1))],⟨[(0,.cells 5 (flat QC q.2) true)],1,1,0⟩⟩) (fun q=>q.1≤rs.length∧q.2=lebU rs.length++(rs.take q.1).flatMap runB∧q.2.length≤10+20*q.1) (fun q=>rs.length - q.1) (0,lebU rs.length) ⟨Nat.zero_le _,by simp,by simpa using hlu⟩ ?_ ?_
 ·exact fzN 0 [(0,105)] []
 rintro⟨i,acc⟩ ⟨hi,ha,hn⟩
 simp only at hi ha hn
 refine zS ?_
 refine⟨fun h1=>?_,fun h1=>?_⟩
 ·have hi1:i<rs.length:=by omega
  obtain⟨k1,k2,k3⟩:=hl2 rs[i] (List.getElem_mem hi1)
  have hri:=hr _ k1
  have hls:=QMn hri.1 hri.2
  have hlu2:=QAA (show rs[i].2<18446744073709551616 by omega)
  have hw2:IntKind.u64.wrap (rs[i].2:Int)=rs[i].2:=QU zo zo
  have hdr:List.drop (i*2) (flat QBC rs)=.v (.int .i64 rs[i].2)::.v (.int .i64 rs[i].1)::flat QBC (rs.drop (i+1)):=by
   have:=QAh (f:=QBC) (sz:=2) QCz rs i hi1
   rw [this];rfl
  (have X1:=hw2;have X2:=hdr;have X3:=@List.getElem?_cons_succ.{0};refine zS3 ?_;clear X1 X2 X3)
  refine QO.useN (QIn rs[i].2 zo) rfl ?_
  (have X1:=hdr;have X2:=@List.getElem?_cons_succ.{0};refine zS2 ?_;clear X1 X2)
  refine QO.useN (QaE rs[i].1 hri.1 hri.2) rfl ?_
  (have X1:=hdr;refine zS1 ?_;clear X1)
  refine⟨(i+1,acc++lebU rs[i].2++lebS rs[i].1),⟨hi1,?_,?_⟩,zO,?_⟩
  ·show acc++lebU rs[i].2++lebS rs[i].1=lebU rs.length++(rs.take (i+1)).flatMap runB
   rw [List.take_succ_eq_append_getElem hi1,List.flatMap_append,ha]
   simp only [List.flatMap_cons,List.flatMap_nil,runB,List.append_nil,List.append_assoc]
  ·simp only [List.length_append];omega
  ·(have X1:=@List.length_append.{0};have X2:=@Nat.add_assoc;exact fzN2 0 [(0,69)] [])
 ·have hi1:i=rs.length:=by omega
  subst hi1
  rw [List.take_length] at ha
  subst ha
  refine zS ?_
  (have X1:=@List.length_append.{0};exact fzN1 0 [(0,0)] [])
def QAU (last:Int):List Int→List Int
 | []=>[]
 | x::l=>IntKind.i64.wrap (x - last)::QAU x l
theorem Qn:∀(l:List Int) (a:Int),(QAU a l).length=l.length
 | [],_=>rfl
 | x::l,a=>by simp [QAU,Qn l x]
theorem QDd {y:Int}:∀(l:List Int) (a:Int),QAU a (l++[y])=QAU a l++[IntKind.i64.wrap (y - (l.getLast?.getD a))]
 | [],_=>rfl
 | x::l,a=>by
  rw [List.cons_append,QAU,QAU,QDd l x]
  cases l<;>simp [List.getLast?_cons]
theorem QCS:∀(l:List Int) (a:Int),∀x∈QAU a l,-9223372036854775808≤x∧x<9223372036854775808
 | [],_,x,h=>by simp [QAU] at h
 | y::l,a,x,h=>by
  rcases List.mem_cons.1 h with e | e
  ·rw [e];exact QAi _
  ·exact QCS l y x e
theorem jflat_snoc {l:List Int} {x:Int}:flat Qa l++[.v (.int .i64 x)]=flat Qa (l++[x]):=by simp [flat,Qa]
theorem Qec {l:List Int} {n:Nat} (h:l.length≤n):(flat Qa l).take n=flat Qa l:=List.take_of_length_le (by rw [QFd];exact h)
theorem jflat_set {l:List Int} {i:Nat} {x:Int}:(flat Qa l).set i (.v (.int .i64 x))=flat Qa (l.set i x):=by
 induction l generalizing i with
 | nil=>simp [flat]
 | cons a l ih=>cases i with
  | zero=>simp [flat,Qa]
  | succ i=>simp only [flat,List.flatMap_cons,Qa,List.cons_append,List.nil_append,List.set_cons_succ] at*; rw [ih]
theorem QDT {l:List Int} {i:Nat} (h:i<l.length):(flat Qa l)[i]?=some (.v (.int .i64 l[i])):=by
 have h1:=QII h
 have h2:=List.getElem?_drop (xs:=flat Qa l) (i:=i) (j:=0)
 rw [h1] at h2
 exact h2.symm
theorem QQh {n:Nat}:(List.replicate n [AV.v (.int .i64 0)]).flatten=flat Qa (List.replicate n 0):=by
 induction n with
 | zero=>rfl
 | succ n ih=>rw [List.replicate_succ,List.replicate_succ,List.flatten_cons,ih];rfl
theorem QZK (l:List Int) (hl:l.length≤1048576):QE Tryz.prog [] 249 [.seq l.length 1 (flat Qa l)] (.seq (QAU 0 l).length 1 (flat Qa (QAU 0 l))):=by
 refine QE.start Tryz.func249 rfl zK rfl Tryz.ntmps249 fol zK (by simp [idfL,idf,QZ QS,QS,Qg,Qy,QDf]) (by simp [idfL,idf,QZ QS,QS,Qg,Qy,QDf]) ?_
 refine zZ ?_
 refine QD (ι:=Nat×List Int×Int) (fun q=>⟨[(0,.seq l.length 1 (flat Qa l)),(3,.sl 0 0 q.2.1.length 1),(4,.v (.int .i64 q.2.2)),(5,.v (.int .i64 q.1))],⟨[(0,.cells 2 (flat Qa q.2.1) true)],1,1,0⟩⟩) (fun q=>q.1≤l.length∧q.2.1=QAU 0 (l.take q.1)∧q.2.2=(l.take q.1).getLast?.getD 0) (fun q=>l.length - q.1) (0,[],0) ⟨Nat.zero_le _,rfl,rfl⟩ ?_ ?_
 ·exact fzN 0 [] []
 rintro⟨i,acc,z⟩ ⟨hi,ha,hz⟩
 simp only at hi ha hz
 have hal:acc.length≤1048576:=by rw [ha,Qn];simp;omega
 refine zS ?_
 refine⟨fun h1=>?_,fun h1=>?_⟩
 ·have hi1:i<l.length:=by omega
  (have X1:=@jflat_snoc;refine zS1 ?_;clear X1)
  refine⟨(i+1,acc++[IntKind.i64.wrap (l[i] - z)],l[i]),⟨hi1,?_,?_⟩,zO,?_⟩
  ·rw [List.take_succ_eq_append_getElem hi1,QDd,ha,hz]
  ·show l[i]=((l.take (i+1)).getLast?).getD 0
   rw [List.take_succ_eq_append_getElem hi1,List.getLast?_append];rfl
  ·(have X1:=@List.length_append.{0};have X2:=@List.length_cons.{0};have X3:=@List.length_nil.{0};exact fzN3 0 [(0,47)] [])
 ·have hi1:i=l.length:=by omega
  subst hi1
  rw [List.take_length] at ha
  subst ha
  (have X1:=@Qec;exact zC1)
theorem Qch {A:List Int} {k:Nat} {y z:Int}:(A++z::List.replicate k 0).set A.length y=A++y::List.replicate k 0:=by
 rw [List.set_append_right _ _ (Nat.le_refl _),Nat.sub_self];rfl
theorem QZM (l:List Int) (hl:l.length≤1048576) (hr:∀x∈l,-9223372036854775808≤x∧x<9223372036854775808):POwn Tryz.prog [] 199 [.seq l.length 1 (flat Qa l)] (QAI (QAU 0 l)).length 1 5 (flat QC (QAI (QAU 0 l))):=by
 refine POwn.start Tryz.func199 rfl zK rfl Tryz.ntmps199 fol zK (by simp [idfL,idf,QZ QS,QS,Qg,Qy,QDf]) (by simp [QQ,QDf]) ?_
 refine zZ ?_
 rw [show ∀n,(List.replicate n [AV.v (.int .i64 0)]).flatten=flat Qa (List.replicate n 0) from fun n=>QQh]
 refine QD (ι:=Nat×List Int) (fun q=>⟨[(0,.seq l.length 1 (flat Qa l)),(3,.sl 0 0 l.length 1),(9,.seq l.length 1 (flat Qa l)),(10,.v (.int .i64 l.length)),(11,.v (.int .i64 q.1))],⟨[(0,.cells 2 (flat Qa q.2) true)],1,1,0⟩⟩) (fun q=>q.1≤l.length∧q.2=QAU 0 (l.take q.1)++List.replicate (l.length - q.1) 0) (fun q=>l.length - q.1) (0,List.replicate l.length 0) ⟨Nat.zero_le _,by simp [QAU]⟩ ?_ ?_
 ·exact fzN 0 [(0,44)] []
 rintro⟨i,d⟩ ⟨hi,hd⟩
 simp only at hi hd
 have hdl:d.length=l.length:=by rw [hd,List.length_append,Qn,List.length_replicate];simp;omega
 refine zS ?_
 refine⟨fun h1=>?_,fun h1=>?_⟩
 ·have hi1:i<l.length:=by omega
  have hset:∀y z,d.set i y=QAU 0 (l.take i)++y::List.replicate (l.length - (i+1)) 0∧(d.set i y).set i z=QAU 0 (l.take i)++z::List.replicate (l.length - (i+1)) 0:=fun y z=>by
   have hl1:(QAU 0 (l.take i)).length=i:=by rw [Qn];simp;omega
   have h3:=fun y z=>Qch (A:=QAU 0 (l.take i)) (k:=l.length - (i+1)) (y:=y) (z:=z)
   rw [hl1] at h3
   have h4:d=QAU 0 (l.take i)++0::List.replicate (l.length - (i+1)) 0:=by
    rw [hd,show l.length - i=(l.length - (i+1))+1 by omega,List.replicate_succ]
   rw [h4,h3,h3];exact⟨rfl,rfl⟩
  (have X1:=@jflat_set;have X2:=@List.length_set.{0};have X3:=hdl;refine zS3 ?_;clear X1 X2 X3)
  refine⟨fun h2=>?_,fun h2=>?_⟩
  ·have e1:((i:Int) - 1).toNat=i - 1:=by omega
   have hg1:(flat Qa (d.set i l[i]))[i]?=some (.v (.int .i64 l[i])):=by
    rw [QDT (by simp;omega)];simp
   (have X1:=@jflat_set;have X2:=e1;have X3:=hg1;have X4:=@List.length_set.{0};have X5:=hdl;refine zS5 ?_;clear X1 X2 X3 X4 X5)
   refine⟨(i+1,(d.set i l[i]).set i (IntKind.i64.wrap (l[i] - l[i - 1]))),⟨hi1,?_⟩,zO,?_⟩
   ·have:(l.take i).getLast?.getD 0=l[i - 1]:=by
     obtain⟨j,rfl⟩:∃j,i=j+1:=⟨i - 1,by omega⟩
     rw [List.take_succ_eq_append_getElem zo,List.getLast?_append];rfl
    show (d.set i l[i]).set i (IntKind.i64.wrap (l[i] - l[i - 1]))=_
    rw [(hset _ _).2,List.take_succ_eq_append_getElem hi1,QDd,this];simp
   exact fzN 0 [(0,0)] []
  ·obtain rfl:i=0:=by omega
   (have X1:=@jflat_set;have X2:=@List.length_set.{0};have X3:=hdl;refine zS3 ?_;clear X1 X2 X3)
   have hr0:=hr l[0] (List.getElem_mem hi1)
   refine⟨(1,d.set 0 l[0]),⟨hi1,?_⟩,zO,?_⟩
   ·show d.set 0 l[0]=QAU 0 (l.take (0+1))++_
    rw [(hset l[0] 0).1,List.take_succ_eq_append_getElem hi1,QDd]
    simp only [List.take_zero,List.getLast?_nil,Option.getD_none,Int.sub_zero]
    rw [QAN hr0.1 (by have:=hr0.2;omega)];simp
   exact fzN 0 [(0,0)] []
 ·have hi1:i=l.length:=by omega
  subst hi1
  have hd2:d=QAU 0 l:=by rw [hd,List.take_length,Nat.sub_self];simp
  subst hd2
  have hR:=QaJ (QAU 0 l) (by rw [Qn];exact hl) (QCS l 0)
  rw [Qn] at hR
  refine zS ?_
  refine POwn.use (ids:=[0]) hR ?_ ?_
  ·(have X1:=@Qec;exact zCN1)
  ·refine zS ?_
   exact fzN 0 [(0,73)] []
theorem QSx (l:List Int) (hl:l.length≤1048576) (hr:∀x∈l,-9223372036854775808≤x∧x<9223372036854775808):POwn Tryz.prog [] 234 [.seq l.length 1 (flat Qa l)] (QAI (QAU 0 l)).length 1 5 (flat QC (QAI (QAU 0 l))):=by
 refine POwn.start Tryz.func234 rfl zK rfl Tryz.ntmps234 fol zK (by simp [idfL,idf,QZ QS,QS,Qg,Qy,QDf]) (by simp [QQ,QDf]) ?_
 refine zZ ?_
 refine (QZK l hl).useV ?_
 refine zS ?_
 refine POwn.useV (QIw (QAU 0 l) (by rw [Qn];exact hl) (QCS l 0)) ?_
 refine zS ?_
 exact fzN 0 [(0,12)] []
theorem QVd (l:List Int) (hl:l.length≤1048576) (hr:∀x∈l,-9223372036854775808≤x∧x<9223372036854775808):PNew Tryz.prog [] 199 [.seq l.length 1 (flat Qa l)] (.seq (QAI (QAU 0 l)).length 1 (flat QC (QAI (QAU 0 l)))):=(QZM l hl hr).toNew (by rw [QH,Nat.mul_one])
open Proofs
def grF (GU:List UInt8→UInt64×Nat×Nat) (GI:List UInt8→Int×Nat×Nat) (most:Nat):Nat→List UInt8→List Int→Nat→List Int×Nat×Nat
 | 0,_,acc,used=>(acc,used,0)
 | n+1,b,acc,used=>if (GU b).2.2≠0 then ([],0,(GU b).2.2) else
  if (GU b).1.toNat=0 then ([],0,4) else if most - acc.length<(GU b).1.toNat then ([],0,5) else
  if (GI (b.drop (GU b).2.1)).2.2≠0 then ([],0,(GI (b.drop (GU b).2.1)).2.2) else
  if acc.getLast?=some (GI (b.drop (GU b).2.1)).1 then ([],0,4) else
  grF GU GI most n (b.drop ((GU b).2.1+(GI (b.drop (GU b).2.1)).2.1)) (acc++List.replicate (GU b).1.toNat (GI (b.drop (GU b).2.1)).1) (used+(GU b).2.1+(GI (b.drop (GU b).2.1)).2.1)
def Qe (GU:List UInt8→UInt64×Nat×Nat) (GI:List UInt8→Int×Nat×Nat) (most:Nat) (b:List UInt8):List Int×Nat×Nat:=
 if (GU b).2.2≠0 then ([],0,(GU b).2.2) else if most<(GU b).1.toNat then ([],0,5) else grF GU GI most (GU b).1.toNat (b.drop (GU b).2.1) [] (GU b).2.1
theorem QMo:∀(b:List UInt8) (i:Nat) (n:Int) (p:UInt8),(getI i n p b).2.1≤i+b.length∧(getI i n p b).2.2≤4
 | [],i,n,p=>by simp [getI]
 | x::l,i,n,p=>by
  have h:=QMo l (i+1) (orI n (shlI (x&&&~~~128).toNat (7*i))) x
  rw [getI]
  split
  ·simp
  ·split
   ·simp only [List.length_cons];omega
   ·split
    ·simp
    ·simp only [List.length_cons];omega
def grV (R:List Int×Nat×Nat):AV:=if R.2.2=0 then .tup [.sl 0 0 R.1.length 1,.v (.int .i64 R.2.1),.v (.int .i64 0)] else .tup [.v (.slice none 0 0),.v (.int .i64 0),.v (.int .i64 R.2.2)]
def grO (R:List Int×Nat×Nat):List (Nat×AObj):=if R.2.2=0 then [(0,.cells 2 (flat Qa R.1) true)] else []
theorem Qaq {R:List Int×Nat×Nat} {e:Nat} (h:R=([],0,e)) (he:e≠0):grV R=.tup [.v (.slice none 0 0),.v (.int .i64 0),.v (.int .i64 e)]∧grO R=[]:=by
 subst h;exact⟨if_neg he,if_neg he⟩
theorem QOb {R:List Int×Nat×Nat} {l:List Int} {u:Nat} (h:R=(l,u,0)):grV R=.tup [.sl 0 0 l.length 1,.v (.int .i64 u),.v (.int .i64 0)]∧grO R=[(0,.cells 2 (flat Qa l) true)]:=by
 subst h;exact⟨if_pos rfl,if_pos rfl⟩
theorem QEv (b:List UInt8) (hb:b.length≤1048576):QM Tryz.prog [] 169 [.seq b.length 1 (flat QC b),.v (.int .i64 256)] [] 0 (grV (Qe (getU 0 0) (getI 0 0 0) 256 b)) (grO (Qe (getU 0 0) (getI 0 0 0) 256 b)) 1:=by
 refine QM.start Tryz.func169 rfl zK rfl Tryz.ntmps169 fol zK zD ?_
 refine zZ ?_
 refine (QTQ 256).useV ?_
 have hbn:bndF 256=256:=by decide
 rw [hbn]
 refine zS ?_
 refine (QAo b zo).useV ?_
 obtain⟨k1,k2⟩:=QCn b 0 0
 obtain⟨R,hR⟩:∃R,R=Qe (getU 0 0) (getI 0 0 0) 256 b:=⟨_,rfl⟩
 rw [←hR]
 rw [Qe] at hR
 generalize getU 0 0 b=q at k1 k2 hR ⊢
 obtain⟨n,k,e⟩:=q
 simp only at k1 k2 hR
 have err:∀f:Nat,R=([],0,f)→f≠0→grV R=.tup [.v (.slice none 0 0),.v (.int .i64 0),.v (.int .i64 f)]∧grO R=[]:=fun f=>Qaq
 (have X1:=@guR.eq_1;refine zS1 ?_;clear X1)
 refine⟨fun he=>?_,fun he=>?_⟩
 ·rw [if_neg zo] at hR
  refine zS ?_
  refine⟨fun hm=>?_,fun hm=>?_⟩
  ·rw [if_pos zo] at hR
   obtain⟨r1,r2⟩:=err 5 hR zD
   rw [r1,r2]
   refine zS ?_
   refine QD (ι:=Unit) (fun _=>⟨[(6,.v (.int .i64 5))],⟨[],0,0,0⟩⟩) (fun _=>True) (fun _=>0) () trivial ?_ ?_
   ·exact fzN 0 [] []
   intro _ _
   refine zS ?_
   iterate 14 all_goals (try (refine And.intro (fun _=>?_) (fun _=>?_)<;>try first | exact zC | refine zS ?_))
   all_goals first
    | (exfalso;omega)
    | ((refine fzNM 0 [] [] ?_ ?_<;>first | exact zC | refine zS ?_);done)
    | ((refine fzNM 0 [] [] ?_ ?_<;>first | exact zC | refine zS ?_);rfl)
  ·rw [if_neg zo] at hR
   refine zS ?_
   refine QD (ι:=Nat×List Int×Nat) (fun q=>⟨[(0,.seq b.length 1 (flat QC b)),(1,.v (.int .i64 256)),(4,.sl 0 0 q.2.1.length 1),(5,.v (.int .i64 q.2.2)),(6,.v (.int .i64 0)),(7,.v (.int .u64 q.1))],⟨[(0,.cells 2 (flat Qa q.2.1) true)],1,1,0⟩⟩)
    (fun q=>grF (getU 0 0) (getI 0 0 0) 256 q.1 (b.drop q.2.2) q.2.1 q.2.2=R∧q.2.2≤b.length∧q.2.1.length≤256∧q.1≤256) (fun q=>q.1) (n.toNat,[],k) ⟨hR.symm,zO,by simp,zO⟩ ?_ ?_
   ·obtain rfl:e=0:=by omega
    exact fzN 0 [] []
   rintro⟨m,acc,used⟩ ⟨hg,hu,ha,hn⟩
   simp only at hg hu ha hn
   refine zS ?_
   refine⟨fun h1=>?_,fun h1=>?_⟩
   ·obtain⟨m,rfl⟩:∃j,m=j+1:=⟨m - 1,by omega⟩
    rw [grF] at hg
    obtain⟨c,hc⟩:∃c,c=b.drop used:=⟨_,rfl⟩
    have hcl:c.length=b.length - used:=by rw [hc,List.length_drop]
    have hd:List.take (b.length - used) (List.drop used (flat QC b))=flat QC c:=by
     rw [QL,QT,←hc,List.take_of_length_le zo]
    rw [←hc] at hg
    have hG:=QAo c zo
    rw [hcl] at hG
    (have X1:=hd;refine zS1 ?_;clear X1)
    refine hG.useV ?_
    obtain⟨j1,j2⟩:=QCn c 0 0
    generalize getU 0 0 c=q1 at j1 j2 hg ⊢
    obtain⟨many,k1,f⟩:=q1
    simp only at j1 j2 hg
    obtain⟨d,hdd⟩:∃d,d=c.drop k1:=⟨_,rfl⟩
    have hdl:d.length=b.length - (used+k1):=by rw [hdd,List.length_drop];omega
    have hd2:List.take (b.length - (used+k1)) (List.drop (used+k1) (flat QC b))=flat QC d:=by
     rw [QL,QT,hdd,hc,List.drop_drop,List.take_of_length_le (by rw [List.length_drop];exact Nat.le_refl _)]
    rw [←hdd] at hg
    have hI:=QKj d zo
    rw [hdl] at hI
    have hw:IntKind.u64.wrap ((256:Int) - acc.length)=256 - acc.length:=QU zo zo
    (have X1:=@guR.eq_1;refine zS1 ?_;clear X1)
    refine⟨fun hf=>?_,fun hf=>?_⟩
    ·rw [if_pos zo] at hg
     obtain⟨r1,r2⟩:=err f hg.symm zo
     rw [r1,r2]
     refine zS ?_
     exact fzN 0 [] []
    ·obtain rfl:f=0:=by omega
     rw [if_neg zo] at hg
     (have X1:=hw;refine zS1 ?_;clear X1)
     refine⟨fun hm0=>?_,fun hm0=>?_⟩
     ·rw [if_pos zo] at hg
      obtain⟨r1,r2⟩:=err 4 hg.symm zD
      rw [r1,r2]
      refine zS ?_
      refine fzNM 0 [] [] ?_ ?_<;>first | exact zC | refine zS ?_
      try rfl
     ·rw [if_neg zo] at hg
      (have X1:=hw;refine zS1 ?_;clear X1)
      refine⟨fun hm1=>?_,fun hm1=>?_⟩
      ·rw [if_pos zo] at hg
       obtain⟨r1,r2⟩:=err 5 hg.symm zD
       rw [r1,r2]
       refine zS ?_
       refine fzNM 0 [] [] ?_ ?_<;>first | exact zC | refine zS ?_
       try rfl
      ·rw [if_neg zo] at hg
       have e0:((used:Int)+(k1:Int)).toNat=used+k1:=by omega
       (have X1:=hw;have X2:=e0;have X3:=hd2;refine zS3 ?_;clear X1 X2 X3)
       refine hI.useV ?_
       obtain⟨i1,i2⟩:=QMo d 0 0 0
       generalize getI 0 0 0 d=q2 at i1 i2 hg ⊢
       obtain⟨v,k2,f2⟩:=q2
       simp only at i1 i2 hg
       (have X1:=@giR.eq_1;refine zS1 ?_;clear X1)
       refine⟨fun hf2=>?_,fun hf2=>?_⟩
       ·obtain rfl:f2=0:=by omega
        rw [if_neg zo] at hg
        refine zS ?_
        refine⟨fun hal=>?_,fun hal=>?_⟩
        ·have e1:((acc.length:Int) - 1).toNat=acc.length - 1:=by omega
         have hgl:(flat Qa acc)[acc.length - 1]?=some (.v (.int .i64 (acc[acc.length - 1]'zo))):=QDT zo
         have hlast:acc.getLast?=some (acc[acc.length - 1]'zo):=by rw [List.getLast?_eq_getElem?,List.getElem?_eq_getElem]
         (have X1:=e1;have X2:=hgl;refine zS2 ?_;clear X1 X2)
         refine⟨fun hv=>?_,fun hv=>?_⟩
         ·rw [if_pos (by rw [hlast,hv])] at hg
          obtain⟨r1,r2⟩:=err 4 hg.symm zD
          rw [r1,r2]
          refine zS ?_
          iterate 14 all_goals (try (refine And.intro (fun _=>?_) (fun _=>?_)<;>try first | exact zC | refine zS ?_))
          all_goals first
           | (exfalso;omega)
           | ((refine fzNM 0 [] [] ?_ ?_<;>first | exact zC | refine zS ?_);done)
           | ((refine fzNM 0 [] [] ?_ ?_<;>first | exact zC | refine zS ?_);rfl)
         ·rw [if_neg (by rw [hlast];simpa using hv)] at hg
          refine zS ?_
          refine QD (ι:=Nat×List Int) (fun q=>⟨[(0,.seq b.length 1 (flat QC b)),(1,.v (.int .i64 256)),(4,.sl 0 0 q.2.length 1),(5,.v (.int .i64 used)),(6,.v (.int .i64 0)),(7,.v (.int .u64 ((m:Int)+1))),(9,.v (.int .i64 k1)),(11,.v (.int .i64 v)),(12,.v (.int .i64 k2)),(90,.v (.int .u64 many.toNat)),(91,.v (.int .u64 q.1))],⟨[(0,.cells 2 (flat Qa q.2) true)],1,1,0⟩⟩)
           (fun q=>q.1≤many.toNat∧q.2=acc++List.replicate q.1 v) (fun q=>many.toNat - q.1) (0,acc) ⟨Nat.zero_le _,by simp⟩ ?_ ?_
          ·exact fzN 0 [(0,0)] []
          rintro⟨t,l⟩ ⟨ht,htl⟩
          simp only at ht htl
          have hll:l.length=acc.length+t:=by rw [htl];simp
          refine zS ?_
          refine⟨fun h2=>?_,fun h2=>?_⟩
          ·(have X1:=@jflat_snoc;refine zS1 ?_;clear X1)
           refine⟨(t+1,l++[v]),⟨zO,by show l++[v]=acc++List.replicate (t+1) v;rw [htl,List.replicate_succ',List.append_assoc]⟩,zO,?_⟩
           (have X1:=@List.length_append.{0};have X2:=@List.length_cons.{0};have X3:=@List.length_nil.{0};exact fzN3 0 [(0,205)] [])
          ·obtain rfl:t=many.toNat:=by omega
           rw [hc,List.drop_drop] at hg
           refine zS ?_
           refine⟨(m,l,used+k1+k2),⟨?_,?_,?_,?_⟩,zO,?_⟩
           ·show grF (getU 0 0) (getI 0 0 0) 256 m (b.drop (used+k1+k2)) l (used+k1+k2)=R
            rw [htl,←hg,Nat.add_assoc]
           ·show used+k1+k2≤b.length
            omega
           ·show l.length≤256
            omega
           ·show m≤256
            omega
           ·have e5:((m:Int)+1 - 1)=m:=by omega
            (have X1:=@Int.add_assoc;have X2:=e5;exact fzN2 0 [(0,0)] [])
        ·have hacc:acc=[]:=List.eq_nil_of_length_eq_zero zo
         rw [if_neg (by rw [hacc];simp)] at hg
         refine zS ?_
         refine QD (ι:=Nat×List Int) (fun q=>⟨[(0,.seq b.length 1 (flat QC b)),(1,.v (.int .i64 256)),(4,.sl 0 0 q.2.length 1),(5,.v (.int .i64 used)),(6,.v (.int .i64 0)),(7,.v (.int .u64 ((m:Int)+1))),(9,.v (.int .i64 k1)),(11,.v (.int .i64 v)),(12,.v (.int .i64 k2)),(90,.v (.int .u64 many.toNat)),(91,.v (.int .u64 q.1))],⟨[(0,.cells 2 (flat Qa q.2) true)],1,1,0⟩⟩)
          (fun q=>q.1≤many.toNat∧q.2=acc++List.replicate q.1 v) (fun q=>many.toNat - q.1) (0,acc) ⟨Nat.zero_le _,by simp⟩ ?_ ?_
         ·exact fzN 0 [(0,0)] []
         rintro⟨t,l⟩ ⟨ht,htl⟩
         simp only at ht htl
         have hll:l.length=acc.length+t:=by rw [htl];simp
         refine zS ?_
         refine⟨fun h2=>?_,fun h2=>?_⟩
         ·(have X1:=@jflat_snoc;refine zS1 ?_;clear X1)
          refine⟨(t+1,l++[v]),⟨zO,by show l++[v]=acc++List.replicate (t+1) v;rw [htl,List.replicate_succ',List.append_assoc]⟩,zO,?_⟩
          (have X1:=@List.length_append.{0};have X2:=@List.length_cons.{0};have X3:=@List.length_nil.{0};exact fzN3 0 [(0,205)] [])
         ·obtain rfl:t=many.toNat:=by omega
          rw [hc,List.drop_drop] at hg
          refine zS ?_
          refine⟨(m,l,used+k1+k2),⟨?_,?_,?_,?_⟩,zO,?_⟩
          ·show grF (getU 0 0) (getI 0 0 0) 256 m (b.drop (used+k1+k2)) l (used+k1+k2)=R
           rw [htl,←hg,Nat.add_assoc]
          ·show used+k1+k2≤b.length
           omega
          ·show l.length≤256
           omega
          ·show m≤256
           omega
          ·have e5:((m:Int)+1 - 1)=m:=by omega
           (have X1:=@Int.add_assoc;have X2:=e5;exact fzN2 0 [(0,0)] [])
       ·rw [if_pos zo] at hg
        obtain⟨r1,r2⟩:=err f2 hg.symm zo
        rw [r1,r2]
        refine zS ?_
        iterate 14 all_goals (try (refine And.intro (fun _=>?_) (fun _=>?_)<;>try first | exact zC | refine zS ?_))
        all_goals first
         | (exfalso;omega)
         | ((refine fzNM 0 [] [] ?_ ?_<;>first | exact zC | refine zS ?_);done)
         | ((refine fzNM 0 [] [] ?_ ?_<;>first | exact zC | refine zS ?_);rfl)
   ·obtain rfl:m=0:=by omega
    rw [grF] at hg
    obtain⟨r1,r2⟩:=QOb hg.symm
    rw [r1,r2]
    refine zS ?_
    exact fzN 0 [(0,0)] []
 ·rw [if_pos zo] at hR
  obtain⟨r1,r2⟩:=err e hR zo
  rw [r1,r2]
  refine zS ?_
  refine QD (ι:=Unit) (fun _=>⟨[(6,.v (.int .i64 e))],⟨[],0,0,0⟩⟩) (fun _=>True) (fun _=>0) () trivial ?_ ?_
  ·exact fzN 0 [] []
  intro _ _
  refine zS ?_
  iterate 14 all_goals (try (refine And.intro (fun _=>?_) (fun _=>?_)<;>try first | exact zC | refine zS ?_))
  all_goals first
   | (exfalso;omega)
   | ((refine fzNM 0 [] [] ?_ ?_<;>first | exact zC | refine zS ?_);done)
   | ((refine fzNM 0 [] [] ?_ ?_<;>first | exact zC | refine zS ?_);rfl)
end Go.AW
