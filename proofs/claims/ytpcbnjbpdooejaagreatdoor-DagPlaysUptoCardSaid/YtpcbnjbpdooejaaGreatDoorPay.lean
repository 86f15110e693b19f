/- A part of the proof: D59 D60 D61. -/
import Derived.Test.YtpcbnjbpdooejaaGreatDoorPae
import Derived.Test.YtpcbnjbpdooejaaGreatDoorPax
set_option linter.unusedSimpArgs false
set_option linter.unusedVariables false
set_option maxRecDepth 100000
set_option maxHeartbeats 8000000
namespace Go.AW
open Proofs
theorem QOn (ys cs:List AV):∀(pre:List AV),setL (pre++ys) pre.length cs=pre++setL ys 0 cs
 | []=>rfl
 | p::pre=>by rw [List.cons_append,List.length_cons,QLb,QOn ys cs pre];rfl
theorem QO9 (B:List AV):∀(A cs:List AV),cs.length=A.length→setL (A++B) 0 cs=cs++B
 | [],[],_=>rfl
 | a::A,c::cs,h=>by rw [List.cons_append,QHZ,QO9 B A cs (by simpa using h)];rfl
theorem itz_h {h:Hs}:setL ([.v (.int .u8 0),.v (.int .u8 0),.v (.int .u8 0),.v (.int .u8 0),.v (.int .u8 0),.v (.int .u8 0),.v (.int .u8 0),.v (.int .u8 0),.v (.int .u8 0),.v (.int .u8 0),.v (.int .u8 0),.v (.int .u8 0),.v (.int .u8 0),.v (.int .u8 0),.v (.int .u8 0),.v (.int .u8 0),.v (.int .u8 0),.v (.int .u8 0),.v (.int .u8 0),.v (.int .u8 0),.v (.int .u8 0),.v (.int .u8 0),.v (.int .u8 0),.v (.int .u8 0),.v (.int .u8 0),.v (.int .u8 0),.v (.int .u8 0),.v (.int .u8 0),.v (.int .u8 0),.v (.int .u8 0),.v (.int .u8 0),.v (.int .u8 0),.v (.string ByteArray.empty),.v (.int .i64 0),.v (.int .i64 0),.v (.slice none 0 0),.v (.string ByteArray.empty),.v (.slice none 0 0),.v (.slice none 0 0)]:List AV) 0 (hcell h)=hcell h++([.v (.string ByteArray.empty),.v (.int .i64 0),.v (.int .i64 0),.v (.slice none 0 0),.v (.string ByteArray.empty),.v (.slice none 0 0),.v (.slice none 0 0)]:List AV):=QO9 ([.v (.string ByteArray.empty),.v (.int .i64 0),.v (.int .i64 0),.v (.slice none 0 0),.v (.string ByteArray.empty),.v (.slice none 0 0),.v (.slice none 0 0)]:List AV) ([.v (.int .u8 0),.v (.int .u8 0),.v (.int .u8 0),.v (.int .u8 0),.v (.int .u8 0),.v (.int .u8 0),.v (.int .u8 0),.v (.int .u8 0),.v (.int .u8 0),.v (.int .u8 0),.v (.int .u8 0),.v (.int .u8 0),.v (.int .u8 0),.v (.int .u8 0),.v (.int .u8 0),.v (.int .u8 0),.v (.int .u8 0),.v (.int .u8 0),.v (.int .u8 0),.v (.int .u8 0),.v (.int .u8 0),.v (.int .u8 0),.v (.int .u8 0),.v (.int .u8 0),.v (.int .u8 0),.v (.int .u8 0),.v (.int .u8 0),.v (.int .u8 0),.v (.int .u8 0),.v (.int .u8 0),.v (.int .u8 0),.v (.int .u8 0)]:List AV) (hcell h) (by rw [QK];rfl)
theorem itz_c {h:Hs} {c:ChV}:setL (hcell h++([.v (.string ByteArray.empty),.v (.int .i64 0),.v (.int .i64 0),.v (.slice none 0 0),.v (.string ByteArray.empty),.v (.slice none 0 0),.v (.slice none 0 0)]:List AV)) 32 (ccl c)=hcell h++(ccl c++[.v (.slice none 0 0)]):=by
 have:=QOn ([.v (.string ByteArray.empty),.v (.int .i64 0),.v (.int .i64 0),.v (.slice none 0 0),.v (.string ByteArray.empty),.v (.slice none 0 0),.v (.slice none 0 0)]:List AV) (ccl c) (hcell h)
 rw [QK] at this
 rw [this];rfl
theorem itz_b {h:Hs} {c:ChV} {v z:AV}:(hcell h++(ccl c++[z])).set 38 v=hcell h++(ccl c++[v]):=by
 rw [List.set_append_right _ _ (by rw [QK];decide),QK];rfl
theorem QS6 {h:Hs} {c:ChV} {v:AV}:(hcell h++(ccl c++[v])).length=39:=by rw [List.length_append,QK];rfl
theorem Qdb {h:Hs} {c:ChV} {v:AV}:setL ([.v (.int .u8 0),.v (.int .u8 0),.v (.int .u8 0),.v (.int .u8 0),.v (.int .u8 0),.v (.int .u8 0),.v (.int .u8 0),.v (.int .u8 0),.v (.int .u8 0),.v (.int .u8 0),.v (.int .u8 0),.v (.int .u8 0),.v (.int .u8 0),.v (.int .u8 0),.v (.int .u8 0),.v (.int .u8 0),.v (.int .u8 0),.v (.int .u8 0),.v (.int .u8 0),.v (.int .u8 0),.v (.int .u8 0),.v (.int .u8 0),.v (.int .u8 0),.v (.int .u8 0),.v (.int .u8 0),.v (.int .u8 0),.v (.int .u8 0),.v (.int .u8 0),.v (.int .u8 0),.v (.int .u8 0),.v (.int .u8 0),.v (.int .u8 0),.v (.string ByteArray.empty),.v (.int .i64 0),.v (.int .i64 0),.v (.slice none 0 0),.v (.string ByteArray.empty),.v (.slice none 0 0),.v (.slice none 0 0)]:List AV) 0 (hcell h++(ccl c++[v]))=hcell h++(ccl c++[v]):=QAK (by rw [QS6];rfl)
attribute [push_cast] itz_h itz_c itz_b QS6 Qdb
theorem ccl_3 {c:ChV}:(ccl c)[3]?=some (.seq c.deps.length 32 (flat hcell c.deps)):=rfl
theorem QTy {h:Hs}:∀{W:List Itm} {j:Nat} {y:Itm},(QF W).Nodup→W[j]?=some y→y.h=h→delL W h=W.take j++W.drop (j+1)
 | [],_,_,_,hj,_=>by simp at hj
 | x::W,0,y,_,hj,e=>by
  simp only [List.getElem?_cons_zero,Option.some.injEq] at hj
  rw [delL,hj,if_pos e];rfl
 | x::W,j+1,y,hn,hj,e=>by
  rw [List.getElem?_cons_succ] at hj
  simp only [QF,List.map_cons,List.nodup_cons] at hn
  have hne:x.h≠h:=fun q=>hn.1 (by rw [q,←e];exact List.mem_map_of_mem (List.mem_of_getElem? hj))
  rw [delL,if_neg hne,QTy hn.2 hj e];rfl
theorem QXR {L W:List Itm} (h:redI L W<0):QDz L W=none:=by
 rw [redI] at h
 cases e:QDz L W with
 | none=>rfl
 | some k=>
  rw [e] at h
  obtain⟨i,y,h1,-⟩:=QFS (QB3 e).1
  simp only [h1] at h
  omega
theorem QYj {L W:List Itm} (hn:(QF W).Nodup) (h:¬redI L W<0):∃(j:Nat) (y:Itm),redI L W=j∧j<W.length∧W[j]?=some y∧QDz L W=some y.h∧getL W y.h=some y∧allL L y.c.deps=true:=by
 rw [redI] at h ⊢
 cases e:QDz L W with
 | none=>rw [e] at h;exact absurd (show (-1:Int)<0 by decide) h
 | some k=>
  obtain⟨m,ha⟩:=QB3 e
  obtain⟨i,y,h1,h2,h3,h4⟩:=QFS m
  have hyk:=(QDS h4).2
  rw [←hyk,QBZ hn (List.mem_of_getElem? h3)] at ha
  exact⟨i,y,h1,h2,h3,by rw [hyk],by rw [hyk];exact h4,ha⟩
theorem QQL {n:Nat} {G:GrV} (h:QDz G.L G.W=none):QEH n G=G:=by
 cases n with
 | zero=>rfl
 | succ n=>rw [QEH,QEM,h]
theorem QPg {n:Nat} {G:GrV} {y:Itm} (h:QDz G.L G.W=some y.h) (h2:getL G.W y.h=some y):QEH (n+1) G=QEH n ⟨QBn G.L y,delL G.W y.h⟩:=by
 rw [QEH,QEM,h]
 simp only
 rw [h2]
theorem itc_h0 {x:Itm}:(itc x).take 32=hcell x.h:=by
 have:=itc_h (x:=x) (r:=[])
 rwa [List.append_nil] at this
theorem itc_d0 {x:Itm}:List.drop 32 (itc x)=QDy x:=by
 rw [itc]
 exact List.drop_left' (QK x.h)
theorem itc_c {x:Itm}:List.take 6 (List.drop 32 (itc x))=ccl x.c:=by rw [itc_d0];rfl
theorem QZc {l:List Itm} {i:Nat} (hi:i≤l.length):List.take (i*39) (flat itc l)=flat itc (l.take i):=by
 have h:flat itc l=flat itc (l.take i)++flat itc (l.drop i):=by rw [←Q7,List.take_append_drop]
 rw [h]
 exact List.take_left' (by rw [QCf,List.length_take,Nat.min_eq_left hi])
theorem QRz {l:List Itm} {i:Nat} (hi:i≤l.length):List.drop (i*39) (flat itc l)=flat itc (l.drop i):=by
 have h:flat itc l=flat itc (l.take i)++flat itc (l.drop i):=by rw [←Q7,List.take_append_drop]
 rw [h]
 exact List.drop_left' (by rw [QCf,List.length_take,Nat.min_eq_left hi])
theorem QCH (xs:List AV):WkL xs xs:=by
 have:=QUi (.agg xs)
 rwa [QZ3] at this
theorem QKO (G:GrV) (hG:GrOK G) (b:List UInt8) (hb:b.length≤1048576):QE Tryz.prog [] 36 [grA G,.seq b.length 1 (flat QC b)] (.tup [grA (addF G b).1,.agg (hcell (addF G b).2.1),.v (.int .i64 (addF G b).2.2)]):=by
 refine QE.startW Tryz.func36 rfl zK rfl Tryz.ntmps36 fol zK (by simp [idfL,idf,QZ QS,QS,Qg,Qy,grA,QIa,Qg,QS]) (by simp [idfL,idf,QZ QS,QS,Qg,Qy,grA,QIa,Qg,QS]) ?_
 refine zz ?_
 (have X1:=@grA.eq_1;refine zS1 ?_;clear X1)
 have hnL:=hG.lenL
 have hnW:=hG.lenW
 refine (QbB b hb).useV ?_
 obtain⟨R,hR⟩:∃R,R=addF G b:=⟨_,rfl⟩
 rw [←hR]
 rw [addF] at hR
 have hI:=QN8 (b:=b)
 have hE:=QHk b
 obtain⟨q,hq⟩:∃q,q=QAd b:=⟨_,rfl⟩
 rw [←hq] at hR hI hE ⊢
 obtain⟨c,e⟩:=q
 simp only at hR hI hE
 by_cases he:e=0
 ·subst he
  rw [if_neg (fun h=>h rfl)] at hR
  have hIt:=hI rfl
  have hB:=hIt.bnd
  obtain⟨x,hx⟩:∃x,x=mkI b:=⟨_,rfl⟩
  have hic:x.c=c:=by rw [hx,mkI,←hq]
  have hih:x.h=shaH b:=by rw [hx];rfl
  have hib:x.b=b:=by rw [hx];rfl
  rw [←hx] at hR hIt hB
  subst hic
  have hcc:cclE (x.c,0)=ccl x.c:=if_pos rfl
  have hlen:=hB.len
  have hdp:=hB.deps
  rw [hib] at hlen
  have hS:=rSum_c b zo
  rw [←QLe,←hih] at hS
  rw [hcc]
  have hzh:∀l:List AV,l.length=32→setL l 0 (hcell x.h)=hcell x.h:=fun l h=>QAK (by rw [h,QK])
  (have X1:=@List.getElem?_cons_succ.{0};refine zS1 ?_;clear X1)
  refine QO.useV hS rfl ?_
  refine zS ?_
  have hzz:hcell QBl=[.v (.int .u8 0),.v (.int .u8 0),.v (.int .u8 0),.v (.int .u8 0),.v (.int .u8 0),.v (.int .u8 0),.v (.int .u8 0),.v (.int .u8 0),.v (.int .u8 0),.v (.int .u8 0),.v (.int .u8 0),.v (.int .u8 0),.v (.int .u8 0),.v (.int .u8 0),.v (.int .u8 0),.v (.int .u8 0),.v (.int .u8 0),.v (.int .u8 0),.v (.int .u8 0),.v (.int .u8 0),.v (.int .u8 0),.v (.int .u8 0),.v (.int .u8 0),.v (.int .u8 0),.v (.int .u8 0),.v (.int .u8 0),.v (.int .u8 0),.v (.int .u8 0),.v (.int .u8 0),.v (.int .u8 0),.v (.int .u8 0),.v (.int .u8 0)]:=rfl
  have hbI:∀y:List UInt8,flat QC y=flat QC y:=fun _=>rfl
  have hitx:hcell x.h++(ccl x.c++[AV.seq b.length 1 (flat QC b)])=itc x:=by rw [itc,QDy,hib]
  refine (QOF G.L zo x.h).useV ?_
  by_cases m1:x.h∈QF G.L
  ·obtain⟨i1,y1,f1,-⟩:=QFS m1
   rw [if_pos (.inl (by rw [←hih];exact m1)),←hih] at hR
   rw [hR,f1]
   first | exact zC | refine zS ?_
   exact⟨QCH _,rfl⟩
  ·rw [QGF m1]
   refine zS ?_
   refine⟨fun _=>?_,fun h=>absurd h zD⟩
   refine zS ?_
   refine (QOF G.W zo x.h).useV ?_
   by_cases m2:x.h∈QF G.W
   ·obtain⟨i2,y2,f2,-⟩:=QFS m2
    rw [if_pos (.inr (by rw [←hih];exact m2)),←hih] at hR
    rw [hR,f2]
    first | exact zC | refine zS ?_
    exact⟨QCH _,rfl⟩
   ·rw [QGF m2]
    rw [if_neg (by rw [←hih];exact fun h=>h.elim m1 m2),←hih] at hR
    have hga:=QOR G zo x.c.deps zo
    simp only [grA] at hga
    (have X1:=@ccl_3;refine zS1 ?_;clear X1)
    refine⟨fun h=>absurd h zD,fun _=>?_⟩
    (have X1:=@ccl_3;refine zS1 ?_;clear X1)
    refine hga.useV ?_
    by_cases ha:allL G.L x.c.deps=true
    ·rw [if_neg (by rw [ha];decide)] at hR
     (have X1:=ha;refine zS1 ?_;clear X1)
     refine⟨fun h1=>?_,fun h1=>?_⟩
     ·rw [if_pos zo] at hR
      rw [hR]
      first | exact zC | refine zS ?_
      exact⟨QCH _,rfl⟩
     ·rw [if_neg zo] at hR
      have hxB:ItB x:=hB
      have hf:=QRb G hG x hB ha
      simp only [grA] at hf
      refine zS ?_
      refine hf.useV ?_
      by_cases hft:fitF G.L x.c=0
      ·rw [if_neg (fun k=>k hft)] at hR
       (have X1:=hft;refine zS1 ?_;clear X1)
       refine Qr.start Tryz.func90 rfl zK rfl Tryz.ntmps90 fol zK ?_
       refine zZ ?_
       have hfl:flat itc G.L++itc x=flat itc (G.L++[x]):=by rw [Q7];simp [flat]
       have hG1:GrOK ⟨G.L++[x],G.W⟩:=hG.put m1 m2 ha hIt zo
       have hrd:=QJp ⟨G.L++[x],G.W⟩ hG1
       simp only [grA] at hrd
       refine hrd.use (ids:=[1315,411]) (by have X1:=hitx;have X2:=hfl;exact zCN2) (.inl rfl) ?_
       refine zS ?_
       generalize hG1':(⟨G.L++[x],G.W⟩:GrV)=G1 at*
       refine QD (ι:=GrV) (fun Q=>⟨[(2,.ptr 0 0),(4,.ptr 1 0),(5,.ptr 2 0),(9,.rop (itc x)),(10,.v (.int .i64 (redI Q.L Q.W)))],⟨[(0,.cells 29 [.seq Q.L.length 39 (flat itc Q.L),.seq Q.W.length 39 (flat itc Q.W)] false),(1,.cells 29 [.v (.slice none 0 0),.v (.slice none 0 0)] false),(2,.cells 47 (hcell QBl) false)],3,3,0⟩⟩)
        (fun Q=>GrOK Q∧QEH (Q.W.length+1) Q=R.1) (fun Q=>Q.W.length) G1 ⟨hG1,by rw [hR,←hG1']⟩ ?_ ?_
       ·(have X1:=hitx;have X2:=hfl;refine fzNM 0 [(0,2),(1,4),(2,5)] [0] ?_ ?_<;>first | exact zC2 | refine zS2 ?_)
        ·subst hG1';rfl
        ·subst hG1'
         exact⟨⟨by rw [List.length_append];rfl,rfl⟩,rfl⟩
       rintro Q ⟨hQ,hd⟩
       have hQL:=hQ.lenL
       have hQW:=hQ.lenW
       refine zS ?_
       refine⟨fun k1=>?_,fun k1=>?_⟩
       ·obtain⟨j,y,f1,hj,hjy,hrdy,hgy,hay⟩:=QYj (L:=Q.L) hQ.nd zo
        have hjy':Q.W[j]=y:=(List.getElem?_eq_some_iff.1 hjy).2
        have hyW:=List.mem_of_getElem? hjy
        have hyB:=hQ.bW hyW
        have hdl:=QTy hQ.nd hjy rfl
        have hym:y.h∈QF Q.W:=by rw [QF];exact List.mem_map_of_mem hyW
        have hQd:=hQ.del hym
        rw [QPg hrdy hgy] at hd
        obtain⟨hQ2,hQ3⟩:=QJc (G':=⟨QBn Q.L y,delL Q.W y.h⟩) hQ (by rw [QEM,hrdy];simp only;rw [hgy])
        have hQ3':(delL Q.W y.h).length+1=Q.W.length:=hQ3
        rw [←hQ3'] at hd
        rw [f1]
        have e1:((j:Int)+1).toNat=j+1:=by omega
        have hlen2:j+(Q.W.length - (j+1))=(delL Q.W y.h).length:=by rw [hdl,List.length_append,List.length_take,List.length_drop];omega
        have hcut:List.take (j*39) (flat itc Q.W)++List.take ((Q.W.length - (j+1))*39) (List.drop ((j+1)*39) (flat itc Q.W))=flat itc (delL Q.W y.h):=by
         rw [hdl,Q7,QZc zo,QRz zo]
         congr 1
         exact List.take_of_length_le (by rw [QCf,List.length_drop];exact Nat.le_refl _)
        (have X1:=hjy';have X2:=e1;have X3:=hcut;have X4:=hlen2;have X5:=@itz_set;have X6:=@itc_take;refine zS6 ?_;clear X1 X2 X3 X4 X5 X6)
        have hf2:=QRb ⟨Q.L,delL Q.W y.h⟩ hQd y hyB hay
        simp only [grA] at hf2
        refine⟨fun k2=>?_,fun k2=>?_⟩
        ·(have X1:=e1;have X2:=hcut;have X3:=hlen2;have X4:=@itz_set;have X5:=@itc_take;have X6:=@itc_c;refine zS6 ?_;clear X1 X2 X3 X4 X5 X6)
         refine hf2.use (ids:=[622]) zCN (.inl rfl) ?_
         by_cases hfy:fitF Q.L y.c=0
         ·have hk:QBn Q.L y=Q.L++[y]:=by rw [QBn,if_pos ⟨by omega,hfy⟩]
          rw [hk] at hQ2 hd
          (have X1:=hfy;have X2:=@itc_take;refine zS2 ?_;clear X1 X2)
          refine (QaY Q.L zo y).useV ?_
          refine zS ?_
          have hrd2:=QJp ⟨Q.L++[y],delL Q.W y.h⟩ hQ2
          simp only [grA] at hrd2
          refine hrd2.use (ids:=[622]) zCN (.inl rfl) ?_
          refine zS ?_
          refine⟨⟨Q.L++[y],delL Q.W y.h⟩,⟨hQ2,hd⟩,zO,?_⟩
          (have X1:=@List.length_append.{0};have X2:=@List.length_cons.{0};have X3:=@List.length_nil.{0};exact fzN3 0 [(0,0),(1,1),(2,2)] [0])
         ·have hk:QBn Q.L y=Q.L:=by rw [QBn,if_neg (fun q=>hfy q.2)]
          rw [hk] at hQ2 hd
          refine zS ?_
          refine⟨fun k=>absurd zo hfy,fun _=>?_⟩
          refine zS ?_
          have hrd2:=QJp ⟨Q.L,delL Q.W y.h⟩ hQ2
          simp only [grA] at hrd2
          refine hrd2.use (ids:=[622]) zCN (.inl rfl) ?_
          refine zS ?_
          refine⟨⟨Q.L,delL Q.W y.h⟩,⟨hQ2,hd⟩,zO,?_⟩
          (have X1:=@List.length_append.{0};have X2:=@List.length_cons.{0};have X3:=@List.length_nil.{0};exact fzN3 0 [(0,0),(1,1),(2,2)] [0])
        ·have hk:QBn Q.L y=Q.L:=by rw [QBn,if_neg (fun q=>k2 (by have:=q.1;omega))]
         rw [hk] at hQ2 hd
         (have X1:=e1;have X2:=hcut;have X3:=hlen2;have X4:=@itz_set;have X5:=@itc_take;refine zS5 ?_;clear X1 X2 X3 X4 X5)
         have hrd2:=QJp ⟨Q.L,delL Q.W y.h⟩ hQ2
         simp only [grA] at hrd2
         refine hrd2.use (ids:=[622]) zCN (.inl rfl) ?_
         refine zS ?_
         refine⟨⟨Q.L,delL Q.W y.h⟩,⟨hQ2,hd⟩,zO,?_⟩
         (have X1:=@List.length_append.{0};have X2:=@List.length_cons.{0};have X3:=@List.length_nil.{0};exact fzN3 0 [(0,0),(1,1),(2,2)] [0])
       ·have hdn:=QQL (n:=Q.W.length+1) (QXR (L:=Q.L) (W:=Q.W) zo)
        rw [hdn] at hd
        have hRQ:R=(Q,x.h,0):=Prod.ext hd.symm (by rw [hR])
        rw [hRQ]
        (have X1:=@itc_h0;first | exact zC1 | refine zS1 ?_)
        exact QCH _
      ·rw [if_pos hft] at hR
       refine zS ?_
       refine⟨fun _=>?_,fun k=>absurd zo hft⟩
       rw [hR]
       first | exact zC | refine zS ?_
       exact QCH _
    ·rw [Bool.not_eq_true] at ha
     rw [if_pos ha] at hR
     (have X1:=ha;refine zS1 ?_;clear X1)
     refine⟨fun h1=>?_,fun h1=>?_⟩
     ·rw [if_pos zo] at hR
      rw [hR]
      first | exact zC | refine zS ?_
      exact⟨QCH _,rfl⟩
     ·rw [if_neg zo] at hR
      rw [hR]
      refine zS ?_
      refine Qr.letgo (a:=[_]) (c:=[]) (y:=.agg (itc x)) (ids:=[411]) (u:=[(411,.dead)]) (by have X1:=hitx;exact zCN1) rfl ?_
      refine (QaY G.W zo x).useV ?_
      first | exact zC | refine zS ?_
      exact QCH _
 ·have h4:e=4:=hE.resolve_left he
  subst h4
  have hcc:cclE (c,4)=[.v (.string ⟨#[]⟩),.v (.int .i64 0),.v (.int .i64 0),.v (.slice none 0 0),.v (.string ⟨#[]⟩),.v (.slice none 0 0)]:=if_neg (show ¬((4:Nat)=0) by decide)
  rw [if_pos zD] at hR
  rw [hcc,hR]
  (have X1:=@List.getElem?_cons_succ.{0};refine zS1 ?_;clear X1)
  refine⟨fun _=>?_,fun h=>absurd h zD⟩
  first | exact zC | refine zS ?_
  exact⟨QCH _,rfl⟩
open Proofs
theorem itc_b38 {x:Itm} {r:List AV}:List.drop 38 (itc x++r)=.seq x.b.length 1 (flat QC x.b)::r:=by
 rw [itc,QDy,←List.append_assoc,List.append_assoc]
 exact List.drop_left' (by rw [List.length_append,QK];rfl)
theorem Qes {W:List Itm} {i:Nat} (hi:i<W.length):srt (QF (W.take (i+1)))=insH W[i].h (srt (QF (W.take i))):=by
 rw [List.take_succ_eq_append_getElem hi,Qv,show QF [W[i]]=[W[i].h] from rfl,QOe]
theorem Qe2 {W:List Itm} {i:Nat}:(srt (QF (W.take i))).length≤W.length:=Nat.le_trans (QAp _) (by rw [Qh,List.length_take];omega)
theorem QfD (G:GrV) (hG:GrOK G):QE Tryz.prog [] 93 [grA G] (.seq (waiF G).length 32 (flat hcell (waiF G))):=by
 refine QE.startW Tryz.func93 rfl zK rfl Tryz.ntmps93 fol zK (by simp [idfL,idf,QZ QS,QS,Qg,Qy,grA,QIa,QA9]) (by simp [idfL,idf,QZ QS,QS,Qg,Qy,grA,QIa,QA9]) ?_
 refine zz ?_
 (have X1:=@grA.eq_1;refine zS1 ?_;clear X1)
 have hn:=hG.lenW
 refine QD (ι:=Nat) (fun i=>⟨[(1,.rop [.seq G.L.length 39 (flat itc G.L),.seq G.W.length 39 (flat itc G.W)]),(3,.seq (srt (QF (G.W.take i))).length 32 (flat hcell (srt (QF (G.W.take i))))),(4,.v (.int .i64 i))],⟨[],0,0,0⟩⟩) (fun i=>i≤G.W.length) (fun i=>G.W.length - i) 0 (Nat.zero_le _) ?_ ?_
 ·(have X1:=@List.take_zero.{0};have X2:=@QF.eq_1;have X3:=@List.map_nil.{0,0};have X4:=@srt_nil;have X5:=@QOx;exact fzN5 0 [] [])
 intro i hi
 refine zS ?_
 refine⟨fun h1=>?_,fun h1=>?_⟩
 ·have hi1:i<G.W.length:=by omega
  have hl:=Qe2 (W:=G.W) (i:=i)
  refine zS ?_
  refine (QMp _ zo G.W[i].h).useV ?_
  refine zS ?_
  refine⟨i+1,hi1,zO,?_⟩
  simp only [Qes hi1]
  exact fzN 0 [] []
 ·have hii:i=G.W.length:=by omega
  subst hii
  rw [List.take_length,show srt (QF G.W)=waiF G from rfl]
  exact zC
theorem gAll_c (G:GrV) (hG:GrOK G):QE Tryz.prog [] 128 [grA G] (.seq (srt (QF G.L)).length 32 (flat hcell (srt (QF G.L)))):=by
 refine QE.startW Tryz.func128 rfl zK rfl Tryz.ntmps128 fol zK (by simp [idfL,idf,QZ QS,QS,Qg,Qy,grA,QIa,QA9]) (by simp [idfL,idf,QZ QS,QS,Qg,Qy,grA,QIa,QA9]) ?_
 refine zz ?_
 (have X1:=@grA.eq_1;refine zS1 ?_;clear X1)
 have hn:=hG.lenL
 refine QD (ι:=Nat) (fun i=>⟨[(1,.rop [.seq G.L.length 39 (flat itc G.L),.seq G.W.length 39 (flat itc G.W)]),(3,.seq (srt (QF (G.L.take i))).length 32 (flat hcell (srt (QF (G.L.take i))))),(4,.v (.int .i64 i))],⟨[],0,0,0⟩⟩) (fun i=>i≤G.L.length) (fun i=>G.L.length - i) 0 (Nat.zero_le _) ?_ ?_
 ·(have X1:=@List.take_zero.{0};have X2:=@QF.eq_1;have X3:=@List.map_nil.{0,0};have X4:=@srt_nil;have X5:=@QOx;exact fzN5 0 [] [])
 intro i hi
 refine zS ?_
 refine⟨fun h1=>?_,fun h1=>?_⟩
 ·have hi1:i<G.L.length:=by omega
  have hl:=Qe2 (W:=G.L) (i:=i)
  refine zS ?_
  refine (QMp _ zo G.L[i].h).useV ?_
  refine zS ?_
  refine⟨i+1,hi1,zO,?_⟩
  simp only [Qes hi1]
  exact fzN 0 [] []
 ·have hii:i=G.L.length:=by omega
  subst hii
  rw [List.take_length]
  exact zC
theorem Qfj {L:List Itm} {i:Nat} (hi:i<L.length):minH (srt ((QF L).filter fun h=>!decide (h∈namF (L.take i)))) L[i].c.deps=srt ((QF L).filter fun h=>!decide (h∈namF (L.take (i+1)))):=by
 refine QG2 fun x=>?_
 rw [List.mem_filter,QBr,List.mem_filter,List.mem_filter]
 simp only [Bool.not_eq_true',decide_eq_false_iff_not,Qe4,List.take_succ_eq_append_getElem hi,List.mem_append,List.mem_singleton]
 constructor
 ·rintro⟨⟨h1,h2⟩,h3⟩
  refine⟨h1,?_⟩
  rintro⟨y,k | k,hy⟩
  ·exact h2 ⟨y,k,hy⟩
  ·rw [k] at hy;exact h3 hy
 ·rintro⟨h1,h2⟩
  exact⟨⟨h1,fun ⟨y,k,hy⟩=>h2 ⟨y,.inl k,hy⟩⟩,fun h3=>h2 ⟨_,.inr rfl,h3⟩⟩
theorem Qfr {L:List Itm}:srt ((QF L).filter fun h=>!decide (h∈namF (L.take 0)))=srt (QF L):=by
 refine QG2 fun x=>?_
 rw [List.mem_filter]
 simp [namF]
theorem Qfo (G:GrV) (hG:GrOK G):QE Tryz.prog [] 95 [grA G] (.seq (heaF G.L).length 32 (flat hcell (heaF G.L))):=by
 refine QE.startW Tryz.func95 rfl zK rfl Tryz.ntmps95 fol zK (by simp [idfL,idf,QZ QS,QS,Qg,Qy,grA,QIa,QA9]) (by simp [idfL,idf,QZ QS,QS,Qg,Qy,grA,QIa,QA9]) ?_
 refine zz ?_
 (have X1:=@grA.eq_1;refine zS1 ?_;clear X1)
 have hn:=hG.lenL
 have hA:=gAll_c G hG
 simp only [grA] at hA
 refine hA.useV ?_
 refine zS ?_
 refine QD (ι:=Nat×List Hs) (fun q=>⟨[(1,.rop [.seq G.L.length 39 (flat itc G.L),.seq G.W.length 39 (flat itc G.W)]),(3,.seq q.2.length 32 (flat hcell q.2)),(4,.v (.int .i64 q.1))],⟨[],0,0,0⟩⟩) (fun q=>q.1≤G.L.length∧q.2=srt ((QF G.L).filter fun h=>!decide (h∈namF (G.L.take q.1)))) (fun q=>G.L.length - q.1) (0,srt (QF G.L)) ⟨Nat.zero_le _,Qfr.symm⟩ ?_ ?_
 ·exact fzN 0 [] []
 rintro⟨i,M⟩ ⟨hi,hM⟩
 dsimp only at hi hM ⊢
 refine zS ?_
 refine⟨fun h1=>?_,fun h1=>?_⟩
 ·have hi1:i<G.L.length:=by omega
  have hl:M.length≤G.L.length:=by rw [hM];exact Nat.le_trans QV3 (by rw [Qh];omega)
  have hd:=(hG.bL (List.getElem_mem hi1)).deps
  have hnx:=Qfj hi1
  rw [←hM] at hnx
  refine zS ?_
  refine (Qfp M G.L[i].c.deps zo zo).useV ?_
  refine zS ?_
  refine⟨(i+1,minH M G.L[i].c.deps),⟨hi1,hnx⟩,zO,?_⟩
  exact fzN 0 [] []
 ·have hii:i=G.L.length:=by omega
  subst hii
  rw [List.take_length] at hM
  have hM':M=heaF G.L:=hM
  rw [hM']
  exact zC
theorem Qfy {p:Hs→Bool} {d:List Hs} {j:Nat} {pre:List Hs} (hj:j<d.length):srt ((pre++d.take (j+1)).filter p)=if p d[j]=true then insH d[j] (srt ((pre++d.take j).filter p)) else srt ((pre++d.take j).filter p):=by
 rw [List.take_succ_eq_append_getElem hj,←List.append_assoc,List.filter_append]
 by_cases h:p d[j]=true
 ·rw [if_pos h,List.filter_cons_of_pos h,List.filter_nil,QOe]
 ·rw [if_neg h,List.filter_cons_of_neg h,List.filter_nil,List.append_nil]
theorem Qe9 (G:GrV) (hG:GrOK G):QE Tryz.prog [] 94 [grA G] (.seq (misF G).length 32 (flat hcell (misF G))):=by
 refine QE.startW Tryz.func94 rfl zK rfl Tryz.ntmps94 fol zK (by simp [idfL,idf,QZ QS,QS,Qg,Qy,grA,QIa,QA9]) (by simp [idfL,idf,QZ QS,QS,Qg,Qy,grA,QIa,QA9]) ?_
 refine zz ?_
 (have X1:=@grA.eq_1;refine zS1 ?_;clear X1)
 have hn:=hG.lenW
 have hnL:=hG.lenL
 refine QD (ι:=Nat×List Hs) (fun q=>⟨[(1,.rop [.seq G.L.length 39 (flat itc G.L),.seq G.W.length 39 (flat itc G.W)]),(3,.seq q.2.length 32 (flat hcell q.2)),(4,.v (.int .i64 q.1))],⟨[],0,0,0⟩⟩) (fun q=>q.1≤G.W.length∧q.2.length≤16*q.1∧q.2=srt (((G.W.take q.1).flatMap fun x=>x.c.deps).filter fun d=>!decide (d∈QF G.L)&&!decide (d∈QF G.W))) (fun q=>G.W.length - q.1) (0,[]) ⟨Nat.zero_le _,Nat.le_refl _,rfl⟩ ?_ ?_
 ·exact fzN 0 [] []
 rintro⟨i,M⟩ ⟨hi,hl,hM⟩
 dsimp only at hi hl hM ⊢
 refine zS ?_
 refine⟨fun h1=>?_,fun h1=>?_⟩
 ·have hi1:i<G.W.length:=by omega
  have hd:=(hG.bW (List.getElem_mem hi1)).deps
  obtain⟨pre,hpre⟩:∃pre,pre=(G.W.take i).flatMap fun x=>x.c.deps:=⟨_,rfl⟩
  have hnx:((G.W.take (i+1)).flatMap fun x=>x.c.deps)=pre++G.W[i].c.deps:=by rw [List.take_succ_eq_append_getElem hi1,List.flatMap_append,hpre];simp
  rw [←hpre] at hM
  refine zS ?_
  generalize G.W[i].c.deps=d at*
  refine QD (ι:=Nat×List Hs) (fun q=>⟨[(1,.rop [.seq G.L.length 39 (flat itc G.L),.seq G.W.length 39 (flat itc G.W)]),(3,.seq q.2.length 32 (flat hcell q.2)),(4,.v (.int .i64 i)),(5,.seq d.length 32 (flat hcell d)),(6,.v (.int .i64 q.1))],⟨[],0,0,0⟩⟩) (fun q=>q.1≤d.length∧q.2.length≤16*i+q.1∧q.2=srt ((pre++d.take q.1).filter fun d=>!decide (d∈QF G.L)&&!decide (d∈QF G.W))) (fun q=>d.length - q.1) (0,M) ⟨Nat.zero_le _,hl,by rw [List.take_zero,List.append_nil];exact hM⟩ ?_ ?_
  ·exact fzN 0 [] []
  rintro⟨j,N⟩ ⟨hj,hNl,hN⟩
  dsimp only at hj hNl hN ⊢
  refine zS ?_
  refine⟨fun h2=>?_,fun h2=>?_⟩
  ·have hj1:j<d.length:=by omega
   have hnn:=Qfy (p:=fun d=>!decide (d∈QF G.L)&&!decide (d∈QF G.W)) (pre:=pre) hj1
   rw [←hN] at hnn
   have hil:=QHG (x:=d[j]) (l:=N)
   refine zS ?_
   refine QO.useV (QOF G.L zo d[j]) rfl ?_
   by_cases m1:d[j]∈QF G.L
   ·obtain⟨i1,x1,f1,-⟩:=QFS m1
    rw [if_neg (by simp [m1])] at hnn
    rw [f1]
    refine zS ?_
    refine⟨fun h=>absurd h zo,fun _=>?_⟩
    refine zS ?_
    refine⟨(j+1,N),⟨hj1,zO,hnn.symm⟩,zO,?_⟩
    exact fzN 0 [] []
   ·rw [QGF m1]
    refine zS ?_
    refine⟨fun _=>?_,fun h=>absurd zD h⟩
    refine zS ?_
    refine QO.useV (QOF G.W zo d[j]) rfl ?_
    by_cases m2:d[j]∈QF G.W
    ·obtain⟨i2,x2,f2,-⟩:=QFS m2
     rw [if_neg (by simp [m2])] at hnn
     rw [f2]
     refine zS ?_
     refine⟨fun h=>absurd h zo,fun _=>?_⟩
     refine zS ?_
     refine⟨(j+1,N),⟨hj1,zO,hnn.symm⟩,zO,?_⟩
     exact fzN 0 [] []
    ·rw [if_pos (by simp [m1,m2])] at hnn
     rw [QGF m2]
     refine zS ?_
     refine⟨fun _=>?_,fun h=>absurd zD h⟩
     refine zS ?_
     refine (QMp N zo d[j]).useV ?_
     refine zS ?_
     refine⟨(j+1,insH d[j] N),⟨hj1,zO,hnn.symm⟩,zO,?_⟩
     exact fzN 0 [] []
  ·have hjj:j=d.length:=by omega
   subst hjj
   rw [List.take_length,←hnx] at hN
   refine zS ?_
   refine⟨(i+1,N),⟨hi1,zO,hN⟩,zO,?_⟩
   exact fzN 0 [] []
 ·have hii:i=G.W.length:=by omega
  subst hii
  rw [List.take_length] at hM
  have hM':M=misF G:=hM
  rw [hM']
  exact zC
open Proofs
structure MadeV where
 au:UInt8
 on:List UInt8
 note:ByteArray
 ops:List OpV
 bad:UInt8
def mdc (m:MadeV):List AV:=[.v (.int .u8 (m.au.toNat:Nat)),.seq m.on.length 1 (flat QC m.on),.v (.string m.note),.seq m.ops.length 5 (flat QX m.ops),.v (.int .u8 (m.bad.toNat:Nat))]
theorem QHe (m:MadeV):(mdc m).length=5:=rfl
theorem QO5 (m:MadeV):idfL (mdc m)=true:=by simp [mdc,idfL,idf,Qg,QFB]
theorem QJY {l:List MadeV}:idfL (flat mdc l)=true:=QZ QO5 l
theorem QP6 {l:List MadeV}:(flat mdc l).length=l.length*5:=QW QHe _
theorem QYs (l:List MadeV) (i:Nat) (hi:i<l.length):(flat mdc l).drop (i*5)=mdc l[i]++flat mdc (l.drop (i+1)):=QAh QHe l i hi
attribute [push_cast] QO5 QJY QP6 QYs
def cntO (l:List OpV):Nat:=(l.map fun o=>1+min o.text.size 300).sum
def cntM (l:List MadeV):Nat:=(l.map fun m=>cntO m.ops).sum
def fewF (l:List MadeV):Bool:=decide (l.length≤30)&&(l.all fun m=>decide (m.ops.length≤300))&&decide (cntM l≤300)
theorem QT9 {l:List OpV} {i:Nat} (hi:i<l.length):cntO (l.take (i+1))=cntO (l.take i)+(1+min l[i].text.size 300):=by
 rw [List.take_succ_eq_append_getElem hi,cntO,cntO,List.map_append,List.sum_append];simp
theorem QRy {l:List MadeV} {i:Nat} (hi:i<l.length):cntM (l.take (i+1))=cntM (l.take i)+cntO l[i].ops:=by
 rw [List.take_succ_eq_append_getElem hi,cntM,cntM,List.map_append,List.sum_append];simp
theorem QbZ (l:List OpV) (i:Nat):cntO (l.take i)≤cntO l:=by
 have h:cntO l=cntO (l.take i)+cntO (l.drop i):=by
  rw [cntO,cntO,cntO,←List.sum_append,←List.map_append,List.take_append_drop]
 omega
theorem Qdd (l:List MadeV) (i:Nat):cntM (l.take i)≤cntM l:=by
 have h:cntM l=cntM (l.take i)+cntM (l.drop i):=by
  rw [cntM,cntM,cntM,←List.sum_append,←List.map_append,List.take_append_drop]
 omega
theorem Qfk (l:List MadeV) (hl:l.length≤1048576) (ho:∀m∈l,m.ops.length≤1048576) (ht:∀m∈l,∀o∈m.ops,o.text.size≤1048576):QE Tryz.prog [] 16 [.seq l.length 5 (flat mdc l)] (.v (.bool (fewF l))):=by
 refine QE.start Tryz.func16 rfl zK rfl Tryz.ntmps16 fol zK (by simp [idfL,idf,QZ QS,QS,Qg,Qy,QJY]) (by simp [idfL,idf,QZ QS,QS,Qg,Qy,QJY]) ?_
 refine zZ ?_
 refine QD (ι:=Nat) (fun i=>⟨[(0,.seq l.length 5 (flat mdc l)),(3,.v (.int .i64 (cntM (l.take i)))),(4,.v (.int .i64 i))],⟨[],0,0,0⟩⟩) (fun i=>i≤l.length∧i≤30∧cntM (l.take i)≤300∧∀m∈l.take i,m.ops.length≤300) (fun i=>l.length - i) 0 ⟨Nat.zero_le _,Nat.zero_le _,Nat.zero_le _,by simp⟩ ?_ ?_
 ·(have X1:=@List.take_zero.{0};have X2:=@cntM.eq_1;have X3:=@List.map_nil.{0,0};have X4:=@List.sum_nil.{0};refine fzNM 0 [] [] ?_ ?_<;>first | exact zC4 | refine zS4 ?_)
  try rfl
 rintro i ⟨hi,hi30,hc,ha⟩
 refine zS ?_
 refine⟨fun h1=>?_,fun h1=>?_⟩
 ·have hi1:i<l.length:=by omega
  have hol:=ho _ (List.getElem_mem hi1)
  have htl:=ht _ (List.getElem_mem hi1)
  have hcm:=QRy hi1
  have hno:¬(l.length≤30∧(∀m∈l,m.ops.length≤300)∧cntM l≤300)→fewF l=false:=fun h=>by
   rw [←Bool.not_eq_true]
   intro hf
   simp only [fewF,Bool.and_eq_true,decide_eq_true_eq,List.all_eq_true] at hf
   exact h ⟨hf.1.1,hf.1.2,hf.2⟩
  have hcl:=Qdd l (i+1)
  have hmem:l[i]∈l:=List.getElem_mem hi1
  have hnx:l[i].ops.length≤300→∀m∈l.take (i+1),m.ops.length≤300:=fun h m hm=>by
   rw [List.take_succ_eq_append_getElem hi1,List.mem_append,List.mem_singleton] at hm
   rcases hm with k | k
   ·exact ha m k
   ·rw [k];exact h
  (have X1:=@mdc.eq_1;refine zS1 ?_;clear X1)
  refine⟨fun k1=>?_,fun k1=>?_⟩
  ·(have X1:=@mdc.eq_1;refine zS1 ?_;clear X1)
   refine⟨fun k2=>?_,fun k2=>?_⟩
   ·rw [hno (fun h=>by have:=h.2.1 _ hmem;omega)]
    exact zC
   ·refine zS ?_
    generalize hM:l[i]=M at*
    refine QD (ι:=Nat) (fun j=>⟨[(0,.seq l.length 5 (flat mdc l)),(3,.v (.int .i64 ((cntM (l.take i)+cntO (M.ops.take j):Nat):Int))),(4,.v (.int .i64 i)),(5,.v (.int .i64 j))],⟨[],0,0,0⟩⟩) (fun j=>j≤M.ops.length∧cntM (l.take i)+cntO (M.ops.take j)≤300) (fun j=>M.ops.length - j) 0 ⟨Nat.zero_le _,by simpa [cntO] using hc⟩ ?_ ?_
    ·(have X1:=@List.take_zero.{0};have X2:=@cntO.eq_1;have X3:=@List.map_nil.{0,0};have X4:=@List.sum_nil.{0};exact fzN4 0 [] [])
    rintro j ⟨hj,hcj⟩
    (have X1:=@mdc.eq_1;have X2:=hM;refine zS2 ?_;clear X1 X2)
    refine⟨fun k3=>?_,fun k3=>?_⟩
    ·have hj1:j<M.ops.length:=by omega
     have hco:=QT9 hj1
     have htj:=htl _ (List.getElem_mem hj1)
     have hmn:min ((M.ops[j].text.size:Nat):Int) 300=((min M.ops[j].text.size 300:Nat):Int):=by omega
     have hcl2:=QbZ M.ops (j+1)
     (have X1:=@mdc.eq_1;have X2:=hM;have X3:=@QX.eq_1;have X4:=hmn;refine zS4 ?_;clear X1 X2 X3 X4)
     refine⟨fun k4=>?_,fun k4=>?_⟩
     ·rw [hno (fun h=>by have:=h.2.2;omega)]
      exact zC
     ·refine zS ?_
      refine⟨j+1,⟨hj1,by rw [hco];omega⟩,zO,?_⟩
      simp only [hco]
      refine fzNM 0 [] [] ?_ ?_<;>first | exact zC | refine zS ?_
      congr 2
      omega
    ·have hjj:j=M.ops.length:=by omega
     subst hjj
     rw [List.take_length] at hcj
     refine zS ?_
     refine⟨i+1,⟨hi1,by omega,by omega,hnx zo⟩,zO,?_⟩
     simp only [hcm,List.take_length]
     refine fzNM 0 [] [] ?_ ?_<;>first | exact zC | refine zS ?_
     try rfl
  ·rw [hno (fun h=>by omega)]
   exact zC
 ·have hii:i=l.length:=by omega
  subst hii
  rw [List.take_length] at hc ha
  have hf:fewF l=true:=by
   simp only [fewF,Bool.and_eq_true,decide_eq_true_eq,List.all_eq_true]
   exact⟨⟨hi30,ha⟩,hc⟩
  rw [hf]
  exact zC
end Go.AW
