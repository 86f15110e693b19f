/- A part of the proof: D78 D79 D80. -/
import Derived.Test.YtpcbnjbpdooejaaGreatDoorPae
import Derived.Test.YtpcbnjbpdooejaaGreatDoorPba
set_option linter.unusedSimpArgs false
set_option linter.unusedVariables false
set_option maxRecDepth 100000
set_option maxHeartbeats 8000000
namespace Go.AW
open Proofs
def laR (c:ChV):AV:=if chE c=0 then .tup [.sl 0 0 (chB c).length 1,.v (.int .i64 0)] else .tup [.v (.slice none 0 0),.v (.int .i64 (chE c))]
def laO (c:ChV):List (Nat×AObj):=if chE c=0 then [(0,.cells 5 (flat QC (chB c)) true)] else []
theorem lay_m (c:ChV) (hs:QES c):QM Tryz.prog [] 79 [.agg (ccl c)] [] 0 (laR c) (laO c) 1:=by
 refine QM.start Tryz.func79 rfl zK rfl Tryz.ntmps79 fol zK zD ?_
 refine zz ?_
 (have X1:=@ccl.eq_1;refine zS1 ?_;clear X1)
 refine QD (ι:=Nat) (fun i=>⟨[(1,.rop (ccl c)),(18,.seq 5 2 [.clo (.func 140) [] [.rop (ccl c)],.v (.int .i64 30),.clo (.func 141) [] [.rop (ccl c)],.v (.int .i64 42),.clo (.func 143) [] [.rop (ccl c)],.v (.int .i64 43),.clo (.func 144) [] [.rop (ccl c)],.v (.int .i64 41),.clo (.func 145) [] [.rop (ccl c)],.v (.int .i64 5)]),(19,.v (.int .i64 5)),(20,.v (.int .i64 i))],⟨[],0,0,0⟩⟩)
  (fun i=>i≤5∧(1≤i→QBP c.author=true)∧(2≤i→numB c.seq=true)∧(3≤i→numB c.start=true)∧(4≤i→depB c.deps=true)∧(5≤i→c.note.size≤1024)) (fun i=>5 - i) 0 ⟨Nat.zero_le _,by omega,by omega,by omega,by omega,by omega⟩ ?_ ?_
 ·(have X1:=@ccl.eq_1;have X2:=@QLD;refine fzNM 0 [] [] ?_ ?_<;>first | exact zC2 | refine zS2 ?_)
  rfl
 rintro i ⟨hi,k1,k2,k3,k4,k5⟩
 obtain⟨z1,z2,z3,z4,z5,z6,z7,z8⟩:=hs
 refine zS ?_
 refine⟨fun h1=>?_,fun h1=>?_⟩
 ·have hcase:i=0∨i=1∨i=2∨i=3∨i=4:=by omega
  rcases hcase with rfl | rfl | rfl | rfl | rfl
  ·(have X1:=@zLL;have X2:=@zTT;refine zS2 ?_;clear X1 X2)
   refine (Qf7 c z1).useV ?_
   cases hb:QBP c.author
   ·have hE:chE c=30:=by rw [chE,if_pos hb]
    rw [laR,laO,hE]
    refine zS ?_
    refine fzNM 0 [] [] ?_ ?_<;>first | exact zC | refine zS ?_
    all_goals rfl
   ·refine zS ?_
    refine⟨1,⟨by decide,fun _=>by first | exact hb | trivial,by omega,by omega,by omega,by omega⟩,by show 5 - 1<5 - 0;decide,?_⟩
    (have X1:=@QLD;have X2:=@QJM;refine fzNM 0 [] [] ?_ ?_<;>first | exact zC2 | refine zS2 ?_)
    try rfl
  ·(have X1:=@zLL;have X2:=@zTT;refine zS2 ?_;clear X1 X2)
   refine (QgB c).useV ?_
   cases hb:numB c.seq
   ·have hE:chE c=42:=by rw [chE,if_neg (by rw [k1 zD];decide),if_pos hb]
    rw [laR,laO,hE]
    refine zS ?_
    refine fzNM 0 [] [] ?_ ?_<;>first | exact zC | refine zS ?_
    all_goals rfl
   ·refine zS ?_
    refine⟨2,⟨by decide,fun _=>k1 zD,fun _=>by first | exact hb | trivial,by omega,by omega,by omega⟩,by show 5 - 2<5 - 1;decide,?_⟩
    (have X1:=@QLD;have X2:=@QJM;refine fzNM 0 [] [] ?_ ?_<;>first | exact zC2 | refine zS2 ?_)
    try rfl
  ·(have X1:=@zLL;have X2:=@zTT;refine zS2 ?_;clear X1 X2)
   refine (Qf3 c).useV ?_
   cases hb:numB c.start
   ·have hE:chE c=43:=by rw [chE,if_neg (by rw [k1 zD];decide),if_neg (by rw [k2 zD];decide),if_pos hb]
    rw [laR,laO,hE]
    refine zS ?_
    refine fzNM 0 [] [] ?_ ?_<;>first | exact zC | refine zS ?_
    all_goals rfl
   ·refine zS ?_
    refine⟨3,⟨by decide,fun _=>k1 zD,fun _=>k2 zD,fun _=>by first | exact hb | trivial,by omega,by omega⟩,by show 5 - 3<5 - 2;decide,?_⟩
    (have X1:=@QLD;have X2:=@QJM;refine fzNM 0 [] [] ?_ ?_<;>first | exact zC2 | refine zS2 ?_)
    try rfl
  ·(have X1:=@zLL;have X2:=@zTT;refine zS2 ?_;clear X1 X2)
   refine (QgC c z4).useV ?_
   cases hb:depB c.deps
   ·have hE:chE c=41:=by rw [chE,if_neg (by rw [k1 zD];decide),if_neg (by rw [k2 zD];decide),if_neg (by rw [k3 zD];decide),if_pos hb]
    rw [laR,laO,hE]
    refine zS ?_
    refine fzNM 0 [] [] ?_ ?_<;>first | exact zC | refine zS ?_
    all_goals rfl
   ·refine zS ?_
    refine⟨4,⟨by decide,fun _=>k1 zD,fun _=>k2 zD,fun _=>k3 zD,fun _=>by first | exact hb | trivial,by omega⟩,by show 5 - 4<5 - 3;decide,?_⟩
    (have X1:=@QLD;have X2:=@QJM;refine fzNM 0 [] [] ?_ ?_<;>first | exact zC2 | refine zS2 ?_)
    try rfl
  ·(have X1:=@zLL;have X2:=@zTT;refine zS2 ?_;clear X1 X2)
   refine (Qf6 c z6).useV ?_
   cases hb:decide (c.note.size≤1024)
   ·have hE:chE c=5:=by rw [chE,if_neg (by rw [k1 zD];decide),if_neg (by rw [k2 zD];decide),if_neg (by rw [k3 zD];decide),if_neg (by rw [k4 zD];decide),if_pos (by simpa using hb)]
    rw [laR,laO,hE]
    refine zS ?_
    refine fzNM 0 [] [] ?_ ?_<;>first | exact zC | refine zS ?_
    all_goals rfl
   ·refine zS ?_
    refine⟨5,⟨by decide,fun _=>k1 zD,fun _=>k2 zD,fun _=>k3 zD,fun _=>k4 zD,fun _=>by simpa using hb⟩,by show 5 - 5<5 - 4;decide,?_⟩
    (have X1:=@QLD;have X2:=@QJM;refine fzNM 0 [] [] ?_ ?_<;>first | exact zC2 | refine zS2 ?_)
    try rfl
 ·obtain rfl:i=5:=by omega
  (have X1:=@ccl.eq_1;have X2:=@List.getElem?_cons_succ.{0};refine zS2 ?_;clear X1 X2)
  have hP:=Qfs c.ops z7 z8
  refine Fit.use (ids:=[]) (.inr hP) (QAE hP.1) ?_
  have q1:=k1 zD
  have q2:=k2 zD
  have q3:=k3 zD
  have q4:=k4 zD
  have q5:=k5 zD
  have hE:chE c=QAM c.ops:=by rw [chE,if_neg (by rw [q1];decide),if_neg (by rw [q2];decide),if_neg (by rw [q3];decide),if_neg (by rw [q4];decide),if_neg zo]
  by_cases he:QAM c.ops=0
  ·have hOR:QAb c.ops=QAy c.ops:=by rw [QAb,if_pos he]
   rw [laR,laO,hE,he,hOR,if_pos rfl,if_pos rfl]
   simp only [numB,decide_eq_true_eq] at q2 q3
   have w2:IntKind.u64.wrap c.seq=(c.seq.toNat:Nat):=by rw [QU zo zo];omega
   have w3:IntKind.u64.wrap c.start=(c.start.toNat:Nat):=by rw [QU zo zo];omega
   have t1:=QIN c.author zo
   have t5:=QIN c.note zo
   rw [show lebT c.author.data.toList=lebB c.author from rfl] at t1
   rw [show lebT c.note.data.toList=lebB c.note from rfl] at t5
   (have X1:=w2;have X2:=w3;have X3:=@List.getElem?_cons_succ.{0};have X4:=@List.drop_succ_cons.{0};refine zS4 ?_;clear X1 X2 X3 X4)
   refine QO.useN t1 rfl ?_
   (have X1:=w2;have X2:=w3;have X3:=@List.getElem?_cons_succ.{0};have X4:=@List.drop_succ_cons.{0};refine zS4 ?_;clear X1 X2 X3 X4)
   refine QO.useN (QCg c.seq.toNat zo) rfl ?_
   (have X1:=w2;have X2:=w3;have X3:=@List.getElem?_cons_succ.{0};have X4:=@List.drop_succ_cons.{0};refine zS4 ?_;clear X1 X2 X3 X4)
   refine QO.useN (QCg c.start.toNat zo) rfl ?_
   (have X1:=w2;have X2:=w3;have X3:=@List.getElem?_cons_succ.{0};have X4:=@List.drop_succ_cons.{0};refine zS4 ?_;clear X1 X2 X3 X4)
   refine QO.useN (QgA c.deps z4 z5) rfl ?_
   (have X1:=w2;have X2:=w3;have X3:=@List.getElem?_cons_succ.{0};have X4:=@List.drop_succ_cons.{0};refine zS4 ?_;clear X1 X2 X3 X4)
   refine QO.useN t5 rfl ?_
   (have X1:=w2;have X2:=w3;have X3:=@List.getElem?_cons_succ.{0};have X4:=@List.drop_succ_cons.{0};refine zS4 ?_;clear X1 X2 X3 X4)
   obtain⟨bs,hbs⟩:∃bs,bs=[[1],lebB c.author,lebU c.seq.toNat,lebU c.start.toNat,QCY c.deps,lebB c.note,QAy c.ops]:=⟨_,rfl⟩
   have hfl:flat QBs bs=[.seq 1 1 [.v (.int .u8 1)],.seq (lebB c.author).length 1 (flat QC (lebB c.author)),.seq (lebU c.seq.toNat).length 1 (flat QC (lebU c.seq.toNat)),.seq (lebU c.start.toNat).length 1 (flat QC (lebU c.start.toNat)),.seq (QCY c.deps).length 1 (flat QC (QCY c.deps)),.seq (lebB c.note).length 1 (flat QC (lebB c.note)),.seq (QAy c.ops).length 1 (flat QC (QAy c.ops))]:=by rw [hbs];rfl
   have hCB:chB c=bs.flatten:=by rw [hbs,chB]
   have hbl:bs.length=7:=by rw [hbs];rfl
   have y1:=QBc (s:=c.author) zo
   have y2:=QAA (show c.seq.toNat<18446744073709551616 by omega)
   have y3:=QAA (show c.start.toNat<18446744073709551616 by omega)
   have y4:=QBc (s:=c.note) zo
   have y5:=QAA (show c.deps.length<18446744073709551616 by omega)
   have y6:=QE0 c.deps
   have y7:=QHf c.ops he z8
   have y8:(QCY c.deps).length=(lebU c.deps.length).length+(c.deps.flatMap hB).length:=by rw [QCY,List.length_append]
   have hC:=QO6 bs zo (by rw [hbs];simp only [List.flatten_cons,List.flatten_nil,List.length_append,List.length_nil,List.length_cons];omega)
   rw [hbl,hfl] at hC
   rw [hCB]
   refine QO.useO (ids:=[242,223]) hC ?_ rfl rfl ?_ ?_
   ·exact zCN
   ·exact zC
   refine zS ?_
   exact fzN 0 [(0,243)] []
  ·rw [laR,laO,hE,if_neg he,if_neg he]
   refine zS ?_
   iterate 14 all_goals (try (refine And.intro (fun _=>?_) (fun _=>?_)<;>try first | exact zC | refine zS ?_))
   all_goals first
    | (exfalso;omega)
    | ((refine fzNM 0 [] [] ?_ ?_<;>first | exact zC | refine zS ?_);done)
    | ((refine fzNM 0 [] [] ?_ ?_<;>first | exact zC | refine zS ?_);rfl)
theorem Qf1 (c:ChV) (hs:QES c):PNew Tryz.prog [] 30 [.agg (ccl c)] (.tup [.seq (chR c).length 1 (flat QC (chR c)),.v (.int .i64 (chE2 c))]):=by
 refine PNew.startW Tryz.func30 rfl (by kernel_rfl) rfl Tryz.ntmps30 fol (by kernel_rfl) (by simp [idfL,idf,QZ QS,QS,Qg,Qy,QJM,Qg]) (by simp [idfL,idf,QZ QS,QS,Qg,Qy,QJM,Qg]) ?_
 refine zz ?_
 (have X1:=@ccl.eq_1;refine zS1 ?_;clear X1)
 have hlm:=lay_m c hs
 rw [ccl] at hlm
 by_cases he:chE c=0
 ·rw [laR,laO,if_pos he,if_pos he] at hlm
  refine QM.useX [] hlm rfl zC zC ?_
  refine zS ?_
  by_cases hl:65536<(chB c).length
  ·have h2:chE2 c=5:=by rw [chE2,if_neg (fun h=>h he),if_pos hl]
   have h3:chR c=[]:=by rw [chR,h2];rfl
   rw [h2,h3]
   iterate 14 all_goals (try (refine And.intro (fun _=>?_) (fun _=>?_)<;>try first | exact zC | refine zS ?_))
   all_goals first
    | (exfalso;omega)
    | rfl
  ·have h2:chE2 c=0:=by rw [chE2,if_neg (fun h=>h he),if_neg hl]
   have h3:chR c=chB c:=by rw [chR,if_pos h2]
   rw [h2,h3]
   iterate 14 all_goals (try (refine And.intro (fun _=>?_) (fun _=>?_)<;>try first | exact zC | refine zS ?_))
   all_goals first
    | (exfalso;omega)
    | rfl
 ·rw [laR,laO,if_neg he,if_neg he] at hlm
  have h2:chE2 c=chE c:=by rw [chE2,if_pos he]
  have h3:chR c=[]:=by rw [chR,h2,if_neg he]
  refine QM.useX [] hlm rfl zC zC ?_
  rw [h2,h3]
  refine zS ?_
  iterate 14 all_goals (try (refine And.intro (fun _=>?_) (fun _=>?_)<;>try first | exact zC | refine zS ?_))
  all_goals first
   | (exfalso;omega)
   | rfl
open Proofs
theorem QfC {l:List OpV}:sclL (flat QX l)=true:=QGp (fun _=>rfl) l
attribute [push_cast] QfC
theorem oflat_all {l:List OpV} {n:Nat} (h:l.length≤n):(flat QX l).take (n*5)=flat QX l:=List.take_of_length_le (by rw [QCM];omega)
theorem cGet_n (b:List UInt8) (hb:b.length≤1048576):PNew Tryz.prog [] 51 [.seq b.length 1 (flat QC b)] (.tup [.agg (cclE (QAd b)),.v (.int .i64 (QAd b).2)]):=by
 refine PNew.start Tryz.func51 rfl (by kernel_rfl) rfl Tryz.ntmps51 fol (by kernel_rfl) (by simp [idfL,idf,QZ QS,QS,Qg,Qy,QSl]) (by simp [idfL,idf,QZ QS,QS,Qg,Qy,QSl]) ?_
 refine zz ?_
 refine zS ?_
 refine⟨fun h=>?_,fun h=>?_⟩
 ·obtain⟨x,l,rfl⟩:∃x l,b=x::l:=by cases b with | nil=>exact absurd rfl h | cons x l=>exact⟨x,l,rfl⟩
  have hg:(List.drop (Int.toNat 0) (flat QC (x::l)))[0]?=some (.v (.int .u8 x.toNat)):=rfl
  have hd1:List.drop (Int.toNat 1) (flat QC (x::l))=flat QC l:=rfl
  have hn1:l.length+1 - Int.toNat 1=l.length:=rfl
  have hlen:l.length≤1048576:=by rw [List.length_cons] at hb;omega
  obtain⟨R,hR⟩:∃R,R=QAd (x::l):=⟨_,rfl⟩
  rw [←hR]
  rw [QAd] at hR
  (have X1:=hg;refine zS1 ?_;clear X1)
  refine⟨fun h1=>?_,fun h1=>?_⟩
  ·rw [if_neg zo] at hR
   subst hR
   (have X1:=@cclE_err;first | exact zC1 | refine zS1 ?_)
   rfl
  ·rw [if_pos zo] at hR
   (have X1:=hd1;have X2:=hn1;refine zS2 ?_;clear X1 X2)
   refine QM.useX [] (QQq l zo) rfl (by simp only [QCA,QC1,renA];rw [QAj Qg]) ?_ ?_
   ·exact zC
   (have X1:=@QAe.eq_1;refine zS1 ?_;clear X1)
   refine QM.useX [318] (Qaw l 0 32 zo zD) rfl rfl ?_ ?_
   ·(have X1:=@QAe.eq_1;exact zC1)
   have f1:=QJL (b:=l) (e:=0) (k:=(rgT l 32).2.1) (f:=(rgT l 32).2.2)
   have l1:=QDp (b:=l) (e:=0) (k:=(rgT l 32).2.1) (f:=(rgT l 32).2.2)
   have z1:=QCD (b:=l) (e:=0) (k:=(rgT l 32).2.1) (f:=(rgT l 32).2.2)
   have d1:=QCV (b:=l) (e:=0) (k:=(rgT l 32).2.1) (f:=(rgT l 32).2.2)
   generalize hr1:rstF l 0 (rgT l 32).2.1 (rgT l 32).2.2=r1 at*
   obtain⟨bA,eA⟩:=r1
   (have X1:=@QAe.eq_1;refine zS1 ?_;clear X1)
   refine QM.useX [318] (QUQ bA eA 1099511627776 (by simp only at l1;omega) zD) rfl rfl ?_ ?_
   ·(have X1:=@QAe.eq_1;exact zC1)
   have f2:=QJL (b:=bA) (e:=eA) (k:=(rgU bA).2.1) (f:=nuE bA 1099511627776)
   have l2:=QDp (b:=bA) (e:=eA) (k:=(rgU bA).2.1) (f:=nuE bA 1099511627776)
   have z2:=QCD (b:=bA) (e:=eA) (k:=(rgU bA).2.1) (f:=nuE bA 1099511627776)
   have d2:=QCV (b:=bA) (e:=eA) (k:=(rgU bA).2.1) (f:=nuE bA 1099511627776)
   generalize hr2:rstF bA eA (rgU bA).2.1 (nuE bA 1099511627776)=r2 at*
   obtain⟨bB,eB⟩:=r2
   (have X1:=@QAe.eq_1;refine zS1 ?_;clear X1)
   refine QM.useX [318] (QUQ bB eB 1099511627776 (by simp only at l1 l2;omega) zD) rfl rfl ?_ ?_
   ·(have X1:=@QAe.eq_1;exact zC1)
   have f3:=QJL (b:=bB) (e:=eB) (k:=(rgU bB).2.1) (f:=nuE bB 1099511627776)
   have l3:=QDp (b:=bB) (e:=eB) (k:=(rgU bB).2.1) (f:=nuE bB 1099511627776)
   have z3:=QCD (b:=bB) (e:=eB) (k:=(rgU bB).2.1) (f:=nuE bB 1099511627776)
   have d3:=QCV (b:=bB) (e:=eB) (k:=(rgU bB).2.1) (f:=nuE bB 1099511627776)
   generalize hr3:rstF bB eB (rgU bB).2.1 (nuE bB 1099511627776)=r3 at*
   obtain⟨bC,eC⟩:=r3
   simp only at f1 f2 f3 l1 l2 l3 z1 z2 z3 d1 d2 d3
   (have X1:=@QAe.eq_1;refine zS1 ?_;clear X1)
   refine QM.useX [318] (Qbb bC eC) rfl rfl ?_ ?_
   ·(have X1:=@QAe.eq_1;exact zC1)
   have hsuf:bC=List.drop ((x::l).length - bC.length) (x::l):=List.suffix_iff_eq_drop.mp ((f3.trans (f2.trans f1)).trans (List.suffix_cons x l))
   have hto:((l.length:Int)+1 - (bC.length:Int)).toNat=(x::l).length - bC.length:=by rw [List.length_cons];omega
   have hle:l.length+1 - ((x::l).length - bC.length)=bC.length:=by rw [List.length_cons];omega
   have hdC:List.drop ((x::l).length - bC.length) (flat QC (x::l))=flat QC bC:=by rw [QL,←hsuf]
   have htC:List.take bC.length (flat QC bC)=flat QC bC:=by rw [QT,List.take_length]
   generalize hW:(x::l).length - bC.length=W at hto hle hdC
   (have X1:=@QAe.eq_1;have X2:=hto;have X3:=hle;have X4:=hdC;have X5:=htC;refine zS5 ?_;clear X1 X2 X3 X4 X5)
   have hH:=HGet_m bC zo
   rw [QOC] at hH
   obtain⟨m1,m2,m3⟩:=QTi bC
   rw [QLa] at hR
   generalize hHe:hGet rgU bC 16=H at m1 m2 m3 hH
   obtain⟨hs,k5,e5⟩:=H
   simp only at m1 m2 m3
   rcases (show e5=0∨e5≠0 by omega) with h50 | h50
   ·rw [hgR,hgO,if_pos h50,if_pos h50] at hH
    dsimp only at hH
    refine QM.useX [] hH rfl (by have X1:=@QAe.eq_1;exact zC1) zC ?_
    (have X1:=@QAe.eq_1;refine zS1 ?_;clear X1)
    refine QM.useX [318] (QfM bC eC) rfl rfl ?_ ?_
    ·(have X1:=@QAe.eq_1;exact zC1)
    (have X1:=@QAe.eq_1;refine zS1 ?_;clear X1)
    refine And.intro (fun h5=>?_) (fun h5=>?_)
    ·have eC0:eC=0:=by omega
     have eB0:=(z3.mp eC0).1
     have e3:=(z3.mp eC0).2
     have eA0:=(z2.mp eB0).1
     have e2:=(z2.mp eB0).2
     have e1:(rgT l 32).2.2=0:=by first | exact (z1.mp eA0).2 | exact z1.mp eA0
     rw [if_neg (fun h=>h e1),←d1 eA0,QFO,if_neg (fun h=>h e2),←d2 eB0,QE7,if_neg (fun h=>h e3),←d3 eC0,QKp,hHe] at hR
     subst eA0 eB0 eC0
     rw [if_pos e1,if_pos (show 0=0∧nuE bA 1099511627776=0 from ⟨rfl,e2⟩),if_pos (show 0=0∧nuE bB 1099511627776=0 from ⟨rfl,e3⟩)]
     refine zS ?_
     refine And.intro (fun h6=>?_) (fun h6=>?_)
     ·rw [if_pos (show e5≠0 by omega)] at hR
      subst hR
      (have X1:=@cclE_err;first | exact zC1 | refine zS1 ?_)
      try rfl
     ·have h7:e5=0:=by omega
      subst h7
      rw [if_neg (fun h=>h rfl),QLL] at hR
      have dd:List.take (bC.drop k5).length (List.drop k5 (flat QC bC))=flat QC (bC.drop k5):=by
       rw [QL,QT,List.take_of_length_le (Nat.le_refl _)]
      have dl:(bC.drop k5).length=bC.length - k5:=List.length_drop ..
      (have X1:=dd;have X2:=(dl).symm;refine zS2 ?_;clear X1 X2)
      have hbD:(bC.drop k5).length≤1048576:=by omega
      have hT:=QCy (bC.drop k5) 1024 zo zD
      rw [QFw] at hT
      refine hT.useV ?_
      have l4:=QLp (bC.drop k5) 1024
      have s4:=QDl (bC.drop k5) 1024
      generalize rgT (bC.drop k5) 1024=N at l4 s4 hR ⊢
      obtain⟨nt,k6,e6⟩:=N
      simp only at l4 s4 hR
      (have X1:=@gtR.eq_1;refine zS1 ?_;clear X1)
      refine And.intro (fun h8=>?_) (fun h8=>?_)
      ·rw [if_pos (show e6≠0 by omega)] at hR
       subst hR
       (have X1:=@cclE_err;first | exact zC1 | refine zS1 ?_)
       try rfl
      ·have h9:e6=0:=by omega
       subst h9
       rw [if_neg (fun h=>h rfl)] at hR
       have to2:((k5:Int)+(k6:Int)).toNat=k5+k6:=by omega
       have dE:List.drop (k5+k6) (flat QC bC)=flat QC ((bC.drop k5).drop k6):=by rw [QL,List.drop_drop]
       have lE:bC.length - (k5+k6)=((bC.drop k5).drop k6).length:=by rw [List.length_drop,List.length_drop];omega
       have tE:List.take ((bC.drop k5).drop k6).length (flat QC ((bC.drop k5).drop k6))=flat QC ((bC.drop k5).drop k6):=by rw [QT,List.take_length]
       have hbE:((bC.drop k5).drop k6).length≤1048576:=by rw [List.length_drop];omega
       generalize (bC.drop k5).drop k6=bE at hR hbE dE lE tE ⊢
       (have X1:=to2;have X2:=dE;have X3:=lE;have X4:=tE;refine zS4 ?_;clear X1 X2 X3 X4)
       have hG:=Get_m bE hbE
       rw [QQw] at hG
       obtain⟨m4,m5⟩:=QIG bE
       rw [QHs] at hR
       generalize QA5 bE=O at m4 m5 hR hG
       obtain⟨ol,e7⟩:=O
       simp only at m4 m5 hR
       rcases (show e7=0∨e7≠0 by omega) with h70 | h70
       ·rw [opR,opO,if_pos h70,if_pos h70] at hG
        dsimp only at hG
        refine QM.useX [] hG rfl zC zC ?_
        refine zS ?_
        refine And.intro (fun h10=>?_) (fun h10=>?_)
        ·rw [if_pos (show e7≠0 by omega)] at hR
         subst hR
         (have X1:=@cclE_err;first | exact zC1 | refine zS1 ?_)
         try rfl
        ·have h11:e7=0:=by omega
         subst h11
         rw [if_neg (fun h=>h rfl)] at hR
         have q1:=QF0 e2
         have q2:=QF0 e3
         have w1:IntKind.i64.wrap ((rgU bA).1.toNat:Int)=((rgU bA).1.toNat:Int):=QAN zo zo
         have w2:IntKind.i64.wrap ((rgU bB).1.toNat:Int)=((rgU bB).1.toNat:Int):=QAN zo zo
         have s1:=QDl l 32
         have i1:I64 ((rgU bA).1.toNat:Int):=⟨by omega,by omega⟩
         have i2:I64 ((rgU bB).1.toNat:Int):=⟨by omega,by omega⟩
         have hsm:QES ⟨(rgT l 32).1,(rgU bA).1.toNat,(rgU bB).1.toNat,hs,nt,ol⟩:=⟨zO,i1,i2,zO,m2,zO,zO,m5⟩
         (have X1:=w1;have X2:=w2;refine zS2 ?_;clear X1 X2)
         refine PNew.use (ids:=[743,1168]) (Qf1 _ hsm) (by have X1:=@QLW;have X2:=@oflat_all;have X3:=@ccl.eq_1;exact zCN3) ?_
         generalize hX:(⟨(rgT l 32).1,(rgU bA).1.toNat,(rgU bB).1.toNat,hs,nt,ol⟩:ChV)=X at hR hsm ⊢
         have hc1:∀f g l,QC7 Tryz.prog 23 9 f g (.seq l.length 1 (flat QC l))=some (.v (.string ⟨l.toArray⟩),[]):=fun f g l=>QAD zK zK
         obtain⟨Z,hZ⟩:∃Z:ByteArray,Z=⟨(x::l).toArray⟩:=⟨_,rfl⟩
         have hc2:∀f g,QC7 Tryz.prog 23 9 f g (.seq (l.length+1) 1 (flat QC (x::l)))=some (.v (.string Z),[]):=fun f g=>by rw [hZ];exact QAD zK zK
         (have X1:=hc1;have X2:=hc2;refine zS2 ?_;clear X1 X2)
         refine And.intro (fun h12=>?_) (fun h12=>?_)
         ·have h13:chE2 X=0:=by omega
          have h14:chR X=chB X:=by rw [chR,if_pos h13]
          rw [h14]
          (have X1:=hc1;have X2:=hc2;refine zS2 ?_;clear X1 X2)
          refine And.intro (fun h15=>?_) (fun h15=>?_)
          ·rw [if_pos (.inr fun e=>h15 (by rw [e,hZ]))] at hR
           subst hR
           (have X1:=@cclE_err;first | exact zC1 | refine zS1 ?_)
           try rfl
          ·have h16:chB X=x::l:=QHj.1 (h15.trans hZ)
           rw [if_neg (fun h=>h.elim (fun h=>h h13) (fun h=>h h16))] at hR
           subst hR
           subst hX
           rw [show cclE ((⟨(rgT l 32).1,(rgU bA).1.toNat,(rgU bB).1.toNat,hs,nt,ol⟩:ChV),0)=ccl ⟨(rgT l 32).1,(rgU bA).1.toNat,(rgU bB).1.toNat,hs,nt,ol⟩ from if_pos rfl,ccl]
           (have X1:=@QLW;have X2:=@oflat_all;first | exact zC2 | refine zS2 ?_)
           try rfl
         ·have h13:chE2 X≠0:=by omega
          rw [if_pos (.inl h13)] at hR
          subst hR
          (have X1:=@cclE_err;first | exact zC1 | refine zS1 ?_)
          try rfl
       ·rw [opR,opO,if_neg h70,if_neg h70] at hG
        dsimp only at hG
        refine QM.useX [] hG rfl zC zC ?_
        refine zS ?_
        refine And.intro (fun h10=>?_) (fun h10=>absurd h70 zo)
        rw [if_pos (show e7≠0 by omega)] at hR
        subst hR
        (have X1:=@cclE_err;first | exact zC1 | refine zS1 ?_)
        try rfl
    ·have hR4:R=(chz,4):=by
      rw [hR]
      by_cases e1:(rgT l 32).2.2=0
      ·have eA0:eA=0:=z1.mpr (by first | exact⟨rfl,e1⟩ | exact⟨trivial,e1⟩)
       rw [if_neg (fun h=>h e1),←d1 eA0,QFO]
       by_cases e2:nuE bA 1099511627776=0
       ·have eB0:eB=0:=z2.mpr ⟨eA0,e2⟩
        rw [if_neg (fun h=>h e2),←d2 eB0,QE7]
        by_cases e3:nuE bB 1099511627776=0
        ·exact absurd (z3.mpr ⟨eB0,e3⟩) zo
        ·rw [if_pos e3]
       ·rw [if_pos e2]
      ·rw [if_pos e1]
     subst hR4
     (have X1:=@cclE_err;first | exact zC1 | refine zS1 ?_)
     try rfl
   ·rw [hgR,hgO,if_neg h50,if_neg h50] at hH
    dsimp only at hH
    refine QM.useX [] hH rfl (by have X1:=@QAe.eq_1;exact zC1) zC ?_
    (have X1:=@QAe.eq_1;refine zS1 ?_;clear X1)
    refine QM.useX [318] (QfM bC eC) rfl rfl ?_ ?_
    ·(have X1:=@QAe.eq_1;exact zC1)
    (have X1:=@QAe.eq_1;refine zS1 ?_;clear X1)
    refine And.intro (fun h5=>?_) (fun h5=>?_)
    ·have eC0:eC=0:=by omega
     have eB0:=(z3.mp eC0).1
     have e3:=(z3.mp eC0).2
     have eA0:=(z2.mp eB0).1
     have e2:=(z2.mp eB0).2
     have e1:(rgT l 32).2.2=0:=by first | exact (z1.mp eA0).2 | exact z1.mp eA0
     rw [if_neg (fun h=>h e1),←d1 eA0,QFO,if_neg (fun h=>h e2),←d2 eB0,QE7,if_neg (fun h=>h e3),←d3 eC0,QKp,hHe] at hR
     subst eA0 eB0 eC0
     rw [if_pos e1,if_pos (show 0=0∧nuE bA 1099511627776=0 from ⟨rfl,e2⟩),if_pos (show 0=0∧nuE bB 1099511627776=0 from ⟨rfl,e3⟩)]
     refine zS ?_
     refine And.intro (fun h6=>?_) (fun h6=>?_)
     ·rw [if_pos (show e5≠0 by omega)] at hR
      subst hR
      (have X1:=@cclE_err;first | exact zC1 | refine zS1 ?_)
      try rfl
     ·exact absurd h50 zo
    ·have hR4:R=(chz,4):=by
      rw [hR]
      by_cases e1:(rgT l 32).2.2=0
      ·have eA0:eA=0:=z1.mpr (by first | exact⟨rfl,e1⟩ | exact⟨trivial,e1⟩)
       rw [if_neg (fun h=>h e1),←d1 eA0,QFO]
       by_cases e2:nuE bA 1099511627776=0
       ·have eB0:eB=0:=z2.mpr ⟨eA0,e2⟩
        rw [if_neg (fun h=>h e2),←d2 eB0,QE7]
        by_cases e3:nuE bB 1099511627776=0
        ·exact absurd (z3.mpr ⟨eB0,e3⟩) zo
        ·rw [if_pos e3]
       ·rw [if_pos e2]
      ·rw [if_pos e1]
     subst hR4
     (have X1:=@cclE_err;first | exact zC1 | refine zS1 ?_)
     try rfl
 ·have:b=[]:=List.eq_nil_of_length_eq_zero zo
  subst this
  first | exact zC | refine zS ?_
  rfl
open Proofs
theorem uflat_all {l:List UInt8} {n:Nat} (h:l.length≤n):(flat QC l).take n=flat QC l:=List.take_of_length_le (by rw [QH];exact h)
theorem Add_o (G:GrV) (hG:GrOK G) (b:List UInt8) (hb:b.length≤1048576):
  QM Tryz.prog gK 32 [.ptr 0 0,.sl 4 0 b.length 1] (gO G++[(4,.cells 5 (flat QC b) true)]) 5 (.tup [.agg (hcell (addF G b).2.1),.v (.int .i64 (addF G b).2.2)]) (gO (addF G b).1++[(4,.cells 5 (flat QC b) true)]) 5:=by
 refine QM.start Tryz.func32 rfl zK rfl Tryz.ntmps32 fol zK (Nat.le_refl _) ?_
 simp only [List.zipIdx_cons,List.zipIdx_nil,List.map_cons,List.map_nil,Nat.zero_add,gO,List.cons_append,List.nil_append]
 have hWn:=hG.lenW
 have hLn:=hG.lenL
 refine zS ?_
 refine PNew.use (ids:=[4]) ((cGet_n b hb).gam) (by have X1:=@uflat_all;exact zCN1) ?_
 obtain⟨R,hR⟩:∃R,R=addF G b:=⟨_,rfl⟩
 rw [←hR]
 rw [addF] at hR
 have hI:=QN8 (b:=b)
 obtain⟨q,hq⟩:∃q,q=QAd b:=⟨_,rfl⟩
 rw [←hq] at hR hI ⊢
 obtain⟨c,e⟩:=q
 simp only at hR hI
 refine zS ?_
 by_cases he:e=0
 ·subst he
  rw [if_neg (fun h=>h rfl)] at hR
  refine⟨fun h=>absurd rfl h,fun _=>?_⟩
  have hIt:=hI rfl
  have hB:=hIt.bnd
  have hic:(mkI b).c=c:=by rw [mkI,←hq]
  have hih:(mkI b).h=shaH b:=rfl
  have hib:(mkI b).b=b:=rfl
  have hcc:cclE (c,0)=ccl c:=if_pos rfl
  rw [hcc]
  have hS:=QSk b zo
  rw [←QLe] at hS
  refine zS ?_
  refine hS.use (ids:=[4]) (by have X1:=@uflat_all;exact zCN1) (.inl rfl) ?_
  obtain⟨ws,hw1,hw2,hw3⟩:=QHw G.W (shaH b)
  (have X1:=hw1;have X2:=hw2;refine zS2 ?_;clear X1 X2)
  by_cases hW:shaH b∈QF G.W
  ·rw [if_pos (.inr hW)] at hR
   subst hR
   (have X1:=hW;refine zS1 ?_;clear X1)
   refine fzNM 5 [(0,0),(1,1),(2,2),(3,3),(4,4)] [0] ?_ ?_<;>first | exact zC | refine zS ?_
   try rfl
  ·(have X1:=hW;refine zS1 ?_;clear X1)
   have hH:=(QcP G (shaH b)).gam (γ:=gK)
   rw [QBf] at hH
   refine hH.use (ids:=[0,1,2,3]) zCN (.inl rfl) ?_
   by_cases hL:shaH b∈QF G.L
   ·rw [if_pos (.inl hL)] at hR
    subst hR
    (have X1:=@hasL.eq_1;have X2:=hL;refine zS2 ?_;clear X1 X2)
    refine fzNM 5 [(0,0),(1,1),(2,2),(3,3),(4,4)] [0] ?_ ?_<;>first | exact zC | refine zS ?_
    try rfl
   ·rw [if_neg (fun h=>h.elim hL hW)] at hR
    (have X1:=@hasL.eq_1;have X2:=hL;refine zS2 ?_;clear X1 X2)
    refine QO.useNS (ids:=[4]) ((QZb b hb).gam) (by have X1:=@uflat_all;exact zCN1) rfl rfl ?_
    (have X1:=@ccl.eq_1;refine zS1 ?_;clear X1)
    have hA:=(Qcj G c.deps (by have:=hB.deps;rw [hic] at this;omega)).gam (γ:=gK)
    rw [QBf] at hA
    refine hA.use (ids:=[0,1,2,3]) zCN (.inl rfl) ?_
    cases hall:allL G.L c.deps
    ·rw [if_pos hall] at hR
     have hadd:=QKU (L:=G.W) (x:=mkI b) hW
     have hms:=QI8 (L:=G.W) (x:=mkI b) hW
     rw [QDy,hic,hih,hib] at hms
     rw [hih] at hadd
     simp only [ccl,List.cons_append,List.nil_append] at hms
     (have X1:=@ccl.eq_1;refine zS1 ?_;clear X1)
     refine⟨fun h1=>?_,fun h1=>?_⟩
     ·rw [if_pos zo] at hR
      subst hR
      refine zS ?_
      refine fzNM 5 [(0,0),(1,1),(2,2),(3,3),(4,4)] [0] ?_ ?_<;>first | exact zC | refine zS ?_
      rfl
     ·rw [if_neg zo] at hR
      subst hR
      (have X1:=@ccl.eq_1;have X2:=hadd;have X3:=hms;refine zS3 ?_;clear X1 X2 X3)
      refine fzNM 5 [(0,0),(1,1),(2,2),(3,3),(4,4)] [0] ?_ ?_<;>first | exact zC | refine zS ?_
      try rfl
    ·rw [if_neg (by rw [hall];decide)] at hR
     have hkp:=(QaA G hG (mkI b) hB (by rw [hic];exact hall) (by rw [hih];exact hL)).gam (γ:=gK)
     rw [hih,QDy,hic,hib] at hkp
     simp only [gO,ccl,List.cons_append,List.nil_append] at hkp
     (have X1:=@ccl.eq_1;refine zS1 ?_;clear X1)
     refine QM.useX [0,1,2,3] hkp rfl zC ?_ ?_
     ·exact zC
     have hke:kepE G.L (mkI b)=if 4096≤G.L.length then 21 else fitF G.L c:=by rw [kepE,hic]
     have hkf:QBn G.L (mkI b)=if G.L.length<4096∧fitF G.L c=0 then G.L++[mkI b] else G.L:=by rw [QBn,hic]
     by_cases hful:4096≤G.L.length
     ·rw [if_pos hful] at hR hke
      rw [if_neg zo] at hkf
      rw [hke,hkf]
      subst hR
      refine zS ?_
      refine⟨fun _=>?_,fun h=>absurd h zD⟩
      refine zS ?_
      refine fzNM 5 [(0,0),(1,1),(2,2),(3,3),(4,4)] [0] ?_ ?_<;>first | exact zC | refine zS ?_
      rfl
     ·rw [if_neg hful] at hR hke
      by_cases hfit:fitF G.L c=0
      ·rw [if_neg (fun h=>h hfit)] at hR
       rw [if_pos ⟨by omega,hfit⟩] at hkf
       rw [hke,hkf,hfit]
       refine zS ?_
       have hG2:GrOK ⟨G.L++[mkI b],G.W⟩:=hG.put (by rw [hih];exact hL) (by rw [hih];exact hW) (by rw [hic];exact hall) hIt zo
       refine QD (ι:=GrV) (fun q=>⟨[(0,.ptr 0 0),(4,.ptr 6 0),(8,.ptr 5 0)],⟨gO q++[(4,.cells 5 (flat QC b) true),(5,.cells 47 (hcell (shaH b)) false),(6,.cells 47 (hcell QBl) false)],7,7,0⟩⟩) (fun q=>GrOK q∧QEH (q.W.length+1) q=R.1) (fun q=>q.W.length) ⟨G.L++[mkI b],G.W⟩ ⟨hG2,by rw [hR]⟩ ?_ ?_
       ·simp only [gO,List.cons_append,List.nil_append]
        refine fzNM 5 [(0,0),(1,1),(2,2),(3,3),(4,4),(5,321),(6,9)] [0] ?_ ?_<;>first | exact zC | refine zS ?_
        rfl
       rintro q ⟨hq1,hq2⟩
       have hwk:=(Qf8 q hq1).gam (γ:=gK)
       simp only [gO,List.cons_append,List.nil_append] at hwk ⊢
       refine zS ?_
       refine QM.useX [0,1,2,3] hwk rfl zC ?_ ?_
       ·exact zC
       rw [QEH] at hq2
       cases hwq:QEM q with
       | none=>
        rw [hwq] at hq2
        simp only at hq2
        rw [wakR,hwq,Option.getD_none]
        (have X1:=@Option.isSome_none.{0};refine zS1 ?_;clear X1)
        have h1:R.2.1=shaH b:=by rw [hR]
        have h2:R.2.2=0:=by rw [hR]
        rw [h1,h2,←hq2]
        refine fzNM 5 [(0,0),(1,1),(2,2),(3,3),(4,4)] [0] ?_ ?_<;>first | exact zC | refine zS ?_
        try rfl
       | some q2=>
        obtain⟨k1,k2⟩:=QJc hq1 hwq
        rw [hwq] at hq2
        simp only at hq2
        rw [wakR,hwq,Option.getD_some]
        (have X1:=@Option.isSome_some.{0};refine zS1 ?_;clear X1)
        refine⟨q2,⟨k1,by rw [←hq2,k2]⟩,zO,?_⟩
        simp only [gO,List.cons_append,List.nil_append]
        exact fzN 5 [(0,0),(1,1),(2,2),(3,3),(4,4),(5,5),(6,6)] [0]
      ·rw [if_pos hfit] at hR
       rw [if_neg (fun h=>hfit h.2)] at hkf
       rw [hke,hkf]
       subst hR
       refine zS ?_
       refine⟨fun _=>?_,fun h=>absurd h zo⟩
       refine zS ?_
       refine fzNM 5 [(0,0),(1,1),(2,2),(3,3),(4,4)] [0] ?_ ?_<;>first | exact zC | refine zS ?_
       try rfl
 ·rw [if_pos he] at hR
  subst hR
  have he4:e=4:=by have:=QHk b;rw [←hq] at this;simp only at this;omega
  subst he4
  refine⟨fun _=>?_,fun h=>absurd h zo⟩
  refine zS ?_
  refine fzNM 5 [(0,0),(1,1),(2,2),(3,3),(4,4)] [0] ?_ ?_<;>first | exact zC | refine zS ?_
  rfl
end Go.AW
