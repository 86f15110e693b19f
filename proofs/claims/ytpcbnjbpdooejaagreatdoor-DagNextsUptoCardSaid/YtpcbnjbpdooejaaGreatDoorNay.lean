/- A part of the proof: D61 D62 D63 D64 D65 D66 D67 E12. -/
import Derived.Test.YtpcbnjbpdooejaaGreatDoorNae
import Derived.Test.YtpcbnjbpdooejaaGreatDoorNax
import Derived.Test.YtpcbnjbpdooejaaGreatDoorNas
set_option linter.unusedSimpArgs false
set_option linter.unusedVariables false
set_option maxRecDepth 100000
set_option maxHeartbeats 8000000
namespace Go.AW
open Proofs
structure MadeV where
 au:UInt8
 on:List UInt8
 note:ByteArray
 ops:List OpV
 bad:UInt8
def mdc (m:MadeV):List AV:=[.v (.int .u8 (m.au.toNat:Nat)),.seq m.on.length 1 (flat QC m.on),.v (.string m.note),.seq m.ops.length 5 (flat QX m.ops),.v (.int .u8 (m.bad.toNat:Nat))]
theorem QHe (m:MadeV):(mdc m).length=5:=rfl
theorem QO5 (m:MadeV):idfL (mdc m)=true:=by simp [mdc,idfL,idf,Qg,QFB]
theorem QJY {l:List MadeV}:idfL (flat mdc l)=true:=QZ QO5 l
theorem QP6 {l:List MadeV}:(flat mdc l).length=l.length*5:=QW QHe _
theorem QYs (l:List MadeV) (i:Nat) (hi:i<l.length):(flat mdc l).drop (i*5)=mdc l[i]++flat mdc (l.drop (i+1)):=QAh QHe l i hi
attribute [push_cast] QO5 QJY QP6 QYs
def cntO (l:List OpV):Nat:=(l.map fun o=>1+min o.text.size 300).sum
def cntM (l:List MadeV):Nat:=(l.map fun m=>cntO m.ops).sum
def fewF (l:List MadeV):Bool:=decide (l.length≤30)&&(l.all fun m=>decide (m.ops.length≤300))&&decide (cntM l≤300)
theorem QT9 {l:List OpV} {i:Nat} (hi:i<l.length):cntO (l.take (i+1))=cntO (l.take i)+(1+min l[i].text.size 300):=by
 rw [List.take_succ_eq_append_getElem hi,cntO,cntO,List.map_append,List.sum_append];simp
theorem QRy {l:List MadeV} {i:Nat} (hi:i<l.length):cntM (l.take (i+1))=cntM (l.take i)+cntO l[i].ops:=by
 rw [List.take_succ_eq_append_getElem hi,cntM,cntM,List.map_append,List.sum_append];simp
theorem QbZ (l:List OpV) (i:Nat):cntO (l.take i)≤cntO l:=by
 have h:cntO l=cntO (l.take i)+cntO (l.drop i):=by
  rw [cntO,cntO,cntO,←List.sum_append,←List.map_append,List.take_append_drop]
 omega
theorem Qdd (l:List MadeV) (i:Nat):cntM (l.take i)≤cntM l:=by
 have h:cntM l=cntM (l.take i)+cntM (l.drop i):=by
  rw [cntM,cntM,cntM,←List.sum_append,←List.map_append,List.take_append_drop]
 omega
theorem Qfk (l:List MadeV) (hl:l.length≤1048576) (ho:∀m∈l,m.ops.length≤1048576) (ht:∀m∈l,∀o∈m.ops,o.text.size≤1048576):QE Tryz.prog [] 16 [.seq l.length 5 (flat mdc l)] (.v (.bool (fewF l))):=by
 refine QE.start Tryz.func16 rfl zK rfl Tryz.ntmps16 fol zK (by simp [idfL,idf,QZ QS,QS,Qg,Qy,QJY]) (by simp [idfL,idf,QZ QS,QS,Qg,Qy,QJY]) ?_
 refine zZ ?_
 refine QD (ι:=Nat) (fun i=>⟨[(0,.seq l.length 5 (flat mdc l)),(3,.v (.int .i64 (cntM (l.take i)))),(4,.v (.int .i64 i))],⟨[],0,0,0⟩⟩) (fun i=>i≤l.length∧i≤30∧cntM (l.take i)≤300∧∀m∈l.take i,m.ops.length≤300) (fun i=>l.length - i) 0 ⟨Nat.zero_le _,Nat.zero_le _,Nat.zero_le _,by simp⟩ ?_ ?_
 ·(have X1:=@List.take_zero.{0};have X2:=@cntM.eq_1;have X3:=@List.map_nil.{0,0};have X4:=@List.sum_nil.{0};refine fzNM 0 [] [] ?_ ?_<;>first | exact zC4 | refine zS4 ?_)
  try rfl
 rintro i ⟨hi,hi30,hc,ha⟩
 refine zS ?_
 refine⟨fun h1=>?_,fun h1=>?_⟩
 ·have hi1:i<l.length:=by omega
  have hol:=ho _ (List.getElem_mem hi1)
  have htl:=ht _ (List.getElem_mem hi1)
  have hcm:=QRy hi1
  have hno:¬(l.length≤30∧(∀m∈l,m.ops.length≤300)∧cntM l≤300)→fewF l=false:=fun h=>by
   rw [←Bool.not_eq_true]
   intro hf
   simp only [fewF,Bool.and_eq_true,decide_eq_true_eq,List.all_eq_true] at hf
   exact h ⟨hf.1.1,hf.1.2,hf.2⟩
  have hcl:=Qdd l (i+1)
  have hmem:l[i]∈l:=List.getElem_mem hi1
  have hnx:l[i].ops.length≤300→∀m∈l.take (i+1),m.ops.length≤300:=fun h m hm=>by
   rw [List.take_succ_eq_append_getElem hi1,List.mem_append,List.mem_singleton] at hm
   rcases hm with k | k
   ·exact ha m k
   ·rw [k];exact h
  (have X1:=@mdc.eq_1;refine zS1 ?_;clear X1)
  refine⟨fun k1=>?_,fun k1=>?_⟩
  ·(have X1:=@mdc.eq_1;refine zS1 ?_;clear X1)
   refine⟨fun k2=>?_,fun k2=>?_⟩
   ·rw [hno (fun h=>by have:=h.2.1 _ hmem;omega)]
    exact zC
   ·refine zS ?_
    generalize hM:l[i]=M at*
    refine QD (ι:=Nat) (fun j=>⟨[(0,.seq l.length 5 (flat mdc l)),(3,.v (.int .i64 ((cntM (l.take i)+cntO (M.ops.take j):Nat):Int))),(4,.v (.int .i64 i)),(5,.v (.int .i64 j))],⟨[],0,0,0⟩⟩) (fun j=>j≤M.ops.length∧cntM (l.take i)+cntO (M.ops.take j)≤300) (fun j=>M.ops.length - j) 0 ⟨Nat.zero_le _,by simpa [cntO] using hc⟩ ?_ ?_
    ·(have X1:=@List.take_zero.{0};have X2:=@cntO.eq_1;have X3:=@List.map_nil.{0,0};have X4:=@List.sum_nil.{0};exact fzN4 0 [] [])
    rintro j ⟨hj,hcj⟩
    (have X1:=@mdc.eq_1;have X2:=hM;refine zS2 ?_;clear X1 X2)
    refine⟨fun k3=>?_,fun k3=>?_⟩
    ·have hj1:j<M.ops.length:=by omega
     have hco:=QT9 hj1
     have htj:=htl _ (List.getElem_mem hj1)
     have hmn:min ((M.ops[j].text.size:Nat):Int) 300=((min M.ops[j].text.size 300:Nat):Int):=by omega
     have hcl2:=QbZ M.ops (j+1)
     (have X1:=@mdc.eq_1;have X2:=hM;have X3:=@QX.eq_1;have X4:=hmn;refine zS4 ?_;clear X1 X2 X3 X4)
     refine⟨fun k4=>?_,fun k4=>?_⟩
     ·rw [hno (fun h=>by have:=h.2.2;omega)]
      exact zC
     ·refine zS ?_
      refine⟨j+1,⟨hj1,by rw [hco];omega⟩,zO,?_⟩
      simp only [hco]
      refine fzNM 0 [] [] ?_ ?_<;>first | exact zC | refine zS ?_
      congr 2
      omega
    ·have hjj:j=M.ops.length:=by omega
     subst hjj
     rw [List.take_length] at hcj
     refine zS ?_
     refine⟨i+1,⟨hi1,by omega,by omega,hnx zo⟩,zO,?_⟩
     simp only [hcm,List.take_length]
     refine fzNM 0 [] [] ?_ ?_<;>first | exact zC | refine zS ?_
     try rfl
  ·rw [hno (fun h=>by omega)]
   exact zC
 ·have hii:i=l.length:=by omega
  subst hii
  rw [List.take_length] at hc ha
  have hf:fewF l=true:=by
   simp only [fewF,Bool.and_eq_true,decide_eq_true_eq,List.all_eq_true]
   exact⟨⟨hi30,ha⟩,hc⟩
  rw [hf]
  exact zC
open Proofs
def autF (a:UInt8):ByteArray:=if a.toNat % 3=0 then ⟨#[97,110,110]⟩ else if a.toNat % 3=1 then ⟨#[98,111,98]⟩ else ⟨#[101,118,101]⟩
def makF (L:List Itm) (m:MadeV) (on:List Hs):ChV:=
 let deps:=(reqF L on).take 16
 let c:ChV:=⟨autF m.au,(QAG L (autF m.au) deps).1,(QAG L (autF m.au) deps).2.1,deps,m.note,m.ops⟩
 if m.bad.toNat % 8=1 then { c with seq:=c.seq+1 } else if m.bad.toNat % 8=2 then { c with start:=c.start+1 } else if m.bad.toNat % 8=3 then { c with deps:=pasF L deps } else c
theorem QVO {L:List Itm} (hB:∀x∈L,ItB x) (h:Hs):0≤(chL L h).seq∧(chL L h).seq≤1099511627776∧0≤(chL L h).start∧(chL L h).start≤1099511627776∧0≤QAa (chL L h).ops∧QAa (chL L h).ops≤268435456:=by
 cases e:getL L h with
 | none=>rw [chL,e];exact⟨by decide,by decide,by decide,by decide,by decide,by decide⟩
 | some x=>
  have hx:=hB x (QDS e).1
  have h1:=hx.seq
  have h2:=hx.start
  have h3:=hx.size
  rw [QUa e]
  omega
theorem QXD {L:List Itm} (hB:∀x∈L,ItB x) (a:ByteArray) (ps:List Hs):0≤seqF L a ps∧seqF L a ps≤1099511627777:=by
 suffices ∀(ps:List Hs) (s:Int),0≤s∧s≤1099511627777→0≤ps.foldl (fun s h=>if (chL L h).author=a then max s ((chL L h).seq+1) else s) s∧ps.foldl (fun s h=>if (chL L h).author=a then max s ((chL L h).seq+1) else s) s≤1099511627777 from this ps 1 ⟨by decide,by decide⟩
 intro ps
 induction ps with
 | nil=>exact fun s h=>h
 | cons p ps ih=>
  intro s h
  have:=QVO hB p
  refine ih _ ?_
  show 0≤(if (chL L p).author=a then max s ((chL L p).seq+1) else s)∧(if (chL L p).author=a then max s ((chL L p).seq+1) else s)≤1099511627777
  split<;>omega
theorem QX9 {L:List Itm} (hB:∀x∈L,ItB x) (ps:List Hs):0≤staF L ps∧staF L ps≤1099780063232:=by
 suffices ∀(ps:List Hs) (s:Int),0≤s∧s≤1099780063232→0≤ps.foldl (fun s h=>max s ((chL L h).start+QAa (chL L h).ops)) s∧ps.foldl (fun s h=>max s ((chL L h).start+QAa (chL L h).ops)) s≤1099780063232 from this ps 1 ⟨by decide,by decide⟩
 intro ps
 induction ps with
 | nil=>exact fun s h=>h
 | cons p ps ih=>
  intro s h
  have:=QVO hB p
  refine ih _ ?_
  show 0≤max s ((chL L p).start+QAa (chL L p).ops)∧max s ((chL L p).start+QAa (chL L p).ops)≤1099780063232
  omega
theorem QKD {L:List Itm} (hB:∀x∈L,ItB x) (a:ByteArray) (l:List Hs):0≤(QAG L a l).1∧(QAG L a l).1≤1099511627777∧0≤(QAG L a l).2.1∧(QAG L a l).2.1≤1099780063232:=by
 have h1:=QXD hB a (Q0 L l)
 have h2:=QX9 hB (Q0 L l)
 rw [QAG]
 split
 ·exact⟨by decide,by decide,by decide,by decide⟩
 ·split
  ·exact⟨by decide,by decide,by decide,by decide⟩
  ·exact⟨h1.1,h1.2,h2.1,h2.2⟩
theorem QRB (G:GrV) (hG:GrOK G) (m:MadeV) (on:List Hs) (hl:on.length≤65536):QE Tryz.prog [] 76 [grA G,.agg (mdc m),.seq on.length 32 (flat hcell on)] (.agg (ccl (makF G.L m on))):=by
 refine QE.start Tryz.func76 rfl zK rfl Tryz.ntmps76 fol zK (by simp [idfL,idf,QZ QS,QS,Qg,Qy,grA,QIa,QA9,QO5,QJM]) (by simp [idfL,idf,QZ QS,QS,Qg,Qy,grA,QIa,QA9,QO5,QJM]) ?_
 refine zz ?_
 (have X1:=@grA.eq_1;have X2:=@mdc.eq_1;refine zS2 ?_;clear X1 X2)
 have hn:=hG.lenL
 have hR:=QLm G hG on zo
 simp only [grA] at hR
 refine hR.useV ?_
 obtain⟨rd,hrd⟩:∃rd,rd=reqF G.L on:=⟨_,rfl⟩
 rw [←hrd]
 have e1:(min (rd.length:Int) 16).toNat=(rd.take 16).length:=by rw [List.length_take];omega
 have e2:((m.au.toNat:Int) % 3).toNat=m.au.toNat % 3:=by omega
 have htk:List.take ((rd.take 16).length*32) (flat hcell rd)=flat hcell (rd.take 16):=by
  have h:flat hcell rd=flat hcell (rd.take 16)++flat hcell (rd.drop 16):=by rw [Q4,List.take_append_drop]
  rw [h]
  exact List.take_left' QCG
 have hau:[AV.v (.string ⟨#[97,110,110]⟩),AV.v (.string ⟨#[98,111,98]⟩),AV.v (.string ⟨#[101,118,101]⟩)][m.au.toNat % 3]?=some (.v (.string (autF m.au))):=by
  rw [autF]
  have:m.au.toNat % 3=0∨m.au.toNat % 3=1∨m.au.toNat % 3=2:=by omega
  rcases this with h | h | h<;>rw [h]<;>rfl
 have hdl:(rd.take 16).length≤16:=by rw [List.length_take];omega
 have hrg:=QKD (fun x hx=>hG.bL hx) (autF m.au) (rd.take 16)
 have hN:=QRU G hG (autF m.au) (by rw [autF];split<;>(try split)<;>decide) (rd.take 16) zo
 have hP:=QMI G hG (rd.take 16) zo
 simp only [grA] at hN hP
 have hmk:makF G.L m on=if m.bad.toNat % 8=1 then ⟨autF m.au,(QAG G.L (autF m.au) (rd.take 16)).1+1,(QAG G.L (autF m.au) (rd.take 16)).2.1,rd.take 16,m.note,m.ops⟩ else if m.bad.toNat % 8=2 then ⟨autF m.au,(QAG G.L (autF m.au) (rd.take 16)).1,(QAG G.L (autF m.au) (rd.take 16)).2.1+1,rd.take 16,m.note,m.ops⟩ else if m.bad.toNat % 8=3 then ⟨autF m.au,(QAG G.L (autF m.au) (rd.take 16)).1,(QAG G.L (autF m.au) (rd.take 16)).2.1,pasF G.L (rd.take 16),m.note,m.ops⟩ else ⟨autF m.au,(QAG G.L (autF m.au) (rd.take 16)).1,(QAG G.L (autF m.au) (rd.take 16)).2.1,rd.take 16,m.note,m.ops⟩:=by rw [makF,←hrd]
 generalize rd.take 16=dp at*
 (have X1:=@List.getElem?_cons_succ.{0};have X2:=e1;have X3:=e2;have X4:=htk;have X5:=hau;refine zS5 ?_;clear X1 X2 X3 X4 X5)
 refine hN.useV ?_
 obtain⟨g1,g2,g3,g4⟩:=hrg
 generalize QAG G.L (autF m.au) dp=nx at*
 (have X1:=@List.getElem?_cons_succ.{0};refine zS1 ?_;clear X1)
 refine⟨fun b1=>?_,fun b1=>?_⟩
 ·rw [if_pos zo] at hmk
  rw [hmk]
  (have X1:=@ccl.eq_1;have X2:=@List.getElem?_cons_succ.{0};exact zC2)
 ·rw [if_neg zo] at hmk
  (have X1:=@List.getElem?_cons_succ.{0};refine zS1 ?_;clear X1)
  refine⟨fun b2=>?_,fun b2=>?_⟩
  ·rw [if_pos zo] at hmk
   rw [hmk]
   (have X1:=@ccl.eq_1;have X2:=@List.getElem?_cons_succ.{0};exact zC2)
  ·rw [if_neg zo] at hmk
   (have X1:=@List.getElem?_cons_succ.{0};refine zS1 ?_;clear X1)
   refine⟨fun b3=>?_,fun b3=>?_⟩
   ·rw [if_pos zo] at hmk
    rw [hmk]
    (have X1:=@ccl.eq_1;have X2:=@List.getElem?_cons_succ.{0};refine zS2 ?_;clear X1 X2)
    refine hP.useV ?_
    (have X1:=@ccl.eq_1;have X2:=@List.getElem?_cons_succ.{0};exact zC2)
   ·rw [if_neg zo] at hmk
    rw [hmk]
    (have X1:=@ccl.eq_1;have X2:=@List.getElem?_cons_succ.{0};exact zC2)
open Proofs
def onF (L:List Itm) (m:MadeV):List Hs:=if L.length=0 then [] else (m.on.take 6).map fun o=>(QF L).getD (o.toNat % L.length) QBl
def QC9 (q:List (List UInt8)×GrV) (m:MadeV):List (List UInt8)×GrV:=
 if chE2 (makF q.2.L m (onF q.2.L m))=0 then (q.1++[chB (makF q.2.L m (onF q.2.L m))],(addF q.2 (chB (makF q.2.L m (onF q.2.L m)))).1) else q
def bldF (l:List MadeV):List (List UInt8)×GrV:=l.foldl QC9 ([],⟨[],[]⟩)
theorem QTm {l:List MadeV} {i:Nat} (hi:i<l.length):bldF (l.take (i+1))=QC9 (bldF (l.take i)) l[i]:=by
 rw [List.take_succ_eq_append_getElem hi,bldF,bldF,List.foldl_append];rfl
def bc (b:List UInt8):List AV:=[.seq b.length 1 (flat QC b)]
theorem QLO (b:List UInt8):(bc b).length=1:=rfl
theorem QSm (b:List UInt8):idfL (bc b)=true:=by simp [bc,idfL,idf,Qg]
theorem Qb4 {l:List (List UInt8)}:idfL (flat bc l)=true:=QZ QSm l
theorem QSK {l:List (List UInt8)}:(flat bc l).length=l.length:=by rw [QW QLO,Nat.mul_one]
attribute [push_cast] QSm Qb4 QSK
theorem QWN {n:Nat} {q:List (List UInt8)×GrV} {m:MadeV} (h:GrOK q.2) (h2:q.1.length≤n):GrOK (QC9 q m).2∧(QC9 q m).1.length≤n+1:=by
 rw [QC9]
 split
 ·exact⟨QJO h _,by simp;omega⟩
 ·exact⟨h,by omega⟩
theorem QM0 (l:List MadeV):GrOK (bldF l).2∧(bldF l).1.length≤l.length:=by
 suffices ∀(l:List MadeV) (q:List (List UInt8)×GrV) (n:Nat),GrOK q.2→q.1.length≤n→GrOK (l.foldl QC9 q).2∧(l.foldl QC9 q).1.length≤n+l.length by
  have:=this l ([],⟨[],[]⟩) 0 GrOK.nil (Nat.le_refl _)
  rw [Nat.zero_add] at this
  exact this
 intro l
 induction l with
 | nil=>exact fun q n h h2=>⟨h,h2⟩
 | cons m l ih=>
  intro q n h h2
  obtain⟨k1,k2⟩:=QWN (m:=m) h h2
  obtain⟨k3,k4⟩:=ih (QC9 q m) (n+1) k1 k2
  exact⟨k3,by rw [List.length_cons];show (List.foldl QC9 (QC9 q m) l).1.length≤_;omega⟩
def mdOK (m:MadeV):Prop:=m.on.length≤1048576∧m.note.size≤1048576∧m.ops.length≤1048576∧∀o∈m.ops,QCP o
theorem Qdc (b:List UInt8):hok (shaH b):=QZ9 _
theorem QTU {G:GrV} (hG:GrOK G) {h:Hs} (hh:h∈QF G.L):hok h:=by
 rw [QF,List.mem_map] at hh
 obtain⟨x,hx,rfl⟩:=hh
 rw [(hG.okL x hx).2]
 exact Qdc _
theorem QYz {G:GrV} {on:List Hs} {h:Hs} (hh:h∈reqF G.L on):h∈QF G.L:=by
 rw [reqF] at hh
 split at hh
 ·rename_i ha
  exact Q2.1 ha _ (QFx hh)
 ·simp at hh
theorem QX3 {G:GrV} (hG:GrOK G) {l:List Hs} {h:Hs} (hh:h∈pasF G.L l):h∈QF G.L:=by
 rw [pasF] at hh
 split at hh
 ·rename_i ha
  exact QA3 hG.ord ha h hh
 ·simp at hh
theorem QV4 {G:GrV} (hG:GrOK G) {l:List Hs}:(pasF G.L l).length≤4096:=by
 have:=hG.lenL
 rw [pasF]
 split
 ·rename_i ha
  have:=QJx hG.ord ha
  omega
 ·simp
theorem QW7 {G:GrV} (hG:GrOK G) {m:MadeV} (hm:mdOK m) (on:List Hs):QES (makF G.L m on):=by
 obtain⟨h1,h2,h3,h4⟩:=hm
 obtain⟨g1,g2,g3,g4⟩:=QKD (fun x hx=>hG.bL hx) (autF m.au) ((reqF G.L on).take 16)
 have ha:(autF m.au).size≤1048576:=by rw [autF];split<;>(try split)<;>decide
 have hd:((reqF G.L on).take 16).length≤1048576:=by rw [List.length_take];omega
 have hk:∀h∈(reqF G.L on).take 16,hok h:=fun h hh=>QTU hG (QYz (List.mem_of_mem_take hh))
 have hp:∀h∈pasF G.L ((reqF G.L on).take 16),hok h:=fun h hh=>QTU hG (QX3 hG hh)
 have hl:=QV4 hG (l:=(reqF G.L on).take 16)
 have hs:I64 (QAG G.L (autF m.au) ((reqF G.L on).take 16)).1:=⟨by omega,by omega⟩
 have hs1:I64 ((QAG G.L (autF m.au) ((reqF G.L on).take 16)).1+1):=⟨by omega,by omega⟩
 have ht:I64 (QAG G.L (autF m.au) ((reqF G.L on).take 16)).2.1:=⟨by omega,by omega⟩
 have ht1:I64 ((QAG G.L (autF m.au) ((reqF G.L on).take 16)).2.1+1):=⟨by omega,by omega⟩
 rw [makF]
 simp only
 split
 ·exact⟨ha,hs1,ht,hd,hk,h2,h3,h4⟩
 ·split
  ·exact⟨ha,hs,ht1,hd,hk,h2,h3,h4⟩
  ·split
   ·exact⟨ha,hs,ht,Nat.le_trans hl zD,hp,h2,h3,h4⟩
   ·exact⟨ha,hs,ht,hd,hk,h2,h3,h4⟩
theorem QUM (l:List MadeV) (hl:l.length≤65536) (hm:∀m∈l,mdOK m):QE Tryz.prog [] 27 [.seq l.length 5 (flat mdc l)] (.tup [.seq (bldF l).1.length 1 (flat bc (bldF l).1),grA (bldF l).2]):=by
 refine QE.startW Tryz.func27 rfl zK rfl Tryz.ntmps27 fol zK (by simp [idfL,idf,QZ QS,QS,Qg,Qy,QJY,Qb4,Qed]) (by simp [idfL,idf,QZ QS,QS,Qg,Qy,QJY,Qb4,Qed]) ?_
 refine zz ?_
 (have X1:=@grA.eq_1;refine zS1 ?_;clear X1)
 refine QD (ι:=Nat) (fun i=>⟨[(0,.seq l.length 5 (flat mdc l)),(3,.ptr 0 0),(4,.ptr 1 0),(5,.sl 2 0 (bldF (l.take i)).1.length 1),(6,.v (.int .i64 i))],⟨[(0,.cells 29 [.v (.slice none 0 0),.v (.slice none 0 0)] false),(1,.cells 29 [.seq (bldF (l.take i)).2.L.length 39 (flat itc (bldF (l.take i)).2.L),.seq (bldF (l.take i)).2.W.length 39 (flat itc (bldF (l.take i)).2.W)] false),(2,.cells 23 (flat bc (bldF (l.take i)).1) true)],3,3,0⟩⟩) (fun i=>i≤l.length) (fun i=>l.length - i) 0 (Nat.zero_le _) ?_ ?_
 ·(have X1:=@List.take_zero.{0};have X2:=@bldF.eq_1;have X3:=@List.foldl_nil.{0,0};have X4:=@QOx;exact fzN4 0 [(0,3),(1,88)] [1])
 intro i hi
 have hok:=QM0 (l.take i)
 have hnx:∀h:i<l.length,_:=fun h=>QTm (l:=l) (i:=i) h
 generalize hq:bldF (l.take i)=q at*
 obtain⟨out,G⟩:=q
 obtain⟨hG,hol⟩:=hok
 dsimp only at hG hol ⊢
 rw [List.length_take] at hol
 have hnL:=hG.lenL
 refine zS ?_
 refine⟨fun h1=>?_,fun h1=>?_⟩
 ·have hi1:i<l.length:=by omega
  have hmo:=hm _ (List.getElem_mem hi1)
  have hnx:=hnx hi1
  refine zS ?_
  generalize hM:l[i]=M at*
  have hsm:=QW7 hG hmo (onF G.L M)
  obtain⟨f,hf⟩:∃f:UInt8→Hs,f=fun o=>(QF G.L).getD (o.toNat % G.L.length) QBl:=⟨_,rfl⟩
  refine QD (ι:=Nat×List Hs) (fun q=>⟨[(0,.seq l.length 5 (flat mdc l)),(3,.ptr 0 0),(4,.ptr 1 0),(5,.sl 2 0 out.length 1),(6,.v (.int .i64 i)),(7,.sl 3 0 q.2.length 32),(8,.v (.int .i64 q.1))],⟨[(0,.cells 29 [.v (.slice none 0 0),.v (.slice none 0 0)] false),(1,.cells 29 [.seq G.L.length 39 (flat itc G.L),.seq G.W.length 39 (flat itc G.W)] false),(2,.cells 23 (flat bc out) true),(3,.cells 47 (flat hcell q.2) true)],4,4,0⟩⟩)
   (fun q=>q.1≤6∧q.1≤M.on.length∧(G.L.length=0→q.1=0)∧q.2=(M.on.take q.1).map f) (fun q=>6 - q.1) (0,[]) ⟨Nat.zero_le _,Nat.zero_le _,fun _=>rfl,rfl⟩ ?_ ?_
  ·(have X1:=@QOx;exact fzN1 0 [(0,0),(1,1),(2,2)] [1])
  rintro⟨k,acc⟩ ⟨hk6,hko,hk0,hacc⟩
  dsimp only at hk6 hko hk0 hacc ⊢
  have hal:acc.length≤6:=by rw [hacc,List.length_map,List.length_take];omega
  (have X1:=@mdc.eq_1;have X2:=hM;refine zS2 ?_;clear X1 X2)
  refine⟨fun a1=>?_,fun a1=>?_⟩
  ·(have X1:=@mdc.eq_1;have X2:=hM;refine zS2 ?_;clear X1 X2)
   refine⟨fun a2=>?_,fun a2=>?_⟩
   ·(have X1:=@mdc.eq_1;have X2:=hM;refine zS2 ?_;clear X1 X2)
    refine⟨fun a3=>?_,fun a3=>?_⟩
    ·have hk1:k<M.on.length:=by omega
     have hne:G.L.length≠0:=by omega
     have hb8:M.on[k].toNat<256:=M.on[k].toNat_lt
     have hml:M.on[k].toNat % G.L.length<G.L.length:=Nat.mod_lt _ zo
     have g0:(List.drop k (flat QC M.on))[0]?=some (.v (.int .u8 (M.on[k].toNat:Nat))):=by rw [List.getElem?_drop,Nat.add_zero,QBm hk1];simp [List.getD_eq_getElem?_getD,List.getElem?_eq_getElem hk1]
     have e5:((M.on[k].toNat:Int) % (G.L.length:Int)).toNat=M.on[k].toNat % G.L.length:=by omega
     have hfk:G.L[M.on[k].toNat % G.L.length].h=f M.on[k]:=by
      rw [hf]
      simp [QF,List.getD_eq_getElem?_getD,hml]
     have hfl:flat hcell acc++hcell (f M.on[k])=flat hcell (acc++[f M.on[k]]):=by rw [Q7];simp [flat]
     (have X1:=@mdc.eq_1;have X2:=hM;have X3:=g0;have X4:=e5;have X5:=hfk;have X6:=hfl;refine zS6 ?_;clear X1 X2 X3 X4 X5 X6)
     refine⟨(k+1,acc++[f M.on[k]]),⟨zO,hk1,fun q=>absurd q hne,?_⟩,zO,?_⟩
     ·show acc++[f M.on[k]]=(M.on.take (k+1)).map f
      rw [List.take_succ_eq_append_getElem hk1,List.map_append,←hacc];rfl
     (have X1:=@List.length_append.{0};have X2:=@List.length_cons.{0};have X3:=@List.length_nil.{0};exact fzN3 0 [(0,0),(1,1),(2,2),(3,145)] [1])
    ·skip
     have hon:acc=onF G.L M:=by
      rw [hacc,onF]
      by_cases h0:G.L.length=0
      ·rw [if_pos h0,hk0 h0];rfl
      ·rw [if_neg h0,hf]
       first
        | rw [show M.on.take k=M.on.take 6 from by rw [List.take_of_length_le zo,List.take_of_length_le zo]]
        | rw [show k=6 from by omega]
        | omega
     subst hon
     (have X1:=@mdc.eq_1;have X2:=hM;refine zS2 ?_;clear X1 X2)
     refine QO.useF (ids:=[3]) (u:=[(3,.dead)]) (QRB G hG M (onF G.L M) zo) rfl (by have X1:=@QLW;have X2:=@grA.eq_1;have X3:=@mdc.eq_1;exact zCN3) rfl rfl rfl ?_
     refine zS ?_
     refine QO.useV (QNI _ hsm) rfl ?_
     (have X1:=@List.getElem?_cons_succ.{0};refine zS1 ?_;clear X1)
     refine⟨fun c1=>?_,fun c1=>?_⟩
     ·rw [QC9,if_neg (by dsimp only;omega)] at hnx
      refine zS ?_
      refine⟨i+1,hi1,zO,?_⟩
      simp only [hnx]
      exact fzN 0 [(0,0),(1,1),(2,2)] [1]
     ·have hE:chE2 (makF G.L M (onF G.L M))=0:=by omega
      rw [QC9,if_pos hE] at hnx
      dsimp only at hnx
      have hR:chR (makF G.L M (onF G.L M))=chB (makF G.L M (onF G.L M)):=by rw [chR,if_pos hE]
      have hBl:=(QDI hE).2
      rw [hR]
      generalize chB (makF G.L M (onF G.L M))=B at*
      refine zS ?_
      have hA:=QKO G hG B zo
      simp only [grA] at hA
      refine hA.useV ?_
      (have X1:=@List.getElem?_cons_succ.{0};refine zS1 ?_;clear X1)
      refine⟨i+1,hi1,zO,?_⟩
      simp only [hnx]
      have hfb:flat bc out++[AV.seq B.length 1 (flat QC B)]=flat bc (out++[B]):=by rw [Q7];rfl
      (have X1:=hfb;have X2:=@List.length_append.{0};have X3:=@List.length_cons.{0};have X4:=@List.length_nil.{0};exact fzN4 0 [(0,0),(1,1),(2,330)] [1])
   ·skip
    have hon:acc=onF G.L M:=by
     rw [hacc,onF]
     by_cases h0:G.L.length=0
     ·rw [if_pos h0,hk0 h0];rfl
     ·rw [if_neg h0,hf]
      first
       | rw [show M.on.take k=M.on.take 6 from by rw [List.take_of_length_le zo,List.take_of_length_le zo]]
       | rw [show k=6 from by omega]
       | omega
    subst hon
    (have X1:=@mdc.eq_1;have X2:=hM;refine zS2 ?_;clear X1 X2)
    refine QO.useF (ids:=[3]) (u:=[(3,.dead)]) (QRB G hG M (onF G.L M) zo) rfl (by have X1:=@QLW;have X2:=@grA.eq_1;have X3:=@mdc.eq_1;exact zCN3) rfl rfl rfl ?_
    refine zS ?_
    refine QO.useV (QNI _ hsm) rfl ?_
    (have X1:=@List.getElem?_cons_succ.{0};refine zS1 ?_;clear X1)
    refine⟨fun c1=>?_,fun c1=>?_⟩
    ·rw [QC9,if_neg (by dsimp only;omega)] at hnx
     refine zS ?_
     refine⟨i+1,hi1,zO,?_⟩
     simp only [hnx]
     exact fzN 0 [(0,0),(1,1),(2,2)] [1]
    ·have hE:chE2 (makF G.L M (onF G.L M))=0:=by omega
     rw [QC9,if_pos hE] at hnx
     dsimp only at hnx
     have hR:chR (makF G.L M (onF G.L M))=chB (makF G.L M (onF G.L M)):=by rw [chR,if_pos hE]
     have hBl:=(QDI hE).2
     rw [hR]
     generalize chB (makF G.L M (onF G.L M))=B at*
     refine zS ?_
     have hA:=QKO G hG B zo
     simp only [grA] at hA
     refine hA.useV ?_
     (have X1:=@List.getElem?_cons_succ.{0};refine zS1 ?_;clear X1)
     refine⟨i+1,hi1,zO,?_⟩
     simp only [hnx]
     have hfb:flat bc out++[AV.seq B.length 1 (flat QC B)]=flat bc (out++[B]):=by rw [Q7];rfl
     (have X1:=hfb;have X2:=@List.length_append.{0};have X3:=@List.length_cons.{0};have X4:=@List.length_nil.{0};exact fzN4 0 [(0,0),(1,1),(2,330)] [1])
  ·skip
   have hon:acc=onF G.L M:=by
    rw [hacc,onF]
    by_cases h0:G.L.length=0
    ·rw [if_pos h0,hk0 h0];rfl
    ·rw [if_neg h0,hf]
     first
      | rw [show M.on.take k=M.on.take 6 from by rw [List.take_of_length_le zo,List.take_of_length_le zo]]
      | rw [show k=6 from by omega]
      | omega
   subst hon
   (have X1:=@mdc.eq_1;have X2:=hM;refine zS2 ?_;clear X1 X2)
   refine QO.useF (ids:=[3]) (u:=[(3,.dead)]) (QRB G hG M (onF G.L M) zo) rfl (by have X1:=@QLW;have X2:=@grA.eq_1;have X3:=@mdc.eq_1;exact zCN3) rfl rfl rfl ?_
   refine zS ?_
   refine QO.useV (QNI _ hsm) rfl ?_
   (have X1:=@List.getElem?_cons_succ.{0};refine zS1 ?_;clear X1)
   refine⟨fun c1=>?_,fun c1=>?_⟩
   ·rw [QC9,if_neg (by dsimp only;omega)] at hnx
    refine zS ?_
    refine⟨i+1,hi1,zO,?_⟩
    simp only [hnx]
    exact fzN 0 [(0,0),(1,1),(2,2)] [1]
   ·have hE:chE2 (makF G.L M (onF G.L M))=0:=by omega
    rw [QC9,if_pos hE] at hnx
    dsimp only at hnx
    have hR:chR (makF G.L M (onF G.L M))=chB (makF G.L M (onF G.L M)):=by rw [chR,if_pos hE]
    have hBl:=(QDI hE).2
    rw [hR]
    generalize chB (makF G.L M (onF G.L M))=B at*
    refine zS ?_
    have hA:=QKO G hG B zo
    simp only [grA] at hA
    refine hA.useV ?_
    (have X1:=@List.getElem?_cons_succ.{0};refine zS1 ?_;clear X1)
    refine⟨i+1,hi1,zO,?_⟩
    simp only [hnx]
    have hfb:flat bc out++[AV.seq B.length 1 (flat QC B)]=flat bc (out++[B]):=by rw [Q7];rfl
    (have X1:=hfb;have X2:=@List.length_append.{0};have X3:=@List.length_cons.{0};have X4:=@List.length_nil.{0};exact fzN4 0 [(0,0),(1,1),(2,330)] [1])
 ·have hii:i=l.length:=by omega
  subst hii
  rw [List.take_length] at hq
  rw [hq]
  exact zC
open Proofs
theorem Qcx (G:GrV) (hG:GrOK G):PNew Tryz.prog [] 34 [.rop (QBf G)] (.seq (heaF G.L).length 32 (flat hcell (heaF G.L))):=(Qax G hG).toNew QCG
theorem Qev {G:GrV} (hG:GrOK G):(heaF G.L).length≤4096:=Nat.le_trans QV3 (by rw [Qh];exact hG.lenL)
open Proofs
def addG (G:GrV) (b:List UInt8):GrV:=(addF G b).1
theorem QUl {G:GrV} (hG:GrOK G) (b:List UInt8):GrOK (addG G b):=QJO hG b
theorem QUv {α:Type} {f:α→List UInt8}:∀{l:List α} {G:GrV},GrOK G→GrOK (l.foldl (fun G o=>addG G (f o)) G)
 | [],_,h=>h
 | _::l,_,h=>QUv (f:=f) (l:=l) (QUl h _)
theorem QeZ (l:List (List UInt8)) (i:Nat) (hi:i<l.length):(flat bc l).drop i=bc l[i]++flat bc (l.drop (i+1)):=by
 have:=QAh QLO l i hi;rwa [Nat.mul_one] at this
attribute [push_cast] QeZ
def allB (all:List (List UInt8)):Prop:=∀b∈all,b.length≤65536
theorem QWo {c:ChV} (h:chE2 c=0):(chB c).length≤65536:=by have:=(QDI h).2;omega
open Proofs
open Proofs
def h9:Hs:=⟨9::List.replicate 31 0,by simp⟩
def pk1 (L:List Itm) (p:UInt8):Hs:=if p.toNat=255 then h9 else (QF L).getD (p.toNat % L.length) QBl
def QKx (L:List Itm) (ps:List UInt8):List Hs:=if L.length=0 then [] else (ps.take 10).map (pk1 L)
theorem QXX {L:List Itm} {ps:List UInt8} {i:Nat} (h1:i≤ps.length) (h2:i≤10) (h3:L.length=0→i=0) (h4:¬(i<ps.length∧i<10∧0<L.length)):(ps.take i).map (pk1 L)=QKx L ps:=by
 rw [QKx]
 by_cases h0:L.length=0
 ·rw [if_pos h0,h3 h0];rfl
 ·rw [if_neg h0]
  by_cases h5:i=10
  ·rw [h5]
  ·rw [List.take_of_length_le zo,List.take_of_length_le zo]
theorem QLP {L:List Itm} {ps:List UInt8}:(QKx L ps).length≤10:=by
 rw [QKx];split
 ·simp
 ·rw [List.length_map,List.length_take];omega
theorem QbY {L:List Itm} {ps:List UInt8} {i:Nat} (hi:i<ps.length):(ps.take (i+1)).map (pk1 L)=(ps.take i).map (pk1 L)++[pk1 L ps[i]]:=by
 rw [List.take_succ_eq_append_getElem hi,List.map_append];rfl
theorem QOd (G:GrV) (hG:GrOK G) (ps:List UInt8) (hp:ps.length≤1048576):QE Tryz.prog [] 19 [grA G,.seq ps.length 1 (flat QC ps)] (.seq (QKx G.L ps).length 32 (flat hcell (QKx G.L ps))):=by
 refine QE.startW Tryz.func19 rfl zK rfl Tryz.ntmps19 fol zK (by simp [idfL,idf,QZ QS,QS,Qg,Qy,grA,QIa,QA9,Qg]) (by simp [idfL,idf,QZ QS,QS,Qg,Qy,grA,QIa,QA9,Qg]) ?_
 refine zz ?_
 (have X1:=@grA.eq_1;refine zS1 ?_;clear X1)
 have hn:=hG.lenL
 refine QD (ι:=Nat×List Hs) (fun q=>⟨[(1,.seq ps.length 1 (flat QC ps)),(2,.ptr 0 0),(5,.sl 1 0 q.2.length 32),(6,.v (.int .i64 q.1))],⟨[(0,.cells 29 [.seq G.L.length 39 (flat itc G.L),.seq G.W.length 39 (flat itc G.W)] false),(1,.cells 47 (flat hcell q.2) true)],2,2,0⟩⟩) (fun q=>q.1≤ps.length∧q.1≤10∧(G.L.length=0→q.1=0)∧q.2=(ps.take q.1).map (pk1 G.L)) (fun q=>10 - q.1) (0,[]) ⟨Nat.zero_le _,Nat.zero_le _,fun _=>rfl,rfl⟩ ?_ ?_
 ·(have X1:=@QOx;exact fzN1 0 [(0,2)] [])
 rintro⟨i,acc⟩ ⟨h1,h2,h3,hacc⟩
 dsimp only at h1 h2 h3 hacc ⊢
 have hal:acc.length≤10:=by rw [hacc,List.length_map,List.length_take];omega
 have hend:=fun h4=>hacc.trans (QXX h1 h2 h3 h4)
 refine zS ?_
 refine⟨fun a1=>?_,fun a1=>?_⟩
 refine zS ?_
 refine⟨fun a2=>?_,fun a2=>?_⟩
 refine zS ?_
 refine⟨fun a3=>?_,fun a3=>?_⟩
 ·have hi1:i<ps.length:=by omega
  have hne:0<G.L.length:=by omega
  have hb8:ps[i].toNat<256:=ps[i].toNat_lt
  have hml:ps[i].toNat % G.L.length<G.L.length:=Nat.mod_lt _ hne
  have g0:(List.drop i (flat QC ps))[0]?=some (.v (.int .u8 (ps[i].toNat:Nat))):=by rw [List.getElem?_drop,Nat.add_zero,QBm hi1];simp [List.getD_eq_getElem?_getD,List.getElem?_eq_getElem hi1]
  have e5:((ps[i].toNat:Int) % (G.L.length:Int)).toNat=ps[i].toNat % G.L.length:=by omega
  have hnx:=QbY (L:=G.L) hi1
  rw [←hacc] at hnx
  have hI:∀h:Hs,pk1 G.L ps[i]=h→(i+1≤ps.length∧i+1≤10∧(G.L.length=0→i+1=0)∧acc++[h]=(ps.take (i+1)).map (pk1 G.L)):=fun h e=>⟨hi1,by omega,fun h0=>by omega,by rw [hnx,e]⟩
  (have X1:=g0;refine zS1 ?_;clear X1)
  refine⟨fun b1=>?_,fun b1=>?_⟩
  ·have hp9:pk1 G.L ps[i]=h9:=if_pos zo
   have hf9:flat hcell (acc++[h9])=flat hcell acc++hcell h9:=QQd.symm
   refine zS ?_
   refine⟨(i+1,acc++[h9]),hI _ hp9,zO,?_⟩
   simp only [hf9]
   (have X1:=@List.length_append.{0};have X2:=@List.length_cons.{0};have X3:=@List.length_nil.{0};refine fzNM 0 [(0,0),(1,133)] [] ?_ ?_<;>first | exact zC3 | refine zS3 ?_)
   all_goals first | rfl | trace_state
  ·have hfk:pk1 G.L ps[i]=G.L[ps[i].toNat % G.L.length].h:=by
    rw [pk1,if_neg zo]
    simp [QF,List.getD_eq_getElem?_getD,hml]
   (have X1:=g0;have X2:=e5;have X3:=@QQd;refine zS3 ?_;clear X1 X2 X3)
   refine⟨(i+1,acc++[G.L[ps[i].toNat % G.L.length].h]),hI _ hfk,zO,?_⟩
   (have X1:=@List.length_append.{0};have X2:=@List.length_cons.{0};have X3:=@List.length_nil.{0};refine fzNM 0 [(0,0),(1,150)] [] ?_ ?_<;>first | exact zC3 | refine zS3 ?_)
 all_goals
  have hE:=hend zo
  subst hE
  exact zC
def filT (all:List (List UInt8)) (i:Nat):GrV:=(all.take i).foldl addG ⟨[],[]⟩
def filF (all:List (List UInt8)):GrV:=all.foldl addG ⟨[],[]⟩
theorem QgU {all:List (List UInt8)} {i:Nat}:GrOK (filT all i):=QUv (f:=fun x=>x) GrOK.nil
theorem Qfd {all:List (List UInt8)} {i:Nat} (hi:i<all.length):filT all (i+1)=addG (filT all i) all[i]:=by
 rw [filT,List.take_succ_eq_append_getElem hi,List.foldl_append];rfl
theorem Qfn (all:List (List UInt8)) (hl:all.length≤65536) (hall:allB all):
  QM Tryz.prog gK 25 [.seq all.length 1 (flat bc all)] [] 0 (.ptr 0 0) (gO (filF all)) 4:=by
 refine QM.start Tryz.func25 rfl zK rfl Tryz.ntmps25 fol zK (Nat.zero_le _) ?_
 refine zZ ?_
 have hN:=Qfi.gam (γ:=gK)
 refine QM.useX [] hN rfl zC zC ?_
 (have X1:=@gO.eq_1;refine zS1 ?_;clear X1)
 refine QD (ι:=Nat) (fun i=>⟨[(0,.seq all.length 1 (flat bc all)),(3,.ptr 0 0),(4,.v (.int .i64 i))],⟨gO (filT all i),4,4,0⟩⟩) (fun i=>i≤all.length) (fun i=>all.length - i) 0 (Nat.zero_le _) ?_ ?_
 ·simp only [gO,show filT all 0=⟨[],[]⟩ from rfl]
  refine fzNM 0 [(0,38),(1,39),(2,40),(3,41)] [0] ?_ ?_<;>first | exact zC | refine zS ?_
 intro i hi
 have hG:=QgU (all:=all) (i:=i)
 obtain⟨G,hGe⟩:∃G,G=filT all i:=⟨_,rfl⟩
 rw [←hGe] at hG ⊢
 simp only [gO]
 refine zS ?_
 refine⟨fun a1=>?_,fun a1=>?_⟩
 ·have hi1:i<all.length:=by omega
  have hnx:=Qfd hi1
  rw [←hGe] at hnx
  have hbl:=hall _ (List.getElem_mem hi1)
  (have X1:=@bc.eq_1;refine zS1 ?_;clear X1)
  generalize all[i]=B at*
  have hAm:=QXx G hG B zo
  simp only [gO] at hAm
  refine QM.useX [0,1,2,3] hAm rfl zC zC ?_
  refine zS ?_
  have hnx2:(addF G B).1=filT all (i+1):=hnx.symm
  rw [hnx2]
  refine⟨i+1,hi1,zO,?_⟩
  simp only [gO]
  refine fzNM 0 [(0,0),(1,1),(2,2),(3,3)] [0] ?_ ?_<;>first | exact zC | refine zS ?_
 ·have hk2:i=all.length:=by omega
  have hf:G=filF all:=by rw [hGe,filT,filF,hk2,List.take_length]
  rw [←hf]
  refine zS ?_
  refine fzNM 0 [(0,0),(1,1),(2,2),(3,3)] [0] ?_ ?_<;>first | exact zC | refine zS ?_
theorem QEw {a b:List Hs} (ha:Rise a) (hb:Rise b) (h:∀x,x∈a↔x∈b):a=b:=
 (QKo ha fun x=>h x).trans (QKo hb fun _=>Iff.rfl).symm
theorem Bel.trans {L:List Itm} {l m:List Hs} {h:Hs} (hb:Bel L l h) (h1:∀x∈l,Bel L m x):Bel L m h:=hb.mono (fun _ h=>h) h1
theorem Bel.le {L:List Itm} (hL:OrdL L) {k:Hs} (hk:k∈QF L) {h:Hs} (hb:Bel L [k] h):h=k∨(QF L).idxOf h<(QF L).idxOf k:=by
 rcases (Bel.one hL hk).1 hb with e | e
 ·exact .inl e
 ·exact .inr (e.lt hL hk)
theorem Qc0 {L:List Itm} (hL:OrdL L) {l:List Hs} {h:Hs}:undB L l h=true↔∃k∈l,k≠h∧Bel L [k] h:=by
 rw [undB,List.any_eq_true]
 refine exists_congr fun k=>and_congr_right fun hk=>?_
 rw [Bool.and_eq_true,decide_eq_true_iff,decide_eq_true_iff,Qp hL]
theorem QIe {L:List Itm} (hL:OrdL L) {l:List Hs} {h:Hs}:h∈redF L l↔h∈l∧∀k∈l,k≠h→¬Bel L [k] h:=by
 rw [redF,QBr,List.mem_filter]
 refine and_congr_right fun _=>?_
 rw [Bool.not_eq_true',←Bool.not_eq_true,Qc0 hL]
 constructor
 ·intro h1 k hk hn hb;exact h1 ⟨k,hk,hn,hb⟩
 ·rintro h1 ⟨k,hk,hn,hb⟩;exact h1 k hk hn hb
theorem QVf {L:List Itm} {l:List Hs} (hl:allL L l=true):allL L (redF L l)=true:=Q2.2 fun h hh=>Q2.1 hl h (QFx hh)
end Go.AW
