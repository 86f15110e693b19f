/- A part of the proof: D62 D63 D64 D65 D66 D67 E12 E14 D68 E15 D70. -/
import Derived.Test.YtpcbnjbpdooejaaGreatDoorPae
import Derived.Test.YtpcbnjbpdooejaaGreatDoorPay
import Derived.Test.YtpcbnjbpdooejaaGreatDoorPas
import Derived.KernelRfl
set_option linter.unusedSimpArgs false
set_option linter.unusedVariables false
set_option maxRecDepth 100000
set_option maxHeartbeats 8000000
namespace Go.AW
open Proofs
def autF (a:UInt8):ByteArray:=if a.toNat % 3=0 then ⟨#[97,110,110]⟩ else if a.toNat % 3=1 then ⟨#[98,111,98]⟩ else ⟨#[101,118,101]⟩
def makF (L:List Itm) (m:MadeV) (on:List Hs):ChV:=
 let deps:=(reqF L on).take 16
 let c:ChV:=⟨autF m.au,(QAG L (autF m.au) deps).1,(QAG L (autF m.au) deps).2.1,deps,m.note,m.ops⟩
 if m.bad.toNat % 8=1 then { c with seq:=c.seq+1 } else if m.bad.toNat % 8=2 then { c with start:=c.start+1 } else if m.bad.toNat % 8=3 then { c with deps:=pasF L deps } else c
theorem QVO {L:List Itm} (hB:∀x∈L,ItB x) (h:Hs):0≤(chL L h).seq∧(chL L h).seq≤1099511627776∧0≤(chL L h).start∧(chL L h).start≤1099511627776∧0≤QAa (chL L h).ops∧QAa (chL L h).ops≤268435456:=by
 cases e:getL L h with
 | none=>rw [chL,e];exact⟨by decide,by decide,by decide,by decide,by decide,by decide⟩
 | some x=>
  have hx:=hB x (QDS e).1
  have h1:=hx.seq
  have h2:=hx.start
  have h3:=hx.size
  rw [QUa e]
  omega
theorem QXD {L:List Itm} (hB:∀x∈L,ItB x) (a:ByteArray) (ps:List Hs):0≤seqF L a ps∧seqF L a ps≤1099511627777:=by
 suffices ∀(ps:List Hs) (s:Int),0≤s∧s≤1099511627777→0≤ps.foldl (fun s h=>if (chL L h).author=a then max s ((chL L h).seq+1) else s) s∧ps.foldl (fun s h=>if (chL L h).author=a then max s ((chL L h).seq+1) else s) s≤1099511627777 from this ps 1 ⟨by decide,by decide⟩
 intro ps
 induction ps with
 | nil=>exact fun s h=>h
 | cons p ps ih=>
  intro s h
  have:=QVO hB p
  refine ih _ ?_
  show 0≤(if (chL L p).author=a then max s ((chL L p).seq+1) else s)∧(if (chL L p).author=a then max s ((chL L p).seq+1) else s)≤1099511627777
  split<;>omega
theorem QX9 {L:List Itm} (hB:∀x∈L,ItB x) (ps:List Hs):0≤staF L ps∧staF L ps≤1099780063232:=by
 suffices ∀(ps:List Hs) (s:Int),0≤s∧s≤1099780063232→0≤ps.foldl (fun s h=>max s ((chL L h).start+QAa (chL L h).ops)) s∧ps.foldl (fun s h=>max s ((chL L h).start+QAa (chL L h).ops)) s≤1099780063232 from this ps 1 ⟨by decide,by decide⟩
 intro ps
 induction ps with
 | nil=>exact fun s h=>h
 | cons p ps ih=>
  intro s h
  have:=QVO hB p
  refine ih _ ?_
  show 0≤max s ((chL L p).start+QAa (chL L p).ops)∧max s ((chL L p).start+QAa (chL L p).ops)≤1099780063232
  omega
theorem QKD {L:List Itm} (hB:∀x∈L,ItB x) (a:ByteArray) (l:List Hs):0≤(QAG L a l).1∧(QAG L a l).1≤1099511627777∧0≤(QAG L a l).2.1∧(QAG L a l).2.1≤1099780063232:=by
 have h1:=QXD hB a (Q0 L l)
 have h2:=QX9 hB (Q0 L l)
 rw [QAG]
 split
 ·exact⟨by decide,by decide,by decide,by decide⟩
 ·split
  ·exact⟨by decide,by decide,by decide,by decide⟩
  ·exact⟨h1.1,h1.2,h2.1,h2.2⟩
theorem QRB (G:GrV) (hG:GrOK G) (m:MadeV) (on:List Hs) (hl:on.length≤65536):QE Tryz.prog [] 76 [grA G,.agg (mdc m),.seq on.length 32 (flat hcell on)] (.agg (ccl (makF G.L m on))):=by
 refine QE.start Tryz.func76 rfl zK rfl Tryz.ntmps76 fol zK (by simp [idfL,idf,QZ QS,QS,Qg,Qy,grA,QIa,QA9,QO5,QJM]) (by simp [idfL,idf,QZ QS,QS,Qg,Qy,grA,QIa,QA9,QO5,QJM]) ?_
 refine zz ?_
 (have X1:=@grA.eq_1;have X2:=@mdc.eq_1;refine zS2 ?_;clear X1 X2)
 have hn:=hG.lenL
 have hR:=QLm G hG on zo
 simp only [grA] at hR
 refine hR.useV ?_
 obtain⟨rd,hrd⟩:∃rd,rd=reqF G.L on:=⟨_,rfl⟩
 rw [←hrd]
 have e1:(min (rd.length:Int) 16).toNat=(rd.take 16).length:=by rw [List.length_take];omega
 have e2:((m.au.toNat:Int) % 3).toNat=m.au.toNat % 3:=by omega
 have htk:List.take ((rd.take 16).length*32) (flat hcell rd)=flat hcell (rd.take 16):=by
  have h:flat hcell rd=flat hcell (rd.take 16)++flat hcell (rd.drop 16):=by rw [Q4,List.take_append_drop]
  rw [h]
  exact List.take_left' QCG
 have hau:[AV.v (.string ⟨#[97,110,110]⟩),AV.v (.string ⟨#[98,111,98]⟩),AV.v (.string ⟨#[101,118,101]⟩)][m.au.toNat % 3]?=some (.v (.string (autF m.au))):=by
  rw [autF]
  have:m.au.toNat % 3=0∨m.au.toNat % 3=1∨m.au.toNat % 3=2:=by omega
  rcases this with h | h | h<;>rw [h]<;>rfl
 have hdl:(rd.take 16).length≤16:=by rw [List.length_take];omega
 have hrg:=QKD (fun x hx=>hG.bL hx) (autF m.au) (rd.take 16)
 have hN:=QRU G hG (autF m.au) (by rw [autF];split<;>(try split)<;>decide) (rd.take 16) zo
 have hP:=QMI G hG (rd.take 16) zo
 simp only [grA] at hN hP
 have hmk:makF G.L m on=if m.bad.toNat % 8=1 then ⟨autF m.au,(QAG G.L (autF m.au) (rd.take 16)).1+1,(QAG G.L (autF m.au) (rd.take 16)).2.1,rd.take 16,m.note,m.ops⟩ else if m.bad.toNat % 8=2 then ⟨autF m.au,(QAG G.L (autF m.au) (rd.take 16)).1,(QAG G.L (autF m.au) (rd.take 16)).2.1+1,rd.take 16,m.note,m.ops⟩ else if m.bad.toNat % 8=3 then ⟨autF m.au,(QAG G.L (autF m.au) (rd.take 16)).1,(QAG G.L (autF m.au) (rd.take 16)).2.1,pasF G.L (rd.take 16),m.note,m.ops⟩ else ⟨autF m.au,(QAG G.L (autF m.au) (rd.take 16)).1,(QAG G.L (autF m.au) (rd.take 16)).2.1,rd.take 16,m.note,m.ops⟩:=by rw [makF,←hrd]
 generalize rd.take 16=dp at*
 (have X1:=@List.getElem?_cons_succ.{0};have X2:=e1;have X3:=e2;have X4:=htk;have X5:=hau;refine zS5 ?_;clear X1 X2 X3 X4 X5)
 refine hN.useV ?_
 obtain⟨g1,g2,g3,g4⟩:=hrg
 generalize QAG G.L (autF m.au) dp=nx at*
 (have X1:=@List.getElem?_cons_succ.{0};refine zS1 ?_;clear X1)
 refine⟨fun b1=>?_,fun b1=>?_⟩
 ·rw [if_pos zo] at hmk
  rw [hmk]
  (have X1:=@ccl.eq_1;have X2:=@List.getElem?_cons_succ.{0};exact zC2)
 ·rw [if_neg zo] at hmk
  (have X1:=@List.getElem?_cons_succ.{0};refine zS1 ?_;clear X1)
  refine⟨fun b2=>?_,fun b2=>?_⟩
  ·rw [if_pos zo] at hmk
   rw [hmk]
   (have X1:=@ccl.eq_1;have X2:=@List.getElem?_cons_succ.{0};exact zC2)
  ·rw [if_neg zo] at hmk
   (have X1:=@List.getElem?_cons_succ.{0};refine zS1 ?_;clear X1)
   refine⟨fun b3=>?_,fun b3=>?_⟩
   ·rw [if_pos zo] at hmk
    rw [hmk]
    (have X1:=@ccl.eq_1;have X2:=@List.getElem?_cons_succ.{0};refine zS2 ?_;clear X1 X2)
    refine hP.useV ?_
    (have X1:=@ccl.eq_1;have X2:=@List.getElem?_cons_succ.{0};exact zC2)
   ·rw [if_neg zo] at hmk
    rw [hmk]
    (have X1:=@ccl.eq_1;have X2:=@List.getElem?_cons_succ.{0};exact zC2)
open Proofs
def onF (L:List Itm) (m:MadeV):List Hs:=if L.length=0 then [] else (m.on.take 6).map fun o=>(QF L).getD (o.toNat % L.length) QBl
def QC9 (q:List (List UInt8)×GrV) (m:MadeV):List (List UInt8)×GrV:=
 if chE2 (makF q.2.L m (onF q.2.L m))=0 then (q.1++[chB (makF q.2.L m (onF q.2.L m))],(addF q.2 (chB (makF q.2.L m (onF q.2.L m)))).1) else q
def bldF (l:List MadeV):List (List UInt8)×GrV:=l.foldl QC9 ([],⟨[],[]⟩)
theorem QTm {l:List MadeV} {i:Nat} (hi:i<l.length):bldF (l.take (i+1))=QC9 (bldF (l.take i)) l[i]:=by
 rw [List.take_succ_eq_append_getElem hi,bldF,bldF,List.foldl_append];rfl
def bc (b:List UInt8):List AV:=[.seq b.length 1 (flat QC b)]
theorem QLO (b:List UInt8):(bc b).length=1:=rfl
theorem QSm (b:List UInt8):idfL (bc b)=true:=by simp [bc,idfL,idf,Qg]
theorem Qb4 {l:List (List UInt8)}:idfL (flat bc l)=true:=QZ QSm l
theorem QSK {l:List (List UInt8)}:(flat bc l).length=l.length:=by rw [QW QLO,Nat.mul_one]
attribute [push_cast] QSm Qb4 QSK
theorem QWN {n:Nat} {q:List (List UInt8)×GrV} {m:MadeV} (h:GrOK q.2) (h2:q.1.length≤n):GrOK (QC9 q m).2∧(QC9 q m).1.length≤n+1:=by
 rw [QC9]
 split
 ·exact⟨QJO h _,by simp;omega⟩
 ·exact⟨h,by omega⟩
theorem QM0 (l:List MadeV):GrOK (bldF l).2∧(bldF l).1.length≤l.length:=by
 suffices ∀(l:List MadeV) (q:List (List UInt8)×GrV) (n:Nat),GrOK q.2→q.1.length≤n→GrOK (l.foldl QC9 q).2∧(l.foldl QC9 q).1.length≤n+l.length by
  have:=this l ([],⟨[],[]⟩) 0 GrOK.nil (Nat.le_refl _)
  rw [Nat.zero_add] at this
  exact this
 intro l
 induction l with
 | nil=>exact fun q n h h2=>⟨h,h2⟩
 | cons m l ih=>
  intro q n h h2
  obtain⟨k1,k2⟩:=QWN (m:=m) h h2
  obtain⟨k3,k4⟩:=ih (QC9 q m) (n+1) k1 k2
  exact⟨k3,by rw [List.length_cons];show (List.foldl QC9 (QC9 q m) l).1.length≤_;omega⟩
def mdOK (m:MadeV):Prop:=m.on.length≤1048576∧m.note.size≤1048576∧m.ops.length≤1048576∧∀o∈m.ops,QCP o
theorem Qdc (b:List UInt8):hok (shaH b):=QZ9 _
theorem QTU {G:GrV} (hG:GrOK G) {h:Hs} (hh:h∈QF G.L):hok h:=by
 rw [QF,List.mem_map] at hh
 obtain⟨x,hx,rfl⟩:=hh
 rw [(hG.okL x hx).2]
 exact Qdc _
theorem QYz {G:GrV} {on:List Hs} {h:Hs} (hh:h∈reqF G.L on):h∈QF G.L:=by
 rw [reqF] at hh
 split at hh
 ·rename_i ha
  exact Q2.1 ha _ (QFx hh)
 ·simp at hh
theorem QX3 {G:GrV} (hG:GrOK G) {l:List Hs} {h:Hs} (hh:h∈pasF G.L l):h∈QF G.L:=by
 rw [pasF] at hh
 split at hh
 ·rename_i ha
  exact QA3 hG.ord ha h hh
 ·simp at hh
theorem QV4 {G:GrV} (hG:GrOK G) {l:List Hs}:(pasF G.L l).length≤4096:=by
 have:=hG.lenL
 rw [pasF]
 split
 ·rename_i ha
  have:=QJx hG.ord ha
  omega
 ·simp
theorem QW7 {G:GrV} (hG:GrOK G) {m:MadeV} (hm:mdOK m) (on:List Hs):QES (makF G.L m on):=by
 obtain⟨h1,h2,h3,h4⟩:=hm
 obtain⟨g1,g2,g3,g4⟩:=QKD (fun x hx=>hG.bL hx) (autF m.au) ((reqF G.L on).take 16)
 have ha:(autF m.au).size≤1048576:=by rw [autF];split<;>(try split)<;>decide
 have hd:((reqF G.L on).take 16).length≤1048576:=by rw [List.length_take];omega
 have hk:∀h∈(reqF G.L on).take 16,hok h:=fun h hh=>QTU hG (QYz (List.mem_of_mem_take hh))
 have hp:∀h∈pasF G.L ((reqF G.L on).take 16),hok h:=fun h hh=>QTU hG (QX3 hG hh)
 have hl:=QV4 hG (l:=(reqF G.L on).take 16)
 have hs:I64 (QAG G.L (autF m.au) ((reqF G.L on).take 16)).1:=⟨by omega,by omega⟩
 have hs1:I64 ((QAG G.L (autF m.au) ((reqF G.L on).take 16)).1+1):=⟨by omega,by omega⟩
 have ht:I64 (QAG G.L (autF m.au) ((reqF G.L on).take 16)).2.1:=⟨by omega,by omega⟩
 have ht1:I64 ((QAG G.L (autF m.au) ((reqF G.L on).take 16)).2.1+1):=⟨by omega,by omega⟩
 rw [makF]
 simp only
 split
 ·exact⟨ha,hs1,ht,hd,hk,h2,h3,h4⟩
 ·split
  ·exact⟨ha,hs,ht1,hd,hk,h2,h3,h4⟩
  ·split
   ·exact⟨ha,hs,ht,Nat.le_trans hl zD,hp,h2,h3,h4⟩
   ·exact⟨ha,hs,ht,hd,hk,h2,h3,h4⟩
theorem QUM (l:List MadeV) (hl:l.length≤65536) (hm:∀m∈l,mdOK m):QE Tryz.prog [] 27 [.seq l.length 5 (flat mdc l)] (.tup [.seq (bldF l).1.length 1 (flat bc (bldF l).1),grA (bldF l).2]):=by
 refine QE.startW Tryz.func27 rfl zK rfl Tryz.ntmps27 fol zK (by simp [idfL,idf,QZ QS,QS,Qg,Qy,QJY,Qb4,Qed]) (by simp [idfL,idf,QZ QS,QS,Qg,Qy,QJY,Qb4,Qed]) ?_
 refine zz ?_
 (have X1:=@grA.eq_1;refine zS1 ?_;clear X1)
 refine QD (ι:=Nat) (fun i=>⟨[(0,.seq l.length 5 (flat mdc l)),(3,.ptr 0 0),(4,.ptr 1 0),(5,.sl 2 0 (bldF (l.take i)).1.length 1),(6,.v (.int .i64 i))],⟨[(0,.cells 29 [.v (.slice none 0 0),.v (.slice none 0 0)] false),(1,.cells 29 [.seq (bldF (l.take i)).2.L.length 39 (flat itc (bldF (l.take i)).2.L),.seq (bldF (l.take i)).2.W.length 39 (flat itc (bldF (l.take i)).2.W)] false),(2,.cells 23 (flat bc (bldF (l.take i)).1) true)],3,3,0⟩⟩) (fun i=>i≤l.length) (fun i=>l.length - i) 0 (Nat.zero_le _) ?_ ?_
 ·(have X1:=@List.take_zero.{0};have X2:=@bldF.eq_1;have X3:=@List.foldl_nil.{0,0};have X4:=@QOx;exact fzN4 0 [(0,3),(1,88)] [1])
 intro i hi
 have hok:=QM0 (l.take i)
 have hnx:∀h:i<l.length,_:=fun h=>QTm (l:=l) (i:=i) h
 generalize hq:bldF (l.take i)=q at*
 obtain⟨out,G⟩:=q
 obtain⟨hG,hol⟩:=hok
 dsimp only at hG hol ⊢
 rw [List.length_take] at hol
 have hnL:=hG.lenL
 refine zS ?_
 refine⟨fun h1=>?_,fun h1=>?_⟩
 ·have hi1:i<l.length:=by omega
  have hmo:=hm _ (List.getElem_mem hi1)
  have hnx:=hnx hi1
  refine zS ?_
  generalize hM:l[i]=M at*
  have hsm:=QW7 hG hmo (onF G.L M)
  obtain⟨f,hf⟩:∃f:UInt8→Hs,f=fun o=>(QF G.L).getD (o.toNat % G.L.length) QBl:=⟨_,rfl⟩
  refine QD (ι:=Nat×List Hs) (fun q=>⟨[(0,.seq l.length 5 (flat mdc l)),(3,.ptr 0 0),(4,.ptr 1 0),(5,.sl 2 0 out.length 1),(6,.v (.int .i64 i)),(7,.sl 3 0 q.2.length 32),(8,.v (.int .i64 q.1))],⟨[(0,.cells 29 [.v (.slice none 0 0),.v (.slice none 0 0)] false),(1,.cells 29 [.seq G.L.length 39 (flat itc G.L),.seq G.W.length 39 (flat itc G.W)] false),(2,.cells 23 (flat bc out) true),(3,.cells 47 (flat hcell q.2) true)],4,4,0⟩⟩)
   (fun q=>q.1≤6∧q.1≤M.on.length∧(G.L.length=0→q.1=0)∧q.2=(M.on.take q.1).map f) (fun q=>6 - q.1) (0,[]) ⟨Nat.zero_le _,Nat.zero_le _,fun _=>rfl,rfl⟩ ?_ ?_
  ·(have X1:=@QOx;exact fzN1 0 [(0,0),(1,1),(2,2)] [1])
  rintro⟨k,acc⟩ ⟨hk6,hko,hk0,hacc⟩
  dsimp only at hk6 hko hk0 hacc ⊢
  have hal:acc.length≤6:=by rw [hacc,List.length_map,List.length_take];omega
  (have X1:=@mdc.eq_1;have X2:=hM;refine zS2 ?_;clear X1 X2)
  refine⟨fun a1=>?_,fun a1=>?_⟩
  ·(have X1:=@mdc.eq_1;have X2:=hM;refine zS2 ?_;clear X1 X2)
   refine⟨fun a2=>?_,fun a2=>?_⟩
   ·(have X1:=@mdc.eq_1;have X2:=hM;refine zS2 ?_;clear X1 X2)
    refine⟨fun a3=>?_,fun a3=>?_⟩
    ·have hk1:k<M.on.length:=by omega
     have hne:G.L.length≠0:=by omega
     have hb8:M.on[k].toNat<256:=M.on[k].toNat_lt
     have hml:M.on[k].toNat % G.L.length<G.L.length:=Nat.mod_lt _ zo
     have g0:(List.drop k (flat QC M.on))[0]?=some (.v (.int .u8 (M.on[k].toNat:Nat))):=by rw [List.getElem?_drop,Nat.add_zero,QBm hk1];simp [List.getD_eq_getElem?_getD,List.getElem?_eq_getElem hk1]
     have e5:((M.on[k].toNat:Int) % (G.L.length:Int)).toNat=M.on[k].toNat % G.L.length:=by omega
     have hfk:G.L[M.on[k].toNat % G.L.length].h=f M.on[k]:=by
      rw [hf]
      simp [QF,List.getD_eq_getElem?_getD,hml]
     have hfl:flat hcell acc++hcell (f M.on[k])=flat hcell (acc++[f M.on[k]]):=by rw [Q7];simp [flat]
     (have X1:=@mdc.eq_1;have X2:=hM;have X3:=g0;have X4:=e5;have X5:=hfk;have X6:=hfl;refine zS6 ?_;clear X1 X2 X3 X4 X5 X6)
     refine⟨(k+1,acc++[f M.on[k]]),⟨zO,hk1,fun q=>absurd q hne,?_⟩,zO,?_⟩
     ·show acc++[f M.on[k]]=(M.on.take (k+1)).map f
      rw [List.take_succ_eq_append_getElem hk1,List.map_append,←hacc];rfl
     (have X1:=@List.length_append.{0};have X2:=@List.length_cons.{0};have X3:=@List.length_nil.{0};exact fzN3 0 [(0,0),(1,1),(2,2),(3,145)] [1])
    ·skip
     have hon:acc=onF G.L M:=by
      rw [hacc,onF]
      by_cases h0:G.L.length=0
      ·rw [if_pos h0,hk0 h0];rfl
      ·rw [if_neg h0,hf]
       first
        | rw [show M.on.take k=M.on.take 6 from by rw [List.take_of_length_le zo,List.take_of_length_le zo]]
        | rw [show k=6 from by omega]
        | omega
     subst hon
     (have X1:=@mdc.eq_1;have X2:=hM;refine zS2 ?_;clear X1 X2)
     refine QO.useF (ids:=[3]) (u:=[(3,.dead)]) (QRB G hG M (onF G.L M) zo) rfl (by have X1:=@QLW;have X2:=@grA.eq_1;have X3:=@mdc.eq_1;exact zCN3) rfl rfl rfl ?_
     refine zS ?_
     refine QO.useV (QNI _ hsm) rfl ?_
     (have X1:=@List.getElem?_cons_succ.{0};refine zS1 ?_;clear X1)
     refine⟨fun c1=>?_,fun c1=>?_⟩
     ·rw [QC9,if_neg (by dsimp only;omega)] at hnx
      refine zS ?_
      refine⟨i+1,hi1,zO,?_⟩
      simp only [hnx]
      exact fzN 0 [(0,0),(1,1),(2,2)] [1]
     ·have hE:chE2 (makF G.L M (onF G.L M))=0:=by omega
      rw [QC9,if_pos hE] at hnx
      dsimp only at hnx
      have hR:chR (makF G.L M (onF G.L M))=chB (makF G.L M (onF G.L M)):=by rw [chR,if_pos hE]
      have hBl:=(QDI hE).2
      rw [hR]
      generalize chB (makF G.L M (onF G.L M))=B at*
      refine zS ?_
      have hA:=QKO G hG B zo
      simp only [grA] at hA
      refine hA.useV ?_
      (have X1:=@List.getElem?_cons_succ.{0};refine zS1 ?_;clear X1)
      refine⟨i+1,hi1,zO,?_⟩
      simp only [hnx]
      have hfb:flat bc out++[AV.seq B.length 1 (flat QC B)]=flat bc (out++[B]):=by rw [Q7];rfl
      (have X1:=hfb;have X2:=@List.length_append.{0};have X3:=@List.length_cons.{0};have X4:=@List.length_nil.{0};exact fzN4 0 [(0,0),(1,1),(2,330)] [1])
   ·skip
    have hon:acc=onF G.L M:=by
     rw [hacc,onF]
     by_cases h0:G.L.length=0
     ·rw [if_pos h0,hk0 h0];rfl
     ·rw [if_neg h0,hf]
      first
       | rw [show M.on.take k=M.on.take 6 from by rw [List.take_of_length_le zo,List.take_of_length_le zo]]
       | rw [show k=6 from by omega]
       | omega
    subst hon
    (have X1:=@mdc.eq_1;have X2:=hM;refine zS2 ?_;clear X1 X2)
    refine QO.useF (ids:=[3]) (u:=[(3,.dead)]) (QRB G hG M (onF G.L M) zo) rfl (by have X1:=@QLW;have X2:=@grA.eq_1;have X3:=@mdc.eq_1;exact zCN3) rfl rfl rfl ?_
    refine zS ?_
    refine QO.useV (QNI _ hsm) rfl ?_
    (have X1:=@List.getElem?_cons_succ.{0};refine zS1 ?_;clear X1)
    refine⟨fun c1=>?_,fun c1=>?_⟩
    ·rw [QC9,if_neg (by dsimp only;omega)] at hnx
     refine zS ?_
     refine⟨i+1,hi1,zO,?_⟩
     simp only [hnx]
     exact fzN 0 [(0,0),(1,1),(2,2)] [1]
    ·have hE:chE2 (makF G.L M (onF G.L M))=0:=by omega
     rw [QC9,if_pos hE] at hnx
     dsimp only at hnx
     have hR:chR (makF G.L M (onF G.L M))=chB (makF G.L M (onF G.L M)):=by rw [chR,if_pos hE]
     have hBl:=(QDI hE).2
     rw [hR]
     generalize chB (makF G.L M (onF G.L M))=B at*
     refine zS ?_
     have hA:=QKO G hG B zo
     simp only [grA] at hA
     refine hA.useV ?_
     (have X1:=@List.getElem?_cons_succ.{0};refine zS1 ?_;clear X1)
     refine⟨i+1,hi1,zO,?_⟩
     simp only [hnx]
     have hfb:flat bc out++[AV.seq B.length 1 (flat QC B)]=flat bc (out++[B]):=by rw [Q7];rfl
     (have X1:=hfb;have X2:=@List.length_append.{0};have X3:=@List.length_cons.{0};have X4:=@List.length_nil.{0};exact fzN4 0 [(0,0),(1,1),(2,330)] [1])
  ·skip
   have hon:acc=onF G.L M:=by
    rw [hacc,onF]
    by_cases h0:G.L.length=0
    ·rw [if_pos h0,hk0 h0];rfl
    ·rw [if_neg h0,hf]
     first
      | rw [show M.on.take k=M.on.take 6 from by rw [List.take_of_length_le zo,List.take_of_length_le zo]]
      | rw [show k=6 from by omega]
      | omega
   subst hon
   (have X1:=@mdc.eq_1;have X2:=hM;refine zS2 ?_;clear X1 X2)
   refine QO.useF (ids:=[3]) (u:=[(3,.dead)]) (QRB G hG M (onF G.L M) zo) rfl (by have X1:=@QLW;have X2:=@grA.eq_1;have X3:=@mdc.eq_1;exact zCN3) rfl rfl rfl ?_
   refine zS ?_
   refine QO.useV (QNI _ hsm) rfl ?_
   (have X1:=@List.getElem?_cons_succ.{0};refine zS1 ?_;clear X1)
   refine⟨fun c1=>?_,fun c1=>?_⟩
   ·rw [QC9,if_neg (by dsimp only;omega)] at hnx
    refine zS ?_
    refine⟨i+1,hi1,zO,?_⟩
    simp only [hnx]
    exact fzN 0 [(0,0),(1,1),(2,2)] [1]
   ·have hE:chE2 (makF G.L M (onF G.L M))=0:=by omega
    rw [QC9,if_pos hE] at hnx
    dsimp only at hnx
    have hR:chR (makF G.L M (onF G.L M))=chB (makF G.L M (onF G.L M)):=by rw [chR,if_pos hE]
    have hBl:=(QDI hE).2
    rw [hR]
    generalize chB (makF G.L M (onF G.L M))=B at*
    refine zS ?_
    have hA:=QKO G hG B zo
    simp only [grA] at hA
    refine hA.useV ?_
    (have X1:=@List.getElem?_cons_succ.{0};refine zS1 ?_;clear X1)
    refine⟨i+1,hi1,zO,?_⟩
    simp only [hnx]
    have hfb:flat bc out++[AV.seq B.length 1 (flat QC B)]=flat bc (out++[B]):=by rw [Q7];rfl
    (have X1:=hfb;have X2:=@List.length_append.{0};have X3:=@List.length_cons.{0};have X4:=@List.length_nil.{0};exact fzN4 0 [(0,0),(1,1),(2,330)] [1])
 ·have hii:i=l.length:=by omega
  subst hii
  rw [List.take_length] at hq
  rw [hq]
  exact zC
open Proofs
theorem Qfe (G:GrV) (hG:GrOK G):PNew Tryz.prog [] 46 [.rop (QBf G)] (.seq (waiF G).length 32 (flat hcell (waiF G))):=(QfT G hG.lenW).toNew QCG
theorem QfJ (G:GrV) (hG:GrOK G):PNew Tryz.prog [] 53 [.rop (QBf G)] (.seq (misF G).length 32 (flat hcell (misF G))):=(QfH G hG).toNew QCG
theorem Qcx (G:GrV) (hG:GrOK G):PNew Tryz.prog [] 34 [.rop (QBf G)] (.seq (heaF G.L).length 32 (flat hcell (heaF G.L))):=(Qax G hG).toNew QCG
theorem QgH {G:GrV} (hG:GrOK G):(waiF G).length≤64:=Nat.le_trans (QAp _) (by rw [Qh];exact hG.lenW)
theorem Qev {G:GrV} (hG:GrOK G):(heaF G.L).length≤4096:=Nat.le_trans QV3 (by rw [Qh];exact hG.lenL)
theorem Qe7 (G:GrV) (hG:GrOK G) (hmi:(misF G).length≤1048576):QE Tryz.prog [] 37 [.rop (QBf G),grA G] (.v (.bool true)):=by
 refine QE.start Tryz.func37 rfl zK rfl Tryz.ntmps37 fol zK (by simp [idfL,idf,QZ QS,QS,Qg,Qy,grA,QIa,QAn]) (by simp [idfL,idf,QZ QS,QS,Qg,Qy,grA,QIa,QAn]) ?_
 refine zz ?_
 (have X1:=@grA.eq_1;refine zS1 ?_;clear X1)
 have h1:=QgH hG
 have h2:=Qev hG
 have hnL:=hG.lenL
 have hw:=QfD G hG
 have hm:=Qe9 G hG
 have hh:=Qfo G hG
 simp only [grA] at hw hm hh
 refine QO.useV (Len_g G hG.lenL) rfl ?_
 refine zS ?_
 refine QO.useN (Qfe G hG) rfl ?_
 refine zS ?_
 refine QO.useV hw rfl ?_
 refine zS ?_
 refine QO.useV (QSD (waiF G) zo (waiF G) zo) rfl ?_
 refine zS ?_
 refine QO.useN (QfJ G hG) rfl ?_
 refine zS ?_
 refine QO.useV hm rfl ?_
 refine zS ?_
 refine QO.useV (QSD (misF G) zo (misF G) zo) rfl ?_
 refine zS ?_
 refine QO.useN (Qcx G hG) rfl ?_
 refine zS ?_
 refine QO.useV hh rfl ?_
 refine zS ?_
 refine QO.useV (QSD (heaF G.L) zo (heaF G.L) zo) rfl ?_
 refine zS ?_
 refine QD (ι:=Nat) (fun i=>⟨[(0,.rop (QBf G)),(3,.rop [.seq G.L.length 39 (flat itc G.L),.seq G.W.length 39 (flat itc G.W)]),(5,.v (.int .i64 i))],⟨[],0,0,0⟩⟩) (fun i=>i≤G.L.length) (fun i=>G.L.length - i) 0 (Nat.zero_le _) ?_ ?_
 ·exact fzN 0 [] []
 intro i hi
 refine zS ?_
 refine⟨fun h1=>?_,fun h1=>?_⟩
 ·have hi1:i<G.L.length:=by omega
  have hk:G.L[i].h∈QF G.L:=by rw [QF];exact List.mem_map_of_mem (List.getElem_mem hi1)
  have hg:=QJo hG.ord.nodup (List.getElem_mem hi1)
  have hb:bytF G.L G.L[i].h=G.L[i].b:=by rw [bytF,hg]
  have he:bytE G.L G.L[i].h=0:=if_pos hk
  have hB:=Qfc G hG G.L[i].h
  rw [hb,he] at hB
  refine zS ?_
  refine hB.useV ?_
  (have X1:=@List.getElem?_cons_succ.{0};refine zS1 ?_;clear X1)
  refine QO.useV (QcP G G.L[i].h) rfl ?_
  (have X1:=@hasL.eq_1;have X2:=hk;have X3:=@itc_b38;have X4:=@QAD;refine zS4 ?_;clear X1 X2 X3 X4)
  refine⟨i+1,hi1,zO,?_⟩
  exact fzN 0 [] []
 ·exact zC
open Proofs
def addG (G:GrV) (b:List UInt8):GrV:=(addF G b).1
def stA (all:List (List UInt8)) (order:List UInt8) (i:Nat):GrV:=(order.take i).foldl (fun G o=>addG G (all.getD (o.toNat % all.length) [])) ⟨[],[]⟩
theorem QUl {G:GrV} (hG:GrOK G) (b:List UInt8):GrOK (addG G b):=QJO hG b
theorem QYx {all:List (List UInt8)} {order:List UInt8} {i:Nat} (hi:i<order.length):stA all order (i+1)=addG (stA all order i) (all.getD (order[i].toNat % all.length) []):=by
 rw [stA,List.take_succ_eq_append_getElem hi,List.foldl_append];rfl
theorem QUv {α:Type} {f:α→List UInt8}:∀{l:List α} {G:GrV},GrOK G→GrOK (l.foldl (fun G o=>addG G (f o)) G)
 | [],_,h=>h
 | _::l,_,h=>QUv (f:=f) (l:=l) (QUl h _)
theorem QXE {all:List (List UInt8)} {order:List UInt8}:stA all order 0=⟨[],[]⟩:=rfl
theorem QaN {all:List (List UInt8)} {order:List UInt8} {i:Nat}:GrOK (stA all order i):=QUv GrOK.nil
theorem QeZ (l:List (List UInt8)) (i:Nat) (hi:i<l.length):(flat bc l).drop i=bc l[i]++flat bc (l.drop (i+1)):=by
 have:=QAh QLO l i hi;rwa [Nat.mul_one] at this
attribute [push_cast] QeZ
def allB (all:List (List UInt8)):Prop:=∀b∈all,b.length≤65536
theorem QWo {c:ChV} (h:chE2 c=0):(chB c).length≤65536:=by have:=(QDI h).2;omega
theorem Qd8 (l:List MadeV):allB (bldF l).1:=by
 suffices ∀(l:List MadeV) (q:List (List UInt8)×GrV),allB q.1→allB (l.foldl QC9 q).1 from this l _ (by simp [allB])
 intro l
 induction l with
 | nil=>exact fun q h=>h
 | cons m l ih=>
  intro q h
  refine ih _ ?_
  rw [QC9]
  split
  ·rename_i hE
   intro b hb
   rcases List.mem_append.1 hb with k | k
   ·exact h b k
   ·rw [List.mem_singleton] at k;rw [k];exact QWo hE
  ·exact h
theorem QMi {α:Type} {l:List α} {i:Nat} {d:α} (hi:i<l.length):l.getD i d=l[i]:=by simp [List.getD_eq_getElem?_getD,List.getElem?_eq_getElem hi]
open Proofs
open Proofs
def h9:Hs:=⟨9::List.replicate 31 0,by simp⟩
theorem Bel.trans {L:List Itm} {l m:List Hs} {h:Hs} (hb:Bel L l h) (h1:∀x∈l,Bel L m x):Bel L m h:=hb.mono (fun _ h=>h) h1
theorem Bel.le {L:List Itm} (hL:OrdL L) {k:Hs} (hk:k∈QF L) {h:Hs} (hb:Bel L [k] h):h=k∨(QF L).idxOf h<(QF L).idxOf k:=by
 rcases (Bel.one hL hk).1 hb with e | e
 ·exact .inl e
 ·exact .inr (e.lt hL hk)
def aw0:MadeV:=⟨0,[],⟨#[]⟩,[],0⟩
def aw1:MadeV:=⟨1,[0],⟨#[]⟩,[],0⟩
def b0L:List UInt8:=[1,3,97,110,110,1,1,0,0,0,0,0,0,0]
def h0L:List Int:=[13,254,142,121,33,140,249,31,11,217,249,28,176,134,186,78,177,43,34,108,105,82,164,218,107,
 150,36,193,159,63,17,10]
def b1L:List UInt8:=[1,3,98,111,98,1,1,1,13,254,142,121,33,140,249,31,11,217,249,28,176,134,186,78,177,43,34,108,
 105,82,164,218,107,150,36,193,159,63,17,10,0,0,0,0,0,0]
def h1L:List Int:=[21,55,172,156,198,168,180,248,24,239,51,48,217,125,248,247,158,201,194,91,96,25,99,80,65,53,
 154,97,60,209,178,81]
def hh0:Hs:=⟨h0L,by decide⟩
def hh1:Hs:=⟨h1L,by decide⟩
def ci0:ChV:=⟨⟨#[97,110,110]⟩,1,1,[],⟨#[]⟩,[]⟩
def ci1:ChV:=⟨⟨#[98,111,98]⟩,1,1,[hh0],⟨#[]⟩,[]⟩
def ai0:Itm:=⟨hh0,ci0,b0L⟩
def ai1:Itm:=⟨hh1,ci1,b1L⟩
theorem aw_bld:bldF [aw0,aw1]=([b0L,b1L],⟨[ai0,ai1],[]⟩):=zK
theorem aw_a1:addF ⟨[],[]⟩ b1L=(⟨[],[ai1]⟩,hh1,0):=zK
theorem aw_a0:addF ⟨[],[ai1]⟩ b0L=(⟨[ai0,ai1],[]⟩,hh0,0):=zK
theorem aw_hea:heaF [ai0,ai1]=[hh1]:=zK
theorem aw_ok:mdOK aw0∧mdOK aw1:=⟨⟨by decide,by decide,by decide,by simp [aw0]⟩,⟨by decide,by decide,by decide,by simp [aw1]⟩⟩
open Proofs
theorem QGT:QE Tryz.prog gK 17 [] (.v (.bool true)):=by
 refine QE.start Tryz.func17 rfl zK rfl Tryz.ntmps17 fol zK rfl rfl ?_
 refine zZ ?_
 have hB:=(QUM [aw0,aw1] zD (fun m hm=>by
  rcases List.mem_cons.1 hm with rfl | hm
  ·exact aw_ok.1
  ·rw [List.mem_singleton] at hm;rw [hm];exact aw_ok.2)).gam (γ:=gK)
 rw [aw_bld] at hB
 have hB1:=QE.preS (xs:=[.v (.int .u8 0),.v (.slice none 0 0),.v (.string ByteArray.empty),.v (.slice none 0 0),.v (.int .u8 0),.v (.int .u8 1),.seq 1 1 [.v (.int .u8 0)],.v (.string ByteArray.empty),.v (.slice none 0 0),.v (.int .u8 0)]) hB rfl (by simp [WkL,Wk,flat,mdc,aw0,aw1,QC];rfl)
 clear hB
 refine Qr.letgo (a:=[]) (c:=[]) (y:=.seq 2 5 [.v (.int .u8 0),.v (.slice none 0 0),.v (.string ByteArray.empty),.v (.slice none 0 0),.v (.int .u8 0),.v (.int .u8 1),.seq 1 1 [.v (.int .u8 0)],.v (.string ByteArray.empty),.v (.slice none 0 0),.v (.int .u8 0)]) (ids:=[115,113]) (u:=[(115,.dead),(113,.dead)]) zCN rfl ?_
 refine hB1.useV ?_
 (have X1:=@grA.eq_1;refine zS1 ?_;clear X1)
 have hN:=Qfi.gam (γ:=gK)
 refine QM.useX [] hN rfl zC zC ?_
 (have X1:=@gO.eq_1;refine zS1 ?_;clear X1)
 refine⟨fun h=>absurd rfl h,fun _=>?_⟩
 have hf1:(List.drop (Int.toNat 1) (flat bc [b0L,b1L]))[0]?=some (.seq b1L.length 1 (flat QC b1L)):=rfl
 have hf0:(List.drop (Int.toNat 0) (flat bc [b0L,b1L]))[0]?=some (.seq b0L.length 1 (flat QC b0L)):=rfl
 have hA1:=QXx ⟨[],[]⟩ GrOK.nil b1L zD
 have hG1:=QJO GrOK.nil b1L
 rw [aw_a1] at hA1 hG1
 have hA0:=QXx ⟨[],[ai1]⟩ hG1 b0L zD
 have hG0:=QJO hG1 b0L
 rw [aw_a0] at hA0 hG0
 simp only [gO] at hA1 hA0
 have hd1:List.drop (Int.toNat 1*39) (flat itc [ai0,ai1])=itc ai1++[]:=rfl
 have hd0:List.drop (Int.toNat 0*39) (flat itc [ai0,ai1])=itc ai0++itc ai1:=rfl
 have hx1:ai1.h=hh1:=rfl
 have hx0:ai0.h=hh0:=rfl
 (have X1:=hf1;refine zS1 ?_;clear X1)
 refine QM.useX [309,310,311,312] hA1 rfl zC zC ?_
 (have X1:=@List.getElem?_cons_succ.{0};have X2:=hf0;refine zS2 ?_;clear X1 X2)
 refine QM.useX [309,310,311,312] hA0 rfl zC zC ?_
 have ht1:List.take 32 (itc ai1)=hcell hh1:=itc_h0
 have hm1:hasL [ai0,ai1] hh1=true:=by decide
 (have X1:=@List.getElem?_cons_succ.{0};have X2:=hd1;have X3:=hd0;have X4:=hx1;have X5:=hx0;have X6:=ht1;refine zS6 ?_;clear X1 X2 X3 X4 X5 X6)
 have hH:=(QcP ⟨[ai0,ai1],[]⟩ hh1).gam (γ:=gK)
 have hL:=(Len_g ⟨[ai0,ai1],[]⟩ zD).gam (γ:=gK)
 have hE:=(Qcx ⟨[ai0,ai1],[]⟩ hG0).gam (γ:=gK)
 have hS:=(QSD [hh1] zD [hh1] zD).gam (γ:=gK)
 rw [QBf] at hH hL hE
 rw [hm1] at hH
 rw [aw_hea] at hE
 refine QO.useS (ids:=[309,310,311,312]) hH zCN rfl rfl rfl ?_
 (have X1:=hd1;have X2:=hd0;have X3:=hx1;have X4:=hx0;have X5:=ht1;refine zS5 ?_;clear X1 X2 X3 X4 X5)
 refine QO.useS (ids:=[309,310,311,312]) hL zCN rfl rfl rfl ?_
 (have X1:=hd1;have X2:=hd0;have X3:=hx1;have X4:=hx0;have X5:=ht1;refine zS5 ?_;clear X1 X2 X3 X4 X5)
 refine⟨fun _=>?_,fun h=>absurd rfl h⟩
 (have X1:=hd1;have X2:=hd0;have X3:=hx1;have X4:=hx0;have X5:=ht1;refine zS5 ?_;clear X1 X2 X3 X4 X5)
 refine QO.useNS (ids:=[309,310,311,312]) hE zCN rfl rfl ?_
 (have X1:=hd1;have X2:=hd0;have X3:=hx1;have X4:=hx0;have X5:=ht1;refine zS5 ?_;clear X1 X2 X3 X4 X5)
 refine QO.useS (ids:=[700]) hS (by have X1:=@QLW;have X2:=@flat.eq_1;exact zCN2) rfl rfl rfl ?_
 (have X1:=hd1;have X2:=hd0;have X3:=hx1;have X4:=hx0;have X5:=ht1;first | exact zC5 | refine zS5 ?_)
 rfl
theorem QL9 {L:List Itm} {h:Hs}:h∈QF L↔∃x∈L,x.h=h:=by rw [QF,List.mem_map]
theorem QP3 {L:List Itm} {x:Itm} {h:Hs} (hh:h∈QF (QBn L x)):h∈QF L∨h=x.h:=by
 rw [QBn] at hh
 split at hh
 ·rw [Qv] at hh
  simpa [QF] using hh
 ·exact .inl hh
theorem QQV {G G':GrV} (e:QEM G=some G'):(∀h∈QF G'.L,h∈QF G.L∨h∈QF G.W)∧∀h∈QF G'.W,h∈QF G.W:=by
 rw [QEM] at e
 split at e
 ·cases e
 ·rename_i h hr
  obtain⟨h1,h2⟩:=QB3 hr
  obtain⟨x,hx,hm,hxh⟩:=QA2 h1
  rw [hx] at e
  simp only [Option.some.injEq] at e
  subst e
  refine⟨fun k hk=>?_,fun k hk=>?_⟩
  ·rcases QP3 hk with q | q
   ·exact .inl q
   ·exact .inr (by rw [q,hxh];exact h1)
  ·obtain⟨y,hy,rfl⟩:=QL9.1 hk
   exact QL9.2 ⟨y,QF1 hy,rfl⟩
theorem QH0:∀{n:Nat} {G:GrV},(∀h∈QF (QEH n G).L,h∈QF G.L∨h∈QF G.W)∧∀h∈QF (QEH n G).W,h∈QF G.W
 | 0,G=>⟨fun _ h=>.inl h,fun _ h=>h⟩
 | n+1,G=>by
  rw [QEH]
  split
  ·exact⟨fun _ h=>.inl h,fun _ h=>h⟩
  ·rename_i G' e
   obtain⟨h1,h2⟩:=QQV e
   obtain⟨h3,h4⟩:=QH0 (n:=n) (G:=G')
   refine⟨fun h hh=>?_,fun h hh=>h2 h (h4 h hh)⟩
   rcases h3 h hh with k | k
   ·exact h1 h k
   ·exact .inr (h2 h k)
theorem QUP {G:GrV} {b:List UInt8} {h:Hs} (hh:h∈QF (addF G b).1.L∨h∈QF (addF G b).1.W):h∈QF G.L∨h∈QF G.W∨h=shaH b:=by
 have old:∀{q:Prop},(h∈QF G.L∨h∈QF G.W)→h∈QF G.L∨h∈QF G.W∨q:=fun k=>k.elim .inl fun k=>.inr (.inl k)
 rw [addF] at hh
 split at hh
 ·exact old hh
 ·split at hh
  ·exact old hh
  ·split at hh
   ·split at hh
    ·exact old hh
    ·rcases hh with k | k
     ·exact .inl k
     ·dsimp only at k
      rw [Qv,List.mem_append] at k
      rcases k with k | k
      ·exact .inr (.inl k)
      ·simp only [QF,List.map_cons,List.map_nil,List.mem_singleton] at k
       exact .inr (.inr k)
   ·split at hh
    ·exact old hh
    ·split at hh
     ·exact old hh
     ·dsimp only at hh
      obtain⟨h3,h4⟩:=QH0 (n:=G.W.length+1) (G:=⟨G.L++[mkI b],G.W⟩)
      have key:h∈QF (G.L++[mkI b])∨h∈QF G.W:=by
       rcases hh with k | k
       ·exact h3 h k
       ·exact .inr (h4 h k)
      rcases key with k | k
      ·rw [Qv,List.mem_append] at k
       rcases k with k | k
       ·exact .inl k
       ·simp only [QF,List.map_cons,List.map_nil,List.mem_singleton] at k
        exact .inr (.inr k)
      ·exact .inr (.inl k)
def Kin (all:List (List UInt8)) (G:GrV):Prop:=∀h,h∈QF G.L∨h∈QF G.W→h∈all.map shaH
theorem Kin.nil {all:List (List UInt8)}:Kin all ⟨[],[]⟩:=by rintro h (k | k)<;>simp [QF] at k
theorem Kin.add {all:List (List UInt8)} {G:GrV} {b:List UInt8} (h:Kin all G) (hb:b∈all):Kin all (addG G b):=by
 intro k hk
 rcases QUP hk with q | q | q
 ·exact h k (.inl q)
 ·exact h k (.inr q)
 ·rw [q];exact List.mem_map_of_mem hb
theorem Kin.len {all:List (List UInt8)} {G:GrV} (h:Kin all G) (hG:GrOK G):G.L.length+G.W.length≤all.length:=by
 have hn:(QF G.L++QF G.W).Nodup:=List.nodup_append.2 ⟨hG.ord.nodup,hG.nd,fun a ha b hb e=>hG.dis b hb (e▸ha)⟩
 have:=List.Nodup.length_le_of_subset hn (l₂:=all.map shaH) fun x hx=>h x (List.mem_append.1 hx)
 rw [List.length_append,Qh,Qh,List.length_map] at this
 exact this
open Proofs
theorem QdR {l:List MadeV} (h:fewF l=true):l.length≤30:=by
 simp only [fewF,Bool.and_eq_true,decide_eq_true_eq] at h;exact h.1.1
end Go.AW
