/- A part of the proof: D56 D57 D58 D59 D60. -/
import Derived.Test.YtpcbnjbpdooejaaGreatDoorNae
import Derived.Test.YtpcbnjbpdooejaaGreatDoorNaw
set_option linter.unusedSimpArgs false
set_option linter.unusedVariables false
set_option maxRecDepth 100000
set_option maxHeartbeats 8000000
namespace Go.AW
open Proofs
theorem QTF {L:List Itm} {l:List Hs} {h:Hs} {k:Nat} (hk:k<l.length):undB L (l.take (k+1)) h=(undB L (l.take k) h||(decide (l[k]≠h)&&decide (h∈Q0 L [l[k]]))):=by
 rw [List.take_succ_eq_append_getElem hk,undB,undB,List.any_append];simp
theorem QJx {L:List Itm} (hL:OrdL L) {l:List Hs} (hl:allL L l=true):(Q0 L l).length≤L.length:=by
 rw [←Qh]
 exact (QAm L l).nodup.length_le_of_subset fun x hx=>QA3 hL hl x hx
theorem QLm (G:GrV) (hG:GrOK G) (l:List Hs) (hl:l.length≤65536):QE Tryz.prog [] 41 [grA G,.seq l.length 32 (flat hcell l)] (.tup [.seq (reqF G.L l).length 32 (flat hcell (reqF G.L l)),.v (.int .i64 (knoE G.L l))]):=by
 refine QE.startW Tryz.func41 rfl zK rfl Tryz.ntmps41 fol zK (by simp [idfL,idf,QZ QS,QS,Qg,Qy,grA,QIa,QA9]) (by simp [idfL,idf,QZ QS,QS,Qg,Qy,grA,QIa,QA9]) ?_
 refine zz ?_
 (have X1:=@grA.eq_1;refine zS1 ?_;clear X1)
 have hn:=hG.lenL
 have hga:=QOR G zo l zo
 simp only [grA] at hga
 refine hga.useV ?_
 by_cases ha:allL G.L l=true
 ·rw [reqF,knoE,if_pos ha,if_pos ha]
  (have X1:=ha;refine zS1 ?_;clear X1)
  refine QD (ι:=Nat) (fun i=>⟨[(1,.seq l.length 32 (flat hcell l)),(2,.rop [.seq G.L.length 39 (flat itc G.L),.seq G.W.length 39 (flat itc G.W)]),(6,.seq (srt ((l.take i).filter fun h=>!undB G.L l h)).length 32 (flat hcell (srt ((l.take i).filter fun h=>!undB G.L l h)))),(7,.v (.int .i64 i))],⟨[],0,0,0⟩⟩) (fun i=>i≤l.length) (fun i=>l.length - i) 0 (Nat.zero_le _) ?_ ?_
  ·(have X1:=@List.take_zero.{0};have X2:=@List.filter_nil.{0};have X3:=@srt_nil;have X4:=@QOx;exact fzN4 0 [] [])
  rintro i hi
  refine zS ?_
  refine⟨fun h1=>?_,fun h1=>?_⟩
  ·have hi1:i<l.length:=by omega
   obtain⟨out,hout⟩:∃out,out=srt ((l.take i).filter fun h=>!undB G.L l h):=⟨_,rfl⟩
   have hle:out.length≤1048576:=by rw [hout];exact Nat.le_trans QV3 (by simp;omega)
   have hnx:=QUC (p:=fun h=>!undB G.L l h) hi1
   rw [←hout] at hnx ⊢
   refine zS ?_
   refine QD (ι:=Nat) (fun k=>⟨[(1,.seq l.length 32 (flat hcell l)),(2,.rop [.seq G.L.length 39 (flat itc G.L),.seq G.W.length 39 (flat itc G.W)]),(6,.seq out.length 32 (flat hcell out)),(7,.v (.int .i64 i)),(8,.v (.bool (undB G.L (l.take k) l[i]))),(9,.v (.int .i64 k))],⟨[],0,0,0⟩⟩) (fun k=>k≤l.length) (fun k=>l.length - k) 0 (Nat.zero_le _) ?_ ?_
   ·refine fzNM 0 [] [] ?_ ?_<;>first | exact zC | refine zS ?_
    rfl
   rintro k hk
   refine zS ?_
   refine⟨fun h2=>?_,fun h2=>?_⟩
   ·have hk1:k<l.length:=by omega
    have hlk:l[k]∈QF G.L:=Q2.1 ha _ (List.getElem_mem hk1)
    have hP:=QMI G hG [l[k]] (by show 1≤65536;omega)
    rw [pasF,knoE,if_pos (QJT hlk),if_pos (QJT hlk)] at hP
    simp only [grA] at hP
    have e1:flat hcell [l[k]]=hcell l[k]:=by simp [flat]
    rw [e1] at hP
    simp only [List.length_cons,List.length_nil,Nat.zero_add] at hP
    have hnu:=QTF (L:=G.L) (h:=l[i]) hk1
    have hpl:(Q0 G.L [l[k]]).length≤1048576:=by
     have:=QJx hG.ord (QJT hlk)
     omega
    refine zS ?_
    refine QO.useF (ids:=[101]) hP rfl zCN rfl rfl rfl ?_
    have hH:=QaW (Q0 G.L [l[k]]) hpl l[i]
    cases hu:undB G.L (l.take k) l[i]
    ·rw [hu,Bool.false_or] at hnu
     refine zS ?_
     refine⟨fun h3=>?_,fun h3=>?_⟩
     ·rw [decide_eq_true h3,Bool.true_and] at hnu
      refine zS ?_
      refine QO.useV hH rfl ?_
      refine zS ?_
      refine⟨k+1,by omega,zO,?_⟩
      simp only [hnu]
      exact fzN 0 [] []
     ·rw [decide_eq_false (fun q=>q h3),Bool.false_and] at hnu
      refine zS ?_
      refine⟨k+1,by omega,zO,?_⟩
      simp only [hnu]
      exact fzN 0 [] []
    ·rw [hu,Bool.true_or] at hnu
     refine zS ?_
     refine⟨k+1,by omega,zO,?_⟩
     simp only [hnu]
     exact fzN 0 [] []
   ·have hkk:k=l.length:=by omega
    subst hkk
    rw [List.take_length]
    have hnx':srt ((l.take (i+1)).filter fun h=>!undB G.L l h)=if undB G.L l l[i]=true then out else insH l[i] out:=by
     rw [hnx];cases undB G.L l l[i]<;>rfl
    cases hu:undB G.L l l[i]
    ·rw [hu,if_neg zD] at hnx'
     refine zS ?_
     refine (QMp _ hle l[i]).useV ?_
     refine zS ?_
     refine⟨i+1,by omega,zO,?_⟩
     simp only [hnx']
     exact fzN 0 [] []
    ·rw [hu,if_pos rfl] at hnx'
     refine zS ?_
     refine⟨i+1,by omega,zO,?_⟩
     simp only [hnx']
     exact fzN 0 [] []
  ·have hii:i=l.length:=by omega
   subst hii
   rw [List.take_length]
   first | exact zC | refine zS ?_
   rfl
 ·rw [reqF,knoE,if_neg ha,if_neg ha]
  rw [Bool.not_eq_true] at ha
  (have X1:=ha;first | exact zC1 | refine zS1 ?_)
  try rfl
open Proofs
theorem QRU (G:GrV) (hG:GrOK G) (a:ByteArray) (hsz:a.size≤1048576) (l:List Hs) (hl:l.length≤65536):QE Tryz.prog [] 43 [grA G,.v (.string a),.seq l.length 32 (flat hcell l)] (.tup [.v (.int .i64 (QAG G.L a l).1),.v (.int .i64 (QAG G.L a l).2.1),.v (.int .i64 (QAG G.L a l).2.2)]):=by
 refine QE.start Tryz.func43 rfl zK rfl Tryz.ntmps43 fol zK (by simp [idfL,idf,QZ QS,QS,Qg,Qy,grA,QIa,QA9]) (by simp [idfL,idf,QZ QS,QS,Qg,Qy,grA,QIa,QA9]) ?_
 refine zz ?_
 (have X1:=@grA.eq_1;refine zS1 ?_;clear X1)
 have hn:=hG.lenL
 refine (QMy a hsz).useV ?_
 cases hb:QBP a
 ·rw [QAG,if_pos hb]
  first | exact zC | refine zS ?_
  try rfl
 refine zS ?_
 have hP:=QMI G hG l hl
 simp only [grA] at hP
 refine hP.useV ?_
 by_cases ha:allL G.L l=true
 ·have hq:QAG G.L a l=(seqF G.L a (Q0 G.L l),staF G.L (Q0 G.L l),0):=by rw [QAG,if_neg (by rw [hb];decide),if_neg (by rw [ha];decide)]
  rw [hq,pasF,knoE,if_pos ha,if_pos ha]
  have hpl:=QJx hG.ord ha
  have hbk:=QA3 hG.ord ha
  generalize Q0 G.L l=p at*
  (have X1:=@List.getElem?_cons_succ.{0};refine zS1 ?_;clear X1)
  refine QD (ι:=Nat) (fun i=>⟨[(1,.v (.string a)),(3,.rop [.seq G.L.length 39 (flat itc G.L),.seq G.W.length 39 (flat itc G.W)]),(9,.seq p.length 32 (flat hcell p)),(11,.v (.int .i64 (seqF G.L a (p.take i)))),(12,.v (.int .i64 (staF G.L (p.take i)))),(13,.v (.int .i64 i))],⟨[],0,0,0⟩⟩) (fun i=>i≤p.length) (fun i=>p.length - i) 0 (Nat.zero_le _) ?_ ?_
  ·(have X1:=@seqF.eq_1;have X2:=@staF.eq_1;have X3:=@List.take_zero.{0};have X4:=@List.foldl_nil.{0,0};exact fzN4 0 [] [])
  rintro i hi
  refine zS ?_
  refine⟨fun h1=>?_,fun h1=>?_⟩
  ·have hi1:i<p.length:=by omega
   obtain⟨j,z,hfj,hj,hjz,hz⟩:=QFS (hbk _ (List.getElem_mem hi1))
   have hjz':G.L[j]=z:=(List.getElem?_eq_some_iff.1 hjz).2
   have hzm:z∈G.L:=List.mem_of_getElem? hjz
   have hc:=QUa hz
   have hB:=hG.bL hzm
   have hS:=hB.size
   have h1:=hB.seq
   have h2:=hB.start
   have hsq:=QLS (L:=G.L) (a:=a) (ps:=p.take i) (h:=p[i])
   have hst:=QKa (L:=G.L) (ps:=p.take i) (h:=p[i])
   rw [hc,←List.take_succ_eq_append_getElem hi1] at hsq hst
   have hcs:=QUs z.c (by have:=hB.ops;omega) (fun o ho=>by have:=hB.op o ho;omega)
   have hF:=QOF G.L zo p[i]
   rw [hfj] at hF
   refine zS ?_
   refine QO.useV hF rfl ?_
   (have X1:=hjz';refine zS1 ?_;clear X1)
   refine⟨fun h3=>?_,fun h3=>?_⟩
   ·rw [if_pos h3] at hsq
    refine zS ?_
    refine QO.useV hcs rfl ?_
    refine zS ?_
    refine⟨i+1,by omega,zO,?_⟩
    simp only [hsq,hst]
    exact fzN 0 [] []
   ·rw [if_neg h3] at hsq
    refine zS ?_
    refine QO.useV hcs rfl ?_
    refine zS ?_
    refine⟨i+1,by omega,zO,?_⟩
    simp only [hsq,hst]
    exact fzN 0 [] []
  ·have hii:i=p.length:=by omega
   subst hii
   rw [List.take_length]
   exact zC
 ·rw [QAG,if_neg (by rw [hb];decide),if_pos (by simpa using ha),pasF,knoE,if_neg ha,if_neg ha]
  (have X1:=@List.getElem?_cons_succ.{0};refine zS1 ?_;clear X1)
  refine⟨fun _=>?_,fun h=>absurd h zD⟩
  first | exact zC | refine zS ?_
  try rfl
theorem QRb (G:GrV) (hG:GrOK G) (x:Itm) (hx:ItB x) (ha:allL G.L x.c.deps=true):QE Tryz.prog [] 91 [grA G,.agg (ccl x.c)] (.v (.int .i64 (fitF G.L x.c))):=by
 refine QE.start Tryz.func91 rfl zK rfl Tryz.ntmps91 fol zK (by simp [idfL,idf,QZ QS,QS,Qg,Qy,grA,QIa,QJM]) (by simp [idfL,idf,QZ QS,QS,Qg,Qy,grA,QIa,QJM]) ?_
 refine zz ?_
 (have X1:=@grA.eq_1;have X2:=@ccl.eq_1;refine zS2 ?_;clear X1 X2)
 have h1:=hx.deps
 have h2:=QH8 hx.name
 have hq:reqF G.L x.c.deps=redF G.L x.c.deps:=by rw [reqF,if_pos ha]
 have hR:=QLm G hG x.c.deps zo
 have hN:=QRU G hG x.c.author zo x.c.deps zo
 rw [hq] at hR
 simp only [grA] at hR hN
 have hrl:(redF G.L x.c.deps).length≤16:=by rw [redF];exact Nat.le_trans (Nat.le_trans (QAp _) (List.length_filter_le _ _)) h1
 refine hR.useV ?_
 (have X1:=@List.getElem?_cons_succ.{0};refine zS1 ?_;clear X1)
 refine hN.useV ?_
 (have X1:=@List.getElem?_cons_succ.{0};refine zS1 ?_;clear X1)
 refine (QSD (redF G.L x.c.deps) zo x.c.deps zo).useV ?_
 have hf:fitF G.L x.c=if redF G.L x.c.deps≠x.c.deps then 41 else if x.c.seq≠(QAG G.L x.c.author x.c.deps).1 then 42 else if x.c.start≠(QAG G.L x.c.author x.c.deps).2.1 then 43 else 0:=rfl
 by_cases e1:redF G.L x.c.deps=x.c.deps
 ·rw [if_neg (fun h=>h e1)] at hf
  (have X1:=@List.getElem?_cons_succ.{0};have X2:=e1;refine zS2 ?_;clear X1 X2)
  by_cases e2:x.c.seq=(QAG G.L x.c.author x.c.deps).1
  ·rw [if_neg (fun h=>h e2)] at hf
   refine⟨fun h=>absurd e2 h,fun _=>?_⟩
   (have X1:=@List.getElem?_cons_succ.{0};refine zS1 ?_;clear X1)
   by_cases e3:x.c.start=(QAG G.L x.c.author x.c.deps).2.1
   ·rw [if_neg (fun h=>h e3)] at hf
    refine⟨fun h=>absurd e3 h,fun _=>?_⟩
    rw [hf]
    first | exact zC | refine zS ?_
    try rfl
   ·rw [if_pos e3] at hf
    refine⟨fun _=>?_,fun h=>absurd h e3⟩
    rw [hf]
    first | exact zC | refine zS ?_
    try rfl
  ·rw [if_pos e2] at hf
   refine⟨fun _=>?_,fun h=>absurd h e2⟩
   rw [hf]
   first | exact zC | refine zS ?_
   try rfl
 ·rw [if_pos e1] at hf
  (have X1:=@List.getElem?_cons_succ.{0};have X2:=e1;refine zS2 ?_;clear X1 X2)
  rw [hf]
  try rfl
open Proofs
def Rdy (L W:List Itm) (i:Nat) (k:Int):Prop:=(k=-1∧∀y∈W.take i,allL L y.c.deps=false)∨∃(j:Nat) (x:Itm),k=j∧j<W.length∧W[j]?=some x∧allL L x.c.deps=true∧∀y∈W.take i,allL L y.c.deps=true→y.h=x.h∨hlt x.h y.h=true
def redI (L W:List Itm):Int:=match QDz L W with
 | none=>-1
 | some h=>finF W h
theorem Qd7 {W:List Itm} (hn:(QF W).Nodup) {j:Nat} {x:Itm} (h:W[j]?=some x):finF W x.h=j:=by
 have hj:=(List.getElem?_eq_some_iff.1 h).1
 have hx:=(List.getElem?_eq_some_iff.1 h).2
 have hj2:j<(QF W).length:=by rw [Qh];exact hj
 have hk:(QF W)[j]=x.h:=by simp [QF,hx]
 rw [finF,if_pos (by rw [←hk];exact List.getElem_mem hj2)]
 have hd:(QF W).drop j=x.h::(QF W).drop (j+1):=by rw [List.drop_eq_getElem_cons hj2,hk]
 have h2:=hn
 rw [←List.take_append_drop j (QF W),hd,List.nodup_append] at h2
 have:(QF W).idxOf x.h=j:=QUE (fun hm=>h2.2.2 _ hm _ (by simp) rfl) hj2 hk
 rw [this]
theorem Rdy.fin {L W:List Itm} (hn:(QF W).Nodup) {k:Int} (h:Rdy L W W.length k):k=redI L W:=by
 unfold Rdy at h
 rw [List.take_length] at h
 rw [redI]
 rcases h with ⟨rfl,h⟩ | ⟨j,x,rfl,hj,hx,h1,h2⟩
 ·cases e:QDz L W with
  | none=>rfl
  | some h'=>
   obtain⟨m,ha⟩:=QB3 e
   obtain⟨y,hy,hym,rfl⟩:=QA2 m
   rw [QBZ hn hym,h y hym] at ha
   cases ha
 ·have hxm:=List.mem_of_getElem? hx
  cases e:QDz L W with
  | none=>
   rw [QDz,List.find?_eq_none] at e
   have:=e x.h (QBr.2 (by rw [QF];exact List.mem_map_of_mem hxm))
   rw [QBZ hn hxm] at this
   exact absurd h1 this
  | some h'=>
   obtain⟨m,ha⟩:=QB3 e
   obtain⟨y,hy,hym,rfl⟩:=QA2 m
   rw [QBZ hn hym] at ha
   have hxy:x.h=y.h:=by
    rcases h2 y hym ha with q | q
    ·exact q.symm
    ·rw [QDz,List.find?_eq_some_iff_append] at e
     obtain⟨-, l1,l2,e1,e2⟩:=e
     have hr:=QCu (QF W)
     have hxs:x.h∈srt (QF W):=QBr.2 (by rw [QF];exact List.mem_map_of_mem hxm)
     rw [e1] at hr hxs
     rcases List.mem_append.1 hxs with q1 | q1
     ·have:=e2 _ q1
      rw [QBZ hn hxm,h1] at this
      cases this
     ·rcases List.mem_cons.1 q1 with q2 | q2
      ·exact q2
      ·have hlt':=List.rel_of_pairwise_cons (List.pairwise_append.1 hr).2.1 q2
       rw [QEo hlt'] at q;cases q
   show (j:Int)=finF W y.h
   rw [←hxy,Qd7 hn hx]
theorem Rdy.none {L W:List Itm} {i:Nat} (hi:i<W.length) {k:Int} (h:Rdy L W i k) (ha:allL L W[i].c.deps=false):Rdy L W (i+1) k:=by
 unfold Rdy at*
 rw [List.take_succ_eq_append_getElem hi]
 rcases h with ⟨h1,h2⟩ | ⟨j,x,h1,h2,h3,h4,h5⟩
 ·refine .inl ⟨h1,fun y hy=>?_⟩
  rcases List.mem_append.1 hy with q | q
  ·exact h2 y q
  ·rw [List.mem_singleton] at q;rw [q];exact ha
 ·refine .inr ⟨j,x,h1,h2,h3,h4,fun y hy hya=>?_⟩
  rcases List.mem_append.1 hy with q | q
  ·exact h5 y q hya
  ·rw [List.mem_singleton] at q;rw [q,ha] at hya;cases hya
theorem Rdy.first {L W:List Itm} {i:Nat} (hi:i<W.length) {k:Int} (h:Rdy L W i k) (hk:k<0) (ha:allL L W[i].c.deps=true):Rdy L W (i+1) i:=by
 unfold Rdy at*
 rw [List.take_succ_eq_append_getElem hi]
 rcases h with ⟨h1,h2⟩ | ⟨j,x,h1,h2,h3,h4,h5⟩
 ·refine .inr ⟨i,W[i],rfl,hi,List.getElem?_eq_getElem hi,ha,fun y hy hya=>?_⟩
  rcases List.mem_append.1 hy with q | q
  ·rw [h2 y q] at hya;cases hya
  ·rw [List.mem_singleton] at q;rw [q];exact .inl rfl
 ·omega
theorem Rdy.less {L W:List Itm} {i:Nat} (hi:i<W.length) {j:Nat} {x:Itm} (hx:W[j]?=some x) (h:Rdy L W i j) (ha:allL L W[i].c.deps=true) (hl:hlt W[i].h x.h=true):Rdy L W (i+1) i:=by
 unfold Rdy at*
 rw [List.take_succ_eq_append_getElem hi]
 rcases h with ⟨h1,h2⟩ | ⟨j',x',h1,h2,h3,h4,h5⟩
 ·omega
 ·have:j=j':=by omega
  subst this
  rw [hx] at h3;cases h3
  refine .inr ⟨i,W[i],rfl,hi,List.getElem?_eq_getElem hi,ha,fun y hy hya=>?_⟩
  rcases List.mem_append.1 hy with q | q
  ·rcases h5 y q hya with q1 | q1
   ·rw [q1];exact .inr hl
   ·exact .inr (QCB hl q1)
  ·rw [List.mem_singleton] at q;rw [q];exact .inl rfl
theorem Rdy.more {L W:List Itm} {i:Nat} (hi:i<W.length) {j:Nat} {x:Itm} (hx:W[j]?=some x) (h:Rdy L W i j) (hl:hlt W[i].h x.h=false):Rdy L W (i+1) j:=by
 unfold Rdy at*
 rw [List.take_succ_eq_append_getElem hi]
 rcases h with ⟨h1,h2⟩ | ⟨j',x',h1,h2,h3,h4,h5⟩
 ·omega
 ·have:j=j':=by omega
  subst this
  rw [hx] at h3;cases h3
  refine .inr ⟨j,x,rfl,h2,hx,h4,fun y hy hya=>?_⟩
  rcases List.mem_append.1 hy with q | q
  ·exact h5 y q hya
  ·rw [List.mem_singleton] at q
   rw [q]
   rcases QBh W[i].h x.h with q1 | q1 | q1
   ·exact .inl q1
   ·rw [hl] at q1;cases q1
   ·exact .inr q1
theorem Rdy.get {L W:List Itm} {i:Nat} {k:Int} (h:Rdy L W i k) (hk:¬k<0):∃(j:Nat) (x:Itm),k=j∧j<W.length∧W[j]?=some x:=by
 rcases h with ⟨h1,h2⟩ | ⟨j,x,h1,h2,h3,h4,h5⟩
 ·omega
 ·exact⟨j,x,h1,h2,h3⟩
theorem QJp (G:GrV) (hG:GrOK G):QE Tryz.prog [] 92 [grA G] (.v (.int .i64 (redI G.L G.W))):=by
 refine QE.start Tryz.func92 rfl zK rfl Tryz.ntmps92 fol zK (by simp [idfL,idf,QZ QS,QS,Qg,Qy,grA,QIa]) (by simp [idfL,idf,QZ QS,QS,Qg,Qy,grA,QIa]) ?_
 refine zz ?_
 (have X1:=@grA.eq_1;refine zS1 ?_;clear X1)
 have hn:=hG.lenW
 have hnL:=hG.lenL
 refine QD (ι:=Nat×Int) (fun q=>⟨[(1,.rop [.seq G.L.length 39 (flat itc G.L),.seq G.W.length 39 (flat itc G.W)]),(3,.v (.int .i64 q.2)),(4,.v (.int .i64 q.1))],⟨[],0,0,0⟩⟩) (fun q=>q.1≤G.W.length∧Rdy G.L G.W q.1 q.2) (fun q=>G.W.length - q.1) (0,-1) ⟨Nat.zero_le _,.inl ⟨rfl,by simp⟩⟩ ?_ ?_
 ·exact fzN 0 [] []
 rintro⟨i,k⟩ ⟨hi,hr⟩
 dsimp only at hi hr ⊢
 refine zS ?_
 refine⟨fun h1=>?_,fun h1=>?_⟩
 ·have hi1:i<G.W.length:=by omega
  have hga:=QOR G zo G.W[i].c.deps (by have:=(hG.bW (List.getElem_mem hi1)).deps;omega)
  simp only [grA] at hga
  refine zS ?_
  refine QO.useV hga rfl ?_
  cases ha:allL G.L G.W[i].c.deps
  ·refine zS ?_
   refine⟨(i+1,k),⟨hi1,hr.none hi1 ha⟩,zO,?_⟩
   exact fzN 0 [] []
  ·by_cases hk:k<0
   ·(have X1:=hk;refine zS1 ?_;clear X1)
    refine⟨(i+1,(i:Int)),⟨hi1,hr.first hi1 hk ha⟩,zO,?_⟩
    exact fzN 0 [] []
   ·obtain⟨j,x,rfl,hj,hx⟩:=hr.get hk
    have hx':G.W[j]=x:=(List.getElem?_eq_some_iff.1 hx).2
    have hL:=QMc G.W[i].h x.h
    refine zS ?_
    refine⟨fun _=>?_,fun h=>absurd h hk⟩
    (have X1:=hx';refine zS1 ?_;clear X1)
    refine QO.useV hL rfl ?_
    cases hl:hlt G.W[i].h x.h
    ·refine zS ?_
     refine⟨(i+1,(j:Int)),⟨hi1,hr.more hi1 hx hl⟩,zO,?_⟩
     exact fzN 0 [] []
    ·refine zS ?_
     refine⟨(i+1,(i:Int)),⟨hi1,hr.less hi1 hx ha hl⟩,zO,?_⟩
     exact fzN 0 [] []
 ·have hii:i=G.W.length:=by omega
  subst hii
  rw [←hr.fin hG.nd]
  exact zC
open Proofs
theorem QOn (ys cs:List AV):∀(pre:List AV),setL (pre++ys) pre.length cs=pre++setL ys 0 cs
 | []=>rfl
 | p::pre=>by rw [List.cons_append,List.length_cons,QLb,QOn ys cs pre];rfl
theorem QO9 (B:List AV):∀(A cs:List AV),cs.length=A.length→setL (A++B) 0 cs=cs++B
 | [],[],_=>rfl
 | a::A,c::cs,h=>by rw [List.cons_append,QHZ,QO9 B A cs (by simpa using h)];rfl
theorem itz_h {h:Hs}:setL ([.v (.int .u8 0),.v (.int .u8 0),.v (.int .u8 0),.v (.int .u8 0),.v (.int .u8 0),.v (.int .u8 0),.v (.int .u8 0),.v (.int .u8 0),.v (.int .u8 0),.v (.int .u8 0),.v (.int .u8 0),.v (.int .u8 0),.v (.int .u8 0),.v (.int .u8 0),.v (.int .u8 0),.v (.int .u8 0),.v (.int .u8 0),.v (.int .u8 0),.v (.int .u8 0),.v (.int .u8 0),.v (.int .u8 0),.v (.int .u8 0),.v (.int .u8 0),.v (.int .u8 0),.v (.int .u8 0),.v (.int .u8 0),.v (.int .u8 0),.v (.int .u8 0),.v (.int .u8 0),.v (.int .u8 0),.v (.int .u8 0),.v (.int .u8 0),.v (.string ByteArray.empty),.v (.int .i64 0),.v (.int .i64 0),.v (.slice none 0 0),.v (.string ByteArray.empty),.v (.slice none 0 0),.v (.slice none 0 0)]:List AV) 0 (hcell h)=hcell h++([.v (.string ByteArray.empty),.v (.int .i64 0),.v (.int .i64 0),.v (.slice none 0 0),.v (.string ByteArray.empty),.v (.slice none 0 0),.v (.slice none 0 0)]:List AV):=QO9 ([.v (.string ByteArray.empty),.v (.int .i64 0),.v (.int .i64 0),.v (.slice none 0 0),.v (.string ByteArray.empty),.v (.slice none 0 0),.v (.slice none 0 0)]:List AV) ([.v (.int .u8 0),.v (.int .u8 0),.v (.int .u8 0),.v (.int .u8 0),.v (.int .u8 0),.v (.int .u8 0),.v (.int .u8 0),.v (.int .u8 0),.v (.int .u8 0),.v (.int .u8 0),.v (.int .u8 0),.v (.int .u8 0),.v (.int .u8 0),.v (.int .u8 0),.v (.int .u8 0),.v (.int .u8 0),.v (.int .u8 0),.v (.int .u8 0),.v (.int .u8 0),.v (.int .u8 0),.v (.int .u8 0),.v (.int .u8 0),.v (.int .u8 0),.v (.int .u8 0),.v (.int .u8 0),.v (.int .u8 0),.v (.int .u8 0),.v (.int .u8 0),.v (.int .u8 0),.v (.int .u8 0),.v (.int .u8 0),.v (.int .u8 0)]:List AV) (hcell h) (by rw [QK];rfl)
theorem itz_c {h:Hs} {c:ChV}:setL (hcell h++([.v (.string ByteArray.empty),.v (.int .i64 0),.v (.int .i64 0),.v (.slice none 0 0),.v (.string ByteArray.empty),.v (.slice none 0 0),.v (.slice none 0 0)]:List AV)) 32 (ccl c)=hcell h++(ccl c++[.v (.slice none 0 0)]):=by
 have:=QOn ([.v (.string ByteArray.empty),.v (.int .i64 0),.v (.int .i64 0),.v (.slice none 0 0),.v (.string ByteArray.empty),.v (.slice none 0 0),.v (.slice none 0 0)]:List AV) (ccl c) (hcell h)
 rw [QK] at this
 rw [this];rfl
theorem itz_b {h:Hs} {c:ChV} {v z:AV}:(hcell h++(ccl c++[z])).set 38 v=hcell h++(ccl c++[v]):=by
 rw [List.set_append_right _ _ (by rw [QK];decide),QK];rfl
theorem QS6 {h:Hs} {c:ChV} {v:AV}:(hcell h++(ccl c++[v])).length=39:=by rw [List.length_append,QK];rfl
theorem Qdb {h:Hs} {c:ChV} {v:AV}:setL ([.v (.int .u8 0),.v (.int .u8 0),.v (.int .u8 0),.v (.int .u8 0),.v (.int .u8 0),.v (.int .u8 0),.v (.int .u8 0),.v (.int .u8 0),.v (.int .u8 0),.v (.int .u8 0),.v (.int .u8 0),.v (.int .u8 0),.v (.int .u8 0),.v (.int .u8 0),.v (.int .u8 0),.v (.int .u8 0),.v (.int .u8 0),.v (.int .u8 0),.v (.int .u8 0),.v (.int .u8 0),.v (.int .u8 0),.v (.int .u8 0),.v (.int .u8 0),.v (.int .u8 0),.v (.int .u8 0),.v (.int .u8 0),.v (.int .u8 0),.v (.int .u8 0),.v (.int .u8 0),.v (.int .u8 0),.v (.int .u8 0),.v (.int .u8 0),.v (.string ByteArray.empty),.v (.int .i64 0),.v (.int .i64 0),.v (.slice none 0 0),.v (.string ByteArray.empty),.v (.slice none 0 0),.v (.slice none 0 0)]:List AV) 0 (hcell h++(ccl c++[v]))=hcell h++(ccl c++[v]):=QAK (by rw [QS6];rfl)
attribute [push_cast] itz_h itz_c itz_b QS6 Qdb
theorem ccl_3 {c:ChV}:(ccl c)[3]?=some (.seq c.deps.length 32 (flat hcell c.deps)):=rfl
theorem QTy {h:Hs}:∀{W:List Itm} {j:Nat} {y:Itm},(QF W).Nodup→W[j]?=some y→y.h=h→delL W h=W.take j++W.drop (j+1)
 | [],_,_,_,hj,_=>by simp at hj
 | x::W,0,y,_,hj,e=>by
  simp only [List.getElem?_cons_zero,Option.some.injEq] at hj
  rw [delL,hj,if_pos e];rfl
 | x::W,j+1,y,hn,hj,e=>by
  rw [List.getElem?_cons_succ] at hj
  simp only [QF,List.map_cons,List.nodup_cons] at hn
  have hne:x.h≠h:=fun q=>hn.1 (by rw [q,←e];exact List.mem_map_of_mem (List.mem_of_getElem? hj))
  rw [delL,if_neg hne,QTy hn.2 hj e];rfl
theorem QXR {L W:List Itm} (h:redI L W<0):QDz L W=none:=by
 rw [redI] at h
 cases e:QDz L W with
 | none=>rfl
 | some k=>
  rw [e] at h
  obtain⟨i,y,h1,-⟩:=QFS (QB3 e).1
  simp only [h1] at h
  omega
theorem QYj {L W:List Itm} (hn:(QF W).Nodup) (h:¬redI L W<0):∃(j:Nat) (y:Itm),redI L W=j∧j<W.length∧W[j]?=some y∧QDz L W=some y.h∧getL W y.h=some y∧allL L y.c.deps=true:=by
 rw [redI] at h ⊢
 cases e:QDz L W with
 | none=>rw [e] at h;exact absurd (show (-1:Int)<0 by decide) h
 | some k=>
  obtain⟨m,ha⟩:=QB3 e
  obtain⟨i,y,h1,h2,h3,h4⟩:=QFS m
  have hyk:=(QDS h4).2
  rw [←hyk,QBZ hn (List.mem_of_getElem? h3)] at ha
  exact⟨i,y,h1,h2,h3,by rw [hyk],by rw [hyk];exact h4,ha⟩
theorem QQL {n:Nat} {G:GrV} (h:QDz G.L G.W=none):QEH n G=G:=by
 cases n with
 | zero=>rfl
 | succ n=>rw [QEH,QEM,h]
theorem QPg {n:Nat} {G:GrV} {y:Itm} (h:QDz G.L G.W=some y.h) (h2:getL G.W y.h=some y):QEH (n+1) G=QEH n ⟨QBn G.L y,delL G.W y.h⟩:=by
 rw [QEH,QEM,h]
 simp only
 rw [h2]
theorem itc_h0 {x:Itm}:(itc x).take 32=hcell x.h:=by
 have:=itc_h (x:=x) (r:=[])
 rwa [List.append_nil] at this
theorem itc_d0 {x:Itm}:List.drop 32 (itc x)=QDy x:=by
 rw [itc]
 exact List.drop_left' (QK x.h)
theorem itc_c {x:Itm}:List.take 6 (List.drop 32 (itc x))=ccl x.c:=by rw [itc_d0];rfl
theorem QZc {l:List Itm} {i:Nat} (hi:i≤l.length):List.take (i*39) (flat itc l)=flat itc (l.take i):=by
 have h:flat itc l=flat itc (l.take i)++flat itc (l.drop i):=by rw [←Q7,List.take_append_drop]
 rw [h]
 exact List.take_left' (by rw [QCf,List.length_take,Nat.min_eq_left hi])
theorem QRz {l:List Itm} {i:Nat} (hi:i≤l.length):List.drop (i*39) (flat itc l)=flat itc (l.drop i):=by
 have h:flat itc l=flat itc (l.take i)++flat itc (l.drop i):=by rw [←Q7,List.take_append_drop]
 rw [h]
 exact List.drop_left' (by rw [QCf,List.length_take,Nat.min_eq_left hi])
theorem QCH (xs:List AV):WkL xs xs:=by
 have:=QUi (.agg xs)
 rwa [QZ3] at this
theorem QKO (G:GrV) (hG:GrOK G) (b:List UInt8) (hb:b.length≤1048576):QE Tryz.prog [] 36 [grA G,.seq b.length 1 (flat QC b)] (.tup [grA (addF G b).1,.agg (hcell (addF G b).2.1),.v (.int .i64 (addF G b).2.2)]):=by
 refine QE.startW Tryz.func36 rfl zK rfl Tryz.ntmps36 fol zK (by simp [idfL,idf,QZ QS,QS,Qg,Qy,grA,QIa,Qg,QS]) (by simp [idfL,idf,QZ QS,QS,Qg,Qy,grA,QIa,Qg,QS]) ?_
 refine zz ?_
 (have X1:=@grA.eq_1;refine zS1 ?_;clear X1)
 have hnL:=hG.lenL
 have hnW:=hG.lenW
 refine (QbB b hb).useV ?_
 obtain⟨R,hR⟩:∃R,R=addF G b:=⟨_,rfl⟩
 rw [←hR]
 rw [addF] at hR
 have hI:=QN8 (b:=b)
 have hE:=QHk b
 obtain⟨q,hq⟩:∃q,q=QAd b:=⟨_,rfl⟩
 rw [←hq] at hR hI hE ⊢
 obtain⟨c,e⟩:=q
 simp only at hR hI hE
 by_cases he:e=0
 ·subst he
  rw [if_neg (fun h=>h rfl)] at hR
  have hIt:=hI rfl
  have hB:=hIt.bnd
  obtain⟨x,hx⟩:∃x,x=mkI b:=⟨_,rfl⟩
  have hic:x.c=c:=by rw [hx,mkI,←hq]
  have hih:x.h=shaH b:=by rw [hx];rfl
  have hib:x.b=b:=by rw [hx];rfl
  rw [←hx] at hR hIt hB
  subst hic
  have hcc:cclE (x.c,0)=ccl x.c:=if_pos rfl
  have hlen:=hB.len
  have hdp:=hB.deps
  rw [hib] at hlen
  have hS:=rSum_c b zo
  rw [←QLe,←hih] at hS
  rw [hcc]
  have hzh:∀l:List AV,l.length=32→setL l 0 (hcell x.h)=hcell x.h:=fun l h=>QAK (by rw [h,QK])
  (have X1:=@List.getElem?_cons_succ.{0};refine zS1 ?_;clear X1)
  refine QO.useV hS rfl ?_
  refine zS ?_
  have hzz:hcell QBl=[.v (.int .u8 0),.v (.int .u8 0),.v (.int .u8 0),.v (.int .u8 0),.v (.int .u8 0),.v (.int .u8 0),.v (.int .u8 0),.v (.int .u8 0),.v (.int .u8 0),.v (.int .u8 0),.v (.int .u8 0),.v (.int .u8 0),.v (.int .u8 0),.v (.int .u8 0),.v (.int .u8 0),.v (.int .u8 0),.v (.int .u8 0),.v (.int .u8 0),.v (.int .u8 0),.v (.int .u8 0),.v (.int .u8 0),.v (.int .u8 0),.v (.int .u8 0),.v (.int .u8 0),.v (.int .u8 0),.v (.int .u8 0),.v (.int .u8 0),.v (.int .u8 0),.v (.int .u8 0),.v (.int .u8 0),.v (.int .u8 0),.v (.int .u8 0)]:=rfl
  have hbI:∀y:List UInt8,flat QC y=flat QC y:=fun _=>rfl
  have hitx:hcell x.h++(ccl x.c++[AV.seq b.length 1 (flat QC b)])=itc x:=by rw [itc,QDy,hib]
  refine (QOF G.L zo x.h).useV ?_
  by_cases m1:x.h∈QF G.L
  ·obtain⟨i1,y1,f1,-⟩:=QFS m1
   rw [if_pos (.inl (by rw [←hih];exact m1)),←hih] at hR
   rw [hR,f1]
   first | exact zC | refine zS ?_
   exact⟨QCH _,rfl⟩
  ·rw [QGF m1]
   refine zS ?_
   refine⟨fun _=>?_,fun h=>absurd h zD⟩
   refine zS ?_
   refine (QOF G.W zo x.h).useV ?_
   by_cases m2:x.h∈QF G.W
   ·obtain⟨i2,y2,f2,-⟩:=QFS m2
    rw [if_pos (.inr (by rw [←hih];exact m2)),←hih] at hR
    rw [hR,f2]
    first | exact zC | refine zS ?_
    exact⟨QCH _,rfl⟩
   ·rw [QGF m2]
    rw [if_neg (by rw [←hih];exact fun h=>h.elim m1 m2),←hih] at hR
    have hga:=QOR G zo x.c.deps zo
    simp only [grA] at hga
    (have X1:=@ccl_3;refine zS1 ?_;clear X1)
    refine⟨fun h=>absurd h zD,fun _=>?_⟩
    (have X1:=@ccl_3;refine zS1 ?_;clear X1)
    refine hga.useV ?_
    by_cases ha:allL G.L x.c.deps=true
    ·rw [if_neg (by rw [ha];decide)] at hR
     (have X1:=ha;refine zS1 ?_;clear X1)
     refine⟨fun h1=>?_,fun h1=>?_⟩
     ·rw [if_pos zo] at hR
      rw [hR]
      first | exact zC | refine zS ?_
      exact⟨QCH _,rfl⟩
     ·rw [if_neg zo] at hR
      have hxB:ItB x:=hB
      have hf:=QRb G hG x hB ha
      simp only [grA] at hf
      refine zS ?_
      refine hf.useV ?_
      by_cases hft:fitF G.L x.c=0
      ·rw [if_neg (fun k=>k hft)] at hR
       (have X1:=hft;refine zS1 ?_;clear X1)
       refine Qr.start Tryz.func90 rfl zK rfl Tryz.ntmps90 fol zK ?_
       refine zZ ?_
       have hfl:flat itc G.L++itc x=flat itc (G.L++[x]):=by rw [Q7];simp [flat]
       have hG1:GrOK ⟨G.L++[x],G.W⟩:=hG.put m1 m2 ha hIt zo
       have hrd:=QJp ⟨G.L++[x],G.W⟩ hG1
       simp only [grA] at hrd
       refine hrd.use (ids:=[1315,411]) (by have X1:=hitx;have X2:=hfl;exact zCN2) (.inl rfl) ?_
       refine zS ?_
       generalize hG1':(⟨G.L++[x],G.W⟩:GrV)=G1 at*
       refine QD (ι:=GrV) (fun Q=>⟨[(2,.ptr 0 0),(4,.ptr 1 0),(5,.ptr 2 0),(9,.rop (itc x)),(10,.v (.int .i64 (redI Q.L Q.W)))],⟨[(0,.cells 29 [.seq Q.L.length 39 (flat itc Q.L),.seq Q.W.length 39 (flat itc Q.W)] false),(1,.cells 29 [.v (.slice none 0 0),.v (.slice none 0 0)] false),(2,.cells 47 (hcell QBl) false)],3,3,0⟩⟩)
        (fun Q=>GrOK Q∧QEH (Q.W.length+1) Q=R.1) (fun Q=>Q.W.length) G1 ⟨hG1,by rw [hR,←hG1']⟩ ?_ ?_
       ·(have X1:=hitx;have X2:=hfl;refine fzNM 0 [(0,2),(1,4),(2,5)] [0] ?_ ?_<;>first | exact zC2 | refine zS2 ?_)
        ·subst hG1';rfl
        ·subst hG1'
         exact⟨⟨by rw [List.length_append];rfl,rfl⟩,rfl⟩
       rintro Q ⟨hQ,hd⟩
       have hQL:=hQ.lenL
       have hQW:=hQ.lenW
       refine zS ?_
       refine⟨fun k1=>?_,fun k1=>?_⟩
       ·obtain⟨j,y,f1,hj,hjy,hrdy,hgy,hay⟩:=QYj (L:=Q.L) hQ.nd zo
        have hjy':Q.W[j]=y:=(List.getElem?_eq_some_iff.1 hjy).2
        have hyW:=List.mem_of_getElem? hjy
        have hyB:=hQ.bW hyW
        have hdl:=QTy hQ.nd hjy rfl
        have hym:y.h∈QF Q.W:=by rw [QF];exact List.mem_map_of_mem hyW
        have hQd:=hQ.del hym
        rw [QPg hrdy hgy] at hd
        obtain⟨hQ2,hQ3⟩:=QJc (G':=⟨QBn Q.L y,delL Q.W y.h⟩) hQ (by rw [QEM,hrdy];simp only;rw [hgy])
        have hQ3':(delL Q.W y.h).length+1=Q.W.length:=hQ3
        rw [←hQ3'] at hd
        rw [f1]
        have e1:((j:Int)+1).toNat=j+1:=by omega
        have hlen2:j+(Q.W.length - (j+1))=(delL Q.W y.h).length:=by rw [hdl,List.length_append,List.length_take,List.length_drop];omega
        have hcut:List.take (j*39) (flat itc Q.W)++List.take ((Q.W.length - (j+1))*39) (List.drop ((j+1)*39) (flat itc Q.W))=flat itc (delL Q.W y.h):=by
         rw [hdl,Q7,QZc zo,QRz zo]
         congr 1
         exact List.take_of_length_le (by rw [QCf,List.length_drop];exact Nat.le_refl _)
        (have X1:=hjy';have X2:=e1;have X3:=hcut;have X4:=hlen2;have X5:=@itz_set;have X6:=@itc_take;refine zS6 ?_;clear X1 X2 X3 X4 X5 X6)
        have hf2:=QRb ⟨Q.L,delL Q.W y.h⟩ hQd y hyB hay
        simp only [grA] at hf2
        refine⟨fun k2=>?_,fun k2=>?_⟩
        ·(have X1:=e1;have X2:=hcut;have X3:=hlen2;have X4:=@itz_set;have X5:=@itc_take;have X6:=@itc_c;refine zS6 ?_;clear X1 X2 X3 X4 X5 X6)
         refine hf2.use (ids:=[622]) zCN (.inl rfl) ?_
         by_cases hfy:fitF Q.L y.c=0
         ·have hk:QBn Q.L y=Q.L++[y]:=by rw [QBn,if_pos ⟨by omega,hfy⟩]
          rw [hk] at hQ2 hd
          (have X1:=hfy;have X2:=@itc_take;refine zS2 ?_;clear X1 X2)
          refine (QaY Q.L zo y).useV ?_
          refine zS ?_
          have hrd2:=QJp ⟨Q.L++[y],delL Q.W y.h⟩ hQ2
          simp only [grA] at hrd2
          refine hrd2.use (ids:=[622]) zCN (.inl rfl) ?_
          refine zS ?_
          refine⟨⟨Q.L++[y],delL Q.W y.h⟩,⟨hQ2,hd⟩,zO,?_⟩
          (have X1:=@List.length_append.{0};have X2:=@List.length_cons.{0};have X3:=@List.length_nil.{0};exact fzN3 0 [(0,0),(1,1),(2,2)] [0])
         ·have hk:QBn Q.L y=Q.L:=by rw [QBn,if_neg (fun q=>hfy q.2)]
          rw [hk] at hQ2 hd
          refine zS ?_
          refine⟨fun k=>absurd zo hfy,fun _=>?_⟩
          refine zS ?_
          have hrd2:=QJp ⟨Q.L,delL Q.W y.h⟩ hQ2
          simp only [grA] at hrd2
          refine hrd2.use (ids:=[622]) zCN (.inl rfl) ?_
          refine zS ?_
          refine⟨⟨Q.L,delL Q.W y.h⟩,⟨hQ2,hd⟩,zO,?_⟩
          (have X1:=@List.length_append.{0};have X2:=@List.length_cons.{0};have X3:=@List.length_nil.{0};exact fzN3 0 [(0,0),(1,1),(2,2)] [0])
        ·have hk:QBn Q.L y=Q.L:=by rw [QBn,if_neg (fun q=>k2 (by have:=q.1;omega))]
         rw [hk] at hQ2 hd
         (have X1:=e1;have X2:=hcut;have X3:=hlen2;have X4:=@itz_set;have X5:=@itc_take;refine zS5 ?_;clear X1 X2 X3 X4 X5)
         have hrd2:=QJp ⟨Q.L,delL Q.W y.h⟩ hQ2
         simp only [grA] at hrd2
         refine hrd2.use (ids:=[622]) zCN (.inl rfl) ?_
         refine zS ?_
         refine⟨⟨Q.L,delL Q.W y.h⟩,⟨hQ2,hd⟩,zO,?_⟩
         (have X1:=@List.length_append.{0};have X2:=@List.length_cons.{0};have X3:=@List.length_nil.{0};exact fzN3 0 [(0,0),(1,1),(2,2)] [0])
       ·have hdn:=QQL (n:=Q.W.length+1) (QXR (L:=Q.L) (W:=Q.W) zo)
        rw [hdn] at hd
        have hRQ:R=(Q,x.h,0):=Prod.ext hd.symm (by rw [hR])
        rw [hRQ]
        (have X1:=@itc_h0;first | exact zC1 | refine zS1 ?_)
        exact QCH _
      ·rw [if_pos hft] at hR
       refine zS ?_
       refine⟨fun _=>?_,fun k=>absurd zo hft⟩
       rw [hR]
       first | exact zC | refine zS ?_
       exact QCH _
    ·rw [Bool.not_eq_true] at ha
     rw [if_pos ha] at hR
     (have X1:=ha;refine zS1 ?_;clear X1)
     refine⟨fun h1=>?_,fun h1=>?_⟩
     ·rw [if_pos zo] at hR
      rw [hR]
      first | exact zC | refine zS ?_
      exact⟨QCH _,rfl⟩
     ·rw [if_neg zo] at hR
      rw [hR]
      refine zS ?_
      refine Qr.letgo (a:=[_]) (c:=[]) (y:=.agg (itc x)) (ids:=[411]) (u:=[(411,.dead)]) (by have X1:=hitx;exact zCN1) rfl ?_
      refine (QaY G.W zo x).useV ?_
      first | exact zC | refine zS ?_
      exact QCH _
 ·have h4:e=4:=hE.resolve_left he
  subst h4
  have hcc:cclE (c,4)=[.v (.string ⟨#[]⟩),.v (.int .i64 0),.v (.int .i64 0),.v (.slice none 0 0),.v (.string ⟨#[]⟩),.v (.slice none 0 0)]:=if_neg (show ¬((4:Nat)=0) by decide)
  rw [if_pos zD] at hR
  rw [hcc,hR]
  (have X1:=@List.getElem?_cons_succ.{0};refine zS1 ?_;clear X1)
  refine⟨fun _=>?_,fun h=>absurd h zD⟩
  first | exact zC | refine zS ?_
  exact⟨QCH _,rfl⟩
open Proofs
theorem itc_b38 {x:Itm} {r:List AV}:List.drop 38 (itc x++r)=.seq x.b.length 1 (flat QC x.b)::r:=by
 rw [itc,QDy,←List.append_assoc,List.append_assoc]
 exact List.drop_left' (by rw [List.length_append,QK];rfl)
end Go.AW
