/- A part of the proof: D54 D55 D56 D57 D58. -/
import Derived.Test.YtpcbnjbpdooejaaGreatDoorPae
import Derived.Test.YtpcbnjbpdooejaaGreatDoorPaw
set_option linter.unusedSimpArgs false
set_option linter.unusedVariables false
set_option maxRecDepth 100000
set_option maxHeartbeats 8000000
namespace Go.AW
open Proofs
def itc (x:Itm):List AV:=hcell x.h++QDy x
theorem QCi (x:Itm):(itc x).length=39:=by rw [itc,List.length_append,QK,QDM]
theorem QN1 (x:Itm):idfL (itc x)=true:=by rw [itc,Qy,QS,QDW];rfl
theorem QIa {l:List Itm}:idfL (flat itc l)=true:=QZ QN1 l
theorem QCf {l:List Itm}:(flat itc l).length=l.length*39:=QW QCi _
theorem QYg (l:List Itm) (i:Nat) (hi:i<l.length):(flat itc l).drop (i*39)=itc l[i]++flat itc (l.drop (i+1)):=QAh QCi l i hi
theorem itc_h {x:Itm} {r:List AV}:(itc x++r).take 32=hcell x.h:=by rw [itc,List.append_assoc,QDv]
attribute [push_cast] QN1 QIa QCf QCi QYg itc_h
def grA (G:GrV):AV:=.agg [.seq G.L.length 39 (flat itc G.L),.seq G.W.length 39 (flat itc G.W)]
theorem Qed {G:GrV}:idf (grA G)=true:=by simp [grA,idf,idfL,QIa]
def finF (L:List Itm) (h:Hs):Int:=if h∈QF L then ((QF L).idxOf h:Int) else -1
theorem QOW {h:Hs}:∀{L:List Itm},h∈QF L→L[(QF L).idxOf h]?=getL L h
 | [],m=>by simp [QF] at m
 | x::L,m=>by
  rw [getL]
  simp only [QF,List.map_cons,List.mem_cons] at m ⊢
  by_cases e:x.h=h
  ·rw [if_pos e,List.idxOf_cons,e];simp
  ·rw [if_neg e,List.idxOf_cons,show (x.h==h)=false from beq_eq_false_iff_ne.2 e]
   exact QOW (m.resolve_left fun q=>e q.symm)
theorem QFS {L:List Itm} {h:Hs} (m:h∈QF L):∃i x,finF L h=(i:Nat)∧i<L.length∧L[i]?=some x∧getL L h=some x:=by
 have hi2:=List.idxOf_lt_length_of_mem m
 rw [Qh] at hi2
 obtain⟨x,hx,hxm,hxh⟩:=QA2 m
 exact⟨(QF L).idxOf h,x,if_pos m,hi2,by rw [QOW m,hx],hx⟩
theorem QGF {L:List Itm} {h:Hs} (m:h∉QF L):finF L h=-1:=if_neg m
theorem QOF (L:List Itm) (hl:L.length≤65536) (h:Hs):QE Tryz.prog [] 88 [.seq L.length 39 (flat itc L),.agg (hcell h)] (.v (.int .i64 (finF L h))):=by
 refine QE.start Tryz.func88 rfl zK rfl Tryz.ntmps88 fol zK (by simp [idfL,idf,QZ QS,QS,Qg,Qy,QIa]) (by simp [idfL,idf,QZ QS,QS,Qg,Qy,QIa]) ?_
 refine zZ ?_
 refine QD (ι:=Nat) (fun i=>⟨[(0,.seq L.length 39 (flat itc L)),(3,.rop (hcell h)),(5,.v (.int .i64 i))],⟨[],0,0,0⟩⟩) (fun i=>i≤L.length∧h∉(QF L).take i) (fun i=>L.length - i) 0 ⟨Nat.zero_le _,by simp⟩ ?_ ?_
 ·exact fzN 0 [] []
 rintro i ⟨hi,hall⟩
 refine zS ?_
 refine⟨fun h1=>?_,fun h1=>?_⟩
 ·have hi1:i<L.length:=by omega
  have hi2:i<(QF L).length:=by rw [Qh];exact hi1
  have hk:(QF L)[i]=L[i].h:=by simp [QF]
  refine zS ?_
  refine⟨fun h2=>?_,fun h2=>?_⟩
  ·have h3:(QF L)[i]=h:=by rw [hk];first | exact h2 | exact h2.symm
   refine zS ?_
   rw [finF,if_pos (show h∈QF L from by rw [←h3];exact List.getElem_mem hi2),QUE hall hi2 h3]
  ·refine zS ?_
   refine⟨i+1,⟨by omega,fun hm=>?_⟩,zO,?_⟩
   ·rcases (QCo hi2).1 hm with e | e
    ·exact hall e
    ·rw [hk] at e;first | exact h2 e.symm | exact h2 e
   exact fzN 0 [] []
 ·refine zS ?_
  rw [List.take_of_length_le (by rw [Qh];omega)] at hall
  rw [QGF hall]
theorem Qf2 (G:GrV) (hl:G.L.length≤65536) (h:Hs):QE Tryz.prog [] 49 [grA G,.agg (hcell h)] (.v (.bool (hasL G.L h))):=by
 refine QE.start Tryz.func49 rfl zK rfl Tryz.ntmps49 fol zK (by simp [idfL,idf,QZ QS,QS,Qg,Qy,grA,QIa]) (by simp [idfL,idf,QZ QS,QS,Qg,Qy,grA,QIa]) ?_
 refine zz ?_
 (have X1:=@grA.eq_1;refine zS1 ?_;clear X1)
 refine (QOF G.L hl h).useV ?_
 refine zS ?_
 by_cases m:h∈QF G.L
 ·obtain⟨i,x,h1,-⟩:=QFS m
  rw [h1,hasL,decide_eq_true m,decide_eq_true zo]
 ·rw [QGF m,hasL,decide_eq_false m];rfl
theorem QS7 {L:List Itm} {l:List Hs} {i:Nat} (hi:i<l.length):allL L (l.take (i+1))=(allL L (l.take i)&&hasL L l[i]):=by
 rw [List.take_succ_eq_append_getElem hi,allL,allL,List.all_append];simp
theorem QOR (G:GrV) (hl:G.L.length≤65536) (l:List Hs) (hb:l.length≤1048576):QE Tryz.prog [] 89 [grA G,.seq l.length 32 (flat hcell l)] (.v (.bool (allL G.L l))):=by
 refine QE.start Tryz.func89 rfl zK rfl Tryz.ntmps89 fol zK (by simp [idfL,idf,QZ QS,QS,Qg,Qy,grA,QIa]) (by simp [idfL,idf,QZ QS,QS,Qg,Qy,grA,QIa]) ?_
 refine zz ?_
 (have X1:=@grA.eq_1;refine zS1 ?_;clear X1)
 refine QD (ι:=Nat) (fun i=>⟨[(1,.seq l.length 32 (flat hcell l)),(2,.rop [.seq G.L.length 39 (flat itc G.L),.seq G.W.length 39 (flat itc G.W)]),(5,.v (.int .i64 i))],⟨[],0,0,0⟩⟩) (fun i=>i≤l.length∧allL G.L (l.take i)=true) (fun i=>l.length - i) 0 ⟨Nat.zero_le _,rfl⟩ ?_ ?_
 ·exact fzN 0 [] []
 rintro i ⟨hi,hall⟩
 have hg:=Qf2 G hl
 simp only [grA] at hg
 refine zS ?_
 refine⟨fun h1=>?_,fun h1=>?_⟩
 ·have hi1:i<l.length:=by omega
  refine zS ?_
  refine QO.useV (hg _) rfl ?_
  cases hh:hasL G.L l[i]
  ·have hf:allL G.L l=false:=by
    rw [←Bool.not_eq_true]
    intro hh2
    rw [Q2] at hh2
    have:=hh2 _ (List.getElem_mem hi1)
    rw [hasL,decide_eq_false_iff_not] at hh
    exact hh this
   (have X1:=hf;exact zC1)
  ·refine zS ?_
   refine⟨i+1,⟨by omega,by rw [QS7 hi1,hall,hh];rfl⟩,zO,?_⟩
   exact fzN 0 [] []
 ·rw [List.take_of_length_le zo] at hall
  (have X1:=hall;exact zC1)
theorem itz_set {x:Itm}:setL ([.v (.int .u8 0),.v (.int .u8 0),.v (.int .u8 0),.v (.int .u8 0),.v (.int .u8 0),.v (.int .u8 0),.v (.int .u8 0),.v (.int .u8 0),.v (.int .u8 0),.v (.int .u8 0),.v (.int .u8 0),.v (.int .u8 0),.v (.int .u8 0),.v (.int .u8 0),.v (.int .u8 0),.v (.int .u8 0),.v (.int .u8 0),.v (.int .u8 0),.v (.int .u8 0),.v (.int .u8 0),.v (.int .u8 0),.v (.int .u8 0),.v (.int .u8 0),.v (.int .u8 0),.v (.int .u8 0),.v (.int .u8 0),.v (.int .u8 0),.v (.int .u8 0),.v (.int .u8 0),.v (.int .u8 0),.v (.int .u8 0),.v (.int .u8 0),.v (.string ByteArray.empty),.v (.int .i64 0),.v (.int .i64 0),.v (.slice none 0 0),.v (.string ByteArray.empty),.v (.slice none 0 0),.v (.slice none 0 0)]:List AV) 0 (itc x)=itc x:=QAK (by rw [QCi];rfl)
theorem itc_take {x:Itm}:(itc x).take 39=itc x:=List.take_of_length_le (by rw [QCi];exact Nat.le_refl _)
theorem QaY (L:List Itm) (hl:L.length≤65536) (x:Itm):QE Tryz.prog [] 90 [.seq L.length 39 (flat itc L),.agg (itc x)] (.seq (L++[x]).length 39 (flat itc (L++[x]))):=by
 refine QE.start Tryz.func90 rfl zK rfl Tryz.ntmps90 fol zK (by simp [idfL,idf,QZ QS,QS,Qg,Qy,QIa,QN1]) (by simp [idfL,idf,QZ QS,QS,Qg,Qy,QIa,QN1]) ?_
 refine zZ ?_
 have hfl:flat itc L++itc x=flat itc (L++[x]):=by rw [Q7];simp [flat]
 have htk:List.take ((L.length+1)*39) (flat itc (L++[x]))=flat itc (L++[x]):=List.take_of_length_le (by rw [QCf,List.length_append];exact Nat.le_refl _)
 (have X1:=@itz_set;have X2:=@itc_take;have X3:=hfl;have X4:=htk;exact zC4)
open Proofs
theorem itc_d {x:Itm} {r:List AV}:List.drop 32 (itc x++r)=[AV.v (.string x.c.author),.v (.int .i64 x.c.seq),.v (.int .i64 x.c.start),.seq x.c.deps.length 32 (flat hcell x.c.deps),.v (.string x.c.note),.seq x.c.ops.length 5 (flat QX x.c.ops),.seq x.b.length 1 (flat QC x.b)]++r:=by
 rw [itc,List.append_assoc]
 exact List.drop_left' (QK x.h)
attribute [push_cast] itc_d
theorem QMI (G:GrV) (hG:GrOK G) (l:List Hs) (hl:l.length≤65536):QE Tryz.prog [] 38 [grA G,.seq l.length 32 (flat hcell l)] (.tup [.seq (pasF G.L l).length 32 (flat hcell (pasF G.L l)),.v (.int .i64 (knoE G.L l))]):=by
 refine QE.startW Tryz.func38 rfl zK rfl Tryz.ntmps38 fol zK (by simp [idfL,idf,QZ QS,QS,Qg,Qy,grA,QIa,QA9]) (by simp [idfL,idf,QZ QS,QS,Qg,Qy,grA,QIa,QA9]) ?_
 refine zz ?_
 (have X1:=@grA.eq_1;refine zS1 ?_;clear X1)
 have hn:=hG.lenL
 have hga:=QOR G zo l zo
 simp only [grA] at hga
 refine hga.useV ?_
 by_cases ha:allL G.L l=true
 ·rw [pasF,knoE,if_pos ha,if_pos ha]
  (have X1:=ha;refine zS1 ?_;clear X1)
  refine (QSJ l zo).useV ?_
  refine zS ?_
  refine QD (ι:=Nat×List Hs) (fun q=>⟨[(2,.rop [.seq G.L.length 39 (flat itc G.L),.seq G.W.length 39 (flat itc G.W)]),(6,.seq q.2.length 32 (flat hcell q.2)),(7,.v (.int .i64 ((q.1:Int) - 1)))],⟨[],0,0,0⟩⟩)
   (fun q=>q.1≤G.L.length∧QKM (G.L.take q.1) q.2=Q0 G.L l∧q.2.length+16*q.1≤131072) (fun q=>q.1) (G.L.length,srt l) ⟨Nat.le_refl _,by rw [List.take_length];rfl,by have:=QAp l;show (srt l).length+16*G.L.length≤_;omega⟩ ?_ ?_
  ·exact fzN 0 [] []
  rintro⟨k,acc⟩ ⟨hk,hp,hb⟩
  dsimp only at hk hp hb ⊢
  refine zS ?_
  refine⟨fun h1=>?_,fun h1=>?_⟩
  ·obtain⟨j,rfl⟩:∃j,k=j+1:=⟨k - 1,by omega⟩
   have hj:j<G.L.length:=by omega
   have e1:((j+1:Nat):Int) - 1=j:=by omega
   have hbd:=(hG.bL (List.getElem_mem hj)).deps
   rw [List.take_succ_eq_append_getElem hj,QHz] at hp
   rw [e1]
   refine zS ?_
   refine (QaW acc zo G.L[j].h).useV ?_
   by_cases hm:G.L[j].h∈acc
   ·(have X1:=hm;refine zS1 ?_;clear X1)
    refine (QXB acc G.L[j].c.deps zo zo).useV ?_
    refine zS ?_
    rw [QFi,if_pos hm] at hp
    have hul:=QNx acc G.L[j].c.deps
    refine⟨(j,uniH acc G.L[j].c.deps),⟨zO,hp,zO⟩,zO,?_⟩
    exact fzN 0 [] []
   ·(have X1:=hm;refine zS1 ?_;clear X1)
    rw [QFi,if_neg hm] at hp
    refine⟨(j,acc),⟨zO,hp,zO⟩,zO,?_⟩
    exact fzN 0 [] []
  ·have hk0:k=0:=by omega
   subst hk0
   have hp':acc=Q0 G.L l:=hp
   subst hp'
   exact zC
 ·rw [pasF,knoE,if_neg ha,if_neg ha]
  rw [Bool.not_eq_true] at ha
  (have X1:=ha;first | exact zC1 | refine zS1 ?_)
  try rfl
open Proofs
theorem QTF {L:List Itm} {l:List Hs} {h:Hs} {k:Nat} (hk:k<l.length):undB L (l.take (k+1)) h=(undB L (l.take k) h||(decide (l[k]≠h)&&decide (h∈Q0 L [l[k]]))):=by
 rw [List.take_succ_eq_append_getElem hk,undB,undB,List.any_append];simp
theorem QJx {L:List Itm} (hL:OrdL L) {l:List Hs} (hl:allL L l=true):(Q0 L l).length≤L.length:=by
 rw [←Qh]
 exact (QAm L l).nodup.length_le_of_subset fun x hx=>QA3 hL hl x hx
theorem QLm (G:GrV) (hG:GrOK G) (l:List Hs) (hl:l.length≤65536):QE Tryz.prog [] 41 [grA G,.seq l.length 32 (flat hcell l)] (.tup [.seq (reqF G.L l).length 32 (flat hcell (reqF G.L l)),.v (.int .i64 (knoE G.L l))]):=by
 refine QE.startW Tryz.func41 rfl zK rfl Tryz.ntmps41 fol zK (by simp [idfL,idf,QZ QS,QS,Qg,Qy,grA,QIa,QA9]) (by simp [idfL,idf,QZ QS,QS,Qg,Qy,grA,QIa,QA9]) ?_
 refine zz ?_
 (have X1:=@grA.eq_1;refine zS1 ?_;clear X1)
 have hn:=hG.lenL
 have hga:=QOR G zo l zo
 simp only [grA] at hga
 refine hga.useV ?_
 by_cases ha:allL G.L l=true
 ·rw [reqF,knoE,if_pos ha,if_pos ha]
  (have X1:=ha;refine zS1 ?_;clear X1)
  refine QD (ι:=Nat) (fun i=>⟨[(1,.seq l.length 32 (flat hcell l)),(2,.rop [.seq G.L.length 39 (flat itc G.L),.seq G.W.length 39 (flat itc G.W)]),(6,.seq (srt ((l.take i).filter fun h=>!undB G.L l h)).length 32 (flat hcell (srt ((l.take i).filter fun h=>!undB G.L l h)))),(7,.v (.int .i64 i))],⟨[],0,0,0⟩⟩) (fun i=>i≤l.length) (fun i=>l.length - i) 0 (Nat.zero_le _) ?_ ?_
  ·(have X1:=@List.take_zero.{0};have X2:=@List.filter_nil.{0};have X3:=@srt_nil;have X4:=@QOx;exact fzN4 0 [] [])
  rintro i hi
  refine zS ?_
  refine⟨fun h1=>?_,fun h1=>?_⟩
  ·have hi1:i<l.length:=by omega
   obtain⟨out,hout⟩:∃out,out=srt ((l.take i).filter fun h=>!undB G.L l h):=⟨_,rfl⟩
   have hle:out.length≤1048576:=by rw [hout];exact Nat.le_trans QV3 (by simp;omega)
   have hnx:=QUC (p:=fun h=>!undB G.L l h) hi1
   rw [←hout] at hnx ⊢
   refine zS ?_
   refine QD (ι:=Nat) (fun k=>⟨[(1,.seq l.length 32 (flat hcell l)),(2,.rop [.seq G.L.length 39 (flat itc G.L),.seq G.W.length 39 (flat itc G.W)]),(6,.seq out.length 32 (flat hcell out)),(7,.v (.int .i64 i)),(8,.v (.bool (undB G.L (l.take k) l[i]))),(9,.v (.int .i64 k))],⟨[],0,0,0⟩⟩) (fun k=>k≤l.length) (fun k=>l.length - k) 0 (Nat.zero_le _) ?_ ?_
   ·refine fzNM 0 [] [] ?_ ?_<;>first | exact zC | refine zS ?_
    rfl
   rintro k hk
   refine zS ?_
   refine⟨fun h2=>?_,fun h2=>?_⟩
   ·have hk1:k<l.length:=by omega
    have hlk:l[k]∈QF G.L:=Q2.1 ha _ (List.getElem_mem hk1)
    have hP:=QMI G hG [l[k]] (by show 1≤65536;omega)
    rw [pasF,knoE,if_pos (QJT hlk),if_pos (QJT hlk)] at hP
    simp only [grA] at hP
    have e1:flat hcell [l[k]]=hcell l[k]:=by simp [flat]
    rw [e1] at hP
    simp only [List.length_cons,List.length_nil,Nat.zero_add] at hP
    have hnu:=QTF (L:=G.L) (h:=l[i]) hk1
    have hpl:(Q0 G.L [l[k]]).length≤1048576:=by
     have:=QJx hG.ord (QJT hlk)
     omega
    refine zS ?_
    refine QO.useF (ids:=[101]) hP rfl zCN rfl rfl rfl ?_
    have hH:=QaW (Q0 G.L [l[k]]) hpl l[i]
    cases hu:undB G.L (l.take k) l[i]
    ·rw [hu,Bool.false_or] at hnu
     refine zS ?_
     refine⟨fun h3=>?_,fun h3=>?_⟩
     ·rw [decide_eq_true h3,Bool.true_and] at hnu
      refine zS ?_
      refine QO.useV hH rfl ?_
      refine zS ?_
      refine⟨k+1,by omega,zO,?_⟩
      simp only [hnu]
      exact fzN 0 [] []
     ·rw [decide_eq_false (fun q=>q h3),Bool.false_and] at hnu
      refine zS ?_
      refine⟨k+1,by omega,zO,?_⟩
      simp only [hnu]
      exact fzN 0 [] []
    ·rw [hu,Bool.true_or] at hnu
     refine zS ?_
     refine⟨k+1,by omega,zO,?_⟩
     simp only [hnu]
     exact fzN 0 [] []
   ·have hkk:k=l.length:=by omega
    subst hkk
    rw [List.take_length]
    have hnx':srt ((l.take (i+1)).filter fun h=>!undB G.L l h)=if undB G.L l l[i]=true then out else insH l[i] out:=by
     rw [hnx];cases undB G.L l l[i]<;>rfl
    cases hu:undB G.L l l[i]
    ·rw [hu,if_neg zD] at hnx'
     refine zS ?_
     refine (QMp _ hle l[i]).useV ?_
     refine zS ?_
     refine⟨i+1,by omega,zO,?_⟩
     simp only [hnx']
     exact fzN 0 [] []
    ·rw [hu,if_pos rfl] at hnx'
     refine zS ?_
     refine⟨i+1,by omega,zO,?_⟩
     simp only [hnx']
     exact fzN 0 [] []
  ·have hii:i=l.length:=by omega
   subst hii
   rw [List.take_length]
   first | exact zC | refine zS ?_
   rfl
 ·rw [reqF,knoE,if_neg ha,if_neg ha]
  rw [Bool.not_eq_true] at ha
  (have X1:=ha;first | exact zC1 | refine zS1 ?_)
  try rfl
open Proofs
theorem QRU (G:GrV) (hG:GrOK G) (a:ByteArray) (hsz:a.size≤1048576) (l:List Hs) (hl:l.length≤65536):QE Tryz.prog [] 43 [grA G,.v (.string a),.seq l.length 32 (flat hcell l)] (.tup [.v (.int .i64 (QAG G.L a l).1),.v (.int .i64 (QAG G.L a l).2.1),.v (.int .i64 (QAG G.L a l).2.2)]):=by
 refine QE.start Tryz.func43 rfl zK rfl Tryz.ntmps43 fol zK (by simp [idfL,idf,QZ QS,QS,Qg,Qy,grA,QIa,QA9]) (by simp [idfL,idf,QZ QS,QS,Qg,Qy,grA,QIa,QA9]) ?_
 refine zz ?_
 (have X1:=@grA.eq_1;refine zS1 ?_;clear X1)
 have hn:=hG.lenL
 refine (QMy a hsz).useV ?_
 cases hb:QBP a
 ·rw [QAG,if_pos hb]
  first | exact zC | refine zS ?_
  try rfl
 refine zS ?_
 have hP:=QMI G hG l hl
 simp only [grA] at hP
 refine hP.useV ?_
 by_cases ha:allL G.L l=true
 ·have hq:QAG G.L a l=(seqF G.L a (Q0 G.L l),staF G.L (Q0 G.L l),0):=by rw [QAG,if_neg (by rw [hb];decide),if_neg (by rw [ha];decide)]
  rw [hq,pasF,knoE,if_pos ha,if_pos ha]
  have hpl:=QJx hG.ord ha
  have hbk:=QA3 hG.ord ha
  generalize Q0 G.L l=p at*
  (have X1:=@List.getElem?_cons_succ.{0};refine zS1 ?_;clear X1)
  refine QD (ι:=Nat) (fun i=>⟨[(1,.v (.string a)),(3,.rop [.seq G.L.length 39 (flat itc G.L),.seq G.W.length 39 (flat itc G.W)]),(9,.seq p.length 32 (flat hcell p)),(11,.v (.int .i64 (seqF G.L a (p.take i)))),(12,.v (.int .i64 (staF G.L (p.take i)))),(13,.v (.int .i64 i))],⟨[],0,0,0⟩⟩) (fun i=>i≤p.length) (fun i=>p.length - i) 0 (Nat.zero_le _) ?_ ?_
  ·(have X1:=@seqF.eq_1;have X2:=@staF.eq_1;have X3:=@List.take_zero.{0};have X4:=@List.foldl_nil.{0,0};exact fzN4 0 [] [])
  rintro i hi
  refine zS ?_
  refine⟨fun h1=>?_,fun h1=>?_⟩
  ·have hi1:i<p.length:=by omega
   obtain⟨j,z,hfj,hj,hjz,hz⟩:=QFS (hbk _ (List.getElem_mem hi1))
   have hjz':G.L[j]=z:=(List.getElem?_eq_some_iff.1 hjz).2
   have hzm:z∈G.L:=List.mem_of_getElem? hjz
   have hc:=QUa hz
   have hB:=hG.bL hzm
   have hS:=hB.size
   have h1:=hB.seq
   have h2:=hB.start
   have hsq:=QLS (L:=G.L) (a:=a) (ps:=p.take i) (h:=p[i])
   have hst:=QKa (L:=G.L) (ps:=p.take i) (h:=p[i])
   rw [hc,←List.take_succ_eq_append_getElem hi1] at hsq hst
   have hcs:=QUs z.c (by have:=hB.ops;omega) (fun o ho=>by have:=hB.op o ho;omega)
   have hF:=QOF G.L zo p[i]
   rw [hfj] at hF
   refine zS ?_
   refine QO.useV hF rfl ?_
   (have X1:=hjz';refine zS1 ?_;clear X1)
   refine⟨fun h3=>?_,fun h3=>?_⟩
   ·rw [if_pos h3] at hsq
    refine zS ?_
    refine QO.useV hcs rfl ?_
    refine zS ?_
    refine⟨i+1,by omega,zO,?_⟩
    simp only [hsq,hst]
    exact fzN 0 [] []
   ·rw [if_neg h3] at hsq
    refine zS ?_
    refine QO.useV hcs rfl ?_
    refine zS ?_
    refine⟨i+1,by omega,zO,?_⟩
    simp only [hsq,hst]
    exact fzN 0 [] []
  ·have hii:i=p.length:=by omega
   subst hii
   rw [List.take_length]
   exact zC
 ·rw [QAG,if_neg (by rw [hb];decide),if_pos (by simpa using ha),pasF,knoE,if_neg ha,if_neg ha]
  (have X1:=@List.getElem?_cons_succ.{0};refine zS1 ?_;clear X1)
  refine⟨fun _=>?_,fun h=>absurd h zD⟩
  first | exact zC | refine zS ?_
  try rfl
theorem QRb (G:GrV) (hG:GrOK G) (x:Itm) (hx:ItB x) (ha:allL G.L x.c.deps=true):QE Tryz.prog [] 91 [grA G,.agg (ccl x.c)] (.v (.int .i64 (fitF G.L x.c))):=by
 refine QE.start Tryz.func91 rfl zK rfl Tryz.ntmps91 fol zK (by simp [idfL,idf,QZ QS,QS,Qg,Qy,grA,QIa,QJM]) (by simp [idfL,idf,QZ QS,QS,Qg,Qy,grA,QIa,QJM]) ?_
 refine zz ?_
 (have X1:=@grA.eq_1;have X2:=@ccl.eq_1;refine zS2 ?_;clear X1 X2)
 have h1:=hx.deps
 have h2:=QH8 hx.name
 have hq:reqF G.L x.c.deps=redF G.L x.c.deps:=by rw [reqF,if_pos ha]
 have hR:=QLm G hG x.c.deps zo
 have hN:=QRU G hG x.c.author zo x.c.deps zo
 rw [hq] at hR
 simp only [grA] at hR hN
 have hrl:(redF G.L x.c.deps).length≤16:=by rw [redF];exact Nat.le_trans (Nat.le_trans (QAp _) (List.length_filter_le _ _)) h1
 refine hR.useV ?_
 (have X1:=@List.getElem?_cons_succ.{0};refine zS1 ?_;clear X1)
 refine hN.useV ?_
 (have X1:=@List.getElem?_cons_succ.{0};refine zS1 ?_;clear X1)
 refine (QSD (redF G.L x.c.deps) zo x.c.deps zo).useV ?_
 have hf:fitF G.L x.c=if redF G.L x.c.deps≠x.c.deps then 41 else if x.c.seq≠(QAG G.L x.c.author x.c.deps).1 then 42 else if x.c.start≠(QAG G.L x.c.author x.c.deps).2.1 then 43 else 0:=rfl
 by_cases e1:redF G.L x.c.deps=x.c.deps
 ·rw [if_neg (fun h=>h e1)] at hf
  (have X1:=@List.getElem?_cons_succ.{0};have X2:=e1;refine zS2 ?_;clear X1 X2)
  by_cases e2:x.c.seq=(QAG G.L x.c.author x.c.deps).1
  ·rw [if_neg (fun h=>h e2)] at hf
   refine⟨fun h=>absurd e2 h,fun _=>?_⟩
   (have X1:=@List.getElem?_cons_succ.{0};refine zS1 ?_;clear X1)
   by_cases e3:x.c.start=(QAG G.L x.c.author x.c.deps).2.1
   ·rw [if_neg (fun h=>h e3)] at hf
    refine⟨fun h=>absurd e3 h,fun _=>?_⟩
    rw [hf]
    first | exact zC | refine zS ?_
    try rfl
   ·rw [if_pos e3] at hf
    refine⟨fun _=>?_,fun h=>absurd h e3⟩
    rw [hf]
    first | exact zC | refine zS ?_
    try rfl
  ·rw [if_pos e2] at hf
   refine⟨fun _=>?_,fun h=>absurd h e2⟩
   rw [hf]
   first | exact zC | refine zS ?_
   try rfl
 ·rw [if_pos e1] at hf
  (have X1:=@List.getElem?_cons_succ.{0};have X2:=e1;refine zS2 ?_;clear X1 X2)
  rw [hf]
  try rfl
open Proofs
def Rdy (L W:List Itm) (i:Nat) (k:Int):Prop:=(k=-1∧∀y∈W.take i,allL L y.c.deps=false)∨∃(j:Nat) (x:Itm),k=j∧j<W.length∧W[j]?=some x∧allL L x.c.deps=true∧∀y∈W.take i,allL L y.c.deps=true→y.h=x.h∨hlt x.h y.h=true
def redI (L W:List Itm):Int:=match QDz L W with
 | none=>-1
 | some h=>finF W h
theorem Qd7 {W:List Itm} (hn:(QF W).Nodup) {j:Nat} {x:Itm} (h:W[j]?=some x):finF W x.h=j:=by
 have hj:=(List.getElem?_eq_some_iff.1 h).1
 have hx:=(List.getElem?_eq_some_iff.1 h).2
 have hj2:j<(QF W).length:=by rw [Qh];exact hj
 have hk:(QF W)[j]=x.h:=by simp [QF,hx]
 rw [finF,if_pos (by rw [←hk];exact List.getElem_mem hj2)]
 have hd:(QF W).drop j=x.h::(QF W).drop (j+1):=by rw [List.drop_eq_getElem_cons hj2,hk]
 have h2:=hn
 rw [←List.take_append_drop j (QF W),hd,List.nodup_append] at h2
 have:(QF W).idxOf x.h=j:=QUE (fun hm=>h2.2.2 _ hm _ (by simp) rfl) hj2 hk
 rw [this]
theorem Rdy.fin {L W:List Itm} (hn:(QF W).Nodup) {k:Int} (h:Rdy L W W.length k):k=redI L W:=by
 unfold Rdy at h
 rw [List.take_length] at h
 rw [redI]
 rcases h with ⟨rfl,h⟩ | ⟨j,x,rfl,hj,hx,h1,h2⟩
 ·cases e:QDz L W with
  | none=>rfl
  | some h'=>
   obtain⟨m,ha⟩:=QB3 e
   obtain⟨y,hy,hym,rfl⟩:=QA2 m
   rw [QBZ hn hym,h y hym] at ha
   cases ha
 ·have hxm:=List.mem_of_getElem? hx
  cases e:QDz L W with
  | none=>
   rw [QDz,List.find?_eq_none] at e
   have:=e x.h (QBr.2 (by rw [QF];exact List.mem_map_of_mem hxm))
   rw [QBZ hn hxm] at this
   exact absurd h1 this
  | some h'=>
   obtain⟨m,ha⟩:=QB3 e
   obtain⟨y,hy,hym,rfl⟩:=QA2 m
   rw [QBZ hn hym] at ha
   have hxy:x.h=y.h:=by
    rcases h2 y hym ha with q | q
    ·exact q.symm
    ·rw [QDz,List.find?_eq_some_iff_append] at e
     obtain⟨-, l1,l2,e1,e2⟩:=e
     have hr:=QCu (QF W)
     have hxs:x.h∈srt (QF W):=QBr.2 (by rw [QF];exact List.mem_map_of_mem hxm)
     rw [e1] at hr hxs
     rcases List.mem_append.1 hxs with q1 | q1
     ·have:=e2 _ q1
      rw [QBZ hn hxm,h1] at this
      cases this
     ·rcases List.mem_cons.1 q1 with q2 | q2
      ·exact q2
      ·have hlt':=List.rel_of_pairwise_cons (List.pairwise_append.1 hr).2.1 q2
       rw [QEo hlt'] at q;cases q
   show (j:Int)=finF W y.h
   rw [←hxy,Qd7 hn hx]
theorem Rdy.none {L W:List Itm} {i:Nat} (hi:i<W.length) {k:Int} (h:Rdy L W i k) (ha:allL L W[i].c.deps=false):Rdy L W (i+1) k:=by
 unfold Rdy at*
 rw [List.take_succ_eq_append_getElem hi]
 rcases h with ⟨h1,h2⟩ | ⟨j,x,h1,h2,h3,h4,h5⟩
 ·refine .inl ⟨h1,fun y hy=>?_⟩
  rcases List.mem_append.1 hy with q | q
  ·exact h2 y q
  ·rw [List.mem_singleton] at q;rw [q];exact ha
 ·refine .inr ⟨j,x,h1,h2,h3,h4,fun y hy hya=>?_⟩
  rcases List.mem_append.1 hy with q | q
  ·exact h5 y q hya
  ·rw [List.mem_singleton] at q;rw [q,ha] at hya;cases hya
theorem Rdy.first {L W:List Itm} {i:Nat} (hi:i<W.length) {k:Int} (h:Rdy L W i k) (hk:k<0) (ha:allL L W[i].c.deps=true):Rdy L W (i+1) i:=by
 unfold Rdy at*
 rw [List.take_succ_eq_append_getElem hi]
 rcases h with ⟨h1,h2⟩ | ⟨j,x,h1,h2,h3,h4,h5⟩
 ·refine .inr ⟨i,W[i],rfl,hi,List.getElem?_eq_getElem hi,ha,fun y hy hya=>?_⟩
  rcases List.mem_append.1 hy with q | q
  ·rw [h2 y q] at hya;cases hya
  ·rw [List.mem_singleton] at q;rw [q];exact .inl rfl
 ·omega
theorem Rdy.less {L W:List Itm} {i:Nat} (hi:i<W.length) {j:Nat} {x:Itm} (hx:W[j]?=some x) (h:Rdy L W i j) (ha:allL L W[i].c.deps=true) (hl:hlt W[i].h x.h=true):Rdy L W (i+1) i:=by
 unfold Rdy at*
 rw [List.take_succ_eq_append_getElem hi]
 rcases h with ⟨h1,h2⟩ | ⟨j',x',h1,h2,h3,h4,h5⟩
 ·omega
 ·have:j=j':=by omega
  subst this
  rw [hx] at h3;cases h3
  refine .inr ⟨i,W[i],rfl,hi,List.getElem?_eq_getElem hi,ha,fun y hy hya=>?_⟩
  rcases List.mem_append.1 hy with q | q
  ·rcases h5 y q hya with q1 | q1
   ·rw [q1];exact .inr hl
   ·exact .inr (QCB hl q1)
  ·rw [List.mem_singleton] at q;rw [q];exact .inl rfl
theorem Rdy.more {L W:List Itm} {i:Nat} (hi:i<W.length) {j:Nat} {x:Itm} (hx:W[j]?=some x) (h:Rdy L W i j) (hl:hlt W[i].h x.h=false):Rdy L W (i+1) j:=by
 unfold Rdy at*
 rw [List.take_succ_eq_append_getElem hi]
 rcases h with ⟨h1,h2⟩ | ⟨j',x',h1,h2,h3,h4,h5⟩
 ·omega
 ·have:j=j':=by omega
  subst this
  rw [hx] at h3;cases h3
  refine .inr ⟨j,x,rfl,h2,hx,h4,fun y hy hya=>?_⟩
  rcases List.mem_append.1 hy with q | q
  ·exact h5 y q hya
  ·rw [List.mem_singleton] at q
   rw [q]
   rcases QBh W[i].h x.h with q1 | q1 | q1
   ·exact .inl q1
   ·rw [hl] at q1;cases q1
   ·exact .inr q1
theorem Rdy.get {L W:List Itm} {i:Nat} {k:Int} (h:Rdy L W i k) (hk:¬k<0):∃(j:Nat) (x:Itm),k=j∧j<W.length∧W[j]?=some x:=by
 rcases h with ⟨h1,h2⟩ | ⟨j,x,h1,h2,h3,h4,h5⟩
 ·omega
 ·exact⟨j,x,h1,h2,h3⟩
theorem QJp (G:GrV) (hG:GrOK G):QE Tryz.prog [] 92 [grA G] (.v (.int .i64 (redI G.L G.W))):=by
 refine QE.start Tryz.func92 rfl zK rfl Tryz.ntmps92 fol zK (by simp [idfL,idf,QZ QS,QS,Qg,Qy,grA,QIa]) (by simp [idfL,idf,QZ QS,QS,Qg,Qy,grA,QIa]) ?_
 refine zz ?_
 (have X1:=@grA.eq_1;refine zS1 ?_;clear X1)
 have hn:=hG.lenW
 have hnL:=hG.lenL
 refine QD (ι:=Nat×Int) (fun q=>⟨[(1,.rop [.seq G.L.length 39 (flat itc G.L),.seq G.W.length 39 (flat itc G.W)]),(3,.v (.int .i64 q.2)),(4,.v (.int .i64 q.1))],⟨[],0,0,0⟩⟩) (fun q=>q.1≤G.W.length∧Rdy G.L G.W q.1 q.2) (fun q=>G.W.length - q.1) (0,-1) ⟨Nat.zero_le _,.inl ⟨rfl,by simp⟩⟩ ?_ ?_
 ·exact fzN 0 [] []
 rintro⟨i,k⟩ ⟨hi,hr⟩
 dsimp only at hi hr ⊢
 refine zS ?_
 refine⟨fun h1=>?_,fun h1=>?_⟩
 ·have hi1:i<G.W.length:=by omega
  have hga:=QOR G zo G.W[i].c.deps (by have:=(hG.bW (List.getElem_mem hi1)).deps;omega)
  simp only [grA] at hga
  refine zS ?_
  refine QO.useV hga rfl ?_
  cases ha:allL G.L G.W[i].c.deps
  ·refine zS ?_
   refine⟨(i+1,k),⟨hi1,hr.none hi1 ha⟩,zO,?_⟩
   exact fzN 0 [] []
  ·by_cases hk:k<0
   ·(have X1:=hk;refine zS1 ?_;clear X1)
    refine⟨(i+1,(i:Int)),⟨hi1,hr.first hi1 hk ha⟩,zO,?_⟩
    exact fzN 0 [] []
   ·obtain⟨j,x,rfl,hj,hx⟩:=hr.get hk
    have hx':G.W[j]=x:=(List.getElem?_eq_some_iff.1 hx).2
    have hL:=QMc G.W[i].h x.h
    refine zS ?_
    refine⟨fun _=>?_,fun h=>absurd h hk⟩
    (have X1:=hx';refine zS1 ?_;clear X1)
    refine QO.useV hL rfl ?_
    cases hl:hlt G.W[i].h x.h
    ·refine zS ?_
     refine⟨(i+1,(j:Int)),⟨hi1,hr.more hi1 hx hl⟩,zO,?_⟩
     exact fzN 0 [] []
    ·refine zS ?_
     refine⟨(i+1,(i:Int)),⟨hi1,hr.less hi1 hx ha hl⟩,zO,?_⟩
     exact fzN 0 [] []
 ·have hii:i=G.W.length:=by omega
  subst hii
  rw [←hr.fin hG.nd]
  exact zC
end Go.AW
