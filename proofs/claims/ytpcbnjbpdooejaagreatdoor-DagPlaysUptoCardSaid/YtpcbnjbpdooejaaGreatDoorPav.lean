/- A part of the proof: D46 D47 D48. -/
import Derived.Test.YtpcbnjbpdooejaaGreatDoorPae
import Derived.Test.YtpcbnjbpdooejaaGreatDoorPau
import Derived.Test.YtpcbnjbpdooejaaGreatDoorPas
set_option linter.unusedSimpArgs false
set_option linter.unusedVariables false
set_option maxRecDepth 100000
set_option maxHeartbeats 8000000
namespace Go.AW
open Proofs
theorem QSw {L:List Itm} {l:List Hs} (hn:l.Nodup) (h:∀x∈l,x∈QF L):l.length≤L.length:=by
 have:=List.Nodup.length_le_of_subset hn h
 rwa [Qh] at this
theorem QON {L:List Itm} (hL:OrdL L) {l:List Hs} (hl:allL L l=true):(belF L l).length≤L.length:=
 QSw (QGN hL hl).2 fun x hx=>((QGN hL hl).1 x).1 hx |>.mem hL (Q2.1 hl)
theorem QNs {xs:List AV}:QR (.rop xs)=some [.rop xs]:=(rfl)
attribute [push_cast] QNs
theorem QNA (G:GrV) (hL:OrdL G.L) (hn:G.L.length≤4096) (hd:∀x∈G.L,x.c.deps.length≤1048576) (l:List Hs) (hl:l.length≤1048576) (ha:allL G.L l=true):PNew Tryz.prog [] 71 [.rop (QBf G),.seq l.length 32 (flat hcell l)] (.mv KH (hks (belF G.L l)) (bts (belF G.L l).length)):=by
 refine PNew.start Tryz.func71 rfl zK rfl Tryz.ntmps71 fol zK (by simp [idfL,idf,QZ QS,QS,Qg,Qy,QAn,QAu]) (by simp [idfL,idf,QZ QS,QS,Qg,Qy,QAn,QAu]) ?_
 refine zZ ?_
 have hw:=QaQ G hL hn hd (G.L.length+1) l [] hl (fun h hh=>⟨Q2.1 ha h hh,by have:=List.idxOf_lt_length_of_mem (Q2.1 ha h hh);rw [Qh] at this;omega⟩) (by simp) (by simp)
 simp only [QDA] at hw
 refine QM.useX [20,18,32,2] hw rfl zC ?_ ?_
 ·first | exact zC | refine zS ?_
  rfl
 first | exact zC | refine zS ?_
 rfl
def pasF (L:List Itm) (l:List Hs):List Hs:=if allL L l=true then Q0 L l else []
def knoE (L:List Itm) (l:List Hs):Nat:=if allL L l=true then 0 else 44
def reqF (L:List Itm) (l:List Hs):List Hs:=if allL L l=true then redF L l else []
theorem QOm (G:GrV) (hL:OrdL G.L) (hn:G.L.length≤4096) (hd:∀x∈G.L,x.c.deps.length≤1048576) (l:List Hs) (hl:l.length≤256):PNew Tryz.prog [] 21 [.rop (QBf G),.seq l.length 32 (flat hcell l)] (.tup [.seq (reqF G.L l).length 32 (flat hcell (reqF G.L l)),.v (.int .i64 (knoE G.L l))]):=by
 refine PNew.startW Tryz.func21 rfl zK rfl Tryz.ntmps21 fol zK (by simp [idfL,idf,QZ QS,QS,Qg,Qy,QAn,QA9]) (by simp [idfL,idf,QZ QS,QS,Qg,Qy,QAn,QA9]) ?_
 refine zZ ?_
 refine (QNo G l zo).useV ?_
 by_cases ha:allL G.L l=true
 ·rw [reqF,knoE,if_pos ha,if_pos ha,if_pos ha,←Qdm hL ha]
  refine zS ?_
  refine QD (ι:=Nat×List Hs) (fun q=>⟨[(0,.rop (QBf G)),(1,.seq l.length 32 (flat hcell l)),(7,.sl 0 0 q.2.length 32),(16,.seq l.length 32 (flat hcell l)),(17,.v (.int .i64 l.length)),(18,.v (.int .i64 q.1))],⟨[(0,.cells 47 (flat hcell q.2) true)],1,1,0⟩⟩) (fun q=>q.1≤l.length∧q.2=(l.take q.1).flatMap (fun h=>srt (belF G.L (QBv G.L h)))∧q.2.length≤q.1*4096) (fun q=>l.length - q.1) (0,[]) ⟨Nat.zero_le _,rfl,Nat.le_refl _⟩ ?_ ?_
  ·exact fzN 0 [] []
  rintro⟨i,acc⟩ ⟨hi,hacc,hal⟩
  simp only at hi hacc hal
  refine zS ?_
  refine⟨fun k1=>?_,fun k1=>?_⟩
  ·have hi1:i<l.length:=by omega
   have hk:=Q2.1 ha _ (List.getElem_mem hi1)
   obtain⟨x,hx,hxm,hxh⟩:=QA2 hk
   have hm:=QJd hx
   have hdx:QBv G.L l[i]=x.c.deps:=by rw [QBv,chL,hx]
   have ha2:allL G.L x.c.deps=true:=by rw [←hdx];exact QMA hL hk
   have hb:=QON hL ha2
   (have X1:=hm;have X2:=@QDy.eq_1;have X3:=@ccl.eq_1;refine zS3 ?_;clear X1 X2 X3)
   refine QO.useN (QNA G hL hn hd x.c.deps (hd x hxm) ha2) rfl ?_
   refine zS ?_
   refine QO.useN (QXJ (belF G.L x.c.deps) (bts (belF G.L x.c.deps).length) QAu QB2 zo) rfl ?_
   obtain⟨B,hB⟩:∃B,B=srt (belF G.L x.c.deps):=⟨_,rfl⟩
   have hBl:B.length≤4096:=by rw [hB];exact Nat.le_trans (QAp _) zo
   rw [←hB]
   (have X1:=@Q4;refine zS1 ?_;clear X1)
   refine⟨(i+1,acc++B),⟨hi1,?_,by show (acc++B).length≤(i+1)*4096;rw [List.length_append];omega⟩,zO,?_⟩
   ·show acc++B=(l.take (i+1)).flatMap _
    rw [List.take_succ_eq_append_getElem hi1,List.flatMap_append,←hacc,hB,←hdx];simp
   simp only [List.length_append]
   exact fzN 0 [(0,113)] []
  ·refine zS ?_
   have hi2:i=l.length:=by omega
   rw [hi2,List.take_length] at hacc
   refine POwn.use (QOL l acc zo zo) (ids:=[0]) (by have X1:=@QLW;exact zCN1) ?_
   have hr:minH l acc=redP G.L l:=by rw [redP,hacc]
   rw [hr]
   exact zC
 ·rw [reqF,knoE,if_neg ha,if_neg ha,if_neg ha]
  refine zS ?_
  refine⟨fun _=>?_,fun h=>absurd h zD⟩
  first | exact zC | refine zS ?_
  try rfl
theorem GrOK.bL {G:GrV} (hG:GrOK G) {x:Itm} (hx:x∈G.L):ItB x:=(hG.okL x hx).bnd
theorem GrOK.bW {G:GrV} (hG:GrOK G) {x:Itm} (hx:x∈G.W):ItB x:=(hG.okW x hx).bnd
theorem GrOK.dL {G:GrV} (hG:GrOK G):∀x∈G.L,x.c.deps.length≤1048576:=fun x hx=>by have:=(hG.bL hx).deps;omega
theorem ItB.size {x:Itm} (h:ItB x):0≤QAa x.c.ops∧QAa x.c.ops≤268435456:=by
 have:=QFN x.c.ops fun o ho=>by have:=h.op o ho;omega
 have:=h.ops
 omega
theorem QUa {L:List Itm} {h:Hs} {x:Itm} (e:getL L h=some x):chL L h=x.c:=by rw [chL,e]
theorem QLS {L:List Itm} {a:ByteArray} {ps:List Hs} {h:Hs}:seqF L a (ps++[h])=if (chL L h).author=a then max (seqF L a ps) ((chL L h).seq+1) else seqF L a ps:=by simp [seqF]
theorem QKa {L:List Itm} {ps:List Hs} {h:Hs}:staF L (ps++[h])=max (staF L ps) ((chL L h).start+QAa (chL L h).ops):=by simp [staF]
theorem QfR (G:GrV) (hG:GrOK G) (a:ByteArray) (hsz:a.size≤1048576) (l:List Hs) (hl:l.length≤1048576):QE Tryz.prog [] 29 [.rop (QBf G),.v (.string a),.seq l.length 32 (flat hcell l)] (.tup [.v (.int .i64 (QAG G.L a l).1),.v (.int .i64 (QAG G.L a l).2.1),.v (.int .i64 (QAG G.L a l).2.2)]):=by
 refine QE.start Tryz.func29 rfl zK rfl Tryz.ntmps29 fol zK (by simp [idfL,idf,QZ QS,QS,Qg,Qy,QAn,QA9]) (by simp [idfL,idf,QZ QS,QS,Qg,Qy,QAn,QA9]) ?_
 refine zZ ?_
 refine (QTf a hsz).useV ?_
 cases hb:QBP a
 ·rw [QAG,if_pos hb]
  first | exact zC | refine zS ?_
  try rfl
 refine zS ?_
 refine (QNo G l hl).useV ?_
 by_cases ha:allL G.L l=true
 ·have hq:QAG G.L a l=(seqF G.L a (Q0 G.L l),staF G.L (Q0 G.L l),0):=by rw [QAG,if_neg (by rw [hb];decide),if_neg (by rw [ha];decide)]
  rw [hq,if_pos ha]
  refine zS ?_
  refine PNew.useV (QNA G hG.ord hG.lenL hG.dL l hl ha) ?_
  refine zS ?_
  have hpb:(Q0 G.L l).Perm (belF G.L l):=by
   rw [List.perm_ext_iff_of_nodup (QAm G.L l).nodup (QGN hG.ord ha).2]
   exact fun x=>(QXv hG.ord ha).symm
  rw [QLf hpb,QKP hpb]
  have hbk:∀x∈belF G.L l,x∈QF G.L:=fun x hx=>QA3 hG.ord ha x (hpb.mem_iff.2 hx)
  refine QD (ι:=Option (Value×AV)×List Hs×List AV×List Hs) (fun q=>⟨[(0,.rop (QBf G)),(1,.v (.string a)),(6,.v (.int .i64 (seqF G.L a q.2.2.2))),(7,.v (.int .i64 (staF G.L q.2.2.2))),(28,.it 0)],⟨[(0,.miter q.1 (hks q.2.1) q.2.2.1)],1,1,0⟩⟩)
   (fun q=>q.2.2.1.length=q.2.1.length∧(q.2.2.2++q.2.1).Perm (belF G.L l)∧idfL q.2.2.1=true∧QFn q.1=true) (fun q=>q.2.1.length) (none,belF G.L l,bts (belF G.L l).length,[]) ⟨QB2,by simp,QAu,rfl⟩ ?_ ?_
  ·(have X1:=@seqF.eq_1;have X2:=@staF.eq_1;have X3:=@List.foldl_nil.{0,0};exact fzI3 0 [(0,318)] [0])
  rintro⟨last,rest,ys,dn⟩ ⟨hyl,hp,hyi,hli⟩
  dsimp only at hyl hp hyi hli ⊢
  refine zS ?_
  refine⟨fun h=>?_,fun i k x hki hxi ks' xs' l' hf=>?_⟩
  ·have hr:rest=[]:=QGL.1 h
   subst hr
   rw [List.append_nil] at hp
   rw [←QLf hp,←QKP hp]
   exact zC
  ·simp [Mem.find,lk] at hf
   obtain⟨rfl,rfl,rfl⟩:=hf
   obtain⟨h,hki,rfl⟩:=QG8 hki
   rename_i hki2
   have hil:i<rest.length:=(List.getElem?_eq_some_iff.1 hki2).1
   have hxd:=QDZ hyi hxi
   have hhk:=hbk h (hp.mem_iff.1 (by simp [List.mem_of_getElem? hki2]))
   obtain⟨z,hz,hzm,hzh⟩:=QA2 hhk
   have hm:=QJd hz
   have hc:=QUa hz
   have hB:=hG.bL hzm
   have hS:=hB.size
   have h1:=hB.seq
   have h2:=hB.start
   have hsq:=QLS (L:=G.L) (a:=a) (ps:=dn) (h:=h)
   have hst:=QKa (L:=G.L) (ps:=dn) (h:=h)
   rw [hc] at hsq hst
   have hye:=QBW hyi i
   have hms:(rest.eraseIdx i).length<rest.length:=by rw [List.length_eraseIdx,if_pos hil];omega
   have hI:(ys.eraseIdx i).length=(rest.eraseIdx i).length∧((dn++[h])++rest.eraseIdx i).Perm (belF G.L l)∧idfL (ys.eraseIdx i)=true∧QFn (some (hval h,x))=true:=⟨by rw [List.length_eraseIdx,List.length_eraseIdx,hyl],QDQ hp hki2,hye,hxd⟩
   have hcs:=QVn z.c (by have:=hB.ops;omega) (fun o ho=>by have:=hB.op o ho;omega)
   (have X1:=hm;have X2:=@QDy.eq_1;have X3:=@ccl.eq_1;refine zS3 ?_;clear X1 X2 X3)
   refine⟨fun h3=>?_,fun h3=>?_⟩
   ·rw [if_pos h3] at hsq
    refine zS ?_
    refine QO.useV hcs rfl ?_
    refine zS ?_
    refine⟨(some (hval h,x),rest.eraseIdx i,ys.eraseIdx i,dn++[h]),hI,hms,?_⟩
    simp only [hsq,hst]
    (have X1:=hye;have X2:=hxd;exact fzI2 0 [(0,0)] [0])
   ·rw [if_neg h3] at hsq
    refine zS ?_
    refine QO.useV hcs rfl ?_
    refine zS ?_
    refine⟨(some (hval h,x),rest.eraseIdx i,ys.eraseIdx i,dn++[h]),hI,hms,?_⟩
    simp only [hsq,hst]
    (have X1:=hye;have X2:=hxd;exact fzI2 0 [(0,0)] [0])
 ·rw [QAG,if_neg (by rw [hb];decide),if_pos (by simpa using ha),if_neg ha]
  refine zS ?_
  refine⟨fun _=>?_,fun h=>absurd h zD⟩
  first | exact zC | refine zS ?_
  try rfl
open Proofs
theorem QH8 {a:ByteArray} (h:QBP a=true):a.size≤32:=by
 rw [QBP] at h
 simp only [Bool.and_eq_true,decide_eq_true_eq] at h
 exact h.1.2.2
theorem fits_g (G:GrV) (hG:GrOK G) (x:Itm) (hx:ItB x) (ha:allL G.L x.c.deps=true):QE Tryz.prog [] 154 [.rop (QBf G),.agg (ccl x.c)] (.v (.int .i64 (fitF G.L x.c))):=by
 refine QE.start Tryz.func154 rfl zK rfl Tryz.ntmps154 fol zK (by simp [idfL,idf,QZ QS,QS,Qg,Qy,QAn,QJM]) (by simp [idfL,idf,QZ QS,QS,Qg,Qy,QAn,QJM]) ?_
 refine zz ?_
 (have X1:=@ccl.eq_1;refine zS1 ?_;clear X1)
 have h1:=hx.deps
 have h2:=QH8 hx.name
 have hq:reqF G.L x.c.deps=redF G.L x.c.deps:=by rw [reqF,if_pos ha]
 have hR:=QOm G hG.ord hG.lenL hG.dL x.c.deps zo
 rw [hq] at hR
 have hrl:(redF G.L x.c.deps).length≤16:=by rw [redF];exact Nat.le_trans (Nat.le_trans (QAp _) (List.length_filter_le _ _)) h1
 refine PNew.useV hR ?_
 (have X1:=@List.getElem?_cons_succ.{0};refine zS1 ?_;clear X1)
 refine (QfR G hG x.c.author zo x.c.deps zo).useV ?_
 (have X1:=@List.getElem?_cons_succ.{0};refine zS1 ?_;clear X1)
 refine (QaC (redF G.L x.c.deps) x.c.deps zo zo).useV ?_
 have hf:fitF G.L x.c=if redF G.L x.c.deps≠x.c.deps then 41 else if x.c.seq≠(QAG G.L x.c.author x.c.deps).1 then 42 else if x.c.start≠(QAG G.L x.c.author x.c.deps).2.1 then 43 else 0:=rfl
 by_cases e1:redF G.L x.c.deps=x.c.deps
 ·rw [if_neg (fun h=>h e1)] at hf
  (have X1:=@List.getElem?_cons_succ.{0};have X2:=e1;refine zS2 ?_;clear X1 X2)
  by_cases e2:x.c.seq=(QAG G.L x.c.author x.c.deps).1
  ·rw [if_neg (fun h=>h e2)] at hf
   refine⟨fun h=>absurd e2 h,fun _=>?_⟩
   (have X1:=@List.getElem?_cons_succ.{0};refine zS1 ?_;clear X1)
   by_cases e3:x.c.start=(QAG G.L x.c.author x.c.deps).2.1
   ·rw [if_neg (fun h=>h e3)] at hf
    refine⟨fun h=>absurd e3 h,fun _=>?_⟩
    rw [hf]
    first | exact zC | refine zS ?_
    try rfl
   ·rw [if_pos e3] at hf
    refine⟨fun _=>?_,fun h=>absurd h e3⟩
    rw [hf]
    first | exact zC | refine zS ?_
    try rfl
  ·rw [if_pos e2] at hf
   refine⟨fun _=>?_,fun h=>absurd h e2⟩
   rw [hf]
   first | exact zC | refine zS ?_
   try rfl
 ·rw [if_pos e1] at hf
  (have X1:=@List.getElem?_cons_succ.{0};have X2:=e1;refine zS2 ?_;clear X1 X2)
  rw [hf]
  try rfl
theorem QKU {L:List Itm} {x:Itm} (h:x.h∉QF L):addH (QF L) x.h=QF (L++[x]):=by rw [addH,if_neg h,Qv];rfl
theorem QI8 {x:Itm}:∀{L:List Itm},x.h∉QF L→mset (hks (QF L)) (nvs L) (hval x.h) (.agg (QDy x))=nvs (L++[x])
 | [],_=>rfl
 | y::L,h=>by
  simp only [QF,List.map_cons,List.mem_cons,not_or] at h
  have ih:=QI8 (x:=x) (L:=L) h.2
  simp only [QF,hks,List.map_cons,nvs,mset,QBy,List.cons_append] at ih ⊢
  rw [ih]
  simp [h.1]
theorem QNv {L:List Itm} {x:Itm}:namF (L++[x])=x.c.deps.foldl addH (namF L):=QRq
theorem QUc {l m:List Hs} {i:Nat} (hi:i<l.length):(l.take (i+1)).foldl addH m=addH ((l.take i).foldl addH m) l[i]:=by
 rw [List.take_succ_eq_append_getElem hi,List.foldl_append];rfl
theorem QNw {l:List Hs}:∀{m:List Hs},(l.foldl addH m).length≤m.length+l.length:=by
 induction l with
 | nil=>intro m;simp
 | cons a l ih=>intro m;have h1:=ih (m:=addH m a);have h2:=QIZ m a;simp only [List.foldl_cons,List.length_cons];omega
theorem QW4 {L:List Itm} (h:∀x∈L,x.c.deps.length≤16):(namF L).length≤16*L.length:=by
 induction L using QDr with
 | h0=>simp [namF]
 | h1 L x ih=>
  rw [QNv]
  have h1:=QNw (l:=x.c.deps) (m:=namF L)
  have h2:=ih fun y hy=>h y (by simp [hy])
  have h3:=h x (by simp)
  simp only [List.length_append,List.length_cons,List.length_nil];omega
def gO (G:GrV):List (Nat×AObj):=[(0,.cells 126 [.mp 1,.mp 2,.mp 3] false),(1,.map KH (hks (QF G.L)) (nvs G.L)),(2,.map KH (hks (QF G.W)) (nvs G.W)),(3,.map KH (hks (namF G.L)) (bts (namF G.L).length))]
def kepE (L:List Itm) (x:Itm):Nat:=if 4096≤L.length then 21 else fitF L x.c
theorem QaA (G:GrV) (hG:GrOK G) (x:Itm) (hx:ItB x) (ha:allL G.L x.c.deps=true) (hn:x.h∉QF G.L):
  QM Tryz.prog [] 83 [.ptr 0 0,.agg (hcell x.h),.agg (QDy x)] (gO G) 4 (.v (.int .i64 (kepE G.L x))) (gO ⟨QBn G.L x,G.W⟩) 4:=by
 refine QM.start Tryz.func83 rfl zK rfl Tryz.ntmps83 fol zK (Nat.le_refl _) ?_
 simp only [List.zipIdx_cons,List.zipIdx_nil,List.map_cons,List.map_nil,Nat.zero_add,gO]
 have hLn:=hG.lenL
 refine zS ?_
 refine⟨fun h1=>?_,fun h1=>?_⟩
 ·have h2:4096≤G.L.length:=by omega
  have e1:kepE G.L x=21:=by rw [kepE,if_pos h2]
  have e2:QBn G.L x=G.L:=by rw [QBn,if_neg zo]
  rw [e1,e2]
  refine zS ?_
  refine fzNM 4 [(0,0),(1,1),(2,2),(3,3)] [0] ?_ ?_<;>first | exact zC | refine zS ?_
  rfl
 ·have h2:¬4096≤G.L.length:=by omega
  have e1:kepE G.L x=fitF G.L x.c:=by rw [kepE,if_neg h2]
  rw [e1]
  (have X1:=@QDy.eq_1;have X2:=@ccl.eq_1;refine zS2 ?_;clear X1 X2)
  have hf:=fits_g G hG x hx ha
  rw [ccl,QBf] at hf
  refine hf.use (ids:=[0,1,2,3]) zCN (.inl rfl) ?_
  refine zS ?_
  by_cases e3:fitF G.L x.c=0
  ·have e2:QBn G.L x=G.L++[x]:=by rw [QBn,if_pos ⟨by omega,e3⟩]
   rw [e2,e3]
   refine⟨fun h=>absurd rfl h,fun _=>?_⟩
   have hadd:=QKU hn
   have hms:=QI8 hn
   rw [QDy,ccl] at hms
   simp only [List.cons_append,List.nil_append] at hms
   (have X1:=hadd;have X2:=hms;refine zS2 ?_;clear X1 X2)
   have hnl:=QW4 (L:=G.L) fun y hy=>(hG.bL hy).deps
   have hdl:=hx.deps
   refine QD (ι:=Nat) (fun i=>⟨[(0,.ptr 0 0),(31,.seq x.c.deps.length 32 (flat hcell x.c.deps)),(32,.v (.int .i64 x.c.deps.length)),(33,.v (.int .i64 i))],⟨[(0,.cells 126 [.mp 1,.mp 2,.mp 3] false),(1,.map KH (hks (QF (G.L++[x]))) (nvs (G.L++[x]))),(2,.map KH (hks (QF G.W)) (nvs G.W)),(3,.map KH (hks ((x.c.deps.take i).foldl addH (namF G.L))) (bts ((x.c.deps.take i).foldl addH (namF G.L)).length))],4,4,0⟩⟩) (fun i=>i≤x.c.deps.length) (fun i=>x.c.deps.length - i) 0 (Nat.zero_le _) ?_ ?_
   ·refine fzNM 4 [(0,0),(1,1),(2,2),(3,3)] [0] ?_ ?_<;>first | exact zC | refine zS ?_
    exact⟨rfl,rfl⟩
   intro i hi
   have hfl:=QNw (l:=x.c.deps.take i) (m:=namF G.L)
   rw [List.length_take] at hfl
   refine zS ?_
   refine⟨fun k1=>?_,fun k1=>?_⟩
   ·have hi1:i<x.c.deps.length:=by omega
    refine zS ?_
    refine⟨i+1,hi1,zO,?_⟩
    simp only [QUc hi1]
    exact fzN 4 [(0,0),(1,1),(2,2),(3,3)] [0]
   ·have hi2:i=x.c.deps.length:=by omega
    rw [hi2,List.take_length,←QNv]
    refine zS ?_
    exact fzN 4 [(0,0),(1,1),(2,2),(3,3)] [0]
  ·have e2:QBn G.L x=G.L:=by rw [QBn,if_neg (fun h=>e3 h.2)]
   rw [e2]
   refine⟨fun _=>?_,fun h=>absurd h zo⟩
   refine zS ?_
   exact fzN 4 [(0,0),(1,1),(2,2),(3,3)] [0]
theorem QKh {h:Hs}:∀{W:List Itm},QFl (hks (QF W)) (hval h)=hks (QF (delL W h))
 | []=>rfl
 | x::W=>by
  have ih:=QKh (h:=h) (W:=W)
  simp only [QF,hks,List.map_cons,QFl,QBy,delL] at ih ⊢
  by_cases e:x.h=h
  ·simp [e]
  ·have e':¬h=x.h:=fun k=>e k.symm
   simp only [e',decide_false,e,if_false,List.map_cons,ih];rfl
theorem QLN {h:Hs}:∀{W:List Itm},QFj (hks (QF W)) (nvs W) (hval h)=nvs (delL W h)
 | []=>rfl
 | x::W=>by
  have ih:=QLN (h:=h) (W:=W)
  simp only [QF,hks,List.map_cons,QFj,QBy,delL,nvs] at ih ⊢
  by_cases e:x.h=h
  ·simp [e]
  ·have e':¬h=x.h:=fun k=>e k.symm
   simp only [e',decide_false,e,if_false,List.map_cons,ih];rfl
attribute [push_cast] QKh QLN
theorem GrOK.del {G:GrV} (hG:GrOK G) {h:Hs} (hm:h∈QF G.W):GrOK ⟨G.L,delL G.W h⟩:=
 ⟨hG.ord,QHy hG.nd,fun k hk=>hG.dis k (by rw [QEk hG.nd] at hk;exact (List.mem_filter.1 hk).1),hG.okL,fun x hx=>hG.okW x (QF1 hx),hG.lenL,by have:=QD7 hm;have:=hG.lenW;show (delL G.W h).length≤64;omega⟩
theorem QWv {G:GrV} (hG:GrOK G):(QF G.W).length≤64:=by rw [Qh];exact hG.lenW
def wakR (G:GrV):GrV:=(QEM G).getD G
theorem Qf8 (G:GrV) (hG:GrOK G):
  QM Tryz.prog [] 84 [.ptr 0 0] (gO G) 4 (.v (.bool (QEM G).isSome)) (gO (wakR G)) 4:=by
 refine QM.start Tryz.func84 rfl zK rfl Tryz.ntmps84 fol zK (Nat.le_refl _) ?_
 simp only [List.zipIdx_cons,List.zipIdx_nil,List.map_cons,List.map_nil,Nat.zero_add,gO]
 have hWn:=hG.lenW
 refine zS ?_
 refine POwn.use (QRX (QF G.W) (nvs G.W) QF8 (by rw [QFC,Qh]) (by rw [Qh];omega)) (ids:=[2]) zCN ?_
 obtain⟨K,hK⟩:∃K,K=srt (QF G.W):=⟨_,rfl⟩
 have hKl:K.length≤64:=by rw [hK];exact Nat.le_trans (QAp _) (QWv hG)
 have hKm:∀h∈K,h∈QF G.W:=fun h hh=>by rw [hK] at hh;exact QBr.1 hh
 have hred:QDz G.L G.W=K.find? fun h=>allL G.L (QBv G.W h):=by rw [QDz,hK]
 rw [←hK]
 refine zS ?_
 refine QD (ι:=Nat) (fun i=>⟨[(0,.ptr 0 0),(10,.seq K.length 32 (flat hcell K)),(11,.v (.int .i64 K.length)),(12,.v (.int .i64 i))],⟨gO G,4,4,0⟩⟩) (fun i=>i≤K.length∧∀j (hj:j<K.length),j<i→allL G.L (QBv G.W K[j])=false) (fun i=>K.length - i) 0 ⟨Nat.zero_le _,fun j _ h=>absurd h (Nat.not_lt_zero _)⟩ ?_ ?_
 ·simp only [gO]
  exact fzN 4 [(0,0),(1,1),(2,2),(3,3)] [0]
 rintro i ⟨hi,hall⟩
 simp only [gO]
 refine zS ?_
 refine⟨fun k1=>?_,fun k1=>?_⟩
 ·have hi1:i<K.length:=by omega
  have hk:=hKm _ (List.getElem_mem hi1)
  obtain⟨x,hx,hxm,hxh⟩:=QA2 hk
  have hm:=QJd hx
  have hdx:QBv G.W K[i]=x.c.deps:=by rw [QBv,chL,hx]
  have hxB:=hG.bW hxm
  have hdl:=hxB.deps
  (have X1:=hm;have X2:=@QDy.eq_1;have X3:=@ccl.eq_1;refine zS3 ?_;clear X1 X2 X3)
  have ha:=Qcj G x.c.deps zo
  rw [QBf] at ha
  refine ha.use (ids:=[0,1,2,3]) zCN (.inl rfl) ?_
  cases hb:allL G.L x.c.deps
  ·refine zS ?_
   refine⟨i+1,⟨hi1,fun j hj hji=>?_⟩,zO,?_⟩
   ·rcases Nat.lt_or_ge j i with h5 | h5
    ·exact hall j hj h5
    ·obtain rfl:j=i:=by omega
     rw [hdx,hb]
   simp only [gO]
   exact fzN 4 [(0,0),(1,1),(2,2),(3,3)] [0]
  ·have hw:QEM G=some ⟨QBn G.L x,delL G.W K[i]⟩:=by
    have hf:K.find? (fun h=>allL G.L (QBv G.W h))=some K[i]:=by
     rw [List.find?_eq_some_iff_getElem]
     refine⟨by rw [hdx,hb],i,hi1,rfl,fun j hj=>?_⟩
     rw [hall j zo hj];rfl
    rw [QEM,hred,hf]
    simp only [hx]
   rw [wakR,hw]
   have hkp:=QaA ⟨G.L,delL G.W K[i]⟩ (hG.del hk) x hxB hb (by rw [hxh];exact hG.dis _ hk)
   rw [hxh] at hkp
   simp only [gO,QDy,ccl,List.cons_append,List.nil_append] at hkp
   (have X1:=hm;have X2:=@QDy.eq_1;have X3:=@ccl.eq_1;refine zS3 ?_;clear X1 X2 X3)
   refine QM.useX [0,1,2,3] hkp rfl zC ?_ ?_
   ·exact zC
   refine zS ?_
   (have X1:=@Option.getD_some.{0};have X2:=@Option.isSome_some.{0};exact fzN2 4 [(0,0),(1,1),(2,2),(3,3)] [0])
 ·have hnone:QEM G=none:=by
   have:QDz G.L G.W=none:=by
    rw [hred,List.find?_eq_none]
    intro h hh
    obtain⟨j,hj,rfl⟩:=List.getElem_of_mem hh
    rw [hall j hj zo];decide
   rw [QEM,this]
  rw [wakR,hnone,Option.getD_none]
  refine zS ?_
  exact fzN 4 [(0,0),(1,1),(2,2),(3,3)] [0]
open Proofs
theorem QZG (b:List UInt8) (hb:b.length≤1048576):POwn Tryz.prog [] 81 [.seq b.length 1 (flat QC b)] b.length 1 5 (flat QC b):=by
 refine POwn.start Tryz.func81 rfl zK rfl Tryz.ntmps81 fol zK zI (by simp [QQ]) ?_
 refine zZ ?_
 refine⟨fun h=>?_,?_⟩
 ·obtain rfl:b=[]:=List.eq_nil_of_length_eq_zero h
  exact fzN 0 [] []
 ·exact fzN 0 [(0,23)] []
theorem QZb (b:List UInt8) (hb:b.length≤1048576):PNew Tryz.prog [] 81 [.seq b.length 1 (flat QC b)] (.seq b.length 1 (flat QC b)):=(QZG b hb).toNew (by rw [QH,Nat.mul_one])
theorem QNE (R:ChV×Nat):(cclE R).length=6:=by rw [cclE];split<;>rfl
attribute [push_cast] QNE
theorem QWR {a1 a2 a3 a4 a5 a6:AV} {c:ChV}:setL [a1,a2,a3,a4,a5,a6] 0 (ccl c)=ccl c:=(rfl)
theorem QbH {x y:Hs}:setL (hcell x) 0 (hcell y)=hcell y:=QAK (by rw [QK,QK])
attribute [push_cast] QbH
theorem QPe {c:ChV}:(ccl c).length=6:=(rfl)
attribute [push_cast] QWR QPe
theorem GrOK.put {G:GrV} (hG:GrOK G) {x:Itm} (h1:x.h∉QF G.L) (h2:x.h∉QF G.W) (ha:allL G.L x.c.deps=true) (hx:ItOK x) (hn:G.L.length<4096):GrOK ⟨G.L++[x],G.W⟩:=by
 refine⟨.snoc hG.ord h1 (Q2.1 ha),hG.nd,fun k hk hk'=>?_,fun y hy=>?_,hG.okW,by simp;omega,hG.lenW⟩
 ·rw [Qv] at hk'
  rcases List.mem_append.1 hk' with e | e
  ·exact hG.dis k hk e
  ·simp only [QF,List.map_cons,List.map_nil,List.mem_singleton] at e
   exact h2 (by rw [←e];exact hk)
 ·rcases List.mem_append.1 hy with e | e
  ·exact hG.okL y e
  ·simp only [List.mem_singleton] at e;rw [e];exact hx
theorem QXx (G:GrV) (hG:GrOK G) (b:List UInt8) (hb:b.length≤1048576):
  QM Tryz.prog gK 32 [.ptr 0 0,.seq b.length 1 (flat QC b)] (gO G) 4 (.tup [.agg (hcell (addF G b).2.1),.v (.int .i64 (addF G b).2.2)]) (gO (addF G b).1) 4:=by
 refine QM.start Tryz.func32 rfl zK rfl Tryz.ntmps32 fol zK (Nat.le_refl _) ?_
 simp only [List.zipIdx_cons,List.zipIdx_nil,List.map_cons,List.map_nil,Nat.zero_add,gO]
 have hWn:=hG.lenW
 have hLn:=hG.lenL
 refine zS ?_
 refine ((cGet_c b hb).gam).useV ?_
 obtain⟨R,hR⟩:∃R,R=addF G b:=⟨_,rfl⟩
 rw [←hR]
 rw [addF] at hR
 have hI:=QN8 (b:=b)
 obtain⟨q,hq⟩:∃q,q=QAd b:=⟨_,rfl⟩
 rw [←hq] at hR hI ⊢
 obtain⟨c,e⟩:=q
 simp only at hR hI
 refine zS ?_
 by_cases he:e=0
 ·subst he
  rw [if_neg (fun h=>h rfl)] at hR
  refine⟨fun h=>absurd rfl h,fun _=>?_⟩
  have hIt:=hI rfl
  have hB:=hIt.bnd
  have hic:(mkI b).c=c:=by rw [mkI,←hq]
  have hih:(mkI b).h=shaH b:=rfl
  have hib:(mkI b).b=b:=rfl
  have hcc:cclE (c,0)=ccl c:=if_pos rfl
  rw [hcc]
  have hS:=QSk b zo
  rw [←QLe] at hS
  refine zS ?_
  refine hS.useV ?_
  obtain⟨ws,hw1,hw2,hw3⟩:=QHw G.W (shaH b)
  (have X1:=hw1;have X2:=hw2;refine zS2 ?_;clear X1 X2)
  by_cases hW:shaH b∈QF G.W
  ·rw [if_pos (.inr hW)] at hR
   subst hR
   (have X1:=hW;refine zS1 ?_;clear X1)
   refine fzNM 4 [(0,0),(1,1),(2,2),(3,3)] [0] ?_ ?_<;>first | exact zC | refine zS ?_
   try rfl
  ·(have X1:=hW;refine zS1 ?_;clear X1)
   have hH:=(QcP G (shaH b)).gam (γ:=gK)
   rw [QBf] at hH
   refine hH.use (ids:=[0,1,2,3]) zCN (.inl rfl) ?_
   by_cases hL:shaH b∈QF G.L
   ·rw [if_pos (.inl hL)] at hR
    subst hR
    (have X1:=@hasL.eq_1;have X2:=hL;refine zS2 ?_;clear X1 X2)
    refine fzNM 4 [(0,0),(1,1),(2,2),(3,3)] [0] ?_ ?_<;>first | exact zC | refine zS ?_
    try rfl
   ·rw [if_neg (fun h=>h.elim hL hW)] at hR
    (have X1:=@hasL.eq_1;have X2:=hL;refine zS2 ?_;clear X1 X2)
    refine QO.useN ((QZb b hb).gam) rfl ?_
    (have X1:=@ccl.eq_1;refine zS1 ?_;clear X1)
    have hA:=(Qcj G c.deps (by have:=hB.deps;rw [hic] at this;omega)).gam (γ:=gK)
    rw [QBf] at hA
    refine hA.use (ids:=[0,1,2,3]) zCN (.inl rfl) ?_
    cases hall:allL G.L c.deps
    ·rw [if_pos hall] at hR
     have hadd:=QKU (L:=G.W) (x:=mkI b) hW
     have hms:=QI8 (L:=G.W) (x:=mkI b) hW
     rw [QDy,hic,hih,hib] at hms
     rw [hih] at hadd
     simp only [ccl,List.cons_append,List.nil_append] at hms
     (have X1:=@ccl.eq_1;refine zS1 ?_;clear X1)
     refine⟨fun h1=>?_,fun h1=>?_⟩
     ·rw [if_pos zo] at hR
      subst hR
      refine zS ?_
      refine fzNM 4 [(0,0),(1,1),(2,2),(3,3)] [0] ?_ ?_<;>first | exact zC | refine zS ?_
      rfl
     ·rw [if_neg zo] at hR
      subst hR
      (have X1:=@ccl.eq_1;have X2:=hadd;have X3:=hms;refine zS3 ?_;clear X1 X2 X3)
      refine fzNM 4 [(0,0),(1,1),(2,2),(3,3)] [0] ?_ ?_<;>first | exact zC | refine zS ?_
      try rfl
    ·rw [if_neg (by rw [hall];decide)] at hR
     have hkp:=(QaA G hG (mkI b) hB (by rw [hic];exact hall) (by rw [hih];exact hL)).gam (γ:=gK)
     rw [hih,QDy,hic,hib] at hkp
     simp only [gO,ccl,List.cons_append,List.nil_append] at hkp
     (have X1:=@ccl.eq_1;refine zS1 ?_;clear X1)
     refine QM.useX [0,1,2,3] hkp rfl zC ?_ ?_
     ·exact zC
     have hke:kepE G.L (mkI b)=if 4096≤G.L.length then 21 else fitF G.L c:=by rw [kepE,hic]
     have hkf:QBn G.L (mkI b)=if G.L.length<4096∧fitF G.L c=0 then G.L++[mkI b] else G.L:=by rw [QBn,hic]
     by_cases hful:4096≤G.L.length
     ·rw [if_pos hful] at hR hke
      rw [if_neg zo] at hkf
      rw [hke,hkf]
      subst hR
      refine zS ?_
      refine⟨fun _=>?_,fun h=>absurd h zD⟩
      refine zS ?_
      refine fzNM 4 [(0,0),(1,1),(2,2),(3,3)] [0] ?_ ?_<;>first | exact zC | refine zS ?_
      rfl
     ·rw [if_neg hful] at hR hke
      by_cases hfit:fitF G.L c=0
      ·rw [if_neg (fun h=>h hfit)] at hR
       rw [if_pos ⟨by omega,hfit⟩] at hkf
       rw [hke,hkf,hfit]
       refine zS ?_
       have hG2:GrOK ⟨G.L++[mkI b],G.W⟩:=hG.put (by rw [hih];exact hL) (by rw [hih];exact hW) (by rw [hic];exact hall) hIt zo
       refine QD (ι:=GrV) (fun q=>⟨[(0,.ptr 0 0),(4,.ptr 5 0),(8,.ptr 4 0)],⟨gO q++[(4,.cells 47 (hcell (shaH b)) false),(5,.cells 47 (hcell QBl) false)],6,6,0⟩⟩) (fun q=>GrOK q∧QEH (q.W.length+1) q=R.1) (fun q=>q.W.length) ⟨G.L++[mkI b],G.W⟩ ⟨hG2,by rw [hR]⟩ ?_ ?_
       ·simp only [gO,List.cons_append,List.nil_append]
        refine fzNM 4 [(0,0),(1,1),(2,2),(3,3),(4,320),(5,8)] [0] ?_ ?_<;>first | exact zC | refine zS ?_
        rfl
       rintro q ⟨hq1,hq2⟩
       have hwk:=(Qf8 q hq1).gam (γ:=gK)
       simp only [gO,List.cons_append,List.nil_append] at hwk ⊢
       refine zS ?_
       refine QM.useX [0,1,2,3] hwk rfl zC ?_ ?_
       ·exact zC
       rw [QEH] at hq2
       cases hwq:QEM q with
       | none=>
        rw [hwq] at hq2
        simp only at hq2
        rw [wakR,hwq,Option.getD_none]
        (have X1:=@Option.isSome_none.{0};refine zS1 ?_;clear X1)
        have h1:R.2.1=shaH b:=by rw [hR]
        have h2:R.2.2=0:=by rw [hR]
        rw [h1,h2,←hq2]
        refine fzNM 4 [(0,0),(1,1),(2,2),(3,3)] [0] ?_ ?_<;>first | exact zC | refine zS ?_
        try rfl
       | some q2=>
        obtain⟨k1,k2⟩:=QJc hq1 hwq
        rw [hwq] at hq2
        simp only at hq2
        rw [wakR,hwq,Option.getD_some]
        (have X1:=@Option.isSome_some.{0};refine zS1 ?_;clear X1)
        refine⟨q2,⟨k1,by rw [←hq2,k2]⟩,zO,?_⟩
        simp only [gO,List.cons_append,List.nil_append]
        exact fzN 4 [(0,0),(1,1),(2,2),(3,3),(4,4),(5,5)] [0]
      ·rw [if_pos hfit] at hR
       rw [if_neg (fun h=>hfit h.2)] at hkf
       rw [hke,hkf]
       subst hR
       refine zS ?_
       refine⟨fun _=>?_,fun h=>absurd h zo⟩
       refine zS ?_
       refine fzNM 4 [(0,0),(1,1),(2,2),(3,3)] [0] ?_ ?_<;>first | exact zC | refine zS ?_
       try rfl
 ·rw [if_pos he] at hR
  subst hR
  have he4:e=4:=by have:=QHk b;rw [←hq] at this;simp only at this;omega
  subst he4
  refine⟨fun _=>?_,fun h=>absurd h zo⟩
  refine zS ?_
  refine fzNM 4 [(0,0),(1,1),(2,2),(3,3)] [0] ?_ ?_<;>first | exact zC | refine zS ?_
  rfl
end Go.AW
