/- A part of the proof: D82 D81 D83. -/
import Derived.Test.YtpcbnjbpdooejaaGreatDoorPae
import Derived.Test.YtpcbnjbpdooejaaGreatDoorPaz
import Derived.Test.YtpcbnjbpdooejaaGreatDoorPbb
import Derived.Test.YtpcbnjbpdooejaaGreatDoorPba
import Derived.Test.YtpcbnjbpdooejaaGreatDoorCards
import Derived.Test.YtpcbnjbpdooejaaGreatDoorTie
import Derived.WalkKit
import Derived.ProofKit
import Derived.OpenShut
import Derived.Deep.DeepHandedRow
import Derived.Lib.LaidTab
set_option linter.unusedSimpArgs false
set_option linter.unusedVariables false
set_option maxRecDepth 100000
set_option maxHeartbeats 8000000
namespace Go.AW
open Proofs
theorem QgP (l:List MadeV) (hl:l.length≤65536) (hm:∀m∈l,mdOK m):QM Tryz.prog [] 27 [.seq l.length 5 (flat mdc l)] [] 0 (.tup [.sl 0 0 (bldF l).1.length 1,grA (bldF l).2]) [(0,.cells 23 (flat bc (bldF l).1) true)] 1:=by
 refine QM.start Tryz.func27 rfl zK rfl Tryz.ntmps27 fol zK zD ?_
 simp only [List.zipIdx_cons,List.zipIdx_nil,List.map_cons,List.map_nil,Nat.zero_add,grA]
 (have X1:=@grA.eq_1;refine zS1 ?_;clear X1)
 refine QD (ι:=Nat) (fun i=>⟨[(0,.seq l.length 5 (flat mdc l)),(3,.ptr 0 0),(4,.ptr 1 0),(5,.sl 2 0 (bldF (l.take i)).1.length 1),(6,.v (.int .i64 i))],⟨[(0,.cells 29 [.v (.slice none 0 0),.v (.slice none 0 0)] false),(1,.cells 29 [.seq (bldF (l.take i)).2.L.length 39 (flat itc (bldF (l.take i)).2.L),.seq (bldF (l.take i)).2.W.length 39 (flat itc (bldF (l.take i)).2.W)] false),(2,.cells 23 (flat bc (bldF (l.take i)).1) true)],3,3,0⟩⟩) (fun i=>i≤l.length) (fun i=>l.length - i) 0 (Nat.zero_le _) ?_ ?_
 ·(have X1:=@List.take_zero.{0};have X2:=@bldF.eq_1;have X3:=@List.foldl_nil.{0,0};have X4:=@QOx;exact fzN4 0 [(0,3),(1,88)] [1])
 intro i hi
 have hok:=QM0 (l.take i)
 have hnx:∀h:i<l.length,_:=fun h=>QTm (l:=l) (i:=i) h
 generalize hq:bldF (l.take i)=q at*
 obtain⟨out,G⟩:=q
 obtain⟨hG,hol⟩:=hok
 dsimp only at hG hol ⊢
 rw [List.length_take] at hol
 have hnL:=hG.lenL
 refine zS ?_
 refine⟨fun h1=>?_,fun h1=>?_⟩
 ·have hi1:i<l.length:=by omega
  have hmo:=hm _ (List.getElem_mem hi1)
  have hnx:=hnx hi1
  refine zS ?_
  generalize hM:l[i]=M at*
  have hsm:=QW7 hG hmo (onF G.L M)
  obtain⟨f,hf⟩:∃f:UInt8→Hs,f=fun o=>(QF G.L).getD (o.toNat % G.L.length) QBl:=⟨_,rfl⟩
  refine QD (ι:=Nat×List Hs) (fun q=>⟨[(0,.seq l.length 5 (flat mdc l)),(3,.ptr 0 0),(4,.ptr 1 0),(5,.sl 2 0 out.length 1),(6,.v (.int .i64 i)),(7,.sl 3 0 q.2.length 32),(8,.v (.int .i64 q.1))],⟨[(0,.cells 29 [.v (.slice none 0 0),.v (.slice none 0 0)] false),(1,.cells 29 [.seq G.L.length 39 (flat itc G.L),.seq G.W.length 39 (flat itc G.W)] false),(2,.cells 23 (flat bc out) true),(3,.cells 47 (flat hcell q.2) true)],4,4,0⟩⟩)
   (fun q=>q.1≤6∧q.1≤M.on.length∧(G.L.length=0→q.1=0)∧q.2=(M.on.take q.1).map f) (fun q=>6 - q.1) (0,[]) ⟨Nat.zero_le _,Nat.zero_le _,fun _=>rfl,rfl⟩ ?_ ?_
  ·(have X1:=@QOx;exact fzN1 0 [(0,0),(1,1),(2,2)] [1])
  rintro⟨k,acc⟩ ⟨hk6,hko,hk0,hacc⟩
  dsimp only at hk6 hko hk0 hacc ⊢
  have hal:acc.length≤6:=by rw [hacc,List.length_map,List.length_take];omega
  (have X1:=@mdc.eq_1;have X2:=hM;refine zS2 ?_;clear X1 X2)
  refine⟨fun a1=>?_,fun a1=>?_⟩
  ·(have X1:=@mdc.eq_1;have X2:=hM;refine zS2 ?_;clear X1 X2)
   refine⟨fun a2=>?_,fun a2=>?_⟩
   ·(have X1:=@mdc.eq_1;have X2:=hM;refine zS2 ?_;clear X1 X2)
    refine⟨fun a3=>?_,fun a3=>?_⟩
    ·have hk1:k<M.on.length:=by omega
     have hne:G.L.length≠0:=by omega
     have hb8:M.on[k].toNat<256:=M.on[k].toNat_lt
     have hml:M.on[k].toNat % G.L.length<G.L.length:=Nat.mod_lt _ zo
     have g0:(List.drop k (flat QC M.on))[0]?=some (.v (.int .u8 (M.on[k].toNat:Nat))):=by rw [List.getElem?_drop,Nat.add_zero,QBm hk1];simp [List.getD_eq_getElem?_getD,List.getElem?_eq_getElem hk1]
     have e5:((M.on[k].toNat:Int) % (G.L.length:Int)).toNat=M.on[k].toNat % G.L.length:=by omega
     have hfk:G.L[M.on[k].toNat % G.L.length].h=f M.on[k]:=by
      rw [hf]
      simp [QF,List.getD_eq_getElem?_getD,hml]
     have hfl:flat hcell acc++hcell (f M.on[k])=flat hcell (acc++[f M.on[k]]):=by rw [Q7];simp [flat]
     (have X1:=@mdc.eq_1;have X2:=hM;have X3:=g0;have X4:=e5;have X5:=hfk;have X6:=hfl;refine zS6 ?_;clear X1 X2 X3 X4 X5 X6)
     refine⟨(k+1,acc++[f M.on[k]]),⟨zO,hk1,fun q=>absurd q hne,?_⟩,zO,?_⟩
     ·show acc++[f M.on[k]]=(M.on.take (k+1)).map f
      rw [List.take_succ_eq_append_getElem hk1,List.map_append,←hacc];rfl
     (have X1:=@List.length_append.{0};have X2:=@List.length_cons.{0};have X3:=@List.length_nil.{0};exact fzN3 0 [(0,0),(1,1),(2,2),(3,145)] [1])
    ·skip
     have hon:acc=onF G.L M:=by
      rw [hacc,onF]
      by_cases h0:G.L.length=0
      ·rw [if_pos h0,hk0 h0];rfl
      ·rw [if_neg h0,hf]
       first
        | rw [show M.on.take k=M.on.take 6 from by rw [List.take_of_length_le zo,List.take_of_length_le zo]]
        | rw [show k=6 from by omega]
        | omega
     subst hon
     (have X1:=@mdc.eq_1;have X2:=hM;refine zS2 ?_;clear X1 X2)
     refine QO.useF (ids:=[3]) (u:=[(3,.dead)]) (QRB G hG M (onF G.L M) zo) rfl (by have X1:=@QLW;have X2:=@grA.eq_1;have X3:=@mdc.eq_1;exact zCN3) rfl rfl rfl ?_
     refine zS ?_
     refine QO.useV (QNI _ hsm) rfl ?_
     (have X1:=@List.getElem?_cons_succ.{0};refine zS1 ?_;clear X1)
     refine⟨fun c1=>?_,fun c1=>?_⟩
     ·rw [QC9,if_neg (by dsimp only;omega)] at hnx
      refine zS ?_
      refine⟨i+1,hi1,zO,?_⟩
      simp only [hnx]
      exact fzN 0 [(0,0),(1,1),(2,2)] [1]
     ·have hE:chE2 (makF G.L M (onF G.L M))=0:=by omega
      rw [QC9,if_pos hE] at hnx
      dsimp only at hnx
      have hR:chR (makF G.L M (onF G.L M))=chB (makF G.L M (onF G.L M)):=by rw [chR,if_pos hE]
      have hBl:=(QDI hE).2
      rw [hR]
      generalize chB (makF G.L M (onF G.L M))=B at*
      refine zS ?_
      have hA:=QKO G hG B zo
      simp only [grA] at hA
      refine hA.useV ?_
      (have X1:=@List.getElem?_cons_succ.{0};refine zS1 ?_;clear X1)
      refine⟨i+1,hi1,zO,?_⟩
      simp only [hnx]
      have hfb:flat bc out++[AV.seq B.length 1 (flat QC B)]=flat bc (out++[B]):=by rw [Q7];rfl
      (have X1:=hfb;have X2:=@List.length_append.{0};have X3:=@List.length_cons.{0};have X4:=@List.length_nil.{0};exact fzN4 0 [(0,0),(1,1),(2,330)] [1])
   ·skip
    have hon:acc=onF G.L M:=by
     rw [hacc,onF]
     by_cases h0:G.L.length=0
     ·rw [if_pos h0,hk0 h0];rfl
     ·rw [if_neg h0,hf]
      first
       | rw [show M.on.take k=M.on.take 6 from by rw [List.take_of_length_le zo,List.take_of_length_le zo]]
       | rw [show k=6 from by omega]
       | omega
    subst hon
    (have X1:=@mdc.eq_1;have X2:=hM;refine zS2 ?_;clear X1 X2)
    refine QO.useF (ids:=[3]) (u:=[(3,.dead)]) (QRB G hG M (onF G.L M) zo) rfl (by have X1:=@QLW;have X2:=@grA.eq_1;have X3:=@mdc.eq_1;exact zCN3) rfl rfl rfl ?_
    refine zS ?_
    refine QO.useV (QNI _ hsm) rfl ?_
    (have X1:=@List.getElem?_cons_succ.{0};refine zS1 ?_;clear X1)
    refine⟨fun c1=>?_,fun c1=>?_⟩
    ·rw [QC9,if_neg (by dsimp only;omega)] at hnx
     refine zS ?_
     refine⟨i+1,hi1,zO,?_⟩
     simp only [hnx]
     exact fzN 0 [(0,0),(1,1),(2,2)] [1]
    ·have hE:chE2 (makF G.L M (onF G.L M))=0:=by omega
     rw [QC9,if_pos hE] at hnx
     dsimp only at hnx
     have hR:chR (makF G.L M (onF G.L M))=chB (makF G.L M (onF G.L M)):=by rw [chR,if_pos hE]
     have hBl:=(QDI hE).2
     rw [hR]
     generalize chB (makF G.L M (onF G.L M))=B at*
     refine zS ?_
     have hA:=QKO G hG B zo
     simp only [grA] at hA
     refine hA.useV ?_
     (have X1:=@List.getElem?_cons_succ.{0};refine zS1 ?_;clear X1)
     refine⟨i+1,hi1,zO,?_⟩
     simp only [hnx]
     have hfb:flat bc out++[AV.seq B.length 1 (flat QC B)]=flat bc (out++[B]):=by rw [Q7];rfl
     (have X1:=hfb;have X2:=@List.length_append.{0};have X3:=@List.length_cons.{0};have X4:=@List.length_nil.{0};exact fzN4 0 [(0,0),(1,1),(2,330)] [1])
  ·skip
   have hon:acc=onF G.L M:=by
    rw [hacc,onF]
    by_cases h0:G.L.length=0
    ·rw [if_pos h0,hk0 h0];rfl
    ·rw [if_neg h0,hf]
     first
      | rw [show M.on.take k=M.on.take 6 from by rw [List.take_of_length_le zo,List.take_of_length_le zo]]
      | rw [show k=6 from by omega]
      | omega
   subst hon
   (have X1:=@mdc.eq_1;have X2:=hM;refine zS2 ?_;clear X1 X2)
   refine QO.useF (ids:=[3]) (u:=[(3,.dead)]) (QRB G hG M (onF G.L M) zo) rfl (by have X1:=@QLW;have X2:=@grA.eq_1;have X3:=@mdc.eq_1;exact zCN3) rfl rfl rfl ?_
   refine zS ?_
   refine QO.useV (QNI _ hsm) rfl ?_
   (have X1:=@List.getElem?_cons_succ.{0};refine zS1 ?_;clear X1)
   refine⟨fun c1=>?_,fun c1=>?_⟩
   ·rw [QC9,if_neg (by dsimp only;omega)] at hnx
    refine zS ?_
    refine⟨i+1,hi1,zO,?_⟩
    simp only [hnx]
    exact fzN 0 [(0,0),(1,1),(2,2)] [1]
   ·have hE:chE2 (makF G.L M (onF G.L M))=0:=by omega
    rw [QC9,if_pos hE] at hnx
    dsimp only at hnx
    have hR:chR (makF G.L M (onF G.L M))=chB (makF G.L M (onF G.L M)):=by rw [chR,if_pos hE]
    have hBl:=(QDI hE).2
    rw [hR]
    generalize chB (makF G.L M (onF G.L M))=B at*
    refine zS ?_
    have hA:=QKO G hG B zo
    simp only [grA] at hA
    refine hA.useV ?_
    (have X1:=@List.getElem?_cons_succ.{0};refine zS1 ?_;clear X1)
    refine⟨i+1,hi1,zO,?_⟩
    simp only [hnx]
    have hfb:flat bc out++[AV.seq B.length 1 (flat QC B)]=flat bc (out++[B]):=by rw [Q7];rfl
    (have X1:=hfb;have X2:=@List.length_append.{0};have X3:=@List.length_cons.{0};have X4:=@List.length_nil.{0};exact fzN4 0 [(0,0),(1,1),(2,330)] [1])
 ·have hii:i=l.length:=by omega
  subst hii
  rw [List.take_length] at hq
  rw [hq]
  refine zS ?_
  exact fzN 0 [(0,2)] []
open Proofs
theorem bf_all {l:List (List UInt8)} {n:Nat} (h:l.length≤n):(flat bc l).take n=flat bc l:=List.take_of_length_le (by rw [QSK];exact h)
theorem QgT (l:List MadeV) (hl:l.length≤1048576) (hm:∀m∈l,mdOK m) (order:List UInt8) (ho:order.length≤1048576) (raw:List UInt8) (hr:raw.length≤1048576):QE Tryz.prog gK 5 [.seq l.length 5 (flat mdc l),.seq order.length 1 (flat QC order),.seq raw.length 1 (flat QC raw)] (.v (.bool true)):=by
 refine QE.start Tryz.func5 rfl (by kernel_rfl) rfl Tryz.ntmps5 fol (by kernel_rfl) (by simp [idfL,idf,QZ QS,QS,Qg,Qy,QJY,Qg]) (by simp [idfL,idf,QZ QS,QS,Qg,Qy,QJY,Qg]) ?_
 refine zZ ?_
 refine ((Qfk l hl (fun m h=>(hm m h).2.2.1) (fun m h o k=>((hm m h).2.2.2 o k).2.1)).gam).useV ?_
 cases hf:fewF l
 ·refine zS ?_
  refine QGT.useV ?_
  exact zC
 have hl30:=QdR hf
 refine zS ?_
 have hB:=(QgP l zo hm).gam (γ:=gK)
 have hall:=Qd8 l
 have hal:=(QM0 l).2
 generalize (bldF l).2=G0 at*
 generalize (bldF l).1=all at*
 simp only [grA] at hB
 refine QM.useX [] hB rfl zC zC ?_
 refine zS ?_
 obtain⟨A,hA⟩:∃A,A=all++[raw]:=⟨_,rfl⟩
 have hAl:all.length+1=A.length:=by rw [hA,List.length_append];rfl
 have hAf:flat bc all++[AV.seq raw.length 1 (flat QC raw)]=flat bc A:=by rw [hA,Q7];rfl
 have hAb:∀b∈A,b.length≤1048576:=fun b hb=>by
  rw [hA] at hb
  rcases List.mem_append.1 hb with k | k
  ·exact Nat.le_trans (hall b k) zD
  ·rw [List.mem_singleton] at k;rw [k];exact hr
 have hA0:0<A.length:=by omega
 have hA1:A.length≤65536:=by omega
 have hN:=Qfi.gam (γ:=gK)
 refine QM.useX [] hN rfl zC zC ?_
 (have X1:=@gO.eq_1;have X2:=hAl;have X3:=hAf;refine zS3 ?_;clear X1 X2 X3)
 clear hA hAl hAf hall hal
 refine QD (ι:=Nat) (fun i=>⟨[(1,.seq order.length 1 (flat QC order)),(7,.seq A.length 1 (flat bc A)),(9,.ptr 0 0),(10,.ptr 4 0),(11,.v (.int .i64 i))],⟨gO (stA A order i)++[(4,.cells 29 [.seq (stA A order i).L.length 39 (flat itc (stA A order i).L),.seq (stA A order i).W.length 39 (flat itc (stA A order i).W)] false)],5,5,0⟩⟩) (fun i=>i≤order.length∧i≤80) (fun i=>80 - i) 0 ⟨Nat.zero_le _,Nat.zero_le _⟩ ?_ ?_
 ·simp only [gO,List.cons_append,List.nil_append,QXE]
  (have X1:=@QOx;have X2:=@bf_all;refine fzNM 0 [(0,506),(1,507),(2,508),(3,509),(4,621)] [0,4] ?_ ?_<;>first | exact zC2 | refine zS2 ?_)
 rintro i ⟨h1,h2⟩
 have hG:=QaN (all:=A) (order:=order) (i:=i)
 obtain⟨G,hGe⟩:∃G,G=stA A order i:=⟨_,rfl⟩
 rw [←hGe] at hG ⊢
 simp only [gO,List.cons_append,List.nil_append]
 refine zS ?_
 refine⟨fun a1=>?_,fun a1=>?_⟩
 refine zS ?_
 refine⟨fun a2=>?_,fun a2=>?_⟩
 ·have hi1:i<order.length:=by omega
  have hb8:order[i].toNat<256:=order[i].toNat_lt
  have hml:order[i].toNat % A.length<A.length:=Nat.mod_lt _ hA0
  have g0:(List.drop i (flat QC order))[0]?=some (.v (.int .u8 (order[i].toNat:Nat))):=by rw [List.getElem?_drop,Nat.add_zero,QBm hi1];simp [List.getD_eq_getElem?_getD,List.getElem?_eq_getElem hi1]
  have e5:((order[i].toNat:Int) % (A.length:Int)).toNat=order[i].toNat % A.length:=by omega
  have hnx:=QYx (all:=A) hi1
  rw [←hGe,QMi hml] at hnx
  have hbl:=hAb _ (List.getElem_mem hml)
  (have X1:=g0;have X2:=e5;have X3:=@bc.eq_1;refine zS3 ?_;clear X1 X2 X3)
  generalize A[order[i].toNat % A.length]=B at*
  have hAm:=Add_o G hG B hbl
  have hAr:=(QKO G hG B hbl).gam (γ:=gK)
  have hG2:GrOK (addF G B).1:=QJO hG B
  have hs:=(Qe7 (addF G B).1 hG2 (Qeo hG2)).gam (γ:=gK)
  have hnx2:(addF G B).1=stA A order (i+1):=hnx.symm
  simp only [grA,gO,List.cons_append,List.nil_append] at hAm hAr hs
  rw [QBf] at hs
  generalize hRe:addF G B=R at*
  obtain⟨G',hh,ee⟩:=R
  dsimp only at hAm hAr hs hG2 hnx2
  refine QM.useX [0,1,2,3,266] hAm rfl zC zC ?_
  (have X1:=@List.getElem?_cons_succ.{0};refine zS1 ?_;clear X1)
  refine hAr.useV ?_
  (have X1:=@List.getElem?_cons_succ.{0};refine zS1 ?_;clear X1)
  refine QD (ι:=Nat×List UInt8) (fun q=>⟨[(1,.seq order.length 1 (flat QC order)),(7,.seq A.length 1 (flat bc A)),(9,.ptr 0 0),(10,.ptr 4 0),(11,.v (.int .i64 i)),(13,.sl 5 0 B.length 1),(14,.ptr 6 0),(15,.v (.int .i64 ee)),(16,.ptr 7 0),(17,.ptr 8 0),(18,.v (.int .i64 ee)),(19,.v (.int .i64 q.1))],⟨gO G'++[(4,.cells 29 [.seq G.L.length 39 (flat itc G.L),.seq G.W.length 39 (flat itc G.W)] false),(5,.cells 5 (flat QC q.2) true),(6,.cells 47 (hcell hh) false),(7,.cells 29 [.seq G'.L.length 39 (flat itc G'.L),.seq G'.W.length 39 (flat itc G'.W)] false),(8,.cells 47 (hcell hh) false)],9,9,0⟩⟩) (fun q=>q.1≤B.length∧q.2.length=B.length) (fun q=>B.length - q.1) (0,B) ⟨Nat.zero_le _,rfl⟩ ?_ ?_
  ·simp only [gO,List.cons_append,List.nil_append]
   refine fzNM 0 [(0,0),(1,1),(2,2),(3,3),(4,4),(5,266),(6,322),(7,425),(8,426)] [0] ?_ ?_<;>first | exact zC | refine zS ?_
  rintro⟨k,bs⟩ ⟨hk1,hbl2⟩
  dsimp only at hk1 hbl2 ⊢
  simp only [gO,List.cons_append,List.nil_append]
  refine zS ?_
  refine⟨fun c1=>?_,fun c1=>?_⟩
  ·have hk2:k<bs.length:=by omega
   have hg:=QBm hk2
   rw [QMi hk2] at hg
   (have X1:=hg;refine zS1 ?_;clear X1)
   refine⟨(k+1,bs.set k (U8 (((bs[k].toNat:Nat):Int)+1))),⟨by omega,by show (bs.set k _).length=_;rw [List.length_set,hbl2]⟩,zO,?_⟩
   simp only [gO,List.cons_append,List.nil_append]
   refine fzNM 0 [(0,0),(1,1),(2,2),(3,3),(4,4),(5,5),(6,6),(7,7),(8,8)] [0] ?_ ?_<;>first | exact zC | refine zS ?_
  refine zS ?_
  refine hs.use (ids:=[0,1,2,3]) zCN (.inl rfl) ?_
  refine zS ?_
  rw [hnx2]
  refine⟨i+1,⟨hi1,by omega⟩,zO,?_⟩
  simp only [gO,List.cons_append,List.nil_append]
  refine fzNM 0 [(0,0),(1,1),(2,2),(3,3),(4,4)] [0] ?_ ?_<;>first | exact zC | refine zS ?_
 all_goals
  refine zS ?_
  refine QGT.useV ?_
  exact zC
end Go.AW
namespace Go.Proofs.YtpcbnjbpdooejaaGreatDoor.dagPlays
open Go.ChangeShapes Go.WideShapes Go.ChangeAt Go.RowKit Go.AW
mutual
theorem QIX {H:Type}:∀d:DataW H,Rows.uptoBulk d=bulk d
 | .lit l=>by cases l<;>simp [Rows.uptoBulk,bulk]
 | .nil=>by simp [Rows.uptoBulk,bulk]
 | .ptr d=>by simp [Rows.uptoBulk,bulk,QIX d]
 | .slice a b=>by simp [Rows.uptoBulk,bulk,bulkAll_eq a,bulkAll_eq b]
 | .agg a=>by simp [Rows.uptoBulk,bulk,bulkAll_eq a]
 | .iface _ d=>by simp [Rows.uptoBulk,bulk,QIX d]
 | .map es=>by simp [Rows.uptoBulk,bulk,bulkEntries_eq es]
 | .held _=>by simp [Rows.uptoBulk,bulk]
theorem bulkAll_eq {H:Type}:∀ds:List (DataW H),Rows.uptoBulkAll ds=bulkAll ds
 | []=>rfl
 | d::ds=>by simp [Rows.uptoBulkAll,bulkAll,QIX d,bulkAll_eq ds]
theorem bulkEntries_eq {H:Type}:∀es:List (Lit×DataW H),Rows.uptoBulkEntries es=bulkEntries es
 | []=>rfl
 | e::es=>by simp [Rows.uptoBulkEntries,bulkEntries,bulkEntry_eq e,bulkEntries_eq es]
theorem bulkEntry_eq {H:Type}:∀e:Lit×DataW H,Rows.uptoBulkEntry e=bulkEntry e
 | (l,d)=>by cases l<;>simp [Rows.uptoBulkEntry,bulkEntry,QIX d]
end
theorem own:ownKnob Tryz.prog.godebug=none:=zK
theorem laidOut:laidOutB Tryz.prog=true:=zK
theorem Qef:QCk Tryz.prog 6 22=true:=zK
theorem Qee:QCk Tryz.prog 6 23=true:=zK
set_option maxRecDepth 100000 in
theorem contract (H:Type) (enc:TypeId×Value→H) (W:World) (base:Nat) (args:Array Value) (ds gs:List (DataW H)) (before:List MemPlace)
  (hval:∀(j:Nat) t v,Tryz.f5.params[j]?=some t→args[j]?=some v→Value.okWide Tryz.prog W .any base t v)
  (hW:DataW.Whole enc Tryz.prog Tryz.f5.params.toList Rows.dagPlaysSpec.vars false W args.toList ds gs before) (hk:Rows.uptoSmall H (ds++gs)=true) (hL:laidMetH Tryz.prog Rows.dagPlaysUptoRow.laid W):
  Calls Tryz.prog 5 args W fun e W'=>∃v,e=.returned v∧Rows.dagPlaysSpec.post enc Tryz.prog Tryz.f5 false true false false W args v W':=by
 have hW':=hW
 obtain⟨p,q,hA0,hV,rfl,hfz,hnd⟩:=hW
 have hA:DataW.TrodAll enc Tryz.prog W 0 (fun _=>true) true Tryz.f5.params.toList args.toList ds p:=hA0
 rw [Tryz.params5] at hA hval
 obtain⟨v0,vs0,d0,ds0,p0,q0,hargs,rfl,rfl,h0,r0⟩:=trodAll_cons hA
 obtain⟨v1,vs1,d1,ds1,p1,q1,rfl,rfl,rfl,h1,r1⟩:=trodAll_cons r0
 obtain⟨v2,vs2,d2,ds2,p2,q2,rfl,rfl,rfl,h2,r2⟩:=trodAll_cons r1
 obtain⟨rfl,rfl,rfl⟩:=trodAll_nil r2
 obtain rfl:args=#[v0,v1,v2]:=by cases args;simp_all
 obtain⟨rfl,rfl⟩:=trodVars_none hV
 clear hA0
 obtain⟨xs0,x0,a0,b0,c0,i0⟩:=QMX Qef (hval 0 22 v0 rfl rfl) h0
 obtain⟨xs1,x1,a1,b1,c1,i1⟩:=QMX Qee (hval 1 23 v1 rfl rfl) h1
 obtain⟨xs2,x2,a2,b2,c2,i2⟩:=QMX Qee (hval 2 23 v2 rfl rfl) h2
 obtain⟨y0,rfl,s0,o0⟩:=(Rd.mades) H _ _ _ a0
 obtain⟨y1,rfl,s1,o1⟩:=(Rd.bytes) H _ _ _ a1
 obtain⟨y2,rfl,s2,o2⟩:=(Rd.bytes) H _ _ _ a2
 dsimp only at s0 s1 s2
 have hk':bulkAll ([d0,d1,d2]++[])≤1048576:=by rw [←bulkAll_eq];exact of_decide_eq_true hk
 simp only [bulkAll,List.append_nil] at hk'
 obtain⟨hl0,hm0⟩:=Qdz zo o0
 simp only [avOf,QRV,QR2,List.head?_cons,Option.some.injEq] at b0 b1 b2
 subst b0;subst b1;subst b2
 have hp:=QgT y0 hl0 hm0 y1 (by have:=QL6 s1;omega) y2 (by have:=QL6 s2;omega)
 refine (hp.lawG (w:=W) (args:=#[v0,v1,v2]) (GOK.laid hL) (by simp only [RepL];exact⟨v0,_,rfl,c0,v1,_,rfl,c1,v2,_,rfl,c2,rfl⟩)).mono fun e W' ⟨he,hb⟩=>?_
 subst he
 exact⟨_,rfl,QXf laidOut zK zK Tryz.underlying4 hW' rfl rfl hb⟩
noncomputable def QGV (os:Os):World:=
 { World.holding Tryz.prog os ⟨#[],#[],[]⟩ with heap:=(((World.holding Tryz.prog os ⟨#[],#[],[]⟩).heap.modify 0 fun
   | .cells _ t frozen=>.cells (zB.map fun z=>Value.int .u32 z).toArray t frozen
   | o=>o).modify 1 fun
   | .cells _ t frozen=>.cells (zR.map fun z=>Value.int .u32 z).toArray t frozen
   | o=>o) }
theorem QV8 (os:Os):laidMet Tryz.prog Rows.dagPlaysUptoRow.laid ((QGV os).forCall (fun _ _=>0) ⟨#[],#[.slice none 0 0,.slice none 0 0,.slice none 0 0],[]⟩).memory:=
 laidMet_of_run' 8 zK zK
theorem Qew (os:Os) {H:Type} (enc:TypeId×Value→H):∃places,DataW.whole enc Tryz.prog ((QGV os).forCall (fun _ _=>0) ⟨#[],#[.slice none 0 0,.slice none 0 0,.slice none 0 0],[]⟩).memory Tryz.f5.params.toList Rows.dagPlaysSpec.vars false (#[.slice none 0 0,.slice none 0 0,.slice none 0 0]:Array Value).toList 8=some ([.nil,.nil,.nil],[],places):=
 ⟨[],by kernel_rfl⟩
set_option maxRecDepth 100000 in
theorem lifted (os:Os) (started:os.Started) (H:Type) (enc:TypeId×Value→H) (F:Stop.Interp):
  ReturnsInHanded {} Tryz.checked os 5 .any ((Rows.OpenSpec.upto Rows.dagPlaysSpec).preRow enc Tryz.prog Tryz.f5 Rows.dagPlaysUptoRow.domain false Rows.dagPlaysUptoRow.laid) (((Rows.OpenSpec.upto Rows.dagPlaysSpec).at F).post enc Tryz.prog Tryz.f5 false true false false):=by
 obtain⟨places,hx⟩:=Qew os enc
 refine returnsInHanded_of_row (C:=Tryz.checked) (s:=Rows.OpenSpec.upto Rows.dagPlaysSpec) own started zK Tryz.func5
  (witness_row_at (enc:=enc) (C:=Tryz.checked) false (QGV os) #[.slice none 0 0,.slice none 0 0,.slice none 0 0] rfl zK zK zK
   (OpenSpec.preRow_of_cond 8 hx zK (fun k hk=>by cases hk;kernel_rfl) zK (QV8 os))) ?_
 intro W base args ds gs before hval hW h1 hk h3 hL _ _
 exact contract H enc W base args ds gs before hval hW (hk _ rfl) hL
theorem Q8 {a b:Bool} (ha:a=true) (hb:b=true):(a&&b)=true:=by rw [ha,hb];rfl
theorem fact1:(fun (P:Program) (f:FuncId) (fn:Func) (s:ChangeSpec) (c:OpenClaim)=>(c.wf (OpenSpec.ofChange s):Bool)) Tryz.prog 5 Tryz.f5 ((Rows.OpenSpec.upto Rows.dagPlaysSpec).bare) (Rows.dagPlaysUptoRow)=true:=zK
theorem fact2:(fun (P:Program) (f:FuncId) (fn:Func) (s:ChangeSpec) (c:OpenClaim)=>(laidOutB P:Bool)) Tryz.prog 5 Tryz.f5 ((Rows.OpenSpec.upto Rows.dagPlaysSpec).bare) (Rows.dagPlaysUptoRow)=true:=zK
theorem fact3:(fun (P:Program) (f:FuncId) (fn:Func) (s:ChangeSpec) (c:OpenClaim)=>(mapsRowed P:Bool)) Tryz.prog 5 Tryz.f5 ((Rows.OpenSpec.upto Rows.dagPlaysSpec).bare) (Rows.dagPlaysUptoRow)=true:=zK
theorem fact4:(fun (P:Program) (f:FuncId) (fn:Func) (s:ChangeSpec) (c:OpenClaim)=>(fn.params.all (P.readableRec ·):Bool)) Tryz.prog 5 Tryz.f5 ((Rows.OpenSpec.upto Rows.dagPlaysSpec).bare) (Rows.dagPlaysUptoRow)=true:=zK
theorem fact5:(fun (P:Program) (f:FuncId) (fn:Func) (s:ChangeSpec) (c:OpenClaim)=>(namedTie P c.named s.vars:Bool)) Tryz.prog 5 Tryz.f5 ((Rows.OpenSpec.upto Rows.dagPlaysSpec).bare) (Rows.dagPlaysUptoRow)=true:=zK
theorem fact6:(fun (P:Program) (f:FuncId) (fn:Func) (s:ChangeSpec) (c:OpenClaim)=>((c.stops==[]):Bool)) Tryz.prog 5 Tryz.f5 ((Rows.OpenSpec.upto Rows.dagPlaysSpec).bare) (Rows.dagPlaysUptoRow)=true:=zK
theorem fact7:(fun (P:Program) (f:FuncId) (fn:Func) (s:ChangeSpec) (c:OpenClaim)=>((P.stops==[]):Bool)) Tryz.prog 5 Tryz.f5 ((Rows.OpenSpec.upto Rows.dagPlaysSpec).bare) (Rows.dagPlaysUptoRow)=true:=zK
theorem fact8:(fun (P:Program) (f:FuncId) (fn:Func) (s:ChangeSpec) (c:OpenClaim)=>((c.knobs==[]):Bool)) Tryz.prog 5 Tryz.f5 ((Rows.OpenSpec.upto Rows.dagPlaysSpec).bare) (Rows.dagPlaysUptoRow)=true:=zK
theorem fact9:(fun (P:Program) (f:FuncId) (fn:Func) (s:ChangeSpec) (c:OpenClaim)=>((P.stopKnobs==[]):Bool)) Tryz.prog 5 Tryz.f5 ((Rows.OpenSpec.upto Rows.dagPlaysSpec).bare) (Rows.dagPlaysUptoRow)=true:=zK
theorem fact10:(fun (P:Program) (f:FuncId) (fn:Func) (s:ChangeSpec) (c:OpenClaim)=>((c.inPlace==P.inPlace f):Bool)) Tryz.prog 5 Tryz.f5 ((Rows.OpenSpec.upto Rows.dagPlaysSpec).bare) (Rows.dagPlaysUptoRow)=true:=zK
theorem fact11:(fun (P:Program) (f:FuncId) (fn:Func) (s:ChangeSpec) (c:OpenClaim)=>((c.unfollowed==P.unfollowed f):Bool)) Tryz.prog 5 Tryz.f5 ((Rows.OpenSpec.upto Rows.dagPlaysSpec).bare) (Rows.dagPlaysUptoRow)=true:=zK
theorem fact12:(fun (P:Program) (f:FuncId) (fn:Func) (s:ChangeSpec) (c:OpenClaim)=>((c.recurses==P.recurses f):Bool)) Tryz.prog 5 Tryz.f5 ((Rows.OpenSpec.upto Rows.dagPlaysSpec).bare) (Rows.dagPlaysUptoRow)=true:=zK
theorem fact13:(fun (P:Program) (f:FuncId) (fn:Func) (s:ChangeSpec) (c:OpenClaim)=>((c.named==P.varsNamed f):Bool)) Tryz.prog 5 Tryz.f5 ((Rows.OpenSpec.upto Rows.dagPlaysSpec).bare) (Rows.dagPlaysUptoRow)=true:=zK
theorem fact14:(fun (P:Program) (f:FuncId) (fn:Func) (s:ChangeSpec) (c:OpenClaim)=>((c.maps==(fn.params.toList++s.plain.varTypes P).any (P.mapsRec ·)):Bool)) Tryz.prog 5 Tryz.f5 ((Rows.OpenSpec.upto Rows.dagPlaysSpec).bare) (Rows.dagPlaysUptoRow)=true:=zK
theorem fact15:(fun (P:Program) (f:FuncId) (fn:Func) (s:ChangeSpec) (c:OpenClaim)=>((c.ifaces==(fn.params.toList++s.plain.varTypes P).any (P.ifacesRec ·)):Bool)) Tryz.prog 5 Tryz.f5 ((Rows.OpenSpec.upto Rows.dagPlaysSpec).bare) (Rows.dagPlaysUptoRow)=true:=zK
theorem fact16:(fun (P:Program) (f:FuncId) (fn:Func) (s:ChangeSpec) (c:OpenClaim)=>((c.mapsOut==P.mapsAmong fn.resultTypes.toList):Bool)) Tryz.prog 5 Tryz.f5 ((Rows.OpenSpec.upto Rows.dagPlaysSpec).bare) (Rows.dagPlaysUptoRow)=true:=zK
theorem fact17:(fun (P:Program) (f:FuncId) (fn:Func) (s:ChangeSpec) (c:OpenClaim)=>((c.loops==(fn.params.toList++s.plain.varTypes P).any (P.loopsFrom ·)):Bool)) Tryz.prog 5 Tryz.f5 ((Rows.OpenSpec.upto Rows.dagPlaysSpec).bare) (Rows.dagPlaysUptoRow)=true:=zK
theorem fact18:(fun (P:Program) (f:FuncId) (fn:Func) (s:ChangeSpec) (c:OpenClaim)=>((c.wideKeys==(fn.params.toList++s.plain.varTypes P++fn.resultTypes.toList).any (P.wideKeysFrom ·)):Bool)) Tryz.prog 5 Tryz.f5 ((Rows.OpenSpec.upto Rows.dagPlaysSpec).bare) (Rows.dagPlaysUptoRow)=true:=zK
theorem fact19:(fun (P:Program) (f:FuncId) (fn:Func) (s:ChangeSpec) (c:OpenClaim)=>(s.vars.all (P.varReadable ·):Bool)) Tryz.prog 5 Tryz.f5 ((Rows.OpenSpec.upto Rows.dagPlaysSpec).bare) (Rows.dagPlaysUptoRow)=true:=zK
theorem fact20:(fun (P:Program) (f:FuncId) (fn:Func) (s:ChangeSpec) (c:OpenClaim)=>(fn.resultTypes.all (fun t=>P.readableRec t&&decide (t<P.types.size)):Bool)) Tryz.prog 5 Tryz.f5 ((Rows.OpenSpec.upto Rows.dagPlaysSpec).bare) (Rows.dagPlaysUptoRow)=true:=zK
theorem fact21:(fun (P:Program) (f:FuncId) (fn:Func) (s:ChangeSpec) (c:OpenClaim)=>((c.ifacesOut==fn.resultTypes.toList.any (P.ifacesRec ·)):Bool)) Tryz.prog 5 Tryz.f5 ((Rows.OpenSpec.upto Rows.dagPlaysSpec).bare) (Rows.dagPlaysUptoRow)=true:=zK
theorem fact22:(fun (P:Program) (f:FuncId) (fn:Func) (s:ChangeSpec) (c:OpenClaim)=>((c.loopsOut==fn.resultTypes.toList.any (P.loopsFrom ·)):Bool)) Tryz.prog 5 Tryz.f5 ((Rows.OpenSpec.upto Rows.dagPlaysSpec).bare) (Rows.dagPlaysUptoRow)=true:=zK
theorem fact23:(fun (P:Program) (f:FuncId) (fn:Func) (s:ChangeSpec) (c:OpenClaim)=>((c.plainKeys==P.plainKeys):Bool)) Tryz.prog 5 Tryz.f5 ((Rows.OpenSpec.upto Rows.dagPlaysSpec).bare) (Rows.dagPlaysUptoRow)=true:=zK
theorem fact24:(fun (P:Program) (f:FuncId) (fn:Func) (s:ChangeSpec) (c:OpenClaim)=>(c.shortTexts.isNone:Bool)) Tryz.prog 5 Tryz.f5 ((Rows.OpenSpec.upto Rows.dagPlaysSpec).bare) (Rows.dagPlaysUptoRow)=true:=zK
theorem fact25:(fun (P:Program) (f:FuncId) (fn:Func) (s:ChangeSpec) (c:OpenClaim)=>(P.stopsHeard:Bool)) Tryz.prog 5 Tryz.f5 ((Rows.OpenSpec.upto Rows.dagPlaysSpec).bare) (Rows.dagPlaysUptoRow)=true:=zK
theorem fact26:(fun (P:Program) (f:FuncId) (fn:Func) (s:ChangeSpec) (c:OpenClaim)=>(P.mayEnter:Bool)) Tryz.prog 5 Tryz.f5 ((Rows.OpenSpec.upto Rows.dagPlaysSpec).bare) (Rows.dagPlaysUptoRow)=true:=zK
theorem fact27:(fun (P:Program) (f:FuncId) (fn:Func) (s:ChangeSpec) (c:OpenClaim)=>((c.lifted==P.liftsFinal):Bool)) Tryz.prog 5 Tryz.f5 ((Rows.OpenSpec.upto Rows.dagPlaysSpec).bare) (Rows.dagPlaysUptoRow)=true:=zK
theorem fact28:(fun (P:Program) (f:FuncId) (fn:Func) (s:ChangeSpec) (c:OpenClaim)=>((P.make==some c.make):Bool)) Tryz.prog 5 Tryz.f5 ((Rows.OpenSpec.upto Rows.dagPlaysSpec).bare) (Rows.dagPlaysUptoRow)=true:=zK
theorem fact29:(fun (P:Program) (f:FuncId) (fn:Func) (s:ChangeSpec) (c:OpenClaim)=>((c.kinds==(if c.domain.isEmpty then [] else fn.params.toList.map fun t=>match P.underlying t with | some (.int k)=>some k | _=>none)):Bool)) Tryz.prog 5 Tryz.f5 ((Rows.OpenSpec.upto Rows.dagPlaysSpec).bare) (Rows.dagPlaysUptoRow)=true:=zK
theorem fact30:(fun (P:Program) (f:FuncId) (fn:Func) (s:ChangeSpec) (c:OpenClaim)=>((c.pinned==c.pinnedBy):Bool)) Tryz.prog 5 Tryz.f5 ((Rows.OpenSpec.upto Rows.dagPlaysSpec).bare) (Rows.dagPlaysUptoRow)=true:=zK
theorem fact31:(fun (P:Program) (f:FuncId) (fn:Func) (s:ChangeSpec) (c:OpenClaim)=>((c.veiled==(fn.params.toList++s.plain.varTypes P++fn.resultTypes.toList).any (P.veiledRec ·)):Bool)) Tryz.prog 5 Tryz.f5 ((Rows.OpenSpec.upto Rows.dagPlaysSpec).bare) (Rows.dagPlaysUptoRow)=true:=zK
theorem fact32:(fun (P:Program) (f:FuncId) (fn:Func) (s:ChangeSpec) (c:OpenClaim)=>(c.veiledFits P fn.params.toList (fn.params.toList++s.plain.varTypes P++fn.resultTypes.toList):Bool)) Tryz.prog 5 Tryz.f5 ((Rows.OpenSpec.upto Rows.dagPlaysSpec).bare) (Rows.dagPlaysUptoRow)=true:=zK
end Go.Proofs.YtpcbnjbpdooejaaGreatDoor.dagPlays
