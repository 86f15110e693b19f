/- A part of the proof: D65 D66 D67 E12 E14 D68. -/
import Derived.Test.YtpcbnjbpdooejaaGreatDoorJae
import Derived.Test.YtpcbnjbpdooejaaGreatDoorJba
import Derived.Test.YtpcbnjbpdooejaaGreatDoorJau
import Derived.KernelRfl
set_option linter.unusedSimpArgs false
set_option linter.unusedVariables false
set_option maxRecDepth 100000
set_option maxHeartbeats 8000000
namespace Go.AW
open Proofs
def addG (G:GrV) (b:List UInt8):GrV:=(addF G b).1
def stA (all:List (List UInt8)) (order:List UInt8) (i:Nat):GrV:=(order.take i).foldl (fun G o=>addG G (all.getD (o.toNat % all.length) [])) ⟨[],[]⟩
def plA (all:List (List UInt8)) (order:List UInt8):GrV:=if all.length=0 then ⟨[],[]⟩ else stA all order 80
def plB (all:List (List UInt8)) (G:GrV):Nat→GrV
 | 0=>G
 | k+1=>addG (plB all G k) (all.getD (k+k) [])
def plF (all:List (List UInt8)) (order:List UInt8):GrV:=plB all (plA all order) ((all.length+1) / 2)
theorem QUl {G:GrV} (hG:GrOK G) (b:List UInt8):GrOK (addG G b):=QJO hG b
theorem QYx {all:List (List UInt8)} {order:List UInt8} {i:Nat} (hi:i<order.length):stA all order (i+1)=addG (stA all order i) (all.getD (order[i].toNat % all.length) []):=by
 rw [stA,List.take_succ_eq_append_getElem hi,List.foldl_append];rfl
theorem QUv {α:Type} {f:α→List UInt8}:∀{l:List α} {G:GrV},GrOK G→GrOK (l.foldl (fun G o=>addG G (f o)) G)
 | [],_,h=>h
 | _::l,_,h=>QUv (f:=f) (l:=l) (QUl h _)
theorem QXE {all:List (List UInt8)} {order:List UInt8}:stA all order 0=⟨[],[]⟩:=rfl
theorem QaN {all:List (List UInt8)} {order:List UInt8} {i:Nat}:GrOK (stA all order i):=QUv GrOK.nil
theorem plA_ok {all:List (List UInt8)} {order:List UInt8}:GrOK (plA all order):=by rw [plA];split;exact GrOK.nil;exact QaN
theorem QRF {all:List (List UInt8)} {G:GrV} (hG:GrOK G):∀k,GrOK (plB all G k)
 | 0=>hG
 | k+1=>QUl (QRF hG k) _
theorem plF_ok {all:List (List UInt8)} {order:List UInt8}:GrOK (plF all order):=QRF plA_ok _
theorem Qcs {all:List (List UInt8)} {order:List UInt8} {i:Nat} (h1:i≤order.length) (h2:i≤80) (h3:all.length=0→i=0) (h4:¬(i<order.length∧i<80∧0<all.length)):stA all order i=plA all order:=by
 rw [plA]
 by_cases h0:all.length=0
 ·rw [if_pos h0,h3 h0];rfl
 ·rw [if_neg h0]
  by_cases h5:i=80
  ·rw [h5]
  ·rw [stA,stA,List.take_of_length_le (by omega),List.take_of_length_le (by omega)]
theorem QeZ (l:List (List UInt8)) (i:Nat) (hi:i<l.length):(flat bc l).drop i=bc l[i]++flat bc (l.drop (i+1)):=by
 have:=QAh QLO l i hi;rwa [Nat.mul_one] at this
attribute [push_cast] QeZ
def allB (all:List (List UInt8)):Prop:=∀b∈all,b.length≤65536
theorem QWo {c:ChV} (h:chE2 c=0):(chB c).length≤65536:=by have:=(QDI h).2;omega
theorem Qd8 (l:List MadeV):allB (bldF l).1:=by
 suffices ∀(l:List MadeV) (q:List (List UInt8)×GrV),allB q.1→allB (l.foldl QC9 q).1 from this l _ (by simp [allB])
 intro l
 induction l with
 | nil=>exact fun q h=>h
 | cons m l ih=>
  intro q h
  refine ih _ ?_
  rw [QC9]
  split
  ·rename_i hE
   intro b hb
   rcases List.mem_append.1 hb with k | k
   ·exact h b k
   ·rw [List.mem_singleton] at k;rw [k];exact QWo hE
  ·exact h
theorem QMi {α:Type} {l:List α} {i:Nat} {d:α} (hi:i<l.length):l.getD i d=l[i]:=by simp [List.getD_eq_getElem?_getD,List.getElem?_eq_getElem hi]
theorem QY4 (l:List MadeV) (hl:l.length≤65536) (hm:∀m∈l,mdOK m) (order:List UInt8) (ho:order.length≤1048576):
  QM Tryz.prog gK 18 [.seq l.length 5 (flat mdc l),.seq order.length 1 (flat QC order)] [] 0 (.tup [.ptr 0 0,grA (plF (bldF l).1 order)]) (gO (plF (bldF l).1 order)) 4:=by
 refine QM.start Tryz.func18 rfl (by kernel_rfl) rfl Tryz.ntmps18 fol (by kernel_rfl) (Nat.zero_le _) ?_
 simp only [List.zipIdx_cons,List.zipIdx_nil,List.map_cons,List.map_nil,Nat.zero_add,grA]
 refine zS ?_
 have hB:=(QUM l hl hm).gam (γ:=gK)
 refine hB.useV ?_
 have hall:=Qd8 l
 have hal:=(QM0 l).2
 generalize (bldF l).2=G0 at*
 generalize (bldF l).1=all at*
 (have X1:=@grA.eq_1;refine zS1 ?_;clear X1)
 have hN:=New_m.gam (γ:=gK)
 refine QM.useX [] hN rfl zC zC ?_
 (have X1:=@gO.eq_1;refine zS1 ?_;clear X1)
 refine QD (ι:=Nat) (fun i=>⟨[(1,.seq order.length 1 (flat QC order)),(5,.ptr 5 0),(6,.seq all.length 1 (flat bc all)),(8,.ptr 0 0),(9,.ptr 4 0),(10,.v (.int .i64 i))],⟨gO (stA all order i)++[(4,.cells 29 [.seq (stA all order i).L.length 39 (flat itc (stA all order i).L),.seq (stA all order i).W.length 39 (flat itc (stA all order i).W)] false),(5,.cells 29 [.v (.slice none 0 0),.v (.slice none 0 0)] false)],6,6,0⟩⟩) (fun i=>i≤order.length∧i≤80∧(all.length=0→i=0)) (fun i=>80 - i) 0 ⟨Nat.zero_le _,Nat.zero_le _,fun _=>rfl⟩ ?_ ?_
 ·simp only [gO,List.cons_append,List.nil_append,QXE]
  (have X1:=@QOx;refine fzNM 0 [(0,237),(1,238),(2,239),(3,240),(4,250),(5,5)] [0,4] ?_ ?_<;>first | exact zC1 | refine zS1 ?_)
 rintro i ⟨h1,h2,h3⟩
 have hG:=QaN (all:=all) (order:=order) (i:=i)
 have hend:=fun h4=>Qcs h1 h2 h3 h4
 obtain⟨G,hGe⟩:∃G,G=stA all order i:=⟨_,rfl⟩
 rw [←hGe] at hG hend ⊢
 simp only [gO,List.cons_append,List.nil_append]
 refine zS ?_
 refine⟨fun a1=>?_,fun a1=>?_⟩
 refine zS ?_
 refine⟨fun a2=>?_,fun a2=>?_⟩
 refine zS ?_
 refine⟨fun a3=>?_,fun a3=>?_⟩
 ·have hi1:i<order.length:=by omega
  have hne:0<all.length:=by omega
  have hb8:order[i].toNat<256:=order[i].toNat_lt
  have hml:order[i].toNat % all.length<all.length:=Nat.mod_lt _ hne
  have g0:(List.drop i (flat QC order))[0]?=some (.v (.int .u8 (order[i].toNat:Nat))):=by rw [List.getElem?_drop,Nat.add_zero,QBm hi1];simp [List.getD_eq_getElem?_getD,List.getElem?_eq_getElem hi1]
  have e5:((order[i].toNat:Int) % (all.length:Int)).toNat=order[i].toNat % all.length:=by omega
  have hnx:=QYx (all:=all) hi1
  rw [←hGe,QMi hml] at hnx
  have hbl:=hall _ (List.getElem_mem hml)
  (have X1:=g0;have X2:=e5;have X3:=@bc.eq_1;refine zS3 ?_;clear X1 X2 X3)
  generalize all[order[i].toNat % all.length]=B at*
  have hAm:=QXx G hG B (by omega)
  simp only [gO] at hAm
  refine QM.useX [0,1,2,3] hAm rfl zC zC ?_
  refine zS ?_
  have hAr:=(QKO G hG B (by omega)).gam (γ:=gK)
  simp only [grA] at hAr
  refine hAr.useV ?_
  (have X1:=@List.getElem?_cons_succ.{0};refine zS1 ?_;clear X1)
  have hnx2:(addF G B).1=stA all order (i+1):=hnx.symm
  rw [hnx2]
  refine⟨i+1,⟨by omega,by omega,fun h0=>by omega⟩,zO,?_⟩
  simp only [gO,List.cons_append,List.nil_append]
  refine fzNM 0 [(0,0),(1,1),(2,2),(3,3),(4,4),(5,5)] [0,4] ?_ ?_<;>first | exact zC | refine zS ?_
 all_goals
  have hE:=hend (by omega)
  clear hend
  rw [hE] at hG ⊢
  rw [show plF all order=plB all (plA all order) ((all.length+1) / 2) from rfl]
  clear hE h3
  try clear a1
  try clear a2
  try clear a3
  generalize plA all order=G1 at*
  refine zS ?_
  refine QD (ι:=Nat) (fun k=>⟨[(5,.ptr 5 0),(6,.seq all.length 1 (flat bc all)),(8,.ptr 0 0),(9,.ptr 4 0),(12,.v (.int .i64 ((k+k:Nat):Int)))],⟨gO (plB all G1 k)++[(4,.cells 29 [.seq (plB all G1 k).L.length 39 (flat itc (plB all G1 k).L),.seq (plB all G1 k).W.length 39 (flat itc (plB all G1 k).W)] false),(5,.cells 29 [.v (.slice none 0 0),.v (.slice none 0 0)] false)],6,6,0⟩⟩) (fun k=>k+k≤all.length+1) (fun k=>all.length+1 - (k+k)) 0 (by omega) ?_ ?_
  ·simp only [gO,List.cons_append,List.nil_append,plB]
   refine fzNM 0 [(0,0),(1,1),(2,2),(3,3),(4,4),(5,5)] [0,4] ?_ ?_<;>first | exact zC | refine zS ?_
   all_goals first | rfl | trace_state
  intro k hk
  have hG2:=QRF (all:=all) hG k
  obtain⟨G2,hGe2⟩:∃G2,G2=plB all G1 k:=⟨_,rfl⟩
  rw [←hGe2] at hG2 ⊢
  simp only [gO,List.cons_append,List.nil_append]
  refine zS ?_
  refine⟨fun b1=>?_,fun b1=>?_⟩
  ·have hk1:k+k<all.length:=by omega
   have hnx:plB all G1 (k+1)=addG G2 all[k+k]:=by rw [plB,QMi hk1,←hGe2]
   have hbl:=hall _ (List.getElem_mem hk1)
   have et:((k:Int)+(k:Int)).toNat=k+k:=by omega
   (have X1:=@bc.eq_1;have X2:=et;refine zS2 ?_;clear X1 X2)
   generalize hB:all[k+k]=B at*
   have hAm:=QXx G2 hG2 B (by omega)
   simp only [gO] at hAm
   refine QM.useX [0,1,2,3] hAm rfl zC zC ?_
   simp (maxSteps:=400000) (disch:=first | omega | exact okT rfl | simp only [push_cast]) only [push_cast,↓QG,↓reduceIte,Nat.reduceAdd,Nat.reduceMul,Nat.reduceSub,Nat.reduceEqDiff,Nat.reduceBEq,Nat.reduceBNe,Nat.reduceLT,Nat.reduceLeDiff,reduceCtorEq,Op.operands,QA,QB,Nat.sub_zero,bc,et,hB]
   have hAr:=(QKO G2 hG2 B (by omega)).gam (γ:=gK)
   simp only [grA] at hAr
   refine QO.useV hAr rfl ?_
   (have X1:=@List.getElem?_cons_succ.{0};refine zS1 ?_;clear X1)
   have hnx2:(addF G2 B).1=plB all G1 (k+1):=hnx.symm
   rw [hnx2]
   refine⟨k+1,by omega,zO,?_⟩
   simp only [gO,List.cons_append,List.nil_append]
   refine fzNM 0 [(0,0),(1,1),(2,2),(3,3),(4,4),(5,5)] [0,4] ?_ ?_<;>first | exact zC | refine zS ?_
   all_goals first | (congr 2;omega) | trace_state
  ·have hk2:k=(all.length+1) / 2:=by omega
   rw [hk2] at hGe2
   rw [←hGe2]
   refine zS ?_
   refine fzNM 0 [(0,0),(1,1),(2,2),(3,3)] [0] ?_ ?_<;>first | exact zC | refine zS ?_
open Proofs
def QCC (b:List Hs):List AV:=[.seq b.length 32 (flat hcell b)]
theorem QNP (b:List Hs):idfL (QCC b)=true:=by simp [QCC,idfL,idf,QA9]
theorem QGk {l:List (List Hs)}:idfL (flat QCC l)=true:=QZ QNP l
theorem QGo (l:List (List Hs)) (i:Nat) (hi:i<l.length):(flat QCC l).drop (i*1)=.seq l[i].length 32 (flat hcell l[i])::flat QCC (l.drop (i+1)):=QAh (f:=QCC) (sz:=1) (fun _=>rfl) l i hi
theorem QFe (l:List (List Hs)) (i:Nat) (hi:i<l.length):(flat QCC l).drop i=.seq l[i].length 32 (flat hcell l[i])::flat QCC (l.drop (i+1)):=by have:=QGo l i hi;rwa [Nat.mul_one] at this
attribute [push_cast] QGk QGo QFe
theorem Qdx (n:Nat) (hn:n≤3276800):POwn Tryz.prog [] 136 [.v (.slice none 0 0),.v (.int .i64 n)] 0 32 47 (flat hcell (List.replicate n QBl)):=by
 refine POwn.start Tryz.func136 rfl (by kernel_rfl) rfl Tryz.ntmps136 fol (by kernel_rfl) zI (by simp [QQ,QAL]) ?_
 refine zZ ?_
 refine⟨fun h=>absurd h (by omega),fun h=>?_⟩
 (have X1:=@Int.sub_self;have X2:=@Int.sub_zero;refine zS2 ?_;clear X1 X2)
 refine⟨fun h1=>?_,fun h1=>?_⟩
 ·(have X1:=@Int.sub_self;have X2:=@Int.sub_zero;refine zS2 ?_;clear X1 X2)
  have hz:(List.replicate n [AV.v (.int .u8 0),AV.v (.int .u8 0),AV.v (.int .u8 0),AV.v (.int .u8 0),AV.v (.int .u8 0),AV.v (.int .u8 0),AV.v (.int .u8 0),AV.v (.int .u8 0),AV.v (.int .u8 0),AV.v (.int .u8 0),AV.v (.int .u8 0),AV.v (.int .u8 0),AV.v (.int .u8 0),AV.v (.int .u8 0),AV.v (.int .u8 0),AV.v (.int .u8 0),AV.v (.int .u8 0),AV.v (.int .u8 0),AV.v (.int .u8 0),AV.v (.int .u8 0),AV.v (.int .u8 0),AV.v (.int .u8 0),AV.v (.int .u8 0),AV.v (.int .u8 0),AV.v (.int .u8 0),AV.v (.int .u8 0),AV.v (.int .u8 0),AV.v (.int .u8 0),AV.v (.int .u8 0),AV.v (.int .u8 0),AV.v (.int .u8 0),AV.v (.int .u8 0)]).flatten=flat hcell (List.replicate n QBl):=by
   clear h h1 hn
   induction n with
   | zero=>rfl
   | succ n ih=>rw [List.replicate_succ,List.replicate_succ,List.flatten_cons,ih];rfl
  rw [hz]
  (have X1:=@Int.toNat_zero;exact fzN1 0 [(0,130)] [])
 ·obtain rfl:n=0:=by omega
  refine zS ?_
  (have X1:=@List.replicate_zero.{0};have X2:=@QOx;exact fzN2 0 [] [])
theorem QTd (l:List (List Hs)) (hl:l.length≤1024) (hn:l.flatten.length≤3276800):POwn Tryz.prog [] 73 [.seq l.length 1 (flat QCC l)] l.flatten.length 32 47 (flat hcell l.flatten):=by
 refine POwn.start Tryz.func73 rfl (by kernel_rfl) rfl Tryz.ntmps73 fol (by kernel_rfl) (by simp [idfL,idf,QZ QS,QS,Qg,Qy,QGk,QAL]) (by simp [QQ,QGk,QAL]) ?_
 refine zZ ?_
 refine QD (ι:=Nat) (fun i=>⟨[(0,.seq l.length 1 (flat QCC l)),(2,.v (.slice none 0 0)),(3,.v (.int .i64 (l.take i).flatten.length)),(9,.seq l.length 1 (flat QCC l)),(10,.v (.int .i64 l.length)),(11,.v (.int .i64 i))],⟨[],0,0,0⟩⟩) (fun i=>i≤l.length) (fun i=>l.length - i) 0 (Nat.zero_le _) ?_ ?_
 ·(have X1:=@List.take_zero.{0};have X2:=@List.flatten_nil.{0};have X3:=@List.length_nil.{0};refine fzNM 0 [] [] ?_ ?_<;>first | exact zC3 | refine zS3 ?_)
 rintro i hi
 have hle:∀j,(l.take j).flatten.length≤l.flatten.length:=fun j=>by
  conv=>rhs;rw [←List.take_append_drop j l,List.flatten_append,List.length_append]
  omega
 have hi2:=hle i
 refine zS ?_
 refine⟨fun h1=>?_,fun h1=>?_⟩
 ·have hi1:i<l.length:=by omega
  have hs:(l.take (i+1)).flatten.length=(l.take i).flatten.length+l[i].length:=by
   rw [List.take_succ_eq_append_getElem hi1,List.flatten_append,List.length_append];simp
  have hi3:=hle (i+1)
  refine zS ?_
  refine⟨fun h2=>absurd h2 (by omega),fun h2=>?_⟩
  refine zS ?_
  refine⟨i+1,hi1,zO,?_⟩
  simp only [hs]
  exact fzN 0 [] []
 ·obtain rfl:i=l.length:=by omega
  rw [List.take_length]
  refine zS ?_
  refine POwn.useV (Qdx l.flatten.length hn) ?_
  refine zS ?_
  refine QD (ι:=Nat×List Hs) (fun q=>⟨[(6,.sl 0 0 (l.take q.1).flatten.length 32),(25,.seq l.length 1 (flat QCC l)),(26,.v (.int .i64 l.length)),(27,.v (.int .i64 q.1))],⟨[(0,.cells 47 (flat hcell q.2) true)],1,1,0⟩⟩) (fun q=>q.1≤l.length∧((q.1=0∧q.2.length=l.flatten.length)∨(0<q.1∧q.2=(l.take q.1).flatten))) (fun q=>l.length - q.1) (0,List.replicate l.flatten.length QBl) ⟨Nat.zero_le _,.inl ⟨rfl,by simp⟩⟩ ?_ ?_
  ·(have X1:=@List.take_zero.{0};have X2:=@List.flatten_nil.{0};have X3:=@List.length_nil.{0};exact fzN3 0 [(0,72)] [])
  rintro⟨i,c⟩ ⟨hi,hc⟩
  simp only at hi hc
  have hi2:=hle i
  refine zS ?_
  refine⟨fun h1=>?_,fun h1=>?_⟩
  ·have hi1:i<l.length:=by omega
   have hs:(l.take (i+1)).flatten=(l.take i).flatten++l[i]:=by
    rw [List.take_succ_eq_append_getElem hi1,List.flatten_append];simp
   have hi3:=hle (i+1)
   rw [hs,List.length_append] at hi3
   rcases hc with ⟨rfl,hc⟩ | ⟨h0,rfl⟩
   ·have h00:(l.take 0).flatten=[]:=rfl
    rw [h00] at hs
    have hb0:(flat QCC l)[0]?=some (.seq l[0].length 32 (flat hcell l[0])):=by
     have:=QFe l 0 hi1
     rw [List.drop_zero] at this
     rw [this];rfl
    by_cases hcl:c.length=0
    ·have hcn:c=[]:=List.eq_nil_of_length_eq_zero hcl
     subst hcn
     (have X1:=@List.take_zero.{0};have X2:=@List.flatten_nil.{0};have X3:=@List.length_nil.{0};have X4:=@QOx;have X5:=@Int.toNat_zero;have X6:=hb0;refine zS6 ?_;clear X1 X2 X3 X4 X5 X6)
     refine⟨(1,l[0]),⟨hi1,.inr ⟨by show 0<1;decide,by show l[0]=(l.take (0+1)).flatten;rw [hs];rfl⟩⟩,zO,?_⟩
     have hs1:(l.take 1).flatten=l[0]:=by rw [show 1=0+1 from rfl,hs];rfl
     simp only [hs1]
     refine fzNM 0 [(0,106)] [] ?_ ?_<;>first | exact zC | refine zS ?_
     try rfl
    ·have hcf:∀(p:Prop) (r:AV×Upd),Cnd (0=c.length*32∧p) (some r)=none:=fun p r=>by rw [show (0=c.length*32∧p)=False from eq_false fun h=>hcl (by have:=h.1;omega),QGW]
     (have X1:=@List.take_zero.{0};have X2:=@List.flatten_nil.{0};have X3:=@List.length_nil.{0};have X4:=@QOx;have X5:=@Int.toNat_zero;have X6:=hb0;have X7:=hcf;refine zS7 ?_;clear X1 X2 X3 X4 X5 X6 X7)
     refine⟨(1,l[0]),⟨hi1,.inr ⟨by show 0<1;decide,by show l[0]=(l.take (0+1)).flatten;rw [hs];rfl⟩⟩,zO,?_⟩
     have hs1:(l.take 1).flatten=l[0]:=by rw [show 1=0+1 from rfl,hs];rfl
     simp only [hs1]
     refine fzNM 0 [(0,106)] [] ?_ ?_<;>first | exact zC | refine zS ?_
     try rfl
   ·(have X1:=@Q4;refine zS1 ?_;clear X1)
    refine⟨(i+1,(l.take i).flatten++l[i]),⟨hi1,.inr ⟨zO,hs.symm⟩⟩,zO,?_⟩
    simp only [hs]
    (have X1:=@List.length_append.{0};exact fzN1 0 [(0,106)] [])
  ·obtain rfl:i=l.length:=by omega
   have hcc:c=l.flatten:=by
    rcases hc with ⟨h0,hc⟩ | ⟨h0,hc⟩
    ·have:l=[]:=List.eq_nil_of_length_eq_zero h0
     subst this
     exact List.eq_nil_of_length_eq_zero (by simpa using hc)
    ·rw [hc,List.take_length]
   subst hcc
   rw [List.take_length]
   refine zS ?_
   exact fzN 0 [(0,0)] []
theorem QUg (l:List (List Hs)) (hl:l.length≤1024) (hn:l.flatten.length≤3276800):PNew Tryz.prog [] 73 [.seq l.length 1 (flat QCC l)] (.seq l.flatten.length 32 (flat hcell l.flatten)):=(QTd l hl hn).toNew (by rw [QCG])
theorem Qcz (l m:List Hs) (hl:l.length≤65536) (hm:m.length≤65536):QE Tryz.prog [] 23 [.seq l.length 32 (flat hcell l),.seq m.length 32 (flat hcell m)] (.seq (uniH l m).length 32 (flat hcell (uniH l m))):=by
 refine QE.start Tryz.func23 rfl (by kernel_rfl) rfl Tryz.ntmps23 fol (by kernel_rfl) zI zI ?_
 refine zZ ?_
 have hC:=QUg [l,m] (by simp) (by simp only [List.flatten_cons,List.flatten_nil,List.length_append,List.length_nil];omega)
 have hfl:[l,m].flatten=l++m:=by simp
 rw [hfl,show flat QCC [l,m]=[.seq l.length 32 (flat hcell l),.seq m.length 32 (flat hcell m)] from rfl] at hC
 have hS:=Qa0 (l++m) (by rw [List.length_append];omega)
 rw [←QIc] at hS
 rw [List.length_append] at hC hS
 refine PNew.use (ids:=[17]) hC zCN ?_
 refine zS ?_
 refine PNew.useV hS ?_
 exact zC
open Proofs
def h9:Hs:=⟨9::List.replicate 31 0,by simp⟩
def pk1 (L:List Itm) (p:UInt8):Hs:=if p.toNat=255 then h9 else (QF L).getD (p.toNat % L.length) QBl
def QKx (L:List Itm) (ps:List UInt8):List Hs:=if L.length=0 then [] else (ps.take 10).map (pk1 L)
theorem QXX {L:List Itm} {ps:List UInt8} {i:Nat} (h1:i≤ps.length) (h2:i≤10) (h3:L.length=0→i=0) (h4:¬(i<ps.length∧i<10∧0<L.length)):(ps.take i).map (pk1 L)=QKx L ps:=by
 rw [QKx]
 by_cases h0:L.length=0
 ·rw [if_pos h0,h3 h0];rfl
 ·rw [if_neg h0]
  by_cases h5:i=10
  ·rw [h5]
  ·rw [List.take_of_length_le (by omega),List.take_of_length_le (by omega)]
theorem QLP {L:List Itm} {ps:List UInt8}:(QKx L ps).length≤10:=by
 rw [QKx];split
 ·simp
 ·rw [List.length_map,List.length_take];omega
theorem QbY {L:List Itm} {ps:List UInt8} {i:Nat} (hi:i<ps.length):(ps.take (i+1)).map (pk1 L)=(ps.take i).map (pk1 L)++[pk1 L ps[i]]:=by
 rw [List.take_succ_eq_append_getElem hi,List.map_append];rfl
theorem QOd (G:GrV) (hG:GrOK G) (ps:List UInt8) (hp:ps.length≤1048576):QE Tryz.prog [] 19 [grA G,.seq ps.length 1 (flat QC ps)] (.seq (QKx G.L ps).length 32 (flat hcell (QKx G.L ps))):=by
 refine QE.startW Tryz.func19 rfl (by kernel_rfl) rfl Tryz.ntmps19 fol (by kernel_rfl) (by simp [idfL,idf,QZ QS,QS,Qg,Qy,grA,QIa,QA9,Qg]) (by simp [idfL,idf,QZ QS,QS,Qg,Qy,grA,QIa,QA9,Qg]) ?_
 refine zz ?_
 (have X1:=@grA.eq_1;refine zS1 ?_;clear X1)
 have hn:=hG.lenL
 refine QD (ι:=Nat×List Hs) (fun q=>⟨[(1,.seq ps.length 1 (flat QC ps)),(2,.ptr 0 0),(5,.sl 1 0 q.2.length 32),(6,.v (.int .i64 q.1))],⟨[(0,.cells 29 [.seq G.L.length 39 (flat itc G.L),.seq G.W.length 39 (flat itc G.W)] false),(1,.cells 47 (flat hcell q.2) true)],2,2,0⟩⟩) (fun q=>q.1≤ps.length∧q.1≤10∧(G.L.length=0→q.1=0)∧q.2=(ps.take q.1).map (pk1 G.L)) (fun q=>10 - q.1) (0,[]) ⟨Nat.zero_le _,Nat.zero_le _,fun _=>rfl,rfl⟩ ?_ ?_
 ·(have X1:=@QOx;exact fzN1 0 [(0,2)] [])
 rintro⟨i,acc⟩ ⟨h1,h2,h3,hacc⟩
 dsimp only at h1 h2 h3 hacc ⊢
 have hal:acc.length≤10:=by rw [hacc,List.length_map,List.length_take];omega
 have hend:=fun h4=>hacc.trans (QXX h1 h2 h3 h4)
 refine zS ?_
 refine⟨fun a1=>?_,fun a1=>?_⟩
 refine zS ?_
 refine⟨fun a2=>?_,fun a2=>?_⟩
 refine zS ?_
 refine⟨fun a3=>?_,fun a3=>?_⟩
 ·have hi1:i<ps.length:=by omega
  have hne:0<G.L.length:=by omega
  have hb8:ps[i].toNat<256:=ps[i].toNat_lt
  have hml:ps[i].toNat % G.L.length<G.L.length:=Nat.mod_lt _ hne
  have g0:(List.drop i (flat QC ps))[0]?=some (.v (.int .u8 (ps[i].toNat:Nat))):=by rw [List.getElem?_drop,Nat.add_zero,QBm hi1];simp [List.getD_eq_getElem?_getD,List.getElem?_eq_getElem hi1]
  have e5:((ps[i].toNat:Int) % (G.L.length:Int)).toNat=ps[i].toNat % G.L.length:=by omega
  have hnx:=QbY (L:=G.L) hi1
  rw [←hacc] at hnx
  have hI:∀h:Hs,pk1 G.L ps[i]=h→(i+1≤ps.length∧i+1≤10∧(G.L.length=0→i+1=0)∧acc++[h]=(ps.take (i+1)).map (pk1 G.L)):=fun h e=>⟨hi1,by omega,fun h0=>by omega,by rw [hnx,e]⟩
  (have X1:=g0;refine zS1 ?_;clear X1)
  refine⟨fun b1=>?_,fun b1=>?_⟩
  ·have hp9:pk1 G.L ps[i]=h9:=if_pos (by omega)
   have hf9:flat hcell (acc++[h9])=flat hcell acc++hcell h9:=QQd.symm
   refine zS ?_
   refine⟨(i+1,acc++[h9]),hI _ hp9,zO,?_⟩
   simp only [hf9]
   (have X1:=@List.length_append.{0};have X2:=@List.length_cons.{0};have X3:=@List.length_nil.{0};refine fzNM 0 [(0,0),(1,133)] [] ?_ ?_<;>first | exact zC3 | refine zS3 ?_)
   all_goals first | rfl | trace_state
  ·have hfk:pk1 G.L ps[i]=G.L[ps[i].toNat % G.L.length].h:=by
    rw [pk1,if_neg (by omega)]
    simp [QF,List.getD_eq_getElem?_getD,hml]
   (have X1:=g0;have X2:=e5;have X3:=@QQd;refine zS3 ?_;clear X1 X2 X3)
   refine⟨(i+1,acc++[G.L[ps[i].toNat % G.L.length].h]),hI _ hfk,zO,?_⟩
   (have X1:=@List.length_append.{0};have X2:=@List.length_cons.{0};have X3:=@List.length_nil.{0};refine fzNM 0 [(0,0),(1,150)] [] ?_ ?_<;>first | exact zC3 | refine zS3 ?_)
 all_goals
  have hE:=hend (by omega)
  subst hE
  exact zC
theorem QEw {a b:List Hs} (ha:Rise a) (hb:Rise b) (h:∀x,x∈a↔x∈b):a=b:=
 (QKo ha fun x=>h x).trans (QKo hb fun _=>Iff.rfl).symm
theorem Bel.split {L:List Itm} {l:List Hs} {h:Hs} (hb:Bel L l h):∃k∈l,Bel L [k] h:=by
 induction hb with
 | base h=>exact⟨_,h,.base (by simp)⟩
 | dep _ hx hd ih=>obtain⟨k,k1,k2⟩:=ih;exact⟨k,k1,.dep k2 hx hd⟩
theorem Bel.trans {L:List Itm} {l m:List Hs} {h:Hs} (hb:Bel L l h) (h1:∀x∈l,Bel L m x):Bel L m h:=hb.mono (fun _ h=>h) h1
theorem Bel.tr1 {L:List Itm} {m:List Hs} {k h:Hs} (hb:Bel L [k] h) (h1:Bel L m k):Bel L m h:=hb.trans fun x hx=>by rw [List.mem_singleton] at hx;rw [hx];exact h1
theorem Bel.le {L:List Itm} (hL:OrdL L) {k:Hs} (hk:k∈QF L) {h:Hs} (hb:Bel L [k] h):h=k∨(QF L).idxOf h<(QF L).idxOf k:=by
 rcases (Bel.one hL hk).1 hb with e | e
 ·exact .inl e
 ·exact .inr (e.lt hL hk)
theorem Qc0 {L:List Itm} (hL:OrdL L) {l:List Hs} {h:Hs}:undB L l h=true↔∃k∈l,k≠h∧Bel L [k] h:=by
 rw [undB,List.any_eq_true]
 refine exists_congr fun k=>and_congr_right fun hk=>?_
 rw [Bool.and_eq_true,decide_eq_true_iff,decide_eq_true_iff,Qp hL]
theorem QIe {L:List Itm} (hL:OrdL L) {l:List Hs} {h:Hs}:h∈redF L l↔h∈l∧∀k∈l,k≠h→¬Bel L [k] h:=by
 rw [redF,QBr,List.mem_filter]
 refine and_congr_right fun _=>?_
 rw [Bool.not_eq_true',←Bool.not_eq_true,Qc0 hL]
 constructor
 ·intro h1 k hk hn hb;exact h1 ⟨k,hk,hn,hb⟩
 ·rintro h1 ⟨k,hk,hn,hb⟩;exact h1 k hk hn hb
theorem QTv {L:List Itm} (hL:OrdL L) {l:List Hs} (hl:∀x∈l,x∈QF L):∀n,∀h∈l,(QF L).length - (QF L).idxOf h≤n→∃k∈redF L l,Bel L [k] h
 | 0,h,hh,hn=>by
  have:=List.idxOf_lt_length_of_mem (hl h hh)
  omega
 | n+1,h,hh,hn=>by
  by_cases m:h∈redF L l
  ·exact⟨h,m,.base (by simp)⟩
  ·obtain⟨k,hk,hkn,hb⟩:∃k∈l,k≠h∧Bel L [k] h:=by
    refine Classical.byContradiction fun hno=>m ((QIe hL).2 ⟨hh,fun k hk hkn hb=>hno ⟨k,hk,hkn,hb⟩⟩)
   have h1:=(hb.le hL (hl k hk)).resolve_left (fun e=>hkn e.symm)
   have h2:=List.idxOf_lt_length_of_mem (hl k hk)
   obtain⟨k',m',b'⟩:=QTv hL hl n k hk (by omega)
   exact⟨k',m',hb.tr1 b'⟩
theorem QQu {L:List Itm} (hL:OrdL L) {x y:List Hs}:Q0 L (x++y)=uniH (Q0 L x) (Q0 L y):=by
 refine QEw (QAm L _) (QKi _ _) fun h=>?_
 rw [QGE,Qp hL,Qp hL,Qp hL]
 constructor
 ·intro hb
  obtain⟨k,hk,hb⟩:=hb.split
  rcases List.mem_append.1 hk with e | e
  ·exact .inl (hb.tr1 (.base e))
  ·exact .inr (hb.tr1 (.base e))
 ·rintro(hb | hb)
  ·exact hb.trans fun x hx=>.base (List.mem_append_left _ hx)
  ·exact hb.trans fun x hx=>.base (List.mem_append_right _ hx)
theorem QTK {L:List Itm} (hL:OrdL L) {l:List Hs}:Q0 L (Q0 L l)=Q0 L l:=by
 refine QEw (QAm L _) (QAm L _) fun h=>?_
 rw [Qp hL]
 constructor
 ·exact fun hb=>(Qp hL).2 (hb.trans fun x hx=>(Qp hL).1 hx)
 ·exact fun hm=>.base hm
theorem QX1 {L:List Itm} (hL:OrdL L) {l:List Hs} (hl:allL L l=true):Q0 L (redF L l)=Q0 L l:=by
 rw [Q2] at hl
 refine QEw (QAm L _) (QAm L _) fun h=>?_
 rw [Qp hL,Qp hL]
 constructor
 ·exact fun hb=>hb.trans fun x hx=>.base (QFx hx)
 ·intro hb
  obtain⟨k,hk,hb⟩:=hb.split
  obtain⟨k',m,hb'⟩:=QTv hL hl _ k hk (Nat.le_refl _)
  exact hb.tr1 (hb'.tr1 (.base m))
theorem QWc {L:List Itm} (hL:OrdL L) {l:List Hs} (hl:allL L l=true):redF L (Q0 L l)=redF L l:=by
 have hp:=QA3 hL hl
 rw [Q2] at hl
 refine QEw (QKA L _) (QKA L _) fun h=>?_
 rw [QIe hL,QIe hL]
 constructor
 ·rintro⟨h1,h2⟩
  obtain⟨k,hk,hb⟩:=((Qp hL).1 h1).split
  have hkp:k∈Q0 L l:=(Qp hL).2 (.base hk)
  have hkh:k=h:=Classical.byContradiction fun hn=>h2 k hkp hn hb
  exact⟨hkh▸hk,fun q hq hn hb=>h2 q ((Qp hL).2 (.base hq)) hn hb⟩
 ·rintro⟨h1,h2⟩
  refine⟨(Qp hL).2 (.base h1),fun k hk hn hb=>?_⟩
  obtain⟨q,hq,hb'⟩:=((Qp hL).1 hk).split
  have a1:=(hb.le hL (hp k hk)).resolve_left fun e=>hn e.symm
  have a2:=hb'.le hL (hl q hq)
  refine h2 q hq (fun e=>?_) (hb.tr1 hb')
  rcases a2 with a2 | a2
  ·exact hn (a2.trans e)
  ·rw [e] at a2;omega
theorem QVf {L:List Itm} {l:List Hs} (hl:allL L l=true):allL L (redF L l)=true:=Q2.2 fun h hh=>Q2.1 hl h (QFx hh)
theorem QL0 {L:List Itm} (hL:OrdL L) {l:List Hs} (hl:allL L l=true):allL L (Q0 L l)=true:=Q2.2 (QA3 hL hl)
theorem QYy {L:List Itm} {x y:List Hs}:allL L (x++y)=true↔allL L x=true∧allL L y=true:=by rw [allL,List.all_append,Bool.and_eq_true];rfl
theorem Qbp {L:List Itm} (hL:OrdL L) {l:List Hs}:minH (redF L l) (Q0 L l)=[]:=by
 refine QEw (QCu _) List.Pairwise.nil fun h=>?_
 rw [minH,QBr,List.mem_filter]
 constructor
 ·rintro⟨h1,h2⟩
  have:h∈Q0 L l:=(Qp hL).2 (.base (QFx h1))
  simp [this] at h2
 ·simp
def aw0:MadeV:=⟨0,[],⟨#[]⟩,[],0⟩
def aw1:MadeV:=⟨1,[0],⟨#[]⟩,[],0⟩
def b0L:List UInt8:=[1,3,97,110,110,1,1,0,0,0,0,0,0,0]
def h0L:List Int:=[13,254,142,121,33,140,249,31,11,217,249,28,176,134,186,78,177,43,34,108,105,82,164,218,107,
 150,36,193,159,63,17,10]
def b1L:List UInt8:=[1,3,98,111,98,1,1,1,13,254,142,121,33,140,249,31,11,217,249,28,176,134,186,78,177,43,34,108,
 105,82,164,218,107,150,36,193,159,63,17,10,0,0,0,0,0,0]
def h1L:List Int:=[21,55,172,156,198,168,180,248,24,239,51,48,217,125,248,247,158,201,194,91,96,25,99,80,65,53,
 154,97,60,209,178,81]
def hh0:Hs:=⟨h0L,by decide⟩
def hh1:Hs:=⟨h1L,by decide⟩
def ci0:ChV:=⟨⟨#[97,110,110]⟩,1,1,[],⟨#[]⟩,[]⟩
def ci1:ChV:=⟨⟨#[98,111,98]⟩,1,1,[hh0],⟨#[]⟩,[]⟩
def ai0:Itm:=⟨hh0,ci0,b0L⟩
def ai1:Itm:=⟨hh1,ci1,b1L⟩
theorem aw_bld:bldF [aw0,aw1]=([b0L,b1L],⟨[ai0,ai1],[]⟩):=by kernel_rfl
theorem aw_a1:addF ⟨[],[]⟩ b1L=(⟨[],[ai1]⟩,hh1,0):=by kernel_rfl
theorem aw_a0:addF ⟨[],[ai1]⟩ b0L=(⟨[ai0,ai1],[]⟩,hh0,0):=by kernel_rfl
theorem aw_hea:heaF [ai0,ai1]=[hh1]:=by kernel_rfl
theorem aw_ok:mdOK aw0∧mdOK aw1:=⟨⟨by decide,by decide,by decide,by simp [aw0]⟩,⟨by decide,by decide,by decide,by simp [aw1]⟩⟩
open Proofs
theorem QGT:QE Tryz.prog gK 17 [] (.v (.bool true)):=by
 refine QE.start Tryz.func17 rfl (by kernel_rfl) rfl Tryz.ntmps17 fol (by kernel_rfl) rfl rfl ?_
 refine zZ ?_
 have hB:=(QUM [aw0,aw1] (by decide) (fun m hm=>by
  rcases List.mem_cons.1 hm with rfl | hm
  ·exact aw_ok.1
  ·rw [List.mem_singleton] at hm;rw [hm];exact aw_ok.2)).gam (γ:=gK)
 rw [aw_bld] at hB
 have hB1:=QE.preS (xs:=[.v (.int .u8 0),.v (.slice none 0 0),.v (.string ByteArray.empty),.v (.slice none 0 0),.v (.int .u8 0),.v (.int .u8 1),.seq 1 1 [.v (.int .u8 0)],.v (.string ByteArray.empty),.v (.slice none 0 0),.v (.int .u8 0)]) hB rfl (by simp [WkL,Wk,flat,mdc,aw0,aw1,QC];rfl)
 clear hB
 refine Qr.letgo (a:=[]) (c:=[]) (y:=.seq 2 5 [.v (.int .u8 0),.v (.slice none 0 0),.v (.string ByteArray.empty),.v (.slice none 0 0),.v (.int .u8 0),.v (.int .u8 1),.seq 1 1 [.v (.int .u8 0)],.v (.string ByteArray.empty),.v (.slice none 0 0),.v (.int .u8 0)]) (ids:=[115,113]) (u:=[(115,.dead),(113,.dead)]) zCN rfl ?_
 refine hB1.useV ?_
 (have X1:=@grA.eq_1;refine zS1 ?_;clear X1)
 have hN:=New_m.gam (γ:=gK)
 refine QM.useX [] hN rfl zC zC ?_
 (have X1:=@gO.eq_1;refine zS1 ?_;clear X1)
 refine⟨fun h=>absurd rfl h,fun _=>?_⟩
 have hf1:(List.drop (Int.toNat 1) (flat bc [b0L,b1L]))[0]?=some (.seq b1L.length 1 (flat QC b1L)):=rfl
 have hf0:(List.drop (Int.toNat 0) (flat bc [b0L,b1L]))[0]?=some (.seq b0L.length 1 (flat QC b0L)):=rfl
 have hA1:=QXx ⟨[],[]⟩ GrOK.nil b1L (by decide)
 have hG1:=QJO GrOK.nil b1L
 rw [aw_a1] at hA1 hG1
 have hA0:=QXx ⟨[],[ai1]⟩ hG1 b0L (by decide)
 have hG0:=QJO hG1 b0L
 rw [aw_a0] at hA0 hG0
 simp only [gO] at hA1 hA0
 have hd1:List.drop (Int.toNat 1*39) (flat itc [ai0,ai1])=itc ai1++[]:=rfl
 have hd0:List.drop (Int.toNat 0*39) (flat itc [ai0,ai1])=itc ai0++itc ai1:=rfl
 have hx1:ai1.h=hh1:=rfl
 have hx0:ai0.h=hh0:=rfl
 (have X1:=hf1;refine zS1 ?_;clear X1)
 refine QM.useX [309,310,311,312] hA1 rfl zC zC ?_
 (have X1:=@List.getElem?_cons_succ.{0};have X2:=hf0;refine zS2 ?_;clear X1 X2)
 refine QM.useX [309,310,311,312] hA0 rfl zC zC ?_
 have ht1:List.take 32 (itc ai1)=hcell hh1:=itc_h0
 have hm1:hasL [ai0,ai1] hh1=true:=by decide
 (have X1:=@List.getElem?_cons_succ.{0};have X2:=hd1;have X3:=hd0;have X4:=hx1;have X5:=hx0;have X6:=ht1;refine zS6 ?_;clear X1 X2 X3 X4 X5 X6)
 have hH:=(QcP ⟨[ai0,ai1],[]⟩ hh1).gam (γ:=gK)
 have hL:=(Len_g ⟨[ai0,ai1],[]⟩ (by decide)).gam (γ:=gK)
 have hE:=(Qcx ⟨[ai0,ai1],[]⟩ hG0).gam (γ:=gK)
 have hS:=(QSD [hh1] (by decide) [hh1] (by decide)).gam (γ:=gK)
 rw [QBf] at hH hL hE
 rw [hm1] at hH
 rw [aw_hea] at hE
 refine QO.useS (ids:=[309,310,311,312]) hH zCN rfl rfl rfl ?_
 (have X1:=hd1;have X2:=hd0;have X3:=hx1;have X4:=hx0;have X5:=ht1;refine zS5 ?_;clear X1 X2 X3 X4 X5)
 refine QO.useS (ids:=[309,310,311,312]) hL zCN rfl rfl rfl ?_
 (have X1:=hd1;have X2:=hd0;have X3:=hx1;have X4:=hx0;have X5:=ht1;refine zS5 ?_;clear X1 X2 X3 X4 X5)
 refine⟨fun _=>?_,fun h=>absurd rfl h⟩
 (have X1:=hd1;have X2:=hd0;have X3:=hx1;have X4:=hx0;have X5:=ht1;refine zS5 ?_;clear X1 X2 X3 X4 X5)
 refine QO.useNS (ids:=[309,310,311,312]) hE zCN rfl rfl ?_
 (have X1:=hd1;have X2:=hd0;have X3:=hx1;have X4:=hx0;have X5:=ht1;refine zS5 ?_;clear X1 X2 X3 X4 X5)
 refine QO.useS (ids:=[700]) hS (by have X1:=@QLW;have X2:=@flat.eq_1;exact zCN2) rfl rfl rfl ?_
 (have X1:=hd1;have X2:=hd0;have X3:=hx1;have X4:=hx0;have X5:=ht1;first | exact zC5 | refine zS5 ?_)
 rfl
end Go.AW
