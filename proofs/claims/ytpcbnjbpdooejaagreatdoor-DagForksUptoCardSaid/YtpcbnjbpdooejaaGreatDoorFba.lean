/- A part of the proof: D64 D65 D66 D67 E12 E14 D68 E15 D70 D71. -/
import Derived.Test.YtpcbnjbpdooejaaGreatDoorFae
import Derived.Test.YtpcbnjbpdooejaaGreatDoorFaz
import Derived.Test.YtpcbnjbpdooejaaGreatDoorFas
import Derived.Test.YtpcbnjbpdooejaaGreatDoorFad
import Derived.KernelRfl
import Derived.Test.YtpcbnjbpdooejaaGreatDoorRows
import Derived.Lib.LaidTab
set_option linter.unusedSimpArgs false
set_option linter.unusedVariables false
set_option maxRecDepth 100000
set_option maxHeartbeats 8000000
namespace Go.AW
open Proofs
theorem Qfe (G:GrV) (hG:GrOK G):PNew Tryz.prog [] 46 [.rop (QBf G)] (.seq (waiF G).length 32 (flat hcell (waiF G))):=(QfT G hG.lenW).toNew QCG
theorem QfJ (G:GrV) (hG:GrOK G):PNew Tryz.prog [] 53 [.rop (QBf G)] (.seq (misF G).length 32 (flat hcell (misF G))):=(QfH G hG).toNew QCG
theorem Qcx (G:GrV) (hG:GrOK G):PNew Tryz.prog [] 34 [.rop (QBf G)] (.seq (heaF G.L).length 32 (flat hcell (heaF G.L))):=(Qax G hG).toNew QCG
theorem QgH {G:GrV} (hG:GrOK G):(waiF G).length≤64:=Nat.le_trans (QAp _) (by rw [Qh];exact hG.lenW)
theorem Qev {G:GrV} (hG:GrOK G):(heaF G.L).length≤4096:=Nat.le_trans QV3 (by rw [Qh];exact hG.lenL)
theorem Qe7 (G:GrV) (hG:GrOK G) (hmi:(misF G).length≤1048576):QE Tryz.prog [] 37 [.rop (QBf G),grA G] (.v (.bool true)):=by
 refine QE.start Tryz.func37 rfl zK rfl Tryz.ntmps37 fol zK (by simp [idfL,idf,QZ QS,QS,Qg,Qy,grA,QIa,QAn]) (by simp [idfL,idf,QZ QS,QS,Qg,Qy,grA,QIa,QAn]) ?_
 refine zz ?_
 (have X1:=@grA.eq_1;refine zS1 ?_;clear X1)
 have h1:=QgH hG
 have h2:=Qev hG
 have hnL:=hG.lenL
 have hw:=QfD G hG
 have hm:=Qe9 G hG
 have hh:=Qfo G hG
 simp only [grA] at hw hm hh
 refine QO.useV (Len_g G hG.lenL) rfl ?_
 refine zS ?_
 refine QO.useN (Qfe G hG) rfl ?_
 refine zS ?_
 refine QO.useV hw rfl ?_
 refine zS ?_
 refine QO.useV (QSD (waiF G) zo (waiF G) zo) rfl ?_
 refine zS ?_
 refine QO.useN (QfJ G hG) rfl ?_
 refine zS ?_
 refine QO.useV hm rfl ?_
 refine zS ?_
 refine QO.useV (QSD (misF G) zo (misF G) zo) rfl ?_
 refine zS ?_
 refine QO.useN (Qcx G hG) rfl ?_
 refine zS ?_
 refine QO.useV hh rfl ?_
 refine zS ?_
 refine QO.useV (QSD (heaF G.L) zo (heaF G.L) zo) rfl ?_
 refine zS ?_
 refine QD (ι:=Nat) (fun i=>⟨[(0,.rop (QBf G)),(3,.rop [.seq G.L.length 39 (flat itc G.L),.seq G.W.length 39 (flat itc G.W)]),(5,.v (.int .i64 i))],⟨[],0,0,0⟩⟩) (fun i=>i≤G.L.length) (fun i=>G.L.length - i) 0 (Nat.zero_le _) ?_ ?_
 ·exact fzN 0 [] []
 intro i hi
 refine zS ?_
 refine⟨fun h1=>?_,fun h1=>?_⟩
 ·have hi1:i<G.L.length:=by omega
  have hk:G.L[i].h∈QF G.L:=by rw [QF];exact List.mem_map_of_mem (List.getElem_mem hi1)
  have hg:=QJo hG.ord.nodup (List.getElem_mem hi1)
  have hb:bytF G.L G.L[i].h=G.L[i].b:=by rw [bytF,hg]
  have he:bytE G.L G.L[i].h=0:=if_pos hk
  have hB:=Qfc G hG G.L[i].h
  rw [hb,he] at hB
  refine zS ?_
  refine hB.useV ?_
  (have X1:=@List.getElem?_cons_succ.{0};refine zS1 ?_;clear X1)
  refine QO.useV (QcP G G.L[i].h) rfl ?_
  (have X1:=@hasL.eq_1;have X2:=hk;have X3:=@itc_b38;have X4:=@QAD;refine zS4 ?_;clear X1 X2 X3 X4)
  refine⟨i+1,hi1,zO,?_⟩
  exact fzN 0 [] []
 ·exact zC
open Proofs
def addG (G:GrV) (b:List UInt8):GrV:=(addF G b).1
def stA (all:List (List UInt8)) (order:List UInt8) (i:Nat):GrV:=(order.take i).foldl (fun G o=>addG G (all.getD (o.toNat % all.length) [])) ⟨[],[]⟩
def plA (all:List (List UInt8)) (order:List UInt8):GrV:=if all.length=0 then ⟨[],[]⟩ else stA all order 80
def plB (all:List (List UInt8)) (G:GrV):Nat→GrV
 | 0=>G
 | k+1=>addG (plB all G k) (all.getD (k+k) [])
def plF (all:List (List UInt8)) (order:List UInt8):GrV:=plB all (plA all order) ((all.length+1) / 2)
theorem QUl {G:GrV} (hG:GrOK G) (b:List UInt8):GrOK (addG G b):=QJO hG b
theorem QYx {all:List (List UInt8)} {order:List UInt8} {i:Nat} (hi:i<order.length):stA all order (i+1)=addG (stA all order i) (all.getD (order[i].toNat % all.length) []):=by
 rw [stA,List.take_succ_eq_append_getElem hi,List.foldl_append];rfl
theorem QUv {α:Type} {f:α→List UInt8}:∀{l:List α} {G:GrV},GrOK G→GrOK (l.foldl (fun G o=>addG G (f o)) G)
 | [],_,h=>h
 | _::l,_,h=>QUv (f:=f) (l:=l) (QUl h _)
theorem QXE {all:List (List UInt8)} {order:List UInt8}:stA all order 0=⟨[],[]⟩:=rfl
theorem QaN {all:List (List UInt8)} {order:List UInt8} {i:Nat}:GrOK (stA all order i):=QUv GrOK.nil
theorem plA_ok {all:List (List UInt8)} {order:List UInt8}:GrOK (plA all order):=by rw [plA];split;exact GrOK.nil;exact QaN
theorem QRF {all:List (List UInt8)} {G:GrV} (hG:GrOK G):∀k,GrOK (plB all G k)
 | 0=>hG
 | k+1=>QUl (QRF hG k) _
theorem Qf5 {all:List (List UInt8)} {order:List UInt8}:GrOK (plF all order):=QRF plA_ok _
theorem Qcs {all:List (List UInt8)} {order:List UInt8} {i:Nat} (h1:i≤order.length) (h2:i≤80) (h3:all.length=0→i=0) (h4:¬(i<order.length∧i<80∧0<all.length)):stA all order i=plA all order:=by
 rw [plA]
 by_cases h0:all.length=0
 ·rw [if_pos h0,h3 h0];rfl
 ·rw [if_neg h0]
  by_cases h5:i=80
  ·rw [h5]
  ·rw [stA,stA,List.take_of_length_le zo,List.take_of_length_le zo]
theorem QeZ (l:List (List UInt8)) (i:Nat) (hi:i<l.length):(flat bc l).drop i=bc l[i]++flat bc (l.drop (i+1)):=by
 have:=QAh QLO l i hi;rwa [Nat.mul_one] at this
attribute [push_cast] QeZ
def allB (all:List (List UInt8)):Prop:=∀b∈all,b.length≤65536
theorem QWo {c:ChV} (h:chE2 c=0):(chB c).length≤65536:=by have:=(QDI h).2;omega
theorem Qd8 (l:List MadeV):allB (bldF l).1:=by
 suffices ∀(l:List MadeV) (q:List (List UInt8)×GrV),allB q.1→allB (l.foldl QC9 q).1 from this l _ (by simp [allB])
 intro l
 induction l with
 | nil=>exact fun q h=>h
 | cons m l ih=>
  intro q h
  refine ih _ ?_
  rw [QC9]
  split
  ·rename_i hE
   intro b hb
   rcases List.mem_append.1 hb with k | k
   ·exact h b k
   ·rw [List.mem_singleton] at k;rw [k];exact QWo hE
  ·exact h
theorem QMi {α:Type} {l:List α} {i:Nat} {d:α} (hi:i<l.length):l.getD i d=l[i]:=by simp [List.getD_eq_getElem?_getD,List.getElem?_eq_getElem hi]
theorem QY4 (l:List MadeV) (hl:l.length≤65536) (hm:∀m∈l,mdOK m) (order:List UInt8) (ho:order.length≤1048576):
  QM Tryz.prog gK 18 [.seq l.length 5 (flat mdc l),.seq order.length 1 (flat QC order)] [] 0 (.tup [.ptr 0 0,grA (plF (bldF l).1 order)]) (gO (plF (bldF l).1 order)) 4:=by
 refine QM.start Tryz.func18 rfl zK rfl Tryz.ntmps18 fol zK (Nat.zero_le _) ?_
 simp only [List.zipIdx_cons,List.zipIdx_nil,List.map_cons,List.map_nil,Nat.zero_add,grA]
 refine zS ?_
 have hB:=(QUM l hl hm).gam (γ:=gK)
 refine hB.useV ?_
 have hall:=Qd8 l
 have hal:=(QM0 l).2
 generalize (bldF l).2=G0 at*
 generalize (bldF l).1=all at*
 (have X1:=@grA.eq_1;refine zS1 ?_;clear X1)
 have hN:=Qfi.gam (γ:=gK)
 refine QM.useX [] hN rfl zC zC ?_
 (have X1:=@gO.eq_1;refine zS1 ?_;clear X1)
 refine QD (ι:=Nat) (fun i=>⟨[(1,.seq order.length 1 (flat QC order)),(5,.ptr 5 0),(6,.seq all.length 1 (flat bc all)),(8,.ptr 0 0),(9,.ptr 4 0),(10,.v (.int .i64 i))],⟨gO (stA all order i)++[(4,.cells 29 [.seq (stA all order i).L.length 39 (flat itc (stA all order i).L),.seq (stA all order i).W.length 39 (flat itc (stA all order i).W)] false),(5,.cells 29 [.v (.slice none 0 0),.v (.slice none 0 0)] false)],6,6,0⟩⟩) (fun i=>i≤order.length∧i≤80∧(all.length=0→i=0)) (fun i=>80 - i) 0 ⟨Nat.zero_le _,Nat.zero_le _,fun _=>rfl⟩ ?_ ?_
 ·simp only [gO,List.cons_append,List.nil_append,QXE]
  (have X1:=@QOx;refine fzNM 0 [(0,237),(1,238),(2,239),(3,240),(4,250),(5,5)] [0,4] ?_ ?_<;>first | exact zC1 | refine zS1 ?_)
 rintro i ⟨h1,h2,h3⟩
 have hG:=QaN (all:=all) (order:=order) (i:=i)
 have hend:=fun h4=>Qcs h1 h2 h3 h4
 obtain⟨G,hGe⟩:∃G,G=stA all order i:=⟨_,rfl⟩
 rw [←hGe] at hG hend ⊢
 simp only [gO,List.cons_append,List.nil_append]
 refine zS ?_
 refine⟨fun a1=>?_,fun a1=>?_⟩
 refine zS ?_
 refine⟨fun a2=>?_,fun a2=>?_⟩
 refine zS ?_
 refine⟨fun a3=>?_,fun a3=>?_⟩
 ·have hi1:i<order.length:=by omega
  have hne:0<all.length:=by omega
  have hb8:order[i].toNat<256:=order[i].toNat_lt
  have hml:order[i].toNat % all.length<all.length:=Nat.mod_lt _ hne
  have g0:(List.drop i (flat QC order))[0]?=some (.v (.int .u8 (order[i].toNat:Nat))):=by rw [List.getElem?_drop,Nat.add_zero,QBm hi1];simp [List.getD_eq_getElem?_getD,List.getElem?_eq_getElem hi1]
  have e5:((order[i].toNat:Int) % (all.length:Int)).toNat=order[i].toNat % all.length:=by omega
  have hnx:=QYx (all:=all) hi1
  rw [←hGe,QMi hml] at hnx
  have hbl:=hall _ (List.getElem_mem hml)
  (have X1:=g0;have X2:=e5;have X3:=@bc.eq_1;refine zS3 ?_;clear X1 X2 X3)
  generalize all[order[i].toNat % all.length]=B at*
  have hAm:=QXx G hG B zo
  simp only [gO] at hAm
  refine QM.useX [0,1,2,3] hAm rfl zC zC ?_
  refine zS ?_
  have hAr:=(QKO G hG B zo).gam (γ:=gK)
  simp only [grA] at hAr
  refine hAr.useV ?_
  (have X1:=@List.getElem?_cons_succ.{0};refine zS1 ?_;clear X1)
  have hnx2:(addF G B).1=stA all order (i+1):=hnx.symm
  rw [hnx2]
  refine⟨i+1,⟨by omega,by omega,fun h0=>by omega⟩,zO,?_⟩
  simp only [gO,List.cons_append,List.nil_append]
  refine fzNM 0 [(0,0),(1,1),(2,2),(3,3),(4,4),(5,5)] [0,4] ?_ ?_<;>first | exact zC | refine zS ?_
 all_goals
  have hE:=hend zo
  clear hend
  rw [hE] at hG ⊢
  rw [show plF all order=plB all (plA all order) ((all.length+1) / 2) from rfl]
  clear hE h3
  try clear a1
  try clear a2
  try clear a3
  generalize plA all order=G1 at*
  refine zS ?_
  refine QD (ι:=Nat) (fun k=>⟨[(5,.ptr 5 0),(6,.seq all.length 1 (flat bc all)),(8,.ptr 0 0),(9,.ptr 4 0),(12,.v (.int .i64 ((k+k:Nat):Int)))],⟨gO (plB all G1 k)++[(4,.cells 29 [.seq (plB all G1 k).L.length 39 (flat itc (plB all G1 k).L),.seq (plB all G1 k).W.length 39 (flat itc (plB all G1 k).W)] false),(5,.cells 29 [.v (.slice none 0 0),.v (.slice none 0 0)] false)],6,6,0⟩⟩) (fun k=>k+k≤all.length+1) (fun k=>all.length+1 - (k+k)) 0 zo ?_ ?_
  ·simp only [gO,List.cons_append,List.nil_append,plB]
   refine fzNM 0 [(0,0),(1,1),(2,2),(3,3),(4,4),(5,5)] [0,4] ?_ ?_<;>first | exact zC | refine zS ?_
   all_goals first | rfl | trace_state
  intro k hk
  have hG2:=QRF (all:=all) hG k
  obtain⟨G2,hGe2⟩:∃G2,G2=plB all G1 k:=⟨_,rfl⟩
  rw [←hGe2] at hG2 ⊢
  simp only [gO,List.cons_append,List.nil_append]
  refine zS ?_
  refine⟨fun b1=>?_,fun b1=>?_⟩
  ·have hk1:k+k<all.length:=by omega
   have hnx:plB all G1 (k+1)=addG G2 all[k+k]:=by rw [plB,QMi hk1,←hGe2]
   have hbl:=hall _ (List.getElem_mem hk1)
   have et:((k:Int)+(k:Int)).toNat=k+k:=by omega
   (have X1:=@bc.eq_1;have X2:=et;refine zS2 ?_;clear X1 X2)
   generalize hB:all[k+k]=B at*
   have hAm:=QXx G2 hG2 B zo
   simp only [gO] at hAm
   refine QM.useX [0,1,2,3] hAm rfl zC zC ?_
   simp (maxSteps:=400000) (disch:=first | omega | exact okT rfl | simp only [push_cast]) only [push_cast,↓QG,↓reduceIte,Nat.reduceAdd,Nat.reduceMul,Nat.reduceSub,Nat.reduceEqDiff,Nat.reduceBEq,Nat.reduceBNe,Nat.reduceLT,Nat.reduceLeDiff,reduceCtorEq,Op.operands,QA,QB,Nat.sub_zero,bc,et,hB]
   have hAr:=(QKO G2 hG2 B zo).gam (γ:=gK)
   simp only [grA] at hAr
   refine QO.useV hAr rfl ?_
   (have X1:=@List.getElem?_cons_succ.{0};refine zS1 ?_;clear X1)
   have hnx2:(addF G2 B).1=plB all G1 (k+1):=hnx.symm
   rw [hnx2]
   refine⟨k+1,by omega,zO,?_⟩
   simp only [gO,List.cons_append,List.nil_append]
   refine fzNM 0 [(0,0),(1,1),(2,2),(3,3),(4,4),(5,5)] [0,4] ?_ ?_<;>first | exact zC | refine zS ?_
   all_goals first | (congr 2;omega) | trace_state
  ·have hk2:k=(all.length+1) / 2:=by omega
   rw [hk2] at hGe2
   rw [←hGe2]
   refine zS ?_
   refine fzNM 0 [(0,0),(1,1),(2,2),(3,3)] [0] ?_ ?_<;>first | exact zC | refine zS ?_
open Proofs
open Proofs
def h9:Hs:=⟨9::List.replicate 31 0,by simp⟩
theorem Bel.trans {L:List Itm} {l m:List Hs} {h:Hs} (hb:Bel L l h) (h1:∀x∈l,Bel L m x):Bel L m h:=hb.mono (fun _ h=>h) h1
theorem Bel.le {L:List Itm} (hL:OrdL L) {k:Hs} (hk:k∈QF L) {h:Hs} (hb:Bel L [k] h):h=k∨(QF L).idxOf h<(QF L).idxOf k:=by
 rcases (Bel.one hL hk).1 hb with e | e
 ·exact .inl e
 ·exact .inr (e.lt hL hk)
def aw0:MadeV:=⟨0,[],⟨#[]⟩,[],0⟩
def aw1:MadeV:=⟨1,[0],⟨#[]⟩,[],0⟩
def b0L:List UInt8:=[1,3,97,110,110,1,1,0,0,0,0,0,0,0]
def h0L:List Int:=[13,254,142,121,33,140,249,31,11,217,249,28,176,134,186,78,177,43,34,108,105,82,164,218,107,
 150,36,193,159,63,17,10]
def b1L:List UInt8:=[1,3,98,111,98,1,1,1,13,254,142,121,33,140,249,31,11,217,249,28,176,134,186,78,177,43,34,108,
 105,82,164,218,107,150,36,193,159,63,17,10,0,0,0,0,0,0]
def h1L:List Int:=[21,55,172,156,198,168,180,248,24,239,51,48,217,125,248,247,158,201,194,91,96,25,99,80,65,53,
 154,97,60,209,178,81]
def hh0:Hs:=⟨h0L,by decide⟩
def hh1:Hs:=⟨h1L,by decide⟩
def ci0:ChV:=⟨⟨#[97,110,110]⟩,1,1,[],⟨#[]⟩,[]⟩
def ci1:ChV:=⟨⟨#[98,111,98]⟩,1,1,[hh0],⟨#[]⟩,[]⟩
def ai0:Itm:=⟨hh0,ci0,b0L⟩
def ai1:Itm:=⟨hh1,ci1,b1L⟩
theorem aw_bld:bldF [aw0,aw1]=([b0L,b1L],⟨[ai0,ai1],[]⟩):=zK
theorem aw_a1:addF ⟨[],[]⟩ b1L=(⟨[],[ai1]⟩,hh1,0):=zK
theorem aw_a0:addF ⟨[],[ai1]⟩ b0L=(⟨[ai0,ai1],[]⟩,hh0,0):=zK
theorem aw_hea:heaF [ai0,ai1]=[hh1]:=zK
theorem aw_ok:mdOK aw0∧mdOK aw1:=⟨⟨by decide,by decide,by decide,by simp [aw0]⟩,⟨by decide,by decide,by decide,by simp [aw1]⟩⟩
open Proofs
theorem QGT:QE Tryz.prog gK 17 [] (.v (.bool true)):=by
 refine QE.start Tryz.func17 rfl zK rfl Tryz.ntmps17 fol zK rfl rfl ?_
 refine zZ ?_
 have hB:=(QUM [aw0,aw1] zD (fun m hm=>by
  rcases List.mem_cons.1 hm with rfl | hm
  ·exact aw_ok.1
  ·rw [List.mem_singleton] at hm;rw [hm];exact aw_ok.2)).gam (γ:=gK)
 rw [aw_bld] at hB
 have hB1:=QE.preS (xs:=[.v (.int .u8 0),.v (.slice none 0 0),.v (.string ByteArray.empty),.v (.slice none 0 0),.v (.int .u8 0),.v (.int .u8 1),.seq 1 1 [.v (.int .u8 0)],.v (.string ByteArray.empty),.v (.slice none 0 0),.v (.int .u8 0)]) hB rfl (by simp [WkL,Wk,flat,mdc,aw0,aw1,QC];rfl)
 clear hB
 refine Qr.letgo (a:=[]) (c:=[]) (y:=.seq 2 5 [.v (.int .u8 0),.v (.slice none 0 0),.v (.string ByteArray.empty),.v (.slice none 0 0),.v (.int .u8 0),.v (.int .u8 1),.seq 1 1 [.v (.int .u8 0)],.v (.string ByteArray.empty),.v (.slice none 0 0),.v (.int .u8 0)]) (ids:=[115,113]) (u:=[(115,.dead),(113,.dead)]) zCN rfl ?_
 refine hB1.useV ?_
 (have X1:=@grA.eq_1;refine zS1 ?_;clear X1)
 have hN:=Qfi.gam (γ:=gK)
 refine QM.useX [] hN rfl zC zC ?_
 (have X1:=@gO.eq_1;refine zS1 ?_;clear X1)
 refine⟨fun h=>absurd rfl h,fun _=>?_⟩
 have hf1:(List.drop (Int.toNat 1) (flat bc [b0L,b1L]))[0]?=some (.seq b1L.length 1 (flat QC b1L)):=rfl
 have hf0:(List.drop (Int.toNat 0) (flat bc [b0L,b1L]))[0]?=some (.seq b0L.length 1 (flat QC b0L)):=rfl
 have hA1:=QXx ⟨[],[]⟩ GrOK.nil b1L zD
 have hG1:=QJO GrOK.nil b1L
 rw [aw_a1] at hA1 hG1
 have hA0:=QXx ⟨[],[ai1]⟩ hG1 b0L zD
 have hG0:=QJO hG1 b0L
 rw [aw_a0] at hA0 hG0
 simp only [gO] at hA1 hA0
 have hd1:List.drop (Int.toNat 1*39) (flat itc [ai0,ai1])=itc ai1++[]:=rfl
 have hd0:List.drop (Int.toNat 0*39) (flat itc [ai0,ai1])=itc ai0++itc ai1:=rfl
 have hx1:ai1.h=hh1:=rfl
 have hx0:ai0.h=hh0:=rfl
 (have X1:=hf1;refine zS1 ?_;clear X1)
 refine QM.useX [309,310,311,312] hA1 rfl zC zC ?_
 (have X1:=@List.getElem?_cons_succ.{0};have X2:=hf0;refine zS2 ?_;clear X1 X2)
 refine QM.useX [309,310,311,312] hA0 rfl zC zC ?_
 have ht1:List.take 32 (itc ai1)=hcell hh1:=itc_h0
 have hm1:hasL [ai0,ai1] hh1=true:=by decide
 (have X1:=@List.getElem?_cons_succ.{0};have X2:=hd1;have X3:=hd0;have X4:=hx1;have X5:=hx0;have X6:=ht1;refine zS6 ?_;clear X1 X2 X3 X4 X5 X6)
 have hH:=(QcP ⟨[ai0,ai1],[]⟩ hh1).gam (γ:=gK)
 have hL:=(Len_g ⟨[ai0,ai1],[]⟩ zD).gam (γ:=gK)
 have hE:=(Qcx ⟨[ai0,ai1],[]⟩ hG0).gam (γ:=gK)
 have hS:=(QSD [hh1] zD [hh1] zD).gam (γ:=gK)
 rw [QBf] at hH hL hE
 rw [hm1] at hH
 rw [aw_hea] at hE
 refine QO.useS (ids:=[309,310,311,312]) hH zCN rfl rfl rfl ?_
 (have X1:=hd1;have X2:=hd0;have X3:=hx1;have X4:=hx0;have X5:=ht1;refine zS5 ?_;clear X1 X2 X3 X4 X5)
 refine QO.useS (ids:=[309,310,311,312]) hL zCN rfl rfl rfl ?_
 (have X1:=hd1;have X2:=hd0;have X3:=hx1;have X4:=hx0;have X5:=ht1;refine zS5 ?_;clear X1 X2 X3 X4 X5)
 refine⟨fun _=>?_,fun h=>absurd rfl h⟩
 (have X1:=hd1;have X2:=hd0;have X3:=hx1;have X4:=hx0;have X5:=ht1;refine zS5 ?_;clear X1 X2 X3 X4 X5)
 refine QO.useNS (ids:=[309,310,311,312]) hE zCN rfl rfl ?_
 (have X1:=hd1;have X2:=hd0;have X3:=hx1;have X4:=hx0;have X5:=ht1;refine zS5 ?_;clear X1 X2 X3 X4 X5)
 refine QO.useS (ids:=[700]) hS (by have X1:=@QLW;have X2:=@flat.eq_1;exact zCN2) rfl rfl rfl ?_
 (have X1:=hd1;have X2:=hd0;have X3:=hx1;have X4:=hx0;have X5:=ht1;first | exact zC5 | refine zS5 ?_)
 rfl
theorem QL9 {L:List Itm} {h:Hs}:h∈QF L↔∃x∈L,x.h=h:=by rw [QF,List.mem_map]
theorem QP3 {L:List Itm} {x:Itm} {h:Hs} (hh:h∈QF (QBn L x)):h∈QF L∨h=x.h:=by
 rw [QBn] at hh
 split at hh
 ·rw [Qv] at hh
  simpa [QF] using hh
 ·exact .inl hh
theorem QQV {G G':GrV} (e:QEM G=some G'):(∀h∈QF G'.L,h∈QF G.L∨h∈QF G.W)∧∀h∈QF G'.W,h∈QF G.W:=by
 rw [QEM] at e
 split at e
 ·cases e
 ·rename_i h hr
  obtain⟨h1,h2⟩:=QB3 hr
  obtain⟨x,hx,hm,hxh⟩:=QA2 h1
  rw [hx] at e
  simp only [Option.some.injEq] at e
  subst e
  refine⟨fun k hk=>?_,fun k hk=>?_⟩
  ·rcases QP3 hk with q | q
   ·exact .inl q
   ·exact .inr (by rw [q,hxh];exact h1)
  ·obtain⟨y,hy,rfl⟩:=QL9.1 hk
   exact QL9.2 ⟨y,QF1 hy,rfl⟩
theorem QH0:∀{n:Nat} {G:GrV},(∀h∈QF (QEH n G).L,h∈QF G.L∨h∈QF G.W)∧∀h∈QF (QEH n G).W,h∈QF G.W
 | 0,G=>⟨fun _ h=>.inl h,fun _ h=>h⟩
 | n+1,G=>by
  rw [QEH]
  split
  ·exact⟨fun _ h=>.inl h,fun _ h=>h⟩
  ·rename_i G' e
   obtain⟨h1,h2⟩:=QQV e
   obtain⟨h3,h4⟩:=QH0 (n:=n) (G:=G')
   refine⟨fun h hh=>?_,fun h hh=>h2 h (h4 h hh)⟩
   rcases h3 h hh with k | k
   ·exact h1 h k
   ·exact .inr (h2 h k)
theorem QUP {G:GrV} {b:List UInt8} {h:Hs} (hh:h∈QF (addF G b).1.L∨h∈QF (addF G b).1.W):h∈QF G.L∨h∈QF G.W∨h=shaH b:=by
 have old:∀{q:Prop},(h∈QF G.L∨h∈QF G.W)→h∈QF G.L∨h∈QF G.W∨q:=fun k=>k.elim .inl fun k=>.inr (.inl k)
 rw [addF] at hh
 split at hh
 ·exact old hh
 ·split at hh
  ·exact old hh
  ·split at hh
   ·split at hh
    ·exact old hh
    ·rcases hh with k | k
     ·exact .inl k
     ·dsimp only at k
      rw [Qv,List.mem_append] at k
      rcases k with k | k
      ·exact .inr (.inl k)
      ·simp only [QF,List.map_cons,List.map_nil,List.mem_singleton] at k
       exact .inr (.inr k)
   ·split at hh
    ·exact old hh
    ·split at hh
     ·exact old hh
     ·dsimp only at hh
      obtain⟨h3,h4⟩:=QH0 (n:=G.W.length+1) (G:=⟨G.L++[mkI b],G.W⟩)
      have key:h∈QF (G.L++[mkI b])∨h∈QF G.W:=by
       rcases hh with k | k
       ·exact h3 h k
       ·exact .inr (h4 h k)
      rcases key with k | k
      ·rw [Qv,List.mem_append] at k
       rcases k with k | k
       ·exact .inl k
       ·simp only [QF,List.map_cons,List.map_nil,List.mem_singleton] at k
        exact .inr (.inr k)
      ·exact .inr (.inl k)
def Kin (all:List (List UInt8)) (G:GrV):Prop:=∀h,h∈QF G.L∨h∈QF G.W→h∈all.map shaH
theorem Kin.nil {all:List (List UInt8)}:Kin all ⟨[],[]⟩:=by rintro h (k | k)<;>simp [QF] at k
theorem Kin.add {all:List (List UInt8)} {G:GrV} {b:List UInt8} (h:Kin all G) (hb:b∈all):Kin all (addG G b):=by
 intro k hk
 rcases QUP hk with q | q | q
 ·exact h k (.inl q)
 ·exact h k (.inr q)
 ·rw [q];exact List.mem_map_of_mem hb
theorem Kin.len {all:List (List UInt8)} {G:GrV} (h:Kin all G) (hG:GrOK G):G.L.length+G.W.length≤all.length:=by
 have hn:(QF G.L++QF G.W).Nodup:=List.nodup_append.2 ⟨hG.ord.nodup,hG.nd,fun a ha b hb e=>hG.dis b hb (e▸ha)⟩
 have:=List.Nodup.length_le_of_subset hn (l₂:=all.map shaH) fun x hx=>h x (List.mem_append.1 hx)
 rw [List.length_append,Qh,Qh,List.length_map] at this
 exact this
open Proofs
theorem QdR {l:List MadeV} (h:fewF l=true):l.length≤30:=by
 simp only [fewF,Bool.and_eq_true,decide_eq_true_eq] at h;exact h.1.1
open Proofs Go.RowKit
theorem Rd.u8 {P:Program} {t:TypeId} (h:tint P t=some .u8):Rd P t QC (fun _=>1) (fun _=>True):=by
 intro H n d xs hx
 obtain⟨a,rfl,h1,h2⟩:=Rd.int h H n d xs hx
 have h3:0≤a∧a≤255:=by simpa [iok,Lit.wf,IntKind.min,IntKind.max,IntKind.signed,IntKind.bits] using h2
 refine⟨UInt8.ofNat a.toNat,?_,h1,trivial⟩
 have:((UInt8.ofNat a.toNat).toNat:Int)=a:=by
  rw [UInt8.toNat_ofNat']
  omega
 rw [QC,this];rfl
theorem Rd.bytes:Rd Tryz.prog 23 (fun l:List UInt8=>[.seq l.length 1 (flat QC l)]) (fun l=>(l.map fun _=>1).sum+1) (fun l=>∀a∈l,True):=Rd.slice QOA tsz_5 (Rd.u8 QOv)
def osz (o:OpV):Nat:=(o.name.size+1)+(o.text.size+1)+4
theorem Rd.op:Rd Tryz.prog 51 QX osz (fun o=>iok .i64 o.kind∧iok .i64 o.pos∧iok .i64 o.by_):=by
 intro H n d xs hx
 obtain⟨m,ps,rfl,h,hb⟩:=QLh QOi hx
 simp only [List.map_cons,List.map_nil] at h
 obtain⟨ds,a0,_,k0,rfl,h,e0,s0,o0⟩:=QBd (Rd.int QN0) h
 obtain⟨ds,a1,_,k1,rfl,h,e1,s1,o1⟩:=QBd (Rd.str QNz) h
 obtain⟨ds,a2,_,k2,rfl,h,e2,s2,o2⟩:=QBd (Rd.int QN0) h
 obtain⟨ds,a3,_,k3,rfl,h,e3,s3,o3⟩:=QBd (Rd.int QN0) h
 obtain⟨ds,a4,_,k4,rfl,h,e4,s4,o4⟩:=QBd (Rd.str QNz) h
 obtain rfl:=QZ6 h
 refine⟨⟨a0,a1,a2,a3,a4⟩,rfl,?_,o0,o2,o3⟩
 simp only [osz]
 omega
theorem Rd.ops:Rd Tryz.prog 52 (fun l:List OpV=>[.seq l.length 5 (flat QX l)]) (fun l=>(l.map osz).sum+1) (fun l=>∀a∈l,iok .i64 a.kind∧iok .i64 a.pos∧iok .i64 a.by_):=Rd.slice QN6 QaI Rd.op
def msz (m:MadeV):Nat:=((m.on.map fun _=>1).sum+1)+(m.note.size+1)+((m.ops.map osz).sum+1)+3
def mok (m:MadeV):Prop:=∀o∈m.ops,iok .i64 o.kind∧iok .i64 o.pos∧iok .i64 o.by_
theorem Rd.made:Rd Tryz.prog 115 mdc msz mok:=by
 intro H n d xs hx
 obtain⟨m,ps,rfl,h,hb⟩:=QLh QKE hx
 simp only [List.map_cons,List.map_nil] at h
 obtain⟨ds,a0,_,k0,rfl,h,e0,s0,o0⟩:=QBd (Rd.u8 QOv) h
 obtain⟨ds,a1,_,k1,rfl,h,e1,s1,o1⟩:=QBd Rd.bytes h
 obtain⟨ds,a2,_,k2,rfl,h,e2,s2,o2⟩:=QBd (Rd.str QNz) h
 obtain⟨ds,a3,_,k3,rfl,h,e3,s3,o3⟩:=QBd Rd.ops h
 obtain⟨ds,a4,_,k4,rfl,h,e4,s4,o4⟩:=QBd (Rd.u8 QOv) h
 obtain rfl:=QZ6 h
 refine⟨⟨a0,a1,a2,a3,a4⟩,rfl,?_,o3⟩
 simp only [msz]
 omega
theorem Rd.mades:Rd Tryz.prog 22 (fun l:List MadeV=>[.seq l.length 5 (flat mdc l)]) (fun l=>(l.map msz).sum+1) (fun l=>∀a∈l,mok a):=Rd.slice QOO QUF Rd.made
theorem QUw {α:Type} {f:α→Nat} {l:List α} {a:α} (h:a∈l):f a≤(l.map f).sum:=by
 induction l with
 | nil=>cases h
 | cons x l ih=>
  simp only [List.map_cons,List.sum_cons]
  rcases List.mem_cons.1 h with rfl | h
  ·omega
  ·have:=ih h;omega
theorem QIW {α:Type} {f:α→Nat} (hf:∀a,1≤f a) (l:List α):l.length≤(l.map f).sum:=by
 induction l with
 | nil=>simp
 | cons x l ih=>simp only [List.map_cons,List.sum_cons,List.length_cons];have:=hf x;omega
theorem QNl {n:Int} (h:iok .i64 n):-9223372036854775808≤n∧n<9223372036854775808:=by
 have h3:-9223372036854775808≤n∧n≤9223372036854775807:=by simpa [iok,Lit.wf,IntKind.min,IntKind.max,IntKind.signed,IntKind.bits] using h
 omega
theorem Qdz {l:List MadeV} (hb:(l.map msz).sum≤1048576) (ho:∀m∈l,mok m):l.length≤1048576∧∀m∈l,mdOK m:=by
 refine⟨Nat.le_trans (QIW (fun m=>by simp only [msz];omega) l) hb,fun m hm=>?_⟩
 have h1:msz m≤1048576:=Nat.le_trans (QUw (f:=msz) hm) hb
 have h2:=QIW (f:=fun _:UInt8=>1) (fun _=>Nat.le_refl _) m.on
 have h3:=QIW (f:=osz) (fun o=>by simp only [osz];omega) m.ops
 simp only [msz] at h1
 refine⟨by omega,by omega,by omega,fun o hm2=>?_⟩
 have h4:osz o≤(m.ops.map osz).sum:=QUw (f:=osz) hm2
 obtain⟨k1,k2,k3⟩:=ho m hm o hm2
 simp only [osz] at h4
 exact⟨by omega,by omega,QNl k1,QNl k2,QNl k3⟩
theorem QL6 {l:List UInt8} {n:Nat} (h:(l.map fun _=>1).sum+1≤n):l.length≤n:=by
 have:=QIW (f:=fun _:UInt8=>1) (fun _=>Nat.le_refl _) l
 omega
theorem QVA:Tryz.prog.globalNamed "stemma/sha.rounds"=some 1:=zK
theorem QaV:Tryz.prog.globalNamed "stemma/sha.begin"=some 0:=zK
theorem QZ0:(Tryz.prog.globals[1]?).map (·.type)=some 260:=zK
theorem Qby:(Tryz.prog.globals[0]?).map (·.type)=some 208:=zK
theorem Qad:Tryz.prog.cellsOf 260=64:=zK
theorem cells8:Tryz.prog.cellsOf 208=8:=zK
theorem QZ7:Tryz.prog.cellsOf 84=1:=zK
def zR:List Int:=kR.map fun a=>((a.toNat:Nat):Int)
def zB:List Int:=kB.map fun a=>((a.toNat:Nat):Int)
open Proofs.YtpcbnjbpdooejaaGreatDoor in
def QbE:List (String×DataW Unit):=[("stemma/sha.rounds",Rows.laid_stemma_sha_rounds),("stemma/sha.begin",Rows.laid_stemma_sha_begin)]
theorem QX5:QbE=[("stemma/sha.rounds",Lib.tabData .u32 zR),("stemma/sha.begin",Lib.tabData .u32 zB)]:=zK
theorem Qar {P:Program} {W:World} {n1 name:String} {d1:DataW Unit} {k:IntKind} {zs:List Int} {rest:List (String×DataW Unit)} {g:Nat} {t e:TypeId} {n:Nat}
  (hg:P.globalNamed name=some g) (hty:(P.globals[g]?).map (·.type)=some t) (ht:P.underlying t=some (.array n e)) (he:P.underlying e=some (.int k)) (hce:P.cellsOf e=1) (hct:P.cellsOf t=n)
  (h:laidMet P ((n1,d1)::(name,Lib.tabData k zs)::rest) W):Lib.TabIs P W name k zs:=by
 obtain⟨ps,⟨_,_,_,_,_,_,_,_,_,_,⟨g',t',cs,fuel,p,q,hg',ht',hvar,hd,_,_⟩,_⟩,_⟩:=h
 obtain rfl:=Option.some.inj (hg.symm.trans hg')
 obtain rfl:=Option.some.inj (hty.symm.trans ht')
 unfold Lib.TabIs
 rw [hvar,←Lib.cells_of_tab ht he hce hct hd]
theorem GOK.laid {W:World} (h:laidMetH Tryz.prog QbE W):GOK gK (Sall W) W:=by
 have h':laidMet Tryz.prog QbE W:=h
 rw [QX5] at h'
 have hR:=Lib.tabIs_of_head QVA QZ0 Tryz.underlying260 Tryz.underlying84 QZ7 Qad h'
 have hB:=Qar QaV Qby Tryz.underlying208 Tryz.underlying84 QZ7 cells8 h'
 have key:∀(g:Nat) (name:String) (zs:List Int),Lib.TabIs Tryz.prog W name .u32 zs→Tryz.prog.globalNamed name=some g→∀(j:Nat) (v:Value),(zs.map fun z=>Value.int .u32 z)[j]?=some v→Sall W g j∧W.cell? ⟨g,j,none⟩=some v∧v.oneCell'=true:=by
  intro g name zs hT hn j v hv
  rw [List.getElem?_map] at hv
  cases e:zs[j]? with
  | none=>rw [e] at hv;cases hv
  | some z=>
   rw [e] at hv
   simp only [Option.map_some,Option.some.injEq] at hv
   subst hv
   have hj:=(List.getElem?_eq_some_iff.1 e).1
   have hc:=hT.cell hn j hj
   rw [List.getD_eq_getElem?_getD,e,Option.getD_some] at hc
   refine⟨?_,hc,rfl⟩
   refine Classical.byContradiction fun hlt=>?_
   have hnone:W.heap[g]?=none:=by
    rw [Array.getElem?_eq_none]
    exact Nat.le_of_not_lt hlt
   simp [World.cell?,hnone] at hc
 refine⟨fun g vs hg j v hv=>?_,fun g N hg=>?_⟩
 ·simp only [gK,lk] at hg
  split at hg
  ·simp only [Option.some.injEq,GEnt.tab.injEq] at hg
   subst hg
   rename_i e
   refine key g "stemma/sha.begin" zB hB (by rw [←e];exact QaV) j v ?_
   rw [zB,List.map_map];exact hv
  ·split at hg
   ·simp only [Option.some.injEq,GEnt.tab.injEq] at hg
    subst hg
    rename_i e
    refine key g "stemma/sha.rounds" zR hR (by rw [←e];exact QVA) j v ?_
    rw [zR,List.map_map];exact hv
   ·cases hg
 ·simp only [gK,lk] at hg
  split at hg
  ·cases hg
  ·split at hg<;>cases hg
theorem QE.lawG {P:Program} {γ:GTab} {w:World} {f:FuncId} {xs:List AV} {args:Array Value} (hp:QE P γ f xs (.v (.bool true))) (hG:GOK γ (Sall w) w) (h:RepL (Sall w) μ0 w xs args.toList):
  Calls P f args w fun e w'=>e=.returned (.bool true)∧Below w.heap.size w w':=by
 refine (hp.2.2.2 (Sall w) w args.toList (fun b off h=>h) hG h).mono fun e w' he=>?_
 obtain⟨v,S',rfl,hE,hv⟩:=he
 simp only [Rep] at hv
 subst hv
 exact⟨rfl,hE.os,hE.tape.1,hE.output,hE.size,hE.heap⟩
end Go.AW
