/- A part of the proof: D49 D50 D51 D52 D53. -/
import Derived.Test.YtpcbnjbpdooejaaGreatDoorPae
import Derived.Test.YtpcbnjbpdooejaaGreatDoorPav
import Derived.Test.YtpcbnjbpdooejaaGreatDoorPas
import Derived.Shelf.SlMaps.Clone
set_option linter.unusedSimpArgs false
set_option linter.unusedVariables false
set_option maxRecDepth 100000
set_option maxHeartbeats 8000000
namespace Go.AW
open Proofs
theorem Qfl {G:GrV}:List.drop 1 (QBf G)=[.mv KH (hks (QF G.W)) (nvs G.W),.mv KH (hks (namF G.L)) (bts (namF G.L).length)]:=(rfl)
theorem QXm {G:GrV}:List.drop 2 (QBf G)=[.mv KH (hks (namF G.L)) (bts (namF G.L).length)]:=(rfl)
attribute [push_cast] Qfl QXm
theorem Qfi:QM Tryz.prog [] 35 [] [] 0 (.ptr 0 0) (gO ⟨[],[]⟩) 4:=by
 refine QM.start Tryz.func35 rfl zK rfl Tryz.ntmps35 fol zK (Nat.zero_le _) ?_
 simp only [List.zipIdx_cons,List.zipIdx_nil,List.map_cons,List.map_nil,Nat.zero_add,gO]
 refine zS ?_
 refine fzNM 0 [(0,11),(1,7),(2,8),(3,9)] [0] ?_ ?_<;>first | exact zC | refine zS ?_
 exact⟨⟨rfl,rfl⟩,⟨rfl,rfl⟩,rfl,rfl⟩
theorem QfT (G:GrV) (hW:G.W.length≤64):POwn Tryz.prog [] 46 [.rop (QBf G)] (waiF G).length 32 47 (flat hcell (waiF G)):=by
 refine POwn.start Tryz.func46 rfl zK rfl Tryz.ntmps46 fol zK (by simp [idfL,idf,QZ QS,QS,Qg,Qy,QAL,QAn]) (by simp [QQ,QAL,QAn]) ?_
 refine zz ?_
 (have X1:=@QBf.eq_1;refine zS1 ?_;clear X1)
 refine POwn.useV (QRX (QF G.W) (nvs G.W) QF8 (by rw [QFC,Qh]) (by rw [Qh];omega)) ?_
 rw [show srt (QF G.W)=waiF G from rfl]
 refine zS ?_
 exact fzN 0 [(0,30)] []
theorem Qax (G:GrV) (hG:GrOK G):POwn Tryz.prog [] 34 [.rop (QBf G)] (heaF G.L).length 32 47 (flat hcell (heaF G.L)):=by
 refine POwn.start Tryz.func34 rfl zK rfl Tryz.ntmps34 fol zK (by simp [idfL,idf,QZ QS,QS,Qg,Qy,QAL,QAn]) (by simp [QQ,QAL,QAn]) ?_
 refine zz ?_
 (have X1:=@QBf.eq_1;refine zS1 ?_;clear X1)
 refine QD (ι:=Option (Value×AV)×List Hs×List AV×List Hs×List Hs) (fun q=>⟨[(0,.rop (QBf G)),(3,.mp 1),(12,.it 0)],⟨[(0,.miter q.1 (hks q.2.1) q.2.2.1),(1,.map KH (hks q.2.2.2.2) (bts q.2.2.2.2.length))],2,2,0⟩⟩)
  (fun q=>q.2.2.1.length=q.2.1.length∧(q.2.2.2.1++q.2.1).Perm (QF G.L)∧idfL q.2.2.1=true∧QFn q.1=true∧(∀x,x∈q.2.2.2.2↔x∈q.2.2.2.1∧x∉namF G.L)∧q.2.2.2.2.length≤q.2.2.2.1.length) (fun q=>q.2.1.length) (none,QF G.L,nvs G.L,[],[]) ⟨by rw [QFC,Qh],by simp,QF8,rfl,by simp,Nat.le_refl _⟩ ?_ ?_
 ·(have X1:=@QBf.eq_1;refine fzIM 0 [(0,96),(1,63)] [0] ?_ ?_<;>first | exact zC1 | refine zS1 ?_)
  exact⟨rfl,rfl⟩
 rintro⟨last,rest,ys,dn,M⟩ ⟨hyl,hp,hyi,hli,hM,hMl⟩
 dsimp only at hyl hp hyi hli hM hMl ⊢
 have hpl:=hp.length_eq
 have hLn:=hG.lenL
 simp only [List.length_append,Qh] at hpl
 refine zS ?_
 refine⟨fun h=>?_,fun i k x hki hxi ks' xs' l' hf=>?_⟩
 ·have hr:rest=[]:=QGL.1 h
  subst hr
  rw [List.append_nil] at hp
  have hs:srt M=heaF G.L:=by
   rw [heaF]
   exact QG2 fun x=>by rw [hM,hp.mem_iff,List.mem_filter];simp
  refine zS ?_
  refine POwn.use (QIQ M (bts M.length) QAu QB2 zo) (ids:=[1]) zCN ?_
  rw [hs]
  refine zS ?_
  exact fzN 0 [(0,58)] []
 ·simp [Mem.find,lk] at hf
  obtain⟨rfl,rfl,rfl⟩:=hf
  obtain⟨a,hki,rfl⟩:=QG8 hki
  rename_i hki2
  have hil:i<rest.length:=(List.getElem?_eq_some_iff.1 hki2).1
  have hxd:=QDZ hyi hxi
  have hye:=QBW hyi i
  have hms:(rest.eraseIdx i).length<rest.length:=by rw [List.length_eraseIdx,if_pos hil];omega
  have hyl2:(ys.eraseIdx i).length=(rest.eraseIdx i).length:=by rw [List.length_eraseIdx,List.length_eraseIdx,hyl]
  have hpm:=QDQ hp hki2
  refine zS ?_
  refine⟨fun h2=>?_,fun h2=>?_⟩
  ·have hn2:a∉namF G.L:=by first | exact h2 | simpa using h2
   refine zS ?_
   refine⟨(some (hval a,x),rest.eraseIdx i,ys.eraseIdx i,dn++[a],addH M a),⟨hyl2,hpm,hye,hxd,fun y=>?_,by show (addH M a).length≤(dn++[a]).length;have:=QIZ M a;rw [List.length_append];simp only [List.length_cons,List.length_nil];omega⟩,hms,?_⟩
   ·show y∈addH M a↔y∈dn++[a]∧_
    rw [QOr,hM,List.mem_append,List.mem_singleton]
    constructor
    ·rintro(⟨k1,k2⟩ | k)
     ·exact⟨.inl k1,k2⟩
     ·exact⟨.inr k,by rw [k];exact hn2⟩
    ·rintro⟨k | k,k2⟩
     ·exact .inl ⟨k,k2⟩
     ·exact .inr k
   (have X1:=hye;have X2:=hxd;exact fzI2 0 [(0,0),(1,1)] [0])
  ·have hn2:a∈namF G.L:=by first | exact h2 | simpa using h2
   refine zS ?_
   refine⟨(some (hval a,x),rest.eraseIdx i,ys.eraseIdx i,dn++[a],M),⟨hyl2,hpm,hye,hxd,fun y=>?_,by show M.length≤(dn++[a]).length;rw [List.length_append];omega⟩,hms,?_⟩
   ·show y∈M↔y∈dn++[a]∧_
    rw [hM,List.mem_append,List.mem_singleton]
    constructor
    ·rintro⟨k1,k2⟩
     exact⟨.inl k1,k2⟩
    ·rintro⟨k | k,k2⟩
     ·exact⟨k,k2⟩
     ·exact absurd (by rw [k];exact hn2) k2
   (have X1:=hye;have X2:=hxd;exact fzI2 0 [(0,0),(1,1)] [0])
theorem QgJ {L:List Itm} {i:Nat} {a:Hs} (h:(QF L)[i]?=some a):∃y,L[i]?=some y∧y.h=a∧(nvs L)[i]?=some (.agg (QDy y)):=by
 rw [QF,List.getElem?_map] at h
 cases e:L[i]? with
 | none=>rw [e] at h;cases h
 | some y=>rw [e] at h;simp only [Option.map_some,Option.some.injEq] at h;exact⟨y,rfl,h,by rw [nvs,List.getElem?_map,e];rfl⟩
theorem Qey {L:List Itm} {i:Nat}:(QF L).eraseIdx i=QF (L.eraseIdx i):=(QCw ..).symm
theorem QfQ {L:List Itm} {i:Nat}:(nvs L).eraseIdx i=nvs (L.eraseIdx i):=(QCw ..).symm
attribute [push_cast] Qey QfQ
theorem QfH (G:GrV) (hG:GrOK G):POwn Tryz.prog [] 53 [.rop (QBf G)] (misF G).length 32 47 (flat hcell (misF G)):=by
 refine POwn.start Tryz.func53 rfl zK rfl Tryz.ntmps53 fol zK (by simp [idfL,idf,QZ QS,QS,Qg,Qy,QAL,QAn]) (by simp [QQ,QAL,QAn]) ?_
 refine zZ ?_
 refine QD (ι:=Option (Value×AV)×List Itm×List Itm×List Hs) (fun q=>⟨[(0,.rop (QBf G)),(3,.mp 1),(17,.it 0)],⟨[(0,.miter q.1 (hks (QF q.2.1)) (nvs q.2.1)),(1,.map KH (hks q.2.2.2) (bts q.2.2.2.length))],2,2,0⟩⟩)
  (fun q=>(q.2.2.1++q.2.1).Perm G.W∧QFn q.1=true∧(∀x,x∈q.2.2.2↔(∃y∈q.2.2.1,x∈y.c.deps)∧x∉QF G.L∧x∉QF G.W)∧q.2.2.2.length≤16*q.2.2.1.length) (fun q=>q.2.1.length) (none,G.W,[],[]) ⟨by simp,rfl,by simp,Nat.le_refl _⟩ ?_ ?_
 ·refine fzIM 0 [(0,173),(1,116)] [0] ?_ ?_<;>first | exact zC | refine zS ?_
  exact⟨rfl,rfl⟩
 rintro⟨last,rest,dn,M⟩ ⟨hp,hli,hM,hMl⟩
 dsimp only at hp hli hM hMl ⊢
 have hpl:=hp.length_eq
 have hWn:=hG.lenW
 simp only [List.length_append] at hpl
 refine zS ?_
 refine⟨fun h=>?_,fun i k x hki hxi ks' xs' l' hf=>?_⟩
 ·have hr:rest=[]:=List.map_eq_nil_iff.1 (QGL.1 h)
  subst hr
  rw [List.append_nil] at hp
  have hs:srt M=misF G:=by
   rw [misF]
   exact QG2 fun x=>by
    rw [hM,List.mem_filter,List.mem_flatMap]
    simp only [hp.mem_iff,Bool.and_eq_true,Bool.not_eq_true',decide_eq_false_iff_not]
  refine zS ?_
  refine POwn.use (QIQ M (bts M.length) QAu QB2 zo) (ids:=[1]) zCN ?_
  rw [hs]
  refine zS ?_
  exact fzN 0 [(0,106)] []
 ·simp [Mem.find,lk] at hf
  obtain⟨rfl,rfl,rfl⟩:=hf
  obtain⟨a,hki,rfl⟩:=QG8 hki
  rename_i hki2
  obtain⟨y,hy1,rfl,hy2⟩:=QgJ hki2
  rw [hy2] at hxi
  simp only [Option.some.injEq] at hxi
  subst hxi
  have hil:i<rest.length:=(List.getElem?_eq_some_iff.1 hy1).1
  have hms:(rest.eraseIdx i).length<rest.length:=by rw [List.length_eraseIdx,if_pos hil];omega
  have hpm:=QDQ hp hy1
  have hyB:=hG.bW (hp.mem_iff.1 (List.mem_append_right _ (List.mem_of_getElem? hy1)))
  have hdl:=hyB.deps
  have hli2:QFn (some (hval y.h,AV.agg (QDy y)))=true:=by (have X1:=@QDy.eq_1;have X2:=@ccl.eq_1;first | exact zC2 | (refine zS2 ?_;clear X1 X2))
  (have X1:=@QDy.eq_1;have X2:=@ccl.eq_1;refine zS2 ?_;clear X1 X2)
  refine QD (ι:=Nat×List Hs) (fun q=>⟨[(0,.rop (QBf G)),(3,.mp 1),(17,.it 0),(24,.seq y.c.deps.length 32 (flat hcell y.c.deps)),(25,.v (.int .i64 y.c.deps.length)),(26,.v (.int .i64 q.1))],⟨[(0,.miter (some (hval y.h,.agg (QDy y))) (hks (QF (rest.eraseIdx i))) (nvs (rest.eraseIdx i))),(1,.map KH (hks q.2) (bts q.2.length))],2,2,0⟩⟩)
   (fun q=>q.1≤y.c.deps.length∧(∀x,x∈q.2↔x∈M∨x∈y.c.deps.take q.1∧x∉QF G.L∧x∉QF G.W)∧q.2.length≤M.length+q.1) (fun q=>y.c.deps.length - q.1) (0,M) ⟨Nat.zero_le _,by simp,Nat.le_refl _⟩ ?_ ?_
  ·(have X1:=@QDy.eq_1;have X2:=@ccl.eq_1;exact fzI2 0 [(0,0),(1,1)] [0])
  rintro⟨j,N⟩ ⟨hj,hN,hNl⟩
  dsimp only at hj hN hNl ⊢
  refine zS ?_
  refine⟨fun k1=>?_,fun k1=>?_⟩
  ·have hj1:j<y.c.deps.length:=by omega
   obtain⟨ws,hw1,hw2,hw3⟩:=QHw G.W y.c.deps[j]
   (have X1:=hw1;have X2:=hw2;refine zS2 ?_;clear X1 X2)
   by_cases hW:y.c.deps[j]∈QF G.W
   ·(have X1:=hW;refine zS1 ?_;clear X1)
    refine⟨(j+1,N),⟨zO,fun x=>?_,zO⟩,zO,?_⟩
    ·show x∈N↔_
     rw [hN,List.take_add_one,List.getElem?_eq_getElem hj1,List.mem_append]
     simp only [Option.toList_some,List.mem_singleton]
     constructor
     ·rintro(k | ⟨k,k2⟩)
      ·exact .inl k
      ·exact .inr ⟨.inl k,k2⟩
     ·rintro(k | ⟨k | k,k2,k3⟩)
      ·exact .inl k
      ·exact .inr ⟨k,k2,k3⟩
      ·exact absurd (by rw [k];exact hW) k3
    (have X1:=@QDy.eq_1;have X2:=@ccl.eq_1;exact fzI2 0 [(0,0),(1,1)] [0])
   ·(have X1:=hW;refine zS1 ?_;clear X1)
    refine (QcP G y.c.deps[j]).useV ?_
    by_cases hT:y.c.deps[j]∈QF G.L
    ·(have X1:=@hasL.eq_1;have X2:=hT;refine zS2 ?_;clear X1 X2)
     refine⟨(j+1,N),⟨zO,fun x=>?_,zO⟩,zO,?_⟩
     ·show x∈N↔_
      rw [hN,List.take_add_one,List.getElem?_eq_getElem hj1,List.mem_append]
      simp only [Option.toList_some,List.mem_singleton]
      constructor
      ·rintro(k | ⟨k,k2⟩)
       ·exact .inl k
       ·exact .inr ⟨.inl k,k2⟩
      ·rintro(k | ⟨k | k,k2,k3⟩)
       ·exact .inl k
       ·exact .inr ⟨k,k2,k3⟩
       ·exact absurd (by rw [k];exact hT) k2
     (have X1:=@QDy.eq_1;have X2:=@ccl.eq_1;exact fzI2 0 [(0,0),(1,1)] [0])
    ·(have X1:=@hasL.eq_1;have X2:=hT;refine zS2 ?_;clear X1 X2)
     refine⟨(j+1,addH N y.c.deps[j]),⟨zO,fun x=>?_,by show (addH N y.c.deps[j]).length≤M.length+(j+1);have:=QIZ N y.c.deps[j];omega⟩,zO,?_⟩
     ·show x∈addH N y.c.deps[j]↔_
      rw [QOr,hN,List.take_add_one,List.getElem?_eq_getElem hj1,List.mem_append]
      simp only [Option.toList_some,List.mem_singleton]
      constructor
      ·rintro((k | ⟨k,k2⟩) | k)
       ·exact .inl k
       ·exact .inr ⟨.inl k,k2⟩
       ·exact .inr ⟨.inr k,by rw [k];exact hT,by rw [k];exact hW⟩
      ·rintro(k | ⟨k | k,k2,k3⟩)
       ·exact .inl (.inl k)
       ·exact .inl (.inr ⟨k,k2,k3⟩)
       ·exact .inr k
     (have X1:=@QDy.eq_1;have X2:=@ccl.eq_1;exact fzI2 0 [(0,0),(1,1)] [0])
  ·have hj2:j=y.c.deps.length:=by omega
   subst hj2
   refine zS ?_
   refine⟨(some (hval y.h,.agg (QDy y)),rest.eraseIdx i,dn++[y],N),⟨hpm,hli2,fun x=>?_,by show N.length≤16*(dn++[y]).length;rw [List.length_append];simp only [List.length_cons,List.length_nil];omega⟩,hms,?_⟩
   ·show x∈N↔(∃z∈dn++[y],x∈z.c.deps)∧_
    rw [hN,hM,List.take_length]
    constructor
    ·rintro(⟨⟨z,k1,k2⟩,k3⟩ | ⟨k1,k3⟩)
     ·exact⟨⟨z,List.mem_append_left _ k1,k2⟩,k3⟩
     ·exact⟨⟨y,by simp,k1⟩,k3⟩
    ·rintro⟨⟨z,k1,k2⟩,k3⟩
     rcases List.mem_append.1 k1 with k | k
     ·exact .inl ⟨⟨z,k,k2⟩,k3⟩
     ·rw [List.mem_singleton] at k
      exact .inr ⟨by rw [←k];exact k2,k3⟩
   (have X1:=@QDy.eq_1;have X2:=@ccl.eq_1;exact fzI2 0 [(0,0),(1,1)] [0])
theorem Qfc (G:GrV) (hG:GrOK G) (h:Hs):QE Tryz.prog [] 48 [.rop (QBf G),.agg (hcell h)] (.tup [.seq (bytF G.L h).length 1 (flat QC (bytF G.L h)),.v (.int .i64 (bytE G.L h))]):=by
 refine QE.startW Tryz.func48 rfl zK rfl Tryz.ntmps48 fol zK (by simp [idfL,idf,QZ QS,QS,Qg,Qy,QAn]) (by simp [idfL,idf,QZ QS,QS,Qg,Qy,QAn]) ?_
 refine zZ ?_
 refine (QcP G h).useV ?_
 by_cases hT:h∈QF G.L
 ·obtain⟨x,hx,hxm,hxh⟩:=QA2 hT
  have hbb:bytF G.L h=x.b:=by rw [bytF,hx]
  have hxB:=hG.bL hxm
  have hbe:bytE G.L h=0:=if_pos hT
  (have X1:=@hasL.eq_1;have X2:=hT;have X3:=QJd hx;have X4:=@QDy.eq_1;have X5:=@ccl.eq_1;have X6:=hbb;have X7:=hbe;refine zS7 ?_;clear X1 X2 X3 X4 X5 X6 X7)
  refine QO.useN ((QZb x.b (Nat.le_trans hxB.len zD))) rfl ?_
  (have X1:=hbb;have X2:=hbe;first | exact zC2 | refine zS2 ?_)
 ·have hbb:bytF G.L h=[]:=by rw [bytF,QGh.2 hT]
  have hbe:bytE G.L h=44:=if_neg hT
  (have X1:=@hasL.eq_1;have X2:=hT;have X3:=hbb;have X4:=hbe;first | exact zC4 | refine zS4 ?_)
  first | done | exact⟨⟨rfl,rfl⟩,rfl⟩ | rfl
end Go.AW
namespace Go.Proofs
open Go.Shelf
end Go.Proofs
namespace Go.AW
open Proofs
open Proofs
theorem QA0 (x:UInt32) (n:Nat) (h:n≤32):QE Tryz.prog [] 210 [.v (.int .u32 x.toNat),.v (.int .u64 n)] (.v (.int .u32 (rotF x n).toNat)):=by
 refine QE.start Tryz.func210 rfl zK rfl Tryz.ntmps210 fol zK (by simp [idfL,idf]) rfl ?_
 refine zz ?_
 have e:((32:Int) - (n:Int)).toNat=32 - n:=by omega
 (have X1:=e;first | exact zC1 | refine zS1 ?_)
 rfl
theorem QQx (i:Nat) (h:i<64):QE Tryz.prog [] 211 [.v (.int .i64 i)] (.v (.int .u32 (kR.getD i 0).toNat)):=by
 refine QE.start Tryz.func211 rfl zK rfl Tryz.ntmps211 fol zK (by simp [idfL,idf]) rfl ?_
 refine zz ?_
 have hg:=QB7 (ws:=kR) (i:=i) (by rw [QKr];exact h)
 refine zS ?_
 change evS (Option.map _ ((flat Qb kR)[i]?)) _ _ _
 rw [hg]
 exact zC
theorem QYm (b:List UInt8) (hb:b.length≤1048576):QE Tryz.prog [] 160 [.seq b.length 1 (flat QC b)] (.seq (padF b).length 1 (flat QC (padF b))):=by
 refine QE.start Tryz.func160 rfl zK rfl Tryz.ntmps160 fol zK zI zI ?_
 refine zZ ?_
 have hfl:∀l:List UInt8,flat QC l++[AV.v (.int .u8 128)]=flat QC (l++[128]):=fun l=>by rw [Q7];rfl
 have hf0:∀l:List UInt8,flat QC l++[AV.v (.int .u8 0)]=flat QC (l++[0]):=fun l=>by rw [Q7];rfl
 (have X1:=hfl;refine zS1 ?_;clear X1)
 refine QD (ι:=Nat×List UInt8) (fun q=>⟨[(0,.seq b.length 1 (flat QC b)),(3,.sl 0 0 q.2.length 1)],⟨[(0,.cells 5 (flat QC q.2) true)],1,1,0⟩⟩)
  (fun q=>padZ q.1 q.2=padZ 64 (b++[128])∧q.1≤64∧q.2.length+q.1=b.length+65) (fun q=>q.1) (64,b++[128]) ⟨rfl,Nat.le_refl _,by simp⟩ ?_ ?_
 ·(have X1:=hfl;exact fzN1 0 [(0,84)] [])
 rintro⟨f,l⟩ ⟨hp,hf,hl⟩
 dsimp only at hp hf hl ⊢
 have hne:l.length % 64≠56→∃g,f=g+1:=fun h=>by
  cases f with
  | zero=>exact absurd (by
    have:=QIj 64 (b++[128]) zo
    rw [←hp] at this;exact this) h
  | succ g=>exact⟨g,rfl⟩
 (have X1:=hf0;refine zS1 ?_;clear X1)
 refine⟨fun h=>?_,fun h=>?_⟩
 ·obtain⟨g,rfl⟩:=hne zo
  (have X1:=hf0;refine zS1 ?_;clear X1)
  refine⟨(g,l++[0]),⟨?_,zO,by show (l++[0]).length+g=_;rw [List.length_append];simp only [List.length_cons,List.length_nil];omega⟩,zO,?_⟩
  ·show padZ g (l++[0])=_
   rw [←hp,padZ,if_neg zo]
  (have X1:=hf0;have X2:=@List.length_append.{0};have X3:=@List.length_cons.{0};have X4:=@List.length_nil.{0};exact fzN4 0 [(0,55)] [])
 ·have hpl:padZ f l=l:=by cases f<;>simp [padZ];omega
  rw [hpl] at hp
  have hbl:(bitB b.length).length=8:=by simp [bitB]
  have hpf:l++bitB b.length=padF b:=by rw [padF,hp]
  obtain⟨N,hN⟩:∃N,N=b.length*8:=⟨_,rfl⟩
  have hpl8:(padF b).length=l.length+8:=by rw [←hpf,List.length_append,hbl]
  have htk:List.take (l.length+8) (flat QC (padF b))=flat QC (padF b):=List.take_of_length_le (by rw [QH,hpl8];exact Nat.le_refl _)
  refine zS ?_
  refine QD (ι:=Nat) (fun i=>⟨[(3,.sl 0 0 (l.length+i) 1),(4,.v (.int .u64 (N:Int))),(5,.v (.int .i64 i))],⟨[(0,.cells 5 (flat QC (l++(bitB b.length).take i)) true)],1,1,0⟩⟩)
   (fun i=>i≤8) (fun i=>8 - i) 0 (Nat.zero_le _) ?_ ?_
  ·refine fzNM 0 [(0,0)] [] ?_ ?_<;>first | exact zC | refine zS ?_
   rw [hN]
   rfl
  intro i hi
  refine zS ?_
  refine⟨fun h=>?_,fun h=>?_⟩
  ·have hi8:i<8:=by omega
   obtain⟨sh,hsh'⟩:∃sh,sh=N / 2^(56 - 8*i):=⟨_,rfl⟩
   have hbi:(bitB b.length)[i]'zo=UInt8.ofNat sh:=by simp [bitB,hsh',hN]
   have hsr:∀x y,pbin Tryz.prog .shr 154 x y (.int .u64 (N:Int)) (.int .u64 (56 - 8*(i:Int)))=some (.int .u64 (sh:Int)):=fun x y=>by
    rw [show (56 - 8*(i:Int))=((56 - 8*i:Nat):Int) by omega,QCF (by simp [IntKind.bits];omega),hsh']
   have hset:(bitB b.length).take i++[UInt8.ofNat sh]=(bitB b.length).take (i+1):=by rw [List.take_succ_eq_append_getElem zo,hbi]
   (have X1:=hsr;refine zS1 ?_;clear X1)
   rw [hset]
   refine⟨i+1,zO,zO,?_⟩
   refine fzNM 0 [(0,73)] [] ?_ ?_<;>first | exact zC | refine zS ?_
   rfl
  ·have hi8:i=8:=by omega
   subst hi8
   have hfull:(bitB b.length).take 8=bitB b.length:=by rw [List.take_of_length_le zo]
   (have X1:=hfull;have X2:=hpf;have X3:=hpl8;have X4:=htk;exact zC4)
open Proofs
theorem U32_256 (v:UInt32):U32 (256*(v.toNat:Int))=256*v:=by
 rw [show (256:Int)*(v.toNat:Int)=((256*v.toNat:Nat):Int) by omega,QI3]
 apply UInt32.toNat_inj.1
 simp [UInt32.toNat_mul]
theorem ms_get {l:List UInt32} {i:Nat} {v:UInt32} (h:i<l.length):(ms l i v).getD i 0=v:=by
 rw [ms,List.getD_eq_getElem?_getD,List.getElem?_set_self h];rfl
def w8 (s:List UInt32):List AV:=[.v (.int .u32 ((s.getD 0 0).toNat:Nat)),.v (.int .u32 ((s.getD 1 0).toNat:Nat)),.v (.int .u32 ((s.getD 2 0).toNat:Nat)),.v (.int .u32 ((s.getD 3 0).toNat:Nat)),.v (.int .u32 ((s.getD 4 0).toNat:Nat)),.v (.int .u32 ((s.getD 5 0).toNat:Nat)),.v (.int .u32 ((s.getD 6 0).toNat:Nat)),.v (.int .u32 ((s.getD 7 0).toNat:Nat))]
theorem Qbh (st:List UInt32) (hst:st.length=8) (blk:List UInt8) (hb:blk.length=64):QE Tryz.prog [] 161 [.agg (flat Qb st),.seq 64 1 (flat QC blk)] (.agg (flat Qb (mixF st blk))):=by
 refine QE.start Tryz.func161 rfl zK rfl Tryz.ntmps161 fol zK (by simp [idfL,idf,QZ QS,QS,Qg,Qy,Qg,QDs]) (by simp [idfL,idf,QZ QS,QS,Qg,Qy,Qg,QDs]) ?_
 refine zZ ?_
 refine QD (ι:=Nat) (fun i=>⟨[(1,.seq 64 1 (flat QC blk)),(2,.ptr 0 0),(4,.ptr 1 0),(5,.ptr 2 0),(6,.v (.int .i64 i))],⟨[(0,.cells 208 (flat Qb st) false),(1,.cells 208 (flat Qb z8) false),(2,.cells 260 (flat Qb (padW (wsF blk i))) false)],3,3,0⟩⟩) (fun i=>i≤16) (fun i=>16 - i) 0 (Nat.zero_le _) ?_ ?_
 ·refine fzNM 0 [(0,2),(1,4),(2,183)] [] ?_ ?_<;>first | exact zC | refine zS ?_
  first | done | exact⟨rfl,rfl⟩ | rfl
 intro i hi
 have hpl:(padW (wsF blk i)).length=64:=by simp [padW,Qf];omega
 refine zS ?_
 refine⟨fun h=>?_,fun h=>?_⟩
 ·have h':i<16:=by omega
  have hz:=QSS (ws:=wsF blk i) (by rw [Qf];omega)
  rw [Qf] at hz
  refine zS ?_
  refine QD (ι:=Nat) (fun k=>⟨[(1,.seq 64 1 (flat QC blk)),(2,.ptr 0 0),(4,.ptr 1 0),(5,.ptr 2 0),(6,.v (.int .i64 i)),(7,.v (.int .i64 k))],⟨[(0,.cells 208 (flat Qb st) false),(1,.cells 208 (flat Qb z8) false),(2,.cells 260 (flat Qb (ms (padW (wsF blk i)) i (horW blk i k))) false)],3,3,0⟩⟩) (fun k=>k≤4) (fun k=>4 - k) 0 (Nat.zero_le _) ?_ ?_
  ·refine Ent.freezeN 0 [(0,0),(1,1),(2,2)] [] ?_ ?_ rfl rfl rfl zD rfl rfl<;>simp (maxSteps:=400000) (disch:=first | omega | exact okT rfl | simp only [push_cast]) only [push_cast,↓QG,↓reduceIte,Nat.reduceAdd,Nat.reduceMul,Nat.reduceSub,Nat.reduceEqDiff,Nat.reduceBEq,Nat.reduceBNe,Nat.reduceLT,Nat.reduceLeDiff,reduceCtorEq,Op.operands,QA,QB,Nat.sub_zero,ms,horW,hz]
  intro k hk
  have hml:(ms (padW (wsF blk i)) i (horW blk i k)).length=64:=by rw [ms,List.length_set,hpl]
  refine zS ?_
  refine⟨fun h=>?_,fun h=>?_⟩
  ·have hk':k<4:=by omega
   have e0:(4*(i:Int)+(k:Int)).toNat=4*i+k:=by omega
   have g0:(List.drop (4*i+k) (flat QC blk))[0]?=some (.v (.int .u8 ((blk.getD (4*i+k) 0).toNat:Nat))):=by rw [List.getElem?_drop,Nat.add_zero];exact QBm zo
   have hgd:=ms_get (l:=padW (wsF blk i)) (i:=i) (v:=horW blk i k) zo
   have hms:(ms (padW (wsF blk i)) i (horW blk i k)).set i (256*horW blk i k+UInt32.ofNat (blk.getD (4*i+k) 0).toNat)=ms (padW (wsF blk i)) i (horW blk i (k+1)):=by
    rw [ms,List.set_set];rfl
   (have X1:=e0;have X2:=g0;have X3:=hml;have X4:=hgd;have X5:=@U32_256;refine zS5 ?_;clear X1 X2 X3 X4 X5)
   rw [hms]
   refine⟨k+1,zO,zO,?_⟩
   exact fzN 0 [(0,0),(1,1),(2,2)] []
  ·have hk4:k=4:=by omega
   subst hk4
   have hset:ms (padW (wsF blk i)) i (w0 blk i)=padW (wsF blk (i+1)):=by
    have:=QEW (ws:=wsF blk i) (v:=w0 blk i) (by rw [Qf];omega)
    rw [Qf] at this
    rw [ms,this,wsF,if_pos h']
   (have X1:=@hor4;have X2:=hset;refine zS2 ?_;clear X1 X2)
   refine⟨i+1,zO,zO,?_⟩
   exact fzN 0 [(0,0),(1,1),(2,2)] []
 ·have hi16:i=16:=by omega
  subst hi16
  refine zS ?_
  refine QD (ι:=Nat) (fun i=>⟨[(2,.ptr 0 0),(4,.ptr 1 0),(5,.ptr 2 0),(8,.v (.int .i64 i))],⟨[(0,.cells 208 (flat Qb st) false),(1,.cells 208 (flat Qb z8) false),(2,.cells 260 (flat Qb (padW (wsF blk i))) false)],3,3,0⟩⟩) (fun i=>16≤i∧i≤64) (fun i=>64 - i) 16 ⟨Nat.le_refl _,by omega⟩ ?_ ?_
  ·refine fzNM 0 [(0,0),(1,1),(2,2)] [] ?_ ?_<;>first | exact zC | refine zS ?_
   try rfl
  clear hi hpl h
  intro i hi
  have hpl:(padW (wsF blk i)).length=64:=QN5 (by rw [Qf];exact hi.2)
  refine zS ?_
  refine⟨fun h=>?_,fun h=>?_⟩
  ·have h':i<64:=by omega
   have get:∀j,j<i→(flat Qb (padW (wsF blk i)))[j]?=some (.v (.int .u32 (((wsF blk i).getD j 0).toNat:Nat))):=fun j hj=>by
    rw [QB7 zo,QO2 (by rw [Qf];exact hj)]
   have e15:((i:Int) - 15).toNat=i - 15:=by omega
   have e2:((i:Int) - 2).toNat=i - 2:=by omega
   have e16:((i:Int) - 16).toNat=i - 16:=by omega
   have e7:((i:Int) - 7).toNat=i - 7:=by omega
   have g15:=get (i - 15) zo
   have g2:=get (i - 2) zo
   have g16:=get (i - 16) zo
   have g7:=get (i - 7) zo
   have hset:(padW (wsF blk i)).set i (QM2 (wsF blk i) i)=padW (wsF blk (i+1)):=by
    have:=QEW (ws:=wsF blk i) (v:=QM2 (wsF blk i) i) (by rw [Qf];omega)
    rw [Qf] at this
    rw [this,wsF,if_neg zo]
   unfold QM2 at hset
   simp only at hset
   (have X1:=e15;have X2:=e2;have X3:=e16;have X4:=e7;have X5:=g15;have X6:=g2;have X7:=g16;have X8:=g7;refine zS8 ?_;clear X1 X2 X3 X4 X5 X6 X7 X8)
   refine QO.useV (QA0 _ 7 zD) rfl ?_
   (have X1:=e15;have X2:=e2;have X3:=e16;have X4:=e7;have X5:=g15;have X6:=g2;have X7:=g16;have X8:=g7;refine zS8 ?_;clear X1 X2 X3 X4 X5 X6 X7 X8)
   refine QO.useV (QA0 _ 18 zD) rfl ?_
   (have X1:=e15;have X2:=e2;have X3:=e16;have X4:=e7;have X5:=g15;have X6:=g2;have X7:=g16;have X8:=g7;refine zS8 ?_;clear X1 X2 X3 X4 X5 X6 X7 X8)
   refine QO.useV (QA0 _ 17 zD) rfl ?_
   (have X1:=e15;have X2:=e2;have X3:=e16;have X4:=e7;have X5:=g15;have X6:=g2;have X7:=g16;have X8:=g7;refine zS8 ?_;clear X1 X2 X3 X4 X5 X6 X7 X8)
   refine QO.useV (QA0 _ 19 zD) rfl ?_
   (have X1:=e15;have X2:=e2;have X3:=e16;have X4:=e7;have X5:=g15;have X6:=g2;have X7:=g16;have X8:=g7;refine zS8 ?_;clear X1 X2 X3 X4 X5 X6 X7 X8)
   refine⟨i+1,⟨by omega,by omega⟩,zO,?_⟩
   rw [hset]
   exact fzN 0 [(0,0),(1,1),(2,2)] []
  ·have hi64:i=64:=by omega
   subst hi64
   have hpw:padW (wsF blk 64)=wsF blk 64:=by simp [padW,Qf]
   have hwl:(wsF blk 64).length=64:=Qf blk 64
   have hz8:[AV.v (.int .u32 0),.v (.int .u32 0),.v (.int .u32 0),.v (.int .u32 0),.v (.int .u32 0),.v (.int .u32 0),.v (.int .u32 0),.v (.int .u32 0)]=flat Qb z8:=rfl
   have ht:List.take 8 (flat Qb st)=flat Qb st:=List.take_of_length_le (by rw [QI,hst];exact Nat.le_refl _)
   have hsl:setL (flat Qb z8) 0 (flat Qb st)=flat Qb st:=QAK (by rw [QI,QI,hst];rfl)
   have hw8:∀s:List UInt32,s.length=8→flat Qb s=w8 s:=fun s h=>by
    match s,h with
    | [a,b,c,d,e,f,g,h],_=>rfl
   refine zS ?_
   rw [hpw]
   refine QD (ι:=Nat) (fun i=>⟨[(2,.ptr 0 0),(4,.ptr 1 0),(5,.ptr 2 0),(11,.ptr 3 0),(12,.v (.int .i64 i))],⟨[(0,.cells 208 (flat Qb st) false),(1,.cells 208 (flat Qb z8) false),(2,.cells 260 (flat Qb (wsF blk 64)) false),(3,.cells 208 [.v (.int .u32 (((rdF (wsF blk 64) st i).getD 0 0).toNat:Nat)),.v (.int .u32 (((rdF (wsF blk 64) st i).getD 1 0).toNat:Nat)),.v (.int .u32 (((rdF (wsF blk 64) st i).getD 2 0).toNat:Nat)),.v (.int .u32 (((rdF (wsF blk 64) st i).getD 3 0).toNat:Nat)),.v (.int .u32 (((rdF (wsF blk 64) st i).getD 4 0).toNat:Nat)),.v (.int .u32 (((rdF (wsF blk 64) st i).getD 5 0).toNat:Nat)),.v (.int .u32 (((rdF (wsF blk 64) st i).getD 6 0).toNat:Nat)),.v (.int .u32 (((rdF (wsF blk 64) st i).getD 7 0).toNat:Nat))] false)],4,4,0⟩⟩) (fun i=>i≤64) (fun i=>64 - i) 0 (Nat.zero_le _) ?_ ?_
   ·rw [hz8,ht,hsl]
    refine fzNM 0 [(0,0),(1,1),(2,2),(3,192)] [] ?_ ?_<;>first | exact zC | refine zS ?_
    exact hw8 st hst
   clear hi hpl h
   intro i hi
   refine zS ?_
   refine⟨fun h=>?_,fun h=>?_⟩
   ·have h':i<64:=by omega
    have hg:=QB7 (ws:=wsF blk 64) (i:=i) (by rw [hwl];exact h')
    have hnext:rdF (wsF blk 64) st (i+1)=QT8 (kR.getD i 0) ((wsF blk 64).getD i 0) (rdF (wsF blk 64) st i):=rfl
    generalize rdF (wsF blk 64) st i=s at hnext ⊢
    have t0:Int.toNat 0=0:=rfl
    have t1:Int.toNat 1=1:=rfl
    have t2:Int.toNat 2=2:=rfl
    have t3:Int.toNat 3=3:=rfl
    have t4:Int.toNat 4=4:=rfl
    have t5:Int.toNat 5=5:=rfl
    have t6:Int.toNat 6=6:=rfl
    have t7:Int.toNat 7=7:=rfl
    (have X1:=hg;have X2:=t0;have X3:=t1;have X4:=t2;have X5:=t3;have X6:=t4;have X7:=t5;have X8:=t6;have X9:=t7;refine zS9 ?_;clear X1 X2 X3 X4 X5 X6 X7 X8 X9)
    refine QO.useV (QA0 _ 6 zD) rfl ?_
    (have X1:=hg;have X2:=t0;have X3:=t1;have X4:=t2;have X5:=t3;have X6:=t4;have X7:=t5;have X8:=t6;have X9:=t7;refine zS9 ?_;clear X1 X2 X3 X4 X5 X6 X7 X8 X9)
    refine QO.useV (QA0 _ 11 zD) rfl ?_
    (have X1:=hg;have X2:=t0;have X3:=t1;have X4:=t2;have X5:=t3;have X6:=t4;have X7:=t5;have X8:=t6;have X9:=t7;refine zS9 ?_;clear X1 X2 X3 X4 X5 X6 X7 X8 X9)
    refine QO.useV (QA0 _ 25 zD) rfl ?_
    (have X1:=hg;have X2:=t0;have X3:=t1;have X4:=t2;have X5:=t3;have X6:=t4;have X7:=t5;have X8:=t6;have X9:=t7;refine zS9 ?_;clear X1 X2 X3 X4 X5 X6 X7 X8 X9)
    refine QO.useV (QQx i h') rfl ?_
    (have X1:=hg;have X2:=t0;have X3:=t1;have X4:=t2;have X5:=t3;have X6:=t4;have X7:=t5;have X8:=t6;have X9:=t7;refine zS9 ?_;clear X1 X2 X3 X4 X5 X6 X7 X8 X9)
    refine QO.useV (QA0 _ 2 zD) rfl ?_
    (have X1:=hg;have X2:=t0;have X3:=t1;have X4:=t2;have X5:=t3;have X6:=t4;have X7:=t5;have X8:=t6;have X9:=t7;refine zS9 ?_;clear X1 X2 X3 X4 X5 X6 X7 X8 X9)
    refine QO.useV (QA0 _ 13 zD) rfl ?_
    (have X1:=hg;have X2:=t0;have X3:=t1;have X4:=t2;have X5:=t3;have X6:=t4;have X7:=t5;have X8:=t6;have X9:=t7;refine zS9 ?_;clear X1 X2 X3 X4 X5 X6 X7 X8 X9)
    refine QO.useV (QA0 _ 22 zD) rfl ?_
    (have X1:=hg;have X2:=t0;have X3:=t1;have X4:=t2;have X5:=t3;have X6:=t4;have X7:=t5;have X8:=t6;have X9:=t7;refine zS9 ?_;clear X1 X2 X3 X4 X5 X6 X7 X8 X9)
    refine⟨i+1,zO,zO,?_⟩
    simp only [hnext]
    refine fzNM 0 [(0,0),(1,1),(2,2),(3,3)] [] ?_ ?_<;>first | exact zC | refine zS ?_
    rfl
   ·have hi64:i=64:=by omega
    subst hi64
    have hxl:(rdF (wsF blk 64) st 64).length=8:=QHg hst 64
    have hmix:mixF st blk=List.zipWith (·+·) st (rdF (wsF blk 64) st 64):=rfl
    have hg8:=hw8 _ hxl
    rw [w8] at hg8
    rw [hmix]
    generalize rdF (wsF blk 64) st 64=s at*
    refine zS ?_
    rw [←hg8]
    refine QD (ι:=Nat) (fun i=>⟨[(2,.ptr 0 0),(4,.ptr 1 0),(11,.ptr 2 0),(17,.v (.int .i64 i))],⟨[(0,.cells 208 (flat Qb (addP st s i)) false),(1,.cells 208 (flat Qb z8) false),(2,.cells 208 (flat Qb s) false)],3,3,0⟩⟩) (fun i=>i≤8) (fun i=>8 - i) 0 (Nat.zero_le _) ?_ ?_
    ·refine fzNM 0 [(0,0),(1,1),(2,3)] [] ?_ ?_<;>first | exact zC | refine zS ?_
     rfl
    clear hi h
    intro i hi
    refine zS ?_
    refine⟨fun h=>?_,fun h=>?_⟩
    ·have h':i<8:=by omega
     have hal:=QCr st s i hst hxl
     have hset:=QOw st s i hst hxl h'
     have hget:=QO0 st s i hst hxl h'
     (have X1:=hget;refine zS1 ?_;clear X1)
     rw [hset]
     refine⟨i+1,zO,zO,?_⟩
     exact fzN 0 [(0,0),(1,1),(2,2)] []
    ·have hi8:i=8:=by omega
     subst hi8
     have hfin:addP st s 8=List.zipWith (·+·) st s:=by
      simp only [addP]
      rw [List.take_of_length_le (by simp [hst,hxl]),List.drop_eq_nil_of_le zo,List.append_nil]
     have hal:=QCr st s 8 hst hxl
     have hzl:z8.length=8:=rfl
     (have X1:=hal;have X2:=hzl;refine zS2 ?_;clear X1 X2)
     have ht:List.take 8 (flat Qb (addP st s 8))=flat Qb (addP st s 8):=List.take_of_length_le (by rw [QI,hal];exact Nat.le_refl _)
     have hsl:setL (flat Qb z8) 0 (flat Qb (addP st s 8))=flat Qb (addP st s 8):=QAK (by rw [QI,QI,hal,hzl])
     rw [ht,hsl,ht]
     have hzz:(List.zipWith (·+·) st s).length=8:=by rw [←hfin];exact hal
     (have X1:=hal;have X2:=hfin;have X3:=hzz;exact zC3)
open Proofs
theorem rSum_c (b:List UInt8) (hb:b.length≤1000000):QE Tryz.prog [] 87 [.seq b.length 1 (flat QC b)] (.agg (flat QC (shaF b))):=by
 refine QE.start Tryz.func87 rfl zK rfl Tryz.ntmps87 fol zK zI zI ?_
 refine zZ ?_
 have hpl:=QOo b
 have hpb:(padF b).length≤b.length+128:=Qdh b
 refine (QYm b zo).useV ?_
 refine zS ?_
 refine QD (ι:=Nat×Nat) (fun q=>⟨[(2,.ptr 0 0),(3,.ptr 1 0),(4,.seq (padF b).length 1 (flat QC (padF b))),(5,.v (.int .i64 q.2))],⟨[(0,.cells 47 (flat QC z32) false),(1,.cells 208 (flat Qb (fbF q.1 kB (padF b))) false)],2,2,0⟩⟩) (fun q=>q.2=64*q.1∧q.2≤(padF b).length) (fun q=>(padF b).length - q.2) (0,0) ⟨rfl,Nat.zero_le _⟩ ?_ ?_
 ·refine fzNM 0 [(0,2),(1,45)] [] ?_ ?_<;>first | exact zC | refine zS ?_
  exact⟨rfl,rfl⟩
 rintro⟨n,N⟩ ⟨hN,hn⟩
 dsimp only at hN hn ⊢
 have hfl:(fbF n kB (padF b)).length=8:=QHl QEu n
 refine zS ?_
 refine⟨fun h=>?_,fun h=>?_⟩
 ·have hNl:N+64≤(padF b).length:=by omega
  have e1:((N:Int)+64).toNat=N+64:=by omega
  have e2:N+64 - N=64:=by omega
  have ht8:∀s:List UInt32,s.length=8→List.take 8 (flat Qb s)=flat Qb s:=fun s hs=>List.take_of_length_le (by rw [QI,hs];exact Nat.le_refl _)
  have hsl:List.take 64 (List.drop N (flat QC (padF b)))=flat QC (((padF b).drop N).take 64):=by rw [QL,QT]
  have hbl:(((padF b).drop N).take 64).length=64:=by rw [List.length_take,List.length_drop];omega
  (have X1:=e1;have X2:=e2;have X3:=hfl;have X4:=ht8 _ hfl;have X5:=hsl;refine zS5 ?_;clear X1 X2 X3 X4 X5)
  refine QO.useV (Qbh _ hfl _ hbl) rfl ?_
  have hm8:(mixF (fbF n kB (padF b)) (((padF b).drop N).take 64)).length=8:=QCt hfl
  have hst:setL (flat Qb (fbF n kB (padF b))) 0 (flat Qb (mixF (fbF n kB (padF b)) (((padF b).drop N).take 64)))=flat Qb (fbF (n+1) kB (padF b)):=by
   rw [QAK (by rw [QI,QI,hfl,hm8]),fbF,hN]
  (have X1:=hm8;have X2:=hfl;have X3:=ht8 _ hm8;have X4:=hst;refine zS4 ?_;clear X1 X2 X3 X4)
  refine⟨(n+1,N+64),⟨by show N+64=64*(n+1);omega,zO⟩,zO,?_⟩
  refine fzNM 0 [(0,0),(1,1)] [] ?_ ?_<;>first | exact zC | refine zS ?_
  rfl
 ·have hnn:n=(padF b).length / 64:=by omega
  refine zS ?_
  rw [QNi b,←hnn]
  generalize fbF n kB (padF b)=q at*
  have hhl:(QBH q).length=32:=by simp [QBH]
  refine QD (ι:=Nat) (fun i=>⟨[(2,.ptr 0 0),(3,.ptr 1 0),(6,.ptr 2 0),(7,.v (.int .i64 i))],⟨[(0,.cells 47 (flat QC z32) false),(1,.cells 208 (flat Qb q) false),(2,.cells 47 (flat QC ((QBH q).take i++List.replicate (32 - i) 0)) false)],3,3,0⟩⟩) (fun i=>i≤32) (fun i=>32 - i) 0 (Nat.zero_le _) ?_ ?_
  ·refine fzNM 0 [(0,0),(1,1),(2,50)] [] ?_ ?_<;>first | exact zC | refine zS ?_
   rfl
  intro i hi
  have hel:((QBH q).take i++List.replicate (32 - i) 0).length=32:=by simp [hhl];omega
  refine zS ?_
  refine⟨fun hi1=>?_,fun hi1=>?_⟩
  ·have hi32:i<32:=by omega
   have hset:=QEI (QBH q) 0 32 i hhl hi32
   have hbi:(QBH q)[i]'zo=UInt8.ofNat (shrW (q.getD (i / 4) 0) (24 - 8*(i % 4))).toNat:=by simp [QBH]
   rw [hbi] at hset
   have hsr:∀x y (a:UInt32),pbin Tryz.prog .shr 84 x y (.int .u32 (a.toNat:Nat)) (.int .u64 (24 - 8*((i:Int) % 4)))=some (.int .u32 ((shrW a (24 - 8*(i % 4))).toNat:Nat)):=fun x y a=>by
    rw [show (24 - 8*((i:Int) % 4))=((24 - 8*(i % 4):Nat):Int) by omega,QDX]
   have hq4:∀x y,pbin Tryz.prog .quo 3 x y (.int .i64 i) (.int .i64 4)=some (.int .i64 ((i:Int) / 4)):=fun x y=>by
    have e:pbin Tryz.prog .quo 3 x y (.int .i64 i) (.int .i64 4)=some (.int .i64 (IntKind.i64.wrap (Int.tdiv i 4))):=rfl
    rw [e,Int.tdiv_eq_ediv_of_nonneg zo,QAN zo zo]
   have hr4:∀x y,pbin Tryz.prog .rem 3 x y (.int .i64 i) (.int .i64 4)=some (.int .i64 ((i:Int) % 4)):=fun x y=>by
    have e:pbin Tryz.prog .rem 3 x y (.int .i64 i) (.int .i64 4)=some (.int .i64 (Int.tmod i 4)):=rfl
    rw [e,Int.tmod_eq_emod_of_nonneg zo]
   have e4:((i:Int) / 4).toNat=i / 4:=by omega
   have hg:(flat Qb q)[i / 4]?=some (.v (.int .u32 ((q.getD (i / 4) 0).toNat:Nat))):=QB7 zo
   (have X1:=hsr;have X2:=hel;have X3:=e4;have X4:=hg;have X5:=hq4;have X6:=hr4;have X7:=hfl;refine zS7 ?_;clear X1 X2 X3 X4 X5 X6 X7)
   rw [hset]
   refine⟨i+1,zO,zO,?_⟩
   exact fzN 0 [(0,0),(1,1),(2,2)] []
  ·have hi32:i=32:=by omega
   subst hi32
   have hfull:(QBH q).take 32++List.replicate (32 - 32) 0=QBH q:=by rw [List.take_of_length_le zo];simp
   rw [hfull]
   have hz32:z32.length=32:=by decide
   have hsl:setL (flat QC z32) 0 (flat QC (QBH q))=flat QC (QBH q):=QAK (by rw [QH,QH,hhl,hz32])
   have htk:List.take 32 (flat QC (QBH q))=flat QC (QBH q):=List.take_of_length_le (by rw [QH,hhl];exact Nat.le_refl _)
   (have X1:=hhl;have X2:=hz32;have X3:=hsl;have X4:=htk;exact zC4)
end Go.AW
