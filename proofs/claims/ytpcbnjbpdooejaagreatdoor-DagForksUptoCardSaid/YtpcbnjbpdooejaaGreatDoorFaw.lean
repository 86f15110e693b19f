/- A part of the proof: D49 D50 D51. -/
import Derived.Test.YtpcbnjbpdooejaaGreatDoorFae
import Derived.Test.YtpcbnjbpdooejaaGreatDoorFav
import Derived.Test.YtpcbnjbpdooejaaGreatDoorFas
import Derived.Shelf.SlMaps.Clone
set_option linter.unusedSimpArgs false
set_option linter.unusedVariables false
set_option maxRecDepth 100000
set_option maxHeartbeats 8000000
namespace Go.AW
open Proofs
theorem Qfl {G:GrV}:List.drop 1 (QBf G)=[.mv KH (hks (QF G.W)) (nvs G.W),.mv KH (hks (namF G.L)) (bts (namF G.L).length)]:=(rfl)
theorem QXm {G:GrV}:List.drop 2 (QBf G)=[.mv KH (hks (namF G.L)) (bts (namF G.L).length)]:=(rfl)
attribute [push_cast] Qfl QXm
theorem Qfi:QM Tryz.prog [] 35 [] [] 0 (.ptr 0 0) (gO ⟨[],[]⟩) 4:=by
 refine QM.start Tryz.func35 rfl zK rfl Tryz.ntmps35 fol zK (Nat.zero_le _) ?_
 simp only [List.zipIdx_cons,List.zipIdx_nil,List.map_cons,List.map_nil,Nat.zero_add,gO]
 refine zS ?_
 refine fzNM 0 [(0,11),(1,7),(2,8),(3,9)] [0] ?_ ?_<;>first | exact zC | refine zS ?_
 exact⟨⟨rfl,rfl⟩,⟨rfl,rfl⟩,rfl,rfl⟩
theorem QfT (G:GrV) (hW:G.W.length≤64):POwn Tryz.prog [] 46 [.rop (QBf G)] (waiF G).length 32 47 (flat hcell (waiF G)):=by
 refine POwn.start Tryz.func46 rfl zK rfl Tryz.ntmps46 fol zK (by simp [idfL,idf,QZ QS,QS,Qg,Qy,QAL,QAn]) (by simp [QQ,QAL,QAn]) ?_
 refine zz ?_
 (have X1:=@QBf.eq_1;refine zS1 ?_;clear X1)
 refine POwn.useV (QRX (QF G.W) (nvs G.W) QF8 (by rw [QFC,Qh]) (by rw [Qh];omega)) ?_
 rw [show srt (QF G.W)=waiF G from rfl]
 refine zS ?_
 exact fzN 0 [(0,30)] []
theorem Qax (G:GrV) (hG:GrOK G):POwn Tryz.prog [] 34 [.rop (QBf G)] (heaF G.L).length 32 47 (flat hcell (heaF G.L)):=by
 refine POwn.start Tryz.func34 rfl zK rfl Tryz.ntmps34 fol zK (by simp [idfL,idf,QZ QS,QS,Qg,Qy,QAL,QAn]) (by simp [QQ,QAL,QAn]) ?_
 refine zz ?_
 (have X1:=@QBf.eq_1;refine zS1 ?_;clear X1)
 refine QD (ι:=Option (Value×AV)×List Hs×List AV×List Hs×List Hs) (fun q=>⟨[(0,.rop (QBf G)),(3,.mp 1),(12,.it 0)],⟨[(0,.miter q.1 (hks q.2.1) q.2.2.1),(1,.map KH (hks q.2.2.2.2) (bts q.2.2.2.2.length))],2,2,0⟩⟩)
  (fun q=>q.2.2.1.length=q.2.1.length∧(q.2.2.2.1++q.2.1).Perm (QF G.L)∧idfL q.2.2.1=true∧QFn q.1=true∧(∀x,x∈q.2.2.2.2↔x∈q.2.2.2.1∧x∉namF G.L)∧q.2.2.2.2.length≤q.2.2.2.1.length) (fun q=>q.2.1.length) (none,QF G.L,nvs G.L,[],[]) ⟨by rw [QFC,Qh],by simp,QF8,rfl,by simp,Nat.le_refl _⟩ ?_ ?_
 ·(have X1:=@QBf.eq_1;refine fzIM 0 [(0,96),(1,63)] [0] ?_ ?_<;>first | exact zC1 | refine zS1 ?_)
  exact⟨rfl,rfl⟩
 rintro⟨last,rest,ys,dn,M⟩ ⟨hyl,hp,hyi,hli,hM,hMl⟩
 dsimp only at hyl hp hyi hli hM hMl ⊢
 have hpl:=hp.length_eq
 have hLn:=hG.lenL
 simp only [List.length_append,Qh] at hpl
 refine zS ?_
 refine⟨fun h=>?_,fun i k x hki hxi ks' xs' l' hf=>?_⟩
 ·have hr:rest=[]:=QGL.1 h
  subst hr
  rw [List.append_nil] at hp
  have hs:srt M=heaF G.L:=by
   rw [heaF]
   exact QG2 fun x=>by rw [hM,hp.mem_iff,List.mem_filter];simp
  refine zS ?_
  refine POwn.use (QIQ M (bts M.length) QAu QB2 zo) (ids:=[1]) zCN ?_
  rw [hs]
  refine zS ?_
  exact fzN 0 [(0,58)] []
 ·simp [Mem.find,lk] at hf
  obtain⟨rfl,rfl,rfl⟩:=hf
  obtain⟨a,hki,rfl⟩:=QG8 hki
  rename_i hki2
  have hil:i<rest.length:=(List.getElem?_eq_some_iff.1 hki2).1
  have hxd:=QDZ hyi hxi
  have hye:=QBW hyi i
  have hms:(rest.eraseIdx i).length<rest.length:=by rw [List.length_eraseIdx,if_pos hil];omega
  have hyl2:(ys.eraseIdx i).length=(rest.eraseIdx i).length:=by rw [List.length_eraseIdx,List.length_eraseIdx,hyl]
  have hpm:=QDQ hp hki2
  refine zS ?_
  refine⟨fun h2=>?_,fun h2=>?_⟩
  ·have hn2:a∉namF G.L:=by first | exact h2 | simpa using h2
   refine zS ?_
   refine⟨(some (hval a,x),rest.eraseIdx i,ys.eraseIdx i,dn++[a],addH M a),⟨hyl2,hpm,hye,hxd,fun y=>?_,by show (addH M a).length≤(dn++[a]).length;have:=QIZ M a;rw [List.length_append];simp only [List.length_cons,List.length_nil];omega⟩,hms,?_⟩
   ·show y∈addH M a↔y∈dn++[a]∧_
    rw [QOr,hM,List.mem_append,List.mem_singleton]
    constructor
    ·rintro(⟨k1,k2⟩ | k)
     ·exact⟨.inl k1,k2⟩
     ·exact⟨.inr k,by rw [k];exact hn2⟩
    ·rintro⟨k | k,k2⟩
     ·exact .inl ⟨k,k2⟩
     ·exact .inr k
   (have X1:=hye;have X2:=hxd;exact fzI2 0 [(0,0),(1,1)] [0])
  ·have hn2:a∈namF G.L:=by first | exact h2 | simpa using h2
   refine zS ?_
   refine⟨(some (hval a,x),rest.eraseIdx i,ys.eraseIdx i,dn++[a],M),⟨hyl2,hpm,hye,hxd,fun y=>?_,by show M.length≤(dn++[a]).length;rw [List.length_append];omega⟩,hms,?_⟩
   ·show y∈M↔y∈dn++[a]∧_
    rw [hM,List.mem_append,List.mem_singleton]
    constructor
    ·rintro⟨k1,k2⟩
     exact⟨.inl k1,k2⟩
    ·rintro⟨k | k,k2⟩
     ·exact⟨k,k2⟩
     ·exact absurd (by rw [k];exact hn2) k2
   (have X1:=hye;have X2:=hxd;exact fzI2 0 [(0,0),(1,1)] [0])
theorem QgJ {L:List Itm} {i:Nat} {a:Hs} (h:(QF L)[i]?=some a):∃y,L[i]?=some y∧y.h=a∧(nvs L)[i]?=some (.agg (QDy y)):=by
 rw [QF,List.getElem?_map] at h
 cases e:L[i]? with
 | none=>rw [e] at h;cases h
 | some y=>rw [e] at h;simp only [Option.map_some,Option.some.injEq] at h;exact⟨y,rfl,h,by rw [nvs,List.getElem?_map,e];rfl⟩
theorem Qey {L:List Itm} {i:Nat}:(QF L).eraseIdx i=QF (L.eraseIdx i):=(QCw ..).symm
theorem QfQ {L:List Itm} {i:Nat}:(nvs L).eraseIdx i=nvs (L.eraseIdx i):=(QCw ..).symm
attribute [push_cast] Qey QfQ
theorem QfH (G:GrV) (hG:GrOK G):POwn Tryz.prog [] 53 [.rop (QBf G)] (misF G).length 32 47 (flat hcell (misF G)):=by
 refine POwn.start Tryz.func53 rfl zK rfl Tryz.ntmps53 fol zK (by simp [idfL,idf,QZ QS,QS,Qg,Qy,QAL,QAn]) (by simp [QQ,QAL,QAn]) ?_
 refine zZ ?_
 refine QD (ι:=Option (Value×AV)×List Itm×List Itm×List Hs) (fun q=>⟨[(0,.rop (QBf G)),(3,.mp 1),(17,.it 0)],⟨[(0,.miter q.1 (hks (QF q.2.1)) (nvs q.2.1)),(1,.map KH (hks q.2.2.2) (bts q.2.2.2.length))],2,2,0⟩⟩)
  (fun q=>(q.2.2.1++q.2.1).Perm G.W∧QFn q.1=true∧(∀x,x∈q.2.2.2↔(∃y∈q.2.2.1,x∈y.c.deps)∧x∉QF G.L∧x∉QF G.W)∧q.2.2.2.length≤16*q.2.2.1.length) (fun q=>q.2.1.length) (none,G.W,[],[]) ⟨by simp,rfl,by simp,Nat.le_refl _⟩ ?_ ?_
 ·refine fzIM 0 [(0,173),(1,116)] [0] ?_ ?_<;>first | exact zC | refine zS ?_
  exact⟨rfl,rfl⟩
 rintro⟨last,rest,dn,M⟩ ⟨hp,hli,hM,hMl⟩
 dsimp only at hp hli hM hMl ⊢
 have hpl:=hp.length_eq
 have hWn:=hG.lenW
 simp only [List.length_append] at hpl
 refine zS ?_
 refine⟨fun h=>?_,fun i k x hki hxi ks' xs' l' hf=>?_⟩
 ·have hr:rest=[]:=List.map_eq_nil_iff.1 (QGL.1 h)
  subst hr
  rw [List.append_nil] at hp
  have hs:srt M=misF G:=by
   rw [misF]
   exact QG2 fun x=>by
    rw [hM,List.mem_filter,List.mem_flatMap]
    simp only [hp.mem_iff,Bool.and_eq_true,Bool.not_eq_true',decide_eq_false_iff_not]
  refine zS ?_
  refine POwn.use (QIQ M (bts M.length) QAu QB2 zo) (ids:=[1]) zCN ?_
  rw [hs]
  refine zS ?_
  exact fzN 0 [(0,106)] []
 ·simp [Mem.find,lk] at hf
  obtain⟨rfl,rfl,rfl⟩:=hf
  obtain⟨a,hki,rfl⟩:=QG8 hki
  rename_i hki2
  obtain⟨y,hy1,rfl,hy2⟩:=QgJ hki2
  rw [hy2] at hxi
  simp only [Option.some.injEq] at hxi
  subst hxi
  have hil:i<rest.length:=(List.getElem?_eq_some_iff.1 hy1).1
  have hms:(rest.eraseIdx i).length<rest.length:=by rw [List.length_eraseIdx,if_pos hil];omega
  have hpm:=QDQ hp hy1
  have hyB:=hG.bW (hp.mem_iff.1 (List.mem_append_right _ (List.mem_of_getElem? hy1)))
  have hdl:=hyB.deps
  have hli2:QFn (some (hval y.h,AV.agg (QDy y)))=true:=by (have X1:=@QDy.eq_1;have X2:=@ccl.eq_1;first | exact zC2 | (refine zS2 ?_;clear X1 X2))
  (have X1:=@QDy.eq_1;have X2:=@ccl.eq_1;refine zS2 ?_;clear X1 X2)
  refine QD (ι:=Nat×List Hs) (fun q=>⟨[(0,.rop (QBf G)),(3,.mp 1),(17,.it 0),(24,.seq y.c.deps.length 32 (flat hcell y.c.deps)),(25,.v (.int .i64 y.c.deps.length)),(26,.v (.int .i64 q.1))],⟨[(0,.miter (some (hval y.h,.agg (QDy y))) (hks (QF (rest.eraseIdx i))) (nvs (rest.eraseIdx i))),(1,.map KH (hks q.2) (bts q.2.length))],2,2,0⟩⟩)
   (fun q=>q.1≤y.c.deps.length∧(∀x,x∈q.2↔x∈M∨x∈y.c.deps.take q.1∧x∉QF G.L∧x∉QF G.W)∧q.2.length≤M.length+q.1) (fun q=>y.c.deps.length - q.1) (0,M) ⟨Nat.zero_le _,by simp,Nat.le_refl _⟩ ?_ ?_
  ·(have X1:=@QDy.eq_1;have X2:=@ccl.eq_1;exact fzI2 0 [(0,0),(1,1)] [0])
  rintro⟨j,N⟩ ⟨hj,hN,hNl⟩
  dsimp only at hj hN hNl ⊢
  refine zS ?_
  refine⟨fun k1=>?_,fun k1=>?_⟩
  ·have hj1:j<y.c.deps.length:=by omega
   obtain⟨ws,hw1,hw2,hw3⟩:=QHw G.W y.c.deps[j]
   (have X1:=hw1;have X2:=hw2;refine zS2 ?_;clear X1 X2)
   by_cases hW:y.c.deps[j]∈QF G.W
   ·(have X1:=hW;refine zS1 ?_;clear X1)
    refine⟨(j+1,N),⟨zO,fun x=>?_,zO⟩,zO,?_⟩
    ·show x∈N↔_
     rw [hN,List.take_add_one,List.getElem?_eq_getElem hj1,List.mem_append]
     simp only [Option.toList_some,List.mem_singleton]
     constructor
     ·rintro(k | ⟨k,k2⟩)
      ·exact .inl k
      ·exact .inr ⟨.inl k,k2⟩
     ·rintro(k | ⟨k | k,k2,k3⟩)
      ·exact .inl k
      ·exact .inr ⟨k,k2,k3⟩
      ·exact absurd (by rw [k];exact hW) k3
    (have X1:=@QDy.eq_1;have X2:=@ccl.eq_1;exact fzI2 0 [(0,0),(1,1)] [0])
   ·(have X1:=hW;refine zS1 ?_;clear X1)
    refine (QcP G y.c.deps[j]).useV ?_
    by_cases hT:y.c.deps[j]∈QF G.L
    ·(have X1:=@hasL.eq_1;have X2:=hT;refine zS2 ?_;clear X1 X2)
     refine⟨(j+1,N),⟨zO,fun x=>?_,zO⟩,zO,?_⟩
     ·show x∈N↔_
      rw [hN,List.take_add_one,List.getElem?_eq_getElem hj1,List.mem_append]
      simp only [Option.toList_some,List.mem_singleton]
      constructor
      ·rintro(k | ⟨k,k2⟩)
       ·exact .inl k
       ·exact .inr ⟨.inl k,k2⟩
      ·rintro(k | ⟨k | k,k2,k3⟩)
       ·exact .inl k
       ·exact .inr ⟨k,k2,k3⟩
       ·exact absurd (by rw [k];exact hT) k2
     (have X1:=@QDy.eq_1;have X2:=@ccl.eq_1;exact fzI2 0 [(0,0),(1,1)] [0])
    ·(have X1:=@hasL.eq_1;have X2:=hT;refine zS2 ?_;clear X1 X2)
     refine⟨(j+1,addH N y.c.deps[j]),⟨zO,fun x=>?_,by show (addH N y.c.deps[j]).length≤M.length+(j+1);have:=QIZ N y.c.deps[j];omega⟩,zO,?_⟩
     ·show x∈addH N y.c.deps[j]↔_
      rw [QOr,hN,List.take_add_one,List.getElem?_eq_getElem hj1,List.mem_append]
      simp only [Option.toList_some,List.mem_singleton]
      constructor
      ·rintro((k | ⟨k,k2⟩) | k)
       ·exact .inl k
       ·exact .inr ⟨.inl k,k2⟩
       ·exact .inr ⟨.inr k,by rw [k];exact hT,by rw [k];exact hW⟩
      ·rintro(k | ⟨k | k,k2,k3⟩)
       ·exact .inl (.inl k)
       ·exact .inl (.inr ⟨k,k2,k3⟩)
       ·exact .inr k
     (have X1:=@QDy.eq_1;have X2:=@ccl.eq_1;exact fzI2 0 [(0,0),(1,1)] [0])
  ·have hj2:j=y.c.deps.length:=by omega
   subst hj2
   refine zS ?_
   refine⟨(some (hval y.h,.agg (QDy y)),rest.eraseIdx i,dn++[y],N),⟨hpm,hli2,fun x=>?_,by show N.length≤16*(dn++[y]).length;rw [List.length_append];simp only [List.length_cons,List.length_nil];omega⟩,hms,?_⟩
   ·show x∈N↔(∃z∈dn++[y],x∈z.c.deps)∧_
    rw [hN,hM,List.take_length]
    constructor
    ·rintro(⟨⟨z,k1,k2⟩,k3⟩ | ⟨k1,k3⟩)
     ·exact⟨⟨z,List.mem_append_left _ k1,k2⟩,k3⟩
     ·exact⟨⟨y,by simp,k1⟩,k3⟩
    ·rintro⟨⟨z,k1,k2⟩,k3⟩
     rcases List.mem_append.1 k1 with k | k
     ·exact .inl ⟨⟨z,k,k2⟩,k3⟩
     ·rw [List.mem_singleton] at k
      exact .inr ⟨by rw [←k];exact k2,k3⟩
   (have X1:=@QDy.eq_1;have X2:=@ccl.eq_1;exact fzI2 0 [(0,0),(1,1)] [0])
theorem Qfc (G:GrV) (hG:GrOK G) (h:Hs):QE Tryz.prog [] 48 [.rop (QBf G),.agg (hcell h)] (.tup [.seq (bytF G.L h).length 1 (flat QC (bytF G.L h)),.v (.int .i64 (bytE G.L h))]):=by
 refine QE.startW Tryz.func48 rfl zK rfl Tryz.ntmps48 fol zK (by simp [idfL,idf,QZ QS,QS,Qg,Qy,QAn]) (by simp [idfL,idf,QZ QS,QS,Qg,Qy,QAn]) ?_
 refine zZ ?_
 refine (QcP G h).useV ?_
 by_cases hT:h∈QF G.L
 ·obtain⟨x,hx,hxm,hxh⟩:=QA2 hT
  have hbb:bytF G.L h=x.b:=by rw [bytF,hx]
  have hxB:=hG.bL hxm
  have hbe:bytE G.L h=0:=if_pos hT
  (have X1:=@hasL.eq_1;have X2:=hT;have X3:=QJd hx;have X4:=@QDy.eq_1;have X5:=@ccl.eq_1;have X6:=hbb;have X7:=hbe;refine zS7 ?_;clear X1 X2 X3 X4 X5 X6 X7)
  refine QO.useN ((QZb x.b (Nat.le_trans hxB.len zD))) rfl ?_
  (have X1:=hbb;have X2:=hbe;first | exact zC2 | refine zS2 ?_)
 ·have hbb:bytF G.L h=[]:=by rw [bytF,QGh.2 hT]
  have hbe:bytE G.L h=44:=if_neg hT
  (have X1:=@hasL.eq_1;have X2:=hT;have X3:=hbb;have X4:=hbe;first | exact zC4 | refine zS4 ?_)
  first | done | exact⟨⟨rfl,rfl⟩,rfl⟩ | rfl
theorem QgL (G:GrV) (hG:GrOK G) (h:Hs) (hT:h∈QF G.L):QM Tryz.prog [] 48 [.rop (QBf G),.agg (hcell h)] [] 0 (.tup [.sl 0 0 (bytF G.L h).length 1,.v (.int .i64 0)]) [(0,.cells 5 (flat QC (bytF G.L h)) true)] 1:=by
 refine QM.start Tryz.func48 rfl zK rfl Tryz.ntmps48 fol zK (Nat.zero_le _) ?_
 refine zZ ?_
 refine (QcP G h).useV ?_
 obtain⟨x,hx,hxm,hxh⟩:=QA2 hT
 have hbb:bytF G.L h=x.b:=by rw [bytF,hx]
 have hxB:=hG.bL hxm
 (have X1:=@hasL.eq_1;have X2:=hT;have X3:=QJd hx;have X4:=@QDy.eq_1;have X5:=@ccl.eq_1;have X6:=hbb;refine zS6 ?_;clear X1 X2 X3 X4 X5 X6)
 refine QO.useOV ((QZG x.b (Nat.le_trans hxB.len zD))) rfl rfl rfl ?_
 refine zS ?_
 refine Ent.intro [(0,87)] ?_ ?_ ?_ rfl zD zD<;>simp [EntE,EntO,QGU,lk,renA,renO,renL,rho',renL_idf _ _ Qg]
end Go.AW
namespace Go.Proofs
open Go.Shelf
theorem QfF (b:Nat) (es:Array MapEntry) (clock:Nat) (w:World) (hb:w.heap[b]?=some (.map es clock)):
  Calls Tryz.prog 106 #[.map (some b)] w fun e w'=>e=.returned (.map (some w.heap.size))∧w'=w.alloc (.map es clock):=by
 have t4:=Tryz.underlying4;have a4:=Tryz.isAgg4;have z4:=Tryz.sizeOf4;have v4:=Tryz.zeroValue4
 have t20:=Tryz.underlying20;have a20:=Tryz.isAgg20;have z20:=Tryz.sizeOf20;have v20:=Tryz.zeroValue20
 have t23:=Tryz.underlying124;have a23:=Tryz.isAgg124;have z23:=Tryz.sizeOf124;have v23:=Tryz.zeroValue124
 have hq:=fun w=>run_eql_map_nil_sl (P:=Tryz.prog) w 124 _ _ (some b) Tryz.underlying124
 go_enter Tryz.func106,Tryz.ntmps106
 go_wp2
 rw [run_callFunc_extern Tryz.func165 (by kernel_rfl) (by kernel_rfl) (by kernel_rfl) (e:=Extern.MapsClone.clone) (by kernel_rfl),run_maps_clone_sl w 124 hb]
 simp only [Result.andThen]
 rw [Oper.upon_value]
 go_wp2
 rw [run_typeAssert_map_sl _ 124 20 _ _ _ Tryz.underlying124]
 simp only [Result.andThen]
 rw [Oper.upon_value]
 go_wp2
 go_ret
 exact⟨rfl,rfl⟩
theorem QfG (b:Nat) (es:Array MapEntry) (clock:Nat) (w:World) (hb:w.heap[b]?=some (.map es clock)):
  Calls Tryz.prog 107 #[.map (some b)] w fun e w'=>e=.returned (.map (some w.heap.size))∧w'=w.alloc (.map es clock):=by
 have t4:=Tryz.underlying4;have a4:=Tryz.isAgg4;have z4:=Tryz.sizeOf4;have v4:=Tryz.zeroValue4
 have t20:=Tryz.underlying20;have a20:=Tryz.isAgg20;have z20:=Tryz.sizeOf20;have v20:=Tryz.zeroValue20
 have t23:=Tryz.underlying120;have a23:=Tryz.isAgg120;have z23:=Tryz.sizeOf120;have v23:=Tryz.zeroValue120
 have hq:=fun w=>run_eql_map_nil_sl (P:=Tryz.prog) w 120 _ _ (some b) Tryz.underlying120
 go_enter Tryz.func107,Tryz.ntmps107
 go_wp2
 rw [run_callFunc_extern Tryz.func165 (by kernel_rfl) (by kernel_rfl) (by kernel_rfl) (e:=Extern.MapsClone.clone) (by kernel_rfl),run_maps_clone_sl w 120 hb]
 simp only [Result.andThen]
 rw [Oper.upon_value]
 go_wp2
 rw [run_typeAssert_map_sl _ 120 20 _ _ _ Tryz.underlying120]
 simp only [Result.andThen]
 rw [Oper.upon_value]
 go_wp2
 go_ret
 exact⟨rfl,rfl⟩
end Go.Proofs
namespace Go.AW
open Proofs
theorem QfV {P:Program} {γ:GTab} {f:FuncId} (hcb:QBa P f) (hc:∀b es clock (w:World),w.heap[b]?=some (.map es clock)→Calls P f #[.map (some b)] w fun e w'=>e=.returned (.map (some w.heap.size))∧w'=w.alloc (.map es clock))
  (kt:KT) (ks:List Value) (xs:List AV) (hi:idfL xs=true):QM P γ f [.mp 0] [(0,.map kt ks xs)] 1 (.mp 1) [(0,.map kt ks xs),(1,.map kt ks xs)] 2:=by
 refine⟨hcb,fun S μ w vs hr _ hx=>?_⟩
 simp only [RepL,Rep] at hx
 obtain⟨v,zs,rfl,⟨b,bo,hμ,rfl⟩,rfl⟩:=hx
 have hob:=(hr.obj 0 _ rfl).2
 simp only [RepO] at hob
 obtain⟨b',bo',es,clock,h1,h2,h3,h4,h5,h6⟩:=hob
 rw [hμ] at h1
 cases h1
 refine (hc b es clock w h2).mono fun e w' he=>?_
 obtain⟨rfl,rfl⟩:=he
 have hr1:RM S μ w ⟨[(0,.map kt ks xs)],2,1,1⟩:=⟨fun o ob h=>by obtain⟨q1,q2⟩:=hr.obj o ob h;exact⟨by change o<1 at q1;show o<2;omega,q2⟩,hr.inj,hr.old,fun o ho=>hr.fr o (by change 2≤o at ho;show 1≤o;omega),fun o q1 q2 q3=>absurd (hr.fr o q1) q3,Nat.le_refl _,hr.bk⟩
 obtain⟨μ',haft,hμ',hμo⟩:=After.new (w':=w.alloc (.map es clock)) hr1 (fresh:=1) (Nat.le_refl _) (zO) rfl (.map es clock) (.map kt ks xs) rfl trivial rfl ⟨rfl,Nat.le_refl _⟩ rfl (fun μ' hk _ hm=>by
  simp only [RepO]
  refine⟨w.heap.size,0,es,clock,hm,by show (w.heap.push _)[w.heap.size]?=_;rw [Array.getElem?_push,if_pos rfl],h3,h4,RepL.keep hk _ _ h5,fun off hs=>?_⟩
  have:=hr.old _ _ hs;omega)
 have hsame:∀q,((⟨[(0,.map kt ks xs)],2,1,1⟩:Mem).upd [(1,.map kt ks xs)]).find q=(⟨[(0,.map kt ks xs),(1,.map kt ks xs)],2,2,0⟩:Mem).find q:=fun q=>by
  simp only [Mem.upd,Mem.find,List.singleton_append,List.cons_append,List.nil_append,lk]
  by_cases e0:0=q
  ·subst e0;rfl
  ·by_cases e1:1=q
   ·subst e1;rfl
   ·simp [e0,e1]
 have hR:=haft.rm
 have hx:=haft.ext
 refine⟨_,S,μ',rfl,⟨fun o ob h=>?_,fun o o' ob ob' h h'=>?_,hR.old,fun o ho=>hR.fr o ho,fun o q1 q2=>by simp only at q1 q2;omega,Nat.le_refl _,hR.bk⟩,⟨hx.os,hx.tape,hx.output,hx.size,fun o ho=>hx.ids o ho,fun o ho h=>?_,zO,hx.sub,fun b off hb hs=>hx.new b off hb hs,hx.cell,hx.map,fun b hb ho=>?_,hx.bsz,hx.uf⟩,by simp only [Rep];exact⟨_,0,hμ',rfl⟩⟩
 ·rw [←hsame] at h;exact hR.obj o ob h
 ·rw [←hsame] at h h';exact hR.inj o o' ob ob' h h'
 ·have:o=0:=by omega
  subst this;simp [Mem.find,lk]
 ·exact⟨(hx.blk b hb ho).1,fun q=>(hx.blk b hb ho).2 (QIB (fun o=>(hsame o).symm) q)⟩
theorem Qe3 (ks:List Value) (xs:List AV) (hi:idfL xs=true):QM Tryz.prog [] 106 [.mp 0] [(0,.map KH ks xs)] 1 (.mp 1) [(0,.map KH ks xs),(1,.map KH ks xs)] 2:=
 QfV ⟨_,Tryz.func106,rfl,by kernel_rfl⟩ (QfF) KH ks xs hi
theorem Qfu (ks:List Value) (xs:List AV) (hi:idfL xs=true):QM Tryz.prog [] 107 [.mp 0] [(0,.map KH ks xs)] 1 (.mp 1) [(0,.map KH ks xs),(1,.map KH ks xs)] 2:=
 QfV ⟨_,Tryz.func107,rfl,by kernel_rfl⟩ (QfG) KH ks xs hi
theorem Fork_m (G:GrV):QM Tryz.prog [] 47 [.ptr 0 0] (gO G) 4 (.ptr 4 0) (gO G++[(4,.cells 126 [.mp 5,.mp 6,.mp 7] false),(5,.map KH (hks (QF G.L)) (nvs G.L)),(6,.map KH (hks (QF G.W)) (nvs G.W)),(7,.map KH (hks (namF G.L)) (bts (namF G.L).length))]) 8:=by
 refine QM.start Tryz.func47 rfl zK rfl Tryz.ntmps47 fol zK zo ?_
 simp only [List.zipIdx_cons,List.zipIdx_nil,List.map_cons,List.map_nil,Nat.zero_add,gO]
 refine zS ?_
 refine QO.useM1 [1,57] (Qe3 (hks (QF G.L)) (nvs G.L) QF8) rfl rfl rfl rfl zC zC rfl ?_
 refine zS ?_
 refine QO.useM1 [2,62] (Qe3 (hks (QF G.W)) (nvs G.W) QF8) rfl rfl rfl rfl zC zC rfl ?_
 refine zS ?_
 refine QO.useM1 [3,67] (Qfu (hks (namF G.L)) (bts (namF G.L).length) QAu) rfl rfl rfl rfl zC zC rfl ?_
 refine zS ?_
 exact fzN 4 [(0,0),(1,1),(2,2),(3,3),(4,69),(5,57),(6,62),(7,67)] [0,4]
open Proofs
theorem QA0 (x:UInt32) (n:Nat) (h:n≤32):QE Tryz.prog [] 210 [.v (.int .u32 x.toNat),.v (.int .u64 n)] (.v (.int .u32 (rotF x n).toNat)):=by
 refine QE.start Tryz.func210 rfl zK rfl Tryz.ntmps210 fol zK (by simp [idfL,idf]) rfl ?_
 refine zz ?_
 have e:((32:Int) - (n:Int)).toNat=32 - n:=by omega
 (have X1:=e;first | exact zC1 | refine zS1 ?_)
 rfl
theorem QQx (i:Nat) (h:i<64):QE Tryz.prog [] 211 [.v (.int .i64 i)] (.v (.int .u32 (kR.getD i 0).toNat)):=by
 refine QE.start Tryz.func211 rfl zK rfl Tryz.ntmps211 fol zK (by simp [idfL,idf]) rfl ?_
 refine zz ?_
 have hg:=QB7 (ws:=kR) (i:=i) (by rw [QKr];exact h)
 refine zS ?_
 change evS (Option.map _ ((flat Qb kR)[i]?)) _ _ _
 rw [hg]
 exact zC
theorem QYm (b:List UInt8) (hb:b.length≤1048576):QE Tryz.prog [] 160 [.seq b.length 1 (flat QC b)] (.seq (padF b).length 1 (flat QC (padF b))):=by
 refine QE.start Tryz.func160 rfl zK rfl Tryz.ntmps160 fol zK zI zI ?_
 refine zZ ?_
 have hfl:∀l:List UInt8,flat QC l++[AV.v (.int .u8 128)]=flat QC (l++[128]):=fun l=>by rw [Q7];rfl
 have hf0:∀l:List UInt8,flat QC l++[AV.v (.int .u8 0)]=flat QC (l++[0]):=fun l=>by rw [Q7];rfl
 (have X1:=hfl;refine zS1 ?_;clear X1)
 refine QD (ι:=Nat×List UInt8) (fun q=>⟨[(0,.seq b.length 1 (flat QC b)),(3,.sl 0 0 q.2.length 1)],⟨[(0,.cells 5 (flat QC q.2) true)],1,1,0⟩⟩)
  (fun q=>padZ q.1 q.2=padZ 64 (b++[128])∧q.1≤64∧q.2.length+q.1=b.length+65) (fun q=>q.1) (64,b++[128]) ⟨rfl,Nat.le_refl _,by simp⟩ ?_ ?_
 ·(have X1:=hfl;exact fzN1 0 [(0,84)] [])
 rintro⟨f,l⟩ ⟨hp,hf,hl⟩
 dsimp only at hp hf hl ⊢
 have hne:l.length % 64≠56→∃g,f=g+1:=fun h=>by
  cases f with
  | zero=>exact absurd (by
    have:=QIj 64 (b++[128]) zo
    rw [←hp] at this;exact this) h
  | succ g=>exact⟨g,rfl⟩
 (have X1:=hf0;refine zS1 ?_;clear X1)
 refine⟨fun h=>?_,fun h=>?_⟩
 ·obtain⟨g,rfl⟩:=hne zo
  (have X1:=hf0;refine zS1 ?_;clear X1)
  refine⟨(g,l++[0]),⟨?_,zO,by show (l++[0]).length+g=_;rw [List.length_append];simp only [List.length_cons,List.length_nil];omega⟩,zO,?_⟩
  ·show padZ g (l++[0])=_
   rw [←hp,padZ,if_neg zo]
  (have X1:=hf0;have X2:=@List.length_append.{0};have X3:=@List.length_cons.{0};have X4:=@List.length_nil.{0};exact fzN4 0 [(0,55)] [])
 ·have hpl:padZ f l=l:=by cases f<;>simp [padZ];omega
  rw [hpl] at hp
  have hbl:(bitB b.length).length=8:=by simp [bitB]
  have hpf:l++bitB b.length=padF b:=by rw [padF,hp]
  obtain⟨N,hN⟩:∃N,N=b.length*8:=⟨_,rfl⟩
  have hpl8:(padF b).length=l.length+8:=by rw [←hpf,List.length_append,hbl]
  have htk:List.take (l.length+8) (flat QC (padF b))=flat QC (padF b):=List.take_of_length_le (by rw [QH,hpl8];exact Nat.le_refl _)
  refine zS ?_
  refine QD (ι:=Nat) (fun i=>⟨[(3,.sl 0 0 (l.length+i) 1),(4,.v (.int .u64 (N:Int))),(5,.v (.int .i64 i))],⟨[(0,.cells 5 (flat QC (l++(bitB b.length).take i)) true)],1,1,0⟩⟩)
   (fun i=>i≤8) (fun i=>8 - i) 0 (Nat.zero_le _) ?_ ?_
  ·refine fzNM 0 [(0,0)] [] ?_ ?_<;>first | exact zC | refine zS ?_
   rw [hN]
   rfl
  intro i hi
  refine zS ?_
  refine⟨fun h=>?_,fun h=>?_⟩
  ·have hi8:i<8:=by omega
   obtain⟨sh,hsh'⟩:∃sh,sh=N / 2^(56 - 8*i):=⟨_,rfl⟩
   have hbi:(bitB b.length)[i]'zo=UInt8.ofNat sh:=by simp [bitB,hsh',hN]
   have hsr:∀x y,pbin Tryz.prog .shr 154 x y (.int .u64 (N:Int)) (.int .u64 (56 - 8*(i:Int)))=some (.int .u64 (sh:Int)):=fun x y=>by
    rw [show (56 - 8*(i:Int))=((56 - 8*i:Nat):Int) by omega,QCF (by simp [IntKind.bits];omega),hsh']
   have hset:(bitB b.length).take i++[UInt8.ofNat sh]=(bitB b.length).take (i+1):=by rw [List.take_succ_eq_append_getElem zo,hbi]
   (have X1:=hsr;refine zS1 ?_;clear X1)
   rw [hset]
   refine⟨i+1,zO,zO,?_⟩
   refine fzNM 0 [(0,73)] [] ?_ ?_<;>first | exact zC | refine zS ?_
   rfl
  ·have hi8:i=8:=by omega
   subst hi8
   have hfull:(bitB b.length).take 8=bitB b.length:=by rw [List.take_of_length_le zo]
   (have X1:=hfull;have X2:=hpf;have X3:=hpl8;have X4:=htk;exact zC4)
end Go.AW
