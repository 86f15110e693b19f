/- A part of the proof: D41 D42. -/
import Derived.Test.YtpcbnjbpdooejaaGreatDoorPae
import Derived.Test.YtpcbnjbpdooejaaGreatDoorPar
import Derived.Test.YtpcbnjbpdooejaaGreatDoorPaf
import Derived.Shelf.SlSortCmp.NoneTotal
set_option linter.unusedSimpArgs false
set_option linter.unusedVariables false
set_option maxRecDepth 100000
set_option maxHeartbeats 8000000
namespace Go.Proofs
open Go.RowKit Go.Shelf Go.Sort
def Tryz.laysSF_ren:Go.Shelf.Ren:=⟨fun | 6=>118 | 15=>175 | 14=>174 | 28=>223 | 29=>224 | 20=>215 | 21=>216 | 22=>217 | 23=>218 | 24=>219 | 25=>220 | 26=>221 | 27=>222 | 46=>242 | 47=>243 | 48=>244 | 49=>245 | 50=>246 | 57=>251 | n=>n,fun | 22=>32 | 24=>47 | 25=>163 | 3=>3 | 39=>210 | 0=>0 | 53=>84 | 55=>154 | 4=>4 | 46=>269 | 45=>268 | 50=>244 | 5=>5 | 9=>9 | 66=>292 | 70=>296 | 76=>304 | 77=>288 | n=>n,fun | n=>n⟩
theorem Tryz.laysSF:Go.Proofs.SlLaysF0.n6 Tryz.prog Tryz.laysSF_ren where
 mixed:=by kernel_rfl
 f6:=⟨ "slices.SortFunc[[]stemma/api.Hash,stemma/api.Hash]",by decide,Tryz.func118.trans (congrArg some (by kernel_rfl))⟩
 f14:=⟨ "slices.pdqsortCmpFunc[stemma/api.Hash]",by decide,Tryz.func174.trans (congrArg some (by kernel_rfl))⟩
 f15:=Tryz.func175.trans (congrArg some (by kernel_rfl))
 f20:=⟨ "slices.insertionSortCmpFunc[stemma/api.Hash]",by decide,Tryz.func215.trans (congrArg some (by kernel_rfl))⟩
 f21:=⟨ "slices.heapSortCmpFunc[stemma/api.Hash]",by decide,Tryz.func216.trans (congrArg some (by kernel_rfl))⟩
 f22:=⟨ "slices.breakPatternsCmpFunc[stemma/api.Hash]",by decide,Tryz.func217.trans (congrArg some (by kernel_rfl))⟩
 f23:=⟨ "slices.choosePivotCmpFunc[stemma/api.Hash]",by decide,Tryz.func218.trans (congrArg some (by kernel_rfl))⟩
 f24:=⟨ "slices.reverseRangeCmpFunc[stemma/api.Hash]",by decide,Tryz.func219.trans (congrArg some (by kernel_rfl))⟩
 f25:=⟨ "slices.partialInsertionSortCmpFunc[stemma/api.Hash]",by decide,Tryz.func220.trans (congrArg some (by kernel_rfl))⟩
 f26:=⟨ "slices.partitionEqualCmpFunc[stemma/api.Hash]",by decide,Tryz.func221.trans (congrArg some (by kernel_rfl))⟩
 f27:=⟨ "slices.partitionCmpFunc[stemma/api.Hash]",by decide,Tryz.func222.trans (congrArg some (by kernel_rfl))⟩
 f28:=Tryz.func223.trans (congrArg some (by kernel_rfl))
 f29:=Tryz.func224.trans (congrArg some (by kernel_rfl))
 f46:=⟨ "slices.siftDownCmpFunc[stemma/api.Hash]",by decide,Tryz.func242.trans (congrArg some (by kernel_rfl))⟩
 f47:=Tryz.func243.trans (congrArg some (by kernel_rfl))
 f48:=Tryz.func244.trans (congrArg some (by kernel_rfl))
 f49:=⟨ "slices.medianAdjacentCmpFunc[stemma/api.Hash]",by decide,Tryz.func245.trans (congrArg some (by kernel_rfl))⟩
 f50:=⟨ "slices.medianCmpFunc[stemma/api.Hash]",by decide,Tryz.func246.trans (congrArg some (by kernel_rfl))⟩
 f57:=⟨ "slices.order2CmpFunc[stemma/api.Hash]",by decide,Tryz.func251.trans (congrArg some (by kernel_rfl))⟩
 t0:=Tryz.underlying0
 a0:=Tryz.isAgg0
 z0:=Tryz.sizeOf0
 v0:=Tryz.zeroValue0
 t3:=Tryz.underlying3
 a3:=Tryz.isAgg3
 z3:=Tryz.sizeOf3
 v3:=Tryz.zeroValue3
 t4:=Tryz.underlying4
 a4:=Tryz.isAgg4
 z4:=Tryz.sizeOf4
 v4:=Tryz.zeroValue4
 t5:=Tryz.underlying5
 a5:=Tryz.isAgg5
 z5:=Tryz.sizeOf5
 v5:=Tryz.zeroValue5
 t9:=Tryz.underlying9
 a9:=Tryz.isAgg9
 z9:=Tryz.sizeOf9
 v9:=Tryz.zeroValue9
 t22:=Tryz.underlying32
 a22:=Tryz.isAgg32
 z22:=Tryz.sizeOf32
 v22:=Tryz.zeroValue32
 t25:=Tryz.underlying163
 a25:=Tryz.isAgg163
 z25:=Tryz.sizeOf163
 v25:=Tryz.zeroValue163
 t39:=Tryz.underlying210
 a39:=Tryz.isAgg210
 z39:=Tryz.sizeOf210
 v39:=Tryz.zeroValue210
 t45:=Tryz.underlying268
 a45:=Tryz.isAgg268
 z45:=Tryz.sizeOf268
 v45:=Tryz.zeroValue268
 t46:=Tryz.underlying269
 a46:=Tryz.isAgg269
 z46:=Tryz.sizeOf269
 v46:=Tryz.zeroValue269
 t50:=Tryz.underlying244
 a50:=Tryz.isAgg244
 z50:=Tryz.sizeOf244
 v50:=Tryz.zeroValue244
 t53:=Tryz.underlying84
 a53:=Tryz.isAgg84
 z53:=Tryz.sizeOf84
 v53:=Tryz.zeroValue84
 t55:=Tryz.underlying154
 a55:=Tryz.isAgg154
 z55:=Tryz.sizeOf154
 v55:=Tryz.zeroValue154
 t66:=Tryz.underlying292
 a66:=Tryz.isAgg292
 z66:=Tryz.sizeOf292
 v66:=Tryz.zeroValue292
 t70:=Tryz.underlying296
 a70:=Tryz.isAgg296
 z70:=Tryz.sizeOf296
 v70:=Tryz.zeroValue296
 t76:=Tryz.underlying304
 a76:=Tryz.isAgg304
 z76:=Tryz.sizeOf304
 v76:=Tryz.zeroValue304
 t77:=Tryz.underlying288
 a77:=Tryz.isAgg288
 z77:=Tryz.sizeOf288
 v77:=Tryz.zeroValue288
end Go.Proofs
namespace Go.AW
open Proofs Go.Sort
def encH (h:Hs):List Value:=h.1.map (Value.int .u8)
theorem QBU (h:Hs):(encH h).length=32:=by simp [encH,h.2]
theorem QIm (x:Hs):∀v∈encH x,v.oneCell'=true:=by
 intro v hv
 simp only [encH,List.mem_map] at hv
 obtain⟨n,-, rfl⟩:=hv
 rfl
theorem QKT (h:Hs):hcell h=(encH h).map .v:=by simp [hcell,encH,Function.comp_def]
theorem QL2 (l:List Hs):flat hcell l=(l.flatMap encH).map .v:=by
 induction l with
 | nil=>rfl
 | cons a l ih=>simp only [flat,List.flatMap_cons,List.map_append] at*; rw [ih,QKT]
theorem QBX (l:List Hs):(l.flatMap encH).length=l.length*32:=by
 induction l with
 | nil=>rfl
 | cons a l ih=>simp only [List.flatMap_cons,List.length_append,QBU,ih,List.length_cons];omega
theorem QEQ:∀(l:List Hs) (t:Nat),t<l.length*32→(l.flatMap encH)[t]?=some ((encH l.toArray[t / 32]!)[t % 32]!)
 | [],t,h=>by simp at h
 | a::l,t,h=>by
  rw [List.flatMap_cons]
  by_cases ht:t<32
  ·rw [List.getElem?_append_left (by rw [QBU];exact ht),Nat.div_eq_of_lt ht,Nat.mod_eq_of_lt ht]
   have h1:(a::l).toArray[0]! = a:=by simp
   rw [h1,List.getElem!_eq_getElem?_getD]
   cases e:(encH a)[t]? with
   | none=>rw [List.getElem?_eq_none_iff,QBU] at e;omega
   | some v=>rfl
  ·rw [List.getElem?_append_right (by rw [QBU];omega),QBU,QEQ l (t - 32) (by simp only [List.length_cons] at h;omega)]
   obtain⟨u,rfl⟩:∃u,t=u+32:=⟨t - 32,by omega⟩
   have h2:(a::l).toArray[(u / 32)+1]! = l.toArray[u / 32]!:=by simp
   rw [Nat.add_sub_cancel,Nat.add_div_right _ zD,Nat.add_mod_right,h2]
theorem QS1 (l:List Hs):(flatK encH 32 l.toArray).toList=l.flatMap encH:=by
 refine List.ext_getElem? fun t=>?_
 by_cases ht:t<l.length*32
 ·rw [QEQ l t ht]
  have h1:t<(flatK encH 32 l.toArray).size:=by simpa using ht
  have h2:=get_flatK encH 32 l.toArray t (by simpa using ht)
  rw [Array.getElem?_toList,Array.getElem?_eq_getElem h1,←h2,getElem!_pos _ t h1]
 ·rw [List.getElem?_eq_none (by simp;omega),List.getElem?_eq_none (by rw [QBX];omega)]
theorem QKV (x y:Hs):ltOf cmpH x y=hlt x y:=by
 unfold ltOf cmpH
 split
 ·rename_i h;subst h;rw [QAX];rfl
 ·split
  ·rename_i h;rw [h];rfl
  ·rename_i h
   have:hlt x y=false:=by simpa using h
   rw [this];rfl
theorem Qa4:SWO (ltOf cmpH) where
 irrefl x:=by rw [QKV,QAX]
 trans x y z h1 h2:=by rw [QKV] at*; exact QCB h1 h2
 ntrans x y z h1 h2:=by
  rw [QKV] at*
  cases e:hlt x z with
  | false=>rfl
  | true=>
   rcases QBh x y with k | k | k
   ·subst k;rw [e] at h2;cases h2
   ·rw [h1] at k;cases k
   ·rw [QCB k e] at h2;cases h2
theorem QWa (blk off size:Nat) (w:World):CmpLays Tryz.prog 119 #[] encH 32 cmpH blk off size w:=by
 intro m os dk _ x y
 generalize sortWorldK encH 32 w blk off m dk os=W
 have hagg:∀z:Hs,Rep (fun _ _=>False) μ0 W (.agg (hcell z)) (.agg (encH z).toArray):=fun z=>by
  simp only [Rep]
  exact⟨encH z,rfl,by rw [QKT];exact RepL.of_vals _,QIm z⟩
 have h:=(QUV x y).2.2.2 (fun _ _=>False) W [.agg (encH x).toArray,.agg (encH y).toArray] (fun _ _ h=>h.elim) GOK.nil (by simp only [RepL];exact⟨_,_,rfl,hagg x,_,_,rfl,hagg y,rfl⟩)
 refine h.mono fun e w' he=>?_
 obtain⟨v,S',rfl,hE,hv⟩:=he
 simp only [Rep] at hv
 subst hv
 refine⟨rfl,w'.drawn - W.drawn,w'.heap.extract W.heap.size w'.heap.size,?_⟩
 obtain⟨h1,h2,h3,h4,h5⟩:w'.os=W.os∧QCX W w'∧w'.output=W.output∧W.heap.size≤w'.heap.size∧∀b,b<W.heap.size→w'.heap[b]?=W.heap[b]?:=⟨hE.os,hE.tape,hE.output,hE.size,hE.heap⟩
 have hh:w'.heap=W.heap++w'.heap.extract W.heap.size w'.heap.size:=by
  refine Array.ext (by simp;omega) fun i hi1 hi2=>?_
  by_cases hb:i<W.heap.size
  ·rw [Array.getElem_append_left hb]
   have:=h5 i hb
   rw [Array.getElem?_eq_getElem hi1,Array.getElem?_eq_getElem hb] at this
   simpa using this
  ·rw [Array.getElem_append_right zo,Array.getElem_extract]
   congr 1;omega
 cases w';cases W
 simp only [grow,World.drewN] at*
 obtain⟨h2,h2'⟩:=h2
 simp only at h2 h2'
 subst h1;subst h2;subst h3
 simp only [World.mk.injEq,and_true,true_and]
 exact⟨hh,by omega⟩
theorem QU8 (p:Option Addr) (cap:Nat) (fv:Value) (w:World):Calls Tryz.prog 118 #[.slice p 0 cap,fv] w fun e w'=>e=.returned (.tuple #[])∧w'=w:=
 AnyF.slices_SortFunc_none Tryz.laysSF p cap fv w
theorem QSu (blk off cap:Nat) (l:List Hs) (w:World) (hH:HoldsK encH 32 w blk off l.toArray) (hblk:blk<w.heap.size) (hsz:l.length<4611686018427387904):
  Calls Tryz.prog 118 #[.slice (some ⟨blk,off,none⟩) l.length cap,.func (.func 119) #[] #[]] w fun e w'=>e=.returned (.tuple #[])∧∃n os,w'=sortWorldK encH 32 w blk off n (msH l).toArray os:=by
 have h:=AnyQ.slices_SortFunc_total Tryz.laysSF 32 Tryz.isAgg47 Tryz.sizeOf47 encH QBU QIm cmpH Qa4 119 #[] blk off cap l.toArray w (enters_of Tryz.func119 zK rfl) (QWa blk off l.length w) hH hblk (by simpa using hsz) (fun x y h1 h2=>by
  rw [QKV] at h1 h2
  rcases QBh x y with k | k | k
  ·exact k
  ·rw [h1] at k;cases k
  ·rw [h2] at k;cases k)
 have e1:(l.toArray.toList.mergeSort fun x y=>!ltOf cmpH y x)=msH l:=by
  simp only [QKV];rfl
 rw [e1] at h
 exact h
theorem Qcf (l:List Hs) (ap:Bool) (E:TypeId) (hl:l.length<4611686018427387904):QM Tryz.prog [] 118 [.sl 0 0 l.length 32,.v (.func (.func 119) #[] #[])] [(0,.cells E (flat hcell l) ap)] 1 (.tup []) [(0,.cells E (flat hcell (msH l)) ap)] 1:=by
 refine⟨⟨_,Tryz.func118,by rfl,by rfl⟩,fun S μ w vs hr hG hx=>?_⟩
 simp only [RepL] at hx
 obtain⟨v,z0,rfl,hv,v2,z1,rfl,hv2,rfl⟩:=hx
 simp only [Rep] at hv hv2
 subst hv2
 obtain⟨base,cap,rfl,hcap,hbase⟩:=hv
 rcases Nat.eq_zero_or_pos l.length with h0 | hpos
 ·have hl0:l=[]:=List.eq_nil_of_length_eq_zero h0
  subst hl0
  refine (QU8 base cap _ w).mono fun e w' he=>?_
  obtain⟨rfl,rfl⟩:=he
  have e1:msH []=[]:=by simp [msH]
  rw [e1]
  exact⟨_,S,μ,rfl,hr,Ext.refl (Nat.le_refl _),by simp [Rep,RepL]⟩
 ·obtain⟨b,bo,hμ,rfl,hsz⟩:=hbase.resolve_left zo
  have hf:(⟨[(0,.cells E (flat hcell l) ap)],1,1,0⟩:Mem).find 0=some (.cells E (flat hcell l) ap):=rfl
  obtain⟨ys,c,fz,g1,g2,g3,g4,g5,g6,g7⟩:=QDO hr hf hμ
  have hys:ys=l.flatMap encH:=RepL.vals (by rw [←QL2];exact g3)
  subst hys
  have hblk:b<w.heap.size:=hr.bk 0 b bo hμ
  have hHolds:HoldsK encH 32 w b (bo+0) l.toArray:=by
   intro j hj
   have hj':j<l.length*32:=by simpa using hj
   have hjl:j<(l.flatMap encH).length:=by rw [QBX];exact hj'
   have hc:=g6 j hjl
   have hjc:bo+j<c.size:=by omega
   refine⟨?_,?_⟩
   ·rw [cell_of_row w b _ c E fz g1,Nat.add_zero,hc,QEQ l j hj',id,get_flatK _ _ _ _ (by simpa using hj')]
   ·have:=g2 (bo+j) hjc
    simp only [World.frozen?,g1]
    simpa using this
  refine (QSu b (bo+0) cap l w hHolds hblk hl).mono fun e w' he=>?_
  obtain⟨rfl,n,os,hw'⟩:=he
  have hml:=QDV l
  let F:Array Value:=flatK encH 32 (msH l).toArray
  let w1:World:=putRow id (Sort.ahead w n) b (bo+0) F
  have hw1:w'=grow w1 os:=hw'
  have hF:F.toList=(msH l).flatMap encH:=QS1 _
  have hFs:F.size=l.length*32:=by simp [F,hml]
  have hb1:w1.heap[b]?=some (.cells (putCells id (bo+0) F c) E fz):=by
   simp [w1,putRow,mapBlock,Sort.ahead,Array.getElem?_modify,g1,onCells]
  have ho1:∀k,k≠b→w1.heap[k]?=w.heap[k]?:=fun k hk=>by
   simp [w1,putRow,mapBlock,Sort.ahead,Array.getElem?_modify,Ne.symm hk]
  have hpc:(putCells id (bo+0) F c).size=c.size:=by simp [putCells]
  have haft:After S μ w ⟨[(0,.cells E (flat hcell l) ap)],1,1,0⟩ [(0,.cells E (flat hcell (msH l)) ap)] μ w1:=by
   refine After.set hr hf rfl rfl hμ ho1 (by simp [w1,Sort.ahead]) ?_ rfl ⟨rfl,Nat.le_add_right _ _⟩ rfl (fun hk=>?_) g7 (fun _=>QIo hb1 (fun i hi=>g2 i (by rw [hpc] at hi;exact hi)))
   ·simp only [Qw,hb1,g1,hpc]
   ·simp only [RepO]
    refine .inr ⟨b,bo,(msH l).flatMap encH,_,fz,hμ,hb1,fun i hi=>g2 i (by rw [hpc] at hi;exact hi),by rw [QL2];exact RepL.of_vals _,fun u hu=>?_,by rw [hpc,QBX,hml];rw [QBX] at g5;exact g5,fun j hj=>?_,g7⟩
    ·obtain⟨x,-, hx⟩:=List.mem_flatMap.1 hu
     exact QIm x u hx
    ·have hj':j<l.length*32:=by rw [QBX,hml] at hj;exact hj
     rw [QBX] at g5
     have hjc:bo+j<c.size:=by omega
     have hjF:j<F.size:=by rw [hFs];exact hj'
     rw [←hF,Array.getElem?_toList,Array.getElem?_eq_getElem hjF]
     simp only [putCells,Array.getElem?_mapIdx,Nat.add_zero]
     rw [Array.getElem?_eq_getElem hjc,Option.map_some,if_pos ⟨by omega,by omega⟩,Nat.add_sub_cancel_left,id,getElem!_pos F j hjF]
  obtain⟨h1,h2,h3⟩:=QIL (S':=S) (w':=w') haft.rm (fun _ _ h=>h) (fun _ _ _ h=>h) (fun b off h=>by have:=haft.rm.old b off h;rw [hw1];simp only [size_grow];omega) (by rw [hw1];simp only [size_grow];omega)
   (fun k hk=>by rw [hw1];exact heap_grow_old _ _ hk) (fun k hk hu=>QBB (by rw [hw1];exact heap_grow_old _ _ hk) hu) (by rw [hw1];rfl) (by rw [hw1];exact⟨rfl,Nat.le_refl _⟩) (by rw [hw1];rfl)
  have hsame:∀q,((⟨[(0,.cells E (flat hcell l) ap)],1,1,0⟩:Mem).upd [(0,.cells E (flat hcell (msH l)) ap)]).find q=(⟨[(0,.cells E (flat hcell (msH l)) ap)],1,1,0⟩:Mem).find q:=fun q=>by
   rw [QP]
   simp only [Mem.find,lk]
   split<;>rfl
  refine⟨_,S,μ,rfl,h1.same hsame rfl rfl rfl,?_,by simp [Rep,RepL]⟩
  have he1:Ext 1 ⟨[(0,.cells E (flat hcell l) ap)],1,1,0⟩ S μ w (⟨[(0,.cells E (flat hcell l) ap)],1,1,0⟩:Mem) S μ w1:=by
   have hx:=haft.ext
   exact⟨hx.os,hx.tape,hx.output,hx.size,fun _ _=>rfl,fun _ _ h=>h,Nat.le_refl _,hx.sub,hx.new,hx.cell,hx.map,fun b hb ho=>⟨(hx.blk b hb ho).1,ho⟩,hx.bsz,hx.uf⟩
  have he2:=(h3 1 (Nat.le_refl _)).same hsame rfl
  have he3:Ext 1 ⟨[(0,.cells E (flat hcell l) ap)],1,1,0⟩ S μ w ((⟨[(0,.cells E (flat hcell l) ap)],1,1,0⟩:Mem).upd [(0,.cells E (flat hcell (msH l)) ap)]) S μ w1:=by
   have hx:=haft.ext
   exact⟨hx.os,hx.tape,hx.output,hx.size,fun _ _=>rfl,fun o _ h=>by rw [hsame] at h;simp only [Mem.find,lk] at h ⊢;split at h<;>simp_all,Nat.le_refl _,hx.sub,hx.new,hx.cell,hx.map,hx.blk,hx.bsz,hx.uf⟩
  exact (he3.trans (Nat.le_refl _) (h3 1 (Nat.le_refl _))).same hsame rfl
open Proofs
theorem QVo (l:List Hs) (hl:l.length≤1048576):POwn Tryz.prog [] 117 [.seq l.length 32 (flat hcell l)] l.length 32 47 (flat hcell l):=by
 refine POwn.start Tryz.func117 rfl zK rfl Tryz.ntmps117 fol zK zI (by simp [QQ,QAL]) ?_
 refine zZ ?_
 refine⟨fun h=>?_,?_⟩
 ·obtain rfl:l=[]:=List.eq_nil_of_length_eq_zero h
  exact fzN 0 [] []
 ·exact fzN 0 [(0,23)] []
theorem QM1 {l:List Hs} {k:Nat} (hk:0<k) (hk1:k<l.length) (h:QBi (l.take k)=l.take k):QBi (l.take (k+1))=if l[k]=l[k - 1]'zo then l.take k else l.take (k+1):=by
 rw [List.take_succ_eq_append_getElem hk1,QCc,QMv,QFA,h]
 have:(l.take k).getLast?=some (l[k - 1]'zo):=by
  rw [List.getLast?_eq_getElem?,List.length_take,Nat.min_eq_left zo,List.getElem?_take,if_pos zo,List.getElem?_eq_getElem zo]
 rw [this]
 by_cases e:l[k]=l[k - 1]'zo
 ·rw [if_pos (by rw [e]),if_pos e]
 ·rw [if_neg (fun h=>e (by simpa using h.symm)),if_neg e]
def QJu (l:List Hs):List Hs:=QBi l++List.replicate (l.length - (QBi l).length) QBl
theorem QSR (l:List Hs) (hl:l.length≤1048576) (ap:Bool):QM Tryz.prog [] 120 [.sl 0 0 l.length 32] [(0,.cells 47 (flat hcell l) ap)] 1 (.sl 0 0 (QBi l).length 32) [(0,.cells 47 (flat hcell (QJu l)) ap)] 1:=by
 refine QM.start Tryz.func120 rfl zK rfl Tryz.ntmps120 fol zK (Nat.le_refl _) ?_
 refine zZ ?_
 refine⟨fun h=>?_,fun h=>?_⟩
 ·have e1:QBi l=l:=by
   match l,h with
   | [],_=>rfl
   | [a],_=>rfl
   | _::_::_,h=>simp at h;omega
  have e2:QJu l=l:=by rw [QJu,e1,Nat.sub_self];simp
  rw [e1,e2]
  refine zS ?_
  exact fzN 1 [(0,0)] []
 refine zS ?_
 refine QD (ι:=Nat) (fun k=>⟨[(0,.sl 0 0 l.length 32),(3,.v (.int .i64 k))],⟨[(0,.cells 47 (flat hcell l) ap)],1,1,0⟩⟩) (fun k=>1≤k∧k≤l.length∧QBi (l.take k)=l.take k) (fun k=>l.length - k) 1 ⟨Nat.le_refl _,by omega,by
   cases l with
   | nil=>rfl
   | cons a l=>rfl⟩ ?_ ?_
 ·refine fzNM 1 [(0,0)] [] ?_ ?_<;>first | exact zC | refine zS ?_
  rfl
 rintro k ⟨hk1,hk2,hk3⟩
 refine zS ?_
 refine⟨fun h1=>?_,fun h1=>?_⟩
 ·have hk:k<l.length:=by omega
  have e1:((k:Int) - 1).toNat=k - 1:=by omega
  have hsp:=QM1 hk1 hk hk3
  (have X1:=e1;refine zS1 ?_;clear X1)
  refine⟨fun h2=>?_,fun h2=>?_⟩
  ·rw [if_pos h2] at hsp
   refine zS ?_
   refine QD (ι:=Nat×Nat×List Hs) (fun q=>⟨[(0,.sl 0 0 l.length 32),(3,.v (.int .i64 q.1)),(4,.sl 0 (k*32) (l.length - k) 32),(5,.v (.int .i64 q.2.1))],⟨[(0,.cells 47 (flat hcell q.2.2) ap)],1,1,0⟩⟩)
    (fun q=>1≤q.2.1∧k+q.2.1≤l.length∧q.2.2.length=l.length∧q.1+1≤k+q.2.1∧q.2.2.take q.1=QBi (l.take (k+q.2.1))∧q.2.2.drop (k+q.2.1 - 1)=l.drop (k+q.2.1 - 1)∧q.1=(QBi (l.take (k+q.2.1))).length) (fun q=>l.length - q.2.1) (k,1,l) ⟨Nat.le_refl _,zO,rfl,Nat.le_refl _,by show l.take k=QBi (l.take (k+1));rw [hsp],rfl,by show k=(QBi (l.take (k+1))).length;rw [hsp,List.length_take];omega⟩ ?_ ?_
   ·refine fzNM 1 [(0,0)] [] ?_ ?_<;>first | exact zC | refine zS ?_
    rfl
   rintro⟨j,m,d⟩ ⟨q1,q2,q3,q4,q5,q6,q7⟩
   simp only at q1 q2 q3 q4 q5 q6 q7
   refine zS ?_
   refine⟨fun h3=>?_,fun h3=>?_⟩
   ·have hm:k+m<d.length:=by omega
    have hmm:k+m<l.length:=by omega
    have e3:((m:Int) - 1).toNat=m - 1:=by omega
    have hdm:d[k+m]=l[k+m]:=by
     have h4:=congrArg (·[1]?) q6
     simp only [List.getElem?_drop] at h4
     rw [show k+m - 1+1=k+m by omega,List.getElem?_eq_getElem hm,List.getElem?_eq_getElem hmm] at h4
     simpa using h4
    have hdm1:d[k+m - 1]'zo=l[k+m - 1]'zo:=by
     have h4:=congrArg (·[0]?) q6
     simp only [List.getElem?_drop] at h4
     rw [Nat.add_zero,List.getElem?_eq_getElem zo,List.getElem?_eq_getElem zo] at h4
     simpa using h4
    have hA:List.take 32 (List.drop (k*32+m*32) (flat hcell d))=hcell l[k+m]:=by rw [←Nat.add_mul,QDq d (k+m) hm,QDv,hdm]
    have hB:List.take 32 (List.drop (k*32+(m - 1)*32) (flat hcell d))=hcell (l[k+m - 1]'zo):=by
     rw [←Nat.add_mul,show k+(m - 1)=k+m - 1 by omega,QDq d (k+m - 1) zo,QDv,hdm1]
    have hset:setL (flat hcell d) (j*32) (hcell l[k+m])=flat hcell (d.set j l[k+m]):=QIC zo
    have hsn:QBi (l.take (k+(m+1)))=if l[k+m]=l[k+m - 1]'zo then QBi (l.take (k+m)) else QBi (l.take (k+m))++[l[k+m]]:=by
     rw [←Nat.add_assoc,List.take_succ_eq_append_getElem hmm,QCc,QMv,QFA]
     have:(l.take (k+m)).getLast?=some (l[k+m - 1]'zo):=by
      rw [List.getLast?_eq_getElem?,List.length_take,Nat.min_eq_left zo,List.getElem?_take,if_pos zo,List.getElem?_eq_getElem zo]
     rw [this]
     by_cases e:l[k+m]=l[k+m - 1]'zo
     ·rw [if_pos (by rw [e]),if_pos e]
     ·rw [if_neg (fun h=>e (by simpa using h.symm)),if_neg e]
    have hdr:∀x,(d.set j x).drop (k+m)=l.drop (k+m):=fun x=>by
     rw [List.drop_set_of_lt zo]
     have h4:=congrArg (List.drop 1) q6
     rw [List.drop_drop,List.drop_drop,show k+m - 1+1=k+m by omega] at h4
     exact h4
    have hdr0:d.drop (k+m)=l.drop (k+m):=by
     have h4:=congrArg (List.drop 1) q6
     rw [List.drop_drop,List.drop_drop,show k+m - 1+1=k+m by omega] at h4
     exact h4
    simp (maxSteps:=400000) (disch:=first | omega | exact okT rfl | simp only [push_cast]) only [push_cast,↓QG,↓reduceIte,Nat.reduceAdd,Nat.reduceMul,Nat.reduceSub,Nat.reduceEqDiff,Nat.reduceBEq,Nat.reduceBNe,Nat.reduceLT,Nat.reduceLeDiff,reduceCtorEq,Op.operands,QA,QB,Nat.sub_zero,e3,hA,hB]
    refine⟨fun h4=>?_,fun h4=>?_⟩
    ·rw [if_neg h4] at hsn
     (have X1:=hA;have X2:=hset;refine zS2 ?_;clear X1 X2)
     refine⟨(j+1,m+1,d.set j l[k+m]),⟨zO,zO,by show (d.set j _).length=l.length;rw [List.length_set,q3],zO,?_,hdr _,?_⟩,zO,?_⟩
     ·show (d.set j l[k+m]).take (j+1)=QBi (l.take (k+(m+1)))
      rw [hsn,←q5,List.take_succ_eq_append_getElem (by rw [List.length_set];omega),List.take_set_of_le (Nat.le_refl _),List.getElem_set_self]
     ·show j+1=(QBi (l.take (k+(m+1)))).length
      rw [hsn,List.length_append,←q7];rfl
     ·exact fzN 1 [(0,0)] []
    ·rw [if_pos (Classical.not_not.1 (by simpa using h4))] at hsn
     refine zS ?_
     refine⟨(j,m+1,d),⟨zO,zO,q3,zO,by show d.take j=QBi (l.take (k+(m+1)));rw [hsn,q5],hdr0,by show j=(QBi (l.take (k+(m+1)))).length;rw [hsn,←q7]⟩,zO,?_⟩
     exact fzN 1 [(0,0)] []
   ·have hm:k+m=l.length:=by omega
    rw [hm,List.take_length] at q5 q7
    have hz:∀m,(List.replicate m [AV.v (.int .u8 0),AV.v (.int .u8 0),AV.v (.int .u8 0),AV.v (.int .u8 0),AV.v (.int .u8 0),AV.v (.int .u8 0),AV.v (.int .u8 0),AV.v (.int .u8 0),AV.v (.int .u8 0),AV.v (.int .u8 0),AV.v (.int .u8 0),AV.v (.int .u8 0),AV.v (.int .u8 0),AV.v (.int .u8 0),AV.v (.int .u8 0),AV.v (.int .u8 0),AV.v (.int .u8 0),AV.v (.int .u8 0),AV.v (.int .u8 0),AV.v (.int .u8 0),AV.v (.int .u8 0),AV.v (.int .u8 0),AV.v (.int .u8 0),AV.v (.int .u8 0),AV.v (.int .u8 0),AV.v (.int .u8 0),AV.v (.int .u8 0),AV.v (.int .u8 0),AV.v (.int .u8 0),AV.v (.int .u8 0),AV.v (.int .u8 0),AV.v (.int .u8 0)]).flatten=flat hcell (List.replicate m QBl):=fun m=>by
     induction m with
     | zero=>rfl
     | succ m ih=>rw [List.replicate_succ,List.replicate_succ,List.flatten_cons,ih];rfl
    have hset:setL (flat hcell d) (j*32) (flat hcell (List.replicate (l.length - j) QBl))=flat hcell (QJu l):=by
     have hd:flat hcell d=flat hcell (d.take j)++flat hcell (d.drop j):=by rw [Q4,List.take_append_drop]
     have hl1:(flat hcell (d.take j)).length=j*32:=by rw [QW QK,List.length_take,Nat.min_eq_left zo]
     rw [hd]
     have:=QDn (a:=flat hcell (d.take j)) (b:=flat hcell (d.drop j)) (cs:=flat hcell (List.replicate (l.length - j) QBl)) (i:=0)
     rw [Nat.add_zero,hl1] at this
     rw [this,QAK (by rw [QW QK,QW QK,List.length_drop,List.length_replicate,q3]),Q4,q5,QJu,←q7]
    (have X1:=hz;have X2:=hset;refine zS2 ?_;clear X1 X2)
    rw [←q7]
    exact fzN 1 [(0,0)] []
  ·refine zS ?_
   rw [if_neg h2] at hsp
   refine⟨k+1,⟨by omega,by omega,hsp⟩,zO,?_⟩
   exact fzN 1 [(0,0)] []
 ·refine zS ?_
  have e0:k=l.length:=by omega
  have e1:QBi l=l:=by rw [e0,List.take_length] at hk3;exact hk3
  have e2:QJu l=l:=by rw [QJu,e1,Nat.sub_self];simp
  rw [e1,e2]
  exact fzN 1 [(0,0)] []
theorem QJH (l:List Hs) (hl:l.length≤1048576):POwn Tryz.prog [] 54 [.seq l.length 32 (flat hcell l)] (srt l).length 32 47 (flat hcell (srt l)):=by
 refine POwn.start Tryz.func54 rfl zK rfl Tryz.ntmps54 fol zK zI (by simp [QQ,QAL]) ?_
 refine zZ ?_
 refine POwn.useV (QVo l hl) ?_
 refine zS ?_
 refine QM.useX [20] (Qcf l true 47 zo) rfl rfl ?_ ?_
 ·exact zC
 refine zS ?_
 have hC:=QSR (msH l) (by rw [QDV];exact hl) true
 rw [QDV,QK8] at hC
 refine QM.useX [20] hC rfl rfl ?_ ?_
 ·exact zC
 refine zS ?_
 have hz:flat hcell (QJu (msH l))=flat hcell (srt l)++flat hcell (List.replicate (l.length - (srt l).length) QBl):=by rw [QJu,QK8,QDV,Q4]
 rw [hz]
 refine Ent.cut1 (ys:=flat hcell (List.replicate (l.length - (srt l).length) QBl)) ?_
 exact fzN 0 [(0,20)] []
end Go.AW
