/- A part of the proof: D43 D44 D45. -/
import Derived.Test.YtpcbnjbpdooejaaGreatDoorPae
import Derived.Test.YtpcbnjbpdooejaaGreatDoorPat
import Derived.Test.YtpcbnjbpdooejaaGreatDoorPas
set_option linter.unusedSimpArgs false
set_option linter.unusedVariables false
set_option maxRecDepth 100000
set_option maxHeartbeats 8000000
namespace Go.AW
open Proofs
theorem Qd4:tok Tryz.prog 179=true:=zK
theorem Qb6:tsz Tryz.prog 179=1:=zK
theorem QVl:tagg Tryz.prog 179=some false:=zK
theorem tz_179:tz Tryz.prog 179=some [Value.nilFunc]:=zK
attribute [push_cast] Qd4 Qb6 QVl tz_179
theorem QQd {l:List Hs} {a:Hs}:flat hcell l++hcell a=flat hcell (l++[a]):=by simp [flat]
def hks (ks:List Hs):List Value:=ks.map hval
def KH:KT:=.arrK 32 .u8
theorem Qam (ks:List Hs) (xs:List AV) (hx:idfL xs=true):QE Tryz.prog [] 134 [.mv KH (hks ks) xs] (.clo (.func 189) [] [.rop [.mv KH (hks ks) xs]]):=by
 refine QE.start Tryz.func134 rfl zK rfl Tryz.ntmps134 fol zK (by simp [idfL,idf,hx]) (by simp [idf,idfL,hx]) ?_
 refine zz ?_
 exact zC
theorem QdU (ks:List Hs) (xs:List AV) (hx:idfL xs=true):QE Tryz.prog [] 164 [.mv KH (hks ks) xs] (.clo (.func 212) [] [.rop [.mv KH (hks ks) xs]]):=by
 refine QE.start Tryz.func164 rfl zK rfl Tryz.ntmps164 fol zK (by simp [idfL,idf,hx]) (by simp [idf,idfL,hx]) ?_
 refine zz ?_
 exact zC
theorem QDZ:∀{xs:List AV} {i:Nat} {x:AV},idfL xs=true→xs[i]?=some x→idf x=true
 | [],i,x,_,h=>by simp at h
 | y::xs,0,x,hi,h=>by simp only [idfL,Bool.and_eq_true] at hi;simp at h;subst h;exact hi.1
 | y::xs,i+1,x,hi,h=>by simp only [idfL,Bool.and_eq_true] at hi;simp at h;exact QDZ hi.2 h
theorem QBW {xs:List AV} (hi:idfL xs=true) (i:Nat):idfL (xs.eraseIdx i)=true:=by
 rw [List.eraseIdx_eq_take_drop_succ]
 rw [Qy,QEa _ _ hi,QCE _ _ hi];rfl
theorem QDQ {α:Type} {acc rest ks:List α} {i:Nat} {x:α} (h:(acc++rest).Perm ks) (hx:rest[i]?=some x):((acc++[x])++rest.eraseIdx i).Perm ks:=by
 have hi:i<rest.length:=(List.getElem?_eq_some_iff.1 hx).1
 have e:rest[i]=x:=(List.getElem?_eq_some_iff.1 hx).2
 refine List.Perm.trans ?_ h
 rw [List.append_assoc]
 refine List.Perm.append_left acc ?_
 have h1:rest=rest.take i++x::rest.drop (i+1):=by rw [←e,List.getElem_cons_drop,List.take_append_drop]
 rw [List.eraseIdx_eq_take_drop_succ]
 conv=>rhs;rw [h1]
 exact (List.perm_middle (a:=x) (l₁:=rest.take i) (l₂:=rest.drop (i+1))).symm
theorem QG8 {ks:List Hs} {i:Nat} {k:Value} (h:(hks ks)[i]?=some k):∃a,ks[i]?=some a∧k=hval a:=by
 rw [hks,List.getElem?_map] at h
 cases e:ks[i]? with
 | none=>rw [e] at h;cases h
 | some a=>rw [e] at h;simp only [Option.map_some,Option.some.injEq] at h;exact⟨a,rfl,h.symm⟩
theorem QS9 {ks:List Hs} {i:Nat}:(hks ks).eraseIdx i=hks (ks.eraseIdx i):=(QCw ..).symm
theorem QPu {ks:List Hs}:(hks ks).length=ks.length:=List.length_map ..
theorem QGL {ks:List Hs}:hks ks=[]↔ks=[]:=List.map_eq_nil_iff
theorem QJ2 {h:Hs}:QR (.v (hval h))=some (hcell h):=by
 have h1:∀x∈(h.1.map fun n=>Value.int .u8 n),x.oneCell'=true:=fun x hx=>by
  obtain⟨n,-, rfl⟩:=List.mem_map.1 hx;rfl
 have h2:(h.1.map fun n=>Value.int .u8 n).all (·.oneCell')=true:=List.all_eq_true.2 h1
 simp only [QR,hval,List.toList_toArray,h2,if_true]
 simp [hcell,Function.comp_def]
attribute [push_cast] QS9 QPu QJ2
def QT0 (ks:List Hs) (r:AV) (objs:List (Nat×AObj)):Prop:=∃l:List Hs,l.Perm ks∧r=.sl 0 0 l.length 32∧objs=[(0,.cells 47 (flat hcell l) true)]
theorem QFt {ks:List Hs}:∃r objs,QT0 ks r objs:=⟨_,_,ks,.refl _,rfl,rfl⟩
theorem AppB_c (ks:List Hs) (xs:List AV) (hx:idfL xs=true) (hl:xs.length=ks.length) (hk:ks.length≤1048576):QAz Tryz.prog [] 188 [.v (.slice none 0 0),.clo (.func 189) [] [.rop [.mv KH (hks ks) xs]]] [] 0 (QT0 ks) 1:=by
 refine QAz.start Tryz.func188 rfl zK rfl Tryz.ntmps188 fol zK zD ?_
 refine zZ ?_
 have hAB:rfG Tryz.prog 188 0=some (_,_):=rfl
 have hA:=QRe hAB
 have hB:=QTC hAB
 clear hAB
 rw [←hA,←hB]
 refine Qr.start Tryz.func189 rfl zK rfl Tryz.ntmps189 fol zK ?_
 refine zZ ?_
 have hs:∀f n,snap f (n+1) (.rop [.mv KH (hks ks) xs])=some (.rop [.mv KH (hks ks) xs],[]):=fun f n=>QAs (by simp [idf,idfL,hx])
 refine QD (ι:=Option (Value×AV)×List Hs×List AV×List Hs) (fun q=>⟨[(0,.yld 26),(5,.it 27)],⟨[(27,.miter q.1 (hks q.2.1) q.2.2.1),(26,.loop 13 [6,4,2,0,1] [.clo (.func 189) [] [.rop [.mv KH (hks ks) xs]],.v (.slice none 0 0),.ptr 2 0,.v (.slice none 0 0),.clo (.func 189) [] [.rop [.mv KH (hks ks) xs]]] #[7] (rfA Tryz.prog 188 0) (rfB Tryz.prog 188 0) .ready none),(2,.cells 32 [.sl 28 0 q.2.2.2.length 32] false),(28,.cells 47 (flat hcell q.2.2.2) true)],29,29,0⟩⟩)
  (fun q=>q.2.2.1.length=q.2.1.length∧(q.2.2.2++q.2.1).Perm ks∧idfL q.2.2.1=true∧QFn q.1=true) (fun q=>q.2.1.length) (none,ks,xs,[]) ⟨hl,by simp,hx,rfl⟩ ?_ ?_
 ·(have X1:=hx;have X2:=hs;exact fzI2 27 [(26,26),(2,2),(27,32)] [26,2,27])
 rintro⟨last,rest,ys,acc⟩ ⟨hyl,hp,hyi,hli⟩
 dsimp only at hyl hp hyi hli ⊢
 have hpl:=hp.length_eq
 simp only [List.length_append] at hpl
 refine zS ?_
 refine⟨fun h=>?_,fun i k x hki hxi ks' xs' l hf=>?_⟩
 ·have hr:rest=[]:=QGL.1 h
  subst hr
  refine zS ?_
  rw [List.append_nil] at hp
  refine⟨_,_,⟨acc,hp,rfl,rfl⟩,?_⟩
  exact fzN 0 [(0,28)] []
 ·simp [Mem.find,lk] at hf
  obtain⟨rfl,rfl,rfl⟩:=hf
  obtain⟨a,hki,rfl⟩:=QG8 hki
  rename_i hki2
  have hil:i<rest.length:=(List.getElem?_eq_some_iff.1 hki2).1
  have hxd:=QDZ hyi hxi
  refine zS ?_
  refine QD2.enter fol rfl rfl rfl (by rw [hA];kernel_rfl) (by rw [hB];kernel_rfl) ?_
  rw [hA,hB]
  refine zS ?_
  rw [←hA,←hB]
  refine⟨(some (hval a,x),rest.eraseIdx i,ys.eraseIdx i,acc++[a]),⟨by simp only;rw [List.length_eraseIdx,List.length_eraseIdx,hyl],QDQ hp hki2,QBW hyi i,hxd⟩,?_,?_⟩
  ·simp only;rw [List.length_eraseIdx,if_pos hil];omega
  have hye:=QBW hyi i
  simp only [List.length_append,List.length_cons,List.length_nil,Nat.zero_add]
  (have X1:=hx;have X2:=hs;have X3:=hye;have X4:=hxd;have X5:=@QQd;exact fzI5 27 [(26,26),(2,2),(27,27),(28,95)] [26,2,27])
theorem ColB_c (ks:List Hs) (xs:List AV) (hx:idfL xs=true) (hl:xs.length=ks.length) (hk:ks.length≤1048576):QAz Tryz.prog [] 133 [.clo (.func 189) [] [.rop [.mv KH (hks ks) xs]]] [] 0 (QT0 ks) 1:=by
 refine QAz.start Tryz.func133 rfl zK rfl Tryz.ntmps133 fol zK zD ?_
 refine zZ ?_
 have hi:idfL [.v (.slice none 0 0),.clo (.func 189) [] [.rop [.mv KH (hks ks) xs]]]=true:=by simp [idfL,idf,hx]
 refine QAz.useX [] (AppB_c ks xs hx hl hk) (by rintro r o ⟨l,h1,rfl,rfl⟩;rfl) (by rw [QAj hi]) QFt zC ?_
 rintro r o ⟨l,h1,rfl,rfl⟩
 refine zS ?_
 refine⟨_,_,⟨l,h1,rfl,rfl⟩,?_⟩
 exact fzN 0 [(0,10)] []
theorem QOG {l m:List Hs} (h:l.Perm m):srt l=srt m:=QG2 fun x=>h.mem_iff
theorem QIQ (ks:List Hs) (xs:List AV) (hx:idfL xs=true) (hl:xs.length=ks.length) (hk:ks.length≤1048576):POwn Tryz.prog [] 70 [.mv KH (hks ks) xs] (srt ks).length 32 47 (flat hcell (srt ks)):=by
 refine POwn.start Tryz.func70 rfl zK rfl Tryz.ntmps70 fol zK (by simp [idfL,idf,QZ QS,QS,Qg,Qy,QAL,hx]) (by simp [QQ,QAL,hx]) ?_
 refine zZ ?_
 refine (Qam ks xs hx).useV ?_
 refine zS ?_
 have hi:idfL [.clo (.func 189) [] [.rop [.mv KH (hks ks) xs]]]=true:=by simp [idfL,idf,hx]
 refine QAz.useX [] (ColB_c ks xs hx hl hk) (by rintro r o ⟨l,h1,rfl,rfl⟩;rfl) (by rw [QAj hi]) QFt zC ?_
 rintro r o ⟨l,h1,rfl,rfl⟩
 have hll:=h1.length_eq
 refine zS ?_
 refine POwn.use (QJH l zo) (ids:=[14]) (by have X1:=@QLW;exact zCN1) ?_
 rw [QOG h1]
 refine zS ?_
 exact fzN 0 [(0,15)] []
theorem QXJ (ks:List Hs) (xs:List AV) (hx:idfL xs=true) (hl:xs.length=ks.length) (hk:ks.length≤1048576):PNew Tryz.prog [] 70 [.mv KH (hks ks) xs] (.seq (srt ks).length 32 (flat hcell (srt ks))):=(QIQ ks xs hx hl hk).toNew (by rw [QW QK])
theorem AppN_c (ks:List Hs) (xs:List AV) (hx:idfL xs=true) (hl:xs.length=ks.length) (hk:ks.length≤1048576):QAz Tryz.prog [] 188 [.v (.slice none 0 0),.clo (.func 212) [] [.rop [.mv KH (hks ks) xs]]] [] 0 (QT0 ks) 1:=by
 refine QAz.start Tryz.func188 rfl zK rfl Tryz.ntmps188 fol zK zD ?_
 refine zZ ?_
 have hAB:rfG Tryz.prog 188 0=some (_,_):=rfl
 have hA:=QRe hAB
 have hB:=QTC hAB
 clear hAB
 rw [←hA,←hB]
 refine Qr.start Tryz.func212 rfl zK rfl Tryz.ntmps212 fol zK ?_
 refine zZ ?_
 have hs:∀f n,snap f (n+1) (.rop [.mv KH (hks ks) xs])=some (.rop [.mv KH (hks ks) xs],[]):=fun f n=>QAs (by simp [idf,idfL,hx])
 refine QD (ι:=Option (Value×AV)×List Hs×List AV×List Hs) (fun q=>⟨[(0,.yld 26),(5,.it 27)],⟨[(27,.miter q.1 (hks q.2.1) q.2.2.1),(26,.loop 13 [6,4,2,0,1] [.clo (.func 212) [] [.rop [.mv KH (hks ks) xs]],.v (.slice none 0 0),.ptr 2 0,.v (.slice none 0 0),.clo (.func 212) [] [.rop [.mv KH (hks ks) xs]]] #[7] (rfA Tryz.prog 188 0) (rfB Tryz.prog 188 0) .ready none),(2,.cells 32 [.sl 28 0 q.2.2.2.length 32] false),(28,.cells 47 (flat hcell q.2.2.2) true)],29,29,0⟩⟩)
  (fun q=>q.2.2.1.length=q.2.1.length∧(q.2.2.2++q.2.1).Perm ks∧idfL q.2.2.1=true∧QFn q.1=true) (fun q=>q.2.1.length) (none,ks,xs,[]) ⟨hl,by simp,hx,rfl⟩ ?_ ?_
 ·(have X1:=hx;have X2:=hs;exact fzI2 27 [(26,26),(2,2),(27,32)] [26,2,27])
 rintro⟨last,rest,ys,acc⟩ ⟨hyl,hp,hyi,hli⟩
 dsimp only at hyl hp hyi hli ⊢
 have hpl:=hp.length_eq
 simp only [List.length_append] at hpl
 refine zS ?_
 refine⟨fun h=>?_,fun i k x hki hxi ks' xs' l hf=>?_⟩
 ·have hr:rest=[]:=QGL.1 h
  subst hr
  refine zS ?_
  rw [List.append_nil] at hp
  refine⟨_,_,⟨acc,hp,rfl,rfl⟩,?_⟩
  exact fzN 0 [(0,28)] []
 ·simp [Mem.find,lk] at hf
  obtain⟨rfl,rfl,rfl⟩:=hf
  obtain⟨a,hki,rfl⟩:=QG8 hki
  rename_i hki2
  have hil:i<rest.length:=(List.getElem?_eq_some_iff.1 hki2).1
  have hxd:=QDZ hyi hxi
  refine zS ?_
  refine QD2.enter fol rfl rfl rfl (by rw [hA];kernel_rfl) (by rw [hB];kernel_rfl) ?_
  rw [hA,hB]
  refine zS ?_
  rw [←hA,←hB]
  refine⟨(some (hval a,x),rest.eraseIdx i,ys.eraseIdx i,acc++[a]),⟨by simp only;rw [List.length_eraseIdx,List.length_eraseIdx,hyl],QDQ hp hki2,QBW hyi i,hxd⟩,?_,?_⟩
  ·simp only;rw [List.length_eraseIdx,if_pos hil];omega
  have hye:=QBW hyi i
  simp only [List.length_append,List.length_cons,List.length_nil,Nat.zero_add]
  (have X1:=hx;have X2:=hs;have X3:=hye;have X4:=hxd;have X5:=@QQd;exact fzI5 27 [(26,26),(2,2),(27,27),(28,95)] [26,2,27])
theorem ColN_c (ks:List Hs) (xs:List AV) (hx:idfL xs=true) (hl:xs.length=ks.length) (hk:ks.length≤1048576):QAz Tryz.prog [] 133 [.clo (.func 212) [] [.rop [.mv KH (hks ks) xs]]] [] 0 (QT0 ks) 1:=by
 refine QAz.start Tryz.func133 rfl zK rfl Tryz.ntmps133 fol zK zD ?_
 refine zZ ?_
 have hi:idfL [.v (.slice none 0 0),.clo (.func 212) [] [.rop [.mv KH (hks ks) xs]]]=true:=by simp [idfL,idf,hx]
 refine QAz.useX [] (AppN_c ks xs hx hl hk) (by rintro r o ⟨l,h1,rfl,rfl⟩;rfl) (by rw [QAj hi]) QFt zC ?_
 rintro r o ⟨l,h1,rfl,rfl⟩
 refine zS ?_
 refine⟨_,_,⟨l,h1,rfl,rfl⟩,?_⟩
 exact fzN 0 [(0,10)] []
theorem QRX (ks:List Hs) (xs:List AV) (hx:idfL xs=true) (hl:xs.length=ks.length) (hk:ks.length≤1048576):POwn Tryz.prog [] 105 [.mv KH (hks ks) xs] (srt ks).length 32 47 (flat hcell (srt ks)):=by
 refine POwn.start Tryz.func105 rfl zK rfl Tryz.ntmps105 fol zK (by simp [idfL,idf,QZ QS,QS,Qg,Qy,QAL,hx]) (by simp [QQ,QAL,hx]) ?_
 refine zZ ?_
 refine (QdU ks xs hx).useV ?_
 refine zS ?_
 have hi:idfL [.clo (.func 212) [] [.rop [.mv KH (hks ks) xs]]]=true:=by simp [idfL,idf,hx]
 refine QAz.useX [] (ColN_c ks xs hx hl hk) (by rintro r o ⟨l,h1,rfl,rfl⟩;rfl) (by rw [QAj hi]) QFt zC ?_
 rintro r o ⟨l,h1,rfl,rfl⟩
 have hll:=h1.length_eq
 refine zS ?_
 refine POwn.use (QJH l zo) (ids:=[14]) (by have X1:=@QLW;exact zCN1) ?_
 rw [QOG h1]
 refine zS ?_
 exact fzN 0 [(0,15)] []
open Proofs
def addH (l:List Hs) (h:Hs):List Hs:=if h∈l then l else l++[h]
def dedH (l:List Hs):List Hs:=l.foldl addH []
def bts (n:Nat):List AV:=List.replicate n (.v (.bool true))
theorem QAu {n:Nat}:idfL (bts n)=true:=by
 induction n with
 | zero=>rfl
 | succ n ih=>simp only [bts,List.replicate_succ,idfL,idf,Bool.true_and] at*; exact ih
theorem QB2 {n:Nat}:(bts n).length=n:=List.length_replicate
theorem QOu {h:Hs}:∀{l:List Hs},mhas (hks l) (hval h)=decide (h∈l)
 | []=>rfl
 | a::l=>by
  have ih:=QOu (h:=h) (l:=l)
  simp only [hks,List.map_cons,mhas,QBy] at ih ⊢
  rw [ih];simp
theorem QN7 {h:Hs}:∀{l:List Hs},mget (hks l) (bts l.length) (hval h)=if h∈l then some (.v (.bool true)) else none
 | []=>rfl
 | a::l=>by
  have ih:=QN7 (h:=h) (l:=l)
  simp only [hks,List.map_cons,bts,List.length_cons,List.replicate_succ,mget,QBy] at ih ⊢
  rw [ih]
  by_cases e:h=a
  ·simp [e]
  ·simp [e]
theorem QO8 {h:Hs}:∀{l:List Hs},mset (hks l) (bts l.length) (hval h) (.v (.bool true))=bts (addH l h).length
 | []=>rfl
 | a::l=>by
  have ih:=QO8 (h:=h) (l:=l)
  simp only [hks,List.map_cons,bts,List.length_cons,List.replicate_succ,mset,QBy,addH] at ih ⊢
  rw [ih]
  by_cases e:h=a
  ·simp [e,List.replicate_succ]
  ·by_cases e2:h∈l<;>simp [e,e2,List.replicate_succ]
theorem QUW {h:Hs} {l:List Hs}:(if decide (h∈l)=true then hks l else hks l++[hval h])=hks (addH l h):=by
 rw [addH]
 by_cases e:h∈l<;>simp [e,hks]
theorem QIZ (l:List Hs) (h:Hs):(addH l h).length≤l.length+1:=by rw [addH];split<;>simp
theorem QOr {l:List Hs} {h x:Hs}:x∈addH l h↔x∈l∨x=h:=by
 rw [addH];split
 ·rename_i e
  exact⟨.inl,fun k=>k.elim id fun k=>k▸e⟩
 ·simp
theorem QHH {l:List Hs} {h:Hs}:dedH (l++[h])=addH (dedH l) h:=by simp [dedH]
theorem QN4 (l:List Hs):(dedH l).length≤l.length:=by
 induction l using QDr with
 | h0=>exact Nat.le_refl _
 | h1 l x ih=>rw [QHH];have:=QIZ (dedH l) x;simp only [List.length_append,List.length_cons,List.length_nil];omega
theorem QWx {l:List Hs} {x:Hs}:x∈dedH l↔x∈l:=by
 induction l using QDr with
 | h0=>exact Iff.rfl
 | h1 l y ih=>rw [QHH,QOr,ih];simp
theorem QRn {l:List Hs} {i:Nat} (hi:i<l.length):dedH (l.take (i+1))=addH (dedH (l.take i)) l[i]:=by
 rw [List.take_succ_eq_append_getElem hi,QHH]
theorem QNW:KH=.arrK 32 .u8:=(rfl)
theorem QYi {n:Nat}:sclL (bts n)=true:=by
 induction n with
 | zero=>rfl
 | succ n ih=>simp only [bts,List.replicate_succ,sclL,scl,Bool.true_and] at*; exact ih
theorem QZ2 {h:Hs}:(kwf (.arrK 32 .u8) (hval h)=true)=True:=by simp [QE8]
theorem QUX {h:Hs} {l:List Hs}:(mget (hks l) (bts l.length) (hval h)).getD (.v (.bool false))=.v (.bool (decide (h∈l))):=by
 rw [QN7];by_cases e:h∈l<;>simp [e]
theorem QWm:zAV Tryz.prog 4=some (.v (.bool false)):=zK
attribute [push_cast] QAu QB2 QYi QNW QKI QZ2 QUW QO8 QUX QOu QWm
theorem QaH (l:List Hs) (hl:l.length≤1048576):PNew Tryz.prog [] 137 [.seq l.length 32 (flat hcell l)] (.mv KH (hks (dedH l)) (bts (dedH l).length)):=by
 refine PNew.start Tryz.func137 rfl zK rfl Tryz.ntmps137 fol zK (by simp [idfL,idf,QZ QS,QS,Qg,Qy,QAu]) (by simp [idfL,idf,QZ QS,QS,Qg,Qy,QAu]) ?_
 refine zZ ?_
 refine QD (ι:=Nat) (fun i=>⟨[(3,.mp 0),(9,.seq l.length 32 (flat hcell l)),(10,.v (.int .i64 l.length)),(11,.v (.int .i64 i))],⟨[(0,.map KH (hks (dedH (l.take i))) (bts (dedH (l.take i)).length))],1,1,0⟩⟩) (fun i=>i≤l.length) (fun i=>l.length - i) 0 (Nat.zero_le _) ?_ ?_
 ·refine fzNM 0 [(0,27)] [] ?_ ?_<;>first | exact zC | refine zS ?_
  exact⟨rfl,rfl⟩
 rintro i hi
 have hdl:(dedH (l.take i)).length≤1048576:=Nat.le_trans (QN4 _) (by simp;omega)
 refine zS ?_
 refine⟨fun h1=>?_,fun h1=>?_⟩
 ·have hi1:i<l.length:=by omega
  refine zS ?_
  refine⟨i+1,hi1,zO,?_⟩
  simp only [QRn hi1]
  exact fzN 0 [(0,0)] []
 ·exact zC
theorem PNew.useV {P:Program} {γ:GTab} {m:Mem} {g:FuncId} {xs:List AV} {r:AV} {K:AV→Mem→Prop} (hp:PNew P γ g xs r) (hK:K r m):Qr P γ g xs m K:=Fit.use (ids:=[]) (.inr hp) (QAE hp.1) hK
def thoH (l m:List Hs) (b:Bool):List Hs:=srt (l.filter fun x=>decide (x∈m)==b)
theorem QZQ (l m:List Hs) (b:Bool) (hl:l.length≤1048576) (hm:m.length≤1048576):POwn Tryz.prog [] 74 [.seq l.length 32 (flat hcell l),.seq m.length 32 (flat hcell m),.v (.bool b)] (thoH l m b).length 32 47 (flat hcell (thoH l m b)):=by
 refine POwn.start Tryz.func74 rfl zK rfl Tryz.ntmps74 fol zK zI (by simp [QQ,QAL]) ?_
 refine zZ ?_
 refine (QaH m hm).useV ?_
 refine zS ?_
 refine (QaH l hl).useV ?_
 refine zS ?_
 refine QD (ι:=Option (Value×AV)×List Hs×List AV×List Hs) (fun q=>⟨[(2,.v (.bool b)),(7,.mv KH (hks (dedH m)) (bts (dedH m).length)),(8,.sl 1 0 (q.2.2.2.filter fun x=>decide (x∈m)==b).length 32),(14,.it 0)],⟨[(0,.miter q.1 (hks q.2.1) q.2.2.1),(1,.cells 47 (flat hcell (q.2.2.2.filter fun x=>decide (x∈m)==b)) true)],2,2,0⟩⟩)
  (fun q=>q.2.2.1.length=q.2.1.length∧(q.2.2.2++q.2.1).Perm (dedH l)∧idfL q.2.2.1=true∧QFn q.1=true) (fun q=>q.2.1.length) (none,dedH l,bts (dedH l).length,[]) ⟨QB2,by simp,QAu,rfl⟩ ?_ ?_
 ·(have X1:=@List.filter_nil.{0};have X2:=@List.length_nil.{0};have X3:=@QOx;exact fzI3 0 [(0,104)] [0])
 rintro⟨last,rest,ys,dn⟩ ⟨hyl,hp,hyi,hli⟩
 dsimp only at hyl hp hyi hli ⊢
 have hpl:=hp.length_eq
 have hdl:=QN4 l
 simp only [List.length_append] at hpl
 obtain⟨acc,hacc⟩:∃acc,acc=dn.filter fun x=>decide (x∈m)==b:=⟨_,rfl⟩
 have hal:acc.length≤dn.length:=by rw [hacc];exact List.length_filter_le _ _
 rw [←hacc]
 refine zS ?_
 refine⟨fun h=>?_,fun i k x hki hxi ks' xs' l' hf=>?_⟩
 ·have hr:rest=[]:=QGL.1 h
  subst hr
  refine zS ?_
  rw [List.append_nil] at hp
  have hs:srt acc=thoH l m b:=by
   rw [hacc]
   exact QG2 fun x=>by simp only [List.mem_filter,hp.mem_iff,QWx]
  refine POwn.use (QJH acc (by simp at hpl;omega)) (ids:=[1]) (by have X1:=@QLW;exact zCN1) ?_
  rw [hs]
  refine zS ?_
  exact fzN 0 [(0,62)] []
 ·simp [Mem.find,lk] at hf
  obtain⟨rfl,rfl,rfl⟩:=hf
  obtain⟨a,hki,rfl⟩:=QG8 hki
  rename_i hki2
  have hil:i<rest.length:=(List.getElem?_eq_some_iff.1 hki2).1
  have hxd:=QDZ hyi hxi
  have hnx:∀s:List Hs,(dn++[a]).filter (fun x=>decide (x∈m)==b)=if decide (a∈m)=b then acc++[a] else acc:=fun _=>by
   rw [List.filter_append,←hacc]
   by_cases e:decide (a∈m)=b
   ·rw [if_pos e,List.filter_cons_of_pos (by simpa using e),List.filter_nil]
   ·rw [if_neg e,List.filter_cons_of_neg (by simpa using e),List.filter_nil,List.append_nil]
  have hnx:=hnx []
  have hye:=QBW hyi i
  have hms:(rest.eraseIdx i).length<rest.length:=by rw [List.length_eraseIdx,if_pos hil];omega
  have hI:(ys.eraseIdx i).length=(rest.eraseIdx i).length∧((dn++[a])++rest.eraseIdx i).Perm (dedH l)∧idfL (ys.eraseIdx i)=true∧QFn (some (hval a,x))=true:=⟨by rw [List.length_eraseIdx,List.length_eraseIdx,hyl],QDQ hp hki2,hye,hxd⟩
  (have X1:=@QWx;refine zS1 ?_;clear X1)
  refine⟨Or.inr trivial,fun h2=>?_,fun h2=>?_⟩
  ·rw [if_pos h2] at hnx
   (have X1:=@QQd;refine zS1 ?_;clear X1)
   refine⟨(some (hval a,x),rest.eraseIdx i,ys.eraseIdx i,dn++[a]),hI,hms,?_⟩
   simp only [hnx,List.length_append,List.length_cons,List.length_nil,Nat.zero_add]
   (have X1:=hye;have X2:=hxd;exact fzI2 0 [(0,0),(1,119)] [0])
  ·rw [if_neg h2] at hnx
   refine zS ?_
   refine⟨(some (hval a,x),rest.eraseIdx i,ys.eraseIdx i,dn++[a]),hI,hms,?_⟩
   simp only [hnx]
   (have X1:=hye;have X2:=hxd;exact fzI2 0 [(0,0),(1,1)] [0])
theorem QPV (l m:List Hs):thoH l m false=minH l m:=by
 rw [thoH,minH];congr 1
 exact List.filter_congr fun x _=>by cases decide (x∈m)<;>rfl
theorem QOL (l m:List Hs) (hl:l.length≤1048576) (hm:m.length≤1048576):POwn Tryz.prog [] 24 [.seq l.length 32 (flat hcell l),.seq m.length 32 (flat hcell m)] (minH l m).length 32 47 (flat hcell (minH l m)):=by
 refine POwn.start Tryz.func24 rfl zK rfl Tryz.ntmps24 fol zK zI (by simp [QQ,QAL]) ?_
 refine zZ ?_
 refine POwn.useV (QZQ l m false hl hm) ?_
 rw [QPV]
 refine zS ?_
 exact fzN 0 [(0,16)] []
open Proofs
def QDy (x:Itm):List AV:=ccl x.c++[.seq x.b.length 1 (flat QC x.b)]
theorem QDW (x:Itm):idfL (QDy x)=true:=by simp [QDy,Qy,QJM,idfL,idf,Qg]
theorem QDM (x:Itm):(QDy x).length=7:=rfl
def nvs (L:List Itm):List AV:=L.map fun x=>.agg (QDy x)
theorem QF8 {L:List Itm}:idfL (nvs L)=true:=by
 induction L with
 | nil=>rfl
 | cons x L ih=>simp only [nvs,List.map_cons,idfL,idf,QDW,Bool.true_and] at*; exact ih
theorem QFC {L:List Itm}:(nvs L).length=L.length:=List.length_map ..
def QBf (G:GrV):List AV:=[.mv KH (hks (QF G.L)) (nvs G.L),.mv KH (hks (QF G.W)) (nvs G.W),.mv KH (hks (namF G.L)) (bts (namF G.L).length)]
theorem QAn (G:GrV):idfL (QBf G)=true:=by simp [QBf,idfL,idf,QF8,QAu]
theorem QdA {G:GrV}:(QBf G)[0]?=some (.mv KH (hks (QF G.L)) (nvs G.L)):=(rfl)
attribute [push_cast] QDW QDM QF8 QFC QAn Qh QdA
theorem QF5 {h:Hs}:∀{L:List Itm},mget (hks (QF L)) (nvs L) (hval h)=(getL L h).map fun x=>.agg (QDy x)
 | []=>rfl
 | x::L=>by
  have ih:=QF5 (h:=h) (L:=L)
  simp only [QF,hks,List.map_cons,nvs,mget,QBy,getL] at ih ⊢
  by_cases e:x.h=h
  ·simp [e]
  ·have e':¬h=x.h:=fun k=>e k.symm
   simp only [e',decide_false,e,if_false]
   exact ih
theorem QJd {L:List Itm} {h:Hs} {x:Itm} (e:getL L h=some x):mget (hks (QF L)) (nvs L) (hval h)=some (.agg (QDy x)):=by rw [QF5,e];rfl
theorem QSj {h:Hs} {L:List Itm}:(mget (hks (QF L)) (nvs L) (hval h)).isSome=decide (h∈QF L):=by
 rw [QF5]
 cases e:getL L h with
 | none=>simp [QGh.1 e]
 | some x=>obtain⟨h1,rfl⟩:=QDS e;simp [QF,List.mem_map_of_mem (f:=(·.h)) h1]
attribute [push_cast] QSj
def Qea:List AV:=[.v (.string ByteArray.empty),.v (.int .i64 0),.v (.int .i64 0),.v (.slice none 0 0),.v (.string ByteArray.empty),.v (.slice none 0 0),.v (.slice none 0 0)]
theorem QV5:zAV Tryz.prog 123=some (.agg Qea):=zK
theorem Qd5:QLl Tryz.prog 26=some 0:=zK
theorem fo_t:(False∨True)=True:=by simp
attribute [push_cast] QV5 Qd5 fo_t true_and
theorem QHw (L:List Itm) (h:Hs):∃ws,(mget (hks (QF L)) (nvs L) (hval h)).getD (.agg Qea)=.agg ws∧ws.length=7∧idfL ws=true:=by
 rw [QF5]
 cases getL L h with
 | none=>exact⟨Qea,rfl,rfl,rfl⟩
 | some x=>exact⟨QDy x,rfl,QDM x,QDW x⟩
theorem QcP (G:GrV) (h:Hs):QE Tryz.prog [] 28 [.rop (QBf G),.agg (hcell h)] (.v (.bool (hasL G.L h))):=by
 refine QE.start Tryz.func28 rfl zK rfl Tryz.ntmps28 fol zK (by simp [idfL,idf,QZ QS,QS,Qg,Qy,QAn]) (by simp [idfL,idf,QZ QS,QS,Qg,Qy,QAn]) ?_
 refine zz ?_
 (have X1:=@QBf.eq_1;refine zS1 ?_;clear X1)
 obtain⟨ws,h1,h2,h3⟩:=QHw G.L h
 (have X1:=h1;have X2:=h2;have X3:=@hasL.eq_1;exact zC3)
theorem Qcj (G:GrV) (l:List Hs) (hl:l.length≤1048576):QE Tryz.prog [] 82 [.rop (QBf G),.seq l.length 32 (flat hcell l)] (.v (.bool (allL G.L l))):=by
 refine QE.start Tryz.func82 rfl zK rfl Tryz.ntmps82 fol zK (by simp [idfL,idf,QZ QS,QS,Qg,Qy,QAn]) (by simp [idfL,idf,QZ QS,QS,Qg,Qy,QAn]) ?_
 refine zZ ?_
 refine QD (ι:=Nat) (fun i=>⟨[(0,.rop (QBf G)),(7,.seq l.length 32 (flat hcell l)),(8,.v (.int .i64 l.length)),(9,.v (.int .i64 i))],⟨[],0,0,0⟩⟩) (fun i=>i≤l.length∧allL G.L (l.take i)=true) (fun i=>l.length - i) 0 ⟨Nat.zero_le _,rfl⟩ ?_ ?_
 ·exact fzN 0 [] []
 rintro i ⟨hi,ha⟩
 refine zS ?_
 refine⟨fun h1=>?_,fun h1=>?_⟩
 ·have hi1:i<l.length:=by omega
  refine zS ?_
  refine (QcP G l[i]).useV ?_
  cases hh:hasL G.L l[i]
  ·refine zS ?_
   have:allL G.L l=false:=by
    cases e:allL G.L l with
    | false=>rfl
    | true=>rw [List.all_eq_true.1 e _ (List.getElem_mem hi1)] at hh;cases hh
   rw [this]
  ·refine zS ?_
   refine⟨i+1,⟨hi1,by rw [List.take_succ_eq_append_getElem hi1,allL,List.all_append,←allL,ha];simp [hh]⟩,zO,?_⟩
   exact fzN 0 [] []
 ·refine zS ?_
  rw [List.take_of_length_le zo] at ha
  rw [ha]
theorem Len_g (G:GrV) (hL:G.L.length≤4096):QE Tryz.prog [] 45 [.rop (QBf G)] (.v (.int .i64 G.L.length)):=by
 refine QE.start Tryz.func45 rfl zK rfl Tryz.ntmps45 fol zK (by simp [idfL,idf,QZ QS,QS,Qg,Qy,QAn]) (by simp [idfL,idf,QZ QS,QS,Qg,Qy,QAn]) ?_
 refine zz ?_
 (have X1:=@QBf.eq_1;exact zC1)
theorem QNo (G:GrV) (l:List Hs) (hl:l.length≤1048576):QE Tryz.prog [] 69 [.rop (QBf G),.seq l.length 32 (flat hcell l)] (.v (.int .i64 (if allL G.L l=true then 0 else 44))):=by
 refine QE.start Tryz.func69 rfl zK rfl Tryz.ntmps69 fol zK (by simp [idfL,idf,QZ QS,QS,Qg,Qy,QAn]) (by simp [idfL,idf,QZ QS,QS,Qg,Qy,QAn]) ?_
 refine zZ ?_
 refine (Qcj G l hl).useV ?_
 cases allL G.L l
 ·exact zC
 ·exact zC
theorem QWj {ρ:Nat→Nat} {fn:Fn} {a b:List AV}:renA ρ (.clo fn a b)=.clo fn (renL ρ a) (renL ρ b):=(rfl)
attribute [push_cast] QWj
def QDA (G:GrV) (s:List Hs):List (Nat×AObj):=[(0,.map KH (hks s) (bts s.length)),(1,.cells 120 [.mp 0] false),(2,.cells 179 [.clo (.func 135) [] [.ptr 1 0,.ptr 2 0,.ptr 3 0]] false),(3,.cells 26 [.rop (QBf G)] false)]
theorem QaQ (G:GrV) (hL:OrdL G.L) (hn:G.L.length≤4096) (hd:∀x∈G.L,x.c.deps.length≤1048576):∀(n:Nat) (l s:List Hs),l.length≤1048576→(∀h∈l,h∈QF G.L∧(QF G.L).idxOf h<n)→(∀h∈s,h∈QF G.L)→s.Nodup→
  QM Tryz.prog [] 135 [.seq l.length 32 (flat hcell l),.ptr 1 0,.ptr 2 0,.ptr 3 0] (QDA G s) 4 (.tup []) (QDA G (dfs G.L n l s)) 4
 | 0,l,s,hl,h1,h2,h3=>by
  have:l=[]:=by
   cases l with
   | nil=>rfl
   | cons a l=>exact absurd (h1 a (by simp)).2 (Nat.not_lt_zero _)
  subst this
  refine QM.start Tryz.func135 rfl zK rfl Tryz.ntmps135 fol zK (Nat.le_refl _) ?_
  simp only [List.zipIdx_cons,List.zipIdx_nil,List.map_cons,List.map_nil,Nat.zero_add,QDA,dfs]
  refine zS ?_
  refine QD (ι:=Unit) (fun _=>⟨[(0,.seq 0 32 []),(1,.ptr 1 0),(2,.ptr 2 0),(3,.ptr 3 0),(7,.seq 0 32 []),(8,.v (.int .i64 0)),(9,.v (.int .i64 0))],⟨QDA G s,4,4,0⟩⟩) (fun _=>True) (fun _=>0) () trivial ?_ ?_
  ·refine Ent.intro [] ?_ ?_ ?_ rfl zD zD<;>simp [EntE,EntO,QGU,lk,renA,renO,renL,rho',QDA,QNW,renL_idf _ _ QAu,renL_idf _ _ (QAn G),renL_idf _ _ QA9,dfs]
  intro _ _
  simp only [QDA]
  refine zS ?_
  refine⟨fun h=>absurd h zD,fun _=>?_⟩
  refine zS ?_
  refine Ent.intro [] ?_ ?_ ?_ rfl zD zD<;>simp [EntE,EntO,QGU,lk,renA,renO,renL,rho',QDA,QNW,renL_idf _ _ QAu,renL_idf _ _ (QAn G),renL_idf _ _ QA9,dfs]
 | n+1,l,s,hl,h1,h2,h3=>by
  refine QM.start Tryz.func135 rfl zK rfl Tryz.ntmps135 fol zK (Nat.le_refl _) ?_
  simp only [List.zipIdx_cons,List.zipIdx_nil,List.map_cons,List.map_nil,Nat.zero_add,QDA]
  refine zS ?_
  refine QD (ι:=Nat) (fun i=>⟨[(1,.ptr 1 0),(2,.ptr 2 0),(3,.ptr 3 0),(7,.seq l.length 32 (flat hcell l)),(8,.v (.int .i64 l.length)),(9,.v (.int .i64 i))],⟨QDA G (dfs G.L (n+1) (l.take i) s),4,4,0⟩⟩) (fun i=>i≤l.length) (fun i=>l.length - i) 0 (Nat.zero_le _) ?_ ?_
  ·refine Ent.intro [] ?_ ?_ ?_ rfl zD zD<;>simp [EntE,EntO,QGU,lk,renA,renO,renL,rho',QDA,QNW,renL_idf _ _ QAu,renL_idf _ _ (QAn G),renL_idf _ _ QA9,dfs]
  intro i hi
  obtain⟨g1,g2,g3,g4,g5,g6⟩:=QUf hL (n+1) (l.take i) s (fun h hh=>h1 h (List.mem_of_mem_take hh)) h2 h3
  obtain⟨F,hF⟩:∃F,F=dfs G.L (n+1) (l.take i) s:=⟨_,rfl⟩
  rw [←hF] at g5 g6 ⊢
  simp only [QDA]
  refine zS ?_
  refine⟨fun k1=>?_,fun k1=>?_⟩
  ·have hi1:i<l.length:=by omega
   have hFs:dfs G.L (n+1) (l.take (i+1)) s=if l[i]∈F then F else dfs G.L n (QBv G.L l[i]) (F++[l[i]]):=by
    rw [List.take_succ_eq_append_getElem hi1,dfs,List.foldl_append,hF,dfs];rfl
   obtain⟨hk,hidx⟩:=h1 l[i] (List.getElem_mem hi1)
   obtain⟨x,hx,hxm,hxh⟩:=QA2 hk
   have hm:=QJd hx
   have hdx:QBv G.L l[i]=x.c.deps:=by rw [QBv,chL,hx]
   refine zS ?_
   refine⟨fun k2=>?_,fun k2=>?_⟩
   ·have hn2:l[i]∉F:=by first | exact k2 | simpa using k2
    rw [if_neg hn2] at hFs
    have hadd:addH F l[i]=F++[l[i]]:=by rw [addH,if_neg hn2]
    have hxk:x.h∈QF G.L:=List.mem_map_of_mem hxm
    have hrec:=QaQ G hL hn hd n x.c.deps (F++[l[i]]) (hd x hxm) (fun d hdd=>by
      have hq:=hL.depsL hk d (by rw [hdx];exact hdd)
      exact⟨hq.1,by omega⟩) (fun h hh=>by
      rcases List.mem_append.1 hh with e | e
      ·exact g6 h e
      ·simp only [List.mem_singleton] at e;rw [e];exact hk) (List.nodup_append.2 ⟨g5,by simp,fun p hp q hq e=>by
      simp only [List.mem_singleton] at hq;exact hn2 (by rw [←hq,←e];exact hp)⟩)
    rw [hdx] at hFs
    simp only [QDA,List.length_append,List.length_cons,List.length_nil,Nat.zero_add] at hrec
    (have X1:=hm;have X2:=@QDy.eq_1;have X3:=@ccl.eq_1;have X4:=hadd;refine zS4 ?_;clear X1 X2 X3 X4)
    refine QO.useM [0,1,2,3] hrec rfl rfl ?_ ?_ ?_ ?_ ?_
    ·exact zC
    ·exact zC
    ·rfl
    ·rfl
    refine zS ?_
    refine⟨i+1,hi1,zO,?_⟩
    simp only [hFs,QDA]
    refine Ent.intro [] ?_ ?_ ?_ rfl zD zD<;>simp [EntE,EntO,QGU,lk,renA,renO,renL,rho',QDA,QNW,renL_idf _ _ QAu,renL_idf _ _ (QAn G),renL_idf _ _ QA9,dfs]
   ·have hn2:l[i]∈F:=by first | exact k2 | simpa using k2
    rw [if_pos hn2] at hFs
    refine zS ?_
    refine⟨i+1,hi1,zO,?_⟩
    simp only [hFs,QDA]
    refine Ent.intro [] ?_ ?_ ?_ rfl zD zD<;>simp [EntE,EntO,QGU,lk,renA,renO,renL,rho',QDA,QNW,renL_idf _ _ QAu,renL_idf _ _ (QAn G),renL_idf _ _ QA9,dfs]
  ·refine zS ?_
   rw [List.take_of_length_le zo] at hF
   rw [←hF]
   refine Ent.intro [] ?_ ?_ ?_ rfl zD zD<;>simp [EntE,EntO,QGU,lk,renA,renO,renL,rho',QDA,QNW,renL_idf _ _ QAu,renL_idf _ _ (QAn G),renL_idf _ _ QA9,dfs]
end Go.AW
