/- A part of the proof: D51 D52 D53 D54 D55. -/
import Derived.Test.YtpcbnjbpdooejaaGreatDoorNae
import Derived.Test.YtpcbnjbpdooejaaGreatDoorNas
import Derived.Test.YtpcbnjbpdooejaaGreatDoorNav
set_option linter.unusedSimpArgs false
set_option linter.unusedVariables false
set_option maxRecDepth 100000
set_option maxHeartbeats 8000000
namespace Go.AW
open Proofs
theorem QA0 (x:UInt32) (n:Nat) (h:n≤32):QE Tryz.prog [] 210 [.v (.int .u32 x.toNat),.v (.int .u64 n)] (.v (.int .u32 (rotF x n).toNat)):=by
 refine QE.start Tryz.func210 rfl zK rfl Tryz.ntmps210 fol zK (by simp [idfL,idf]) rfl ?_
 refine zz ?_
 have e:((32:Int) - (n:Int)).toNat=32 - n:=by omega
 (have X1:=e;first | exact zC1 | refine zS1 ?_)
 rfl
theorem QQx (i:Nat) (h:i<64):QE Tryz.prog [] 211 [.v (.int .i64 i)] (.v (.int .u32 (kR.getD i 0).toNat)):=by
 refine QE.start Tryz.func211 rfl zK rfl Tryz.ntmps211 fol zK (by simp [idfL,idf]) rfl ?_
 refine zz ?_
 have hg:=QB7 (ws:=kR) (i:=i) (by rw [QKr];exact h)
 refine zS ?_
 change evS (Option.map _ ((flat Qb kR)[i]?)) _ _ _
 rw [hg]
 exact zC
theorem QYm (b:List UInt8) (hb:b.length≤1048576):QE Tryz.prog [] 160 [.seq b.length 1 (flat QC b)] (.seq (padF b).length 1 (flat QC (padF b))):=by
 refine QE.start Tryz.func160 rfl zK rfl Tryz.ntmps160 fol zK zI zI ?_
 refine zZ ?_
 have hfl:∀l:List UInt8,flat QC l++[AV.v (.int .u8 128)]=flat QC (l++[128]):=fun l=>by rw [Q7];rfl
 have hf0:∀l:List UInt8,flat QC l++[AV.v (.int .u8 0)]=flat QC (l++[0]):=fun l=>by rw [Q7];rfl
 (have X1:=hfl;refine zS1 ?_;clear X1)
 refine QD (ι:=Nat×List UInt8) (fun q=>⟨[(0,.seq b.length 1 (flat QC b)),(3,.sl 0 0 q.2.length 1)],⟨[(0,.cells 5 (flat QC q.2) true)],1,1,0⟩⟩)
  (fun q=>padZ q.1 q.2=padZ 64 (b++[128])∧q.1≤64∧q.2.length+q.1=b.length+65) (fun q=>q.1) (64,b++[128]) ⟨rfl,Nat.le_refl _,by simp⟩ ?_ ?_
 ·(have X1:=hfl;exact fzN1 0 [(0,84)] [])
 rintro⟨f,l⟩ ⟨hp,hf,hl⟩
 dsimp only at hp hf hl ⊢
 have hne:l.length % 64≠56→∃g,f=g+1:=fun h=>by
  cases f with
  | zero=>exact absurd (by
    have:=QIj 64 (b++[128]) zo
    rw [←hp] at this;exact this) h
  | succ g=>exact⟨g,rfl⟩
 (have X1:=hf0;refine zS1 ?_;clear X1)
 refine⟨fun h=>?_,fun h=>?_⟩
 ·obtain⟨g,rfl⟩:=hne zo
  (have X1:=hf0;refine zS1 ?_;clear X1)
  refine⟨(g,l++[0]),⟨?_,zO,by show (l++[0]).length+g=_;rw [List.length_append];simp only [List.length_cons,List.length_nil];omega⟩,zO,?_⟩
  ·show padZ g (l++[0])=_
   rw [←hp,padZ,if_neg zo]
  (have X1:=hf0;have X2:=@List.length_append.{0};have X3:=@List.length_cons.{0};have X4:=@List.length_nil.{0};exact fzN4 0 [(0,55)] [])
 ·have hpl:padZ f l=l:=by cases f<;>simp [padZ];omega
  rw [hpl] at hp
  have hbl:(bitB b.length).length=8:=by simp [bitB]
  have hpf:l++bitB b.length=padF b:=by rw [padF,hp]
  obtain⟨N,hN⟩:∃N,N=b.length*8:=⟨_,rfl⟩
  have hpl8:(padF b).length=l.length+8:=by rw [←hpf,List.length_append,hbl]
  have htk:List.take (l.length+8) (flat QC (padF b))=flat QC (padF b):=List.take_of_length_le (by rw [QH,hpl8];exact Nat.le_refl _)
  refine zS ?_
  refine QD (ι:=Nat) (fun i=>⟨[(3,.sl 0 0 (l.length+i) 1),(4,.v (.int .u64 (N:Int))),(5,.v (.int .i64 i))],⟨[(0,.cells 5 (flat QC (l++(bitB b.length).take i)) true)],1,1,0⟩⟩)
   (fun i=>i≤8) (fun i=>8 - i) 0 (Nat.zero_le _) ?_ ?_
  ·refine fzNM 0 [(0,0)] [] ?_ ?_<;>first | exact zC | refine zS ?_
   rw [hN]
   rfl
  intro i hi
  refine zS ?_
  refine⟨fun h=>?_,fun h=>?_⟩
  ·have hi8:i<8:=by omega
   obtain⟨sh,hsh'⟩:∃sh,sh=N / 2^(56 - 8*i):=⟨_,rfl⟩
   have hbi:(bitB b.length)[i]'zo=UInt8.ofNat sh:=by simp [bitB,hsh',hN]
   have hsr:∀x y,pbin Tryz.prog .shr 154 x y (.int .u64 (N:Int)) (.int .u64 (56 - 8*(i:Int)))=some (.int .u64 (sh:Int)):=fun x y=>by
    rw [show (56 - 8*(i:Int))=((56 - 8*i:Nat):Int) by omega,QCF (by simp [IntKind.bits];omega),hsh']
   have hset:(bitB b.length).take i++[UInt8.ofNat sh]=(bitB b.length).take (i+1):=by rw [List.take_succ_eq_append_getElem zo,hbi]
   (have X1:=hsr;refine zS1 ?_;clear X1)
   rw [hset]
   refine⟨i+1,zO,zO,?_⟩
   refine fzNM 0 [(0,73)] [] ?_ ?_<;>first | exact zC | refine zS ?_
   rfl
  ·have hi8:i=8:=by omega
   subst hi8
   have hfull:(bitB b.length).take 8=bitB b.length:=by rw [List.take_of_length_le zo]
   (have X1:=hfull;have X2:=hpf;have X3:=hpl8;have X4:=htk;exact zC4)
open Proofs
theorem U32_256 (v:UInt32):U32 (256*(v.toNat:Int))=256*v:=by
 rw [show (256:Int)*(v.toNat:Int)=((256*v.toNat:Nat):Int) by omega,QI3]
 apply UInt32.toNat_inj.1
 simp [UInt32.toNat_mul]
theorem ms_get {l:List UInt32} {i:Nat} {v:UInt32} (h:i<l.length):(ms l i v).getD i 0=v:=by
 rw [ms,List.getD_eq_getElem?_getD,List.getElem?_set_self h];rfl
def w8 (s:List UInt32):List AV:=[.v (.int .u32 ((s.getD 0 0).toNat:Nat)),.v (.int .u32 ((s.getD 1 0).toNat:Nat)),.v (.int .u32 ((s.getD 2 0).toNat:Nat)),.v (.int .u32 ((s.getD 3 0).toNat:Nat)),.v (.int .u32 ((s.getD 4 0).toNat:Nat)),.v (.int .u32 ((s.getD 5 0).toNat:Nat)),.v (.int .u32 ((s.getD 6 0).toNat:Nat)),.v (.int .u32 ((s.getD 7 0).toNat:Nat))]
theorem Qbh (st:List UInt32) (hst:st.length=8) (blk:List UInt8) (hb:blk.length=64):QE Tryz.prog [] 161 [.agg (flat Qb st),.seq 64 1 (flat QC blk)] (.agg (flat Qb (mixF st blk))):=by
 refine QE.start Tryz.func161 rfl zK rfl Tryz.ntmps161 fol zK (by simp [idfL,idf,QZ QS,QS,Qg,Qy,Qg,QDs]) (by simp [idfL,idf,QZ QS,QS,Qg,Qy,Qg,QDs]) ?_
 refine zZ ?_
 refine QD (ι:=Nat) (fun i=>⟨[(1,.seq 64 1 (flat QC blk)),(2,.ptr 0 0),(4,.ptr 1 0),(5,.ptr 2 0),(6,.v (.int .i64 i))],⟨[(0,.cells 208 (flat Qb st) false),(1,.cells 208 (flat Qb z8) false),(2,.cells 260 (flat Qb (padW (wsF blk i))) false)],3,3,0⟩⟩) (fun i=>i≤16) (fun i=>16 - i) 0 (Nat.zero_le _) ?_ ?_
 ·refine fzNM 0 [(0,2),(1,4),(2,183)] [] ?_ ?_<;>first | exact zC | refine zS ?_
  first | done | exact⟨rfl,rfl⟩ | rfl
 intro i hi
 have hpl:(padW (wsF blk i)).length=64:=by simp [padW,Qf];omega
 refine zS ?_
 refine⟨fun h=>?_,fun h=>?_⟩
 ·have h':i<16:=by omega
  have hz:=QSS (ws:=wsF blk i) (by rw [Qf];omega)
  rw [Qf] at hz
  refine zS ?_
  refine QD (ι:=Nat) (fun k=>⟨[(1,.seq 64 1 (flat QC blk)),(2,.ptr 0 0),(4,.ptr 1 0),(5,.ptr 2 0),(6,.v (.int .i64 i)),(7,.v (.int .i64 k))],⟨[(0,.cells 208 (flat Qb st) false),(1,.cells 208 (flat Qb z8) false),(2,.cells 260 (flat Qb (ms (padW (wsF blk i)) i (horW blk i k))) false)],3,3,0⟩⟩) (fun k=>k≤4) (fun k=>4 - k) 0 (Nat.zero_le _) ?_ ?_
  ·refine Ent.freezeN 0 [(0,0),(1,1),(2,2)] [] ?_ ?_ rfl rfl rfl zD rfl rfl<;>simp (maxSteps:=400000) (disch:=first | omega | exact okT rfl | simp only [push_cast]) only [push_cast,↓QG,↓reduceIte,Nat.reduceAdd,Nat.reduceMul,Nat.reduceSub,Nat.reduceEqDiff,Nat.reduceBEq,Nat.reduceBNe,Nat.reduceLT,Nat.reduceLeDiff,reduceCtorEq,Op.operands,QA,QB,Nat.sub_zero,ms,horW,hz]
  intro k hk
  have hml:(ms (padW (wsF blk i)) i (horW blk i k)).length=64:=by rw [ms,List.length_set,hpl]
  refine zS ?_
  refine⟨fun h=>?_,fun h=>?_⟩
  ·have hk':k<4:=by omega
   have e0:(4*(i:Int)+(k:Int)).toNat=4*i+k:=by omega
   have g0:(List.drop (4*i+k) (flat QC blk))[0]?=some (.v (.int .u8 ((blk.getD (4*i+k) 0).toNat:Nat))):=by rw [List.getElem?_drop,Nat.add_zero];exact QBm zo
   have hgd:=ms_get (l:=padW (wsF blk i)) (i:=i) (v:=horW blk i k) zo
   have hms:(ms (padW (wsF blk i)) i (horW blk i k)).set i (256*horW blk i k+UInt32.ofNat (blk.getD (4*i+k) 0).toNat)=ms (padW (wsF blk i)) i (horW blk i (k+1)):=by
    rw [ms,List.set_set];rfl
   (have X1:=e0;have X2:=g0;have X3:=hml;have X4:=hgd;have X5:=@U32_256;refine zS5 ?_;clear X1 X2 X3 X4 X5)
   rw [hms]
   refine⟨k+1,zO,zO,?_⟩
   exact fzN 0 [(0,0),(1,1),(2,2)] []
  ·have hk4:k=4:=by omega
   subst hk4
   have hset:ms (padW (wsF blk i)) i (w0 blk i)=padW (wsF blk (i+1)):=by
    have:=QEW (ws:=wsF blk i) (v:=w0 blk i) (by rw [Qf];omega)
    rw [Qf] at this
    rw [ms,this,wsF,if_pos h']
   (have X1:=@hor4;have X2:=hset;refine zS2 ?_;clear X1 X2)
   refine⟨i+1,zO,zO,?_⟩
   exact fzN 0 [(0,0),(1,1),(2,2)] []
 ·have hi16:i=16:=by omega
  subst hi16
  refine zS ?_
  refine QD (ι:=Nat) (fun i=>⟨[(2,.ptr 0 0),(4,.ptr 1 0),(5,.ptr 2 0),(8,.v (.int .i64 i))],⟨[(0,.cells 208 (flat Qb st) false),(1,.cells 208 (flat Qb z8) false),(2,.cells 260 (flat Qb (padW (wsF blk i))) false)],3,3,0⟩⟩) (fun i=>16≤i∧i≤64) (fun i=>64 - i) 16 ⟨Nat.le_refl _,by omega⟩ ?_ ?_
  ·refine fzNM 0 [(0,0),(1,1),(2,2)] [] ?_ ?_<;>first | exact zC | refine zS ?_
   try rfl
  clear hi hpl h
  intro i hi
  have hpl:(padW (wsF blk i)).length=64:=QN5 (by rw [Qf];exact hi.2)
  refine zS ?_
  refine⟨fun h=>?_,fun h=>?_⟩
  ·have h':i<64:=by omega
   have get:∀j,j<i→(flat Qb (padW (wsF blk i)))[j]?=some (.v (.int .u32 (((wsF blk i).getD j 0).toNat:Nat))):=fun j hj=>by
    rw [QB7 zo,QO2 (by rw [Qf];exact hj)]
   have e15:((i:Int) - 15).toNat=i - 15:=by omega
   have e2:((i:Int) - 2).toNat=i - 2:=by omega
   have e16:((i:Int) - 16).toNat=i - 16:=by omega
   have e7:((i:Int) - 7).toNat=i - 7:=by omega
   have g15:=get (i - 15) zo
   have g2:=get (i - 2) zo
   have g16:=get (i - 16) zo
   have g7:=get (i - 7) zo
   have hset:(padW (wsF blk i)).set i (QM2 (wsF blk i) i)=padW (wsF blk (i+1)):=by
    have:=QEW (ws:=wsF blk i) (v:=QM2 (wsF blk i) i) (by rw [Qf];omega)
    rw [Qf] at this
    rw [this,wsF,if_neg zo]
   unfold QM2 at hset
   simp only at hset
   (have X1:=e15;have X2:=e2;have X3:=e16;have X4:=e7;have X5:=g15;have X6:=g2;have X7:=g16;have X8:=g7;refine zS8 ?_;clear X1 X2 X3 X4 X5 X6 X7 X8)
   refine QO.useV (QA0 _ 7 zD) rfl ?_
   (have X1:=e15;have X2:=e2;have X3:=e16;have X4:=e7;have X5:=g15;have X6:=g2;have X7:=g16;have X8:=g7;refine zS8 ?_;clear X1 X2 X3 X4 X5 X6 X7 X8)
   refine QO.useV (QA0 _ 18 zD) rfl ?_
   (have X1:=e15;have X2:=e2;have X3:=e16;have X4:=e7;have X5:=g15;have X6:=g2;have X7:=g16;have X8:=g7;refine zS8 ?_;clear X1 X2 X3 X4 X5 X6 X7 X8)
   refine QO.useV (QA0 _ 17 zD) rfl ?_
   (have X1:=e15;have X2:=e2;have X3:=e16;have X4:=e7;have X5:=g15;have X6:=g2;have X7:=g16;have X8:=g7;refine zS8 ?_;clear X1 X2 X3 X4 X5 X6 X7 X8)
   refine QO.useV (QA0 _ 19 zD) rfl ?_
   (have X1:=e15;have X2:=e2;have X3:=e16;have X4:=e7;have X5:=g15;have X6:=g2;have X7:=g16;have X8:=g7;refine zS8 ?_;clear X1 X2 X3 X4 X5 X6 X7 X8)
   refine⟨i+1,⟨by omega,by omega⟩,zO,?_⟩
   rw [hset]
   exact fzN 0 [(0,0),(1,1),(2,2)] []
  ·have hi64:i=64:=by omega
   subst hi64
   have hpw:padW (wsF blk 64)=wsF blk 64:=by simp [padW,Qf]
   have hwl:(wsF blk 64).length=64:=Qf blk 64
   have hz8:[AV.v (.int .u32 0),.v (.int .u32 0),.v (.int .u32 0),.v (.int .u32 0),.v (.int .u32 0),.v (.int .u32 0),.v (.int .u32 0),.v (.int .u32 0)]=flat Qb z8:=rfl
   have ht:List.take 8 (flat Qb st)=flat Qb st:=List.take_of_length_le (by rw [QI,hst];exact Nat.le_refl _)
   have hsl:setL (flat Qb z8) 0 (flat Qb st)=flat Qb st:=QAK (by rw [QI,QI,hst];rfl)
   have hw8:∀s:List UInt32,s.length=8→flat Qb s=w8 s:=fun s h=>by
    match s,h with
    | [a,b,c,d,e,f,g,h],_=>rfl
   refine zS ?_
   rw [hpw]
   refine QD (ι:=Nat) (fun i=>⟨[(2,.ptr 0 0),(4,.ptr 1 0),(5,.ptr 2 0),(11,.ptr 3 0),(12,.v (.int .i64 i))],⟨[(0,.cells 208 (flat Qb st) false),(1,.cells 208 (flat Qb z8) false),(2,.cells 260 (flat Qb (wsF blk 64)) false),(3,.cells 208 [.v (.int .u32 (((rdF (wsF blk 64) st i).getD 0 0).toNat:Nat)),.v (.int .u32 (((rdF (wsF blk 64) st i).getD 1 0).toNat:Nat)),.v (.int .u32 (((rdF (wsF blk 64) st i).getD 2 0).toNat:Nat)),.v (.int .u32 (((rdF (wsF blk 64) st i).getD 3 0).toNat:Nat)),.v (.int .u32 (((rdF (wsF blk 64) st i).getD 4 0).toNat:Nat)),.v (.int .u32 (((rdF (wsF blk 64) st i).getD 5 0).toNat:Nat)),.v (.int .u32 (((rdF (wsF blk 64) st i).getD 6 0).toNat:Nat)),.v (.int .u32 (((rdF (wsF blk 64) st i).getD 7 0).toNat:Nat))] false)],4,4,0⟩⟩) (fun i=>i≤64) (fun i=>64 - i) 0 (Nat.zero_le _) ?_ ?_
   ·rw [hz8,ht,hsl]
    refine fzNM 0 [(0,0),(1,1),(2,2),(3,192)] [] ?_ ?_<;>first | exact zC | refine zS ?_
    exact hw8 st hst
   clear hi hpl h
   intro i hi
   refine zS ?_
   refine⟨fun h=>?_,fun h=>?_⟩
   ·have h':i<64:=by omega
    have hg:=QB7 (ws:=wsF blk 64) (i:=i) (by rw [hwl];exact h')
    have hnext:rdF (wsF blk 64) st (i+1)=QT8 (kR.getD i 0) ((wsF blk 64).getD i 0) (rdF (wsF blk 64) st i):=rfl
    generalize rdF (wsF blk 64) st i=s at hnext ⊢
    have t0:Int.toNat 0=0:=rfl
    have t1:Int.toNat 1=1:=rfl
    have t2:Int.toNat 2=2:=rfl
    have t3:Int.toNat 3=3:=rfl
    have t4:Int.toNat 4=4:=rfl
    have t5:Int.toNat 5=5:=rfl
    have t6:Int.toNat 6=6:=rfl
    have t7:Int.toNat 7=7:=rfl
    (have X1:=hg;have X2:=t0;have X3:=t1;have X4:=t2;have X5:=t3;have X6:=t4;have X7:=t5;have X8:=t6;have X9:=t7;refine zS9 ?_;clear X1 X2 X3 X4 X5 X6 X7 X8 X9)
    refine QO.useV (QA0 _ 6 zD) rfl ?_
    (have X1:=hg;have X2:=t0;have X3:=t1;have X4:=t2;have X5:=t3;have X6:=t4;have X7:=t5;have X8:=t6;have X9:=t7;refine zS9 ?_;clear X1 X2 X3 X4 X5 X6 X7 X8 X9)
    refine QO.useV (QA0 _ 11 zD) rfl ?_
    (have X1:=hg;have X2:=t0;have X3:=t1;have X4:=t2;have X5:=t3;have X6:=t4;have X7:=t5;have X8:=t6;have X9:=t7;refine zS9 ?_;clear X1 X2 X3 X4 X5 X6 X7 X8 X9)
    refine QO.useV (QA0 _ 25 zD) rfl ?_
    (have X1:=hg;have X2:=t0;have X3:=t1;have X4:=t2;have X5:=t3;have X6:=t4;have X7:=t5;have X8:=t6;have X9:=t7;refine zS9 ?_;clear X1 X2 X3 X4 X5 X6 X7 X8 X9)
    refine QO.useV (QQx i h') rfl ?_
    (have X1:=hg;have X2:=t0;have X3:=t1;have X4:=t2;have X5:=t3;have X6:=t4;have X7:=t5;have X8:=t6;have X9:=t7;refine zS9 ?_;clear X1 X2 X3 X4 X5 X6 X7 X8 X9)
    refine QO.useV (QA0 _ 2 zD) rfl ?_
    (have X1:=hg;have X2:=t0;have X3:=t1;have X4:=t2;have X5:=t3;have X6:=t4;have X7:=t5;have X8:=t6;have X9:=t7;refine zS9 ?_;clear X1 X2 X3 X4 X5 X6 X7 X8 X9)
    refine QO.useV (QA0 _ 13 zD) rfl ?_
    (have X1:=hg;have X2:=t0;have X3:=t1;have X4:=t2;have X5:=t3;have X6:=t4;have X7:=t5;have X8:=t6;have X9:=t7;refine zS9 ?_;clear X1 X2 X3 X4 X5 X6 X7 X8 X9)
    refine QO.useV (QA0 _ 22 zD) rfl ?_
    (have X1:=hg;have X2:=t0;have X3:=t1;have X4:=t2;have X5:=t3;have X6:=t4;have X7:=t5;have X8:=t6;have X9:=t7;refine zS9 ?_;clear X1 X2 X3 X4 X5 X6 X7 X8 X9)
    refine⟨i+1,zO,zO,?_⟩
    simp only [hnext]
    refine fzNM 0 [(0,0),(1,1),(2,2),(3,3)] [] ?_ ?_<;>first | exact zC | refine zS ?_
    rfl
   ·have hi64:i=64:=by omega
    subst hi64
    have hxl:(rdF (wsF blk 64) st 64).length=8:=QHg hst 64
    have hmix:mixF st blk=List.zipWith (·+·) st (rdF (wsF blk 64) st 64):=rfl
    have hg8:=hw8 _ hxl
    rw [w8] at hg8
    rw [hmix]
    generalize rdF (wsF blk 64) st 64=s at*
    refine zS ?_
    rw [←hg8]
    refine QD (ι:=Nat) (fun i=>⟨[(2,.ptr 0 0),(4,.ptr 1 0),(11,.ptr 2 0),(17,.v (.int .i64 i))],⟨[(0,.cells 208 (flat Qb (addP st s i)) false),(1,.cells 208 (flat Qb z8) false),(2,.cells 208 (flat Qb s) false)],3,3,0⟩⟩) (fun i=>i≤8) (fun i=>8 - i) 0 (Nat.zero_le _) ?_ ?_
    ·refine fzNM 0 [(0,0),(1,1),(2,3)] [] ?_ ?_<;>first | exact zC | refine zS ?_
     rfl
    clear hi h
    intro i hi
    refine zS ?_
    refine⟨fun h=>?_,fun h=>?_⟩
    ·have h':i<8:=by omega
     have hal:=QCr st s i hst hxl
     have hset:=QOw st s i hst hxl h'
     have hget:=QO0 st s i hst hxl h'
     (have X1:=hget;refine zS1 ?_;clear X1)
     rw [hset]
     refine⟨i+1,zO,zO,?_⟩
     exact fzN 0 [(0,0),(1,1),(2,2)] []
    ·have hi8:i=8:=by omega
     subst hi8
     have hfin:addP st s 8=List.zipWith (·+·) st s:=by
      simp only [addP]
      rw [List.take_of_length_le (by simp [hst,hxl]),List.drop_eq_nil_of_le zo,List.append_nil]
     have hal:=QCr st s 8 hst hxl
     have hzl:z8.length=8:=rfl
     (have X1:=hal;have X2:=hzl;refine zS2 ?_;clear X1 X2)
     have ht:List.take 8 (flat Qb (addP st s 8))=flat Qb (addP st s 8):=List.take_of_length_le (by rw [QI,hal];exact Nat.le_refl _)
     have hsl:setL (flat Qb z8) 0 (flat Qb (addP st s 8))=flat Qb (addP st s 8):=QAK (by rw [QI,QI,hal,hzl])
     rw [ht,hsl,ht]
     have hzz:(List.zipWith (·+·) st s).length=8:=by rw [←hfin];exact hal
     (have X1:=hal;have X2:=hfin;have X3:=hzz;exact zC3)
open Proofs
theorem rSum_c (b:List UInt8) (hb:b.length≤1000000):QE Tryz.prog [] 87 [.seq b.length 1 (flat QC b)] (.agg (flat QC (shaF b))):=by
 refine QE.start Tryz.func87 rfl zK rfl Tryz.ntmps87 fol zK zI zI ?_
 refine zZ ?_
 have hpl:=QOo b
 have hpb:(padF b).length≤b.length+128:=Qdh b
 refine (QYm b zo).useV ?_
 refine zS ?_
 refine QD (ι:=Nat×Nat) (fun q=>⟨[(2,.ptr 0 0),(3,.ptr 1 0),(4,.seq (padF b).length 1 (flat QC (padF b))),(5,.v (.int .i64 q.2))],⟨[(0,.cells 47 (flat QC z32) false),(1,.cells 208 (flat Qb (fbF q.1 kB (padF b))) false)],2,2,0⟩⟩) (fun q=>q.2=64*q.1∧q.2≤(padF b).length) (fun q=>(padF b).length - q.2) (0,0) ⟨rfl,Nat.zero_le _⟩ ?_ ?_
 ·refine fzNM 0 [(0,2),(1,45)] [] ?_ ?_<;>first | exact zC | refine zS ?_
  exact⟨rfl,rfl⟩
 rintro⟨n,N⟩ ⟨hN,hn⟩
 dsimp only at hN hn ⊢
 have hfl:(fbF n kB (padF b)).length=8:=QHl QEu n
 refine zS ?_
 refine⟨fun h=>?_,fun h=>?_⟩
 ·have hNl:N+64≤(padF b).length:=by omega
  have e1:((N:Int)+64).toNat=N+64:=by omega
  have e2:N+64 - N=64:=by omega
  have ht8:∀s:List UInt32,s.length=8→List.take 8 (flat Qb s)=flat Qb s:=fun s hs=>List.take_of_length_le (by rw [QI,hs];exact Nat.le_refl _)
  have hsl:List.take 64 (List.drop N (flat QC (padF b)))=flat QC (((padF b).drop N).take 64):=by rw [QL,QT]
  have hbl:(((padF b).drop N).take 64).length=64:=by rw [List.length_take,List.length_drop];omega
  (have X1:=e1;have X2:=e2;have X3:=hfl;have X4:=ht8 _ hfl;have X5:=hsl;refine zS5 ?_;clear X1 X2 X3 X4 X5)
  refine QO.useV (Qbh _ hfl _ hbl) rfl ?_
  have hm8:(mixF (fbF n kB (padF b)) (((padF b).drop N).take 64)).length=8:=QCt hfl
  have hst:setL (flat Qb (fbF n kB (padF b))) 0 (flat Qb (mixF (fbF n kB (padF b)) (((padF b).drop N).take 64)))=flat Qb (fbF (n+1) kB (padF b)):=by
   rw [QAK (by rw [QI,QI,hfl,hm8]),fbF,hN]
  (have X1:=hm8;have X2:=hfl;have X3:=ht8 _ hm8;have X4:=hst;refine zS4 ?_;clear X1 X2 X3 X4)
  refine⟨(n+1,N+64),⟨by show N+64=64*(n+1);omega,zO⟩,zO,?_⟩
  refine fzNM 0 [(0,0),(1,1)] [] ?_ ?_<;>first | exact zC | refine zS ?_
  rfl
 ·have hnn:n=(padF b).length / 64:=by omega
  refine zS ?_
  rw [QNi b,←hnn]
  generalize fbF n kB (padF b)=q at*
  have hhl:(QBH q).length=32:=by simp [QBH]
  refine QD (ι:=Nat) (fun i=>⟨[(2,.ptr 0 0),(3,.ptr 1 0),(6,.ptr 2 0),(7,.v (.int .i64 i))],⟨[(0,.cells 47 (flat QC z32) false),(1,.cells 208 (flat Qb q) false),(2,.cells 47 (flat QC ((QBH q).take i++List.replicate (32 - i) 0)) false)],3,3,0⟩⟩) (fun i=>i≤32) (fun i=>32 - i) 0 (Nat.zero_le _) ?_ ?_
  ·refine fzNM 0 [(0,0),(1,1),(2,50)] [] ?_ ?_<;>first | exact zC | refine zS ?_
   rfl
  intro i hi
  have hel:((QBH q).take i++List.replicate (32 - i) 0).length=32:=by simp [hhl];omega
  refine zS ?_
  refine⟨fun hi1=>?_,fun hi1=>?_⟩
  ·have hi32:i<32:=by omega
   have hset:=QEI (QBH q) 0 32 i hhl hi32
   have hbi:(QBH q)[i]'zo=UInt8.ofNat (shrW (q.getD (i / 4) 0) (24 - 8*(i % 4))).toNat:=by simp [QBH]
   rw [hbi] at hset
   have hsr:∀x y (a:UInt32),pbin Tryz.prog .shr 84 x y (.int .u32 (a.toNat:Nat)) (.int .u64 (24 - 8*((i:Int) % 4)))=some (.int .u32 ((shrW a (24 - 8*(i % 4))).toNat:Nat)):=fun x y a=>by
    rw [show (24 - 8*((i:Int) % 4))=((24 - 8*(i % 4):Nat):Int) by omega,QDX]
   have hq4:∀x y,pbin Tryz.prog .quo 3 x y (.int .i64 i) (.int .i64 4)=some (.int .i64 ((i:Int) / 4)):=fun x y=>by
    have e:pbin Tryz.prog .quo 3 x y (.int .i64 i) (.int .i64 4)=some (.int .i64 (IntKind.i64.wrap (Int.tdiv i 4))):=rfl
    rw [e,Int.tdiv_eq_ediv_of_nonneg zo,QAN zo zo]
   have hr4:∀x y,pbin Tryz.prog .rem 3 x y (.int .i64 i) (.int .i64 4)=some (.int .i64 ((i:Int) % 4)):=fun x y=>by
    have e:pbin Tryz.prog .rem 3 x y (.int .i64 i) (.int .i64 4)=some (.int .i64 (Int.tmod i 4)):=rfl
    rw [e,Int.tmod_eq_emod_of_nonneg zo]
   have e4:((i:Int) / 4).toNat=i / 4:=by omega
   have hg:(flat Qb q)[i / 4]?=some (.v (.int .u32 ((q.getD (i / 4) 0).toNat:Nat))):=QB7 zo
   (have X1:=hsr;have X2:=hel;have X3:=e4;have X4:=hg;have X5:=hq4;have X6:=hr4;have X7:=hfl;refine zS7 ?_;clear X1 X2 X3 X4 X5 X6 X7)
   rw [hset]
   refine⟨i+1,zO,zO,?_⟩
   exact fzN 0 [(0,0),(1,1),(2,2)] []
  ·have hi32:i=32:=by omega
   subst hi32
   have hfull:(QBH q).take 32++List.replicate (32 - 32) 0=QBH q:=by rw [List.take_of_length_le zo];simp
   rw [hfull]
   have hz32:z32.length=32:=by decide
   have hsl:setL (flat QC z32) 0 (flat QC (QBH q))=flat QC (QBH q):=QAK (by rw [QH,QH,hhl,hz32])
   have htk:List.take 32 (flat QC (QBH q))=flat QC (QBH q):=List.take_of_length_le (by rw [QH,hhl];exact Nat.le_refl _)
   (have X1:=hhl;have X2:=hz32;have X3:=hsl;have X4:=htk;exact zC4)
open Proofs
def itc (x:Itm):List AV:=hcell x.h++QDy x
theorem QCi (x:Itm):(itc x).length=39:=by rw [itc,List.length_append,QK,QDM]
theorem QN1 (x:Itm):idfL (itc x)=true:=by rw [itc,Qy,QS,QDW];rfl
theorem QIa {l:List Itm}:idfL (flat itc l)=true:=QZ QN1 l
theorem QCf {l:List Itm}:(flat itc l).length=l.length*39:=QW QCi _
theorem QYg (l:List Itm) (i:Nat) (hi:i<l.length):(flat itc l).drop (i*39)=itc l[i]++flat itc (l.drop (i+1)):=QAh QCi l i hi
theorem itc_h {x:Itm} {r:List AV}:(itc x++r).take 32=hcell x.h:=by rw [itc,List.append_assoc,QDv]
attribute [push_cast] QN1 QIa QCf QCi QYg itc_h
def grA (G:GrV):AV:=.agg [.seq G.L.length 39 (flat itc G.L),.seq G.W.length 39 (flat itc G.W)]
theorem Qed {G:GrV}:idf (grA G)=true:=by simp [grA,idf,idfL,QIa]
def finF (L:List Itm) (h:Hs):Int:=if h∈QF L then ((QF L).idxOf h:Int) else -1
theorem QOW {h:Hs}:∀{L:List Itm},h∈QF L→L[(QF L).idxOf h]?=getL L h
 | [],m=>by simp [QF] at m
 | x::L,m=>by
  rw [getL]
  simp only [QF,List.map_cons,List.mem_cons] at m ⊢
  by_cases e:x.h=h
  ·rw [if_pos e,List.idxOf_cons,e];simp
  ·rw [if_neg e,List.idxOf_cons,show (x.h==h)=false from beq_eq_false_iff_ne.2 e]
   exact QOW (m.resolve_left fun q=>e q.symm)
theorem QFS {L:List Itm} {h:Hs} (m:h∈QF L):∃i x,finF L h=(i:Nat)∧i<L.length∧L[i]?=some x∧getL L h=some x:=by
 have hi2:=List.idxOf_lt_length_of_mem m
 rw [Qh] at hi2
 obtain⟨x,hx,hxm,hxh⟩:=QA2 m
 exact⟨(QF L).idxOf h,x,if_pos m,hi2,by rw [QOW m,hx],hx⟩
theorem QGF {L:List Itm} {h:Hs} (m:h∉QF L):finF L h=-1:=if_neg m
theorem QOF (L:List Itm) (hl:L.length≤65536) (h:Hs):QE Tryz.prog [] 88 [.seq L.length 39 (flat itc L),.agg (hcell h)] (.v (.int .i64 (finF L h))):=by
 refine QE.start Tryz.func88 rfl zK rfl Tryz.ntmps88 fol zK (by simp [idfL,idf,QZ QS,QS,Qg,Qy,QIa]) (by simp [idfL,idf,QZ QS,QS,Qg,Qy,QIa]) ?_
 refine zZ ?_
 refine QD (ι:=Nat) (fun i=>⟨[(0,.seq L.length 39 (flat itc L)),(3,.rop (hcell h)),(5,.v (.int .i64 i))],⟨[],0,0,0⟩⟩) (fun i=>i≤L.length∧h∉(QF L).take i) (fun i=>L.length - i) 0 ⟨Nat.zero_le _,by simp⟩ ?_ ?_
 ·exact fzN 0 [] []
 rintro i ⟨hi,hall⟩
 refine zS ?_
 refine⟨fun h1=>?_,fun h1=>?_⟩
 ·have hi1:i<L.length:=by omega
  have hi2:i<(QF L).length:=by rw [Qh];exact hi1
  have hk:(QF L)[i]=L[i].h:=by simp [QF]
  refine zS ?_
  refine⟨fun h2=>?_,fun h2=>?_⟩
  ·have h3:(QF L)[i]=h:=by rw [hk];first | exact h2 | exact h2.symm
   refine zS ?_
   rw [finF,if_pos (show h∈QF L from by rw [←h3];exact List.getElem_mem hi2),QUE hall hi2 h3]
  ·refine zS ?_
   refine⟨i+1,⟨by omega,fun hm=>?_⟩,zO,?_⟩
   ·rcases (QCo hi2).1 hm with e | e
    ·exact hall e
    ·rw [hk] at e;first | exact h2 e.symm | exact h2 e
   exact fzN 0 [] []
 ·refine zS ?_
  rw [List.take_of_length_le (by rw [Qh];omega)] at hall
  rw [QGF hall]
theorem Qf2 (G:GrV) (hl:G.L.length≤65536) (h:Hs):QE Tryz.prog [] 49 [grA G,.agg (hcell h)] (.v (.bool (hasL G.L h))):=by
 refine QE.start Tryz.func49 rfl zK rfl Tryz.ntmps49 fol zK (by simp [idfL,idf,QZ QS,QS,Qg,Qy,grA,QIa]) (by simp [idfL,idf,QZ QS,QS,Qg,Qy,grA,QIa]) ?_
 refine zz ?_
 (have X1:=@grA.eq_1;refine zS1 ?_;clear X1)
 refine (QOF G.L hl h).useV ?_
 refine zS ?_
 by_cases m:h∈QF G.L
 ·obtain⟨i,x,h1,-⟩:=QFS m
  rw [h1,hasL,decide_eq_true m,decide_eq_true zo]
 ·rw [QGF m,hasL,decide_eq_false m];rfl
theorem QS7 {L:List Itm} {l:List Hs} {i:Nat} (hi:i<l.length):allL L (l.take (i+1))=(allL L (l.take i)&&hasL L l[i]):=by
 rw [List.take_succ_eq_append_getElem hi,allL,allL,List.all_append];simp
theorem QOR (G:GrV) (hl:G.L.length≤65536) (l:List Hs) (hb:l.length≤1048576):QE Tryz.prog [] 89 [grA G,.seq l.length 32 (flat hcell l)] (.v (.bool (allL G.L l))):=by
 refine QE.start Tryz.func89 rfl zK rfl Tryz.ntmps89 fol zK (by simp [idfL,idf,QZ QS,QS,Qg,Qy,grA,QIa]) (by simp [idfL,idf,QZ QS,QS,Qg,Qy,grA,QIa]) ?_
 refine zz ?_
 (have X1:=@grA.eq_1;refine zS1 ?_;clear X1)
 refine QD (ι:=Nat) (fun i=>⟨[(1,.seq l.length 32 (flat hcell l)),(2,.rop [.seq G.L.length 39 (flat itc G.L),.seq G.W.length 39 (flat itc G.W)]),(5,.v (.int .i64 i))],⟨[],0,0,0⟩⟩) (fun i=>i≤l.length∧allL G.L (l.take i)=true) (fun i=>l.length - i) 0 ⟨Nat.zero_le _,rfl⟩ ?_ ?_
 ·exact fzN 0 [] []
 rintro i ⟨hi,hall⟩
 have hg:=Qf2 G hl
 simp only [grA] at hg
 refine zS ?_
 refine⟨fun h1=>?_,fun h1=>?_⟩
 ·have hi1:i<l.length:=by omega
  refine zS ?_
  refine QO.useV (hg _) rfl ?_
  cases hh:hasL G.L l[i]
  ·have hf:allL G.L l=false:=by
    rw [←Bool.not_eq_true]
    intro hh2
    rw [Q2] at hh2
    have:=hh2 _ (List.getElem_mem hi1)
    rw [hasL,decide_eq_false_iff_not] at hh
    exact hh this
   (have X1:=hf;exact zC1)
  ·refine zS ?_
   refine⟨i+1,⟨by omega,by rw [QS7 hi1,hall,hh];rfl⟩,zO,?_⟩
   exact fzN 0 [] []
 ·rw [List.take_of_length_le zo] at hall
  (have X1:=hall;exact zC1)
theorem itz_set {x:Itm}:setL ([.v (.int .u8 0),.v (.int .u8 0),.v (.int .u8 0),.v (.int .u8 0),.v (.int .u8 0),.v (.int .u8 0),.v (.int .u8 0),.v (.int .u8 0),.v (.int .u8 0),.v (.int .u8 0),.v (.int .u8 0),.v (.int .u8 0),.v (.int .u8 0),.v (.int .u8 0),.v (.int .u8 0),.v (.int .u8 0),.v (.int .u8 0),.v (.int .u8 0),.v (.int .u8 0),.v (.int .u8 0),.v (.int .u8 0),.v (.int .u8 0),.v (.int .u8 0),.v (.int .u8 0),.v (.int .u8 0),.v (.int .u8 0),.v (.int .u8 0),.v (.int .u8 0),.v (.int .u8 0),.v (.int .u8 0),.v (.int .u8 0),.v (.int .u8 0),.v (.string ByteArray.empty),.v (.int .i64 0),.v (.int .i64 0),.v (.slice none 0 0),.v (.string ByteArray.empty),.v (.slice none 0 0),.v (.slice none 0 0)]:List AV) 0 (itc x)=itc x:=QAK (by rw [QCi];rfl)
theorem itc_take {x:Itm}:(itc x).take 39=itc x:=List.take_of_length_le (by rw [QCi];exact Nat.le_refl _)
theorem QaY (L:List Itm) (hl:L.length≤65536) (x:Itm):QE Tryz.prog [] 90 [.seq L.length 39 (flat itc L),.agg (itc x)] (.seq (L++[x]).length 39 (flat itc (L++[x]))):=by
 refine QE.start Tryz.func90 rfl zK rfl Tryz.ntmps90 fol zK (by simp [idfL,idf,QZ QS,QS,Qg,Qy,QIa,QN1]) (by simp [idfL,idf,QZ QS,QS,Qg,Qy,QIa,QN1]) ?_
 refine zZ ?_
 have hfl:flat itc L++itc x=flat itc (L++[x]):=by rw [Q7];simp [flat]
 have htk:List.take ((L.length+1)*39) (flat itc (L++[x]))=flat itc (L++[x]):=List.take_of_length_le (by rw [QCf,List.length_append];exact Nat.le_refl _)
 (have X1:=@itz_set;have X2:=@itc_take;have X3:=hfl;have X4:=htk;exact zC4)
open Proofs
theorem itc_d {x:Itm} {r:List AV}:List.drop 32 (itc x++r)=[AV.v (.string x.c.author),.v (.int .i64 x.c.seq),.v (.int .i64 x.c.start),.seq x.c.deps.length 32 (flat hcell x.c.deps),.v (.string x.c.note),.seq x.c.ops.length 5 (flat QX x.c.ops),.seq x.b.length 1 (flat QC x.b)]++r:=by
 rw [itc,List.append_assoc]
 exact List.drop_left' (QK x.h)
attribute [push_cast] itc_d
theorem QMI (G:GrV) (hG:GrOK G) (l:List Hs) (hl:l.length≤65536):QE Tryz.prog [] 38 [grA G,.seq l.length 32 (flat hcell l)] (.tup [.seq (pasF G.L l).length 32 (flat hcell (pasF G.L l)),.v (.int .i64 (knoE G.L l))]):=by
 refine QE.startW Tryz.func38 rfl zK rfl Tryz.ntmps38 fol zK (by simp [idfL,idf,QZ QS,QS,Qg,Qy,grA,QIa,QA9]) (by simp [idfL,idf,QZ QS,QS,Qg,Qy,grA,QIa,QA9]) ?_
 refine zz ?_
 (have X1:=@grA.eq_1;refine zS1 ?_;clear X1)
 have hn:=hG.lenL
 have hga:=QOR G zo l zo
 simp only [grA] at hga
 refine hga.useV ?_
 by_cases ha:allL G.L l=true
 ·rw [pasF,knoE,if_pos ha,if_pos ha]
  (have X1:=ha;refine zS1 ?_;clear X1)
  refine (QSJ l zo).useV ?_
  refine zS ?_
  refine QD (ι:=Nat×List Hs) (fun q=>⟨[(2,.rop [.seq G.L.length 39 (flat itc G.L),.seq G.W.length 39 (flat itc G.W)]),(6,.seq q.2.length 32 (flat hcell q.2)),(7,.v (.int .i64 ((q.1:Int) - 1)))],⟨[],0,0,0⟩⟩)
   (fun q=>q.1≤G.L.length∧QKM (G.L.take q.1) q.2=Q0 G.L l∧q.2.length+16*q.1≤131072) (fun q=>q.1) (G.L.length,srt l) ⟨Nat.le_refl _,by rw [List.take_length];rfl,by have:=QAp l;show (srt l).length+16*G.L.length≤_;omega⟩ ?_ ?_
  ·exact fzN 0 [] []
  rintro⟨k,acc⟩ ⟨hk,hp,hb⟩
  dsimp only at hk hp hb ⊢
  refine zS ?_
  refine⟨fun h1=>?_,fun h1=>?_⟩
  ·obtain⟨j,rfl⟩:∃j,k=j+1:=⟨k - 1,by omega⟩
   have hj:j<G.L.length:=by omega
   have e1:((j+1:Nat):Int) - 1=j:=by omega
   have hbd:=(hG.bL (List.getElem_mem hj)).deps
   rw [List.take_succ_eq_append_getElem hj,QHz] at hp
   rw [e1]
   refine zS ?_
   refine (QaW acc zo G.L[j].h).useV ?_
   by_cases hm:G.L[j].h∈acc
   ·(have X1:=hm;refine zS1 ?_;clear X1)
    refine (QXB acc G.L[j].c.deps zo zo).useV ?_
    refine zS ?_
    rw [QFi,if_pos hm] at hp
    have hul:=QNx acc G.L[j].c.deps
    refine⟨(j,uniH acc G.L[j].c.deps),⟨zO,hp,zO⟩,zO,?_⟩
    exact fzN 0 [] []
   ·(have X1:=hm;refine zS1 ?_;clear X1)
    rw [QFi,if_neg hm] at hp
    refine⟨(j,acc),⟨zO,hp,zO⟩,zO,?_⟩
    exact fzN 0 [] []
  ·have hk0:k=0:=by omega
   subst hk0
   have hp':acc=Q0 G.L l:=hp
   subst hp'
   exact zC
 ·rw [pasF,knoE,if_neg ha,if_neg ha]
  rw [Bool.not_eq_true] at ha
  (have X1:=ha;first | exact zC1 | refine zS1 ?_)
  try rfl
end Go.AW
