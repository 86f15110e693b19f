/- A part of the proof: D7 D8 D9 D10 D11 D12 D13 D14 D15. -/
import Derived.Test.YtpcbnjbpdooejaaGreatDoorPae
import Derived.Test.YtpcbnjbpdooejaaGreatDoorPag
import Derived.Test.YtpcbnjbpdooejaaGreatDoorPaf
import Derived.Test.YtpcbnjbpdooejaaGreatDoorPad
set_option linter.unusedSimpArgs false
set_option linter.unusedVariables false
set_option maxRecDepth 100000
set_option maxHeartbeats 8000000
namespace Go.AW
open Proofs
set_option maxHeartbeats 4000000
def z64:List UInt8:=List.replicate 64 0
theorem QCh:z64.length=64:=by decide
theorem QEu:kB.length=8:=by decide
def tz250:List Value:=List.replicate 8 (Value.int .u32 0)++(List.replicate 64 (Value.int .u8 0)++[.int .i64 0,.int .i64 0])
theorem tz_250:tz Tryz.prog 250=some tz250:=zK
theorem QRL:tz250.map AV.v=hcells (List.replicate 8 0) z64 0 0:=rfl
attribute [push_cast] tz_250 QRL
theorem New_c:QM Tryz.prog gK 151 [] [] 0 (.ptr 0 0) [(0,.cells 250 (hcells kB z64 0 0) false)] 1:=by
 refine QM.start Tryz.func151 rfl zK rfl Tryz.ntmps151 fol zK zD ?_
 refine zz ?_
 have hk8:=QEu
 (have X1:=hk8;refine zS1 ?_;clear X1)
 have ht:List.take 8 (flat Qb kB)=flat Qb kB:=List.take_of_length_le (by rw [QI,hk8];exact Nat.le_refl _)
 rw [ht,QHI (st:=[0,0,0,0,0,0,0,0]) rfl hk8,Ql (st:=[0,0,0,0,0,0,0,0]) rfl QCh]
 refine⟨by decide,?_⟩
 refine Ent.freezeN 0 [(0,7)] [] ?_ ?_ rfl rfl rfl zD rfl rfl
 ·exact zC
 ·exact zC
theorem QHt:∀(f:Nat) (st:List UInt32) (w:List UInt8) (h:Nat) (p:List UInt8),st.length=8→w.length=64→h<64→p.length≤f→(wrF f st w h p).1.length=8∧(wrF f st w h p).2.1.length=64∧(wrF f st w h p).2.2<64
 | 0,st,w,h,p,h1,h2,h3,_=>⟨h1,h2,h3⟩
 | f+1,st,w,h,p,h1,h2,h3,h4=>by
  rw [wrF]
  split
  ·exact⟨h1,h2,h3⟩
  ·rename_i hp
   have hk:(p.take (min p.length (64 - h))).length=min p.length (64 - h):=by rw [List.length_take];omega
   have hs:(setU w h (p.take (min p.length (64 - h)))).length=64:=by rw [QEN (by rw [hk,h2];omega),h2]
   have hd:(p.drop (min p.length (64 - h))).length≤f:=by rw [List.length_drop];omega
   simp only
   split
   ·exact QHt f _ _ _ _ (QCt h1) hs zD hd
   ·rename_i hne
    exact QHt f _ _ _ _ h1 hs zo hd
def padL:Nat→List UInt32×List UInt8×Nat→List UInt32×List UInt8×Nat
 | 0,q=>q
 | f+1,q=>if q.2.2=56 then q else padL f (wrF 1 q.1 q.2.1 q.2.2 [0])
def bitB (n:Nat):List UInt8:=(List.range 8).map fun i=>UInt8.ofNat (n*8 / 2^(56 - 8*i))
def QBH (st:List UInt32):List UInt8:=(List.range 32).map fun i=>UInt8.ofNat (shrW (st.getD (i / 4) 0) (24 - 8*(i % 4))).toNat
def sumF (st:List UInt32) (wait:List UInt8) (held n:Nat):List UInt8:=
 let q:=padL 64 (wrF 1 st wait held [128])
 QBH (wrF 8 q.1 q.2.1 q.2.2 (bitB n)).1
theorem QNV {st:List UInt32} {wait:List UInt8} {held n:Int} (h1:st.length=8) (h2:wait.length=64):(hcells st wait held n).take 74=hcells st wait held n:=List.take_of_length_le (by rw [Ql h1 h2];exact Nat.le_refl _)
theorem QPr {st st':List UInt32} {wait wait':List UInt8} {held n held' n':Int} (h1:st.length=8) (h2:wait.length=64) (h3:st'.length=8) (h4:wait'.length=64):setL (hcells st wait held n) 0 (hcells st' wait' held' n')=hcells st' wait' held' n':=QAK (by rw [Ql h1 h2,Ql h3 h4])
theorem Qbq (st:List UInt32) (w:List UInt8) (h:Nat) (b:UInt8) (hh:h<64):(wrF 1 st w h [b]).2.2=if h+1=64 then 0 else h+1:=by
 have hk:min [b].length (64 - h)=1:=by simp;omega
 rw [wrF,if_neg (by simp)]
 simp only [hk]
 split<;>rfl
theorem QEI {α:Type} (l:List α) (z:α) (n i:Nat) (hl:l.length=n) (hi:i<n):(l.take i++List.replicate (n - i) z).set i (l[i]'zo)=l.take (i+1)++List.replicate (n - (i+1)) z:=by
 have h1:(l.take i).length=i:=by rw [List.length_take];omega
 rw [List.set_append_right _ _ zo,h1,Nat.sub_self,show n - i=(n - (i+1))+1 by omega,List.replicate_succ,List.set_cons_zero,List.take_succ_eq_append_getElem zo]
 simp only [List.append_assoc,List.cons_append,List.nil_append]
def z32:List UInt8:=List.replicate 32 0
def z8':List UInt32:=[0,0,0,0,0,0,0,0]
theorem z8_eq:([0,0,0,0,0,0,0,0]:List UInt32)=z8':=rfl
theorem HSum_c (st:List UInt32) (wait:List UInt8) (held n:Nat) (hst:st.length=8) (hw:wait.length=64) (hh:held<64) (hn:n≤1152921504606846976):
  QM Tryz.prog gK 153 [.ptr 0 0] [(0,.cells 250 (hcells st wait held n) false)] 1 (.agg (flat QC (sumF st wait held n)))
   [(0,.cells 250 (hcells st wait held n) false)] 1:=by
 refine QM.start Tryz.func153 rfl zK rfl Tryz.ntmps153 fol zK (Nat.le_refl _) ?_
 refine zz ?_
 have hz:z8'.length=8:=rfl
 obtain⟨bits,hbits⟩:∃b,b=n*8:=⟨_,rfl⟩
 have hsh:∀x y,pbin Tryz.prog .shl 154 x y (.int .u64 n) (.int .u64 3)=some (.int .u64 (bits:Int)):=fun x y=>by
  rw [hbits]
  have e:pbin Tryz.prog .shl 154 x y (.int .u64 n) (.int .u64 3)=some (.int .u64 (IntKind.u64.wrap ((n:Int)*2^3))):=rfl
  rw [e,QU zo zo]
  congr 2
 simp (maxSteps:=400000) (disch:=first | omega | exact okT rfl | simp only [push_cast]) only [push_cast,↓QG,↓reduceIte,Nat.reduceAdd,Nat.reduceMul,Nat.reduceSub,Nat.reduceEqDiff,Nat.reduceBEq,Nat.reduceBNe,Nat.reduceLT,Nat.reduceLeDiff,reduceCtorEq,Op.operands,QA,QB,Nat.sub_zero,QO1 hst hw,Ql hst hw,z8_eq,QNV hst hw,Ql hz QCh,QPr hz QCh hst hw,hsh]
 refine Qr.letgo (a:=[.ptr 128 0]) (c:=[]) (y:=.seq 1 1 (flat QC [128])) (ids:=[270]) (u:=[(270,.dead)]) rfl rfl ?_
 obtain⟨g1,g2,g3⟩:=QHt 1 st wait held [128] hst hw hh (Nat.le_refl _)
 refine QM.useX [128] (QIz st wait [128] held n hst hw hh (by show n+1≤_;omega)) rfl rfl ?_ ?_
 ·exact zC
 generalize hq:wrF 1 st wait held [128]=q at g1 g2 g3 ⊢
 refine zS ?_
 refine QD (ι:=(List UInt32×List UInt8×Nat)×Nat×Nat) (fun s=>⟨[(0,.ptr 0 0),(2,.ptr 1 0),(3,.ptr 2 0),(4,.v (.int .u64 bits))],⟨[(0,.cells 250 (hcells st wait held n) false),(1,.cells 47 (flat QC z32) false),(2,.cells 250 (hcells s.1.1 s.1.2.1 s.1.2.2 s.2.1) false)],3,3,0⟩⟩)
  (fun s=>s.1.1.length=8∧s.1.2.1.length=64∧s.1.2.2<64∧padL 64 q=padL s.2.2 s.1∧(120 - s.1.2.2) % 64≤s.2.2∧s.2.1+s.2.2≤n+65) (fun s=>(120 - s.1.2.2) % 64) (q,n+1,64) ⟨g1,g2,g3,rfl,zO,zO⟩ ?_ ?_
 ·refine Ent.freezeN 1 [(0,0),(1,3),(2,128)] [] ?_ ?_ rfl rfl rfl zD rfl rfl
  ·exact zC
  ·first | exact zC | refine zS ?_
   exact⟨rfl,rfl⟩
 rintro⟨q1,N,f⟩ ⟨h1,h2,h3,h4,h5,h6⟩
 simp only at h1 h2 h3 h4 h5 h6
 simp (maxSteps:=400000) (disch:=first | omega | exact okT rfl | simp only [push_cast]) only [push_cast,↓QG,↓reduceIte,Nat.reduceAdd,Nat.reduceMul,Nat.reduceSub,Nat.reduceEqDiff,Nat.reduceBEq,Nat.reduceBNe,Nat.reduceLT,Nat.reduceLeDiff,reduceCtorEq,Op.operands,QA,QB,Nat.sub_zero,QEP h1 h2]
 refine⟨fun h=>?_,fun h=>?_⟩
 ·have hne:q1.2.2≠56:=by omega
  obtain⟨g,rfl⟩:∃g,f=g+1:=⟨f - 1,by omega⟩
  have hpad:padL (g+1) q1=padL g (wrF 1 q1.1 q1.2.1 q1.2.2 [0]):=by rw [padL,if_neg hne]
  have hm:=Qbq q1.1 q1.2.1 q1.2.2 0 h3
  obtain⟨k1,k2,k3⟩:=QHt 1 q1.1 q1.2.1 q1.2.2 [0] h1 h2 h3 (Nat.le_refl _)
  have hW:=QIz q1.1 q1.2.1 [0] q1.2.2 N h1 h2 h3 (by show N+1≤_;omega)
  refine zS ?_
  refine Qr.letgo (a:=[.ptr 2 0]) (c:=[]) (y:=.seq 1 1 (flat QC [0])) (ids:=[91]) (u:=[(91,.dead)]) rfl rfl ?_
  refine QM.useX [2] hW rfl rfl ?_ ?_
  ·exact zC
  refine zS ?_
  refine⟨(wrF 1 q1.1 q1.2.1 q1.2.2 [0],N+1,g),⟨k1,k2,k3,by rw [h4,hpad],?_,zO⟩,?_,?_⟩
  ·show (120 - (wrF 1 q1.1 q1.2.1 q1.2.2 [0]).2.2) % 64≤g
   rw [hm];split<;>omega
  ·show (120 - (wrF 1 q1.1 q1.2.1 q1.2.2 [0]).2.2) % 64<(120 - q1.2.2) % 64
   rw [hm];split<;>omega
  ·refine Ent.freezeN 1 [(0,0),(1,1),(2,2)] [] ?_ ?_ rfl rfl rfl zD rfl rfl
   ·exact zC
   ·first | exact zC | refine zS ?_
    rfl
 ·have he:q1.2.2=56:=by omega
  have hpad:padL f q1=q1:=by cases f<;>simp [padL,he]
  refine zS ?_
  refine QD (ι:=Nat) (fun i=>⟨[(0,.ptr 0 0),(2,.ptr 1 0),(3,.ptr 2 0),(4,.v (.int .u64 bits)),(5,.ptr 3 0),(28,.v (.int .i64 i))],⟨[(0,.cells 250 (hcells st wait held n) false),(1,.cells 47 (flat QC z32) false),(2,.cells 250 (hcells q1.1 q1.2.1 q1.2.2 N) false),(3,.cells 252 (flat QC ((bitB n).take i++List.replicate (8 - i) 0)) false)],4,4,0⟩⟩) (fun i=>i≤8) (fun i=>8 - i) 0 (Nat.zero_le _) ?_ ?_
  ·refine Ent.freezeN 1 [(0,0),(1,1),(2,2),(3,70)] [] ?_ ?_ rfl rfl rfl zD rfl rfl
   ·exact zC
   ·first | exact zC | refine zS ?_
    rfl
  intro i hi
  have hbl:(bitB n).length=8:=by simp [bitB]
  have hel:((bitB n).take i++List.replicate (8 - i) 0).length=8:=by simp [hbl];omega
  refine zS ?_
  refine⟨fun hi1=>?_,fun hi1=>?_⟩
  ·have hi8:i<8:=by omega
   have hset:=QEI (bitB n) 0 8 i hbl hi8
   obtain⟨sh,hsh'⟩:∃sh,sh=bits / 2^(56 - 8*i):=⟨_,rfl⟩
   have hbi:(bitB n)[i]'zo=UInt8.ofNat sh:=by simp [bitB,hsh',hbits]
   rw [hbi] at hset
   have hsr:∀x y,pbin Tryz.prog .shr 154 x y (.int .u64 bits) (.int .u64 (56 - 8*(i:Int)))=some (.int .u64 (sh:Int)):=fun x y=>by
    rw [show (56 - 8*(i:Int))=((56 - 8*i:Nat):Int) by omega,QCF (by simp [IntKind.bits];omega),hsh']
   (have X1:=hsr;have X2:=hel;refine zS2 ?_;clear X1 X2)
   rw [hset]
   refine⟨i+1,zO,zO,?_⟩
   refine Ent.freezeN 1 [(0,0),(1,1),(2,2),(3,3)] [] ?_ ?_ rfl rfl rfl zD rfl rfl
   ·exact zC
   ·exact zC
  ·have hi8:i=8:=by omega
   subst hi8
   have hfull:(bitB n).take 8++List.replicate (8 - 8) 0=bitB n:=by rw [List.take_of_length_le zo];simp
   rw [hfull]
   have hW:=QIz q1.1 q1.2.1 (bitB n) q1.2.2 N h1 h2 h3 (by rw [hbl];omega)
   rw [hbl] at hW
   (have X1:=hbl;refine zS1 ?_;clear X1)
   refine Qr.letgo (a:=[.ptr 2 0]) (c:=[]) (y:=.seq 8 1 (flat QC (bitB n))) (ids:=[3]) (u:=[(3,.dead)]) ?_ rfl ?_
   ·(have X1:=hbl;exact zCN1)
   obtain⟨k1,k2,k3⟩:=QHt 8 q1.1 q1.2.1 q1.2.2 (bitB n) h1 h2 h3 zo
   have hsum:sumF st wait held n=QBH (wrF 8 q1.1 q1.2.1 q1.2.2 (bitB n)).1:=by simp only [sumF,hq,h4,hpad]
   refine QM.useX [2] hW rfl rfl ?_ ?_
   ·exact zC
   rw [hsum]
   generalize wrF 8 q1.1 q1.2.1 q1.2.2 (bitB n)=q3 at k1 k2 k3 ⊢
   refine zS ?_
   clear hi hel hi1
   refine QD (ι:=Nat) (fun i=>⟨[(0,.ptr 0 0),(2,.ptr 1 0),(3,.ptr 2 0),(7,.ptr 3 0),(43,.v (.int .i64 i))],⟨[(0,.cells 250 (hcells st wait held n) false),(1,.cells 47 (flat QC z32) false),(2,.cells 250 (hcells q3.1 q3.2.1 q3.2.2 ((N:Int)+8)) false),(3,.cells 47 (flat QC ((QBH q3.1).take i++List.replicate (32 - i) 0)) false)],4,4,0⟩⟩) (fun i=>i≤32) (fun i=>32 - i) 0 (Nat.zero_le _) ?_ ?_
   ·refine Ent.freezeN 1 [(0,0),(1,1),(2,2),(3,135)] [] ?_ ?_ rfl rfl rfl zD rfl rfl
    ·exact zC
    ·first | exact zC | refine zS ?_
     exact⟨rfl,rfl⟩
   intro i hi
   have hhl:(QBH q3.1).length=32:=by simp [QBH]
   have hel:((QBH q3.1).take i++List.replicate (32 - i) 0).length=32:=by simp [hhl];omega
   refine zS ?_
   refine⟨fun hi1=>?_,fun hi1=>?_⟩
   ·have hi32:i<32:=by omega
    have hset:=QEI (QBH q3.1) 0 32 i hhl hi32
    have hbi:(QBH q3.1)[i]'zo=UInt8.ofNat (shrW (q3.1.getD (i / 4) 0) (24 - 8*(i % 4))).toNat:=by simp [QBH]
    rw [hbi] at hset
    have hsr:∀x y (a:UInt32),pbin Tryz.prog .shr 84 x y (.int .u32 (a.toNat:Nat)) (.int .u64 (24 - 8*((i:Int) % 4)))=some (.int .u32 ((shrW a (24 - 8*(i % 4))).toNat:Nat)):=fun x y a=>by
     rw [show (24 - 8*((i:Int) % 4))=((24 - 8*(i % 4):Nat):Int) by omega,QDX]
    have hq4:∀x y,pbin Tryz.prog .quo 3 x y (.int .i64 i) (.int .i64 4)=some (.int .i64 ((i:Int) / 4)):=fun x y=>by
     have e:pbin Tryz.prog .quo 3 x y (.int .i64 i) (.int .i64 4)=some (.int .i64 (IntKind.i64.wrap (Int.tdiv i 4))):=rfl
     rw [e,Int.tdiv_eq_ediv_of_nonneg zo,QAN zo zo]
    have hr4:∀x y,pbin Tryz.prog .rem 3 x y (.int .i64 i) (.int .i64 4)=some (.int .i64 ((i:Int) % 4)):=fun x y=>by
     have e:pbin Tryz.prog .rem 3 x y (.int .i64 i) (.int .i64 4)=some (.int .i64 (Int.tmod i 4)):=rfl
     rw [e,Int.tmod_eq_emod_of_nonneg zo]
    have e4:((i:Int) / 4).toNat=i / 4:=by omega
    have hg:(hcells q3.1 q3.2.1 q3.2.2 ((N:Int)+8))[i / 4]?=some (.v (.int .u32 ((q3.1.getD (i / 4) 0).toNat:Nat))):=by
     rw [hcells,List.getElem?_append_left (by rw [QI,k1];omega),QB7 zo]
    simp (maxSteps:=400000) (disch:=first | omega | exact okT rfl | simp only [push_cast]) only [push_cast,↓QG,↓reduceIte,Nat.reduceAdd,Nat.reduceMul,Nat.reduceSub,Nat.reduceEqDiff,Nat.reduceBEq,Nat.reduceBNe,Nat.reduceLT,Nat.reduceLeDiff,reduceCtorEq,Op.operands,QA,QB,Nat.sub_zero,hsr,hel,e4,hg,hq4,hr4,Ql k1 k2]
    rw [hset]
    refine⟨i+1,zO,zO,?_⟩
    refine Ent.freezeN 1 [(0,0),(1,1),(2,2),(3,3)] [] ?_ ?_ rfl rfl rfl zD rfl rfl
    ·exact zC
    ·exact zC
   ·have hi32:i=32:=by omega
    subst hi32
    have hfull:(QBH q3.1).take 32++List.replicate (32 - 32) 0=QBH q3.1:=by rw [List.take_of_length_le zo];simp
    rw [hfull]
    have hz32:z32.length=32:=by decide
    (have X1:=hhl;have X2:=hz32;refine zS2 ?_;clear X1 X2)
    have hsl:setL (flat QC z32) 0 (flat QC (QBH q3.1))=flat QC (QBH q3.1):=QAK (by rw [QH,QH,hhl,hz32])
    rw [hsl]
    (have X1:=hhl;refine zS1 ?_;clear X1)
    refine Ent.freezeN 1 [(0,0)] [] ?_ ?_ rfl rfl rfl zD rfl rfl
    ·exact zC
    ·exact zC
open Proofs
set_option maxHeartbeats 4000000
def shaF (b:List UInt8):List UInt8:=
 let q:=wrF b.length kB z64 0 b
 sumF q.1 q.2.1 q.2.2 b.length
theorem QEE (b:List UInt8):(shaF b).length=32:=by simp [shaF,sumF,QBH]
theorem QSk (b:List UInt8) (hb:b.length≤1152921504606846976):QE Tryz.prog gK 80 [.seq b.length 1 (flat QC b)] (.agg (flat QC (shaF b))):=by
 refine QE.start Tryz.func80 rfl zK rfl Tryz.ntmps80 fol zK (by simp [idfL,idf,Qg]) (by simp [idf,Qg]) ?_
 refine zz ?_
 have hz:∀l:List AV,l=flat QC z32→setL l 0 (flat QC (shaF b))=flat QC (shaF b):=fun l h=>QAK (by rw [h,QH,QH,QEE];rfl)
 have hsl:=QEE b
 refine zS ?_
 refine QM.useX [] New_c rfl rfl ?_ ?_
 ·exact zC
 refine zS ?_
 have hW:=QIz kB z64 b 0 0 QEu QCh zD zo
 obtain⟨k1,k2,k3⟩:=QHt b.length kB z64 0 b QEu QCh zD (Nat.le_refl _)
 have hsh:shaF b=sumF (wrF b.length kB z64 0 b).1 (wrF b.length kB z64 0 b).2.1 (wrF b.length kB z64 0 b).2.2 b.length:=rfl
 rw [show ((0:Nat):Int)+(b.length:Int)=(b.length:Int) from Int.zero_add _] at hW
 refine QM.useX [20] hW rfl (by simp only [QCA,QC1,renA];rw [QAj Qg];rfl) ?_ ?_
 ·exact zC
 refine zS ?_
 refine QM.useX [20] (HSum_c _ _ _ b.length k1 k2 k3 hb) rfl rfl ?_ ?_
 ·exact zC
 (have X1:=(hsh).symm;refine zS1 ?_;clear X1)
 rw [hz]
 ·exact zC
 ·rfl
open Proofs
set_option maxHeartbeats 4000000
def lebT (b:List UInt8):List UInt8:=lebU b.length++b
theorem QDN:∀(l:List UInt8),QC3 l=flat QC l
 | []=>rfl
 | x::l=>by
  have h:=QDN l
  simp only [QC3,flat,QC,List.map_cons,List.flatMap_cons] at h ⊢
  rw [h];rfl
theorem QDY (s:ByteArray) (h:s.size≤70000000000000):POwn Tryz.prog [] 148 [.v (.string s)] (lebT s.data.toList).length 1 5 (flat QC (lebT s.data.toList)):=by
 refine POwn.start Tryz.func148 rfl zK rfl Tryz.ntmps148 fol zK (by simp [idfL,idf]) QQ ?_
 refine zz ?_
 have hl:=QAA (n:=s.size) zo
 have hs:s.data.toList.length=s.size:=by rw [Array.length_toList];rfl
 have ht:(lebT s.data.toList).length=(lebU s.size).length+s.size:=by rw [lebT,List.length_append,hs]
 have ha:flat QC (lebT s.data.toList)=flat QC (lebU s.size)++flat QC s.data.toList:=by rw [lebT,hs,QBD]
 have hsr:∀f,srcS f 1 (.v (.string s))=some (s.size,flat QC s.data.toList):=fun f=>by rw [←QDN];rfl
 (have X1:=@QU;refine zS1 ?_;clear X1)
 refine POwn.useV (QDo s.size zo) ?_
 (have X1:=hsr;have X2:=ht;have X3:=ha;refine zS3 ?_;clear X1 X2 X3)
 refine Ent.freezeN 0 [(0,17)] [] ?_ ?_ rfl rfl rfl zD rfl rfl
 ·(have X1:=ht;have X2:=ha;have X3:=hs;exact zC3)
 ·exact zC
theorem QIN (s:ByteArray) (h:s.size≤70000000000000):PNew Tryz.prog [] 148 [.v (.string s)] (.seq (lebT s.data.toList).length 1 (flat QC (lebT s.data.toList))):=(QDY s h).toNew (by rw [QH,Nat.mul_one])
open Proofs
set_option maxHeartbeats 4000000
def shlU (a s:Nat):UInt64:=U64 ((a:Int)*2^s)
def getU (i:Nat) (n:UInt64):List UInt8→UInt64×Nat×Nat
 | []=>(0,0,3)
 | x::l=>if (i=9∧1<x.toNat)∨(0<i∧x.toNat=0) then (0,0,4) else
  if x.toNat<128 then (n|||shlU (x&&&~~~128).toNat (7*i),i+1,0) else getU (i+1) (n|||shlU (x&&&~~~128).toNat (7*i)) l
def guR (q:UInt64×Nat×Nat):AV:=.tup [.v (.int .u64 q.1.toNat),.v (.int .i64 q.2.1),.v (.int .i64 q.2.2)]
theorem QPQ {P:Program} {r s t:ResultVar} {env:List (Nat×AV)} {m:Mem}:resA P [r,s,t] env m=(QBq P env m [r,s,t]).map .tup:=(rfl)
attribute [push_cast] QPQ
theorem QAo (b:List UInt8) (hb:b.length≤1152921504606846976):QE Tryz.prog [] 166 [.seq b.length 1 (flat QC b)] (guR (getU 0 0 b)):=by
 refine QE.start Tryz.func166 rfl zK rfl Tryz.ntmps166 fol zK (by simp [idfL,idf,Qg]) (by simp [guR,idfL,idf]) ?_
 refine zZ ?_
 refine QD (ι:=Nat×UInt64) (fun q=>⟨[(0,.seq b.length 1 (flat QC b)),(2,.v (.int .u64 q.2.toNat)),(7,.seq b.length 1 (flat QC b)),(8,.v (.int .i64 b.length)),(9,.v (.int .i64 q.1))],⟨[],0,0,0⟩⟩)
  (fun q=>q.1≤b.length∧q.1≤9∧getU q.1 q.2 (b.drop q.1)=getU 0 0 b) (fun q=>b.length - q.1) (0,0) ⟨Nat.zero_le _,by decide,rfl⟩ ?_ ?_
 ·refine Ent.freezeN 0 [] [] ?_ ?_ rfl rfl rfl zD rfl rfl
  ·first | exact zC | refine zS ?_
   rfl
  ·exact zC
 rintro⟨i,n⟩ ⟨h1,h2,h3⟩
 simp only at h1 h2 h3
 rw [←h3]
 refine zS ?_
 refine⟨fun h=>?_,fun h=>?_⟩
 ·have hi:i<b.length:=by omega
  obtain⟨x,l,hx⟩:∃x l,b.drop i=x::l:=⟨_,_,List.drop_eq_getElem_cons hi⟩
  have hg:(List.drop i (flat QC b))[0]?=some (.v (.int .u8 x.toNat)):=by
   rw [show List.drop i (flat QC b)=flat QC (b.drop i) from QL,hx];rfl
  have hx8:=x.toNat_lt
  have hsh:∀(u v:Operand) (a:Nat),pbin Tryz.prog .shl 154 u v (.int .u64 a) (.int .u64 (7*(i:Int)))=some (.int .u64 ((shlU a (7*i)).toNat:Nat)):=fun u v a=>by
   have e:pbin Tryz.prog .shl 154 u v (.int .u64 a) (.int .u64 (7*(i:Int)))=prun Tryz.prog (Op.shift .shl .u64 a .u64 (7*(i:Int))):=rfl
   rw [e]
   unfold Op.shift
   rw [if_neg zo]
   show some (Value.int .u64 (IntKind.u64.wrap ((a:Int)*2^(min (7*(i:Int)).toNat 64))))=_
   rw [show min (7*(i:Int)).toNat 64=7*i by omega,QGD]
   rfl
  have hwr:IntKind.u64.wrap (((x&&&~~~128).toNat:Nat):Int)=((x&&&~~~128).toNat:Nat):=QU zo (by have:=(x&&&~~~128).toNat_lt;omega)
  have hor:∀(u v:Operand) (m:UInt64),pbin Tryz.prog .or 154 u v (.int .u64 (n.toNat:Nat)) (.int .u64 (m.toNat:Nat))=some (.int .u64 ((n|||m).toNat:Nat)):=fun u v m=>by rw [QS8,QL8,QL8]
  have hl:b.drop (i+1)=l:=by
   have:=congrArg List.tail hx
   rwa [List.tail_drop,List.tail_cons] at this
  rw [hx,getU]
  (have X1:=hg;have X2:=hwr;have X3:=hsh;refine zS3 ?_;clear X1 X2 X3)
  refine⟨fun h9=>?_,fun h9=>?_⟩
  ·(have X1:=hg;have X2:=hwr;have X3:=hsh;refine zS3 ?_;clear X1 X2 X3)
   refine⟨fun hc=>?_,fun hc=>?_⟩
   ·(have X1:=hg;have X2:=hwr;have X3:=hsh;refine zS3 ?_;clear X1 X2 X3)
    refine⟨fun hd=>?_,fun hd=>by omega⟩
    (have X1:=hg;have X2:=hwr;have X3:=hsh;refine zS3 ?_;clear X1 X2 X3)
    refine⟨fun he=>?_,fun he=>?_⟩
    ·rw [if_pos (.inr ⟨by omega,by omega⟩)]
     (have X1:=@guR.eq_1;first | exact zC1 | refine zS1 ?_)
     rfl
    ·rw [if_neg zo]
     (have X1:=hg;have X2:=hwr;have X3:=hsh;have X4:=hor;refine zS4 ?_;clear X1 X2 X3 X4)
     refine⟨fun hf=>?_,fun hf=>?_⟩
     ·rw [if_pos zo]
      (have X1:=@guR.eq_1;exact zC1)
     ·rw [if_neg zo]
      (have X1:=hg;have X2:=hwr;have X3:=hsh;have X4:=hor;refine zS4 ?_;clear X1 X2 X3 X4)
      refine⟨(i+1,n|||shlU (x&&&~~~128).toNat (7*i)),⟨zO,zO,by show getU (i+1) _ (b.drop (i+1))=_;rw [hl]⟩,zO,?_⟩
      refine Ent.freezeN 0 [] [] ?_ ?_ rfl rfl rfl zD rfl rfl
      ·exact zC
      ·exact zC
   ·rw [if_pos (.inl ⟨by omega,by omega⟩)]
    (have X1:=@guR.eq_1;first | exact zC1 | refine zS1 ?_)
    rfl
  ·(have X1:=hg;have X2:=hwr;have X3:=hsh;refine zS3 ?_;clear X1 X2 X3)
   refine⟨fun hc=>?_,fun hc=>?_⟩
   ·(have X1:=hg;have X2:=hwr;have X3:=hsh;refine zS3 ?_;clear X1 X2 X3)
    refine⟨fun he=>?_,fun he=>?_⟩
    ·rw [if_pos (.inr ⟨by omega,by omega⟩)]
     (have X1:=@guR.eq_1;first | exact zC1 | refine zS1 ?_)
     rfl
    ·rw [if_neg zo]
     (have X1:=hg;have X2:=hwr;have X3:=hsh;have X4:=hor;refine zS4 ?_;clear X1 X2 X3 X4)
     refine⟨fun hf=>?_,fun hf=>?_⟩
     ·rw [if_pos zo]
      (have X1:=@guR.eq_1;exact zC1)
     ·rw [if_neg zo]
      (have X1:=hg;have X2:=hwr;have X3:=hsh;have X4:=hor;refine zS4 ?_;clear X1 X2 X3 X4)
      refine⟨(i+1,n|||shlU (x&&&~~~128).toNat (7*i)),⟨zO,zO,by show getU (i+1) _ (b.drop (i+1))=_;rw [hl]⟩,zO,?_⟩
      refine Ent.freezeN 0 [] [] ?_ ?_ rfl rfl rfl zD rfl rfl
      ·exact zC
      ·exact zC
   ·rw [if_neg zo]
    (have X1:=hg;have X2:=hwr;have X3:=hsh;have X4:=hor;refine zS4 ?_;clear X1 X2 X3 X4)
    refine⟨fun hf=>?_,fun hf=>?_⟩
    ·rw [if_pos zo]
     (have X1:=@guR.eq_1;exact zC1)
    ·rw [if_neg zo]
     (have X1:=hg;have X2:=hwr;have X3:=hsh;have X4:=hor;refine zS4 ?_;clear X1 X2 X3 X4)
     refine⟨(i+1,n|||shlU (x&&&~~~128).toNat (7*i)),⟨zO,zO,by show getU (i+1) _ (b.drop (i+1))=_;rw [hl]⟩,zO,?_⟩
     refine Ent.freezeN 0 [] [] ?_ ?_ rfl rfl rfl zD rfl rfl
     ·exact zC
     ·exact zC
 ·have hi:b.drop i=[]:=List.drop_eq_nil_of_le zo
  rw [hi,getU]
  (have X1:=@guR.eq_1;first | exact zC1 | refine zS1 ?_)
  rfl
open Proofs
set_option maxHeartbeats 4000000
theorem QCn:∀(b:List UInt8) (i:Nat) (n:UInt64),(getU i n b).2.1≤i+b.length∧(getU i n b).2.2≤4
 | [],i,n=>by simp [getU]
 | x::l,i,n=>by
  have h:=QCn l (i+1) (n|||shlU (x&&&~~~128).toNat (7*i))
  rw [getU]
  split
  ·simp
  ·split
   ·simp only [List.length_cons];omega
   ·simp only [List.length_cons];omega
def getT (b:List UInt8) (most:Nat):ByteArray×Nat×Nat:=
 let q:=getU 0 0 b
 if q.2.2≠0 then (⟨#[]⟩,0,q.2.2) else
 if most<q.1.toNat then (⟨#[]⟩,0,5) else
 if b.length - q.2.1<q.1.toNat then (⟨#[]⟩,0,3) else
 (⟨((b.drop q.2.1).take q.1.toNat).toArray⟩,q.2.1+q.1.toNat,0)
def gtR (q:ByteArray×Nat×Nat):AV:=.tup [.v (.string q.1),.v (.int .i64 q.2.1),.v (.int .i64 q.2.2)]
theorem QG9:∀l:List UInt8,QFQ (flat QC l)=some (l.map fun b=>.int .u8 b.toNat)
 | []=>rfl
 | x::l=>by
  have h:=QG9 l
  simp only [flat,List.flatMap_cons,QC,List.cons_append,List.nil_append,QFQ,List.map_cons] at h ⊢
  rw [h];rfl
theorem QAD {P:Program} {s d:TypeId} {find:Nat→Option AObj} {fr n:Nat} {l:List UInt8} (h1:QDR P s=true) (h2:tstr P d=true):QC7 P s d find fr (.seq n 1 (flat QC l))=some (.v (.string ⟨l.toArray⟩),[]):=by
 have e:QC7 P s d find fr (.seq n 1 (flat QC l))=if QDR P s∧tstr P d then match QFQ (flat QC l) with
     | some vs=>if vs.all (QC6 .u8) then some (.v (.string ⟨(vs.map fun | .int _ n=>UInt8.ofNat n.toNat | _=>0).toArray⟩),[]) else none
     | none=>none else none:=rfl
 rw [e,if_pos ⟨h1,h2⟩,QG9]
 have h3:(l.map fun b=>Value.int .u8 b.toNat).all (QC6 .u8)=true:=by
  rw [List.all_eq_true];intro v hv;obtain⟨a,_,rfl⟩:=List.mem_map.1 hv;rfl
 simp only [h3,if_true]
 congr 6
 rw [List.map_map]
 refine (List.map_congr_left (fun a _=>?_)).trans (List.map_id l)
 simp
theorem QCy (b:List UInt8) (most:Nat) (hb:b.length≤1152921504606846976) (hm:most≤1152921504606846976):QE Tryz.prog [] 115 [.seq b.length 1 (flat QC b),.v (.int .i64 most)] (gtR (getT b most)):=by
 refine QE.start Tryz.func115 rfl zK rfl Tryz.ntmps115 fol zK (by simp [idfL,idf,Qg]) (by simp [gtR,idfL,idf]) ?_
 refine zZ ?_
 refine (QAo b hb).useV ?_
 obtain⟨k1,k2⟩:=QCn b 0 0
 have hg:getT b most=getT b most:=rfl
 conv at hg=>rhs;rw [getT]
 generalize getU 0 0 b=q at hg k1 k2 ⊢
 obtain⟨n,k,e⟩:=q
 simp only at hg k1 k2
 rw [hg]
 have hn:=n.toNat_lt
 have hw1:IntKind.u64.wrap (most:Int)=most:=QU zo zo
 have hw2:IntKind.u64.wrap ((b.length:Int) - k)=(b.length:Int) - k:=QU zo zo
 (have X1:=@guR.eq_1;refine zS1 ?_;clear X1)
 refine⟨fun he=>?_,fun he=>?_⟩
 ·rw [if_pos zo]
  (have X1:=@gtR.eq_1;exact zC1)
 ·rw [if_neg zo]
  (have X1:=hw1;have X2:=hw2;refine zS2 ?_;clear X1 X2)
  refine⟨fun h1=>?_,fun h1=>by omega⟩
  (have X1:=hw1;have X2:=hw2;refine zS2 ?_;clear X1 X2)
  refine⟨fun h2=>?_,fun h2=>?_⟩
  ·rw [if_pos zo]
   (have X1:=@gtR.eq_1;first | exact zC1 | refine zS1 ?_)
   rfl
  ·rw [if_neg zo]
   (have X1:=hw1;have X2:=hw2;refine zS2 ?_;clear X1 X2)
   refine⟨fun h3=>?_,fun h3=>?_⟩
   ·rw [if_pos zo]
    (have X1:=@gtR.eq_1;first | exact zC1 | refine zS1 ?_)
    rfl
   ·rw [if_neg zo]
    have e2:((k:Int)+(n.toNat:Int)).toNat - k=n.toNat:=by omega
    have hc:∀f g,QC7 Tryz.prog 23 9 f g (.seq n.toNat 1 (List.take n.toNat (List.drop k (flat QC b))))=some (.v (.string ⟨((b.drop k).take n.toNat).toArray⟩),[]):=fun f g=>by
     rw [QL,QT];exact QAD zK zK
    (have X1:=hw1;have X2:=hw2;have X3:=e2;have X4:=hc;have X5:=@gtR.eq_1;exact zC5)
open Proofs
set_option maxHeartbeats 4000000
def QAe (b:List UInt8) (e:Nat):List AV:=[.seq b.length 1 (flat QC b),.v (.int .i64 e)]
theorem QKe (b:List UInt8) (used:Nat) (h:used≤b.length):
  QM Tryz.prog [] 167 [.ptr 0 0,.v (.int .i64 used),.v (.int .i64 0)] [(0,.cells 214 (QAe b 0) false)] 1 (.v (.bool true))
   [(0,.cells 214 (QAe (b.drop used) 0) false)] 1:=by
 refine QM.start Tryz.func167 rfl zK rfl Tryz.ntmps167 fol zK (Nat.le_refl _) ?_
 refine zz ?_
 have hd:List.take (b.length - used) (List.drop used (flat QC b))=flat QC (b.drop used):=by
  rw [QL,QT,List.take_of_length_le (by rw [List.length_drop];exact Nat.le_refl _)]
 (have X1:=@QAe.eq_1;have X2:=hd;have X3:=@List.length_drop.{0};refine zS3 ?_;clear X1 X2 X3)
 refine Ent.freezeN 1 [(0,0)] [] ?_ ?_ rfl rfl rfl zD rfl rfl
 ·exact zC
 ·exact zC
theorem QDk (b:List UInt8) (used e1 e2:Nat) (h:e1=0→e2≠0):
  QM Tryz.prog [] 167 [.ptr 0 0,.v (.int .i64 used),.v (.int .i64 e2)] [(0,.cells 214 (QAe b e1) false)] 1 (.v (.bool false))
   [(0,.cells 214 (QAe b (if e1=0 then e2 else e1)) false)] 1:=by
 refine QM.start Tryz.func167 rfl zK rfl Tryz.ntmps167 fol zK (Nat.le_refl _) ?_
 refine zz ?_
 (have X1:=@QAe.eq_1;refine zS1 ?_;clear X1)
 refine⟨fun h1=>?_,fun h1=>?_⟩
 ·rw [if_pos zo]
  have h2:=h zo
  refine zS ?_
  refine⟨fun h3=>?_,fun h3=>by omega⟩
  refine zS ?_
  refine Ent.freezeN 1 [(0,0)] [] ?_ ?_ rfl rfl rfl zD rfl rfl
  ·exact zC
  ·exact zC
 ·rw [if_neg zo]
  refine zS ?_
  refine⟨fun h3=>?_,fun h3=>by omega⟩
  refine zS ?_
  refine Ent.freezeN 1 [(0,0)] [] ?_ ?_ rfl rfl rfl zD rfl rfl
  ·exact zC
  ·exact zC
open Proofs
set_option maxHeartbeats 4000000
def ruF (b:List UInt8) (most:Nat):Nat×Nat×Nat:=
 let q:=getU 0 0 b
 (q.1.toNat,q.2.1,if q.2.2=0∧most<q.1.toNat then 5 else q.2.2)
theorem QKR:QLl Tryz.prog 150=some 0:=zK
attribute [push_cast] QKR
theorem QO3 (b:List UInt8) (used e1 e2:Nat) (h:e1≠0):
  QM Tryz.prog [] 167 [.ptr 0 0,.v (.int .i64 used),.v (.int .i64 e2)] [(0,.cells 214 (QAe b e1) false)] 1 (.v (.bool false))
   [(0,.cells 214 (QAe b e1) false)] 1:=by
 have:=QDk b used e1 e2 zo
 rwa [if_neg h] at this
theorem Qaf (b:List UInt8) (e most:Nat) (hb:b.length≤1152921504606846976) (hm:most<18446744073709551616):
  QM Tryz.prog [] 110 [.ptr 0 0,.v (.int .u64 most)] [(0,.cells 214 (QAe b e) false)] 1
   (.v (.int .u64 (if e=0∧(ruF b most).2.2=0 then (ruF b most).1 else 0:Nat)))
   [(0,.cells 214 (if e=0∧(ruF b most).2.2=0 then QAe (b.drop (ruF b most).2.1) 0 else QAe b (if e=0 then (ruF b most).2.2 else e)) false)] 1:=by
 refine QM.start Tryz.func110 rfl zK rfl Tryz.ntmps110 fol zK (Nat.le_refl _) ?_
 refine zz ?_
 (have X1:=@QAe.eq_1;refine zS1 ?_;clear X1)
 refine (QAo b hb).useV ?_
 generalize hq:getU 0 0 b=q
 obtain⟨n,k,e2⟩:=q
 have hr:ruF b most=(n.toNat,k,if e2=0∧most<n.toNat then 5 else e2):=by rw [ruF,hq]
 have hk:k≤b.length:=by have:=(QCn b 0 0).1;rw [hq] at this;simpa using this
 (have X1:=@guR.eq_1;refine zS1 ?_;clear X1)
 refine⟨fun h1=>?_,fun h1=>?_⟩
 ·obtain rfl:e2=0:=by omega
  refine zS ?_
  refine⟨fun h2=>?_,fun h2=>?_⟩
  ·rw [if_pos ⟨rfl,by omega⟩] at hr
   rw [hr,if_neg (show ¬(e=0∧(n.toNat,k,5).2.2=0) by simp),if_neg (show ¬(e=0∧(n.toNat,k,5).2.2=0) by simp)]
   refine zS ?_
   refine QM.useX [0] (QDk b k e 5 zo) rfl rfl ?_ ?_
   ·(have X1:=@QAe.eq_1;exact zC1)
   (have X1:=@QAe.eq_1;refine zS1 ?_;clear X1)
   refine Ent.freezeN 1 [(0,0)] [] ?_ ?_ rfl rfl rfl zD rfl rfl
   ·exact zC
   ·exact zC
  ·rw [if_neg zo] at hr
   rw [hr]
   by_cases he:e=0
   ·subst he
    rw [if_pos (show 0=0∧(n.toNat,k,0).2.2=0 from ⟨rfl,rfl⟩),if_pos (show 0=0∧(n.toNat,k,0).2.2=0 from ⟨rfl,rfl⟩)]
    refine zS ?_
    refine QM.useX [0] (QKe b k hk) rfl rfl ?_ ?_
    ·(have X1:=@QAe.eq_1;exact zC1)
    (have X1:=@QAe.eq_1;refine zS1 ?_;clear X1)
    refine Ent.freezeN 1 [(0,0)] [] ?_ ?_ rfl rfl rfl zD rfl rfl
    ·exact zC
    ·exact zC
   ·rw [if_neg (fun h=>he h.1),if_neg (fun h=>he h.1),if_neg he]
    refine zS ?_
    refine QM.useX [0] (QO3 b k e 0 he) rfl rfl ?_ ?_
    ·(have X1:=@QAe.eq_1;exact zC1)
    (have X1:=@QAe.eq_1;refine zS1 ?_;clear X1)
    refine Ent.freezeN 1 [(0,0)] [] ?_ ?_ rfl rfl rfl zD rfl rfl
    ·exact zC
    ·exact zC
 ·have he2:e2≠0:=by omega
  rw [if_neg (fun h=>he2 h.1)] at hr
  rw [hr,if_neg (fun h=>he2 h.2),if_neg (fun h=>he2 h.2)]
  refine zS ?_
  refine QM.useX [0] (QDk b k e e2 zo) rfl rfl ?_ ?_
  ·(have X1:=@QAe.eq_1;exact zC1)
  (have X1:=@QAe.eq_1;refine zS1 ?_;clear X1)
  refine Ent.freezeN 1 [(0,0)] [] ?_ ?_ rfl rfl rfl zD rfl rfl
  ·exact zC
  ·exact zC
open Proofs
set_option maxHeartbeats 4000000
theorem Qbb (b:List UInt8) (e:Nat):QM Tryz.prog [] 112 [.ptr 0 0] [(0,.cells 214 (QAe b e) false)] 1 (.v (.int .i64 b.length))
   [(0,.cells 214 (QAe b e) false)] 1:=by
 refine QM.start Tryz.func112 rfl zK rfl Tryz.ntmps112 fol zK (Nat.le_refl _) ?_
 refine zz ?_
 (have X1:=@QAe.eq_1;refine zS1 ?_;clear X1)
 refine Ent.freezeN 1 [(0,0)] [] ?_ ?_ rfl rfl rfl zD rfl rfl
 ·exact zC
 ·exact zC
theorem QfM (b:List UInt8) (e:Nat):QM Tryz.prog [] 114 [.ptr 0 0] [(0,.cells 214 (QAe b e) false)] 1 (.v (.int .i64 e))
   [(0,.cells 214 (QAe b e) false)] 1:=by
 refine QM.start Tryz.func114 rfl zK rfl Tryz.ntmps114 fol zK (Nat.le_refl _) ?_
 refine zz ?_
 (have X1:=@QAe.eq_1;refine zS1 ?_;clear X1)
 refine Ent.freezeN 1 [(0,0)] [] ?_ ?_ rfl rfl rfl zD rfl rfl
 ·exact zC
 ·exact zC
theorem QJi (b:List UInt8) (most:Nat):(getT b most).2.1≤b.length:=by
 have h:=(QCn b 0 0).1
 rw [getT]
 split
 ·exact Nat.zero_le _
 ·split
  ·exact Nat.zero_le _
  ·split
   ·exact Nat.zero_le _
   ·simp only;omega
theorem QeY (b:List UInt8) (e most:Nat) (hb:b.length≤1152921504606846976) (hm:most≤1152921504606846976):
  QM Tryz.prog [] 111 [.ptr 0 0,.v (.int .i64 most)] [(0,.cells 214 (QAe b e) false)] 1
   (.v (.string (if e=0∧(getT b most).2.2=0 then (getT b most).1 else ⟨#[]⟩)))
   [(0,.cells 214 (if e=0∧(getT b most).2.2=0 then QAe (b.drop (getT b most).2.1) 0 else QAe b (if e=0 then (getT b most).2.2 else e)) false)] 1:=by
 refine QM.start Tryz.func111 rfl zK rfl Tryz.ntmps111 fol zK (Nat.le_refl _) ?_
 refine zz ?_
 (have X1:=@QAe.eq_1;refine zS1 ?_;clear X1)
 refine (QCy b most hb hm).useV ?_
 have hk:=QJi b most
 generalize getT b most=q at hk ⊢
 obtain⟨s,k,e2⟩:=q
 simp only at hk
 (have X1:=@gtR.eq_1;refine zS1 ?_;clear X1)
 by_cases he2:e2=0
 ·subst he2
  by_cases he:e=0
  ·subst he
   rw [if_pos (show 0=0∧(s,k,0).2.2=0 from ⟨rfl,rfl⟩),if_pos (show 0=0∧(s,k,0).2.2=0 from ⟨rfl,rfl⟩)]
   refine QM.useX [0] (QKe b k hk) rfl rfl ?_ ?_
   ·(have X1:=@QAe.eq_1;exact zC1)
   (have X1:=@QAe.eq_1;refine zS1 ?_;clear X1)
   refine Ent.freezeN 1 [(0,0)] [] ?_ ?_ rfl rfl rfl zD rfl rfl
   ·exact zC
   ·exact zC
  ·rw [if_neg (fun h=>he h.1),if_neg (fun h=>he h.1),if_neg he]
   refine QM.useX [0] (QO3 b k e 0 he) rfl rfl ?_ ?_
   ·(have X1:=@QAe.eq_1;exact zC1)
   (have X1:=@QAe.eq_1;refine zS1 ?_;clear X1)
   refine Ent.freezeN 1 [(0,0)] [] ?_ ?_ rfl rfl rfl zD rfl rfl
   ·exact zC
   ·exact zC
 ·rw [if_neg (fun h=>he2 h.2),if_neg (fun h=>he2 h.2)]
  refine QM.useX [0] (QDk b k e e2 zo) rfl rfl ?_ ?_
  ·(have X1:=@QAe.eq_1;exact zC1)
  (have X1:=@QAe.eq_1;refine zS1 ?_;clear X1)
  refine Ent.freezeN 1 [(0,0)] [] ?_ ?_ rfl rfl rfl zD rfl rfl
  ·exact zC
  ·exact zC
open Proofs
set_option maxHeartbeats 4000000
theorem QQq (b:List UInt8) (hb:b.length≤70000000000000):QM Tryz.prog [] 109 [.seq b.length 1 (flat QC b)] [] 0 (.ptr 0 0) [(0,.cells 214 (QAe b 0) false)] 1:=by
 refine QM.start Tryz.func109 rfl zK rfl Tryz.ntmps109 fol zK zD ?_
 refine zz ?_
 (have X1:=@QAe.eq_1;refine zS1 ?_;clear X1)
 refine⟨by decide,?_⟩
 refine Ent.freezeN 0 [(0,41)] [41] ?_ ?_ rfl rfl rfl zD rfl rfl
 ·(have X1:=@Nat.sub_zero;exact zC1)
 ·(have X1:=@Nat.sub_zero;exact zC1)
end Go.AW
