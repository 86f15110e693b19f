/- A part of the proof: D22 D23 D24 D25. -/
import Derived.Test.YtpcbnjbpdooejaaGreatDoorJae
import Derived.Test.YtpcbnjbpdooejaaGreatDoorJaj
import Derived.Test.YtpcbnjbpdooejaaGreatDoorJai
import Derived.Test.YtpcbnjbpdooejaaGreatDoorJag
set_option linter.unusedSimpArgs false
set_option linter.unusedVariables false
set_option maxRecDepth 100000
set_option maxHeartbeats 8000000
namespace Go.AW
open Proofs
def grp (i:Nat):List UInt8→Nat×Nat
 | []=>if 10≤i then (0,4) else (0,3)
 | x::l=>if 10≤i then (0,4) else if x.toNat<128 then (i+1,0) else grp (i+1) l
theorem QOq (b:List UInt8) (hb:b.length≤1152921504606846976):QE Tryz.prog [] 239 [.seq b.length 1 (flat QC b)] (.tup [.v (.int .i64 (grp 0 b).1),.v (.int .i64 (grp 0 b).2)]):=by
 refine QE.start Tryz.func239 rfl (by kernel_rfl) rfl Tryz.ntmps239 fol (by kernel_rfl) zI zI ?_
 refine zZ ?_
 refine QD (ι:=Nat) (fun i=>⟨[(0,.seq b.length 1 (flat QC b)),(4,.v (.int .i64 i))],⟨[],0,0,0⟩⟩) (fun i=>i≤b.length∧i≤10∧grp i (b.drop i)=grp 0 b) (fun i=>10 - i) 0 ⟨Nat.zero_le _,by decide,rfl⟩ ?_ ?_
 ·exact fzN 0 [] []
 rintro i ⟨h1,h2,h3⟩
 rw [←h3]
 refine zS ?_
 refine⟨fun h=>?_,fun h=>?_⟩
 ·refine zS ?_
  refine⟨fun he=>?_,fun he=>?_⟩
  ·rw [List.drop_eq_nil_of_le (by omega),grp,if_neg (by omega)]
   first | exact zC | refine zS ?_
   rfl
  ·have hi:i<b.length:=by omega
   obtain⟨x,l,hx⟩:∃x l,b.drop i=x::l:=⟨_,_,List.drop_eq_getElem_cons hi⟩
   have hg:(List.drop i (flat QC b))[0]?=some (.v (.int .u8 x.toNat)):=by
    rw [show List.drop i (flat QC b)=flat QC (b.drop i) from QL,hx];rfl
   have hl:b.drop (i+1)=l:=by
    have:=congrArg List.tail hx
    rwa [List.tail_drop,List.tail_cons] at this
   rw [hx,grp,if_neg (by omega)]
   (have X1:=hg;refine zS1 ?_;clear X1)
   refine⟨fun hc=>?_,fun hc=>?_⟩
   ·rw [if_pos (by omega)]
    (have X1:=hg;exact zC1)
   ·rw [if_neg (by omega)]
    (have X1:=hg;refine zS1 ?_;clear X1)
    refine⟨i+1,⟨by omega,by omega,by rw [hl]⟩,zO,?_⟩
    exact fzN 0 [] []
 ·have h10:i=10:=by omega
  subst h10
  have:grp 10 (b.drop 10)=(0,4):=by cases b.drop 10<;>simp [grp]
  rw [this]
  first | exact zC | refine zS ?_
  try rfl
def rNum (l:List UInt8):UInt64:=l.foldr (fun x n=>shlU n.toNat 7|||UInt64.ofNat (x.toNat % 128)) 0
def rgU (b:List UInt8):UInt64×Nat×Nat:=
 if (grp 0 b).2≠0 then (0,0,(grp 0 b).2) else
 if lebU (rNum (b.take (grp 0 b).1)).toNat≠b.take (grp 0 b).1 then (0,0,4) else (rNum (b.take (grp 0 b).1),(grp 0 b).1,0)
theorem QIE:∀(l:List UInt8) (i:Nat),(grp i l).1≤i+l.length∧(grp i l).1≤10∧((grp i l).2=0→i<(grp i l).1)∧(grp i l).2≤4
 | [],i=>by rw [grp];split<;>simp
 | x::l,i=>by
  rw [grp]
  split
  ·simp
  ·split
   ·simp;omega
   ·have:=QIE l (i+1)
    simp only [List.length_cons];omega
theorem QQ2 {t:TypeId} {x y:Operand} {P:Program} {k':IntKind} {a:Int} {s:Nat} (h:s≤64) (h0:0≤a):pbin P .shl t x y (.int .u64 a) (.int k' (no_index (OfNat.ofNat s)))=some (.int .u64 ((shlU a.toNat s).toNat:Nat)):=by
 have e:pbin P .shl t x y (.int .u64 a) (.int k' (s:Nat))=prun P (Op.shift .shl .u64 a k' (s:Nat)):=rfl
 show pbin P .shl t x y (.int .u64 a) (.int k' (s:Nat))=_
 rw [e]
 unfold Op.shift
 rw [if_neg (by omega)]
 show some (Value.int .u64 (IntKind.u64.wrap (a*2^(min (s:Int).toNat 64))))=_
 rw [show min (s:Int).toNat 64=s by omega,QGD,shlU,Int.toNat_of_nonneg h0]
theorem QHj {l m:List UInt8}:(⟨l.toArray⟩:ByteArray)=⟨m.toArray⟩↔l=m:=⟨fun h=>by injection h with h;simpa using h,fun h=>by rw [h]⟩
theorem QB0 (b:List UInt8) (hb:b.length≤1152921504606846976):QE Tryz.prog [] 206 [.seq b.length 1 (flat QC b)] (guR (rgU b)):=by
 refine QE.start Tryz.func206 rfl (by kernel_rfl) rfl Tryz.ntmps206 fol (by kernel_rfl) (by simp [idfL,idf,QZ QS,QS,Qg,Qy,guR]) (by simp [idfL,idf,QZ QS,QS,Qg,Qy,guR]) ?_
 refine zZ ?_
 refine (QOq b hb).useV ?_
 obtain⟨k1,k2,k3,k4⟩:=QIE b 0
 have hr:rgU b=rgU b:=rfl
 conv at hr=>rhs;rw [rgU]
 generalize grp 0 b=q at hr k1 k2 k3 k4 ⊢
 obtain⟨k,e⟩:=q
 simp only at hr k1 k2 k3 k4
 rw [hr]
 refine zS ?_
 refine⟨fun he=>?_,fun he=>?_⟩
 ·rw [if_pos (by omega)]
  (have X1:=@guR.eq_1;first | exact zC1 | refine zS1 ?_)
  try rfl
 ·rw [if_neg (by omega)]
  have hk:=k3 (by omega)
  generalize hp:b.take k=p
  have hpl:p.length=k:=by rw [←hp,List.length_take];omega
  refine zS ?_
  refine QD (ι:=Nat) (fun j=>⟨[(0,.seq b.length 1 (flat QC b)),(5,.v (.int .i64 k)),(7,.v (.int .u64 ((rNum (p.drop j)).toNat:Nat))),(8,.v (.int .i64 ((j:Int) - 1)))],⟨[],0,0,0⟩⟩) (fun j=>j≤k) (fun j=>j) k (Nat.le_refl _) ?_ ?_
  ·refine fzNM 0 [] [] ?_ ?_<;>first | exact zC | refine zS ?_
   rw [List.drop_eq_nil_of_le (by omega)]
   rfl
  rintro j hj
  refine zS ?_
  refine⟨fun h=>?_,fun h=>?_⟩
  ·have hj1:j - 1<b.length:=by omega
   have hj2:j - 1<p.length:=by omega
   obtain⟨x,hx⟩:∃x,x=b[j - 1]:=⟨_,rfl⟩
   have e1:((j:Int) - 1).toNat=j - 1:=by omega
   have hg:(List.drop (j - 1) (flat QC b))[0]?=some (.v (.int .u8 x.toNat)):=by
    rw [QL,List.drop_eq_getElem_cons hj1,hx];rfl
   have hd:p.drop (j - 1)=x::p.drop j:=by
    rw [List.drop_eq_getElem_cons hj2,show j - 1+1=j by omega,hx]
    congr 1
    simp [←hp]
   have hs:∀(m:Nat) (u v:Operand) (k':IntKind),pbin Tryz.prog .shl 154 u v (.int .u64 (m:Nat)) (.int k' 7)=some (.int .u64 ((shlU m 7).toNat:Nat)):=fun m u v k'=>QQ2 (s:=7) (by decide) (Int.natCast_nonneg _)
   have hw:IntKind.u64.wrap ((x.toNat:Int) % 128)=(x.toNat:Int) % 128:=QU (by omega) (by omega)
   (have X1:=e1;have X2:=hg;have X3:=hs;have X4:=hw;have X5:=@QS8;have X6:=@QL8;refine zS6 ?_;clear X1 X2 X3 X4 X5 X6)
   have hn:rNum (p.drop (j - 1))=shlU (rNum (p.drop j)).toNat 7|||U64 ((x.toNat:Int) % 128):=by
    rw [hd,show (x.toNat:Int) % 128=((x.toNat % 128:Nat):Int) by omega,QFy];rfl
   refine⟨j - 1,by omega,zO,?_⟩
   simp only [show (((j - 1:Nat):Int) - 1)=(j:Int) - 1 - 1 by omega,hn]
   exact fzN 0 [] []
  ·obtain rfl:j=0:=by omega
   refine zS ?_
   have hc1:∀f g l,QC7 Tryz.prog 23 9 f g (.seq l.length 1 (flat QC l))=some (.v (.string ⟨l.toArray⟩),[]):=fun f g l=>QAD (by kernel_rfl) (by kernel_rfl)
   have hc2:∀f g,QC7 Tryz.prog 23 9 f g (.seq k 1 (List.take k (flat QC b)))=some (.v (.string ⟨p.toArray⟩),[]):=fun f g=>by
    rw [QT,hp];exact QAD (by kernel_rfl) (by kernel_rfl)
   refine QO.useN (QIn (rNum p).toNat (rNum p).toNat_lt) rfl ?_
   (have X1:=hc1;have X2:=hc2;refine zS2 ?_;clear X1 X2)
   refine⟨fun h1=>?_,fun h1=>?_⟩
   ·rw [if_pos (fun e=>h1 (by rw [e]))]
    (have X1:=@guR.eq_1;first | exact zC1 | refine zS1 ?_)
    try rfl
   ·rw [if_neg (fun e=>e (QHj.1 h1))]
    (have X1:=@guR.eq_1;exact zC1)
def QC8:List UInt8→Int
 | []=>0
 | [x]=>(x.toNat:Int) % 64 - (if 64≤(x.toNat:Int) % 128 then 64 else 0)
 | x::l=>orI (shlI (QC8 l) 7) ((x.toNat:Int) % 128)
def rgI (b:List UInt8):Int×Nat×Nat:=
 if (grp 0 b).2≠0 then (0,0,(grp 0 b).2) else
 if lebS (QC8 (b.take (grp 0 b).1))≠b.take (grp 0 b).1 then (0,0,4) else (QC8 (b.take (grp 0 b).1),(grp 0 b).1,0)
theorem QAi (a:Int):-9223372036854775808≤IntKind.i64.wrap a∧IntKind.i64.wrap a<9223372036854775808:=by
 have e:IntKind.i64.wrap a=if (decide (a % 18446744073709551616≥9223372036854775808))=true then a % 18446744073709551616 - 18446744073709551616 else a % 18446744073709551616:=rfl
 rw [e]
 split<;>rename_i h<;>simp only [decide_eq_true_eq] at h<;>omega
theorem QGg:∀l,-9223372036854775808≤QC8 l∧QC8 l<9223372036854775808
 | []=>by simp [QC8]
 | [x]=>by simp only [QC8];split<;>omega
 | x::y::l=>by rw [QC8];exact QAi _;simp
theorem QPN {t:TypeId} {x y:Operand} {P:Program} {k':IntKind} {a:Int} {s:Nat} (h:s≤64):pbin P .shl t x y (.int .i64 a) (.int k' (no_index (OfNat.ofNat s)))=some (.int .i64 (shlI a s)):=by
 have e:pbin P .shl t x y (.int .i64 a) (.int k' (s:Nat))=prun P (Op.shift .shl .i64 a k' (s:Nat)):=rfl
 show pbin P .shl t x y (.int .i64 a) (.int k' (s:Nat))=_
 rw [e]
 unfold Op.shift
 rw [if_neg (by omega)]
 show some (Value.int .i64 (IntKind.i64.wrap (a*2^(min (s:Int).toNat 64))))=_
 rw [show min (s:Int).toNat 64=s by omega,shlI]
theorem QSt (b:List UInt8) (hb:b.length≤1152921504606846976):QE Tryz.prog [] 241 [.seq b.length 1 (flat QC b)] (giR (rgI b)):=by
 refine QE.start Tryz.func241 rfl (by kernel_rfl) rfl Tryz.ntmps241 fol (by kernel_rfl) (by simp [idfL,idf,QZ QS,QS,Qg,Qy,giR]) (by simp [idfL,idf,QZ QS,QS,Qg,Qy,giR]) ?_
 refine zZ ?_
 refine (QOq b hb).useV ?_
 obtain⟨k1,k2,k3,k4⟩:=QIE b 0
 have hr:rgI b=rgI b:=rfl
 conv at hr=>rhs;rw [rgI]
 generalize grp 0 b=q at hr k1 k2 k3 k4 ⊢
 obtain⟨k,e⟩:=q
 simp only at hr k1 k2 k3 k4
 rw [hr]
 refine zS ?_
 refine⟨fun he=>?_,fun he=>?_⟩
 ·rw [if_pos (by omega)]
  (have X1:=@giR.eq_1;first | exact zC1 | refine zS1 ?_)
  try rfl
 ·rw [if_neg (by omega)]
  have hk:=k3 (by omega)
  generalize hp:b.take k=p
  have hpl:p.length=k:=by rw [←hp,List.length_take];omega
  obtain⟨z,hz⟩:∃z,z=b[k - 1]'(by omega):=⟨_,rfl⟩
  have e0:((k:Int) - 1).toNat=k - 1:=by omega
  have hgz:(List.drop (k - 1) (flat QC b))[0]?=some (.v (.int .u8 z.toNat)):=by
   rw [QL,List.drop_eq_getElem_cons (show k - 1<b.length by omega),hz];rfl
  have hdz:p.drop (k - 1)=[z]:=by
   rw [List.drop_eq_getElem_cons (show k - 1<p.length by omega),List.drop_eq_nil_of_le (by omega),hz]
   simp [←hp]
  have hwz:IntKind.i64.wrap ((z.toNat:Int) % 64)=(z.toNat:Int) % 64:=QAN (by omega) (by omega)
  (have X1:=e0;have X2:=hgz;have X3:=hwz;refine zS3 ?_;clear X1 X2 X3)
  refine⟨fun hs=>?_,fun hs=>?_⟩
  all_goals
   have hnz:QC8 [z]=QC8 [z]:=rfl
   conv at hnz=>rhs;rw [QC8]
   first | rw [if_pos hs] at hnz | (rw [if_neg hs,Int.sub_zero] at hnz)
   refine zS ?_
   refine QD (ι:=Nat) (fun j=>⟨[(0,.seq b.length 1 (flat QC b)),(5,.v (.int .i64 k)),(7,.v (.int .i64 (QC8 (p.drop j)))),(8,.v (.int .i64 ((j:Int) - 1)))],⟨[],0,0,0⟩⟩) (fun j=>j+1≤k) (fun j=>j) (k - 1) (by omega) ?_ ?_
   ·simp only [hdz,hnz,show (((k - 1:Nat):Int) - 1)=(k:Int) - 2 by omega]
    exact fzN 0 [] []
   rintro j hj
   refine zS ?_
   refine⟨fun h=>?_,fun h=>?_⟩
   ·have hj1:j - 1<b.length:=by omega
    have hj2:j - 1<p.length:=by omega
    obtain⟨x,hx⟩:∃x,x=b[j - 1]:=⟨_,rfl⟩
    have e1:((j:Int) - 1).toNat=j - 1:=by omega
    have hg:(List.drop (j - 1) (flat QC b))[0]?=some (.v (.int .u8 x.toNat)):=by
     rw [QL,List.drop_eq_getElem_cons hj1,hx];rfl
    have hd:p.drop (j - 1)=x::p.drop j:=by
     rw [List.drop_eq_getElem_cons hj2,show j - 1+1=j by omega,hx]
     congr 1
     simp [←hp]
    have hs7:∀(m:Int) (u v:Operand) (k':IntKind),pbin Tryz.prog .shl 2 u v (.int .i64 m) (.int k' 7)=some (.int .i64 (shlI m 7)):=fun m u v k'=>QPN (s:=7) (by decide)
    have hw:IntKind.i64.wrap ((x.toNat:Int) % 128)=(x.toNat:Int) % 128:=QAN (by omega) (by omega)
    (have X1:=e1;have X2:=hg;have X3:=hs7;have X4:=hw;have X5:=@QN2;refine zS5 ?_;clear X1 X2 X3 X4 X5)
    have hn:QC8 (p.drop (j - 1))=orI (shlI (QC8 (p.drop j)) 7) ((x.toNat:Int) % 128):=by
     rw [hd]
     have hne:p.drop j≠[]:=by
      intro e;have:=congrArg List.length e;rw [List.length_drop] at this;simp at this;omega
     cases hq:p.drop j with
     | nil=>exact absurd hq hne
     | cons y l=>rw [QC8];simp
    refine⟨j - 1,by omega,zO,?_⟩
    simp only [show (((j - 1:Nat):Int) - 1)=(j:Int) - 1 - 1 by omega,hn]
    exact fzN 0 [] []
   ·obtain rfl:j=0:=by omega
    refine zS ?_
    have hc1:∀f g l,QC7 Tryz.prog 23 9 f g (.seq l.length 1 (flat QC l))=some (.v (.string ⟨l.toArray⟩),[]):=fun f g l=>QAD (by kernel_rfl) (by kernel_rfl)
    have hc2:∀f g,QC7 Tryz.prog 23 9 f g (.seq k 1 (List.take k (flat QC b)))=some (.v (.string ⟨p.toArray⟩),[]):=fun f g=>by
     rw [QT,hp];exact QAD (by kernel_rfl) (by kernel_rfl)
    refine QO.useN (QaE (QC8 p) (QGg p).1 (QGg p).2) rfl ?_
    (have X1:=hc1;have X2:=hc2;refine zS2 ?_;clear X1 X2)
    refine⟨fun h1=>?_,fun h1=>?_⟩
    ·rw [if_pos (fun e=>h1 (by rw [e]))]
     (have X1:=@giR.eq_1;first | exact zC1 | refine zS1 ?_)
     try rfl
    ·rw [if_neg (fun e=>e (QHj.1 h1))]
     (have X1:=@giR.eq_1;exact zC1)
open Proofs
theorem QEj (b:List UInt8):(rgU b).2.1≤b.length∧(rgU b).2.2≤4:=by
 have h:=QIE b 0
 rw [rgU]
 split
 ·simp;omega
 ·split
  ·simp
  ·simp;omega
def rgT (b:List UInt8) (most:Nat):ByteArray×Nat×Nat:=
 let q:=rgU b
 if q.2.2≠0 then (⟨#[]⟩,0,q.2.2) else
 if most<q.1.toNat then (⟨#[]⟩,0,5) else
 if b.length - q.2.1<q.1.toNat then (⟨#[]⟩,0,3) else
 (⟨((b.drop q.2.1).take q.1.toNat).toArray⟩,q.2.1+q.1.toNat,0)
theorem QLp (b:List UInt8) (most:Nat):(rgT b most).2.1≤b.length:=by
 have h:=(QEj b).1
 rw [rgT]
 split
 ·exact Nat.zero_le _
 ·split
  ·exact Nat.zero_le _
  ·split
   ·exact Nat.zero_le _
   ·simp only;omega
theorem QFL (b:List UInt8) (most:Nat) (hb:b.length≤1152921504606846976) (hm:most≤1152921504606846976):QE Tryz.prog [] 204 [.seq b.length 1 (flat QC b),.v (.int .i64 most)] (gtR (rgT b most)):=by
 refine QE.start Tryz.func204 rfl (by kernel_rfl) rfl Tryz.ntmps204 fol (by kernel_rfl) (by simp [idfL,idf,QZ QS,QS,Qg,Qy,gtR]) (by simp [idfL,idf,QZ QS,QS,Qg,Qy,gtR]) ?_
 refine zZ ?_
 refine (QB0 b hb).useV ?_
 obtain⟨k1,k2⟩:=QEj b
 have hg:rgT b most=rgT b most:=rfl
 conv at hg=>rhs;rw [rgT]
 generalize rgU b=q at hg k1 k2 ⊢
 obtain⟨n,k,e⟩:=q
 simp only at hg k1 k2
 rw [hg]
 have hn:=n.toNat_lt
 have hw1:IntKind.u64.wrap (most:Int)=most:=QU (by omega) (by omega)
 have hw2:IntKind.u64.wrap ((b.length:Int) - k)=(b.length:Int) - k:=QU (by omega) (by omega)
 (have X1:=@guR.eq_1;refine zS1 ?_;clear X1)
 refine⟨fun he=>?_,fun he=>?_⟩
 ·rw [if_pos (by omega)]
  (have X1:=@gtR.eq_1;exact zC1)
 ·rw [if_neg (by omega)]
  (have X1:=hw1;have X2:=hw2;refine zS2 ?_;clear X1 X2)
  refine⟨fun h1=>?_,fun h1=>by omega⟩
  (have X1:=hw1;have X2:=hw2;refine zS2 ?_;clear X1 X2)
  refine⟨fun h2=>?_,fun h2=>?_⟩
  ·rw [if_pos (by omega)]
   (have X1:=@gtR.eq_1;first | exact zC1 | refine zS1 ?_)
   rfl
  ·rw [if_neg (by omega)]
   (have X1:=hw1;have X2:=hw2;refine zS2 ?_;clear X1 X2)
   refine⟨fun h3=>?_,fun h3=>?_⟩
   ·rw [if_pos (by omega)]
    (have X1:=@gtR.eq_1;first | exact zC1 | refine zS1 ?_)
    rfl
   ·rw [if_neg (by omega)]
    have e2:((k:Int)+(n.toNat:Int)).toNat - k=n.toNat:=by omega
    have hc:∀f g,QC7 Tryz.prog 23 9 f g (.seq n.toNat 1 (List.take n.toNat (List.drop k (flat QC b))))=some (.v (.string ⟨((b.drop k).take n.toNat).toArray⟩),[]):=fun f g=>by
     rw [QL,QT];exact QAD (by kernel_rfl) (by kernel_rfl)
    (have X1:=hw1;have X2:=hw2;have X3:=e2;have X4:=hc;have X5:=@gtR.eq_1;exact zC5)
def rdV (b:List UInt8) (e:Nat):AV:=.agg [.seq b.length 1 (flat QC b),.v (.int .i64 e)]
theorem QFq (b:List UInt8) (e f:Nat) (hb:b.length≤1152921504606846976):QE Tryz.prog [] 205 [rdV b e,.v (.int .i64 f)] (rdV b (if e=0 then f else e)):=by
 refine QE.start Tryz.func205 rfl (by kernel_rfl) rfl Tryz.ntmps205 fol (by kernel_rfl) (by simp [idfL,idf,QZ QS,QS,Qg,Qy,rdV]) (by simp [idfL,idf,QZ QS,QS,Qg,Qy,rdV]) ?_
 refine zz ?_
 (have X1:=@rdV.eq_1;refine zS1 ?_;clear X1)
 refine⟨fun h=>?_,fun h=>?_⟩
 ·rw [if_pos (by omega)]
  exact zC
 ·rw [if_neg (by omega)]
  exact zC
def rstF (b:List UInt8) (e k f:Nat):List UInt8×Nat:=if e=0∧f=0 then (b.drop k,0) else (b,if e=0 then f else e)
theorem QOI (b : List UInt8) (e most : Nat) (hb : b.length ≤ 1152921504606846976) (hm : most ≤ 1152921504606846976) : QE Tryz.prog [] 156 [rdV b e, .v (.int .i64 most)] (.tup [rdV (rstF b e (rgT b most).2.1 (rgT b most).2.2).1 (rstF b e (rgT b most).2.1 (rgT b most).2.2).2, .v (.string (if e = 0 ∧ (rgT b most).2.2 = 0 then (rgT b most).1 else ⟨#[]⟩))]) := by
  refine QE.start Tryz.func156 rfl (by kernel_rfl) rfl Tryz.ntmps156 fol (by kernel_rfl) (by simp [idfL, idf, QZ QS, QS, Qg, Qy, rdV]) (by simp [idfL, idf, QZ QS, QS, Qg, Qy, rdV]) ?_
  refine zz ?_
  (have X1:=@rdV.eq_1;refine zS1 ?_;clear X1)
  refine (QFL b most hb hm).useV ?_
  have hk := QLp b most
  generalize rgT b most = q at hk ⊢
  obtain ⟨s, k, f⟩ := q
  simp only at hk
  have hd : List.take (b.length - k) (List.drop k (flat QC b)) = flat QC (b.drop k) := by
    rw [QL, QT, List.take_of_length_le (by rw [List.length_drop]; exact Nat.le_refl _)]
  (have X1:=@gtR.eq_1;refine zS1 ?_;clear X1)
  iterate 14 all_goals (try (refine And.intro (fun _ => ?_) (fun _ => ?_) <;> try (have X1:=hd;first | exact zC1 | refine zS1 ?_)))
  all_goals first
    | (exfalso; omega)
    | (obtain rfl : e = 0 := by omega
       obtain rfl : f = 0 := by omega
       have e1 : rstF b 0 k 0 = (b.drop k, 0) := rfl
       rw [e1, if_pos ⟨rfl, rfl⟩]; simp only [List.length_drop]; first | done | rfl)
    | (have hne : ¬ (e = 0 ∧ f = 0) := by omega
       refine (QFq b e f hb).useV ?_
       (have X1:=@rdV.eq_1;refine zS1 ?_;clear X1)
       rw [rstF, if_neg hne, if_neg hne]; first | done | rfl)
theorem QNy (b : List UInt8) (e most : Nat) (hb : b.length ≤ 1152921504606846976) (hm : most ≤ 1152921504606846976) : QE Tryz.prog [] 157 [rdV b e, .v (.int .u64 most)] (.tup [rdV (rstF b e (rgU b).2.1 (if (rgU b).2.2 = 0 ∧ most < (rgU b).1.toNat then 5 else (rgU b).2.2)).1 (rstF b e (rgU b).2.1 (if (rgU b).2.2 = 0 ∧ most < (rgU b).1.toNat then 5 else (rgU b).2.2)).2, .v (.int .u64 (if e = 0 ∧ (if (rgU b).2.2 = 0 ∧ most < (rgU b).1.toNat then 5 else (rgU b).2.2) = 0 then (rgU b).1.toNat else 0 : Nat))]) := by
  refine QE.start Tryz.func157 rfl (by kernel_rfl) rfl Tryz.ntmps157 fol (by kernel_rfl) (by simp [idfL, idf, QZ QS, QS, Qg, Qy, rdV]) (by simp [idfL, idf, QZ QS, QS, Qg, Qy, rdV]) ?_
  refine zz ?_
  (have X1:=@rdV.eq_1;refine zS1 ?_;clear X1)
  refine (QB0 b hb).useV ?_
  have hk := QEj b
  generalize rgU b = q at hk ⊢
  obtain ⟨n, k, f⟩ := q
  simp only at hk
  obtain ⟨g, hg⟩ : ∃ g, g = (if f = 0 ∧ most < n.toNat then 5 else f) := ⟨_, rfl⟩
  rw [← hg]
  have hd : List.take (b.length - k) (List.drop k (flat QC b)) = flat QC (b.drop k) := by
    rw [QL, QT, List.take_of_length_le (by rw [List.length_drop]; exact Nat.le_refl _)]
  (have X1:=@guR.eq_1;refine zS1 ?_;clear X1)
  iterate 14 all_goals (try (refine And.intro (fun _ => ?_) (fun _ => ?_) <;> try (have X1:=hd;first | exact zC1 | refine zS1 ?_)))
  all_goals first
    | (exfalso; omega)
    | (obtain rfl : e = 0 := by omega
       obtain rfl : f = 0 := by omega
       obtain rfl : g = 0 := by rw [hg, if_neg (by omega)]
       have e1 : rstF b 0 k 0 = (b.drop k, 0) := rfl
       rw [e1, if_pos ⟨rfl, rfl⟩]; simp only [List.length_drop]; first | done | rfl)
    | (obtain rfl : g = f := by rw [hg, if_neg (by omega)]
       have hne : ¬ (e = 0 ∧ g = 0) := by omega
       refine (QFq b e g hb).useV ?_
       (have X1:=@rdV.eq_1;refine zS1 ?_;clear X1)
       rw [rstF, if_neg hne, if_neg hne]; first | done | rfl)
    | (obtain rfl : g = 5 := by rw [hg, if_pos (by omega)]
       have hne : ¬ (e = 0 ∧ 5 = 0) := by omega
       refine (QFq b e 5 hb).useV ?_
       (have X1:=@rdV.eq_1;refine zS1 ?_;clear X1)
       rw [rstF, if_neg hne, if_neg hne]; first | done | rfl)
    | (have h5 : g = 5 := by rw [hg, if_pos (by omega)]
       subst h5
       have hne : ¬ (e = 0 ∧ 5 = 0) := by omega
       refine (QFq b e 5 hb).useV ?_
       (have X1:=@rdV.eq_1;refine zS1 ?_;clear X1)
       rw [rstF, if_neg hne]
       simp only [and_false, if_false]
       rfl)
open Proofs
def bndF (m:Int):Int:=max 0 (min m 65536)
theorem QTQ (m:Int):QE Tryz.prog [] 213 [.v (.int .i64 m)] (.v (.int .i64 (bndF m))):=by
 refine QE.start Tryz.func213 rfl (by kernel_rfl) rfl Tryz.ntmps213 fol (by kernel_rfl) zI zI ?_
 refine zZ ?_
 rw [bndF]
theorem QQO (m:Int):QE Tryz.prog [] 240 [.v (.int .i64 m)] (.v (.int .i64 (bndF m))):=by
 refine QE.start Tryz.func240 rfl (by kernel_rfl) rfl Tryz.ntmps240 fol (by kernel_rfl) zI zI ?_
 refine zZ ?_
 rw [bndF]
structure OpV where
 kind:Int
 name:ByteArray
 pos:Int
 by_:Int
 text:ByteArray
 deriving DecidableEq
def QX (o:OpV):List AV:=[.v (.int .i64 o.kind),.v (.string o.name),.v (.int .i64 o.pos),.v (.int .i64 o.by_),.v (.string o.text)]
def opC (o:OpV):Prop:=(o.kind=1∧o.text.size≤1024∧o.pos=0∧o.by_=0)∨(o.kind=2∧o.text.size=0∧o.pos=0∧o.by_=0)∨
 (o.kind=3∧-2147483648≤o.by_∧o.by_≤2147483648∧o.pos=0∧o.text.size=0)∨(o.kind=4∧0≤o.pos∧o.pos≤1099511627776∧0<o.text.size∧o.text.size≤1024∧o.by_=0)∨
 (o.kind=5∧0≤o.pos∧o.pos≤1099511627776∧0<o.by_∧o.by_≤1024∧o.text.size=0)
instance (o:OpV):Decidable (opC o):=by unfold opC;infer_instance
def QBp (o:OpV):Bool:=QBP o.name&&decide (opC o)
theorem QBe {o:OpV} (hb:QBP o.name=true):QBp o=true↔(o.kind=1∧o.text.size≤1024∧o.pos=0∧o.by_=0)∨(o.kind=2∧o.text.size=0∧o.pos=0∧o.by_=0)∨
 (o.kind=3∧-2147483648≤o.by_∧o.by_≤2147483648∧o.pos=0∧o.text.size=0)∨(o.kind=4∧0≤o.pos∧o.pos≤1099511627776∧0<o.text.size∧o.text.size≤1024∧o.by_=0)∨
 (o.kind=5∧0≤o.pos∧o.pos≤1099511627776∧0<o.by_∧o.by_≤1024∧o.text.size=0):=by
 rw [QBp,hb,Bool.true_and,decide_eq_true_iff,opC]
theorem ba_empty {s:ByteArray}:(s=⟨#[]⟩)=(s.size=0):=propext ⟨fun h=>by rw [h];rfl,fun h=>by
 obtain⟨a⟩:=s
 have:a.size=0:=h
 rw [Array.size_eq_zero_iff] at this
 rw [this]⟩
theorem rMay_c (o : OpV) (hn : o.name.size ≤ 1048576) (ht : o.text.size ≤ 1048576) : QE Tryz.prog [] 231 [.agg (QX o)] (.v (.bool (QBp o))) := by
  refine QE.start Tryz.func231 rfl (by kernel_rfl) rfl Tryz.ntmps231 fol (by kernel_rfl) (by simp [idfL, idf, QZ QS, QS, Qg, Qy, QX]) (by simp [idfL, idf, QZ QS, QS, Qg, Qy, QX]) ?_
  refine zz ?_
  (have X1:=@QX.eq_1;refine zS1 ?_;clear X1)
  refine (QMy o.name hn).useV ?_
  cases hb : QBP o.name
  · (have X1:=@QBp.eq_1;have X2:=hb;first | exact zC2 | refine zS2 ?_)
    try rfl
  (have X1:=@ba_empty;refine zS1 ?_;clear X1)
  iterate 14 all_goals (try (refine And.intro (fun _ => ?_) (fun _ => ?_) <;> try (have X1:=@ba_empty;first | exact zC1 | refine zS1 ?_)))
  all_goals first
    | (cases hm : QBp o
       · have key := mt (QBe hb).2 (by rw [hm]; decide)
         first
           | rfl
           | (exfalso; omega)
           | (rw [decide_eq_false (by omega)])
       · have key := (QBe hb).1 hm
         first
           | rfl
           | (exfalso; omega)
           | (rw [decide_eq_true (by omega)]))
theorem QXK (o : OpV) : QE Tryz.prog [] 235 [.agg (QX o)] (.v (.bool (decide (0 ≤ o.pos ∧ o.pos ≤ 1099511627776)))) := by
  refine QE.start Tryz.func235 rfl (by kernel_rfl) rfl Tryz.ntmps235 fol (by kernel_rfl) (by simp [idfL, idf, QZ QS, QS, Qg, Qy, QX]) (by simp [idfL, idf, QZ QS, QS, Qg, Qy, QX]) ?_
  refine zz ?_
  (have X1:=@QX.eq_1;refine zS1 ?_;clear X1)
  iterate 14 all_goals (try (refine And.intro (fun _ => ?_) (fun _ => ?_) <;> try first | exact zC | refine zS ?_))
  all_goals first
    | (rw [decide_eq_false (by omega)]; done)
    | (by_cases h : o.pos ≤ 1099511627776
       · rw [decide_eq_true h, decide_eq_true (by omega)]
       · rw [decide_eq_false h, decide_eq_false (by omega)])
theorem Qcp (o : OpV) (hn : o.name.size ≤ 1048576) (ht : o.text.size ≤ 1048576) : QE Tryz.prog [] 194 [.agg (QX o)] (.v (.int .i64 (if QBp o = true then 0 else 40))) := by
  refine QE.start Tryz.func194 rfl (by kernel_rfl) rfl Tryz.ntmps194 fol (by kernel_rfl) (by simp [idfL, idf, QZ QS, QS, Qg, Qy, QX]) (by simp [idfL, idf, QZ QS, QS, Qg, Qy, QX]) ?_
  refine zz ?_
  (have X1:=@QX.eq_1;refine zS1 ?_;clear X1)
  refine (QTf o.name hn).useV ?_
  cases hb : QBP o.name
  · have hm : QBp o = false := by rw [QBp, hb]; rfl
    rw [hm, if_neg (by decide)]
    refine zS ?_
    iterate 14 all_goals (try (refine And.intro (fun _ => ?_) (fun _ => ?_) <;> try first | exact zC | refine zS ?_))
  (have X1:=@ba_empty;refine zS1 ?_;clear X1)
  iterate 14 all_goals (try (refine And.intro (fun _ => ?_) (fun _ => ?_) <;> try (have X1:=@ba_empty;first | exact zC1 | refine zS1 ?_)))
  all_goals try
    refine (QXK o).useV ?_
    (have X1:=@ba_empty;refine zS1 ?_;clear X1)
    iterate 14 all_goals (try (refine And.intro (fun _ => ?_) (fun _ => ?_) <;> try (have X1:=@ba_empty;first | exact zC1 | refine zS1 ?_)))
  all_goals first
    | (cases hm : QBp o
       · have key := mt (QBe hb).2 (by rw [hm]; decide)
         first
           | rfl
           | (exfalso; omega)
           | (rw [decide_eq_false (by omega)])
       · have key := (QBe hb).1 hm
         first
           | rfl
           | (exfalso; omega)
           | (rw [decide_eq_true (by omega)]))
open Proofs
def QFh (rs:List (Int×Nat)) (x:Int):List (Int×Nat):=match rs.getLast? with
 | some p=>if p.1=x then rs.dropLast++[(p.1,p.2+1)] else rs++[(x,1)]
 | none=>[(x,1)]
theorem QH3 {rs:List (Int×Nat)} {x:Int} {n:Nat}:QFh (rs++[(x,n)]) x=rs++[(x,n+1)]:=by simp [QFh]
theorem QRH {rs:List (Int×Nat)} {x y:Int} {n:Nat} (h:x≠y):QFh (rs++[(x,n)]) y=rs++[(x,n)]++[(y,1)]:=by simp [QFh,h]
theorem QJ1 {x:Int}:∀(k:Nat) (rs:List (Int×Nat)) (n:Nat),(List.replicate k x).foldl QFh (rs++[(x,n)])=rs++[(x,n+k)]
 | 0,rs,n=>rfl
 | k+1,rs,n=>by rw [List.replicate_succ,List.foldl_cons,QH3,QJ1 k rs (n+1)];congr 3;omega
theorem QD1 {p:Int→Bool} {b:Int}:∀{l:List Int},b∈l.takeWhile p→p b=true
 | [],h=>by simp at h
 | a::l,h=>by
  rw [List.takeWhile_cons] at h
  split at h
  ·rcases List.mem_cons.1 h with e | e
   ·rw [e];assumption
   ·exact QD1 e
  ·simp at h
theorem QHq:∀(m:Nat) (l:List Int),l.length≤m→∀rs:List (Int×Nat),(∀p,rs.getLast?=some p→∀x,l.head?=some x→p.1≠x)→l.foldl QFh rs=rs++runs l
 | _,[],_,rs,_=>by simp [runs]
 | 0,_::_,h,_,_=>by simp at h
 | m+1,x::l,h,rs,hr=>by
  have h1:QFh rs x=rs++[(x,1)]:=by
   rw [QFh]
   cases e:rs.getLast? with
   | none=>simp [List.getLast?_eq_none_iff.1 e]
   | some p=>simp [hr p e x rfl]
  have h2:l=List.replicate (l.takeWhile (·==x)).length x++l.dropWhile (·==x):=by
   conv=>lhs;rw [←List.takeWhile_append_dropWhile (p:=(·==x)) (l:=l)]
   congr 1
   apply List.eq_replicate_iff.2
   refine⟨rfl,fun b hb=>?_⟩
   exact eq_of_beq (QD1 (p:=fun y=>y==x) hb)
  rw [List.foldl_cons,h1,runs]
  conv=>lhs;rw [h2]
  rw [List.foldl_append,QJ1,QHq m]
  ·simp
  ·have:=(List.dropWhile_sublist (l:=l) (fun y=>y==x)).length_le
   simp only [List.length_cons] at h;omega
  ·intro p hp y hy
   simp only [List.getLast?_append,List.getLast?_singleton,Option.some_or,Option.some.injEq] at hp
   subst hp
   intro e
   simp only at e
   subst e
   have:=List.head?_dropWhile_not (fun y=>y==x) l
   rw [hy] at this
   simp at this
def QD3 (l:List Int):List (Int×Nat):=l.foldl QFh []
theorem QKQ (l:List Int):QD3 l=runs l:=by rw [QD3,QHq l.length l (Nat.le_refl _) [] (by simp)];simp
def QBC (p:Int×Nat):List AV:=[.v (.int .i64 p.2),.v (.int .i64 p.1)]
theorem QCz (p:Int×Nat):(QBC p).length=2:=rfl
theorem QNg {l:List (Int×Nat)}:idfL (flat QBC l)=true:=QZ (fun _=>rfl) l
theorem QBK {l:List (Int×Nat)}:(flat QBC l).length=l.length*2:=QW QCz _
theorem QEU {l:List (Int×Nat)} {x:Int} {n:Nat}:flat QBC l++[.v (.int .i64 n),.v (.int .i64 x)]=flat QBC (l++[(x,n)]):=by simp [flat,QBC]
theorem QLR {l:List (Int×Nat)} {x:Int}:flat QBC l++[.v (.int .i64 1),.v (.int .i64 x)]=flat QBC (l++[(x,1)]):=by simp [flat,QBC]
theorem p2flat_get {l:List (Int×Nat)} {x:Int} {n:Nat}:(flat QBC (l++[(x,n)]))[l.length*2]?=some (.v (.int .i64 n)):=by
 rw [←QEU,List.getElem?_append_right (by rw [QBK];exact Nat.le_refl _),QBK,Nat.sub_self];rfl
theorem QQp {l:List (Int×Nat)} {x:Int} {n m:Nat}:(flat QBC (l++[(x,n)])).set (l.length*2) (.v (.int .i64 m))=flat QBC (l++[(x,m)]):=by
 rw [←QEU,List.set_append_right _ _ (by rw [QBK];exact Nat.le_refl _),QBK,Nat.sub_self,←QEU];rfl
attribute [push_cast] QNg QCz QBK QLR
theorem QVt (l:List Int) (hl:l.length≤1048576):QE Tryz.prog [] 247 [.seq l.length 1 (flat Qa l)] (.seq (QD3 l).length 2 (flat QBC (QD3 l))):=by
 refine QE.start Tryz.func247 rfl (by kernel_rfl) rfl Tryz.ntmps247 fol (by kernel_rfl) (by simp [idfL,idf,QZ QS,QS,Qg,Qy,QDf,QNg]) (by simp [idfL,idf,QZ QS,QS,Qg,Qy,QDf,QNg]) ?_
 refine zZ ?_
 refine QD (ι:=Nat×List (Int×Nat)) (fun q=>⟨[(0,.seq l.length 1 (flat Qa l)),(3,.sl 0 0 q.2.length 2),(4,.v (.int .i64 q.1))],⟨[(0,.cells 301 (flat QBC q.2) true)],1,1,0⟩⟩) (fun q=>q.1≤l.length∧q.2=QD3 (l.take q.1)∧q.2.length≤q.1∧(0<q.1→∃rs n,q.2=rs++[(l.getD (q.1 - 1) 0,n)]∧n≤q.1)) (fun q=>l.length - q.1) (0,[]) ⟨Nat.zero_le _,rfl,Nat.le_refl _,fun h=>absurd h (by decide)⟩ ?_ ?_
 ·exact fzN 0 [] []
 rintro⟨i,rs⟩ ⟨hi,hs,hn,hq⟩
 simp only at hi hs hn hq
 refine zS ?_
 refine⟨fun h1=>?_,fun h1=>?_⟩
 ·have hi1:i<l.length:=by omega
  have hst:QD3 (l.take (i+1))=QFh rs l[i]:=by
   rw [List.take_succ_eq_append_getElem hi1,QD3,List.foldl_append,hs];rfl
  refine zS ?_
  refine⟨fun h2=>?_,fun h2=>?_⟩
  ·obtain⟨rs0,n,rfl,hnn⟩:=hq (by omega)
   have e1:((i:Int) - 1).toNat=i - 1:=by omega
   have e2:((rs0.length:Int)+1 - 1).toNat=rs0.length:=by omega
   simp only [List.length_append,List.length_cons,List.length_nil,Nat.zero_add] at hn
   have hgi:l.getD (i+1 - 1) 0=l[i]:=by rw [Nat.add_sub_cancel,List.getD_eq_getElem?_getD,List.getElem?_eq_getElem hi1];rfl
   have hget:l.getD (i - 1) 0=l[i - 1]:=by rw [List.getD_eq_getElem?_getD,List.getElem?_eq_getElem (by omega)];rfl
   have hlen:(rs0++[(l.getD (i - 1) 0,n)]).length=rs0.length+1:=by simp
   (have X1:=e1;refine zS1 ?_;clear X1)
   refine⟨fun h3=>?_,fun h3=>?_⟩
   ·have e3:QFh (rs0++[(l.getD (i - 1) 0,n)]) l[i]=rs0++[(l.getD (i - 1) 0,n+1)]:=by rw [h3,←hget,QH3]
    have hset:∀x:Int,(flat QBC (rs0++[(x,n)])).set (rs0.length*2) (.v (.int .i64 ((n:Int)+1)))=flat QBC (rs0++[(x,n+1)]):=fun x=>QQp (m:=n+1)
    (have X1:=e1;have X2:=e2;have X3:=@p2flat_get;have X4:=hset;refine zS4 ?_;clear X1 X2 X3 X4)
    refine⟨(i+1,rs0++[(l.getD (i - 1) 0,n+1)]),⟨hi1,by rw [hst,e3],by simp;omega,fun _=>⟨rs0,n+1,by rw [hgi,h3,hget],by omega⟩⟩,zO,?_⟩
    (have X1:=@List.length_append.{0};have X2:=@List.length_cons.{0};have X3:=@List.length_nil.{0};exact fzN3 0 [(0,0)] [])
   ·have e3:QFh (rs0++[(l.getD (i - 1) 0,n)]) l[i]=rs0++[(l.getD (i - 1) 0,n)]++[(l[i],1)]:=by rw [QRH (by rw [hget];exact fun e=>h3 e.symm)]
    (have X1:=e1;have X2:=e2;refine zS2 ?_;clear X1 X2)
    refine⟨(i+1,rs0++[(l.getD (i - 1) 0,n)]++[(l[i],1)]),⟨hi1,by rw [hst,e3],by simp;omega,fun _=>⟨_,1,by rw [hgi],by omega⟩⟩,zO,?_⟩
    (have X1:=@List.length_append.{0};have X2:=@List.length_cons.{0};have X3:=@List.length_nil.{0};exact fzN3 0 [(0,131)] [])
  ·obtain rfl:i=0:=by omega
   obtain rfl:rs=[]:=by rw [hs];rfl
   refine zS ?_
   refine⟨(1,[(l[0],1)]),⟨hi1,by rw [show 1=0+1 from rfl,hst];rfl,by simp,fun _=>⟨[],1,by simp [List.getD_eq_getElem?_getD,List.getElem?_eq_getElem hi1],by omega⟩⟩,zO,?_⟩
   (have X1:=@List.length_cons.{0};have X2:=@List.length_nil.{0};refine fzNM 0 [(0,131)] [] ?_ ?_<;>first | exact zC2 | refine zS2 ?_)
   rfl
 ·refine zS ?_
  have hi1:i=l.length:=by omega
  subst hi1
  rw [hs,List.take_length]
end Go.AW
