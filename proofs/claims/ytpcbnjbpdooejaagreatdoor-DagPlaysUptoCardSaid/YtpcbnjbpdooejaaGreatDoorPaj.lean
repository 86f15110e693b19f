/- A part of the proof: D21 D22 D23 D24. -/
import Derived.Test.YtpcbnjbpdooejaaGreatDoorPae
import Derived.Test.YtpcbnjbpdooejaaGreatDoorPai
import Derived.Test.YtpcbnjbpdooejaaGreatDoorPaf
import Derived.Test.YtpcbnjbpdooejaaGreatDoorPah
import Derived.Test.YtpcbnjbpdooejaaGreatDoorPag
set_option linter.unusedSimpArgs false
set_option linter.unusedVariables false
set_option maxRecDepth 100000
set_option maxHeartbeats 8000000
namespace Go.AW
open Proofs
theorem QGw (n:Nat) (hn:n<18446744073709551616):POwn Tryz.prog [] 182 [.v (.int .u64 n)] (lebU n).length 1 5 (flat QC (lebU n)):=by
 refine POwn.start Tryz.func182 rfl zK rfl Tryz.ntmps182 fol zK zI (by simp [QQ]) ?_
 refine zZ ?_
 have hlen:(lebU n).length≤10:=QAA hn
 refine QD (ι:=List UInt8×Nat) (fun i=>⟨[(0,.v (.int .u64 i.2)),(3,.sl 0 0 i.1.length 1)],⟨[(0,.cells 5 (flat QC i.1) true)],1,1,0⟩⟩) (fun i=>i.1++lebU i.2=lebU n∧i.2<18446744073709551616) (fun i=>i.2) ([],n) ⟨rfl,hn⟩ ?_ ?_
 ·exact fzN 0 [] []
 rintro⟨acc,m⟩ ⟨hi,hm⟩
 simp only at hi hm
 have hl:acc.length≤10:=by
  have:=congrArg List.length hi
  simp only [List.length_append] at this
  omega
 refine zS ?_
 refine⟨fun h=>?_,fun h=>?_⟩
 ·(have X1:=@U8_or128;refine zS1 ?_;clear X1)
  refine⟨(acc++[UInt8.ofNat m|||128],m / 128),⟨?_,?_⟩,?_,?_⟩
  ·rw [←hi,lebU.eq_1 m,if_neg zo];simp
  ·show m / 128<_;omega
  ·show m / 128<m;omega
  ·(have X1:=@List.length_append.{0};have X2:=@List.length_cons.{0};have X3:=@List.length_nil.{0};refine fzNM 0 [(0,33)] [] ?_ ?_<;>first | exact zC3 | refine zS3 ?_)
   rfl
 ·have he:acc++[UInt8.ofNat m]=lebU n:=by rw [←hi,lebU.eq_1 m,if_pos zo]
  have hlen:(lebU n).length=acc.length+1:=by rw [←he];simp
  (have X1:=he;have X2:=hlen;refine zS2 ?_;clear X1 X2)
  exact fzN 0 [(0,40)] []
theorem QIn (n:Nat) (h:n<18446744073709551616):PNew Tryz.prog [] 182 [.v (.int .u64 n)] (.seq (lebU n).length 1 (flat QC (lebU n))):=(QGw n h).toNew (by rw [QH,Nat.mul_one])
theorem rInt_o (n:Int) (h1:-9223372036854775808≤n) (h2:n<9223372036854775808):POwn Tryz.prog [] 248 [.v (.int .i64 n)] (lebS n).length 1 5 (flat QC (lebS n)):=by
 refine POwn.start Tryz.func248 rfl zK rfl Tryz.ntmps248 fol zK zI (by simp [QQ]) ?_
 refine zZ ?_
 have hlen:(lebS n).length≤10:=QCm 9 n zo zo
 refine QD (ι:=List UInt8×Int) (fun i=>⟨[(0,.v (.int .i64 i.2)),(3,.sl 0 0 i.1.length 1)],⟨[(0,.cells 5 (flat QC i.1) true)],1,1,0⟩⟩) (fun i=>i.1++lebS i.2=lebS n) (fun i=>i.2.natAbs) ([],n) rfl ?_ ?_
 ·exact fzN 0 [] []
 rintro⟨acc,m⟩ hi
 simp only at hi
 have hl:acc.length≤10:=by
  have:=congrArg List.length hi
  simp only [List.length_append] at this
  omega
 have go:¬(-64≤m∧m≤63)→(acc++[U8 m|||128])++lebS (m / 128)=lebS n:=fun ha=>by rw [←hi,lebS.eq_1 m,dif_neg ha];simp
 refine zS ?_
 refine⟨fun h=>?_,fun h=>?_⟩
 ·refine zS ?_
  refine⟨fun h'=>?_,fun h'=>?_⟩
  ·(have X1:=@U8_or128;have X2:=@pbin_shrI;refine zS2 ?_;clear X1 X2)
   refine⟨(acc++[U8 m|||128],m / 128),go zo,?_,?_⟩
   ·show (m / 128).natAbs<m.natAbs;omega
   ·(have X1:=@List.length_append.{0};have X2:=@List.length_cons.{0};have X3:=@List.length_nil.{0};exact fzN3 0 [(0,42)] [])
  ·have he:acc++[U8 m&&&~~~128]=lebS n:=by rw [←hi,lebS.eq_1 m,dif_pos zo]
   have hlen:(lebS n).length=acc.length+1:=by rw [←he];simp
   (have X1:=@U8_low;have X2:=he;have X3:=hlen;refine zS3 ?_;clear X1 X2 X3)
   exact fzN 0 [(0,50)] []
 ·(have X1:=@U8_or128;have X2:=@pbin_shrI;refine zS2 ?_;clear X1 X2)
  refine⟨(acc++[U8 m|||128],m / 128),go zo,?_,?_⟩
  ·show (m / 128).natAbs<m.natAbs;omega
  ·(have X1:=@List.length_append.{0};have X2:=@List.length_cons.{0};have X3:=@List.length_nil.{0};exact fzN3 0 [(0,42)] [])
theorem QaE (n:Int) (h1:-9223372036854775808≤n) (h2:n<9223372036854775808):PNew Tryz.prog [] 248 [.v (.int .i64 n)] (.seq (lebS n).length 1 (flat QC (lebS n))):=(rInt_o n h1 h2).toNew (by rw [QH,Nat.mul_one])
theorem QGR (s:ByteArray) (h:s.size≤70000000000000):POwn Tryz.prog [] 192 [.v (.string s)] (lebT s.data.toList).length 1 5 (flat QC (lebT s.data.toList)):=by
 refine POwn.start Tryz.func192 rfl zK rfl Tryz.ntmps192 fol zK zI (by simp [QQ]) ?_
 refine zZ ?_
 have hl:=QAA (n:=s.size) zo
 have hs:s.data.toList.length=s.size:=by rw [Array.length_toList];rfl
 have ht:(lebT s.data.toList).length=(lebU s.size).length+s.size:=by rw [lebT,List.length_append,hs]
 have ha:flat QC (lebT s.data.toList)=flat QC (lebU s.size)++flat QC s.data.toList:=by rw [lebT,hs,QBD]
 have hsr:∀f,srcS f 1 (.v (.string s))=some (s.size,flat QC s.data.toList):=fun f=>by rw [←QDN];rfl
 refine POwn.useV (QGw s.size zo) ?_
 (have X1:=hsr;have X2:=ht;have X3:=ha;refine zS3 ?_;clear X1 X2 X3)
 (have X1:=ht;have X2:=ha;have X3:=hs;exact fzN3 0 [(0,17)] [])
theorem QdO (s:ByteArray) (h:s.size≤70000000000000):PNew Tryz.prog [] 192 [.v (.string s)] (.seq (lebT s.data.toList).length 1 (flat QC (lebT s.data.toList))):=(QGR s h).toNew (by rw [QH,Nat.mul_one])
open Proofs
def grp (i:Nat):List UInt8→Nat×Nat
 | []=>if 10≤i then (0,4) else (0,3)
 | x::l=>if 10≤i then (0,4) else if x.toNat<128 then (i+1,0) else grp (i+1) l
theorem QOq (b:List UInt8) (hb:b.length≤1152921504606846976):QE Tryz.prog [] 239 [.seq b.length 1 (flat QC b)] (.tup [.v (.int .i64 (grp 0 b).1),.v (.int .i64 (grp 0 b).2)]):=by
 refine QE.start Tryz.func239 rfl zK rfl Tryz.ntmps239 fol zK zI zI ?_
 refine zZ ?_
 refine QD (ι:=Nat) (fun i=>⟨[(0,.seq b.length 1 (flat QC b)),(4,.v (.int .i64 i))],⟨[],0,0,0⟩⟩) (fun i=>i≤b.length∧i≤10∧grp i (b.drop i)=grp 0 b) (fun i=>10 - i) 0 ⟨Nat.zero_le _,by decide,rfl⟩ ?_ ?_
 ·exact fzN 0 [] []
 rintro i ⟨h1,h2,h3⟩
 rw [←h3]
 refine zS ?_
 refine⟨fun h=>?_,fun h=>?_⟩
 ·refine zS ?_
  refine⟨fun he=>?_,fun he=>?_⟩
  ·rw [List.drop_eq_nil_of_le zo,grp,if_neg zo]
   first | exact zC | refine zS ?_
   rfl
  ·have hi:i<b.length:=by omega
   obtain⟨x,l,hx⟩:∃x l,b.drop i=x::l:=⟨_,_,List.drop_eq_getElem_cons hi⟩
   have hg:(List.drop i (flat QC b))[0]?=some (.v (.int .u8 x.toNat)):=by
    rw [show List.drop i (flat QC b)=flat QC (b.drop i) from QL,hx];rfl
   have hl:b.drop (i+1)=l:=by
    have:=congrArg List.tail hx
    rwa [List.tail_drop,List.tail_cons] at this
   rw [hx,grp,if_neg zo]
   (have X1:=hg;refine zS1 ?_;clear X1)
   refine⟨fun hc=>?_,fun hc=>?_⟩
   ·rw [if_pos zo]
    (have X1:=hg;exact zC1)
   ·rw [if_neg zo]
    (have X1:=hg;refine zS1 ?_;clear X1)
    refine⟨i+1,⟨by omega,by omega,by rw [hl]⟩,zO,?_⟩
    exact fzN 0 [] []
 ·have h10:i=10:=by omega
  subst h10
  have:grp 10 (b.drop 10)=(0,4):=by cases b.drop 10<;>simp [grp]
  rw [this]
  first | exact zC | refine zS ?_
  try rfl
def rNum (l:List UInt8):UInt64:=l.foldr (fun x n=>shlU n.toNat 7|||UInt64.ofNat (x.toNat % 128)) 0
def rgU (b:List UInt8):UInt64×Nat×Nat:=
 if (grp 0 b).2≠0 then (0,0,(grp 0 b).2) else
 if lebU (rNum (b.take (grp 0 b).1)).toNat≠b.take (grp 0 b).1 then (0,0,4) else (rNum (b.take (grp 0 b).1),(grp 0 b).1,0)
theorem QIE:∀(l:List UInt8) (i:Nat),(grp i l).1≤i+l.length∧(grp i l).1≤10∧((grp i l).2=0→i<(grp i l).1)∧(grp i l).2≤4
 | [],i=>by rw [grp];split<;>simp
 | x::l,i=>by
  rw [grp]
  split
  ·simp
  ·split
   ·simp;omega
   ·have:=QIE l (i+1)
    simp only [List.length_cons];omega
theorem QQ2 {t:TypeId} {x y:Operand} {P:Program} {k':IntKind} {a:Int} {s:Nat} (h:s≤64) (h0:0≤a):pbin P .shl t x y (.int .u64 a) (.int k' (no_index (OfNat.ofNat s)))=some (.int .u64 ((shlU a.toNat s).toNat:Nat)):=by
 have e:pbin P .shl t x y (.int .u64 a) (.int k' (s:Nat))=prun P (Op.shift .shl .u64 a k' (s:Nat)):=rfl
 show pbin P .shl t x y (.int .u64 a) (.int k' (s:Nat))=_
 rw [e]
 unfold Op.shift
 rw [if_neg zo]
 show some (Value.int .u64 (IntKind.u64.wrap (a*2^(min (s:Int).toNat 64))))=_
 rw [show min (s:Int).toNat 64=s by omega,QGD,shlU,Int.toNat_of_nonneg h0]
theorem QHj {l m:List UInt8}:(⟨l.toArray⟩:ByteArray)=⟨m.toArray⟩↔l=m:=⟨fun h=>by injection h with h;simpa using h,fun h=>by rw [h]⟩
theorem QB0 (b:List UInt8) (hb:b.length≤1152921504606846976):QE Tryz.prog [] 206 [.seq b.length 1 (flat QC b)] (guR (rgU b)):=by
 refine QE.start Tryz.func206 rfl zK rfl Tryz.ntmps206 fol zK (by simp [idfL,idf,QZ QS,QS,Qg,Qy,guR]) (by simp [idfL,idf,QZ QS,QS,Qg,Qy,guR]) ?_
 refine zZ ?_
 refine (QOq b hb).useV ?_
 obtain⟨k1,k2,k3,k4⟩:=QIE b 0
 have hr:rgU b=rgU b:=rfl
 conv at hr=>rhs;rw [rgU]
 generalize grp 0 b=q at hr k1 k2 k3 k4 ⊢
 obtain⟨k,e⟩:=q
 simp only at hr k1 k2 k3 k4
 rw [hr]
 refine zS ?_
 refine⟨fun he=>?_,fun he=>?_⟩
 ·rw [if_pos zo]
  (have X1:=@guR.eq_1;first | exact zC1 | refine zS1 ?_)
  try rfl
 ·rw [if_neg zo]
  have hk:=k3 zo
  generalize hp:b.take k=p
  have hpl:p.length=k:=by rw [←hp,List.length_take];omega
  refine zS ?_
  refine QD (ι:=Nat) (fun j=>⟨[(0,.seq b.length 1 (flat QC b)),(5,.v (.int .i64 k)),(7,.v (.int .u64 ((rNum (p.drop j)).toNat:Nat))),(8,.v (.int .i64 ((j:Int) - 1)))],⟨[],0,0,0⟩⟩) (fun j=>j≤k) (fun j=>j) k (Nat.le_refl _) ?_ ?_
  ·refine fzNM 0 [] [] ?_ ?_<;>first | exact zC | refine zS ?_
   rw [List.drop_eq_nil_of_le zo]
   rfl
  rintro j hj
  refine zS ?_
  refine⟨fun h=>?_,fun h=>?_⟩
  ·have hj1:j - 1<b.length:=by omega
   have hj2:j - 1<p.length:=by omega
   obtain⟨x,hx⟩:∃x,x=b[j - 1]:=⟨_,rfl⟩
   have e1:((j:Int) - 1).toNat=j - 1:=by omega
   have hg:(List.drop (j - 1) (flat QC b))[0]?=some (.v (.int .u8 x.toNat)):=by
    rw [QL,List.drop_eq_getElem_cons hj1,hx];rfl
   have hd:p.drop (j - 1)=x::p.drop j:=by
    rw [List.drop_eq_getElem_cons hj2,show j - 1+1=j by omega,hx]
    congr 1
    simp [←hp]
   have hs:∀(m:Nat) (u v:Operand) (k':IntKind),pbin Tryz.prog .shl 154 u v (.int .u64 (m:Nat)) (.int k' 7)=some (.int .u64 ((shlU m 7).toNat:Nat)):=fun m u v k'=>QQ2 (s:=7) zD (Int.natCast_nonneg _)
   have hw:IntKind.u64.wrap ((x.toNat:Int) % 128)=(x.toNat:Int) % 128:=QU zo zo
   (have X1:=e1;have X2:=hg;have X3:=hs;have X4:=hw;have X5:=@QS8;have X6:=@QL8;refine zS6 ?_;clear X1 X2 X3 X4 X5 X6)
   have hn:rNum (p.drop (j - 1))=shlU (rNum (p.drop j)).toNat 7|||U64 ((x.toNat:Int) % 128):=by
    rw [hd,show (x.toNat:Int) % 128=((x.toNat % 128:Nat):Int) by omega,QFy];rfl
   refine⟨j - 1,by omega,zO,?_⟩
   simp only [show (((j - 1:Nat):Int) - 1)=(j:Int) - 1 - 1 by omega,hn]
   exact fzN 0 [] []
  ·obtain rfl:j=0:=by omega
   refine zS ?_
   have hc1:∀f g l,QC7 Tryz.prog 23 9 f g (.seq l.length 1 (flat QC l))=some (.v (.string ⟨l.toArray⟩),[]):=fun f g l=>QAD zK zK
   have hc2:∀f g,QC7 Tryz.prog 23 9 f g (.seq k 1 (List.take k (flat QC b)))=some (.v (.string ⟨p.toArray⟩),[]):=fun f g=>by
    rw [QT,hp];exact QAD zK zK
   refine QO.useN (QIn (rNum p).toNat (rNum p).toNat_lt) rfl ?_
   (have X1:=hc1;have X2:=hc2;refine zS2 ?_;clear X1 X2)
   refine⟨fun h1=>?_,fun h1=>?_⟩
   ·rw [if_pos (fun e=>h1 (by rw [e]))]
    (have X1:=@guR.eq_1;first | exact zC1 | refine zS1 ?_)
    try rfl
   ·rw [if_neg (fun e=>e (QHj.1 h1))]
    (have X1:=@guR.eq_1;exact zC1)
def QC8:List UInt8→Int
 | []=>0
 | [x]=>(x.toNat:Int) % 64 - (if 64≤(x.toNat:Int) % 128 then 64 else 0)
 | x::l=>orI (shlI (QC8 l) 7) ((x.toNat:Int) % 128)
def rgI (b:List UInt8):Int×Nat×Nat:=
 if (grp 0 b).2≠0 then (0,0,(grp 0 b).2) else
 if lebS (QC8 (b.take (grp 0 b).1))≠b.take (grp 0 b).1 then (0,0,4) else (QC8 (b.take (grp 0 b).1),(grp 0 b).1,0)
theorem QAi (a:Int):-9223372036854775808≤IntKind.i64.wrap a∧IntKind.i64.wrap a<9223372036854775808:=by
 have e:IntKind.i64.wrap a=if (decide (a % 18446744073709551616≥9223372036854775808))=true then a % 18446744073709551616 - 18446744073709551616 else a % 18446744073709551616:=rfl
 rw [e]
 split<;>rename_i h<;>simp only [decide_eq_true_eq] at h<;>omega
theorem QGg:∀l,-9223372036854775808≤QC8 l∧QC8 l<9223372036854775808
 | []=>by simp [QC8]
 | [x]=>by simp only [QC8];split<;>omega
 | x::y::l=>by rw [QC8];exact QAi _;simp
theorem QPN {t:TypeId} {x y:Operand} {P:Program} {k':IntKind} {a:Int} {s:Nat} (h:s≤64):pbin P .shl t x y (.int .i64 a) (.int k' (no_index (OfNat.ofNat s)))=some (.int .i64 (shlI a s)):=by
 have e:pbin P .shl t x y (.int .i64 a) (.int k' (s:Nat))=prun P (Op.shift .shl .i64 a k' (s:Nat)):=rfl
 show pbin P .shl t x y (.int .i64 a) (.int k' (s:Nat))=_
 rw [e]
 unfold Op.shift
 rw [if_neg zo]
 show some (Value.int .i64 (IntKind.i64.wrap (a*2^(min (s:Int).toNat 64))))=_
 rw [show min (s:Int).toNat 64=s by omega,shlI]
theorem QSt (b:List UInt8) (hb:b.length≤1152921504606846976):QE Tryz.prog [] 241 [.seq b.length 1 (flat QC b)] (giR (rgI b)):=by
 refine QE.start Tryz.func241 rfl zK rfl Tryz.ntmps241 fol zK (by simp [idfL,idf,QZ QS,QS,Qg,Qy,giR]) (by simp [idfL,idf,QZ QS,QS,Qg,Qy,giR]) ?_
 refine zZ ?_
 refine (QOq b hb).useV ?_
 obtain⟨k1,k2,k3,k4⟩:=QIE b 0
 have hr:rgI b=rgI b:=rfl
 conv at hr=>rhs;rw [rgI]
 generalize grp 0 b=q at hr k1 k2 k3 k4 ⊢
 obtain⟨k,e⟩:=q
 simp only at hr k1 k2 k3 k4
 rw [hr]
 refine zS ?_
 refine⟨fun he=>?_,fun he=>?_⟩
 ·rw [if_pos zo]
  (have X1:=@giR.eq_1;first | exact zC1 | refine zS1 ?_)
  try rfl
 ·rw [if_neg zo]
  have hk:=k3 zo
  generalize hp:b.take k=p
  have hpl:p.length=k:=by rw [←hp,List.length_take];omega
  obtain⟨z,hz⟩:∃z,z=b[k - 1]'zo:=⟨_,rfl⟩
  have e0:((k:Int) - 1).toNat=k - 1:=by omega
  have hgz:(List.drop (k - 1) (flat QC b))[0]?=some (.v (.int .u8 z.toNat)):=by
   rw [QL,List.drop_eq_getElem_cons (show k - 1<b.length by omega),hz];rfl
  have hdz:p.drop (k - 1)=[z]:=by
   rw [List.drop_eq_getElem_cons (show k - 1<p.length by omega),List.drop_eq_nil_of_le zo,hz]
   simp [←hp]
  have hwz:IntKind.i64.wrap ((z.toNat:Int) % 64)=(z.toNat:Int) % 64:=QAN zo zo
  (have X1:=e0;have X2:=hgz;have X3:=hwz;refine zS3 ?_;clear X1 X2 X3)
  refine⟨fun hs=>?_,fun hs=>?_⟩
  all_goals
   have hnz:QC8 [z]=QC8 [z]:=rfl
   conv at hnz=>rhs;rw [QC8]
   first | rw [if_pos hs] at hnz | (rw [if_neg hs,Int.sub_zero] at hnz)
   refine zS ?_
   refine QD (ι:=Nat) (fun j=>⟨[(0,.seq b.length 1 (flat QC b)),(5,.v (.int .i64 k)),(7,.v (.int .i64 (QC8 (p.drop j)))),(8,.v (.int .i64 ((j:Int) - 1)))],⟨[],0,0,0⟩⟩) (fun j=>j+1≤k) (fun j=>j) (k - 1) zo ?_ ?_
   ·simp only [hdz,hnz,show (((k - 1:Nat):Int) - 1)=(k:Int) - 2 by omega]
    exact fzN 0 [] []
   rintro j hj
   refine zS ?_
   refine⟨fun h=>?_,fun h=>?_⟩
   ·have hj1:j - 1<b.length:=by omega
    have hj2:j - 1<p.length:=by omega
    obtain⟨x,hx⟩:∃x,x=b[j - 1]:=⟨_,rfl⟩
    have e1:((j:Int) - 1).toNat=j - 1:=by omega
    have hg:(List.drop (j - 1) (flat QC b))[0]?=some (.v (.int .u8 x.toNat)):=by
     rw [QL,List.drop_eq_getElem_cons hj1,hx];rfl
    have hd:p.drop (j - 1)=x::p.drop j:=by
     rw [List.drop_eq_getElem_cons hj2,show j - 1+1=j by omega,hx]
     congr 1
     simp [←hp]
    have hs7:∀(m:Int) (u v:Operand) (k':IntKind),pbin Tryz.prog .shl 2 u v (.int .i64 m) (.int k' 7)=some (.int .i64 (shlI m 7)):=fun m u v k'=>QPN (s:=7) zD
    have hw:IntKind.i64.wrap ((x.toNat:Int) % 128)=(x.toNat:Int) % 128:=QAN zo zo
    (have X1:=e1;have X2:=hg;have X3:=hs7;have X4:=hw;have X5:=@QN2;refine zS5 ?_;clear X1 X2 X3 X4 X5)
    have hn:QC8 (p.drop (j - 1))=orI (shlI (QC8 (p.drop j)) 7) ((x.toNat:Int) % 128):=by
     rw [hd]
     have hne:p.drop j≠[]:=by
      intro e;have:=congrArg List.length e;rw [List.length_drop] at this;simp at this;omega
     cases hq:p.drop j with
     | nil=>exact absurd hq hne
     | cons y l=>rw [QC8];simp
    refine⟨j - 1,by omega,zO,?_⟩
    simp only [show (((j - 1:Nat):Int) - 1)=(j:Int) - 1 - 1 by omega,hn]
    exact fzN 0 [] []
   ·obtain rfl:j=0:=by omega
    refine zS ?_
    have hc1:∀f g l,QC7 Tryz.prog 23 9 f g (.seq l.length 1 (flat QC l))=some (.v (.string ⟨l.toArray⟩),[]):=fun f g l=>QAD zK zK
    have hc2:∀f g,QC7 Tryz.prog 23 9 f g (.seq k 1 (List.take k (flat QC b)))=some (.v (.string ⟨p.toArray⟩),[]):=fun f g=>by
     rw [QT,hp];exact QAD zK zK
    refine QO.useN (QaE (QC8 p) (QGg p).1 (QGg p).2) rfl ?_
    (have X1:=hc1;have X2:=hc2;refine zS2 ?_;clear X1 X2)
    refine⟨fun h1=>?_,fun h1=>?_⟩
    ·rw [if_pos (fun e=>h1 (by rw [e]))]
     (have X1:=@giR.eq_1;first | exact zC1 | refine zS1 ?_)
     try rfl
    ·rw [if_neg (fun e=>e (QHj.1 h1))]
     (have X1:=@giR.eq_1;exact zC1)
open Proofs
theorem QEj (b:List UInt8):(rgU b).2.1≤b.length∧(rgU b).2.2≤4:=by
 have h:=QIE b 0
 rw [rgU]
 split
 ·simp;omega
 ·split
  ·simp
  ·simp;omega
def rgT (b:List UInt8) (most:Nat):ByteArray×Nat×Nat:=
 let q:=rgU b
 if q.2.2≠0 then (⟨#[]⟩,0,q.2.2) else
 if most<q.1.toNat then (⟨#[]⟩,0,5) else
 if b.length - q.2.1<q.1.toNat then (⟨#[]⟩,0,3) else
 (⟨((b.drop q.2.1).take q.1.toNat).toArray⟩,q.2.1+q.1.toNat,0)
theorem QLp (b:List UInt8) (most:Nat):(rgT b most).2.1≤b.length:=by
 have h:=(QEj b).1
 rw [rgT]
 split
 ·exact Nat.zero_le _
 ·split
  ·exact Nat.zero_le _
  ·split
   ·exact Nat.zero_le _
   ·simp only;omega
theorem QFL (b:List UInt8) (most:Nat) (hb:b.length≤1152921504606846976) (hm:most≤1152921504606846976):QE Tryz.prog [] 204 [.seq b.length 1 (flat QC b),.v (.int .i64 most)] (gtR (rgT b most)):=by
 refine QE.start Tryz.func204 rfl zK rfl Tryz.ntmps204 fol zK (by simp [idfL,idf,QZ QS,QS,Qg,Qy,gtR]) (by simp [idfL,idf,QZ QS,QS,Qg,Qy,gtR]) ?_
 refine zZ ?_
 refine (QB0 b hb).useV ?_
 obtain⟨k1,k2⟩:=QEj b
 have hg:rgT b most=rgT b most:=rfl
 conv at hg=>rhs;rw [rgT]
 generalize rgU b=q at hg k1 k2 ⊢
 obtain⟨n,k,e⟩:=q
 simp only at hg k1 k2
 rw [hg]
 have hn:=n.toNat_lt
 have hw1:IntKind.u64.wrap (most:Int)=most:=QU zo zo
 have hw2:IntKind.u64.wrap ((b.length:Int) - k)=(b.length:Int) - k:=QU zo zo
 (have X1:=@guR.eq_1;refine zS1 ?_;clear X1)
 refine⟨fun he=>?_,fun he=>?_⟩
 ·rw [if_pos zo]
  (have X1:=@gtR.eq_1;exact zC1)
 ·rw [if_neg zo]
  (have X1:=hw1;have X2:=hw2;refine zS2 ?_;clear X1 X2)
  refine⟨fun h1=>?_,fun h1=>by omega⟩
  (have X1:=hw1;have X2:=hw2;refine zS2 ?_;clear X1 X2)
  refine⟨fun h2=>?_,fun h2=>?_⟩
  ·rw [if_pos zo]
   (have X1:=@gtR.eq_1;first | exact zC1 | refine zS1 ?_)
   rfl
  ·rw [if_neg zo]
   (have X1:=hw1;have X2:=hw2;refine zS2 ?_;clear X1 X2)
   refine⟨fun h3=>?_,fun h3=>?_⟩
   ·rw [if_pos zo]
    (have X1:=@gtR.eq_1;first | exact zC1 | refine zS1 ?_)
    rfl
   ·rw [if_neg zo]
    have e2:((k:Int)+(n.toNat:Int)).toNat - k=n.toNat:=by omega
    have hc:∀f g,QC7 Tryz.prog 23 9 f g (.seq n.toNat 1 (List.take n.toNat (List.drop k (flat QC b))))=some (.v (.string ⟨((b.drop k).take n.toNat).toArray⟩),[]):=fun f g=>by
     rw [QL,QT];exact QAD zK zK
    (have X1:=hw1;have X2:=hw2;have X3:=e2;have X4:=hc;have X5:=@gtR.eq_1;exact zC5)
def rdV (b:List UInt8) (e:Nat):AV:=.agg [.seq b.length 1 (flat QC b),.v (.int .i64 e)]
theorem QFq (b:List UInt8) (e f:Nat) (hb:b.length≤1152921504606846976):QE Tryz.prog [] 205 [rdV b e,.v (.int .i64 f)] (rdV b (if e=0 then f else e)):=by
 refine QE.start Tryz.func205 rfl zK rfl Tryz.ntmps205 fol zK (by simp [idfL,idf,QZ QS,QS,Qg,Qy,rdV]) (by simp [idfL,idf,QZ QS,QS,Qg,Qy,rdV]) ?_
 refine zz ?_
 (have X1:=@rdV.eq_1;refine zS1 ?_;clear X1)
 refine⟨fun h=>?_,fun h=>?_⟩
 ·rw [if_pos zo]
  exact zC
 ·rw [if_neg zo]
  exact zC
def rstF (b:List UInt8) (e k f:Nat):List UInt8×Nat:=if e=0∧f=0 then (b.drop k,0) else (b,if e=0 then f else e)
theorem QOI (b:List UInt8) (e most:Nat) (hb:b.length≤1152921504606846976) (hm:most≤1152921504606846976):QE Tryz.prog [] 156 [rdV b e,.v (.int .i64 most)] (.tup [rdV (rstF b e (rgT b most).2.1 (rgT b most).2.2).1 (rstF b e (rgT b most).2.1 (rgT b most).2.2).2,.v (.string (if e=0∧(rgT b most).2.2=0 then (rgT b most).1 else ⟨#[]⟩))]):=by
 refine QE.start Tryz.func156 rfl zK rfl Tryz.ntmps156 fol zK (by simp [idfL,idf,QZ QS,QS,Qg,Qy,rdV]) (by simp [idfL,idf,QZ QS,QS,Qg,Qy,rdV]) ?_
 refine zz ?_
 (have X1:=@rdV.eq_1;refine zS1 ?_;clear X1)
 refine (QFL b most hb hm).useV ?_
 have hk:=QLp b most
 generalize rgT b most=q at hk ⊢
 obtain⟨s,k,f⟩:=q
 simp only at hk
 have hd:List.take (b.length - k) (List.drop k (flat QC b))=flat QC (b.drop k):=by
  rw [QL,QT,List.take_of_length_le (by rw [List.length_drop];exact Nat.le_refl _)]
 (have X1:=@gtR.eq_1;refine zS1 ?_;clear X1)
 iterate 14 all_goals (try (refine And.intro (fun _=>?_) (fun _=>?_)<;>try (have X1:=hd;first | exact zC1 | refine zS1 ?_)))
 all_goals first
  | (exfalso;omega)
  | (
    obtain rfl:e=0:=by omega
    obtain rfl:f=0:=by omega
    have e1:rstF b 0 k 0=(b.drop k,0):=rfl
    rw [e1,if_pos ⟨rfl,rfl⟩];simp only [List.length_drop];first | done | rfl)
  | (
    have hne:¬(e=0∧f=0):=by omega
    refine (QFq b e f hb).useV ?_
    (have X1:=@rdV.eq_1;refine zS1 ?_;clear X1)
    rw [rstF,if_neg hne,if_neg hne];first | done | rfl)
theorem QNy (b:List UInt8) (e most:Nat) (hb:b.length≤1152921504606846976) (hm:most≤1152921504606846976):QE Tryz.prog [] 157 [rdV b e,.v (.int .u64 most)] (.tup [rdV (rstF b e (rgU b).2.1 (if (rgU b).2.2=0∧most<(rgU b).1.toNat then 5 else (rgU b).2.2)).1 (rstF b e (rgU b).2.1 (if (rgU b).2.2=0∧most<(rgU b).1.toNat then 5 else (rgU b).2.2)).2,.v (.int .u64 (if e=0∧(if (rgU b).2.2=0∧most<(rgU b).1.toNat then 5 else (rgU b).2.2)=0 then (rgU b).1.toNat else 0:Nat))]):=by
 refine QE.start Tryz.func157 rfl zK rfl Tryz.ntmps157 fol zK (by simp [idfL,idf,QZ QS,QS,Qg,Qy,rdV]) (by simp [idfL,idf,QZ QS,QS,Qg,Qy,rdV]) ?_
 refine zz ?_
 (have X1:=@rdV.eq_1;refine zS1 ?_;clear X1)
 refine (QB0 b hb).useV ?_
 have hk:=QEj b
 generalize rgU b=q at hk ⊢
 obtain⟨n,k,f⟩:=q
 simp only at hk
 obtain⟨g,hg⟩:∃g,g=(if f=0∧most<n.toNat then 5 else f):=⟨_,rfl⟩
 rw [←hg]
 have hd:List.take (b.length - k) (List.drop k (flat QC b))=flat QC (b.drop k):=by
  rw [QL,QT,List.take_of_length_le (by rw [List.length_drop];exact Nat.le_refl _)]
 (have X1:=@guR.eq_1;refine zS1 ?_;clear X1)
 iterate 14 all_goals (try (refine And.intro (fun _=>?_) (fun _=>?_)<;>try (have X1:=hd;first | exact zC1 | refine zS1 ?_)))
 all_goals first
  | (exfalso;omega)
  | (
    obtain rfl:e=0:=by omega
    obtain rfl:f=0:=by omega
    obtain rfl:g=0:=by rw [hg,if_neg zo]
    have e1:rstF b 0 k 0=(b.drop k,0):=rfl
    rw [e1,if_pos ⟨rfl,rfl⟩];simp only [List.length_drop];first | done | rfl)
  | (
    obtain rfl:g=f:=by rw [hg,if_neg zo]
    have hne:¬(e=0∧g=0):=by omega
    refine (QFq b e g hb).useV ?_
    (have X1:=@rdV.eq_1;refine zS1 ?_;clear X1)
    rw [rstF,if_neg hne,if_neg hne];first | done | rfl)
  | (
    obtain rfl:g=5:=by rw [hg,if_pos zo]
    have hne:¬(e=0∧5=0):=by omega
    refine (QFq b e 5 hb).useV ?_
    (have X1:=@rdV.eq_1;refine zS1 ?_;clear X1)
    rw [rstF,if_neg hne,if_neg hne];first | done | rfl)
  | (
    have h5:g=5:=by rw [hg,if_pos zo]
    subst h5
    have hne:¬(e=0∧5=0):=by omega
    refine (QFq b e 5 hb).useV ?_
    (have X1:=@rdV.eq_1;refine zS1 ?_;clear X1)
    rw [rstF,if_neg hne]
    simp only [and_false,if_false]
    rfl)
open Proofs
def bndF (m:Int):Int:=max 0 (min m 65536)
theorem QTQ (m:Int):QE Tryz.prog [] 213 [.v (.int .i64 m)] (.v (.int .i64 (bndF m))):=by
 refine QE.start Tryz.func213 rfl zK rfl Tryz.ntmps213 fol zK zI zI ?_
 refine zZ ?_
 rw [bndF]
theorem QQO (m:Int):QE Tryz.prog [] 240 [.v (.int .i64 m)] (.v (.int .i64 (bndF m))):=by
 refine QE.start Tryz.func240 rfl zK rfl Tryz.ntmps240 fol zK zI zI ?_
 refine zZ ?_
 rw [bndF]
structure OpV where
 kind:Int
 name:ByteArray
 pos:Int
 by_:Int
 text:ByteArray
 deriving DecidableEq
def QX (o:OpV):List AV:=[.v (.int .i64 o.kind),.v (.string o.name),.v (.int .i64 o.pos),.v (.int .i64 o.by_),.v (.string o.text)]
def opC (o:OpV):Prop:=(o.kind=1∧o.text.size≤1024∧o.pos=0∧o.by_=0)∨(o.kind=2∧o.text.size=0∧o.pos=0∧o.by_=0)∨
 (o.kind=3∧-2147483648≤o.by_∧o.by_≤2147483648∧o.pos=0∧o.text.size=0)∨(o.kind=4∧0≤o.pos∧o.pos≤1099511627776∧0<o.text.size∧o.text.size≤1024∧o.by_=0)∨
 (o.kind=5∧0≤o.pos∧o.pos≤1099511627776∧0<o.by_∧o.by_≤1024∧o.text.size=0)
instance (o:OpV):Decidable (opC o):=by unfold opC;infer_instance
def QBp (o:OpV):Bool:=QBP o.name&&decide (opC o)
theorem QBe {o:OpV} (hb:QBP o.name=true):QBp o=true↔(o.kind=1∧o.text.size≤1024∧o.pos=0∧o.by_=0)∨(o.kind=2∧o.text.size=0∧o.pos=0∧o.by_=0)∨
 (o.kind=3∧-2147483648≤o.by_∧o.by_≤2147483648∧o.pos=0∧o.text.size=0)∨(o.kind=4∧0≤o.pos∧o.pos≤1099511627776∧0<o.text.size∧o.text.size≤1024∧o.by_=0)∨
 (o.kind=5∧0≤o.pos∧o.pos≤1099511627776∧0<o.by_∧o.by_≤1024∧o.text.size=0):=by
 rw [QBp,hb,Bool.true_and,decide_eq_true_iff,opC]
theorem ba_empty {s:ByteArray}:(s=⟨#[]⟩)=(s.size=0):=propext ⟨fun h=>by rw [h];rfl,fun h=>by
 obtain⟨a⟩:=s
 have:a.size=0:=h
 rw [Array.size_eq_zero_iff] at this
 rw [this]⟩
theorem rMay_c (o:OpV) (hn:o.name.size≤1048576) (ht:o.text.size≤1048576):QE Tryz.prog [] 231 [.agg (QX o)] (.v (.bool (QBp o))):=by
 refine QE.start Tryz.func231 rfl zK rfl Tryz.ntmps231 fol zK (by simp [idfL,idf,QZ QS,QS,Qg,Qy,QX]) (by simp [idfL,idf,QZ QS,QS,Qg,Qy,QX]) ?_
 refine zz ?_
 (have X1:=@QX.eq_1;refine zS1 ?_;clear X1)
 refine (QMy o.name hn).useV ?_
 cases hb:QBP o.name
 ·(have X1:=@QBp.eq_1;have X2:=hb;first | exact zC2 | refine zS2 ?_)
  try rfl
 (have X1:=@ba_empty;refine zS1 ?_;clear X1)
 iterate 14 all_goals (try (refine And.intro (fun _=>?_) (fun _=>?_)<;>try (have X1:=@ba_empty;first | exact zC1 | refine zS1 ?_)))
 all_goals first
  | (
    cases hm:QBp o
    ·have key:=mt (QBe hb).2 (by rw [hm];decide)
     first
      | rfl
      | (exfalso;omega)
      | (rw [decide_eq_false zo])
    ·have key:=(QBe hb).1 hm
     first
      | rfl
      | (exfalso;omega)
      | (rw [decide_eq_true zo]))
theorem QXK (o:OpV):QE Tryz.prog [] 235 [.agg (QX o)] (.v (.bool (decide (0≤o.pos∧o.pos≤1099511627776)))):=by
 refine QE.start Tryz.func235 rfl zK rfl Tryz.ntmps235 fol zK (by simp [idfL,idf,QZ QS,QS,Qg,Qy,QX]) (by simp [idfL,idf,QZ QS,QS,Qg,Qy,QX]) ?_
 refine zz ?_
 (have X1:=@QX.eq_1;refine zS1 ?_;clear X1)
 iterate 14 all_goals (try (refine And.intro (fun _=>?_) (fun _=>?_)<;>try first | exact zC | refine zS ?_))
 all_goals first
  | (rw [decide_eq_false zo];done)
  | (
    by_cases h:o.pos≤1099511627776
    ·rw [decide_eq_true h,decide_eq_true zo]
    ·rw [decide_eq_false h,decide_eq_false zo])
theorem Qcp (o:OpV) (hn:o.name.size≤1048576) (ht:o.text.size≤1048576):QE Tryz.prog [] 194 [.agg (QX o)] (.v (.int .i64 (if QBp o=true then 0 else 40))):=by
 refine QE.start Tryz.func194 rfl zK rfl Tryz.ntmps194 fol zK (by simp [idfL,idf,QZ QS,QS,Qg,Qy,QX]) (by simp [idfL,idf,QZ QS,QS,Qg,Qy,QX]) ?_
 refine zz ?_
 (have X1:=@QX.eq_1;refine zS1 ?_;clear X1)
 refine (QTf o.name hn).useV ?_
 cases hb:QBP o.name
 ·have hm:QBp o=false:=by rw [QBp,hb];rfl
  rw [hm,if_neg zD]
  refine zS ?_
  iterate 14 all_goals (try (refine And.intro (fun _=>?_) (fun _=>?_)<;>try first | exact zC | refine zS ?_))
 (have X1:=@ba_empty;refine zS1 ?_;clear X1)
 iterate 14 all_goals (try (refine And.intro (fun _=>?_) (fun _=>?_)<;>try (have X1:=@ba_empty;first | exact zC1 | refine zS1 ?_)))
 all_goals try
  refine (QXK o).useV ?_
  (have X1:=@ba_empty;refine zS1 ?_;clear X1)
  iterate 14 all_goals (try (refine And.intro (fun _=>?_) (fun _=>?_)<;>try (have X1:=@ba_empty;first | exact zC1 | refine zS1 ?_)))
 all_goals first
  | (
    cases hm:QBp o
    ·have key:=mt (QBe hb).2 (by rw [hm];decide)
     first
      | rfl
      | (exfalso;omega)
      | (rw [decide_eq_false zo])
    ·have key:=(QBe hb).1 hm
     first
      | rfl
      | (exfalso;omega)
      | (rw [decide_eq_true zo]))
end Go.AW
