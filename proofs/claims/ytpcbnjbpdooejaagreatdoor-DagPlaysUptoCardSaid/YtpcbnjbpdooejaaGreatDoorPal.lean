/- A part of the proof: D28 D29. -/
import Derived.Test.YtpcbnjbpdooejaaGreatDoorPae
import Derived.Test.YtpcbnjbpdooejaaGreatDoorPak
import Derived.Test.YtpcbnjbpdooejaaGreatDoorPag
set_option linter.unusedSimpArgs false
set_option linter.unusedVariables false
set_option maxRecDepth 100000
set_option maxHeartbeats 8000000
namespace Go.AW
open Proofs
theorem QaS (b:List UInt8):(rgI b).2.1≤b.length∧(rgI b).2.2≤4:=by
 have h:=QIE b 0
 rw [rgI]
 split
 ·simp;omega
 ·split
  ·simp
  ·simp;omega
theorem QDh (b:List UInt8) (hb:b.length≤1048576):QE Tryz.prog [] 207 [.seq b.length 1 (flat QC b),.v (.int .i64 256)] (.tup [.seq (Qe rgU rgI 256 b).1.length 1 (flat Qa (Qe rgU rgI 256 b).1),.v (.int .i64 (Qe rgU rgI 256 b).2.1),.v (.int .i64 (Qe rgU rgI 256 b).2.2)]):=by
 refine QE.startW Tryz.func207 rfl zK rfl Tryz.ntmps207 fol zK (by simp [idfL,idf,QZ QS,QS,Qg,Qy,QDf]) (by simp [idfL,idf,QZ QS,QS,Qg,Qy,QDf]) ?_
 refine zZ ?_
 refine (QQO 256).useV ?_
 have hbn:bndF 256=256:=by decide
 rw [hbn]
 refine zS ?_
 refine (QB0 b zo).useV ?_
 obtain⟨k1,k2⟩:=QEj b
 obtain⟨R,hR⟩:∃R,R=Qe rgU rgI 256 b:=⟨_,rfl⟩
 rw [←hR]
 rw [Qe] at hR
 generalize rgU b=q at k1 k2 hR ⊢
 obtain⟨n,k,e⟩:=q
 simp only at k1 k2 hR
 (have X1:=@guR.eq_1;refine zS1 ?_;clear X1)
 refine⟨fun he=>?_,fun he=>?_⟩
 ·rw [if_pos zo] at hR
  subst hR
  first | exact zC | refine zS ?_
  try rfl
 ·rw [if_neg zo] at hR
  refine zS ?_
  refine⟨fun hm=>?_,fun hm=>?_⟩
  ·rw [if_pos zo] at hR
   subst hR
   first | exact zC | refine zS ?_
   try rfl
  rw [if_neg zo] at hR
  refine zS ?_
  refine QD (ι:=Nat×List Int×Nat) (fun q=>⟨[(0,.seq b.length 1 (flat QC b)),(1,.v (.int .i64 256)),(7,.v (.int .u64 n.toNat)),(8,.v (.int .i64 q.2.2)),(10,.sl 0 0 q.2.1.length 1),(11,.v (.int .u64 q.1))],⟨[(0,.cells 2 (flat Qa q.2.1) true)],1,1,0⟩⟩)
    (fun q=>grF rgU rgI 256 (n.toNat - q.1) (b.drop q.2.2) q.2.1 q.2.2=R∧q.2.2≤b.length∧q.2.1.length≤256∧q.1≤n.toNat) (fun q=>n.toNat - q.1) (0,[],k) ⟨hR.symm,zO,by simp,Nat.zero_le _⟩ ?_ ?_
  ·exact fzN 0 [] []
  rintro⟨m,acc,used⟩ ⟨hg,hu,ha,hn⟩
  simp only at hg hu ha hn
  refine zS ?_
  refine⟨fun h1=>?_,fun h1=>?_⟩
  ·rw [show n.toNat - m=(n.toNat - (m+1))+1 by omega,grF] at hg
   obtain⟨c,hc⟩:∃c,c=b.drop used:=⟨_,rfl⟩
   have hcl:c.length=b.length - used:=by rw [hc,List.length_drop]
   have hd:List.take (b.length - used) (List.drop used (flat QC b))=flat QC c:=by
    rw [QL,QT,←hc,List.take_of_length_le zo]
   rw [←hc] at hg
   have hG:=QB0 c zo
   rw [hcl] at hG
   (have X1:=hd;refine zS1 ?_;clear X1)
   refine hG.useV ?_
   obtain⟨j1,j2⟩:=QEj c
   generalize rgU c=q1 at j1 j2 hg ⊢
   obtain⟨many,k1,f⟩:=q1
   simp only at j1 j2 hg
   obtain⟨d,hdd⟩:∃d,d=c.drop k1:=⟨_,rfl⟩
   have hdl:d.length=b.length - (used+k1):=by rw [hdd,List.length_drop];omega
   have hd2:List.take (b.length - (used+k1)) (List.drop (used+k1) (flat QC b))=flat QC d:=by
    rw [QL,QT,hdd,hc,List.drop_drop,List.take_of_length_le (by rw [List.length_drop];exact Nat.le_refl _)]
   rw [←hdd] at hg
   have hI:=QSt d zo
   rw [hdl] at hI
   have hw:IntKind.u64.wrap ((256:Int) - acc.length)=256 - acc.length:=QU zo zo
   (have X1:=@guR.eq_1;refine zS1 ?_;clear X1)
   refine⟨fun hf=>?_,fun hf=>?_⟩
   ·rw [if_pos zo] at hg
    subst hg
    first | exact zC | refine zS ?_
    try rfl
   ·obtain rfl:f=0:=by omega
    rw [if_neg zo] at hg
    (have X1:=hw;refine zS1 ?_;clear X1)
    refine⟨fun hm0=>?_,fun hm0=>?_⟩
    ·rw [if_pos zo] at hg
     subst hg
     first | exact zC | refine zS ?_
     try rfl
    ·rw [if_neg zo] at hg
     (have X1:=hw;refine zS1 ?_;clear X1)
     refine⟨fun hm1=>?_,fun hm1=>?_⟩
     ·rw [if_pos zo] at hg
      subst hg
      first | exact zC | refine zS ?_
      try rfl
     ·rw [if_neg zo] at hg
      have e0:((used:Int)+(k1:Int)).toNat=used+k1:=by omega
      (have X1:=hw;have X2:=e0;have X3:=hd2;refine zS3 ?_;clear X1 X2 X3)
      refine hI.useV ?_
      obtain⟨i1,i2⟩:=QaS d
      generalize rgI d=q2 at i1 i2 hg ⊢
      obtain⟨v,k2,f2⟩:=q2
      simp only at i1 i2 hg
      (have X1:=@giR.eq_1;refine zS1 ?_;clear X1)
      refine⟨fun hf2=>?_,fun hf2=>?_⟩
      ·rw [if_pos zo] at hg
       subst hg
       first | exact zC | refine zS ?_
       try rfl
      ·obtain rfl:f2=0:=by omega
       rw [if_neg zo] at hg
       refine zS ?_
       refine⟨fun hal=>?_,fun hal=>?_⟩
       ·have e1:((acc.length:Int) - 1).toNat=acc.length - 1:=by omega
        have hgl:(flat Qa acc)[acc.length - 1]?=some (.v (.int .i64 (acc[acc.length - 1]'zo))):=QDT zo
        have hlast:acc.getLast?=some (acc[acc.length - 1]'zo):=by rw [List.getLast?_eq_getElem?,List.getElem?_eq_getElem]
        (have X1:=e1;have X2:=hgl;refine zS2 ?_;clear X1 X2)
        refine⟨fun hv=>?_,fun hv=>?_⟩
        ·rw [if_pos (by rw [hlast,hv])] at hg
         subst hg
         first | exact zC | refine zS ?_
         try rfl
        ·rw [if_neg (by rw [hlast];simpa using hv)] at hg
         refine zS ?_
         refine QD (ι:=Nat×List Int) (fun q=>⟨[(0,.seq b.length 1 (flat QC b)),(1,.v (.int .i64 256)),(7,.v (.int .u64 n.toNat)),(8,.v (.int .i64 used)),(10,.sl 0 0 q.2.length 1),(11,.v (.int .u64 m)),(12,.v (.int .u64 many.toNat)),(13,.v (.int .i64 k1)),(15,.v (.int .i64 v)),(16,.v (.int .i64 k2)),(17,.v (.int .u64 q.1))],⟨[(0,.cells 2 (flat Qa q.2) true)],1,1,0⟩⟩)
          (fun q=>q.1≤many.toNat∧q.2=acc++List.replicate q.1 v) (fun q=>many.toNat - q.1) (0,acc) ⟨Nat.zero_le _,by simp⟩ ?_ ?_
         ·exact fzN 0 [(0,0)] []
         rintro⟨t,l⟩ ⟨ht,htl⟩
         simp only at ht htl
         have hll:l.length=acc.length+t:=by rw [htl];simp
         refine zS ?_
         refine⟨fun h2=>?_,fun h2=>?_⟩
         ·(have X1:=@jflat_snoc;refine zS1 ?_;clear X1)
          refine⟨(t+1,l++[v]),⟨zO,by show l++[v]=acc++List.replicate (t+1) v;rw [htl,List.replicate_succ',List.append_assoc]⟩,zO,?_⟩
          (have X1:=@List.length_append.{0};have X2:=@List.length_cons.{0};have X3:=@List.length_nil.{0};exact fzN3 0 [(0,199)] [])
         ·obtain rfl:t=many.toNat:=by omega
          rw [hc,List.drop_drop] at hg
          refine zS ?_
          refine⟨(m+1,l,used+k1+k2),⟨?_,?_,?_,?_⟩,zO,?_⟩
          ·show grF rgU rgI 256 (n.toNat - (m+1)) (b.drop (used+k1+k2)) l (used+k1+k2)=R
           rw [htl,←hg,Nat.add_assoc]
          ·show used+k1+k2≤b.length
           omega
          ·show l.length≤256
           omega
          ·show m+1≤n.toNat
           omega
          ·(have X1:=@Int.add_assoc;exact fzN1 0 [(0,0)] [])
       ·have hacc:acc=[]:=List.eq_nil_of_length_eq_zero zo
        rw [if_neg (by rw [hacc];simp)] at hg
        refine zS ?_
        refine QD (ι:=Nat×List Int) (fun q=>⟨[(0,.seq b.length 1 (flat QC b)),(1,.v (.int .i64 256)),(7,.v (.int .u64 n.toNat)),(8,.v (.int .i64 used)),(10,.sl 0 0 q.2.length 1),(11,.v (.int .u64 m)),(12,.v (.int .u64 many.toNat)),(13,.v (.int .i64 k1)),(15,.v (.int .i64 v)),(16,.v (.int .i64 k2)),(17,.v (.int .u64 q.1))],⟨[(0,.cells 2 (flat Qa q.2) true)],1,1,0⟩⟩)
         (fun q=>q.1≤many.toNat∧q.2=acc++List.replicate q.1 v) (fun q=>many.toNat - q.1) (0,acc) ⟨Nat.zero_le _,by simp⟩ ?_ ?_
        ·exact fzN 0 [(0,0)] []
        rintro⟨t,l⟩ ⟨ht,htl⟩
        simp only at ht htl
        have hll:l.length=acc.length+t:=by rw [htl];simp
        refine zS ?_
        refine⟨fun h2=>?_,fun h2=>?_⟩
        ·(have X1:=@jflat_snoc;refine zS1 ?_;clear X1)
         refine⟨(t+1,l++[v]),⟨zO,by show l++[v]=acc++List.replicate (t+1) v;rw [htl,List.replicate_succ',List.append_assoc]⟩,zO,?_⟩
         (have X1:=@List.length_append.{0};have X2:=@List.length_cons.{0};have X3:=@List.length_nil.{0};exact fzN3 0 [(0,199)] [])
        ·obtain rfl:t=many.toNat:=by omega
         rw [hc,List.drop_drop] at hg
         refine zS ?_
         refine⟨(m+1,l,used+k1+k2),⟨?_,?_,?_,?_⟩,zO,?_⟩
         ·show grF rgU rgI 256 (n.toNat - (m+1)) (b.drop (used+k1+k2)) l (used+k1+k2)=R
          rw [htl,←hg,Nat.add_assoc]
         ·show used+k1+k2≤b.length
          omega
         ·show l.length≤256
          omega
         ·show m+1≤n.toNat
          omega
         ·(have X1:=@Int.add_assoc;exact fzN1 0 [(0,0)] [])
  ·obtain rfl:m=n.toNat:=by omega
   rw [Nat.sub_self,grF] at hg
   subst hg
   (have X1:=@Qec;exact zC1)
def sumW (a:Int):List Int→List Int
 | []=>[]
 | x::l=>IntKind.i64.wrap (a+x)::sumW (IntKind.i64.wrap (a+x)) l
theorem QBS:∀(l:List Int) (a:Int),(sumW a l).length=l.length
 | [],_=>rfl
 | x::l,a=>by simp [sumW,QBS l]
theorem QGj {y:Int}:∀(l:List Int) (a:Int),sumW a (l++[y])=sumW a l++[IntKind.i64.wrap ((sumW a l).getLast?.getD a+y)]
 | [],_=>rfl
 | x::l,a=>by
  rw [List.cons_append,sumW,sumW,QGj l]
  cases h:sumW (IntKind.i64.wrap (a+x)) l<;>simp [List.getLast?_cons]
def Qt (R:List Int×Nat×Nat):List Int×Nat×Nat:=(sumW 0 R.1,R.2.1,R.2.2)
theorem QK3 (b:List UInt8) (hb:b.length≤1048576) (hR:(Qe rgU rgI 256 b).1.length≤256):QE Tryz.prog [] 209 [.seq b.length 1 (flat QC b),.v (.int .i64 256)] (.tup [.seq (Qt (Qe rgU rgI 256 b)).1.length 1 (flat Qa (Qt (Qe rgU rgI 256 b)).1),.v (.int .i64 (Qt (Qe rgU rgI 256 b)).2.1),.v (.int .i64 (Qt (Qe rgU rgI 256 b)).2.2)]):=by
 refine QE.startW Tryz.func209 rfl zK rfl Tryz.ntmps209 fol zK (by simp [idfL,idf,QZ QS,QS,Qg,Qy,QDf]) (by simp [idfL,idf,QZ QS,QS,Qg,Qy,QDf]) ?_
 refine zZ ?_
 refine (QDh b hb).useV ?_
 generalize Qe rgU rgI 256 b=R at hR ⊢
 obtain⟨l,used,e⟩:=R
 simp only [Qt] at hR ⊢
 refine zS ?_
 refine QD (ι:=Nat×List Int×Int) (fun q=>⟨[(7,.seq l.length 1 (flat Qa l)),(8,.v (.int .i64 used)),(9,.v (.int .i64 e)),(10,.sl 0 0 q.2.1.length 1),(11,.v (.int .i64 q.2.2)),(12,.v (.int .i64 q.1))],⟨[(0,.cells 2 (flat Qa q.2.1) true)],1,1,0⟩⟩) (fun q=>q.1≤l.length∧q.2.1=sumW 0 (l.take q.1)∧q.2.2=(sumW 0 (l.take q.1)).getLast?.getD 0) (fun q=>l.length - q.1) (0,[],0) ⟨Nat.zero_le _,rfl,rfl⟩ ?_ ?_
 ·exact fzN 0 [] []
 rintro⟨i,acc,z⟩ ⟨hi,ha,hz⟩
 simp only at hi ha hz
 have hal:acc.length≤1048576:=by rw [ha,QBS];simp;omega
 refine zS ?_
 refine⟨fun h1=>?_,fun h1=>?_⟩
 ·have hi1:i<l.length:=by omega
  (have X1:=@jflat_snoc;refine zS1 ?_;clear X1)
  have hs:sumW 0 (l.take (i+1))=acc++[IntKind.i64.wrap (z+l[i])]:=by rw [List.take_succ_eq_append_getElem hi1,QGj,ha,hz]
  refine⟨(i+1,acc++[IntKind.i64.wrap (z+l[i])],IntKind.i64.wrap (z+l[i])),⟨hi1,hs.symm,?_⟩,zO,?_⟩
  ·show _=(sumW 0 (l.take (i+1))).getLast?.getD 0
   rw [hs,List.getLast?_append];rfl
  ·(have X1:=@List.length_append.{0};have X2:=@List.length_cons.{0};have X3:=@List.length_nil.{0};exact fzN3 0 [(0,114)] [])
 ·have hi1:i=l.length:=by omega
  subst hi1
  rw [List.take_length] at ha
  subst ha
  (have X1:=@Qec;exact zC1)
theorem QMT (b:List UInt8) (hb:b.length≤1048576) (hR:(Qe (getU 0 0) (getI 0 0 0) 256 b).1.length≤256∧∀x∈(Qe (getU 0 0) (getI 0 0 0) 256 b).1,-9223372036854775808≤x∧x<9223372036854775808):QM Tryz.prog [] 171 [.seq b.length 1 (flat QC b),.v (.int .i64 256)] [] 0 (grV (Qt (Qe (getU 0 0) (getI 0 0 0) 256 b))) (grO (Qt (Qe (getU 0 0) (getI 0 0 0) 256 b))) 1:=by
 refine QM.start Tryz.func171 rfl zK rfl Tryz.ntmps171 fol zK zD ?_
 refine zz ?_
 have hG:=QEv b hb
 generalize Qe (getU 0 0) (getI 0 0 0) 256 b=R at hG hR ⊢
 obtain⟨l,used,e⟩:=R
 obtain⟨hR,hr⟩:=hR
 simp only [Qt] at hR hr ⊢
 refine zS ?_
 by_cases he:e=0
 ·subst he
  obtain⟨r1,r2⟩:=QOb (R:=(l,used,0)) rfl
  obtain⟨r3,r4⟩:=QOb (R:=(sumW 0 l,used,0)) rfl
  rw [r1,r2] at hG
  rw [r3,r4]
  refine QM.useX [] hG rfl (by simp only [QCA,QC1,renA];rw [QAj Qg]) ?_ ?_
  ·exact zC
  refine zS ?_
  refine QD (ι:=Nat×List Int) (fun q=>⟨[(4,.sl 0 0 l.length 1),(5,.v (.int .i64 used)),(6,.v (.int .i64 0)),(7,.v (.int .i64 q.1))],⟨[(0,.cells 2 (flat Qa q.2) true)],1,1,0⟩⟩) (fun q=>1≤q.1∧q.2=sumW 0 (l.take q.1)++l.drop q.1) (fun q=>l.length - q.1) (1,l) ⟨Nat.le_refl _,?_⟩ ?_ ?_
  ·cases l with
   | nil=>rfl
   | cons x l=>
    have:=hr x (by simp)
    simp only [List.take_succ_cons,List.take_zero,sumW,Int.zero_add,List.drop_succ_cons,List.drop_zero,List.cons_append,List.nil_append]
    rw [QAN this.1 zo]
  ·refine fzNM 0 [(0,70)] [] ?_ ?_<;>first | exact zC | refine zS ?_
   rfl
  rintro⟨i,d⟩ ⟨hi,hd⟩
  simp only at hi hd
  have hdl:d.length=l.length:=by rw [hd,List.length_append,QBS];simp;omega
  refine zS ?_
  refine⟨fun h1=>?_,fun h1=>?_⟩
  ·have hi1:i<l.length:=by omega
   obtain⟨A,hA⟩:∃A,A=sumW 0 (l.take i):=⟨_,rfl⟩
   have hAl:A.length=i:=by rw [hA,QBS];simp;omega
   have hdA:d=A++l[i]::l.drop (i+1):=by rw [hd,←hA,List.drop_eq_getElem_cons hi1]
   have hAl2:A.getLast?=some (A[i - 1]'zo):=by
    rw [List.getLast?_eq_getElem?,List.getElem?_eq_getElem zo];congr 2;omega
   have g1:(flat Qa d)[i]?=some (.v (.int .i64 l[i])):=by
    rw [QDT zo];congr 3
    simp only [hdA]
    rw [List.getElem_append_right zo];simp [hAl]
   have g2:(flat Qa d)[i - 1]?=some (.v (.int .i64 (A[i - 1]'zo))):=by
    rw [QDT zo];congr 3
    simp only [hdA]
    rw [List.getElem_append_left]
   have e1:((i:Int) - 1).toNat=i - 1:=by omega
   (have X1:=g1;have X2:=g2;have X3:=e1;have X4:=@jflat_set;refine zS4 ?_;clear X1 X2 X3 X4)
   have hset:d.set i (IntKind.i64.wrap (l[i]+A[i - 1]'zo))=sumW 0 (l.take (i+1))++l.drop (i+1):=by
    have hs:∀y,d.set i y=A++y::l.drop (i+1):=fun y=>by
     rw [hdA,List.set_append_right _ _ zo,show i - A.length=0 by omega];rfl
    rw [hs,List.take_succ_eq_append_getElem hi1,QGj,←hA,hAl2,Option.getD_some,Int.add_comm]
    simp
   refine⟨(i+1,d.set i (IntKind.i64.wrap (l[i]+A[i - 1]'zo))),⟨zO,hset⟩,zO,?_⟩
   exact fzN 0 [(0,0)] []
  ·have hd2:d=sumW 0 l:=by rw [hd,List.take_of_length_le zo,List.drop_eq_nil_of_le zo,List.append_nil]
   subst hd2
   refine zS ?_
   (have X1:=@QBS;exact fzN1 0 [(0,0)] [])
 ·have r1:grV (l,used,e)=.tup [.v (.slice none 0 0),.v (.int .i64 0),.v (.int .i64 e)]:=if_neg he
  have r2:grO (l,used,e)=[]:=if_neg he
  have r3:grV (sumW 0 l,used,e)=.tup [.v (.slice none 0 0),.v (.int .i64 0),.v (.int .i64 e)]:=if_neg he
  have r4:grO (sumW 0 l,used,e)=[]:=if_neg he
  rw [r1,r2] at hG
  rw [r3,r4]
  refine QM.useX [] hG rfl (by simp only [QCA,QC1,renA];rw [QAj Qg]) ?_ ?_
  ·exact zC
  refine zS ?_
  refine QD (ι:=Unit) (fun _=>⟨[(4,.v (.slice none 0 0)),(5,.v (.int .i64 0)),(6,.v (.int .i64 e)),(7,.v (.int .i64 1))],⟨[],0,0,0⟩⟩) (fun _=>True) (fun _=>0) () trivial ?_ ?_
  ·exact fzN 0 [] []
  intro _ _
  refine zS ?_
  iterate 14 all_goals (try (refine And.intro (fun _=>?_) (fun _=>?_)<;>try first | exact zC | refine zS ?_))
  all_goals first
   | (exfalso;omega)
   | ((refine fzNM 0 [] [] ?_ ?_<;>first | exact zC | refine zS ?_);done)
open Proofs
def hB (h:Hs):List UInt8:=h.1.map fun n=>UInt8.ofNat n.toNat
theorem QTa (h:Hs):(hB h).length=32:=by simp [hB,h.2]
theorem QU1 {h:Hs} (hk:hok h):hcell h=flat QC (hB h):=by
 obtain⟨l,hl⟩:=h
 simp only [hcell,hB,hok] at*
 clear hl
 induction l with
 | nil=>rfl
 | cons a l ih=>
  have h1:=hk a (by simp)
  have h2:=ih fun n hn=>hk n (by simp [hn])
  simp only [List.map_cons,flat,List.flatMap_cons,QC,List.cons_append,List.nil_append] at*
  rw [h2]
  congr 3
  rw [UInt8.toNat_ofNat']
  congr 1
  omega
def QCY (l:List Hs):List UInt8:=lebU l.length++l.flatMap hB
theorem QE0 (l:List Hs):(l.flatMap hB).length=32*l.length:=by
 induction l with
 | nil=>rfl
 | cons a l ih=>simp only [List.flatMap_cons,List.length_append,QTa,ih,List.length_cons];omega
theorem QdQ (l:List Hs) (hl:l.length≤1048576) (hk:∀h∈l,hok h):POwn Tryz.prog [] 193 [.seq l.length 32 (flat hcell l)] (QCY l).length 1 5 (flat QC (QCY l)):=by
 refine POwn.start Tryz.func193 rfl zK rfl Tryz.ntmps193 fol zK zI (by simp [QQ]) ?_
 refine zZ ?_
 have hlu:=QAA (show l.length<18446744073709551616 by omega)
 refine POwn.useV (QGw l.length zo) ?_
 refine zS ?_
 refine QD (ι:=Nat×List UInt8) (fun q=>⟨[(0,.seq l.length 32 (flat hcell l)),(3,.sl 0 0 q.2.length 1),(4,.v (.int .i64 q.1))],⟨[(0,.cells 5 (flat QC q.2) true)],1,1,0⟩⟩) (fun q=>q.1≤l.length∧q.2=lebU l.length++(l.take q.1).flatMap hB) (fun q=>l.length - q.1) (0,lebU l.length) ⟨Nat.zero_le _,by simp⟩ ?_ ?_
 ·exact fzN 0 [(0,44)] []
 rintro⟨i,acc⟩ ⟨hi,ha⟩
 simp only at hi ha
 have hal:acc.length≤50000000:=by rw [ha,List.length_append,QE0];simp;omega
 refine zS ?_
 refine⟨fun h1=>?_,fun h1=>?_⟩
 ·have hi1:i<l.length:=by omega
  have hc:flat QC acc++hcell l[i]=flat QC (acc++hB l[i]):=by rw [QU1 (hk l[i] (List.getElem_mem hi1)),QBD]
  (have X1:=hc;refine zS1 ?_;clear X1)
  refine⟨(i+1,acc++hB l[i]),⟨hi1,?_⟩,zO,?_⟩
  ·show acc++hB l[i]=lebU l.length++(l.take (i+1)).flatMap hB
   rw [List.take_succ_eq_append_getElem hi1,List.flatMap_append,ha]
   simp only [List.flatMap_cons,List.flatMap_nil,List.append_nil,List.append_assoc]
  ·(have X1:=@List.length_append.{0};have X2:=@QTa;exact fzN2 0 [(0,43)] [])
 ·have hi1:i=l.length:=by omega
  subst hi1
  rw [List.take_length] at ha
  have hP:QCY l=acc:=ha.symm
  rw [hP]
  refine zS ?_
  exact fzN 0 [(0,0)] []
theorem HPut_o (l:List Hs) (hl:l.length≤1048576) (hk:∀h∈l,hok h):POwn Tryz.prog [] 150 [.seq l.length 32 (flat hcell l)] (QCY l).length 1 5 (flat QC (QCY l)):=by
 refine POwn.start Tryz.func150 rfl zK rfl Tryz.ntmps150 fol zK zI (by simp [QQ]) ?_
 refine zZ ?_
 have hlu:=QAA (show l.length<18446744073709551616 by omega)
 refine POwn.useV (QDo l.length zo) ?_
 refine zS ?_
 refine QD (ι:=Nat×List UInt8) (fun q=>⟨[(3,.sl 0 0 q.2.length 1),(10,.seq l.length 32 (flat hcell l)),(11,.v (.int .i64 l.length)),(12,.v (.int .i64 q.1))],⟨[(0,.cells 5 (flat QC q.2) true)],1,1,0⟩⟩) (fun q=>q.1≤l.length∧q.2=lebU l.length++(l.take q.1).flatMap hB) (fun q=>l.length - q.1) (0,lebU l.length) ⟨Nat.zero_le _,by simp⟩ ?_ ?_
 ·exact fzN 0 [(0,42)] []
 rintro⟨i,acc⟩ ⟨hi,ha⟩
 simp only at hi ha
 have hal:acc.length≤50000000:=by rw [ha,List.length_append,QE0];simp;omega
 refine zS ?_
 refine⟨fun h1=>?_,fun h1=>?_⟩
 ·have hi1:i<l.length:=by omega
  have hc:flat QC acc++hcell l[i]=flat QC (acc++hB l[i]):=by rw [QU1 (hk l[i] (List.getElem_mem hi1)),QBD]
  (have X1:=hc;refine zS1 ?_;clear X1)
  refine⟨(i+1,acc++hB l[i]),⟨hi1,?_⟩,zO,?_⟩
  ·show acc++hB l[i]=lebU l.length++(l.take (i+1)).flatMap hB
   rw [List.take_succ_eq_append_getElem hi1,List.flatMap_append,ha]
   simp only [List.flatMap_cons,List.flatMap_nil,List.append_nil,List.append_assoc]
  ·(have X1:=@List.length_append.{0};have X2:=@QTa;exact fzN2 0 [(0,61)] [])
 ·have hi1:i=l.length:=by omega
  subst hi1
  rw [List.take_length] at ha
  have hP:QCY l=acc:=ha.symm
  rw [hP]
  refine zS ?_
  exact fzN 0 [(0,0)] []
theorem Qdv (l:List Hs) (hl:l.length≤1048576) (hk:∀h∈l,hok h):PNew Tryz.prog [] 193 [.seq l.length 32 (flat hcell l)] (.seq (QCY l).length 1 (flat QC (QCY l))):=(QdQ l hl hk).toNew (by rw [QH,Nat.mul_one])
theorem QgA (l:List Hs) (hl:l.length≤1048576) (hk:∀h∈l,hok h):PNew Tryz.prog [] 150 [.seq l.length 32 (flat hcell l)] (.seq (QCY l).length 1 (flat QC (QCY l))):=(HPut_o l hl hk).toNew (by rw [QH,Nat.mul_one])
def mkH (l:List UInt8):Hs:=if h:l.length=32 then ⟨l.map fun b=>(b.toNat:Int),by rw [List.length_map,h]⟩ else QBl
theorem QIk {l:List UInt8} (h:l.length=32):hcell (mkH l)=flat QC l:=by
 rw [mkH,dif_pos h,hcell]
 simp only [List.map_map]
 clear h
 induction l with
 | nil=>rfl
 | cons a l ih=>simp only [List.map_cons,flat,List.flatMap_cons,QC,List.cons_append,List.nil_append] at*; rw [ih];rfl
def QA8:Nat→List UInt8→List Hs
 | 0,_=>[]
 | n+1,d=>mkH (d.take 32)::QA8 n (d.drop 32)
theorem QAv:∀(n:Nat) (d:List UInt8),(QA8 n d).length=n
 | 0,_=>rfl
 | n+1,d=>by rw [QA8,List.length_cons,QAv n]
theorem QEL:∀(n:Nat) (d:List UInt8),QA8 (n+1) d=QA8 n d++[mkH ((d.drop (32*n)).take 32)]
 | 0,d=>by simp [QA8]
 | n+1,d=>by
  rw [QA8,QEL n,List.drop_drop,show 32+32*n=32*(n+1) by omega];rfl
def hGet (GU:List UInt8→UInt64×Nat×Nat) (b:List UInt8) (most:Nat):List Hs×Nat×Nat:=
 if (GU b).2.2≠0 then ([],0,(GU b).2.2) else if most<(GU b).1.toNat then ([],0,5) else if (b.length - (GU b).2.1) / 32<(GU b).1.toNat then ([],0,3) else
 if QDw (QA8 (GU b).1.toNat (b.drop (GU b).2.1))=false then ([],0,4) else (QA8 (GU b).1.toNat (b.drop (GU b).2.1),(GU b).2.1+32*(GU b).1.toNat,0)
theorem QIC {l:List Hs} {i:Nat} {x:Hs} (hi:i<l.length):setL (flat hcell l) (i*32) (hcell x)=flat hcell (l.set i x):=by
 have h1:l.set i x=l.take i++x::l.drop (i+1):=by rw [List.set_eq_take_append_cons_drop,if_pos hi]
 have h2:l=l.take i++l[i]::l.drop (i+1):=by rw [←List.drop_eq_getElem_cons hi,List.take_append_drop]
 have h3:(flat hcell (l.take i)).length=i*32:=by rw [QW QK,List.length_take,Nat.min_eq_left zo]
 conv=>lhs;rw [h2]
 rw [h1,←Q4,←Q4,←QE6,←QE6]
 have:=QDn (a:=flat hcell (l.take i)) (b:=hcell l[i]++flat hcell (l.drop (i+1))) (cs:=hcell x) (i:=0)
 rw [Nat.add_zero,h3] at this
 exact this.trans (by rw [QEq (by rw [QK,QK];omega),QAK (by rw [QK,QK])])
theorem HGet_c (b:List UInt8) (hb:b.length≤1048576):QE Tryz.prog [] 113 [.seq b.length 1 (flat QC b),.v (.int .i64 16)] (.tup [.seq (hGet (getU 0 0) b 16).1.length 32 (flat hcell (hGet (getU 0 0) b 16).1),.v (.int .i64 (hGet (getU 0 0) b 16).2.1),.v (.int .i64 (hGet (getU 0 0) b 16).2.2)]):=by
 refine QE.startW Tryz.func113 rfl zK rfl Tryz.ntmps113 fol zK zI zI ?_
 refine zZ ?_
 refine (QAo b zo).useV ?_
 obtain⟨k1,k2⟩:=QCn b 0 0
 obtain⟨R,hR⟩:∃R,R=hGet (getU 0 0) b 16:=⟨_,rfl⟩
 rw [←hR]
 rw [hGet] at hR
 generalize getU 0 0 b=q at k1 k2 hR ⊢
 obtain⟨n,k,e⟩:=q
 simp only at k1 k2 hR
 have hw:IntKind.u64.wrap ((b.length:Int) - k)=(b.length:Int) - k:=QU zo zo
 (have X1:=@guR.eq_1;refine zS1 ?_;clear X1)
 iterate 14 all_goals (try (refine And.intro (fun _=>?_) (fun _=>?_)<;>try (have X1:=hw;first | exact zC1 | refine zS1 ?_)))
 all_goals try first
  | (exfalso;omega)
  | (rw [if_pos zo] at hR;subst hR;exact⟨⟨rfl,rfl⟩,rfl,rfl⟩)
  | (rw [if_neg zo,if_pos zo] at hR;subst hR;exact⟨⟨rfl,rfl⟩,rfl,rfl⟩)
  | (rw [if_neg zo,if_neg zo,if_pos zo] at hR;subst hR;exact⟨⟨rfl,rfl⟩,rfl,rfl⟩)
 rw [if_neg zo,if_neg zo,if_neg zo] at hR
 have hz:∀m,(List.replicate m [AV.v (.int .u8 0),AV.v (.int .u8 0),AV.v (.int .u8 0),AV.v (.int .u8 0),AV.v (.int .u8 0),AV.v (.int .u8 0),AV.v (.int .u8 0),AV.v (.int .u8 0),AV.v (.int .u8 0),AV.v (.int .u8 0),AV.v (.int .u8 0),AV.v (.int .u8 0),AV.v (.int .u8 0),AV.v (.int .u8 0),AV.v (.int .u8 0),AV.v (.int .u8 0),AV.v (.int .u8 0),AV.v (.int .u8 0),AV.v (.int .u8 0),AV.v (.int .u8 0),AV.v (.int .u8 0),AV.v (.int .u8 0),AV.v (.int .u8 0),AV.v (.int .u8 0),AV.v (.int .u8 0),AV.v (.int .u8 0),AV.v (.int .u8 0),AV.v (.int .u8 0),AV.v (.int .u8 0),AV.v (.int .u8 0),AV.v (.int .u8 0),AV.v (.int .u8 0)]).flatten=flat hcell (List.replicate m QBl):=fun m=>by
  induction m with
  | zero=>rfl
  | succ m ih=>rw [List.replicate_succ,List.replicate_succ,List.flatten_cons,ih];rfl
 rw [hz]
 refine QD (ι:=Nat×List Hs) (fun q=>⟨[(0,.seq b.length 1 (flat QC b)),(4,.sl 0 0 n.toNat 32),(8,.v (.int .i64 k)),(41,.v (.int .i64 n.toNat)),(42,.v (.int .i64 q.1))],⟨[(0,.cells 47 (flat hcell q.2) true)],1,1,0⟩⟩) (fun q=>q.1≤n.toNat∧q.2=QA8 q.1 (b.drop k)++List.replicate (n.toNat - q.1) QBl) (fun q=>n.toNat - q.1) (0,List.replicate n.toNat QBl) ⟨Nat.zero_le _,by simp [QA8]⟩ ?_ ?_
 ·exact fzN 0 [(0,369)] []
 rintro⟨i,l⟩ ⟨hi,hl⟩
 simp only at hi hl
 have hll:l.length=n.toNat:=by rw [hl,List.length_append,QAv,List.length_replicate];omega
 refine zS ?_
 refine⟨fun h1=>?_,fun h1=>?_⟩
 ·have hb1:k+32*n.toNat≤b.length:=by omega
  have e0:((k:Int)+32*(i:Int)).toNat=k+32*i:=by omega
  obtain⟨d,hd⟩:∃d,d=((b.drop k).drop (32*i)).take 32:=⟨_,rfl⟩
  have hdl:d.length=32:=by rw [hd,List.length_take,List.length_drop,List.length_drop];omega
  have hsrc:List.take 32 (List.take (b.length - (k+32*i)) (List.drop (k+32*i) (flat QC b)))=hcell (mkH d):=by
   rw [QIk hdl,QL,QT,QT,List.take_take,hd,List.drop_drop,Nat.min_eq_left zo]
  have hmin:min (b.length - (k+32*i)) 32=32:=by omega
  have hset:=QIC (l:=l) (x:=mkH d) (i:=i) zo
  (have X1:=e0;have X2:=hmin;have X3:=hsrc;have X4:=hset;refine zS4 ?_;clear X1 X2 X3 X4)
  refine⟨(i+1,l.set i (mkH d)),⟨zO,?_⟩,zO,?_⟩
  ·show l.set i (mkH d)=QA8 (i+1) (b.drop k)++List.replicate (n.toNat - (i+1)) QBl
   rw [hl,QEL,show n.toNat - i=(n.toNat - (i+1))+1 by omega,List.replicate_succ,List.set_append_right _ _ (by rw [QAv];exact Nat.le_refl _),QAv,Nat.sub_self,List.set_cons_zero,hd]
   simp
  ·exact fzN 0 [(0,0)] []
 ·obtain rfl:i=n.toNat:=by omega
  have hl2:l=QA8 n.toNat (b.drop k):=by rw [hl,Nat.sub_self];simp
  rw [←hl2] at hR
  refine zS ?_
  rw [←hll]
  refine (QO7 l zo).use (ids:=[0]) (by have X1:=@QLW;exact zCN1) (.inl rfl) ?_
  cases hr:QDw l
  ·rw [if_pos hr] at hR
   subst hR
   first | exact zC | refine zS ?_
   rfl
  ·rw [if_neg (by rw [hr];decide)] at hR
   subst hR
   (have X1:=@QLW;have X2:=hll;first | exact zC2 | refine zS2 ?_)
   rfl
theorem Qcq (b:List UInt8) (hb:b.length≤1048576):QE Tryz.prog [] 158 [.seq b.length 1 (flat QC b),.v (.int .i64 16)] (.tup [.seq (hGet rgU b 16).1.length 32 (flat hcell (hGet rgU b 16).1),.v (.int .i64 (hGet rgU b 16).2.1),.v (.int .i64 (hGet rgU b 16).2.2)]):=by
 refine QE.startW Tryz.func158 rfl zK rfl Tryz.ntmps158 fol zK zI zI ?_
 refine zZ ?_
 refine (QB0 b zo).useV ?_
 obtain⟨k1,k2⟩:=QEj b
 obtain⟨R,hR⟩:∃R,R=hGet rgU b 16:=⟨_,rfl⟩
 rw [←hR]
 rw [hGet] at hR
 generalize rgU b=q at k1 k2 hR ⊢
 obtain⟨n,k,e⟩:=q
 simp only at k1 k2 hR
 have hw:IntKind.u64.wrap ((b.length:Int) - k)=(b.length:Int) - k:=QU zo zo
 (have X1:=@guR.eq_1;refine zS1 ?_;clear X1)
 iterate 14 all_goals (try (refine And.intro (fun _=>?_) (fun _=>?_)<;>try (have X1:=hw;first | exact zC1 | refine zS1 ?_)))
 all_goals try first
  | (exfalso;omega)
  | (rw [if_pos zo] at hR;subst hR;exact⟨⟨rfl,rfl⟩,rfl,rfl⟩)
  | (rw [if_neg zo,if_pos zo] at hR;subst hR;exact⟨⟨rfl,rfl⟩,rfl,rfl⟩)
  | (rw [if_neg zo,if_neg zo,if_pos zo] at hR;subst hR;exact⟨⟨rfl,rfl⟩,rfl,rfl⟩)
 rw [if_neg zo,if_neg zo,if_neg zo] at hR
 refine QD (ι:=Nat×List Hs) (fun q=>⟨[(0,.seq b.length 1 (flat QC b)),(7,.v (.int .u64 n.toNat)),(8,.v (.int .i64 k)),(10,.sl 0 0 q.2.length 32),(11,.v (.int .i64 q.1))],⟨[(0,.cells 47 (flat hcell q.2) true)],1,1,0⟩⟩) (fun q=>q.1≤n.toNat∧q.2=QA8 q.1 (b.drop k)) (fun q=>n.toNat - q.1) (0,[]) ⟨Nat.zero_le _,by simp [QA8]⟩ ?_ ?_
 ·exact fzN 0 [] []
 rintro⟨i,l⟩ ⟨hi,hl⟩
 simp only at hi hl
 have hll:l.length=i:=by rw [hl,QAv]
 refine zS ?_
 refine⟨fun h1=>?_,fun h1=>?_⟩
 ·refine zS ?_
  have hb1:k+32*n.toNat≤b.length:=by omega
  obtain⟨d,hd⟩:∃d,d=((b.drop k).drop (32*i)).take 32:=⟨_,rfl⟩
  have hdl:d.length=32:=by rw [hd,List.length_take,List.length_drop,List.length_drop];omega
  refine QD (ι:=Nat×List UInt8) (fun q=>⟨[(0,.seq b.length 1 (flat QC b)),(7,.v (.int .u64 n.toNat)),(8,.v (.int .i64 k)),(10,.sl 0 0 l.length 32),(11,.v (.int .i64 i)),(12,.ptr 1 0),(13,.v (.int .i64 q.1))],⟨[(0,.cells 47 (flat hcell l) true),(1,.cells 47 (flat QC q.2) false)],2,2,0⟩⟩) (fun q=>q.1≤32∧q.2=d.take q.1++List.replicate (32 - q.1) 0) (fun q=>32 - q.1) (0,List.replicate 32 0) ⟨Nat.zero_le _,rfl⟩ ?_ ?_
  ·refine fzNM 0 [(0,0),(1,89)] [] ?_ ?_<;>first | exact zC | refine zS ?_
   rfl
  rintro⟨c,h⟩ ⟨hc,hh⟩
  simp only at hc hh
  have hhl:h.length=32:=by rw [hh,List.length_append,List.length_take,List.length_replicate];omega
  refine zS ?_
  refine⟨fun h2=>?_,fun h2=>?_⟩
  ·have e0:((k:Int)+32*(i:Int)+(c:Int)).toNat=k+32*i+c:=by omega
   have hg:(List.drop (k+32*i+c) (flat QC b))[0]?=some (.v (.int .u8 (b[k+32*i+c]'zo).toNat)):=by
    rw [QL,List.drop_eq_getElem_cons zo];rfl
   (have X1:=e0;have X2:=hg;refine zS2 ?_;clear X1 X2)
   refine⟨(c+1,h.set c (b[k+32*i+c]'zo)),⟨zO,?_⟩,zO,?_⟩
   ·show h.set c _=d.take (c+1)++List.replicate (32 - (c+1)) 0
    have hdc:d[c]'zo=b[k+32*i+c]'zo:=by
     simp only [hd,List.getElem_take,List.getElem_drop]
     congr 1;omega
    rw [List.take_succ_eq_append_getElem (show c<d.length by omega),hh,show 32 - c=(32 - (c+1))+1 by omega,List.replicate_succ,List.set_append_right _ _ (by simp;omega)]
    rw [show c - (d.take c).length=0 by rw [List.length_take];omega,List.set_cons_zero,hdc];simp
   ·exact fzN 0 [(0,0),(1,1)] []
  ·obtain rfl:c=32:=by omega
   have hhd:h=d:=by rw [hh,List.take_of_length_le zo];simp
   have hmk:flat QC h=hcell (mkH d):=by rw [hhd,QIk hdl]
   (have X1:=hmk;refine zS1 ?_;clear X1)
   refine⟨(i+1,l++[mkH d]),⟨zO,by show l++[mkH d]=QA8 (i+1) (b.drop k);rw [QEL,←hl,hd]⟩,zO,?_⟩
   (have X1:=@List.length_append.{0};have X2:=@List.length_cons.{0};have X3:=@List.length_nil.{0};refine fzNM 0 [(0,144)] [] ?_ ?_<;>first | exact zC3 | refine zS3 ?_)
   rw [←Q4];simp [flat]
 ·obtain rfl:i=n.toNat:=by omega
  rw [←hl] at hR
  refine zS ?_
  refine (QLc l zo).use (ids:=[0]) (by have X1:=@QLW;exact zCN1) (.inl rfl) ?_
  cases hr:QDw l
  ·rw [if_pos hr] at hR
   subst hR
   first | exact zC | refine zS ?_
   rfl
  ·rw [if_neg (by rw [hr];decide)] at hR
   subst hR
   have hw2:IntKind.i64.wrap (n.toNat:Int)=n.toNat:=QAN zo zo
   (have X1:=@QLW;have X2:=hw2;first | exact zC2 | refine zS2 ?_)
   rfl
end Go.AW
