/- A part of the proof: D39 D40. -/
import Derived.Test.YtpcbnjbpdooejaaGreatDoorPae
import Derived.Test.YtpcbnjbpdooejaaGreatDoorPap
import Derived.Test.YtpcbnjbpdooejaaGreatDoorPaq
set_option linter.unusedSimpArgs false
set_option linter.unusedVariables false
set_option maxRecDepth 100000
set_option maxHeartbeats 8000000
namespace Go.AW
open Proofs
def nuE (b:List UInt8) (most:Nat):Nat:=if (rgU b).2.2=0∧most<(rgU b).1.toNat then 5 else (rgU b).2.2
def chz:ChV:=⟨⟨#[]⟩,0,0,[],⟨#[]⟩,[]⟩
def QHs (b:List UInt8) (a:ByteArray) (q s:UInt64) (H:List Hs) (n:ByteArray) (O:List OpV×Nat):ChV×Nat:=
 if O.2≠0 then (chz,4) else
 if chE2 ⟨a,q.toNat,s.toNat,H,n,O.1⟩≠0∨chB ⟨a,q.toNat,s.toNat,H,n,O.1⟩≠b then (chz,4) else (⟨a,q.toNat,s.toNat,H,n,O.1⟩,0)
def QLL (b:List UInt8) (a:ByteArray) (q s:UInt64) (H:List Hs) (b5:List UInt8):ChV×Nat:=
 if (rgT b5 1024).2.2≠0 then (chz,4) else QHs b a q s H (rgT b5 1024).1 (QA5 (b5.drop (rgT b5 1024).2.1))
def QKp (b:List UInt8) (a:ByteArray) (q s:UInt64) (b4:List UInt8):ChV×Nat:=
 if (hGet rgU b4 16).2.2≠0 then (chz,4) else QLL b a q s (hGet rgU b4 16).1 (b4.drop (hGet rgU b4 16).2.1)
def QE7 (b:List UInt8) (a:ByteArray) (q:UInt64) (b3:List UInt8):ChV×Nat:=
 if nuE b3 1099511627776≠0 then (chz,4) else QKp b a q (rgU b3).1 (b3.drop (rgU b3).2.1)
def QFO (b:List UInt8) (a:ByteArray) (b2:List UInt8):ChV×Nat:=
 if nuE b2 1099511627776≠0 then (chz,4) else QE7 b a (rgU b2).1 (b2.drop (rgU b2).2.1)
def QLa (b l:List UInt8):ChV×Nat:=
 if (rgT l 32).2.2≠0 then (chz,4) else QFO b (rgT l 32).1 (l.drop (rgT l 32).2.1)
def QAd:List UInt8→ChV×Nat
 | []=>(chz,4)
 | x::l=>if x.toNat=1 then QLa (x::l) l else (chz,4)
theorem QNS {o:OpV} (h:QBp o=true):QCP o:=by
 have h1:=QHr h
 have h2:=QFM h
 have hb:QBP o.name=true:=by rw [QBp,Bool.and_eq_true] at h;exact h.1
 have:=(QBe hb).1 h
 refine⟨by omega,by omega,?_,?_,?_⟩<;>omega
theorem QIG (b:List UInt8):(QA5 b).1.length≤256∧∀o∈(QA5 b).1,QCP o:=by
 have h4:([]:List OpV).length≤256∧∀o∈([]:List OpV),QCP o:=⟨Nat.zero_le _,by simp⟩
 rw [QA5]
 split
 ·exact h4
 ·split
  ·exact h4
  ·rw [QIx]
   split
   ·exact h4
   ·split
    ·exact h4
    ·split
     ·exact h4
     ·rename_i l _ h
      obtain⟨h5,h6⟩:=QEF (l:=l) zo
      exact⟨h5,fun o ho=>QNS (h6 o ho)⟩
theorem QZ9 (d:List UInt8):hok (mkH d):=by
 rw [mkH]
 split
 ·intro n hn
  simp only [List.mem_map] at hn
  obtain⟨x,-, rfl⟩:=hn
  have:=x.toNat_lt
  omega
 ·intro n hn
  have:n=0:=by
   have h0:QBl.1=List.replicate 32 0:=rfl
   rw [h0] at hn
   exact List.eq_of_mem_replicate hn
  omega
theorem QKN:∀(n:Nat) (d:List UInt8),∀h∈QA8 n d,hok h
 | 0,d,h,hh=>by simp [QA8] at hh
 | n+1,d,h,hh=>by
  rw [QA8] at hh
  rcases List.mem_cons.mp hh with rfl | h'
  ·exact QZ9 _
  ·exact QKN n _ h h'
theorem QTi (b:List UInt8):(hGet rgU b 16).1.length≤16∧(∀h∈(hGet rgU b 16).1,hok h)∧(hGet rgU b 16).2.1≤b.length:=by
 have h1:=(QEj b).1
 rw [hGet]
 split
 ·simp
 ·split
  ·simp
  ·split
   ·simp
   ·split
    ·simp
    ·refine⟨?_,QKN _ _,?_⟩
     ·show (QA8 _ _).length≤16;rw [QAv];omega
     ·simp only;omega
def cclE (R:ChV×Nat):List AV:=if R.2=0 then ccl R.1 else [.v (.string ⟨#[]⟩),.v (.int .i64 0),.v (.int .i64 0),.v (.slice none 0 0),.v (.string ⟨#[]⟩),.v (.slice none 0 0)]
theorem QSl (R:ChV×Nat):idfL (cclE R)=true:=by
 rw [cclE];split
 ·exact QJM _
 ·rfl
attribute [push_cast] QSl
theorem cclE_err:cclE (chz,4)=[.v (.string ByteArray.empty),.v (.int .i64 0),.v (.int .i64 0),.v (.slice none 0 0),.v (.string ByteArray.empty),.v (.slice none 0 0)]:=rfl
theorem QF0 {b:List UInt8} {m:Nat} (h:nuE b m=0):(rgU b).1.toNat≤m:=by
 rw [nuE] at h
 split at h
 ·cases h
 ·rename_i h2;exact Nat.le_of_not_lt (fun h3=>h2 ⟨h,h3⟩)
theorem QCD {b:List UInt8} {e k f:Nat}:(rstF b e k f).2=0↔e=0∧f=0:=by
 rw [rstF];split
 ·rename_i h;exact⟨fun _=>h,fun _=>rfl⟩
 ·rename_i h
  refine⟨fun h2=>?_,fun h2=>absurd h2 h⟩
  simp only at h2
  split at h2<;>omega
theorem QCV {b:List UInt8} {e k f:Nat} (h:(rstF b e k f).2=0):(rstF b e k f).1=b.drop k:=by
 rw [rstF,if_pos (QCD.mp h)]
theorem QDp {b:List UInt8} {e k f:Nat}:(rstF b e k f).1.length≤b.length:=by
 rw [rstF];split
 ·simp
 ·exact Nat.le_refl _
theorem QbB (b:List UInt8) (hb:b.length≤1048576):QE Tryz.prog [] 86 [.seq b.length 1 (flat QC b)] (.tup [.agg (cclE (QAd b)),.v (.int .i64 (QAd b).2)]):=by
 refine QE.start Tryz.func86 rfl zK rfl Tryz.ntmps86 fol zK (by simp [idfL,idf,QZ QS,QS,Qg,Qy,QSl]) (by simp [idfL,idf,QZ QS,QS,Qg,Qy,QSl]) ?_
 refine zz ?_
 refine zS ?_
 refine⟨fun h=>?_,fun h=>?_⟩
 ·obtain⟨x,l,rfl⟩:∃x l,b=x::l:=by cases b with | nil=>exact absurd rfl h | cons x l=>exact⟨x,l,rfl⟩
  have hg:(List.drop (Int.toNat 0) (flat QC (x::l)))[0]?=some (.v (.int .u8 x.toNat)):=rfl
  have hd1:List.drop (Int.toNat 1) (flat QC (x::l))=flat QC l:=rfl
  have hlen:l.length≤1048576:=by rw [List.length_cons] at hb;omega
  obtain⟨R,hR⟩:∃R,R=QAd (x::l):=⟨_,rfl⟩
  rw [←hR]
  rw [QAd] at hR
  (have X1:=hg;refine zS1 ?_;clear X1)
  refine⟨fun h1=>?_,fun h1=>?_⟩
  ·rw [if_neg zo] at hR
   subst hR
   (have X1:=@cclE_err;first | exact zC1 | refine zS1 ?_)
   rfl
  ·rw [if_pos zo] at hR
   have hn1:l.length+1 - Int.toNat 1=l.length:=rfl
   (have X1:=hd1;have X2:=hn1;refine zS2 ?_;clear X1 X2)
   refine (QOI l 0 32 zo zD).useV ?_
   have l1:=QDp (b:=l) (e:=0) (k:=(rgT l 32).2.1) (f:=(rgT l 32).2.2)
   have z1:=QCD (b:=l) (e:=0) (k:=(rgT l 32).2.1) (f:=(rgT l 32).2.2)
   have d1:=QCV (b:=l) (e:=0) (k:=(rgT l 32).2.1) (f:=(rgT l 32).2.2)
   generalize hr1:rstF l 0 (rgT l 32).2.1 (rgT l 32).2.2=r1 at*
   obtain⟨bA,eA⟩:=r1
   (have X1:=@rdV.eq_1;refine zS1 ?_;clear X1)
   refine (QNy bA eA 1099511627776 (by simp only at l1;omega) zD).useV ?_
   have l2:=QDp (b:=bA) (e:=eA) (k:=(rgU bA).2.1) (f:=nuE bA 1099511627776)
   have z2:=QCD (b:=bA) (e:=eA) (k:=(rgU bA).2.1) (f:=nuE bA 1099511627776)
   have d2:=QCV (b:=bA) (e:=eA) (k:=(rgU bA).2.1) (f:=nuE bA 1099511627776)
   rw [←nuE]
   generalize hr2:rstF bA eA (rgU bA).2.1 (nuE bA 1099511627776)=r2 at*
   obtain⟨bB,eB⟩:=r2
   (have X1:=@rdV.eq_1;refine zS1 ?_;clear X1)
   refine (QNy bB eB 1099511627776 (by simp only at l1 l2;omega) zD).useV ?_
   have l3:=QDp (b:=bB) (e:=eB) (k:=(rgU bB).2.1) (f:=nuE bB 1099511627776)
   have z3:=QCD (b:=bB) (e:=eB) (k:=(rgU bB).2.1) (f:=nuE bB 1099511627776)
   have d3:=QCV (b:=bB) (e:=eB) (k:=(rgU bB).2.1) (f:=nuE bB 1099511627776)
   rw [←nuE]
   generalize hr3:rstF bB eB (rgU bB).2.1 (nuE bB 1099511627776)=r3 at*
   obtain⟨bC,eC⟩:=r3
   simp only at l1 l2 l3 z1 z2 z3 d1 d2 d3
   (have X1:=@rdV.eq_1;refine zS1 ?_;clear X1)
   rw [QLa] at hR
   by_cases e1:(rgT l 32).2.2=0
   ·have eA0:eA=0:=z1.mpr (by first | exact⟨rfl,e1⟩ | exact⟨trivial,e1⟩)
    have dA:=d1 eA0
    rw [if_neg (fun h=>h e1),←dA,QFO] at hR
    by_cases e2:nuE bA 1099511627776=0
    ·have eB0:eB=0:=z2.mpr ⟨eA0,e2⟩
     have dB:=d2 eB0
     rw [if_neg (fun h=>h e2),←dB,QE7] at hR
     by_cases e3:nuE bB 1099511627776=0
     ·have eC0:eC=0:=z3.mpr ⟨eB0,e3⟩
      have dC:=d3 eC0
      rw [if_neg (fun h=>h e3),←dC,QKp] at hR
      subst eA0 eB0 eC0
      rw [if_pos e1,if_pos (show 0=0∧nuE bA 1099511627776=0 from ⟨rfl,e2⟩),if_pos (show 0=0∧nuE bB 1099511627776=0 from ⟨rfl,e3⟩)]
      refine zS ?_
      refine (Qcq bC zo).useV ?_
      obtain⟨m1,m2,m3⟩:=QTi bC
      generalize hGet rgU bC 16=H at m1 m2 m3 hR ⊢
      obtain⟨hs,k5,e5⟩:=H
      simp only at m1 m2 m3 hR
      have dd:List.take (bC.drop k5).length (List.drop k5 (flat QC bC))=flat QC (bC.drop k5):=by
       rw [QL,QT,List.take_of_length_le (Nat.le_refl _)]
      have dl:(bC.drop k5).length=bC.length - k5:=List.length_drop ..
      refine zS ?_
      refine⟨fun h6=>?_,fun h6=>?_⟩
      ·have h7:e5≠0:=by omega
       rw [if_pos h7] at hR
       subst hR
       (have X1:=@cclE_err;first | exact zC1 | refine zS1 ?_)
       rfl
      ·have h7:e5=0:=by omega
       subst h7
       rw [if_neg (fun h=>h rfl),QLL] at hR
       (have X1:=dd;have X2:=(dl).symm;refine zS2 ?_;clear X1 X2)
       have hbD:(bC.drop k5).length≤1048576:=by omega
       generalize bC.drop k5=bD at hR hbD ⊢
       refine (QOI bD 0 1024 zo zD).useV ?_
       have l4:=QLp bD 1024
       have s4:=QDl bD 1024
       generalize rgT bD 1024=N at l4 s4 hR ⊢
       obtain⟨nt,k6,e6⟩:=N
       simp only at l4 s4 hR
       by_cases e60:e6=0
       ·subst e60
        rw [if_neg (fun h=>h rfl)] at hR
        rw [rstF,if_pos ⟨rfl,rfl⟩]
        have hbE:(bD.drop k6).length≤1048576:=by rw [List.length_drop];omega
        generalize bD.drop k6=bE at hR hbE ⊢
        (have X1:=@rdV.eq_1;refine zS1 ?_;clear X1)
        refine (rGet_c bE hbE).useV ?_
        obtain⟨m4,m5⟩:=QIG bE
        rw [QHs] at hR
        generalize QA5 bE=O at m4 m5 hR ⊢
        obtain⟨ol,e7⟩:=O
        simp only at m4 m5 hR
        refine zS ?_
        refine⟨fun h8=>?_,fun h8=>?_⟩
        ·have h9:e7≠0:=by omega
         rw [if_pos h9] at hR
         subst hR
         (have X1:=@cclE_err;first | exact zC1 | refine zS1 ?_)
         rfl
        ·have h9:e7=0:=by omega
         subst h9
         rw [if_neg (fun h=>h rfl)] at hR
         have q1:=QF0 e2
         have q2:=QF0 e3
         have w1:IntKind.i64.wrap ((rgU bA).1.toNat:Int)=((rgU bA).1.toNat:Int):=QAN zo zo
         have w2:IntKind.i64.wrap ((rgU bB).1.toNat:Int)=((rgU bB).1.toNat:Int):=QAN zo zo
         have s1:=QDl l 32
         have i1:I64 ((rgU bA).1.toNat:Int):=⟨by omega,by omega⟩
         have i2:I64 ((rgU bB).1.toNat:Int):=⟨by omega,by omega⟩
         have hsm:QES ⟨(rgT l 32).1,(rgU bA).1.toNat,(rgU bB).1.toNat,hs,nt,ol⟩:=⟨zO,i1,i2,zO,m2,zO,zO,m5⟩
         (have X1:=w1;have X2:=w2;refine zS2 ?_;clear X1 X2)
         refine QE.useV (QZ4 _ hsm) ?_
         generalize hX:(⟨(rgT l 32).1,(rgU bA).1.toNat,(rgU bB).1.toNat,hs,nt,ol⟩:ChV)=X at hR hsm ⊢
         refine zS ?_
         refine⟨fun h10=>?_,fun h10=>?_⟩
         ·have h11:chE2 X=0:=by omega
          have h12:chR X=chB X:=by rw [chR,if_pos h11]
          rw [h12]
          have hc1:∀f g l,QC7 Tryz.prog 23 9 f g (.seq l.length 1 (flat QC l))=some (.v (.string ⟨l.toArray⟩),[]):=fun f g l=>QAD zK zK
          obtain⟨Z,hZ⟩:∃Z:ByteArray,Z=⟨(x::l).toArray⟩:=⟨_,rfl⟩
          have hc2:∀f g,QC7 Tryz.prog 23 9 f g (.seq (l.length+1) 1 (flat QC (x::l)))=some (.v (.string Z),[]):=fun f g=>by rw [hZ];exact QAD zK zK
          (have X1:=hc1;have X2:=hc2;refine zS2 ?_;clear X1 X2)
          refine And.intro (fun h13=>?_) (fun h13=>?_)
          ·rw [if_pos (.inr fun e=>h13 (by rw [e,hZ]))] at hR
           subst hR
           (have X1:=@cclE_err;first | exact zC1 | refine zS1 ?_)
           rfl
          ·have h14:chB X=x::l:=QHj.1 (h13.trans hZ)
           rw [if_neg (fun h=>h.elim (fun h=>h h11) (fun h=>h h14))] at hR
           subst hR
           subst hX
           first | exact zC | refine zS ?_
           rfl
         ·have h11:chE2 X≠0:=by omega
          rw [if_pos (.inl h11)] at hR
          subst hR
          (have X1:=@cclE_err;first | exact zC1 | refine zS1 ?_)
          rfl
       ·rw [if_pos e60] at hR
        subst hR
        rw [rstF,if_neg (fun h=>e60 h.2),if_pos rfl]
        (have X1:=@rdV.eq_1;refine zS1 ?_;clear X1)
        refine⟨fun h8=>?_,fun h8=>by exfalso;omega⟩
        (have X1:=@cclE_err;first | exact zC1 | refine zS1 ?_)
        rfl
     ·rw [if_pos e3] at hR
      have:eC≠0:=fun h=>e3 (z3.mp h).2
      subst hR
      refine⟨fun h5=>?_,fun h5=>by exfalso;omega⟩
      (have X1:=@cclE_err;first | exact zC1 | refine zS1 ?_)
      rfl
    ·rw [if_pos e2] at hR
     have:eC≠0:=fun h=>e2 (z2.mp (z3.mp h).1).2
     subst hR
     refine⟨fun h5=>?_,fun h5=>by exfalso;omega⟩
     (have X1:=@cclE_err;first | exact zC1 | refine zS1 ?_)
     rfl
   ·rw [if_pos e1] at hR
    have:eC≠0:=fun h=>e1 (z1.mp (z2.mp (z3.mp h).1).1).2
    subst hR
    refine⟨fun h5=>?_,fun h5=>by exfalso;omega⟩
    (have X1:=@cclE_err;first | exact zC1 | refine zS1 ?_)
    rfl
 ·have:b=[]:=List.eq_nil_of_length_eq_zero zo
  subst this
  first | exact zC | refine zS ?_
  rfl
open Proofs
theorem QHx {b:List UInt8} {e k f:Nat}:(if e=0∧f=0 then QAe (b.drop k) 0 else QAe b (if e=0 then f else e))=QAe (rstF b e k f).1 (rstF b e k f).2:=by
 rw [rstF];split<;>rfl
theorem Qaw (b:List UInt8) (e most:Nat) (hb:b.length≤1152921504606846976) (hm:most≤1152921504606846976):
  QM Tryz.prog [] 111 [.ptr 0 0,.v (.int .i64 most)] [(0,.cells 214 (QAe b e) false)] 1
   (.v (.string (if e=0∧(rgT b most).2.2=0 then (rgT b most).1 else ⟨#[]⟩)))
   [(0,.cells 214 (QAe (rstF b e (rgT b most).2.1 (rgT b most).2.2).1 (rstF b e (rgT b most).2.1 (rgT b most).2.2).2) false)] 1:=by
 have h:=QeY b e most hb hm
 rw [QFw,QHx] at h
 exact h
theorem QUQ (b:List UInt8) (e most:Nat) (hb:b.length≤1152921504606846976) (hm:most<18446744073709551616):
  QM Tryz.prog [] 110 [.ptr 0 0,.v (.int .u64 most)] [(0,.cells 214 (QAe b e) false)] 1
   (.v (.int .u64 (if e=0∧nuE b most=0 then (rgU b).1.toNat else 0:Nat)))
   [(0,.cells 214 (QAe (rstF b e (rgU b).2.1 (nuE b most)).1 (rstF b e (rgU b).2.1 (nuE b most)).2) false)] 1:=by
 have h:=Qaf b e most hb hm
 have hr:ruF b most=((rgU b).1.toNat,(rgU b).2.1,nuE b most):=by rw [ruF,QEh,nuE]
 rw [hr,QHx] at h
 exact h
theorem QJL {b:List UInt8} {e k f:Nat}:(rstF b e k f).1 <:+ b:=by
 rw [rstF];split
 ·exact List.drop_suffix _ _
 ·exact List.suffix_refl _
theorem cGet_c (b:List UInt8) (hb:b.length≤1048576):QE Tryz.prog [] 51 [.seq b.length 1 (flat QC b)] (.tup [.agg (cclE (QAd b)),.v (.int .i64 (QAd b).2)]):=by
 refine QE.start Tryz.func51 rfl zK rfl Tryz.ntmps51 fol zK (by simp [idfL,idf,QZ QS,QS,Qg,Qy,QSl]) (by simp [idfL,idf,QZ QS,QS,Qg,Qy,QSl]) ?_
 refine zz ?_
 refine zS ?_
 refine⟨fun h=>?_,fun h=>?_⟩
 ·obtain⟨x,l,rfl⟩:∃x l,b=x::l:=by cases b with | nil=>exact absurd rfl h | cons x l=>exact⟨x,l,rfl⟩
  have hg:(List.drop (Int.toNat 0) (flat QC (x::l)))[0]?=some (.v (.int .u8 x.toNat)):=rfl
  have hd1:List.drop (Int.toNat 1) (flat QC (x::l))=flat QC l:=rfl
  have hn1:l.length+1 - Int.toNat 1=l.length:=rfl
  have hlen:l.length≤1048576:=by rw [List.length_cons] at hb;omega
  obtain⟨R,hR⟩:∃R,R=QAd (x::l):=⟨_,rfl⟩
  rw [←hR]
  rw [QAd] at hR
  (have X1:=hg;refine zS1 ?_;clear X1)
  refine⟨fun h1=>?_,fun h1=>?_⟩
  ·rw [if_neg zo] at hR
   subst hR
   (have X1:=@cclE_err;first | exact zC1 | refine zS1 ?_)
   rfl
  ·rw [if_pos zo] at hR
   (have X1:=hd1;have X2:=hn1;refine zS2 ?_;clear X1 X2)
   refine QM.useX [] (QQq l zo) rfl (by simp only [QCA,QC1,renA];rw [QAj Qg]) ?_ ?_
   ·exact zC
   (have X1:=@QAe.eq_1;refine zS1 ?_;clear X1)
   refine QM.useX [318] (Qaw l 0 32 zo zD) rfl rfl ?_ ?_
   ·(have X1:=@QAe.eq_1;exact zC1)
   have f1:=QJL (b:=l) (e:=0) (k:=(rgT l 32).2.1) (f:=(rgT l 32).2.2)
   have l1:=QDp (b:=l) (e:=0) (k:=(rgT l 32).2.1) (f:=(rgT l 32).2.2)
   have z1:=QCD (b:=l) (e:=0) (k:=(rgT l 32).2.1) (f:=(rgT l 32).2.2)
   have d1:=QCV (b:=l) (e:=0) (k:=(rgT l 32).2.1) (f:=(rgT l 32).2.2)
   generalize hr1:rstF l 0 (rgT l 32).2.1 (rgT l 32).2.2=r1 at*
   obtain⟨bA,eA⟩:=r1
   (have X1:=@QAe.eq_1;refine zS1 ?_;clear X1)
   refine QM.useX [318] (QUQ bA eA 1099511627776 (by simp only at l1;omega) zD) rfl rfl ?_ ?_
   ·(have X1:=@QAe.eq_1;exact zC1)
   have f2:=QJL (b:=bA) (e:=eA) (k:=(rgU bA).2.1) (f:=nuE bA 1099511627776)
   have l2:=QDp (b:=bA) (e:=eA) (k:=(rgU bA).2.1) (f:=nuE bA 1099511627776)
   have z2:=QCD (b:=bA) (e:=eA) (k:=(rgU bA).2.1) (f:=nuE bA 1099511627776)
   have d2:=QCV (b:=bA) (e:=eA) (k:=(rgU bA).2.1) (f:=nuE bA 1099511627776)
   generalize hr2:rstF bA eA (rgU bA).2.1 (nuE bA 1099511627776)=r2 at*
   obtain⟨bB,eB⟩:=r2
   (have X1:=@QAe.eq_1;refine zS1 ?_;clear X1)
   refine QM.useX [318] (QUQ bB eB 1099511627776 (by simp only at l1 l2;omega) zD) rfl rfl ?_ ?_
   ·(have X1:=@QAe.eq_1;exact zC1)
   have f3:=QJL (b:=bB) (e:=eB) (k:=(rgU bB).2.1) (f:=nuE bB 1099511627776)
   have l3:=QDp (b:=bB) (e:=eB) (k:=(rgU bB).2.1) (f:=nuE bB 1099511627776)
   have z3:=QCD (b:=bB) (e:=eB) (k:=(rgU bB).2.1) (f:=nuE bB 1099511627776)
   have d3:=QCV (b:=bB) (e:=eB) (k:=(rgU bB).2.1) (f:=nuE bB 1099511627776)
   generalize hr3:rstF bB eB (rgU bB).2.1 (nuE bB 1099511627776)=r3 at*
   obtain⟨bC,eC⟩:=r3
   simp only at f1 f2 f3 l1 l2 l3 z1 z2 z3 d1 d2 d3
   (have X1:=@QAe.eq_1;refine zS1 ?_;clear X1)
   refine QM.useX [318] (Qbb bC eC) rfl rfl ?_ ?_
   ·(have X1:=@QAe.eq_1;exact zC1)
   have hsuf:bC=List.drop ((x::l).length - bC.length) (x::l):=List.suffix_iff_eq_drop.mp ((f3.trans (f2.trans f1)).trans (List.suffix_cons x l))
   have hto:((l.length:Int)+1 - (bC.length:Int)).toNat=(x::l).length - bC.length:=by rw [List.length_cons];omega
   have hle:l.length+1 - ((x::l).length - bC.length)=bC.length:=by rw [List.length_cons];omega
   have hdC:List.drop ((x::l).length - bC.length) (flat QC (x::l))=flat QC bC:=by rw [QL,←hsuf]
   have htC:List.take bC.length (flat QC bC)=flat QC bC:=by rw [QT,List.take_length]
   generalize hW:(x::l).length - bC.length=W at hto hle hdC
   (have X1:=@QAe.eq_1;have X2:=hto;have X3:=hle;have X4:=hdC;have X5:=htC;refine zS5 ?_;clear X1 X2 X3 X4 X5)
   have hH:=HGet_c bC zo
   rw [QOC] at hH
   refine hH.useV ?_
   obtain⟨m1,m2,m3⟩:=QTi bC
   rw [QLa] at hR
   generalize hHe:hGet rgU bC 16=H at m1 m2 m3 ⊢
   obtain⟨hs,k5,e5⟩:=H
   simp only at m1 m2 m3
   (have X1:=@QAe.eq_1;refine zS1 ?_;clear X1)
   refine QM.useX [318] (QfM bC eC) rfl rfl ?_ ?_
   ·(have X1:=@QAe.eq_1;exact zC1)
   (have X1:=@QAe.eq_1;refine zS1 ?_;clear X1)
   refine And.intro (fun h5=>?_) (fun h5=>?_)
   ·have eC0:eC=0:=by omega
    have eB0:=(z3.mp eC0).1
    have e3:=(z3.mp eC0).2
    have eA0:=(z2.mp eB0).1
    have e2:=(z2.mp eB0).2
    have e1:(rgT l 32).2.2=0:=by first | exact (z1.mp eA0).2 | exact z1.mp eA0
    rw [if_neg (fun h=>h e1),←d1 eA0,QFO,if_neg (fun h=>h e2),←d2 eB0,QE7,if_neg (fun h=>h e3),←d3 eC0,QKp,hHe] at hR
    subst eA0 eB0 eC0
    rw [if_pos e1,if_pos (show 0=0∧nuE bA 1099511627776=0 from ⟨rfl,e2⟩),if_pos (show 0=0∧nuE bB 1099511627776=0 from ⟨rfl,e3⟩)]
    refine zS ?_
    refine And.intro (fun h6=>?_) (fun h6=>?_)
    ·rw [if_pos (show e5≠0 by omega)] at hR
     subst hR
     (have X1:=@cclE_err;first | exact zC1 | refine zS1 ?_)
     try rfl
    ·have h7:e5=0:=by omega
     subst h7
     rw [if_neg (fun h=>h rfl),QLL] at hR
     have dd:List.take (bC.drop k5).length (List.drop k5 (flat QC bC))=flat QC (bC.drop k5):=by
      rw [QL,QT,List.take_of_length_le (Nat.le_refl _)]
     have dl:(bC.drop k5).length=bC.length - k5:=List.length_drop ..
     (have X1:=dd;have X2:=(dl).symm;refine zS2 ?_;clear X1 X2)
     have hbD:(bC.drop k5).length≤1048576:=by omega
     have hT:=QCy (bC.drop k5) 1024 zo zD
     rw [QFw] at hT
     refine hT.useV ?_
     have l4:=QLp (bC.drop k5) 1024
     have s4:=QDl (bC.drop k5) 1024
     generalize rgT (bC.drop k5) 1024=N at l4 s4 hR ⊢
     obtain⟨nt,k6,e6⟩:=N
     simp only at l4 s4 hR
     (have X1:=@gtR.eq_1;refine zS1 ?_;clear X1)
     refine And.intro (fun h8=>?_) (fun h8=>?_)
     ·rw [if_pos (show e6≠0 by omega)] at hR
      subst hR
      (have X1:=@cclE_err;first | exact zC1 | refine zS1 ?_)
      try rfl
     ·have h9:e6=0:=by omega
      subst h9
      rw [if_neg (fun h=>h rfl)] at hR
      have to2:((k5:Int)+(k6:Int)).toNat=k5+k6:=by omega
      have dE:List.drop (k5+k6) (flat QC bC)=flat QC ((bC.drop k5).drop k6):=by rw [QL,List.drop_drop]
      have lE:bC.length - (k5+k6)=((bC.drop k5).drop k6).length:=by rw [List.length_drop,List.length_drop];omega
      have tE:List.take ((bC.drop k5).drop k6).length (flat QC ((bC.drop k5).drop k6))=flat QC ((bC.drop k5).drop k6):=by rw [QT,List.take_length]
      have hbE:((bC.drop k5).drop k6).length≤1048576:=by rw [List.length_drop];omega
      generalize (bC.drop k5).drop k6=bE at hR hbE dE lE tE ⊢
      (have X1:=to2;have X2:=dE;have X3:=lE;have X4:=tE;refine zS4 ?_;clear X1 X2 X3 X4)
      have hG:=Get_c bE hbE
      rw [QQw] at hG
      refine hG.useV ?_
      obtain⟨m4,m5⟩:=QIG bE
      rw [QHs] at hR
      generalize QA5 bE=O at m4 m5 hR ⊢
      obtain⟨ol,e7⟩:=O
      simp only at m4 m5 hR
      refine zS ?_
      refine And.intro (fun h10=>?_) (fun h10=>?_)
      ·rw [if_pos (show e7≠0 by omega)] at hR
       subst hR
       (have X1:=@cclE_err;first | exact zC1 | refine zS1 ?_)
       try rfl
      ·have h11:e7=0:=by omega
       subst h11
       rw [if_neg (fun h=>h rfl)] at hR
       have q1:=QF0 e2
       have q2:=QF0 e3
       have w1:IntKind.i64.wrap ((rgU bA).1.toNat:Int)=((rgU bA).1.toNat:Int):=QAN zo zo
       have w2:IntKind.i64.wrap ((rgU bB).1.toNat:Int)=((rgU bB).1.toNat:Int):=QAN zo zo
       have s1:=QDl l 32
       have i1:I64 ((rgU bA).1.toNat:Int):=⟨by omega,by omega⟩
       have i2:I64 ((rgU bB).1.toNat:Int):=⟨by omega,by omega⟩
       have hsm:QES ⟨(rgT l 32).1,(rgU bA).1.toNat,(rgU bB).1.toNat,hs,nt,ol⟩:=⟨zO,i1,i2,zO,m2,zO,zO,m5⟩
       (have X1:=w1;have X2:=w2;refine zS2 ?_;clear X1 X2)
       refine QE.useV (Qf9 _ hsm) ?_
       generalize hX:(⟨(rgT l 32).1,(rgU bA).1.toNat,(rgU bB).1.toNat,hs,nt,ol⟩:ChV)=X at hR hsm ⊢
       have hc1:∀f g l,QC7 Tryz.prog 23 9 f g (.seq l.length 1 (flat QC l))=some (.v (.string ⟨l.toArray⟩),[]):=fun f g l=>QAD zK zK
       obtain⟨Z,hZ⟩:∃Z:ByteArray,Z=⟨(x::l).toArray⟩:=⟨_,rfl⟩
       have hc2:∀f g,QC7 Tryz.prog 23 9 f g (.seq (l.length+1) 1 (flat QC (x::l)))=some (.v (.string Z),[]):=fun f g=>by rw [hZ];exact QAD zK zK
       (have X1:=hc1;have X2:=hc2;refine zS2 ?_;clear X1 X2)
       refine And.intro (fun h12=>?_) (fun h12=>?_)
       ·have h13:chE2 X=0:=by omega
        have h14:chR X=chB X:=by rw [chR,if_pos h13]
        rw [h14]
        (have X1:=hc1;have X2:=hc2;refine zS2 ?_;clear X1 X2)
        refine And.intro (fun h15=>?_) (fun h15=>?_)
        ·rw [if_pos (.inr fun e=>h15 (by rw [e,hZ]))] at hR
         subst hR
         (have X1:=@cclE_err;first | exact zC1 | refine zS1 ?_)
         try rfl
        ·have h16:chB X=x::l:=QHj.1 (h15.trans hZ)
         rw [if_neg (fun h=>h.elim (fun h=>h h13) (fun h=>h h16))] at hR
         subst hR
         subst hX
         first | exact zC | refine zS ?_
         try rfl
       ·have h13:chE2 X≠0:=by omega
        rw [if_pos (.inl h13)] at hR
        subst hR
        (have X1:=@cclE_err;first | exact zC1 | refine zS1 ?_)
        try rfl
   ·have hR4:R=(chz,4):=by
     rw [hR]
     by_cases e1:(rgT l 32).2.2=0
     ·have eA0:eA=0:=z1.mpr (by first | exact⟨rfl,e1⟩ | exact⟨trivial,e1⟩)
      rw [if_neg (fun h=>h e1),←d1 eA0,QFO]
      by_cases e2:nuE bA 1099511627776=0
      ·have eB0:eB=0:=z2.mpr ⟨eA0,e2⟩
       rw [if_neg (fun h=>h e2),←d2 eB0,QE7]
       by_cases e3:nuE bB 1099511627776=0
       ·exact absurd (z3.mpr ⟨eB0,e3⟩) zo
       ·rw [if_pos e3]
      ·rw [if_pos e2]
     ·rw [if_pos e1]
    subst hR4
    (have X1:=@cclE_err;first | exact zC1 | refine zS1 ?_)
    try rfl
 ·have:b=[]:=List.eq_nil_of_length_eq_zero zo
  subst this
  first | exact zC | refine zS ?_
  rfl
end Go.AW
