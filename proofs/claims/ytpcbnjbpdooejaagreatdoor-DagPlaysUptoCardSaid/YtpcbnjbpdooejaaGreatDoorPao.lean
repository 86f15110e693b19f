/- A part of the proof: D35 D36. -/
import Derived.Test.YtpcbnjbpdooejaaGreatDoorPae
import Derived.Test.YtpcbnjbpdooejaaGreatDoorPan
set_option linter.unusedSimpArgs false
set_option linter.unusedVariables false
set_option maxRecDepth 100000
set_option maxHeartbeats 8000000
namespace Go.AW
open Proofs
def I64 (x:Int):Prop:=-9223372036854775808≤x∧x<9223372036854775808
theorem Qbl (a b:Int):I64 (orI a b):=QAi _
theorem QOZ:∀(b:List UInt8) (i:Nat) (n:Int) (p:UInt8),I64 (getI i n p b).1
 | [],i,n,p=>by rw [getI];simp [I64]
 | x::l,i,n,p=>by
  rw [getI]
  split
  ·simp [I64]
  ·split
   ·exact QOZ l _ _ _
   ·split
    ·simp [I64]
    ·simp only
     split<;>exact Qbl _ _
theorem QaU {GU:List UInt8→UInt64×Nat×Nat} {GI:List UInt8→Int×Nat×Nat} (hU:∀b,(GU b).2.1≤b.length) (hI:∀b,(GI b).2.1≤b.length) (hr:∀b,I64 (GI b).1) {most:Nat}:
  ∀(n:Nat) (b:List UInt8) (acc:List Int) (used N:Nat),acc.length≤most→used+b.length≤N→(∀x∈acc,I64 x)→(grF GU GI most n b acc used).1.length≤most∧(grF GU GI most n b acc used).2.1≤N∧∀x∈(grF GU GI most n b acc used).1,I64 x
 | 0,b,acc,used,N,h1,h2,h3=>by rw [grF];exact⟨h1,by simp only;omega,h3⟩
 | n+1,b,acc,used,N,h1,h2,h3=>by
  rw [grF]
  have hu:=hU b
  have hi:=hI (b.drop (GU b).2.1)
  rw [List.length_drop] at hi
  iterate 5
   split
   ·exact⟨Nat.zero_le _,Nat.zero_le _,by simp⟩
  refine QaU hU hI hr n _ _ _ N (by rw [List.length_append,List.length_replicate];omega) (by rw [List.length_drop];omega) fun x hx=>?_
  rcases List.mem_append.1 hx with h | h
  ·exact h3 x h
  ·rw [List.eq_of_mem_replicate h];exact hr _
theorem QHh {GU:List UInt8→UInt64×Nat×Nat} {GI:List UInt8→Int×Nat×Nat} (hU:∀b,(GU b).2.1≤b.length) (hI:∀b,(GI b).2.1≤b.length) (hr:∀b,I64 (GI b).1) (most:Nat) (b:List UInt8):
  (Qe GU GI most b).1.length≤most∧(Qe GU GI most b).2.1≤b.length∧∀x∈(Qe GU GI most b).1,I64 x:=by
 rw [Qe]
 have hu:=hU b
 iterate 2
  split
  ·exact⟨Nat.zero_le _,Nat.zero_le _,by simp⟩
 exact QaU hU hI hr _ _ _ _ _ (Nat.zero_le _) (by rw [List.length_drop];omega) (by simp)
theorem QIb:∀(l:List Int) (a:Int),∀x∈sumW a l,I64 x
 | [],a,x,h=>by simp [sumW] at h
 | y::l,a,x,h=>by
  rcases List.mem_cons.1 h with e | e
  ·rw [e];exact QAi _
  ·exact QIb l _ x e
def gR (b:List UInt8):=Qe (getU 0 0) (getI 0 0 0) 256 b
theorem QE5 (b:List UInt8):(gR b).1.length≤256∧(gR b).2.1≤b.length∧∀x∈(gR b).1,I64 x:=
 QHh (fun b=>by have:=(QCn b 0 0).1;omega) (fun b=>by have:=(QMo b 0 0 0).1;omega) (fun b=>QOZ b _ _ _) 256 b
def opsF (N:List ByteArray):List Int→List Int→List Int→List Int→List UInt8→Bool→List OpV→Option (List OpV×List UInt8×Bool)
 | k::K,w::W,p::Q,y::B,b,bad,acc=>if 0≤w∧w<N.length then
   (if k=1∨k=4 then
    (if bad=false∧(getT b 1024).2.2=0 then opsF N K W Q B (b.drop (getT b 1024).2.1) false (acc++[⟨k,N.getD w.toNat ⟨#[]⟩,p,y,(getT b 1024).1⟩])
     else opsF N K W Q B b true (acc++[⟨k,N.getD w.toNat ⟨#[]⟩,p,y,⟨#[]⟩⟩]))
   else opsF N K W Q B b bad (acc++[⟨k,N.getD w.toNat ⟨#[]⟩,p,y,⟨#[]⟩⟩])) else none
 | _,_,_,_,b,bad,acc=>some (acc,b,bad)
theorem QYc {N:List ByteArray} {W Q B:List Int} {b:List UInt8} {bad:Bool} {acc:List OpV}:opsF N [] W Q B b bad acc=some (acc,b,bad):=by simp [opsF]
def QE1 (b:List UInt8):List OpV×Nat:=
 let R1:=gR b
 let s1:=colB R1 b false
 let s2:=QA1 s1.1 s1.2
 let R3:=gR s2.2.1
 let s3:=colB R3 s2.2.1 s2.2.2
 let R4:=Qt (gR s3.1)
 let s4:=colB R4 s3.1 s3.2
 let R5:=gR s4.1
 let s5:=colB R5 s4.1 s4.2
 let K:=colL R1 false
 let W:=colL R3 s2.2.2
 let Q:=colL R4 s3.2
 let B:=colL R5 s4.2
 if s5.2=true∨W.length≠K.length∨Q.length≠K.length∨B.length≠K.length then ([],4) else
 match opsF s2.1 K W Q B s5.1 s5.2 [] with
 | none=>([],4)
 | some (l,_,bad)=>if bad=true∨QAM l≠0∨QAy l≠b then ([],4) else (l,0)
theorem gD_c (b:List UInt8) (hb:b.length≤1048576):QM Tryz.prog [] 171 [.seq b.length 1 (flat QC b),.v (.int .i64 256)] [] 0 (grV (Qt (gR b))) (grO (Qt (gR b))) 1:=
 QMT b hb ⟨(QE5 b).1,(QE5 b).2.2⟩
theorem QF2 {R:List Int×Nat×Nat} {b:List UInt8} {bad:Bool}:(colB R b bad).1.length≤b.length:=by
 rw [colB];split
 ·simp
 ·exact Nat.le_refl _
theorem QSB:∀(n:Nat) (b:List UInt8) (acc:List ByteArray),(nmF n b acc).2.1.length≤b.length∧(nmF n b acc).1.length≤acc.length+n
 | 0,b,acc=>by simp [nmF]
 | n+1,b,acc=>by
  rw [nmF]
  split
  ·obtain⟨h1,h2⟩:=QSB n (b.drop (getT b 32).2.1) (acc++[(getT b 32).1])
   rw [List.length_drop] at h1
   rw [List.length_append] at h2
   simp only [List.length_cons,List.length_nil] at h2
   exact⟨by omega,by omega⟩
  ·simp
theorem QIA {b:List UInt8} {bad:Bool}:(QA1 b bad).2.1.length≤b.length∧(QA1 b bad).1.length≤256:=by
 rw [QA1];split
 ·simp
 ·rename_i h
  obtain⟨h1,h2⟩:=QSB (getU 0 0 b).1.toNat (b.drop (getU 0 0 b).2.1) []
  rw [List.length_drop] at h1
  simp only [not_or] at h
  simp only [List.length_nil] at h2
  exact⟨by omega,by omega⟩
theorem QJw {R:List Int×Nat×Nat} {bad:Bool} (h1:R.1.length≤256) (h2:∀x∈R.1,I64 x):(colL R bad).length≤256∧∀x∈colL R bad,I64 x:=by
 rw [colL];split
 ·exact⟨h1,h2⟩
 ·simp
theorem QKB (b:List UInt8) (most:Nat):(getT b most).1.size≤most:=by
 rw [getT]
 split
 ·exact Nat.zero_le _
 ·split
  ·exact Nat.zero_le _
  ·split
   ·exact Nat.zero_le _
   ·show (List.take _ _).toArray.size≤most
    rw [List.size_toArray,List.length_take];omega
theorem QOl:∀(n:Nat) (b:List UInt8) (acc:List ByteArray),(∀s∈acc,s.size≤32)→∀s∈(nmF n b acc).1,s.size≤32
 | 0,b,acc,h=>h
 | n+1,b,acc,h=>by
  rw [nmF]
  split
  ·refine QOl n _ _ fun s hs=>?_
   rcases List.mem_append.1 hs with h1 | h1
   ·exact h s h1
   ·rw [List.mem_singleton.1 h1];exact QKB _ _
  ·intro s hs
   rcases List.mem_append.1 hs with h1 | h1
   ·exact h s h1
   ·rw [List.mem_singleton.1 h1];exact Nat.zero_le _
theorem QMJ {b:List UInt8} {bad:Bool}:∀s∈(QA1 b bad).1,s.size≤32:=by
 rw [QA1];split
 ·simp
 ·exact QOl _ _ _ (by simp)
theorem Get_c (b:List UInt8) (hb:b.length≤1048576):QE Tryz.prog [] 116 [.seq b.length 1 (flat QC b)] (.tup [.seq (QE1 b).1.length 5 (flat QX (QE1 b).1),.v (.int .i64 (QE1 b).2)]):=by
 refine QE.startW Tryz.func116 rfl zK rfl Tryz.ntmps116 fol zK (by simp [idfL,idf,QZ QS,QS,Qg,Qy,QFB]) (by simp [idfL,idf,QZ QS,QS,Qg,Qy,QFB]) ?_
 refine zZ ?_
 have hF:QE1 b=QE1 b:=rfl
 conv at hF=>rhs;rw [QE1]
 have m1:=QFz 169 (gR b) b false hb (QE5 b).2.1 (QEv b hb)
 obtain⟨b1,hb1⟩:∃x,x=(colB (gR b) b false).1:=⟨_,rfl⟩
 obtain⟨d1,hd1⟩:∃x,x=(colB (gR b) b false).2:=⟨_,rfl⟩
 obtain⟨K,hK⟩:∃x,x=colL (gR b) false:=⟨_,rfl⟩
 have l1:b1.length≤1048576:=by rw [hb1];exact Nat.le_trans QF2 hb
 obtain⟨kl,kr⟩:=QJw (bad:=false) (QE5 b).1 (QE5 b).2.2
 simp only [colV,colO,rdgO,←hb1,←hd1,←hK] at m1 hF kl kr
 have m2:=QeL b1 d1 l1
 obtain⟨N,hN⟩:∃x,x=(QA1 b1 d1).1:=⟨_,rfl⟩
 obtain⟨b2,hb2⟩:∃x,x=(QA1 b1 d1).2.1:=⟨_,rfl⟩
 obtain⟨d2,hd2⟩:∃x,x=(QA1 b1 d1).2.2:=⟨_,rfl⟩
 have l2:b2.length≤1048576:=by rw [hb2];exact Nat.le_trans QIA.1 l1
 have nl:N.length≤256:=by rw [hN];exact QIA.2
 have nz:∀s∈N,s.size≤32:=by rw [hN];exact QMJ
 simp only [rdgO,←hN,←hb2,←hd2] at m2 hF
 have m3:=QFz 169 (gR b2) b2 d2 l2 (QE5 b2).2.1 (QEv b2 l2)
 obtain⟨b3,hb3⟩:∃x,x=(colB (gR b2) b2 d2).1:=⟨_,rfl⟩
 obtain⟨d3,hd3⟩:∃x,x=(colB (gR b2) b2 d2).2:=⟨_,rfl⟩
 obtain⟨W,hW⟩:∃x,x=colL (gR b2) d2:=⟨_,rfl⟩
 have l3:b3.length≤1048576:=by rw [hb3];exact Nat.le_trans QF2 l2
 obtain⟨wl,wr⟩:=QJw (bad:=d2) (QE5 b2).1 (QE5 b2).2.2
 simp only [colV,colO,rdgO,←hb3,←hd3,←hW] at m3 hF wl wr
 have m4:=QFz 171 (Qt (gR b3)) b3 d3 l3 (QE5 b3).2.1 (gD_c b3 l3)
 obtain⟨b4,hb4⟩:∃x,x=(colB (Qt (gR b3)) b3 d3).1:=⟨_,rfl⟩
 obtain⟨d4,hd4⟩:∃x,x=(colB (Qt (gR b3)) b3 d3).2:=⟨_,rfl⟩
 obtain⟨Q,hQ⟩:∃x,x=colL (Qt (gR b3)) d3:=⟨_,rfl⟩
 have l4:b4.length≤1048576:=by rw [hb4];exact Nat.le_trans QF2 l3
 obtain⟨ql,qr⟩:=QJw (R:=Qt (gR b3)) (bad:=d3) (by show (sumW 0 (gR b3).1).length≤256;rw [QBS];exact (QE5 b3).1) (QIb _ _)
 simp only [colV,colO,rdgO,←hb4,←hd4,←hQ] at m4 hF ql qr
 have m5:=QFz 169 (gR b4) b4 d4 l4 (QE5 b4).2.1 (QEv b4 l4)
 obtain⟨b5,hb5⟩:∃x,x=(colB (gR b4) b4 d4).1:=⟨_,rfl⟩
 obtain⟨d5,hd5⟩:∃x,x=(colB (gR b4) b4 d4).2:=⟨_,rfl⟩
 obtain⟨B,hB⟩:∃x,x=colL (gR b4) d4:=⟨_,rfl⟩
 have l5:b5.length≤1048576:=by rw [hb5];exact Nat.le_trans QF2 l4
 obtain⟨bl,br⟩:=QJw (bad:=d4) (QE5 b4).1 (QE5 b4).2.2
 simp only [colV,colO,rdgO,←hb5,←hd5,←hB] at m5 hF bl br
 clear hb1 hd1 hK hN hb2 hd2 hb3 hd3 hW hb4 hd4 hQ hb5 hd5 hB
 generalize QE1 b=R at hF ⊢
 refine QM.useX [145] m1 rfl rfl ?_ ?_
 ·exact zC
 refine zS ?_
 refine QM.useX [145] m2 rfl rfl ?_ ?_
 ·exact zC
 refine zS ?_
 refine QM.useX [145] m3 rfl rfl ?_ ?_
 ·exact zC
 refine zS ?_
 refine QM.useX [145] m4 rfl rfl ?_ ?_
 ·exact zC
 refine zS ?_
 refine QM.useX [145] m5 rfl rfl ?_ ?_
 ·exact zC
 refine zS ?_
 cases d5
 ·refine zS ?_
  refine⟨fun e1=>?_,fun e1=>?_⟩
  ·refine zS ?_
   refine⟨fun e2=>?_,fun e2=>?_⟩
   ·refine zS ?_
    refine⟨fun e3=>?_,fun e3=>?_⟩
    ·rw [if_pos (by simp;omega)] at hF
     subst hF
     first | exact zC | refine zS ?_
     try rfl
    ·rw [if_neg (by simp;omega)] at hF
     have wl':W.length=K.length:=by omega
     have ql':Q.length=K.length:=by omega
     have bl':B.length=K.length:=by omega
     obtain⟨X,hX⟩:∃X,X=opsF N K W Q B b5 false []:=⟨_,rfl⟩
     rw [←hX] at hF
     refine zS ?_
     refine QD (ι:=Nat×List UInt8×Bool×List OpV) (fun q=>⟨[(0,.seq b.length 1 (flat QC b)),(4,.ptr 0 0),(6,.seq N.length 1 (flat QAf N)),(7,.seq W.length 1 (flat Qa W)),(8,.seq Q.length 1 (flat Qa Q)),(9,.seq B.length 1 (flat Qa B)),(10,.sl 1 0 q.2.2.2.length 5),(57,.seq K.length 1 (flat Qa K)),(58,.v (.int .i64 K.length)),(59,.v (.int .i64 q.1))],
       ⟨[(0,rdgO q.2.1 q.2.2.1),(1,.cells 51 (flat QX q.2.2.2) true)],2,2,0⟩⟩)
      (fun q=>q.1≤K.length∧opsF N (K.drop q.1) (W.drop q.1) (Q.drop q.1) (B.drop q.1) q.2.1 q.2.2.1 q.2.2.2=X∧q.2.2.2.length=q.1∧q.2.1.length≤1048576∧∀o∈q.2.2.2,QCP o) (fun q=>K.length - q.1) (0,b5,false,[]) ⟨Nat.zero_le _,hX.symm,rfl,l5,by simp⟩ ?_ ?_
     ·have hsa:List.take N.length (flat QAf N)=flat QAf N:=List.take_of_length_le (by rw [QW QBF,Nat.mul_one];exact Nat.le_refl _)
      refine Ent.freezeN 0 [(0,145),(1,1077)] [] ?_ ?_ rfl rfl rfl zD rfl rfl<;>simp (maxSteps:=400000) (disch:=first | omega | exact okT rfl | simp only [push_cast]) only [push_cast,↓QG,↓reduceIte,Nat.reduceAdd,Nat.reduceMul,Nat.reduceSub,Nat.reduceEqDiff,Nat.reduceBEq,Nat.reduceBNe,Nat.reduceLT,Nat.reduceLeDiff,reduceCtorEq,Op.operands,QA,QB,Nat.sub_zero,rdgO,hsa,Qec,Int.toNat_zero,List.replicate_zero,List.flatten_nil,QOx,List.length_nil]
     rintro⟨i,c,bad,acc⟩ ⟨h1,h2,h3,h4,h5⟩
     simp only at h1 h2 h3 h4 h5
     (have X1:=@rdgO.eq_1;refine zS1 ?_;clear X1)
     refine⟨fun h6=>?_,fun h6=>?_⟩
     ·have hi1:i<K.length:=by omega
      rw [List.drop_eq_getElem_cons hi1,List.drop_eq_getElem_cons (show i<W.length by omega),List.drop_eq_getElem_cons (show i<Q.length by omega),List.drop_eq_getElem_cons (show i<B.length by omega),opsF] at h2
      have kri:=kr K[i] (List.getElem_mem hi1)
      have qri:=qr Q[i] (List.getElem_mem zo)
      have bri:=br B[i] (List.getElem_mem zo)
      have none_case:(∀(h:X=none),R=([],4)):=fun h=>by rw [hF,h]
      refine zS ?_
      refine⟨fun h7=>?_,fun h7=>?_⟩
      ·refine zS ?_
       refine⟨fun h8=>?_,fun h8=>?_⟩
       ·rw [if_neg zo] at h2
        have hRR:=none_case h2.symm
        subst hRR
        first | exact zC | refine zS ?_
        try rfl
       ·rw [if_pos zo] at h2
        have hwN:W[i].toNat<N.length:=by omega
        have hNg:N.getD W[i].toNat ⟨#[]⟩=N[W[i].toNat]:=by rw [List.getD_eq_getElem?_getD,List.getElem?_eq_getElem hwN];rfl
        rw [hNg] at h2
        have hnz:=nz _ (List.getElem_mem hwN)
        have hso:∀t,flat QX acc++[AV.v (.int .i64 K[i]),.v (.string N[W[i].toNat]),.v (.int .i64 Q[i]),.v (.int .i64 B[i]),.v (.string t)]=flat QX (acc++[⟨K[i],N[W[i].toNat],Q[i],B[i],t⟩]):=fun t=>by simp [flat,QX]
        refine zS ?_
        refine (QJr K[i]).useV ?_
        refine zS ?_
        refine⟨fun ht=>?_,fun ht=>?_⟩
        ·rw [if_pos ht] at h2
         have hT:=QTb c bad 1024 h4 zD
         have hk:=QJi c 1024
         have hsz:=QKB c 1024
         generalize getT c 1024=t at hT h2 hk hsz
         obtain⟨s,k2,e2⟩:=t
         simp only at h2 hk hsz
         refine zS ?_
         by_cases hg:bad=false∧e2=0
         ·rw [if_pos hg] at h2
          rw [if_pos (show bad=false∧(s,k2,e2).2.2=0 from hg),if_pos (show bad=false∧(s,k2,e2).2.2=0 from hg)] at hT
          simp only [rdgO] at hT
          refine QM.useX [0] hT rfl rfl ?_ ?_
          ·exact zC
          (have X1:=hso;refine zS1 ?_;clear X1)
          refine⟨(i+1,c.drop k2,false,acc++[⟨K[i],N[W[i].toNat],Q[i],B[i],s⟩]),⟨hi1,h2,by show (acc++[_]).length=i+1;rw [List.length_append];simp;omega,by show (c.drop k2).length≤_;rw [List.length_drop];omega,fun o ho=>?_⟩,zO,?_⟩
          ·rcases List.mem_append.1 ho with h | h
           ·exact h5 o h
           ·rw [List.mem_singleton.1 h];exact⟨zO,zO,kri,qri,bri⟩
          ·refine Ent.freezeN 0 [(0,0),(1,868)] [] ?_ ?_ rfl rfl rfl zD rfl rfl<;>simp (maxSteps:=400000) (disch:=first | omega | exact okT rfl | simp only [push_cast]) only [push_cast,↓QG,↓reduceIte,Nat.reduceAdd,Nat.reduceMul,Nat.reduceSub,Nat.reduceEqDiff,Nat.reduceBEq,Nat.reduceBNe,Nat.reduceLT,Nat.reduceLeDiff,reduceCtorEq,Op.operands,QA,QB,Nat.sub_zero,rdgO,hso,List.length_append,List.length_cons,List.length_nil,List.length_drop]
         ·rw [if_neg hg] at h2
          rw [if_neg (show ¬(bad=false∧(s,k2,e2).2.2=0) from hg),if_neg (show ¬(bad=false∧(s,k2,e2).2.2=0) from hg)] at hT
          simp only [rdgO] at hT
          refine QM.useX [0] hT rfl rfl ?_ ?_
          ·exact zC
          (have X1:=hso;refine zS1 ?_;clear X1)
          refine⟨(i+1,c,true,acc++[⟨K[i],N[W[i].toNat],Q[i],B[i],⟨#[]⟩⟩]),⟨hi1,h2,by show (acc++[_]).length=i+1;rw [List.length_append];simp;omega,h4,fun o ho=>?_⟩,zO,?_⟩
          ·rcases List.mem_append.1 ho with h | h
           ·exact h5 o h
           ·rw [List.mem_singleton.1 h];exact⟨by show (N[W[i].toNat]).size≤_;omega,by show (0:Nat)≤_;omega,kri,qri,bri⟩
          ·refine Ent.freezeN 0 [(0,0),(1,868)] [] ?_ ?_ rfl rfl rfl zD rfl rfl<;>simp (maxSteps:=400000) (disch:=first | omega | exact okT rfl | simp only [push_cast]) only [push_cast,↓QG,↓reduceIte,Nat.reduceAdd,Nat.reduceMul,Nat.reduceSub,Nat.reduceEqDiff,Nat.reduceBEq,Nat.reduceBNe,Nat.reduceLT,Nat.reduceLeDiff,reduceCtorEq,Op.operands,QA,QB,Nat.sub_zero,rdgO,hso,List.length_append,List.length_cons,List.length_nil,List.length_drop]
        ·rw [if_neg ht] at h2
         (have X1:=hso;refine zS1 ?_;clear X1)
         refine⟨(i+1,c,bad,acc++[⟨K[i],N[W[i].toNat],Q[i],B[i],⟨#[]⟩⟩]),⟨hi1,h2,by show (acc++[_]).length=i+1;rw [List.length_append];simp;omega,h4,fun o ho=>?_⟩,zO,?_⟩
         ·rcases List.mem_append.1 ho with h | h
          ·exact h5 o h
          ·rw [List.mem_singleton.1 h];exact⟨by show (N[W[i].toNat]).size≤_;omega,by show (0:Nat)≤_;omega,kri,qri,bri⟩
         ·(have X1:=@rdgO.eq_1;have X2:=hso;have X3:=@List.length_append.{0};have X4:=@List.length_cons.{0};have X5:=@List.length_nil.{0};have X6:=@List.length_drop.{0};refine fzNM 0 [(0,0),(1,741)] [] ?_ ?_<;>first | exact zC6 | refine zS6 ?_)
          try rfl
      ·rw [if_neg zo] at h2
       have hRR:=none_case h2.symm
       subst hRR
       first | exact zC | refine zS ?_
       try rfl
     ·obtain rfl:i=K.length:=by omega
      rw [List.drop_length,QYc] at h2
      subst h2
      simp only at hF
      refine zS ?_
      have hoa:(flat QX acc).take (K.length*5)=flat QX acc:=by rw [←h3,List.take_of_length_le (by rw [QCM];exact Nat.le_refl _)]
      have hP:=Qfs acc zo h5
      rw [h3] at hP
      refine Fit.use (ids:=[1]) (.inr hP) (by have X1:=hoa;have X2:=h3;exact zCN2) ?_
      have hc1:∀f g l,QC7 Tryz.prog 23 9 f g (.seq l.length 1 (flat QC l))=some (.v (.string ⟨l.toArray⟩),[]):=fun f g l=>QAD zK zK
      have hoa5:(flat QX acc).take (acc.length*5)=flat QX acc:=by rw [List.take_of_length_le (by rw [QCM];exact Nat.le_refl _)]
      refine zS ?_
      cases bad
      ·refine zS ?_
       refine⟨fun h8=>?_,fun h8=>?_⟩
       ·have hp0:QAM acc=0:=by omega
        have hpr:QAb acc=QAy acc:=by rw [QAb,if_pos hp0]
        rw [hpr]
        (have X1:=hc1;refine zS1 ?_;clear X1)
        refine And.intro (fun h9=>?_) (fun h9=>?_)
        ·rw [if_pos (.inr (.inr fun e=>h9 (by rw [e])))] at hF
         subst hF
         first | exact zC | refine zS ?_
         rfl
        ·rw [if_neg (by simp only [Bool.false_eq_true,false_or,not_or];exact⟨by omega,fun h=>h (QHj.1 h9)⟩)] at hF
         subst hF
         (have X1:=hoa;have X2:=h3;first | exact zC2 | refine zS2 ?_)
         try rfl
       ·rw [if_pos (.inr (.inl zo))] at hF
        subst hF
        refine zS ?_
        iterate 14 all_goals (try (refine And.intro (fun _=>?_) (fun _=>?_)<;>try first | exact zC | refine zS ?_))
        all_goals first | (exfalso;omega) | rfl
      ·rw [if_pos (.inl rfl)] at hF
       subst hF
       first | exact zC | refine zS ?_
       try rfl
   ·rw [if_pos (by simp;omega)] at hF
    subst hF
    first | exact zC | refine zS ?_
    try rfl
  ·rw [if_pos (by simp;omega)] at hF
   subst hF
   first | exact zC | refine zS ?_
   try rfl
 ·rw [if_pos (.inl rfl)] at hF
  subst hF
  first | exact zC | refine zS ?_
  try rfl
open Proofs
theorem QSG (b:List UInt8):I64 (rgI b).1:=by
 rw [rgI]
 split
 ·simp [I64]
 ·split
  ·simp [I64]
  ·exact QGg _
def rR (b:List UInt8):=Qe rgU rgI 256 b
theorem QVz (b:List UInt8):(rR b).1.length≤256∧(rR b).2.1≤b.length∧∀x∈(rR b).1,I64 x:=
 QHh (fun b=>(QEj b).1) (fun b=>(QaS b).1) QSG 256 b
def rnmF:Nat→List UInt8→List ByteArray→Option (List ByteArray×List UInt8)
 | 0,b,acc=>some (acc,b)
 | n+1,b,acc=>if (rgT b 32).2.2=0 then rnmF n (b.drop (rgT b 32).2.1) (acc++[(rgT b 32).1]) else none
def QD9 (N:List ByteArray):List Int→List Int→List Int→List Int→List UInt8→List OpV→Option (List OpV)
 | k::K,w::W,p::Q,y::B,b,acc=>if 0≤w∧w<N.length then
   (if k=1∨k=4 then
    (if (rgT b 1024).2.2=0 then QD9 N K W Q B (b.drop (rgT b 1024).2.1) (acc++[⟨k,N.getD w.toNat ⟨#[]⟩,p,y,(rgT b 1024).1⟩]) else none)
   else QD9 N K W Q B b (acc++[⟨k,N.getD w.toNat ⟨#[]⟩,p,y,⟨#[]⟩⟩])) else none
 | _,_,_,_,_,acc=>some acc
theorem QUm {N:List ByteArray} {W Q B:List Int} {b:List UInt8} {acc:List OpV}:QD9 N [] W Q B b acc=some acc:=by simp [QD9]
def QIx (b:List UInt8) (K:List Int) (N:List ByteArray) (b3:List UInt8):List OpV×Nat:=
 let b4:=b3.drop (rR b3).2.1
 let b5:=b4.drop (Qt (rR b4)).2.1
 let b6:=b5.drop (rR b5).2.1
 let W:=(rR b3).1
 let Q:=(Qt (rR b4)).1
 let B:=(rR b5).1
 if (rR b3).2.2≠0∨(Qt (rR b4)).2.2≠0∨(rR b5).2.2≠0∨W.length≠K.length∨Q.length≠K.length∨B.length≠K.length then ([],4) else
 match QD9 N K W Q B b6 [] with
 | none=>([],4)
 | some l=>if QAM l≠0∨QAy l≠b then ([],4) else (l,0)
def QA5 (b:List UInt8):List OpV×Nat:=
 let b1:=b.drop (rR b).2.1
 let b2:=b1.drop (rgU b1).2.1
 if (rR b).2.2≠0∨(rgU b1).2.2≠0∨256<(rgU b1).1.toNat then ([],4) else
 match rnmF (rgU b1).1.toNat b2 [] with
 | none=>([],4)
 | some (N,b3)=>QIx b (rR b).1 N b3
theorem QDl (b:List UInt8) (most:Nat):(rgT b most).1.size≤most:=by
 rw [rgT]
 split
 ·exact Nat.zero_le _
 ·split
  ·exact Nat.zero_le _
  ·split
   ·exact Nat.zero_le _
   ·show (List.take _ _).toArray.size≤most
    rw [List.size_toArray,List.length_take];omega
theorem QG7 (b:List UInt8) (n:Nat) (hb:b.length≤1152921504606846976) (hn:n≤b.length):QE Tryz.prog [] 208 [.seq b.length 1 (flat QC b),.v (.int .i64 n)] (.seq (b.drop n).length 1 (flat QC (b.drop n))):=by
 refine QE.start Tryz.func208 rfl zK rfl Tryz.ntmps208 fol zK zI zI ?_
 refine zZ ?_
 have e:(min (n:Int) (b.length:Int)).toNat=n:=by omega
 have hd:List.take (b.length - n) (List.drop n (flat QC b))=flat QC (b.drop n):=by
  rw [QL,QT,List.take_of_length_le (by rw [List.length_drop];exact Nat.le_refl _)]
 (have X1:=e;have X2:=hd;have X3:=@List.length_drop.{0};exact zC3)
theorem rGet_c (b:List UInt8) (hb:b.length≤1048576):QE Tryz.prog [] 159 [.seq b.length 1 (flat QC b)] (.tup [.seq (QA5 b).1.length 5 (flat QX (QA5 b).1),.v (.int .i64 (QA5 b).2)]):=by
 refine QE.startW Tryz.func159 rfl zK rfl Tryz.ntmps159 fol zK (by simp [idfL,idf,QZ QS,QS,Qg,Qy,QFB]) (by simp [idfL,idf,QZ QS,QS,Qg,Qy,QFB]) ?_
 refine zZ ?_
 have hF:QA5 b=QA5 b:=rfl
 conv at hF=>rhs;rw [QA5]
 obtain⟨kl,un,kr⟩:=QVz b
 have m1:=QDh b hb
 rw [show Qe rgU rgI 256 b=rR b from rfl] at m1
 generalize rR b=R1 at m1 hF kl un kr
 obtain⟨K,n1,e1⟩:=R1
 simp only at m1 hF kl un kr
 refine m1.useV ?_
 refine zS ?_
 refine (QG7 b n1 zo un).useV ?_
 obtain⟨b1,hb1⟩:∃x,x=b.drop n1:=⟨_,rfl⟩
 have l1:b1.length≤1048576:=by rw [hb1,List.length_drop];omega
 rw [←hb1] at hF ⊢
 refine zS ?_
 refine (QB0 b1 zo).useV ?_
 obtain⟨u1,u2⟩:=QEj b1
 generalize rgU b1=q at u1 u2 hF ⊢
 obtain⟨many,n2,f2⟩:=q
 simp only at u1 u2 hF
 (have X1:=@guR.eq_1;refine zS1 ?_;clear X1)
 refine (QG7 b1 n2 zo u1).useV ?_
 obtain⟨b2,hb2⟩:∃x,x=b1.drop n2:=⟨_,rfl⟩
 have l2:b2.length≤1048576:=by rw [hb2,List.length_drop];omega
 rw [←hb2] at hF ⊢
 generalize QA5 b=R at hF ⊢
 refine zS ?_
 refine⟨fun h1=>?_,fun h1=>?_⟩
 ·refine zS ?_
  refine⟨fun h2=>?_,fun h2=>?_⟩
  ·refine zS ?_
   refine⟨fun h3=>?_,fun h3=>?_⟩
   ·rw [if_pos (by simp;omega)] at hF
    subst hF
    first | exact zC | refine zS ?_
    rfl
   ·rw [if_neg (by simp;omega)] at hF
    refine zS ?_
    have hsn:∀(acc:List ByteArray) s,flat QAf acc++[AV.v (.string s)]=flat QAf (acc++[s]):=fun acc s=>by simp [flat,QAf]
    refine QD (ι:=Nat×List UInt8×List ByteArray) (fun q=>⟨[(0,.seq b.length 1 (flat QC b)),(4,.seq K.length 1 (flat Qa K)),(7,.seq q.2.1.length 1 (flat QC q.2.1)),(8,.v (.int .u64 many.toNat)),(10,.sl 0 0 q.2.2.length 1),(11,.v (.int .u64 q.1))],⟨[(0,.cells 9 (flat QAf q.2.2) true)],1,1,0⟩⟩)
     (fun q=>q.1≤many.toNat∧rnmF (many.toNat - q.1) q.2.1 q.2.2=rnmF many.toNat b2 []∧q.2.1.length≤b2.length∧q.2.2.length=q.1∧∀s∈q.2.2,s.size≤32) (fun q=>many.toNat - q.1) (0,b2,[]) ⟨Nat.zero_le _,rfl,Nat.le_refl _,rfl,by simp⟩ ?_ ?_
    ·exact fzN 0 [] []
    rintro⟨i,c,acc⟩ ⟨g1,g2,g3,g4,g5⟩
    simp only at g1 g2 g3 g4 g5
    refine zS ?_
    refine⟨fun h4=>?_,fun h4=>?_⟩
    ·rw [show many.toNat - i=(many.toNat - (i+1))+1 by omega,rnmF] at g2
     refine zS ?_
     have hT:=QFL c 32 zo zD
     have hk:=QLp c 32
     have hz:=QDl c 32
     generalize rgT c 32=t at hT g2 hk hz
     obtain⟨s,k,f⟩:=t
     simp only at g2 hk hz
     refine hT.useV ?_
     (have X1:=@gtR.eq_1;refine zS1 ?_;clear X1)
     refine⟨fun h5=>?_,fun h5=>?_⟩
     ·rw [if_neg zo] at g2
      rw [←g2] at hF
      subst hF
      first | exact zC | refine zS ?_
      rfl
     ·rw [if_pos zo] at g2
      refine zS ?_
      refine (QG7 c k zo hk).useV ?_
      (have X1:=hsn;refine zS1 ?_;clear X1)
      refine⟨(i+1,c.drop k,acc++[s]),⟨zO,g2,by show (c.drop k).length≤_;rw [List.length_drop];omega,by show (acc++[s]).length=i+1;rw [List.length_append,g4];rfl,fun x hx=>?_⟩,zO,?_⟩
      ·rcases List.mem_append.1 hx with h | h
       ·exact g5 x h
       ·rw [List.mem_singleton.1 h];exact hz
      (have X1:=@List.length_append.{0};have X2:=@List.length_cons.{0};have X3:=@List.length_nil.{0};exact fzN3 0 [(0,711)] [])
    ·obtain rfl:i=many.toNat:=by omega
     rw [Nat.sub_self,rnmF] at g2
     rw [←g2] at hF
     simp only at hF
     rw [QIx] at hF
     have nl:acc.length≤256:=by omega
     obtain⟨wl,wu,wr⟩:=QVz c
     have m3:=QDh c zo
     rw [show Qe rgU rgI 256 c=rR c from rfl] at m3
     generalize rR c=R3 at m3 hF wl wu wr
     obtain⟨W,n3,e3⟩:=R3
     simp only at m3 hF wl wu wr
     refine zS ?_
     refine m3.useV ?_
     refine zS ?_
     refine (QG7 c n3 zo wu).useV ?_
     obtain⟨b4,hb4⟩:∃x,x=c.drop n3:=⟨_,rfl⟩
     have l4:b4.length≤1048576:=by rw [hb4,List.length_drop];omega
     rw [←hb4] at hF ⊢
     refine zS ?_
     obtain⟨ql,qu,qr⟩:=QVz b4
     have m4:=QK3 b4 l4 ql
     rw [show Qe rgU rgI 256 b4=rR b4 from rfl] at m4
     have ql':(Qt (rR b4)).1.length≤256:=by show (sumW 0 (rR b4).1).length≤256;rw [QBS];exact ql
     have qr':∀x∈(Qt (rR b4)).1,I64 x:=QIb _ _
     have qu':(Qt (rR b4)).2.1≤b4.length:=qu
     generalize Qt (rR b4)=R4 at m4 hF ql' qr' qu'
     obtain⟨Q,n4,e4⟩:=R4
     simp only at m4 hF ql' qr' qu'
     refine m4.useV ?_
     refine zS ?_
     refine (QG7 b4 n4 zo qu').useV ?_
     obtain⟨b5,hb5⟩:∃x,x=b4.drop n4:=⟨_,rfl⟩
     have l5:b5.length≤1048576:=by rw [hb5,List.length_drop];omega
     rw [←hb5] at hF ⊢
     refine zS ?_
     obtain⟨bl,bu,br⟩:=QVz b5
     have m5:=QDh b5 l5
     rw [show Qe rgU rgI 256 b5=rR b5 from rfl] at m5
     generalize rR b5=R5 at m5 hF bl bu br
     obtain⟨B,n5,e5⟩:=R5
     simp only at m5 hF bl bu br
     refine m5.useV ?_
     refine zS ?_
     refine (QG7 b5 n5 zo bu).useV ?_
     obtain⟨b6,hb6⟩:∃x,x=b5.drop n5:=⟨_,rfl⟩
     have l6:b6.length≤1048576:=by rw [hb6,List.length_drop];omega
     rw [←hb6] at hF ⊢
     refine zS ?_
     iterate 14 all_goals (try (refine And.intro (fun _=>?_) (fun _=>?_)<;>try first | exact zC | refine zS ?_))
     all_goals try
      (
       rw [if_pos (by simp;omega)] at hF
       subst hF
       first | exact zC | refine zS ?_
       rfl)
     rw [if_neg (by simp;omega)] at hF
     have wl':W.length=K.length:=by omega
     have ql2:Q.length=K.length:=by omega
     have bl':B.length=K.length:=by omega
     obtain⟨X,hX⟩:∃X,X=QD9 acc K W Q B b6 []:=⟨_,rfl⟩
     rw [←hX] at hF
     obtain⟨N,hNN⟩:∃N,N=acc:=⟨_,rfl⟩
     rw [←hNN] at hX
     refine QD (ι:=Nat×List UInt8×List OpV) (fun q=>⟨[(0,.seq b.length 1 (flat QC b)),(4,.seq K.length 1 (flat Qa K)),(7,.seq q.2.1.length 1 (flat QC q.2.1)),(10,.seq N.length 1 (flat QAf N)),(15,.seq W.length 1 (flat Qa W)),(16,.seq Q.length 1 (flat Qa Q)),(17,.seq B.length 1 (flat Qa B)),(19,.sl 0 0 q.2.2.length 5),(20,.v (.int .i64 q.1))],
       ⟨[(0,.cells 51 (flat QX q.2.2) true)],1,1,0⟩⟩)
      (fun q=>q.1≤K.length∧QD9 N (K.drop q.1) (W.drop q.1) (Q.drop q.1) (B.drop q.1) q.2.1 q.2.2=X∧q.2.2.length=q.1∧q.2.1.length≤1048576∧∀o∈q.2.2,QCP o) (fun q=>K.length - q.1) (0,b6,[]) ⟨Nat.zero_le _,hX.symm,rfl,l6,by simp⟩ ?_ ?_
     ·subst hNN
      have hsa:List.take N.length (flat QAf N)=flat QAf N:=List.take_of_length_le (by rw [QW QBF,Nat.mul_one];exact Nat.le_refl _)
      (have X1:=hsa;exact fzN1 0 [] [])
     rw [←hNN] at g5 nl
     clear hNN
     rintro⟨i,c,acc⟩ ⟨h1,h2,h3,h4,h5⟩
     simp only at h1 h2 h3 h4 h5
     refine zS ?_
     refine⟨fun h6=>?_,fun h6=>?_⟩
     ·have hi1:i<K.length:=by omega
      rw [List.drop_eq_getElem_cons hi1,List.drop_eq_getElem_cons (show i<W.length by omega),List.drop_eq_getElem_cons (show i<Q.length by omega),List.drop_eq_getElem_cons (show i<B.length by omega),QD9] at h2
      have kri:=kr K[i] (List.getElem_mem hi1)
      have qri:=qr' Q[i] (List.getElem_mem zo)
      have bri:=br B[i] (List.getElem_mem zo)
      have none_case:(∀(h:X=none),R=([],4)):=fun h=>by rw [hF,h]
      refine zS ?_
      refine⟨fun h7=>?_,fun h7=>?_⟩
      ·refine zS ?_
       refine⟨fun h8=>?_,fun h8=>?_⟩
       ·rw [if_neg zo] at h2
        have hRR:=none_case h2.symm
        subst hRR
        first | exact zC | refine zS ?_
        try rfl
       ·rw [if_pos zo] at h2
        have hwN:W[i].toNat<N.length:=by omega
        have hNg:N.getD W[i].toNat ⟨#[]⟩=N[W[i].toNat]:=by rw [List.getD_eq_getElem?_getD,List.getElem?_eq_getElem hwN];rfl
        rw [hNg] at h2
        have hnz:=g5 _ (List.getElem_mem hwN)
        have hso:∀t,flat QX acc++[AV.v (.int .i64 K[i]),.v (.string N[W[i].toNat]),.v (.int .i64 Q[i]),.v (.int .i64 B[i]),.v (.string t)]=flat QX (acc++[⟨K[i],N[W[i].toNat],Q[i],B[i],t⟩]):=fun t=>by simp [flat,QX]
        refine zS ?_
        iterate 14 all_goals (try (refine And.intro (fun _=>?_) (fun _=>?_)<;>try (have X1:=hso;first | exact zC1 | refine zS1 ?_)))
        all_goals first
         | (
           rw [if_pos zo] at h2
           have hT:=QFL c 1024 zo zD
           have hk:=QLp c 1024
           have hz:=QDl c 1024
           generalize rgT c 1024=t at hT h2 hk hz
           obtain⟨s,k,f⟩:=t
           simp only at h2 hk hz
           refine hT.useV ?_
           (have X1:=@gtR.eq_1;refine zS1 ?_;clear X1)
           refine⟨fun h9=>?_,fun h9=>?_⟩
           ·rw [if_neg zo] at h2
            have hRR:=none_case h2.symm
            subst hRR
            first | exact zC | refine zS ?_
            try rfl
           ·rw [if_pos zo] at h2
            refine zS ?_
            refine (QG7 c k zo hk).useV ?_
            (have X1:=hso;refine zS1 ?_;clear X1)
            refine⟨(i+1,c.drop k,acc++[⟨K[i],N[W[i].toNat],Q[i],B[i],s⟩]),⟨hi1,h2,by show (acc++[_]).length=i+1;rw [List.length_append];simp;omega,by show (c.drop k).length≤_;rw [List.length_drop];omega,fun o ho=>?_⟩,zO,?_⟩
            ·rcases List.mem_append.1 ho with h | h
             ·exact h5 o h
             ·rw [List.mem_singleton.1 h];exact⟨zO,zO,kri,qri,bri⟩
            ·(have X1:=hso;have X2:=@List.length_append.{0};have X3:=@List.length_cons.{0};have X4:=@List.length_nil.{0};refine fzNM 0 [(0,1902)] [] ?_ ?_<;>first | exact zC4 | refine zS4 ?_))
         | (
           rw [if_neg zo] at h2
           refine⟨(i+1,c,acc++[⟨K[i],N[W[i].toNat],Q[i],B[i],⟨#[]⟩⟩]),⟨hi1,h2,by show (acc++[_]).length=i+1;rw [List.length_append];simp;omega,h4,fun o ho=>?_⟩,zO,?_⟩
           ·rcases List.mem_append.1 ho with h | h
            ·exact h5 o h
            ·rw [List.mem_singleton.1 h];exact⟨by show (N[W[i].toNat]).size≤_;omega,by show (0:Nat)≤_;omega,kri,qri,bri⟩
           ·(have X1:=hso;have X2:=@List.length_append.{0};have X3:=@List.length_cons.{0};have X4:=@List.length_nil.{0};refine fzNM 0 [(0,1050)] [] ?_ ?_<;>first | exact zC4 | refine zS4 ?_)
            try rfl)
      ·rw [if_neg zo] at h2
       have hRR:=none_case h2.symm
       subst hRR
       first | exact zC | refine zS ?_
       try rfl
     ·obtain rfl:i=K.length:=by omega
      rw [List.drop_length,QUm] at h2
      subst h2
      simp only at hF
      refine zS ?_
      have hoa:(flat QX acc).take (K.length*5)=flat QX acc:=by rw [←h3,List.take_of_length_le (by rw [QCM];exact Nat.le_refl _)]
      have hP:=QaZ acc zo h5
      rw [h3] at hP
      refine Fit.use (ids:=[0]) (.inr hP) (by have X1:=hoa;have X2:=h3;exact zCN2) ?_
      have hc1:∀f g l,QC7 Tryz.prog 23 9 f g (.seq l.length 1 (flat QC l))=some (.v (.string ⟨l.toArray⟩),[]):=fun f g l=>QAD zK zK
      refine zS ?_
      by_cases hp0:QAM acc=0
      ·have hpr:QAb acc=QAy acc:=by rw [QAb,if_pos hp0]
       rw [hpr]
       refine And.intro (fun h8=>?_) (fun h8=>absurd hp0 zo)
       (have X1:=hc1;refine zS1 ?_;clear X1)
       refine And.intro (fun h9=>?_) (fun h9=>?_)
       ·rw [if_pos (.inr fun e=>h9 (by rw [e]))] at hF
        subst hF
        first | exact zC | refine zS ?_
        rfl
       ·rw [if_neg (by simp only [not_or];exact⟨fun h=>h hp0,fun h=>h (QHj.1 h9)⟩)] at hF
        subst hF
        (have X1:=hoa;have X2:=h3;first | exact zC2 | refine zS2 ?_)
        try rfl
      ·rw [if_pos (.inl hp0)] at hF
       subst hF
       refine And.intro (fun h8=>absurd zo hp0) (fun h8=>?_)
       first | exact zC | refine zS ?_
       try rfl
  ·rw [if_pos (by simp;omega)] at hF
   subst hF
   first | exact zC | refine zS ?_
   rfl
 ·rw [if_pos (by simp;omega)] at hF
  subst hF
  first | exact zC | refine zS ?_
  rfl
end Go.AW
