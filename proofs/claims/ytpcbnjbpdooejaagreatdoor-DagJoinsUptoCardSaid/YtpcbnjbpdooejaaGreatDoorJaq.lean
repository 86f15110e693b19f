/- A part of the proof: D36. -/
import Derived.Test.YtpcbnjbpdooejaaGreatDoorJae
import Derived.Test.YtpcbnjbpdooejaaGreatDoorJap
set_option linter.unusedSimpArgs false
set_option linter.unusedVariables false
set_option maxRecDepth 100000
set_option maxHeartbeats 8000000
namespace Go.AW
open Proofs
theorem QSG (b:List UInt8):I64 (rgI b).1:=by
 rw [rgI]
 split
 ·simp [I64]
 ·split
  ·simp [I64]
  ·exact QGg _
def rR (b:List UInt8):=Qe rgU rgI 256 b
theorem QVz (b:List UInt8):(rR b).1.length≤256∧(rR b).2.1≤b.length∧∀x∈(rR b).1,I64 x:=
 QHh (fun b=>(QEj b).1) (fun b=>(QaS b).1) QSG 256 b
def rnmF:Nat→List UInt8→List ByteArray→Option (List ByteArray×List UInt8)
 | 0,b,acc=>some (acc,b)
 | n+1,b,acc=>if (rgT b 32).2.2=0 then rnmF n (b.drop (rgT b 32).2.1) (acc++[(rgT b 32).1]) else none
def QD9 (N:List ByteArray):List Int→List Int→List Int→List Int→List UInt8→List OpV→Option (List OpV)
 | k::K,w::W,p::Q,y::B,b,acc=>if 0≤w∧w<N.length then
   (if k=1∨k=4 then
    (if (rgT b 1024).2.2=0 then QD9 N K W Q B (b.drop (rgT b 1024).2.1) (acc++[⟨k,N.getD w.toNat ⟨#[]⟩,p,y,(rgT b 1024).1⟩]) else none)
   else QD9 N K W Q B b (acc++[⟨k,N.getD w.toNat ⟨#[]⟩,p,y,⟨#[]⟩⟩])) else none
 | _,_,_,_,_,acc=>some acc
theorem QUm {N:List ByteArray} {W Q B:List Int} {b:List UInt8} {acc:List OpV}:QD9 N [] W Q B b acc=some acc:=by simp [QD9]
def QIx (b:List UInt8) (K:List Int) (N:List ByteArray) (b3:List UInt8):List OpV×Nat:=
 let b4:=b3.drop (rR b3).2.1
 let b5:=b4.drop (Qt (rR b4)).2.1
 let b6:=b5.drop (rR b5).2.1
 let W:=(rR b3).1
 let Q:=(Qt (rR b4)).1
 let B:=(rR b5).1
 if (rR b3).2.2≠0∨(Qt (rR b4)).2.2≠0∨(rR b5).2.2≠0∨W.length≠K.length∨Q.length≠K.length∨B.length≠K.length then ([],4) else
 match QD9 N K W Q B b6 [] with
 | none=>([],4)
 | some l=>if QAM l≠0∨QAy l≠b then ([],4) else (l,0)
def QA5 (b:List UInt8):List OpV×Nat:=
 let b1:=b.drop (rR b).2.1
 let b2:=b1.drop (rgU b1).2.1
 if (rR b).2.2≠0∨(rgU b1).2.2≠0∨256<(rgU b1).1.toNat then ([],4) else
 match rnmF (rgU b1).1.toNat b2 [] with
 | none=>([],4)
 | some (N,b3)=>QIx b (rR b).1 N b3
theorem QDl (b:List UInt8) (most:Nat):(rgT b most).1.size≤most:=by
 rw [rgT]
 split
 ·exact Nat.zero_le _
 ·split
  ·exact Nat.zero_le _
  ·split
   ·exact Nat.zero_le _
   ·show (List.take _ _).toArray.size≤most
    rw [List.size_toArray,List.length_take];omega
theorem QG7 (b:List UInt8) (n:Nat) (hb:b.length≤1152921504606846976) (hn:n≤b.length):QE Tryz.prog [] 208 [.seq b.length 1 (flat QC b),.v (.int .i64 n)] (.seq (b.drop n).length 1 (flat QC (b.drop n))):=by
 refine QE.start Tryz.func208 rfl (by kernel_rfl) rfl Tryz.ntmps208 fol (by kernel_rfl) zI zI ?_
 refine zZ ?_
 have e:(min (n:Int) (b.length:Int)).toNat=n:=by omega
 have hd:List.take (b.length - n) (List.drop n (flat QC b))=flat QC (b.drop n):=by
  rw [QL,QT,List.take_of_length_le (by rw [List.length_drop];exact Nat.le_refl _)]
 (have X1:=e;have X2:=hd;have X3:=@List.length_drop.{0};exact zC3)
theorem rGet_c (b : List UInt8) (hb : b.length ≤ 1048576) : QE Tryz.prog [] 159 [.seq b.length 1 (flat QC b)] (.tup [.seq (QA5 b).1.length 5 (flat QX (QA5 b).1), .v (.int .i64 (QA5 b).2)]) := by
  refine QE.startW Tryz.func159 rfl (by kernel_rfl) rfl Tryz.ntmps159 fol (by kernel_rfl) (by simp [idfL, idf, QZ QS, QS, Qg, Qy, QFB]) (by simp [idfL, idf, QZ QS, QS, Qg, Qy, QFB]) ?_
  refine zZ ?_
  have hF : QA5 b = QA5 b := rfl
  conv at hF => rhs; rw [QA5]
  obtain ⟨kl, un, kr⟩ := QVz b
  have m1 := QDh b hb
  rw [show Qe rgU rgI 256 b = rR b from rfl] at m1
  generalize rR b = R1 at m1 hF kl un kr
  obtain ⟨K, n1, e1⟩ := R1
  simp only at m1 hF kl un kr
  refine m1.useV ?_
  refine zS ?_
  refine (QG7 b n1 (by omega) un).useV ?_
  obtain ⟨b1, hb1⟩ : ∃ x, x = b.drop n1 := ⟨_, rfl⟩
  have l1 : b1.length ≤ 1048576 := by rw [hb1, List.length_drop]; omega
  rw [← hb1] at hF ⊢
  refine zS ?_
  refine (QB0 b1 (by omega)).useV ?_
  obtain ⟨u1, u2⟩ := QEj b1
  generalize rgU b1 = q at u1 u2 hF ⊢
  obtain ⟨many, n2, f2⟩ := q
  simp only at u1 u2 hF
  (have X1:=@guR.eq_1;refine zS1 ?_;clear X1)
  refine (QG7 b1 n2 (by omega) u1).useV ?_
  obtain ⟨b2, hb2⟩ : ∃ x, x = b1.drop n2 := ⟨_, rfl⟩
  have l2 : b2.length ≤ 1048576 := by rw [hb2, List.length_drop]; omega
  rw [← hb2] at hF ⊢
  generalize QA5 b = R at hF ⊢
  refine zS ?_
  refine ⟨fun h1 => ?_, fun h1 => ?_⟩
  · refine zS ?_
    refine ⟨fun h2 => ?_, fun h2 => ?_⟩
    · refine zS ?_
      refine ⟨fun h3 => ?_, fun h3 => ?_⟩
      · rw [if_pos (by simp; omega)] at hF
        subst hF
        first | exact zC | refine zS ?_
        rfl
      · rw [if_neg (by simp; omega)] at hF
        refine zS ?_
        have hsn : ∀ (acc : List ByteArray) s, flat QAf acc ++ [AV.v (.string s)] = flat QAf (acc ++ [s]) := fun acc s => by simp [flat, QAf]
        refine QD (ι := Nat × List UInt8 × List ByteArray) (fun q => ⟨[(0, .seq b.length 1 (flat QC b)), (4, .seq K.length 1 (flat Qa K)), (7, .seq q.2.1.length 1 (flat QC q.2.1)), (8, .v (.int .u64 many.toNat)), (10, .sl 0 0 q.2.2.length 1), (11, .v (.int .u64 q.1))], ⟨[(0, .cells 9 (flat QAf q.2.2) true)], 1, 1, 0⟩⟩)
          (fun q => q.1 ≤ many.toNat ∧ rnmF (many.toNat - q.1) q.2.1 q.2.2 = rnmF many.toNat b2 [] ∧ q.2.1.length ≤ b2.length ∧ q.2.2.length = q.1 ∧ ∀ s ∈ q.2.2, s.size ≤ 32) (fun q => many.toNat - q.1) (0, b2, []) ⟨Nat.zero_le _, rfl, Nat.le_refl _, rfl, by simp⟩ ?_ ?_
        · exact fzN 0 [] []
        rintro ⟨i, c, acc⟩ ⟨g1, g2, g3, g4, g5⟩
        simp only at g1 g2 g3 g4 g5
        refine zS ?_
        refine ⟨fun h4 => ?_, fun h4 => ?_⟩
        · rw [show many.toNat - i = (many.toNat - (i + 1)) + 1 by omega, rnmF] at g2
          refine zS ?_
          have hT := QFL c 32 (by omega) (by decide)
          have hk := QLp c 32
          have hz := QDl c 32
          generalize rgT c 32 = t at hT g2 hk hz
          obtain ⟨s, k, f⟩ := t
          simp only at g2 hk hz
          refine hT.useV ?_
          (have X1:=@gtR.eq_1;refine zS1 ?_;clear X1)
          refine ⟨fun h5 => ?_, fun h5 => ?_⟩
          · rw [if_neg (by omega)] at g2
            rw [← g2] at hF
            subst hF
            first | exact zC | refine zS ?_
            rfl
          · rw [if_pos (by omega)] at g2
            refine zS ?_
            refine (QG7 c k (by omega) hk).useV ?_
            (have X1:=hsn;refine zS1 ?_;clear X1)
            refine ⟨(i + 1, c.drop k, acc ++ [s]), ⟨zO, g2, by show (c.drop k).length ≤ _; rw [List.length_drop]; omega, by show (acc ++ [s]).length = i + 1; rw [List.length_append, g4]; rfl, fun x hx => ?_⟩, zO, ?_⟩
            · rcases List.mem_append.1 hx with h | h
              · exact g5 x h
              · rw [List.mem_singleton.1 h]; exact hz
            (have X1:=@List.length_append.{0};have X2:=@List.length_cons.{0};have X3:=@List.length_nil.{0};exact fzN3 0 [(0, 711)] [])
        · obtain rfl : i = many.toNat := by omega
          rw [Nat.sub_self, rnmF] at g2
          rw [← g2] at hF
          simp only at hF
          rw [QIx] at hF
          have nl : acc.length ≤ 256 := by omega
          obtain ⟨wl, wu, wr⟩ := QVz c
          have m3 := QDh c (by omega)
          rw [show Qe rgU rgI 256 c = rR c from rfl] at m3
          generalize rR c = R3 at m3 hF wl wu wr
          obtain ⟨W, n3, e3⟩ := R3
          simp only at m3 hF wl wu wr
          refine zS ?_
          refine m3.useV ?_
          refine zS ?_
          refine (QG7 c n3 (by omega) wu).useV ?_
          obtain ⟨b4, hb4⟩ : ∃ x, x = c.drop n3 := ⟨_, rfl⟩
          have l4 : b4.length ≤ 1048576 := by rw [hb4, List.length_drop]; omega
          rw [← hb4] at hF ⊢
          refine zS ?_
          obtain ⟨ql, qu, qr⟩ := QVz b4
          have m4 := QK3 b4 l4 ql
          rw [show Qe rgU rgI 256 b4 = rR b4 from rfl] at m4
          have ql' : (Qt (rR b4)).1.length ≤ 256 := by show (sumW 0 (rR b4).1).length ≤ 256; rw [QBS]; exact ql
          have qr' : ∀ x ∈ (Qt (rR b4)).1, I64 x := QIb _ _
          have qu' : (Qt (rR b4)).2.1 ≤ b4.length := qu
          generalize Qt (rR b4) = R4 at m4 hF ql' qr' qu'
          obtain ⟨Q, n4, e4⟩ := R4
          simp only at m4 hF ql' qr' qu'
          refine m4.useV ?_
          refine zS ?_
          refine (QG7 b4 n4 (by omega) qu').useV ?_
          obtain ⟨b5, hb5⟩ : ∃ x, x = b4.drop n4 := ⟨_, rfl⟩
          have l5 : b5.length ≤ 1048576 := by rw [hb5, List.length_drop]; omega
          rw [← hb5] at hF ⊢
          refine zS ?_
          obtain ⟨bl, bu, br⟩ := QVz b5
          have m5 := QDh b5 l5
          rw [show Qe rgU rgI 256 b5 = rR b5 from rfl] at m5
          generalize rR b5 = R5 at m5 hF bl bu br
          obtain ⟨B, n5, e5⟩ := R5
          simp only at m5 hF bl bu br
          refine m5.useV ?_
          refine zS ?_
          refine (QG7 b5 n5 (by omega) bu).useV ?_
          obtain ⟨b6, hb6⟩ : ∃ x, x = b5.drop n5 := ⟨_, rfl⟩
          have l6 : b6.length ≤ 1048576 := by rw [hb6, List.length_drop]; omega
          rw [← hb6] at hF ⊢
          refine zS ?_
          iterate 14 all_goals (try (refine And.intro (fun _ => ?_) (fun _ => ?_) <;> try first | exact zC | refine zS ?_))
          all_goals try
            (rw [if_pos (by simp; omega)] at hF
             subst hF
             first | exact zC | refine zS ?_
             rfl)
          rw [if_neg (by simp; omega)] at hF
          have wl' : W.length = K.length := by omega
          have ql2 : Q.length = K.length := by omega
          have bl' : B.length = K.length := by omega
          obtain ⟨X, hX⟩ : ∃ X, X = QD9 acc K W Q B b6 [] := ⟨_, rfl⟩
          rw [← hX] at hF
          obtain ⟨N, hNN⟩ : ∃ N, N = acc := ⟨_, rfl⟩
          rw [← hNN] at hX
          refine QD (ι := Nat × List UInt8 × List OpV) (fun q => ⟨[(0, .seq b.length 1 (flat QC b)), (4, .seq K.length 1 (flat Qa K)), (7, .seq q.2.1.length 1 (flat QC q.2.1)), (10, .seq N.length 1 (flat QAf N)), (15, .seq W.length 1 (flat Qa W)), (16, .seq Q.length 1 (flat Qa Q)), (17, .seq B.length 1 (flat Qa B)), (19, .sl 0 0 q.2.2.length 5), (20, .v (.int .i64 q.1))],
              ⟨[(0, .cells 51 (flat QX q.2.2) true)], 1, 1, 0⟩⟩)
            (fun q => q.1 ≤ K.length ∧ QD9 N (K.drop q.1) (W.drop q.1) (Q.drop q.1) (B.drop q.1) q.2.1 q.2.2 = X ∧ q.2.2.length = q.1 ∧ q.2.1.length ≤ 1048576 ∧ ∀ o ∈ q.2.2, QCP o) (fun q => K.length - q.1) (0, b6, []) ⟨Nat.zero_le _, hX.symm, rfl, l6, by simp⟩ ?_ ?_
          · subst hNN
            have hsa : List.take N.length (flat QAf N) = flat QAf N := List.take_of_length_le (by rw [QW QBF, Nat.mul_one]; exact Nat.le_refl _)
            (have X1:=hsa;exact fzN1 0 [] [])
          rw [← hNN] at g5 nl
          clear hNN
          rintro ⟨i, c, acc⟩ ⟨h1, h2, h3, h4, h5⟩
          simp only at h1 h2 h3 h4 h5
          refine zS ?_
          refine ⟨fun h6 => ?_, fun h6 => ?_⟩
          · have hi1 : i < K.length := by omega
            rw [List.drop_eq_getElem_cons hi1, List.drop_eq_getElem_cons (show i < W.length by omega), List.drop_eq_getElem_cons (show i < Q.length by omega), List.drop_eq_getElem_cons (show i < B.length by omega), QD9] at h2
            have kri := kr K[i] (List.getElem_mem hi1)
            have qri := qr' Q[i] (List.getElem_mem (by omega))
            have bri := br B[i] (List.getElem_mem (by omega))
            have none_case : (∀ (h : X = none), R = ([], 4)) := fun h => by rw [hF, h]
            refine zS ?_
            refine ⟨fun h7 => ?_, fun h7 => ?_⟩
            · refine zS ?_
              refine ⟨fun h8 => ?_, fun h8 => ?_⟩
              · rw [if_neg (by omega)] at h2
                have hRR := none_case h2.symm
                subst hRR
                first | exact zC | refine zS ?_
                try rfl
              · rw [if_pos (by omega)] at h2
                have hwN : W[i].toNat < N.length := by omega
                have hNg : N.getD W[i].toNat ⟨#[]⟩ = N[W[i].toNat] := by rw [List.getD_eq_getElem?_getD, List.getElem?_eq_getElem hwN]; rfl
                rw [hNg] at h2
                have hnz := g5 _ (List.getElem_mem hwN)
                have hso : ∀ t, flat QX acc ++ [AV.v (.int .i64 K[i]), .v (.string N[W[i].toNat]), .v (.int .i64 Q[i]), .v (.int .i64 B[i]), .v (.string t)] = flat QX (acc ++ [⟨K[i], N[W[i].toNat], Q[i], B[i], t⟩]) := fun t => by simp [flat, QX]
                refine zS ?_
                iterate 14 all_goals (try (refine And.intro (fun _ => ?_) (fun _ => ?_) <;> try (have X1:=hso;first | exact zC1 | refine zS1 ?_)))
                all_goals first
                  | (rw [if_pos (by omega)] at h2
                     have hT := QFL c 1024 (by omega) (by decide)
                     have hk := QLp c 1024
                     have hz := QDl c 1024
                     generalize rgT c 1024 = t at hT h2 hk hz
                     obtain ⟨s, k, f⟩ := t
                     simp only at h2 hk hz
                     refine hT.useV ?_
                     (have X1:=@gtR.eq_1;refine zS1 ?_;clear X1)
                     refine ⟨fun h9 => ?_, fun h9 => ?_⟩
                     · rw [if_neg (by omega)] at h2
                       have hRR := none_case h2.symm
                       subst hRR
                       first | exact zC | refine zS ?_
                       try rfl
                     · rw [if_pos (by omega)] at h2
                       refine zS ?_
                       refine (QG7 c k (by omega) hk).useV ?_
                       (have X1:=hso;refine zS1 ?_;clear X1)
                       refine ⟨(i + 1, c.drop k, acc ++ [⟨K[i], N[W[i].toNat], Q[i], B[i], s⟩]), ⟨hi1, h2, by show (acc ++ [_]).length = i + 1; rw [List.length_append]; simp; omega, by show (c.drop k).length ≤ _; rw [List.length_drop]; omega, fun o ho => ?_⟩, zO, ?_⟩
                       · rcases List.mem_append.1 ho with h | h
                         · exact h5 o h
                         · rw [List.mem_singleton.1 h]; exact ⟨zO, zO, kri, qri, bri⟩
                       · refine Ent.freezeN 0 [(0, 1902)] [] ?_ ?_ rfl rfl rfl (by decide) rfl rfl <;> simp (maxSteps := 400000) (disch := first | omega | exact okT rfl | simp only [push_cast]) only [push_cast, ↓QG, ↓reduceIte, Nat.reduceAdd, Nat.reduceMul, Nat.reduceSub, Nat.reduceEqDiff, Nat.reduceBEq, Nat.reduceBNe, Nat.reduceLT, Nat.reduceLeDiff, reduceCtorEq, Op.operands, QA, QB, Nat.sub_zero, hso, List.length_append, List.length_cons, List.length_nil])
                  | (rw [if_neg (by omega)] at h2
                     refine ⟨(i + 1, c, acc ++ [⟨K[i], N[W[i].toNat], Q[i], B[i], ⟨#[]⟩⟩]), ⟨hi1, h2, by show (acc ++ [_]).length = i + 1; rw [List.length_append]; simp; omega, h4, fun o ho => ?_⟩, zO, ?_⟩
                     · rcases List.mem_append.1 ho with h | h
                       · exact h5 o h
                       · rw [List.mem_singleton.1 h]; exact ⟨by show (N[W[i].toNat]).size ≤ _; omega, by show (0 : Nat) ≤ _; omega, kri, qri, bri⟩
                     · (have X1:=hso;have X2:=@List.length_append.{0};have X3:=@List.length_cons.{0};have X4:=@List.length_nil.{0};refine fzNM 0 [(0, 1050)] [] ?_ ?_<;>first | exact zC4 | refine zS4 ?_)
                       try rfl)
            · rw [if_neg (by omega)] at h2
              have hRR := none_case h2.symm
              subst hRR
              first | exact zC | refine zS ?_
              try rfl
          · obtain rfl : i = K.length := by omega
            rw [List.drop_length, QUm] at h2
            subst h2
            simp only at hF
            refine zS ?_
            have hoa : (flat QX acc).take (K.length * 5) = flat QX acc := by rw [← h3, List.take_of_length_le (by rw [QCM]; exact Nat.le_refl _)]
            have hP := QaZ acc (by omega) h5
            rw [h3] at hP
            refine Fit.use (ids := [0]) (.inr hP) (by have X1:=hoa;have X2:=h3;exact zCN2) ?_
            have hc1 : ∀ f g l, QC7 Tryz.prog 23 9 f g (.seq l.length 1 (flat QC l)) = some (.v (.string ⟨l.toArray⟩), []) := fun f g l => QAD (by kernel_rfl) (by kernel_rfl)
            refine zS ?_
            by_cases hp0 : QAM acc = 0
            · have hpr : QAb acc = QAy acc := by rw [QAb, if_pos hp0]
              rw [hpr]
              refine And.intro (fun h8 => ?_) (fun h8 => absurd hp0 (by omega))
              (have X1:=hc1;refine zS1 ?_;clear X1)
              refine And.intro (fun h9 => ?_) (fun h9 => ?_)
              · rw [if_pos (.inr fun e => h9 (by rw [e]))] at hF
                subst hF
                first | exact zC | refine zS ?_
                rfl
              · rw [if_neg (by simp only [not_or]; exact ⟨fun h => h hp0, fun h => h (QHj.1 h9)⟩)] at hF
                subst hF
                (have X1:=hoa;have X2:=h3;first | exact zC2 | refine zS2 ?_)
                try rfl
            · rw [if_pos (.inl hp0)] at hF
              subst hF
              refine And.intro (fun h8 => absurd (by omega) hp0) (fun h8 => ?_)
              first | exact zC | refine zS ?_
              try rfl
    · rw [if_pos (by simp; omega)] at hF
      subst hF
      first | exact zC | refine zS ?_
      rfl
  · rw [if_pos (by simp; omega)] at hF
    subst hF
    first | exact zC | refine zS ?_
    rfl
end Go.AW
