/- A part of the proof: D18 D19 D20 D21. -/
import Derived.Test.YtpcbnjbpdooejaaGreatDoorJae
import Derived.Test.YtpcbnjbpdooejaaGreatDoorJaf
import Derived.Test.YtpcbnjbpdooejaaGreatDoorJag
import Derived.Test.YtpcbnjbpdooejaaGreatDoorJah
set_option linter.unusedSimpArgs false
set_option linter.unusedVariables false
set_option maxRecDepth 100000
set_option maxHeartbeats 8000000
namespace Go.AW
open Proofs
theorem QEz {a:Hs} {i:Nat} (h:i<32):(hcell a)[i]?=some (.v (.int .u8 (a.1.getD i 0))):=by
 have hl:i<a.1.length:=by rw [a.2];exact h
 simp only [hcell,List.getElem?_map,List.getElem?_eq_getElem hl,Option.map_some,List.getD_eq_getElem?_getD,Option.getD_some]
theorem QaM:∀(i:Nat) (l m:List Int),(∀j,j<i→l.getD j 0=m.getD j 0)→i<l.length→i<m.length→l.getD i 0≠m.getD i 0→ltL l m=decide (l.getD i 0<m.getD i 0)
 | _,[],_,_,h,_,_=>by simp at h
 | _,_::_,[],_,_,h,_=>by simp at h
 | 0,a::l,b::m,_,_,_,h=>by
  simp only [List.getD_cons_zero] at h ⊢
  rw [ltL,if_neg h]
 | i+1,a::l,b::m,h,h1,h2,h3=>by
  have e:a=b:=h 0 (by omega)
  simp only [List.getD_cons_succ,List.length_cons] at*
  rw [ltL,if_pos e]
  exact QaM i l m (fun j hj=>by simpa using h (j+1) (by omega)) (by omega) (by omega) h3
theorem QaX {a b:Hs} {i:Nat} (hi:i<32) (h:∀j,j<i→a.1.getD j 0=b.1.getD j 0) (hn:a.1.getD i 0≠b.1.getD i 0):hlt a b=decide (a.1.getD i 0<b.1.getD i 0):=
 QaM i _ _ h (by rw [a.2];exact hi) (by rw [b.2];exact hi) hn
theorem QZ5 {a b:Hs} (h:∀j,j<32→a.1.getD j 0=b.1.getD j 0):a=b:=Subtype.ext (List.ext_getElem (a.2.trans b.2.symm) fun j h1 h2=>by
 have:=h j (by rw [a.2] at h1;exact h1)
 rwa [List.getD_eq_getElem?_getD,List.getD_eq_getElem?_getD,List.getElem?_eq_getElem h1,List.getElem?_eq_getElem h2] at this)
theorem QdZ {h:Hs}:setL [.v (.int .u8 0),.v (.int .u8 0),.v (.int .u8 0),.v (.int .u8 0),.v (.int .u8 0),.v (.int .u8 0),.v (.int .u8 0),.v (.int .u8 0),.v (.int .u8 0),.v (.int .u8 0),.v (.int .u8 0),.v (.int .u8 0),.v (.int .u8 0),.v (.int .u8 0),.v (.int .u8 0),.v (.int .u8 0),.v (.int .u8 0),.v (.int .u8 0),.v (.int .u8 0),.v (.int .u8 0),.v (.int .u8 0),.v (.int .u8 0),.v (.int .u8 0),.v (.int .u8 0),.v (.int .u8 0),.v (.int .u8 0),.v (.int .u8 0),.v (.int .u8 0),.v (.int .u8 0),.v (.int .u8 0),.v (.int .u8 0),.v (.int .u8 0)] 0 (hcell h)=hcell h:=QAK (by rw [QK];rfl)
attribute [push_cast] QdZ
theorem QID {α:Type} {f:α→List AV} {sz:Nat} (hf:∀x,(f x).length=sz):∀{l:List α} {i:Nat},(flat f l).take (i*sz)=flat f (l.take i)
 | [],i=>by simp [flat]
 | x::l,0=>by simp [flat]
 | x::l,i+1=>by
  have:=QID hf (l:=l) (i:=i)
  simp only [flat,List.flatMap_cons,List.take_succ_cons] at*
  rw [Nat.add_mul,Nat.one_mul,List.take_append,hf,List.take_of_length_le (by rw [hf];omega),Nat.add_sub_cancel,this]
theorem QH9 {α:Type} {f:α→List AV} {sz:Nat} (hf:∀x,(f x).length=sz):∀{l:List α} {i:Nat},(flat f l).drop (i*sz)=flat f (l.drop i)
 | [],i=>by simp [flat]
 | x::l,0=>by simp [flat]
 | x::l,i+1=>by
  have:=QH9 hf (l:=l) (i:=i)
  simp only [flat,List.flatMap_cons,List.drop_succ_cons] at*
  rw [Nat.add_mul,Nat.one_mul,List.drop_append,hf,List.drop_of_length_le (by rw [hf];omega),Nat.add_sub_cancel,this,List.nil_append]
theorem QGz {l:List Hs} {i:Nat}:(flat hcell l).take (i*32)=flat hcell (l.take i):=QID QK
theorem QNQ {l:List Hs} {i:Nat}:(flat hcell l).drop (i*32)=flat hcell (l.drop i):=QH9 QK
theorem Q4 {l m:List Hs}:flat hcell l++flat hcell m=flat hcell (l++m):=by simp [flat]
theorem QE6 {x:Hs} {m:List Hs}:hcell x++flat hcell m=flat hcell (x::m):=by simp [flat]
theorem QLW {l:List Hs} {n:Nat} (h:l.length≤n):(flat hcell l).take (n*32)=flat hcell l:=by rw [QGz,List.take_of_length_le h]
theorem QMc (a b:Hs):QE Tryz.prog [] 162 [.agg (hcell a),.agg (hcell b)] (.v (.bool (hlt a b))):=by
 refine QE.start Tryz.func162 rfl (by kernel_rfl) rfl Tryz.ntmps162 fol (by kernel_rfl) (by simp [idfL,idf,QS]) rfl ?_
 refine zZ ?_
 refine QD (ι:=Nat) (fun i=>⟨[(2,.rop (hcell a)),(3,.rop (hcell b)),(5,.v (.int .i64 i))],⟨[],0,0,0⟩⟩) (fun i=>i≤32∧∀j,j<i→a.1.getD j 0=b.1.getD j 0) (fun i=>32 - i) 0 ⟨Nat.zero_le _,fun j hj=>absurd hj (Nat.not_lt_zero _)⟩ ?_ ?_
 ·refine Ent.freezeN 0 [] [] ?_ ?_ rfl rfl rfl (by decide) rfl rfl
  ·exact zC
  ·exact zC
 rintro i ⟨hi,hall⟩
 refine zS ?_
 refine⟨fun h=>?_,fun h=>?_⟩
 ·have hi1:i<32:=by omega
  have g1:=QEz (a:=a) hi1
  have g2:=QEz (a:=b) hi1
  (have X1:=g1;have X2:=g2;have X3:=@List.getElem?_drop.{0};refine zS3 ?_;clear X1 X2 X3)
  refine⟨fun hn=>?_,fun hn=>?_⟩
  ·(have X1:=g1;have X2:=g2;have X3:=@List.getElem?_drop.{0};refine zS3 ?_;clear X1 X2 X3)
   rw [QaX hi1 hall hn]
  ·(have X1:=g1;have X2:=g2;have X3:=@List.getElem?_drop.{0};refine zS3 ?_;clear X1 X2 X3)
   refine⟨i+1,⟨by omega,fun j hj=>?_⟩,zO,?_⟩
   ·rcases Nat.lt_or_ge j i with h5 | h5
    ·exact hall j h5
    ·obtain rfl:j=i:=by omega
     exact hn
   refine Ent.freezeN 0 [] [] ?_ ?_ rfl rfl rfl (by decide) rfl rfl
   ·exact zC
   ·exact zC
 ·refine zS ?_
  obtain rfl:a=b:=QZ5 fun j hj=>hall j (by omega)
  rw [QAX]
theorem QaK (a b:Hs):QE Tryz.prog [] 108 [.agg (hcell a),.agg (hcell b)] (.v (.bool (hlt a b))):=by
 refine QE.start Tryz.func108 rfl (by kernel_rfl) rfl Tryz.ntmps108 fol (by kernel_rfl) (by simp [idfL,idf,QS]) rfl ?_
 refine zZ ?_
 refine⟨fun h=>?_,fun h=>?_⟩
 ·refine zS ?_
  rw [h,QAX]
 ·refine zS ?_
  refine QD (ι:=Nat) (fun i=>⟨[(2,.rop (hcell a)),(3,.rop (hcell b)),(5,.v (.int .i64 i))],⟨[],0,0,0⟩⟩) (fun i=>i<32∧∀j,j<i→a.1.getD j 0=b.1.getD j 0) (fun i=>32 - i) 0 ⟨by decide,fun j hj=>absurd hj (Nat.not_lt_zero _)⟩ ?_ ?_
  ·refine Ent.freezeN 0 [] [] ?_ ?_ rfl rfl rfl (by decide) rfl rfl
   ·exact zC
   ·exact zC
  rintro i ⟨hi1,hall⟩
  have g1:=QEz (a:=a) hi1
  have g2:=QEz (a:=b) hi1
  (have X1:=g1;have X2:=g2;have X3:=@List.getElem?_drop.{0};refine zS3 ?_;clear X1 X2 X3)
  refine⟨fun hn=>?_,fun hn=>?_⟩
  ·(have X1:=g1;have X2:=g2;have X3:=@List.getElem?_drop.{0};refine zS3 ?_;clear X1 X2 X3)
   have hall':∀j,j<i+1→a.1.getD j 0=b.1.getD j 0:=fun j hj=>by
    rcases Nat.lt_or_ge j i with h5 | h5
    ·exact hall j h5
    ·obtain rfl:j=i:=by omega
     exact hn
   refine⟨i+1,⟨?_,hall'⟩,zO,?_⟩
   ·rcases Nat.lt_or_ge (i+1) 32 with h6 | h6
    ·exact h6
    ·exact absurd (QZ5 fun j hj=>hall' j (by omega)) h
   refine Ent.freezeN 0 [] [] ?_ ?_ rfl rfl rfl (by decide) rfl rfl
   ·exact zC
   ·exact zC
  ·(have X1:=g1;have X2:=g2;have X3:=@List.getElem?_drop.{0};refine zS3 ?_;clear X1 X2 X3)
   rw [QaX hi1 hall hn]
def cmpH (a b:Hs):Int:=if a=b then 0 else if hlt a b=true then -1 else 1
theorem QUV (a b:Hs):QE Tryz.prog [] 119 [.agg (hcell a),.agg (hcell b)] (.v (.int .i64 (cmpH a b))):=by
 refine QE.start Tryz.func119 rfl (by kernel_rfl) rfl Tryz.ntmps119 fol (by kernel_rfl) (by simp [idfL,idf,QS]) rfl ?_
 refine zZ ?_
 refine⟨fun h=>?_,fun h=>?_⟩
 ·(have X1:=@cmpH.eq_1;refine zS1 ?_;clear X1)
  rw [if_pos h]
 ·refine zS ?_
  refine (QaK a b).useV ?_
  rw [cmpH,if_neg h]
  cases e:hlt a b<;>simp (maxSteps:=400000) (disch:=first | omega | exact okT rfl | simp only [push_cast]) only [push_cast,↓QG,↓reduceIte,Nat.reduceAdd,Nat.reduceMul,Nat.reduceSub,Nat.reduceEqDiff,Nat.reduceBEq,Nat.reduceBNe,Nat.reduceLT,Nat.reduceLeDiff,reduceCtorEq,Op.operands,QA,QB,Nat.sub_zero]
open Proofs
theorem QCo {l:List Hs} {i:Nat} (hi:i<l.length) {x:Hs}:x∈l.take (i+1)↔x∈l.take i∨x=l[i]:=by
 rw [List.take_succ_eq_append_getElem hi];simp only [List.mem_append,List.mem_singleton]
theorem srt_nil:srt []=[]:=rfl
theorem QaW (l:List Hs) (hl:l.length≤1048576) (h:Hs):QE Tryz.prog [] 97 [.seq l.length 32 (flat hcell l),.agg (hcell h)] (.v (.bool (decide (h∈l)))):=by
 refine QE.start Tryz.func97 rfl (by kernel_rfl) rfl Tryz.ntmps97 fol (by kernel_rfl) (by simp [idfL,idf,QZ QS,QS]) (by simp [idf,idfL,QZ QS]) ?_
 refine zZ ?_
 refine QD (ι:=Nat) (fun i=>⟨[(0,.seq l.length 32 (flat hcell l)),(3,.rop (hcell h)),(5,.v (.int .i64 i))],⟨[],0,0,0⟩⟩) (fun i=>i≤l.length∧h∉l.take i) (fun i=>l.length - i) 0 ⟨Nat.zero_le _,by simp⟩ ?_ ?_
 ·refine Ent.freezeN 0 [] [] ?_ ?_ rfl rfl rfl (by decide) rfl rfl
  ·exact zC
  ·exact zC
 rintro i ⟨hi,hall⟩
 refine zS ?_
 refine⟨fun h1=>?_,fun h1=>?_⟩
 ·have hi1:i<l.length:=by omega
  refine zS ?_
  refine⟨fun h2=>?_,fun h2=>?_⟩
  ·refine zS ?_
   rw [decide_eq_true (show h∈l from h2▸List.getElem_mem hi1)]
  ·refine zS ?_
   refine⟨i+1,⟨by omega,fun hm=>?_⟩,zO,?_⟩
   ·rcases (QCo hi1).1 hm with e | e
    ·exact hall e
    ·exact h2 e.symm
   refine Ent.freezeN 0 [] [] ?_ ?_ rfl rfl rfl (by decide) rfl rfl
   ·exact zC
   ·exact zC
 ·refine zS ?_
  rw [List.take_of_length_le (by omega)] at hall
  rw [decide_eq_false hall]
theorem QMp (l:List Hs) (hl:l.length≤1048576) (h:Hs):QE Tryz.prog [] 102 [.seq l.length 32 (flat hcell l),.agg (hcell h)] (.seq (insH h l).length 32 (flat hcell (insH h l))):=by
 refine QE.start Tryz.func102 rfl (by kernel_rfl) rfl Tryz.ntmps102 fol (by kernel_rfl) (by simp [idfL,idf,QZ QS,QS]) (by simp [idf,idfL,QZ QS]) ?_
 refine zZ ?_
 refine QD (ι:=Nat) (fun i=>⟨[(0,.seq l.length 32 (flat hcell l)),(3,.rop (hcell h)),(5,.v (.int .i64 i))],⟨[],0,0,0⟩⟩) (fun i=>i≤l.length∧∀a∈l.take i,hlt a h=true) (fun i=>l.length - i) 0 ⟨Nat.zero_le _,by simp⟩ ?_ ?_
 ·refine Ent.freezeN 0 [] [] ?_ ?_ rfl rfl rfl (by decide) rfl rfl
  ·exact zC
  ·exact zC
 rintro i ⟨hi,hall⟩
 refine zS ?_
 refine⟨fun h1=>?_,fun h1=>?_⟩
 ·have hi1:i<l.length:=by omega
  refine zS ?_
  refine QO.useV (QMc l[i] h) rfl ?_
  cases e:hlt l[i] h
  ·refine zS ?_
   refine⟨fun _=>?_,fun h2=>absurd h1 h2⟩
   refine zS ?_
   refine⟨fun h3=>?_,fun h3=>?_⟩
   ·refine zS ?_
    rw [QH6 hall hi1 h3]
   ·have hn:insH h l=l.take i++h::l.drop i:=QJN hall hi (fun _=>⟨e,h3⟩)
    have hcat:flat hcell (l.take i)++(hcell h++flat hcell (l.drop i))=flat hcell (insH h l):=by rw [hn,QE6,Q4]
    have hlen:i+1+(l.length - i)=(insH h l).length:=by rw [hn,List.length_append,List.length_cons,List.length_take,List.length_drop];omega
    have hal:(l.drop i).take (l.length - i)=l.drop i:=List.take_of_length_le (by rw [List.length_drop];exact Nat.le_refl _)
    have hl2:(insH h l).length*32≤min i l.length*32+(32+min (l.length - i) (l.drop i).length*32):=by rw [←hlen,List.length_drop];omega
    have hal2:=QLW (Nat.le_refl (insH h l).length)
    simp (maxSteps:=400000) (disch:=first | omega | exact okT rfl | simp only [push_cast]) only [push_cast,↓QG,↓reduceIte,Nat.reduceAdd,Nat.reduceMul,Nat.reduceSub,Nat.reduceEqDiff,Nat.reduceBEq,Nat.reduceBNe,Nat.reduceLT,Nat.reduceLeDiff,reduceCtorEq,Op.operands,QA,QB,Nat.sub_zero,hal2,hl2,Nat.sub_zero,QGz,QNQ,hal,hcat,hlen,List.append_assoc]
  ·refine zS ?_
   refine⟨i+1,⟨by omega,fun a ha=>?_⟩,zO,?_⟩
   ·rcases (QCo hi1).1 ha with e1 | e1
    ·exact hall a e1
    ·rw [e1];exact e
   refine Ent.freezeN 0 [] [] ?_ ?_ rfl rfl rfl (by decide) rfl rfl
   ·exact zC
   ·exact zC
 ·obtain rfl:i=l.length:=by omega
  have hn:insH h l=l++[h]:=by rw [QJN hall hi fun hk=>absurd hk (by omega),List.take_length,List.drop_length]
  have hcat:flat hcell l++hcell h=flat hcell (insH h l):=by rw [hn,←Q4];simp [flat]
  have hlen:l.length+1=(insH h l).length:=by rw [hn];simp
  have hal2:=QLW (Nat.le_refl (insH h l).length)
  refine zS ?_
  refine⟨fun h2=>absurd h2 h1,fun _=>?_⟩
  (have X1:=@Nat.sub_zero;have X2:=hcat;have X3:=hlen;have X4:=@Nat.sub_self;have X5:=@List.drop_length.{0};have X6:=@List.take_length.{0};have X7:=hal2;exact zC7)
theorem QSJ (l:List Hs) (hl:l.length≤1048576):QE Tryz.prog [] 96 [.seq l.length 32 (flat hcell l)] (.seq (srt l).length 32 (flat hcell (srt l))):=by
 refine QE.start Tryz.func96 rfl (by kernel_rfl) rfl Tryz.ntmps96 fol (by kernel_rfl) (by simp [idfL,idf,QZ QS,QS]) (by simp [idf,idfL,QZ QS]) ?_
 refine zZ ?_
 refine QD (ι:=Nat) (fun i=>⟨[(0,.seq l.length 32 (flat hcell l)),(3,.seq (srt (l.take i)).length 32 (flat hcell (srt (l.take i)))),(4,.v (.int .i64 i))],⟨[],0,0,0⟩⟩) (fun i=>i≤l.length) (fun i=>l.length - i) 0 (Nat.zero_le _) ?_ ?_
 ·refine Ent.freezeN 0 [] [] ?_ ?_ rfl rfl rfl (by decide) rfl rfl
  ·(have X1:=@List.take_zero.{0};have X2:=@srt_nil;have X3:=@QOx;exact zC3)
  ·exact zC
 rintro i hi
 refine zS ?_
 refine⟨fun h1=>?_,fun h1=>?_⟩
 ·have hi1:i<l.length:=by omega
  have hle:(srt (l.take i)).length≤1048576:=Nat.le_trans (QAp _) (by simp;omega)
  refine zS ?_
  refine (QMp _ hle l[i]).useV ?_
  refine zS ?_
  refine⟨i+1,by omega,zO,?_⟩
  have hs:srt (l.take (i+1))=insH l[i] (srt (l.take i)):=by rw [List.take_succ_eq_append_getElem hi1,QOe]
  simp only [hs]
  refine Ent.freezeN 0 [] [] ?_ ?_ rfl rfl rfl (by decide) rfl rfl
  ·exact zC
  ·exact zC
 ·exact zC
theorem QLc (l:List Hs) (hl:l.length≤1048576):QE Tryz.prog [] 190 [.seq l.length 32 (flat hcell l)] (.v (.bool (QDw l))):=by
 refine QE.start Tryz.func190 rfl (by kernel_rfl) rfl Tryz.ntmps190 fol (by kernel_rfl) (by simp [idfL,idf,QZ QS,QS]) (by simp [idf,idfL,QZ QS]) ?_
 refine zZ ?_
 refine QD (ι:=Nat) (fun i=>⟨[(0,.seq l.length 32 (flat hcell l)),(3,.v (.int .i64 i))],⟨[],0,0,0⟩⟩) (fun i=>1≤i∧∀j,1≤j→j<i→∀h2:j<l.length,hlt (l[j - 1]'(by omega)) l[j]=true) (fun i=>l.length - i) 1 ⟨Nat.le_refl _,fun j h1 h2=>by omega⟩ ?_ ?_
 ·refine Ent.freezeN 0 [] [] ?_ ?_ rfl rfl rfl (by decide) rfl rfl
  ·first | exact zC | refine zS ?_
   rfl
  ·exact zC
 rintro i ⟨hi,hall⟩
 refine zS ?_
 refine⟨fun h1=>?_,fun h1=>?_⟩
 ·have hi1:i<l.length:=by omega
  have e1:((i:Int) - 1)=((i - 1:Nat):Int):=by omega
  refine zS ?_
  have e1:((i:Int) - 1).toNat=i - 1:=by omega
  simp only [e1]
  have hr:=QMc (l[i - 1]'(by omega)) l[i]
  refine QO.useV hr rfl ?_
  cases e:hlt (l[i - 1]'(by omega)) l[i]
  ·refine zS ?_
   rw [QJ0 hi hi1 e]
  ·refine zS ?_
   refine⟨i+1,⟨by omega,fun j h2 h3 h4=>?_⟩,zO,?_⟩
   ·rcases Nat.lt_or_ge j i with h5 | h5
    ·exact hall j h2 h5 h4
    ·obtain rfl:j=i:=by omega
     exact e
   refine Ent.freezeN 0 [] [] ?_ ?_ rfl rfl rfl (by decide) rfl rfl
   ·exact zC
   ·exact zC
 ·refine zS ?_
  rw [QJz fun j h2 h3=>hall j h2 (by omega) h3]
theorem QSD (l:List Hs) (hl:l.length≤1048576) (m:List Hs) (hm:m.length≤1048576):QE Tryz.prog [] 42 [.seq l.length 32 (flat hcell l),.seq m.length 32 (flat hcell m)] (.v (.bool (decide (l=m)))):=by
 refine QE.start Tryz.func42 rfl (by kernel_rfl) rfl Tryz.ntmps42 fol (by kernel_rfl) (by simp [idfL,idf,QZ QS,QS]) (by simp [idf,idfL,QZ QS]) ?_
 refine zZ ?_
 refine⟨fun h=>?_,fun h=>?_⟩
 ·refine zS ?_
  rw [decide_eq_false (fun e=>by subst e;omega)]
 ·refine zS ?_
  refine QD (ι:=Nat) (fun i=>⟨[(0,.seq l.length 32 (flat hcell l)),(1,.seq m.length 32 (flat hcell m)),(5,.v (.int .i64 i))],⟨[],0,0,0⟩⟩) (fun i=>i≤l.length∧l.take i=m.take i) (fun i=>l.length - i) 0 ⟨Nat.zero_le _,by simp⟩ ?_ ?_
  ·refine Ent.freezeN 0 [] [] ?_ ?_ rfl rfl rfl (by decide) rfl rfl
   ·exact zC
   ·exact zC
  rintro i ⟨hi,hall⟩
  refine zS ?_
  refine⟨fun h1=>?_,fun h1=>?_⟩
  ·have hi1:i<l.length:=by omega
   have hi2:i<m.length:=by omega
   refine zS ?_
   refine⟨fun h2=>?_,fun h2=>?_⟩
   ·refine zS ?_
    rw [decide_eq_false (fun e=>by subst e;exact h2 rfl)]
   ·refine zS ?_
    refine⟨i+1,⟨by omega,by rw [List.take_succ_eq_append_getElem hi1,List.take_succ_eq_append_getElem hi2,hall,h2]⟩,zO,?_⟩
    refine Ent.freezeN 0 [] [] ?_ ?_ rfl rfl rfl (by decide) rfl rfl
    ·exact zC
    ·exact zC
  ·refine zS ?_
   rw [List.take_of_length_le (by omega),List.take_of_length_le (by omega)] at hall
   rw [decide_eq_true hall]
open Proofs
def uniH (l m:List Hs):List Hs:=m.foldl (fun a x=>insH x a) (srt l)
theorem QIc (l m:List Hs):uniH l m=srt (l++m):=by simp [uniH,srt]
theorem QTZ {l m:List Hs} {i:Nat} (hi:i<m.length):uniH l (m.take (i+1))=insH m[i] (uniH l (m.take i)):=by
 rw [uniH,List.take_succ_eq_append_getElem hi,List.foldl_append];rfl
theorem uniH_nil {l:List Hs}:uniH l []=srt l:=rfl
theorem QNx (l m:List Hs):(uniH l m).length≤l.length+m.length:=by rw [QIc];exact Nat.le_trans (QAp _) (by simp)
theorem QXB (l m:List Hs) (hl:l.length≤524288) (hm:m.length≤524288):QE Tryz.prog [] 98 [.seq l.length 32 (flat hcell l),.seq m.length 32 (flat hcell m)] (.seq (uniH l m).length 32 (flat hcell (uniH l m))):=by
 refine QE.start Tryz.func98 rfl (by kernel_rfl) rfl Tryz.ntmps98 fol (by kernel_rfl) zI zI ?_
 refine zZ ?_
 refine (QSJ l (by omega)).useV ?_
 refine zS ?_
 refine QD (ι:=Nat) (fun i=>⟨[(1,.seq m.length 32 (flat hcell m)),(5,.seq (uniH l (m.take i)).length 32 (flat hcell (uniH l (m.take i)))),(6,.v (.int .i64 i))],⟨[],0,0,0⟩⟩) (fun i=>i≤m.length) (fun i=>m.length - i) 0 (Nat.zero_le _) ?_ ?_
 ·(have X1:=@List.take_zero.{0};have X2:=@uniH_nil;exact fzN2 0 [] [])
 rintro i hi
 refine zS ?_
 refine⟨fun h1=>?_,fun h1=>?_⟩
 ·have hi1:i<m.length:=by omega
  have hle:(uniH l (m.take i)).length≤1048576:=Nat.le_trans (QNx _ _) (by simp;omega)
  refine zS ?_
  refine (QMp _ hle m[i]).useV ?_
  refine zS ?_
  refine⟨i+1,by omega,zO,?_⟩
  simp only [QTZ hi1]
  exact fzN 0 [] []
 ·exact zC
theorem QUC {p:Hs→Bool} {l:List Hs} {i:Nat} (hi:i<l.length):srt ((l.take (i+1)).filter p)=if p l[i]=true then insH l[i] (srt ((l.take i).filter p)) else srt ((l.take i).filter p):=by
 rw [List.take_succ_eq_append_getElem hi,List.filter_append]
 by_cases h:p l[i]=true
 ·rw [if_pos h,List.filter_cons_of_pos h,List.filter_nil,QOe]
 ·rw [if_neg h,List.filter_cons_of_neg h,List.filter_nil,List.append_nil]
theorem QV3 {p:Hs→Bool} {l:List Hs}:(srt (l.filter p)).length≤l.length:=Nat.le_trans (QAp _) (List.length_filter_le _ _)
def minH (l m:List Hs):List Hs:=srt (l.filter fun x=>!decide (x∈m))
theorem QO7 (l:List Hs) (hl:l.length≤1048576):QE Tryz.prog [] 50 [.seq l.length 32 (flat hcell l)] (.v (.bool (QDw l))):=by
 refine QE.start Tryz.func50 rfl (by kernel_rfl) rfl Tryz.ntmps50 fol (by kernel_rfl) zI zI ?_
 refine zZ ?_
 refine QD (ι:=Nat) (fun i=>⟨[(0,.seq l.length 32 (flat hcell l)),(3,.v (.int .i64 i))],⟨[],0,0,0⟩⟩) (fun i=>1≤i∧∀j,1≤j→j<i→∀h2:j<l.length,hlt (l[j - 1]'(by omega)) l[j]=true) (fun i=>l.length - i) 1 ⟨Nat.le_refl _,fun j h1 h2=>by omega⟩ ?_ ?_
 ·refine fzNM 0 [] [] ?_ ?_<;>first | exact zC | refine zS ?_
  rfl
 rintro i ⟨hi,hall⟩
 refine zS ?_
 refine⟨fun h1=>?_,fun h1=>?_⟩
 ·have hi1:i<l.length:=by omega
  refine zS ?_
  have e1:((i:Int) - 1).toNat=i - 1:=by omega
  simp only [e1]
  have hr:=QaK (l[i - 1]'(by omega)) l[i]
  refine QO.useV hr rfl ?_
  cases e:hlt (l[i - 1]'(by omega)) l[i]
  ·refine zS ?_
   rw [QJ0 hi hi1 e]
  ·refine zS ?_
   refine⟨i+1,⟨by omega,fun j h2 h3 h4=>?_⟩,zO,?_⟩
   ·rcases Nat.lt_or_ge j i with h5 | h5
    ·exact hall j h2 h5 h4
    ·obtain rfl:j=i:=by omega
     exact e
   exact fzN 0 [] []
 ·refine zS ?_
  rw [QJz fun j h2 h3=>hall j h2 (by omega) h3]
theorem Qbj (l m:List Hs) (hl:l.length≤1048576) (hm:m.length≤1048576):QE Tryz.prog [] 72 [.seq l.length 32 (flat hcell l),.seq m.length 32 (flat hcell m)] (.v (.bool (decide (l=m)))):=by
 refine QE.start Tryz.func72 rfl (by kernel_rfl) rfl Tryz.ntmps72 fol (by kernel_rfl) zI zI ?_
 refine zZ ?_
 refine⟨fun h=>?_,fun h=>?_⟩
 ·refine zS ?_
  rw [decide_eq_false (fun e=>by subst e;omega)]
 ·refine zS ?_
  refine QD (ι:=Nat) (fun i=>⟨[(0,.seq l.length 32 (flat hcell l)),(1,.seq m.length 32 (flat hcell m)),(11,.seq l.length 32 (flat hcell l)),(12,.v (.int .i64 l.length)),(13,.v (.int .i64 i))],⟨[],0,0,0⟩⟩) (fun i=>i≤l.length∧l.take i=m.take i) (fun i=>l.length - i) 0 ⟨Nat.zero_le _,by simp⟩ ?_ ?_
  ·exact fzN 0 [] []
  rintro i ⟨hi,hall⟩
  refine zS ?_
  refine⟨fun h1=>?_,fun h1=>?_⟩
  ·have hi1:i<l.length:=by omega
   have hi2:i<m.length:=by omega
   refine zS ?_
   refine⟨fun h2=>?_,fun h2=>?_⟩
   ·refine zS ?_
    rw [decide_eq_false (fun e=>by subst e;exact h2 rfl)]
   ·refine zS ?_
    refine⟨i+1,⟨by omega,by rw [List.take_succ_eq_append_getElem hi1,List.take_succ_eq_append_getElem hi2,hall,h2]⟩,zO,?_⟩
    exact fzN 0 [] []
  ·refine zS ?_
   rw [List.take_of_length_le (by omega),List.take_of_length_le (by omega)] at hall
   rw [decide_eq_true hall]
theorem QaC (l m:List Hs) (hl:l.length≤1048576) (hm:m.length≤1048576):QE Tryz.prog [] 22 [.seq l.length 32 (flat hcell l),.seq m.length 32 (flat hcell m)] (.v (.bool (decide (l=m)))):=by
 refine QE.start Tryz.func22 rfl (by kernel_rfl) rfl Tryz.ntmps22 fol (by kernel_rfl) zI zI ?_
 refine zZ ?_
 refine (Qbj l m hl hm).useV ?_
 exact zC
theorem QUE {h:Hs}:∀{l:List Hs} {i:Nat},h∉l.take i→(hi:i<l.length)→l[i]=h→l.idxOf h=i
 | [],_,_,hi,_=>by simp at hi
 | a::l,0,_,_,e=>by
  simp only [List.getElem_cons_zero] at e
  rw [List.idxOf_cons,e];simp
 | a::l,i+1,hn,hi,e=>by
  simp only [List.take_succ_cons,List.mem_cons,not_or] at hn
  have hi':i<l.length:=by simpa using hi
  have hne:¬(a==h)=true:=fun e=>hn.1 (eq_of_beq e).symm
  rw [List.idxOf_cons,QUE hn.2 hi' (by simpa using e)]
  simp only [hne];rfl
open Proofs
theorem QGw (n:Nat) (hn:n<18446744073709551616):POwn Tryz.prog [] 182 [.v (.int .u64 n)] (lebU n).length 1 5 (flat QC (lebU n)):=by
 refine POwn.start Tryz.func182 rfl (by kernel_rfl) rfl Tryz.ntmps182 fol (by kernel_rfl) zI (by simp [QQ]) ?_
 refine zZ ?_
 have hlen:(lebU n).length≤10:=QAA hn
 refine QD (ι:=List UInt8×Nat) (fun i=>⟨[(0,.v (.int .u64 i.2)),(3,.sl 0 0 i.1.length 1)],⟨[(0,.cells 5 (flat QC i.1) true)],1,1,0⟩⟩) (fun i=>i.1++lebU i.2=lebU n∧i.2<18446744073709551616) (fun i=>i.2) ([],n) ⟨rfl,hn⟩ ?_ ?_
 ·exact fzN 0 [] []
 rintro⟨acc,m⟩ ⟨hi,hm⟩
 simp only at hi hm
 have hl:acc.length≤10:=by
  have:=congrArg List.length hi
  simp only [List.length_append] at this
  omega
 refine zS ?_
 refine⟨fun h=>?_,fun h=>?_⟩
 ·(have X1:=@U8_or128;refine zS1 ?_;clear X1)
  refine⟨(acc++[UInt8.ofNat m|||128],m / 128),⟨?_,?_⟩,?_,?_⟩
  ·rw [←hi,lebU.eq_1 m,if_neg (by omega)];simp
  ·show m / 128<_;omega
  ·show m / 128<m;omega
  ·(have X1:=@List.length_append.{0};have X2:=@List.length_cons.{0};have X3:=@List.length_nil.{0};refine fzNM 0 [(0,33)] [] ?_ ?_<;>first | exact zC3 | refine zS3 ?_)
   rfl
 ·have he:acc++[UInt8.ofNat m]=lebU n:=by rw [←hi,lebU.eq_1 m,if_pos (by omega)]
  have hlen:(lebU n).length=acc.length+1:=by rw [←he];simp
  (have X1:=he;have X2:=hlen;refine zS2 ?_;clear X1 X2)
  exact fzN 0 [(0,40)] []
theorem QIn (n:Nat) (h:n<18446744073709551616):PNew Tryz.prog [] 182 [.v (.int .u64 n)] (.seq (lebU n).length 1 (flat QC (lebU n))):=(QGw n h).toNew (by rw [QH,Nat.mul_one])
theorem rInt_o (n:Int) (h1:-9223372036854775808≤n) (h2:n<9223372036854775808):POwn Tryz.prog [] 248 [.v (.int .i64 n)] (lebS n).length 1 5 (flat QC (lebS n)):=by
 refine POwn.start Tryz.func248 rfl (by kernel_rfl) rfl Tryz.ntmps248 fol (by kernel_rfl) zI (by simp [QQ]) ?_
 refine zZ ?_
 have hlen:(lebS n).length≤10:=QCm 9 n (by omega) (by omega)
 refine QD (ι:=List UInt8×Int) (fun i=>⟨[(0,.v (.int .i64 i.2)),(3,.sl 0 0 i.1.length 1)],⟨[(0,.cells 5 (flat QC i.1) true)],1,1,0⟩⟩) (fun i=>i.1++lebS i.2=lebS n) (fun i=>i.2.natAbs) ([],n) rfl ?_ ?_
 ·exact fzN 0 [] []
 rintro⟨acc,m⟩ hi
 simp only at hi
 have hl:acc.length≤10:=by
  have:=congrArg List.length hi
  simp only [List.length_append] at this
  omega
 have go:¬(-64≤m∧m≤63)→(acc++[U8 m|||128])++lebS (m / 128)=lebS n:=fun ha=>by rw [←hi,lebS.eq_1 m,dif_neg ha];simp
 refine zS ?_
 refine⟨fun h=>?_,fun h=>?_⟩
 ·refine zS ?_
  refine⟨fun h'=>?_,fun h'=>?_⟩
  ·(have X1:=@U8_or128;have X2:=@pbin_shrI;refine zS2 ?_;clear X1 X2)
   refine⟨(acc++[U8 m|||128],m / 128),go (by omega),?_,?_⟩
   ·show (m / 128).natAbs<m.natAbs;omega
   ·(have X1:=@List.length_append.{0};have X2:=@List.length_cons.{0};have X3:=@List.length_nil.{0};exact fzN3 0 [(0,42)] [])
  ·have he:acc++[U8 m&&&~~~128]=lebS n:=by rw [←hi,lebS.eq_1 m,dif_pos (by omega)]
   have hlen:(lebS n).length=acc.length+1:=by rw [←he];simp
   (have X1:=@U8_low;have X2:=he;have X3:=hlen;refine zS3 ?_;clear X1 X2 X3)
   exact fzN 0 [(0,50)] []
 ·(have X1:=@U8_or128;have X2:=@pbin_shrI;refine zS2 ?_;clear X1 X2)
  refine⟨(acc++[U8 m|||128],m / 128),go (by omega),?_,?_⟩
  ·show (m / 128).natAbs<m.natAbs;omega
  ·(have X1:=@List.length_append.{0};have X2:=@List.length_cons.{0};have X3:=@List.length_nil.{0};exact fzN3 0 [(0,42)] [])
theorem QaE (n:Int) (h1:-9223372036854775808≤n) (h2:n<9223372036854775808):PNew Tryz.prog [] 248 [.v (.int .i64 n)] (.seq (lebS n).length 1 (flat QC (lebS n))):=(rInt_o n h1 h2).toNew (by rw [QH,Nat.mul_one])
theorem QGR (s:ByteArray) (h:s.size≤70000000000000):POwn Tryz.prog [] 192 [.v (.string s)] (lebT s.data.toList).length 1 5 (flat QC (lebT s.data.toList)):=by
 refine POwn.start Tryz.func192 rfl (by kernel_rfl) rfl Tryz.ntmps192 fol (by kernel_rfl) zI (by simp [QQ]) ?_
 refine zZ ?_
 have hl:=QAA (n:=s.size) (by omega)
 have hs:s.data.toList.length=s.size:=by rw [Array.length_toList];rfl
 have ht:(lebT s.data.toList).length=(lebU s.size).length+s.size:=by rw [lebT,List.length_append,hs]
 have ha:flat QC (lebT s.data.toList)=flat QC (lebU s.size)++flat QC s.data.toList:=by rw [lebT,hs,QBD]
 have hsr:∀f,srcS f 1 (.v (.string s))=some (s.size,flat QC s.data.toList):=fun f=>by rw [←QDN];rfl
 refine POwn.useV (QGw s.size (by omega)) ?_
 (have X1:=hsr;have X2:=ht;have X3:=ha;refine zS3 ?_;clear X1 X2 X3)
 (have X1:=ht;have X2:=ha;have X3:=hs;exact fzN3 0 [(0,17)] [])
theorem QdO (s:ByteArray) (h:s.size≤70000000000000):PNew Tryz.prog [] 192 [.v (.string s)] (.seq (lebT s.data.toList).length 1 (flat QC (lebT s.data.toList))):=(QGR s h).toNew (by rw [QH,Nat.mul_one])
end Go.AW
