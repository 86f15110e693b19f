/- A part of the proof: D16 D17 D18 D19 D20. -/
import Derived.Test.YtpcbnjbpdooejaaGreatDoorPae
import Derived.Test.YtpcbnjbpdooejaaGreatDoorPah
import Derived.Test.YtpcbnjbpdooejaaGreatDoorPaf
set_option linter.unusedSimpArgs false
set_option linter.unusedVariables false
set_option maxRecDepth 100000
set_option maxHeartbeats 8000000
namespace Go.AW
open Proofs
set_option maxHeartbeats 4000000
def orI (a b:Int):Int:=IntKind.i64.wrap ((BitVec.ofInt 64 a|||BitVec.ofInt 64 b).toNat:Nat)
def shlI (a:Int) (s:Nat):Int:=IntKind.i64.wrap (a*2^s)
theorem QN2 {P:Program} {t:TypeId} {x y:Operand} {a b:Int}:pbin P .or t x y (.int .i64 a) (.int .i64 b)=some (.int .i64 (orI a b)):=rfl
def getI (i:Nat) (n:Int) (p:UInt8):List UInt8→Int×Nat×Nat
 | []=>(0,0,3)
 | x::l=>if i=9∧x.toNat≠0∧x.toNat≠127 then (0,0,4) else
  if 128≤x.toNat then getI (i+1) (orI n (shlI (x&&&~~~128).toNat (7*i))) x l else
  if 0<i∧(x.toNat=0∧(p&&&64).toNat=0∨x.toNat=127∧(p&&&64).toNat≠0) then (0,0,4) else
  (if (x&&&64).toNat≠0∧i<9 then orI (orI n (shlI (x&&&~~~128).toNat (7*i))) (shlI (-1) (7*(i+1))) else orI n (shlI (x&&&~~~128).toNat (7*i)),i+1,0)
def giR (q:Int×Nat×Nat):AV:=.tup [.v (.int .i64 q.1),.v (.int .i64 q.2.1),.v (.int .i64 q.2.2)]
theorem QKj (b:List UInt8) (hb:b.length≤1152921504606846976):QE Tryz.prog [] 214 [.seq b.length 1 (flat QC b)] (giR (getI 0 0 0 b)):=by
 refine QE.start Tryz.func214 rfl zK rfl Tryz.ntmps214 fol zK (by simp [idfL,idf,Qg]) (by simp [giR,idfL,idf]) ?_
 refine zZ ?_
 refine QD (ι:=Nat×Int×UInt8) (fun q=>⟨[(0,.seq b.length 1 (flat QC b)),(2,.v (.int .i64 q.2.1)),(9,.seq b.length 1 (flat QC b)),(10,.v (.int .i64 b.length)),(11,.v (.int .i64 q.1))],⟨[],0,0,0⟩⟩)
  (fun q=>q.1≤b.length∧q.1≤9∧(0<q.1→b[q.1 - 1]?=some q.2.2)∧getI q.1 q.2.1 q.2.2 (b.drop q.1)=getI 0 0 0 b) (fun q=>b.length - q.1) (0,0,0) ⟨Nat.zero_le _,by decide,fun h=>absurd h zD,rfl⟩ ?_ ?_
 ·refine Ent.freezeN 0 [] [] ?_ ?_ rfl rfl rfl zD rfl rfl
  ·exact zC
  ·exact zC
 rintro⟨i,n,p⟩ ⟨h1,h2,h4,h3⟩
 simp only at h1 h2 h3 h4
 rw [←h3]
 refine zS ?_
 refine⟨fun h=>?_,fun h=>?_⟩
 ·have hi:i<b.length:=by omega
  obtain⟨x,l,hx⟩:∃x l,b.drop i=x::l:=⟨_,_,List.drop_eq_getElem_cons hi⟩
  have hg:(List.drop i (flat QC b))[0]?=some (.v (.int .u8 x.toNat)):=by
   rw [show List.drop i (flat QC b)=flat QC (b.drop i) from QL,hx];rfl
  have hx8:=x.toNat_lt
  have hl:b.drop (i+1)=l:=by
   have:=congrArg List.tail hx
   rwa [List.tail_drop,List.tail_cons] at this
  rw [hx,getI]
  have hsh:∀(u v:Operand) (a:Int),pbin Tryz.prog .shl 2 u v (.int .i64 a) (.int .u64 (7*(i:Int)))=some (.int .i64 (shlI a (7*i))):=fun u v a=>by
   have e:pbin Tryz.prog .shl 2 u v (.int .i64 a) (.int .u64 (7*(i:Int)))=prun Tryz.prog (Op.shift .shl .i64 a .u64 (7*(i:Int))):=rfl
   rw [e]
   unfold Op.shift
   rw [if_neg zo]
   show some (Value.int .i64 (IntKind.i64.wrap (a*2^(min (7*(i:Int)).toNat 64))))=_
   rw [show min (7*(i:Int)).toNat 64=7*i by omega]
   rfl
  have hs2:∀(u v:Operand) (a:Int),7*((i:Int)+1)<64→pbin Tryz.prog .shl 2 u v (.int .i64 a) (.int .u64 (7*((i:Int)+1)))=some (.int .i64 (shlI a (7*(i+1)))):=fun u v a hlt=>by
   have e:pbin Tryz.prog .shl 2 u v (.int .i64 a) (.int .u64 (7*((i:Int)+1)))=prun Tryz.prog (Op.shift .shl .i64 a .u64 (7*((i:Int)+1))):=rfl
   rw [e]
   unfold Op.shift
   rw [if_neg zo]
   show some (Value.int .i64 (IntKind.i64.wrap (a*2^(min (7*((i:Int)+1)).toNat 64))))=_
   rw [show min (7*((i:Int)+1)).toNat 64=7*(i+1) by omega]
   rfl
  have hwr:IntKind.i64.wrap (((x&&&~~~128).toNat:Nat):Int)=((x&&&~~~128).toNat:Nat):=QAN zo (by have:=(x&&&~~~128).toNat_lt;omega)
  have hgp:0<i→(List.drop ((i:Int) - 1).toNat (flat QC b))[0]?=some (.v (.int .u8 p.toNat)):=fun h0=>by
   have e:=h4 h0
   rw [show ((i:Int) - 1).toNat=i - 1 by omega,show List.drop (i - 1) (flat QC b)=flat QC (b.drop (i - 1)) from QL,List.drop_eq_getElem_cons (show i - 1<b.length by omega)]
   rw [List.getElem?_eq_getElem (show i - 1<b.length by omega)] at e
   injection e with e
   rw [e];rfl
  obtain⟨v,hv⟩:∃v,v=orI n (shlI (x&&&~~~128).toNat (7*i)):=⟨_,rfl⟩
  rw [←hv]
  obtain⟨r,hr⟩:∃r,r=(if i=9∧x.toNat≠0∧x.toNat≠127 then ((0:Int),0,4) else
  if 128≤x.toNat then getI (i+1) v x l else
  if 0<i∧(x.toNat=0∧(p&&&64).toNat=0∨x.toNat=127∧(p&&&64).toNat≠0) then (0,0,4) else
  (if (x&&&64).toNat≠0∧i<9 then orI v (shlI (-1) (7*(i+1))) else v,i+1,0)):=⟨_,rfl⟩
  rw [←hr]
  (have X1:=hg;have X2:=@QN2;have X3:=hsh;have X4:=hwr;have X5:=(hv).symm;have X6:=hgp;have X7:=hs2;refine zS7 ?_;clear X1 X2 X3 X4 X5 X6 X7)
  iterate 14 all_goals (try (refine And.intro (fun _=>?_) (fun _=>?_)<;>try (have X1:=hg;have X2:=@QN2;have X3:=hsh;have X4:=hwr;have X5:=(hv).symm;have X6:=hgp;have X7:=hs2;first | exact zC7 | (refine zS7 ?_;clear X1 X2 X3 X4 X5 X6 X7))))
  all_goals first
   | (exfalso;omega)
   | (
     have hr':r=(0,0,4):=by rw [hr];iterate 5 (try first | rw [if_pos zo] | rw [if_neg zo])
     rw [hr'];(have X1:=@giR.eq_1;first | exact zC1 | (refine zS1 ?_;clear X1));done)
   | (
     have hr':r=(0,0,4):=by rw [hr];iterate 5 (try first | rw [if_pos zo] | rw [if_neg zo])
     rw [hr'];(have X1:=@giR.eq_1;first | exact zC1 | (refine zS1 ?_;clear X1));rfl)
   | (
     have hr':r=(v,i+1,0):=by rw [hr];iterate 5 (try first | rw [if_pos zo] | rw [if_neg zo])
     rw [hr'];(have X1:=@giR.eq_1;first | exact zC1 | (refine zS1 ?_;clear X1));done)
   | (
     have hr':r=(orI v (shlI (-1) (7*(i+1))),i+1,0):=by rw [hr];iterate 5 (try first | rw [if_pos zo] | rw [if_neg zo])
     rw [hr'];(have X1:=@giR.eq_1;first | exact zC1 | (refine zS1 ?_;clear X1));done)
   | (
     refine⟨(i+1,v,x),⟨zO,zO,fun _=>?_,?_⟩,zO,?_⟩
     ·show b[i+1 - 1]?=some x
      have:=List.getElem?_drop (xs:=b) (i:=i) (j:=0)
      rw [hx] at this
      simpa using this.symm
     ·show getI (i+1) _ x (b.drop (i+1))=_
      rw [hl,hr];iterate 5 (try first | rw [if_pos zo] | rw [if_neg zo])
     refine Ent.freezeN 0 [] [] ?_ ?_ rfl rfl rfl zD rfl rfl
     ·exact zC
     ·(first | exact zC | refine zS ?_))
 ·have hi:b.drop i=[]:=List.drop_eq_nil_of_le zo
  rw [hi,getI]
  (have X1:=@giR.eq_1;first | exact zC1 | refine zS1 ?_)
  rfl
open Proofs
def nch (n:Nat):Bool:=decide (97≤n∧n≤122∨65≤n∧n≤90∨48≤n∧n≤57∨n=46∨n=95∨n=45)
def chN (s:ByteArray) (j:Nat):Nat:=(s.data.toList.getD j 0).toNat
def QBP (s:ByteArray):Bool:=decide (∀j,j<s.size→nch (chN s j)=true)&&decide (1≤s.size∧s.size≤32)&&decide (s≠⟨#[45]⟩)
theorem QSZ {s:ByteArray} (h1:∀j,j<s.size→nch (chN s j)=true) (h2:1≤s.size) (h3:s.size≤32) (h4:s≠⟨#[45]⟩):QBP s=true:=by
 simp only [QBP,Bool.and_eq_true,decide_eq_true_eq];exact⟨⟨h1,h2,h3⟩,h4⟩
theorem QDG {s:ByteArray} (h:(∃j,j<s.size∧nch (chN s j)=false)∨s.size<1∨32<s.size∨s=⟨#[45]⟩):QBP s=false:=by
 cases e:QBP s with
 | false=>rfl
 | true=>
  simp only [QBP,Bool.and_eq_true,decide_eq_true_eq] at e
  obtain⟨⟨h1,h2,h3⟩,h4⟩:=e
  rcases h with ⟨j,h5,h6⟩ | h | h | h
  ·rw [h1 j h5] at h6;cases h6
  ·omega
  ·omega
  ·exact absurd h h4
theorem QTf (s:ByteArray) (h:s.size≤1048576):QE Tryz.prog [] 77 [.v (.string s)] (.v (.bool (QBP s))):=by
 refine QE.start Tryz.func77 rfl zK rfl Tryz.ntmps77 fol zK rfl rfl ?_
 refine zZ ?_
 refine⟨fun h1=>?_,fun h1=>?_⟩
 ·refine zS ?_
  refine⟨fun h2=>?_,fun h2=>?_⟩
  ·refine zS ?_
   refine⟨fun h3=>?_,fun h3=>?_⟩
   ·refine zS ?_
    rw [QDG (.inr (.inr (.inr h3)))]
   ·refine zS ?_
    refine QD (ι:=Nat) (fun i=>⟨[(0,.v (.string s)),(18,.v (.int .i64 s.size)),(19,.v (.int .i64 i))],⟨[],0,0,0⟩⟩) (fun i=>i≤s.size∧∀j,j<i→nch (chN s j)=true) (fun i=>s.size - i) 0 ⟨Nat.zero_le _,fun j hj=>absurd hj (Nat.not_lt_zero _)⟩ ?_ ?_
    ·refine Ent.freeze [] ?_ ?_ rfl rfl rfl
     ·exact zC
     ·exact zC
    intro i ⟨hi,hall⟩
    refine zS ?_
    refine⟨fun h4=>?_,fun h4=>?_⟩
    ·have hi1:i<s.size:=by omega
     refine zS ?_
     generalize hc:(s.data.toList.getD i 0).toNat=c
     have hcn:chN s i=c:=hc
     have good:(97≤c∧c≤122∨65≤c∧c≤90∨48≤c∧c≤57∨c=46∨c=95∨c=45)→∀j,j<i+1→nch (chN s j)=true:=fun hg j hj=>by
      rcases Nat.lt_or_ge j i with h5 | h5
      ·exact hall j h5
      ·obtain rfl:j=i:=by omega
       rw [hcn];exact decide_eq_true hg
     iterate 9 all_goals (try (refine⟨fun h=>?_,fun h=>?_⟩<;>(first | exact zC | refine zS ?_)))
     all_goals first
      | (rw [QDG (.inl ⟨i,hi1,by rw [hcn];exact decide_eq_false zo⟩)];done)
      | (
        refine⟨i+1,⟨zO,good zo⟩,zO,?_⟩
        refine Ent.freeze [] ?_ ?_ rfl rfl rfl
        ·exact zC
        ·(first | exact zC | refine zS ?_))
    ·refine zS ?_
     have hi1:i=s.size:=by omega
     subst hi1
     rw [QSZ hall zo zo h3]
  ·refine zS ?_
   rw [QDG (.inr (.inr (.inl zo)))]
 ·refine zS ?_
  rw [QDG (.inr (.inl zo))]
theorem QMy (s:ByteArray) (h:s.size≤1048576):QE Tryz.prog [] 103 [.v (.string s)] (.v (.bool (QBP s))):=by
 refine QE.start Tryz.func103 rfl zK rfl Tryz.ntmps103 fol zK rfl rfl ?_
 refine zZ ?_
 refine QD (ι:=Nat) (fun i=>⟨[(0,.v (.string s)),(3,.v (.int .i64 i))],⟨[],0,0,0⟩⟩) (fun i=>i≤s.size∧∀j,j<i→nch (chN s j)=true) (fun i=>s.size - i) 0 ⟨Nat.zero_le _,fun j hj=>absurd hj (Nat.not_lt_zero _)⟩ ?_ ?_
 ·refine Ent.freeze [] ?_ ?_ rfl rfl rfl
  ·exact zC
  ·exact zC
 intro i ⟨hi,hall⟩
 refine zS ?_
 refine⟨fun h4=>?_,fun h4=>?_⟩
 ·have hi1:i<s.size:=by omega
  refine zS ?_
  generalize hc:(s.data.toList.getD i 0).toNat=c
  have hcn:chN s i=c:=hc
  have good:(97≤c∧c≤122∨65≤c∧c≤90∨48≤c∧c≤57∨c=46∨c=95∨c=45)→∀j,j<i+1→nch (chN s j)=true:=fun hg j hj=>by
   rcases Nat.lt_or_ge j i with h5 | h5
   ·exact hall j h5
   ·obtain rfl:j=i:=by omega
    rw [hcn];exact decide_eq_true hg
  iterate 9 all_goals (try (refine⟨fun h=>?_,fun h=>?_⟩<;>(first | exact zC | refine zS ?_)))
  all_goals first
   | (rw [QDG (.inl ⟨i,hi1,by rw [hcn];exact decide_eq_false zo⟩)];done)
   | (
     refine⟨i+1,⟨zO,good zo⟩,zO,?_⟩
     refine Ent.freeze [] ?_ ?_ rfl rfl rfl
     ·exact zC
     ·(first | exact zC | refine zS ?_))
 ·have hi1:i=s.size:=by omega
  subst hi1
  refine zS ?_
  iterate 4 all_goals (try (refine⟨fun h=>?_,fun h=>?_⟩<;>(first | exact zC | refine zS ?_)))
  all_goals first
   | (rw [QDG (.inr (.inl zo))];done)
   | (rw [QDG (.inr (.inr (.inl zo)))];done)
   | (
     by_cases e:s=⟨#[45]⟩
     ·rw [QDG (.inr (.inr (.inr e)))];simp [e]
     ·rw [QSZ hall zo zo e];simp [e])
open Proofs
theorem QEz {a:Hs} {i:Nat} (h:i<32):(hcell a)[i]?=some (.v (.int .u8 (a.1.getD i 0))):=by
 have hl:i<a.1.length:=by rw [a.2];exact h
 simp only [hcell,List.getElem?_map,List.getElem?_eq_getElem hl,Option.map_some,List.getD_eq_getElem?_getD,Option.getD_some]
theorem QaM:∀(i:Nat) (l m:List Int),(∀j,j<i→l.getD j 0=m.getD j 0)→i<l.length→i<m.length→l.getD i 0≠m.getD i 0→ltL l m=decide (l.getD i 0<m.getD i 0)
 | _,[],_,_,h,_,_=>by simp at h
 | _,_::_,[],_,_,h,_=>by simp at h
 | 0,a::l,b::m,_,_,_,h=>by
  simp only [List.getD_cons_zero] at h ⊢
  rw [ltL,if_neg h]
 | i+1,a::l,b::m,h,h1,h2,h3=>by
  have e:a=b:=h 0 zo
  simp only [List.getD_cons_succ,List.length_cons] at*
  rw [ltL,if_pos e]
  exact QaM i l m (fun j hj=>by simpa using h (j+1) zo) zo zo h3
theorem QaX {a b:Hs} {i:Nat} (hi:i<32) (h:∀j,j<i→a.1.getD j 0=b.1.getD j 0) (hn:a.1.getD i 0≠b.1.getD i 0):hlt a b=decide (a.1.getD i 0<b.1.getD i 0):=
 QaM i _ _ h (by rw [a.2];exact hi) (by rw [b.2];exact hi) hn
theorem QZ5 {a b:Hs} (h:∀j,j<32→a.1.getD j 0=b.1.getD j 0):a=b:=Subtype.ext (List.ext_getElem (a.2.trans b.2.symm) fun j h1 h2=>by
 have:=h j (by rw [a.2] at h1;exact h1)
 rwa [List.getD_eq_getElem?_getD,List.getD_eq_getElem?_getD,List.getElem?_eq_getElem h1,List.getElem?_eq_getElem h2] at this)
theorem QdZ {h:Hs}:setL [.v (.int .u8 0),.v (.int .u8 0),.v (.int .u8 0),.v (.int .u8 0),.v (.int .u8 0),.v (.int .u8 0),.v (.int .u8 0),.v (.int .u8 0),.v (.int .u8 0),.v (.int .u8 0),.v (.int .u8 0),.v (.int .u8 0),.v (.int .u8 0),.v (.int .u8 0),.v (.int .u8 0),.v (.int .u8 0),.v (.int .u8 0),.v (.int .u8 0),.v (.int .u8 0),.v (.int .u8 0),.v (.int .u8 0),.v (.int .u8 0),.v (.int .u8 0),.v (.int .u8 0),.v (.int .u8 0),.v (.int .u8 0),.v (.int .u8 0),.v (.int .u8 0),.v (.int .u8 0),.v (.int .u8 0),.v (.int .u8 0),.v (.int .u8 0)] 0 (hcell h)=hcell h:=QAK (by rw [QK];rfl)
attribute [push_cast] QdZ
theorem QID {α:Type} {f:α→List AV} {sz:Nat} (hf:∀x,(f x).length=sz):∀{l:List α} {i:Nat},(flat f l).take (i*sz)=flat f (l.take i)
 | [],i=>by simp [flat]
 | x::l,0=>by simp [flat]
 | x::l,i+1=>by
  have:=QID hf (l:=l) (i:=i)
  simp only [flat,List.flatMap_cons,List.take_succ_cons] at*
  rw [Nat.add_mul,Nat.one_mul,List.take_append,hf,List.take_of_length_le (by rw [hf];omega),Nat.add_sub_cancel,this]
theorem QH9 {α:Type} {f:α→List AV} {sz:Nat} (hf:∀x,(f x).length=sz):∀{l:List α} {i:Nat},(flat f l).drop (i*sz)=flat f (l.drop i)
 | [],i=>by simp [flat]
 | x::l,0=>by simp [flat]
 | x::l,i+1=>by
  have:=QH9 hf (l:=l) (i:=i)
  simp only [flat,List.flatMap_cons,List.drop_succ_cons] at*
  rw [Nat.add_mul,Nat.one_mul,List.drop_append,hf,List.drop_of_length_le (by rw [hf];omega),Nat.add_sub_cancel,this,List.nil_append]
theorem QGz {l:List Hs} {i:Nat}:(flat hcell l).take (i*32)=flat hcell (l.take i):=QID QK
theorem QNQ {l:List Hs} {i:Nat}:(flat hcell l).drop (i*32)=flat hcell (l.drop i):=QH9 QK
theorem Q4 {l m:List Hs}:flat hcell l++flat hcell m=flat hcell (l++m):=by simp [flat]
theorem QE6 {x:Hs} {m:List Hs}:hcell x++flat hcell m=flat hcell (x::m):=by simp [flat]
theorem QLW {l:List Hs} {n:Nat} (h:l.length≤n):(flat hcell l).take (n*32)=flat hcell l:=by rw [QGz,List.take_of_length_le h]
theorem QMc (a b:Hs):QE Tryz.prog [] 162 [.agg (hcell a),.agg (hcell b)] (.v (.bool (hlt a b))):=by
 refine QE.start Tryz.func162 rfl zK rfl Tryz.ntmps162 fol zK (by simp [idfL,idf,QS]) rfl ?_
 refine zZ ?_
 refine QD (ι:=Nat) (fun i=>⟨[(2,.rop (hcell a)),(3,.rop (hcell b)),(5,.v (.int .i64 i))],⟨[],0,0,0⟩⟩) (fun i=>i≤32∧∀j,j<i→a.1.getD j 0=b.1.getD j 0) (fun i=>32 - i) 0 ⟨Nat.zero_le _,fun j hj=>absurd hj (Nat.not_lt_zero _)⟩ ?_ ?_
 ·refine Ent.freezeN 0 [] [] ?_ ?_ rfl rfl rfl zD rfl rfl
  ·exact zC
  ·exact zC
 rintro i ⟨hi,hall⟩
 refine zS ?_
 refine⟨fun h=>?_,fun h=>?_⟩
 ·have hi1:i<32:=by omega
  have g1:=QEz (a:=a) hi1
  have g2:=QEz (a:=b) hi1
  (have X1:=g1;have X2:=g2;have X3:=@List.getElem?_drop.{0};refine zS3 ?_;clear X1 X2 X3)
  refine⟨fun hn=>?_,fun hn=>?_⟩
  ·(have X1:=g1;have X2:=g2;have X3:=@List.getElem?_drop.{0};refine zS3 ?_;clear X1 X2 X3)
   rw [QaX hi1 hall hn]
  ·(have X1:=g1;have X2:=g2;have X3:=@List.getElem?_drop.{0};refine zS3 ?_;clear X1 X2 X3)
   refine⟨i+1,⟨by omega,fun j hj=>?_⟩,zO,?_⟩
   ·rcases Nat.lt_or_ge j i with h5 | h5
    ·exact hall j h5
    ·obtain rfl:j=i:=by omega
     exact hn
   refine Ent.freezeN 0 [] [] ?_ ?_ rfl rfl rfl zD rfl rfl
   ·exact zC
   ·exact zC
 ·refine zS ?_
  obtain rfl:a=b:=QZ5 fun j hj=>hall j zo
  rw [QAX]
theorem QaK (a b:Hs):QE Tryz.prog [] 108 [.agg (hcell a),.agg (hcell b)] (.v (.bool (hlt a b))):=by
 refine QE.start Tryz.func108 rfl zK rfl Tryz.ntmps108 fol zK (by simp [idfL,idf,QS]) rfl ?_
 refine zZ ?_
 refine⟨fun h=>?_,fun h=>?_⟩
 ·refine zS ?_
  rw [h,QAX]
 ·refine zS ?_
  refine QD (ι:=Nat) (fun i=>⟨[(2,.rop (hcell a)),(3,.rop (hcell b)),(5,.v (.int .i64 i))],⟨[],0,0,0⟩⟩) (fun i=>i<32∧∀j,j<i→a.1.getD j 0=b.1.getD j 0) (fun i=>32 - i) 0 ⟨by decide,fun j hj=>absurd hj (Nat.not_lt_zero _)⟩ ?_ ?_
  ·refine Ent.freezeN 0 [] [] ?_ ?_ rfl rfl rfl zD rfl rfl
   ·exact zC
   ·exact zC
  rintro i ⟨hi1,hall⟩
  have g1:=QEz (a:=a) hi1
  have g2:=QEz (a:=b) hi1
  (have X1:=g1;have X2:=g2;have X3:=@List.getElem?_drop.{0};refine zS3 ?_;clear X1 X2 X3)
  refine⟨fun hn=>?_,fun hn=>?_⟩
  ·(have X1:=g1;have X2:=g2;have X3:=@List.getElem?_drop.{0};refine zS3 ?_;clear X1 X2 X3)
   have hall':∀j,j<i+1→a.1.getD j 0=b.1.getD j 0:=fun j hj=>by
    rcases Nat.lt_or_ge j i with h5 | h5
    ·exact hall j h5
    ·obtain rfl:j=i:=by omega
     exact hn
   refine⟨i+1,⟨?_,hall'⟩,zO,?_⟩
   ·rcases Nat.lt_or_ge (i+1) 32 with h6 | h6
    ·exact h6
    ·exact absurd (QZ5 fun j hj=>hall' j zo) h
   refine Ent.freezeN 0 [] [] ?_ ?_ rfl rfl rfl zD rfl rfl
   ·exact zC
   ·exact zC
  ·(have X1:=g1;have X2:=g2;have X3:=@List.getElem?_drop.{0};refine zS3 ?_;clear X1 X2 X3)
   rw [QaX hi1 hall hn]
def cmpH (a b:Hs):Int:=if a=b then 0 else if hlt a b=true then -1 else 1
theorem QUV (a b:Hs):QE Tryz.prog [] 119 [.agg (hcell a),.agg (hcell b)] (.v (.int .i64 (cmpH a b))):=by
 refine QE.start Tryz.func119 rfl zK rfl Tryz.ntmps119 fol zK (by simp [idfL,idf,QS]) rfl ?_
 refine zZ ?_
 refine⟨fun h=>?_,fun h=>?_⟩
 ·(have X1:=@cmpH.eq_1;refine zS1 ?_;clear X1)
  rw [if_pos h]
 ·refine zS ?_
  refine (QaK a b).useV ?_
  rw [cmpH,if_neg h]
  cases e:hlt a b<;>(first | exact zC | refine zS ?_)
open Proofs
theorem QCo {l:List Hs} {i:Nat} (hi:i<l.length) {x:Hs}:x∈l.take (i+1)↔x∈l.take i∨x=l[i]:=by
 rw [List.take_succ_eq_append_getElem hi];simp only [List.mem_append,List.mem_singleton]
theorem srt_nil:srt []=[]:=rfl
theorem QaW (l:List Hs) (hl:l.length≤1048576) (h:Hs):QE Tryz.prog [] 97 [.seq l.length 32 (flat hcell l),.agg (hcell h)] (.v (.bool (decide (h∈l)))):=by
 refine QE.start Tryz.func97 rfl zK rfl Tryz.ntmps97 fol zK (by simp [idfL,idf,QZ QS,QS]) (by simp [idf,idfL,QZ QS]) ?_
 refine zZ ?_
 refine QD (ι:=Nat) (fun i=>⟨[(0,.seq l.length 32 (flat hcell l)),(3,.rop (hcell h)),(5,.v (.int .i64 i))],⟨[],0,0,0⟩⟩) (fun i=>i≤l.length∧h∉l.take i) (fun i=>l.length - i) 0 ⟨Nat.zero_le _,by simp⟩ ?_ ?_
 ·refine Ent.freezeN 0 [] [] ?_ ?_ rfl rfl rfl zD rfl rfl
  ·exact zC
  ·exact zC
 rintro i ⟨hi,hall⟩
 refine zS ?_
 refine⟨fun h1=>?_,fun h1=>?_⟩
 ·have hi1:i<l.length:=by omega
  refine zS ?_
  refine⟨fun h2=>?_,fun h2=>?_⟩
  ·refine zS ?_
   rw [decide_eq_true (show h∈l from h2▸List.getElem_mem hi1)]
  ·refine zS ?_
   refine⟨i+1,⟨by omega,fun hm=>?_⟩,zO,?_⟩
   ·rcases (QCo hi1).1 hm with e | e
    ·exact hall e
    ·exact h2 e.symm
   refine Ent.freezeN 0 [] [] ?_ ?_ rfl rfl rfl zD rfl rfl
   ·exact zC
   ·exact zC
 ·refine zS ?_
  rw [List.take_of_length_le zo] at hall
  rw [decide_eq_false hall]
theorem QMp (l:List Hs) (hl:l.length≤1048576) (h:Hs):QE Tryz.prog [] 102 [.seq l.length 32 (flat hcell l),.agg (hcell h)] (.seq (insH h l).length 32 (flat hcell (insH h l))):=by
 refine QE.start Tryz.func102 rfl zK rfl Tryz.ntmps102 fol zK (by simp [idfL,idf,QZ QS,QS]) (by simp [idf,idfL,QZ QS]) ?_
 refine zZ ?_
 refine QD (ι:=Nat) (fun i=>⟨[(0,.seq l.length 32 (flat hcell l)),(3,.rop (hcell h)),(5,.v (.int .i64 i))],⟨[],0,0,0⟩⟩) (fun i=>i≤l.length∧∀a∈l.take i,hlt a h=true) (fun i=>l.length - i) 0 ⟨Nat.zero_le _,by simp⟩ ?_ ?_
 ·refine Ent.freezeN 0 [] [] ?_ ?_ rfl rfl rfl zD rfl rfl
  ·exact zC
  ·exact zC
 rintro i ⟨hi,hall⟩
 refine zS ?_
 refine⟨fun h1=>?_,fun h1=>?_⟩
 ·have hi1:i<l.length:=by omega
  refine zS ?_
  refine QO.useV (QMc l[i] h) rfl ?_
  cases e:hlt l[i] h
  ·refine zS ?_
   refine⟨fun _=>?_,fun h2=>absurd h1 h2⟩
   refine zS ?_
   refine⟨fun h3=>?_,fun h3=>?_⟩
   ·refine zS ?_
    rw [QH6 hall hi1 h3]
   ·have hn:insH h l=l.take i++h::l.drop i:=QJN hall hi (fun _=>⟨e,h3⟩)
    have hcat:flat hcell (l.take i)++(hcell h++flat hcell (l.drop i))=flat hcell (insH h l):=by rw [hn,QE6,Q4]
    have hlen:i+1+(l.length - i)=(insH h l).length:=by rw [hn,List.length_append,List.length_cons,List.length_take,List.length_drop];omega
    have hal:(l.drop i).take (l.length - i)=l.drop i:=List.take_of_length_le (by rw [List.length_drop];exact Nat.le_refl _)
    have hl2:(insH h l).length*32≤min i l.length*32+(32+min (l.length - i) (l.drop i).length*32):=by rw [←hlen,List.length_drop];omega
    have hal2:=QLW (Nat.le_refl (insH h l).length)
    (have X1:=hal2;have X2:=hl2;have X3:=@Nat.sub_zero;have X4:=@QGz;have X5:=@QNQ;have X6:=hal;have X7:=hcat;have X8:=hlen;have X9:=@List.append_assoc.{0};exact zC9)
  ·refine zS ?_
   refine⟨i+1,⟨by omega,fun a ha=>?_⟩,zO,?_⟩
   ·rcases (QCo hi1).1 ha with e1 | e1
    ·exact hall a e1
    ·rw [e1];exact e
   refine Ent.freezeN 0 [] [] ?_ ?_ rfl rfl rfl zD rfl rfl
   ·exact zC
   ·exact zC
 ·obtain rfl:i=l.length:=by omega
  have hn:insH h l=l++[h]:=by rw [QJN hall hi fun hk=>absurd hk zo,List.take_length,List.drop_length]
  have hcat:flat hcell l++hcell h=flat hcell (insH h l):=by rw [hn,←Q4];simp [flat]
  have hlen:l.length+1=(insH h l).length:=by rw [hn];simp
  have hal2:=QLW (Nat.le_refl (insH h l).length)
  refine zS ?_
  refine⟨fun h2=>absurd h2 h1,fun _=>?_⟩
  (have X1:=@Nat.sub_zero;have X2:=hcat;have X3:=hlen;have X4:=@Nat.sub_self;have X5:=@List.drop_length.{0};have X6:=@List.take_length.{0};have X7:=hal2;exact zC7)
theorem QSJ (l:List Hs) (hl:l.length≤1048576):QE Tryz.prog [] 96 [.seq l.length 32 (flat hcell l)] (.seq (srt l).length 32 (flat hcell (srt l))):=by
 refine QE.start Tryz.func96 rfl zK rfl Tryz.ntmps96 fol zK (by simp [idfL,idf,QZ QS,QS]) (by simp [idf,idfL,QZ QS]) ?_
 refine zZ ?_
 refine QD (ι:=Nat) (fun i=>⟨[(0,.seq l.length 32 (flat hcell l)),(3,.seq (srt (l.take i)).length 32 (flat hcell (srt (l.take i)))),(4,.v (.int .i64 i))],⟨[],0,0,0⟩⟩) (fun i=>i≤l.length) (fun i=>l.length - i) 0 (Nat.zero_le _) ?_ ?_
 ·refine Ent.freezeN 0 [] [] ?_ ?_ rfl rfl rfl zD rfl rfl
  ·(have X1:=@List.take_zero.{0};have X2:=@srt_nil;have X3:=@QOx;exact zC3)
  ·exact zC
 rintro i hi
 refine zS ?_
 refine⟨fun h1=>?_,fun h1=>?_⟩
 ·have hi1:i<l.length:=by omega
  have hle:(srt (l.take i)).length≤1048576:=Nat.le_trans (QAp _) (by simp;omega)
  refine zS ?_
  refine (QMp _ hle l[i]).useV ?_
  refine zS ?_
  refine⟨i+1,by omega,zO,?_⟩
  have hs:srt (l.take (i+1))=insH l[i] (srt (l.take i)):=by rw [List.take_succ_eq_append_getElem hi1,QOe]
  simp only [hs]
  refine Ent.freezeN 0 [] [] ?_ ?_ rfl rfl rfl zD rfl rfl
  ·exact zC
  ·exact zC
 ·exact zC
theorem QLc (l:List Hs) (hl:l.length≤1048576):QE Tryz.prog [] 190 [.seq l.length 32 (flat hcell l)] (.v (.bool (QDw l))):=by
 refine QE.start Tryz.func190 rfl zK rfl Tryz.ntmps190 fol zK (by simp [idfL,idf,QZ QS,QS]) (by simp [idf,idfL,QZ QS]) ?_
 refine zZ ?_
 refine QD (ι:=Nat) (fun i=>⟨[(0,.seq l.length 32 (flat hcell l)),(3,.v (.int .i64 i))],⟨[],0,0,0⟩⟩) (fun i=>1≤i∧∀j,1≤j→j<i→∀h2:j<l.length,hlt (l[j - 1]'zo) l[j]=true) (fun i=>l.length - i) 1 ⟨Nat.le_refl _,fun j h1 h2=>by omega⟩ ?_ ?_
 ·refine Ent.freezeN 0 [] [] ?_ ?_ rfl rfl rfl zD rfl rfl
  ·first | exact zC | refine zS ?_
   rfl
  ·exact zC
 rintro i ⟨hi,hall⟩
 refine zS ?_
 refine⟨fun h1=>?_,fun h1=>?_⟩
 ·have hi1:i<l.length:=by omega
  have e1:((i:Int) - 1)=((i - 1:Nat):Int):=by omega
  refine zS ?_
  have e1:((i:Int) - 1).toNat=i - 1:=by omega
  simp only [e1]
  have hr:=QMc (l[i - 1]'zo) l[i]
  refine QO.useV hr rfl ?_
  cases e:hlt (l[i - 1]'zo) l[i]
  ·refine zS ?_
   rw [QJ0 hi hi1 e]
  ·refine zS ?_
   refine⟨i+1,⟨by omega,fun j h2 h3 h4=>?_⟩,zO,?_⟩
   ·rcases Nat.lt_or_ge j i with h5 | h5
    ·exact hall j h2 h5 h4
    ·obtain rfl:j=i:=by omega
     exact e
   refine Ent.freezeN 0 [] [] ?_ ?_ rfl rfl rfl zD rfl rfl
   ·exact zC
   ·exact zC
 ·refine zS ?_
  rw [QJz fun j h2 h3=>hall j h2 zo h3]
theorem QSD (l:List Hs) (hl:l.length≤1048576) (m:List Hs) (hm:m.length≤1048576):QE Tryz.prog [] 42 [.seq l.length 32 (flat hcell l),.seq m.length 32 (flat hcell m)] (.v (.bool (decide (l=m)))):=by
 refine QE.start Tryz.func42 rfl zK rfl Tryz.ntmps42 fol zK (by simp [idfL,idf,QZ QS,QS]) (by simp [idf,idfL,QZ QS]) ?_
 refine zZ ?_
 refine⟨fun h=>?_,fun h=>?_⟩
 ·refine zS ?_
  rw [decide_eq_false (fun e=>by subst e;omega)]
 ·refine zS ?_
  refine QD (ι:=Nat) (fun i=>⟨[(0,.seq l.length 32 (flat hcell l)),(1,.seq m.length 32 (flat hcell m)),(5,.v (.int .i64 i))],⟨[],0,0,0⟩⟩) (fun i=>i≤l.length∧l.take i=m.take i) (fun i=>l.length - i) 0 ⟨Nat.zero_le _,by simp⟩ ?_ ?_
  ·refine Ent.freezeN 0 [] [] ?_ ?_ rfl rfl rfl zD rfl rfl
   ·exact zC
   ·exact zC
  rintro i ⟨hi,hall⟩
  refine zS ?_
  refine⟨fun h1=>?_,fun h1=>?_⟩
  ·have hi1:i<l.length:=by omega
   have hi2:i<m.length:=by omega
   refine zS ?_
   refine⟨fun h2=>?_,fun h2=>?_⟩
   ·refine zS ?_
    rw [decide_eq_false (fun e=>by subst e;exact h2 rfl)]
   ·refine zS ?_
    refine⟨i+1,⟨by omega,by rw [List.take_succ_eq_append_getElem hi1,List.take_succ_eq_append_getElem hi2,hall,h2]⟩,zO,?_⟩
    refine Ent.freezeN 0 [] [] ?_ ?_ rfl rfl rfl zD rfl rfl
    ·exact zC
    ·exact zC
  ·refine zS ?_
   rw [List.take_of_length_le zo,List.take_of_length_le zo] at hall
   rw [decide_eq_true hall]
open Proofs
def uniH (l m:List Hs):List Hs:=m.foldl (fun a x=>insH x a) (srt l)
theorem QIc (l m:List Hs):uniH l m=srt (l++m):=by simp [uniH,srt]
theorem QTZ {l m:List Hs} {i:Nat} (hi:i<m.length):uniH l (m.take (i+1))=insH m[i] (uniH l (m.take i)):=by
 rw [uniH,List.take_succ_eq_append_getElem hi,List.foldl_append];rfl
theorem uniH_nil {l:List Hs}:uniH l []=srt l:=rfl
theorem QNx (l m:List Hs):(uniH l m).length≤l.length+m.length:=by rw [QIc];exact Nat.le_trans (QAp _) (by simp)
theorem QXB (l m:List Hs) (hl:l.length≤524288) (hm:m.length≤524288):QE Tryz.prog [] 98 [.seq l.length 32 (flat hcell l),.seq m.length 32 (flat hcell m)] (.seq (uniH l m).length 32 (flat hcell (uniH l m))):=by
 refine QE.start Tryz.func98 rfl zK rfl Tryz.ntmps98 fol zK zI zI ?_
 refine zZ ?_
 refine (QSJ l zo).useV ?_
 refine zS ?_
 refine QD (ι:=Nat) (fun i=>⟨[(1,.seq m.length 32 (flat hcell m)),(5,.seq (uniH l (m.take i)).length 32 (flat hcell (uniH l (m.take i)))),(6,.v (.int .i64 i))],⟨[],0,0,0⟩⟩) (fun i=>i≤m.length) (fun i=>m.length - i) 0 (Nat.zero_le _) ?_ ?_
 ·(have X1:=@List.take_zero.{0};have X2:=@uniH_nil;exact fzN2 0 [] [])
 rintro i hi
 refine zS ?_
 refine⟨fun h1=>?_,fun h1=>?_⟩
 ·have hi1:i<m.length:=by omega
  have hle:(uniH l (m.take i)).length≤1048576:=Nat.le_trans (QNx _ _) (by simp;omega)
  refine zS ?_
  refine (QMp _ hle m[i]).useV ?_
  refine zS ?_
  refine⟨i+1,by omega,zO,?_⟩
  simp only [QTZ hi1]
  exact fzN 0 [] []
 ·exact zC
theorem QUC {p:Hs→Bool} {l:List Hs} {i:Nat} (hi:i<l.length):srt ((l.take (i+1)).filter p)=if p l[i]=true then insH l[i] (srt ((l.take i).filter p)) else srt ((l.take i).filter p):=by
 rw [List.take_succ_eq_append_getElem hi,List.filter_append]
 by_cases h:p l[i]=true
 ·rw [if_pos h,List.filter_cons_of_pos h,List.filter_nil,QOe]
 ·rw [if_neg h,List.filter_cons_of_neg h,List.filter_nil,List.append_nil]
theorem QV3 {p:Hs→Bool} {l:List Hs}:(srt (l.filter p)).length≤l.length:=Nat.le_trans (QAp _) (List.length_filter_le _ _)
def minH (l m:List Hs):List Hs:=srt (l.filter fun x=>!decide (x∈m))
theorem Qfp (l m:List Hs) (hl:l.length≤1048576) (hm:m.length≤1048576):QE Tryz.prog [] 101 [.seq l.length 32 (flat hcell l),.seq m.length 32 (flat hcell m)] (.seq (minH l m).length 32 (flat hcell (minH l m))):=by
 refine QE.start Tryz.func101 rfl zK rfl Tryz.ntmps101 fol zK zI zI ?_
 refine zZ ?_
 refine QD (ι:=Nat) (fun i=>⟨[(0,.seq l.length 32 (flat hcell l)),(1,.seq m.length 32 (flat hcell m)),(5,.seq (minH (l.take i) m).length 32 (flat hcell (minH (l.take i) m))),(6,.v (.int .i64 i))],⟨[],0,0,0⟩⟩) (fun i=>i≤l.length) (fun i=>l.length - i) 0 (Nat.zero_le _) ?_ ?_
 ·(have X1:=@List.take_zero.{0};have X2:=@minH.eq_1;have X3:=@List.filter_nil.{0};have X4:=@srt_nil;have X5:=@QOx;exact fzN5 0 [] [])
 rintro i hi
 refine zS ?_
 refine⟨fun h1=>?_,fun h1=>?_⟩
 ·have hi1:i<l.length:=by omega
  have hle:(minH (l.take i) m).length≤1048576:=Nat.le_trans QV3 (by simp;omega)
  refine zS ?_
  refine (QaW m hm l[i]).useV ?_
  refine zS ?_
  refine⟨fun h2=>?_,fun h2=>?_⟩
  ·refine zS ?_
   refine (QMp _ hle l[i]).useV ?_
   refine zS ?_
   refine⟨i+1,by omega,zO,?_⟩
   have e:minH (l.take (i+1)) m=insH l[i] (minH (l.take i) m):=by rw [minH,QUC hi1,if_pos (by simpa using h2)];rfl
   simp only [e]
   exact fzN 0 [] []
  ·refine zS ?_
   refine⟨i+1,by omega,zO,?_⟩
   have e:minH (l.take (i+1)) m=minH (l.take i) m:=by rw [minH,QUC hi1,if_neg (by simpa using h2)];rfl
   simp only [e]
   exact fzN 0 [] []
 ·exact zC
theorem QO7 (l:List Hs) (hl:l.length≤1048576):QE Tryz.prog [] 50 [.seq l.length 32 (flat hcell l)] (.v (.bool (QDw l))):=by
 refine QE.start Tryz.func50 rfl zK rfl Tryz.ntmps50 fol zK zI zI ?_
 refine zZ ?_
 refine QD (ι:=Nat) (fun i=>⟨[(0,.seq l.length 32 (flat hcell l)),(3,.v (.int .i64 i))],⟨[],0,0,0⟩⟩) (fun i=>1≤i∧∀j,1≤j→j<i→∀h2:j<l.length,hlt (l[j - 1]'zo) l[j]=true) (fun i=>l.length - i) 1 ⟨Nat.le_refl _,fun j h1 h2=>by omega⟩ ?_ ?_
 ·refine fzNM 0 [] [] ?_ ?_<;>first | exact zC | refine zS ?_
  rfl
 rintro i ⟨hi,hall⟩
 refine zS ?_
 refine⟨fun h1=>?_,fun h1=>?_⟩
 ·have hi1:i<l.length:=by omega
  refine zS ?_
  have e1:((i:Int) - 1).toNat=i - 1:=by omega
  simp only [e1]
  have hr:=QaK (l[i - 1]'zo) l[i]
  refine QO.useV hr rfl ?_
  cases e:hlt (l[i - 1]'zo) l[i]
  ·refine zS ?_
   rw [QJ0 hi hi1 e]
  ·refine zS ?_
   refine⟨i+1,⟨by omega,fun j h2 h3 h4=>?_⟩,zO,?_⟩
   ·rcases Nat.lt_or_ge j i with h5 | h5
    ·exact hall j h2 h5 h4
    ·obtain rfl:j=i:=by omega
     exact e
   exact fzN 0 [] []
 ·refine zS ?_
  rw [QJz fun j h2 h3=>hall j h2 zo h3]
theorem Qbj (l m:List Hs) (hl:l.length≤1048576) (hm:m.length≤1048576):QE Tryz.prog [] 72 [.seq l.length 32 (flat hcell l),.seq m.length 32 (flat hcell m)] (.v (.bool (decide (l=m)))):=by
 refine QE.start Tryz.func72 rfl zK rfl Tryz.ntmps72 fol zK zI zI ?_
 refine zZ ?_
 refine⟨fun h=>?_,fun h=>?_⟩
 ·refine zS ?_
  rw [decide_eq_false (fun e=>by subst e;omega)]
 ·refine zS ?_
  refine QD (ι:=Nat) (fun i=>⟨[(0,.seq l.length 32 (flat hcell l)),(1,.seq m.length 32 (flat hcell m)),(11,.seq l.length 32 (flat hcell l)),(12,.v (.int .i64 l.length)),(13,.v (.int .i64 i))],⟨[],0,0,0⟩⟩) (fun i=>i≤l.length∧l.take i=m.take i) (fun i=>l.length - i) 0 ⟨Nat.zero_le _,by simp⟩ ?_ ?_
  ·exact fzN 0 [] []
  rintro i ⟨hi,hall⟩
  refine zS ?_
  refine⟨fun h1=>?_,fun h1=>?_⟩
  ·have hi1:i<l.length:=by omega
   have hi2:i<m.length:=by omega
   refine zS ?_
   refine⟨fun h2=>?_,fun h2=>?_⟩
   ·refine zS ?_
    rw [decide_eq_false (fun e=>by subst e;exact h2 rfl)]
   ·refine zS ?_
    refine⟨i+1,⟨by omega,by rw [List.take_succ_eq_append_getElem hi1,List.take_succ_eq_append_getElem hi2,hall,h2]⟩,zO,?_⟩
    exact fzN 0 [] []
  ·refine zS ?_
   rw [List.take_of_length_le zo,List.take_of_length_le zo] at hall
   rw [decide_eq_true hall]
theorem QaC (l m:List Hs) (hl:l.length≤1048576) (hm:m.length≤1048576):QE Tryz.prog [] 22 [.seq l.length 32 (flat hcell l),.seq m.length 32 (flat hcell m)] (.v (.bool (decide (l=m)))):=by
 refine QE.start Tryz.func22 rfl zK rfl Tryz.ntmps22 fol zK zI zI ?_
 refine zZ ?_
 refine (Qbj l m hl hm).useV ?_
 exact zC
theorem QUE {h:Hs}:∀{l:List Hs} {i:Nat},h∉l.take i→(hi:i<l.length)→l[i]=h→l.idxOf h=i
 | [],_,_,hi,_=>by simp at hi
 | a::l,0,_,_,e=>by
  simp only [List.getElem_cons_zero] at e
  rw [List.idxOf_cons,e];simp
 | a::l,i+1,hn,hi,e=>by
  simp only [List.take_succ_cons,List.mem_cons,not_or] at hn
  have hi':i<l.length:=by simpa using hi
  have hne:¬(a==h)=true:=fun e=>hn.1 (eq_of_beq e).symm
  rw [List.idxOf_cons,QUE hn.2 hi' (by simpa using e)]
  simp only [hne];rfl
end Go.AW
