/- A part of the proof: E1 E8 D1 D2 D3. -/
import Derived.Test.YtpcbnjbpdooejaaGreatDoorPae
import Derived.Test.YtpcbnjbpdooejaaGreatDoorPad
import Derived.Test.YtpcbnjbpdooejaaGreatDoorProg
import Derived.KernelRfl
set_option linter.unusedSimpArgs false
set_option linter.unusedVariables false
set_option maxRecDepth 100000
set_option maxHeartbeats 8000000
namespace Go.AW
def ltL:List Int→List Int→Bool
 | a::l,b::m=>if a=b then ltL l m else decide (a<b)
 | _,_=>false
def hlt (a b:Hs):Bool:=ltL a.1 b.1
theorem QHv:∀l:List Int,ltL l l=false
 | []=>rfl
 | a::l=>by rw [ltL,if_pos rfl];exact QHv l
theorem QLj:∀{l m k:List Int},ltL l m=true→ltL m k=true→ltL l k=true
 | [],_,_,h,_=>by simp [ltL] at h
 | _::_,[],_,h,_=>by simp [ltL] at h
 | _::_,_::_,[],_,h=>by simp [ltL] at h
 | a::l,b::m,c::k,h1,h2=>by
  simp only [ltL] at*
  split at h1
  ·subst_vars
   split at h2
   ·subst_vars;rw [if_pos rfl];exact QLj h1 h2
   ·rename_i hn;rw [if_neg hn];exact h2
  ·rename_i hn
   simp only [decide_eq_true_eq] at h1
   split at h2
   ·subst_vars;rw [if_neg hn];simpa using h1
   ·simp only [decide_eq_true_eq] at h2
    rw [if_neg zo];simp only [decide_eq_true_eq];omega
theorem QJ9:∀{l m:List Int},l.length=m.length→l=m∨ltL l m=true∨ltL m l=true
 | [],[],_=>.inl rfl
 | [],_::_,h=>by simp at h
 | _::_,[],h=>by simp at h
 | a::l,b::m,h=>by
  simp only [ltL]
  by_cases e:a=b
  ·subst e
   simp only [if_true,List.cons.injEq,true_and]
   exact QJ9 (by simpa using h)
  ·rw [if_neg e,if_neg (fun h=>e h.symm)]
   simp only [decide_eq_true_eq]
   right;omega
theorem QAX (a:Hs):hlt a a=false:=QHv _
theorem QCB {a b c:Hs} (h1:hlt a b=true) (h2:hlt b c=true):hlt a c=true:=QLj h1 h2
theorem QBh (a b:Hs):a=b∨hlt a b=true∨hlt b a=true:=(QJ9 (a.2.trans b.2.symm)).imp_left Subtype.ext
theorem hlt_ne {a b:Hs} (h:hlt a b=true):a≠b:=fun e=>by rw [e,QAX] at h;cases h
theorem QEo {a b:Hs} (h:hlt a b=true):hlt b a=false:=by
 cases e:hlt b a with
 | false=>rfl
 | true=>have:=QCB h e;rw [QAX] at this;cases this
def Rise (l:List Hs):Prop:=l.Pairwise fun a b=>hlt a b=true
theorem Rise.nil:Rise []:=List.Pairwise.nil
theorem Rise.nodup {l:List Hs} (h:Rise l):l.Nodup:=h.imp fun h=>hlt_ne h
theorem Rise.ext:∀{l m:List Hs},Rise l→Rise m→(∀h,h∈l↔h∈m)→l=m
 | [],[],_,_,_=>rfl
 | [],b::m,_,_,h=>absurd ((h b).2 (by simp)) (by simp)
 | a::l,[],_,_,h=>absurd ((h a).1 (by simp)) (by simp)
 | a::l,b::m,h1,h2,h=>by
  have r1:=List.pairwise_cons.1 h1
  have r2:=List.pairwise_cons.1 h2
  have e:a=b:=by
   have ha:=(h a).1 (by simp)
   have hb:=(h b).2 (by simp)
   rcases List.mem_cons.1 ha with ha | ha
   ·exact ha
   ·rcases List.mem_cons.1 hb with hb | hb
    ·exact hb.symm
    ·have k1:=r2.1 a ha
     have k2:=r1.1 b hb
     rw [QEo k1] at k2;cases k2
  subst e
  have:l=m:=Rise.ext r1.2 r2.2 fun x=>by
   have hx:=h x
   simp only [List.mem_cons] at hx
   constructor
   ·intro hl
    rcases hx.1 (.inr hl) with k | k
    ·have:=r1.1 x hl;rw [k,QAX] at this;cases this
    ·exact k
   ·intro hm
    rcases hx.2 (.inr hm) with k | k
    ·have:=r2.1 x hm;rw [k,QAX] at this;cases this
    ·exact k
  rw [this]
def insH (x:Hs):List Hs→List Hs
 | []=>[x]
 | a::l=>if hlt a x=true then a::insH x l else if a=x then a::l else x::a::l
theorem QJR {x h:Hs}:∀{l:List Hs},h∈insH x l↔h=x∨h∈l
 | []=>by simp [insH]
 | a::l=>by
  rw [insH]
  split
  ·simp only [List.mem_cons,QJR (l:=l)]
   constructor
   ·rintro(h | h | h)<;>simp [h]
   ·rintro(h | h | h)<;>simp [h]
  ·split
   ·subst_vars;simp
   ·simp
theorem QLq {x:Hs}:∀{l:List Hs},Rise l→Rise (insH x l)
 | [],_=>by simp [insH,Rise]
 | a::l,h=>by
  have r:=List.pairwise_cons.1 h
  rw [insH]
  split
  ·rename_i hax
   exact List.pairwise_cons.2 ⟨fun b hb=>by
    rcases QJR.1 hb with e | e
    ·rw [e];exact hax
    ·exact r.1 b e,QLq r.2⟩
  ·rename_i hax
   split
   ·exact h
   ·rename_i hne
    have hxa:hlt x a=true:=by
     rcases QBh a x with e | e | e
     ·exact absurd e hne
     ·exact absurd e hax
     ·exact e
    exact List.pairwise_cons.2 ⟨fun b hb=>by
     rcases List.mem_cons.1 hb with e | e
     ·rw [e];exact hxa
     ·exact QCB hxa (r.1 b e),h⟩
def srt (l:List Hs):List Hs:=l.foldl (fun m x=>insH x m) []
theorem QLo {l:List Hs}:∀{m:List Hs},(Rise m→Rise (l.foldl (fun m x=>insH x m) m))∧∀h,h∈l.foldl (fun m x=>insH x m) m↔h∈m∨h∈l:=by
 induction l with
 | nil=>intro m;simp
 | cons a l ih=>
  intro m
  obtain⟨h1,h2⟩:=ih (m:=insH a m)
  refine⟨fun hm=>h1 (QLq hm),fun h=>?_⟩
  simp only [List.foldl_cons,List.mem_cons] at*
  rw [h2,QJR]
  constructor
  ·rintro((h | h) | h)<;>simp [h]
  ·rintro(h | h | h)<;>simp [h]
theorem QCu (l:List Hs):Rise (srt l):=QLo.1 .nil
theorem QBr {l:List Hs} {h:Hs}:h∈srt l↔h∈l:=by rw [srt,QLo.2];simp
theorem QKo {l m:List Hs} (hm:Rise m) (h:∀x,x∈m↔x∈l):m=srt l:=hm.ext (QCu l) fun x=>by rw [h,QBr]
theorem QG2 {l m:List Hs} (h:∀x,x∈l↔x∈m):srt l=srt m:=QKo (QCu l) fun x=>by rw [QBr,h]
theorem QOe {l:List Hs} {x:Hs}:srt (l++[x])=insH x (srt l):=by simp [srt]
theorem QHG {x:Hs}:∀{l:List Hs},(insH x l).length≤l.length+1
 | []=>by simp [insH]
 | a::l=>by
  rw [insH]
  split
  ·have:=QHG (x:=x) (l:=l);simp only [List.length_cons];omega
  ·split<;>simp
theorem QAp (l:List Hs):(srt l).length≤l.length:=by
 have:∀(l m:List Hs),(l.foldl (fun m x=>insH x m) m).length≤m.length+l.length:=by
  intro l
  induction l with
  | nil=>intro m;simp
  | cons a l ih=>
   intro m
   have h1:=ih (insH a m)
   have h2:=QHG (x:=a) (l:=m)
   simp only [List.foldl_cons,List.length_cons] at*
   omega
 simpa [srt] using this l []
def QBl:Hs:=⟨List.replicate 32 0,by simp⟩
instance:Inhabited Hs:=⟨QBl⟩
def QDw:List Hs→Bool
 | a::b::l=>hlt a b&&QDw (b::l)
 | _=>true
theorem QGZ:∀{l:List Hs},QDw l=true↔Rise l
 | []=>by simp [QDw,Rise]
 | [a]=>by simp [QDw,Rise]
 | a::b::l=>by
  rw [QDw,Bool.and_eq_true,QGZ]
  constructor
  ·rintro⟨h1,h2⟩
   refine List.pairwise_cons.2 ⟨fun c hc=>?_,h2⟩
   rcases List.mem_cons.1 hc with e | e
   ·rw [e];exact h1
   ·exact QCB h1 ((List.pairwise_cons.1 h2).1 c e)
  ·intro h
   exact⟨(List.pairwise_cons.1 h).1 b (by simp),(List.pairwise_cons.1 h).2⟩
theorem QJz:∀{l:List Hs},(∀j,1≤j→∀h2:j<l.length,hlt (l[j - 1]'zo) l[j]=true)→QDw l=true
 | [],_=>rfl
 | [a],_=>rfl
 | a::b::l,h=>by
  rw [QDw,Bool.and_eq_true]
  refine⟨h 1 (Nat.le_refl _) (by simp),QJz fun j h1 h2=>?_⟩
  have:=h (j+1) zo (by simpa using h2)
  simp only [List.getElem_cons_succ,Nat.add_sub_cancel] at this
  obtain⟨k,rfl⟩:∃k,j=k+1:=⟨j - 1,by omega⟩
  simpa using this
theorem QJ0 {l:List Hs} {j:Nat} (h1:1≤j) (h2:j<l.length) (h:hlt (l[j - 1]'zo) l[j]=false):QDw l=false:=by
 cases e:QDw l with
 | false=>rfl
 | true=>
  have:=List.pairwise_iff_getElem.1 (QGZ.1 e) (j - 1) j zo h2 zo
  rw [h] at this;cases this
theorem QH6 {x:Hs}:∀{l:List Hs} {k:Nat},(∀a∈l.take k,hlt a x=true)→(hk:k<l.length)→l[k]=x→insH x l=l
 | [],_,_,hk,_=>by simp at hk
 | a::l,0,_,_,h=>by
  simp only [List.getElem_cons_zero] at h
  rw [insH,h,QAX];simp
 | a::l,k+1,h1,hk,h=>by
  simp only [List.take_succ_cons,List.mem_cons] at h1
  rw [insH,if_pos (h1 a (.inl rfl)),QH6 (fun b hb=>h1 b (.inr hb)) (by simpa using hk) (by simpa using h)]
theorem QJN {x:Hs}:∀{l:List Hs} {k:Nat},(∀a∈l.take k,hlt a x=true)→k≤l.length→(∀hk:k<l.length,hlt l[k] x=false∧l[k]≠x)→insH x l=l.take k++x::l.drop k
 | [],k,_,hk,_=>by simp at hk;subst hk;rfl
 | a::l,0,_,_,h=>by
  have:=h (by simp)
  simp only [List.getElem_cons_zero] at this
  rw [insH,this.1,if_neg (by simp),if_neg this.2];rfl
 | a::l,k+1,h1,hk,h=>by
  simp only [List.take_succ_cons,List.mem_cons,List.length_cons,List.drop_succ_cons] at*
  rw [insH,if_pos (h1 a (.inl rfl)),QJN (fun b hb=>h1 b (.inr hb)) zo fun hk'=>h zo];rfl
def QMv (acc:List Hs) (x:Hs):List Hs:=if acc.getLast?=some x then acc else acc++[x]
def QBi (l:List Hs):List Hs:=l.foldl QMv []
theorem QCc {l:List Hs} {x:Hs}:QBi (l++[x])=QMv (QBi l) x:=by simp [QBi]
theorem QDr {α:Type} {p:List α→Prop} (h0:p []) (h1:∀l x,p l→p (l++[x])) (l:List α):p l:=by
 have:∀r:List α,p r.reverse:=fun r=>by
  induction r with
  | nil=>exact h0
  | cons x r ih=>rw [List.reverse_cons];exact h1 _ _ ih
 have:=this l.reverse
 rwa [List.reverse_reverse] at this
theorem QFA (l:List Hs):(QBi l).getLast?=l.getLast?:=by
 induction l using QDr with
 | h0=>rfl
 | h1 l x ih=>
  rw [QCc,QMv]
  split
  ·rename_i h;rw [h,List.getLast?_append];rfl
  ·simp
theorem QLn {h:Hs} (l:List Hs):h∈QBi l↔h∈l:=by
 induction l using QDr with
 | h0=>exact Iff.rfl
 | h1 l x ih=>
  rw [QCc,QMv,List.mem_append,List.mem_singleton]
  split
  ·rename_i e
   rw [ih]
   refine⟨.inl,fun k=>k.elim id fun k=>?_⟩
   rw [←ih,k]
   exact List.mem_of_getLast? e
  ·rw [List.mem_append,List.mem_singleton,ih]
def NFall (l:List Hs):Prop:=l.Pairwise fun a b=>hlt b a=false
theorem QQW {l:List Hs} (h:NFall l):Rise (QBi l):=by
 induction l using QDr with
 | h0=>exact .nil
 | h1 l x ih=>
  obtain⟨h1,-, h2⟩:=List.pairwise_append.1 h
  have hr:=ih h1
  rw [QCc,QMv]
  split
  ·exact hr
  ·rename_i hne
   refine List.pairwise_append.2 ⟨hr,by simp,fun a ha b hb=>?_⟩
   simp only [List.mem_singleton] at hb
   subst hb
   have hal:=(QLn l).1 ha
   rcases QBh a b with e | e | e
   ·subst e
    exfalso
    apply hne
    rw [QFA]
    cases hl:l.getLast? with
    | none=>rw [List.getLast?_eq_none_iff.1 hl] at hal;simp at hal
    | some z=>
     congr 1
     obtain⟨m,rfl⟩:∃m,l=m++[z]:=List.getLast?_eq_some_iff.1 hl
     rcases List.mem_append.1 hal with k | k
     ·have h3:=(List.pairwise_append.1 h1).2.2 a k z (by simp)
      have h4:=h2 z (by simp) a (by simp)
      rcases QBh a z with e | e | e
      ·exact e.symm
      ·rw [h4] at e;cases e
      ·rw [h3] at e;cases e
     ·simp only [List.mem_singleton] at k;exact k.symm
   ·exact e
   ·have:=h2 a hal b (by simp)
    rw [this] at e;cases e
def msH (l:List Hs):List Hs:=l.mergeSort fun x y=>!hlt y x
theorem QWy (l:List Hs):NFall (msH l):=by
 have:=List.pairwise_mergeSort (le:=fun x y=>!hlt y x) (fun a b c h1 h2=>by
  simp only [Bool.not_eq_true'] at*
  cases e:hlt c a with
  | false=>rfl
  | true=>
   rcases QBh b c with k | k | k
   ·subst k;rw [e] at h1;cases h1
   ·have:=QCB k e;rw [h1] at this;cases this
   ·rw [h2] at k;cases k) (fun a b=>by
  rcases QBh a b with k | k | k
  ·subst k;simp [QAX]
  ·simp [QEo k]
  ·simp [QEo k]) l
 exact this.imp fun h=>by simpa using h
theorem QeA {l:List Hs} {h:Hs}:h∈msH l↔h∈l:=(List.mergeSort_perm l _).mem_iff
theorem QDV (l:List Hs):(msH l).length=l.length:=(List.mergeSort_perm l _).length_eq
theorem QK8 (l:List Hs):QBi (msH l)=srt l:=QKo (QQW (QWy l)) fun x=>by rw [QLn,QeA]
open Proofs
theorem tok_2:tok Tryz.prog 2=true:=zK
theorem tsz_2:tsz Tryz.prog 2=1:=zK
theorem tby_2:tby Tryz.prog 2=8:=zK
theorem tagg_2:tagg Tryz.prog 2=some false:=zK
theorem tz_2:tz Tryz.prog 2=some [Value.int IntKind.i64 0]:=zK
theorem tzok_2:tzok Tryz.prog 2=true:=zK
theorem tint_2:tint Tryz.prog 2=some IntKind.i64:=zK
theorem tok_3:tok Tryz.prog 3=true:=zK
theorem tsz_3:tsz Tryz.prog 3=1:=zK
theorem tagg_3:tagg Tryz.prog 3=some false:=zK
theorem QVk:QAS Tryz.prog 3=some true:=zK
theorem QN0:tint Tryz.prog 3=some IntKind.i64:=zK
theorem tok_4:tok Tryz.prog 4=true:=zK
theorem tsz_4:tsz Tryz.prog 4=1:=zK
theorem tagg_4:tagg Tryz.prog 4=some false:=zK
theorem QZo:QHC Tryz.prog 4=false:=zK
theorem tkt_4:tkt Tryz.prog 4=some KT.boolK:=zK
theorem tok_5:tok Tryz.prog 5=true:=zK
theorem tsz_5:tsz Tryz.prog 5=1:=zK
theorem tby_5:tby Tryz.prog 5=1:=zK
theorem Qf4:tagg Tryz.prog 5=some false:=zK
theorem tz_5:tz Tryz.prog 5=some [Value.int IntKind.u8 0]:=zK
theorem tzok_5:tzok Tryz.prog 5=true:=zK
theorem QOv:tint Tryz.prog 5=some IntKind.u8:=zK
theorem tok_9:tok Tryz.prog 9=true:=zK
theorem tsz_9:tsz Tryz.prog 9=1:=zK
theorem tby_9:tby Tryz.prog 9=16:=zK
theorem tagg_9:tagg Tryz.prog 9=some false:=zK
theorem tarr_9:tarr Tryz.prog 9=none:=zK
theorem QcQ:QBo Tryz.prog 9=some 1:=zK
theorem QNz:tstr Tryz.prog 9=true:=zK
theorem tkt_9:tkt Tryz.prog 9=some KT.strK:=zK
theorem tz_9:tz Tryz.prog 9=some [Value.string ByteArray.empty]:=zK
theorem QVw:QAS Tryz.prog 9=some false:=zK
theorem tzok_9:tzok Tryz.prog 9=true:=zK
theorem QRV:tagg Tryz.prog 22=some false:=zK
theorem QOO:Qd Tryz.prog 22=some 115:=zK
theorem QdD:tarr Tryz.prog 22=none:=zK
theorem QYd:QBo Tryz.prog 22=some 0:=zK
theorem tok_23:tok Tryz.prog 23=true:=zK
theorem tsz_23:tsz Tryz.prog 23=1:=zK
theorem tby_23:tby Tryz.prog 23=24:=zK
theorem QR2:tagg Tryz.prog 23=some false:=zK
theorem QOA:Qd Tryz.prog 23=some 5:=zK
theorem QeH:tarr Tryz.prog 23=none:=zK
theorem QY3:QBo Tryz.prog 23=some 0:=zK
theorem Qfa:QDR Tryz.prog 23=true:=zK
theorem tz_23:tz Tryz.prog 23=some [Value.slice none 0 0]:=zK
theorem QTN:QAS Tryz.prog 23=some false:=zK
theorem Qdn:tzok Tryz.prog 23=true:=zK
theorem tok_25:tok Tryz.prog 25=true:=zK
theorem tsz_25:tsz Tryz.prog 25=1:=zK
theorem Qdl:tagg Tryz.prog 25=some false:=zK
theorem tok_26:tok Tryz.prog 26=true:=zK
theorem QeP:tagg Tryz.prog 26=some false:=zK
theorem tok_27:tok Tryz.prog 27=true:=zK
theorem tsz_27:tsz Tryz.prog 27=1:=zK
theorem QbJ:tagg Tryz.prog 27=some false:=zK
theorem QZr:Qd Tryz.prog 27=some 117:=zK
theorem Qcc:tarr Tryz.prog 27=none:=zK
theorem QZf:QBo Tryz.prog 27=some 0:=zK
theorem QTp:QAS Tryz.prog 27=some false:=zK
theorem tok_29:tok Tryz.prog 29=true:=zK
theorem tsz_29:tsz Tryz.prog 29=2:=zK
theorem Qbn:tagg Tryz.prog 29=some true:=zK
theorem QYn:QBM Tryz.prog 29=some [(0,27),(1,27)]:=zK
theorem tz_29:tz Tryz.prog 29=some [Value.slice none 0 0,Value.slice none 0 0]:=zK
theorem tok_32:tok Tryz.prog 32=true:=zK
theorem tsz_32:tsz Tryz.prog 32=1:=zK
theorem Qds:tagg Tryz.prog 32=some false:=zK
theorem QY0:Qd Tryz.prog 32=some 47:=zK
theorem QdT:tarr Tryz.prog 32=none:=zK
theorem QX2:QBo Tryz.prog 32=some 0:=zK
theorem QRp:QAS Tryz.prog 32=some false:=zK
theorem tok_34:tok Tryz.prog 34=true:=zK
theorem tsz_34:tsz Tryz.prog 34=1:=zK
theorem QeC:tagg Tryz.prog 34=some false:=zK
theorem QZV:Qd Tryz.prog 41=some 23:=zK
theorem Qbd:tarr Tryz.prog 41=none:=zK
theorem QXy:QBo Tryz.prog 41=some 0:=zK
theorem QUn:QAS Tryz.prog 41=some false:=zK
theorem tok_47:tok Tryz.prog 47=true:=zK
theorem tsz_47:tsz Tryz.prog 47=32:=zK
theorem tby_47:tby Tryz.prog 47=32:=zK
theorem Qbx:tagg Tryz.prog 47=some true:=zK
theorem QVs:Qd Tryz.prog 47=none:=zK
theorem Qao:tarr Tryz.prog 47=some (32,5):=zK
theorem QYb:QBM Tryz.prog 47=none:=zK
theorem QSz:QHC Tryz.prog 47=false:=zK
theorem tkt_47:tkt Tryz.prog 47=some (KT.arrK 32 IntKind.u8):=zK
theorem tz_47:tz Tryz.prog 47=some   [Value.int IntKind.u8 0,Value.int IntKind.u8 0,Value.int IntKind.u8 0,Value.int IntKind.u8 0,Value.int IntKind.u8 0,Value.int IntKind.u8 0,Value.int IntKind.u8 0,Value.int IntKind.u8 0,Value.int IntKind.u8 0,Value.int IntKind.u8 0,Value.int IntKind.u8 0,Value.int IntKind.u8 0,Value.int IntKind.u8 0,Value.int IntKind.u8 0,Value.int IntKind.u8 0,Value.int IntKind.u8 0,Value.int IntKind.u8 0,Value.int IntKind.u8 0,Value.int IntKind.u8 0,Value.int IntKind.u8 0,Value.int IntKind.u8 0,Value.int IntKind.u8 0,Value.int IntKind.u8 0,Value.int IntKind.u8 0,Value.int IntKind.u8 0,Value.int IntKind.u8 0,Value.int IntKind.u8 0,Value.int IntKind.u8 0,Value.int IntKind.u8 0,Value.int IntKind.u8 0,Value.int IntKind.u8 0,Value.int IntKind.u8 0]:=zK
theorem Qa1:tzok Tryz.prog 47=true:=zK
theorem tok_51:tok Tryz.prog 51=true:=zK
theorem QaI:tsz Tryz.prog 51=5:=zK
theorem tby_51:tby Tryz.prog 51=56:=zK
theorem QcZ:tagg Tryz.prog 51=some true:=zK
theorem Qc2:tarr Tryz.prog 51=none:=zK
theorem QOi:QBM Tryz.prog 51=some [(0,3),(1,9),(2,3),(3,3),(4,9)]:=zK
theorem tz_51:tz Tryz.prog 51=some   [Value.int IntKind.i64 0,Value.string ByteArray.empty,Value.int IntKind.i64 0,Value.int IntKind.i64 0,Value.string ByteArray.empty]:=zK
theorem Qa8:tzok Tryz.prog 51=true:=zK
theorem tok_52:tok Tryz.prog 52=true:=zK
theorem tsz_52:tsz Tryz.prog 52=1:=zK
theorem QbM:tagg Tryz.prog 52=some false:=zK
theorem QN6:Qd Tryz.prog 52=some 51:=zK
theorem Qae:tarr Tryz.prog 52=none:=zK
theorem QZB:QBo Tryz.prog 52=some 0:=zK
theorem QSs:QAS Tryz.prog 52=some false:=zK
theorem tok_54:tok Tryz.prog 54=true:=zK
theorem tsz_54:tsz Tryz.prog 54=6:=zK
theorem QdG:tagg Tryz.prog 54=some true:=zK
theorem Qc7:tarr Tryz.prog 54=none:=zK
theorem QXG:QBM Tryz.prog 54=some [(0,9),(1,3),(2,3),(3,32),(4,9),(5,52)]:=zK
theorem tz_54:tz Tryz.prog 54=some   [Value.string ByteArray.empty,Value.int IntKind.i64 0,Value.int IntKind.i64 0,Value.slice none 0 0,Value.string ByteArray.empty,Value.slice none 0 0]:=zK
theorem QWp:Qd Tryz.prog 69=some 9:=zK
theorem QcU:tarr Tryz.prog 69=none:=zK
theorem QYM:QBo Tryz.prog 69=some 0:=zK
theorem QRi:QAS Tryz.prog 69=some false:=zK
theorem tok_84:tok Tryz.prog 84=true:=zK
theorem tsz_84:tsz Tryz.prog 84=1:=zK
theorem Qbu:tagg Tryz.prog 84=some false:=zK
theorem QbG:tint Tryz.prog 84=some IntKind.u32:=zK
theorem Qdk:tok Tryz.prog 115=true:=zK
theorem QUF:tsz Tryz.prog 115=5:=zK
theorem QWP:tagg Tryz.prog 115=some true:=zK
theorem QYW:tarr Tryz.prog 115=none:=zK
theorem QKE:QBM Tryz.prog 115=some [(0,5),(1,23),(2,9),(3,52),(4,5)]:=zK
theorem tz_115:tz Tryz.prog 115=some   [Value.int IntKind.u8 0,Value.slice none 0 0,Value.string ByteArray.empty,Value.slice none 0 0,Value.int IntKind.u8 0]:=zK
theorem QeX:tok Tryz.prog 117=true:=zK
theorem Qb3:tsz Tryz.prog 117=39:=zK
theorem QdN:tby Tryz.prog 117=152:=zK
theorem QXA:tagg Tryz.prog 117=some true:=zK
theorem QVh:tarr Tryz.prog 117=none:=zK
theorem QTl:QBM Tryz.prog 117=some [(0,47),(32,54),(38,23)]:=zK
theorem tz_117:tz Tryz.prog 117=some   [Value.int IntKind.u8 0,Value.int IntKind.u8 0,Value.int IntKind.u8 0,Value.int IntKind.u8 0,Value.int IntKind.u8 0,Value.int IntKind.u8 0,Value.int IntKind.u8 0,Value.int IntKind.u8 0,Value.int IntKind.u8 0,Value.int IntKind.u8 0,Value.int IntKind.u8 0,Value.int IntKind.u8 0,Value.int IntKind.u8 0,Value.int IntKind.u8 0,Value.int IntKind.u8 0,Value.int IntKind.u8 0,Value.int IntKind.u8 0,Value.int IntKind.u8 0,Value.int IntKind.u8 0,Value.int IntKind.u8 0,Value.int IntKind.u8 0,Value.int IntKind.u8 0,Value.int IntKind.u8 0,Value.int IntKind.u8 0,Value.int IntKind.u8 0,Value.int IntKind.u8 0,Value.int IntKind.u8 0,Value.int IntKind.u8 0,Value.int IntKind.u8 0,Value.int IntKind.u8 0,Value.int IntKind.u8 0,Value.int IntKind.u8 0,Value.string ByteArray.empty,Value.int IntKind.i64 0,Value.int IntKind.i64 0,Value.slice none 0 0,Value.string ByteArray.empty,Value.slice none 0 0,Value.slice none 0 0]:=zK
theorem QZe:tzok Tryz.prog 117=true:=zK
theorem QcD:tok Tryz.prog 120=true:=zK
theorem QdV:tsz Tryz.prog 120=1:=zK
theorem QVj:tagg Tryz.prog 120=some false:=zK
theorem QVm:tmap Tryz.prog 120=some (47,4):=zK
theorem tz_120:tz Tryz.prog 120=some [Value.map none]:=zK
theorem Qd2:tok Tryz.prog 123=true:=zK
theorem Qat:tsz Tryz.prog 123=7:=zK
theorem QV2:tagg Tryz.prog 123=some true:=zK
theorem QYa:tarr Tryz.prog 123=none:=zK
theorem QR3:QBM Tryz.prog 123=some [(0,54),(6,23)]:=zK
theorem tz_123:tz Tryz.prog 123=some   [Value.string ByteArray.empty,Value.int IntKind.i64 0,Value.int IntKind.i64 0,Value.slice none 0 0,Value.string ByteArray.empty,Value.slice none 0 0,Value.slice none 0 0]:=zK
theorem Qd3:tok Tryz.prog 124=true:=zK
theorem Qcu:tsz Tryz.prog 124=1:=zK
theorem QZE:tagg Tryz.prog 124=some false:=zK
theorem QVZ:tarr Tryz.prog 124=none:=zK
theorem QUI:QBo Tryz.prog 124=some 2:=zK
theorem QZq:tmap Tryz.prog 124=some (47,123):=zK
theorem QYH:tarr Tryz.prog 126=none:=zK
theorem QRx:QBM Tryz.prog 126=some [(0,124),(1,124),(2,120)]:=zK
theorem tz_126:tz Tryz.prog 126=some [Value.map none,Value.map none,Value.map none]:=zK
theorem Qco:tok Tryz.prog 154=true:=zK
theorem Qc3:tsz Tryz.prog 154=1:=zK
theorem QWA:tagg Tryz.prog 154=some false:=zK
theorem tz_154:tz Tryz.prog 154=some [Value.int IntKind.u64 0]:=zK
theorem QWr:tint Tryz.prog 154=some IntKind.u64:=zK
theorem QcB:tok Tryz.prog 184=true:=zK
theorem QcT:tsz Tryz.prog 184=2:=zK
theorem QWW:tagg Tryz.prog 184=some true:=zK
theorem QZS:tarr Tryz.prog 184=none:=zK
theorem QVG:QBM Tryz.prog 184=some [(0,25),(1,34)]:=zK
theorem tz_184:tz Tryz.prog 184=some [Value.nilFunc,Value.int IntKind.i64 0]:=zK
theorem QTD:Qd Tryz.prog 186=some 184:=zK
theorem QWY:tarr Tryz.prog 186=none:=zK
theorem QTX:QBo Tryz.prog 186=some 0:=zK
theorem Qb1:tok Tryz.prog 199=true:=zK
theorem Qbm:tsz Tryz.prog 199=2:=zK
theorem QYY:tagg Tryz.prog 199=some true:=zK
theorem QX7:tarr Tryz.prog 199=none:=zK
theorem QSP:QBM Tryz.prog 199=some [(0,23),(1,3)]:=zK
theorem tz_199:tz Tryz.prog 199=some [Value.slice none 0 0,Value.int IntKind.i64 0]:=zK
theorem QdI:tok Tryz.prog 208=true:=zK
theorem Qca:tsz Tryz.prog 208=8:=zK
theorem QWl:tagg Tryz.prog 208=some true:=zK
theorem QUR:Qd Tryz.prog 208=none:=zK
theorem QXY:tarr Tryz.prog 208=some (8,84):=zK
theorem QVE:QBM Tryz.prog 208=none:=zK
theorem tz_208:tz Tryz.prog 208=some   [Value.int IntKind.u32 0,Value.int IntKind.u32 0,Value.int IntKind.u32 0,Value.int IntKind.u32 0,Value.int IntKind.u32 0,Value.int IntKind.u32 0,Value.int IntKind.u32 0,Value.int IntKind.u32 0]:=zK
theorem QXe:tint Tryz.prog 210=some IntKind.u64:=zK
theorem QV9:tarr Tryz.prog 214=none:=zK
theorem QSp:QBM Tryz.prog 214=some [(0,23),(1,34)]:=zK
theorem tz_214:tz Tryz.prog 214=some [Value.slice none 0 0,Value.int IntKind.i64 0]:=zK
theorem QVa:tarr Tryz.prog 220=none:=zK
theorem QTL:QBM Tryz.prog 220=some [(0,23),(1,4)]:=zK
theorem tz_220:tz Tryz.prog 220=some [Value.slice none 0 0,Value.bool false]:=zK
theorem Qdw:tok Tryz.prog 221=true:=zK
theorem QZZ:tagg Tryz.prog 221=some false:=zK
theorem QU9:Qd Tryz.prog 221=some 2:=zK
theorem QWZ:tarr Tryz.prog 221=none:=zK
theorem QTS:QBo Tryz.prog 221=some 0:=zK
theorem QPn:QAS Tryz.prog 221=some false:=zK
theorem Qcd:tok Tryz.prog 242=true:=zK
theorem Qci:tsz Tryz.prog 242=1:=zK
theorem QXH:tagg Tryz.prog 242=some false:=zK
theorem QYL:tarr Tryz.prog 242=none:=zK
theorem QUK:QBo Tryz.prog 242=some 2:=zK
theorem QZx:tmap Tryz.prog 242=some (9,3):=zK
theorem tz_242:tz Tryz.prog 242=some [Value.map none]:=zK
theorem Qaj:tok Tryz.prog 248=true:=zK
theorem Qa7:tsz Tryz.prog 248=64:=zK
theorem QXI:tagg Tryz.prog 248=some true:=zK
theorem QSW:Qd Tryz.prog 248=none:=zK
theorem QZm:tarr Tryz.prog 248=some (64,5):=zK
theorem QdW:tok Tryz.prog 250=true:=zK
theorem Qbk:tsz Tryz.prog 250=74:=zK
theorem QZz:tagg Tryz.prog 250=some true:=zK
theorem QVc:tarr Tryz.prog 250=none:=zK
theorem QRv:QBM Tryz.prog 250=some [(0,208),(8,248),(72,3),(73,3)]:=zK
theorem QQ9:Qd Tryz.prog 252=none:=zK
theorem QYh:tarr Tryz.prog 252=some (8,5):=zK
theorem tz_252:tz Tryz.prog 252=some   [Value.int IntKind.u8 0,Value.int IntKind.u8 0,Value.int IntKind.u8 0,Value.int IntKind.u8 0,Value.int IntKind.u8 0,Value.int IntKind.u8 0,Value.int IntKind.u8 0,Value.int IntKind.u8 0]:=zK
theorem QdC:tok Tryz.prog 260=true:=zK
theorem Qba:tsz Tryz.prog 260=64:=zK
theorem QTj:Qd Tryz.prog 260=none:=zK
theorem QWe:tarr Tryz.prog 260=some (64,84):=zK
theorem QSN:QBM Tryz.prog 260=none:=zK
theorem QR0:Qd Tryz.prog 298=some 301:=zK
theorem QXb:tarr Tryz.prog 298=none:=zK
theorem QTO:QBo Tryz.prog 298=some 0:=zK
theorem QP4:QAS Tryz.prog 298=some false:=zK
theorem QcK:tok Tryz.prog 301=true:=zK
theorem QdH:tsz Tryz.prog 301=2:=zK
theorem QbF:tby Tryz.prog 301=16:=zK
theorem QWu:tarr Tryz.prog 301=none:=zK
theorem QSH:QBM Tryz.prog 301=some [(0,3),(1,2)]:=zK
theorem tz_301:tz Tryz.prog 301=some [Value.int IntKind.i64 0,Value.int IntKind.i64 0]:=zK
theorem QWX:tzok Tryz.prog 301=true:=zK
theorem fol:(Tryz.prog).follows .mixedOrders=true:=zK
attribute [push_cast] tok_2 tsz_2 tby_2 tagg_2 tz_2 tzok_2 tint_2 tok_3 tsz_3 tagg_3 QVk QN0 tok_4 tsz_4 tagg_4 QZo tkt_4 tok_5 tsz_5 tby_5 Qf4 tz_5 tzok_5 QOv tok_9 tsz_9 tby_9 tagg_9 tarr_9 QcQ QNz tkt_9 tz_9 QVw tzok_9 QRV QOO QdD QYd tok_23 tsz_23 tby_23 QR2 QOA QeH QY3 Qfa tz_23 QTN Qdn tok_25 tsz_25 Qdl tok_26 QeP tok_27 tsz_27 QbJ QZr Qcc QZf QTp tok_29 tsz_29 Qbn QYn tz_29 tok_32 tsz_32 Qds QY0 QdT QX2 QRp tok_34 tsz_34 QeC QZV Qbd QXy QUn tok_47 tsz_47 tby_47 Qbx QVs Qao QYb QSz tkt_47 tz_47 Qa1 tok_51 QaI tby_51 QcZ Qc2 QOi tz_51 Qa8 tok_52 tsz_52 QbM QN6 Qae QZB QSs tok_54 tsz_54 QdG Qc7 QXG tz_54 QWp QcU QYM QRi tok_84 tsz_84 Qbu QbG Qdk QUF QWP QYW QKE tz_115 QeX Qb3 QdN QXA QVh QTl tz_117 QZe QcD QdV QVj QVm tz_120 Qd2 Qat QV2 QYa QR3 tz_123 Qd3 Qcu QZE QVZ QUI QZq QYH QRx tz_126 Qco Qc3 QWA tz_154 QWr QcB QcT QWW QZS QVG tz_184 QTD QWY QTX Qb1 Qbm QYY QX7 QSP tz_199 QdI Qca QWl QUR QXY QVE tz_208 QXe QV9 QSp tz_214 QVa QTL tz_220 Qdw QZZ QU9 QWZ QTS QPn Qcd Qci QXH QYL QUK QZx tz_242 Qaj Qa7 QXI QSW QZm QdW Qbk QZz QVc QRv QQ9 QYh tz_252 QdC Qba QTj QWe QSN QR0 QXb QTO QP4 QcK QdH QbF QWu QSH tz_301 QWX
open Proofs
set_option maxHeartbeats 4000000
def lebU (n:Nat):List UInt8:=if n<128 then [UInt8.ofNat n] else (UInt8.ofNat n|||128)::lebU (n / 128)
termination_by n
theorem QGy:∀(k n:Nat),n<128^(k+1)→(lebU n).length≤k+1
 | 0,n,h=>by rw [lebU,if_pos (by simpa using h)];simp
 | k+1,n,h=>by
  rw [lebU]
  split
  ·simp
  ·simp only [List.length_cons]
   have:=QGy k (n / 128) (by rw [Nat.pow_succ] at h;exact Nat.div_lt_of_lt_mul (by rw [Nat.mul_comm];exact h))
   omega
theorem QAA {n:Nat} (h:n<18446744073709551616):(lebU n).length≤10:=QGy 9 n (Nat.lt_of_lt_of_le h zD)
theorem QDo (n:Nat) (h:n<18446744073709551616):POwn Tryz.prog [] 149 [.v (.int .u64 n)] (lebU n).length 1 5 (flat QC (lebU n)):=by
 refine POwn.start Tryz.func149 rfl zK rfl Tryz.ntmps149 fol zK (by simp [idfL,idf]) QQ ?_
 refine zZ ?_
 refine QD (ι:=List UInt8×Nat) (fun i=>⟨[(0,.v (.int .u64 i.2)),(3,.sl 0 0 i.1.length 1)],⟨[(0,.cells 5 (flat QC i.1) true)],1,1,0⟩⟩) (fun i=>i.1++lebU i.2=lebU n∧128^i.1.length*i.2≤n∧(1≤i.2∨i.1=[])) (fun i=>i.2) ([],n) ⟨rfl,by simp,.inr rfl⟩ ?_ ?_
 ·refine Ent.freeze [(0,24)] ?_ ?_ rfl rfl rfl
  ·simp (maxSteps:=400000) (disch:=first | omega | exact okT rfl | simp only [push_cast]) only [push_cast,↓QG,↓reduceIte,Nat.reduceAdd,Nat.reduceMul,Nat.reduceSub,Nat.reduceEqDiff,Nat.reduceBEq,Nat.reduceBNe,Nat.reduceLT,Nat.reduceLeDiff,reduceCtorEq,Op.operands,QA,QB,Nat.sub_zero,Int.toNat_zero,List.take_zero,List.replicate_zero,List.flatten_nil,QBV,fzA]
  ·(have X1:=@Int.toNat_zero;have X2:=@List.replicate_zero.{0};have X3:=@List.flatten_nil.{0};exact zC3)
 rintro⟨acc,m⟩ ⟨hi,hm,hz⟩
 simp only at hi hm hz
 have hl:acc.length<10:=by
  rcases hz with hz | hz
  ·refine Nat.lt_of_not_le fun hc=>?_
   have h1:128^10≤128^acc.length:=Nat.pow_le_pow_right zD hc
   have h2:128^acc.length*1≤128^acc.length*m:=Nat.mul_le_mul_left _ hz
   omega
  ·rw [hz];decide
 refine zS ?_
 refine⟨fun h=>?_,fun h=>?_⟩
 ·have h':128≤m:=by omega
  have hm64:m<18446744073709551616:=by
   have:1*m≤128^acc.length*m:=Nat.mul_le_mul_right _ (Nat.pow_pos zD)
   omega
  refine zS ?_
  refine⟨(acc++[UInt8.ofNat m|||128],m / 128),⟨?_,?_,.inl ?_⟩,?_,?_⟩
  ·rw [←hi,lebU.eq_1 m,if_neg zo];simp
  ·refine Nat.le_trans ?_ hm
   simp only [List.length_append,List.length_cons,List.length_nil,Nat.zero_add,Nat.pow_succ,Nat.mul_assoc]
   exact Nat.mul_le_mul_left _ (Nat.mul_div_le _ _)
  ·show 1≤m / 128;omega
  ·show m / 128<m;omega
  ·refine Ent.freeze [(0,35)] ?_ ?_ rfl rfl rfl
   ·(have X1:=@List.length_append.{0};have X2:=@List.length_cons.{0};have X3:=@List.length_nil.{0};exact zC3)
   ·exact zC
 ·have h':m<128:=by omega
  have he:acc++[UInt8.ofNat m]=lebU n:=by rw [←hi,lebU.eq_1 m,if_pos h']
  have hlen:(lebU n).length=acc.length+1:=by rw [←he];simp
  (have X1:=he;have X2:=hlen;refine zS2 ?_;clear X1 X2)
  refine Ent.freezeN 0 [(0,40)] [] ?_ ?_ rfl rfl rfl zD rfl rfl
  ·exact zC
  ·exact zC
theorem QCg (n:Nat) (h:n<18446744073709551616):PNew Tryz.prog [] 149 [.v (.int .u64 n)] (.seq (lebU n).length 1 (flat QC (lebU n))):=(QDo n h).toNew (by rw [QH,Nat.mul_one])
open Proofs
set_option maxHeartbeats 4000000
def lebS (n:Int):List UInt8:=if h:-64≤n∧n≤63 then [U8 n&&&~~~128] else (U8 n|||128)::lebS (n / 128)
termination_by n.natAbs
decreasing_by omega
theorem QCm:∀(k:Nat) (n:Int),-64*128^k≤n→n<64*128^k→(lebS n).length≤k+1
 | 0,n,h1,h2=>by
  rw [lebS,dif_pos (by simp at h1 h2;omega)];simp
 | k+1,n,h1,h2=>by
  rw [lebS]
  split
  ·simp
  ·simp only [List.length_cons]
   have e:((128:Int)^(k+1))=128^k*128:=Int.pow_succ ..
   rw [e] at h1 h2
   have:=QCm k (n / 128) zo zo
   omega
theorem QMn {n:Int} (h1:-9223372036854775808≤n) (h2:n<9223372036854775808):(lebS n).length≤10:=QCm 9 n zo zo
theorem pbin_shrI {P:Program} {t:TypeId} {x y:Operand} {k':IntKind} {a:Int}:pbin P .shr t x y (.int .i64 a) (.int k' 7)=some (.int .i64 (a / 128)):=by
 have e:pbin P .shr t x y (.int .i64 a) (.int k' 7)=some (.int .i64 (Int.fdiv a (2^7))):=rfl
 rw [e,Int.fdiv_eq_ediv_of_nonneg _ zD]
 rfl
theorem QTY (n:Int) (h1:-9223372036854775808≤n) (h2:n<9223372036854775808):POwn Tryz.prog [] 237 [.v (.int .i64 n)] (lebS n).length 1 5 (flat QC (lebS n)):=by
 refine POwn.start Tryz.func237 rfl zK rfl Tryz.ntmps237 fol zK (by simp [idfL,idf]) QQ ?_
 refine zz ?_
 have hlen:(lebS n).length≤10:=QCm 9 n zo zo
 refine zS ?_
 refine QD (ι:=List UInt8×Int) (fun i=>⟨[(0,.v (.int .i64 i.2)),(3,.sl 0 0 i.1.length 1)],⟨[(0,.cells 5 (flat QC i.1) true)],1,1,0⟩⟩) (fun i=>i.1++lebS i.2=lebS n) (fun i=>i.2.natAbs) ([],n) rfl ?_ ?_
 ·refine Ent.freeze [(0,29)] ?_ ?_ rfl rfl rfl
  ·simp (maxSteps:=400000) (disch:=first | omega | exact okT rfl | simp only [push_cast]) only [push_cast,↓QG,↓reduceIte,Nat.reduceAdd,Nat.reduceMul,Nat.reduceSub,Nat.reduceEqDiff,Nat.reduceBEq,Nat.reduceBNe,Nat.reduceLT,Nat.reduceLeDiff,reduceCtorEq,Op.operands,QA,QB,Nat.sub_zero,Int.toNat_zero,List.take_zero,List.replicate_zero,List.flatten_nil,QBV,fzA]
  ·(have X1:=@Int.toNat_zero;have X2:=@List.replicate_zero.{0};have X3:=@List.flatten_nil.{0};exact zC3)
 rintro⟨acc,m⟩ hi
 simp only at hi
 have hl:acc.length≤10:=by
  have:=congrArg List.length hi
  simp only [List.length_append] at this
  omega
 have fin:-64≤m→m≤63→acc++[U8 m&&&~~~128]=lebS n:=fun ha hb=>by rw [←hi,lebS.eq_1 m,dif_pos ⟨ha,hb⟩]
 have go:¬(-64≤m∧m≤63)→(acc++[U8 m|||128])++lebS (m / 128)=lebS n:=fun ha=>by rw [←hi,lebS.eq_1 m,dif_neg ha];simp
 refine zS ?_
 refine⟨fun h=>?_,fun h=>?_⟩
 ·refine zS ?_
  refine⟨fun h'=>?_,fun h'=>?_⟩
  ·(have X1:=@pbin_shrI;refine zS1 ?_;clear X1)
   refine⟨(acc++[U8 m|||128],m / 128),go zo,?_,?_⟩
   ·show (m / 128).natAbs<m.natAbs;omega
   ·refine Ent.freeze [(0,44)] ?_ ?_ rfl rfl rfl
    ·(have X1:=@List.length_append.{0};have X2:=@List.length_cons.{0};have X3:=@List.length_nil.{0};exact zC3)
    ·exact zC
  ·have hf:=fin zo zo
   have hlen':(lebS n).length=acc.length+1:=by rw [←hf];simp
   (have X1:=hf;have X2:=hlen';refine zS2 ?_;clear X1 X2)
   refine Ent.freezeN 0 [(0,50)] [] ?_ ?_ rfl rfl rfl zD rfl rfl
   ·exact zC
   ·exact zC
 ·(have X1:=@pbin_shrI;refine zS1 ?_;clear X1)
  refine⟨(acc++[U8 m|||128],m / 128),go zo,?_,?_⟩
  ·show (m / 128).natAbs<m.natAbs;omega
  ·refine Ent.freeze [(0,44)] ?_ ?_ rfl rfl rfl
   ·(have X1:=@List.length_append.{0};have X2:=@List.length_cons.{0};have X3:=@List.length_nil.{0};exact zC3)
   ·exact zC
theorem QLC (n:Int) (h1:-9223372036854775808≤n) (h2:n<9223372036854775808):PNew Tryz.prog [] 237 [.v (.int .i64 n)] (.seq (lebS n).length 1 (flat QC (lebS n))):=(QTY n h1 h2).toNew (by rw [QH,Nat.mul_one])
end Go.AW
