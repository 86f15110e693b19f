/- A part of the proof: D33 D34. -/
import Derived.Test.YtpcbnjbpdooejaaGreatDoorPae
import Derived.Test.YtpcbnjbpdooejaaGreatDoorPam
import Derived.Test.YtpcbnjbpdooejaaGreatDoorPah
set_option linter.unusedSimpArgs false
set_option linter.unusedVariables false
set_option maxRecDepth 100000
set_option maxHeartbeats 8000000
namespace Go.AW
open Proofs
theorem QJD {s:ByteArray} {t:List ByteArray}:∀{l:List ByteArray},pos s l<l.length→pos s (l++t)=pos s l
 | [],h=>by simp [pos] at h
 | a::l,h=>by
  rw [List.cons_append,pos,pos]
  by_cases e:a=s
  ·rw [if_pos e,if_pos e]
  ·rw [if_neg e,if_neg e]
   rw [pos,if_neg e,List.length_cons] at h
   rw [QJD zo]
theorem QF6 {s:ByteArray}:∀{l:List ByteArray},¬pos s l<l.length→pos s (l++[s])=l.length
 | [],_=>by simp [pos]
 | a::l,h=>by
  rw [pos,List.length_cons] at h
  by_cases e:a=s
  ·rw [if_pos e] at h;omega
  ·rw [if_neg e] at h
   rw [List.cons_append,pos,if_neg e,QF6 zo];rfl
theorem QEm {s:ByteArray} {l:List ByteArray} (h:pos s l<l.length):QC5 l s=pos s l:=by
 rw [QC5,QEe,if_pos h];simp
theorem QXZ (l:List OpV):∀o∈l,pos o.name (QAT l)<(QAT l).length:=by
 have key:∀(l:List OpV) (ns:List ByteArray),(∀s,pos s ns<ns.length→pos s (l.foldl (fun ns o=>addN ns o.name) ns)<(l.foldl (fun ns o=>addN ns o.name) ns).length)∧∀o∈l,pos o.name (l.foldl (fun ns o=>addN ns o.name) ns)<(l.foldl (fun ns o=>addN ns o.name) ns).length:=by
  intro l
  induction l with
  | nil=>intro ns;simp
  | cons o l ih=>
   intro ns
   obtain⟨h1,h2⟩:=ih (addN ns o.name)
   have h3:∀s,pos s ns<ns.length→pos s (addN ns o.name)<(addN ns o.name).length:=fun s hs=>by
    rw [addN];split
    ·exact hs
    ·rw [QJD hs];simp;omega
   have h4:pos o.name (addN ns o.name)<(addN ns o.name).length:=by
    rw [addN];split
    ·assumption
    ·rename_i h;rw [QF6 h];simp
   refine⟨fun s hs=>h1 s (h3 s hs),fun p hp=>?_⟩
   rcases List.mem_cons.1 hp with e | e
   ·rw [e];exact h1 _ h4
   ·exact h2 p e
 exact (key l []).2
theorem QIt:∀(l:List OpV) (ns:List ByteArray) (s:ByteArray),s∈l.foldl (fun ns o=>addN ns o.name) ns→s∈ns∨∃o∈l,o.name=s
 | [],ns,s,h=>.inl h
 | o::l,ns,s,h=>by
  rcases QIt l _ s h with h1 | ⟨p,h1,h2⟩
  ·have h1:s∈addN ns o.name:=h1
   rw [addN] at h1
   split at h1
   ·exact .inl h1
   ·rcases List.mem_append.1 h1 with h2 | h2
    ·exact .inl h2
    ·exact .inr ⟨o,by simp,(List.mem_singleton.1 h2).symm⟩
  ·exact .inr ⟨p,by simp [h1],h2⟩
theorem QaZ (l:List OpV) (hl:l.length≤1048576) (hs:∀o∈l,QCP o):PNew Tryz.prog [] 191 [.seq l.length 5 (flat QX l)] (.tup [.seq (QAb l).length 1 (flat QC (QAb l)),.v (.int .i64 (QAM l))]):=by
 refine PNew.startW Tryz.func191 rfl zK rfl Tryz.ntmps191 fol zK (by simp [idfL,idf,QZ QS,QS,Qg,Qy,QFB]) (by simp [idfL,idf,QZ QS,QS,Qg,Qy,QFB]) ?_
 refine zZ ?_
 refine⟨fun h=>?_,fun h=>?_⟩
 ·have hp:QAM l=5:=if_pos zo
  have hr:QAb l=[]:=by rw [QAb,hp];rfl
  rw [hp,hr]
  first | exact zC | refine zS ?_
  try rfl
 ·refine zS ?_
  refine QD (ι:=Nat×List ByteArray×List Int×List Int×List Int×List Int×List UInt8) (fun q=>⟨[(0,.seq l.length 5 (flat QX l)),(4,.sl 0 0 q.2.1.length 1),(5,.sl 1 0 q.2.2.1.length 1),(6,.sl 2 0 q.2.2.2.1.length 1),(7,.sl 3 0 q.2.2.2.2.1.length 1),(8,.sl 4 0 q.2.2.2.2.2.1.length 1),(9,.sl 5 0 q.2.2.2.2.2.2.length 1),(10,.v (.int .i64 q.1))],
    ⟨[(0,.cells 9 (flat QAf q.2.1) true),(1,.cells 2 (flat Qa q.2.2.1) true),(2,.cells 2 (flat Qa q.2.2.2.1) true),(3,.cells 2 (flat Qa q.2.2.2.2.1) true),(4,.cells 2 (flat Qa q.2.2.2.2.2.1) true),(5,.cells 5 (flat QC q.2.2.2.2.2.2) true)],6,6,0⟩⟩)
   (fun q=>q.1≤l.length∧(∀o∈l.take q.1,QBp o=true)∧q.2.1=QAT (l.take q.1)∧q.2.2.1=(l.take q.1).map (·.kind)∧q.2.2.2.1=(l.take q.1).map (fun o=>QC5 q.2.1 o.name)∧q.2.2.2.2.1=(l.take q.1).map (·.pos)∧q.2.2.2.2.2.1=(l.take q.1).map (·.by_)∧q.2.2.2.2.2.2=QBJ (l.take q.1)∧q.2.2.2.2.2.2.length≤1034*q.1) (fun q=>l.length - q.1) (0,[],[],[],[],[],[]) ⟨Nat.zero_le _,by simp,rfl,rfl,rfl,rfl,rfl,rfl,Nat.le_refl _⟩ ?_ ?_
  ·exact fzN 0 [] []
  rintro⟨i,ns,K,W,Q,B,tb⟩ ⟨hi,hmay,hns,hK,hW,hQ,hB,htb,htl⟩
  simp only at hi hmay hns hK hW hQ hB htb htl
  have hnl:ns.length≤i:=by have:=QFG (l.take i);rw [←hns,List.length_take] at this;omega
  have hKl:K.length=i:=by rw [hK];simp;omega
  have hWl:W.length=i:=by rw [hW];simp;omega
  have hQl:Q.length=i:=by rw [hQ];simp;omega
  have hBl:B.length=i:=by rw [hB];simp;omega
  refine zS ?_
  refine⟨fun h1=>?_,fun h1=>?_⟩
  ·have hi1:i<l.length:=by omega
   obtain⟨s1,s2,s3,s4,s5⟩:=hs l[i] (List.getElem_mem hi1)
   refine zS ?_
   refine (rMay_c l[i] s1 s2).useV ?_
   cases hm:QBp l[i]
   ·have hp:QAM l=40:=by
     rw [QAM,if_neg zo,if_neg]
     intro hall
     have:=List.all_eq_true.1 hall l[i] (List.getElem_mem hi1)
     rw [hm] at this;cases this
    have hr:QAb l=[]:=by rw [QAb,hp];rfl
    rw [hp,hr]
    first | exact zC | refine zS ?_
    try rfl
   ·skip
    have hmay1:∀o∈l.take (i+1),QBp o=true:=fun o ho=>by
     rw [List.take_succ_eq_append_getElem hi1] at ho
     rcases List.mem_append.1 ho with h | h
     ·exact hmay o h
     ·rw [List.mem_singleton.1 h];exact hm
    have htm:l[i].text.size≤1024:=by
     have hb:QBP l[i].name=true:=by rw [QBp,Bool.and_eq_true] at hm;exact hm.1
     have:=(QBe hb).1 hm
     omega
    have hl2:=QBc (s:=l[i].text) zo
    have hnN:QAT (l.take (i+1))=addN ns l[i].name:=by rw [List.take_succ_eq_append_getElem hi1,QAT,List.foldl_append,hns];rfl
    have htN:QBJ (l.take (i+1))=QBJ (l.take i)++(if QA4 l[i]=true then lebB l[i].text else []):=by
     rw [List.take_succ_eq_append_getElem hi1,QBJ,List.filter_append,List.flatMap_append]
     congr 1
     by_cases h:QA4 l[i]=true
     ·rw [List.filter_cons_of_pos h,if_pos h];simp
     ·rw [List.filter_cons_of_neg h,if_neg h];rfl
    have hmap:∀f:OpV→Int,(l.take (i+1)).map f=(l.take i).map f++[f l[i]]:=fun f=>by rw [List.take_succ_eq_append_getElem hi1,List.map_append];rfl
    have hin:∀o∈l.take i,pos o.name ns<ns.length:=by rw [hns];exact QXZ _
    have hpl:=QTH (s:=l[i].name) ns
    have hsa:List.take ns.length (flat QAf ns)=flat QAf ns:=List.take_of_length_le (by rw [QW QBF,Nat.mul_one];exact Nat.le_refl _)
    have hsn:flat QAf ns++[AV.v (.string l[i].name)]=flat QAf (ns++[l[i].name]):=by simp [flat,QAf]
    refine zS ?_
    refine (QdF ns zo l[i].name).use (ids:=[0]) (by have X1:=hsa;exact zCN1) (.inl rfl) ?_
    refine zS ?_
    refine⟨fun hp=>?_,fun hp=>?_⟩
    ·have hnew:¬pos l[i].name ns<ns.length:=by omega
     have hWn:W++[(pos l[i].name ns:Int)]=(l.take (i+1)).map (fun o=>QC5 (ns++[l[i].name]) o.name):=by
      rw [hmap,hW,show pos l[i].name ns=ns.length by omega,QEm (by rw [QF6 hnew];simp),QF6 hnew]
      congr 1
      apply List.map_congr_left
      intro o ho
      have:=hin o ho
      rw [QEm this,QEm (by rw [QJD this];simp;omega),QJD this]
     (have X1:=hsn;refine zS1 ?_;clear X1)
     iterate 14 all_goals (try (refine And.intro (fun _=>?_) (fun _=>?_)<;>try (have X1:=hsn;have X2:=@jflat_snoc;first | exact zC2 | refine zS2 ?_)))
     all_goals first
      | (
        refine⟨(i+1,ns++[l[i].name],K++[l[i].kind],W++[(pos l[i].name ns:Int)],Q++[l[i].pos],B++[l[i].by_],tb),⟨hi1,hmay1,by show _=QAT (l.take (i+1));rw [hnN,addN,if_neg hnew],by show _=(l.take (i+1)).map _;rw [hmap,hK],hWn,by show _=(l.take (i+1)).map _;rw [hmap,hQ],by show _=(l.take (i+1)).map _;rw [hmap,hB],by show _=QBJ (l.take (i+1));rw [htN,if_neg (by simp only [QA4,decide_eq_true_eq];omega),htb];simp,by show (tb).length≤1034*(i+1);first | omega | (rw [List.length_append];omega)⟩,zO,?_⟩
        (have X1:=@List.length_append.{0};have X2:=@List.length_cons.{0};have X3:=@List.length_nil.{0};refine fzNM 0 [(0,594),(1,708),(2,821),(3,935),(4,1049),(5,5)] [] ?_ ?_<;>first | exact zC3 | refine zS3 ?_))
      | (
        refine POwn.useV (QGR l[i].text zo) ?_
        rw [show lebT l[i].text.data.toList=lebB l[i].text from rfl]
        refine zS ?_
        refine⟨(i+1,ns++[l[i].name],K++[l[i].kind],W++[(pos l[i].name ns:Int)],Q++[l[i].pos],B++[l[i].by_],tb++lebB l[i].text),⟨hi1,hmay1,by show _=QAT (l.take (i+1));rw [hnN,addN,if_neg hnew],by show _=(l.take (i+1)).map _;rw [hmap,hK],hWn,by show _=(l.take (i+1)).map _;rw [hmap,hQ],by show _=(l.take (i+1)).map _;rw [hmap,hB],by show _=QBJ (l.take (i+1));rw [htN,if_pos (by simp only [QA4,decide_eq_true_eq];omega),htb],by show (tb++lebB l[i].text).length≤1034*(i+1);first | omega | (rw [List.length_append];omega)⟩,zO,?_⟩
        (have X1:=@List.length_append.{0};have X2:=@List.length_cons.{0};have X3:=@List.length_nil.{0};refine fzNM 0 [(0,594),(1,708),(2,821),(3,935),(4,1049),(5,1280)] [] ?_ ?_<;>first | exact zC3 | refine zS3 ?_))
    ·have hold:pos l[i].name ns<ns.length:=by omega
     have hWn:W++[(pos l[i].name ns:Int)]=(l.take (i+1)).map (fun o=>QC5 ns o.name):=by
      rw [hmap,hW,QEm hold]
     (have X1:=hsn;have X2:=@jflat_snoc;refine zS2 ?_;clear X1 X2)
     iterate 14 all_goals (try (refine And.intro (fun _=>?_) (fun _=>?_)<;>try (have X1:=hsn;have X2:=@jflat_snoc;first | exact zC2 | refine zS2 ?_)))
     all_goals first
      | (
        refine⟨(i+1,ns,K++[l[i].kind],W++[(pos l[i].name ns:Int)],Q++[l[i].pos],B++[l[i].by_],tb),⟨hi1,hmay1,by show _=QAT (l.take (i+1));rw [hnN,addN,if_pos hold],by show _=(l.take (i+1)).map _;rw [hmap,hK],hWn,by show _=(l.take (i+1)).map _;rw [hmap,hQ],by show _=(l.take (i+1)).map _;rw [hmap,hB],by show _=QBJ (l.take (i+1));rw [htN,if_neg (by simp only [QA4,decide_eq_true_eq];omega),htb];simp,by show (tb).length≤1034*(i+1);first | omega | (rw [List.length_append];omega)⟩,zO,?_⟩
        (have X1:=@List.length_append.{0};have X2:=@List.length_cons.{0};have X3:=@List.length_nil.{0};refine fzNM 0 [(0,0),(1,599),(2,712),(3,826),(4,940),(5,5)] [] ?_ ?_<;>first | exact zC3 | refine zS3 ?_))
      | (
        refine POwn.useV (QGR l[i].text zo) ?_
        rw [show lebT l[i].text.data.toList=lebB l[i].text from rfl]
        refine zS ?_
        refine⟨(i+1,ns,K++[l[i].kind],W++[(pos l[i].name ns:Int)],Q++[l[i].pos],B++[l[i].by_],tb++lebB l[i].text),⟨hi1,hmay1,by show _=QAT (l.take (i+1));rw [hnN,addN,if_pos hold],by show _=(l.take (i+1)).map _;rw [hmap,hK],hWn,by show _=(l.take (i+1)).map _;rw [hmap,hQ],by show _=(l.take (i+1)).map _;rw [hmap,hB],by show _=QBJ (l.take (i+1));rw [htN,if_pos (by simp only [QA4,decide_eq_true_eq];omega),htb],by show (tb++lebB l[i].text).length≤1034*(i+1);first | omega | (rw [List.length_append];omega)⟩,zO,?_⟩
        (have X1:=@List.length_append.{0};have X2:=@List.length_cons.{0};have X3:=@List.length_nil.{0};refine fzNM 0 [(0,0),(1,599),(2,712),(3,826),(4,940),(5,1171)] [] ?_ ?_<;>first | exact zC3 | refine zS3 ?_))
  ·obtain rfl:i=l.length:=by omega
   rw [List.take_length] at hmay hns hK hW hQ hB htb
   have hp:QAM l=0:=by rw [QAM,if_neg zo,if_pos (List.all_eq_true.2 hmay)]
   have hr:QAb l=QAy l:=by rw [QAb,if_pos hp]
   rw [hp,hr]
   have hrm:∀(f:OpV→Int),(∀o∈l,-9223372036854775808≤f o∧f o<9223372036854775808)→∀x∈l.map f,-9223372036854775808≤x∧x<9223372036854775808:=fun f hf x hx=>by
    obtain⟨o,ho,rfl⟩:=List.mem_map.1 hx;exact hf o ho
   have hk:=hrm (·.kind) fun o ho=>(hs o ho).2.2.1
   have hpp:=hrm (·.pos) fun o ho=>(hs o ho).2.2.2.1
   have hby:=hrm (·.by_) fun o ho=>(hs o ho).2.2.2.2
   have hww:=hrm (fun o=>QC5 ns o.name) fun o _=>by have:=QDH ns o.name;constructor<;>omega
   rw [←hK] at hk
   rw [←hQ] at hpp
   rw [←hB] at hby
   rw [←hW] at hww
   have b1:=QAV K zo hk
   have b2:=QAV W zo hww
   have b3:=QAV (QAU 0 Q) (by rw [Qn];omega) (QCS _ _)
   have b4:=QAV B zo hby
   have b5:=QAA (show ns.length<18446744073709551616 by omega)
   rw [Qn] at b3
   refine zS ?_
   refine POwn.use (ids:=[1]) (QIw K zo hk) (by have X1:=@Qec;exact zCN1) ?_
   refine zS ?_
   have hwn:IntKind.u64.wrap (ns.length:Int)=ns.length:=QU zo zo
   refine POwn.useV (QGw ns.length zo) ?_
   refine zS ?_
   have hnsz:∀s∈ns,s.size≤1048576:=fun s hs1=>by
    rw [hns] at hs1
    rcases QIt l [] s hs1 with h | ⟨o,h1,rfl⟩
    ·simp at h
    ·exact (hs o h1).1
   refine QD (ι:=Nat×List UInt8) (fun q=>⟨[(4,.seq ns.length 1 (flat QAf ns)),(6,.seq W.length 1 (flat Qa W)),(7,.seq Q.length 1 (flat Qa Q)),(8,.seq B.length 1 (flat Qa B)),(9,.seq tb.length 1 (flat QC tb)),(13,.sl 0 0 q.2.length 1),(14,.v (.int .i64 q.1))],⟨[(0,.cells 5 (flat QC q.2) true)],1,1,0⟩⟩)
    (fun q=>q.1≤ns.length∧q.2=QAI K++(lebU ns.length++(ns.take q.1).flatMap lebB)∧q.2.length≤6000+1048600*q.1) (fun q=>ns.length - q.1) (0,QAI K++lebU ns.length) ⟨Nat.zero_le _,by simp,by show (QAI K++lebU ns.length).length≤_;rw [List.length_append];omega⟩ ?_ ?_
   ·have hsa:List.take ns.length (flat QAf ns)=flat QAf ns:=List.take_of_length_le (by rw [QW QBF,Nat.mul_one];exact Nat.le_refl _)
    (have X1:=hsa;have X2:=@Qec;have X3:=@List.length_append.{0};exact fzN3 0 [(0,197)] [])
   rintro⟨i,out⟩ ⟨hi2,ho,hol⟩
   simp only at hi2 ho hol
   refine zS ?_
   refine⟨fun h2=>?_,fun h2=>?_⟩
   ·have hi3:i<ns.length:=by omega
    have hsz:=hnsz ns[i] (List.getElem_mem hi3)
    have hll:=QBc (s:=ns[i]) zo
    refine zS ?_
    refine POwn.useV (QGR ns[i] zo) ?_
    rw [show lebT ns[i].data.toList=lebB ns[i] from rfl]
    refine zS ?_
    refine⟨(i+1,out++lebB ns[i]),⟨hi3,by show out++lebB ns[i]=QAI K++(lebU ns.length++(ns.take (i+1)).flatMap lebB);rw [List.take_succ_eq_append_getElem hi3,List.flatMap_append,ho];simp only [List.flatMap_cons,List.flatMap_nil,List.append_nil,List.append_assoc],by show (out++lebB ns[i]).length≤_;rw [List.length_append];omega⟩,zO,?_⟩
    (have X1:=@List.length_append.{0};exact fzN1 0 [(0,205)] [])
   ·obtain rfl:i=ns.length:=by omega
    rw [List.take_length] at ho
    refine zS ?_
    refine POwn.useV (QIw W zo hww) ?_
    refine zS ?_
    refine POwn.useV (QSx Q zo hpp) ?_
    refine zS ?_
    refine POwn.useV (QIw B zo hby) ?_
    refine zS ?_
    have hPB:QAy l=out++(QAI W++(QAI (QAU 0 Q)++(QAI B++tb))):=by
     rw [QAy,←hns,←hK,←hW,←hQ,←hB,←htb,ho]
     simp only [List.flatten_cons,List.flatten_nil,List.append_nil,List.append_assoc]
    have hPl:(QAy l).length=out.length+(QAI W).length+(QAI (QAU 0 Q)).length+(QAI B).length+tb.length:=by
     rw [hPB];simp only [List.length_append];omega
    rw [←hPB,←hPl,QT,List.take_length]
open Proofs
def rdgO (b:List UInt8) (bad:Bool):AObj:=.cells 220 [.seq b.length 1 (flat QC b),.v (.bool bad)] false
def colB (R:List Int×Nat×Nat) (b:List UInt8) (bad:Bool):List UInt8×Bool:=if bad=false∧R.2.2=0 then (b.drop R.2.1,false) else (b,true)
def colL (R:List Int×Nat×Nat) (bad:Bool):List Int:=if bad=false∧R.2.2=0 then R.1 else []
def colV (R:List Int×Nat×Nat) (bad:Bool):AV:=.sl 1 0 (colL R bad).length 1
def colO (R:List Int×Nat×Nat) (b:List UInt8) (bad:Bool):List (Nat×AObj):=[(0,rdgO (colB R b bad).1 (colB R b bad).2),(1,.cells 2 (flat Qa (colL R bad)) true)]
theorem QFz (g:FuncId) (R:List Int×Nat×Nat) (b:List UInt8) (bad:Bool) (hb:b.length≤1048576) (hR:R.2.1≤b.length) (hg:QM Tryz.prog [] g [.seq b.length 1 (flat QC b),.v (.int .i64 256)] [] 0 (grV R) (grO R) 1):
  QM Tryz.prog [] 168 [.ptr 0 0,.v (.func (.func g) #[] #[])] [(0,rdgO b bad)] 1 (colV R bad) (colO R b bad) 2:=by
 refine QM.start Tryz.func168 rfl zK rfl Tryz.ntmps168 fol zK zD ?_
 refine zz ?_
 (have X1:=@rdgO.eq_1;refine zS1 ?_;clear X1)
 obtain⟨l,used,e⟩:=R
 simp only at hR
 by_cases he:e=0
 ·subst he
  obtain⟨r1,r2⟩:=QOb (R:=(l,used,0)) rfl
  rw [r1,r2] at hg
  refine QM.useX [] hg rfl (by simp only [QCA,QC1,renA];rw [QAj Qg]) ?_ ?_
  ·exact zC
  have hd:List.take (b.length - used) (List.drop used (flat QC b))=flat QC (b.drop used):=by
   rw [QL,QT,List.take_of_length_le (by rw [List.length_drop];exact Nat.le_refl _)]
  refine zS ?_
  cases bad
  ·(have X1:=decide_true;have X2:=@Bool.not_true;have X3:=hd;refine zS3 ?_;clear X1 X2 X3)
   have c1:colV (l,used,0) false=.sl 1 0 l.length 1:=rfl
   have c2:colO (l,used,0) b false=[(0,rdgO (b.drop used) false),(1,.cells 2 (flat Qa l) true)]:=rfl
   rw [c1,c2]
   (have X1:=@rdgO.eq_1;have X2:=decide_true;have X3:=@Bool.not_true;have X4:=hd;have X5:=@List.length_drop.{0};exact fzN5 1 [(0,0),(1,87)] [])
  ·refine zS ?_
   have c1:colV (l,used,0) true=.sl 1 0 0 1:=rfl
   have c2:colO (l,used,0) b true=[(0,rdgO b true),(1,.cells 2 [] true)]:=rfl
   rw [c1,c2]
   (have X1:=@rdgO.eq_1;exact fzN1 1 [(0,0)] [])
 ·have r1:grV (l,used,e)=.tup [.v (.slice none 0 0),.v (.int .i64 0),.v (.int .i64 e)]:=if_neg he
  have r2:grO (l,used,e)=[]:=if_neg he
  rw [r1,r2] at hg
  refine QM.useX [] hg rfl (by simp only [QCA,QC1,renA];rw [QAj Qg]) ?_ ?_
  ·exact zC
  refine zS ?_
  have hde:decide ((e:Int)=0)=false:=decide_eq_false zo
  have c1:colV (l,used,e) bad=.sl 1 0 0 1:=by rw [colV,colL,if_neg (fun h=>he h.2)];rfl
  have c2:colO (l,used,e) b bad=[(0,rdgO b true),(1,.cells 2 [] true)]:=by rw [colO,colL,colB,if_neg (fun h=>he h.2),if_neg (fun h=>he h.2)];rfl
  rw [c1,c2]
  cases bad
  ·refine zS ?_
   refine⟨fun _=>?_,fun h=>absurd h zo⟩
   (have X1:=hde;have X2:=@Bool.not_false;refine zS2 ?_;clear X1 X2)
   (have X1:=@rdgO.eq_1;have X2:=hde;have X3:=@Bool.not_false;exact fzN3 1 [(0,0)] [])
  ·(have X1:=hde;have X2:=@Bool.not_false;refine zS2 ?_;clear X1 X2)
   (have X1:=@rdgO.eq_1;exact fzN1 1 [(0,0)] [])
theorem QTb (b:List UInt8) (bad:Bool) (most:Nat) (hb:b.length≤1048576) (hm:most≤1152921504606846976):
  QM Tryz.prog [] 173 [.ptr 0 0,.v (.int .i64 most)] [(0,rdgO b bad)] 1 (.v (.string (if bad=false∧(getT b most).2.2=0 then (getT b most).1 else ⟨#[]⟩)))
   [(0,if bad=false∧(getT b most).2.2=0 then rdgO (b.drop (getT b most).2.1) false else rdgO b true)] 1:=by
 refine QM.start Tryz.func173 rfl zK rfl Tryz.ntmps173 fol zK zD ?_
 refine zz ?_
 (have X1:=@rdgO.eq_1;refine zS1 ?_;clear X1)
 refine (QCy b most zo hm).useV ?_
 have hk:=QJi b most
 generalize getT b most=q at hk ⊢
 obtain⟨s,k,e⟩:=q
 simp only at hk
 have hd:List.take (b.length - k) (List.drop k (flat QC b))=flat QC (b.drop k):=by
  rw [QL,QT,List.take_of_length_le (by rw [List.length_drop];exact Nat.le_refl _)]
 (have X1:=@gtR.eq_1;refine zS1 ?_;clear X1)
 by_cases he:e=0
 ·subst he
  cases bad
  ·rw [if_pos (show false=false∧(s,k,0).2.2=0 from ⟨rfl,rfl⟩),if_pos (show false=false∧(s,k,0).2.2=0 from ⟨rfl,rfl⟩)]
   (have X1:=decide_true;have X2:=@Bool.not_true;have X3:=hd;refine zS3 ?_;clear X1 X2 X3)
   (have X1:=@rdgO.eq_1;have X2:=decide_true;have X3:=@Bool.not_true;have X4:=hd;have X5:=@List.length_drop.{0};exact fzN5 1 [(0,0)] [])
  ·rw [if_neg (show ¬(true=false∧(s,k,0).2.2=0) by simp),if_neg (show ¬(true=false∧(s,k,0).2.2=0) by simp)]
   refine zS ?_
   (have X1:=@rdgO.eq_1;exact fzN1 1 [(0,0)] [])
 ·have hde:decide ((e:Int)=0)=false:=decide_eq_false zo
  rw [if_neg (show ¬(bad=false∧(s,k,e).2.2=0) from fun h=>he h.2),if_neg (show ¬(bad=false∧(s,k,e).2.2=0) from fun h=>he h.2)]
  cases bad
  ·refine zS ?_
   refine⟨fun _=>?_,fun h=>absurd h zo⟩
   (have X1:=hde;have X2:=@Bool.not_false;refine zS2 ?_;clear X1 X2)
   (have X1:=@rdgO.eq_1;have X2:=hde;have X3:=@Bool.not_false;exact fzN3 1 [(0,0)] [])
  ·(have X1:=hde;have X2:=@Bool.not_false;refine zS2 ?_;clear X1 X2)
   (have X1:=@rdgO.eq_1;exact fzN1 1 [(0,0)] [])
def nmF:Nat→List UInt8→List ByteArray→List ByteArray×List UInt8×Bool
 | 0,b,acc=>(acc,b,false)
 | n+1,b,acc=>if (getT b 32).2.2=0 then nmF n (b.drop (getT b 32).2.1) (acc++[(getT b 32).1]) else (acc++[⟨#[]⟩],b,true)
def QA1 (b:List UInt8) (bad:Bool):List ByteArray×List UInt8×Bool:=
 if bad=true∨(getU 0 0 b).2.2≠0∨256<(getU 0 0 b).1.toNat then ([],b,true) else nmF (getU 0 0 b).1.toNat (b.drop (getU 0 0 b).2.1) []
theorem QeL (b:List UInt8) (bad:Bool) (hb:b.length≤1048576):
  QM Tryz.prog [] 170 [.ptr 0 0] [(0,rdgO b bad)] 1 (.sl 1 0 (QA1 b bad).1.length 1)
   [(0,rdgO (QA1 b bad).2.1 (QA1 b bad).2.2),(1,.cells 9 (flat QAf (QA1 b bad).1) true)] 2:=by
 refine QM.start Tryz.func170 rfl zK rfl Tryz.ntmps170 fol zK zD ?_
 refine zz ?_
 (have X1:=@rdgO.eq_1;refine zS1 ?_;clear X1)
 refine (QAo b zo).useV ?_
 obtain⟨k1,k2⟩:=QCn b 0 0
 obtain⟨R,hR⟩:∃R,R=QA1 b bad:=⟨_,rfl⟩
 rw [←hR]
 rw [QA1] at hR
 generalize getU 0 0 b=q at k1 k2 hR ⊢
 obtain⟨n,k,e⟩:=q
 simp only at k1 k2 hR
 have hd:List.take (b.length - k) (List.drop k (flat QC b))=flat QC (b.drop k):=by
  rw [QL,QT,List.take_of_length_le (by rw [List.length_drop];exact Nat.le_refl _)]
 (have X1:=@guR.eq_1;refine zS1 ?_;clear X1)
 cases bad
 ·refine zS ?_
  refine⟨fun he=>?_,fun he=>?_⟩
  ·(have X1:=hd;refine zS1 ?_;clear X1)
   refine⟨fun hm=>?_,fun hm=>?_⟩
   ·rw [if_pos (.inr (.inr zo))] at hR
    subst hR
    have hdm:decide (256<(n.toNat:Int))=true:=decide_eq_true hm
    (have X1:=hdm;refine zS1 ?_;clear X1)
    (have X1:=@rdgO.eq_1;have X2:=@QOx;have X3:=@List.length_nil.{0};have X4:=hdm;exact fzN4 1 [(0,0)] [])
   ·rw [if_neg (by simp;omega)] at hR
    have hdm:decide (256<(n.toNat:Int))=false:=decide_eq_false hm
    (have X1:=hd;have X2:=hdm;refine zS2 ?_;clear X1 X2)
    refine QD (ι:=Nat×List UInt8×List ByteArray×Bool) (fun q=>⟨[(0,.ptr 0 0),(3,.v (.int .u64 q.1)),(6,.sl 1 0 q.2.2.1.length 1)],⟨[(0,rdgO q.2.1 q.2.2.2),(1,.cells 9 (flat QAf q.2.2.1) true)],2,2,0⟩⟩)
     (fun q=>q.2.1.length≤b.length∧q.2.2.1.length+q.1≤257∧q.1≤256∧(if q.2.2.2=true then (q.2.2.1,q.2.1,true)=R else nmF q.1 q.2.1 q.2.2.1=R)) (fun q=>q.1) (n.toNat,b.drop k,[],false) ⟨by show (b.drop k).length≤_;rw [List.length_drop];omega,by show 0+n.toNat≤257;omega,by show n.toNat≤256;omega,hR.symm⟩ ?_ ?_
    ·(have X1:=@rdgO.eq_1;have X2:=@QOx;have X3:=@List.length_nil.{0};have X4:=@List.length_drop.{0};exact fzN4 1 [(0,0)] [])
    rintro⟨m,c,acc,bd⟩ ⟨h1,h2,h3,h4⟩
    simp only at h1 h2 h3 h4
    (have X1:=@rdgO.eq_1;refine zS1 ?_;clear X1)
    refine⟨fun h5=>?_,fun h5=>?_⟩
    ·cases bd
     ·rw [if_neg zD] at h4
      obtain⟨m,rfl⟩:∃j,m=j+1:=⟨m - 1,by omega⟩
      rw [nmF] at h4
      have ht:=QTb c false 32 zo zD
      have hk:=QJi c 32
      have hsn:∀s,flat QAf acc++[AV.v (.string s)]=flat QAf (acc++[s]):=fun s=>by simp [flat,QAf]
      generalize getT c 32=t at ht h4 hk
      obtain⟨s,k2,e2⟩:=t
      simp only at h4 hk
      refine zS ?_
      by_cases he2:e2=0
      ·subst he2
       rw [if_pos rfl] at h4
       rw [if_pos (show false=false∧(s,k2,0).2.2=0 from ⟨rfl,rfl⟩),if_pos (show false=false∧(s,k2,0).2.2=0 from ⟨rfl,rfl⟩)] at ht
       simp only [rdgO] at ht
       refine QM.useX [0] ht rfl rfl ?_ ?_
       ·exact zC
       (have X1:=hsn;have X2:=@List.length_drop.{0};refine zS2 ?_;clear X1 X2)
       refine⟨(m,c.drop k2,acc++[s],false),⟨by show (c.drop k2).length≤_;rw [List.length_drop];omega,by show (acc++[s]).length+m≤257;rw [List.length_append];simp;omega,zO,h4⟩,zO,?_⟩
       have e5:((m:Int)+1 - 1)=m:=by omega
       refine Ent.freezeN 1 [(0,0),(1,122)] [] ?_ ?_ rfl rfl rfl zD rfl rfl<;>simp (maxSteps:=400000) (disch:=first | omega | exact okT rfl | simp only [push_cast]) only [push_cast,↓QG,↓reduceIte,Nat.reduceAdd,Nat.reduceMul,Nat.reduceSub,Nat.reduceEqDiff,Nat.reduceBEq,Nat.reduceBNe,Nat.reduceLT,Nat.reduceLeDiff,reduceCtorEq,Op.operands,QA,QB,Nat.sub_zero,rdgO,e5,List.length_append,List.length_cons,List.length_nil,List.length_drop]
      ·rw [if_neg he2] at h4
       rw [if_neg (show ¬(false=false∧(s,k2,e2).2.2=0) from fun h=>he2 h.2),if_neg (show ¬(false=false∧(s,k2,e2).2.2=0) from fun h=>he2 h.2)] at ht
       simp only [rdgO] at ht
       refine QM.useX [0] ht rfl rfl ?_ ?_
       ·exact zC
       (have X1:=hsn;have X2:=@List.length_drop.{0};refine zS2 ?_;clear X1 X2)
       refine⟨(m,c,acc++[⟨#[]⟩],true),⟨zO,by show (acc++[(⟨#[]⟩:ByteArray)]).length+m≤257;rw [List.length_append];simp;omega,zO,by show (if true=true then _ else _);rw [if_pos rfl];exact h4⟩,zO,?_⟩
       have e5:((m:Int)+1 - 1)=m:=by omega
       refine Ent.freezeN 1 [(0,0),(1,122)] [] ?_ ?_ rfl rfl rfl zD rfl rfl<;>simp (maxSteps:=400000) (disch:=first | omega | exact okT rfl | simp only [push_cast]) only [push_cast,↓QG,↓reduceIte,Nat.reduceAdd,Nat.reduceMul,Nat.reduceSub,Nat.reduceEqDiff,Nat.reduceBEq,Nat.reduceBNe,Nat.reduceLT,Nat.reduceLeDiff,reduceCtorEq,Op.operands,QA,QB,Nat.sub_zero,rdgO,e5,List.length_append,List.length_cons,List.length_nil,List.length_drop]
     ·rw [if_pos rfl] at h4
      subst h4
      refine zS ?_
      (have X1:=@rdgO.eq_1;exact fzN1 1 [(0,0),(1,1)] [])
    ·obtain rfl:m=0:=by omega
     have h6:(acc,c,bd)=R:=by
      cases bd
      ·rw [if_neg zD,nmF] at h4;exact h4
      ·exact h4
     subst h6
     refine zS ?_
     (have X1:=@rdgO.eq_1;exact fzN1 1 [(0,0),(1,1)] [])
  ·rw [if_pos (.inr (.inl (by simp;omega)))] at hR
   subst hR
   refine zS ?_
   iterate 14 all_goals (try (refine And.intro (fun _=>?_) (fun _=>?_)<;>try first | exact zC | refine zS ?_))
   all_goals ((have X1:=@rdgO.eq_1;have X2:=@QOx;have X3:=@List.length_nil.{0};refine fzNM 1 [(0,0)] [] ?_ ?_<;>first | exact zC3 | refine zS3 ?_))
 ·rw [if_pos (.inl rfl)] at hR
  subst hR
  refine zS ?_
  (have X1:=@rdgO.eq_1;have X2:=@QOx;have X3:=@List.length_nil.{0};exact fzN3 1 [(0,0)] [])
end Go.AW
