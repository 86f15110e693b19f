/- A part of the proof: D30 D31 D32. -/
import Derived.Test.YtpcbnjbpdooejaaGreatDoorPae
import Derived.Test.YtpcbnjbpdooejaaGreatDoorPal
set_option linter.unusedSimpArgs false
set_option linter.unusedVariables false
set_option maxRecDepth 100000
set_option maxHeartbeats 8000000
namespace Go.AW
open Proofs
theorem QC0 (o:OpV):(QX o).length=5:=(rfl)
theorem QGr (o:OpV):idfL (QX o)=true:=(rfl)
theorem QFB {l:List OpV}:idfL (flat QX l)=true:=QZ QGr l
theorem QQo (l:List OpV) (i:Nat) (hi:i<l.length):(flat QX l).drop (i*5)=QX l[i]++flat QX (l.drop (i+1)):=QAh (f:=QX) (sz:=5) QC0 l i hi
theorem QYT {o:OpV}:(QX o)[0]?=some (.v (.int .i64 o.kind)):=(rfl)
theorem QY5 {o:OpV}:(QX o)[1]?=some (.v (.string o.name)):=(rfl)
theorem QZW {o:OpV}:(QX o)[2]?=some (.v (.int .i64 o.pos)):=(rfl)
theorem QVv {o:OpV}:(QX o)[3]?=some (.v (.int .i64 o.by_)):=(rfl)
theorem QWk {o:OpV}:(QX o)[4]?=some (.v (.string o.text)):=(rfl)
theorem QCM {l:List OpV}:(flat QX l).length=l.length*5:=QW QC0 l
theorem QcR {a b c d e:AV} {o:OpV}:setL [a,b,c,d,e] 0 (QX o)=QX o:=(rfl)
attribute [push_cast] QC0 QGr QFB QQo QYT QY5 QZW QVv QWk QCM QcR
def QDx (o:OpV):Int:=if o.kind=4 then o.text.size else 1
theorem Size_c (o:OpV):QE Tryz.prog [] 139 [.agg (QX o)] (.v (.int .i64 (QDx o))):=by
 refine QE.start Tryz.func139 rfl zK rfl Tryz.ntmps139 fol zK (by simp [idfL,idf,QZ QS,QS,Qg,Qy,QGr]) (by simp [idfL,idf,QZ QS,QS,Qg,Qy,QGr]) ?_
 refine zZ ?_
 iterate 14 all_goals (try (refine And.intro (fun _=>?_) (fun _=>?_)<;>try first | exact zC | refine zS ?_))
 ·rw [QDx,if_pos (by assumption)]
 ·rw [QDx,if_neg (by assumption)]
theorem QbW (o:OpV):QE Tryz.prog [] 163 [.agg (QX o)] (.v (.int .i64 (QDx o))):=by
 refine QE.start Tryz.func163 rfl zK rfl Tryz.ntmps163 fol zK (by simp [idfL,idf,QZ QS,QS,Qg,Qy,QGr]) (by simp [idfL,idf,QZ QS,QS,Qg,Qy,QGr]) ?_
 refine zZ ?_
 iterate 14 all_goals (try (refine And.intro (fun _=>?_) (fun _=>?_)<;>try first | exact zC | refine zS ?_))
 ·rw [QDx,if_pos (by assumption)]
 ·rw [QDx,if_neg (by assumption)]
theorem QJr (k:Int):QE Tryz.prog [] 172 [.v (.int .i64 k)] (.v (.bool (decide (k=1∨k=4)))):=by
 refine QE.start Tryz.func172 rfl zK rfl Tryz.ntmps172 fol zK zI zI ?_
 refine zZ ?_
 iterate 14 all_goals (try (refine And.intro (fun _=>?_) (fun _=>?_)<;>try first | exact zC | refine zS ?_))
 ·have h:¬k=1:=by assumption
  simp [h]
 ·have h:k=1:=by assumption
  simp [h]
theorem QLD {keep:List (Nat×Nat)} {fn:Fn} {a c:List AV}:QER keep (.clo fn a c)=none:=(rfl)
theorem QQR {l:List Int}:sclL (flat Qa l)=true:=QGp (fun _=>rfl) l
attribute [push_cast] QQR QLD
theorem of_c (l:List OpV) (hl:l.length≤1048576) (g:FuncId) (c:List AV) (f:OpV→Int) (hc:idfL c=true) (hcu:c.map unf=c) (hg:∀o∈l,QE Tryz.prog [] g (.agg (QX o)::c) (.v (.int .i64 (f o)))) (hfr:∀o∈l,-9223372036854775808≤f o∧f o<9223372036854775808):PNew Tryz.prog [] 196 [.seq l.length 5 (flat QX l),.clo (.func g) [] c] (.seq l.length 1 (flat Qa (l.map f))):=by
 refine PNew.start Tryz.func196 rfl zK rfl Tryz.ntmps196 fol zK (by simp [idfL,idf,QZ QS,QS,Qg,Qy,QFB,hc,QDf]) (by simp [idfL,idf,QZ QS,QS,Qg,Qy,QFB,hc,QDf]) ?_
 refine zZ ?_
 refine QD (ι:=Nat×List Int) (fun q=>⟨[(1,.clo (.func g) [] c),(5,.sl 0 0 q.2.length 1),(11,.seq l.length 5 (flat QX l)),(12,.v (.int .i64 l.length)),(13,.v (.int .i64 q.1))],⟨[(0,.cells 2 (flat Qa q.2) true)],1,1,0⟩⟩) (fun q=>q.1≤l.length∧q.2=(l.take q.1).map f) (fun q=>l.length - q.1) (0,[]) ⟨Nat.zero_le _,rfl⟩ ?_ ?_
 ·refine Ent.freezeN 0 [(0,35)] [] ?_ ?_ rfl rfl rfl zD rfl rfl<;>simp (maxSteps:=400000) (disch:=first | omega | exact okT rfl | simp only [push_cast]) only [push_cast,↓QG,↓reduceIte,Nat.reduceAdd,Nat.reduceMul,Nat.reduceSub,Nat.reduceEqDiff,Nat.reduceBEq,Nat.reduceBNe,Nat.reduceLT,Nat.reduceLeDiff,reduceCtorEq,Op.operands,QA,QB,Nat.sub_zero,hc,QLD,Int.toNat_zero,List.replicate_zero,List.flatten_nil,QBV]
 rintro⟨i,acc⟩ ⟨hi,ha⟩
 simp only at hi ha
 have hal:acc.length=i:=by rw [ha,List.length_map,List.length_take];omega
 refine zS ?_
 refine⟨fun h1=>?_,fun h1=>?_⟩
 ·have hi1:i<l.length:=by omega
  have hfi:=hfr l[i] (List.getElem_mem hi1)
  refine zS ?_
  rw [hcu]
  refine (hg l[i] (List.getElem_mem hi1)).useV ?_
  (have X1:=@jflat_snoc;refine zS1 ?_;clear X1)
  refine⟨(i+1,acc++[f l[i]]),⟨hi1,by show acc++[f l[i]]=(l.take (i+1)).map f;rw [List.take_succ_eq_append_getElem hi1,List.map_append,ha];rfl⟩,zO,?_⟩
  (have X1:=hc;have X2:=@List.length_append.{0};have X3:=@List.length_cons.{0};have X4:=@List.length_nil.{0};exact fzN4 0 [(0,73)] [])
 ·obtain rfl:i=l.length:=by omega
  rw [List.take_length] at ha
  subst ha
  rw [List.length_map] at hal
  (have X1:=@List.length_map.{0,0};have X2:=@Qec;exact zC2)
theorem of_v (l:List OpV) (hl:l.length≤1048576) (g:FuncId) (f:OpV→Int) (hg:∀o∈l,QE Tryz.prog [] g [.agg (QX o)] (.v (.int .i64 (f o)))) (hfr:∀o∈l,-9223372036854775808≤f o∧f o<9223372036854775808):PNew Tryz.prog [] 196 [.seq l.length 5 (flat QX l),.v (.func (.func g) #[] #[])] (.seq l.length 1 (flat Qa (l.map f))):=by
 refine PNew.start Tryz.func196 rfl zK rfl Tryz.ntmps196 fol zK (by simp [idfL,idf,QZ QS,QS,Qg,Qy,QFB,QDf]) (by simp [idfL,idf,QZ QS,QS,Qg,Qy,QFB,QDf]) ?_
 refine zZ ?_
 refine QD (ι:=Nat×List Int) (fun q=>⟨[(1,.v (.func (.func g) #[] #[])),(5,.sl 0 0 q.2.length 1),(11,.seq l.length 5 (flat QX l)),(12,.v (.int .i64 l.length)),(13,.v (.int .i64 q.1))],⟨[(0,.cells 2 (flat Qa q.2) true)],1,1,0⟩⟩) (fun q=>q.1≤l.length∧q.2=(l.take q.1).map f) (fun q=>l.length - q.1) (0,[]) ⟨Nat.zero_le _,rfl⟩ ?_ ?_
 ·refine Ent.freezeN 0 [(0,35)] [] ?_ ?_ rfl rfl rfl zD rfl rfl<;>simp (maxSteps:=400000) (disch:=first | omega | exact okT rfl | simp only [push_cast]) only [push_cast,↓QG,↓reduceIte,Nat.reduceAdd,Nat.reduceMul,Nat.reduceSub,Nat.reduceEqDiff,Nat.reduceBEq,Nat.reduceBNe,Nat.reduceLT,Nat.reduceLeDiff,reduceCtorEq,Op.operands,QA,QB,Nat.sub_zero,Int.toNat_zero,List.replicate_zero,List.flatten_nil,QBV]
 rintro⟨i,acc⟩ ⟨hi,ha⟩
 simp only at hi ha
 have hal:acc.length=i:=by rw [ha,List.length_map,List.length_take];omega
 refine zS ?_
 refine⟨fun h1=>?_,fun h1=>?_⟩
 ·have hi1:i<l.length:=by omega
  have hfi:=hfr l[i] (List.getElem_mem hi1)
  refine zS ?_
  refine (hg l[i] (List.getElem_mem hi1)).useV ?_
  (have X1:=@jflat_snoc;refine zS1 ?_;clear X1)
  refine⟨(i+1,acc++[f l[i]]),⟨hi1,by show acc++[f l[i]]=(l.take (i+1)).map f;rw [List.take_succ_eq_append_getElem hi1,List.map_append,ha];rfl⟩,zO,?_⟩
  (have X1:=@List.length_append.{0};have X2:=@List.length_cons.{0};have X3:=@List.length_nil.{0};exact fzN3 0 [(0,73)] [])
 ·obtain rfl:i=l.length:=by omega
  rw [List.take_length] at ha
  subst ha
  rw [List.length_map] at hal
  (have X1:=@List.length_map.{0,0};have X2:=@Qec;exact zC2)
theorem Put1_c (o:OpV):QE Tryz.prog [] 197 [.agg (QX o)] (.v (.int .i64 o.kind)):=by
 refine QE.start Tryz.func197 rfl zK rfl Tryz.ntmps197 fol zK (by simp [idfL,idf,QZ QS,QS,Qg,Qy,QGr]) (by simp [idfL,idf,QZ QS,QS,Qg,Qy,QGr]) ?_
 refine zz ?_
 exact zC
theorem Put3_c (o:OpV):QE Tryz.prog [] 200 [.agg (QX o)] (.v (.int .i64 o.pos)):=by
 refine QE.start Tryz.func200 rfl zK rfl Tryz.ntmps200 fol zK (by simp [idfL,idf,QZ QS,QS,Qg,Qy,QGr]) (by simp [idfL,idf,QZ QS,QS,Qg,Qy,QGr]) ?_
 refine zz ?_
 exact zC
theorem Put4_c (o:OpV):QE Tryz.prog [] 201 [.agg (QX o)] (.v (.int .i64 o.by_)):=by
 refine QE.start Tryz.func201 rfl zK rfl Tryz.ntmps201 fol zK (by simp [idfL,idf,QZ QS,QS,Qg,Qy,QGr]) (by simp [idfL,idf,QZ QS,QS,Qg,Qy,QGr]) ?_
 refine zz ?_
 exact zC
def numL (i:Int):List ByteArray→List (ByteArray×Int)
 | []=>[]
 | s::l=>(s,i)::numL (i+1) l
theorem QLt:∀(l:List ByteArray) (i:Int),(numL i l).map (·.1)=l
 | [],_=>rfl
 | s::l,i=>by rw [numL,List.map_cons,QLt l]
theorem QHJ:∀(l:List ByteArray) (i:Int),(numL i l).length=l.length
 | [],_=>rfl
 | s::l,i=>by rw [numL,List.length_cons,QHJ l,List.length_cons]
theorem QKs {s:ByteArray}:∀(l:List ByteArray) (i:Int),numL i (l++[s])=numL i l++[(s,i+l.length)]
 | [],i=>by simp [numL]
 | t::l,i=>by
  rw [List.cons_append,numL,numL,QKs l,List.cons_append,List.length_cons]
  congr 4
  omega
def QC5 (l:List ByteArray) (s:ByteArray):Int:=(aget (numL 0 l) s).getD 0
def QFk (l:List ByteArray):List Value:=(numL 0 l).map fun e=>.string e.1
def QKc (l:List ByteArray):List AV:=(numL 0 l).map fun e=>.v (.int .i64 e.2)
theorem QHu {l:List ByteArray}:idfL (QKc l)=true:=QGb (fun e:ByteArray×Int=>Value.int .i64 e.2) _
theorem nget {l:List ByteArray} {s:ByteArray}:mget (QFk l) (QKc l) (.string s)=(aget (numL 0 l) s).map fun n=>AV.v (.int .i64 n):=QVX (kf:=Value.string) (vf:=fun n=>AV.v (.int .i64 n)) QI1
attribute [push_cast] QHu
theorem Put2_c (o:OpV) (ks:List ByteArray):QE Tryz.prog [] 198 [.agg (QX o),.rop [.mv .strK (QFk ks) (QKc ks)]] (.v (.int .i64 (QC5 ks o.name))):=by
 refine QE.start Tryz.func198 rfl zK rfl Tryz.ntmps198 fol zK (by simp [idfL,idf,QZ QS,QS,Qg,Qy,QGr,QHu]) (by simp [idfL,idf,QZ QS,QS,Qg,Qy,QGr,QHu]) ?_
 refine zZ ?_
 have hz:zAV Tryz.prog 3=some (.v (.int .i64 0)):=zK
 have hn:∀r:Option Int,(r.map fun n=>AV.v (.int .i64 n)).getD (.v (.int .i64 0))=.v (.int .i64 (r.getD 0)):=fun r=>by cases r<;>rfl
 have hkw:∀s,kwf .strK (.string s)=true:=fun _=>rfl
 (have X1:=hz;have X2:=hkw;have X3:=@nget;have X4:=hn;first | exact zC4 | refine zS4 ?_)
 exact⟨.inr trivial,rfl⟩
open Proofs
def QBs (b:List UInt8):List AV:=[.seq b.length 1 (flat QC b)]
theorem QMx (b:List UInt8):idfL (QBs b)=true:=by simp [QBs,idfL,idf,Qg]
theorem QHA {l:List (List UInt8)}:idfL (flat QBs l)=true:=QZ QMx l
theorem QGY (l:List (List UInt8)) (i:Nat) (hi:i<l.length):(flat QBs l).drop (i*1)=.seq l[i].length 1 (flat QC l[i])::flat QBs (l.drop (i+1)):=QAh (f:=QBs) (sz:=1) (fun _=>rfl) l i hi
theorem QFW (l:List (List UInt8)) (i:Nat) (hi:i<l.length):(flat QBs l).drop i=.seq l[i].length 1 (flat QC l[i])::flat QBs (l.drop (i+1)):=by have:=QGY l i hi;rwa [Nat.mul_one] at this
attribute [push_cast] QHA QGY QFW
theorem Grow_o (n:Nat) (hn:n≤1048576000):POwn Tryz.prog [] 202 [.v (.slice none 0 0),.v (.int .i64 n)] 0 1 5 (flat QC (List.replicate n 0)):=by
 refine POwn.start Tryz.func202 rfl zK rfl Tryz.ntmps202 fol zK zI (by simp [QQ]) ?_
 refine zZ ?_
 refine⟨fun h=>absurd h zo,fun h=>?_⟩
 (have X1:=@Int.sub_self;have X2:=@Int.sub_zero;refine zS2 ?_;clear X1 X2)
 refine⟨fun h1=>?_,fun h1=>?_⟩
 ·(have X1:=@Int.sub_self;have X2:=@Int.sub_zero;refine zS2 ?_;clear X1 X2)
  have hz:(List.replicate n [AV.v (.int .u8 0)]).flatten=flat QC (List.replicate n 0):=by
   clear h h1 hn
   induction n with
   | zero=>rfl
   | succ n ih=>rw [List.replicate_succ,List.replicate_succ,List.flatten_cons,ih];rfl
  rw [hz]
  (have X1:=@Int.toNat_zero;exact fzN1 0 [(0,130)] [])
 ·obtain rfl:n=0:=by omega
  refine zS ?_
  (have X1:=@List.replicate_zero.{0};have X2:=@QOx;exact fzN2 0 [] [])
theorem QO6 (l:List (List UInt8)) (hl:l.length≤1024) (hn:l.flatten.length≤1048576000):POwn Tryz.prog [] 147 [.seq l.length 1 (flat QBs l)] l.flatten.length 1 5 (flat QC l.flatten):=by
 refine POwn.start Tryz.func147 rfl zK rfl Tryz.ntmps147 fol zK (by simp [idfL,idf,QZ QS,QS,Qg,Qy,QHA]) (by simp [QQ,QHA]) ?_
 refine zZ ?_
 refine QD (ι:=Nat) (fun i=>⟨[(0,.seq l.length 1 (flat QBs l)),(2,.v (.slice none 0 0)),(3,.v (.int .i64 (l.take i).flatten.length)),(9,.seq l.length 1 (flat QBs l)),(10,.v (.int .i64 l.length)),(11,.v (.int .i64 i))],⟨[],0,0,0⟩⟩) (fun i=>i≤l.length) (fun i=>l.length - i) 0 (Nat.zero_le _) ?_ ?_
 ·(have X1:=@List.take_zero.{0};have X2:=@List.flatten_nil.{0};have X3:=@List.length_nil.{0};refine fzNM 0 [] [] ?_ ?_<;>first | exact zC3 | refine zS3 ?_)
 rintro i hi
 have hle:∀j,(l.take j).flatten.length≤l.flatten.length:=fun j=>by
  conv=>rhs;rw [←List.take_append_drop j l,List.flatten_append,List.length_append]
  omega
 have hi2:=hle i
 refine zS ?_
 refine⟨fun h1=>?_,fun h1=>?_⟩
 ·have hi1:i<l.length:=by omega
  have hs:(l.take (i+1)).flatten.length=(l.take i).flatten.length+l[i].length:=by
   rw [List.take_succ_eq_append_getElem hi1,List.flatten_append,List.length_append];simp
  have hi3:=hle (i+1)
  refine zS ?_
  refine⟨fun h2=>absurd h2 zo,fun h2=>?_⟩
  refine zS ?_
  refine⟨i+1,hi1,zO,?_⟩
  simp only [hs]
  exact fzN 0 [] []
 ·obtain rfl:i=l.length:=by omega
  rw [List.take_length]
  refine zS ?_
  refine POwn.useV (Grow_o l.flatten.length hn) ?_
  refine zS ?_
  refine QD (ι:=Nat×List UInt8) (fun q=>⟨[(6,.sl 0 0 (l.take q.1).flatten.length 1),(25,.seq l.length 1 (flat QBs l)),(26,.v (.int .i64 l.length)),(27,.v (.int .i64 q.1))],⟨[(0,.cells 5 (flat QC q.2) true)],1,1,0⟩⟩) (fun q=>q.1≤l.length∧((q.1=0∧q.2.length=l.flatten.length)∨(0<q.1∧q.2=(l.take q.1).flatten))) (fun q=>l.length - q.1) (0,List.replicate l.flatten.length 0) ⟨Nat.zero_le _,.inl ⟨rfl,by simp⟩⟩ ?_ ?_
  ·(have X1:=@List.take_zero.{0};have X2:=@List.flatten_nil.{0};have X3:=@List.length_nil.{0};exact fzN3 0 [(0,72)] [])
  rintro⟨i,c⟩ ⟨hi,hc⟩
  simp only at hi hc
  have hi2:=hle i
  refine zS ?_
  refine⟨fun h1=>?_,fun h1=>?_⟩
  ·have hi1:i<l.length:=by omega
   have hs:(l.take (i+1)).flatten=(l.take i).flatten++l[i]:=by
    rw [List.take_succ_eq_append_getElem hi1,List.flatten_append];simp
   have hi3:=hle (i+1)
   rw [hs,List.length_append] at hi3
   rcases hc with ⟨rfl,hc⟩ | ⟨h0,rfl⟩
   ·have h00:(l.take 0).flatten=[]:=rfl
    rw [h00] at hs
    have hb0:(flat QBs l)[0]?=some (.seq l[0].length 1 (flat QC l[0])):=by
     have:=QFW l 0 hi1
     rw [List.drop_zero] at this
     rw [this];rfl
    by_cases hcl:c.length=0
    ·have hcn:c=[]:=List.eq_nil_of_length_eq_zero hcl
     subst hcn
     (have X1:=@List.take_zero.{0};have X2:=@List.flatten_nil.{0};have X3:=@List.length_nil.{0};have X4:=@QOx;have X5:=@Int.toNat_zero;have X6:=hb0;refine zS6 ?_;clear X1 X2 X3 X4 X5 X6)
     refine⟨(1,l[0]),⟨hi1,.inr ⟨by show 0<1;decide,by show l[0]=(l.take (0+1)).flatten;rw [hs];rfl⟩⟩,zO,?_⟩
     have hs1:(l.take 1).flatten=l[0]:=by rw [show 1=0+1 from rfl,hs];rfl
     simp only [hs1]
     refine fzNM 0 [(0,106)] [] ?_ ?_<;>first | exact zC | refine zS ?_
     try rfl
    ·have hcf:∀(p:Prop) (r:AV×Upd),Cnd (0=c.length∧p) (some r)=none:=fun p r=>by rw [show (0=c.length∧p)=False from eq_false fun h=>hcl h.1.symm,QGW]
     (have X1:=@List.take_zero.{0};have X2:=@List.flatten_nil.{0};have X3:=@List.length_nil.{0};have X4:=@QOx;have X5:=@Int.toNat_zero;have X6:=hb0;have X7:=hcf;refine zS7 ?_;clear X1 X2 X3 X4 X5 X6 X7)
     refine⟨(1,l[0]),⟨hi1,.inr ⟨by show 0<1;decide,by show l[0]=(l.take (0+1)).flatten;rw [hs];rfl⟩⟩,zO,?_⟩
     have hs1:(l.take 1).flatten=l[0]:=by rw [show 1=0+1 from rfl,hs];rfl
     simp only [hs1]
     refine fzNM 0 [(0,106)] [] ?_ ?_<;>first | exact zC | refine zS ?_
     try rfl
   ·refine zS ?_
    refine⟨(i+1,(l.take i).flatten++l[i]),⟨hi1,.inr ⟨zO,hs.symm⟩⟩,zO,?_⟩
    simp only [hs]
    (have X1:=@List.length_append.{0};exact fzN1 0 [(0,106)] [])
  ·obtain rfl:i=l.length:=by omega
   have hcc:c=l.flatten:=by
    rcases hc with ⟨h0,hc⟩ | ⟨h0,hc⟩
    ·have:l=[]:=List.eq_nil_of_length_eq_zero h0
     subst this
     exact List.eq_nil_of_length_eq_zero (by simpa using hc)
    ·rw [hc,List.take_length]
   subst hcc
   rw [List.take_length]
   refine zS ?_
   exact fzN 0 [(0,0)] []
theorem QWf (l:List (List UInt8)) (hl:l.length≤1024) (hn:l.flatten.length≤1048576000):PNew Tryz.prog [] 147 [.seq l.length 1 (flat QBs l)] (.seq l.flatten.length 1 (flat QC l.flatten)):=(QO6 l hl hn).toNew (by rw [QH,Nat.mul_one])
def pos (s:ByteArray):List ByteArray→Nat
 | []=>0
 | a::l=>if a=s then 0 else pos s l+1
theorem QaR {s:ByteArray}:∀{l:List ByteArray} {i:Nat},s∉l.take i→(hi:i<l.length)→l[i]=s→pos s l=i
 | [],_,_,hi,_=>by simp at hi
 | a::l,0,_,_,e=>by
  simp only [List.getElem_cons_zero] at e
  rw [pos,if_pos e]
 | a::l,i+1,hn,hi,e=>by
  simp only [List.take_succ_cons,List.mem_cons,not_or] at hn
  rw [pos,if_neg (fun e=>hn.1 e.symm),QaR hn.2 (by simpa using hi) (by simpa using e)]
theorem QaP {s:ByteArray}:∀{l:List ByteArray},s∉l→pos s l=l.length
 | [],_=>rfl
 | a::l,hn=>by
  simp only [List.mem_cons,not_or] at hn
  rw [pos,if_neg (fun e=>hn.1 e.symm),QaP hn.2];rfl
theorem QdF (l:List ByteArray) (hl:l.length≤1048576) (s:ByteArray):QE Tryz.prog [] 232 [.seq l.length 1 (flat QAf l),.v (.string s)] (.v (.int .i64 (pos s l))):=by
 refine QE.start Tryz.func232 rfl zK rfl Tryz.ntmps232 fol zK (by simp [idfL,idf,QZ QS,QS,Qg,Qy,QZ QIO]) (by simp [idfL,idf,QZ QS,QS,Qg,Qy,QZ QIO]) ?_
 refine zZ ?_
 refine QD (ι:=Nat) (fun i=>⟨[(0,.seq l.length 1 (flat QAf l)),(1,.v (.string s)),(5,.v (.int .i64 i))],⟨[],0,0,0⟩⟩) (fun i=>i≤l.length∧s∉l.take i) (fun i=>l.length - i) 0 ⟨Nat.zero_le _,by simp⟩ ?_ ?_
 ·exact fzN 0 [] []
 rintro i ⟨hi,hall⟩
 refine zS ?_
 refine⟨fun h1=>?_,fun h1=>?_⟩
 ·have hi1:i<l.length:=by omega
  refine zS ?_
  refine⟨fun h2=>?_,fun h2=>?_⟩
  ·refine zS ?_
   refine⟨i+1,⟨hi1,fun hm=>?_⟩,zO,?_⟩
   ·rw [List.take_succ_eq_append_getElem hi1] at hm
    simp only [List.mem_append,List.mem_singleton] at hm
    exact hm.elim hall fun e=>h2 e.symm
   exact fzN 0 [] []
  ·refine zS ?_
   rw [QaR hall hi1 h2]
 ·obtain rfl:i=l.length:=by omega
  rw [List.take_length] at hall
  rw [QaP hall]
  exact zC
open Proofs
attribute [push_cast] QFK
theorem QTH {s:ByteArray}:∀l:List ByteArray,pos s l≤l.length
 | []=>Nat.le_refl _
 | a::l=>by rw [pos,List.length_cons];have:=QTH (s:=s) l;split<;>omega
theorem QTP {s:ByteArray}:∀{l:List ByteArray},pos s l<l.length↔s∈l
 | []=>by simp [pos]
 | a::l=>by
  rw [pos,List.length_cons,List.mem_cons,←QTP (l:=l)]
  by_cases h:a=s
  ·simp [h]
  ·rw [if_neg h];constructor
   ·intro h1;exact .inr zo
   ·rintro(h1 | h1)
    ·exact absurd h1.symm h
    ·omega
theorem QEe {s:ByteArray}:∀(l:List ByteArray) (i:Int),aget (numL i l) s=if pos s l<l.length then some (i+pos s l) else none
 | [],i=>by simp [numL,aget,pos]
 | a::l,i=>by
  rw [numL,aget,QEe l,pos,List.length_cons]
  by_cases h:s=a
  ·subst h;simp
  ·rw [if_neg h,if_neg (show ¬a=s from fun e=>h e.symm)]
   by_cases h1:pos s l<l.length
   ·rw [if_pos h1,if_pos zo];congr 1;omega
   ·rw [if_neg h1,if_neg zo]
def addN (ns:List ByteArray) (s:ByteArray):List ByteArray:=if pos s ns<ns.length then ns else ns++[s]
def QAT (l:List OpV):List ByteArray:=l.foldl (fun ns o=>addN ns o.name) []
def lebB (s:ByteArray):List UInt8:=lebT s.data.toList
def QA4 (o:OpV):Bool:=decide (o.kind=1∨o.kind=4)
def QBJ (l:List OpV):List UInt8:=(l.filter QA4).flatMap fun o=>lebB o.text
def QAy (l:List OpV):List UInt8:=[QAI (l.map (·.kind)),lebU (QAT l).length,(QAT l).flatMap lebB,QAI (l.map fun o=>QC5 (QAT l) o.name),QAI (QAU 0 (l.map (·.pos))),QAI (l.map (·.by_)),QBJ l].flatten
def QAM (l:List OpV):Nat:=if 256<l.length then 5 else if l.all QBp then 0 else 40
def QAb (l:List OpV):List UInt8:=if QAM l=0 then QAy l else []
def QCP (o:OpV):Prop:=o.name.size≤1048576∧o.text.size≤1048576∧(-9223372036854775808≤o.kind∧o.kind<9223372036854775808)∧(-9223372036854775808≤o.pos∧o.pos<9223372036854775808)∧(-9223372036854775808≤o.by_∧o.by_<9223372036854775808)
theorem QaO {ns:List ByteArray}:(QFk ns).length=ns.length:=by rw [QFk,List.length_map,QHJ]
theorem pos_eq {s:ByteArray} {ns:List ByteArray} (h:¬pos s ns<ns.length):s∉ns:=fun hm=>h (QTP.2 hm)
theorem QOD {s:ByteArray} {ns:List ByteArray} (h:¬pos s ns<ns.length):aset (numL 0 ns) s (ns.length:Int)=numL 0 (ns++[s]):=by
 rw [QOT (by rw [QLt];exact pos_eq h),QKs];simp
theorem QTq {s:ByteArray} {ns:List ByteArray} (h:¬pos s ns<ns.length):(if mhas (QFk ns) (.string s)=true then QFk ns else QFk ns++[.string s])=QFk (ns++[s]):=by
 have:=QOU (kf:=Value.string) QI1 (k:=s) (v:=(ns.length:Int)) (l:=numL 0 ns)
 rw [QOD h] at this
 exact this
theorem QTJ {s:ByteArray} {ns:List ByteArray} (h:¬pos s ns<ns.length):mset (QFk ns) (QKc ns) (.string s) (.v (.int .i64 (ns.length:Nat)))=QKc (ns++[s]):=by
 have:=QSX (kf:=Value.string) (vf:=fun n:Int=>AV.v (.int .i64 n)) QI1 (k:=s) (v:=(ns.length:Int)) (l:=numL 0 ns)
 rw [QOD h] at this
 exact this
theorem nisS {s:ByteArray} {ns:List ByteArray}:((aget (numL 0 ns) s).map fun n=>AV.v (.int .i64 n)).isSome=decide (pos s ns<ns.length):=by
 rw [QEe]
 by_cases h:pos s ns<ns.length
 ·rw [if_pos h];simp [h]
 ·rw [if_neg h];simp [h]
theorem Qeb {s:ByteArray}:kwf .strK (.string s)=true:=rfl
theorem QBc {s:ByteArray} (h:s.size≤70000000000000):(lebB s).length≤s.size+10:=by
 have:=QAA (n:=s.size) zo
 have hs:s.data.toList.length=s.size:=by rw [Array.length_toList];rfl
 rw [lebB,lebT,List.length_append,hs];omega
theorem QFG (l:List OpV):(QAT l).length≤l.length:=by
 have:∀(l:List OpV) (ns:List ByteArray),(l.foldl (fun ns o=>addN ns o.name) ns).length≤ns.length+l.length:=by
  intro l
  induction l with
  | nil=>intro ns;simp
  | cons o l ih=>
   intro ns
   have h1:=ih (addN ns o.name)
   have h2:(addN ns o.name).length≤ns.length+1:=by rw [addN];split<;>simp
   simp only [List.foldl_cons,List.length_cons]
   omega
 simpa [QAT] using this l []
theorem QDH (l:List ByteArray) (s:ByteArray):0≤QC5 l s∧QC5 l s≤l.length:=by
 rw [QC5,QEe]
 have:=QTH (s:=s) l
 split
 ·simp;omega
 ·simp
theorem QAV (l:List Int) (hl:l.length≤1048576) (hr:∀x∈l,-9223372036854775808≤x∧x<9223372036854775808):(QAI l).length≤10+20*l.length:=by
 obtain⟨h1,h2⟩:=QJK l.length l (Nat.le_refl _)
 have h3:=QIY (runs l) fun p hp=>by
  obtain⟨k1,k2,k3⟩:=h2 p hp
  exact⟨QAA zo,QMn (hr _ k1).1 (hr _ k1).2⟩
 have h4:=QAA (show (runs l).length<18446744073709551616 by omega)
 rw [QAI,List.length_append]
 omega
theorem Qfs (l:List OpV) (hl:l.length≤1048576) (hs:∀o∈l,QCP o):PNew Tryz.prog [] 146 [.seq l.length 5 (flat QX l)] (.tup [.seq (QAb l).length 1 (flat QC (QAb l)),.v (.int .i64 (QAM l))]):=by
 refine PNew.startW Tryz.func146 rfl zK rfl Tryz.ntmps146 fol zK (by simp [idfL,idf,QZ QS,QS,Qg,Qy,QFB]) (by simp [idfL,idf,QZ QS,QS,Qg,Qy,QFB]) ?_
 refine zZ ?_
 refine⟨fun h=>?_,fun h=>?_⟩
 ·have hp:QAM l=5:=if_pos zo
  have hr:QAb l=[]:=by rw [QAb,hp];rfl
  rw [hp,hr]
  first | exact zC | refine zS ?_
  try rfl
 ·refine zS ?_
  refine QD (ι:=Nat×List ByteArray×List UInt8×List UInt8) (fun q=>⟨[(0,.seq l.length 5 (flat QX l)),(4,.ptr 0 0),(5,.sl 2 0 q.2.2.1.length 1),(6,.sl 3 0 q.2.2.2.length 1),(16,.seq l.length 5 (flat QX l)),(17,.v (.int .i64 l.length)),(18,.v (.int .i64 q.1))],
    ⟨[(0,.cells 242 [.mp 1] false),(1,.map .strK (QFk q.2.1) (QKc q.2.1)),(2,.cells 5 (flat QC q.2.2.1) true),(3,.cells 5 (flat QC q.2.2.2) true)],4,4,0⟩⟩)
   (fun q=>q.1≤l.length∧(∀o∈l.take q.1,QBp o=true)∧q.2.1=QAT (l.take q.1)∧q.2.2.1=q.2.1.flatMap lebB∧q.2.2.2=QBJ (l.take q.1)∧q.2.2.1.length≤42*q.1∧q.2.2.2.length≤1034*q.1) (fun q=>l.length - q.1) (0,[],[],[]) ⟨Nat.zero_le _,by simp,rfl,rfl,rfl,Nat.le_refl _,Nat.le_refl _⟩ ?_ ?_
  ·refine Ent.freezeN 0 [(0,156),(1,167)] [0] ?_ ?_ rfl rfl rfl zD rfl rfl<;>simp (maxSteps:=400000) (disch:=first | omega | exact okT rfl | simp only [push_cast]) only [push_cast,↓QG,↓reduceIte,Nat.reduceAdd,Nat.reduceMul,Nat.reduceSub,Nat.reduceEqDiff,Nat.reduceBEq,Nat.reduceBNe,Nat.reduceLT,Nat.reduceLeDiff,reduceCtorEq,Op.operands,QA,QB,Nat.sub_zero,QFk,QKc,numL,List.map_nil]
  rintro⟨i,ns,nb,tb⟩ ⟨hi,hmay,hns,hnb,htb,hnl,htl⟩
  simp only at hi hmay hns hnb htb hnl htl
  refine zS ?_
  refine⟨fun h1=>?_,fun h1=>?_⟩
  ·have hi1:i<l.length:=by omega
   obtain⟨s1,s2,s3,s4,s5⟩:=hs l[i] (List.getElem_mem hi1)
   have hz:zAV Tryz.prog 3=some (.v (.int .i64 0)):=zK
   refine zS ?_
   refine (Qcp l[i] s1 s2).useV ?_
   cases hm:QBp l[i]
   ·have hp:QAM l=40:=by
     rw [QAM,if_neg zo,if_neg]
     intro hall
     have:=List.all_eq_true.1 hall l[i] (List.getElem_mem hi1)
     rw [hm] at this;cases this
    have hr:QAb l=[]:=by rw [QAb,hp];rfl
    rw [hp,hr]
    rw [if_neg zD]
    refine zS ?_
    iterate 14 all_goals (try (refine And.intro (fun _=>?_) (fun _=>?_)<;>try first | exact zC | refine zS ?_))
    all_goals first
     | (exfalso;omega)
     | rfl
   ·rw [if_pos rfl]
    have hmay1:∀o∈l.take (i+1),QBp o=true:=fun o ho=>by
     rw [List.take_succ_eq_append_getElem hi1] at ho
     rcases List.mem_append.1 ho with h | h
     ·exact hmay o h
     ·rw [List.mem_singleton.1 h];exact hm
    have hnm:l[i].name.size≤32:=by
     have:=hm
     rw [QBp,Bool.and_eq_true,QBP] at this
     have:=this.1
     simp only [Bool.and_eq_true,decide_eq_true_eq] at this
     exact this.1.2.2
    have htm:l[i].text.size≤1024:=by
     have hb:QBP l[i].name=true:=by rw [QBp,Bool.and_eq_true] at hm;exact hm.1
     have:=(QBe hb).1 hm
     omega
    have hl1:=QBc (s:=l[i].name) zo
    have hl2:=QBc (s:=l[i].text) zo
    have hnN:QAT (l.take (i+1))=addN ns l[i].name:=by rw [List.take_succ_eq_append_getElem hi1,QAT,List.foldl_append,hns];rfl
    have htN:QBJ (l.take (i+1))=QBJ (l.take i)++(if QA4 l[i]=true then lebB l[i].text else []):=by
     rw [List.take_succ_eq_append_getElem hi1,QBJ,List.filter_append,List.flatMap_append]
     congr 1
     by_cases h:QA4 l[i]=true
     ·rw [List.filter_cons_of_pos h,if_pos h];simp
     ·rw [List.filter_cons_of_neg h,if_neg h];rfl
    (have X1:=hz;have X2:=@Qeb;have X3:=@nget;have X4:=@nisS;refine zS4 ?_;clear X1 X2 X3 X4)
    refine⟨.inr trivial,fun hp=>?_,fun hp=>?_⟩
    ·(have X1:=hz;have X2:=@Qeb;have X3:=@nget;have X4:=@nisS;have X5:=QTq hp;have X6:=QTJ hp;have X7:=@QaO;refine zS7 ?_;clear X1 X2 X3 X4 X5 X6 X7)
     refine POwn.useV (QDY l[i].name zo) ?_
     rw [show lebT l[i].name.data.toList=lebB l[i].name from rfl]
     refine zS ?_
     refine (QJr l[i].kind).useV ?_
     refine zS ?_
     refine⟨fun ht=>?_,fun ht=>?_⟩
     ·refine zS ?_
      refine POwn.useV (QDY l[i].text zo) ?_
      rw [show lebT l[i].text.data.toList=lebB l[i].text from rfl]
      refine zS ?_
      refine⟨(i+1,ns++[l[i].name],nb++lebB l[i].name,tb++lebB l[i].text),⟨hi1,hmay1,?_,?_,?_,?_,?_⟩,zO,?_⟩
      ·show ns++[l[i].name]=QAT (l.take (i+1))
       rw [hnN,addN,if_neg hp]
      ·show nb++lebB l[i].name=List.flatMap lebB (ns++[l[i].name])
       rw [List.flatMap_append,←hnb];simp
      ·show tb++lebB l[i].text=QBJ (l.take (i+1))
       rw [htN,if_pos (by simpa [QA4] using ht),htb]
      ·show (nb++lebB l[i].name).length≤42*(i+1)
       first | omega | (rw [List.length_append];omega)
      ·show (tb++lebB l[i].text).length≤1034*(i+1)
       first | omega | (rw [List.length_append];omega)
      ·(have X1:=@List.length_append.{0};exact fzN1 0 [(0,0),(1,1),(2,581),(3,742)] [0])
     ·refine zS ?_
      refine⟨(i+1,ns++[l[i].name],nb++lebB l[i].name,tb),⟨hi1,hmay1,?_,?_,?_,?_,?_⟩,zO,?_⟩
      ·show ns++[l[i].name]=QAT (l.take (i+1))
       rw [hnN,addN,if_neg hp]
      ·show nb++lebB l[i].name=List.flatMap lebB (ns++[l[i].name])
       rw [List.flatMap_append,←hnb];simp
      ·show tb=QBJ (l.take (i+1))
       rw [htN,if_neg (by simpa [QA4] using ht),htb];simp
      ·show (nb++lebB l[i].name).length≤42*(i+1)
       first | omega | (rw [List.length_append];omega)
      ·show (tb).length≤1034*(i+1)
       first | omega | (rw [List.length_append];omega)
      ·(have X1:=@List.length_append.{0};exact fzN1 0 [(0,0),(1,1),(2,581),(3,3)] [0])
    ·(have X1:=hz;have X2:=@Qeb;have X3:=@nget;have X4:=@nisS;refine zS4 ?_;clear X1 X2 X3 X4)
     refine (QJr l[i].kind).useV ?_
     refine zS ?_
     refine⟨fun ht=>?_,fun ht=>?_⟩
     ·refine zS ?_
      refine POwn.useV (QDY l[i].text zo) ?_
      rw [show lebT l[i].text.data.toList=lebB l[i].text from rfl]
      refine zS ?_
      refine⟨(i+1,ns,nb,tb++lebB l[i].text),⟨hi1,hmay1,?_,?_,?_,?_,?_⟩,zO,?_⟩
      ·show ns=QAT (l.take (i+1))
       rw [hnN,addN,if_pos hp]
      ·show nb=List.flatMap lebB (ns)
       exact hnb
      ·show tb++lebB l[i].text=QBJ (l.take (i+1))
       rw [htN,if_pos (by simpa [QA4] using ht),htb]
      ·show (nb).length≤42*(i+1)
       first | omega | (rw [List.length_append];omega)
      ·show (tb++lebB l[i].text).length≤1034*(i+1)
       first | omega | (rw [List.length_append];omega)
      ·(have X1:=@List.length_append.{0};exact fzN1 0 [(0,0),(1,1),(2,2),(3,589)] [0])
     ·refine zS ?_
      refine⟨(i+1,ns,nb,tb),⟨hi1,hmay1,?_,?_,?_,?_,?_⟩,zO,?_⟩
      ·show ns=QAT (l.take (i+1))
       rw [hnN,addN,if_pos hp]
      ·show nb=List.flatMap lebB (ns)
       exact hnb
      ·show tb=QBJ (l.take (i+1))
       rw [htN,if_neg (by simpa [QA4] using ht),htb];simp
      ·show (nb).length≤42*(i+1)
       first | omega | (rw [List.length_append];omega)
      ·show (tb).length≤1034*(i+1)
       first | omega | (rw [List.length_append];omega)
      ·(have X1:=@List.length_append.{0};exact fzN1 0 [(0,0),(1,1),(2,2),(3,3)] [0])
  ·obtain rfl:i=l.length:=by omega
   rw [List.take_length] at hmay hns htb
   have hp:QAM l=0:=by rw [QAM,if_neg zo,if_pos (List.all_eq_true.2 hmay)]
   have hr:QAb l=QAy l:=by rw [QAb,if_pos hp]
   rw [hp,hr]
   have hof:∀(g:FuncId) (f:OpV→Int) (hg:∀o,QE Tryz.prog [] g [.agg (QX o)] (.v (.int .i64 (f o)))) (hfr:∀o∈l,-9223372036854775808≤f o∧f o<9223372036854775808),PNew Tryz.prog [] 196 [.seq l.length 5 (flat QX l),.v (.func (.func g) #[] #[])] (.seq l.length 1 (flat Qa (l.map f))):=fun g f hg hfr=>of_v l hl g f (fun o _=>hg o) hfr
   have hrm:∀(f:OpV→Int),(∀o∈l,-9223372036854775808≤f o∧f o<9223372036854775808)→∀x∈l.map f,-9223372036854775808≤x∧x<9223372036854775808:=fun f hf x hx=>by
    obtain⟨o,ho,rfl⟩:=List.mem_map.1 hx;exact hf o ho
   have hk:=fun o ho=>(hs o ho).2.2.1
   have hpp:=fun o ho=>(hs o ho).2.2.2.1
   have hby:=fun o ho=>(hs o ho).2.2.2.2
   have hRk:=QRj (l.map (·.kind)) (by simp;omega) (hrm _ hk)
   have hRb:=QRj (l.map (·.by_)) (by simp;omega) (hrm _ hby)
   have hDp:=QVd (l.map (·.pos)) (by simp;omega) (hrm _ hpp)
   rw [List.length_map] at hRk hRb hDp
   have hnl2:ns.length≤256:=by
    have:=QFG l;rw [←hns] at this;omega
   refine zS ?_
   refine QO.useN (hof _ _ Put1_c hk) rfl ?_
   refine zS ?_
   refine QO.useN hRk rfl ?_
   (have X1:=@QaO;refine zS1 ?_;clear X1)
   refine QO.useN (QCg ns.length zo) rfl ?_
   refine zS ?_
   have hof2:=of_c l hl 198 [.rop [.mv .strK (QFk ns) (QKc ns)]] (fun o=>QC5 ns o.name) (by simp [idfL,idf,QHu]) rfl (fun o _=>Put2_c o ns) (fun o _=>by have:=QDH ns o.name;constructor<;>omega)
   refine QO.useNS (ids:=[0,1]) hof2 ?_ rfl ?_ ?_
   ·exact zCN
   ·exact zC
   refine zS ?_
   have hRw:=QRj (l.map fun o=>QC5 ns o.name) (by simp;omega) (hrm _ fun o _=>by have:=QDH ns o.name;constructor<;>omega)
   rw [List.length_map] at hRw
   refine QO.useN hRw rfl ?_
   refine zS ?_
   refine QO.useN (hof _ _ Put3_c hpp) rfl ?_
   refine zS ?_
   refine QO.useN hDp rfl ?_
   refine zS ?_
   refine QO.useN (hof _ _ Put4_c hby) rfl ?_
   refine zS ?_
   refine QO.useN hRb rfl ?_
   refine zS ?_
   obtain⟨bs,hbs⟩:∃bs,bs=[QAI (l.map (·.kind)),lebU ns.length,nb,QAI (l.map fun o=>QC5 ns o.name),QAI (QAU 0 (l.map (·.pos))),QAI (l.map (·.by_)),tb]:=⟨_,rfl⟩
   have hfl:flat QBs bs=[.seq (QAI (l.map (·.kind))).length 1 (flat QC (QAI (l.map (·.kind)))),.seq (lebU ns.length).length 1 (flat QC (lebU ns.length)),.seq nb.length 1 (flat QC nb),.seq (QAI (l.map fun o=>QC5 ns o.name)).length 1 (flat QC (QAI (l.map fun o=>QC5 ns o.name))),.seq (QAI (QAU 0 (l.map (·.pos)))).length 1 (flat QC (QAI (QAU 0 (l.map (·.pos))))),.seq (QAI (l.map (·.by_))).length 1 (flat QC (QAI (l.map (·.by_)))),.seq tb.length 1 (flat QC tb)]:=by rw [hbs];rfl
   have hPB:QAy l=bs.flatten:=by rw [hbs,QAy,←hns,←hnb,←htb]
   have hbl:bs.length=7:=by rw [hbs];rfl
   have b1:=QAV (l.map (·.kind)) (by simp;omega) (hrm _ hk)
   have b2:=QAV (l.map fun o=>QC5 ns o.name) (by simp;omega) (hrm _ fun o _=>by have:=QDH ns o.name;constructor<;>omega)
   have b3:=QAV (QAU 0 (l.map (·.pos))) (by rw [Qn];simp;omega) (QCS _ _)
   have b4:=QAV (l.map (·.by_)) (by simp;omega) (hrm _ hby)
   have b5:=QAA (show ns.length<18446744073709551616 by omega)
   rw [Qn] at b3
   simp only [List.length_map] at b1 b2 b3 b4
   have hC:=QO6 bs zo (by rw [hbs];simp only [List.flatten_cons,List.flatten_nil,List.length_append,List.length_nil];omega)
   rw [hbl,hfl] at hC
   rw [hPB]
   refine QO.useO (ids:=[154,2,3]) hC ?_ rfl rfl ?_ ?_
   ·exact zCN
   ·exact zC
   exact zC
end Go.AW
