/- A part of the proof: D87. -/
import Derived.Test.YtpcbnjbpdooejaaGreatDoorNae
import Derived.Test.YtpcbnjbpdooejaaGreatDoorNaz
import Derived.Test.YtpcbnjbpdooejaaGreatDoorNba
import Derived.Test.YtpcbnjbpdooejaaGreatDoorCards
import Derived.Test.YtpcbnjbpdooejaaGreatDoorTie
import Derived.WalkKit
import Derived.ProofKit
import Derived.OpenShut
import Derived.Deep.DeepHandedRow
import Derived.Lib.LaidTab
set_option linter.unusedSimpArgs false
set_option linter.unusedVariables false
set_option maxRecDepth 100000
set_option maxHeartbeats 8000000
namespace Go.Proofs.YtpcbnjbpdooejaaGreatDoor.dagNexts
open Go.ChangeShapes Go.WideShapes Go.ChangeAt Go.RowKit Go.AW
mutual
theorem QIX {H:Type}:∀d:DataW H,Rows.uptoBulk d=bulk d
 | .lit l=>by cases l<;>simp [Rows.uptoBulk,bulk]
 | .nil=>by simp [Rows.uptoBulk,bulk]
 | .ptr d=>by simp [Rows.uptoBulk,bulk,QIX d]
 | .slice a b=>by simp [Rows.uptoBulk,bulk,bulkAll_eq a,bulkAll_eq b]
 | .agg a=>by simp [Rows.uptoBulk,bulk,bulkAll_eq a]
 | .iface _ d=>by simp [Rows.uptoBulk,bulk,QIX d]
 | .map es=>by simp [Rows.uptoBulk,bulk,bulkEntries_eq es]
 | .held _=>by simp [Rows.uptoBulk,bulk]
theorem bulkAll_eq {H:Type}:∀ds:List (DataW H),Rows.uptoBulkAll ds=bulkAll ds
 | []=>rfl
 | d::ds=>by simp [Rows.uptoBulkAll,bulkAll,QIX d,bulkAll_eq ds]
theorem bulkEntries_eq {H:Type}:∀es:List (Lit×DataW H),Rows.uptoBulkEntries es=bulkEntries es
 | []=>rfl
 | e::es=>by simp [Rows.uptoBulkEntries,bulkEntries,bulkEntry_eq e,bulkEntries_eq es]
theorem bulkEntry_eq {H:Type}:∀e:Lit×DataW H,Rows.uptoBulkEntry e=bulkEntry e
 | (l,d)=>by cases l<;>simp [Rows.uptoBulkEntry,bulkEntry,QIX d]
end
theorem own:ownKnob Tryz.prog.godebug=none:=zK
theorem laidOut:laidOutB Tryz.prog=true:=zK
theorem Qef:QCk Tryz.prog 6 22=true:=zK
theorem Qee:QCk Tryz.prog 6 23=true:=zK
theorem Qfw:QCk Tryz.prog 6 5=true:=zK
set_option maxRecDepth 100000 in
theorem contract (H:Type) (enc:TypeId×Value→H) (W:World) (base:Nat) (args:Array Value) (ds gs:List (DataW H)) (before:List MemPlace)
  (hval:∀(j:Nat) t v,Tryz.f4.params[j]?=some t→args[j]?=some v→Value.okWide Tryz.prog W .any base t v)
  (hW:DataW.Whole enc Tryz.prog Tryz.f4.params.toList Rows.dagNextsSpec.vars false W args.toList ds gs before) (hk:Rows.uptoSmall H (ds++gs)=true) (hL:laidMetH Tryz.prog Rows.dagNextsUptoRow.laid W):
  Calls Tryz.prog 4 args W fun e W'=>∃v,e=.returned v∧Rows.dagNextsSpec.post enc Tryz.prog Tryz.f4 false true false false W args v W':=by
 have hW':=hW
 obtain⟨p,q,hA0,hV,rfl,hfz,hnd⟩:=hW
 have hA:DataW.TrodAll enc Tryz.prog W 0 (fun _=>true) true Tryz.f4.params.toList args.toList ds p:=hA0
 rw [Tryz.params4] at hA hval
 obtain⟨v0,vs0,d0,ds0,p0,q0,hargs,rfl,rfl,h0,r0⟩:=trodAll_cons hA
 obtain⟨v1,vs1,d1,ds1,p1,q1,rfl,rfl,rfl,h1,r1⟩:=trodAll_cons r0
 obtain⟨v2,vs2,d2,ds2,p2,q2,rfl,rfl,rfl,h2,r2⟩:=trodAll_cons r1
 obtain⟨rfl,rfl,rfl⟩:=trodAll_nil r2
 obtain rfl:args=#[v0,v1,v2]:=by cases args;simp_all
 obtain⟨rfl,rfl⟩:=trodVars_none hV
 clear hA0
 obtain⟨xs0,x0,a0,b0,c0,i0⟩:=QMX Qef (hval 0 22 v0 rfl rfl) h0
 obtain⟨xs1,x1,a1,b1,c1,i1⟩:=QMX Qee (hval 1 23 v1 rfl rfl) h1
 obtain⟨xs2,x2,a2,b2,c2,i2⟩:=QMX Qfw (hval 2 5 v2 rfl rfl) h2
 obtain⟨y0,rfl,s0,o0⟩:=(Rd.mades) H _ _ _ a0
 obtain⟨y1,rfl,s1,o1⟩:=(Rd.bytes) H _ _ _ a1
 obtain⟨y2,rfl,s2,o2⟩:=(Rd.u8 QOv) H _ _ _ a2
 dsimp only at s0 s1 s2
 have hk':bulkAll ([d0,d1,d2]++[])≤1048576:=by rw [←bulkAll_eq];exact of_decide_eq_true hk
 simp only [bulkAll,List.append_nil] at hk'
 obtain⟨hl0,hm0⟩:=Qdz zo o0
 simp only [avOf,QC,QRV,QR2,Qf4,List.head?_cons,Option.some.injEq] at b0 b1 b2
 subst b0;subst b1;subst b2
 have hp:=QgV y0 hl0 hm0 y1 (by have:=QL6 s1;omega) y2
 refine (hp.lawG (w:=W) (args:=#[v0,v1,v2]) (GOK.laid hL) (by simp only [RepL];exact⟨v0,_,rfl,c0,v1,_,rfl,c1,v2,_,rfl,c2,rfl⟩)).mono fun e W' ⟨he,hb⟩=>?_
 subst he
 exact⟨_,rfl,QXf laidOut zK zK Tryz.underlying4 hW' rfl rfl hb⟩
noncomputable def QGV (os:Os):World:=
 { World.holding Tryz.prog os ⟨#[],#[],[]⟩ with heap:=(((World.holding Tryz.prog os ⟨#[],#[],[]⟩).heap.modify 0 fun
   | .cells _ t frozen=>.cells (zB.map fun z=>Value.int .u32 z).toArray t frozen
   | o=>o).modify 1 fun
   | .cells _ t frozen=>.cells (zR.map fun z=>Value.int .u32 z).toArray t frozen
   | o=>o) }
theorem QV8 (os:Os):laidMet Tryz.prog Rows.dagNextsUptoRow.laid ((QGV os).forCall (fun _ _=>0) ⟨#[],#[.slice none 0 0,.slice none 0 0,.int .u8 0],[]⟩).memory:=
 laidMet_of_run' 8 zK zK
theorem Qew (os:Os) {H:Type} (enc:TypeId×Value→H):∃places,DataW.whole enc Tryz.prog ((QGV os).forCall (fun _ _=>0) ⟨#[],#[.slice none 0 0,.slice none 0 0,.int .u8 0],[]⟩).memory Tryz.f4.params.toList Rows.dagNextsSpec.vars false (#[.slice none 0 0,.slice none 0 0,.int .u8 0]:Array Value).toList 8=some ([.nil,.nil,.lit (.int .u8 0)],[],places):=
 ⟨[],by kernel_rfl⟩
set_option maxRecDepth 100000 in
theorem lifted (os:Os) (started:os.Started) (H:Type) (enc:TypeId×Value→H) (F:Stop.Interp):
  ReturnsInHanded {} Tryz.checked os 4 .any ((Rows.OpenSpec.upto Rows.dagNextsSpec).preRow enc Tryz.prog Tryz.f4 Rows.dagNextsUptoRow.domain false Rows.dagNextsUptoRow.laid) (((Rows.OpenSpec.upto Rows.dagNextsSpec).at F).post enc Tryz.prog Tryz.f4 false true false false):=by
 obtain⟨places,hx⟩:=Qew os enc
 refine returnsInHanded_of_row (C:=Tryz.checked) (s:=Rows.OpenSpec.upto Rows.dagNextsSpec) own started zK Tryz.func4
  (witness_row_at (enc:=enc) (C:=Tryz.checked) false (QGV os) #[.slice none 0 0,.slice none 0 0,.int .u8 0] rfl zK zK zK
   (OpenSpec.preRow_of_cond 8 hx zK (fun k hk=>by cases hk;kernel_rfl) zK (QV8 os))) ?_
 intro W base args ds gs before hval hW h1 hk h3 hL _ _
 exact contract H enc W base args ds gs before hval hW (hk _ rfl) hL
theorem Q8 {a b:Bool} (ha:a=true) (hb:b=true):(a&&b)=true:=by rw [ha,hb];rfl
theorem fact1:(fun (P:Program) (f:FuncId) (fn:Func) (s:ChangeSpec) (c:OpenClaim)=>(c.wf (OpenSpec.ofChange s):Bool)) Tryz.prog 4 Tryz.f4 ((Rows.OpenSpec.upto Rows.dagNextsSpec).bare) (Rows.dagNextsUptoRow)=true:=zK
theorem fact2:(fun (P:Program) (f:FuncId) (fn:Func) (s:ChangeSpec) (c:OpenClaim)=>(laidOutB P:Bool)) Tryz.prog 4 Tryz.f4 ((Rows.OpenSpec.upto Rows.dagNextsSpec).bare) (Rows.dagNextsUptoRow)=true:=zK
theorem fact3:(fun (P:Program) (f:FuncId) (fn:Func) (s:ChangeSpec) (c:OpenClaim)=>(mapsRowed P:Bool)) Tryz.prog 4 Tryz.f4 ((Rows.OpenSpec.upto Rows.dagNextsSpec).bare) (Rows.dagNextsUptoRow)=true:=zK
theorem fact4:(fun (P:Program) (f:FuncId) (fn:Func) (s:ChangeSpec) (c:OpenClaim)=>(fn.params.all (P.readableRec ·):Bool)) Tryz.prog 4 Tryz.f4 ((Rows.OpenSpec.upto Rows.dagNextsSpec).bare) (Rows.dagNextsUptoRow)=true:=zK
theorem fact5:(fun (P:Program) (f:FuncId) (fn:Func) (s:ChangeSpec) (c:OpenClaim)=>(namedTie P c.named s.vars:Bool)) Tryz.prog 4 Tryz.f4 ((Rows.OpenSpec.upto Rows.dagNextsSpec).bare) (Rows.dagNextsUptoRow)=true:=zK
theorem fact6:(fun (P:Program) (f:FuncId) (fn:Func) (s:ChangeSpec) (c:OpenClaim)=>((c.stops==[]):Bool)) Tryz.prog 4 Tryz.f4 ((Rows.OpenSpec.upto Rows.dagNextsSpec).bare) (Rows.dagNextsUptoRow)=true:=zK
theorem fact7:(fun (P:Program) (f:FuncId) (fn:Func) (s:ChangeSpec) (c:OpenClaim)=>((P.stops==[]):Bool)) Tryz.prog 4 Tryz.f4 ((Rows.OpenSpec.upto Rows.dagNextsSpec).bare) (Rows.dagNextsUptoRow)=true:=zK
theorem fact8:(fun (P:Program) (f:FuncId) (fn:Func) (s:ChangeSpec) (c:OpenClaim)=>((c.knobs==[]):Bool)) Tryz.prog 4 Tryz.f4 ((Rows.OpenSpec.upto Rows.dagNextsSpec).bare) (Rows.dagNextsUptoRow)=true:=zK
theorem fact9:(fun (P:Program) (f:FuncId) (fn:Func) (s:ChangeSpec) (c:OpenClaim)=>((P.stopKnobs==[]):Bool)) Tryz.prog 4 Tryz.f4 ((Rows.OpenSpec.upto Rows.dagNextsSpec).bare) (Rows.dagNextsUptoRow)=true:=zK
theorem fact10:(fun (P:Program) (f:FuncId) (fn:Func) (s:ChangeSpec) (c:OpenClaim)=>((c.inPlace==P.inPlace f):Bool)) Tryz.prog 4 Tryz.f4 ((Rows.OpenSpec.upto Rows.dagNextsSpec).bare) (Rows.dagNextsUptoRow)=true:=zK
theorem fact11:(fun (P:Program) (f:FuncId) (fn:Func) (s:ChangeSpec) (c:OpenClaim)=>((c.unfollowed==P.unfollowed f):Bool)) Tryz.prog 4 Tryz.f4 ((Rows.OpenSpec.upto Rows.dagNextsSpec).bare) (Rows.dagNextsUptoRow)=true:=zK
theorem fact12:(fun (P:Program) (f:FuncId) (fn:Func) (s:ChangeSpec) (c:OpenClaim)=>((c.recurses==P.recurses f):Bool)) Tryz.prog 4 Tryz.f4 ((Rows.OpenSpec.upto Rows.dagNextsSpec).bare) (Rows.dagNextsUptoRow)=true:=zK
theorem fact13:(fun (P:Program) (f:FuncId) (fn:Func) (s:ChangeSpec) (c:OpenClaim)=>((c.named==P.varsNamed f):Bool)) Tryz.prog 4 Tryz.f4 ((Rows.OpenSpec.upto Rows.dagNextsSpec).bare) (Rows.dagNextsUptoRow)=true:=zK
theorem fact14:(fun (P:Program) (f:FuncId) (fn:Func) (s:ChangeSpec) (c:OpenClaim)=>((c.maps==(fn.params.toList++s.plain.varTypes P).any (P.mapsRec ·)):Bool)) Tryz.prog 4 Tryz.f4 ((Rows.OpenSpec.upto Rows.dagNextsSpec).bare) (Rows.dagNextsUptoRow)=true:=zK
theorem fact15:(fun (P:Program) (f:FuncId) (fn:Func) (s:ChangeSpec) (c:OpenClaim)=>((c.ifaces==(fn.params.toList++s.plain.varTypes P).any (P.ifacesRec ·)):Bool)) Tryz.prog 4 Tryz.f4 ((Rows.OpenSpec.upto Rows.dagNextsSpec).bare) (Rows.dagNextsUptoRow)=true:=zK
theorem fact16:(fun (P:Program) (f:FuncId) (fn:Func) (s:ChangeSpec) (c:OpenClaim)=>((c.mapsOut==P.mapsAmong fn.resultTypes.toList):Bool)) Tryz.prog 4 Tryz.f4 ((Rows.OpenSpec.upto Rows.dagNextsSpec).bare) (Rows.dagNextsUptoRow)=true:=zK
theorem fact17:(fun (P:Program) (f:FuncId) (fn:Func) (s:ChangeSpec) (c:OpenClaim)=>((c.loops==(fn.params.toList++s.plain.varTypes P).any (P.loopsFrom ·)):Bool)) Tryz.prog 4 Tryz.f4 ((Rows.OpenSpec.upto Rows.dagNextsSpec).bare) (Rows.dagNextsUptoRow)=true:=zK
theorem fact18:(fun (P:Program) (f:FuncId) (fn:Func) (s:ChangeSpec) (c:OpenClaim)=>((c.wideKeys==(fn.params.toList++s.plain.varTypes P++fn.resultTypes.toList).any (P.wideKeysFrom ·)):Bool)) Tryz.prog 4 Tryz.f4 ((Rows.OpenSpec.upto Rows.dagNextsSpec).bare) (Rows.dagNextsUptoRow)=true:=zK
theorem fact19:(fun (P:Program) (f:FuncId) (fn:Func) (s:ChangeSpec) (c:OpenClaim)=>(s.vars.all (P.varReadable ·):Bool)) Tryz.prog 4 Tryz.f4 ((Rows.OpenSpec.upto Rows.dagNextsSpec).bare) (Rows.dagNextsUptoRow)=true:=zK
theorem fact20:(fun (P:Program) (f:FuncId) (fn:Func) (s:ChangeSpec) (c:OpenClaim)=>(fn.resultTypes.all (fun t=>P.readableRec t&&decide (t<P.types.size)):Bool)) Tryz.prog 4 Tryz.f4 ((Rows.OpenSpec.upto Rows.dagNextsSpec).bare) (Rows.dagNextsUptoRow)=true:=zK
theorem fact21:(fun (P:Program) (f:FuncId) (fn:Func) (s:ChangeSpec) (c:OpenClaim)=>((c.ifacesOut==fn.resultTypes.toList.any (P.ifacesRec ·)):Bool)) Tryz.prog 4 Tryz.f4 ((Rows.OpenSpec.upto Rows.dagNextsSpec).bare) (Rows.dagNextsUptoRow)=true:=zK
theorem fact22:(fun (P:Program) (f:FuncId) (fn:Func) (s:ChangeSpec) (c:OpenClaim)=>((c.loopsOut==fn.resultTypes.toList.any (P.loopsFrom ·)):Bool)) Tryz.prog 4 Tryz.f4 ((Rows.OpenSpec.upto Rows.dagNextsSpec).bare) (Rows.dagNextsUptoRow)=true:=zK
theorem fact23:(fun (P:Program) (f:FuncId) (fn:Func) (s:ChangeSpec) (c:OpenClaim)=>((c.plainKeys==P.plainKeys):Bool)) Tryz.prog 4 Tryz.f4 ((Rows.OpenSpec.upto Rows.dagNextsSpec).bare) (Rows.dagNextsUptoRow)=true:=zK
theorem fact24:(fun (P:Program) (f:FuncId) (fn:Func) (s:ChangeSpec) (c:OpenClaim)=>(c.shortTexts.isNone:Bool)) Tryz.prog 4 Tryz.f4 ((Rows.OpenSpec.upto Rows.dagNextsSpec).bare) (Rows.dagNextsUptoRow)=true:=zK
theorem fact25:(fun (P:Program) (f:FuncId) (fn:Func) (s:ChangeSpec) (c:OpenClaim)=>(P.stopsHeard:Bool)) Tryz.prog 4 Tryz.f4 ((Rows.OpenSpec.upto Rows.dagNextsSpec).bare) (Rows.dagNextsUptoRow)=true:=zK
theorem fact26:(fun (P:Program) (f:FuncId) (fn:Func) (s:ChangeSpec) (c:OpenClaim)=>(P.mayEnter:Bool)) Tryz.prog 4 Tryz.f4 ((Rows.OpenSpec.upto Rows.dagNextsSpec).bare) (Rows.dagNextsUptoRow)=true:=zK
theorem fact27:(fun (P:Program) (f:FuncId) (fn:Func) (s:ChangeSpec) (c:OpenClaim)=>((c.lifted==P.liftsFinal):Bool)) Tryz.prog 4 Tryz.f4 ((Rows.OpenSpec.upto Rows.dagNextsSpec).bare) (Rows.dagNextsUptoRow)=true:=zK
theorem fact28:(fun (P:Program) (f:FuncId) (fn:Func) (s:ChangeSpec) (c:OpenClaim)=>((P.make==some c.make):Bool)) Tryz.prog 4 Tryz.f4 ((Rows.OpenSpec.upto Rows.dagNextsSpec).bare) (Rows.dagNextsUptoRow)=true:=zK
theorem fact29:(fun (P:Program) (f:FuncId) (fn:Func) (s:ChangeSpec) (c:OpenClaim)=>((c.kinds==(if c.domain.isEmpty then [] else fn.params.toList.map fun t=>match P.underlying t with | some (.int k)=>some k | _=>none)):Bool)) Tryz.prog 4 Tryz.f4 ((Rows.OpenSpec.upto Rows.dagNextsSpec).bare) (Rows.dagNextsUptoRow)=true:=zK
theorem fact30:(fun (P:Program) (f:FuncId) (fn:Func) (s:ChangeSpec) (c:OpenClaim)=>((c.pinned==c.pinnedBy):Bool)) Tryz.prog 4 Tryz.f4 ((Rows.OpenSpec.upto Rows.dagNextsSpec).bare) (Rows.dagNextsUptoRow)=true:=zK
theorem fact31:(fun (P:Program) (f:FuncId) (fn:Func) (s:ChangeSpec) (c:OpenClaim)=>((c.veiled==(fn.params.toList++s.plain.varTypes P++fn.resultTypes.toList).any (P.veiledRec ·)):Bool)) Tryz.prog 4 Tryz.f4 ((Rows.OpenSpec.upto Rows.dagNextsSpec).bare) (Rows.dagNextsUptoRow)=true:=zK
theorem fact32:(fun (P:Program) (f:FuncId) (fn:Func) (s:ChangeSpec) (c:OpenClaim)=>(c.veiledFits P fn.params.toList (fn.params.toList++s.plain.varTypes P++fn.resultTypes.toList):Bool)) Tryz.prog 4 Tryz.f4 ((Rows.OpenSpec.upto Rows.dagNextsSpec).bare) (Rows.dagNextsUptoRow)=true:=zK
end Go.Proofs.YtpcbnjbpdooejaaGreatDoor.dagNexts
