/- A part of the proof: A28 A29 A30 A31 A32 A33 A34 A35 A36 A37 A38 A39 A40 A41 A42 A43 A44 A45 A46 A47 A48. -/
import Derived.Test.YtpcbnjbpdooejaaGreatDoorPac
import Derived.IntWalk
import Derived.Carry
import Derived.ChangeSame
import Derived.OpenShut
set_option linter.all false
namespace Go.AW
theorem unf_v {x:Value}:unf (.v x)=.v x:=(rfl)
theorem Qb0 {x:List AV}:unf (.agg x)=.agg x:=(rfl)
theorem QdE {x:List AV}:unf (.tup x)=.tup x:=(rfl)
theorem Qdi {n z:Nat} {x:List AV}:unf (.seq n z x)=.seq n z x:=(rfl)
theorem unf_sl {o off n z:Nat}:unf (.sl o off n z)=.sl o off n z:=(rfl)
theorem Qag {o off n z:Nat}:unf (.slc o off n z)=.sl o off n z:=(rfl)
theorem Qbg {x:List AV}:unf (.rop x)=.rop x:=(rfl)
theorem Qce {o off:Nat}:unf (.ptr o off)=.ptr o off:=(rfl)
theorem unf_mp {o:Nat}:unf (.mp o)=.mp o:=(rfl)
theorem unf_mv {k:KT} {ks:List Value} {x:List AV}:unf (.mv k ks x)=.mv k ks x:=(rfl)
theorem QbT {f:Fn} {a b:List AV}:unf (.clo f a b)=.clo f a b:=(rfl)
attribute [push_cast] unf_v Qb0 QdE Qdi unf_sl Qag Qbg Qce unf_mp unf_mv QbT
theorem QGP {P:Program} {find:Nat→Option AObj} {fr:Nat} {sT xT:TypeId} {s x:AV}:QAH P find fr .append [sT,xT].toArray [s,x]=QEG P find fr sT xT s (unf x):=(rfl)
theorem QJ3 {P:Program} {find:Nat→Option AObj} {fr:Nat} {ts:Array TypeId} {xs:List AV}:QAH P find fr .len ts xs=QY P find fr .len ts (xs.map unf):=(rfl)
theorem QJm {P:Program} {find:Nat→Option AObj} {fr:Nat} {ts:Array TypeId} {xs:List AV}:QAH P find fr .copy ts xs=QY P find fr .copy ts (xs.map unf):=(rfl)
theorem QK1 {P:Program} {find:Nat→Option AObj} {fr:Nat} {ts:Array TypeId} {xs:List AV}:QAH P find fr .min ts xs=QY P find fr .min ts (xs.map unf):=(rfl)
theorem QLV {P:Program} {find:Nat→Option AObj} {fr:Nat} {ts:Array TypeId} {xs:List AV}:QAH P find fr .max ts xs=QY P find fr .max ts (xs.map unf):=(rfl)
theorem QGd {P:Program} {find:Nat→Option AObj} {fr:Nat} {ts:Array TypeId} {xs:List AV}:QAH P find fr .delete ts xs=QY P find fr .delete ts (xs.map unf):=(rfl)
theorem QSE {P:Program} {find:Nat→Option AObj} {fr:Nat} {sT xT:TypeId} {s:Value} {x:AV}:QEG P find fr sT xT (.v s) x=QAg P find fr sT xT (.v s) x:=(rfl)
theorem QQf {P:Program} {find:Nat→Option AObj} {fr:Nat} {sT xT:TypeId} {o off n z:Nat} {x:AV}:QEG P find fr sT xT (.sl o off n z) x=QAg P find fr sT xT (.sl o off n z) x:=(rfl)
theorem QIi {P : Program} {e fr z n0 n : Nat} {ys xs : List AV} : QGA P e fr z (some (n0, ys)) (some (n, xs)) = if z = tsz P e ∧ tok P e ∧ tzok P e ∧ 0 < tby P e ∧ (n0 = 0 ∨ 0 < n) ∧ (n0 + n) * tby P e ≤ 70368744177664 ∧ tby P e ≤ 1048576 then
      some (.sl fr 0 (n0 + n) (tsz P e), [(fr, .cells e (ys ++ xs) true)]) else none := rfl
attribute [push_cast] QGP QJ3 QJm QK1 QLV QGd QSE QQf QIi
variable {P : Program} {γ : GTab} {t : TypeId} {env : List (Nat × AV)} {m : Mem} {dst : Option Nat}
def QEA (P:Program) (e:Option TypeId) (n fresh:Nat) (parts:List (Nat×AV)):Option (AV×Upd):=match e with
  | some e=>match tz P e with
   | some zs=>if tok P e∧zs.length=tsz P e∧n*tsz P e≤16777216 then
     (QC4 (fun i=>some (i*tsz P e,tsz P e)) ((List.replicate n (zs.map AV.v)).flatten) parts).map fun cs=>(.sl fresh 0 n (tsz P e),[(fresh,.cells e cs true)])
    else none
   | none=>none
  | none=>none
theorem QFp {n:Nat} {parts:List (Nat×Operand)}:QN P γ env m dst (.buildSlice t n parts.toArray)=QEA P (Qd P t) n (QV m dst) (parts.map fun p=>(p.1,unf (rho γ env p.2))):=by
 simp only [QN,QBR,Qm,QEA]
 cases Qd P t with
 | none=>rfl
 | some e=>cases tz P e<;>rfl
def Qbs (place:Nat→Option (Nat×Nat)) (cells:List AV) (pl:Option (Nat×Nat)) (cs:Option (List AV)) (rest:List (Nat×AV)):Option (List AV):=match pl,cs with
  | some (off,size),some cs=>if cs.length=size then if off+size≤cells.length then QC4 place (setL cells off cs) rest else none else none
  | _,_=>none
theorem QTh {place:Nat→Option (Nat×Nat)} {cells:List AV}:QC4 place cells []=some cells:=(rfl)
theorem QQa {place:Nat→Option (Nat×Nat)} {cells:List AV} {i:Nat} {x:AV} {rest:List (Nat×AV)}:QC4 place cells ((i,x)::rest)=Qbs place cells (place i) (QR x) rest:=by
 simp only [QC4,Qbs]
 rfl
theorem QQg {place:Nat→Option (Nat×Nat)} {cells cs:List AV} {off size:Nat} {rest:List (Nat×AV)}:Qbs place cells (some (off,size)) (some cs) rest=if cs.length=size then if off+size≤cells.length then QC4 place (setL cells off cs) rest else none else none:=(rfl)
def QIT (P : Program) (e : TypeId) (fresh : Nat) (n : Nat) (xs : List AV) (o off n0 z : Nat) (ob : Option AObj) : Option (AV × Upd) := match ob with
        | some (.cells E ys true) =>
          orO (if z = tsz P e ∧ E = e ∧ tok P e ∧ tzok P e ∧ 0 < tby P e ∧ off + n0 * tsz P e = ys.length ∧ (n0 + n) * tby P e ≤ 70368744177664 ∧ tby P e ≤ 1048576 then
            some (.sl fresh 0 (n0 + n) (tsz P e), [(o, .dead), (fresh, .cells e (ys.drop off ++ xs) true)]) else none)
          (if z = tsz P e ∧ E = e ∧ tok P e ∧ tzok P e ∧ 0 < tby P e ∧ off + n0 * tsz P e ≤ ys.length ∧ (n0 + n) * tby P e ≤ 70368744177664 ∧ tby P e ≤ 1048576 then
            some (.sl fresh 0 (n0 + n) (tsz P e), [(o, .dead), (fresh, .cells e ((ys.drop off).take (n0 * tsz P e) ++ xs) true)]) else none)
        | _ => none
def QFE (P:Program) (e:TypeId) (find:Nat→Option AObj) (fresh:Nat) (src:Option (Nat×List AV)) (s:AV):Option (AV×Upd):=match src with
  | some (n,xs)=>match s with
   | .v (.slice none 0 0)=>
    if tok P e∧tzok P e∧0<tby P e∧n*tby P e≤70368744177664∧tby P e≤1048576 then some (.sl fresh 0 n (tsz P e),[(fresh,.cells e xs true)]) else none
   | .sl o off n0 z=>QIT P e fresh n xs o off n0 z (find o)
   | _=>none
  | none=>none
theorem QPT {find:Nat→Option AObj} {fresh:Nat} {sT xT e:TypeId} {s x:AV} (he:Qd P sT=some e) (hi:QAS P xT=some false):QAg P find fresh sT xT s x=QFE P e find fresh (srcS find (tsz P e) x) s:=by
 simp only [QAg,he,hi,QFE,QIT]
 rfl
def QF4 (P:Program) (find:Nat→Option AObj) (fresh:Nat) (te:Option TypeId) (ti:Option Bool) (s x:AV):Option (AV×Upd):=match te,ti with
 | some e,some false=>QFE P e find fresh (srcS find (tsz P e) x) s
 | some e,some true=>QDD P e fresh s x
 | _,_=>none
theorem QVW {find : Nat → Option AObj} {fresh : Nat} {sT xT : TypeId} {s x : AV} : QAg P find fresh sT xT s x = QF4 P find fresh (Qd P sT) (QAS P xT) s x := by
  unfold QF4
  cases he : Qd P sT with
  | none => simp only [QAg, he]
  | some e => cases hi : QAS P xT with
    | none => simp only [QAg, he, hi]
    | some b => cases b
                · exact QPT he hi
                · simp only [QAg, he, hi]
def QNB (P:Program) (e:TypeId) (fresh n:Nat):Option (List Value)→Option (AV×Upd)
 | some zs=>if zs.length=tsz P e∧0<tsz P e∧tok P e=true∧0<tby P e∧n*tby P e≤70368744177664∧tby P e≤1048576 then some (.sl fresh 0 n (tsz P e),[(fresh,.cells e ((List.replicate n (zs.map AV.v)).flatten) true)]) else none
 | none=>none
theorem QK7 {find:Nat→Option AObj} {fresh:Nat} {e:TypeId} {k:IntKind} {n:Nat}:QF4 P find fresh (some e) (some true) (.v (.slice none 0 0)) (.v (.int k (n:Nat)))=QNB P e fresh n (tz P e):=by
 show QDD P e fresh (.v (.slice none 0 0)) (.v (.int k (n:Nat)))=_
 unfold QDD QNB
 simp only [Int.toNat_natCast,Int.natCast_nonneg,true_and]
 cases tz P e<;>rfl
theorem QLQ {e:TypeId} {fresh n:Nat} {zs:List Value}:QNB P e fresh n (some zs)=if zs.length=tsz P e∧0<tsz P e∧tok P e=true∧0<tby P e∧n*tby P e≤70368744177664∧tby P e≤1048576 then some (.sl fresh 0 n (tsz P e),[(fresh,.cells e ((List.replicate n (zs.map AV.v)).flatten) true)]) else none:=(rfl)
attribute [push_cast] QK7 QLQ
theorem QIp {find:Nat→Option AObj} {fresh:Nat} {e:TypeId} {s x:AV}:QF4 P find fresh (some e) (some false) s x=QFE P e find fresh (srcS find (tsz P e) x) s:=(rfl)
attribute [push_cast] QVW QIp
theorem QMg {e:TypeId} {find:Nat→Option AObj} {fresh n:Nat} {xs:List AV}:QFE P e find fresh (some (n,xs)) (.v (.slice none 0 0))=if tok P e∧tzok P e∧0<tby P e∧n*tby P e≤70368744177664∧tby P e≤1048576 then some (.sl fresh 0 n (tsz P e),[(fresh,.cells e xs true)]) else none:=(rfl)
theorem QQX {e:TypeId} {find:Nat→Option AObj} {fresh n o off n0 z:Nat} {xs:List AV}:QFE P e find fresh (some (n,xs)) (.sl o off n0 z)=QIT P e fresh n xs o off n0 z (find o):=(rfl)
theorem QJA {e E : TypeId} {fresh n o off n0 z : Nat} {xs ys : List AV} : QIT P e fresh n xs o off n0 z (some (.cells E ys true)) = orO (if z = tsz P e ∧ E = e ∧ tok P e ∧ tzok P e ∧ 0 < tby P e ∧ off + n0 * tsz P e = ys.length ∧ (n0 + n) * tby P e ≤ 70368744177664 ∧ tby P e ≤ 1048576 then some (.sl fresh 0 (n0 + n) (tsz P e), [(o, .dead), (fresh, .cells e (ys.drop off ++ xs) true)]) else none) (if z = tsz P e ∧ E = e ∧ tok P e ∧ tzok P e ∧ 0 < tby P e ∧ off + n0 * tsz P e ≤ ys.length ∧ (n0 + n) * tby P e ≤ 70368744177664 ∧ tby P e ≤ 1048576 then
            some (.sl fresh 0 (n0 + n) (tsz P e), [(o, .dead), (fresh, .cells e ((ys.drop off).take (n0 * tsz P e) ++ xs) true)]) else none) := (rfl)
theorem QWi {α:Type} {x:α} {b:Option α}:orO (some x) b=some x:=(rfl)
theorem QYQ {α:Type} {b:Option α}:orO none b=b:=(rfl)
attribute [push_cast] QWi QYQ
theorem QYI {find:Nat→Option AObj} {sz n z:Nat} {xs:List AV}:srcS find sz (.seq n z xs)=if z=sz then some (n,xs) else none:=(rfl)
theorem Qap {find:Nat→Option AObj} {sz o off n z:Nat}:srcS find sz (.sl o off n z)=if z=sz then rdS find (.sl o off n z) else none:=(rfl)
def rdO (off n sz:Nat) (ob:Option AObj):Option (Nat×List AV):=match ob with
  | some (.cells _ ys _)=>if off+n*sz≤ys.length then some (n,(ys.drop off).take (n*sz)) else none
  | some (.imm ys)=>if off+n*sz≤ys.length then some (n,(ys.drop off).take (n*sz)) else none
  | _=>none
theorem rdS_sl {find:Nat→Option AObj} {o off n sz:Nat}:rdS find (.sl o off n sz)=rdO off n sz (find o):=(rfl)
theorem QTs {off n sz:Nat} {E:TypeId} {ys:List AV} {ap:Bool}:rdO off n sz (some (.cells E ys ap))=if off+n*sz≤ys.length then some (n,(ys.drop off).take (n*sz)) else none:=(rfl)
theorem len_sl {find:Nat→Option AObj} {fr o off n sz:Nat} {t:TypeId} {ts:List TypeId}:QY P find fr .len (t::ts).toArray [.sl o off n sz]=match tarr P t with | some (n,_)=>some (.v (.int .i64 n),[]) | none=>if QBo P t=some 0 then some (.v (.int .i64 n),[]) else none:=by
 simp [QY,lenA]
 cases tarr P t<;>simp
attribute [push_cast] rdS_sl QTs len_sl
attribute [push_cast] QYI Qap
attribute [push_cast] QMg QQX QJA
attribute [push_cast] QFp QTh QQa QQg List.replicate_zero List.replicate_succ List.flatten_nil List.flatten_cons
variable {P : Program} {γ : GTab}
def QBY (m:Mem) (objs:List (Nat×AObj)):Bool:=m.objs.all fun p=>(lk objs p.1).isSome
theorem QEg {m:Mem} {objs:List (Nat×AObj)} (h:QBY m objs=true) {o:Nat} (ho:m.find o≠none):lk objs o≠none:=by
 obtain⟨x,hx⟩:=Option.ne_none_iff_exists'.1 ho
 unfold QBY at h
 rw [List.all_eq_true] at h
 have:=h _ (lk_mem hx)
 intro e
 simp only [e] at this
 cases this
def endA (P:Program) (rs:List ResultVar) (m:Mem) (K:AV→Mem→Prop) (_:Exit) (σ:St):Prop:=
 ∃y,resA P rs σ.env σ.mem=some y∧QBY m σ.mem.objs=true∧K y ⟨σ.mem.objs,σ.mem.next,m.base,m.wid⟩
theorem Qr.enter {f:FuncId} {fn:Func} {c:Code} {xs:List AV} {m:Mem} {K:AV→Mem→Prop} (hf:P.funcs[f]?=some fn) (hb:fn.body=some c) (hn:(fn.name== "runtime.NumGoroutine")=false) (hm:P.follows .mixedOrders=true) (hd:dOK c=true)
  (h:ev P γ m.next fn.ntmps [.code c,.fin (endA P fn.results.toList m K)] ⟨(xs.zipIdx.map fun p=>(p.2,p.1)),m.close⟩):Qr P γ f xs m K:=by
 refine⟨⟨fn,hf,hn,by rw [hb];rfl⟩,fun S μ w vs hr hG hxs=>?_⟩
 have hRM:RM S μ w m.close:=⟨hr.obj,hr.inj,hr.old,hr.fr,fun o h1 h2=>by simp only [Mem.close] at h1 h2;omega,by simp [Mem.close],hr.bk⟩
 have hExt:Ext m.next m S μ w m.close S μ w:=⟨rfl,⟨rfl,Nat.le_refl _⟩,rfl,Nat.le_refl _,fun _ _=>rfl,fun _ _ h=>h,Nat.le_refl _,fun _ _ h=>h,fun _ _ _ h=>.inl h,fun _ _ _=>rfl,fun _ _ _ _ _ h=>h,fun _ _ h=>⟨rfl,h⟩,fun _=>Nat.le_refl _,fun _ _ h=>h⟩
 have hRX:RX γ fn.ntmps m.next m S μ w ⟨(xs.zipIdx.map fun p=>(p.2,p.1)),m.close⟩ { tmps:=vs.toArray++Array.replicate (fn.ntmps - vs.toArray.size) undef,defers:=[] } w:=
  ⟨S,μ,⟨hRM,QCL hxs,trivial⟩,hG,hExt,AOK.start (by simp;omega),Nat.le_refl _,Nat.zero_le _⟩
 have fin:∀(e:Exit) (σ:St) (a:Act) (w':World),endA P fn.results.toList m K e σ→RX γ fn.ntmps m.next m S μ w σ a w'→∃v,(results fn a.tmps).run P w'=.ok v w'∧
   ∃v0 x m' S' μ',Ending.returned v=.returned v0∧m'.base=m.base∧m'.wid=m.wid∧RM S' μ' w' m'∧Ext m.next m S μ w m' S' μ' w'∧Rep S' μ' w' x v0∧K x m':=by
  intro e σ a w' hE hR
  obtain⟨S',μ',hA,hG',hX,_,_,_⟩:=hR
  obtain⟨y,h1,hk,h2⟩:=hE
  obtain⟨v,h3,h4⟩:=QDP hA.rm hA.env h1
  have hle:=hr.le
  have hnx:m.next≤σ.mem.next:=hX.next
  refine⟨v,h3,v,y,⟨σ.mem.objs,σ.mem.next,m.base,m.wid⟩,S',μ',rfl,rfl,rfl,⟨hA.rm.obj,hA.rm.inj,hA.rm.old,hA.rm.fr,fun o h5 h6 h7=>?_,by show m.base+m.wid≤σ.mem.next;omega,hA.rm.bk⟩,hX.same (fun _=>rfl) rfl,h4,h2⟩
  simp only at h5 h6
  rw [hX.ids o (by omega)] at h7
  exact QEg hk (hr.win o h5 h6 h7)
 exact QCN hm hf hb hd hRX h fin
theorem QEp {a b:Nat} (h:Nat.blt a b=true):a<b:=Nat.le_of_ble_eq_true h
def limK:IntKind→Nat
 | .i8=>128 | .i16=>32768 | .i32=>2147483648 | .i64=>9223372036854775808
 | .u8=>256 | .u16=>65536 | .u32=>4294967296 | .u64=>18446744073709551616
def unsK:IntKind→Bool
 | .i8=>false | .i16=>false | .i32=>false | .i64=>false
 | _=>true
theorem QIg {k:IntKind} (hu:unsK k=true) (n:Int):k.wrap n=n % (limK k:Int):=by
 cases k<;>simp only [unsK,reduceCtorEq] at hu<;>simp [IntKind.wrap,IntKind.signed,IntKind.bits,limK]
def dstB (m:Mem):Option Nat→Bool
 | some d=>decide (d<m.wid)
 | none=>true
theorem QET {m:Mem} {d:Option Nat} (h:dstB m d=true):QAZ m d:=by
 cases d with
 | none=>trivial
 | some d=>simpa [dstB,QAZ] using h
variable {P : Program} {γ : GTab} {t : TypeId} {env : List (Nat × AV)} {m : Mem} {dst : Option Nat} {find : Nat → Option AObj}
def QJI (P:Program) (fs:Option (List (Nat×TypeId))) (ar:Option (Nat×TypeId)):Option (Nat→Option (Nat×Nat)):=match fs,ar with
 | some fs,_=>if fs.all (fun f=>tok P f.2) then some fun i=>(fs[i]?).map fun f=>(f.1,tsz P f.2) else none
 | none,some (_,e)=>if tok P e then some fun i=>some (i*tsz P e,tsz P e) else none
 | _,_=>none
def QTz (z:Option (List Value)) (pl:Option (Nat→Option (Nat×Nat))) (ps:List (Nat×AV)):Option (AV×Upd):=match z,pl with
 | some zs,some pl=>(QC4 pl (zs.map .v) ps).map fun cs=>(.agg cs,[])
 | _,_=>none
theorem QNu {parts:List (Nat×Operand)}:QN P γ env m dst (.build t parts.toArray)=QTz (tz P t) (QJI P (QBM P t) (tarr P t)) (parts.map fun p=>(p.1,unf (rho γ env p.2))):=by
 simp only [QN,QBR,Qm,QTz,QJb,QJI]
 rfl
theorem QRY {fs:List (Nat×TypeId)} {ar:Option (Nat×TypeId)}:QJI P (some fs) ar=if fs.all (fun f=>tok P f.2) then some fun i=>(fs[i]?).map fun f=>(f.1,tsz P f.2) else none:=(rfl)
theorem QRm {n:Nat} {e:TypeId}:QJI P none (some (n,e))=if tok P e then some fun i=>some (i*tsz P e,tsz P e) else none:=(rfl)
theorem QMU {zs:List Value} {pl:Nat→Option (Nat×Nat)} {ps:List (Nat×AV)}:QTz (some zs) (some pl) ps=(QC4 pl (zs.map .v) ps).map fun cs=>(.agg cs,[]):=(rfl)
def QVK (P:Program) (fs:Option (List (Nat×TypeId))) (f:Nat) (x:AV):Option (AV×Upd):=match fs with
  | some fs=>match fs[f]?,x with
   | some fl,.agg xs=>if tok P fl.2 then (QCR P fl.2 xs fl.1).map fun x=>(x,[]) else none
   | _,_=>none
  | none=>none
theorem QNH {x:Operand} {f:Nat}:QN P γ env m dst (.field t x f)=QVK P (QBM P t) f (unf (rho γ env x)):=(rfl)
theorem QPt {fs:List (Nat×TypeId)} {f:Nat} {xs:List AV}:QVK P (some fs) f (.agg xs)=(fs[f]?).bind fun fl=>if tok P fl.2 then (QCR P fl.2 xs fl.1).map fun x=>(x,[]) else none:=by
 simp only [QVK];cases fs[f]?<;>rfl
def QIU (i:Nat):AV→Option (AV×Upd)
 | .tup xs=>(xs[i]?).map fun x=>(x,[])
 | _=>none
theorem QJy {x:Operand} {i:Nat}:QN P γ env m dst (.extract x i)=QIU i (unf (rho γ env x)):=by
 simp only [QN,QBR,Qm,QIU]
 cases unf (rho γ env x)<;>rfl
theorem QLY {i:Nat} {xs:List AV}:QIU i (.tup xs)=(xs[i]?).map fun x=>(x,[]):=(rfl)
def mapO:Option AObj→Option (Option KT×List Value×List AV)
 | some (.map kt ks xs)=>some (some kt,ks,xs)
 | _=>none
theorem QXV {o:Nat}:QK4 find (.mp o)=mapO (find o):=(rfl)
theorem QVY {kt:KT} {ks:List Value} {xs:List AV}:QK4 find (.mv kt ks xs)=some (some kt,ks,xs):=(rfl)
theorem QYA {kt:KT} {ks:List Value} {xs:List AV}:mapO (some (.map kt ks xs))=some (some kt,ks,xs):=(rfl)
def QIl (kT:Option KT) (kt:Option KT) (ks:List Value) (xs:List AV) (key:Value) (z:Option AV) (ok:Bool):Option AV:=match kT with
 | some kt'=>if (kt=none∨kt=some kt')∧kwf kt' key then
    match z with
    | some z=>some (if ok then .tup [(mget ks xs key).getD z,.v (.bool (mget ks xs key).isSome)] else (mget ks xs key).getD z)
    | none=>none
   else none
 | none=>none
def QU0 (P:Program) (tm:Option (TypeId×TypeId)) (mo:Option (Option KT×List Value×List AV)) (k:Option Value) (ok:Bool):Option AV:=match tm,mo,k with
 | some (kT,e),some (kt,ks,xs),some key=>QIl (tkt P kT) kt ks xs key (zAV P e) ok
 | _,_,_=>none
theorem QKt {x k:Operand} {ok:Bool}:QN P γ env m dst (.lookup t x k ok)=(QU0 P (tmap P t) (QK4 m.find (unf (rho γ env x))) (unf (rho γ env k)).val? ok).map fun x=>(x,[]):=(rfl)
theorem QKY {kT e:TypeId} {kt:Option KT} {ks:List Value} {xs:List AV} {key:Value} {ok:Bool}:QU0 P (some (kT,e)) (some (kt,ks,xs)) (some key) ok=QIl (tkt P kT) kt ks xs key (zAV P e) ok:=(rfl)
theorem QRa {kt':KT} {kt:Option KT} {ks:List Value} {xs:List AV} {key:Value} {z:AV}:QIl (some kt') kt ks xs key (some z) false=if (kt=none∨kt=some kt')∧kwf kt' key then some ((mget ks xs key).getD z) else none:=(rfl)
theorem QUe {kt':KT} {kt:Option KT} {ks:List Value} {xs:List AV} {key:Value} {z:AV}:QIl (some kt') kt ks xs key (some z) true=if (kt=none∨kt=some kt')∧kwf kt' key then some (.tup [(mget ks xs key).getD z,.v (.bool (mget ks xs key).isSome)]) else none:=(rfl)
def QJU (P:Program) (o:Nat) (tm:Option (TypeId×TypeId)) (k:Option Value) (x:AV) (ob:Option AObj):Option Upd:=match tm,k,ob with
 | some (kT,_),some key,some (.map kt ks xs)=>if tkt P kT=some kt∧kwf kt key then some [(o,.map kt (if mhas ks key then ks else ks++[key]) (mset ks xs key x))] else none
 | _,_,_=>none
def QND (P:Program) (find:Nat→Option AObj) (tm:Option (TypeId×TypeId)) (k:Option Value) (x m:AV):Option Upd:=match m with
 | .mp o=>QJU P o tm k x (find o)
 | _=>none
theorem QGK {x k y:Operand}:QN P γ env m dst (.mapUpdate t x k y)=(QND P m.find (tmap P t) (unf (rho γ env k)).val? (unf (rho γ env y)) (unf (rho γ env x))).map fun u=>(.v undef,u):=by
 simp only [QN,QBR,Qm,QEB,QND,QJU]
 cases unf (rho γ env x)<;>try rfl
 cases tmap P t<;>try rfl
 cases (unf (rho γ env k)).val?<;>try rfl
 simp only
 rename_i o _ _
 cases m.find o<;>try rfl
 rename_i ob
 cases ob<;>rfl
theorem QPm {o:Nat} {tm:Option (TypeId×TypeId)} {k:Option Value} {x:AV}:QND P find tm k x (.mp o)=QJU P o tm k x (find o):=(rfl)
theorem QLJ {o:Nat} {kT e:TypeId} {key:Value} {x:AV} {kt:KT} {ks:List Value} {xs:List AV}:QJU P o (some (kT,e)) (some key) x (some (.map kt ks xs))=if tkt P kT=some kt∧kwf kt key then some [(o,.map kt (if mhas ks key then ks else ks++[key]) (mset ks xs key x))] else none:=(rfl)
def QDa (P:Program) (fresh:Nat) (tm:Option (TypeId×TypeId)):Option (AV×Upd):=match tm with
 | some (kT,_)=>match tkt P kT with
   | some kt=>some (.mp fresh,[(fresh,.map kt [] [])])
   | none=>none
 | none=>none
theorem QIu:QN P γ env m dst (.makeMap t none)=QDa P (QV m dst) (tmap P t):=by
 simp only [QN,QBR,Qm,QDa]
 cases tmap P t with
 | none=>rfl
 | some p=>simp only;cases tkt P p.1<;>rfl
def QK2:AV→Bool
 | .v (.int _ _)=>true
 | _=>false
theorem QHT {h:Operand}:QN P γ env m dst (.makeMap t (some h))=if QK2 (unf (rho γ env h))=true then QDa P (QV m dst) (tmap P t) else none:=by
 have key:∀(y:AV),(match tmap P t with
  | some (kT,_)=>match tkt P kT,(match y with | .v (.int _ _)=>true | _=>false) with
   | some kt,true=>some (.mp (QV m dst),[(QV m dst,.map kt [] [])])
   | _,_=>none
  | none=>none:Option (AV×Upd))=if QK2 y=true then QDa P (QV m dst) (tmap P t) else none:=by
  intro y
  have hy:(match y with | .v (.int _ _)=>true | _=>false)=QK2 y:=rfl
  rw [hy]
  unfold QDa
  cases QK2 y<;>cases tmap P t<;>try rfl
  all_goals (rename_i p;obtain⟨a,b⟩:=p;simp only;cases tkt P a<;>rfl)
 exact key _
theorem QYv {k:IntKind} {n:Int}:QK2 (.v (.int k n))=true:=(rfl)
def QOy (k:Option KT) (fresh:Nat):Option (AV×Upd):=match k with
   | some kt=>some (.mp fresh,[(fresh,.map kt [] [])])
   | none=>none
theorem QJq {fr:Nat} {kT e:TypeId}:QDa P fr (some (kT,e))=QOy (tkt P kT) fr:=(rfl)
theorem QJa {fr:Nat} {kt:KT}:QOy (some kt) fr=some (.mp fr,[(fr,.map kt [] [])]):=(rfl)
def QIR (P:Program) (o:Nat) (kt:KT) (ks:List Value) (ys:List AV) (key:Value) (tm:Option (TypeId×TypeId)):Option (AV×Upd):=match tm with
 | some (kT,_)=>if tkt P kT=some kt∧kwf kt key then some (.v (.tuple #[]),[(o,.map kt (QFl ks key) (QFj ks ys key))]) else none
 | none=>none
def QNe (P:Program) (o:Nat) (mT:TypeId) (k:Option Value) (ob:Option AObj):Option (AV×Upd):=match ob,k with
 | some (.map kt ks ys),some key=>QIR P o kt ks ys key (tmap P mT)
 | _,_=>none
theorem QVH {fr o:Nat} {mT kT0:TypeId} {k:AV}:QY P find fr .delete [mT,kT0].toArray [.mp o,k]=QNe P o mT k.val? (find o):=by
 have h0:([mT,kT0].toArray)[0]?=some mT:=rfl
 simp only [QY,QNe,QIR,h0]
 cases find o with
 | none=>rfl
 | some ob=>cases ob<;>cases k.val?<;>rfl
theorem QLT {o:Nat} {mT:TypeId} {key:Value} {kt:KT} {ks:List Value} {ys:List AV}:QNe P o mT (some key) (some (.map kt ks ys))=QIR P o kt ks ys key (tmap P mT):=(rfl)
theorem QJ5 {o:Nat} {kT e:TypeId} {key:Value} {kt:KT} {ks:List Value} {ys:List AV}:QIR P o kt ks ys key (some (kT,e))=if tkt P kT=some kt∧kwf kt key then some (.v (.tuple #[]),[(o,.map kt (QFl ks key) (QFj ks ys key))]) else none:=(rfl)
theorem QNp {x:Operand}:QN P γ env m dst (.range t x)=QHa P (QV m dst) t (rho γ env x):=(rfl)
theorem QMO {x:Operand}:QN P γ env m dst (.entry x)=QFV m.find (rho γ env x):=(rfl)
theorem QTE {fr:Nat} {kt:KT} {ks:List Value} {xs:List AV}:QHa P fr t (.mv kt ks xs)=if (tmap P t).isSome then some (.it fr,[(fr,.miter none ks xs)]) else none:=(rfl)
theorem QUG {o:Nat}:QFV find (.it o)=(QOH (find o)).map fun y=>(y,[]):=(rfl)
theorem QMz {p:Value×AV} {ks:List Value} {xs:List AV}:QOH (some (.miter (some p) ks xs))=some (.tup [.v p.1,p.2]):=(rfl)
class BoxN where
 p:Nat→Value→AV→Prop
def NxBr (ks:List Value) (xs:List AV) [y:Box] [n:BoxN]:Prop:=(ks=[]→y.p)∧∀i k x,ks[i]?=some k→xs[i]?=some x→n.p i k x
def evNxI (o:Nat) (dst:Option Nat) (env:List (Nat×AV)) (m:Mem) (ob:Option AObj) [y:Box] [n:BoxN]:Prop:=match ob with
 | some (.miter _ ks xs)=>QAZ m dst∧NxBr ks xs
 | _=>False
theorem QTM {o:Nat} {K:St→Prop}:QMH (.it o) false dst ⟨env,m⟩ K=@evNxI o dst env m (m.find o) ⟨K ⟨putE dst (.tup [.v (.bool false)]) env,m⟩⟩ ⟨fun i k x=>∀ks xs l,m.find o=some (.miter l ks xs)→K ⟨putE dst (.tup [.v (.bool true),.v k,x]) env,m.upd [(o,.miter (some (k,x)) (ks.eraseIdx i) (xs.eraseIdx i))]⟩⟩:=by
 simp only [QMH,evNxI,evNx]
 cases h:m.find o with
 | none=>rfl
 | some ob=>
  cases ob<;>try rfl
  simp only [NxBr,eq_iff_iff]
  refine and_congr Iff.rfl (and_congr Iff.rfl ⟨fun h i k x hk hx ks' xs' l e=>?_,fun h i k x hk hx=>h i k x hk hx _ _ _ rfl⟩)
  simp only [Option.some.injEq,AObj.miter.injEq] at e
  obtain⟨rfl,rfl,rfl⟩:=e
  exact h i k x hk hx
theorem QQr {o:Nat} {l:Option (Value×AV)} {ks:List Value} {xs:List AV} {y:Prop} {n:Nat→Value→AV→Prop}:@evNxI o dst env m (some (.miter l ks xs)) ⟨y⟩ ⟨n⟩=(QAZ m dst∧@NxBr ks xs ⟨y⟩ ⟨n⟩):=(rfl)
theorem QLk {x:Operand} {lo hi:Option Operand}:QN P γ env m dst (.slice t x lo hi none)=(QBk P m.find t (unf (rho γ env x)) (lo.map fun y=>unf (rho γ env y)) (hi.map fun y=>unf (rho γ env y))).map fun x=>(x,[]):=by cases hi<;>rfl
theorem QKv {x hi mx:Operand} {lo:Option Operand}:QN P γ env m dst (.slice t x lo (some hi) (some mx))=(QGa P (Qd P t) (unf (rho γ env x)) (lo.map (rho γ env)) (rho γ env hi) (rho γ env mx)).map fun x=>(x,[]):=(rfl)
theorem Qb2 {n:Nat}:bnds n none none=some (0,n):=(rfl)
theorem QbP {n:Nat} {k:IntKind} {h:Int}:bnds n none (some (.v (.int k h)))=if 0≤h∧h≤n then some (0,h.toNat) else none:=by
 simp only [bnds,bhi];split<;>rfl
theorem QbK {n:Nat} {k:IntKind} {l:Int}:bnds n (some (.v (.int k l))) none=if 0≤l∧l≤n then some (l.toNat,n) else none:=(rfl)
theorem Qbw {n:Nat} {k k':IntKind} {l h:Int}:bnds n (some (.v (.int k l))) (some (.v (.int k' h)))=if 0≤h∧h≤n then if 0≤l∧l≤(h.toNat:Int) then some (l.toNat,h.toNat) else none else none:=by
 simp only [bnds,bhi];split<;>rfl
def QKl (P:Program) (e:Option TypeId) (n z:Nat) (b:Option (Nat×Nat)) (mk:Nat→Nat→AV):Option AV:=match e with
 | some e=>if z=tsz P e∧tok P e then b.map fun p=>mk p.1 p.2 else none
 | none=>none
theorem QMb {e:TypeId} {n z:Nat} {b:Option (Nat×Nat)} {mk:Nat→Nat→AV}:QKl P (some e) n z b mk=if z=tsz P e∧tok P e then b.map fun p=>mk p.1 p.2 else none:=(rfl)
theorem QPs {n z:Nat} {xs:List AV} {lo hi:Option AV}:QBk P find t (.seq n z xs) lo hi=QKl P (Qd P t) n z (bnds n lo hi) fun l h=>.seq (h - l) z ((xs.drop (l*z)).take ((h - l)*z)):=by
 simp only [QBk,QKl];cases Qd P t<;>rfl
theorem QUb {o off n z:Nat} {lo hi:Option AV}:QBk P find t (.sl o off n z) lo hi=QKl P (Qd P t) n z (bnds n lo hi) fun l h=>.sl o (off+l*z) (h - l) z:=by
 simp only [QBk,QKl];cases Qd P t<;>rfl
def QVJ (P:Program) (e:Option TypeId) (b:Option (Nat×Nat)):Option AV:=match e with
 | some e=>if tok P e then b.map fun _=>.v (.slice none 0 0) else none
 | none=>none
theorem QQQ {lo hi:Option AV}:QBk P find t (.v (.slice none 0 0)) lo hi=QVJ P (Qd P t) (bnds 0 lo hi):=by
 simp only [QBk,QVJ];cases Qd P t<;>rfl
theorem QNb {e:TypeId} {b:Option (Nat×Nat)}:QVJ P (some e) b=if tok P e then b.map fun _=>.v (.slice none 0 0) else none:=(rfl)
def QR4 (P:Program) (o off:Nat) (ar:Option (Nat×TypeId)) (lo hi:Option AV) (ob:Option AObj):Option AV:=match ar,ob with
 | some (n,e),some (.cells _ ys _)=>if tok P e∧off+n*tsz P e≤ys.length then (bnds n lo hi).map fun p=>.sl o (off+p.1*tsz P e) (p.2 - p.1) (tsz P e) else none
 | _,_=>none
theorem QPx {o off:Nat} {lo hi:Option AV}:QBk P find t (.ptr o off) lo hi=QR4 P o off (tarr P t) lo hi (find o):=by
 simp only [QBk,QR4]
 cases tarr P t<;>try rfl
 all_goals (cases find o<;>try rfl)
theorem QNf {o off n:Nat} {e E:TypeId} {lo hi:Option AV} {ys:List AV} {ap:Bool}:QR4 P o off (some (n,e)) lo hi (some (.cells E ys ap))=if tok P e∧off+n*tsz P e≤ys.length then (bnds n lo hi).map fun p=>.sl o (off+p.1*tsz P e) (p.2 - p.1) (tsz P e) else none:=(rfl)
theorem QKL {e:TypeId} {x hi mx:AV} {lo:Option AV}:QGa P (some e) x lo hi mx=if tok P e∧QQ3 hi mx then QJn x (tsz P e) lo (some hi) else none:=(rfl)
theorem QUU {k k':IntKind} {a b:Int}:QQ3 (.v (.int k a)) (.v (.int k' b))=decide (a=b):=by
 simp only [QQ3];by_cases h:a=b<;>simp [h]
theorem QPv {o off n z z':Nat} {lo hi:Option AV}:QJn (.sl o off n z') z lo hi=if z'=z then (bnds n lo hi).map fun p=>.slc o (off+p.1*z) (p.2 - p.1) z else none:=(rfl)
theorem QQD {xs:List AV} {i:Int} {k:IntKind}:QFb P t (.agg xs) (.v (.int k i))=match tarr P t with | some (n,e)=>if tok P e then if 0≤i∧i<n then QCR P e xs (i.toNat*tsz P e) else none else none | none=>none:=by
 unfold QFb;cases tarr P t<;>rfl
theorem QPG {s:ByteArray} {i:Int} {k:IntKind} (h:tarr P t=none):QFb P t (.v (.string s)) (.v (.int k i))=if tstr P t then if 0≤i∧i<s.size then some (.v (.int .u8 (s.data.toList.getD i.toNat 0).toNat)) else none else none:=by
 simp only [QFb,h]
def QCZ (P:Program) (ar:Option (Nat×TypeId)) (i:Int) (mk:Nat→AV):Option AV:=match ar with
 | some (n,e)=>if tok P e then if 0≤i∧i<n then some (mk (i.toNat*tsz P e)) else none else none
 | none=>none
theorem QHF {n:Nat} {e:TypeId} {i:Int} {mk:Nat→AV}:QCZ P (some (n,e)) i mk=if tok P e then if 0≤i∧i<n then some (mk (i.toNat*tsz P e)) else none else none:=(rfl)
theorem QIq {o off:Nat} {i:Int} {k:IntKind} (h:Qd P t=none):QAC P t (.ptr o off) (.v (.int k i))=QCZ P (tarr P t) i fun j=>.ptr o (off+j):=by
 simp only [QAC,h,QCZ];cases tarr P t<;>rfl
theorem QJl {xs:List AV} {i:Int} {k:IntKind} (h:Qd P t=none):QAC P t (.rop xs) (.v (.int k i))=QCZ P (tarr P t) i fun j=>.rop (xs.drop j):=by
 simp only [QAC,h,QCZ];cases tarr P t<;>rfl
def QZa (P:Program) (e:TypeId) (o off n z:Nat) (ob:Option AObj) (src:Option (Nat×List AV)):Option (AV×Upd):=match ob,src with
   | some (.cells E ys ap),some (k,xs)=>
    if z=tsz P e∧tok P e∧off+n*tsz P e≤ys.length then
     some (.v (.int .i64 (min k n:Nat)),[(o,.cells E (setL ys off (xs.take (min k n*tsz P e))) ap)]) else none
   | _,_=>none
def QcS (P:Program) (o off n z:Nat) (te:Option TypeId) (ob:Option AObj) (src:Nat→Option (Nat×List AV)):Option (AV×Upd):=match te with
 | some e=>QZa P e o off n z ob (src (tsz P e))
 | none=>none
theorem Qbc {fr o off n z:Nat} {dT xT:TypeId} {x:AV}:QY P find fr .copy [dT,xT].toArray [.sl o off n z,x]=QcS P o off n z (Qd P dT) (find o) fun z=>srcS find z x:=by
 have h0:([dT,xT].toArray)[0]?=some dT:=rfl
 simp only [QY,h0,QMd,QcS,QZa]
 cases Qd P dT with
 | none=>rfl
 | some e=>cases find o<;>rfl
theorem QPC {o off n z:Nat} {e:TypeId} {ob:Option AObj} {src:Nat→Option (Nat×List AV)}:QcS P o off n z (some e) ob src=QZa P e o off n z ob (src (tsz P e)):=(rfl)
theorem QPU {e E:TypeId} {o off n z k:Nat} {ys xs:List AV} {ap:Bool}:QZa P e o off n z (some (.cells E ys ap)) (some (k,xs))=if z=tsz P e∧tok P e∧off+n*tsz P e≤ys.length then
     some (.v (.int .i64 (min k n:Nat)),[(o,.cells E (setL ys off (xs.take (min k n*tsz P e))) ap)]) else none:=rfl
def QHn (P:Program) (fresh:Nat) (e:Option TypeId) (l c:AV):Option (AV×Upd):=match e,l,c with
  | some e,.v (.int _ l),.v (.int _ c)=>match tz P e with
   | some zs=>if tok P e∧zs.length=tsz P e∧0≤l∧l≤c∧c≤9223372036854775807∧tby P e*c≤281474976710656 then
     some (.sl fresh 0 l.toNat (tsz P e),[(fresh,.cells e ((List.replicate l.toNat (zs.map AV.v)).flatten) true)])
    else none
   | none=>none
  | _,_,_=>none
theorem QGl {l c:Operand}:QN P γ env m dst (.makeSlice t l c)=QHn P (QV m dst) (Qd P t) (unf (rho γ env l)) (unf (rho γ env c)):=(rfl)
def QH2 (P:Program) (fresh:Nat) (e:TypeId) (l c:Int) (z:Option (List Value)):Option (AV×Upd):=match z with
   | some zs=>if tok P e∧zs.length=tsz P e∧0≤l∧l≤c∧c≤9223372036854775807∧tby P e*c≤281474976710656 then
     some (.sl fresh 0 l.toNat (tsz P e),[(fresh,.cells e ((List.replicate l.toNat (zs.map AV.v)).flatten) true)])
    else none
   | none=>none
theorem QGS {fr:Nat} {e:TypeId} {k k':IntKind} {l c:Int}:QHn P fr (some e) (.v (.int k l)) (.v (.int k' c))=QH2 P fr e l c (tz P e):=(rfl)
theorem QGG {fr:Nat} {e:TypeId} {l c:Int} {zs:List Value}:QH2 P fr e l c (some zs)=if tok P e∧zs.length=tsz P e∧0≤l∧l≤c∧c≤9223372036854775807∧tby P e*c≤281474976710656 then
     some (.sl fr 0 l.toNat (tsz P e),[(fr,.cells e ((List.replicate l.toNat (zs.map AV.v)).flatten) true)])
    else none:=rfl
def tint (P:Program) (E:TypeId):Option IntKind:=(P.underlying E).bind fun | .int k=>some k | _=>none
theorem QFR {E:TypeId} {k:IntKind} (h:tint P E=some k):P.underlying E=some (.int k):=by
 unfold tint at h
 simp only [Option.bind_eq_some_iff] at h
 obtain⟨d,h1,h2⟩:=h
 cases d<;>simp at h2
 rw [h1,h2]
def QC7 (P:Program) (s d:TypeId) (find:Nat→Option AObj) (fresh:Nat) (x:AV):Option (AV×Upd):=match x with
  | .v (.string s')=>if tstr P d then (if tstr P s then some (.v (.string s'),[]) else none)
   else if QDR P d∧tstr P s then match Qd P d with
    | some e=>some (.sl fresh 0 s'.size 1,[(fresh,.cells e (QC3 s'.data.toList) true)])
    | none=>none
   else none
  | .v a=>(prun P (convert s d a)).map fun v=>(.v v,[])
  | x=>if QDR P s∧tstr P d then match srcS find 1 x with
    | some (_,xs)=>match QFQ xs with
     | some vs=>if vs.all (QC6 .u8) then some (.v (.string ⟨(vs.map fun | .int _ n=>UInt8.ofNat n.toNat | _=>0).toArray⟩),[]) else none
     | none=>none
    | none=>none
   else none
theorem QIh {s d:TypeId} {x:Operand}:QN P γ env m dst (.convert s d x)=QC7 P s d m.find (QV m dst) (unf (rho γ env x)):=(rfl)
def Qct (s d:Option IntKind) (n:Int) (other:Option (AV×Upd)):Option (AV×Upd):=match s,d with
 | some _,some k=>some (.v (.int k (k.wrap n)),[])
 | _,_=>other
theorem QU6 {s d:TypeId} {fr:Nat} {k:IntKind} {n:Int}:QC7 P s d find fr (.v (.int k n))=Qct (tint P s) (tint P d) n ((prun P (convert s d (.int k n))).map fun v=>(.v v,[])):=by
 cases h1:tint P s with
 | none=>rfl
 | some k1=>cases h2:tint P d with
  | none=>rfl
  | some k2=>
   simp only [QC7,Qct]
   have:prun P (convert s d (.int k n))=some (.int k2 (k2.wrap n)):=by
    have hu:∀(E:TypeId) (d:TypeDesc) (f:TypeDesc→Sem Value),P.underlying E=some d→prun P (underlying E >>= f)=prun P (f d):=by
     intro E d f h
     show prun P (Sem.bind (underlying E) f)=_
     unfold underlying
     simp only [program,bind,Sem.bind,prun,h]
     rfl
    unfold convert
    rw [hu _ _ _ (QFR h1),hu _ _ _ (QFR h2)]
    rfl
   rw [this];rfl
theorem QPa {k1 k2:IntKind} {n:Int} {o:Option (AV×Upd)}:Qct (some k1) (some k2) n o=some (.v (.int k2 (k2.wrap n)),[]):=(rfl)
theorem QVR {s d:TypeId} {fr:Nat} {b:ByteArray}:QC7 P s d find fr (.v (.string b))=if tstr P d then (if tstr P s then some (.v (.string b),[]) else none)
   else if QDR P d∧tstr P s then match Qd P d with
    | some e=>some (.sl fr 0 b.size 1,[(fr,.cells e (QC3 b.data.toList) true)])
    | none=>none
   else none:=rfl
def QGQ (P:Program) (e n fresh:Nat) (parts:List (Nat×AV)) (z:Option (List Value)):Option (AV×Upd):=match z with
   | some zs=>if tok P e∧zs.length=tsz P e∧n*tsz P e≤16777216 then
     (QC4 (fun i=>some (i*tsz P e,tsz P e)) ((List.replicate n (zs.map AV.v)).flatten) parts).map fun cs=>(.sl fresh 0 n (tsz P e),[(fresh,.cells e cs true)])
    else none
   | none=>none
theorem QFo {e n fr:Nat} {parts:List (Nat×AV)}:QEA P (some e) n fr parts=QGQ P e n fr parts (tz P e):=(rfl)
theorem QFm {e n fr:Nat} {parts:List (Nat×AV)} {zs:List Value}:QGQ P e n fr parts (some zs)=if tok P e∧zs.length=tsz P e∧n*tsz P e≤16777216 then
     (QC4 (fun i=>some (i*tsz P e,tsz P e)) ((List.replicate n (zs.map AV.v)).flatten) parts).map fun cs=>(.sl fr 0 n (tsz P e),[(fr,.cells e cs true)])
    else none:=rfl
noncomputable def Cnd {α:Type} (c:Prop) (r:Option α):Option α:=open Classical in if c then r else none
theorem QG {α:Type} {c:Prop} [Decidable c] {r:Option α}:(if c then r else none)=Cnd c r:=by
 unfold Cnd;by_cases h:c<;>simp [h]
theorem QGW {α:Type} {r:Option α}:Cnd False r=none:=by simp [Cnd]
theorem Cnd_T {α:Type} {c:Prop} {r:Option α} (h:c):Cnd c r=r:=by simp [Cnd,h]
theorem QdY {α β:Type} {f:α→β} {c:Prop} {r:Option α}:Option.map f (Cnd c r)=Cnd c (Option.map f r):=by
 unfold Cnd;by_cases h:c<;>simp [h]
theorem Qbt {K:St→Prop} {σ:St} {c:Prop} {r:Option (AV×Upd)}:evS (Cnd c r) dst σ K=(c∧evS r dst σ K):=by
 unfold Cnd;by_cases h:c<;>simp [h,evS]
attribute [push_cast high] QGW Cnd_T
attribute [push_cast] QdY Qbt
attribute [push_cast] QFo QFm Nat.le_add_right Nat.le_refl
attribute [push_cast] QYO QUJ QSQ
attribute [push_cast] QNu QRY QRm QMU QNH QPt QJy QLY QXV QVY QYA QKt QKY QRa QUe QGK QPm QLJ QIu QHT QYv QJq QJa QVH QLT QJ5
attribute [push_cast] QNp QMO QTE QUG QMz QTM QQr
attribute [push_cast] QLk QKv Qb2 QbP QbK Qbw QMb QPs QUb QQQ QNb QPx QNf QKL QUU QPv QQD QPG QHF QIq QJl Qbc QPC QPU QGl QGS QGG
attribute [push_cast] QIh QU6 QPa QVR
attribute [push_cast] Option.isSome_some Option.isSome_none List.all_cons List.all_nil
attribute [push_cast] List.set_cons_zero List.set_cons_succ List.drop_succ_cons List.take_succ_cons List.take_zero List.drop_nil List.take_nil
theorem QHZ {y c:AV} {ys cs:List AV}:setL (y::ys) 0 (c::cs)=c::setL ys 0 cs:=by
 have key:∀(cs pre ys:List AV),setL (pre++ys) pre.length cs=pre++setL ys 0 cs:=by
  intro cs
  induction cs with
  | nil=>intro pre ys;rfl
  | cons c cs ih=>
   intro pre ys
   simp only [setL]
   cases ys with
   | nil=>
    simp only [List.append_nil,List.set_nil]
    rw [List.set_eq_of_length_le (by simp)]
    have h1:=ih pre []
    have h2:∀(n:Nat) (cs:List AV),setL [] n cs=[]:=by
     intro n cs
     induction cs generalizing n with
     | nil=>rfl
     | cons c cs ih=>simp only [setL,List.set_nil];exact ih _
    have h3:∀(l:List AV) (n:Nat) (cs:List AV),l.length≤n→setL l n cs=l:=by
     intro l n cs
     induction cs generalizing n with
     | nil=>intro _;rfl
     | cons c cs ih=>intro h;simp only [setL];rw [List.set_eq_of_length_le h];exact ih _ (by omega)
    rw [h2,List.append_nil,h3 _ _ _ (by omega)]
   | cons y ys=>
    have h1:=ih (pre++[c]) ys
    simp only [List.length_append,List.length_cons,List.length_nil,Nat.zero_add,List.append_assoc,List.cons_append,List.nil_append] at h1
    rw [List.set_append_right _ _ (Nat.le_refl _)]
    simp only [Nat.sub_self,List.set_cons_zero]
    rw [h1]
    have h4:=ih [c] ys
    simp only [List.length_cons,List.length_nil,Nat.zero_add,List.cons_append,List.nil_append] at h4
    rw [h4]
 have:=key cs [c] ys
 simpa [setL] using this
theorem QLb {y:AV} {ys:List AV} {n:Nat}:∀{cs:List AV},setL (y::ys) (n+1) cs=y::setL ys n cs:=by
 intro cs
 induction cs generalizing ys n with
 | nil=>rfl
 | cons c cs ih=>simp only [setL,List.set_cons_succ];exact ih
attribute [push_cast] QHZ QLb
variable {keep : List (Nat × Nat)} {f : Nat → Option AObj}
theorem QFa:∀{objs:List (Nat×AObj)} {o:Nat},lk (Qc keep objs) o=if (keep.any fun q=>q.2==o)=true then none else lk objs o
 | [],o=>by simp [Qc,lk]
 | (p,x)::objs,o=>by
  have ih:=QFa (objs:=objs) (o:=o)
  unfold Qc at ih ⊢
  simp only [List.filter_cons,lk]
  by_cases hp:(keep.any fun q=>q.2==p)=true
  ·simp only [hp,Bool.not_true,Bool.false_eq_true,if_false,ih]
   by_cases ho:(keep.any fun q=>q.2==o)=true
   ·simp [ho]
   ·have:p≠o:=fun e=>ho (by rw [←e];exact hp)
    simp [ho,this]
  ·simp only [hp,Bool.not_false,if_true,lk,ih]
   by_cases e:p=o
   ·subst e
    simp [hp]
   ·simp only [if_neg e]
theorem QcO {env:List (Nat×AV)}:FzE keep f env []=True:=(rfl)
theorem QZj {env e:List (Nat×AV)} {t:Nat} {x:AV}:FzE keep f env ((t,x)::e)=(FzV keep f (lk env t) x∧FzE keep f env e):=(rfl)
def fzA (k:Option AV) (s:Option (AV×List Nat)):Option AV:=match k with
 | some z=>some z
 | none=>s.map (·.1)
def Fz1 (n:Bool) (r:Option AV) (y:AV):Prop:=n=true∨r=some y
theorem QW6 {x y:AV}:FzV keep f (some x) y=Fz1 (nilA y x) (fzA (QNR keep x) (snap f 12 x)) y:=by
 simp only [FzV,Fz1,fzA,eq_iff_iff]
 cases QNR keep x with
 | some z=>simp
 | none=>
  cases snap f 12 x with
  | none=>simp
  | some p=>simp [Prod.ext_iff]
theorem Fz1_t {r:Option AV} {y:AV}:Fz1 true r y=True:=by simp [Fz1]
theorem Fz1_f {r:Option AV} {y:AV}:Fz1 false r y=(r=some y):=by simp [Fz1]
theorem QXp {z:AV} {s:Option (AV×List Nat)}:fzA (some z) s=some z:=(rfl)
theorem QXr {p:AV×List Nat}:fzA none (some p)=some p.1:=(rfl)
theorem QeK {x:AV} (h:idf x=true):fzA (QNR keep x) (snap f 12 x)=some x:=by
 have:QNR keep x=none:=by cases x<;>first | rfl | simp [idf] at h
 rw [this,QAs h];rfl
def QEx (keep:List (Nat×Nat)) (o:Nat) (mk:Nat→AV):Option AV:=match keep with
 | []=>none
 | q::k=>if q.2=o then some (mk q.1) else QEx k o mk
theorem QAr {o:Nat} {mk:Nat→AV}:∀{keep:List (Nat×Nat)},((keep.find? fun q=>q.2==o).map fun q=>mk q.1)=QEx keep o mk
 | []=>rfl
 | q::k=>by
  simp only [List.find?_cons,QEx]
  by_cases e:q.2=o
  ·simp [e]
  ·have:(q.2==o)=false:=by simpa using e
   rw [this,if_neg e];exact QAr
theorem QZL {o off n sz:Nat}:QNR keep (.sl o off n sz)=QEx keep o fun p=>.sl p off n sz:=QAr (mk:=fun p=>.sl p off n sz)
theorem QTu {o:Nat} {mk:Nat→AV}:QEx [] o mk=none:=(rfl)
theorem QP5 {o:Nat} {mk:Nat→AV} {a b:Nat} {k:List (Nat×Nat)}:QEx ((a,b)::k) o mk=if b=o then some (mk a) else QEx k o mk:=(rfl)
theorem nilA_v {y:AV} {i:IntKind} {n:Int}:nilA y (.v (.int i n))=false:=(rfl)
theorem QTn {o off sz:Nat}:nilA (.sl o off 0 sz) (.v (.slice none 0 0))=true:=(rfl)
theorem QS2 {z:Nat}:nilA (.seq 0 z []) (.v (.slice none 0 0))=true:=(rfl)
theorem QRo {y:AV} {b:Bool}:nilA y (.v (.bool b))=false:=(rfl)
theorem QZF {y:AV} {b:ByteArray}:nilA y (.v (.string b))=false:=(rfl)
theorem QXQ {y:AV} {g:Fn} {a b:Array Value}:nilA y (.v (.func g a b))=false:=(rfl)
theorem QWJ {y:AV} {n z:Nat} {xs:List AV}:nilA y (.seq n z xs)=false:=(rfl)
theorem Qbz {y:AV} {o off n z:Nat}:nilA y (.sl o off n z)=false:=(rfl)
theorem QWD {y:AV} {o off:Nat}:nilA y (.ptr o off)=false:=(rfl)
theorem QYK {y:AV} {xs:List AV}:nilA y (.agg xs)=false:=(rfl)
theorem QWE {y:AV} {xs:List AV}:nilA y (.tup xs)=false:=(rfl)
theorem QeW {y:AV} {o:Nat}:nilA y (.mp o)=false:=(rfl)
theorem QWd {y:AV} {xs:List AV}:nilA y (.rop xs)=false:=(rfl)
theorem Qb7 {y:AV} {k:KT} {ks:List Value} {xs:List AV}:nilA y (.mv k ks xs)=false:=(rfl)
theorem QZP {y:AV} {g:Fn} {a b:List AV}:nilA y (.clo g a b)=false:=(rfl)
theorem QdM {objs:List (Nat×AObj)}:FzO keep f objs []=True:=(rfl)
theorem QX6 {objs e:List (Nat×AObj)} {o:Nat} {x:AObj}:FzO keep f objs ((o,x)::e)=(FzO1 keep f objs o x∧FzO keep f objs e):=(rfl)
def FzO2 (f:Nat→Option AObj) (objs:List (Nat×AObj)) (q:Option Nat) (x:AObj):Prop:=match q with
 | some q=>FzB f (lk objs q) x
 | none=>nilO x=true
theorem QeD {objs:List (Nat×AObj)} {o:Nat} {x:AObj}:FzO1 keep f objs o x=FzO2 f objs (lk keep o) x:=by
 unfold FzO1 FzO2;cases lk keep o<;>rfl
theorem QTA {objs:List (Nat×AObj)} {q:Nat} {x:AObj}:FzO2 f objs (some q) x=FzB f (lk objs q) x:=(rfl)
theorem QW0 {E:TypeId} {ap:Bool}:nilO (.cells E [] ap)=true:=(rfl)
def fzL (s:Option (List AV×List Nat)):Option (List AV):=s.map (·.1)
theorem QVQ {E E':TypeId} {xs ys:List AV} {ap ap':Bool}:FzB f (some (.cells E xs ap)) (.cells E' ys ap')=(E=E'∧ap=ap'∧fzL (QAO (snap f 12) xs)=some ys):=by
 simp only [FzB,fzL,eq_iff_iff]
 cases QAO (snap f 12) xs with
 | none=>simp
 | some p=>simp [Prod.ext_iff]
theorem Qd0 {k k':KT} {ks ks':List Value} {xs ys:List AV}:FzB f (some (.map k ks xs)) (.map k' ks' ys)=(k=k'∧ks=ks'∧fzL (QAO (snap f 12) xs)=some ys):=by
 simp only [FzB,fzL,eq_iff_iff]
 cases QAO (snap f 12) xs with
 | none=>simp
 | some p=>simp [Prod.ext_iff]
theorem QXz {p:List AV×List Nat}:fzL (some p)=some p.1:=(rfl)
theorem QRI {F:AV→Option (AV×List Nat)} {xs:List AV} (h:idfL xs=true):QAO F xs=some (xs,[]):=by simp [QAO,h]
theorem QG5 {n:Nat}:∀{xs:List AV},idfL xs=true→QBV (snap f (n+1)) xs=some (xs,[])
 | [],_=>rfl
 | x::xs,h=>by
  simp only [idfL,Bool.and_eq_true] at h
  simp only [QBV,QAs h.1,QG5 h.2,List.append_nil]
theorem Qdt {n:Nat} {xs:List AV}:QAO (snap f (n+1)) xs=QBV (snap f (n+1)) xs:=by
 unfold QAO;split
 ·rename_i h;exact (QG5 h).symm
 ·rfl
def Qcl (a:Option (AV×List Nat)) (b:Option (List AV×List Nat)):Option (List AV×List Nat):=match a,b with
  | some p,some q=>some (p.1::q.1,p.2++q.2)
  | _,_=>none
theorem QQN {F:AV→Option (AV×List Nat)} {x:AV} {xs:List AV}:QBV F (x::xs)=Qcl (F x) (QBV F xs):=by simp only [QBV,Qcl];rfl
theorem QP1 {p:AV×List Nat} {q:List AV×List Nat}:Qcl (some p) (some q)=some (p.1::q.1,p.2++q.2):=(rfl)
theorem QLy {n:Nat}:∀{xs ys:List AV},idfL xs=true→QBV (snap f (n+1)) (xs++ys)=(QBV (snap f (n+1)) ys).map fun p=>(xs++p.1,p.2)
 | [],ys,_=>by cases h:QBV (snap f (n+1)) ys<;>simp [h]
 | x::xs,ys,h=>by
  simp only [idfL,Bool.and_eq_true] at h
  simp only [List.cons_append,QBV,QAs h.1,QLy h.2]
  cases h:QBV (snap f (n+1)) ys<;>simp
def QUr (off k sz:Nat) (F:AV→Option (AV×List Nat)) (o:Nat) (ob:Option AObj):Option (AV×List Nat):=match ob with
   | some (.cells _ ys _)=>if off+k*sz≤ys.length then (QAO F ys).map fun p=>(.seq k sz ((p.1.drop off).take (k*sz)),o::p.2) else none
   | some (.imm ys)=>if off+k*sz≤ys.length then (QAO F ys).map fun p=>(.seq k sz ((p.1.drop off).take (k*sz)),o::p.2) else none
   | _=>none
theorem Qay {n o off k sz:Nat}:snap f (n+1) (.sl o off k sz)=QUr off k sz (snap f n) o (f o):=by simp only [snap,QUr];rfl
theorem QKK {off k sz o:Nat} {F:AV→Option (AV×List Nat)} {E:TypeId} {ys:List AV} {ap:Bool}:QUr off k sz F o (some (.cells E ys ap))=if off+k*sz≤ys.length then (QAO F ys).map fun p=>(.seq k sz ((p.1.drop off).take (k*sz)),o::p.2) else none:=(rfl)
def QUz (off:Nat) (F:AV→Option (AV×List Nat)) (o:Nat) (ob:Option AObj):Option (AV×List Nat):=match ob with
   | some (.cells _ ys _)=>(QAO F ys).map fun p=>(.rop (p.1.drop off),o::p.2)
   | some (.imm ys)=>(QAO F ys).map fun p=>(.rop (p.1.drop off),o::p.2)
   | _=>none
theorem QYG {n o off:Nat}:snap f (n+1) (.ptr o off)=QUz off (snap f n) o (f o):=by simp only [snap,QUz];rfl
theorem QLK {off o:Nat} {F:AV→Option (AV×List Nat)} {E:TypeId} {ys:List AV} {ap:Bool}:QUz off F o (some (.cells E ys ap))=(QAO F ys).map fun p=>(.rop (p.1.drop off),o::p.2):=(rfl)
def QSM (F:AV→Option (AV×List Nat)) (o:Nat) (ob:Option AObj):Option (AV×List Nat):=match ob with
   | some (.map kt ks xs)=>(QAO F xs).map fun p=>(.mv kt ks p.1,o::p.2)
   | _=>none
theorem QeS {n o:Nat}:snap f (n+1) (.mp o)=QSM (snap f n) o (f o):=by simp only [snap,QSM];rfl
theorem QQz {o:Nat} {F:AV→Option (AV×List Nat)} {kt:KT} {ks:List Value} {xs:List AV}:QSM F o (some (.map kt ks xs))=(QAO F xs).map fun p=>(.mv kt ks p.1,o::p.2):=(rfl)
theorem QYN {n:Nat} {xs:List AV}:snap f (n+1) (.agg xs)=(QAO (snap f n) xs).map fun p=>(.agg p.1,p.2):=(rfl)
theorem QYS {n:Nat} {xs:List AV}:snap f (n+1) (.tup xs)=(QAO (snap f n) xs).map fun p=>(.tup p.1,p.2):=(rfl)
theorem QZI {n:Nat} {fn:Fn} {a c:List AV}:snap f (n+1) (.clo fn a c)=if idfL a then (QAO (snap f n) c).map fun p=>(.clo fn a p.1,p.2) else none:=(rfl)
theorem snap_v {n:Nat} {x:Value}:snap f (n+1) (.v x)=some (.v x,[]):=QAs rfl
theorem QZn {n k z:Nat} {xs:List AV} (h:idfL xs=true):snap f (n+1) (.seq k z xs)=some (.seq k z xs,[]):=QAs h
theorem QeT {n:Nat} {k:KT} {ks:List Value} {xs:List AV} (h:idfL xs=true):snap f (n+1) (.mv k ks xs)=some (.mv k ks xs,[]):=QAs h
theorem idf_v {x:Value}:idf (.v x)=true:=(rfl)
theorem QbL {xs:List AV}:idf (.agg xs)=idfL xs:=(rfl)
theorem Qaz {xs:List AV}:idf (.tup xs)=idfL xs:=(rfl)
theorem QdB {n z:Nat} {xs:List AV}:idf (.seq n z xs)=idfL xs:=(rfl)
theorem Qck {xs:List AV}:idf (.rop xs)=idfL xs:=(rfl)
theorem idf_mv {k:KT} {ks:List Value} {xs:List AV}:idf (.mv k ks xs)=idfL xs:=(rfl)
theorem QcC {g:Fn} {a b:List AV}:idf (.clo g a b)=(idfL a&&idfL b):=(rfl)
theorem idf_sl {o off n z:Nat}:idf (.sl o off n z)=false:=(rfl)
theorem QXl:idfL []=true:=(rfl)
theorem QRA {x:AV} {xs:List AV}:idfL (x::xs)=(idf x&&idfL xs):=(rfl)
theorem QA {α:Type} {g:α→List AV} {l:List α} {i:Nat} (h:i<l.length):flat g (l.take (i+1))=flat g (l.take i)++g l[i]:=by
 unfold flat
 rw [List.take_succ_eq_append_getElem h,List.flatMap_append]
 simp
theorem QB {α:Type} {g:α→List AV} {l:List α} {i:Nat} (h:l.length≤i):flat g (l.take i)=flat g l:=by rw [List.take_of_length_le h]
theorem QOx {α:Type} {g:α→List AV}:flat g []=[]:=(rfl)
theorem Q7 {α:Type} {g:α→List AV} {l k:List α}:flat g (l++k)=flat g l++flat g k:=by simp [flat]
theorem QA9 {l:List Hs}:idfL (flat hcell l)=true:=QZ QS l
theorem QQm {l:List ByteArray}:idfL (flat QAf l)=true:=QZ QIO l
theorem QCG {l:List Hs}:(flat hcell l).length=l.length*32:=QW QK l
theorem QLx {l:List ByteArray}:(flat QAf l).length=l.length*1:=QW QBF l
attribute [push_cast] QFa QcO QZj QW6 Fz1_t Fz1_f QXp QXr QZL QTu QP5
attribute [push_cast] nilA_v QTn QS2 QRo QZF QXQ QWJ Qbz QWD QYK QWE QeW QWd Qb7 QZP
attribute [push_cast high] QeK
attribute [push_cast] QdM QX6 QeD QTA QW0 QVQ Qd0 QXz
attribute [push_cast high] QRI QG5
attribute [push_cast] Qdt QQN QP1 QLy Qay QKK QYG QLK QeS QQz QYN QYS QZI snap_v QZn QeT
attribute [push_cast] idf_v QbL Qaz QdB Qck idf_mv QcC idf_sl QXl QRA Qy QA9 QQm QS QIO
attribute [push_cast] QOx QCG QLx List.length_take List.length_map List.any_cons List.any_nil Nat.mul_one QAN
attribute [push_cast] List.take_append_of_le_length List.take_of_length_le
theorem QM4 {l:List ByteArray} {i:Nat} (hi:i<l.length):(flat QAf l).drop i=.v (.string l[i])::flat QAf (l.drop (i+1)):=by
 have:=QIK l i hi
 rwa [Nat.mul_one] at this
def fzS (s:Option (AV×List Nat)):Option AV:=s.map (·.1)
theorem QZp {p:AV×List Nat}:fzS (some p)=some p.1:=(rfl)
theorem QbA {m:Mem} {y r:AV}:endS m (some y) r=(fzS (snap m.find 12 (unf y))=some r):=by
 simp only [endS,fzS,eq_iff_iff]
 constructor
 ·rintro⟨y',h1,ids,h2⟩
  simp only [Option.some.injEq] at h1
  subst h1
  rw [h2];rfl
 ·intro h
  simp only [Option.map_eq_some_iff] at h
  obtain⟨⟨a,b⟩,h1,rfl⟩:=h
  exact⟨y,rfl,b,h1⟩
def endT (m:Mem) (y:Option AV) (r:AV):Prop:=(y.bind fun y=>QBN m.find 12 (unf y))=some r
theorem Qc4 {P:Program} {rs:List ResultVar} {r:AV} {e:Exit} {env:List (Nat×AV)} {m:Mem}:endN P rs r e ⟨env,m⟩=endT m (resA P rs env m) r:=by
 simp only [endN,endT,eq_iff_iff]
 constructor
 ·rintro⟨y,h1,h2⟩;rw [h1];exact h2
 ·intro h
  simp only [Option.bind_eq_some_iff] at h
  exact h
theorem QUS {m:Mem} {y r:AV}:endT m (some y) r=(QBN m.find 12 (unf y)=some r):=(rfl)
def QNk (off k sz:Nat) (ob:Option AObj):Option AV:=match ob with
   | some (.cells _ ys _)=>if off+k*sz≤ys.length then if sclL ys then some (.seq k sz ((ys.drop off).take (k*sz))) else none else none
   | _=>none
theorem QXL {n o off k sz:Nat}:QBN f (n+1) (.sl o off k sz)=QNk off k sz (f o):=by simp only [QBN,QNk];rfl
theorem QJj {off k sz:Nat} {E:TypeId} {ys:List AV} {ap:Bool}:QNk off k sz (some (.cells E ys ap))=if off+k*sz≤ys.length then if sclL ys then some (.seq k sz ((ys.drop off).take (k*sz))) else none else none:=(rfl)
def QMZ (ob:Option AObj):Option AV:=match ob with
   | some (.map kt ks xs)=>if sclL xs then some (.mv kt ks xs) else none
   | _=>none
theorem QXc {n o:Nat}:QBN f (n+1) (.mp o)=QMZ (f o):=by simp only [QBN,QMZ];rfl
theorem QNC {kt:KT} {ks:List Value} {xs:List AV}:QMZ (some (.map kt ks xs))=if sclL xs then some (.mv kt ks xs) else none:=(rfl)
theorem Qcn {n:Nat} {x:Value}:QBN f (n+1) (.v x)=some (.v x):=(rfl)
theorem QRr {n:Nat} {xs:List AV}:QBN f (n+1) (.tup xs)=(QDU (QBN f n) xs).map .tup:=(rfl)
theorem QfL {n:Nat} {xs:List AV}:QBN f (n+1) (.agg xs)=(QDU (QBN f n) xs).map .agg:=(rfl)
theorem QQS {F:AV→Option AV}:QDU F []=some []:=(rfl)
def QUt (a:Option AV) (b:Option (List AV)):Option (List AV):=match a,b with
 | some p,some q=>some (p::q)
 | _,_=>none
theorem QM9 {F:AV→Option AV} {x:AV} {xs:List AV}:QDU F (x::xs)=QUt (F x) (QDU F xs):=by simp only [QDU,QUt];rfl
theorem QNT {p:AV} {q:List AV}:QUt (some p) (some q)=some (p::q):=(rfl)
theorem QEC:∀{l m:List AV},sclL (l++m)=(sclL l&&sclL m)
 | [],m=>by simp [sclL]
 | x::l,m=>by simp [sclL,QEC (l:=l),Bool.and_assoc]
theorem QGp {α:Type} {g:α→List AV} (h:∀x,sclL (g x)=true):∀l:List α,sclL (flat g l)=true
 | []=>rfl
 | x::l=>by have:=QGp h l;simp only [flat,List.flatMap_cons] at*; simp [QEC,h,this]
theorem QKC {α:Type} (g:α→Value):∀l:List α,sclL (l.map fun x=>.v (g x))=true
 | []=>rfl
 | x::l=>by simp [sclL,scl,QKC g l]
theorem QAL {l:List Hs}:sclL (flat hcell l)=true:=QGp (fun h=>QKC _ _) l
attribute [push_cast] QM4 QZp QbA Qc4 QUS QXL QJj QXc QNC Qcn QRr QfL QQS QM9 QNT QEC QAL
theorem PNew.start {P:Program} {γ:GTab} {f:FuncId} {fn:Func} {c:Code} {rs:List ResultVar} {nt:Nat} {xs:List AV} {r:AV} (hf:P.funcs[f]?=some fn) (hb:fn.body=some c) (hn:(fn.name== "runtime.NumGoroutine")=false) (hrs:fn.results=rs.toArray) (hnt:fn.ntmps=nt) (hm:P.follows .mixedOrders=true) (hd:dOK c=true) (hx:idfL xs=true) (hr:idf r=true)
  (h:ev P γ 0 nt [.code c,.fin (endN P rs r)] ⟨(xs.zipIdx.map fun p=>(p.2,p.1)),⟨[],0,0,0⟩⟩):PNew P γ f xs r:=by
 refine PNew.enter hf hb hn hm hd hx hr ?_
 rw [hrs,hnt]
 simpa using h
variable {P : Program} {H : Type} {enc : TypeId × Value → H} {w : World} {base : Nat} {spare : Nat → Bool} {held : Bool}
def avsL (f:DataW H→Option (List AV)):List (DataW H)→Option (List AV)
 | []=>some []
 | d::ds=>match f d,avsL f ds with
  | some a,some b=>some (a++b)
  | _,_=>none
def avsF (f:TypeId→DataW H→Option (List AV)):List TypeId→List (DataW H)→Option (List AV)
 | [],[]=>some []
 | t::ts,d::ds=>match f t d,avsF f ts ds with
  | some a,some b=>some (a++b)
  | _,_=>none
 | _,_=>none
def avs (P:Program):Nat→TypeId→DataW H→Option (List AV)
 | 0,_,_=>none
 | n+1,t,d=>match P.underlying t,d with
  | some .bool,.lit (.bool b)=>some [.v (.bool b)]
  | some (.int k),.lit (.int _ m)=>if (Lit.int k m).wf=true then some [.v (.int k m)] else none
  | some .string,.lit (.string bs)=>some [.v (.string ⟨bs.toArray⟩)]
  | some (.slice e),.nil=>some [.seq 0 (tsz P e) []]
  | some (.slice e),.slice es _=>(avsL (avs P n e) es).map fun l=>[.seq es.length (tsz P e) l]
  | some (.struct fs),.agg ps=>avsF (avs P n) (fs.toList.map (·.type)) ps
  | some (.array m e),.agg ps=>if ps.length=m then avsL (avs P n e) ps else none
  | _,_=>none
def QFZ (P:Program):Nat→List Field→Option Nat
 | off,[]=>some off
 | off,f::fs=>if f.offset=off then QFZ P (off+P.cellsOf f.type) fs else none
def QCk (P:Program):Nat→TypeId→Bool
 | 0,_=>false
 | n+1,t=>match P.underlying t with
  | some .bool=>true
  | some (.int _)=>true
  | some .string=>true
  | some (.slice e)=>decide (0<P.cellsOf e)&&decide (P.cellsOf e=tsz P e)&&QCk P n e
  | some (.struct fs)=>decide (QFZ P 0 fs.toList=some (P.cellsOf t))&&fs.toList.all fun f=>QCk P n f.type
  | some (.array m e)=>decide (m*P.cellsOf e=P.cellsOf t)&&QCk P n e
  | _=>false
def Got (P:Program) (w:World) (n:Nat) (t:TypeId) (cs:List Value) (d:DataW H):Prop:=
 ∃xs,avs P n t d=some xs∧RepL (Sall w) μ0 w xs cs∧idfL xs=true∧∀u∈cs,u.oneCell'=true
theorem QHi {n:Nat} {r:TypeId→List Value→Option (DataW H×List MemPlace)} (hr:∀t cs x,QCk P n t=true→r t cs=some x→cs.length=P.cellsOf t→Got P w n t cs x.1):
  ∀(fs:List Field) (off e:Nat) (cs:List Value) (xs:List (DataW H×List MemPlace)),QFZ P off fs=some e→cs.length=e→(fs.all fun f=>QCk P n f.type)=true→off≤e→xs.length=fs.length→
   (∀(i:Nat) (f:Field),fs[i]?=some f→r f.type ((cs.drop f.offset).take (P.cellsOf f.type))=xs[i]?)→∃ys,avsF (avs P n) (fs.map (·.type)) (xs.map (·.1))=some ys∧RepL (Sall w) μ0 w ys (cs.drop off)∧idfL ys=true∧∀u∈cs.drop off,u.oneCell'=true
 | [],off,e,cs,xs,ht,hl,_,_,hxl,h=>by
  simp only [QFZ,Option.some.injEq] at ht
  subst ht
  obtain rfl:xs=[]:=List.eq_nil_of_length_eq_zero hxl
  refine⟨[],rfl,?_,rfl,?_⟩
  ·rw [List.drop_eq_nil_of_le (by omega)];simp [RepL]
  ·rw [List.drop_eq_nil_of_le (by omega)];simp
 | f::fs,off,e,cs,xs,ht,hl,hp,ho,hxl,h=>by
  simp only [QFZ] at ht
  split at ht
  ·rename_i hoff
   cases xs with
   | nil=>simp at hxl
   | cons y zs=>
   have h1:=h 0 f (by simp)
   simp only [List.getElem?_cons_zero] at h1
   simp only [List.all_cons,Bool.and_eq_true] at hp
   have hle:off+P.cellsOf f.type≤e:=by
    have key:∀(fs:List Field) (a b:Nat),QFZ P a fs=some b→a≤b:=by
     intro fs
     induction fs with
     | nil=>intro a b h;simp only [QFZ,Option.some.injEq] at h;omega
     | cons f fs ih=>
      intro a b h
      simp only [QFZ] at h
      split at h
      ·have:=ih _ _ h;omega
      ·cases h
    exact key _ _ _ ht
   rw [hoff] at h1
   obtain⟨a,a1,a2,a3,a4⟩:=hr _ _ _ hp.1 h1 (by simp;omega)
   obtain⟨b,b1,b2,b3,b4⟩:=QHi hr fs _ e cs zs ht hl hp.2 hle (by simpa using hxl) (fun i f' hf=>by simpa using h (i+1) f' (by simpa using hf))
   have hd:cs.drop off=(cs.drop off).take (P.cellsOf f.type)++cs.drop (off+P.cellsOf f.type):=by
    rw [←List.drop_drop,List.take_append_drop]
   refine⟨a++b,?_,?_,by rw [Qy,a3,b3];rfl,fun u hu=>?_⟩
   ·simp only [List.map_cons,avsF,a1,b1]
   ·rw [hd];exact a2.append b2
   ·rw [hd] at hu
    rcases List.mem_append.1 hu with h | h
    ·exact a4 u h
    ·exact b4 u h
  ·cases ht
theorem QHV {α β:Type} {f:α→Option β} {x:α} {xs:List α} {ys:List β} (h:(x::xs).mapM f=some ys):∃y zs,f x=some y∧xs.mapM f=some zs∧ys=y::zs:=by
 rw [List.mapM_cons] at h
 simp only [Option.bind_eq_bind,Option.pure_def,Option.bind_eq_some_iff,Option.some.injEq] at h
 obtain⟨y,h1,zs,h2,h3⟩:=h
 exact⟨y,zs,h1,h2,h3.symm⟩
theorem QMB {a:Addr} {n:Nat} {cs:List Value} (h:w.cells? base a n=some cs):cs.length=n∧∀i u,cs[i]?=some u→w.cell? (a.add i)=some u:=by
 unfold World.cells? at h
 split at h
 ·have key:∀(l:List Nat) (cs:List Value),l.mapM (fun i=>w.cell? (a.add i))=some cs→cs.length=l.length∧∀(i:Nat) (u:Value),cs[i]?=some u→∃j:Nat,l[i]?=some j∧w.cell? (a.add j)=some u:=by
   intro l
   induction l with
   | nil=>intro cs h;simp at h;subst h;simp
   | cons x l ih=>
    intro cs h
    obtain⟨y,zs,h1,h2,rfl⟩:=QHV h
    obtain⟨h3,h4⟩:=ih zs h2
    refine⟨by simp [h3],fun i u hi=>?_⟩
    cases i with
    | zero=>simp at hi;subst hi;exact⟨x,by simp,h1⟩
    | succ i=>simp at hi;obtain⟨j,h5,h6⟩:=h4 i u hi;exact⟨j,by simpa using h5,h6⟩
  obtain⟨h1,h2⟩:=key _ _ h
  refine⟨by simpa using h1,fun i u hi=>?_⟩
  obtain⟨j,h3,h4⟩:=h2 i u hi
  have:j=i:=by
   have hi':i<n:=by
    have:=(List.getElem?_eq_some_iff.1 h3).1
    simpa using this
   rw [List.getElem?_range hi'] at h3
   simpa using h3.symm
  rw [this] at h4;exact h4
 ·cases h
theorem QU5 {a:Addr} {u:Value} (h:w.cell? a=some u):a.block<w.heap.size∧a.spot=none:=by
 unfold World.cell? at h
 split at h
 ·rename_i c t f hb
  refine⟨(Array.getElem?_eq_some_iff.1 hb).1,?_⟩
  split at h
  ·cases h
  ·rename_i hs;simpa using hs
 ·cases h
theorem QbS {xs:List AV} {cs:List Value} {b off:Nat} (h:RepL (Sall w) μ0 w xs cs) (ho:∀u∈cs,u.oneCell'=true) (hc:∀i u,cs[i]?=some u→w.cell? ⟨b,off+i,none⟩=some u):RepC (Sall w) μ0 w xs b off:=
 RepC.mk fun i x hi=>by
  obtain⟨u,h1,h2⟩:=h.get hi
  exact⟨(QU5 (hc i u h1)).1,u,hc i u h1,ho u (List.mem_of_getElem? h1),h2⟩
theorem QHE {b:Nat} {S μ}:∀{xs ys:List AV} {o:Nat},RepC S μ w xs b o→RepC S μ w ys b (o+xs.length)→RepC S μ w (xs++ys) b o
 | [],ys,o,_,h=>by simpa using h
 | x::xs,ys,o,h,h'=>by
  simp only [RepC,List.cons_append] at h ⊢
  refine⟨h.1,QHE h.2 ?_⟩
  simpa [Nat.add_assoc,Nat.add_comm 1] using h'
theorem QKu {n:Nat} {e:TypeId} {ce:Nat} {b off:Nat} {r:List Value→Option (DataW H×List MemPlace)} (hr:∀cs x,r cs=some x→cs.length=ce→Got P w n e cs x.1):
  ∀(xs:List (DataW H×List MemPlace)) (k:Nat),(∀i,i<xs.length→(w.cells? base (⟨b,off+(k+i)*ce,none⟩:Addr) ce).bind r=xs[i]?)→
   ∃ys,avsL (avs P n e) (xs.map (·.1))=some ys∧RepC (Sall w) μ0 w ys b (off+k*ce)∧idfL ys=true∧ys.length=xs.length*ce
 | [],k,_=>⟨[],rfl,by simp [RepC],rfl,by simp⟩
 | y::zs,k,h=>by
  have h1:=h 0 (by simp)
  simp only [List.getElem?_cons_zero,Option.bind_eq_some_iff,Nat.add_zero] at h1
  obtain⟨cs,h3,h4⟩:=h1
  obtain⟨c1,c2⟩:=QMB h3
  obtain⟨a,a1,a2,a3,a4⟩:=hr cs y h4 c1
  obtain⟨ys,b1,b2,b3,b4⟩:=QKu hr zs (k+1) (fun i hi=>by
   have:=h (i+1) (by simpa using hi)
   rw [show k+1+i=k+(i+1) by omega]
   simpa using this)
  have ha:a.length=ce:=by rw [←a2.length];exact c1
  refine⟨a++ys,by simp only [List.map_cons,avsL,a1,b1],?_,by rw [Qy,a3,b3];rfl,by simp [ha,b4,Nat.add_mul];omega⟩
  have hC:RepC (Sall w) μ0 w a b (off+k*ce):=QbS a2 a4 (fun i u hi=>by
   have:=c2 i u hi
   rwa [Q9] at this)
  refine QHE hC ?_
  rw [ha,show off+k*ce+ce=off+(k+1)*ce by rw [Nat.add_mul];omega]
  exact b2
theorem QOs {n:Nat} {e:TypeId} {ce:Nat} {r:List Value→Option (DataW H×List MemPlace)} (hr:∀cs x,r cs=some x→cs.length=ce→Got P w n e cs x.1):
  ∀(xs:List (DataW H×List MemPlace)) (k:Nat) (cs:List Value),cs.length=(k+xs.length)*ce→(∀i,i<xs.length→r ((cs.drop ((k+i)*ce)).take ce)=xs[i]?)→
   ∃ys,avsL (avs P n e) (xs.map (·.1))=some ys∧RepL (Sall w) μ0 w ys (cs.drop (k*ce))∧idfL ys=true∧∀u∈cs.drop (k*ce),u.oneCell'=true
 | [],k,cs,hc,_=>by
  simp at hc
  refine⟨[],rfl,?_,rfl,?_⟩
  ·rw [List.drop_eq_nil_of_le (by omega)];simp [RepL]
  ·rw [List.drop_eq_nil_of_le (by omega)];simp
 | y::zs,k,cs,hc,h=>by
  have h1:=h 0 (by simp)
  simp only [List.getElem?_cons_zero,Nat.add_zero] at h1
  have hlen:(k+(zs.length+1))*ce=k*ce+ce+zs.length*ce:=by rw [Nat.add_mul,Nat.add_mul];omega
  simp only [List.length_cons] at hc
  obtain⟨a,a1,a2,a3,a4⟩:=hr _ y h1 (by simp;omega)
  obtain⟨ys,b1,b2,b3,b4⟩:=QOs hr zs (k+1) cs (by rw [hc];congr 1;omega) (fun i hi=>by
   have:=h (i+1) (by simpa using hi)
   rw [show k+1+i=k+(i+1) by omega]
   simpa using this)
  have hd:cs.drop (k*ce)=(cs.drop (k*ce)).take ce++cs.drop ((k+1)*ce):=by
   rw [Nat.add_mul,Nat.one_mul,←List.drop_drop,List.take_append_drop]
  refine⟨a++ys,by simp only [List.map_cons,avsL,a1,b1],?_,by rw [Qy,a3,b3];rfl,fun u hu=>?_⟩
  ·rw [hd];exact a2.append b2
  ·rw [hd] at hu
   rcases List.mem_append.1 hu with h | h
   ·exact a4 u h
   ·exact b4 u h
theorem QOz:∀(n:Nat) (t:TypeId) (fuel:Nat) (cs:List Value) (x:DataW H×List MemPlace),QCk P n t=true→DataW.trod enc P w base spare held fuel t cs=some x→Got P w n t cs x.1
 | 0,t,_,_,_,hp,_=>by simp [QCk] at hp
 | n+1,t,fuel,cs,x,hp,h=>by
  have ih:=fun (fuel:Nat) (t:TypeId) (cs:List Value) (x:DataW H×List MemPlace) hp h=>QOz n t fuel cs x hp h
  unfold QCk at hp
  have one:∀(u:Value) (y:AV),cs=[u]→Rep (Sall w) μ0 w y u→idf y=true→u.oneCell'=true→avs P (n+1) t x.1=some [y]→Got P w (n+1) t cs x.1:=by
   intro u y hc hr hi ho ha
   subst hc
   exact⟨[y],ha,by simp only [RepL];exact⟨u,[],rfl,hr,rfl⟩,by simp [idfL,hi],by simpa using ho⟩
  cases hu:P.underlying t with
  | none=>rw [hu] at hp;cases hp
  | some dd=>
   rw [hu] at hp
   cases dd with
   | bool=>
    obtain⟨b,rfl,rfl⟩:=DataW.trod_bool hu h
    exact one _ (.v (.bool b)) rfl (by simp [Rep]) rfl rfl (by simp [avs,hu])
   | int k=>
    obtain⟨b,rfl,rfl,hwf⟩:=DataW.trod_int hu h
    exact one _ (.v (.int k b)) rfl (by simp [Rep]) rfl rfl (by simp [avs,hu,hwf])
   | string=>
    obtain⟨s,rfl,rfl,_⟩:=DataW.trod_string hu h
    exact one _ (.v (.string s)) rfl (by simp [Rep]) rfl rfl (by simp [avs,hu])
   | slice e=>
    simp only [Bool.and_eq_true,decide_eq_true_eq] at hp
    obtain⟨⟨hpos,hsz⟩,hp⟩:=hp
    rcases DataW.trod_slice hu h with ⟨rfl,rfl⟩ | ⟨a,len,cap,elems,rest,m,rfl,rfl,rfl,hb,hl,hm,hlen,hel,_,_⟩
    ·exact one _ (.seq 0 (tsz P e) []) rfl (by simp only [Rep];exact⟨none,0,rfl,Nat.le_refl _,by simp,.inl trivial⟩) rfl rfl (by simp [avs,hu])
    ·by_cases h0:len=0
     ·have he:elems=[]:=List.eq_nil_of_length_eq_zero (by omega)
      subst he
      refine one _ (.seq 0 (tsz P e) []) rfl ?_ rfl rfl (by simp [avs,hu,avsL])
      simp only [Rep]
      exact⟨some a,cap,by rw [h0],Nat.zero_le _,by simp,.inl trivial⟩
     ·have hsp:a=⟨a.block,a.off,none⟩:=by
       have:=hel 0 (by omega)
       rw [List.getElem?_eq_getElem (by omega)] at this
       simp only [Option.bind_eq_some_iff] at this
       obtain⟨cs,h1,_⟩:=this
       obtain⟨c1,c2⟩:=QMB h1
       have h2:=c2 0 cs[0] (by simp)
       have h3:=(QU5 h2).2
       obtain⟨b,o,s⟩:=a
       simp only [Nat.zero_mul] at h3
       have:s=none:=by simpa [Addr.add] using h3
       rw [this]
      obtain⟨ys,y1,y2,y3,y4⟩:=QKu (b:=a.block) (off:=a.off) (ce:=P.cellsOf e) (base:=base) (w:=w) (n:=n) (e:=e) (r:=DataW.trod enc P w base spare held m e) (fun cs x h _=>ih m e cs x hp h) elems 0 (fun i hi=>by
       have:=hel i (by omega)
       rw [hsp,Q9] at this
       simpa using this)
      refine one _ (.seq len (tsz P e) ys) rfl ?_ y3 rfl ?_
      ·simp only [Rep]
       refine⟨some a,cap,rfl,hl,by rw [y4,hlen,hsz],.inr ⟨a.block,a.off,by rw [←hsp],by simpa using y2⟩⟩
      ·simp only [avs,hu,y1,Option.map_some,List.length_map,hlen]
   | struct fs=>
    simp only [Bool.and_eq_true,decide_eq_true_eq] at hp
    obtain⟨xs,m,rfl,rfl,hl,hxl,hf⟩:=DataW.trod_struct hu h
    obtain⟨ys,y1,y2,y3,y4⟩:=QHi (n:=n) (w:=w) (P:=P) (r:=fun t cs=>DataW.trod enc P w base spare held m t cs) (fun t cs x hp h _=>ih m t cs x hp h) fs.toList 0 (P.cellsOf t) cs xs hp.1 hl hp.2 (Nat.zero_le _) (by simpa using hxl) (fun i f hi=>hf i f (by simpa using hi))
    exact⟨ys,by simp only [avs,hu,y1],by simpa using y2,y3,by simpa using y4⟩
   | array k e=>
    simp only [Bool.and_eq_true,decide_eq_true_eq] at hp
    obtain⟨xs,m,rfl,rfl,hl,hxl,hf⟩:=DataW.trod_array hu h
    obtain⟨ys,y1,y2,y3,y4⟩:=QOs (n:=n) (e:=e) (w:=w) (P:=P) (ce:=P.cellsOf e) (r:=DataW.trod enc P w base spare held m e) (fun cs x h _=>ih m e cs x hp.2 h) xs 0 cs (by rw [hl,Nat.zero_add,hxl];exact hp.1.symm) (fun i hi=>by
     have:=hf i (by omega)
     simpa using this)
    exact⟨ys,by simp only [avs,hu,y1,List.length_map,hxl,if_true],by simpa using y2,y3,by simpa using y4⟩
   | _=>simp at hp
def avOf (P:Program) (t:TypeId) (xs:List AV):Option AV:=match tagg P t with
 | some true=>some (.agg xs)
 | some false=>xs.head?
 | none=>none
theorem QMX {n:Nat} {t:TypeId} {v:Value} {d:DataW H} {ps:List MemPlace} {k:Nat} (hp:QCk P n t=true) (hv:Value.okWide P w .any k t v) (h:DataW.Trod enc P w base spare held t v d ps):
  ∃xs x,avs P n t d=some xs∧avOf P t xs=some x∧Rep (Sall w) μ0 w x v∧idf x=true:=by
 obtain⟨fuel,h⟩:=h
 obtain⟨xs,h1,h2,h3,h4⟩:=QOz n t fuel _ _ hp h
 cases n with
 | zero=>simp [QCk] at hp
 | succ n=>
 unfold QCk at hp
 have agg:(∃cs,v=.agg cs)→tagg P t=some true→∃xs x,avs P (n+1) t d=some xs∧avOf P t xs=some x∧Rep (Sall w) μ0 w x v∧idf x=true:=by
  rintro⟨cs,rfl⟩ hg
  refine⟨xs,.agg xs,h1,by simp [avOf,hg],?_,h3⟩
  simp only [Rep]
  exact⟨cs.toList,by simp,by simpa [Value.cells] using h2,by simpa [Value.cells] using h4⟩
 have one:v.cells.toList=[v]→tagg P t=some false→∃xs x,avs P (n+1) t d=some xs∧avOf P t xs=some x∧Rep (Sall w) μ0 w x v∧idf x=true:=by
  intro hc hg
  rw [hc] at h2
  cases xs with
  | nil=>simp [RepL] at h2
  | cons x xs=>
   simp only [RepL,List.cons.injEq] at h2
   obtain⟨y,zs,⟨rfl,rfl⟩,h5,h6⟩:=h2
   simp only [idfL,Bool.and_eq_true] at h3
   exact⟨x::xs,x,h1,by simp [avOf,hg],h5,h3.1⟩
 cases hu:P.underlying t with
 | none=>rw [hu] at hp;cases hp
 | some dd=>
  rw [hu] at hp
  unfold Value.okWide at hv
  rw [hu] at hv
  cases dd with
  | struct fs=>simp only at hv;obtain⟨cs,rfl,_⟩:=hv;exact agg ⟨cs,rfl⟩ (by simp [tagg,hu])
  | array k e=>simp only at hv;obtain⟨cs,rfl,_⟩:=hv;exact agg ⟨cs,rfl⟩ (by simp [tagg,hu])
  | bool=>
   refine one ?_ (by simp [tagg,hu])
   simp only [Cell.okWide,hu] at hv
   cases v<;>first | rfl | simp [Cell.ok,hu] at hv
  | int k=>
   refine one ?_ (by simp [tagg,hu])
   simp only [Cell.okWide,hu] at hv
   cases v<;>first | rfl | simp [Cell.ok,hu] at hv
  | string=>
   refine one ?_ (by simp [tagg,hu])
   simp only [Cell.okWide,hu] at hv
   cases v<;>first | rfl | simp [Cell.ok,hu] at hv
  | slice e=>
   refine one ?_ (by simp [tagg,hu])
   simp only [Cell.okWide,hu] at hv
   cases v<;>first | rfl | simp [Cell.ok,hu] at hv
  | _=>simp at hp
theorem GOK.nil {S:Nat→Nat→Prop} {w:World}:GOK [] S w:=⟨fun g vs h=>by simp [lk] at h,fun g N h=>by simp [lk] at h⟩
open Go.RowKit in
section
open Go.RowKit Go.WideShapes Go.ChangeShapes
theorem QXf {f:Func} {s:ChangeSpec} {apart fresh handsOn again:Bool} {W W':World} {args:Array Value} {ds gs:List (DataW H)} {before:List MemPlace} {tb:TypeId}
  (hl:laidOutB P=true) (hts:f.params.toList.all (fun t=>P.readableRec t&&decide (t<P.types.size))=true) (hrt:f.resultTypes=#[tb]) (htb:P.underlying tb=some .bool)
  (hW:DataW.Whole enc P f.params.toList s.vars apart W args.toList ds gs before) (hvars:s.vars=[])
  (hspec:(s.fn H (ds++gs))={ results:=[.lit (.bool true)],args:=ds }) (hb:Below W.heap.size W W'):
  s.post enc P f apart fresh handsOn again W args (.bool true) W':=by
 have hW0:=hW
 obtain⟨p,q,hA,hV,rfl,hz,hn⟩:=hW
 have hV0:=hV
 rw [hvars] at hV
 obtain⟨rfl,rfl⟩:=trodVars_none hV
 have hlt:∀x∈p++[],x.block<W.heap.size:=fun x hx=>hW0.lt x hx
 have hold:∀x∈p++[],(fun b=>decide (b<W.heap.size)) x.block=true:=fun x hx=>by simpa using hlt x hx
 have hres:∀(b:Nat) (sp:Nat→Bool) (hd:Bool),DataW.TrodAll enc P W' b sp hd f.resultTypes.toList ((Value.bool true).resultList f.resultTypes.size) (s.fn H (ds++[])).results []:=by
  intro b sp hd
  rw [hspec,hrt]
  exact trodAll_cons_mk (shut_bool htb _) trodAll_mk0
 have hargs:∀sp:Nat→Bool,(∀x∈p++[],sp x.block=true)→DataW.TrodAll enc P W' 0 sp true f.params.toList args.toList (s.fn H (ds++[])).args p:=by
  intro sp hsp
  rw [hspec]
  have key:∀(ts:List TypeId) (vs:List Value) (ds:List (DataW H)) (ps:List MemPlace),(ts.all fun t=>P.readableRec t&&decide (t<P.types.size))=true→(∀x∈ps,x.block<W.heap.size∧sp x.block=true)→DataW.TrodAll enc P W 0 (fun _=>true) true ts vs ds ps→DataW.TrodAll enc P W' 0 sp true ts vs ds ps:=by
   intro ts
   induction ts with
   | nil=>intro vs ds ps _ _ h;cases vs<;>cases ds<;>exact h
   | cons t ts ih=>
    intro vs ds ps ht hx h
    obtain⟨v,vs',d,ds',p',q',rfl,rfl,rfl,h1,h2⟩:=trodAll_cons h
    simp only [List.all_cons,Bool.and_eq_true,decide_eq_true_eq] at ht
    exact⟨p',q',WideElems.Trod_stays hl ht.1.1 ht.1.2 h1 (fun x hx'=>hb.same (hx x (List.mem_append_left _ hx')).1) (fun x hx'=>(hx x (List.mem_append_left _ hx')).2),ih _ _ _ ht.2 (fun x hx'=>hx x (List.mem_append_right _ hx')) h2,rfl⟩
  exact key _ _ _ _ hts (fun x hx=>⟨hlt x (by simpa using hx),hsp x (by simpa using hx)⟩) hA
 have hvs:∀sp:Nat→Bool,DataW.TrodVars enc P W' sp s.vars (s.fn H (ds++[])).vars []:=by
  intro sp
  rw [hspec,hvars]
  rfl
 have hok:∀(j:Nat) (t:TypeId) (r:Value),f.resultTypes[j]?=some t→((Value.bool true).resultList f.resultTypes.size)[j]?=some r→Value.okWide P W' .any 0 t r:=ok_one hrt rfl (okWide_bool_mk htb _)
 refine⟨ds,[],p++[],[],p,[],hW0,hres _ _ _,hargs _ hold,hvs _,World.keptBut_mono (fun x hx=>⟨hx,?_⟩) (hb.frame (·∈p++[])),fun _=>?_⟩
 ·exact Or.inr (Or.inl (by simpa using hx))
 ·refine⟨hok,_,_,([]++p)++[],⟨[]++p,[],trodAll_append (hargs _ (fun _ _=>rfl)) (hres _ _ _),hvs _,rfl,?_,?_⟩,?_⟩
  ·intro b off hx
   have hin:MemPlace.cell b off∈p++[]:=by simpa using hx
   rw [hb.frozen (hlt _ hin)]
   exact hz b off hin
  ·intro ha
   simpa using hn ha
  ·intro x hx _
   simpa using hx
end
variable {P : Program} {H : Type}
mutual
def bulk {H:Type}:DataW H→Nat
 | .lit (.string bytes)=>bytes.length+1
 | .lit _=>1
 | .nil=>1
 | .ptr d=>bulk d+1
 | .slice elems spare=>bulkAll elems+bulkAll spare+1
 | .agg parts=>bulkAll parts+1
 | .iface _ d=>bulk d+1
 | .map entries=>bulkEntries entries+1
 | .held _=>1
def bulkAll {H:Type}:List (DataW H)→Nat
 | []=>0
 | d::r=>bulk d+bulkAll r
def bulkEntries {H:Type}:List (Lit×DataW H)→Nat
 | []=>0
 | x::r=>bulkEntry x+bulkEntries r
def bulkEntry {H:Type}:Lit×DataW H→Nat
 | (.string bytes,d)=>bytes.length+bulk d+1
 | (_,d)=>bulk d+1
end
def Rd (P:Program) (t:TypeId) {α:Type} (c:α→List AV) (sz:α→Nat) (ok:α→Prop):Prop:=
 ∀(H:Type) (n:Nat) (d:DataW H) (xs:List AV),avs P n t d=some xs→∃a,xs=c a∧sz a≤bulk d∧ok a
def QgY (k:IntKind) (n:Int):List AV:=[.v (.int k n)]
def bcell (b:Bool):List AV:=[.v (.bool b)]
def iok (k:IntKind) (n:Int):Prop:=(Lit.int k n).wf=true
theorem Rd.int {t:TypeId} {k:IntKind} (h:tint P t=some k):Rd P t (QgY k) (fun _=>1) (iok k):=by
 intro H n d xs hx
 cases n with
 | zero=>simp [avs] at hx
 | succ n=>
  unfold avs at hx
  rw [QFR h] at hx
  split at hx<;>simp_all
  obtain⟨hw,rfl⟩:=hx
  exact⟨_,rfl,by simp [bulk],hw⟩
theorem QPX {t:TypeId} (h:tkt P t=some .boolK):P.underlying t=some .bool:=by
 unfold tkt at h
 simp only [Option.bind_eq_some_iff] at h
 obtain⟨d,h1,h2⟩:=h
 cases d<;>simp at h2
 ·exact h1
 ·split at h2
  ·split at h2<;>simp at h2
  ·cases h2
theorem Rd.bool {t:TypeId} (h:tkt P t=some .boolK):Rd P t bcell (fun _=>1) (fun _=>True):=by
 intro H n d xs hx
 cases n with
 | zero=>simp [avs] at hx
 | succ n=>
  unfold avs at hx
  rw [QPX h] at hx
  split at hx<;>first | (rename_i e _;cases e;done) | skip
  case h_1 b _=>
   simp only [Option.some.injEq] at hx
   exact⟨b,hx.symm,by simp [bulk],trivial⟩
  all_goals simp_all
theorem Rd.str {t:TypeId} (h:tstr P t=true):Rd P t QAf (fun s=>s.size+1) (fun _=>True):=by
 intro H n d xs hx
 cases n with
 | zero=>simp [avs] at hx
 | succ n=>
  unfold avs at hx
  rw [QBT h] at hx
  split at hx<;>simp_all
  rename_i bs
  refine⟨⟨bs.toArray⟩,hx.symm,?_⟩
  simp [bulk,ByteArray.size]
theorem QTx {α:Type} {c:α→List AV} {sz:α→Nat} {ok:α→Prop} {e:TypeId} {n:Nat} (r:Rd P e c sz ok):∀(ds:List (DataW H)) (xs:List AV),avsL (avs P n e) ds=some xs→∃l:List α,xs=flat c l∧l.length=ds.length∧(l.map sz).sum≤bulkAll ds∧∀a∈l,ok a
 | [],xs,h=>by simp only [avsL,Option.some.injEq] at h;subst h;exact⟨[],rfl,rfl,by simp [bulkAll],by simp⟩
 | d::ds,xs,h=>by
  simp only [avsL] at h
  split at h
  ·rename_i a b h1 h2
   simp only [Option.some.injEq] at h
   subst h
   obtain⟨x,rfl,h4,h5⟩:=r H n d a h1
   obtain⟨l,rfl,h7,h8,h9⟩:=QTx r ds b h2
   refine⟨x::l,by simp [flat],by simp [h7],?_,by simpa using ⟨h5,h9⟩⟩
   simp only [List.map_cons,List.sum_cons,bulkAll];omega
  ·cases h
theorem Rd.slice {α:Type} {c:α→List AV} {sz:α→Nat} {ok:α→Prop} {t e:TypeId} {z:Nat} (h:Qd P t=some e) (hz:tsz P e=z) (r:Rd P e c sz ok):
  Rd P t (fun l:List α=>[.seq l.length z (flat c l)]) (fun l=>(l.map sz).sum+1) (fun l=>∀a∈l,ok a):=by
 intro H n d xs hx
 subst hz
 cases n with
 | zero=>simp [avs] at hx
 | succ n=>
  unfold avs at hx
  rw [Qi h] at hx
  split at hx<;>simp_all
  ·exact⟨[],by rw [←hx];simp [flat],by simp [bulk],by simp⟩
  ·rename_i es sp
   obtain⟨l,hl,rfl⟩:=hx
   obtain⟨l',rfl,h7,h8,h9⟩:=QTx r _ _ hl
   refine⟨l',by simp [h7],?_,h9⟩
   simp only [bulk];omega
theorem QPf {t:TypeId} {fs:List (Nat×TypeId)} (h:QBM P t=some fs):∃gs:Array Field,P.underlying t=some (.struct gs)∧gs.toList.map (·.type)=fs.map (·.2):=by
 obtain⟨gs,h1,h2⟩:=QCp h
 exact⟨gs,h1,by rw [h2];simp⟩
theorem QLh {t:TypeId} {fs:List (Nat×TypeId)} {n:Nat} {d:DataW H} {xs:List AV} (h:QBM P t=some fs) (hx:avs P n t d=some xs):∃m ps,d=.agg ps∧avsF (avs P m) (fs.map (·.2)) ps=some xs∧bulkAll ps+1=bulk d:=by
 obtain⟨gs,h1,h2⟩:=QPf h
 cases n with
 | zero=>simp [avs] at hx
 | succ n=>
  unfold avs at hx
  rw [h1] at hx
  cases d<;>simp only [reduceCtorEq] at hx
  rename_i ps
  exact⟨n,ps,rfl,by rw [←h2];exact hx,by simp [bulk]⟩
theorem QBd {α:Type} {c:α→List AV} {sz:α→Nat} {ok:α→Prop} {t:TypeId} {ts:List TypeId} {n:Nat} {ds:List (DataW H)} {xs:List AV} (r:Rd P t c sz ok) (h:avsF (avs P n) (t::ts) ds=some xs):
  ∃(ds':List (DataW H)) (a:α) (ys:List AV) (k:Nat),xs=c a++ys∧avsF (avs P n) ts ds'=some ys∧bulkAll ds=k+bulkAll ds'∧sz a≤k∧ok a:=by
 cases ds with
 | nil=>simp [avsF] at h
 | cons d ds=>
  simp only [avsF] at h
  split at h
  ·rename_i a b h1 h2
   simp only [Option.some.injEq] at h
   subst h
   obtain⟨x,rfl,h4,h5⟩:=r H n d a h1
   exact⟨ds,x,b,bulk d,rfl,h2,by simp [bulkAll],h4,h5⟩
  ·cases h
theorem QZ6 {n:Nat} {ds:List (DataW H)} {xs:List AV} (h:avsF (avs P n) [] ds=some xs):xs=[]:=by
 cases ds with
 | nil=>simp only [avsF,Option.some.injEq] at h;exact h.symm
 | cons d ds=>simp [avsF] at h
def hok (h:Hs):Prop:=∀n∈h.1,0≤n∧n≤255
variable {P : Program} {γ : GTab} {t : TypeId} {env : List (Nat × AV)} {m : Mem} {dst : Option Nat} {find : Nat → Option AObj} {K : St → Prop} {x y : Operand}
def lenB (ar:Option (Nat×TypeId)) (lk:Option Nat) (k n:Nat):Option (AV×Upd):=match ar with
 | some (n,_)=>some (.v (.int .i64 n),[])
 | none=>if lk=some k then some (.v (.int .i64 n),[]) else none
theorem QRl {l:Option Nat} {k n:Nat}:lenB none l k n=if l=some k then some (.v (.int .i64 n),[]) else none:=(rfl)
theorem QNJ {fr k n:Nat} {ts:List TypeId} {x:AV} (h:lenA find x=some (k,n)):QY P find fr .len (t::ts).toArray [x]=lenB (tarr P t) (QBo P t) k n:=by
 have h0:(t::ts).toArray[0]?=some t:=by simp
 simp only [QY,h0,lenB]
 cases tarr P t with
 | none=>simp only [h]
 | some p=>rfl
theorem QcI {fr:Nat} {ts:List TypeId} {s:ByteArray}:QY P find fr .len (t::ts).toArray [.v (.string s)]=lenB (tarr P t) (QBo P t) 1 s.size:=QNJ rfl
theorem Qb9 {fr:Nat} {ts:List TypeId}:QY P find fr .len (t::ts).toArray [.v (.slice none 0 0)]=lenB (tarr P t) (QBo P t) 0 0:=QNJ rfl
theorem len_mv {fr:Nat} {ts:List TypeId} {k:KT} {ks:List Value} {xs:List AV}:QY P find fr .len (t::ts).toArray [.mv k ks xs]=lenB (tarr P t) (QBo P t) 2 ks.length:=QNJ rfl
def lenM (ar:Option (Nat×TypeId)) (lk:Option Nat) (ob:Option AObj):Option (AV×Upd):=match ob with
 | some (.map _ ks _)=>lenB ar lk 2 ks.length
 | _=>lenB ar none 2 0
theorem len_mp {fr o:Nat} {ts:List TypeId}:QY P find fr .len (t::ts).toArray [.mp o]=lenM (tarr P t) (QBo P t) (find o):=by
 have h0:(t::ts).toArray[0]?=some t:=by simp
 simp only [QY,h0,lenM,lenB]
 cases tarr P t with
 | none=>
  simp only [lenA]
  cases h:find o with
  | none=>simp
  | some ob=>cases ob<;>simp
 | some p=>
  cases h:find o with
  | none=>rfl
  | some ob=>cases ob<;>rfl
theorem QYJ {ar:Option (Nat×TypeId)} {l:Option Nat} {k:KT} {ks:List Value} {xs:List AV}:lenM ar l (some (.map k ks xs))=lenB ar l 2 ks.length:=(rfl)
attribute [push_cast] QRl QcI Qb9 len_mv len_mp QYJ
def nilN (e:Option TypeId) (n:Nat):Option Nat:=match e with
 | some _=>some n
 | none=>none
theorem QR8 {n z:Nat} {xs:List AV}:QDL P t (.seq n z xs) (.v (.slice none 0 0))=nilN (Qd P t) n:=by
 simp only [QDL,nilN];cases Qd P t<;>rfl
theorem QTg {e n:Nat}:nilN (some e) n=some n:=(rfl)
theorem QSy {xs:List AV} {q:AV}:QDL P t (.rop xs) q=none:=by unfold QDL;rfl
theorem QRu {o off:Nat} {q:AV}:QDL P t (.ptr o off) q=none:=by unfold QDL;rfl
attribute [push_cast] QR8 QTg QSy QRu
def SLt (p q:ByteArray):Prop:=p.data.toList<q.data.toList
instance (p q:ByteArray):Decidable (SLt p q):=by unfold SLt;infer_instance
theorem SLt.trans {p q r:ByteArray} (h:SLt p q) (h':SLt q r):SLt p r:=List.lt_trans h h'
attribute [push_cast] ByteArray.size_append
mutual
def Wk:AV→AV→Prop
 | .v (.slice none 0 0),.seq n _ xs=>n=0∧xs=[]
 | .v (.map none),.mv _ ks xs=>ks=[]∧xs=[]
 | .tup xs,.tup ys=>WkL xs ys
 | .agg xs,.agg ys=>WkL xs ys
 | x,y=>x=y
def WkL:List AV→List AV→Prop
 | [],[]=>True
 | x::xs,y::ys=>Wk x y∧WkL xs ys
 | _,_=>False
end
section
variable {S : Nat → Nat → Prop} {μ : Nat → Option (Nat × Nat)} {w : World}
mutual
theorem Wk.rep:∀(x y:AV) (v:Value),Wk x y→Rep S μ w x v→Rep S μ w y v
 | x,y,v,h,hr=>by
  unfold Wk at h
  split at h
  ·simp only [Rep] at hr ⊢
   obtain⟨rfl,rfl⟩:=h
   exact⟨none,0,hr,Nat.le_refl _,by simp,.inl rfl⟩
  ·simp only [Rep] at hr ⊢
   exact .inl ⟨hr,h.1,h.2⟩
  ·rename_i xs ys
   simp only [Rep] at hr ⊢
   obtain⟨vs,e,h1⟩:=hr
   exact⟨vs,e,WkL.rep xs ys vs h h1⟩
  ·rename_i xs ys
   simp only [Rep] at hr ⊢
   obtain⟨vs,e,h1,h2⟩:=hr
   exact⟨vs,e,WkL.rep xs ys vs h h1,h2⟩
  ·subst h;exact hr
theorem WkL.rep:∀(xs ys:List AV) (vs:List Value),WkL xs ys→RepL S μ w xs vs→RepL S μ w ys vs
 | [],[],_,_,hr=>hr
 | x::xs,y::ys,vs,h,hr=>by
  simp only [WkL] at h
  simp only [RepL] at hr ⊢
  obtain⟨v,us,e,h1,h2⟩:=hr
  exact⟨v,us,e,Wk.rep x y v h.1 h1,WkL.rep xs ys us h.2 h2⟩
 | [],_::_,_,h,_=>by simp [WkL] at h
 | _::_,[],_,h,_=>by simp [WkL] at h
end
end
def QSe (P:Program) (rs:List ResultVar) (r:AV) (_:Exit) (σ:St):Prop:=∃y,resA P rs σ.env σ.mem=some y∧∃y',QBN σ.mem.find 12 (unf y)=some y'∧Wk y' r
theorem PNew.ofW {f:FuncId} {xs:List AV} {r:AV} (hx:idfL xs=true) (hr:idf r=true) (h:Qr P γ f xs ⟨[],0,0,0⟩ fun y m=>∃y',QBN m.find 12 (unf y)=some y'∧Wk y' r):PNew P γ f xs r:=by
 refine⟨hx,hr,h.1,fun S w vs hold hG hxs=>?_⟩
 have hRM:RM S μ0 w ⟨[],0,0,0⟩:=⟨fun o ob h=>by simp [Mem.find,lk] at h,fun o o' ob ob' h=>by simp [Mem.find,lk] at h,hold,fun _ _=>rfl,fun o _ h=>by simp at h,Nat.le_refl _,fun o b bo h=>by simp [μ0] at h⟩
 refine (h.2 S μ0 w vs hRM hG hxs).mono fun e w' he=>?_
 obtain⟨v,x,m',S',μ',rfl,_,_,hrm,hX,hrep,y',hsn,hwk⟩:=he
 refine⟨v,rfl,⟨hX.os,hX.tape,hX.output,hX.size,fun b off h=>.inl h,fun b off hb h=>?_,fun b off h=>?_,fun b hb=>?_,hX.uf⟩,?_⟩
 ·rcases h with h | h
  ·exact h
  ·omega
 ·rcases h with h | h
  ·have:=hold _ _ h;have:=hX.size;omega
  ·exact h.2
 ·exact (hX.blk b hb Q1).1
 ·refine Wk.rep _ _ _ hwk (QEZ hrm (fun b ho off=>?_) 12 (unf x) y' v hsn (QA6 hrep)).2
  rcases Nat.lt_or_ge b w.heap.size with hlt | hge
  ·exact absurd (Or.inl ho) (hX.blk b hlt Q1).2
  ·have hu:=QLF hrm ho
   obtain⟨o,ob,bo,_,_,h⟩:=ho
   exact⟨hge,hrm.bk _ _ _ h,hu⟩
theorem PNew.enterW {f:FuncId} {fn:Func} {c:Code} {xs:List AV} {r:AV} (hf:P.funcs[f]?=some fn) (hb:fn.body=some c) (hn:(fn.name== "runtime.NumGoroutine")=false) (hm:P.follows .mixedOrders=true) (hd:dOK c=true) (hx:idfL xs=true) (hr:idf r=true)
  (h:ev P γ 0 fn.ntmps [.code c,.fin (QSe P fn.results.toList r)] ⟨(xs.zipIdx.map fun p=>(p.2,p.1)),⟨[],0,0,0⟩⟩):PNew P γ f xs r:=by
 refine PNew.ofW hx hr ⟨⟨fn,hf,hn,by rw [hb];rfl⟩,fun S μ w vs hr hG hxs=>?_⟩
 have hRX:RX γ fn.ntmps 0 ⟨[],0,0,0⟩ S μ w ⟨(xs.zipIdx.map fun p=>(p.2,p.1)),⟨[],0,0,0⟩⟩ { tmps:=vs.toArray++Array.replicate (fn.ntmps - vs.toArray.size) undef,defers:=[] } w:=
  ⟨S,μ,⟨hr,QCL hxs,trivial⟩,hG,⟨rfl,⟨rfl,Nat.le_refl _⟩,rfl,Nat.le_refl _,fun _ _=>rfl,fun _ _ h=>h,Nat.le_refl _,fun _ _ h=>h,fun _ _ _ h=>.inl h,fun _ _ _=>rfl,fun _ _ _ _ _ h=>h,fun _ _ h=>⟨rfl,h⟩,fun _=>Nat.le_refl _,fun _ _ h=>h⟩,AOK.start (by simp;omega),Nat.zero_le _,Nat.zero_le _⟩
 have fin:∀(e:Exit) (σ:St) (a:Act) (w':World),QSe P fn.results.toList r e σ→RX γ fn.ntmps 0 ⟨[],0,0,0⟩ S μ w σ a w'→∃v,(results fn a.tmps).run P w'=.ok v w'∧
   ∃v0 x m' S' μ',Ending.returned v=.returned v0∧m'.base=0∧m'.wid=0∧RM S' μ' w' m'∧Ext 0 ⟨[],0,0,0⟩ S μ w m' S' μ' w'∧Rep S' μ' w' x v0∧∃y',QBN m'.find 12 (unf x)=some y'∧Wk y' r:=by
  intro e σ a w' hE hR
  obtain⟨S',μ',hA,hG',hX,_,_,_⟩:=hR
  obtain⟨y,h1,h2⟩:=hE
  obtain⟨v,h3,h4⟩:=QDP hA.rm hA.env h1
  exact⟨v,h3,v,y,⟨σ.mem.objs,σ.mem.next,0,0⟩,S',μ',rfl,rfl,rfl,⟨hA.rm.obj,hA.rm.inj,hA.rm.old,hA.rm.fr,fun o _ h=>by simp at h,Nat.zero_le _,hA.rm.bk⟩,hX.same (fun _=>rfl) rfl,h4,h2⟩
 exact QCN hm hf hb hd hRX h fin
theorem PNew.startW {f:FuncId} {fn:Func} {c:Code} {rs:List ResultVar} {nt:Nat} {xs:List AV} {r:AV} (hf:P.funcs[f]?=some fn) (hb:fn.body=some c) (hn:(fn.name== "runtime.NumGoroutine")=false) (hrs:fn.results=rs.toArray) (hnt:fn.ntmps=nt) (hm:P.follows .mixedOrders=true) (hd:dOK c=true) (hx:idfL xs=true) (hr:idf r=true)
  (h:ev P γ 0 nt [.code c,.fin (QSe P rs r)] ⟨(xs.zipIdx.map fun p=>(p.2,p.1)),⟨[],0,0,0⟩⟩):PNew P γ f xs r:=by
 refine PNew.enterW hf hb hn hm hd hx hr ?_
 rw [hrs,hnt]
 simpa using h
def WkO (y:Option AV) (r:AV):Prop:=∃y',y=some y'∧Wk y' r
def QcY (m:Mem) (y:Option AV) (r:AV):Prop:=WkO (y.bind fun y=>QBN m.find 12 (unf y)) r
theorem QXq {rs:List ResultVar} {r:AV} {e:Exit} {env:List (Nat×AV)} {m:Mem}:QSe P rs r e ⟨env,m⟩=QcY m (resA P rs env m) r:=by
 simp only [QSe,QcY,WkO,eq_iff_iff]
 constructor
 ·rintro⟨y,h1,h2⟩;rw [h1];exact h2
 ·rintro⟨y',h,h2⟩
  simp only [Option.bind_eq_some_iff] at h
  obtain⟨y,h3,h4⟩:=h
  exact⟨y,h3,y',h4,h2⟩
theorem QQc {m:Mem} {y r:AV}:QcY m (some y) r=WkO (QBN m.find 12 (unf y)) r:=(rfl)
theorem QVx {y r:AV}:WkO (some y) r=Wk y r:=by simp [WkO]
theorem QUi:∀(x:AV),Wk x x
 | .tup xs=>by simp only [Wk];exact go xs
 | .agg xs=>by simp only [Wk];exact go xs
 | .v x=>by unfold Wk;split<;>simp_all
 | .seq _ _ _=>by simp [Wk]
 | .full _ _ _=>by simp [Wk]
 | .slc _ _ _ _=>by simp [Wk]
 | .rop _=>by simp [Wk]
 | .ptr _ _=>by simp [Wk]
 | .sl _ _ _ _=>by simp [Wk]
 | .mp _=>by simp [Wk]
 | .mv _ _ _=>by simp [Wk]
 | .it _=>by simp [Wk]
 | .clo _ _ _=>by simp [Wk]
 | .ifc _ _=>by simp [Wk]
 | .on _ _ _=>by simp [Wk]
 | .bs _ _=>by simp [Wk]
 | .bp _=>by simp [Wk]
 | .yld _=>by simp [Wk]
 | .top=>by simp [Wk]
where go:∀(xs:List AV),WkL xs xs
 | []=>by simp [WkL]
 | x::xs=>by simp only [WkL];exact⟨QUi x,go xs⟩
theorem Wk_nil {n z:Nat} {xs:List AV}:Wk (.v (.slice none 0 0)) (.seq n z xs)=(n=0∧xs=[]):=by simp [Wk]
theorem Wk_v {p q:Value}:Wk (.v p) (.v q)=(p=q):=by
 have h:Wk (.v p) (.v q)=((AV.v p)=(AV.v q)):=by
  unfold Wk
  split
  ·rename_i h;cases h
  ·rename_i h;cases h
  ·rename_i h;cases h
  ·rename_i h;cases h
  ·rfl
 rw [h,eq_iff_iff]
 exact⟨fun e=>by injection e,fun e=>by rw [e]⟩
theorem Wk_seq {n z:Nat} {xs:List AV} {y:AV}:Wk (.seq n z xs) y=(.seq n z xs=y):=by simp [Wk]
theorem Wk_tup {xs ys:List AV}:Wk (.tup xs) (.tup ys)=WkL xs ys:=by simp [Wk]
theorem QZ3 {xs ys:List AV}:Wk (.agg xs) (.agg ys)=WkL xs ys:=by simp [Wk]
theorem Qau:WkL [] []=True:=by simp [WkL]
theorem QY7 {x y:AV} {xs ys:List AV}:WkL (x::xs) (y::ys)=(Wk x y∧WkL xs ys):=by simp [WkL]
attribute [push_cast] QXq QQc QVx Wk_nil Wk_v Wk_seq Wk_tup QZ3 Qau QY7
variable {P : Program} {γ : GTab}
variable {P : Program} {γ : GTab} {m : Mem}
theorem QHB.useV {g:FuncId} {xs:List AV} {x:AV} {K:AV→Prop} (hp:QE P γ g xs x) (hK:K x):QHB P γ g xs [] K:=⟨x,.inl ⟨hp,.inr rfl⟩,hK⟩
theorem QHB.useS {g:FuncId} {xs:List AV} {ids:List Nat} {x:AV} {K:AV→Prop} (hp:QE P γ g xs x) (hs:QGI x=true) (hK:K x):QHB P γ g xs ids K:=⟨x,.inl ⟨hp,.inl hs⟩,hK⟩
theorem QHB.useN {g:FuncId} {xs:List AV} {ids:List Nat} {x:AV} {K:AV→Prop} (hp:PNew P γ g xs x) (hK:K x):QHB P γ g xs ids K:=⟨x,.inr hp,hK⟩
theorem QUu {all:Array Oper} {i:Nat} {log:Log}:QBL all i [] [] log=true:=by
 unfold QBL
 have:∀a:List Nat,meet [] a=false:=fun a=>by unfold meet;simp
 simp [this]
theorem QO.useV {xs0:List AV} {all:Array Oper} {i:Nat} {log:Log} {g:FuncId} {f:Nat→Option AObj} {xs:List AV} {r:AV} {dst:Option Nat} {σ:St} {K:Log→St→Prop} (hp:QE P γ g xs r) (h1:dstB σ.mem dst=true) (hK:K ((i,[],[])::log) ⟨putE dst r σ.env,σ.mem⟩):QO P γ all i log g xs0 (QJ f xs) dst σ K:=by
 rw [QAE hp.1]
 exact .inl ⟨QET h1,.inl ⟨QUu,QHB.useV hp hK⟩⟩
theorem QO.useN {xs0:List AV} {all:Array Oper} {i:Nat} {log:Log} {g:FuncId} {f:Nat→Option AObj} {xs:List AV} {r:AV} {dst:Option Nat} {σ:St} {K:Log→St→Prop} (hp:PNew P γ g xs r) (h1:dstB σ.mem dst=true) (hK:K ((i,[],[])::log) ⟨putE dst r σ.env,σ.mem⟩):QO P γ all i log g xs0 (QJ f xs) dst σ K:=by
 rw [QAE hp.1]
 exact .inl ⟨QET h1,.inl ⟨QUu,QHB.useN hp hK⟩⟩
theorem QO.useF {xs0:List AV} {all:Array Oper} {i:Nat} {log:Log} {g:FuncId} {f:Nat→Option AObj} {xs ys:List AV} {ids:List Nat} {u:Upd} {r:AV} {dst:Option Nat} {env:List (Nat×AV)} {mem:Mem} {K:Log→St→Prop} (hp:QE P γ g ys r) (hf:f=mem.find) (hs:QJ f xs=some (ys,ids)) (h1:dstB mem dst=true)
  (hu:QBj mem.find ids=u) (h2:QBL all i ids (wrOf u) log=true) (hK:K ((i,ids,wrOf u)::log) ⟨putE dst r env,mem.upd u⟩):QO P γ all i log g xs0 (QJ f xs) dst ⟨env,mem⟩ K:=by
 rw [hs]
 subst hu
 exact .inl ⟨QET h1,.inr (.inl ⟨h2,r,hp,hK⟩)⟩
theorem QO.useS {xs0:List AV} {all:Array Oper} {i:Nat} {log:Log} {g:FuncId} {f:Nat→Option AObj} {xs ys:List AV} {ids:List Nat} {r:AV} {dst:Option Nat} {σ:St} {K:Log→St→Prop} (hp:QE P γ g ys r) (hs:QJ f xs=some (ys,ids)) (hsc:QGI r=true) (h1:dstB σ.mem dst=true)
  (h2:QBL all i ids [] log=true) (hK:K ((i,ids,[])::log) ⟨putE dst r σ.env,σ.mem⟩):QO P γ all i log g xs0 (QJ f xs) dst σ K:=by
 rw [hs]
 exact .inl ⟨QET h1,.inl ⟨h2,QHB.useS hp hsc hK⟩⟩
theorem QTI {p:Value}:nilA (.v p) (.v (.slice none 0 0))=false:=(rfl)
attribute [push_cast] QTI
def FzC (keep:List (Nat×Nat)) (f:Nat→Option AObj):List AV→List AV→Prop
 | [],[]=>True
 | x::xs,y::ys=>FzV keep f (some x) y∧FzC keep f xs ys
 | _,_=>False
def FzBC (keep:List (Nat×Nat)) (f:Nat→Option AObj):Option AObj→AObj→Prop
 | some (.cells E xs ap),.cells E' ys ap'=>E=E'∧ap=ap'∧FzC keep f xs ys
 | some (.map kt ks xs),.map kt' ks' ys=>kt=kt'∧ks=ks'∧FzC keep f xs ys
 | _,_=>False
def FzO1D (keep:List (Nat×Nat)) (dl:List Nat) (f:Nat→Option AObj) (objs:List (Nat×AObj)) (o:Nat) (x:AObj):Prop:=match lk keep o with
 | some q=>bif dl.contains o then FzBC keep f (lk objs q) x else FzB f (lk objs q) x
 | none=>nilO x=true
def FzOD (keep:List (Nat×Nat)) (dl:List Nat) (f:Nat→Option AObj) (objs:List (Nat×AObj)):List (Nat×AObj)→Prop
 | []=>True
 | (o,x)::e=>FzO1D keep dl f objs o x∧FzOD keep dl f objs e
theorem FzOD.get {keep:List (Nat×Nat)} {dl:List Nat} {f:Nat→Option AObj} {objs:List (Nat×AObj)}:∀{e:List (Nat×AObj)},FzOD keep dl f objs e→∀{t x},lk e t=some x→FzO1D keep dl f objs t x
 | [],_,t,x,h=>by simp [lk] at h
 | (t',x')::e,hE,t,x,h=>by
  simp only [lk] at h
  split at h
  ·rename_i e;subst e;simp only [Option.some.injEq] at h;subst h;exact hE.1
  ·exact hE.2.get h
section
variable {keep : List (Nat × Nat)} {dl : List Nat} {f : Nat → Option AObj}
end
def oneC (P:Program) (find:Nat→Option AObj) (t:TypeId) (p:Option AV):Option AV:=match p with
 | some p=>if tok P t then QE3 P find t p else none
 | none=>none
theorem QNt {P:Program} {a:Nat} {t:TypeId} {env:List (Nat×AV)} {m:Mem}:QD0 P env m (.cell a t)=oneC P m.find t (lk env a):=by
 simp only [QD0,oneC];cases h:lk env a<;>rfl
theorem QSo {P:Program} {find:Nat→Option AObj} {t:TypeId} {p:AV}:oneC P find t (some p)=if tok P t then QE3 P find t p else none:=(rfl)
theorem QXj {P:Program} {r s:ResultVar} {env:List (Nat×AV)} {m:Mem}:resA P [r,s] env m=(QBq P env m [r,s]).map .tup:=(rfl)
def mRes (x:Option AV) (xs:Option (List AV)):Option (List AV):=match x,xs with
 | some x,some xs=>some (x::xs)
 | _,_=>none
theorem QNO {P:Program} {env:List (Nat×AV)} {m:Mem}:QBq P env m []=some []:=(rfl)
theorem QL1 {P:Program} {r:ResultVar} {rs:List ResultVar} {env:List (Nat×AV)} {m:Mem}:QBq P env m (r::rs)=mRes (QD0 P env m r) (QBq P env m rs):=by
 simp only [QBq,mRes];cases QD0 P env m r<;>cases QBq P env m rs<;>rfl
theorem QVB {x:AV} {xs:List AV}:mRes (some x) (some xs)=some (x::xs):=(rfl)
attribute [push_cast] QNt QSo QXj QNO QL1 QVB
variable {P : Program} {γ : GTab}
def QXM (P:Program) (rs:List ResultVar) (r:AV) (_:Exit) (σ:St):Prop:=∃y,resA P rs σ.env σ.mem=some y∧∃ids y',snap σ.mem.find 12 (unf y)=some (y',ids)∧Wk y' r
theorem QE.enterW {f:FuncId} {fn:Func} {c:Code} {xs:List AV} {r:AV} (hf:P.funcs[f]?=some fn) (hb:fn.body=some c) (hn:(fn.name== "runtime.NumGoroutine")=false) (hm:P.follows .mixedOrders=true) (hd:dOK c=true) (hx:idfL xs=true) (hr:idf r=true)
  (h:ev P γ 0 fn.ntmps [.code c,.fin (QXM P fn.results.toList r)] ⟨(xs.zipIdx.map fun p=>(p.2,p.1)),⟨[],0,0,0⟩⟩):QE P γ f xs r:=by
 refine⟨hx,hr,⟨fn,hf,hn,by rw [hb];rfl⟩,fun S w vs hold hG hxs=>?_⟩
 have hRM:RM S μ0 w ⟨[],0,0,0⟩:=⟨fun o ob h=>by simp [Mem.find,lk] at h,fun o o' ob ob' h=>by simp [Mem.find,lk] at h,hold,fun _ _=>rfl,fun o _ h=>by simp at h,Nat.le_refl _,fun o b bo h=>by simp [μ0] at h⟩
 have hRX:RX γ fn.ntmps 0 ⟨[],0,0,0⟩ S μ0 w ⟨(xs.zipIdx.map fun p=>(p.2,p.1)),⟨[],0,0,0⟩⟩ { tmps:=vs.toArray++Array.replicate (fn.ntmps - vs.toArray.size) undef,defers:=[] } w:=
  ⟨S,μ0,⟨hRM,QCL hxs,trivial⟩,hG,Ext.refl0,AOK.start (by simp;omega),Nat.zero_le _,Nat.zero_le _⟩
 have fin:∀(e:Exit) (σ:St) (a:Act) (w':World),QXM P fn.results.toList r e σ→RX γ fn.ntmps 0 ⟨[],0,0,0⟩ S μ0 w σ a w'→∃v,(results fn a.tmps).run P w'=.ok v w'∧∃u S',Ending.returned v=.returned u∧Ext0 S w S' w'∧Rep S' μ0 w' r u:=by
  intro e σ a w' hE hR
  obtain⟨S',μ,hA,hG',hX,_,_,_⟩:=hR
  obtain⟨y,h1,ids,y',h2,hwk⟩:=hE
  obtain⟨v,h3,h4⟩:=QDP hA.rm hA.env h1
  refine⟨v,h3,v,(fun b off=>S b off∨(w.heap.size≤b∧b<w'.heap.size)),rfl,⟨hX.os,hX.tape,hX.output,hX.size,fun b off h=>.inl h,fun b off hb h=>?_,fun b off h=>?_,fun b hb=>?_,hX.uf⟩,?_⟩
  ·rcases h with h | h
   ·exact h
   ·omega
  ·rcases h with h | h
   ·have:=hold _ _ h;have:=hX.size;omega
   ·exact h.2
  ·exact (hX.blk b hb Q1).1
  ·refine Wk.rep _ _ _ hwk (QBI hA.rm (fun b off hs=>?_) (fun b ho off=>?_) 12 (unf y) y' ids v h2 (QA6 h4)).2
   ·rcases Nat.lt_or_ge b w.heap.size with hlt | hge
    ·rcases hX.new b off hlt hs with h | h
     ·exact .inl h
     ·exact absurd h Q1
    ·exact .inr ⟨hge,hA.rm.old _ _ hs⟩
   ·rcases Nat.lt_or_ge b w.heap.size with hlt | hge
    ·exact absurd (Or.inl ho) (hX.blk b hlt Q1).2
    ·obtain⟨o,ob,bo,_,_,h⟩:=ho
     exact .inr ⟨hge,hA.rm.bk _ _ _ h⟩
 exact QCN hm hf hb hd hRX h fin
theorem QE.startW {f:FuncId} {fn:Func} {c:Code} {rs:List ResultVar} {nt:Nat} {xs:List AV} {r:AV} (hf:P.funcs[f]?=some fn) (hb:fn.body=some c) (hn:(fn.name== "runtime.NumGoroutine")=false) (hrs:fn.results=rs.toArray) (hnt:fn.ntmps=nt) (hm:P.follows .mixedOrders=true) (hd:dOK c=true) (hx:idfL xs=true) (hr:idf r=true)
  (h:ev P γ 0 nt [.code c,.fin (QXM P rs r)] ⟨(xs.zipIdx.map fun p=>(p.2,p.1)),⟨[],0,0,0⟩⟩):QE P γ f xs r:=by
 refine QE.enterW hf hb hn hm hd hx hr ?_
 rw [hrs,hnt]
 simpa using h
def Qdp (m:Mem) (y:Option AV) (r:AV):Prop:=∃y1,y=some y1∧∃ids y',snap m.find 12 (unf y1)=some (y',ids)∧Wk y' r
theorem QWC {rs:List ResultVar} {r:AV} {e:Exit} {env:List (Nat×AV)} {m:Mem}:QXM P rs r e ⟨env,m⟩=Qdp m (resA P rs env m) r:=(rfl)
theorem QZN {m:Mem} {y r:AV}:Qdp m (some y) r=WkO (fzS (snap m.find 12 (unf y))) r:=by
 simp only [Qdp,fzS,WkO,eq_iff_iff]
 constructor
 ·rintro⟨y1,h1,ids,y',h2,h3⟩
  simp only [Option.some.injEq] at h1
  subst h1
  exact⟨y',by rw [h2];rfl,h3⟩
 ·rintro⟨y',h1,h2⟩
  cases h3:snap m.find 12 (unf y) with
  | none=>rw [h3] at h1;cases h1
  | some p=>
   rw [h3] at h1
   refine⟨y,rfl,p.2,p.1,h3,?_⟩
   simp at h1
   rw [h1];exact h2
attribute [push_cast] QWC QZN
variable {P : Program} {γ : GTab} {m : Mem}
theorem QE.gam {f:FuncId} {xs:List AV} {r:AV} (hp:QE P [] f xs r):QE P γ f xs r:=
 ⟨hp.1,hp.2.1,hp.2.2.1,fun S w vs h1 _ h3=>hp.2.2.2 S w vs h1 GOK.nil h3⟩
theorem PNew.gam {f:FuncId} {xs:List AV} {r:AV} (hp:PNew P [] f xs r):PNew P γ f xs r:=
 ⟨hp.1,hp.2.1,hp.2.2.1,fun S w vs h1 _ h3=>hp.2.2.2 S w vs h1 GOK.nil h3⟩
theorem RM.letgo {S:Nat→Nat→Prop} {μ:Nat→Option (Nat×Nat)} {w:World} (hr:RM S μ w m) (ids:List Nat):∃T:Nat→Nat→Prop,
  RM T μ w (m.upd (QBj m.find ids))∧Keeps S μ w T μ w∧(∀n0,n0≤m.next→Ext n0 m S μ w (m.upd (QBj m.find ids)) T μ w)∧
   ∀{xs ys:List AV} {vs:List Value},QJ m.find xs=some (ys,ids)→RepL S μ w xs vs→RepL T μ0 w ys vs:=by
 let T:Nat→Nat→Prop:=fun b off=>S b off∨QBE (Go.AW.only m ids) μ b
 have hr1:=hr.only ids
 have hown:∀b,QBE (Go.AW.only m ids) μ b→QBE m μ b:=fun b ⟨o,ob,bo,h1,h2,h3⟩=>by
  rw [QB8] at h1
  split at h1
  ·exact⟨o,ob,bo,h1,h2,h3⟩
  ·cases h1
 have hK:Keeps S μ w T μ w:=⟨fun _ _=>rfl,fun _ _ h=>.inl h,fun _ _ _=>rfl,fun _ _ _ _ _ h=>h,fun _=>Nat.le_refl _,Nat.le_refl _,fun _ _ h=>h⟩
 have hf:∀{o ob},(m.upd (QBj m.find ids)).find o=some ob→(ob=.dead∧(m.find o).isSome=true)∨(o∉ids∧m.find o=some ob):=fun {o ob} h=>by
  rw [QB6] at h
  split at h
  ·rename_i hc
   simp only [Option.some.injEq] at h
   exact .inl ⟨h.symm,hc.2⟩
  ·rename_i hc
   refine .inr ⟨fun hm=>hc ⟨hm,by rw [h];rfl⟩,h⟩
 have hnot:∀{o b bo:Nat} {ob:AObj},o∉ids→m.find o=some ob→ob.own=true→μ o=some (b,bo)→(∀off,¬S b off)→∀off,¬T b off:=by
  intro o b bo ob ho hfo hob hμ hS off h
  rcases h with h | ⟨o',ob',bo',h1,h2,h3⟩
  ·exact hS off h
  ·rw [QB8] at h1
   split at h1
   ·rename_i hm
    have hne:o'≠o:=fun e=>ho (e▸hm)
    exact hr.inj o' o ob' ob h1 hfo h2 hob hne b bo' bo h3 hμ
   ·cases h1
 have hr2:RM T μ w (m.upd (QBj m.find ids)):=by
  refine⟨fun o ob h=>?_,fun o o' ob ob' h h' ho ho' hne=>?_,fun b off h=>?_,hr.fr,fun o h1 h2 h3=>?_,hr.le,hr.bk⟩
  ·rcases hf h with ⟨rfl,h1⟩ | ⟨hn,h1⟩
   ·obtain⟨ob,hob⟩:=Option.isSome_iff_exists.1 h1
    exact⟨(hr.obj o ob hob).1,by simp [RepO]⟩
   ·refine⟨(hr.obj o ob h1).1,?_⟩
    have hobj:=(hr.obj o ob h1).2
    cases ob with
    | cells E xs ap=>
     simp only [RepO] at hobj ⊢
     rcases hobj with h2 | ⟨b,bo,ys,c,fz,e1,e2,e3,e4,e5,e6,e7,e8⟩
     ·exact .inl h2
     ·exact .inr ⟨b,bo,ys,c,fz,e1,e2,e3,RepL.keep hK _ _ e4,e5,e6,e7,hnot hn h1 rfl e1 e8⟩
    | imm xs=>
     simp only [RepO] at hobj ⊢
     rcases hobj with h2 | ⟨b,bo,e1,e2⟩
     ·exact .inl h2
     ·exact .inr ⟨b,bo,e1,RepC.keep hK _ _ _ e2⟩
    | map kt ks xs=>
     simp only [RepO] at hobj ⊢
     obtain⟨b,bo,es,clock,e1,e2,e3,e4,e5,e6⟩:=hobj
     exact⟨b,bo,es,clock,e1,e2,e3,e4,RepL.keep hK _ _ e5,hnot hn h1 rfl e1 e6⟩
    | miter last ks xs=>
     simp only [RepO] at hobj ⊢
     obtain⟨b,bo,mb,since,seen,stepped,e1,e2,e3,e4⟩:=hobj
     refine⟨b,bo,mb,since,seen,stepped,e1,hnot hn h1 rfl e1 e2,e3,?_⟩
     rcases e4 with e4 | ⟨r,es,kt,q1,q2,q3,q4,q5,q6,q7,q8⟩
     ·exact .inl e4
     ·exact .inr ⟨r,es,kt,q1,.inl q2,q3,q4,q5,q6,RepL.keep hK _ _ q7,fun p hp=>by
       obtain⟨e,r1,r2,r3,r4⟩:=q8 p hp
       exact⟨e,r1,r2,r3,Rep.keep hK _ _ r4⟩⟩
    | siter s pos=>
     simp only [RepO] at hobj ⊢
     obtain⟨b,bo,e1,e2,e3⟩:=hobj
     exact⟨b,bo,e1,hnot hn h1 rfl e1 e2,e3⟩
    | loop N ts xs ps assign body st pe=>
     simp only [RepO] at hobj ⊢
     obtain⟨b,bo,D,fn,tmps,e1,e2,e3,e4,e5⟩:=hobj
     exact⟨b,bo,D,fn,tmps,e1,hnot hn h1 rfl e1 e2,e3,e4,RepL.keep hK _ _ e5⟩
    | past T=>simpa only [RepO] using hobj
    | bag=>
     simp only [RepO] at hobj ⊢
     obtain⟨b0,code,e1,e2⟩:=hobj
     refine⟨b0,code,e1,fun b ht=>?_⟩
     obtain⟨g1,g2,g3,g4⟩:=e2 b ht
     refine⟨g1,g2,fun off hs=>?_,g4⟩
     rcases hs with hs | ⟨o',ob',bo',h1,h2,h3⟩
     ·exact g3 off hs
     ·exact g4 _ _ h3
    | dead=>simp [RepO]
  ·rcases hf h with ⟨rfl,_⟩ | ⟨_,h1⟩
   ·cases ho
   rcases hf h' with ⟨rfl,_⟩ | ⟨_,h1'⟩
   ·cases ho'
   exact hr.inj o o' ob ob' h1 h1' ho ho' hne
  ·rcases h with h | ⟨o,ob,bo,_,_,h⟩
   ·exact hr.old _ _ h
   ·exact hr.bk _ _ _ h
  ·have:=hr.win o h1 h2 h3
   rw [QB6]
   split
   ·simp
   ·exact this
 have hX:∀n0,n0≤m.next→Ext n0 m S μ w (m.upd (QBj m.find ids)) T μ w:=fun n0 hn0=>⟨rfl,⟨rfl,Nat.le_refl _⟩,rfl,Nat.le_refl _,fun _ _=>rfl,fun o _ h=>by
   rw [QB6] at h
   split at h
   ·rename_i hc
    intro e;rw [e] at hc;exact absurd hc.2 (by simp)
   ·exact h,hn0,fun _ _ h=>.inl h,fun b off _ h=>by
    rcases h with h | h
    ·exact .inl h
    ·exact .inr (.inl (hown _ h)),fun _ _ _=>rfl,fun _ _ _ _ _ h=>h,fun b _ hx=>⟨rfl,fun hy=>by
     rcases hy with ⟨o,ob,bo,q1,q2,q3⟩ | ⟨o,b0,code,q1,q2,q3⟩
     ·rcases hf q1 with ⟨rfl,_⟩ | ⟨_,q4⟩
      ·cases q2
      ·exact hx (.inl ⟨o,ob,bo,q4,q2,q3⟩)
     ·rcases hf q1 with ⟨h9,_⟩ | ⟨_,q4⟩
      ·cases h9
      ·exact hx (.inr ⟨o,b0,code,q4,q2,q3⟩)⟩,fun _=>Nat.le_refl _,fun _ _ h=>h⟩
 exact⟨T,hr2,hK,hX,fun {xs ys vs} hs hx=>QCs (T:=T) hr1 (fun b off h=>.inl h) (fun b h off=>.inr h) (QBg hs fun q hq=>by rw [QB8,if_pos hq]) hx⟩
section
variable {t : TypeId} {find : Nat → Option AObj}
theorem QJQ {o off:Nat}:QGq (.ptr o off)=some (.ptr o off,[]):=(rfl)
theorem QIP {xs:List AV}:QGq (.rop xs)=some (.rop xs,[]):=(rfl)
attribute [push_cast] QJQ QIP
end
def Qcb (m:Mem) (K:AV→Mem→Prop) (mem:Mem) (r:Option AV):Prop:=match r with
 | some y=>QBY m mem.objs=true∧K y ⟨mem.objs,mem.next,m.base,m.wid⟩
 | none=>False
theorem Qav {rs:List ResultVar} {K:AV→Mem→Prop} {e:Exit} {env:List (Nat×AV)} {mem:Mem}:endA P rs m K e ⟨env,mem⟩=Qcb m K mem (resA P rs env mem):=by
 simp only [endA,Qcb,eq_iff_iff]
 cases h:resA P rs env mem with
 | none=>exact⟨fun ⟨y,h,_⟩=>by simp at h,fun h=>h.elim⟩
 | some y=>exact⟨fun ⟨y',h1,h2,h3⟩=>by cases h1;exact⟨h2,h3⟩,fun ⟨h2,h3⟩=>⟨y,rfl,h2,h3⟩⟩
theorem QPw {K:AV→Mem→Prop} {objs mobjs:List (Nat×AObj)} {n b w n' b' w':Nat} {y:AV}:Qcb ⟨mobjs,n,b,w⟩ K ⟨objs,n',b',w'⟩ (some y)=(QBY ⟨mobjs,n,b,w⟩ objs=true∧K y ⟨objs,n',b,w⟩):=(rfl)
theorem QKy {objs:List (Nat×AObj)} {n b w:Nat}:QBY ⟨[],n,b,w⟩ objs=true:=(rfl)
theorem QId {objs mobjs:List (Nat×AObj)} {n b w o:Nat} {x:AObj}:QBY ⟨(o,x)::mobjs,n,b,w⟩ objs=((lk objs o).isSome&&QBY ⟨mobjs,n,b,w⟩ objs):=(rfl)
attribute [push_cast] Qav QPw QKy QId
theorem Qr.start {f:FuncId} {fn:Func} {c:Code} {rs:List ResultVar} {nt:Nat} {xs:List AV} {K:AV→Mem→Prop} (hf:P.funcs[f]?=some fn) (hb:fn.body=some c) (hn:(fn.name== "runtime.NumGoroutine")=false) (hrs:fn.results=rs.toArray) (hnt:fn.ntmps=nt) (hm:P.follows .mixedOrders=true) (hd:dOK c=true)
  (h:ev P γ m.next nt [.code c,.fin (endA P rs m K)] ⟨(xs.zipIdx.map fun p=>(p.2,p.1)),m.close⟩):Qr P γ f xs m K:=by
 refine Qr.enter hf hb hn hm hd ?_
 rw [hrs,hnt]
 simpa using h
variable {P : Program} {γ : GTab}
variable {P : Program} {γ : GTab} {n0 N : Nat} {k : List KI} {env : List (Nat × AV)} {m : Mem}
def yEnv:List Nat→List AV→List (Nat×AV)→List (Nat×AV)
 | t::ts,x::xs,e=>yEnv ts xs ((t,x)::e)
 | _,_,e=>e
def QcA (P:Program) (γ:GTab) (n0 N o:Nat) (body:Code) (J:Option Code→St→Prop) (σ:St):Prop:=ev P γ n0 N [.bg o,.code body,.rnd J] σ
def noJ (_:Option Code) (_:St):Prop:=False
def QPz (o:Nat) (m:Mem) (K:AV→Mem→Prop) (j:Option Code) (σ:St) (ob:Option AObj):Prop:=
 match ob with
 | some (.loop N ts xs ps as bd .busy _)=>QBY m σ.mem.objs=true∧K (.v (.bool j.isNone)) ⟨(o,.loop N ts xs ps as bd (if j.isNone then .ready else .done) j)::σ.mem.objs,σ.mem.next,m.base,m.wid⟩
 | _=>False
def yEnd (o:Nat) (m:Mem) (K:AV→Mem→Prop) (j:Option Code) (σ:St):Prop:=QPz o m K j σ (σ.mem.find o)
theorem QK0 {S μ} {w:World}:∀{ps:List Nat} {xs:List AV} {vs:List Value} {e:List (Nat×AV)} {tmps:Array Value},(∀t∈ps,t<tmps.size)→RepL S μ w xs vs→(∀t x,lk e t=some x→Rep S μ w x (tmps.getD t undef))→
  ∀t x,lk (yEnv ps xs e) t=some x→Rep S μ w x (((ps.zip vs).foldl (fun tmps p=>tmps.setIfInBounds p.1 p.2) tmps).getD t undef)
 | [],xs,vs,e,tmps,_,_,h,t,x,ht=>by simpa [yEnv] using h t x (by simpa [yEnv] using ht)
 | p::ps,[],vs,e,tmps,_,hx,h,t,x,ht=>by
  simp only [RepL] at hx
  subst hx
  simpa using h t x (by simpa [yEnv] using ht)
 | p::ps,x0::xs,vs,e,tmps,hp,hx,h,t,x,ht=>by
  simp only [RepL] at hx
  obtain⟨v,vs',rfl,h1,h2⟩:=hx
  simp only [List.zip_cons_cons,List.foldl_cons]
  simp only [yEnv] at ht
  refine QK0 (fun t ht=>by simpa using hp t (List.mem_cons_of_mem _ ht)) h2 (fun t' x' h'=>?_) t x ht
  have hlt:=hp p (List.mem_cons_self ..)
  simp only [lk] at h'
  have e1:(tmps.setIfInBounds p v).getD t' undef=if p=t' then v else tmps.getD t' undef:=by
   simp only [Array.getD_eq_getD_getElem?,Array.getElem?_setIfInBounds]
   by_cases e:p=t'
   ·subst e;simp [hlt]
   ·simp [e]
  rw [e1]
  split at h'
  ·rename_i e;simp only [Option.some.injEq] at h';subst h';simpa [e] using h1
  ·rename_i e;rw [if_neg e];exact h _ _ h'
theorem QQv {l:List (Nat×Value)}:∀{tmps:Array Value},(l.foldl (fun tmps p=>tmps.setIfInBounds p.1 p.2) tmps).size=tmps.size:=by
 induction l with
 | nil=>intro tmps;rfl
 | cons p l ih=>intro tmps;simp only [List.foldl_cons];rw [ih];simp
theorem QZ8 {S μ} {w:World} {f:Nat→Value}:∀{ts:List Nat} {xs:List AV},RepL S μ w xs (ts.map f)→∀t x,lk (ts.zip xs) t=some x→Rep S μ w x (f t)
 | [],xs,_,t,x,h=>by simp [lk] at h
 | t0::ts,[],_,t,x,h=>by simp [lk] at h
 | t0::ts,x0::xs,hx,t,x,h=>by
  simp only [List.map_cons,RepL] at hx
  obtain⟨y,zs,e,h1,h2⟩:=hx
  simp only [List.cons.injEq] at e
  obtain⟨rfl,rfl⟩:=e
  simp only [List.zip_cons_cons,lk] at h
  split at h
  ·rename_i e;subst e;simp only [Option.some.injEq] at h;subst h;exact h1
  ·exact QZ8 h2 t x h
theorem QD2.enter {o N:Nat} {ts:List Nat} {xs ys:List AV} {ps:Array Nat} {as bd:Code} {K:AV→Mem→Prop} (hm:P.follows .mixedOrders=true) (ho:m.find o=some (.loop N ts xs ps as bd .ready none)) (hps:ys.length=ps.size) (hN:(ps.toList.all fun t=>decide (t<N))=true) (hd:dOK as=true) (hd':dOK bd=true)
  (h:ev P γ m.next N [.code as,.lp (QcA P γ m.next N o bd (yEnd o m K)),.rnd noJ] ⟨yEnv ps.toList ys (ts.zip xs),m.close⟩):QD2 P γ o ys m K:=by
 intro S μ w vs b bo hr hG hys hμ
 obtain⟨D,fn,tmps,hS,hL,hNt,hx⟩:=QF7 hr ho hμ
 have hlen:vs.toArray.size=ps.size:=by rw [←hps,←hys.length];simp
 refine⟨fn,_,as,bd,run_yield hL (by simpa using hlen),?_⟩
 have hle:=hr.le
 have hRM:RM S μ w m.close:=⟨hr.obj,hr.inj,hr.old,hr.fr,fun o h1 h2=>by simp only [Mem.close] at h1 h2;omega,by simp [Mem.close],hr.bk⟩
 have hExt:Ext m.next m S μ w m.close S μ w:=⟨rfl,⟨rfl,Nat.le_refl _⟩,rfl,Nat.le_refl _,fun _ _=>rfl,fun _ _ h=>h,Nat.le_refl _,fun _ _ h=>h,fun _ _ _ h=>.inl h,fun _ _ _=>rfl,fun _ _ _ _ _ h=>h,fun _ _ h=>⟨rfl,h⟩,fun _=>Nat.le_refl _,fun _ _ h=>h⟩
 have hfold:(ps.zip vs.toArray).foldl (fun tmps (t,a)=>tmps.setIfInBounds t a) tmps=(ps.toList.zip vs).foldl (fun tmps p=>tmps.setIfInBounds p.1 p.2) tmps:=by
  rw [←Array.foldl_toList,Array.toList_zip]
 have hRX:RX γ N m.next m S μ w ⟨yEnv ps.toList ys (ts.zip xs),m.close⟩ { tmps:=(ps.zip vs.toArray).foldl (fun tmps (t,a)=>tmps.setIfInBounds t a) tmps,defers:=[] } w:=by
  refine⟨S,μ,⟨hRM,?_,trivial⟩,hG,hExt,AOK.start ?_,Nat.le_refl _,Nat.zero_le _⟩
  ·rw [hfold]
   exact QK0 (fun t ht=>by
    rw [List.all_eq_true] at hN
    have:=hN t ht
    simp only [decide_eq_true_eq] at this
    omega) hys (QZ8 hx)
  ·rw [hfold,QQv];exact hNt
 have fin:∀(j:Option Code) (σ:St) (a:Act) (w':World),yEnd o m K j σ→RX γ N m.next m S μ w σ a w'→∃v w2,(Instr.endRound b j).run P w'=.ok v w2∧∃v0 x m' S' μ',Ending.returned v=.returned v0∧m'.base=m.base∧m'.wid=m.wid∧RM S' μ' w2 m'∧Ext m.next m S μ w m' S' μ' w2∧Rep S' μ' w2 x v0∧K x m':=by
  intro j σ a w' hE hR
  obtain⟨S',μ',hA,hG',hX,_,_,_⟩:=hR
  unfold yEnd QPz at hE
  split at hE
  ·rename_i N1 ts1 xs1 ps1 as1 bd1 pe1 hf
   obtain⟨hka,hk⟩:=hE
   have hlt:=(hr.obj o _ ho).1
   have hμ':μ' o=some (b,bo):=(hX.ids o hlt).trans hμ
   obtain⟨D1,fn1,tmps1,hS1,hL1,hN1,hx1⟩:=QF7 hA.rm hf hμ'
   have haft:=After.loop hA.rm (if j.isNone then .ready else .done) j hf hμ' hS1 hL1 hN1 hx1
   refine⟨_,_,run_endRound j hL1,_,_,_,S',μ',rfl,?_,?_,?_,?_,?_,hk⟩
   ·rfl
   ·rfl
   ·have h1:=haft.rm
    refine⟨h1.obj,h1.inj,h1.old,h1.fr,fun o h5 h6 h7=>?_,?_,h1.bk⟩
    ·rw [hX.ids o (by simp only at h5 h6;omega)] at h7
     have:=QEg hka (hr.win o h5 h6 h7)
     show lk (_::σ.mem.objs) o≠none
     simp only [lk]
     split
     ·simp
     ·exact this
    ·have:=hX.next;show m.base+m.wid≤σ.mem.next;omega
   ·have hb:m.next≤σ.mem.base:=by assumption
    exact (hX.trans hb haft.ext).same (fun _=>rfl) rfl
   ·simp [Rep]
  ·exact hE.elim
 refine roundIn_of_wpIn (F:=Fence.wide) trivial ?_
 refine wpIn_mono (QG1 (r:=some b) hm _ as _ _ _ w (.inr rfl) hd (Nat.le_refl _) h hRX) fun e a1 w1 hp=>?_
 cases e with
 | normal=>
  obtain⟨σ1,h1,h2⟩:=hp
  rw [QaF] at h1
  unfold QcA at h1
  rw [ev] at h1
  unfold evBg at h1
  split at h1
  ·rename_i N1 ts1 xs1 ps1 as1 bd1 pe1 hf
   have h2':=h2
   obtain⟨S',μ',hA,hG',hX,hNa,hb',hwid'⟩:=h2'
   have hlt:=(hr.obj o _ ho).1
   have hμ':μ' o=some (b,bo):=(hX.ids o hlt).trans hμ
   obtain⟨D1,fn1,tmps1,hS1,hL1,hN1,hx1⟩:=QF7 hA.rm hf hμ'
   have haft:=After.loop hA.rm .busy pe1 hf hμ' hS1 hL1 hN1 hx1
   refine⟨_,run_beginRound hL1 rfl,?_⟩
   have hRX2:RX γ N m.next m S μ w ⟨σ1.env,σ1.mem.upd [(o,.loop N1 ts1 xs1 ps1 as1 bd1 .busy pe1)]⟩ a1 _:=
    ⟨S',μ',⟨haft.rm,RX.keepEnv haft.keep hA.env,hA.defers.ext haft.ext⟩,hG'.keep haft.keep,hX.trans hb' haft.ext,hNa,hb',hwid'⟩
   refine wpIn_mono (QG1 (r:=some b) hm _ bd _ _ _ _ (.inr rfl) hd' (Nat.le_refl _) h1 hRX2) fun e a2 w2 hp2=>?_
   cases e with
   | normal=>
    obtain⟨σ2,h3,h4⟩:=hp2
    rw [ev] at h3
    exact fin none σ2 a2 w2 h3 h4
   | ret=>
    obtain⟨σ2,Q,h3,h4,h5⟩:=hp2
    simp only [retK,Option.some.injEq] at h3
    subst h3
    exact fin _ σ2 a2 w2 h4 h5
   | exit id=>
    obtain⟨σ2,k',h3,h4,h5⟩:=hp2
    simp only [QBG,Option.some.injEq] at h3
    subst h3
    rw [ev] at h4
    exact fin _ σ2 a2 w2 h4 h5
   | _=>exact hp2.elim
  ·exact h1.elim
 | ret=>
  obtain⟨σ2,Q,h3,h4,h5⟩:=hp
  simp only [retK,Option.some.injEq] at h3
  subst h3
  exact h4.elim
 | exit id=>
  obtain⟨σ2,k',h3,h4,h5⟩:=hp
  simp only [QBG,Option.some.injEq] at h3
  subst h3
  rw [ev] at h4
  exact h4.elim
 | _=>exact hp.elim
theorem QQZ {c:Code}:QJs (.code c::k)=QJs k:=(rfl)
theorem QVD {id:Nat}:QJs (.blk id::k)=QJs k:=(rfl)
theorem QS4 {Q:Exit→St→Prop}:QJs [.fin Q]=true:=(rfl)
theorem QT5 {o:Nat} {K:St→Prop} {N:Nat} {ts:List Nat} {xs:List AV} {ps:Array Nat} {as bd:Code} {pe:Option Code}:evBg o ⟨env,m⟩ K (some (.loop N ts xs ps as bd .ready pe))=K ⟨env,m.upd [(o,.loop N ts xs ps as bd .busy pe)]⟩:=(rfl)
theorem QTo {r:FuncId} {a c:List AV} {ps:Array Nat} {as bd:Code} {K:St→Prop} {E:Nat→St→Prop} {R:St→Prop}:evRF P γ N (some (r,a,c)) ps as bd true ⟨env,m⟩ K E R=Qr P γ r ((a++(AV.yld m.next::c)).map unf) (rfM N ps as bd (clE [] env) m) (rfTo m.next env K E R):=by simp [evRF]
theorem rfM_mk {ps:Array Nat} {as bd:Code} {e:List (Nat×AV)} {objs:List (Nat×AObj)} {n b w:Nat}:rfM N ps as bd e ⟨objs,n,b,w⟩=⟨(n,.loop N (e.map (·.1)) (e.map (·.2)) ps as bd .ready none)::objs,n+1,b,w⟩:=(rfl)
theorem QcF {s:List Nat}:clE s []=[]:=(rfl)
theorem QXk {s:List Nat} {t:Nat} {x:AV} {e:List (Nat×AV)}:clE s ((t,x)::e)=if s.contains t then clE s e else (t,x)::clE (t::s) e:=(rfl)
theorem QbO {o:Nat} {K:St→Prop} {E:Nat→St→Prop} {R:St→Prop} {x:AV}:rfTo o env K E R x m=QQG o env K E R m (m.find o):=(rfl)
theorem Qbv {o:Nat} {K:St→Prop} {E:Nat→St→Prop} {R:St→Prop} {N':Nat} {ts:List Nat} {xs:List AV} {ps:Array Nat} {as bd:Code}:QQG o env K E R m (some (.loop N' ts xs ps as bd .ready none))=K ⟨env,m.upd [(o,.dead)]⟩:=(rfl)
theorem QYU {o:Nat} {bd:Code} {J:Option Code→St→Prop} {σ:St}:QcA P γ n0 N o bd J σ=ev P γ n0 N [.bg o,.code bd,.rnd J] σ:=(rfl)
theorem Qdu {o:Nat} {K:AV→Mem→Prop} {j:Option Code} {e:List (Nat×AV)} {m':Mem}:yEnd o m K j ⟨e,m'⟩=QPz o m K j ⟨e,m'⟩ (m'.find o):=(rfl)
theorem QcW {o:Nat} {K:AV→Mem→Prop} {σ:St} {N':Nat} {ts:List Nat} {xs:List AV} {ps:Array Nat} {as bd:Code} {pe:Option Code}:QPz o m K none σ (some (.loop N' ts xs ps as bd .busy pe))=(QBY m σ.mem.objs=true∧K (.v (.bool true)) ⟨(o,.loop N' ts xs ps as bd .ready none)::σ.mem.objs,σ.mem.next,m.base,m.wid⟩):=(rfl)
theorem QNr {o o':Nat} {K:AV→Mem→Prop} {j:Option Code} {σ σ':St} {ob ob':Option AObj} (h:o=o') (hs:σ=σ') (hb:ob=ob'):QPz o m K j σ ob=QPz o' m K j σ' ob':=by rw [h,hs,hb]
attribute [congr] QNr
theorem QWF {xs:List AV} {e:List (Nat×AV)}:yEnv [] xs e=e:=by cases xs<;>rfl
theorem QT7 {t:Nat} {ts:List Nat} {x:AV} {xs:List AV} {e:List (Nat×AV)}:yEnv (t::ts) (x::xs) e=yEnv ts xs ((t,x)::e):=(rfl)
attribute [push_cast] QQZ QVD QS4 QT5 QTo rfM_mk QcF QXk QbO Qbv QYU Qdu QcW QWF QT7
attribute [push_cast] List.contains_cons List.contains_nil Bool.or_false Bool.false_or Bool.or_true Bool.true_or
variable {P : Program}
def U8 (a:Int):UInt8:=UInt8.ofNat (a % 256).toNat
def U32 (a:Int):UInt32:=UInt32.ofNat (a % 4294967296).toNat
def U64 (a:Int):UInt64:=UInt64.ofNat (a % 18446744073709551616).toNat
theorem QIf {a:Int}:IntKind.u8.wrap a=((U8 a).toNat:Int):=by
 unfold U8
 rw [UInt8.toNat_ofNat']
 rw [QIg (k:=.u8) rfl]
 show a % (256:Nat)=_
 omega
theorem QDu {a:Int}:IntKind.u32.wrap a=((U32 a).toNat:Int):=by
 unfold U32
 rw [UInt32.toNat_ofNat']
 rw [QIg (k:=.u32) rfl]
 show a % (4294967296:Nat)=_
 omega
theorem QGD {a:Int}:IntKind.u64.wrap a=((U64 a).toNat:Int):=by
 unfold U64
 rw [UInt64.toNat_ofNat']
 rw [QIg (k:=.u64) rfl]
 show a % (18446744073709551616:Nat)=_
 omega
theorem QL8 {x:UInt64}:U64 (x.toNat:Int)=x:=by
 apply UInt64.toNat_inj.1
 unfold U64
 rw [UInt64.toNat_ofNat']
 have:=x.toNat_lt
 omega
theorem QM3 {n:Nat}:U8 (n:Int)=UInt8.ofNat n:=by
 apply UInt8.toNat_inj.1
 unfold U8
 rw [UInt8.toNat_ofNat',UInt8.toNat_ofNat']
 omega
theorem QI3 {n:Nat}:U32 (n:Int)=UInt32.ofNat n:=by
 apply UInt32.toNat_inj.1
 unfold U32
 rw [UInt32.toNat_ofNat',UInt32.toNat_ofNat']
 omega
theorem QFy {n:Nat}:U64 (n:Int)=UInt64.ofNat n:=by
 apply UInt64.toNat_inj.1
 unfold U64
 rw [UInt64.toNat_ofNat',UInt64.toNat_ofNat']
 omega
theorem U8_lit {n:Nat}:U8 (no_index (OfNat.ofNat n:Int))=(OfNat.ofNat n:UInt8):=QM3
theorem Qcr {a b:Int}:U32 (a+b)=U32 a+U32 b:=by
 apply UInt32.toNat_inj.1
 rw [UInt32.toNat_add]
 unfold U32
 simp only [UInt32.toNat_ofNat']
 omega
theorem bv8 {a:Int}:BitVec.ofInt 8 a=(U8 a).toBitVec:=by
 apply BitVec.eq_of_toNat_eq
 simp only [BitVec.toNat_ofInt,U8,UInt8.toNat_toBitVec,UInt8.toNat_ofNat']
 omega
theorem bv32 {a:Int}:BitVec.ofInt 32 a=(U32 a).toBitVec:=by
 apply BitVec.eq_of_toNat_eq
 simp only [BitVec.toNat_ofInt,U32,UInt32.toNat_toBitVec,UInt32.toNat_ofNat']
 omega
theorem bv64 {a:Int}:BitVec.ofInt 64 a=(U64 a).toBitVec:=by
 apply BitVec.eq_of_toNat_eq
 simp only [BitVec.toNat_ofInt,U64,UInt64.toNat_toBitVec,UInt64.toNat_ofNat']
 omega
section
variable {t : TypeId} {x y : Operand} {a b : Int}
theorem Qcm {v:BitVec 8}:U8 ((v.toNat:Nat):Int)=UInt8.ofBitVec v:=by
 rw [QM3];apply UInt8.toNat_inj.1;rw [UInt8.toNat_ofNat'];have:=v.isLt;simp;omega
theorem QOK {v:BitVec 32}:U32 ((v.toNat:Nat):Int)=UInt32.ofBitVec v:=by
 rw [QI3];apply UInt32.toNat_inj.1;rw [UInt32.toNat_ofNat'];have:=v.isLt;simp;omega
theorem U64_bv {v:BitVec 64}:U64 ((v.toNat:Nat):Int)=UInt64.ofBitVec v:=by
 rw [QFy];apply UInt64.toNat_inj.1;rw [UInt64.toNat_ofNat'];have:=v.isLt;simp;omega
theorem QWG:pbin P .or t x y (.int .u8 a) (.int .u8 b)=some (.int .u8 ((U8 a|||U8 b).toNat:Nat)):=by
 show some (Value.int .u8 (IntKind.u8.wrap ((BitVec.ofInt 8 a|||BitVec.ofInt 8 b).toNat:Nat)))=_
 rw [QIf,Qcm,bv8,bv8];rfl
theorem QUj:pbin P .and t x y (.int .u8 a) (.int .u8 b)=some (.int .u8 ((U8 a&&&U8 b).toNat:Nat)):=by
 show some (Value.int .u8 (IntKind.u8.wrap ((BitVec.ofInt 8 a&&&BitVec.ofInt 8 b).toNat:Nat)))=_
 rw [QIf,Qcm,bv8,bv8];rfl
theorem QMD:pbin P .andNot t x y (.int .u8 a) (.int .u8 b)=some (.int .u8 ((U8 a&&&~~~ U8 b).toNat:Nat)):=by
 show some (Value.int .u8 (IntKind.u8.wrap ((BitVec.ofInt 8 a&&&~~~ BitVec.ofInt 8 b).toNat:Nat)))=_
 rw [QIf,Qcm,bv8,bv8];rfl
theorem QR1:pbin P .or t x y (.int .u32 a) (.int .u32 b)=some (.int .u32 ((U32 a|||U32 b).toNat:Nat)):=by
 show some (Value.int .u32 (IntKind.u32.wrap ((BitVec.ofInt 32 a|||BitVec.ofInt 32 b).toNat:Nat)))=_
 rw [QDu,QOK,bv32,bv32];rfl
theorem QQC:pbin P .and t x y (.int .u32 a) (.int .u32 b)=some (.int .u32 ((U32 a&&&U32 b).toNat:Nat)):=by
 show some (Value.int .u32 (IntKind.u32.wrap ((BitVec.ofInt 32 a&&&BitVec.ofInt 32 b).toNat:Nat)))=_
 rw [QDu,QOK,bv32,bv32];rfl
theorem QQ1:pbin P .xor t x y (.int .u32 a) (.int .u32 b)=some (.int .u32 ((U32 a ^^^ U32 b).toNat:Nat)):=by
 show some (Value.int .u32 (IntKind.u32.wrap ((BitVec.ofInt 32 a ^^^ BitVec.ofInt 32 b).toNat:Nat)))=_
 rw [QDu,QOK,bv32,bv32];rfl
theorem QS8:pbin P .or t x y (.int .u64 a) (.int .u64 b)=some (.int .u64 ((U64 a|||U64 b).toNat:Nat)):=by
 show some (Value.int .u64 (IntKind.u64.wrap ((BitVec.ofInt 64 a|||BitVec.ofInt 64 b).toNat:Nat)))=_
 rw [QGD,U64_bv,bv64,bv64];rfl
theorem QCF {k k':IntKind} {n s:Nat} (h:n<2^k.bits):pbin P .shr t x y (.int k (n:Nat)) (.int k' (s:Nat))=some (.int k ((n / 2^s:Nat):Int)):=by
 have e:pbin P .shr t x y (.int k (n:Nat)) (.int k' (s:Nat))=prun P (Op.shift .shr k (n:Nat) k' (s:Nat)):=rfl
 rw [e]
 unfold Op.shift
 rw [if_neg (by omega)]
 show some (Value.int k (Int.fdiv (n:Int) (2^(min (s:Int).toNat k.bits))))=_
 have:(Int.fdiv (n:Int) (2^(min (s:Int).toNat k.bits)))=((n / 2^(min s k.bits):Nat):Int):=by
  rw [Int.fdiv_eq_ediv_of_nonneg _ (by exact Int.le_of_lt (Int.pow_pos (by decide)))]
  simp
 rw [this]
 congr 3
 rcases Nat.le_total s k.bits with hs | hs
 ·rw [Nat.min_eq_left hs]
 ·rw [Nat.min_eq_right hs,Nat.div_eq_of_lt h,Nat.div_eq_of_lt (Nat.lt_of_lt_of_le h (Nat.pow_le_pow_right (by decide) hs))]
end
def QC (b:UInt8):List AV:=[.v (.int .u8 b.toNat)]
theorem QLi (b:UInt8):(QC b).length=1:=(rfl)
theorem QH7 (b:UInt8):idfL (QC b)=true:=(rfl)
theorem QH (l:List UInt8):(flat QC l).length=l.length:=by rw [QW QLi,Nat.mul_one]
theorem QBD (l k:List UInt8):flat QC l++flat QC k=flat QC (l++k):=by simp [flat]
theorem QPD {l:List UInt8} {b:UInt8}:flat QC l++[AV.v (.int .u8 b.toNat)]=flat QC (l++[b]):=by rw [←QBD];rfl
theorem QQ:∀{l:List UInt8},sclL (flat QC l)=true
 | []=>rfl
 | b::l=>by simp only [flat,List.flatMap_cons,QC,List.cons_append,List.nil_append,sclL,scl,Bool.true_and];exact QQ (l:=l)
theorem QQI {t:TypeId} {x y:Operand} {k':IntKind} {n s:Nat} (h:n<18446744073709551616):pbin P .shr t x y (.int .u64 (n:Nat)) (.int k' (no_index (OfNat.ofNat s)))=some (.int .u64 ((n / 2^s:Nat):Int)):=QCF (s:=s) h
theorem Qg {l:List UInt8}:idfL (flat QC l)=true:=QZ QH7 l
theorem QT {l:List UInt8} {i:Nat}:(flat QC l).take i=flat QC (l.take i):=by
 induction l generalizing i with
 | nil=>simp [flat]
 | cons b l ih=>cases i with
  | zero=>simp [flat]
  | succ i=>simp only [flat,List.flatMap_cons,QC,List.cons_append,List.nil_append,List.take_succ_cons] at*; rw [ih]
theorem QL {l:List UInt8} {i:Nat}:(flat QC l).drop i=flat QC (l.drop i):=by
 induction l generalizing i with
 | nil=>simp [flat]
 | cons b l ih=>cases i with
  | zero=>simp [flat]
  | succ i=>simp only [flat,List.flatMap_cons,QC,List.cons_append,List.nil_append,List.drop_succ_cons] at*; rw [ih]
theorem QGx {l:List UInt8} {i:Nat} (h:l.length≤i):(flat QC l).take i=flat QC l:=by rw [QT,List.take_of_length_le h]
attribute [push_cast] Qg QH7 QGx QQ QQI UInt8.ofNat_toNat UInt32.ofNat_toNat UInt64.ofNat_toNat QIf QM3 U8_lit QWG QUj QMD QH QPD QBD
def QCe (keep:List (Nat×Nat)):AV→Option AV
 | .ptr o off=>(keep.find? fun q=>q.2==o).map fun q=>.ptr q.1 off
 | .sl o off n sz=>(keep.find? fun q=>q.2==o).map fun q=>.sl q.1 off n sz
 | .slc o off n sz=>(keep.find? fun q=>q.2==o).map fun q=>.slc q.1 off n sz
 | .mp o=>(keep.find? fun q=>q.2==o).map fun q=>.mp q.1
 | .it o=>(keep.find? fun q=>q.2==o).map fun q=>.it q.1
 | .yld o=>(keep.find? fun q=>q.2==o).map fun q=>.yld q.1
 | _=>none
def QKH (x:AV) (r:Option AV) (b:Bool):Option (List AV×Bool)→Option (List AV×Bool)
 | none=>none
 | some (ys,c)=>match r with
  | some y=>some (y::ys,true)
  | none=>match b with
   | true=>some (x::ys,c)
   | false=>none
def QBQ (keep:List (Nat×Nat)):List AV→Option (List AV×Bool)
 | []=>some ([],false)
 | x::xs=>QKH x (QCe keep x) (idf x) (QBQ keep xs)
def QRG:Option (List AV×Bool)→Option AV
 | some (ys,true)=>some (.tup ys)
 | _=>none
def QER (keep:List (Nat×Nat)):AV→Option AV
 | .ptr o off=>(keep.find? fun q=>q.2==o).map fun q=>.ptr q.1 off
 | .sl o off n sz=>(keep.find? fun q=>q.2==o).map fun q=>.sl q.1 off n sz
 | .slc o off n sz=>(keep.find? fun q=>q.2==o).map fun q=>.slc q.1 off n sz
 | .mp o=>(keep.find? fun q=>q.2==o).map fun q=>.mp q.1
 | .it o=>(keep.find? fun q=>q.2==o).map fun q=>.it q.1
 | .yld o=>(keep.find? fun q=>q.2==o).map fun q=>.yld q.1
 | .tup xs=>QRG (QBQ keep xs)
 | _=>none
theorem QQn {keep:List (Nat×Nat)} {x:AV} (h:idf x=true):QCe keep x=none:=by cases x<;>first | rfl | simp [idf] at h
theorem QHp {keep:List (Nat×Nat)}:∀{xs:List AV},idfL xs=true→QBQ keep xs=some (xs,false)
 | [],_=>rfl
 | x::xs,h=>by
  simp only [idfL,Bool.and_eq_true] at h
  rw [QBQ,QQn h.1,h.1,QHp h.2];rfl
def GzV (keep:List (Nat×Nat)) (f:Nat→Option AObj):Option AV→AV→Prop
 | some x,y=>nilA y x=true∨match QER keep x with
  | some z=>z=y
  | none=>∃ids,snap f 12 x=some (y,ids)
 | none,_=>False
def GzE (keep:List (Nat×Nat)) (f:Nat→Option AObj) (env:List (Nat×AV)):List (Nat×AV)→Prop
 | []=>True
 | (t,x)::e=>GzV keep f (lk env t) x∧GzE keep f env e
theorem GzE.get {keep:List (Nat×Nat)} {f:Nat→Option AObj} {env:List (Nat×AV)}:∀{e:List (Nat×AV)},GzE keep f env e→∀{t x},lk e t=some x→GzV keep f (lk env t) x
 | [],_,t,x,h=>by simp [lk] at h
 | (t',x')::e,hE,t,x,h=>by
  simp only [lk] at h
  split at h
  ·rename_i e;subst e;simp only [Option.some.injEq] at h;subst h;exact hE.1
  ·exact hE.2.get h
def lkk (n0:Nat) (keep:List (Nat×Nat)) (o:Nat):Option Nat:=match lk keep o with
 | some q=>some q
 | none=>if o<n0 then some o else none
theorem QAc {n0:Nat} {keep:List (Nat×Nat)} {o q:Nat} (h:lk keep o=some q):lkk n0 keep o=some q:=by simp [lkk,h]
theorem QFv {n0:Nat} {keep:List (Nat×Nat)} {o:Nat} (h:lk keep o=none) (h0:n0≤o):lkk n0 keep o=none:=by simp [lkk,h];omega
def GzC (keep:List (Nat×Nat)) (f:Nat→Option AObj):List AV→List AV→Prop
 | [],[]=>True
 | x::xs,y::ys=>GzV keep f (some x) y∧GzC keep f xs ys
 | _,_=>False
def GzBC (keep:List (Nat×Nat)) (f:Nat→Option AObj):Option AObj→AObj→Prop
 | some (.cells E xs ap),.cells E' ys ap'=>E=E'∧ap=ap'∧GzC keep f xs ys
 | some (.map kt ks xs),.map kt' ks' ys=>kt=kt'∧ks=ks'∧GzC keep f xs ys
 | some (.loop N ts xs ps as bd st pe),.loop N' ts' ys ps' as' bd' st' pe'=>(N=N'∧ts=ts'∧ps=ps'∧as=as'∧bd=bd'∧st=st'∧pe=pe')∧GzC keep f xs ys
 | _,_=>False
def GzO1 (keep:List (Nat×Nat)) (dl:List Nat) (f:Nat→Option AObj) (objs:List (Nat×AObj)) (o:Nat) (x:AObj):Prop:=match lk keep o with
 | some q=>bif dl.contains o then GzBC keep f (lk objs q) x else FzB f (lk objs q) x
 | none=>nilO x=true
def GzO (keep:List (Nat×Nat)) (dl:List Nat) (f:Nat→Option AObj) (objs:List (Nat×AObj)):List (Nat×AObj)→Prop
 | []=>True
 | (o,x)::e=>GzO1 keep dl f objs o x∧GzO keep dl f objs e
theorem GzO.get {keep:List (Nat×Nat)} {dl:List Nat} {f:Nat→Option AObj} {objs:List (Nat×AObj)}:∀{e:List (Nat×AObj)},GzO keep dl f objs e→∀{t x},lk e t=some x→GzO1 keep dl f objs t x
 | [],_,t,x,h=>by simp [lk] at h
 | (t',x')::e,hE,t,x,h=>by
  simp only [lk] at h
  split at h
  ·rename_i e;subst e;simp only [Option.some.injEq] at h;subst h;exact hE.1
  ·exact hE.2.get h
theorem Ent.freezeN (n0:Nat) (keep:List (Nat×Nat)) (dl:List Nat) {env env':List (Nat×AV)} {objs objs':List (Nat×AObj)} {next base wid next':Nat}
  (hE:GzE keep (lk (Qc keep objs)) env env') (hO:GzO keep dl (lk (Qc keep objs)) objs objs') (hk:kInj keep=true) (hn:(keep.all fun p=>decide (p.1<next'))=true) (hn':(objs'.all fun p=>decide (p.1<next'))=true) (h0:n0≤next') (hid:(keep.all fun p=>decide (n0≤p.1)||p.1==p.2)=true) (hob0:(objs'.all fun p=>decide (n0≤p.1)||(lk keep p.1).isSome)=true):Ent n0 ⟨env,⟨objs,next,base,wid⟩⟩ ⟨env',⟨objs',next',next',0⟩⟩:=by
 intro S μ w a hr henv
 have hr2:RM S μ w ⟨Qc keep objs,next,next,0⟩:=⟨fun o ob h=>hr.obj o ob (Qx h).1,fun o o' ob ob' h h'=>hr.inj o o' ob ob' (Qx h).1 (Qx h').1,hr.old,hr.fr,fun o h1 h2=>by simp only at h1 h2;omega,Nat.le_refl _,hr.bk⟩
 let T:Nat→Nat→Prop:=fun b off=>S b off∨QBE ⟨Qc keep objs,next,next,0⟩ μ b
 let ν:Nat→Option (Nat×Nat):=fun o=>(lkk n0 keep o).bind μ
 have hself:∀{o q:Nat},o<n0→lk keep o=some q→q=o:=fun {o q} ho hq=>by
  rw [List.all_eq_true] at hid
  have:=hid _ (lk_mem hq)
  simp only [Bool.or_eq_true,decide_eq_true_eq,beq_iff_eq] at this
  omega
 have hge:∀{o ob},lk objs' o=some ob→lk keep o=none→n0≤o:=fun {o ob} ho hq=>by
  rw [List.all_eq_true] at hob0
  have:=hob0 _ (lk_mem ho)
  simp only [Bool.or_eq_true,decide_eq_true_eq,hq] at this
  simpa using this
 have hsn:=QBI (T:=T) hr2 (fun b off h=>.inl h) (fun b h off=>.inr h) 12
 have hsl:=QEd (T:=T) (fun b off h=>.inl h) hsn
 have hown:∀b,QBE ⟨Qc keep objs,next,next,0⟩ μ b→QBE ⟨objs,next,base,wid⟩ μ b:=fun b ⟨o,ob,bo,h1,h2,h3⟩=>⟨o,ob,bo,(Qx h1).1,h2,h3⟩
 have hnot:∀{q b bo:Nat} {ob:AObj},(keep.any fun p=>p.2==q)=true→lk objs q=some ob→ob.own=true→μ q=some (b,bo)→(∀off,¬S b off)→∀off,¬T b off:=by
  intro q b bo ob hq hf hob hμ hS off h
  rcases h with h | ⟨o,ob',bo',h1,h2,h3⟩
  ·exact hS off h
  ·have hl:=Qx h1
   have hne:o≠q:=fun e=>by rw [e,hq] at hl;cases hl.2
   exact hr.inj o q ob' ob hl.1 hf h2 hob hne b bo' bo h3 hμ
 have hmu:∀{o:Nat} {q:Nat×Nat},(keep.find? fun q=>q.2==o)=some q→ν q.1=μ o:=fun h=>by
  show (lkk n0 keep _).bind μ=_
  rw [QAc (QJh hk h)];rfl
 have conv:∀(y x:AV) (v:Value),GzV keep (lk (Qc keep objs)) (some y) x→Rep S μ w y v→Rep T ν w x v:=by
  intro y x v hV hy
  simp only [GzV] at hV
  rcases hV with hV | hV
  ·unfold nilA at hV
   split at hV
   ·split at hV
    ·simp only [Rep] at hy ⊢
     exact⟨none,0,hy,Nat.le_refl _,.inl rfl⟩
    ·simp only [Rep] at hy ⊢
     exact⟨none,0,hy,Nat.le_refl _,by simp,by simp⟩
    ·cases hV
   ·cases hV
  split at hV
  ·rename_i z hz
   subst hV
   have conv0:∀(y z:AV) (v:Value),QCe keep y=some z→Rep S μ w y v→Rep T ν w z v:=by
    intro y z v hz hy
    cases y<;>simp only [QCe,Option.map_eq_some_iff,reduceCtorEq] at hz
    all_goals
     obtain⟨q,h1,rfl⟩:=hz
     simp only [Rep] at hy ⊢
     rw [hmu h1];exact hy
   by_cases ht:∃xs,y=.tup xs
   ·obtain⟨xs,rfl⟩:=ht
    simp only [QER] at hz
    cases hk0:QBQ keep xs with
    | none=>rw [hk0] at hz;cases hz
    | some p=>
     obtain⟨ys,c⟩:=p
     rw [hk0] at hz
     cases c with
     | false=>cases hz
     | true=>
      simp only [QRG,Option.some.injEq] at hz
      subst hz
      simp only [Rep] at hy ⊢
      obtain⟨us,e,hL⟩:=hy
      refine⟨us,e,?_⟩
      clear e
      have key:∀(xs ys:List AV) (us:List Value) (c:Bool),QBQ keep xs=some (ys,c)→RepL S μ w xs us→RepL T ν w ys us:=by
       intro xs
       induction xs with
       | nil=>intro ys us c h hr;simp only [QBQ,Option.some.injEq,Prod.mk.injEq] at h;obtain⟨rfl,_⟩:=h;simpa [RepL] using hr
       | cons x xs ih=>
        intro ys us c h hr
        simp only [QBQ] at h
        cases hx:QBQ keep xs with
        | none=>rw [hx] at h;cases h
        | some p=>
         obtain⟨zs,d⟩:=p
         rw [hx] at h
         simp only [RepL] at hr
         obtain⟨u,us',e,r1,r2⟩:=hr
         cases h0:QCe keep x with
         | some z=>
          rw [h0] at h
          simp only [QKH,Option.some.injEq,Prod.mk.injEq] at h
          obtain⟨rfl,_⟩:=h
          simp only [RepL]
          exact⟨u,us',e,conv0 _ _ _ h0 r1,ih _ _ _ hx r2⟩
         | none=>
          rw [h0] at h
          cases hi:idf x with
          | false=>rw [hi] at h;cases h
          | true=>
           rw [hi] at h
           simp only [QKH,Option.some.injEq,Prod.mk.injEq] at h
           obtain⟨rfl,_⟩:=h
           simp only [RepL]
           have hs:=QAs (find:=lk (Qc keep objs)) (n:=11) hi
           obtain⟨k1,k2⟩:=hsn _ _ _ _ hs r1
           exact⟨u,us',e,Rep.idf1 _ _ k1 k2,ih _ _ _ hx r2⟩
      exact key _ _ _ _ hk0 hL
   ·refine conv0 _ _ _ ?_ hy
    cases y<;>first | exact hz | exact absurd ⟨_,rfl⟩ ht
  ·obtain⟨ids,hs⟩:=hV
   obtain⟨k1,k2⟩:=hsn _ _ _ _ hs hy
   exact Rep.idf1 _ _ k1 k2
 have convC:∀(xs ys:List AV) (vs:List Value),GzC keep (lk (Qc keep objs)) xs ys→RepL S μ w xs vs→RepL T ν w ys vs:=by
  intro xs
  induction xs with
  | nil=>intro ys vs h hr;cases ys with
   | nil=>simpa [RepL] using hr
   | cons y ys=>exact h.elim
  | cons x xs ih=>intro ys vs h hr;cases ys with
   | nil=>exact h.elim
   | cons y ys=>
    simp only [RepL] at hr ⊢
    obtain⟨v,us,e,h1,h2⟩:=hr
    exact⟨v,us,e,conv _ _ _ h.1 h1,ih _ _ h.2 h2⟩
 have hob:∀o ob,lk objs' o=some ob→(∃q x,lk keep o=some q∧lk objs q=some x∧x.own=ob.own∧RepO T ν w o ob)∨(ν o=none∧RepO T ν w o ob):=by
  intro o ob ho
  have hB:=hO.get ho
  unfold GzO1 at hB
  split at hB
  ·rename_i q hq
   left
   cases hdl:dl.contains o with
   | true=>
    rw [hdl] at hB
    simp only [cond_true] at hB
    have hν:ν o=μ q:=by show (lkk n0 keep o).bind μ=μ q;rw [QAc hq];rfl
    cases hx:lk objs q with
    | none=>rw [hx] at hB;simp [GzBC] at hB
    | some x=>
     rw [hx] at hB
     have hobj:=(hr.obj q x hx).2
     refine⟨q,x,hq,hx,?_,?_⟩
     ·cases x<;>cases ob<;>simp [GzBC] at hB<;>rfl
     ·cases x<;>cases ob<;>simp only [GzBC] at hB
      ·obtain⟨rfl,rfl,hs⟩:=hB
       simp only [RepO] at hobj ⊢
       rcases hobj with ⟨h1,h2⟩ | ⟨b,bo,ys,c,fz,e1,e2,e3,e4,e5,e6,e7,e8⟩
       ·subst h2
        have k2:=convC _ _ _ hs (by simp [RepL]:RepL S μ w [] [])
        exact .inl ⟨hν.trans h1,by have:=k2.length;simpa using this.symm⟩
       ·exact .inr ⟨b,bo,ys,c,fz,hν.trans e1,e2,e3,convC _ _ _ hs e4,e5,e6,e7,hnot (QAl hq) hx rfl e1 e8⟩
      ·obtain⟨rfl,rfl,hs⟩:=hB
       simp only [RepO] at hobj ⊢
       obtain⟨b,bo,es,clock,e1,e2,e3,e4,e5,e6⟩:=hobj
       exact⟨b,bo,es,clock,hν.trans e1,e2,e3,e4,convC _ _ _ hs e5,hnot (QAl hq) hx rfl e1 e6⟩
      ·obtain⟨⟨rfl,rfl,rfl,rfl,rfl,rfl,rfl⟩,hs⟩:=hB
       simp only [RepO] at hobj ⊢
       obtain⟨b,bo,D,fn,tmps,e1,e2,e3,e4,e5⟩:=hobj
       exact⟨b,bo,D,fn,tmps,hν.trans e1,hnot (QAl hq) hx rfl e1 e2,e3,e4,convC _ _ _ hs e5⟩
   | false=>
   rw [hdl] at hB
   simp only [cond_false] at hB
   have hν:ν o=μ q:=by show (lkk n0 keep o).bind μ=μ q;rw [QAc hq];rfl
   cases hx:lk objs q with
   | none=>rw [hx] at hB;simp [FzB] at hB
   | some x=>
    rw [hx] at hB
    have hobj:=(hr.obj q x hx).2
    refine⟨q,x,hq,hx,?_,?_⟩
    ·cases x<;>cases ob<;>simp [FzB] at hB<;>rfl
    ·cases x<;>cases ob<;>simp only [FzB] at hB
     ·obtain⟨rfl,rfl,ids,hs⟩:=hB
      simp only [RepO] at hobj ⊢
      rcases hobj with ⟨h1,h2⟩ | ⟨b,bo,ys,c,fz,e1,e2,e3,e4,e5,e6,e7,e8⟩
      ·subst h2
       obtain⟨k1,k2⟩:=hsl _ _ _ [] hs (by simp [RepL])
       exact .inl ⟨hν.trans h1,by have:=k2.length;simpa using this.symm⟩
      ·obtain⟨k1,k2⟩:=hsl _ _ _ _ hs e4
       exact .inr ⟨b,bo,ys,c,fz,hν.trans e1,e2,e3,RepL.idf1 _ _ k1 k2,e5,e6,e7,hnot (QAl hq) hx rfl e1 e8⟩
     ·obtain⟨rfl,rfl,ids,hs⟩:=hB
      simp only [RepO] at hobj ⊢
      obtain⟨b,bo,es,clock,e1,e2,e3,e4,e5,e6⟩:=hobj
      obtain⟨k1,k2⟩:=hsl _ _ _ _ hs e5
      exact⟨b,bo,es,clock,hν.trans e1,e2,e3,e4,RepL.idf1 _ _ k1 k2,hnot (QAl hq) hx rfl e1 e6⟩
  ·rename_i hq
   right
   have hν:ν o=none:=by show (lkk n0 keep o).bind μ=none;rw [QFv hq (hge ho hq)];rfl
   refine⟨hν,?_⟩
   unfold nilO at hB
   split at hB
   ·simp only [RepO];exact .inl ⟨hν,trivial⟩
   ·cases hB
 have hlt:∀{o q},lk keep o=some q→o<next':=fun h=>by
  rw [List.all_eq_true] at hn
  simpa using hn _ (lk_mem h)
 have hν0:∀o,o<n0→ν o=μ o:=fun o ho=>by
  show (lkk n0 keep o).bind μ=μ o
  cases hq:lk keep o with
  | none=>simp [lkk,hq,ho]
  | some q=>rw [QAc hq,hself ho hq];rfl
 refine⟨T,ν,⟨fun o ob h=>?_,fun o o' ob ob' h h' ho ho' hne b i j hi hj=>?_,fun b off h=>?_,fun o ho=>?_,fun o h1 h2=>by simp only at h1 h2;omega,Nat.le_refl _,fun o b bo h=>?_⟩,fun t x ht=>?_,fun b off h=>.inl h,fun b off h=>?_,hν0,fun o ho hf=>?_,h0,rfl,fun b hb=>?_⟩
 ·refine⟨by rw [List.all_eq_true] at hn';simpa using hn' _ (lk_mem h),?_⟩
  rcases hob o ob h with ⟨q,x,h1,h2,h3,h4⟩ | ⟨_,h4⟩
  ·exact h4
  ·exact h4
 ·rcases hob o ob h with ⟨q,x,h1,h2,h3,h4⟩ | ⟨h4,_⟩
  case inr=>rw [h4] at hi;cases hi
  rcases hob o' ob' h' with ⟨q',x',g1,g2,g3,g4⟩ | ⟨g4,_⟩
  case inr=>rw [g4] at hj;cases hj
  have e1:ν o=μ q:=by show (lkk n0 keep o).bind μ=μ q;rw [QAc h1];rfl
  have e2:ν o'=μ q':=by show (lkk n0 keep o').bind μ=μ q';rw [QAc g1];rfl
  refine hr.inj q q' x x' h2 g2 (h3.trans ho) (g3.trans ho') (fun e=>hne (QOQ hk h1 (e▸g1))) b i j (e1▸hi) (e2▸hj)
 ·rcases h with h | ⟨o,ob,bo,_,_,h⟩
  ·exact hr.old _ _ h
  ·exact hr.bk _ _ _ h
 ·show (lkk n0 keep o).bind μ=none
  have ho':next'≤o:=ho
  cases hq:lk keep o with
  | none=>rw [QFv hq (by omega)];rfl
  | some q=>have:=hlt hq;omega
 ·change (lkk n0 keep o).bind μ=some (b,bo) at h
  cases hq:lkk n0 keep o with
  | none=>rw [hq] at h;cases h
  | some q=>rw [hq] at h;exact hr.bk _ _ _ h
 ·have hV:=hE.get ht
  cases hx:lk env t with
  | none=>rw [hx] at hV;exact hV.elim
  | some y=>
   rw [hx] at hV
   exact conv _ _ _ hV (henv t y hx)
 ·rcases h with h | h
  ·exact .inl h
  ·exact .inr (.inl (hown _ h))
 ·obtain⟨ob,hb⟩:=Option.ne_none_iff_exists'.1 hf
  rcases hob o ob hb with ⟨q,x,h1,h2,_⟩ | ⟨h1,_⟩
  ·have:=hself ho h1
   subst this
   show lk objs q≠none
   rw [h2];simp
  ·have hB:=hO.get hb
   have hq:lk keep o≠none:=fun e=>by have:=hge hb e;omega
   obtain⟨q,hq⟩:=Option.ne_none_iff_exists'.1 hq
   have:=hself ho hq
   subst this
   unfold GzO1 at hB
   rw [hq] at hB
   show lk objs q≠none
   intro e
   simp only [e] at hB
   cases hdl:dl.contains q<;>simp [hdl,FzB,GzBC] at hB
 ·rcases hb with ⟨o,ob,bo,h1,h2,h3⟩ | ⟨o,b0,code,h1,h2,h3⟩
  case inr=>
   have:=hO.get h1
   unfold GzO1 at this
   split at this
   ·rename_i q hq
    cases hx:lk objs q with
    | none=>simp [hx,FzB,GzBC] at this
    | some x=>rw [hx] at this;cases x<;>simp [FzB,GzBC] at this
   ·simp [nilO] at this
  rcases hob o ob h1 with ⟨q,x,g1,g2,g3,g4⟩ | ⟨g4,_⟩
  case inr=>rw [g4] at h3;cases h3
  exact .inl ⟨q,x,bo,g2,g3.trans h2,by change (lkk n0 keep o).bind μ=_ at h3;rw [QAc g1] at h3;exact h3⟩
section
variable {keep : List (Nat × Nat)} {dl : List Nat} {f : Nat → Option AObj}
theorem Qal {objs:List (Nat×AObj)}:GzO keep dl f objs []=True:=(rfl)
theorem QZX {objs e:List (Nat×AObj)} {o:Nat} {x:AObj}:GzO keep dl f objs ((o,x)::e)=(GzO1 keep dl f objs o x∧GzO keep dl f objs e):=(rfl)
def GzO2 (keep:List (Nat×Nat)) (dl:List Nat) (f:Nat→Option AObj) (objs:List (Nat×AObj)) (o:Nat) (r:Option Nat) (x:AObj):Prop:=match r with
 | some q=>bif dl.contains o then GzBC keep f (lk objs q) x else FzB f (lk objs q) x
 | none=>nilO x=true
theorem QbD {objs:List (Nat×AObj)} {o:Nat} {x:AObj}:GzO1 keep dl f objs o x=GzO2 keep dl f objs o (lk keep o) x:=by
 unfold GzO1 GzO2;cases lk keep o<;>rfl
theorem QT4 {objs:List (Nat×AObj)} {o q:Nat} {x:AObj}:GzO2 keep dl f objs o (some q) x=bif dl.contains o then GzBC keep f (lk objs q) x else FzB f (lk objs q) x:=(rfl)
theorem QSV {objs:List (Nat×AObj)} {o:Nat} {x:AObj}:GzO2 keep dl f objs o none x=(nilO x=true):=(rfl)
theorem QQk {E E':TypeId} {xs ys:List AV} {ap ap':Bool}:GzBC keep f (some (.cells E xs ap)) (.cells E' ys ap')=(E=E'∧ap=ap'∧GzC keep f xs ys):=(rfl)
theorem QVM {N N':Nat} {ts ts':List Nat} {xs ys:List AV} {ps ps':Array Nat} {as as' bd bd':Code} {st st':LoopState} {pe pe':Option Code}:GzBC keep f (some (.loop N ts xs ps as bd st pe)) (.loop N' ts' ys ps' as' bd' st' pe')=((N=N'∧ts=ts'∧ps=ps'∧as=as'∧bd=bd'∧st=st'∧pe=pe')∧GzC keep f xs ys):=(rfl)
theorem QYk {k k':KT} {ks ks':List Value} {xs ys:List AV}:GzBC keep f (some (.map k ks xs)) (.map k' ks' ys)=(k=k'∧ks=ks'∧GzC keep f xs ys):=(rfl)
theorem Qa5:GzC keep f [] []=True:=(rfl)
theorem QVi {x y:AV} {xs ys:List AV}:GzC keep f (x::xs) (y::ys)=(GzV keep f (some x) y∧GzC keep f xs ys):=(rfl)
theorem QcH {env:List (Nat×AV)}:GzE keep f env []=True:=(rfl)
theorem QXs {env e:List (Nat×AV)} {t:Nat} {x:AV}:GzE keep f env ((t,x)::e)=(GzV keep f (lk env t) x∧GzE keep f env e):=(rfl)
theorem QVy {x y:AV}:GzV keep f (some x) y=Fz1 (nilA y x) (fzA (QER keep x) (snap f 12 x)) y:=by
 simp only [GzV,Fz1,fzA,eq_iff_iff]
 cases QER keep x with
 | some z=>simp
 | none=>
  cases snap f 12 x with
  | none=>simp
  | some p=>simp [Prod.ext_iff]
theorem Qbe {x:AV} (h:idf x=true):fzA (QER keep x) (snap f 12 x)=some x:=by
 have:QER keep x=none:=by
  by_cases ht:∃xs,x=.tup xs
  ·obtain⟨xs,rfl⟩:=ht
   rw [QER,QHp (by simpa [idf] using h)];rfl
  ·cases x<;>first | exact absurd ⟨_,rfl⟩ ht | rfl | simp [idf] at h
 rw [this,QAs h];rfl
theorem QUZ {o off:Nat}:QER keep (.ptr o off)=QEx keep o fun p=>.ptr p off:=QAr (mk:=fun p=>.ptr p off)
theorem QWw {o off n sz:Nat}:QER keep (.sl o off n sz)=QEx keep o fun p=>.sl p off n sz:=QAr (mk:=fun p=>.sl p off n sz)
theorem QWg {o:Nat}:QER keep (.mp o)=QEx keep o fun p=>.mp p:=QAr
theorem QVe {o:Nat}:QER keep (.it o)=QEx keep o fun p=>.it p:=QAr
theorem QSr {o:Nat}:QER keep (.yld o)=QEx keep o fun p=>.yld p:=QAr
theorem QRd {xs:List AV}:QER keep (.tup xs)=QRG (QBQ keep xs):=(rfl)
theorem QcM {ys:List AV}:QRG (some (ys,true))=some (.tup ys):=(rfl)
theorem QQJ:QBQ keep []=some ([],false):=(rfl)
theorem QMW {x:AV} {xs:List AV}:QBQ keep (x::xs)=QKH x (QCe keep x) (idf x) (QBQ keep xs):=(rfl)
theorem QP0 {x y:AV} {b c:Bool} {ys:List AV}:QKH x (some y) b (some (ys,c))=some (y::ys,true):=(rfl)
theorem QPB {x:AV} {c:Bool} {ys:List AV}:QKH x none true (some (ys,c))=some (x::ys,c):=(rfl)
theorem QRP {o off n sz:Nat}:QCe keep (.sl o off n sz)=QEx keep o fun p=>.sl p off n sz:=QAr (mk:=fun p=>.sl p off n sz)
theorem QZs {p:Value}:QCe keep (.v p)=none:=(rfl)
theorem QPk {xs:List AV}:QCe keep (.agg xs)=none:=(rfl)
attribute [push_cast] QcM QQJ QMW QP0 QPB QRP QZs QPk
theorem QWV {y:AV} {o:Nat}:nilA y (.yld o)=false:=(rfl)
theorem QbV {y:AV} {o:Nat}:nilA y (.it o)=false:=(rfl)
attribute [push_cast] QcH QXs QVy QUZ QWw QWg QVe QSr QRd QWV QbV QVM
attribute [push_cast high] Qbe
attribute [push_cast] Qal QZX QbD QT4 QSV QQk QYk Qa5 QVi
end
variable {P : Program} {γ : GTab} {env : List (Nat × AV)} {m : Mem} {dst : Option Nat}
theorem QGc {fn:Fn} {f:List Operand} {x:Operand} {c:List Operand}:QN P γ env m dst (.makeFunc fn f.toArray (x::c).toArray)=some (.clo fn (f.map fun x=>unf (rho γ env x)) (unf (rho γ env x)::c.map fun x=>unf (rho γ env x)),[]):=by
 unfold QN QBR Qm
 simp only [List.map_cons]
 split
 ·rename_i h1 h2;cases h2
 ·rfl
theorem QGt {fn:Fn} {f:List Operand} {x:Operand} {c:List Operand}:QN P γ env m dst (.makeFunc fn (x::f).toArray c.toArray)=some (.clo fn (unf (rho γ env x)::f.map fun x=>unf (rho γ env x)) (c.map fun x=>unf (rho γ env x)),[]):=by
 unfold QN QBR Qm
 simp only [List.map_cons]
theorem QZt:resA P [] env m=some (.tup []):=(rfl)
attribute [push_cast] QGc QGt QZt
def QJ7:Code→List (Code×Code)
 | .rangeFunc _ _ a b=>[(a,b)]
 | .seq a b=>QJ7 a++QJ7 b
 | .cond _ a b=>QJ7 a++QJ7 b
 | .block _ c=>QJ7 c
 | .loop c=>QJ7 c
 | .scope c=>QJ7 c
 | _=>[]
def rfG (P:Program) (f k:Nat):Option (Code×Code):=match P.funcs[f]? with
 | some fn=>match fn.body with
  | some c=>(QJ7 c)[k]?
  | none=>none
 | none=>none
def rfA (P:Program) (f k:Nat):Code:=match rfG P f k with
 | some p=>p.1
 | none=>.skip
def rfB (P:Program) (f k:Nat):Code:=match rfG P f k with
 | some p=>p.2
 | none=>.skip
theorem QRe {P:Program} {f k:Nat} {a b:Code} (h:rfG P f k=some (a,b)):rfA P f k=a:=by simp [rfA,h]
theorem QTC {P:Program} {f k:Nat} {a b:Code} (h:rfG P f k=some (a,b)):rfB P f k=b:=by simp [rfB,h]
theorem QLZ {n:Nat} (h:n<18446744073709551616):IntKind.u64.wrap (n:Int)=n:=by
 rw [QGD,QFy,UInt64.toNat_ofNat',Nat.mod_eq_of_lt (by simpa using h)]
theorem QU {a:Int} (h0:0≤a) (h:a<18446744073709551616):IntKind.u64.wrap a=a:=by
 obtain⟨n,rfl⟩:=Int.eq_ofNat_of_zero_le h0
 exact QLZ (by omega)
attribute [push_cast] QU List.zip_cons_cons List.zip_nil_left List.zip_nil_right
variable {P : Program} {γ : GTab} {m : Mem}
def endW (P:Program) (rs:List ResultVar) (n z:Nat) (E:TypeId) (cs:List AV) (_:Exit) (σ:St):Prop:=
 ∃y,resA P rs σ.env σ.mem=some y∧Ent 0 ⟨[(0,unf y)],σ.mem⟩ ⟨[(0,.sl 0 0 n z)],⟨[(0,.cells E cs true)],1,1,0⟩⟩
theorem POwn.enter {f:FuncId} {fn:Func} {c:Code} {xs:List AV} {n z:Nat} {E:TypeId} {cs:List AV} (hf:P.funcs[f]?=some fn) (hb:fn.body=some c) (hn:(fn.name== "runtime.NumGoroutine")=false) (hm:P.follows .mixedOrders=true) (hd:dOK c=true) (hx:idfL xs=true) (hc:sclL cs=true)
  (h:ev P γ 0 fn.ntmps [.code c,.fin (endW P fn.results.toList n z E cs)] ⟨(xs.zipIdx.map fun p=>(p.2,p.1)),⟨[],0,0,0⟩⟩):POwn P γ f xs n z E cs:=by
 refine⟨hx,hc,⟨fn,hf,hn,by rw [hb];rfl⟩,fun S w vs hold hG hxs=>?_⟩
 have hRM:RM S μ0 w ⟨[],0,0,0⟩:=⟨fun o ob h=>by simp [Mem.find,lk] at h,fun o o' ob ob' h=>by simp [Mem.find,lk] at h,hold,fun _ _=>rfl,fun o _ h=>by simp at h,Nat.le_refl _,fun o b bo h=>by simp [μ0] at h⟩
 have hRX:RX γ fn.ntmps 0 ⟨[],0,0,0⟩ S μ0 w ⟨(xs.zipIdx.map fun p=>(p.2,p.1)),⟨[],0,0,0⟩⟩ { tmps:=vs.toArray++Array.replicate (fn.ntmps - vs.toArray.size) undef,defers:=[] } w:=
  ⟨S,μ0,⟨hRM,QCL hxs,trivial⟩,hG,Ext.refl0,AOK.start (by simp;omega),Nat.zero_le _,Nat.zero_le _⟩
 refine QCN hm hf hb hd hRX h fun e σ a w' hE hR=>?_
 obtain⟨S',μ,hA,hG',hX,_,_,_⟩:=hR
 obtain⟨y,h1,hent⟩:=hE
 obtain⟨v,h3,h4⟩:=QDP hA.rm hA.env h1
 obtain⟨S2,μ2,k1,k2,_,_,_,_,_,_,k9⟩:=hent S' μ w' ⟨#[v],[]⟩ hA.rm (fun t x ht=>by
  simp only [lk] at ht
  split at ht
  ·rename_i e;subst e;simp only [Option.some.injEq] at ht;subst ht
   exact QA6 h4
  ·cases ht)
 have r1:=k2 0 (.sl 0 0 n z) rfl
 have hob:=(k1.obj 0 (.cells E cs true) rfl).2
 refine⟨v,h3,v,μ2 0,rfl,⟨hX.os,hX.tape,hX.output,hX.size,fun _ _ h=>h,fun _ _ _ h=>h,fun b off h=>by have:=hold b off h;have:=hX.size;omega,fun b hb=>(hX.blk b hb Q1).1,hX.uf⟩,?_,?_,fun b bo hp=>?_⟩
 ·simp only [RepO,μ1,if_true] at hob ⊢
  rcases hob with h | ⟨b,bo,ys,c,fz,e1,e2,e3,e4,e5,e6,e7,_⟩
  ·exact .inl h
  ·exact .inr ⟨b,bo,ys,c,fz,e1,e2,e3,RepL.scl _ _ hc e4,e5,e6,e7,fun _ h=>h⟩
 ·simp only [Rep,μ1,if_true] at r1 ⊢
  exact r1
 ·refine⟨?_,k1.bk _ _ _ hp⟩
  rcases Nat.lt_or_ge b w.heap.size with hlt | hge
  ·exact absurd (k9 b (.inl ⟨0,.cells E cs true,bo,rfl,rfl,hp⟩)) (hX.blk b hlt Q1).2
  ·exact hge
theorem POwn.start {f:FuncId} {fn:Func} {c:Code} {rs:List ResultVar} {nt:Nat} {xs:List AV} {n z:Nat} {E:TypeId} {cs:List AV} (hf:P.funcs[f]?=some fn) (hb:fn.body=some c) (hn:(fn.name== "runtime.NumGoroutine")=false) (hrs:fn.results=rs.toArray) (hnt:fn.ntmps=nt) (hm:P.follows .mixedOrders=true) (hd:dOK c=true) (hx:idfL xs=true) (hc:sclL cs=true)
  (h:ev P γ 0 nt [.code c,.fin (endW P rs n z E cs)] ⟨(xs.zipIdx.map fun p=>(p.2,p.1)),⟨[],0,0,0⟩⟩):POwn P γ f xs n z E cs:=by
 refine POwn.enter hf hb hn hm hd hx hc ?_
 rw [hrs,hnt]
 simpa using h
def QeE (m:Mem) (n z:Nat) (E:TypeId) (cs:List AV) (r:Option AV):Prop:=∃y,r=some y∧Ent 0 ⟨[(0,unf y)],m⟩ ⟨[(0,.sl 0 0 n z)],⟨[(0,.cells E cs true)],1,1,0⟩⟩
theorem Qde {rs:List ResultVar} {n z:Nat} {E:TypeId} {cs:List AV} {e:Exit} {env:List (Nat×AV)} {mem:Mem}:endW P rs n z E cs e ⟨env,mem⟩=QeE mem n z E cs (resA P rs env mem):=(rfl)
theorem QPj {n z:Nat} {E:TypeId} {cs:List AV} {y:AV}:QeE m n z E cs (some y)=Ent 0 ⟨[(0,unf y)],m⟩ ⟨[(0,.sl 0 0 n z)],⟨[(0,.cells E cs true)],1,1,0⟩⟩:=by simp [QeE]
attribute [push_cast] Qde QPj
theorem POwn.gam {f:FuncId} {xs:List AV} {n z:Nat} {E:TypeId} {cs:List AV} (hp:POwn P [] f xs n z E cs):POwn P γ f xs n z E cs:=
 ⟨hp.1,hp.2.1,hp.2.2.1,fun S w vs h1 _ h3=>hp.2.2.2 S w vs h1 GOK.nil h3⟩
theorem POwn.use {g:FuncId} {xs ys:List AV} {ids:List Nat} {n z:Nat} {E:TypeId} {cs:List AV} {K:AV→Mem→Prop} (hp:POwn P γ g ys n z E cs) (hs:QJ m.find xs=some (ys,ids))
  (hK:K (.sl m.next 0 n z) ⟨(m.next,.cells E cs true)::m.objs,m.next+1,m.base,m.wid⟩):Qr P γ g xs m K:=by
 refine⟨hp.2.2.1,fun S μ w vs hr hG hx=>?_⟩
 have hr1:RM S μ w ⟨m.objs,m.next+1,m.base,m.wid⟩:=⟨fun o ob h=>⟨by have:=(hr.obj o ob h).1;show o<m.next+1;omega,(hr.obj o ob h).2⟩,hr.inj,hr.old,fun o h=>hr.fr o (by change m.next+1≤o at h;omega),hr.win,by have:=hr.le;show m.base+m.wid≤m.next+1;omega,hr.bk⟩
 refine (hp.run (m:=⟨m.objs,m.next+1,m.base,m.wid⟩) hs hr1 hG hx (fresh:=m.next) (hr.fr _ (Nat.le_refl _)) (Nat.lt_succ_self _)).mono fun e w' he=>?_
 obtain⟨v,μ',rfl,h1,h2,h3,h4⟩:=he
 have h5:=h3 m.next (Nat.le_refl _) (Nat.le_succ _)
 exact⟨v,_,⟨(m.next,.cells E cs true)::m.objs,m.next+1,m.base,m.wid⟩,S,μ',rfl,rfl,rfl,h1,⟨h5.os,h5.tape,h5.output,h5.size,h5.ids,h5.objs,by show m.next≤m.next+1;omega,h5.sub,h5.new,h5.cell,h5.map,h5.blk,h5.bsz,h5.uf⟩,h4,hK⟩
theorem POwn.useV {g:FuncId} {xs:List AV} {n z:Nat} {E:TypeId} {cs:List AV} {K:AV→Mem→Prop} (hp:POwn P γ g xs n z E cs)
  (hK:K (.sl m.next 0 n z) ⟨(m.next,.cells E cs true)::m.objs,m.next+1,m.base,m.wid⟩):Qr P γ g xs m K:=hp.use (QAE hp.1) hK
theorem QO.useO {xs0:List AV} {all:Array Oper} {i:Nat} {log:Log} {g:FuncId} {f:Nat→Option AObj} {xs ys:List AV} {ids:List Nat} {n z:Nat} {E:TypeId} {cs:List AV} {d:Nat} {env:List (Nat×AV)} {mem:Mem} {K:Log→St→Prop} (hp:POwn P γ g ys n z E cs) (hs:QJ f xs=some (ys,ids)) (h1:dstB mem (some d)=true)
  (h2:(mem.find (mem.base+d)).isNone=true) (h3:QBL all i ids [mem.base+d] log=true) (hK:K ((i,ids,[mem.base+d])::log) ⟨putE (some d) (.sl (mem.base+d) 0 n z) env,mem.upd [(mem.base+d,.cells E cs true)]⟩):QO P γ all i log g xs0 (QJ f xs) (some d) ⟨env,mem⟩ K:=by
 rw [hs]
 refine .inl ⟨QET h1,.inr (.inr ⟨n,z,E,cs,hp,?_,h3,hK⟩)⟩
 simp only [QBO,Bool.or_eq_true]
 exact .inr h2
theorem QO.useOV {xs0:List AV} {all:Array Oper} {i:Nat} {log:Log} {g:FuncId} {f:Nat→Option AObj} {xs:List AV} {n z:Nat} {E:TypeId} {cs:List AV} {d:Nat} {env:List (Nat×AV)} {mem:Mem} {K:Log→St→Prop} (hp:POwn P γ g xs n z E cs) (h1:dstB mem (some d)=true)
  (h2:(mem.find (mem.base+d)).isNone=true) (h3:QBL all i [] [mem.base+d] log=true) (hK:K ((i,[],[mem.base+d])::log) ⟨putE (some d) (.sl (mem.base+d) 0 n z) env,mem.upd [(mem.base+d,.cells E cs true)]⟩):QO P γ all i log g xs0 (QJ f xs) (some d) ⟨env,mem⟩ K:=
 QO.useO hp (QAE hp.1) h1 h2 h3 hK
theorem QOc:∀{cs:List AV} {x:AV},sclL cs=true→x∈cs→scl x=true
 | y::cs,x,h,hm=>by
  simp only [sclL,Bool.and_eq_true] at h
  rcases List.mem_cons.1 hm with rfl | hm
  ·exact h.1
  ·exact QOc h.2 hm
theorem POwn.toNew {f:FuncId} {xs:List AV} {n z:Nat} {E:TypeId} {cs:List AV} (hp:POwn P γ f xs n z E cs) (hl:cs.length=n*z):PNew P γ f xs (.seq n z cs):=by
 obtain⟨h1,h2,h3,h4⟩:=hp
 refine⟨h1,by simpa [idf] using sclL_idf _ h2,h3,fun S w vs hold hG hxs=>?_⟩
 refine (h4 S w vs hold hG hxs).mono fun e w' he=>?_
 obtain⟨v,p,rfl,hE,hob,hv,hnew⟩:=he
 refine⟨v,rfl,⟨hE.os,hE.tape,hE.output,hE.size,fun _ _ h=>.inl h,fun b off hb h=>by rcases h with h | h;exact h;omega,fun b off h=>by rcases h with h | h;exact hE.old b off h;exact h.2,hE.heap,hE.uf⟩,?_⟩
 simp only [Rep,μ1,if_true] at hv ⊢
 simp only [RepO,μ1,if_true] at hob
 obtain⟨base,cap,rfl,hn,hc⟩:=hv
 refine⟨base,cap,rfl,hn,hl,?_⟩
 rcases hc with hc | ⟨b,bo,hp,rfl,hle⟩
 ·left;omega
 ·rcases hob with ⟨e,_⟩ | ⟨b',bo',ys,c,fz,e1,e2,e3,e4,e5,e6,e7,_⟩
  ·rw [hp] at e;cases e
  ·rw [hp] at e1;cases e1
   right
   refine⟨b,bo,by simp,RepC.mk fun i x hi=>?_⟩
   have hlen:=e4.length
   obtain⟨u,hu1,hu2⟩:=e4.get hi
   have hi':=(List.getElem?_eq_some_iff.1 hu1).1
   refine⟨⟨(hnew b bo hp).1,(hnew b bo hp).2,fun c' E' fz' hc'=>by rw [e2] at hc';cases hc';exact e3⟩,u,?_,e5 u (List.mem_of_getElem? hu1),?_⟩
   ·simp only [World.cell?,e2]
    rw [←e7 i hi'] at hu1
    simpa using hu1
   ·exact Rep.scl _ _ (QOc h2 (List.mem_of_getElem? hi)) hu2
variable {P : Program} {t : TypeId} {x y : Operand}
def shrW (a:UInt32) (s:Nat):UInt32:=UInt32.ofNat (a.toNat / 2^s)
def shlW (a:UInt32) (s:Nat):UInt32:=UInt32.ofNat (a.toNat*2^s)
theorem QDX {k':IntKind} {a:UInt32} {s:Nat}:pbin P .shr t x y (.int .u32 (a.toNat:Nat)) (.int k' (s:Nat))=some (.int .u32 ((shrW a s).toNat:Nat)):=by
 rw [QCF (by have:=a.toNat_lt;simpa [IntKind.bits] using this)]
 have h1:a.toNat / 2^s<4294967296:=Nat.lt_of_le_of_lt (Nat.div_le_self _ _) a.toNat_lt
 simp only [shrW,UInt32.toNat_ofNat',Nat.reducePow]
 rw [Nat.mod_eq_of_lt h1]
theorem QMV {k':IntKind} {a:UInt32} {s:Nat}:pbin P .shr t x y (.int .u32 (a.toNat:Nat)) (.int k' (no_index (OfNat.ofNat s)))=some (.int .u32 ((shrW a s).toNat:Nat)):=QDX
theorem QP8 {k':IntKind} {a b:Int} (h0:0≤b) (h:b≤32):pbin P .shl t x y (.int .u32 a) (.int k' b)=some (.int .u32 ((shlW (U32 a) b.toNat).toNat:Nat)):=by
 have e:pbin P .shl t x y (.int .u32 a) (.int k' b)=prun P (Op.shift .shl .u32 a k' b):=rfl
 rw [e]
 unfold Op.shift
 rw [if_neg (by omega)]
 show some (Value.int .u32 (IntKind.u32.wrap (a*2^(min b.toNat 32))))=_
 rw [QDu,Nat.min_eq_left (by omega)]
 congr 4
 apply UInt32.toNat_inj.1
 simp only [shlW,U32,UInt32.toNat_ofNat',Nat.reducePow]
 have h2:(2:Int)^b.toNat=((2^b.toNat:Nat):Int):=by simp
 rw [h2]
 generalize 2^b.toNat=q
 have h3:(a*(q:Int)) % 4294967296=((a % 4294967296)*(q:Int)) % 4294967296:=by
  have m1:=Int.mul_emod a q 4294967296
  have m2:=Int.mul_emod (a % 4294967296) q 4294967296
  have m3:a % 4294967296 % 4294967296=a % 4294967296:=Int.emod_emod_of_dvd a (Int.dvd_refl _)
  rw [m3] at m2
  rw [m1,m2]
 rw [h3]
 obtain⟨r,hr⟩:=Int.eq_ofNat_of_zero_le (Int.emod_nonneg a (by decide:(4294967296:Int)≠0))
 rw [hr]
 have hr2:r<4294967296:=by have:=Int.emod_lt_of_pos a (by decide:(0:Int)<4294967296);omega
 rw [←Int.natCast_mul]
 have h4:((↑(r*q):Int) % 4294967296).toNat=(r*q) % 4294967296:=by omega
 rw [h4,Int.toNat_natCast,Nat.mod_mod,Nat.mod_eq_of_lt hr2]
def rotF (x:UInt32) (n:Nat):UInt32:=shrW x n|||shlW x (32 - n)
def Qb (a:UInt32):List AV:=[.v (.int .u32 a.toNat)]
theorem QJ8 (b:UInt32):(Qb b).length=1:=(rfl)
theorem QIM (b:UInt32):idfL (Qb b)=true:=(rfl)
theorem QDs {l:List UInt32}:idfL (flat Qb l)=true:=QZ QIM l
theorem QI {l:List UInt32}:(flat Qb l).length=l.length:=by rw [QW QJ8,Nat.mul_one]
theorem QB7 {ws:List UInt32} {i:Nat} (h:i<ws.length):(flat Qb ws)[i]?=some (.v (.int .u32 ((ws.getD i 0).toNat:Nat))):=by
 induction ws generalizing i with
 | nil=>simp at h
 | cons a ws ih=>cases i with
  | zero=>simp [flat,Qb]
  | succ i=>simp only [flat,List.flatMap_cons,Qb,List.cons_append,List.nil_append,List.getElem?_cons_succ] at*; rw [ih (by simpa using h)];rfl
theorem QVC {ws:List UInt32} {i:Nat} {a:UInt32}:(flat Qb ws).set i (.v (.int .u32 (a.toNat:Nat)))=flat Qb (ws.set i a):=by
 induction ws generalizing i with
 | nil=>simp [flat]
 | cons b ws ih=>cases i with
  | zero=>simp [flat,Qb]
  | succ i=>simp only [flat,List.flatMap_cons,Qb,List.cons_append,List.nil_append,List.set_cons_succ] at*; rw [ih]
theorem QBm {ws:List UInt8} {i:Nat} (h:i<ws.length):(flat QC ws)[i]?=some (.v (.int .u8 ((ws.getD i 0).toNat:Nat))):=by
 induction ws generalizing i with
 | nil=>simp at h
 | cons a ws ih=>cases i with
  | zero=>simp [flat,QC]
  | succ i=>simp only [flat,List.flatMap_cons,QC,List.cons_append,List.nil_append,List.getElem?_cons_succ] at*; rw [ih (by simpa using h)];rfl
theorem QL5 {ws:List UInt8} {i:Nat} {a:UInt8}:(flat QC ws).set i (.v (.int .u8 (a.toNat:Nat)))=flat QC (ws.set i a):=by
 induction ws generalizing i with
 | nil=>simp [flat]
 | cons b ws ih=>cases i with
  | zero=>simp [flat,QC]
  | succ i=>simp only [flat,List.flatMap_cons,QC,List.cons_append,List.nil_append,List.set_cons_succ] at*; rw [ih]
def kR:List UInt32:=[0x428a2f98,0x71374491,0xb5c0fbcf,0xe9b5dba5,0x3956c25b,0x59f111f1,0x923f82a4,0xab1c5ed5,0xd807aa98,0x12835b01,0x243185be,0x550c7dc3,0x72be5d74,0x80deb1fe,0x9bdc06a7,0xc19bf174,0xe49b69c1,0xefbe4786,0x0fc19dc6,0x240ca1cc,0x2de92c6f,0x4a7484aa,0x5cb0a9dc,0x76f988da,0x983e5152,0xa831c66d,0xb00327c8,0xbf597fc7,0xc6e00bf3,0xd5a79147,0x06ca6351,0x14292967,0x27b70a85,0x2e1b2138,0x4d2c6dfc,0x53380d13,0x650a7354,0x766a0abb,0x81c2c92e,0x92722c85,0xa2bfe8a1,0xa81a664b,0xc24b8b70,0xc76c51a3,0xd192e819,0xd6990624,0xf40e3585,0x106aa070,0x19a4c116,0x1e376c08,0x2748774c,0x34b0bcb5,0x391c0cb3,0x4ed8aa4a,0x5b9cca4f,0x682e6ff3,0x748f82ee,0x78a5636f,0x84c87814,0x8cc70208,0x90befffa,0xa4506ceb,0xbef9a3f7,0xc67178f2]
def kB:List UInt32:=[0x6a09e667,0xbb67ae85,0x3c6ef372,0xa54ff53a,0x510e527f,0x9b05688c,0x1f83d9ab,0x5be0cd19]
theorem QHM {l:List UInt32}:(l.map fun a=>Value.int .u32 (a.toNat:Nat)).map AV.v=flat Qb l:=by
 induction l with
 | nil=>rfl
 | cons a l ih=>simp only [List.map_cons,ih];rfl
theorem QPi {ws:List UInt32} {i:Nat} (h:i<ws.length):(flat Qb ws).drop i=.v (.int .u32 ((ws.getD i 0).toNat:Nat))::flat Qb (ws.drop (i+1)):=by
 induction ws generalizing i with
 | nil=>simp at h
 | cons a ws ih=>cases i with
  | zero=>simp [flat,Qb]
  | succ i=>simp only [flat,List.flatMap_cons,Qb,List.cons_append,List.nil_append,List.drop_succ_cons] at*; rw [ih (by simpa using h)];rfl
def gK:GTab:=[(0,.tab (kB.map fun a=>.int .u32 (a.toNat:Nat))),(1,.tab (kR.map fun a=>.int .u32 (a.toNat:Nat)))]
theorem QT6 {a:Int}:unA P .xor (some (.int .u32 a))=some (.v (.int .u32 ((~~~ U32 a).toNat:Nat)),[]):=by
 show some (AV.v (Value.int .u32 (IntKind.u32.wrap ((BitVec.ofInt 32 IntKind.u32.max ^^^ BitVec.ofInt 32 a).toNat:Nat))),([]:Upd))=_
 rw [QDu,QOK,bv32,bv32]
 have:U32 IntKind.u32.max=-1:=by decide
 rw [this]
 congr 4
theorem Qb8 {env:List (Nat×AV)}:rho gK env (.global 1)=.rop (flat Qb kR):=by
 rw [←QHM];rfl
theorem Qai {env:List (Nat×AV)}:rho gK env (.global 0)=.rop (flat Qb kB):=by
 rw [←QHM];rfl
attribute [push_cast] Qb8 Qai QT6 QHM Qcr QB7 QVC QL5 QDu QI3 QR1 QQC QQ1 QDX QMV QP8 QDs QIM QI
variable {P : Program} {γ : GTab} {m : Mem}
section
variable {μ : Nat → Option (Nat × Nat)} {w : World}
mutual
theorem Rep.unren {S:Nat→Nat→Prop} (ρ:Nat→Nat):∀(x:AV) (v:Value),Rep S (fun o=>μ (ρ o)) w x v→Rep S μ w (renA ρ x) v
 | .v x,v,r=>by simpa [Rep,renA] using r
 | .agg xs,v,r=>by
  simp only [Rep,renA] at*
  obtain⟨ys,e,r,o⟩:=r
  exact⟨ys,e,RepL.unren ρ xs ys r,o⟩
 | .tup xs,v,r=>by
  simp only [Rep,renA] at*
  obtain⟨ys,e,r⟩:=r
  exact⟨ys,e,RepL.unren ρ xs ys r⟩
 | .seq n sz xs,v,r=>by
  simp only [Rep,renA] at*
  obtain⟨base,cap,e,hn,hl,r⟩:=r
  refine⟨base,cap,e,hn,(QAP ρ xs).trans hl,?_⟩
  rcases r with r | ⟨b,off,e,r⟩
  ·exact .inl r
  ·exact .inr ⟨b,off,e,RepC.unren ρ xs b off r⟩
 | .full n sz xs,v,r=>by
  simp only [Rep,renA] at*
  obtain⟨base,e,hl,r⟩:=r
  refine⟨base,e,(QAP ρ xs).trans hl,?_⟩
  rcases r with r | ⟨b,off,e,r⟩
  ·exact .inl r
  ·exact .inr ⟨b,off,e,RepC.unren ρ xs b off r⟩
 | .slc o off n sz,v,r=>by simpa only [Rep,renA] using r
 | .rop xs,v,r=>by
  simp only [Rep,renA] at*
  obtain⟨b,off,e,r⟩:=r
  exact⟨b,off,e,RepC.unren ρ xs b off r⟩
 | .ptr o off,v,r=>by simpa only [Rep,renA] using r
 | .sl o off n sz,v,r=>by simpa only [Rep,renA] using r
 | .mp o,v,r=>by simpa only [Rep,renA] using r
 | .it o,v,r=>by simpa only [Rep,renA] using r
 | .mv kt ks xs,v,r=>by
  simp only [Rep,renA] at*
  rcases r with ⟨r1,r2,r3⟩ | ⟨b,es,clock,e,hs,hb,hm,hk,r⟩
  ·exact .inl ⟨r1,r2,by subst r3;rfl⟩
  ·exact .inr ⟨b,es,clock,e,hs,hb,hm,hk,RepL.unren ρ xs _ r⟩
 | .clo fn f c,v,r=>by
  simp only [Rep,renA] at*
  obtain⟨fs,cs,e,r1,r2⟩:=r
  exact⟨fs,cs,e,RepL.unren ρ f fs r1,RepL.unren ρ c cs r2⟩
 | .ifc t x,v,r=>by
  simp only [Rep,renA] at*
  obtain⟨u,e,r⟩:=r
  exact⟨u,e,Rep.unren ρ x u r⟩
 | .on T u x,v,r=>by
  simp only [Rep,renA] at*
  exact Rep.unren ρ x v r
 | .bs o n,v,r=>by simpa only [Rep,renA] using r
 | .bp o,v,r=>by simpa only [Rep,renA] using r
 | .yld o,v,r=>by simpa only [Rep,renA] using r
 | .top,v,_=>by simp [Rep,renA]
theorem RepL.unren {S:Nat→Nat→Prop} (ρ:Nat→Nat):∀(xs:List AV) (ys:List Value),RepL S (fun o=>μ (ρ o)) w xs ys→RepL S μ w (renL ρ xs) ys
 | [],ys,r=>by simpa [RepL,renL] using r
 | x::xs,ys,r=>by
  simp only [RepL,renL] at*
  obtain⟨y,zs,e,r1,r2⟩:=r
  exact⟨y,zs,e,Rep.unren ρ x y r1,RepL.unren ρ xs zs r2⟩
theorem RepC.unren {S:Nat→Nat→Prop} (ρ:Nat→Nat):∀(xs:List AV) (b off:Nat),RepC S (fun o=>μ (ρ o)) w xs b off→RepC S μ w (renL ρ xs) b off
 | [],_,_,_=>by simp [RepC,renL]
 | x::xs,b,off,r=>by
  simp only [RepC,renL] at*
  obtain⟨⟨hs,u,hu,ho,r1⟩,r2⟩:=r
  exact⟨⟨hs,u,hu,ho,Rep.unren ρ x u r1⟩,RepC.unren ρ xs b (off+1) r2⟩
end
theorem RepO.unren {S:Nat→Nat→Prop} (ρ:Nat→Nat) {o:Nat} (ob:AObj) (hb:ob≠.bag) (h:RepO S (fun o=>μ (ρ o)) w o ob):RepO S μ w (ρ o) (renO ρ ob):=by
 cases ob with
 | cells E xs ap=>
  simp only [RepO,renO] at*
  rcases h with ⟨h1,h2⟩ | ⟨b,bo,ys,c,fz,e1,e2,e3,e4,e5⟩
  ·exact .inl ⟨h1,by subst h2;rfl⟩
  ·exact .inr ⟨b,bo,ys,c,fz,e1,e2,e3,RepL.unren ρ _ _ e4,e5⟩
 | imm xs=>
  simp only [RepO,renO] at*
  rcases h with h | ⟨b,bo,e1,e2⟩
  ·exact .inl (by subst h;rfl)
  ·exact .inr ⟨b,bo,e1,RepC.unren ρ _ _ _ e2⟩
 | map kt ks xs=>
  simp only [RepO,renO] at*
  obtain⟨b,bo,es,clock,e1,e2,e3,e4,e5,e6⟩:=h
  exact⟨b,bo,es,clock,e1,e2,e3,e4,RepL.unren ρ _ _ e5,e6⟩
 | miter last ks xs=>
  simp only [RepO,renO] at*
  obtain⟨b,bo,mb,since,seen,stepped,e1,e2,e3,e4⟩:=h
  refine⟨b,bo,mb,since,seen,stepped,e1,e2,e3,?_⟩
  rcases e4 with ⟨g1,g2,g3,g4⟩ | ⟨r,es,kt,g1,g2,g3,g4,g5,g6,g7,g8⟩
  ·exact .inl ⟨g1,g2,by subst g3;rfl,by subst g4;rfl⟩
  ·refine .inr ⟨r,es,kt,g1,g2,g3,g4,g5,g6,RepL.unren ρ _ _ g7,fun p hp=>?_⟩
   simp only [Option.map_eq_some_iff] at hp
   obtain⟨q,hq,rfl⟩:=hp
   obtain⟨e,he1,he2,he3,he4⟩:=g8 q hq
   exact⟨e,he1,he2,he3,Rep.unren ρ _ _ he4⟩
 | siter s pos=>simpa only [RepO,renO] using h
 | loop N ts xs ps assign body st pe=>
  simp only [RepO,renO] at*
  obtain⟨b,bo,D,fn,tmps,e1,e2,e3,e4,e5⟩:=h
  exact⟨b,bo,D,fn,tmps,e1,e2,e3,e4,RepL.unren ρ _ _ e5⟩
 | past T=>simpa only [RepO,renO] using h
 | bag=>exact absurd rfl hb
 | dead=>simp [RepO,renO]
end
theorem RepO.keepF {S S':Nat→Nat→Prop} {μ μ':Nat→Option (Nat×Nat)} {w w':World} (hk:Keeps S μ w S' μ' w') {o:Nat} {ob:AObj} (hb:ob≠.bag) (h:RepO S μ w o ob) (hn:μ o=none→μ' o=none)
  (hblk:ob.own=true→∀b bo,μ o=some (b,bo)→w'.heap[b]?=w.heap[b]?∧((∀off,¬S b off)→∀off,¬S' b off)):RepO S' μ' w' o ob:=by
 cases ob with
 | bag=>exact absurd rfl hb
 | cells E xs ap=>
  simp only [RepO] at h ⊢
  rcases h with ⟨h1,h2⟩ | ⟨b,bo,ys,c,fz,e1,e2,e3,e4,e5,e6,e7,e8⟩
  ·exact .inl ⟨hn h1,h2⟩
  ·exact .inr ⟨b,bo,ys,c,fz,(hk.ids o (Qs e1)).trans e1,(hblk rfl b bo e1).1.trans e2,e3,RepL.keep hk _ _ e4,e5,e6,e7,(hblk rfl b bo e1).2 e8⟩
 | imm xs=>
  simp only [RepO] at h ⊢
  exact h.imp_right fun ⟨b,bo,e1,e2⟩=>⟨b,bo,(hk.ids o (Qs e1)).trans e1,RepC.keep hk _ _ _ e2⟩
 | map kt ks xs=>
  simp only [RepO] at h ⊢
  obtain⟨b,bo,es,clock,e1,e2,e3,e4,e5,e6⟩:=h
  exact⟨b,bo,es,clock,(hk.ids o (Qs e1)).trans e1,(hblk rfl b bo e1).1.trans e2,e3,e4,RepL.keep hk _ _ e5,(hblk rfl b bo e1).2 e6⟩
 | miter last ks xs=>
  simp only [RepO] at h ⊢
  obtain⟨b,bo,mb,since,seen,stepped,e1,e2,e3,e4⟩:=h
  refine⟨b,bo,mb,since,seen,stepped,(hk.ids o (Qs e1)).trans e1,(hblk rfl b bo e1).2 e2,(hblk rfl b bo e1).1.trans e3,e4.imp_right ?_⟩
  rintro⟨r,es,kt,g1,g2,g3,g4,g5,g6,g7,g8⟩
  exact⟨r,es,kt,g1,hk.sub _ _ g2,hk.map _ _ _ _ g2 g3,g4,g5,g6,RepL.keep hk _ _ g7,fun p hp=>(g8 p hp).imp fun e he=>⟨he.1,he.2.1,he.2.2.1,Rep.keep hk _ _ he.2.2.2⟩⟩
 | siter s pos=>
  simp only [RepO] at h ⊢
  obtain⟨b,bo,e1,e2,e3⟩:=h
  exact⟨b,bo,(hk.ids o (Qs e1)).trans e1,(hblk rfl b bo e1).2 e2,(hblk rfl b bo e1).1.trans e3⟩
 | loop N ts xs ps assign body st pe=>
  simp only [RepO] at h ⊢
  obtain⟨b,bo,D,fn,tmps,e1,e2,e3,e4,e5⟩:=h
  exact⟨b,bo,D,fn,tmps,(hk.ids o (Qs e1)).trans e1,(hblk rfl b bo e1).2 e2,(hblk rfl b bo e1).1.trans e3,e4,RepL.keep hk _ _ e5⟩
 | past T=>simp only [RepO] at h ⊢;exact fun b ht=>Nat.lt_of_lt_of_le (h b ht) hk.sz
 | dead=>simp [RepO]
def QM (P:Program) (γ:GTab) (f:FuncId) (xs:List AV) (objs:List (Nat×AObj)) (k:Nat) (r:AV) (objs':List (Nat×AObj)) (k':Nat):Prop:=
 QBa P f∧∀(S:Nat→Nat→Prop) (μ:Nat→Option (Nat×Nat)) (w:World) (vs:List Value),RM S μ w ⟨objs,k,k,0⟩→GOK γ S w→RepL S μ w xs vs→
  Calls P f vs.toArray w fun e w'=>∃v S' μ',e=.returned v∧RM S' μ' w' ⟨objs',k',k',0⟩∧Ext k ⟨objs,k,k,0⟩ S μ w ⟨objs',k',k',0⟩ S' μ' w'∧Rep S' μ' w' r v
def endM (P:Program) (rs:List ResultVar) (k:Nat) (r:AV) (objs':List (Nat×AObj)) (k':Nat) (_:Exit) (σ:St):Prop:=
 ∃y,resA P rs σ.env σ.mem=some y∧Ent k ⟨[(0,unf y)],σ.mem⟩ ⟨[(0,r)],⟨objs',k',k',0⟩⟩
theorem QM.enter {f:FuncId} {fn:Func} {c:Code} {xs:List AV} {objs objs':List (Nat×AObj)} {k k':Nat} {r:AV} (hf:P.funcs[f]?=some fn) (hb:fn.body=some c) (hn:(fn.name== "runtime.NumGoroutine")=false) (hm:P.follows .mixedOrders=true) (hd:dOK c=true) (hkk:k≤k')
  (h:ev P γ k fn.ntmps [.code c,.fin (endM P fn.results.toList k r objs' k')] ⟨(xs.zipIdx.map fun p=>(p.2,p.1)),⟨objs,k,k,0⟩⟩):QM P γ f xs objs k r objs' k':=by
 refine⟨⟨fn,hf,hn,by rw [hb];rfl⟩,fun S μ w vs hr hG hxs=>?_⟩
 have hRX:RX γ fn.ntmps k ⟨objs,k,k,0⟩ S μ w ⟨(xs.zipIdx.map fun p=>(p.2,p.1)),⟨objs,k,k,0⟩⟩ { tmps:=vs.toArray++Array.replicate (fn.ntmps - vs.toArray.size) undef,defers:=[] } w:=
  ⟨S,μ,⟨hr,QCL hxs,trivial⟩,hG,Ext.refl (Nat.le_refl _),AOK.start (by simp;omega),Nat.le_refl _,Nat.zero_le _⟩
 refine QCN hm hf hb hd hRX h fun e σ a w' hE hR=>?_
 obtain⟨S',μ',hA,hG',hX,_,_,_⟩:=hR
 obtain⟨y,h1,hent⟩:=hE
 obtain⟨v,h3,h4⟩:=QDP hA.rm hA.env h1
 obtain⟨S2,μ2,k1,k2,k3,k4,k5,k6,k7,k8,k9⟩:=hent S' μ' w' ⟨#[v],[]⟩ hA.rm (fun t x ht=>by
  simp only [lk] at ht
  split at ht
  ·rename_i e;subst e;simp only [Option.some.injEq] at ht;subst ht
   exact QA6 h4
  ·cases ht)
 refine⟨v,h3,v,S2,μ2,rfl,k1,⟨hX.os,hX.tape,hX.output,hX.size,fun o ho=>(k5 o ho).trans (hX.ids o ho),fun o ho hf=>hX.objs o ho (k6 o ho hf),hkk,fun b off hs=>k3 b off (hX.sub b off hs),fun b off hb hs=>?_,hX.cell,hX.map,fun b hb ho=>⟨(hX.blk b hb ho).1,fun hx=>(hX.blk b hb ho).2 (k9 b hx)⟩,hX.bsz,hX.uf⟩,k2 0 r rfl⟩
 rcases k4 b off hs with h | h
 ·exact hX.new b off hb h
 ·rcases Classical.em (Q6 ⟨objs,k,k,0⟩ μ b) with ho | ho
  ·exact .inr ho
  ·exact absurd h (hX.blk b hb ho).2
theorem QM.start {f:FuncId} {fn:Func} {c:Code} {rs:List ResultVar} {nt:Nat} {xs:List AV} {objs objs':List (Nat×AObj)} {k k':Nat} {r:AV} (hf:P.funcs[f]?=some fn) (hb:fn.body=some c) (hn:(fn.name== "runtime.NumGoroutine")=false) (hrs:fn.results=rs.toArray) (hnt:fn.ntmps=nt) (hm:P.follows .mixedOrders=true) (hd:dOK c=true) (hkk:k≤k')
  (h:ev P γ k nt [.code c,.fin (endM P rs k r objs' k')] ⟨(xs.zipIdx.map fun p=>(p.2,p.1)),⟨objs,k,k,0⟩⟩):QM P γ f xs objs k r objs' k':=by
 refine QM.enter hf hb hn hm hd hkk ?_
 rw [hrs,hnt]
 simpa using h
def QXC (m:Mem) (k:Nat) (r:AV) (objs':List (Nat×AObj)) (k':Nat) (q:Option AV):Prop:=∃y,q=some y∧Ent k ⟨[(0,unf y)],m⟩ ⟨[(0,r)],⟨objs',k',k',0⟩⟩
theorem QdP {rs:List ResultVar} {k k':Nat} {r:AV} {objs':List (Nat×AObj)} {e:Exit} {env:List (Nat×AV)} {mem:Mem}:endM P rs k r objs' k' e ⟨env,mem⟩=QXC mem k r objs' k' (resA P rs env mem):=(rfl)
theorem QH1 {k k':Nat} {r y:AV} {objs':List (Nat×AObj)}:QXC m k r objs' k' (some y)=Ent k ⟨[(0,unf y)],m⟩ ⟨[(0,r)],⟨objs',k',k',0⟩⟩:=by simp [QXC]
attribute [push_cast] QdP QH1
end Go.AW
