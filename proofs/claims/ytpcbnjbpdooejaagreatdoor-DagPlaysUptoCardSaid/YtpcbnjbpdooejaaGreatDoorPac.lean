/- A part of the proof: A19 A20 A21 A22 A23 A24 A25 A26 A27. -/
import Derived.Test.YtpcbnjbpdooejaaGreatDoorPab
import Derived.OrdersIn
import Derived.RangeFuncRecord
import Derived.TacticsIn
set_option linter.all false
namespace Go.AW
variable {P : Program} {γ : GTab} {all : Array Oper} {K : St → Prop}
structure Same (σ σ':St):Prop where
 env:∀t,lk σ.env t=lk σ'.env t
 objs:∀o,σ.mem.find o=σ'.mem.find o
 next:σ.mem.next=σ'.mem.next
 base:σ.mem.base=σ'.mem.base
 wid:σ.mem.wid=σ'.mem.wid
theorem Same.refl (σ:St):Same σ σ:=⟨fun _=>rfl,fun _=>rfl,rfl,rfl,rfl⟩
theorem Same.symm {σ σ':St} (h:Same σ σ'):Same σ' σ:=⟨fun t=>(h.env t).symm,fun o=>(h.objs o).symm,h.next.symm,h.base.symm,h.wid.symm⟩
theorem Same.trans {a b c:St} (h:Same a b) (k:Same b c):Same a c:=⟨fun t=>(h.env t).trans (k.env t),fun o=>(h.objs o).trans (k.objs o),h.next.trans k.next,h.base.trans k.base,h.wid.trans k.wid⟩
theorem RM.same {S μ} {w:World} {m m':Mem} (hr:RM S μ w m) (hf:∀o,m.find o=m'.find o) (hn:m.next=m'.next) (hb:m.base=m'.base) (hw:m.wid=m'.wid):RM S μ w m':=
 ⟨fun o ob h=>by rw [←hf] at h;rw [←hn];exact hr.obj o ob h,fun o o' ob ob' h h'=>by rw [←hf] at h h';exact hr.inj o o' ob ob' h h',hr.old,fun o h=>hr.fr o (by omega),fun o h1 h2 h3=>by rw [←hf];exact hr.win o (by omega) (by omega) h3,by have:=hr.le;omega,hr.bk⟩
theorem QIB {m m':Mem} {μ:Nat→Option (Nat×Nat)} {b:Nat} (hf:∀o,m.find o=m'.find o) (h:Q6 m μ b):Q6 m' μ b:=by
 rcases h with ⟨o,ob,bo,h1,h2,h3⟩ | ⟨o,b0,code,h1,h2,h3⟩
 ·exact .inl ⟨o,ob,bo,by rw [←hf];exact h1,h2,h3⟩
 ·exact .inr ⟨o,b0,code,by rw [←hf];exact h1,h2,h3⟩
theorem Q1 {n b0 wd:Nat} {μ:Nat→Option (Nat×Nat)} {b:Nat}:¬Q6 ⟨[],n,b0,wd⟩ μ b:=by
 rintro(⟨o,ob,bo,h1,h2,h3⟩ | ⟨o,b0,code,h1,h2,h3⟩)<;>simp [Mem.find,lk] at h1
theorem Ext.same {n0:Nat} {m S μ w m1 S1 μ1 w1} {m2:Mem} (h:Ext n0 m S μ w m1 S1 μ1 w1) (hf:∀o,m1.find o=m2.find o) (hn:m1.next=m2.next):Ext n0 m S μ w m2 S1 μ1 w1:=
 ⟨h.os,h.tape,h.output,h.size,h.ids,fun o ho hh=>h.objs o ho (by rw [hf];exact hh),by have:=h.next;omega,h.sub,h.new,h.cell,h.map,fun b hb hh=>⟨(h.blk b hb hh).1,fun hx=>(h.blk b hb hh).2 (QIB (fun o=>(hf o).symm) hx)⟩,h.bsz,h.uf⟩
section
variable {n0 N : Nat} {m0 : Mem} {S0 : Nat → Nat → Prop} {μs : Nat → Option (Nat × Nat)} {w0 : World}
theorem RX.same {σ σ':St} {a:Act} {w:World} (h:RX γ N n0 m0 S0 μs w0 σ a w) (hs:Same σ σ'):RX γ N n0 m0 S0 μs w0 σ' a w:=by
 obtain⟨S,μ,hA,hG,hE,hN,hb,hw⟩:=h
 have hN1:=hN.1
 exact⟨S,μ,⟨hA.rm.same hs.objs hs.next hs.base hs.wid,fun t x ht=>hA.env t x (by rw [hs.env];exact ht),hA.defers.of (fun _ _ _=>rfl) (fun b _ h hx=>h (QIB (fun o=>(hs.objs o).symm) hx)) (fun _ _ _ h=>.inl h)⟩,hG,hE.same hs.objs hs.next,hN,by rw [←hs.base];exact hb,by rw [←hs.wid];exact hw⟩
def Q3 (o:Oper) (x:AV) (u:Upd) (σ:St):St:=⟨putE o.dst x σ.env,σ.mem.upd u⟩
theorem QI0 (dst:Option Nat) (x:AV) (env:List (Nat×AV)) (t:Nat):lk (putE dst x env) t=if dst=some t then some x else lk env t:=by
 cases dst with
 | none=>simp [putE]
 | some d=>simp only [putE,lk,Option.some.injEq]
theorem Same.step {σ σ':St} (h:Same σ σ') (o:Oper) (x:AV) (u:Upd):Same (Q3 o x u σ) (Q3 o x u σ'):=
 ⟨fun t=>by simp only [Q3,QI0,h.env],fun q=>by simp only [Q3,QAQ,h.objs],h.next,h.base,h.wid⟩
def gd (all:Array Oper) (o:Oper) (σ:St):Option Bool:=
 match o.guard with
 | none=>some true
 | some (j,want)=>match (all[j]?).bind (·.dst) with
  | some d=>match lk σ.env d with
   | some (.v (.bool b))=>some (b==want)
   | some (.v (.tuple ⟨[]⟩))=>some false
   | _=>none
  | none=>none
def OpR (P:Program) (γ:GTab) (o:Oper) (σ:St) (x:AV) (u:Upd) (rd:List Nat):Prop:=
 match o.op with
 | .call { callee:=.value f,args,.. }=>(∃g a c xs,QAt (rho γ σ.env f)=some (g,a,c)∧QJ σ.mem.find ((a++args.toList.map (rho γ σ.env)++c).map unf)=some (xs,rd)∧((Fit P γ g xs rd x∧u=[])∨(QE P γ g xs x∧u=QBj σ.mem.find rd)∨(∃n z E cs,POwn P γ g xs n z E cs∧x=.sl (QV σ.mem o.dst) 0 n z∧u=ownU σ o.dst E cs∧QBO σ.mem o.dst u=true)))∨(∃g a c,QAt (rho γ σ.env f)=some (g,a,c)∧DRun P γ g ((a++args.toList.map (rho γ σ.env)++c).map unf) rd σ.mem.find σ.mem.next (frO σ.mem o.dst) x u∧QBO σ.mem o.dst u=true)
 | _=>QBR P (rho γ σ.env) σ.mem.find (QV σ.mem o.dst) o.op=some (x,u)∧QBO σ.mem o.dst u=true∧rd=fpOf γ σ.env o.op
def Yld (P:Program) (γ:GTab) (all:Array Oper) (o:Oper) (σ:St) (x:AV) (u:Upd) (rd:List Nat):Prop:=
 (gd all o σ=some true∧QAZ σ.mem o.dst∧OpR P γ o σ x u rd)∨(gd all o σ=some false∧x=.v undef∧u=[]∧rd=[])
theorem QaD {env env':List (Nat×AV)} {x:Operand} (h:∀t,x=.tmp t→lk env t=lk env' t):rho γ env x=rho γ env' x:=by
 cases x with
 | tmp t=>simp only [rho,h t rfl]
 | _=>rfl
theorem QZC {o:Oper} {t:Nat} (h:Operand.tmp t∈o.op.operands):t∈o.looksAt all:=by
 unfold Oper.looksAt
 exact List.mem_append_left _ (List.mem_filterMap.2 ⟨.tmp t,by simpa using h,rfl⟩)
theorem QMu {o:Oper} {j d:Nat} {want:Bool} (h:o.guard=some (j,want)) (hd:(all[j]?).bind (·.dst)=some d):d∈o.looksAt all:=by
 unfold Oper.looksAt
 refine List.mem_append_right _ ?_
 rw [h]
 simp only [hd,Option.toList_some,List.mem_singleton]
theorem QKk {f g:Nat→Option AObj} {ids:List Nat} (h:∀q∈ids,f q=g q):QBj f ids=QBj g ids:=by
 unfold QBj
 rw [List.filter_congr fun o ho=>by rw [h o ho]]
theorem lk_wr {u:Upd} {q:Nat} {ob:AObj} (h:lk u q=some ob):q∈wrOf u:=by
 induction u with
 | nil=>simp [lk] at h
 | cons p u ih=>
  obtain⟨n,y⟩:=p
  simp only [lk] at h
  simp only [wrOf,List.map_cons,List.mem_cons]
  split at h
  ·rename_i e;exact .inl e.symm
  ·exact .inr (ih h)
theorem QDj {m m':Mem} {dst:Option Nat} {u:Upd} (h:QBO m dst u=true) (hb:m.base=m'.base) (hwr:∀q∈wrOf u,m.find q=m'.find q):QBO m' dst u=true:=by
 cases dst with
 | none=>simp only [QBO,←hb] at h ⊢;exact h
 | some d=>
  simp only [QBO,←hb,Bool.or_eq_true] at h ⊢
  rcases h with h | h
  ·exact .inl h
  ·cases hl:lk u (m.base+d) with
   | none=>exact .inl rfl
   | some ob=>
    right
    rw [←hwr _ (lk_wr hl)]
    exact h
theorem Yld.move {o:Oper} {σ σ':St} {x:AV} {u:Upd} {rd:List Nat} (h:Yld P γ all o σ x u rd) (henv:∀t,t∈o.looksAt all→lk σ.env t=lk σ'.env t) (hrd:∀q∈rd,σ.mem.find q=σ'.mem.find q) (hwr:∀q∈wrOf u,σ.mem.find q=σ'.mem.find q)
  (hb:σ.mem.base=σ'.mem.base) (hw:σ.mem.wid=σ'.mem.wid) (hnn:σ.mem.next=σ'.mem.next):Yld P γ all o σ' x u rd:=by
 have hgd:gd all o σ'=gd all o σ:=by
  unfold gd
  cases hg:o.guard with
  | none=>rfl
  | some p=>
   obtain⟨j,want⟩:=p
   simp only
   cases hd:(all[j]?).bind (·.dst) with
   | none=>rfl
   | some d=>simp only;rw [henv d (QMu hg hd)]
 have hrho:∀y∈o.op.operands,rho γ σ.env y=rho γ σ'.env y:=fun y hy=>QaD fun t e=>by subst e;exact henv t (QZC hy)
 rcases h with ⟨h1,h2,h3⟩ | ⟨h1,h2⟩
 ·refine .inl ⟨by rw [hgd];exact h1,?_,?_⟩
  ·cases hd:o.dst with
   | none=>trivial
   | some d=>rw [hd] at h2;simp only [QAZ] at h2 ⊢;omega
  ·unfold OpR at h3 ⊢
   split at h3
   ·rename_i f args ts hop
    have hf:rho γ σ.env f=rho γ σ'.env f:=hrho f (by rw [hop];simp [Op.operands,Call.operands])
    have ha:args.toList.map (rho γ σ.env)=args.toList.map (rho γ σ'.env):=List.map_congr_left fun y hy=>hrho y (by rw [hop];simp [Op.operands,Call.operands];exact .inr (by simpa using hy))
    rcases h3 with ⟨g,a,c,xs,e1,e2,e3⟩ | ⟨g,a,c,e1,e2,e3⟩
    case inr=>exact .inr ⟨g,a,c,by rw [←hf];exact e1,by rw [←ha,←hnn,show frO σ'.mem o.dst=frO σ.mem o.dst from by simp only [frO,hb]];exact⟨e2.1,fun m S μ w vs hq hn=>e2.2 m S μ w vs (fun q hm=>(hq q hm).trans (hrd q hm).symm) hn⟩,QDj e3 hb hwr⟩
    exact .inl ⟨g,a,c,xs,by rw [←hf];exact e1,by rw [←ha];exact QBg e2 hrd,e3.imp_right fun e=>e.imp (fun e=>⟨e.1,e.2.trans (QKk hrd)⟩) fun ⟨n,z,E,cs,q1,q2,q3,q4⟩=>⟨n,z,E,cs,q1,by rw [q2];simp only [QV,hb],by rw [q3];simp only [ownU,QV,hb],QDj q4 hb hwr⟩⟩
   ·rename_i hno
    obtain⟨e1,e2,e3⟩:=h3
    have hfr:QV σ.mem o.dst=QV σ'.mem o.dst:=by simp only [QV,hb]
    refine⟨?_,?_,?_⟩
    ·rw [←hfr,←e1]
     exact (QLu hrho (fun y hy q hq=>hrd q (by rw [e3];exact List.mem_flatMap.2 ⟨y,by simpa using hy,hq⟩))).symm
    ·cases hd:o.dst with
     | none=>rw [hd] at e2;simp only [QBO,←hb] at e2 ⊢;exact e2
     | some d=>
      rw [hd] at e2
      simp only [QBO,←hb,Bool.or_eq_true] at e2 ⊢
      rcases e2 with e2 | e2
      ·exact .inl e2
      ·cases hl:lk u (σ.mem.base+d) with
       | none=>exact .inl rfl
       | some ob=>
        right
        rw [←hwr _ (lk_mem hl)]
        exact e2
    ·rw [e3]
     unfold fpOf
     rw [List.flatMap_def,List.flatMap_def]
     congr 1
     exact List.map_congr_left fun y hy=>by rw [hrho y (by simpa using hy)]
 ·exact .inr ⟨by rw [hgd];exact h1,h2⟩
where
 lk_mem {u:Upd} {q:Nat} {ob:AObj} (h:lk u q=some ob):q∈wrOf u:=by
  induction u with
  | nil=>simp [lk] at h
  | cons p u ih=>
   obtain⟨n,y⟩:=p
   simp only [lk] at h
   simp only [wrOf,List.map_cons,List.mem_cons]
   split at h
   ·rename_i e;exact .inl e.symm
   ·exact .inr (ih h)
theorem Yld.same {o:Oper} {σ σ':St} {x:AV} {u:Upd} {rd:List Nat} (h:Yld P γ all o σ x u rd) (hs:Same σ σ'):Yld P γ all o σ' x u rd:=
 h.move (fun t _=>hs.env t) (fun q _=>hs.objs q) (fun q _=>hs.objs q) hs.base hs.wid hs.next
theorem QDg {u:Upd} {q:Nat} (h:q∉wrOf u):lk u q=none:=by
 induction u with
 | nil=>rfl
 | cons p u ih=>
  obtain⟨n,y⟩:=p
  simp only [wrOf,List.map_cons,List.mem_cons,not_or] at h
  simp only [lk]
  rw [if_neg (Ne.symm h.1)]
  exact ih h.2
theorem QB1 {a b:List Nat} (h:meet a b=false):∀q∈a,q∉b:=by
 intro q hq hb
 unfold meet at h
 have:(a.any fun o=>b.contains o)=true:=List.any_eq_true.2 ⟨q,hq,by simpa using hb⟩
 rw [this] at h;cases h
theorem swap {oi oj:Oper} {σ:St} {x x':AV} {u u':Upd} {rd rd':List Nat} (hi:Yld P γ all oi σ x u rd) (hj:Yld P γ all oj (Q3 oi x u σ) x' u' rd') (hap:oi.apart all oj=true)
  (h1:meet (wrOf u') rd=false) (h2:meet (wrOf u') (wrOf u)=false) (h3:meet rd' (wrOf u)=false):
  Yld P γ all oj σ x' u' rd'∧Yld P γ all oi (Q3 oj x' u' σ) x u rd∧Same (Q3 oj x' u' (Q3 oi x u σ)) (Q3 oi x u (Q3 oj x' u' σ)):=by
 obtain⟨a1,a2,a3⟩:=Oper.apart_spec hap
 have f1:∀q,q∉wrOf u→(Q3 oi x u σ).mem.find q=σ.mem.find q:=fun q hq=>by
  simp only [Q3,QAQ,QDg hq]
 have f2:∀q,q∉wrOf u'→(Q3 oj x' u' σ).mem.find q=σ.mem.find q:=fun q hq=>by
  simp only [Q3,QAQ,QDg hq]
 refine⟨hj.move (fun t ht=>?_) (fun q hq=>f1 q (QB1 h3 q hq)) (fun q hq=>f1 q (QB1 h2 q hq)) rfl rfl rfl,hi.move (fun t ht=>?_) (fun q hq=>(f2 q (fun hx=>QB1 h1 q hx hq)).symm) (fun q hq=>(f2 q (fun hx=>QB1 h2 q hx hq)).symm) rfl rfl rfl,fun t=>?_,fun q=>?_,rfl,rfl,rfl⟩
 ·simp only [Q3,QI0]
  rw [if_neg (fun e=>a1 t e ht)]
 ·simp only [Q3,QI0]
  rw [if_neg (fun e=>a3 t e ht)]
 ·simp only [Q3,QI0]
  by_cases e1:oi.dst=some t
  ·rw [if_neg (fun e=>a2 t e1 e),if_pos e1,if_pos e1]
  ·rw [if_neg e1]
   by_cases e2:oj.dst=some t
   ·simp [e1,e2]
   ·simp [e1,e2]
 ·simp only [Q3,QAQ]
  by_cases e1:q∈wrOf u'
  ·rw [QDg (QB1 h2 q e1)]
  ·rw [QDg e1]
def QEJ (l l':Log):Prop:=∀e∈l,e∈l'∨(e.2.1=[]∧e.2.2=[])
theorem QOp {i:Nat} {rd wr:List Nat} {l l':Log} (h:QEJ l l') (hl:QBL all i rd wr l'=true):QBL all i rd wr l=true:=by
 unfold QBL at*
 rw [List.all_eq_true] at*
 intro e he
 rcases h e he with h | ⟨h1,h2⟩
 ·exact hl e h
 ·have:∀a:List Nat,meet a []=false:=fun a=>by unfold meet;simp
  simp [h1,h2,this]
theorem QEJ.cons {l l':Log} (h:QEJ l l') (e:Nat×List Nat×List Nat):QEJ (e::l) (e::l'):=fun x hx=>by
 rcases List.mem_cons.1 hx with h1 | h1
 ·exact .inl (by simp [h1])
 ·rcases h x h1 with h2 | h2
  ·exact .inl (by simp [h2])
  ·exact .inr h2
theorem QEJ.refl (l:Log):QEJ l l:=fun _ h=>.inl h
theorem QEJ.swap (a b:Nat×List Nat×List Nat) (l:Log):QEJ (a::b::l) (b::a::l):=fun x hx=>by
 simp only [List.mem_cons] at hx ⊢
 rcases hx with h | h | h
 ·exact .inl (.inr (.inl h))
 ·exact .inl (.inl h)
 ·exact .inl (.inr (.inr h))
def Fin (K:St→Prop) (σ:St):Prop:=∃σ',Same ⟨σ.env,σ.mem.close⟩ σ'∧K σ'
def anyA (P:Program) (γ:GTab) (all:Array Oper) (K:St→Prop):Nat→Array Bool→Log→St→Prop
 | 0,listed,_,σ=>Region.ready .any all listed=[]∧Fin K σ
 | n+1,listed,log,σ=>(Region.ready .any all listed=[]→Fin K σ)∧∀i∈Region.ready .any all listed,∃o x u rd,all[i]?=some o∧Yld P γ all o σ x u rd∧QBL all i rd (wrOf u) log=true∧
   anyA P γ all K n (listed.setIfInBounds i true) ((i,rd,wrOf u)::log) (Q3 o x u σ)
theorem Fin.same {σ σ':St} (h:Fin K σ) (hs:Same σ σ'):Fin K σ':=by
 obtain⟨τ,h1,h2⟩:=h
 have h3:Same ⟨σ'.env,σ'.mem.close⟩ ⟨σ.env,σ.mem.close⟩:=by
  constructor
  ·exact fun t=>(hs.env t).symm
  ·exact fun o=>(hs.objs o).symm
  ·exact hs.next.symm
  ·exact hs.next.symm
  ·rfl
 exact⟨τ,h3.trans h1,h2⟩
theorem anyA.congr:∀{n:Nat} {listed:Array Bool} {log log':Log} {σ σ':St},anyA P γ all K n listed log σ→Same σ σ'→QEJ log' log→anyA P γ all K n listed log' σ'
 | 0,_,_,_,_,_,h,hs,_=>⟨h.1,h.2.same hs⟩
 | n+1,_,_,_,_,_,h,hs,hl=>⟨fun hr=>(h.1 hr).same hs,fun i hi=>by
   obtain⟨o,x,u,rd,h1,h2,h3,h4⟩:=h.2 i hi
   exact⟨o,x,u,rd,h1,h2.same hs,QOp hl h3,h4.congr (hs.step o x u) (hl.cons _)⟩⟩
def QG6 (all:Array Oper) (listed:Array Bool):Prop:=∀k o,all[k]?=some o→listed.getD k false=true→∀e∈o.after,Region.binds .any e=true→listed.getD e.on false=true
theorem QHo {listed:Array Bool} {i:Nat} (hc:QG6 all listed) (hi:listed.getD i false=false):∀(n:Nat) (j:Nat) (oj:Oper),all[j]?=some oj→(∀e∈oj.after,Region.binds .any e=true→listed.getD e.on false=true)→ordB all n i j=false
 | 0,_,_,_,_=>rfl
 | n+1,j,oj,hj,h=>by
  simp only [ordB,hj,Option.map_some,Option.getD_some]
  rw [←Bool.not_eq_true]
  intro hany
  rw [Array.any_toList] at hany
  obtain⟨e,he,hb⟩:=Array.any_eq_true'.1 hany
  simp only [Bool.and_eq_true,Bool.or_eq_true,beq_iff_eq] at hb
  have hl:=h e he hb.1
  rcases hb.2 with h1 | h1
  ·rw [h1,hi] at hl;cases hl
  ·cases hk:all[e.on]? with
   | none=>
    cases n with
    | zero=>simp [ordB] at h1
    | succ n=>simp [ordB,hk] at h1
   | some ok=>
    rw [QHo hc hi n e.on ok hk (hc e.on ok hk hl)] at h1;cases h1
theorem QG6.set {listed:Array Bool} {j:Nat} {oj:Oper} (hc:QG6 all listed) (hj:all[j]?=some oj) (h:∀e∈oj.after,Region.binds .any e=true→listed.getD e.on false=true):QG6 all (listed.setIfInBounds j true):=by
 intro k o hk hl e he hb
 by_cases hjk:j=k
 ·subst hjk;rw [hj] at hk;cases hk;exact getD_set_true (h e he hb)
 ·rw [getD_set_ne false hjk] at hl
  exact getD_set_true (hc k o hk hl e he hb)
theorem QbN {listed:Array Bool} {i:Nat} (h:listed.getD i true=false):listed.getD i false=false:=by
 rcases Nat.lt_or_ge i listed.size with h' | h'
 ·simp [h'] at h ⊢;exact h
 ·simp [Array.getElem?_eq_none h'] at h
theorem QPp {i:Nat} {oi:Oper} {x:AV} {u:Upd} {rd:List Nat} (hi:all[i]?=some oi):
  ∀(n:Nat) (listed:Array Bool) (log:Log) (σ:St),QG6 all listed→
   (∀j oj,all[j]?=some oj→j≠i→listed.getD j true=false→(∀e∈oj.after,Region.binds .any e=true→e.on≠i)→oi.apart all oj=true)→
   i∈Region.ready .any all listed→Yld P γ all oi σ x u rd→QBL all i rd (wrOf u) log=true→
   anyA P γ all K n (listed.setIfInBounds i true) ((i,rd,wrOf u)::log) (Q3 oi x u σ)→anyA P γ all K (n+1) listed log σ:=by
 intro n
 induction n with
 | zero=>
  intro listed log σ hc hfree hr hy hlog H
  refine⟨fun h=>(by rw [h] at hr;cases hr),fun j hj=>?_⟩
  by_cases hji:j=i
  ·subst hji;exact⟨oi,x,u,rd,hi,hy,hlog,H⟩
  ·have:=ready_mono hj hji
   rw [H.1] at this
   cases this
 | succ n ih=>
  intro listed log σ hc hfree hr hy hlog H
  refine⟨fun h=>(by rw [h] at hr;cases hr),fun j hj=>?_⟩
  by_cases hji:j=i
  ·subst hji;exact⟨oi,x,u,rd,hi,hy,hlog,H⟩
  ·obtain⟨oj,x',u',rd',hoj,hy',hlog',H'⟩:=H.2 j (ready_mono hj hji)
   obtain⟨hjun,oj',hoj',hall⟩:=mem_ready.1 hj
   rw [hoj] at hoj';cases hoj'
   have hi0:=QbN (mem_ready.1 hr).1
   have hnot:∀e∈oj.after,Region.binds .any e=true→e.on≠i:=fun e he hb heq=>by
    have h1:=hall e he hb
    rw [heq,hi0] at h1;cases h1
   have hord:ordB all all.size i j=false:=QHo hc hi0 all.size j oj hoj hall
   unfold QBL at hlog'
   rw [List.all_cons,Bool.and_eq_true] at hlog'
   obtain⟨hl1,hl2⟩:=hlog'
   simp only [hord,Bool.or_false,Bool.not_eq_true',Bool.or_eq_false_iff] at hl1
   obtain⟨⟨c1,c2⟩,c3⟩:=hl1
   have hap:=hfree j oj hoj hji hjun hnot
   obtain⟨s1,s2,s3⟩:=swap hy hy' hap c1 c2 c3
   refine⟨oj,x',u',rd',hoj,s1,hl2,?_⟩
   have hc':QG6 all (listed.setIfInBounds j true):=hc.set hoj hall
   have hfree':∀k ok,all[k]?=some ok→k≠i→(listed.setIfInBounds j true).getD k true=false→(∀e∈ok.after,Region.binds .any e=true→e.on≠i)→oi.apart all ok=true:=fun k ok hk hki hun hno=>by
    refine hfree k ok hk hki ?_ hno
    by_cases hjk:j=k
    ·subst hjk;exact hjun
    ·rw [getD_set_ne true hjk] at hun;exact hun
   refine ih (listed.setIfInBounds j true) ((j,rd',wrOf u')::log) (Q3 oj x' u' σ) hc' hfree' (ready_mono hr (Ne.symm hji)) s2 ?_ ?_
   ·unfold QBL
    rw [List.all_cons,Bool.and_eq_true]
    refine⟨?_,hlog⟩
    have sym:∀{a b:List Nat},meet a b=false→meet b a=false:=fun {a b} h=>by
     unfold meet
     rw [←Bool.not_eq_true]
     intro hany
     obtain⟨q,hq,hb⟩:=List.any_eq_true.1 hany
     exact QB1 h q (by simpa using hb) hq
    simp only [sym c1,sym c2,sym c3,Bool.or_self,Bool.not_false,Bool.true_or]
   ·rw [Array.setIfInBounds_comm _ _ hji]
    exact H'.congr s3 (QEJ.swap _ _ _)
theorem QMR {r:Option AV} {want:Bool} {yes no:Prop} (h:evB r want yes no):∃b,r=some (.v (.bool b))∧(b=want→yes)∧(b=(!want)→no):=by
 unfold evB evBb at h
 split at h
 ·rename_i b hb
  refine⟨b,?_,h⟩
  cases r with
  | none=>cases hb
  | some x=>
   simp only [Option.bind_some] at hb
   cases x<;>simp only [QHP,reduceCtorEq] at hb
   rename_i x
   cases x<;>simp only [QD5,reduceCtorEq,Option.some.injEq] at hb
   rw [hb]
 ·exact h.elim
theorem QQb {r:Option AV} (h:QGi r=true):r=some (.v undef):=by
 unfold QGi at h
 split at h
 ·rfl
 ·cases h
theorem QVL {b:Bool} {x y:Prop} (h:evU b x y):(b=true∧x)∨(b=false∧y):=by
 cases b with
 | true=>exact .inl ⟨rfl,h⟩
 | false=>exact .inr ⟨rfl,h⟩
theorem QT1 {o:Oper} {σ:St} {j d:Nat} {want:Bool} (hg:o.guard=some (j,want)) (hd:(all[j]?).bind (·.dst)=some d) (h:QGi (lk σ.env d)=true):gd all o σ=some false:=by
 simp only [gd,hg,hd,QQb h,undef]
theorem QXT {σ : St} {d : Nat} {b : Bool} (h : lk σ.env d = some (.v (.bool b))) : Same σ ⟨(d, .v (.bool b)) :: σ.env, σ.mem⟩ :=
  ⟨fun t => by simp only [lk]; split
               · rename_i e; subst e; exact h
               · rfl, fun _ => rfl, rfl, rfl, rfl⟩
theorem QOh {o:Oper} {i:Nat} {log:Log} {σ:St} {K:Log→St→Prop} (h:evDO P γ all i log o σ K):∃x u rd,QAZ σ.mem o.dst∧OpR P γ o σ x u rd∧QBL all i rd (wrOf u) log=true∧K ((i,rd,wrOf u)::log) (Q3 o x u σ):=by
 unfold evDO at h
 split at h
 ·rename_i f args ts hop
  unfold evDC at h
  split at h
  ·rename_i g a c hc
   unfold QO at h
   rcases h with h | ⟨hd,ids,x,u,hr,hu,hl,hk⟩
   case inr=>exact⟨x,u,ids,hd,by unfold OpR;rw [hop];exact .inr ⟨g,a,c,hc,hr,hu⟩,hl,hk⟩
   unfold evDC0 at h
   split at h
   ·rename_i xs ids hs
    obtain⟨h1,h2⟩:=h
    rcases h2 with ⟨h2,x,h3,h5⟩ | ⟨h2,x,h3,h5⟩ | ⟨n,z,E,cs,h3,h4,h2,h5⟩
    case inr.inl=>exact⟨x,QBj σ.mem.find ids,ids,h1,by unfold OpR;rw [hop];exact .inl ⟨g,a,c,xs,hc,hs,.inr (.inl ⟨h3,rfl⟩)⟩,h2,h5⟩
    case inr.inr=>exact⟨.sl (QV σ.mem o.dst) 0 n z,ownU σ o.dst E cs,ids,h1,by unfold OpR;rw [hop];exact .inl ⟨g,a,c,xs,hc,hs,.inr (.inr ⟨n,z,E,cs,h3,rfl,rfl,h4⟩)⟩,h2,h5⟩
    refine⟨x,[],ids,h1,?_,h2,?_⟩
    ·unfold OpR;rw [hop];exact .inl ⟨g,a,c,xs,hc,hs,.inl ⟨h3,rfl⟩⟩
    ·have:σ.mem.upd []=σ.mem:=by cases σ.mem;rfl
     simp only [Q3,this]
     exact h5
   ·exact h.elim
  ·exact h.elim
 ·rename_i hno
  unfold evDS at h
  split at h
  ·rename_i x u hs
   obtain⟨h1,h2,h3,h4⟩:=h
   refine⟨x,u,fpOf γ σ.env o.op,h1,?_,h3,h4⟩
   unfold OpR
   split
   ·rename_i f args ts hop;exact absurd hop (hno f args ts)
   ·exact⟨hs,h2,rfl⟩
  ·exact h.elim
theorem OpR.same {o:Oper} {σ σ':St} {x:AV} {u:Upd} {rd:List Nat} (h:OpR P γ o σ x u rd) (hs:Same σ σ'):OpR P γ o σ' x u rd:=by
 have hrho:∀y,rho γ σ.env y=rho γ σ'.env y:=fun y=>QaD fun t _=>hs.env t
 unfold OpR at h ⊢
 split at h
 ·rename_i f args ts hop
  have ha:args.toList.map (rho γ σ.env)=args.toList.map (rho γ σ'.env):=List.map_congr_left fun y _=>hrho y
  rcases h with ⟨g,a,c,xs,e1,e2,e3⟩ | ⟨g,a,c,e1,e2,e3⟩
  case inr=>exact .inr ⟨g,a,c,by rw [←hrho];exact e1,by rw [←ha,←hs.next,show frO σ'.mem o.dst=frO σ.mem o.dst from by simp only [frO,hs.base]];exact⟨e2.1,fun m S μ w vs hq hn=>e2.2 m S μ w vs (fun q hm=>(hq q hm).trans (hs.objs q).symm) hn⟩,QDj e3 hs.base (fun q _=>hs.objs q)⟩
  exact .inl ⟨g,a,c,xs,by rw [←hrho];exact e1,by rw [←ha];exact QBg e2 (fun q _=>hs.objs q),e3.imp_right fun e=>e.imp (fun e=>⟨e.1,e.2.trans (QKk fun q _=>hs.objs q)⟩) fun ⟨n,z,E,cs,q1,q2,q3,q4⟩=>⟨n,z,E,cs,q1,by rw [q2];simp only [QV,hs.base],by rw [q3];simp only [ownU,QV,hs.base],QDj q4 hs.base (fun q _=>hs.objs q)⟩⟩
 ·obtain⟨e1,e2,e3⟩:=h
  have hfr:QV σ.mem o.dst=QV σ'.mem o.dst:=by simp only [QV,hs.base]
  refine⟨?_,?_,?_⟩
  ·rw [←hfr,←e1]
   exact (QLu (fun y _=>hrho y) (fun y _ q _=>hs.objs q)).symm
  ·unfold QBO at e2 ⊢
   rw [←hs.base]
   cases hdd:o.dst with
   | none=>rw [hdd] at e2;exact e2
   | some d=>rw [hdd] at e2;simpa only [hs.objs] using e2
  ·rw [e3];unfold fpOf
   rw [List.flatMap_def,List.flatMap_def]
   congr 1
   exact List.map_congr_left fun y _=>by rw [hrho y]
theorem QZu {o:Oper} {i:Nat} {log:Log} {σ:St} {K:Log→St→Prop} (h:evDG P γ all i log o σ K):∃x u rd σ' log',Yld P γ all o σ x u rd∧QBL all i rd (wrOf u) log=true∧Same (Q3 o x u σ) σ'∧QEJ ((i,rd,wrOf u)::log) log'∧K log' σ':=by
 unfold evDG at h
 split at h
 ·rename_i hg
  obtain⟨x,u,rd,h1,h2,h3,h4⟩:=QOh h
  exact⟨x,u,rd,_,_,.inl ⟨by simp [gd,hg],h1,h2⟩,h3,Same.refl _,QEJ.refl _,h4⟩
 ·rename_i j want hg
  split at h
  ·rename_i d hd
   rcases QVL h with ⟨hsk,hk⟩ | ⟨_,h⟩
   ·refine⟨.v undef,[],[],⟨putE o.dst (.v undef) σ.env,σ.mem⟩,log,.inr ⟨QT1 hg hd hsk,rfl,rfl,rfl⟩,?_,⟨fun _=>rfl,fun q=>?_,rfl,rfl,rfl⟩,fun e he=>?_,hk⟩
    ·unfold QBL
     have:∀a:List Nat,meet [] a=false:=fun a=>by unfold meet;simp
     simp [wrOf,this]
    ·simp only [Q3,QAQ,lk]
    ·rcases List.mem_cons.1 he with rfl | he
     ·exact .inr ⟨rfl,rfl⟩
     ·exact .inl he
   obtain⟨b,hb,hy,hn⟩:=QMR h
   have hgd:gd all o σ=some (b==want):=by simp [gd,hg,hd,hb]
   have hsm:=QXT hb
   by_cases hbw:b=want
   ·subst hbw
    obtain⟨x,u,rd,h1,h2,h3,h4⟩:=QOh (hy rfl)
    exact⟨x,u,rd,_,_,.inl ⟨by rw [hgd];simp,h1,h2.same hsm.symm⟩,h3,hsm.step o x u,QEJ.refl _,h4⟩
   ·have hbn:b=(!want):=by cases b<;>cases want<;>simp_all
    have hk:=hn hbn
    rw [←hbn] at hk
    refine⟨.v undef,[],[],⟨putE o.dst (.v undef) ((d,.v (.bool b))::σ.env),σ.mem⟩,log,.inr ⟨by rw [hgd];simp [hbw],rfl,rfl,rfl⟩,?_,?_,fun e he=>?_,hk⟩
    ·unfold QBL
     have:∀a:List Nat,meet [] a=false:=fun a=>by unfold meet;simp
     simp [wrOf,this]
    ·have:=hsm.step o (.v undef) []
     refine this.trans ⟨fun _=>rfl,fun q=>?_,rfl,rfl,rfl⟩
     simp only [Q3,QAQ,lk]
    ·rcases List.mem_cons.1 he with rfl | he
     ·exact .inr ⟨rfl,rfl⟩
     ·exact .inl he
  ·exact h.elim
theorem QUo:∀(l:List Oper) (k:Nat) (listed:Array Bool) (log log':Log) (σ σ':St),(∀j,l[j]?=all[k+j]?)→Region.lexFrom .any all l.length k listed=true→QG6 all listed→
  Same σ σ'→QEJ log log'→evDL P γ all k l K log' σ'→anyA P γ all K l.length listed log σ
 | [],k,listed,log,log',σ,σ',_,hB,_,hs,_,h=>⟨by simpa [Region.lexFrom] using hB,by
   simp only [evDL] at h
   exact Fin.same ⟨_,Same.refl _,h⟩ hs.symm⟩
 | o::l,k,listed,log,log',σ,σ',hl,hB,hc,hs,hlog,h=>by
  have h0:all[k]?=some o:=by simpa using (hl 0).symm
  simp only [List.length_cons,Region.lexFrom,Bool.and_eq_true] at hB
  obtain⟨⟨hr,hf⟩,hB'⟩:=hB
  simp only [evDL] at h
  obtain⟨x,u,rd,τ,log2,hy,hok,hsm,hle,hK⟩:=QZu h
  have hready:k∈Region.ready .any all listed:=by simpa using hr
  obtain⟨_,o',ho',hall⟩:=mem_ready.1 hready
  rw [h0] at ho';cases ho'
  exact QPp h0 l.length listed log σ hc (Region.free_spec h0 hf) hready (hy.same hs.symm) (QOp hlog hok)
   (QUo l (k+1) _ _ log2 _ τ (fun j=>by have:=hl (j+1);simpa [Nat.add_assoc,Nat.add_comm 1 j] using this) hB' (hc.set h0 hall) ((hs.step o x u).trans hsm) (fun e he=>by
    rcases List.mem_cons.1 he with h1 | h1
    ·exact hle e (by simp [h1])
    ·rcases hlog e h1 with h2 | h2
     ·exact hle e (by simp [h2])
     ·exact .inr h2) hK)
theorem QEs {o:Oper} {σ:St} {a:Act} {w:World} {b:Bool} (h:RX γ N n0 m0 S0 μs w0 σ a w) (hg:gd all o σ=some b):Region.wanted o (yielded all a.tmps)=b:=by
 obtain⟨S,μ,hA,_⟩:=h
 unfold gd at hg
 unfold Region.wanted
 split at hg
 ·rename_i h0;simp only [Option.some.injEq] at hg;simp only [h0,hg]
 ·rename_i j want h0
  simp only [h0]
  split at hg
  ·rename_i d hd
   split at hg
   ·rename_i c hc
    simp only [Option.some.injEq] at hg
    have:=hA.env d _ hc
    simp only [Rep] at this
    have hget:a.tmps[d]?=some (.bool c):=by
     rcases Nat.lt_or_ge d a.tmps.size with hlt | hge
     ·simp [hlt] at this;simp [hlt,this]
     ·simp [Array.getElem?_eq_none hge,undef] at this
    simp only [yielded,hd,Option.bind_some,hget,Option.some_beq_some,hg]
   ·rename_i hc
    simp only [Option.some.injEq] at hg
    have:=hA.env d _ hc
    simp only [Rep] at this
    have hget:a.tmps[d]?=none∨a.tmps[d]?=some (.tuple ⟨[]⟩):=by
     rcases Nat.lt_or_ge d a.tmps.size with hlt | hge
     ·simp [hlt] at this;simp [hlt,this]
     ·exact .inl (Array.getElem?_eq_none hge)
    rw [←hg]
    rcases hget with hget | hget<;>simp only [yielded,hd,Option.bind_some,hget]<;>rfl
   ·cases hg
  ·cases hg
theorem QRk {r:Option Nat} {o:Oper} {σ:St} {x:AV} {u:Upd} {rd:List Nat} {a:Act} {w:World} {Kn:Act→World→Prop} {Q:Exit→Act→World→Prop} (hw:Region.wanted o (yielded all a.tmps)=true) (h:Yld P γ all o σ x u rd) (hR:RX γ N n0 m0 S0 μs w0 σ a w)
  (hK:∀a' w',RX γ N n0 m0 S0 μs w0 (Q3 o x u σ) a' w'→Kn a' w'):o.wpIn (RF r) 0 P a w Kn Q:=by
 rcases h with ⟨hg,hd,h⟩ | ⟨hg,_⟩
 ·unfold OpR at h
  split at h
  ·rename_i f args ts hop
   rcases h with ⟨g,p,q,xs,e1,e2,e3⟩ | ⟨g,p,q,e1,e3,eu⟩
   case inr=>
    obtain⟨S,μ,hA,hG,hE,hN,hb,hwid⟩:=hR
    have hN1:=hN.1
    obtain⟨fs,cs',hf,hp,hq⟩:=QB5 e1 (QAY hA hG f)
    have hnx:=hA.rm.le
    obtain⟨dst,op,ty,pos,after,guard⟩:=o
    simp only at hop hd eu e3
    subst hop
    have hfr:∀q,frO σ.mem dst=some q→σ.mem.base≤q∧q<σ.mem.next∧(σ.mem.find q=none→μ q=none):=by
     intro q hq'
     cases dst with
     | none=>cases hq'
     | some d=>
      simp only [QAZ] at hd
      simp only [frO,Option.map_some,Option.some.injEq] at hq'
      subst hq'
      refine⟨by omega,by omega,fun e=>?_⟩
      rcases Classical.em (μ (σ.mem.base+d)=none) with e' | e'
      ·exact e'
      ·exact absurd e (hA.rm.win _ (by omega) (by omega) e')
    refine Oper.wpIn_of (fun c e=>by cases e) ?_
    rw [QEi hf e3.1,Oper.uponIn_enter]
    refine⟨fun h=>(by cases h),QDc ?_⟩
    refine (e3.2 σ.mem S μ w _ (fun _ _=>rfl) rfl (fun q hq'=>(hfr q hq').2) hA.rm hG (QBw ((hp.append (QBb (fun x=>QAY hA hG x) args)).append hq))).mono fun e w' he=>?_
    obtain⟨v,S',μ',rfl,h1,h2,h3,h4⟩:=he
    have hx3:=h3 σ.mem.base (by omega) (fun q hq'=>(hfr q hq').1)
    refine hK _ _ ⟨S',μ',⟨h1,QCQ (RX.keepEnv h2 hA.env) (fun d hdst=>?_) h4,by rw [QAB];exact hA.defers.ext hx3⟩,hG.keep h2,hE.trans hb hx3,hN.put _ _,hb,hwid⟩
    have hdst':dst=some d:=hdst
    rw [hdst'] at hd;simp only [QAZ] at hd;omega
   rcases e3 with ⟨e3,e5⟩ | ⟨e3,e5⟩ | ⟨n,z,E,cs,e3,ex,e5,eu⟩
   case inr.inr=>
    subst e5;subst ex
    obtain⟨S,μ,hA,hG,hE,hN,hb,hwid⟩:=hR
    have hN1:=hN.1
    obtain⟨fs,cs',hf,hp,hq⟩:=QB5 e1 (QAY hA hG f)
    have hnx:=hA.rm.le
    have hfr:μ (QV σ.mem o.dst)=none∧QV σ.mem o.dst<σ.mem.next∧σ.mem.base≤QV σ.mem o.dst:=by
     cases hdst:o.dst with
     | none=>
      rw [hdst] at eu
      simp [QBO,ownU,QV,lk] at eu
     | some d=>
      rw [hdst] at eu hd
      simp only [QAZ] at hd
      simp only [QBO,ownU,QV,Option.getD_some,lk,if_true,Option.isNone_some,Bool.false_or,Option.isNone_iff_eq_none] at eu
      simp only [QV,Option.getD_some]
      refine⟨?_,by omega,by omega⟩
      rcases Classical.em (μ (σ.mem.base+d)=none) with e | e
      ·exact e
      ·exact absurd eu (hA.rm.win _ (by omega) (by omega) e)
    obtain⟨dst,op,ty,pos,after,guard⟩:=o
    simp only at hop hd hfr eu
    subst hop
    refine Oper.wpIn_of (fun c e=>by cases e) ?_
    rw [QEi hf e3.2.2.1,Oper.uponIn_enter]
    refine⟨fun h=>(by cases h),QDc ?_⟩
    refine (e3.run e2 hA.rm hG (QBw ((hp.append (QBb (fun x=>QAY hA hG x) args)).append hq)) hfr.1 hfr.2.1).mono fun e w' he=>?_
    obtain⟨v,μ',rfl,h1,h2,h3,h4⟩:=he
    have hx3:=h3 σ.mem.base hfr.2.2 (by omega)
    refine hK _ _ ⟨S,μ',⟨h1,QCQ (RX.keepEnv h2 hA.env) (fun d hdst=>?_) h4,by rw [QAB];exact hA.defers.ext hx3⟩,hG.keep h2,hE.trans hb hx3,hN.put _ _,hb,hwid⟩
    have hdst':dst=some d:=hdst
    rw [hdst'] at hd;simp only [QAZ] at hd;omega
   case inr.inl=>
    subst e5
    obtain⟨S,μ,hA,hG,hE,hN,hb,hwid⟩:=hR
    have hN1:=hN.1
    obtain⟨fs,cs,hf,hp,hq⟩:=QB5 e1 (QAY hA hG f)
    obtain⟨dst,op,ty,pos,after,guard⟩:=o
    simp only at hop hd
    subst hop
    refine Oper.wpIn_of (fun c e=>by cases e) ?_
    rw [QEi hf e3.2.2.1,Oper.uponIn_enter]
    refine⟨fun h=>(by cases h),QDc ?_⟩
    refine (e3.runF e2 hA.rm hG (QBw ((hp.append (QBb (fun x=>QAY hA hG x) args)).append hq))).mono fun e w' he=>?_
    obtain⟨v,S',rfl,h1,h2,h3,h4⟩:=he
    refine hK _ _ ⟨S',μ,⟨h1,QCQ (RX.keepEnv h2 hA.env) (fun d hdst=>?_) h4,by rw [QAB];exact hA.defers.ext (h3 0 (Nat.zero_le _))⟩,hG.keep h2,?_,hN.put _ _,hb,hwid⟩
    ·have hdst':dst=some d:=hdst
     rw [hdst'] at hd;simp only [QAZ] at hd;omega
    ·exact hE.trans (n1:=n0) (Nat.le_refl _) (h3 n0 (by have:=hA.rm.le;omega))
   subst e5
   obtain⟨S,μ,hA,hG,hE,hN,hb,hwid⟩:=hR
   have hN1:=hN.1
   obtain⟨fs,cs,hf,hp,hq⟩:=QB5 e1 (QAY hA hG f)
   obtain⟨dst,op,ty,pos,after,guard⟩:=o
   simp only at hop hd
   subst hop
   refine Oper.wpIn_of (fun c e=>by cases e) ?_
   rw [QEi hf e3.callable,Oper.uponIn_enter]
   refine⟨fun h=>(by cases h),QDc ?_⟩
   refine (e3.run e2 hA.rm hG (QBw ((hp.append (QBb (fun x=>QAY hA hG x) args)).append hq))).mono fun e w' he=>?_
   obtain⟨v,S',rfl,h1,h2,h3,h4⟩:=he
   have hupd:σ.mem.upd []=σ.mem:=by cases σ.mem;rfl
   refine hK _ _ ⟨S',μ,⟨by simp only [Q3,hupd];exact h1,QCQ (RX.keepEnv h2 hA.env) (fun d hdst=>?_) h4,by rw [QAB];exact hA.defers.ext (h3 0 (Nat.zero_le _))⟩,hG.keep h2,?_,hN.put _ _,hb,hwid⟩
   ·have hdst':dst=some d:=hdst
    rw [hdst'] at hd;simp only [QAZ] at hd;omega
   ·simp only [Q3,hupd]
    exact hE.trans (n1:=n0) (Nat.le_refl _) (h3 n0 (by have:=hA.rm.le;omega))
  ·obtain⟨e1,e2,e3⟩:=h
   obtain⟨nx,v,w',h1,h2,h3⟩:=hR.step e1 hd e2
   refine Oper.wpIn_of (fun c e=>by rw [e] at e1;simp [QBR,Qm] at e1) ?_
   rw [h1]
   rcases h2 with rfl | ⟨rfl,rfl⟩
   ·exact hK _ _ h3
   ·exact hK _ _ h3
 ·rw [QEs hR hg] at hw;cases hw
theorem RX.drew {σ:St} {a:Act} {w:World} (h:RX γ N n0 m0 S0 μs w0 σ a w) (d:Nat) (hdd:w.drawn≤d):RX γ N n0 m0 S0 μs w0 σ a { w with drawn:=d }:=by
 obtain⟨S,μ,hA,hG,hE,hN,hb,hw⟩:=h
 have hN1:=hN.1
 have hd:=After.drew hA.rm (d:=d) hdd
 have hupd:σ.mem.upd []=σ.mem:=by cases σ.mem;rfl
 exact⟨S,μ,⟨by have:=hd.rm;rwa [hupd] at this,RX.keepEnv hd.keep hA.env,hA.defers.ext (by have:=hd.ext;rwa [hupd] at this)⟩,hG.keep hd.keep,hE.trans hb (by have:=hd.ext;rwa [hupd] at this),hN,hb,hw⟩
theorem RX.close {σ:St} {a:Act} {w:World} (h:RX γ N n0 m0 S0 μs w0 σ a w):RX γ N n0 m0 S0 μs w0 ⟨σ.env,σ.mem.close⟩ a w:=by
 obtain⟨S,μ,hA,hG,hE,hN,hb,hw⟩:=h
 have hN1:=hN.1
 have hr:=hA.rm
 exact⟨S,μ,⟨⟨hr.obj,hr.inj,hr.old,hr.fr,fun o h1 h2 h3=>absurd (hr.fr o h1) h3,by simp [Mem.close],hr.bk⟩,hA.env,QCU.of (m:=σ.mem) (m':=σ.mem.close) (fun _ _ _=>rfl) (fun _ _ h=>h) (fun _ _ _ h=>.inl h) hA.defers⟩,hG,⟨hE.os,hE.tape,hE.output,hE.size,hE.ids,hE.objs,hE.next,hE.sub,hE.new,hE.cell,hE.map,hE.blk,hE.bsz,hE.uf⟩,hN,by have:=hr.le;show n0≤σ.mem.next;omega,by simp [Mem.close]⟩
theorem RX.open_ {σ:St} {a:Act} {w:World} (h:RX γ N n0 m0 S0 μs w0 σ a w):RX γ N n0 m0 S0 μs w0 ⟨σ.env,σ.mem.open_ N⟩ a w:=by
 obtain⟨S,μ,hA,hG,hE,hN,hb,hw⟩:=h
 have hN1:=hN.1
 have hr:=hA.rm
 exact⟨S,μ,⟨⟨fun o ob h=>⟨by have:=(hr.obj o ob h).1;show o<σ.mem.next+N;omega,(hr.obj o ob h).2⟩,hr.inj,hr.old,fun o h=>hr.fr o (by change σ.mem.next+N≤o at h;omega),fun o h1 h2 h3=>absurd (hr.fr o h1) h3,Nat.le_refl _,hr.bk⟩,hA.env,QCU.of (m:=σ.mem) (m':=σ.mem.open_ N) (fun _ _ _=>rfl) (fun _ _ h=>h) (fun _ _ _ h=>.inl h) hA.defers⟩,hG,
  ⟨hE.os,hE.tape,hE.output,hE.size,hE.ids,hE.objs,by have:=hE.next;show n0≤σ.mem.next+N;omega,hE.sub,hE.new,hE.cell,hE.map,hE.blk,hE.bsz,hE.uf⟩,hN,by have:=hr.le;show n0≤σ.mem.next;omega,Nat.le_refl _⟩
theorem QTk {r:Option Nat} {Q:Exit→Act→World→Prop} (hK:∀σ a w,K σ→RX γ N n0 m0 S0 μs w0 σ a w→Q .normal a w):∀(n:Nat) (listed:Array Bool) (log:Log) (σ:St) (a:Act) (w:World),anyA P γ all K n listed log σ→RX γ N n0 m0 S0 μs w0 σ a w→wpAnyIn (RF r) 0 P .any all Q n listed a w:=by
 have fin:∀{σ:St} {a:Act} {w:World},Fin K σ→RX γ N n0 m0 S0 μs w0 σ a w→Q .normal a w:=fun {σ a w} hf hR=>by
  obtain⟨σ',hs,hk⟩:=hf
  exact hK σ' a w hk (hR.close.same hs)
 intro n
 induction n with
 | zero=>exact fun listed log σ a w h hR=>⟨h.1,fin h.2 hR⟩
 | succ n ih=>
  intro listed log σ a w h hR
  refine⟨fun hr=>fin (h.1 hr) hR,fun i hi=>?_⟩
  obtain⟨o,x,u,rd,h1,h2,h3,h4⟩:=h.2 i hi
  unfold wpOpIn
  simp only [h1]
  cases hw:Region.wanted o (yielded all a.tmps) with
  | true=>
   simp only [if_true]
   exact QRk hw h2 hR (fun a' w' hR'=>ih _ _ _ _ _ h4 hR')
  | false=>
   simp only [Bool.false_eq_true,if_false]
   rcases h2 with ⟨hg,_⟩ | ⟨hg,rfl,rfl,rfl⟩
   ·rw [QEs hR hg] at hw;cases hw
   ·refine⟨fun _ _=>trivial,ih _ _ _ _ _ h4 ?_⟩
    obtain⟨S,μ,hA,hG,hE,hN,hb,hwid⟩:=hR
    have hN1:=hN.1
    have hupd:σ.mem.upd []=σ.mem:=by cases σ.mem;rfl
    refine⟨S,μ,⟨by simp only [Q3,hupd];exact hA.rm,QEy hA.env,by rw [QAB];simp only [Q3,hupd];exact hA.defers⟩,hG,by simp only [Q3,hupd];exact hE,hN.put _ _,hb,hwid⟩
theorem QMh {r:Option Nat} {id:Nat} {Q:Exit→Act→World→Prop} {σ:St} {a:Act} {w:World} (hm:P.follows .mixedOrders=true) (hB:Region.lexB .any all=true) (h:evDL P γ all 0 all.toList K [] σ) (hR:RX γ N n0 m0 S0 μs w0 σ a w)
  (hK:∀σ a w,K σ→RX γ N n0 m0 S0 μs w0 σ a w→Q .normal a w):(Code.region id all true).wpIn (RF r) 0 P Q a w:=by
 simp only [Region.lexB,Bool.and_eq_true] at hB
 refine wpIn_region_any hm ?_
 have h1:=QUo all.toList 0 (Array.replicate all.size false) [] [] σ σ (by simp) (by simpa using hB.2) (fun k o hk hl=>by
  rcases Nat.lt_or_ge k all.size with h' | h'
  ·simp [h'] at hl
  ·simp [Array.getElem?_eq_none h'] at hk) (Same.refl _) (QEJ.refl _) h
 have h2:=QTk (r:=r) hK _ _ _ σ a { w with drawn:=w.drawn+1 } h1 (hR.drew _ (Nat.le_succ _))
 simpa using h2
end
section
variable {m : Mem}
theorem RepO.keepX {S:Nat→Nat→Prop} {μ μ':Nat→Option (Nat×Nat)} {w:World} (hk:Keeps S μ w S μ' w) {o:Nat} {ob:AObj} (h:RepO S μ w o ob) (hn:μ o=none→μ' o=none) (hb:ob≠.bag):RepO S μ' w o ob:=by
 cases ob with
 | bag=>exact absurd rfl hb
 | cells E xs ap=>
  simp only [RepO] at h ⊢
  rcases h with ⟨h1,h2⟩ | ⟨b,bo,ys,c,fz,h1,h2,h3,h4,h5⟩
  ·exact .inl ⟨hn h1,h2⟩
  ·exact .inr ⟨b,bo,ys,c,fz,(hk.ids o (Qs h1)).trans h1,h2,h3,RepL.keep hk xs ys h4,h5⟩
 | imm xs=>
  simp only [RepO] at h ⊢
  exact h.imp_right fun ⟨b,bo,h1,h2⟩=>⟨b,bo,(hk.ids o (Qs h1)).trans h1,RepC.keep hk xs b bo h2⟩
 | map kt ks xs=>
  simp only [RepO] at h ⊢
  obtain⟨b,bo,es,clock,h1,h2,h3,h4,h5,h6⟩:=h
  exact⟨b,bo,es,clock,(hk.ids o (Qs h1)).trans h1,h2,h3,h4,RepL.keep hk xs _ h5,h6⟩
 | miter last ks xs=>
  simp only [RepO] at h ⊢
  obtain⟨b,bo,mb,since,seen,stepped,h1,h2,h3,h4⟩:=h
  refine⟨b,bo,mb,since,seen,stepped,(hk.ids o (Qs h1)).trans h1,h2,h3,h4.imp_right ?_⟩
  rintro⟨r,es,kt,e1,e2,e3,e4,e5,e6,e7,e8⟩
  exact⟨r,es,kt,e1,e2,e3,e4,e5,e6,RepL.keep hk xs _ e7,fun p hp=>(e8 p hp).imp fun e he=>⟨he.1,he.2.1,he.2.2.1,Rep.keep hk _ _ he.2.2.2⟩⟩
 | siter s pos=>
  simp only [RepO] at h ⊢
  obtain⟨b,bo,h1,h2,h3⟩:=h
  exact⟨b,bo,(hk.ids o (Qs h1)).trans h1,h2,h3⟩
 | loop N ts xs ps assign body st pe=>
  simp only [RepO] at h ⊢
  obtain⟨b,bo,D,fn,tmps,h1,h2,h3,h4,h5⟩:=h
  exact⟨b,bo,D,fn,tmps,(hk.ids o (Qs h1)).trans h1,h2,h3,h4,RepL.keep hk xs _ h5⟩
 | past T=>simpa only [RepO] using h
 | dead=>simp [RepO]
theorem RM.add {S:Nat→Nat→Prop} {μ:Nat→Option (Nat×Nat)} {w:World} (hr:RM S μ w m) {ob:AObj} {p:Option (Nat×Nat)}
  (hp:∀b bo,p=some (b,bo)→b<w.heap.size∧∀o bo',μ o≠some (b,bo')) (hpb:∀b bo,p=some (b,bo)→∀o b0 code,m.find o=some .bag→μ o=some (b0,code)→code.testBit b≠true)
  (hob:∀μ',Keeps S μ w S μ' w→μ' m.next=p→RepO S μ' w m.next ob):
  ∃μ',RM S μ' w ⟨(m.next,ob)::m.objs,m.next+1,m.base,m.wid⟩∧Keeps S μ w S μ' w∧μ' m.next=p∧(∀o,o≠m.next→μ' o=μ o):=by
 refine⟨fun o=>if o=m.next then p else μ o,?_⟩
 have hfr:μ m.next=none:=hr.fr _ (Nat.le_refl _)
 have hk:Keeps S μ w S (fun o=>if o=m.next then p else μ o) w:=⟨fun o ho=>by
  by_cases e:o=m.next
  ·subst e;exact absurd hfr ho
  ·simp [e],fun _ _ h=>h,fun _ _ _=>rfl,fun _ _ _ _ _ h=>h,fun _=>Nat.le_refl _,Nat.le_refl _,fun _ _ h=>h⟩
 have hf:∀o,(⟨(m.next,ob)::m.objs,m.next+1,m.base,m.wid⟩:Mem).find o=if m.next=o then some ob else m.find o:=fun o=>by simp only [Mem.find,lk]
 have hne:∀{o ob'},m.find o=some ob'→o≠m.next:=fun h e=>by have:=(hr.obj _ _ h).1;omega
 refine⟨⟨fun o ob' h=>?_,fun o o' ob1 ob2 h h' ho ho' hn b i j hb=>?_,hr.old,fun o ho=>?_,fun o h1 h2 h3=>?_,?_,fun o b bo h=>?_⟩,hk,by simp,fun o ho=>by simp [ho]⟩
 ·rw [hf] at h
  split at h
  ·rename_i e;subst e;simp only [Option.some.injEq] at h;subst h
   exact⟨by simp,hob _ hk (by simp)⟩
  ·refine⟨by have:=(hr.obj _ _ h).1;simp;omega,?_⟩
   have hobj:=(hr.obj _ _ h).2
   cases ob' with
   | bag=>
    simp only [RepO] at hobj ⊢
    obtain⟨b0,code,e1,e2⟩:=hobj
    refine⟨b0,code,by simpa [hne h] using e1,fun b ht=>⟨(e2 b ht).1,(e2 b ht).2.1,(e2 b ht).2.2.1,fun q bo hq=>?_⟩⟩
    by_cases e:q=m.next
    ·simp only [e,if_true] at hq
     exact hpb b bo hq _ _ _ h e1 ht
    ·simp only [e,if_false] at hq
     exact (e2 b ht).2.2.2 q bo hq
   | _=>
    exact hobj.keepX hk (fun e=>by simpa [hne h] using e) (by intro e;cases e)
 ·rw [hf] at h h'
  split at h
  ·rename_i e;subst e
   simp only [if_true] at hb
   simp only [if_neg (Ne.symm hn)]
   intro e
   exact (hp b i hb).2 _ _ e
  ·split at h'
   ·rename_i e;subst e
    simp only [if_neg hn] at hb
    simp only [if_true]
    intro e
    exact (hp b j e).2 _ _ hb
   ·simp only [if_neg (hne h)] at hb
    simp only [if_neg (hne h')]
    exact hr.inj o o' ob1 ob2 h h' ho ho' hn b i j hb
 ·simp only at ho
  simp only [if_neg (show o≠m.next by omega)]
  exact hr.fr o (by omega)
 ·simp only at h1 h2
  rw [hf]
  by_cases e:o=m.next
  ·simp [e]
  ·simp only [if_neg e] at h3
   rw [if_neg (Ne.symm e)]
   exact hr.win o h1 h2 h3
 ·have:=hr.le;simp only;omega
 ·by_cases e:o=m.next
  ·simp only [e,if_true] at h;exact (hp b bo h).1
  ·simp only [if_neg e] at h;exact hr.bk o b bo h
end
theorem QOg {S μ} {w:World} {m:Mem} (hr:RM S μ w m) {b:Nat} (h:Q6 m μ b):b<w.heap.size:=by
 rcases h with ⟨o,ob,bo,_,_,h⟩ | ⟨o,b0,code,h1,h2,h3⟩
 ·exact hr.bk _ _ _ h
 ·have hob:=(hr.obj o _ h1).2
  simp only [RepO] at hob
  obtain⟨b0',code',e1,e2⟩:=hob
  rw [h2] at e1;cases e1
  have:=(e2 b h3).1
  rcases Nat.lt_or_ge b w.heap.size with h | h
  ·exact h
  ·simp [Qw,Array.getElem?_eq_none h] at this
theorem QM5:∀{e:List (Nat×AV)} {s:List Nat} {p:Nat×AV},p∈clE s e→p.1∉s∧lk e p.1=some p.2
 | [],s,p,h=>by simp [clE] at h
 | (t,x)::e,s,p,h=>by
  simp only [clE] at h
  split at h
  ·rename_i hs
   obtain⟨h1,h2⟩:=QM5 h
   refine⟨h1,?_⟩
   have:t≠p.1:=fun e=>h1 (by rw [←e];simpa using hs)
   simp only [lk,if_neg this,h2]
  ·rename_i hs
   rcases List.mem_cons.1 h with rfl | h
   ·exact⟨by simpa using hs,by simp [lk]⟩
   ·obtain⟨h1,h2⟩:=QM5 h
    simp only [List.mem_cons,not_or] at h1
    refine⟨h1.2,?_⟩
    simp only [lk,if_neg (fun e:t=p.1=>h1.1 e.symm),h2]
theorem QOB {S μ} {w:World} {f:Nat→Value}:∀{e:List (Nat×AV)},(∀p∈e,Rep S μ w p.2 (f p.1))→RepL S μ w (e.map (·.2)) ((e.map (·.1)).map f)
 | [],_=>by simp [RepL]
 | p::e,h=>by
  simp only [List.map_cons,RepL]
  exact⟨_,_,rfl,h p (by simp),QOB fun q hq=>h q (by simp [hq])⟩
theorem RM.dead {S μ} {w:World} {m:Mem} (hr:RM S μ w m) {o:Nat} {ob:AObj} (hf:m.find o=some ob):RM S μ w (m.upd [(o,.dead)])∧(∀b,Q6 (m.upd [(o,.dead)]) μ b→Q6 m μ b)∧∀n0,n0≤m.next→Ext n0 m S μ w (m.upd [(o,.dead)]) S μ w:=by
 have hw:∀b,Q6 (m.upd [(o,.dead)]) μ b→Q6 m μ b:=by
  rintro b (⟨o',ob',bo,h1,h2,h3⟩ | ⟨o',b0,code,h1,h2,h3⟩)
  ·rw [QP] at h1
   split at h1
   ·simp only [Option.some.injEq] at h1;subst h1;cases h2
   ·exact .inl ⟨o',ob',bo,h1,h2,h3⟩
  ·rw [QP] at h1
   split at h1
   ·cases h1
   ·exact .inr ⟨o',b0,code,h1,h2,h3⟩
 refine⟨⟨fun o' ob' h=>?_,fun o1 o2 ob1 ob2 h1 h2 ho1 ho2 hn b i j hb=>?_,hr.old,hr.fr,fun o' h1 h2 h3=>?_,hr.le,hr.bk⟩,hw,fun n0 hn=>⟨rfl,⟨rfl,Nat.le_refl _⟩,rfl,Nat.le_refl _,fun _ _=>rfl,fun o' _ h=>?_,hn,fun _ _ h=>h,fun _ _ _ h=>.inl h,fun _ _ _=>rfl,fun _ _ _ _ _ h=>h,fun b _ h=>⟨rfl,fun hx=>h (hw b hx)⟩,fun _=>Nat.le_refl _,fun _ _ h=>h⟩⟩
 ·rw [QP] at h
  split at h
  ·rename_i e;subst e;simp only [Option.some.injEq] at h;subst h
   exact⟨(hr.obj _ _ hf).1,by simp [RepO]⟩
  ·exact hr.obj _ _ h
 ·rw [QP] at h1 h2
  split at h1
  ·simp only [Option.some.injEq] at h1;subst h1;cases ho1
  ·split at h2
   ·simp only [Option.some.injEq] at h2;subst h2;cases ho2
   ·exact hr.inj _ _ _ _ h1 h2 ho1 ho2 hn b i j hb
 ·rw [QP]
  split
  ·simp
  ·exact hr.win o' h1 h2 h3
 ·rw [QP] at h
  split at h
  ·rename_i e;subst e;rw [hf];simp
  ·exact h
theorem QF7 {S μ} {w:World} {m:Mem} (hr:RM S μ w m) {o b bo N:Nat} {ts:List Nat} {xs:List AV} {ps:Array Nat} {assign body:Code} {st:LoopState} {pe:Option Code} (hf:m.find o=some (.loop N ts xs ps assign body st pe)) (hμ:μ o=some (b,bo)):
  ∃(D:Nat) (fn:FuncId) (tmps:Array Value),(∀off,¬S b off)∧w.heap[b]?=some (.loop { state:=st,pending:=pe,fn:=fn,tmps:=tmps,params:=ps,assign:=assign,body:=body,defers:=D })∧N≤tmps.size∧RepL S μ w xs (ts.map fun t=>tmps.getD t undef):=by
 have:=(hr.obj o _ hf).2
 simp only [RepO] at this
 obtain⟨b',bo',D,fn,tmps,h1,h⟩:=this
 rw [hμ] at h1;cases h1
 exact⟨D,fn,tmps,h⟩
theorem After.loop {S μ} {w:World} {m:Mem} (hr:RM S μ w m) {o b bo N D:Nat} {ts:List Nat} {xs:List AV} {ps:Array Nat} {assign body:Code} {st:LoopState} {pe:Option Code} {fn:FuncId} {tmps:Array Value} (st':LoopState) (pe':Option Code) (hf:m.find o=some (.loop N ts xs ps assign body st pe)) (hμ:μ o=some (b,bo)) (hS:∀off,¬S b off)
  (hb:w.heap[b]?=some (.loop { state:=st,pending:=pe,fn:=fn,tmps:=tmps,params:=ps,assign:=assign,body:=body,defers:=D })) (hN:N≤tmps.size) (hx:RepL S μ w xs (ts.map fun t=>tmps.getD t undef)):
  After S μ w m [(o,.loop N ts xs ps assign body st' pe')] μ (w.putObj b (.loop { state:=st',pending:=pe',fn:=fn,tmps:=tmps,params:=ps,assign:=assign,body:=body,defers:=D })):=by
 have hlt:b<w.heap.size:=(Array.getElem?_eq_some_iff.1 hb).1
 refine After.set hr hf rfl rfl hμ (fun k hk=>World.putObj_heap_other hk) (by simp) ?_ rfl ⟨rfl,Nat.le_refl _⟩ rfl (fun hkp=>?_) hS (fun _=>QIo (o:=.loop _) (World.putObj_heap_same hlt) trivial)
 ·simp only [Qw,World.putObj_heap_same hlt,hb]
 ·simp only [RepO]
  exact⟨b,bo,D,fn,tmps,hμ,hS,World.putObj_heap_same hlt,hN,RepL.keep hkp _ _ hx⟩
theorem QYt {n0 N:Nat} {m0:Mem} {S0:Nat→Nat→Prop} {μs:Nat→Option (Nat×Nat)} {w0:World} {r:Option Nat} {nr:Bool} {g:Operand} {ps:Array Nat} {assign body:Code} {Q:Exit→Act→World→Prop} {σ:St} {a:Act} {w:World} {E:Nat→St→Prop} {R:St→Prop} (hro:r=none∨nr=false) (h:evRF P γ N (QAt (rho γ σ.env g)) ps assign body nr σ K E R) (hR:RX γ N n0 m0 S0 μs w0 σ a w)
  (hK:∀σ' a' w',K σ'→RX γ N n0 m0 S0 μs w0 σ' a' w'→Q .normal a' w') (hE:∀id σ' a' w',E id σ'→RX γ N n0 m0 S0 μs w0 σ' a' w'→Q (.exit id) a' w') (hRt:∀σ' a' w',R σ'→RX γ N n0 m0 S0 μs w0 σ' a' w'→Q .ret a' w'):(Code.rangeFunc g ps assign body).wpIn (RF r) 0 P Q a w:=by
 unfold evRF at h
 split at h
 ·rename_i gf p q hc
  obtain⟨hnr,hcall⟩:=h
  subst hnr
  have hro':r=none:=by rcases hro with h | h<;>simp_all
  subst hro'
  obtain⟨S,μ,hA,hG,hX,hN,hb,hwid⟩:=hR
  obtain⟨fs,cs,hf,hp,hq⟩:=QB5 hc (QAY hA hG g)
  refine wpIn_rangeFunc fun fn _=>?_
  obtain⟨w1,hw1⟩:∃w1,((w.alloc (.deferred (some []))).alloc (.loop { state:=.ready,pending:=none,fn:=fn,tmps:=a.tmps,params:=ps,assign:=assign,body:=body,defers:=w.heap.size }))=w1:=⟨_,rfl⟩
  have hh1:∀b,b<w.heap.size→w1.heap[b]?=w.heap[b]?:=fun b hb=>by
   rw [←hw1]
   show ((w.heap.push _).push _)[b]?=_
   rw [Array.getElem?_push,Array.getElem?_push,if_neg (by simp;omega),if_neg (by omega)]
  have hs1:w1.heap.size=w.heap.size+2:=by rw [←hw1];simp
  have hD1:w1.heap[w.heap.size]?=some (.deferred (some [])):=by
   rw [←hw1]
   show ((w.heap.push _).push _)[w.heap.size]?=_
   rw [Array.getElem?_push,Array.getElem?_push,if_neg (by simp),if_pos rfl]
  have hL1:w1.heap[w.heap.size+1]?=some (.loop { state:=.ready,pending:=none,fn:=fn,tmps:=a.tmps,params:=ps,assign:=assign,body:=body,defers:=w.heap.size }):=by
   rw [←hw1]
   show ((w.heap.push _).push _)[w.heap.size+1]?=_
   rw [Array.getElem?_push,if_pos (by simp)]
  have ho1:w1.os=w.os∧QCX w w1∧w1.output=w.output:=by rw [←hw1];exact⟨rfl,⟨rfl,Nat.le_refl _⟩,rfl⟩
  obtain⟨hr1,hk1,hx1⟩:=QIL (S':=S) (w':=w1) hA.rm (fun _ _ h=>h) (fun _ _ _ h=>h) (fun b off h=>by have:=hA.rm.old b off h;omega) (by omega) hh1 (fun b hb hu=>QBB (hh1 b hb) hu) ho1.1 ho1.2.1 ho1.2.2
  obtain⟨μ1,hr2,hk2,hμ1,hμo⟩:=RM.add hr1 (p:=some (w.heap.size+1,0)) (ob:=.loop N ((clE [] σ.env).map (·.1)) ((clE [] σ.env).map (·.2)) ps assign body .ready none)
   (fun b bo e=>by cases e;exact⟨by omega,fun o bo' h=>by have:=hA.rm.bk _ _ _ h;omega⟩)
   (fun b bo e o b0 code h1 h2 ht=>by
    cases e
    have:=QOg hA.rm (.inr ⟨o,b0,code,h1,h2,ht⟩)
    omega)
   (fun μ' hk' hμ'=>by
    simp only [RepO]
    refine⟨_,_,w.heap.size,fn,a.tmps,hμ',fun off hs=>by have:=hA.rm.old _ _ hs;omega,hL1,hN.1,QOB fun p hp=>?_⟩
    exact Rep.keep hk' _ _ (Rep.keep hk1 _ _ (hA.env _ _ (QM5 hp).2)))
  have hown1:∀b,b<w.heap.size→Q6 (rfM N ps assign body (clE [] σ.env) σ.mem) μ1 b→Q6 σ.mem μ b:=by
   intro b hb ho
   rcases ho with ⟨o,ob,bo,h1,h2,h3⟩ | ⟨o,b0,code,h1,h2,h3⟩
   ·by_cases e:o=σ.mem.next
    ·subst e;rw [hμ1] at h3;cases h3;omega
    ·have h1':(if σ.mem.next=o then _ else σ.mem.find o)=some ob:=h1
     rw [if_neg (Ne.symm e)] at h1'
     exact .inl ⟨o,ob,bo,h1',h2,by rw [←hμo o e];exact h3⟩
   ·have h1':(if σ.mem.next=o then some _ else σ.mem.find o)=some AObj.bag:=h1
    by_cases e:o=σ.mem.next
    ·rw [if_pos e.symm] at h1';cases h1'
    ·rw [if_neg (Ne.symm e)] at h1'
     exact .inr ⟨o,b0,code,h1',by rw [←hμo o e];exact h2,h3⟩
  have hExt1:Ext σ.mem.next σ.mem S μ w (rfM N ps assign body (clE [] σ.env) σ.mem) S μ1 w1:=
   ⟨ho1.1,ho1.2.1,ho1.2.2,by omega,fun o ho=>hμo o (by omega),fun o ho h=>by
    have h':(if σ.mem.next=o then some _ else σ.mem.find o)≠none:=h
    rwa [if_neg (by omega)] at h',by show σ.mem.next≤σ.mem.next+1;omega,fun _ _ h=>h,fun _ _ _ h=>.inl h,fun b off hs=>QAJ (hh1 b (hA.rm.old _ _ hs)),fun b off es clock hs h=>by rw [hh1 b (hA.rm.old _ _ hs)];exact h,
    fun b hb ho=>⟨hh1 b hb,fun hx=>ho (hown1 b hb hx)⟩,QEY (by omega) hh1,fun b hb hu=>QBB (hh1 b hb) hu⟩
  have hkp1:Keeps S μ w S μ1 w1:=⟨fun o ho=>hμo o (fun e=>by subst e;exact ho (hA.rm.fr _ (Nat.le_refl _))),fun _ _ h=>h,hExt1.cell,hExt1.map,hExt1.bsz,hExt1.size,hExt1.uf⟩
  have hargs:RepL S μ1 w1 ((p++(AV.yld σ.mem.next::q)).map unf) (fs++(.func (.yield (w.heap.size+1)) #[] #[]::cs)):=by
   refine QBw ((RepL.keep hkp1 _ _ hp).append ?_)
   simp only [RepL]
   exact⟨_,_,rfl,by simp only [Rep];exact⟨_,_,hμ1,rfl⟩,RepL.keep hkp1 _ _ hq⟩
  refine⟨w.heap.size+1,[mark w.heap.size],w1,{ target:=.fn (.func gf) cs.toArray,args:=fs.toArray++#[.func (.yield (w.heap.size+1)) #[] #[]] },w1,gf,(fs++(.func (.yield (w.heap.size+1)) #[] #[]::cs)).toArray,w1,?_,?_,fun _ _=>trivial,?_,fun h=>(by cases h),?_⟩
  ·rw [←hw1];exact run_enterLoop_outer _ _ _ _ _
  ·simp only [resolve,hf,Deferred.ofValue,Sem.run_bind,Sem.run_pure,Result.andThen_ok]
   simp [Act.eval]
  ·simp only [invoke,QFc hcall.1]
   congr 2
   apply Array.ext';simp
  refine QDc ((hcall.2 S μ1 w1 _ hr2 (hG.keep hkp1) hargs).mono fun e w' he=>?_)
  obtain⟨v,x,m',S',μ',rfl,hbase,hwid',hrm,hext,hx,hk⟩:=he
  have hμ':μ' σ.mem.next=some (w.heap.size+1,0):=(hext.ids _ (by show σ.mem.next<σ.mem.next+1;omega)).trans hμ1
  unfold rfTo at hk
  have hfin:∀(N':Nat) (ts:List Nat) (xs:List AV) (ps':Array Nat) (as bd:Code) (st:LoopState) (pe:Option Code),st≠.busy→m'.find σ.mem.next=some (.loop N' ts xs ps' as bd st pe)→
    ∃w4,(Instr.endLoop (w.heap.size+1)).run P w'=.ok pe w4∧RX γ N n0 m0 S0 μs w0 ⟨σ.env,m'.upd [(σ.mem.next,.dead)]⟩ { a with defers:=[mark w.heap.size]++a.defers } w4:=by
   intro N' ts xs ps' as bd st pe hst hf'
   obtain⟨D,fn',tmps',hS',hL',hN',hx'⟩:=QF7 hrm hf' hμ'
   have haft:=After.loop hrm .exhausted pe hf' hμ' hS' hL' hN' hx'
   have hf4:(m'.upd [(σ.mem.next,.loop N' ts xs ps' as bd .exhausted pe)]).find σ.mem.next=some (.loop N' ts xs ps' as bd .exhausted pe):=by rw [QP,if_pos rfl]
   obtain⟨hr5,ho5,hx5⟩:=RM.dead haft.rm hf4
   have hsame:∀o,((m'.upd [(σ.mem.next,.loop N' ts xs ps' as bd .exhausted pe)]).upd [(σ.mem.next,.dead)]).find o=(m'.upd [(σ.mem.next,.dead)]).find o:=fun o=>by simp only [QP];split<;>simp_all
   have hr6:=hr5.same (m':=m'.upd [(σ.mem.next,.dead)]) hsame rfl rfl rfl
   have hle:=hrm.le
   have hE6:Ext m'.base m' S' μ' w' (m'.upd [(σ.mem.next,.dead)]) S' μ' (w'.putObj (w.heap.size+1) (.loop { state:=.exhausted,pending:=pe,fn:=fn',tmps:=tmps',params:=ps',assign:=as,body:=bd,defers:=D })):=haft.ext.trans (Nat.le_refl _) ((hx5 m'.base (by show m'.base≤m'.next;omega)).same hsame rfl)
   have hk6:=haft.keep
   have hExt2:Ext n0 m0 S0 μs w0 (m'.upd [(σ.mem.next,.dead)]) S' μ' (w'.putObj (w.heap.size+1) (.loop { state:=.exhausted,pending:=pe,fn:=fn',tmps:=tmps',params:=ps',assign:=as,body:=bd,defers:=D })):=by
    have hb':n0≤σ.mem.next:=by have:=hA.rm.le;omega
    exact ((hX.trans hb' hExt1).trans (n1:=σ.mem.next+1) (by omega) hext).trans (by have:m'.base=σ.mem.base:=hbase;omega) hE6
   have hkA:=hext.keeps hr2
   refine⟨_,run_endLoop hL' hst,S',μ',⟨hr6,RX.keepEnv hk6 (RX.keepEnv hkA (RX.keepEnv hkp1 hA.env)),?_⟩,((hG.keep hkp1).keep hkA).keep hk6,hExt2,⟨hN.1,fun D' hD'=>?_⟩,by show n0≤m'.base;have:m'.base=σ.mem.base:=hbase;omega,by show m'.wid≤N;have:m'.wid=σ.mem.wid:=hwid';omega⟩
   ·have hM1:QCU S μ1 w1 (rfM N ps assign body (clE [] σ.env) σ.mem) (mark w.heap.size::a.defers):=by
     refine⟨⟨_,rfl,hD1,fun off hs=>by have:=hA.rm.old _ _ hs;omega,fun ho=>?_,fun hmem=>?_⟩,hA.defers.ext hExt1⟩
     ·rcases ho with ⟨o,ob,bo,h1,h2,h3⟩ | ⟨o,b0,code,h1,h2,h3⟩
      ·by_cases e:o=σ.mem.next
       ·subst e;rw [hμ1] at h3;simp at h3
       ·rw [hμo o e] at h3;have:=hA.rm.bk _ _ _ h3;omega
      ·have h1':(if σ.mem.next=o then some _ else σ.mem.find o)=some AObj.bag:=h1
       by_cases e:o=σ.mem.next
       ·rw [if_pos e.symm] at h1';cases h1'
       ·rw [if_neg (Ne.symm e)] at h1'
        have:=QOg hA.rm (.inr ⟨o,b0,code,h1',by rw [←hμo o e];exact h2,h3⟩)
        omega
     ·have:=QCU.lt hA.defers hmem
      omega
    exact ((hM1.ext hext).ext hE6)
   ·rcases List.mem_cons.1 hD' with h | h
    ·have:D'=w.heap.size:=by simpa [mark] using h
     rw [this];exact hX.size
    ·exact hN.2 D' h
  show rangePost _ _ _ _ _ _ _ _
  unfold rangePost
  simp only
  unfold QQG at hk
  split at hk
  ·rename_i N' ts xs ps' as bd hf'
   obtain⟨w4,h1,h2⟩:=hfin _ _ _ _ _ _ _ _ (by simp) hf'
   exact⟨none,w4,h1,hK _ _ _ hk h2⟩
  ·rename_i N' ts xs ps' as bd id hf'
   obtain⟨w4,h1,h2⟩:=hfin _ _ _ _ _ _ _ _ (by simp) hf'
   exact⟨_,w4,h1,wpIn_exit (hE _ _ _ _ hk h2)⟩
  ·rename_i N' ts xs ps' as bd hf'
   obtain⟨w4,h1,h2⟩:=hfin _ _ _ _ _ _ _ _ (by simp) hf'
   exact⟨_,w4,h1,wpIn_ret (hRt _ _ _ hk h2)⟩
  ·exact hk.elim
 ·exact h.elim
variable {P : Program} {γ : GTab} {n0 N : Nat} {k : List KI} {σ : St} {K : St → Prop} {env : List (Nat × AV)} {m : Mem}
class Box where
 p:Prop
def evX (r:Option AV) (want:Bool) [y:Box] [n:Box]:Prop:=evB r want y.p n.p
theorem ev_fin {Q:Exit→St→Prop}:ev P γ n0 N (.fin Q::k) σ=Q .normal σ:=by rw [ev]
theorem ev_blk {id:Nat}:ev P γ n0 N (.blk id::k) σ=ev P γ n0 N k σ:=by rw [ev]
theorem ev_lp {J:St→Prop}:ev P γ n0 N (.lp J::k) σ=J σ:=by rw [ev]
theorem Qbo {all:Array Oper}:ev P γ n0 N (.ops all []::k) ⟨env,m⟩=ev P γ n0 N k ⟨env,m.close⟩:=by rw [ev]
theorem ev_ops {all:Array Oper} {o:Oper} {l:List Oper}:ev P γ n0 N (.ops all (o::l)::k) σ=evG P γ all o σ (ev P γ n0 N (.ops all l::k)):=by rw [ev]
theorem QSn {id:Nat} {l:List Oper}:ev P γ n0 N (.code (.region id l.toArray false)::k) ⟨env,m⟩=ev P γ n0 N (.ops l.toArray l::k) ⟨env,m.open_ N⟩:=by rw [ev]
theorem QXn {id:Nat} {l:List Oper}:ev P γ n0 N (.code (.region id l.toArray true)::k) ⟨env,m⟩=evDL P γ l.toArray 0 l (ev P γ n0 N k) [] ⟨env,m.open_ N⟩:=by rw [ev]
theorem ev_seq {a b:Code}:ev P γ n0 N (.code (.seq a b)::k) σ=ev P γ n0 N (.code a::.code b::k) σ:=by rw [ev]
theorem QeG {c:Operand} {a b:Code}:ev P γ n0 N (.code (.cond c a b)::k) ⟨env,m⟩=@evX (some (rho γ env c)) true ⟨ev P γ n0 N (.code a::k) ⟨QNF env c true,m⟩⟩ ⟨ev P γ n0 N (.code b::k) ⟨QNF env c false,m⟩⟩:=by rw [ev];rfl
theorem QYZ {id:Nat} {c:Code}:ev P γ n0 N (.code (.block id c)::k) σ=ev P γ n0 N (.code c::.blk id::k) σ:=by rw [ev]
theorem QeU:ev P γ n0 N (.code .skip::k) σ=ev P γ n0 N k σ:=by rw [ev]
def QW8 (r:Option (Exit→St→Prop)) (σ:St):Prop:=match r with | some Q=>Q .ret σ | none=>False
theorem ev_ret:ev P γ n0 N (.code .ret::k) σ=QW8 (retK k) σ:=by rw [ev];unfold QW8;cases retK k<;>rfl
theorem QPA {Q:Exit→St→Prop}:QW8 (some Q) σ=Q .ret σ:=(rfl)
theorem ev_bg {o:Nat}:ev P γ n0 N (.bg o::k) σ=evBg o σ (fun σ'=>ev P γ n0 N k σ') (σ.mem.find o):=by rw [ev]
theorem ev_rnd {J:Option Code→St→Prop}:ev P γ n0 N (.rnd J::k) σ=J none σ:=by rw [ev]
def QKW (P:Program) (γ:GTab) (n0 N:Nat) (r:Option (List KI)) (σ:St):Prop:=match r with | some k=>ev P γ n0 N k σ | none=>False
theorem QY1 {id:Nat}:ev P γ n0 N (.code (.exit id)::k) σ=QKW P γ n0 N (QBG id k) σ:=by
 rw [ev];unfold QKW;split<;>rename_i h<;>rw [h]
theorem ev_rf {g:Operand} {ps:Array Nat} {assign body:Code}:ev P γ n0 N (.code (.rangeFunc g ps assign body)::k) σ=evRF P γ N (QAt (rho γ σ.env g)) ps assign body (QJs k) σ (fun σ'=>ev P γ n0 N k σ') (fun id σ'=>QKW P γ n0 N (QBG id k) σ') (fun σ'=>QW8 (retK k) σ'):=by
 rw [ev]
 congr 1
 funext id σ'
 unfold QKW
 split<;>rename_i h<;>rw [h]
theorem QMN {k:List KI}:QKW P γ n0 N (some k) σ=ev P γ n0 N k σ:=(rfl)
theorem QRO {id id':Nat}:QBG id (.blk id'::k)=if id'=id then some k else QBG id k:=(rfl)
theorem QP9 {id:Nat} {c:Code}:QBG id (.code c::k)=QBG id k:=(rfl)
theorem QYe {id:Nat} {J:St→Prop}:QBG id (.lp J::k)=QBG id k:=(rfl)
theorem QZY {id':Nat}:retK (.blk id'::k)=retK k:=(rfl)
theorem QUT {c:Code}:retK (.code c::k)=retK k:=(rfl)
theorem Qc9 {J:St→Prop}:retK (.lp J::k)=retK k:=(rfl)
theorem QX4 {Q:Exit→St→Prop}:retK (.fin Q::k)=some Q:=(rfl)
theorem evB_tt {yes no:Prop}:@evX (some (.v (.bool true))) true ⟨yes⟩ ⟨no⟩=yes:=by simp [evX,evB,evBb,QHP,QD5]
theorem evB_tf {yes no:Prop}:@evX (some (.v (.bool true))) false ⟨yes⟩ ⟨no⟩=no:=by simp [evX,evB,evBb,QHP,QD5]
theorem evB_ft {yes no:Prop}:@evX (some (.v (.bool false))) true ⟨yes⟩ ⟨no⟩=no:=by simp [evX,evB,evBb,QHP,QD5]
theorem evB_ff {yes no:Prop}:@evX (some (.v (.bool false))) false ⟨yes⟩ ⟨no⟩=yes:=by simp [evX,evB,evBb,QHP,QD5]
theorem QX0 {all:Array Oper} {dst:Option Nat} {op:Op} {ty:TypeId} {pos:String} {after:Array Edge}:evG P γ all ⟨dst,op,ty,pos,after,none⟩ σ K=evO P γ ⟨dst,op,ty,pos,after,none⟩ σ K:=(rfl)
def evGd (P:Program) (γ:GTab) (d:Option Nat) (want:Bool) (o:Oper) (σ:St) (K:St→Prop):Prop:=
 match d with
 | some d=>evU (QGi (lk σ.env d)) (K ⟨putE o.dst (.v undef) σ.env,σ.mem⟩) (evB (lk σ.env d) want (evO P γ o ⟨(d,.v (.bool want))::σ.env,σ.mem⟩ K) (K ⟨putE o.dst (.v undef) ((d,.v (.bool (!want)))::σ.env),σ.mem⟩))
 | none=>False
theorem QYR {l:List Oper} {dst:Option Nat} {op:Op} {ty:TypeId} {pos:String} {after:Array Edge} {j:Nat} {want:Bool}:
  evG P γ l.toArray ⟨dst,op,ty,pos,after,some (j,want)⟩ σ K=evGd P γ ((l[j]?).bind (·.dst)) want ⟨dst,op,ty,pos,after,some (j,want)⟩ σ K:=by
 unfold evG evGd;simp only [List.getElem?_toArray];cases (l[j]?).bind (·.dst)<;>rfl
def evUX (b:Bool) [s:Box] [n:Box]:Prop:=evU b s.p n.p
theorem evUX_t {s n:Prop}:@evUX true ⟨s⟩ ⟨n⟩=s:=(rfl)
theorem evUX_f {s n:Prop}:@evUX false ⟨s⟩ ⟨n⟩=n:=(rfl)
theorem Qan {b:Bool}:QGi (some (.v (.bool b)))=false:=(rfl)
theorem Qak:QGi (some (.v undef))=true:=(rfl)
attribute [push_cast] evUX_t evUX_f Qan Qak
theorem QTV {d:Nat} {want:Bool} {o:Oper}:evGd P γ (some d) want o ⟨env,m⟩ K=@evUX (QGi (lk env d)) ⟨K ⟨putE o.dst (.v undef) env,m⟩⟩ ⟨@evX (lk env d) want ⟨evO P γ o ⟨(d,.v (.bool want))::env,m⟩ K⟩ ⟨K ⟨putE o.dst (.v undef) ((d,.v (.bool (!want)))::env),m⟩⟩⟩:=(rfl)
theorem QWU {x:AV} {u:Upd} {dst:Option Nat}:evS (some (x,u)) dst ⟨env,m⟩ K=(QAZ m dst∧QBO m dst u=true∧K ⟨putE dst x env,m.upd u⟩):=(rfl)
def QN (P:Program) (γ:GTab) (env:List (Nat×AV)) (m:Mem) (dst:Option Nat) (op:Op):Option (AV×Upd):=QBR P (rho γ env) m.find (QV m dst) op
section ops
variable {dst : Option Nat} {ty : TypeId} {pos : String} {after : Array Edge} {gd : Option (Nat × Bool)}
section each
variable {all : Array Oper} {i : Nat} {log : Log} {KL : Log → St → Prop}
theorem QWO {x:Operand}:evO P γ ⟨dst,.move x,ty,pos,after,gd⟩ ⟨env,m⟩ K=evS (QN P γ env m dst (.move x)) dst ⟨env,m⟩ K:=(rfl)
theorem QUx {x:Operand}:evDO P γ all i log ⟨dst,.move x,ty,pos,after,gd⟩ ⟨env,m⟩ KL=evDS all i (fpOf γ env (.move x)) log (QN P γ env m dst (.move x)) dst ⟨env,m⟩ KL:=(rfl)
theorem QPO {x:Operand}:evO P γ ⟨dst,.assign x,ty,pos,after,gd⟩ ⟨env,m⟩ K=evS (QN P γ env m dst (.assign x)) dst ⟨env,m⟩ K:=(rfl)
theorem QMf {x:Operand}:evDO P γ all i log ⟨dst,.assign x,ty,pos,after,gd⟩ ⟨env,m⟩ KL=evDS all i (fpOf γ env (.assign x)) log (QN P γ env m dst (.assign x)) dst ⟨env,m⟩ KL:=(rfl)
theorem QZy {c a b:Operand}:evO P γ ⟨dst,.pick c a b,ty,pos,after,gd⟩ ⟨env,m⟩ K=evS (QN P γ env m dst (.pick c a b)) dst ⟨env,m⟩ K:=(rfl)
theorem QUA {c a b:Operand}:evDO P γ all i log ⟨dst,.pick c a b,ty,pos,after,gd⟩ ⟨env,m⟩ KL=evDS all i (fpOf γ env (.pick c a b)) log (QN P γ env m dst (.pick c a b)) dst ⟨env,m⟩ KL:=(rfl)
theorem QSg {e:TypeId}:evO P γ ⟨dst,.alloc e,ty,pos,after,gd⟩ ⟨env,m⟩ K=evS (QN P γ env m dst (.alloc e)) dst ⟨env,m⟩ K:=(rfl)
theorem QPY {e:TypeId}:evDO P γ all i log ⟨dst,.alloc e,ty,pos,after,gd⟩ ⟨env,m⟩ KL=evDS all i (fpOf γ env (.alloc e)) log (QN P γ env m dst (.alloc e)) dst ⟨env,m⟩ KL:=(rfl)
theorem QcN {e:TypeId} {x:Operand}:evO P γ ⟨dst,.box e x,ty,pos,after,gd⟩ ⟨env,m⟩ K=evS (QN P γ env m dst (.box e x)) dst ⟨env,m⟩ K:=(rfl)
theorem QVF {t:TypeId} {parts:Array (Nat×Operand)}:evO P γ ⟨dst,.build t parts,ty,pos,after,gd⟩ ⟨env,m⟩ K=evS (QN P γ env m dst (.build t parts)) dst ⟨env,m⟩ K:=(rfl)
theorem QQF {t:TypeId} {parts:Array (Nat×Operand)}:evDO P γ all i log ⟨dst,.build t parts,ty,pos,after,gd⟩ ⟨env,m⟩ KL=evDS all i (fpOf γ env (.build t parts)) log (QN P γ env m dst (.build t parts)) dst ⟨env,m⟩ KL:=(rfl)
theorem QHO {t:TypeId} {n:Nat} {parts:Array (Nat×Operand)}:evO P γ ⟨dst,.buildSlice t n parts,ty,pos,after,gd⟩ ⟨env,m⟩ K=evS (QN P γ env m dst (.buildSlice t n parts)) dst ⟨env,m⟩ K:=(rfl)
theorem QGX {t:TypeId} {n:Nat} {parts:Array (Nat×Operand)}:evDO P γ all i log ⟨dst,.buildSlice t n parts,ty,pos,after,gd⟩ ⟨env,m⟩ KL=evDS all i (fpOf γ env (.buildSlice t n parts)) log (QN P γ env m dst (.buildSlice t n parts)) dst ⟨env,m⟩ KL:=(rfl)
theorem QXW {t:TypeId} {x:Operand}:evO P γ ⟨dst,.load t x,ty,pos,after,gd⟩ ⟨env,m⟩ K=evS (QN P γ env m dst (.load t x)) dst ⟨env,m⟩ K:=(rfl)
theorem QRK {t:TypeId} {x:Operand}:evDO P γ all i log ⟨dst,.load t x,ty,pos,after,gd⟩ ⟨env,m⟩ KL=evDS all i (fpOf γ env (.load t x)) log (QN P γ env m dst (.load t x)) dst ⟨env,m⟩ KL:=(rfl)
theorem QVT {t:TypeId} {x y:Operand}:evO P γ ⟨dst,.store t x y,ty,pos,after,gd⟩ ⟨env,m⟩ K=evS (QN P γ env m dst (.store t x y)) dst ⟨env,m⟩ K:=(rfl)
theorem QQ8 {t:TypeId} {x y:Operand}:evDO P γ all i log ⟨dst,.store t x y,ty,pos,after,gd⟩ ⟨env,m⟩ KL=evDS all i (fpOf γ env (.store t x y)) log (QN P γ env m dst (.store t x y)) dst ⟨env,m⟩ KL:=(rfl)
theorem QKf {x:Operand}:evO P γ ⟨dst,.nilCheck x,ty,pos,after,gd⟩ ⟨env,m⟩ K=evS (QN P γ env m dst (.nilCheck x)) dst ⟨env,m⟩ K:=(rfl)
theorem QIS {x:Operand}:evDO P γ all i log ⟨dst,.nilCheck x,ty,pos,after,gd⟩ ⟨env,m⟩ KL=evDS all i (fpOf γ env (.nilCheck x)) log (QN P γ env m dst (.nilCheck x)) dst ⟨env,m⟩ KL:=(rfl)
theorem QYD {op:UnOp} {t:TypeId} {x:Operand}:evO P γ ⟨dst,.unOp op t x,ty,pos,after,gd⟩ ⟨env,m⟩ K=evS (QN P γ env m dst (.unOp op t x)) dst ⟨env,m⟩ K:=(rfl)
theorem QR7 {op:UnOp} {t:TypeId} {x:Operand}:evDO P γ all i log ⟨dst,.unOp op t x,ty,pos,after,gd⟩ ⟨env,m⟩ KL=evDS all i (fpOf γ env (.unOp op t x)) log (QN P γ env m dst (.unOp op t x)) dst ⟨env,m⟩ KL:=(rfl)
theorem QMS {s t:TypeId} {x:Operand}:evO P γ ⟨dst,.convert s t x,ty,pos,after,gd⟩ ⟨env,m⟩ K=evS (QN P γ env m dst (.convert s t x)) dst ⟨env,m⟩ K:=(rfl)
theorem QL7 {s t:TypeId} {x:Operand}:evDO P γ all i log ⟨dst,.convert s t x,ty,pos,after,gd⟩ ⟨env,m⟩ KL=evDS all i (fpOf γ env (.convert s t x)) log (QN P γ env m dst (.convert s t x)) dst ⟨env,m⟩ KL:=(rfl)
theorem QLw {fn:Fn} {f c:Array Operand}:evO P γ ⟨dst,.makeFunc fn f c,ty,pos,after,gd⟩ ⟨env,m⟩ K=evS (QN P γ env m dst (.makeFunc fn f c)) dst ⟨env,m⟩ K:=(rfl)
theorem QJP {fn:Fn} {f c:Array Operand}:evDO P γ all i log ⟨dst,.makeFunc fn f c,ty,pos,after,gd⟩ ⟨env,m⟩ KL=evDS all i (fpOf γ env (.makeFunc fn f c)) log (QN P γ env m dst (.makeFunc fn f c)) dst ⟨env,m⟩ KL:=(rfl)
theorem QNj {t:TypeId} {r:Option Operand}:evO P γ ⟨dst,.makeMap t r,ty,pos,after,gd⟩ ⟨env,m⟩ K=evS (QN P γ env m dst (.makeMap t r)) dst ⟨env,m⟩ K:=(rfl)
theorem QIV {t:TypeId} {l c:Operand}:evO P γ ⟨dst,.makeSlice t l c,ty,pos,after,gd⟩ ⟨env,m⟩ K=evS (QN P γ env m dst (.makeSlice t l c)) dst ⟨env,m⟩ K:=(rfl)
theorem QRR {t:TypeId} {x:Operand} {lo hi mx:Option Operand}:evO P γ ⟨dst,.slice t x lo hi mx,ty,pos,after,gd⟩ ⟨env,m⟩ K=evS (QN P γ env m dst (.slice t x lo hi mx)) dst ⟨env,m⟩ K:=(rfl)
theorem QPM {t:TypeId} {x:Operand} {lo hi mx:Option Operand}:evDO P γ all i log ⟨dst,.slice t x lo hi mx,ty,pos,after,gd⟩ ⟨env,m⟩ KL=evDS all i (fpOf γ env (.slice t x lo hi mx)) log (QN P γ env m dst (.slice t x lo hi mx)) dst ⟨env,m⟩ KL:=(rfl)
theorem QI6 {t:TypeId} {x:Operand} {f:Nat}:evO P γ ⟨dst,.fieldAddr t x f,ty,pos,after,gd⟩ ⟨env,m⟩ K=evS (QN P γ env m dst (.fieldAddr t x f)) dst ⟨env,m⟩ K:=(rfl)
theorem QHS {t:TypeId} {x:Operand} {f:Nat}:evDO P γ all i log ⟨dst,.fieldAddr t x f,ty,pos,after,gd⟩ ⟨env,m⟩ KL=evDS all i (fpOf γ env (.fieldAddr t x f)) log (QN P γ env m dst (.fieldAddr t x f)) dst ⟨env,m⟩ KL:=(rfl)
theorem QQe {t:TypeId} {x:Operand} {f:Nat}:evDO P γ all i log ⟨dst,.field t x f,ty,pos,after,gd⟩ ⟨env,m⟩ KL=evDS all i (fpOf γ env (.field t x f)) log (QN P γ env m dst (.field t x f)) dst ⟨env,m⟩ KL:=(rfl)
theorem QJV {t:TypeId} {x i:Operand}:evO P γ ⟨dst,.indexAddr t x i,ty,pos,after,gd⟩ ⟨env,m⟩ K=evS (QN P γ env m dst (.indexAddr t x i)) dst ⟨env,m⟩ K:=(rfl)
theorem QHQ {t:TypeId} {x i0:Operand}:evDO P γ all i log ⟨dst,.indexAddr t x i0,ty,pos,after,gd⟩ ⟨env,m⟩ KL=evDS all i (fpOf γ env (.indexAddr t x i0)) log (QN P γ env m dst (.indexAddr t x i0)) dst ⟨env,m⟩ KL:=(rfl)
theorem QRf {t:TypeId} {x i:Operand}:evO P γ ⟨dst,.index t x i,ty,pos,after,gd⟩ ⟨env,m⟩ K=evS (QN P γ env m dst (.index t x i)) dst ⟨env,m⟩ K:=(rfl)
theorem QPE {t:TypeId} {x i:Operand} {ok:Bool}:evO P γ ⟨dst,.lookup t x i ok,ty,pos,after,gd⟩ ⟨env,m⟩ K=evS (QN P γ env m dst (.lookup t x i ok)) dst ⟨env,m⟩ K:=(rfl)
theorem QNc {t:TypeId} {x i0:Operand} {ok:Bool}:evDO P γ all i log ⟨dst,.lookup t x i0 ok,ty,pos,after,gd⟩ ⟨env,m⟩ KL=evDS all i (fpOf γ env (.lookup t x i0 ok)) log (QN P γ env m dst (.lookup t x i0 ok)) dst ⟨env,m⟩ KL:=(rfl)
theorem QJF {t:TypeId} {x i y:Operand}:evO P γ ⟨dst,.mapUpdate t x i y,ty,pos,after,gd⟩ ⟨env,m⟩ K=evS (QN P γ env m dst (.mapUpdate t x i y)) dst ⟨env,m⟩ K:=(rfl)
theorem QHW {t:TypeId} {x i0 y:Operand}:evDO P γ all i log ⟨dst,.mapUpdate t x i0 y,ty,pos,after,gd⟩ ⟨env,m⟩ KL=evDS all i (fpOf γ env (.mapUpdate t x i0 y)) log (QN P γ env m dst (.mapUpdate t x i0 y)) dst ⟨env,m⟩ KL:=(rfl)
theorem QMK {x:Operand} {i:Nat}:evO P γ ⟨dst,.extract x i,ty,pos,after,gd⟩ ⟨env,m⟩ K=evS (QN P γ env m dst (.extract x i)) dst ⟨env,m⟩ K:=(rfl)
theorem QKX {x:Operand} {i0:Nat}:evDO P γ all i log ⟨dst,.extract x i0,ty,pos,after,gd⟩ ⟨env,m⟩ KL=evDS all i (fpOf γ env (.extract x i0)) log (QN P γ env m dst (.extract x i0)) dst ⟨env,m⟩ KL:=(rfl)
theorem QYl {t yT:TypeId} {x y:Operand}:evO P γ ⟨dst,.binOp .add t x y yT,ty,pos,after,gd⟩ ⟨env,m⟩ K=evS (QN P γ env m dst (.binOp .add t x y yT)) dst ⟨env,m⟩ K:=(rfl)
theorem QXd {t yT:TypeId} {x y:Operand}:evO P γ ⟨dst,.binOp .sub t x y yT,ty,pos,after,gd⟩ ⟨env,m⟩ K=evS (QN P γ env m dst (.binOp .sub t x y yT)) dst ⟨env,m⟩ K:=(rfl)
theorem QWn {t yT:TypeId} {x y:Operand}:evO P γ ⟨dst,.binOp .mul t x y yT,ty,pos,after,gd⟩ ⟨env,m⟩ K=evS (QN P γ env m dst (.binOp .mul t x y yT)) dst ⟨env,m⟩ K:=(rfl)
theorem QVb {t yT:TypeId} {x y:Operand}:evO P γ ⟨dst,.binOp .quo t x y yT,ty,pos,after,gd⟩ ⟨env,m⟩ K=evS (QN P γ env m dst (.binOp .quo t x y yT)) dst ⟨env,m⟩ K:=(rfl)
theorem QZT {t yT:TypeId} {x y:Operand}:evO P γ ⟨dst,.binOp .rem t x y yT,ty,pos,after,gd⟩ ⟨env,m⟩ K=evS (QN P γ env m dst (.binOp .rem t x y yT)) dst ⟨env,m⟩ K:=(rfl)
theorem QW2 {t yT:TypeId} {x y:Operand}:evO P γ ⟨dst,.binOp .and t x y yT,ty,pos,after,gd⟩ ⟨env,m⟩ K=evS (QN P γ env m dst (.binOp .and t x y yT)) dst ⟨env,m⟩ K:=(rfl)
theorem Qdy {t yT:TypeId} {x y:Operand}:evO P γ ⟨dst,.binOp .or t x y yT,ty,pos,after,gd⟩ ⟨env,m⟩ K=evS (QN P γ env m dst (.binOp .or t x y yT)) dst ⟨env,m⟩ K:=(rfl)
theorem QXo {t yT:TypeId} {x y:Operand}:evO P γ ⟨dst,.binOp .xor t x y yT,ty,pos,after,gd⟩ ⟨env,m⟩ K=evS (QN P γ env m dst (.binOp .xor t x y yT)) dst ⟨env,m⟩ K:=(rfl)
theorem QY9 {t yT:TypeId} {x y:Operand}:evO P γ ⟨dst,.binOp .shl t x y yT,ty,pos,after,gd⟩ ⟨env,m⟩ K=evS (QN P γ env m dst (.binOp .shl t x y yT)) dst ⟨env,m⟩ K:=(rfl)
theorem QYB {t yT:TypeId} {x y:Operand}:evO P γ ⟨dst,.binOp .shr t x y yT,ty,pos,after,gd⟩ ⟨env,m⟩ K=evS (QN P γ env m dst (.binOp .shr t x y yT)) dst ⟨env,m⟩ K:=(rfl)
theorem QMY {t yT:TypeId} {x y:Operand}:evO P γ ⟨dst,.binOp .andNot t x y yT,ty,pos,after,gd⟩ ⟨env,m⟩ K=evS (QN P γ env m dst (.binOp .andNot t x y yT)) dst ⟨env,m⟩ K:=(rfl)
theorem QXP {t yT:TypeId} {x y:Operand}:evO P γ ⟨dst,.binOp .lss t x y yT,ty,pos,after,gd⟩ ⟨env,m⟩ K=evS (QN P γ env m dst (.binOp .lss t x y yT)) dst ⟨env,m⟩ K:=(rfl)
theorem QZw {t yT:TypeId} {x y:Operand}:evO P γ ⟨dst,.binOp .leq t x y yT,ty,pos,after,gd⟩ ⟨env,m⟩ K=evS (QN P γ env m dst (.binOp .leq t x y yT)) dst ⟨env,m⟩ K:=(rfl)
theorem QWH {t yT:TypeId} {x y:Operand}:evO P γ ⟨dst,.binOp .gtr t x y yT,ty,pos,after,gd⟩ ⟨env,m⟩ K=evS (QN P γ env m dst (.binOp .gtr t x y yT)) dst ⟨env,m⟩ K:=(rfl)
theorem QXw {t yT:TypeId} {x y:Operand}:evO P γ ⟨dst,.binOp .geq t x y yT,ty,pos,after,gd⟩ ⟨env,m⟩ K=evS (QN P γ env m dst (.binOp .geq t x y yT)) dst ⟨env,m⟩ K:=(rfl)
theorem QWK {op:BinOp} {t yT:TypeId} {x y:Operand}:evDO P γ all i log ⟨dst,.binOp op t x y yT,ty,pos,after,gd⟩ ⟨env,m⟩ KL=evDS all i (fpOf γ env (.binOp op t x y yT)) log (QN P γ env m dst (.binOp op t x y yT)) dst ⟨env,m⟩ KL:=(rfl)
theorem QNY {b:Builtin} {args:Array Operand} {ts:Array TypeId}:evO P γ ⟨dst,.call ⟨.builtin b,args,ts⟩,ty,pos,after,gd⟩ ⟨env,m⟩ K=evS (QN P γ env m dst (.call ⟨.builtin b,args,ts⟩)) dst ⟨env,m⟩ K:=(rfl)
theorem QKz {b:Builtin} {args:Array Operand} {ts:Array TypeId}:evDO P γ all i log ⟨dst,.call ⟨.builtin b,args,ts⟩,ty,pos,after,gd⟩ ⟨env,m⟩ KL=evDS all i (fpOf γ env (.call ⟨.builtin b,args,ts⟩)) log (QN P γ env m dst (.call ⟨.builtin b,args,ts⟩)) dst ⟨env,m⟩ KL:=(rfl)
end each
def plainOp:Op→Bool
 | .call ⟨.builtin _,_,_⟩=>true
 | .call _=>false
 | .binOp op _ _ _ _=>(match op with | .eql=>false | .neq=>false | _=>true)
 | .next _ _=>false
 | _=>true
theorem QYO {x:Operand} {b:Bool}:evO P γ ⟨dst,.next x b,ty,pos,after,gd⟩ ⟨env,m⟩ K=QMH (rho γ env x) b dst ⟨env,m⟩ K:=(rfl)
theorem QUJ {t:TypeId} {x:Operand}:evO P γ ⟨dst,.range t x,ty,pos,after,gd⟩ ⟨env,m⟩ K=evS (QN P γ env m dst (.range t x)) dst ⟨env,m⟩ K:=(rfl)
theorem QSQ {x:Operand}:evO P γ ⟨dst,.entry x,ty,pos,after,gd⟩ ⟨env,m⟩ K=evS (QN P γ env m dst (.entry x)) dst ⟨env,m⟩ K:=(rfl)
theorem QbX {t yT:TypeId} {x y:Operand}:evO P γ ⟨dst,.binOp .eql t x y yT,ty,pos,after,gd⟩ ⟨env,m⟩ K=evN (QDL P t (unf (rho γ env x)) (rho γ env y)) false dst ⟨env,m⟩ K (evS (QN P γ env m dst (.binOp .eql t x y yT)) dst ⟨env,m⟩ K):=(rfl)
theorem QbR {t yT:TypeId} {x y:Operand}:evO P γ ⟨dst,.binOp .neq t x y yT,ty,pos,after,gd⟩ ⟨env,m⟩ K=evN (QDL P t (unf (rho γ env x)) (rho γ env y)) true dst ⟨env,m⟩ K (evS (QN P γ env m dst (.binOp .neq t x y yT)) dst ⟨env,m⟩ K):=(rfl)
theorem QYE {neg:Bool} {other:Prop}:evN none neg dst σ K other=other:=(rfl)
theorem QWb {n:Nat} {neg:Bool} {other:Prop}:evN (some n) neg dst ⟨env,m⟩ K other=(QAZ m dst∧(n=0→K ⟨putE dst (.v (.bool (!neg))) env,m⟩)∧K ⟨putE dst (.v (.bool neg)) env,m⟩):=(rfl)
theorem QWS {f:Operand} {args:List Operand} {ts:Array TypeId}:evO P γ ⟨dst,.call ⟨.value f,args.toArray,ts⟩,ty,pos,after,gd⟩ ⟨env,m⟩ K=evY P γ (QMP (rho γ env f)) (args.map (rho γ env)) dst ⟨env,m⟩ K (evC P γ (QAt (rho γ env f)) (args.map (rho γ env)) dst ⟨env,m⟩ K):=by
 simp [evO]
theorem Qa6 {x:Value}:QMP (.v x)=none:=(rfl)
theorem QSc {fn:Fn} {a c:List AV}:QMP (.clo fn a c)=none:=(rfl)
theorem QT3 {o:Nat}:QMP (.yld o)=some o:=(rfl)
theorem QZh {args:List AV} {other:Prop}:evY P γ none args dst σ K other=other:=(rfl)
theorem QW1 {o:Nat} {args:List AV} {other:Prop}:evY P γ (some o) args dst ⟨env,m⟩ K other=(QAZ m dst∧QD2 P γ o (args.map unf) m (QRs dst env K)):=(rfl)
theorem Qas {o:Nat}:unf (.yld o)=.yld o:=(rfl)
theorem QZg {g:FuncId} {a c args:List AV}:evC P γ (some (g,a,c)) args dst ⟨env,m⟩ K=(QAZ m dst∧Qr P γ g ((a++args++c).map unf) m (QRs dst env K)):=(rfl)
variable {all : Array Oper} {i : Nat} {log : Log} {KL : Log → St → Prop} {KS : St → Prop} {rd : List Nat}
theorem QV1:evDL P γ all i [] KS log ⟨env,m⟩=KS ⟨env,m.close⟩:=(rfl)
theorem QVV {o:Oper} {l:List Oper}:evDL P γ all i (o::l) KS log σ=evDG P γ all i log o σ (evDL P γ all (i+1) l KS):=(rfl)
theorem QRw {op:Op}:evDG P γ all i log ⟨dst,op,ty,pos,after,none⟩ σ KL=evDO P γ all i log ⟨dst,op,ty,pos,after,none⟩ σ KL:=(rfl)
def QeO (P:Program) (γ:GTab) (all:Array Oper) (i:Nat) (log:Log) (d:Option Nat) (want:Bool) (o:Oper) (σ:St) (K:Log→St→Prop):Prop:=
 match d with
 | some d=>evU (QGi (lk σ.env d)) (K log ⟨putE o.dst (.v undef) σ.env,σ.mem⟩) (evB (lk σ.env d) want (evDO P γ all i log o ⟨(d,.v (.bool want))::σ.env,σ.mem⟩ K) (K log ⟨putE o.dst (.v undef) ((d,.v (.bool (!want)))::σ.env),σ.mem⟩))
 | none=>False
theorem QSa {l:List Oper} {op:Op} {j:Nat} {want:Bool}:
  evDG P γ l.toArray i log ⟨dst,op,ty,pos,after,some (j,want)⟩ σ KL=QeO P γ l.toArray i log ((l[j]?).bind (·.dst)) want ⟨dst,op,ty,pos,after,some (j,want)⟩ σ KL:=by
 unfold evDG QeO;simp only [List.getElem?_toArray];cases (l[j]?).bind (·.dst)<;>rfl
theorem QPh {d:Nat} {want:Bool} {o:Oper}:QeO P γ all i log (some d) want o ⟨env,m⟩ KL=@evUX (QGi (lk env d)) ⟨KL log ⟨putE o.dst (.v undef) env,m⟩⟩ ⟨@evX (lk env d) want ⟨evDO P γ all i log o ⟨(d,.v (.bool want))::env,m⟩ KL⟩ ⟨KL log ⟨putE o.dst (.v undef) ((d,.v (.bool (!want)))::env),m⟩⟩⟩:=(rfl)
theorem QTB {f:Operand} {args:List Operand} {ts:Array TypeId}:evDO P γ all i log ⟨dst,.call ⟨.value f,args.toArray,ts⟩,ty,pos,after,gd⟩ ⟨env,m⟩ KL=evDC P γ all i log (QAt (rho γ env f)) (args.map (rho γ env)) dst ⟨env,m⟩ KL:=by
 simp [evDO]
theorem QVP {x:AV} {u:Upd}:evDS all i rd log (some (x,u)) dst ⟨env,m⟩ KL=(QAZ m dst∧QBO m dst u=true∧QBL all i rd (wrOf u) log=true∧KL ((i,rd,wrOf u)::log) ⟨putE dst x env,m.upd u⟩):=(rfl)
theorem QRM {g:FuncId} {a c args:List AV}:evDC P γ all i log (some (g,a,c)) args dst ⟨env,m⟩ KL=QO P γ all i log g ((a++args++c).map unf) (QJ m.find ((a++args++c).map unf)) dst ⟨env,m⟩ KL:=(rfl)
end ops
section steps
variable {dst : Option Nat}
theorem QPK {x:Operand}:QN P γ env m dst (.move x)=some (rho γ env x,[]):=(rfl)
theorem QKg {x:Operand}:QN P γ env m dst (.assign x)=some (rho γ env x,[]):=(rfl)
def QQl (c a b:AV):Option (AV×Upd):=match c with
 | .v (.bool t)=>match a,b with
  | .v (.bool x),.v (.bool y)=>some (.v (.bool (bif t then x else y)),[])
  | x,y=>some (bif t then x else y,[])
 | _=>none
theorem QQP {c a b:Operand}:QN P γ env m dst (.pick c a b)=QQl (unf (rho γ env c)) (unf (rho γ env a)) (unf (rho γ env b)):=(rfl)
theorem QQj {t x y:Bool}:QQl (.v (.bool t)) (.v (.bool x)) (.v (.bool y))=some (.v (.bool (bif t then x else y)),[]):=(rfl)
theorem QcV {x y:AV}:QQl (.v (.bool true)) x y=some (x,[]):=by
 simp only [QQl,cond_true];split<;>rfl
theorem QdK {x y:AV}:QQl (.v (.bool false)) x y=some (y,[]):=by
 simp only [QQl,cond_false];split<;>rfl
def QRQ (z:Option (List Value)) (e fresh:Nat):Option (AV×Upd):=z.map fun zs=>(.ptr fresh 0,[(fresh,.cells e (zs.map .v) false)])
theorem QMt {e:TypeId}:QN P γ env m dst (.alloc e)=QRQ (tz P e) e (QV m dst):=by
 simp only [QN,QBR,Qm,QRQ];cases tz P e<;>rfl
def boxA (c:Option (List AV)) (e fresh:Nat):Option (AV×Upd):=c.map fun cs=>(.ptr fresh 0,[(fresh,.cells e cs false)])
theorem QRg {e:TypeId} {x:Operand}:QN P γ env m dst (.box e x)=boxA (QR (unf (rho γ env x))) e (QV m dst):=by
 simp only [QN,QBR,Qm,boxA];cases QR (unf (rho γ env x))<;>rfl
theorem QQ5 {t:TypeId} {x:Operand}:QN P γ env m dst (.load t x)=(if tok P t then (QE3 P m.find t (unf (rho γ env x))).map fun x=>(x,[]) else none):=(rfl)
theorem QMQ {t:TypeId} {x y:Operand}:QN P γ env m dst (.store t x y)=((QD6 P m.find t (unf (rho γ env x)) (unf (rho γ env y))).map fun u=>(.v undef,u)):=(rfl)
def QGq (x:AV):Option (AV×Upd):=match x with
  | .ptr o off=>some (.ptr o off,[])
  | .rop xs=>some (.rop xs,[])
  | .clo (.func f) a c=>some (.clo (.func f) a c,[])
  | .v (.func (.func f) a c)=>some (.v (.func (.func f) a c),[])
  | _=>none
theorem QHX {x:Operand}:QN P γ env m dst (.nilCheck x)=QGq (unf (rho γ env x)):=(rfl)
def binA (P:Program) (op:BinOp) (t:TypeId) (x y:Operand) (a b:AV):Option (AV×Upd):=
  match a.val?,b.val? with
  | some p,some q=>(pbin P op t x y p q).map fun v=>(.v v,[])
  | _,_=>match op with
   | .eql=>if QJG P t a b then some (.v (.bool false),[]) else none
   | .neq=>if QJG P t a b then some (.v (.bool true),[]) else none
   | _=>none
theorem QUH {op:BinOp} {t yT:TypeId} {x y:Operand}:QN P γ env m dst (.binOp op t x y yT)=binA P op t x y (unf (rho γ env x)) (unf (rho γ env y)):=(rfl)
theorem binA_v {op:BinOp} {t:TypeId} {x y:Operand} {p q:Value}:binA P op t x y (.v p) (.v q)=(pbin P op t x y p q).map fun v=>(.v v,[]):=(rfl)
def unA (P:Program) (op:UnOp) (x:Option Value):Option (AV×Upd):=x.bind fun a=>(prun P (Op.unary op a)).map fun v=>(.v v,[])
theorem QXa {op:UnOp} {t:TypeId} {x:Operand}:QN P γ env m dst (.unOp op t x)=unA P op (unf (rho γ env x)).val?:=by
 simp only [QN,QBR,Qm,unA];cases (unf (rho γ env x)).val?<;>rfl
def QCa (P:Program) (fs:Option (List (Nat×TypeId))) (f:Nat) (x:AV):Option (AV×Upd):=match fs with
  | some fs=>match fs[f]?,x with
   | some fl,.ptr o off=>if tok P fl.2∧tsz P fl.2≠0 then some (.ptr o (off+fl.1),[]) else none
   | some fl,.rop xs=>if tok P fl.2∧tsz P fl.2≠0 then some (.rop (xs.drop fl.1),[]) else none
   | _,_=>none
  | none=>none
theorem QGm {s:TypeId} {x:Operand} {f:Nat}:QN P γ env m dst (.fieldAddr s x f)=QCa P (QBM P s) f (unf (rho γ env x)):=(rfl)
theorem QHN {t:TypeId} {x i:Operand}:QN P γ env m dst (.indexAddr t x i)=((QAC P t (unf (rho γ env x)) (unf (rho γ env i))).map fun x=>(x,[])):=(rfl)
theorem QM7 {t:TypeId} {x i:Operand}:QN P γ env m dst (.index t x i)=((QFb P t (unf (rho γ env x)) (unf (rho γ env i))).map fun x=>(x,[])):=(rfl)
theorem QJS {b:Builtin} {args:List Operand} {ts:Array TypeId}:QN P γ env m dst (.call ⟨.builtin b,args.toArray,ts⟩)=QAH P m.find (QV m dst) b ts (args.map (rho γ env)):=by
 simp [QN,QBR]
end steps
theorem QZD:wrOf []=[]:=(rfl)
theorem QcE {γ:GTab} {env:List (Nat×AV)} {op:Op}:fpOf γ env op=op.operands.toList.flatMap fun x=>oids (rho γ env x):=(rfl)
theorem oids_v {x:Value}:oids (.v x)=[]:=(rfl)
theorem QZ1 {x:List AV}:oids (.agg x)=[]:=(rfl)
theorem QY8 {x:List AV}:oids (.tup x)=[]:=(rfl)
theorem QXu {n z:Nat} {x:List AV}:oids (.seq n z x)=[]:=(rfl)
theorem QZU {x:List AV}:oids (.rop x)=[]:=(rfl)
theorem QY6 {o off:Nat}:oids (.ptr o off)=[o]:=(rfl)
theorem QcG {o off n z:Nat}:oids (.sl o off n z)=[o]:=(rfl)
theorem QcX {o:Nat}:oids (.mp o)=[o]:=(rfl)
theorem Qcg {k:KT} {ks:List Value} {x:List AV}:oids (.mv k ks x)=[]:=(rfl)
attribute [push_cast] QcE oids_v QZ1 QY8 QXu QZU QY6 QcG QcX Qcg
theorem QVp {P:Program} {γ:GTab} {n0 N:Nat} {k:List KI} {σ σ':St} (h:σ=σ'):ev P γ n0 N k σ=ev P γ n0 N k σ':=by rw [h]
theorem QUh {r r':Option (AV×Upd)} {dst:Option Nat} {σ:St} {K:St→Prop} (h:r=r'):evS r dst σ K=evS r' dst σ K:=by rw [h]
theorem QR9 {r r':Option Nat} {neg:Bool} {dst:Option Nat} {σ:St} {K:St→Prop} {o:Prop} (h:r=r'):evN r neg dst σ K o=evN r' neg dst σ K o:=by rw [h]
theorem QS5 {P:Program} {γ:GTab} {r r':Option (FuncId×List AV×List AV)} {args args':List AV} {dst:Option Nat} {σ:St} {K:St→Prop} (h:r=r') (h':args=args'):evC P γ r args dst σ K=evC P γ r' args' dst σ K:=by rw [h,h']
theorem QUL {P:Program} {γ:GTab} {r r':Option Nat} {args:List AV} {dst:Option Nat} {σ:St} {K:St→Prop} {other:Prop} (h:r=r'):evY P γ r args dst σ K other=evY P γ r' args dst σ K other:=by rw [h]
theorem QPR {o o':Nat} {σ σ':St} {K:St→Prop} {ob ob':Option AObj} (h:o=o') (hs:σ=σ') (hb:ob=ob'):evBg o σ K ob=evBg o' σ' K ob':=by rw [h,hs,hb]
theorem QQE {P:Program} {γ:GTab} {N:Nat} {r r':Option (FuncId×List AV×List AV)} {ps:Array Nat} {assign body:Code} {nr nr':Bool} {σ:St} {K:St→Prop} {E:Nat→St→Prop} {R:St→Prop} (h:r=r') (hn:nr=nr'):evRF P γ N r ps assign body nr σ K E R=evRF P γ N r' ps assign body nr' σ K E R:=by rw [h,hn]
theorem QMs {o o':Nat} {env:List (Nat×AV)} {K:St→Prop} {E:Nat→St→Prop} {R:St→Prop} {m m':Mem} {ob ob':Option AObj} (h:o=o') (hm:m=m') (hb:ob=ob'):QQG o env K E R m ob=QQG o' env K E R m' ob':=by rw [h,hm,hb]
theorem QKF {P:Program} {γ:GTab} {o o':Nat} {xs xs':List AV} {m m':Mem} {K:AV→Mem→Prop} (h:o=o') (hx:xs=xs') (hm:m=m'):QD2 P γ o xs m K=QD2 P γ o' xs' m' K:=by rw [h,hx,hm]
theorem QQy {all:Array Oper} {i:Nat} {rd rd':List Nat} {log:Log} {r r':Option (AV×Upd)} {dst:Option Nat} {σ:St} {K:Log→St→Prop} (h:r=r') (h2:rd=rd'):evDS all i rd log r dst σ K=evDS all i rd' log r' dst σ K:=by rw [h,h2]
theorem QQ6 {P:Program} {γ:GTab} {all:Array Oper} {i i':Nat} {l:List Oper} {K:St→Prop} {log:Log} {σ σ':St} (h:i=i') (hs:σ=σ'):evDL P γ all i l K log σ=evDL P γ all i' l K log σ':=by rw [h,hs]
theorem QMC {P:Program} {γ:GTab} {f f':FuncId} {xs xs':List AV} {m m':Mem} {K:AV→Mem→Prop} (hf:f=f') (hx:xs=xs') (hm:m=m'):Qr P γ f xs m K=Qr P γ f' xs' m' K:=by rw [hf,hx,hm]
attribute [congr] QVp QUh QR9 QS5 QQy QQ6 QMC QUL QPR QQE QMs QKF
theorem QRS {d:Nat} {x:AV} {env:List (Nat×AV)}:putE (some d) x env=(d,x)::env:=(rfl)
theorem QUq {x:AV} {env:List (Nat×AV)}:putE none x env=env:=(rfl)
theorem QdS {γ:GTab} {env:List (Nat×AV)} {t:Nat}:rho γ env (.tmp t)=(lk env t).getD .top:=(rfl)
theorem QSv {γ:GTab} {env:List (Nat×AV)} {c:Value}:rho γ env (.const c)=.v c:=(rfl)
theorem QWQ {γ:GTab} {env:List (Nat×AV)} {f:Nat}:rho γ env (.func f)=.v (.func (.func f) #[] #[]):=(rfl)
theorem Qd1 {α:Type} {n m:Nat} {x:α} {e:List (Nat×α)}:lk ((n,x)::e) m=if n=m then some x else lk e m:=(rfl)
theorem lk_nil {α:Type} {m:Nat}:lk ([]:List (Nat×α)) m=none:=(rfl)
theorem QTT {env:List (Nat×AV)} {t:Nat} {b:Bool}:QNF env (.tmp t) b=(t,.v (.bool b))::env:=(rfl)
theorem Qcv {objs:List (Nat×AObj)} {n b w N:Nat}:Mem.open_ ⟨objs,n,b,w⟩ N=⟨objs,n+N,n,N⟩:=(rfl)
theorem QYo {objs:List (Nat×AObj)} {n b w:Nat}:Mem.close ⟨objs,n,b,w⟩=⟨objs,n,n,0⟩:=(rfl)
theorem QP7 {objs:List (Nat×AObj)} {n b w d:Nat}:QAZ ⟨objs,n,b,w⟩ (some d)=(d<w):=(rfl)
theorem QQA {m:Mem}:QAZ m none=True:=(rfl)
theorem QeV {objs:List (Nat×AObj)} {n b w o:Nat}:Mem.find ⟨objs,n,b,w⟩ o=lk objs o:=(rfl)
theorem Qdg {m:Mem}:Mem.upd m []=m:=by cases m;rfl
theorem QbC {P:Program} {find:Nat→Option AObj} {fr n sz:Nat} {xs:List AV} {t:TypeId} {ts:List TypeId}:QY P find fr .len (t::ts).toArray [.seq n sz xs]=match tarr P t with | some (n,_)=>some (.v (.int .i64 n),[]) | none=>if QBo P t=some 0 then some (.v (.int .i64 n),[]) else none:=by
 simp [QY,lenA]
 cases tarr P t<;>simp
attribute [push_cast] ev_bg ev_rnd ev_rf Qa6 QSc QT3 QZh QW1 Qas
attribute [push_cast] ev_fin ev_blk ev_lp Qbo ev_ops QSn QXn ev_seq QeG QYZ QeU ev_ret QPA QY1 QMN QRO QP9 QYe QZY QUT Qc9 QX4 evB_tt evB_tf evB_ft evB_ff QX0 QYR QTV QWU QWO QUx QPO QMf QZy QUA QSg QPY QcN QVF QQF QHO QGX QXW QRK QVT QQ8 QKf QIS QYD QR7 QMS QL7 QLw QJP QNj QIV QRR QPM QI6 QHS QQe QJV QHQ QRf QPE QNc QJF QHW QMK QKX QYl QXd QWn QVb QZT QW2 Qdy QXo QY9 QYB QMY QXP QZw QWH QXw QWK QNY QKz QbX QbR QYE QWb QWS QZg QV1 QVV QRw QSa QPh QTB QVP QZD QRM QPK QKg QQP QQj QcV QdK QMt QRg QQ5 QMQ QHX QUH binA_v QXa QGm QHN QM7 QJS QRS QUq QdS QSv QWQ Qd1 lk_nil QTT Qcv QYo QP7 QQA QeV Qdg QbC
attribute [push_cast] Option.getD_some Option.map_some Option.map_none Option.bind_some Option.bind_none Option.some.injEq Prod.mk.injEq List.map_cons List.map_nil List.append_assoc List.nil_append List.append_nil List.cons_append true_and and_true if_true if_false ite_true ite_false List.getElem?_cons_zero List.getElem?_cons_succ List.getElem?_nil List.flatMap_cons List.flatMap_nil
variable {P : Program} {γ : GTab} {n0 N : Nat} {m0 : Mem} {S0 : Nat → Nat → Prop} {μs : Nat → Option (Nat × Nat)} {w0 : World}
def Post (P:Program) (γ:GTab) (n0 N:Nat) (m0:Mem) (S0:Nat→Nat→Prop) (μs:Nat→Option (Nat×Nat)) (w0:World) (k:List KI):Exit→Act→World→Prop
 | .normal,a,w=>∃σ,ev P γ n0 N k σ∧RX γ N n0 m0 S0 μs w0 σ a w
 | .exit id,a,w=>∃σ k',QBG id k=some k'∧ev P γ n0 N k' σ∧RX γ N n0 m0 S0 μs w0 σ a w
 | .ret,a,w=>∃σ Q,retK k=some Q∧Q .ret σ∧RX γ N n0 m0 S0 μs w0 σ a w
 | _,_,_=>False
theorem QeF {id:Nat} {k:List KI} {σ:St}:ev P γ n0 N (.blk id::k) σ=ev P γ n0 N k σ:=by rw [ev]
theorem Qc6 {k:List KI} {σ:St}:ev P γ n0 N (.scp::k) σ=ev P γ n0 N k σ:=by rw [ev]
theorem QaF {J:St→Prop} {k:List KI} {σ:St}:ev P γ n0 N (.lp J::k) σ=J σ:=by rw [ev]
theorem RX.ent {σ σ':St} {a:Act} {w:World} (h:RX γ N n0 m0 S0 μs w0 σ a w) (he:Ent n0 σ σ'):RX γ N n0 m0 S0 μs w0 σ' a w:=by
 obtain⟨S,μ,hA,hG,hE,hN,hb,hwid⟩:=h
 obtain⟨S',μ',h1,h2,g1,g2,h3,h4,h5,h6,h7⟩:=he S μ w a hA.rm hA.env
 refine⟨S',μ',⟨h1,h2,QCU.of (fun _ _ _=>rfl) (fun b _ h hx=>h (h7 b hx)) (fun b off _ hs=>g2 b off hs) hA.defers⟩,⟨fun g vs hg j v hv=>?_,hG.2⟩,⟨hE.os,hE.tape,hE.output,hE.size,fun o ho=>(h3 o ho).trans (hE.ids o ho),fun o ho hf=>hE.objs o ho (h4 o ho hf),by have:=h1.le;omega,fun b off h=>g1 b off (hE.sub b off h),fun b off hb h=>?_,hE.cell,hE.map,
  fun b hb ho=>⟨(hE.blk b hb ho).1,fun hx=>(hE.blk b hb ho).2 (h7 b hx)⟩,hE.bsz,hE.uf⟩,hN,h5,by omega⟩
 ·obtain⟨k1,k2,k3⟩:=hG.1 g vs hg j v hv
  exact⟨g1 _ _ k1,k2,k3⟩
 ·rcases g2 b off h with h | h
  ·exact hE.new b off hb h
  ·by_cases ho:Q6 m0 μs b
   ·exact .inr ho
   ·exact absurd h (hE.blk b hb ho).2
theorem QIv {F:Fence} {n:Nat} {c:Code} {Q:Exit→Act→World→Prop} {ι:Type} (I:ι→Act→World→Prop) (ms:ι→Nat)
  (round:∀i a w,I i a w→c.wpIn F n P (Exit.then (fun a' w'=>∃j,ms j<ms i∧I j a' w') Q) a w):∀(i:ι) (a:Act) (w:World),I i a w→(Code.loop c).wpIn F n P Q a w:=by
 intro i a w hi b k cs hro hb hr
 have key:∀q i a w,ms i=q→I i a w→
   ∃e a' w',Q e a' w'∧ArrivesIn (Machine.fenced P F) P (lone (b.atR a (.code c::.inLoop c::k)) cs w) b k cs e a' w':=by
  intro q
  induction q using Nat.strongRecOn with
  | _ q ih=>
   intro i a w hn hI
   obtain⟨e,a₁,w₁,hq,harr⟩:=round i a w hI b (.inLoop c::k) cs hro hb hr
   cases e with
   | normal=>
    obtain⟨j,hlt,hI₁⟩:=hq
    obtain⟨e₂,a₂,w₂,hq₂,harr₂⟩:=ih (ms j) (hn▸hlt) j a₁ w₁ rfl hI₁
    exact⟨e₂,a₂,w₂,hq₂,.of_steps (StepsIn.trans harr (.one (fenced_calm hb hr rfl) stepR_inLoop)) harr₂⟩
   | exit id=>exact⟨_,a₁,w₁,hq,.pass (x:=.inLoop c) rfl (fun _ _=>.inl (by simp)) harr⟩
   | goto l=>exact⟨_,a₁,w₁,hq,.pass (x:=.inLoop c) rfl (fun _ _=>.inl (by simp)) harr⟩
   | ret=>exact⟨_,a₁,w₁,hq,.pass (x:=.inLoop c) rfl (fun _ _=>.inl (by simp)) harr⟩
   | panic ch=>exact⟨_,a₁,w₁,hq,.pass (x:=.inLoop c) rfl (fun _ _=>.inl (by simp)) harr⟩
   | outgrown=>exact⟨_,a₁,w₁,hq,.pass (x:=.inLoop c) rfl (fun _ _=>.inl (by simp)) harr⟩
 obtain⟨e,a',w',hq,harr⟩:=key _ i a w rfl hi
 exact⟨e,a',w',hq,.of_steps (.one (fenced_calm hb hr rfl) stepR_loop) harr⟩
theorem RX.cond {σ:St} {a:Act} {w:World} {c:Operand} {b:Bool} (h:RX γ N n0 m0 S0 μs w0 σ a w) (hc:rho γ σ.env c=.v (.bool b)):a.eval c=.bool b∧RX γ N n0 m0 S0 μs w0 ⟨QNF σ.env c b,σ.mem⟩ a w:=by
 obtain⟨S,μ,hA,hG,hE,hN,hb,hwid⟩:=h
 have hr:=QAY hA hG c
 rw [hc] at hr
 simp only [Rep] at hr
 refine⟨hr,S,μ,⟨hA.rm,fun t x ht=>?_,hA.defers⟩,hG,hE,hN,hb,hwid⟩
 unfold QNF at ht
 split at ht
 ·rename_i t'
  simp only [lk] at ht
  split at ht
  ·rename_i e
   subst e
   simp only [Option.some.injEq] at ht
   subst ht
   simpa [Rep,Act.eval] using hr
  ·exact hA.env t x ht
 ·exact hA.env t x ht
theorem RX.lit {σ:St} {a:Act} {w:World} {d:Nat} {b:Bool} (h:RX γ N n0 m0 S0 μs w0 σ a w) (hd:lk σ.env d=some (.v (.bool b))):RX γ N n0 m0 S0 μs w0 ⟨(d,.v (.bool b))::σ.env,σ.mem⟩ a w:=by
 obtain⟨S,μ,hA,hG,hE,hN,hb,hwid⟩:=h
 refine⟨S,μ,⟨hA.rm,fun t x ht=>?_,hA.defers⟩,hG,hE,hN,hb,hwid⟩
 simp only [lk] at ht
 split at ht
 ·rename_i e;subst e
  simp only [Option.some.injEq] at ht
  subst ht
  exact hA.env _ _ hd
 ·exact hA.env t x ht
theorem RX.skip {σ:St} {a:Act} {w:World} (dst:Option Nat) (h:RX γ N n0 m0 S0 μs w0 σ a w):RX γ N n0 m0 S0 μs w0 ⟨putE dst (.v undef) σ.env,σ.mem⟩ (a.put dst undef) w:=by
 obtain⟨S,μ,hA,hG,hE,hN,hb,hwid⟩:=h
 exact⟨S,μ,⟨hA.rm,QEy hA.env,by rw [QAB];exact hA.defers⟩,hG,hE,hN.put _ _,hb,hwid⟩
theorem QCd {r:Option Nat} {all:Array Oper} {k:List KI}:∀{l:List Oper} {σ:St} {a:Act} {w:World},ev P γ n0 N (.ops all l::k) σ→RX γ N n0 m0 S0 μs w0 σ a w→wpListIn (RF r) 0 P all (Post P γ n0 N m0 S0 μs w0 k) l a w
 | [],σ,a,w,h,hR=>by
  rw [ev] at h
  exact⟨_,h,hR.close⟩
 | o::l,σ,a,w,h,hR=>by
  rw [ev] at h
  unfold wpListIn
  unfold evG at h
  split at h
  ·rename_i hg
   have hw:Region.wanted o (yielded all a.tmps)=true:=by simp [Region.wanted,hg]
   rw [if_pos hw]
   exact QLE h hR (fun σ' a' w' h' hR'=>QCd h' hR')
  ·rename_i j want hg
   split at h
   ·rename_i d hd
    rcases QVL h with ⟨hsk,hk⟩ | ⟨_,h⟩
    ·have hw:=QEs hR (QT1 hg hd hsk)
     rw [if_neg (by rw [hw];simp)]
     exact⟨fun _ _=>trivial,QCd hk (hR.skip _)⟩
    obtain⟨b,hb,hy,hn⟩:=QMR h
    have hgd:gd all o σ=some (b==want):=by simp [gd,hg,hd,hb]
    have hw:=QEs hR hgd
    have hR1:=hR.lit hb
    by_cases hbw:b=want
    ·subst hbw
     rw [if_pos (by simpa using hw)]
     exact QLE (hy rfl) hR1 (fun σ' a' w' h' hR'=>QCd h' hR')
    ·rw [if_neg (by rw [hw];simpa using hbw)]
     have hbn:b=(!want):=by cases b<;>cases want<;>simp_all
     have hk:=hn hbn
     rw [←hbn] at hk
     exact⟨fun _ _=>trivial,QCd hk (hR1.skip _)⟩
   ·exact h.elim
def dOK:Code→Bool
 | .region _ ops true=>Region.lexB .any ops
 | .seq a b=>dOK a&&dOK b
 | .cond _ a b=>dOK a&&dOK b
 | .block _ c=>dOK c
 | .loop c=>dOK c
 | .scope c=>dOK c
 | _=>true
theorem QBA {b:Frame} {a:Act} {k:List Item} {cs:List Frame} {w:World} {c:Code}:step P (lone (b.atR a (.code (.scope c)::k)) cs w)=.next (lone (b.atR a (.code c::.inScope c::k)) cs w):=
 step_lone_go (by simp [stepG,stepG.exec,Frame.atR])
theorem QHR {b:Frame} {a:Act} {k:List Item} {cs:List Frame} {w:World} {c:Code}:step P (lone (b.atR a (.inScope c::k)) cs w)=.next (lone (b.atR a k) cs w):=
 step_lone_go (by simp [stepG,stepG.exec,Frame.atR])
theorem QED {F:Fence} {n:Nat} {Q:Exit→Act→World→Prop} {a:Act} {w:World} {c:Code} (h:c.wpIn F n P (Exit.noGoto Q) a w):(Code.scope c).wpIn F n P Q a w:=by
 intro b k cs hro hb hr
 have h0:(lone (b.atR a (.code (.scope c)::k)) cs w).fenced P F:=fenced_calm hb hr rfl
 obtain⟨e,a₁,w₁,hq,harr⟩:=h b (.inScope c::k) cs hro hb hr
 have hx:∀id,exitTo id (.inScope c::k)=exitTo id k:=fun id=>by simp [exitTo]
 cases e with
 | normal=>exact⟨.normal,a₁,w₁,hq,.head h0 QBA (StepsIn.trans harr (.one (fenced_calm hb hr rfl) QHR))⟩
 | exit id=>exact⟨.exit id,a₁,w₁,hq,fun k' hk=>.head h0 QBA (harr.1 k' (by rw [hx];exact hk)),fun hr' hk=>let ⟨k₁,h1,h2⟩:=harr.2 hr' (by rw [hx];exact hk);⟨k₁,h1,.head h0 QBA h2⟩⟩
 | goto l=>exact hq.elim
 | ret=>exact⟨_,a₁,w₁,hq,.of_steps (.one h0 QBA) harr⟩
 | panic ch=>exact⟨_,a₁,w₁,hq,.of_steps (.one h0 QBA) harr⟩
 | outgrown=>exact⟨_,a₁,w₁,hq,.of_steps (.one h0 QBA) harr⟩
theorem QG1 {r:Option Nat} (hm:P.follows .mixedOrders=true):∀(n:Nat) (c:Code) (k:List KI) (σ:St) (a:Act) (w:World),(r=none∨QJs k=false)→dOK c=true→kz (.code c::k)≤n→ev P γ n0 N (.code c::k) σ→RX γ N n0 m0 S0 μs w0 σ a w→c.wpIn (RF r) 0 P (Post P γ n0 N m0 S0 μs w0 k) a w:=by
 intro n
 induction n with
 | zero=>intro c k σ a w _ _ hn;have:=QIH c;simp only [kz,iz] at hn;omega
 | succ n ih=>
  intro c k σ a w hro hd hn h hR
  simp only [kz,iz] at hn
  cases c with
  | region id ops draw=>
   cases draw with
   | false=>
    rw [ev] at h
    exact wpIn_region_list (QCd h hR.open_)
   | true=>
    rw [ev] at h
    exact QMh hm hd h hR.open_ (fun σ a w hk hR=>⟨σ,hk,hR⟩)
  | seq x y=>
   rw [ev] at h
   simp only [cz] at hn
   simp only [dOK,Bool.and_eq_true] at hd
   have:=QIH y
   refine wpIn_seq (wpIn_mono (ih x (.code y::k) σ a w hro hd.1 (by simp only [kz,iz];omega) h hR) fun e a w hp=>?_)
   cases e with
   | normal=>
    obtain⟨σ',h1,h2⟩:=hp
    exact ih y k σ' a w hro hd.2 (by simp only [kz,iz];have:=QIH x;omega) h1 h2
   | exit id=>exact hp
   | ret=>exact hp
   | _=>exact hp.elim
  | cond c x y=>
   rw [ev] at h
   simp only [cz] at hn
   simp only [dOK,Bool.and_eq_true] at hd
   obtain⟨b,hb,hy,hno⟩:=QMR h
   simp only [Option.some.injEq] at hb
   obtain⟨h1,h2⟩:=hR.cond hb
   refine wpIn_cond h1 ?_
   cases b with
   | true=>exact ih x k _ a w hro hd.1 (by simp only [kz,iz];have:=QIH y;omega) (hy rfl) h2
   | false=>exact ih y k _ a w hro hd.2 (by simp only [kz,iz];have:=QIH x;omega) (hno rfl) h2
  | block id c=>
   rw [ev] at h
   simp only [cz] at hn
   refine wpIn_block (wpIn_mono (ih c (.blk id::k) σ a w hro hd (by simp only [kz,iz];omega) h hR) fun e a w hp=>?_)
   cases e with
   | normal=>
    obtain⟨σ',h1,h2⟩:=hp
    rw [QeF] at h1
    exact⟨σ',h1,h2⟩
   | exit id'=>
    obtain⟨σ',k',h1,h2,h3⟩:=hp
    simp only [QBG] at h1
    simp only [Exit.inBlock]
    by_cases e:id=id'
    ·rw [if_pos e] at h1
     rw [if_pos e.symm]
     simp only [Option.some.injEq] at h1;subst h1
     exact⟨σ',h2,h3⟩
    ·rw [if_neg e] at h1
     rw [if_neg (fun h=>e h.symm)]
     exact⟨σ',k',h1,h2,h3⟩
   | ret=>exact hp
   | _=>exact hp.elim
  | loop c=>
   rw [ev] at h
   simp only [cz] at hn
   obtain⟨ι,st,I,ms,i0,hi0,hent,hround⟩:=h
   refine QIv (fun (i:ι) a w=>I i∧RX γ N n0 m0 S0 μs w0 (st i) a w) ms (fun i a w hI=>?_) i0 a w ⟨hi0,hR.ent hent⟩
   refine wpIn_mono (ih c (.lp (fun σ'=>∃j,I j∧ms j<ms i∧Ent n0 σ' (st j))::k) (st i) a w hro hd (by simp only [kz,iz];omega) (hround i hI.1) hI.2) fun e a w hp=>?_
   cases e with
   | normal=>
    obtain⟨σ',h1,h2⟩:=hp
    rw [QaF] at h1
    obtain⟨j,h3,h4,h5⟩:=h1
    exact⟨j,h4,h3,h2.ent h5⟩
   | exit id=>exact hp
   | ret=>exact hp
   | _=>exact hp.elim
  | exit id=>
   refine wpIn_exit ?_
   rw [ev] at h
   split at h
   ·rename_i k' hk
    exact⟨σ,k',hk,h,hR⟩
   ·exact h.elim
  | scope c=>
   rw [ev] at h
   simp only [cz] at hn
   refine QED (wpIn_mono (ih c (.scp::k) σ a w hro hd (by simp only [kz,iz];omega) h hR) fun e a w hp=>?_)
   cases e with
   | normal=>
    obtain⟨σ',h1,h2⟩:=hp
    rw [Qc6] at h1
    exact⟨σ',h1,h2⟩
   | exit id=>exact hp
   | ret=>exact hp
   | _=>exact hp.elim
  | label l=>
   rw [ev] at h
   exact wpIn_label ⟨σ,h,hR⟩
  | skip=>
   rw [ev] at h
   exact wpIn_skip ⟨σ,h,hR⟩
  | rangeFunc g ps assign body=>
   rw [ev] at h
   refine QYt hro h hR (fun σ' a' w' hk hr=>⟨σ',hk,hr⟩) (fun id σ' a' w' hk hr=>?_) (fun σ' a' w' hk hr=>?_)
   ·split at hk
    ·rename_i k' hq
     exact⟨σ',k',hq,hk,hr⟩
    ·exact hk.elim
   ·unfold retE at hk
    split at hk
    ·rename_i Q hQ
     exact⟨σ',Q,hQ,hk,hr⟩
    ·exact hk.elim
  | ret=>
   refine wpIn_ret ?_
   rw [ev] at h
   split at h
   ·rename_i Q hQ
    exact⟨σ,Q,hQ,h,hR⟩
   ·exact h.elim
  | _=>
   rw [ev] at h
   ·exact h.elim
   all_goals (intros;contradiction)
theorem QCU.put {S μ} {w:World} {m:Mem} {D:Nat} {o:Obj}:∀{ds:List Deferred},QCU S μ w m ds→mark D∉ds→QCU S μ (w.putObj D o) m ds
 | [],_,_=>trivial
 | d::ds,h,hn=>by
  obtain⟨⟨D',e,h1,h2,h3,h4⟩,h5⟩:=h
  simp only [List.mem_cons,not_or] at hn
  exact⟨⟨D',e,(World.putObj_heap_other (fun h=>hn.1 (by rw [e,h]))).trans h1,h2,h3,h4⟩,h5.put hn.2⟩
theorem RX.unmark {σ:St} {a:Act} {w:World} {d:Deferred} {ds:List Deferred} (h:RX γ N n0 m0 S0 μs w0 σ a w) (hd:a.defers=d::ds):
  ∃D w',d.target=.collected D∧(Instr.takeDeferred D).run P w=.ok [] w'∧RX γ N n0 m0 S0 μs w0 σ { a with defers:=ds } w':=by
 obtain⟨S,μ,hA,hG,hX,hN,hb,hwid⟩:=h
 have hM:=hA.defers
 rw [hd] at hM
 obtain⟨⟨D,rfl,h1,h2,h3,h4⟩,h5⟩:=hM
 have hlt:D<w.heap.size:=(Array.getElem?_eq_some_iff.1 h1).1
 have hD0:w0.heap.size≤D:=hN.2 D (by rw [hd];simp)
 have hh:∀k,k≠D→(w.putObj D (.deferred none)).heap[k]?=w.heap[k]?:=fun k hk=>World.putObj_heap_other hk
 have huf:∀b,Uf w b→Uf (w.putObj D (.deferred none)) b:=fun b hu=>by
  by_cases e:b=D
  ·subst e;exact QIo (o:=.deferred none) (World.putObj_heap_same hlt) trivial
  ·exact QBB (hh b e) hu
 have hbz:∀b,Qw w b≤Qw (w.putObj D (.deferred none)) b:=fun b=>by
  by_cases e:b=D
  ·subst e;simp [Qw,h1]
  ·rw [QAx (hh b e)];exact Nat.le_refl _
 have hk:Keeps S μ w S μ (w.putObj D (.deferred none)):=⟨fun _ _=>rfl,fun _ _ h=>h,fun b off hs=>QAJ (hh b (fun e=>by subst e;exact h2 _ hs)),fun b off es clock hs h=>by rw [hh b (fun e=>by subst e;exact h2 _ hs)];exact h,hbz,by simp,fun b _=>huf b⟩
 have hr:=hA.rm
 have hrm:RM S μ (w.putObj D (.deferred none)) σ.mem:=⟨fun o ob ho=>⟨(hr.obj o ob ho).1,(hr.obj o ob ho).2.keep hk (fun hn=>.inl hn) (fun how b bo hμ=>hh b (fun e=>by subst e;exact h3 (.inl ⟨o,ob,bo,ho,how,hμ⟩))) (fun q b bo hq=>.inl ⟨q,bo,hq⟩)⟩,hr.inj,fun b off hs=>by simpa using hr.old b off hs,hr.fr,hr.win,hr.le,fun o b bo hq=>by simpa using hr.bk o b bo hq⟩
 refine⟨D,w.putObj D (.deferred none),rfl,run_takeDeferred h1,S,μ,⟨hrm,RX.keepEnv hk hA.env,h5.put h4⟩,hG.keep hk,⟨hX.os,hX.tape,hX.output,by simpa using hX.size,hX.ids,hX.objs,hX.next,hX.sub,hX.new,fun b off hs=>(hk.cell b off (hX.sub b off hs)).trans (hX.cell b off hs),fun b off es clock hs he=>hk.map b off es clock (hX.sub b off hs) (hX.map b off es clock hs he),
  fun b hb' ho=>⟨(hh b (by omega)).trans (hX.blk b hb' ho).1,(hX.blk b hb' ho).2⟩,fun b=>Nat.le_trans (hX.bsz b) (hbz b),fun b hb' hu=>huf b (hX.uf b hb' hu)⟩,⟨hN.1,fun D' hD'=>hN.2 D' (by rw [hd];exact List.mem_cons_of_mem _ hD')⟩,hb,hwid⟩
theorem QCN (hm:P.follows .mixedOrders=true) {f:FuncId} {fn:Func} {c:Code} {args:Array Value} {w:World} {R:Ending→World→Prop} {σ0:St} {E:Exit→St→Prop} (hf:P.funcs[f]?=some fn) (hb:fn.body=some c) (hd:dOK c=true)
  (hRX:RX γ fn.ntmps n0 m0 S0 μs w0 σ0 { tmps:=args++Array.replicate (fn.ntmps - args.size) undef,defers:=[] } w) (h:ev P γ n0 fn.ntmps [.code c,.fin E] σ0)
  (fin:∀(e:Exit) (σ:St) (a:Act) (w':World),E e σ→RX γ fn.ntmps n0 m0 S0 μs w0 σ a w'→∃v,(results fn a.tmps).run P w'=.ok v w'∧R (.returned v) w'):Calls P f args w R:=by
 refine (callsIn_wide (n:=0)).1 (callsIn_of_wp_marks hf hb trivial ?_)
 have leave:∀(ds:List Deferred) (e:Exit) (σ:St) (a:Act) (w':World),E e σ→RX γ fn.ntmps n0 m0 S0 μs w0 σ a w'→a.defers=ds→LeavesInM Fence.wide 0 P fn a.tmps R ds .returning w':=by
  intro ds
  induction ds with
  | nil=>intro e σ a w' hE hR _;exact fin e σ a w' hE hR
  | cons d ds ih=>
   intro e σ a w' hE hR hds
   obtain⟨D,w2,h1,h2,h3⟩:=hR.unmark (P:=P) hds
   exact⟨by simp,.inl ⟨D,w2,h1,h2,ih e σ { a with defers:=ds } w2 hE h3 rfl⟩⟩
 refine wpIn_mono (QG1 (r:=none) hm _ c [.fin E] σ0 _ w (.inl rfl) hd (Nat.le_refl _) h hRX) fun e a w' hp=>?_
 cases e with
 | normal=>
  obtain⟨σ,h1,h2⟩:=hp
  rw [ev] at h1
  exact leave _ .normal σ a w' h1 h2 rfl
 | ret=>
  obtain⟨σ,Q,h1,h2,h3⟩:=hp
  simp only [retK,Option.some.injEq] at h1
  subst h1
  exact leave _ .ret σ a w' h2 h3 rfl
 | exit id=>
  obtain⟨σ,k',h1,_⟩:=hp
  simp [QBG] at h1
 | _=>exact hp.elim
def QD0 (P:Program) (env:List (Nat×AV)) (m:Mem):ResultVar→Option AV
 | .tmp t=>lk env t
 | .cell a t=>match lk env a with
  | some p=>if tok P t then QE3 P m.find t p else none
  | none=>none
def QBq (P:Program) (env:List (Nat×AV)) (m:Mem):List ResultVar→Option (List AV)
 | []=>some []
 | r::rs=>match QD0 P env m r,QBq P env m rs with
  | some x,some xs=>some (x::xs)
  | _,_=>none
def resA (P:Program) (rs:List ResultVar) (env:List (Nat×AV)) (m:Mem):Option AV:=
 match rs with
 | [r]=>QD0 P env m r
 | rs=>(QBq P env m rs).map .tup
def endV (P:Program) (rs:List ResultVar) (r:AV) (_:Exit) (σ:St):Prop:=∃y,resA P rs σ.env σ.mem=some y∧∃ids,snap σ.mem.find 12 (unf y)=some (r,ids)
theorem QXF {S μ} {w:World} {m:Mem} {t:TypeId} {x y:AV} {v:Value} (hr:RM S μ w m) (h:QE3 P m.find t x=some y) (hx:Rep S μ w x v) (htok:tok P t=true):∃ad u,v=.pointer (some ad)∧(loadVar t ad).run P w=.ok u w∧Rep S μ w y u:=by
 unfold QE3 at h
 split at h
 ·simp only [Rep] at hx
  obtain⟨b,off,rfl,hc⟩:=hx
  obtain⟨ys,h1,h2,h3⟩:=hc.list
  obtain⟨v,h4,h5⟩:=QCb h (b:=b) (bo:=off) h1 h2 h3 (.inl htok)
  exact⟨_,v,rfl,h4,h5⟩
 ·rename_i o off
  simp only [Rep] at hx
  obtain⟨b,bo,hμ,rfl⟩:=hx
  split at h
  ·rename_i E ys ap hf
   obtain⟨zs,h1,h2,h3⟩:=QB9 hr hf hμ
   obtain⟨v,h4,h5⟩:=QCb h (b:=b) (bo:=bo) h1 h2 h3 (.inl htok)
   exact⟨_,v,rfl,h4,h5⟩
  ·rename_i ys hf
   obtain⟨zs,h1,h2,h3⟩:=QDE hr hf hμ
   obtain⟨v,h4,h5⟩:=QCb h (b:=b) (bo:=bo) h1 h2 h3 (.inl htok)
   exact⟨_,v,rfl,h4,h5⟩
  ·cases h
 ·cases h
def QLg (tmps:Array Value):ResultVar→Sem Value
 | .tmp t=>pure (tmps.getD t undef)
 | .cell a t=>do loadVar t (← asAddr (tmps.getD a undef))
theorem QT2 {S μ} {w:World} {env:List (Nat×AV)} {m:Mem} {a:Act} (hr:RM S μ w m) (henv:∀t x,lk env t=some x→Rep S μ w x (a.tmps.getD t undef)) {rv:ResultVar} {y:AV} (h:QD0 P env m rv=some y):∃v,(QLg a.tmps rv).run P w=.ok v w∧Rep S μ w y v:=by
 cases rv with
 | tmp t=>exact⟨_,rfl,henv t y h⟩
 | cell ad t=>
  simp only [QD0] at h
  split at h
  ·rename_i p hp
   split at h
   ·rename_i htok
    obtain⟨q,u,h1,h2,h3⟩:=QXF hr h (henv ad p hp) htok
    refine⟨u,?_,h3⟩
    simp [QLg,h1,asAddr,h2]
   ·cases h
  ·cases h
theorem QOt {S μ} {w:World} {env:List (Nat×AV)} {m:Mem} {a:Act} (hr:RM S μ w m) (henv:∀t x,lk env t=some x→Rep S μ w x (a.tmps.getD t undef)):∀{rs:List ResultVar} {ys:List AV},QBq P env m rs=some ys→∃vs,(rs.mapM (QLg a.tmps)).run P w=.ok vs w∧RepL S μ w ys vs∧vs.length=rs.length
 | [],ys,h=>by simp only [QBq,Option.some.injEq] at h;subst h;exact⟨[],rfl,by simp [RepL],rfl⟩
 | r::rs,ys,h=>by
  simp only [QBq] at h
  split at h
  ·rename_i x xs hx hxs
   simp only [Option.some.injEq] at h
   subst h
   obtain⟨v,h1,h2⟩:=QT2 hr henv hx
   obtain⟨vs,h3,h4,h5⟩:=QOt hr henv hxs
   refine⟨v::vs,?_,by simp only [RepL];exact⟨v,vs,rfl,h2,h4⟩,by simp [h5]⟩
   rw [List.mapM_cons,Sem.run_bind,h1]
   simp [h3]
  ·cases h
theorem QDP {S μ} {w:World} {env:List (Nat×AV)} {m:Mem} {a:Act} (hr:RM S μ w m) (henv:∀t x,lk env t=some x→Rep S μ w x (a.tmps.getD t undef)) {fn:Func} {y:AV} (h:resA P fn.results.toList env m=some y):∃v,(results fn a.tmps).run P w=.ok v w∧Rep S μ w y v:=by
 have key:∀vs:List Value,(fn.results.toList.mapM (QLg a.tmps)).run P w=.ok vs w→(results fn a.tmps).run P w=.ok (if h:vs.toArray.size=1 then vs.toArray[0] else .tuple vs.toArray) w:=by
  intro vs hvs
  have e:results fn a.tmps=(do let vs ← fn.results.mapM (QLg a.tmps);pure (if h:vs.size=1 then vs[0] else .tuple vs)):=by
   unfold results
   congr 1
  rw [e,Sem.run_bind,Array.mapM_eq_mapM_toList,Sem.run_map,hvs]
  rfl
 generalize fn.results.toList=rs at h key
 unfold resA at h
 split at h
 ·rename_i r
  obtain⟨v,h1,h2⟩:=QT2 hr henv h
  refine⟨v,?_,h2⟩
  have:=key [v] (by rw [List.mapM_cons,Sem.run_bind,h1];rfl)
  simpa using this
 ·rename_i rs hne
  simp only [Option.map_eq_some_iff] at h
  obtain⟨ys,h1,rfl⟩:=h
  obtain⟨vs,h2,h3,h4⟩:=QOt hr henv h1
  refine⟨.tuple vs.toArray,?_,by simp only [Rep];exact⟨vs,rfl,h3⟩⟩
  have:=key vs h2
  rw [this]
  have hne':vs.length≠1:=fun e=>by
   rw [h4] at e
   obtain⟨r,hr'⟩:=List.length_eq_one_iff.1 e
   exact hne r hr'
  simp [hne']
theorem Ext.refl0 {S w}:Ext 0 ⟨[],0,0,0⟩ S μ0 w ⟨[],0,0,0⟩ S μ0 w:=⟨rfl,⟨rfl,Nat.le_refl _⟩,rfl,Nat.le_refl _,fun _ _=>rfl,fun _ _ h=>h,Nat.le_refl _,fun _ _ h=>h,fun _ _ _ h=>.inl h,fun _ _ _=>rfl,fun _ _ _ _ _ h=>h,fun _ _ h=>⟨rfl,h⟩,fun _=>Nat.le_refl _,fun _ _ h=>h⟩
theorem QCL {S μ} {w:World} {xs:List AV} {vs:List Value} {n:Nat} (h:RepL S μ w xs vs):∀t x,lk (xs.zipIdx.map fun p=>(p.2,p.1)) t=some x→Rep S μ w x ((vs.toArray++Array.replicate n undef).getD t undef):=by
 have key:∀(xs:List AV) (vs pre:List Value),RepL S μ w xs vs→∀t x,lk ((xs.zipIdx pre.length).map fun p=>(p.2,p.1)) t=some x→Rep S μ w x (((pre++vs).toArray++Array.replicate n undef).getD t undef):=by
  intro xs
  induction xs with
  | nil=>intro vs pre _ t x h;simp [lk] at h
  | cons y xs ih=>
   intro vs pre h t x ht
   simp only [RepL] at h
   obtain⟨v,vs',rfl,h1,h2⟩:=h
   simp only [List.zipIdx_cons,List.map_cons,lk] at ht
   split at ht
   ·rename_i e
    simp only [Option.some.injEq] at ht
    subst ht;subst e
    have:((pre++v::vs').toArray++Array.replicate n undef).getD pre.length undef=v:=by
     rw [Array.getD_eq_getD_getElem?]
     simp [Array.getElem?_append]
    rw [this];exact h1
   ·have:=ih vs' (pre++[v]) h2 t x (by simpa using ht)
    simpa using this
 intro t x ht
 exact key xs vs [] h t x (by simpa using ht)
theorem QE.enter {f:FuncId} {fn:Func} {c:Code} {xs:List AV} {r:AV} (hf:P.funcs[f]?=some fn) (hb:fn.body=some c) (hn:(fn.name== "runtime.NumGoroutine")=false) (hm:P.follows .mixedOrders=true) (hd:dOK c=true) (hx:idfL xs=true) (hr:idf r=true)
  (h:ev P γ 0 fn.ntmps [.code c,.fin (endV P fn.results.toList r)] ⟨(xs.zipIdx.map fun p=>(p.2,p.1)),⟨[],0,0,0⟩⟩):QE P γ f xs r:=by
 refine⟨hx,hr,⟨fn,hf,hn,by rw [hb];rfl⟩,fun S w vs hold hG hxs=>?_⟩
 have hRM:RM S μ0 w ⟨[],0,0,0⟩:=⟨fun o ob h=>by simp [Mem.find,lk] at h,fun o o' ob ob' h=>by simp [Mem.find,lk] at h,hold,fun _ _=>rfl,fun o _ h=>by simp at h,Nat.le_refl _,fun o b bo h=>by simp [μ0] at h⟩
 have hRX:RX γ fn.ntmps 0 ⟨[],0,0,0⟩ S μ0 w ⟨(xs.zipIdx.map fun p=>(p.2,p.1)),⟨[],0,0,0⟩⟩ { tmps:=vs.toArray++Array.replicate (fn.ntmps - vs.toArray.size) undef,defers:=[] } w:=
  ⟨S,μ0,⟨hRM,QCL hxs,trivial⟩,hG,Ext.refl0,AOK.start (by simp;omega),Nat.zero_le _,Nat.zero_le _⟩
 have fin:∀(e:Exit) (σ:St) (a:Act) (w':World),endV P fn.results.toList r e σ→RX γ fn.ntmps 0 ⟨[],0,0,0⟩ S μ0 w σ a w'→∃v,(results fn a.tmps).run P w'=.ok v w'∧∃u S',Ending.returned v=.returned u∧Ext0 S w S' w'∧Rep S' μ0 w' r u:=by
  intro e σ a w' hE hR
  obtain⟨S',μ,hA,hG',hX,_,_,_⟩:=hR
  obtain⟨y,h1,ids,h2⟩:=hE
  obtain⟨v,h3,h4⟩:=QDP hA.rm hA.env h1
  refine⟨v,h3,v,(fun b off=>S b off∨(w.heap.size≤b∧b<w'.heap.size)),rfl,⟨hX.os,hX.tape,hX.output,hX.size,fun b off h=>.inl h,fun b off hb h=>?_,fun b off h=>?_,fun b hb=>?_,hX.uf⟩,?_⟩
  ·rcases h with h | h
   ·exact h
   ·omega
  ·rcases h with h | h
   ·have:=hold _ _ h;have:=hX.size;omega
   ·exact h.2
  ·exact (hX.blk b hb Q1).1
  ·refine (QBI hA.rm (fun b off hs=>?_) (fun b ho off=>?_) 12 (unf y) r ids v h2 (QA6 h4)).2
   ·rcases Nat.lt_or_ge b w.heap.size with hlt | hge
    ·rcases hX.new b off hlt hs with h | h
     ·exact .inl h
     ·exact absurd h Q1
    ·exact .inr ⟨hge,hA.rm.old _ _ hs⟩
   ·rcases Nat.lt_or_ge b w.heap.size with hlt | hge
    ·exact absurd (Or.inl ho) (hX.blk b hlt Q1).2
    ·obtain⟨o,ob,bo,_,_,h⟩:=ho
     exact .inr ⟨hge,hA.rm.bk _ _ _ h⟩
 exact QCN hm hf hb hd hRX h fin
def QDU (f:AV→Option AV):List AV→Option (List AV)
 | []=>some []
 | x::xs=>match f x,QDU f xs with
  | some p,some q=>some (p::q)
  | _,_=>none
def QBN (find:Nat→Option AObj):Nat→AV→Option AV
 | 0,_=>none
 | n+1,x=>match x with
  | .ptr o off=>match find o with
   | some (.cells _ ys _)=>if sclL ys then some (.rop (ys.drop off)) else none
   | _=>none
  | .sl o off k sz=>match find o with
   | some (.cells _ ys _)=>if off+k*sz≤ys.length then if sclL ys then some (.seq k sz ((ys.drop off).take (k*sz))) else none else none
   | _=>none
  | .mp o=>match find o with
   | some (.map kt ks xs)=>if sclL xs then some (.mv kt ks xs) else none
   | _=>none
  | .agg xs=>(QDU (QBN find n) xs).map .agg
  | .tup xs=>(QDU (QBN find n) xs).map .tup
  | x=>if scl x then some x else none
theorem QE4 {S T μ} {w:World} {F:AV→Option AV} (hF:∀(x:AV) y v,F x=some y→Rep S μ w x v→idf y=true∧Rep T μ0 w y v):∀(xs ys:List AV) (vs:List Value),QDU F xs=some ys→RepL S μ w xs vs→idfL ys=true∧RepL T μ0 w ys vs
 | [],ys,vs,h,r=>by simp only [QDU,Option.some.injEq] at h;subst h;exact⟨rfl,by simpa [RepL] using r⟩
 | x::xs,ys,vs,h,r=>by
  simp only [QDU] at h
  split at h
  ·rename_i p q hp hq
   simp only [Option.some.injEq] at h
   subst h
   simp only [RepL] at r ⊢
   obtain⟨y,zs,rfl,r1,r2⟩:=r
   obtain⟨h1,h2⟩:=hF x p y hp r1
   obtain⟨h3,h4⟩:=QE4 hF xs q zs hq r2
   exact⟨by simp [idfL,h1,h3],y,zs,rfl,h2,h4⟩
  ·cases h
theorem QEZ {S T μ} {w:World} {m:Mem} (hr:RM S μ w m) (hO:∀b,QBE m μ b→∀off,T b off):∀(n:Nat) (x y:AV) (v:Value),QBN m.find n x=some y→Rep S μ w x v→idf y=true∧Rep T μ0 w y v
 | 0,x,y,v,h,_=>by simp [QBN] at h
 | n+1,x,y,v,h,r=>by
  have snp:∀{ys:List AV},sclL ys=true→(QAO (snap m.find 12) ys)=some (ys,[]):=fun h=>by simp [QAO,sclL_idf _ h]
  cases x with
  | ptr o off=>
   simp only [QBN] at h
   split at h
   ·rename_i E zs ap hf
    split at h
    ·rename_i hs
     simp only [Option.some.injEq] at h
     subst h
     simp only [Rep] at r
     obtain⟨b,bo,hμ,rfl⟩:=r
     obtain⟨ys,g1,g2,g3⟩:=QB9 hr hf hμ
     refine⟨by simp only [idf];exact QCE _ _ (sclL_idf _ hs),?_⟩
     simp only [Rep]
     refine⟨b,bo+off,rfl,RepC.drop (RepC.mk fun i x hi=>?_) off⟩
     obtain⟨u,hu,hx⟩:=(RepL.scl (S':=T) (μ':=μ0) (w':=w) zs ys hs g1).get hi
     exact⟨hO b ⟨o,_,bo,hf,rfl,hμ⟩ _,u,g3 i u hu,g2 u (List.mem_of_getElem? hu),hx⟩
    ·cases h
   ·cases h
  | sl o off k sz=>
   simp only [QBN] at h
   split at h
   ·rename_i E zs ap hf
    split at h
    ·rename_i hle
     split at h
     ·rename_i hs
      simp only [Option.some.injEq] at h
      subst h
      simp only [Rep] at r
      obtain⟨base,cap,rfl,hk,r⟩:=r
      refine⟨by simp only [idf];exact QEa _ _ (QCE _ _ (sclL_idf _ hs)),?_⟩
      simp only [Rep]
      refine⟨base,cap,rfl,hk,by simp;omega,?_⟩
      rcases r with r | ⟨b,bo,hμ,rfl,_⟩
      ·left;omega
      ·obtain⟨ys,g1,g2,g3⟩:=QB9 hr hf hμ
       refine .inr ⟨b,bo+off,rfl,RepC.take (RepC.drop (RepC.mk fun i x hi=>?_) off) _⟩
       obtain⟨u,hu,hx⟩:=(RepL.scl (S':=T) (μ':=μ0) (w':=w) zs ys hs g1).get hi
       exact⟨hO b ⟨o,_,bo,hf,rfl,hμ⟩ _,u,g3 i u hu,g2 u (List.mem_of_getElem? hu),hx⟩
     ·cases h
    ·cases h
   ·cases h
  | mp o=>
   simp only [QBN] at h
   split at h
   ·rename_i kt ks zs hf
    split at h
    ·rename_i hs
     simp only [Option.some.injEq] at h
     subst h
     obtain⟨b,bo,es,clock,rfl,hμ,hb,hok,hks,hxs,hno⟩:=QI5 hr hf r
     refine⟨by simpa only [idf] using sclL_idf _ hs,?_⟩
     simp only [Rep]
     exact .inr ⟨b,es,clock,rfl,hO b ⟨o,_,bo,hf,rfl,hμ⟩ _,hb,hok,hks,RepL.scl _ _ hs hxs⟩
    ·cases h
   ·cases h
  | agg xs=>
   simp only [QBN,Option.map_eq_some_iff] at h
   obtain⟨p,hs,rfl⟩:=h
   simp only [Rep] at r
   obtain⟨ys,e,r,o⟩:=r
   obtain⟨k1,k2⟩:=QE4 (QEZ hr hO n) _ _ _ hs r
   refine⟨by simpa only [idf] using k1,?_⟩
   simp only [Rep]
   exact⟨ys,e,k2,o⟩
  | tup xs=>
   simp only [QBN,Option.map_eq_some_iff] at h
   obtain⟨p,hs,rfl⟩:=h
   simp only [Rep] at r
   obtain⟨ys,e,r⟩:=r
   obtain⟨k1,k2⟩:=QE4 (QEZ hr hO n) _ _ _ hs r
   refine⟨by simpa only [idf] using k1,?_⟩
   simp only [Rep]
   exact⟨ys,e,k2⟩
  | v z=>
   simp only [QBN,scl,if_true,Option.some.injEq] at h
   subst h
   exact⟨rfl,by simpa [Rep] using r⟩
  | _=>simp [QBN,scl] at h
theorem QLF {S μ} {w:World} {m:Mem} (hr:RM S μ w m) {b:Nat} (h:QBE m μ b):Uf w b:=by
 obtain⟨o,ob,bo,h1,h2,h3⟩:=h
 have hob:=(hr.obj o ob h1).2
 cases ob with
 | cells E xs ap=>
  simp only [RepO] at hob
  rcases hob with ⟨h,_⟩ | ⟨b',bo',ys,c,fz,e1,e2,e3,_⟩
  ·rw [h3] at h;cases h
  ·rw [h3] at e1;cases e1
   intro c' E' fz' hc
   rw [e2] at hc;cases hc
   exact e3
 | map kt ks xs=>
  simp only [RepO] at hob
  obtain⟨b',bo',es,clock,e1,e2,_⟩:=hob
  rw [h3] at e1;cases e1
  intro c' E' fz' hc
  rw [e2] at hc;cases hc
 | miter last ks xs=>
  simp only [RepO] at hob
  obtain⟨b',bo',mb,since,seen,stepped,e1,_,e2,_⟩:=hob
  rw [h3] at e1;cases e1
  intro c' E' fz' hc
  rw [e2] at hc;cases hc
 | siter s pos=>
  simp only [RepO] at hob
  obtain⟨b',bo',e1,_,e2⟩:=hob
  rw [h3] at e1;cases e1
  intro c' E' fz' hc
  rw [e2] at hc;cases hc
 | loop N ts xs ps assign body st pe=>
  simp only [RepO] at hob
  obtain⟨b',bo',D,fn,tmps,e1,_,e2,_⟩:=hob
  rw [h3] at e1;cases e1
  intro c' E' fz' hc
  rw [e2] at hc;cases hc
 | imm xs=>cases h2
 | past T=>cases h2
 | bag=>cases h2
 | dead=>cases h2
def endN (P:Program) (rs:List ResultVar) (r:AV) (_:Exit) (σ:St):Prop:=∃y,resA P rs σ.env σ.mem=some y∧QBN σ.mem.find 12 (unf y)=some r
theorem PNew.of {f:FuncId} {xs:List AV} {r:AV} (hx:idfL xs=true) (hr:idf r=true) (h:Qr P γ f xs ⟨[],0,0,0⟩ fun y m=>QBN m.find 12 (unf y)=some r):PNew P γ f xs r:=by
 refine⟨hx,hr,h.1,fun S w vs hold hG hxs=>?_⟩
 have hRM:RM S μ0 w ⟨[],0,0,0⟩:=⟨fun o ob h=>by simp [Mem.find,lk] at h,fun o o' ob ob' h=>by simp [Mem.find,lk] at h,hold,fun _ _=>rfl,fun o _ h=>by simp at h,Nat.le_refl _,fun o b bo h=>by simp [μ0] at h⟩
 refine (h.2 S μ0 w vs hRM hG hxs).mono fun e w' he=>?_
 obtain⟨v,x,m',S',μ',rfl,_,_,hrm,hX,hrep,hsn⟩:=he
 refine⟨v,rfl,⟨hX.os,hX.tape,hX.output,hX.size,fun b off h=>.inl h,fun b off hb h=>?_,fun b off h=>?_,fun b hb=>?_,hX.uf⟩,?_⟩
 ·rcases h with h | h
  ·exact h
  ·omega
 ·rcases h with h | h
  ·have:=hold _ _ h;have:=hX.size;omega
  ·exact h.2
 ·exact (hX.blk b hb Q1).1
 ·refine (QEZ hrm (fun b ho off=>?_) 12 (unf x) r v hsn (QA6 hrep)).2
  rcases Nat.lt_or_ge b w.heap.size with hlt | hge
  ·exact absurd (Or.inl ho) (hX.blk b hlt Q1).2
  ·have hu:=QLF hrm ho
   obtain⟨o,ob,bo,_,_,h⟩:=ho
   exact⟨hge,hrm.bk _ _ _ h,hu⟩
theorem PNew.enter {f:FuncId} {fn:Func} {c:Code} {xs:List AV} {r:AV} (hf:P.funcs[f]?=some fn) (hb:fn.body=some c) (hn:(fn.name== "runtime.NumGoroutine")=false) (hm:P.follows .mixedOrders=true) (hd:dOK c=true) (hx:idfL xs=true) (hr:idf r=true)
  (h:ev P γ 0 fn.ntmps [.code c,.fin (endN P fn.results.toList r)] ⟨(xs.zipIdx.map fun p=>(p.2,p.1)),⟨[],0,0,0⟩⟩):PNew P γ f xs r:=by
 refine PNew.of hx hr ⟨⟨fn,hf,hn,by rw [hb];rfl⟩,fun S μ w vs hr hG hxs=>?_⟩
 have hRX:RX γ fn.ntmps 0 ⟨[],0,0,0⟩ S μ w ⟨(xs.zipIdx.map fun p=>(p.2,p.1)),⟨[],0,0,0⟩⟩ { tmps:=vs.toArray++Array.replicate (fn.ntmps - vs.toArray.size) undef,defers:=[] } w:=
  ⟨S,μ,⟨hr,QCL hxs,trivial⟩,hG,⟨rfl,⟨rfl,Nat.le_refl _⟩,rfl,Nat.le_refl _,fun _ _=>rfl,fun _ _ h=>h,Nat.le_refl _,fun _ _ h=>h,fun _ _ _ h=>.inl h,fun _ _ _=>rfl,fun _ _ _ _ _ h=>h,fun _ _ h=>⟨rfl,h⟩,fun _=>Nat.le_refl _,fun _ _ h=>h⟩,AOK.start (by simp;omega),Nat.zero_le _,Nat.zero_le _⟩
 have fin:∀(e:Exit) (σ:St) (a:Act) (w':World),endN P fn.results.toList r e σ→RX γ fn.ntmps 0 ⟨[],0,0,0⟩ S μ w σ a w'→∃v,(results fn a.tmps).run P w'=.ok v w'∧
   ∃v0 x m' S' μ',Ending.returned v=.returned v0∧m'.base=0∧m'.wid=0∧RM S' μ' w' m'∧Ext 0 ⟨[],0,0,0⟩ S μ w m' S' μ' w'∧Rep S' μ' w' x v0∧QBN m'.find 12 (unf x)=some r:=by
  intro e σ a w' hE hR
  obtain⟨S',μ',hA,hG',hX,_,_,_⟩:=hR
  obtain⟨y,h1,h2⟩:=hE
  obtain⟨v,h3,h4⟩:=QDP hA.rm hA.env h1
  exact⟨v,h3,v,y,⟨σ.mem.objs,σ.mem.next,0,0⟩,S',μ',rfl,rfl,rfl,⟨hA.rm.obj,hA.rm.inj,hA.rm.old,hA.rm.fr,fun o _ h=>by simp at h,Nat.zero_le _,hA.rm.bk⟩,hX.same (fun _=>rfl) rfl,h4,h2⟩
 exact QCN hm hf hb hd hRX h fin
variable {P : Program} {γ : GTab} {S : Nat → Nat → Prop} {μ : Nat → Option (Nat × Nat)} {w : World}
mutual
def renA (ρ:Nat→Nat):AV→AV
 | .v x=>.v x
 | .agg xs=>.agg (renL ρ xs)
 | .tup xs=>.tup (renL ρ xs)
 | .seq n sz xs=>.seq n sz (renL ρ xs)
 | .full n sz xs=>.full n sz (renL ρ xs)
 | .slc o off n sz=>.slc (ρ o) off n sz
 | .rop xs=>.rop (renL ρ xs)
 | .ptr o off=>.ptr (ρ o) off
 | .sl o off n sz=>.sl (ρ o) off n sz
 | .mp o=>.mp (ρ o)
 | .mv kt ks xs=>.mv kt ks (renL ρ xs)
 | .it o=>.it (ρ o)
 | .clo fn f c=>.clo fn (renL ρ f) (renL ρ c)
 | .ifc t x=>.ifc t (renA ρ x)
 | .on T u x=>.on T u (renA ρ x)
 | .bs o n=>.bs (ρ o) n
 | .bp o=>.bp (ρ o)
 | .yld o=>.yld (ρ o)
 | .top=>.top
def renL (ρ:Nat→Nat):List AV→List AV
 | []=>[]
 | x::xs=>renA ρ x::renL ρ xs
end
def renO (ρ:Nat→Nat):AObj→AObj
 | .cells E xs ap=>.cells E (renL ρ xs) ap
 | .imm xs=>.imm (renL ρ xs)
 | .map kt ks xs=>.map kt ks (renL ρ xs)
 | .miter last ks xs=>.miter (last.map fun p=>(p.1,renA ρ p.2)) ks (renL ρ xs)
 | .siter s pos=>.siter s pos
 | .loop N ts xs ps assign body st pe=>.loop N ts (renL ρ xs) ps assign body st pe
 | .past T=>.past T
 | .bag=>.bag
 | .dead=>.dead
theorem QAP (ρ:Nat→Nat):∀xs:List AV,(renL ρ xs).length=xs.length
 | []=>rfl
 | x::xs=>by simp [renL,QAP ρ xs]
mutual
theorem Rep.ren {S:Nat→Nat→Prop} (ρ:Nat→Nat):∀(x:AV) (v:Value),Rep S μ w (renA ρ x) v→Rep S (fun o=>μ (ρ o)) w x v
 | .v x,v,r=>by simpa [Rep,renA] using r
 | .agg xs,v,r=>by
  simp only [Rep,renA] at*
  obtain⟨ys,e,r,o⟩:=r
  exact⟨ys,e,RepL.ren ρ xs ys r,o⟩
 | .tup xs,v,r=>by
  simp only [Rep,renA] at*
  obtain⟨ys,e,r⟩:=r
  exact⟨ys,e,RepL.ren ρ xs ys r⟩
 | .seq n sz xs,v,r=>by
  simp only [Rep,renA] at*
  obtain⟨base,cap,e,hn,hl,r⟩:=r
  refine⟨base,cap,e,hn,(QAP ρ xs).symm.trans hl,?_⟩
  rcases r with r | ⟨b,off,e,r⟩
  ·exact .inl r
  ·exact .inr ⟨b,off,e,RepC.ren ρ xs b off r⟩
 | .full n sz xs,v,r=>by
  simp only [Rep,renA] at*
  obtain⟨base,e,hl,r⟩:=r
  refine⟨base,e,(QAP ρ xs).symm.trans hl,?_⟩
  rcases r with r | ⟨b,off,e,r⟩
  ·exact .inl r
  ·exact .inr ⟨b,off,e,RepC.ren ρ xs b off r⟩
 | .slc o off n sz,v,r=>by simpa only [Rep,renA] using r
 | .rop xs,v,r=>by
  simp only [Rep,renA] at*
  obtain⟨b,off,e,r⟩:=r
  exact⟨b,off,e,RepC.ren ρ xs b off r⟩
 | .ptr o off,v,r=>by simpa only [Rep,renA] using r
 | .sl o off n sz,v,r=>by simpa only [Rep,renA] using r
 | .mp o,v,r=>by simpa only [Rep,renA] using r
 | .it o,v,r=>by simpa only [Rep,renA] using r
 | .mv kt ks xs,v,r=>by
  simp only [Rep,renA] at*
  rcases r with ⟨r1,r2,r3⟩ | ⟨b,es,clock,e,hs,hb,hm,hk,r⟩
  ·exact .inl ⟨r1,r2,by have:=QAP ρ xs;rw [r3] at this;exact List.eq_nil_of_length_eq_zero this.symm⟩
  ·exact .inr ⟨b,es,clock,e,hs,hb,hm,hk,RepL.ren ρ xs _ r⟩
 | .clo fn f c,v,r=>by
  simp only [Rep,renA] at*
  obtain⟨fs,cs,e,r1,r2⟩:=r
  exact⟨fs,cs,e,RepL.ren ρ f fs r1,RepL.ren ρ c cs r2⟩
 | .ifc t x,v,r=>by
  simp only [Rep,renA] at*
  obtain⟨u,e,r⟩:=r
  exact⟨u,e,Rep.ren ρ x u r⟩
 | .on T u x,v,r=>by
  simp only [Rep,renA] at*
  exact Rep.ren ρ x v r
 | .bs o n,v,r=>by simpa only [Rep,renA] using r
 | .bp o,v,r=>by simpa only [Rep,renA] using r
 | .yld o,v,r=>by simpa only [Rep,renA] using r
 | .top,v,_=>by simp [Rep]
theorem RepL.ren {S:Nat→Nat→Prop} (ρ:Nat→Nat):∀(xs:List AV) (ys:List Value),RepL S μ w (renL ρ xs) ys→RepL S (fun o=>μ (ρ o)) w xs ys
 | [],ys,r=>by simpa [RepL,renL] using r
 | x::xs,ys,r=>by
  simp only [RepL,renL] at*
  obtain⟨y,zs,e,r1,r2⟩:=r
  exact⟨y,zs,e,Rep.ren ρ x y r1,RepL.ren ρ xs zs r2⟩
theorem RepC.ren {S:Nat→Nat→Prop} (ρ:Nat→Nat):∀(xs:List AV) (b off:Nat),RepC S μ w (renL ρ xs) b off→RepC S (fun o=>μ (ρ o)) w xs b off
 | [],_,_,_=>by simp [RepC]
 | x::xs,b,off,r=>by
  simp only [RepC,renL] at*
  obtain⟨⟨hs,u,hu,ho,r1⟩,r2⟩:=r
  exact⟨⟨hs,u,hu,ho,Rep.ren ρ x u r1⟩,RepC.ren ρ xs b (off+1) r2⟩
end
mutual
theorem QFu (ρ:Nat→Nat):∀(x:AV),idf x=true→renA ρ x=x
 | .v x,_=>rfl
 | .agg xs,h=>by simp only [idf,renA] at*; rw [renL_idf ρ xs h]
 | .tup xs,h=>by simp only [idf,renA] at*; rw [renL_idf ρ xs h]
 | .seq n sz xs,h=>by simp only [idf,renA] at*; rw [renL_idf ρ xs h]
 | .full n sz xs,h=>by simp only [idf,renA] at*; rw [renL_idf ρ xs h]
 | .slc o off n sz,h=>by simp [idf] at h
 | .rop xs,h=>by simp only [idf,renA] at*; rw [renL_idf ρ xs h]
 | .ptr o off,h=>by simp [idf] at h
 | .sl o off n sz,h=>by simp [idf] at h
 | .mp o,h=>by simp [idf] at h
 | .it o,h=>by simp [idf] at h
 | .mv kt ks xs,h=>by simp only [idf,renA] at*; rw [renL_idf ρ xs h]
 | .clo fn f c,h=>by simp only [idf,renA,Bool.and_eq_true] at*; rw [renL_idf ρ f h.1,renL_idf ρ c h.2]
 | .ifc t x,h=>by simp only [idf,renA] at*; rw [QFu ρ x h]
 | .on T u x,h=>by simp only [idf,renA] at*; rw [QFu ρ x h]
 | .bs o n,h=>by simp [idf] at h
 | .bp o,h=>by simp [idf] at h
 | .yld o,h=>by simp [idf] at h
 | .top,_=>rfl
theorem renL_idf (ρ:Nat→Nat):∀(xs:List AV),idfL xs=true→renL ρ xs=xs
 | [],_=>rfl
 | x::xs,h=>by simp only [idfL,renL,Bool.and_eq_true] at*; rw [QFu ρ x h.1,renL_idf ρ xs h.2]
end
theorem RepO.ren (ρ:Nat→Nat) {o:Nat} (ob:AObj) (h:RepO S μ w (ρ o) (renO ρ ob)):RepO S (fun o=>μ (ρ o)) w o ob:=by
 cases ob with
 | cells E xs ap=>
  simp only [RepO,renO] at*
  rcases h with ⟨h1,h2⟩ | ⟨b,bo,ys,c,fz,e1,e2,e3,e4,e5⟩
  ·exact .inl ⟨h1,by have:=QAP ρ xs;rw [h2] at this;exact List.eq_nil_of_length_eq_zero this.symm⟩
  ·exact .inr ⟨b,bo,ys,c,fz,e1,e2,e3,RepL.ren ρ _ _ e4,e5⟩
 | imm xs=>
  simp only [RepO,renO] at*
  rcases h with h | ⟨b,bo,e1,e2⟩
  ·exact .inl (by have:=QAP ρ xs;rw [h] at this;exact List.eq_nil_of_length_eq_zero this.symm)
  ·exact .inr ⟨b,bo,e1,RepC.ren ρ _ _ _ e2⟩
 | map kt ks xs=>
  simp only [RepO,renO] at*
  obtain⟨b,bo,es,clock,e1,e2,e3,e4,e5,e6⟩:=h
  exact⟨b,bo,es,clock,e1,e2,e3,e4,RepL.ren ρ _ _ e5,e6⟩
 | miter last ks xs=>
  simp only [RepO,renO] at*
  obtain⟨b,bo,mb,since,seen,stepped,e1,e2,e3,e4⟩:=h
  refine⟨b,bo,mb,since,seen,stepped,e1,e2,e3,?_⟩
  rcases e4 with ⟨g1,g2,g3,g4⟩ | ⟨r,es,kt,g1,g2,g3,g4,g5,g6,g7,g8⟩
  ·exact .inl ⟨g1,g2,by have:=QAP ρ xs;rw [g3] at this;exact List.eq_nil_of_length_eq_zero this.symm,by simpa using g4⟩
  ·refine .inr ⟨r,es,kt,g1,g2,g3,g4,g5,g6,RepL.ren ρ _ _ g7,fun p hp=>?_⟩
   obtain⟨e,he1,he2,he3,he4⟩:=g8 (p.1,renA ρ p.2) (by rw [hp];rfl)
   exact⟨e,he1,he2,he3,Rep.ren ρ _ _ he4⟩
 | siter s pos=>simpa only [RepO,renO] using h
 | loop N ts xs ps assign body st pe=>
  simp only [RepO,renO] at*
  obtain⟨b,bo,D,fn,tmps,e1,e2,e3,e4,e5⟩:=h
  exact⟨b,bo,D,fn,tmps,e1,e2,e3,e4,RepL.ren ρ _ _ e5⟩
 | past T=>simpa only [RepO,renO] using h
 | bag=>
  simp only [RepO,renO] at*
  obtain⟨b0,code,e1,e2⟩:=h
  exact⟨b0,code,e1,fun b ht=>⟨(e2 b ht).1,(e2 b ht).2.1,(e2 b ht).2.2.1,fun q bo=>(e2 b ht).2.2.2 (ρ q) bo⟩⟩
 | dead=>simp [RepO]
theorem Qk (ρ:Nat→Nat) (ob:AObj):(renO ρ ob).own=ob.own:=by cases ob<;>rfl
def rho' (r:List (Nat×Nat)) (n0 next' next o:Nat):Nat:=if o<n0 then o else if o<next' then (lk r o).getD (next+o) else next+o
def EntE (ρ:Nat→Nat) (env:List (Nat×AV)):List (Nat×AV)→Prop
 | []=>True
 | (t,x)::e=>lk env t=some (renA ρ x)∧EntE ρ env e
def EntO (ρ:Nat→Nat) (objs:List (Nat×AObj)):List (Nat×AObj)→Prop
 | []=>True
 | (o,x)::e=>lk objs (ρ o)=some (renO ρ x)∧EntO ρ objs e
theorem EntE.get {ρ:Nat→Nat} {env:List (Nat×AV)}:∀{e:List (Nat×AV)},EntE ρ env e→∀{t x},lk e t=some x→lk env t=some (renA ρ x)
 | [],_,t,x,h=>by simp [lk] at h
 | (t',x')::e,hE,t,x,h=>by
  simp only [lk] at h
  split at h
  ·rename_i e;subst e;simp only [Option.some.injEq] at h;subst h;exact hE.1
  ·exact hE.2.get h
theorem EntO.get {ρ:Nat→Nat} {env:List (Nat×AObj)}:∀{e:List (Nat×AObj)},EntO ρ env e→∀{t x},lk e t=some x→lk env (ρ t)=some (renO ρ x)
 | [],_,t,x,h=>by simp [lk] at h
 | (t',x')::e,hE,t,x,h=>by
  simp only [lk] at h
  split at h
  ·rename_i e;subst e;simp only [Option.some.injEq] at h;subst h;exact hE.1
  ·exact hE.2.get h
theorem lk_mem {α:Type}:∀{e:List (Nat×α)} {t x},lk e t=some x→(t,x)∈e
 | [],t,x,h=>by simp [lk] at h
 | (t',x')::e,t,x,h=>by
  simp only [lk] at h
  split at h
  ·rename_i e;subst e;simp only [Option.some.injEq] at h;subst h;simp
  ·exact List.mem_cons_of_mem _ (lk_mem h)
def QGU (ρ:Nat→Nat):List (Nat×AObj)→Prop
 | []=>True
 | (o,_)::e=>(e.all fun p=>p.1==o||ρ p.1 != ρ o)=true∧QGU ρ e
theorem QGU.get {ρ:Nat→Nat}:∀{e:List (Nat×AObj)},QGU ρ e→∀{o o' x x'},(o,x)∈e→(o',x')∈e→o≠o'→ρ o≠ρ o'
 | [],_,o,o',x,x',h,_,_=>by simp at h
 | (p,y)::e,hI,o,o',x,x',h,h',hne=>by
  simp only [QGU,List.all_eq_true,Bool.or_eq_true,beq_iff_eq,bne_iff_ne,ne_eq] at hI
  rcases List.mem_cons.1 h with h1 | h1<;>rcases List.mem_cons.1 h' with h2 | h2
  ·cases h1;cases h2;exact absurd rfl hne
  ·cases h1
   rcases hI.1 _ h2 with h3 | h3
   ·exact absurd h3.symm hne
   ·exact fun e=>h3 e.symm
  ·cases h2
   rcases hI.1 _ h1 with h3 | h3
   ·exact absurd h3 hne
   ·exact h3
  ·exact hI.2.get h1 h2 hne
theorem Ent.intro (r:List (Nat×Nat)) {n0:Nat} {env env':List (Nat×AV)} {objs objs':List (Nat×AObj)} {next base wid next':Nat}
  (hE:EntE (rho' r n0 next' next) env env') (hO:EntO (rho' r n0 next' next) objs objs') (hI:QGU (rho' r n0 next' next) objs') (hn:(objs'.all fun p=>decide (p.1<next'))=true) (h0:n0≤next') (h1:n0≤next):Ent n0 ⟨env,⟨objs,next,base,wid⟩⟩ ⟨env',⟨objs',next',next',0⟩⟩:=by
 intro S μ w a hr henv
 have hlt:∀{o ob},lk objs' o=some ob→o<next':=fun h=>by
  rw [List.all_eq_true] at hn
  simpa using hn _ (lk_mem h)
 refine⟨S,fun o=>μ (rho' r n0 next' next o),⟨fun o ob hf=>⟨hlt hf,RepO.ren _ ob (hr.obj _ _ (hO.get hf)).2⟩,fun o o' ob ob' hf hf' ho ho' hne b i j hi=>?_,hr.old,fun o ho=>?_,fun o h1 h2=>?_,Nat.le_refl _,fun o b bo h=>hr.bk _ _ _ h⟩,fun t x ht=>Rep.ren _ _ _ (henv t _ (hE.get ht)),fun _ _ h=>h,fun _ _ h=>.inl h,fun o ho=>?_,fun o ho hf=>?_,h0,rfl,fun b hb=>?_⟩
 ·exact hr.inj _ _ _ _ (hO.get hf) (hO.get hf') (by rw [Qk];exact ho) (by rw [Qk];exact ho') (hI.get (lk_mem hf) (lk_mem hf') hne) b i j hi
 ·have:rho' r n0 next' next o=next+o:=by
   have ho':next'≤o:=ho
   unfold rho'
   rw [if_neg (by omega),if_neg (by omega)]
  show μ (rho' r n0 next' next o)=none
  rw [this]
  exact hr.fr _ (by show next≤next+o;omega)
 ·simp only at h1 h2;omega
 ·show μ (rho' r n0 next' next o)=μ o
  unfold rho';rw [if_pos ho]
 ·obtain⟨ob,hob⟩:=Option.ne_none_iff_exists'.1 hf
  have:=hO.get hob
  have e:rho' r n0 next' next o=o:=by unfold rho';rw [if_pos ho]
  rw [e] at this
  show lk objs o≠none
  rw [this];simp
 ·rcases hb with ⟨o,ob,bo,hf,hown,hμ⟩ | ⟨o,b0,code,hf,hμ,ht⟩
  ·exact .inl ⟨rho' r n0 next' next o,renO (rho' r n0 next' next) ob,bo,hO.get hf,by rw [Qk];exact hown,hμ⟩
  ·exact .inr ⟨rho' r n0 next' next o,b0,code,hO.get hf,hμ,ht⟩
def SubE (env:List (Nat×AV)):List (Nat×AV)→Prop
 | []=>True
 | (t,x)::e=>lk env t=some x∧SubE env e
theorem SubE.get {env:List (Nat×AV)}:∀{e:List (Nat×AV)},SubE env e→∀{t x},lk e t=some x→lk env t=some x
 | [],_,t,x,h=>by simp [lk] at h
 | (t',x')::e,hE,t,x,h=>by
  simp only [lk] at h
  split at h
  ·rename_i e;subst e;simp only [Option.some.injEq] at h;subst h;exact hE.1
  ·exact hE.2.get h
def idfE:List (Nat×AV)→Bool
 | []=>true
 | (_,x)::e=>idf x&&idfE e
theorem idfE.get:∀{e:List (Nat×AV)},idfE e=true→∀{t x},lk e t=some x→idf x=true
 | [],_,t,x,h=>by simp [lk] at h
 | (t',x')::e,hE,t,x,h=>by
  simp only [idfE,Bool.and_eq_true] at hE
  simp only [lk] at h
  split at h
  ·simp only [Option.some.injEq] at h;subst h;exact hE.1
  ·exact idfE.get hE.2 h
theorem Ent.val {env env':List (Nat×AV)} {objs:List (Nat×AObj)} {next base wid:Nat} {next':Nat} (hI:idfE env'=true) (hE:SubE env env'):Ent 0 ⟨env,⟨objs,next,base,wid⟩⟩ ⟨env',⟨[],next',next',0⟩⟩:=by
 intro S μ w a hr henv
 exact⟨S,μ0,⟨fun o ob h=>by simp [Mem.find,lk] at h,fun o o' ob ob' h=>by simp [Mem.find,lk] at h,hr.old,fun o _=>rfl,fun o h1 h2=>by simp only at h1 h2;omega,Nat.le_refl _,fun o b bo h=>by simp [μ0] at h⟩,
  fun t x ht=>Rep.idf0 (fun _ _ h=>h) _ _ (idfE.get hI ht) (henv t x (hE.get ht)),fun _ _ h=>h,fun _ _ h=>.inl h,fun o ho=>by omega,fun o ho=>by omega,Nat.zero_le _,rfl,fun b hb=>absurd hb Q1⟩
def LP {ι:Type} (n0:Nat) (st:ι→St) (I:ι→Prop) (ms:ι→Nat) (i:ι) (σ:St):Prop:=∃j,I j∧ms j<ms i∧Ent n0 σ (st j)
theorem QD {ι:Type} {n0 N:Nat} {c:Code} {k:List KI} {σ:St} (st:ι→St) (I:ι→Prop) (ms:ι→Nat) (i0:ι) (h0:I i0) (h1:Ent n0 σ (st i0))
  (h:∀i,I i→ev P γ n0 N (.code c::.lp (LP n0 st I ms i)::k) (st i)):ev P γ n0 N (.code (.loop c)::k) σ:=by
 rw [ev]
 exact⟨ι,st,I,ms,i0,h0,h1,h⟩
theorem QAs {find:Nat→Option AObj} {n:Nat} {x:AV} (h:idf x=true):snap find (n+1) x=some (x,[]):=by
 cases x<;>simp_all [snap,QAO,idf]
def endS (m:Mem) (y:Option AV) (r:AV):Prop:=∃y',y=some y'∧∃ids,snap m.find 12 (unf y')=some (r,ids)
theorem QcL {rs:List ResultVar} {r:AV} {e:Exit} {env:List (Nat×AV)} {m:Mem}:endV P rs r e ⟨env,m⟩=endS m (resA P rs env m) r:=(rfl)
theorem QW5 {rv:ResultVar} {env:List (Nat×AV)} {m:Mem}:resA P [rv] env m=QD0 P env m rv:=(rfl)
theorem QPS {t:Nat} {env:List (Nat×AV)} {m:Mem}:QD0 P env m (.tmp t)=lk env t:=(rfl)
theorem QE.start {f:FuncId} {fn:Func} {c:Code} {rs:List ResultVar} {nt:Nat} {xs:List AV} {r:AV} (hf:P.funcs[f]?=some fn) (hb:fn.body=some c) (hn:(fn.name== "runtime.NumGoroutine")=false) (hrs:fn.results=rs.toArray) (hnt:fn.ntmps=nt) (hm:P.follows .mixedOrders=true) (hd:dOK c=true) (hx:idfL xs=true) (hr:idf r=true)
  (h:ev P γ 0 nt [.code c,.fin (endV P rs r)] ⟨(xs.zipIdx.map fun p=>(p.2,p.1)),⟨[],0,0,0⟩⟩):QE P γ f xs r:=by
 refine QE.enter hf hb hn hm hd hx hr ?_
 rw [hrs,hnt]
 simpa using h
attribute [push_cast] QcL QW5 QPS
variable {P : Program} {t : TypeId} {x y : Operand} {k : IntKind} {a b : Int}
theorem QAk {op:BinOp}:eqGuard op t x y (.int k a) (.int k b)=pure ():=by cases op<;>rfl
theorem QLB {op:BinOp} {p q:ByteArray}:eqGuard op t x y (.string p) (.string q)=pure ():=by cases op<;>rfl
theorem QWM:pbin P .add t x y (.int k a) (.int k b)=some (.int k (k.wrap (a+b))):=by
 simp [pbin,QAk,binOp,Op.intArith];rfl
theorem QXU:pbin P .sub t x y (.int k a) (.int k b)=some (.int k (k.wrap (a - b))):=by
 simp [pbin,QAk,binOp,Op.intArith];rfl
theorem QZA:pbin P .mul t x y (.int k a) (.int k b)=some (.int k (k.wrap (a*b))):=by
 simp [pbin,QAk,binOp,Op.intArith];rfl
theorem QYw:pbin P .lss t x y (.int k a) (.int k b)=some (.bool (decide (a<b))):=by
 simp [pbin,QAk,binOp,Op.intCmp];rfl
theorem QYX:pbin P .leq t x y (.int k a) (.int k b)=some (.bool (decide (a≤b))):=by
 simp [pbin,QAk,binOp,Op.intCmp];rfl
theorem QY2:pbin P .gtr t x y (.int k a) (.int k b)=some (.bool (decide (b<a))):=by
 simp [pbin,QAk,binOp,Op.intCmp];rfl
theorem QV7:pbin P .geq t x y (.int k a) (.int k b)=some (.bool (decide (b≤a))):=by
 simp [pbin,QAk,binOp,Op.intCmp];rfl
theorem QEc {α:Type} {a:α}:prun P (pure a)=some a:=(rfl)
theorem ibeq:(a==b)=decide (a=b):=by by_cases h:a=b<;>simp [h]
theorem lbeq {p q:List UInt8}:(p==q)=decide (p=q):=by by_cases h:p=q<;>simp [h]
theorem QE2 {p q:Value} {r:Bool} (h:keqA P t p q=some r):r=keq p q:=by
 unfold keqA at h
 split at h
 ·split at h
  ·simp only [Option.some.injEq] at h;exact h.symm
  ·cases h
 ·cases h
theorem QYr:pbin P .eql t x y (.int k a) (.int k b)=some (.bool (decide (a=b))):=by
 unfold pbin
 simp only
 cases h:keqA P t (.int k a) (.int k b) with
 | some r=>
  have:=QE2 h
  subst this
  simp [keq,ibeq]
 | none=>simp [QAk,binOp,Op.intCmp,QEc,ibeq]
theorem QV0:pbin P .neq t x y (.int k a) (.int k b)=some (.bool (!decide (a=b))):=by
 unfold pbin
 simp only
 cases h:keqA P t (.int k a) (.int k b) with
 | some r=>
  have:=QE2 h
  subst this
  simp [keq,ibeq]
 | none=>simp [QAk,binOp,Op.intCmp,QEc,bne,ibeq]
theorem QMq (bs:ByteArray):∀(i:Nat) (r:List UInt8),ByteArray.toList.loop bs i r=r.reverse++bs.data.toList.drop i:=by
 intro i r
 induction i,r using ByteArray.toList.loop.induct bs with
 | case1 i r h ih=>
  rw [ByteArray.toList.loop,if_pos h,ih]
  have h':i<bs.data.toList.length:=by simpa using h
  rw [List.drop_eq_getElem_cons h']
  simp [ByteArray.get!, h]
 | case2 i r h=>
  rw [ByteArray.toList.loop,if_neg h]
  have h':bs.data.toList.length≤i:=by simpa using h
  simp [List.drop_eq_nil_of_le h']
theorem QHL (bs:ByteArray):bs.toList=bs.data.toList:=by
 rw [ByteArray.toList,QMq];simp
theorem QCl {p q:ByteArray}:p.toList=q.toList↔p=q:=by
 rw [QHL,QHL]
 constructor
 ·intro h
  obtain⟨⟨a⟩⟩:=p
  obtain⟨⟨b⟩⟩:=q
  simp only at h
  subst h;rfl
 ·rintro rfl;rfl
theorem QU2 {p q:ByteArray}:pbin P .eql t x y (.string p) (.string q)=some (.bool (decide (p=q))):=by
 unfold pbin
 simp only
 cases h:keqA P t (.string p) (.string q) with
 | some r=>
  have:=QE2 h
  subst this
  simp [keq,lbeq,QCl]
 | none=>simp [QLB,binOp,Op.stringOp,QEc,lbeq,QCl]
theorem QUy {p q:ByteArray}:pbin P .neq t x y (.string p) (.string q)=some (.bool (!decide (p=q))):=by
 unfold pbin
 simp only
 cases h:keqA P t (.string p) (.string q) with
 | some r=>
  have:=QE2 h
  subst this
  simp [keq,lbeq,QCl]
 | none=>simp [QLB,binOp,Op.stringOp,QEc,lbeq,QCl]
theorem QR5 {p q:Bool} (h:tkt P t=some .boolK) (hg:QHC P t=false):pbin P .eql t x y (.bool p) (.bool q)=some (.bool (decide (p=q))):=by
 simp [pbin,keqA,h,hg,kwf,keq];cases p<;>cases q<;>rfl
theorem Qd6 {p:Bool}:unA P .not (some (.bool p))=some (.v (.bool (!p)),[]):=(rfl)
theorem val_v {v:Value}:AV.val? (.v v)=some v:=(rfl)
theorem QAN {n:Int} (h0:-9223372036854775808≤n) (h1:n≤9223372036854775807):IntKind.wrap .i64 n=n:=by
 simp only [IntKind.wrap,IntKind.bits,IntKind.signed]
 by_cases h:0≤n
 ·have:n % 18446744073709551616=n:=Int.emod_eq_of_lt h (by omega)
  simp [this];omega
 ·have:n % 18446744073709551616=n+18446744073709551616:=by omega
  simp [this];omega
theorem QSi {m:Mem} {dst:Option Nat}:QBO m dst []=true:=by cases dst<;>simp [QBO,lk]
theorem QbI {p:Value} {q:AV}:QDL P t (.v p) q=none:=by unfold QDL;rfl
theorem QSd {p:List AV} {q:AV}:QDL P t (.agg p) q=none:=by unfold QDL;rfl
def flat {α:Type} (f:α→List AV) (l:List α):List AV:=l.flatMap f
theorem QW {α:Type} {f:α→List AV} {sz:Nat} (h:∀x,(f x).length=sz):∀l:List α,(flat f l).length=l.length*sz
 | []=>by simp [flat]
 | x::l=>by have:=QW h l;simp only [flat,List.flatMap_cons,List.length_append,h,List.length_cons] at*; rw [this,Nat.add_mul,Nat.one_mul,Nat.add_comm]
theorem QAh {α:Type} {f:α→List AV} {sz:Nat} (h:∀x,(f x).length=sz):∀(l:List α) (i:Nat) (hi:i<l.length),(flat f l).drop (i*sz)=f l[i]++flat f (l.drop (i+1))
 | x::l,0,_=>by simp [flat]
 | x::l,i+1,hi=>by
  have:=QAh h l i (by simpa using hi)
  simp only [flat,List.flatMap_cons] at*
  rw [Nat.add_mul,Nat.one_mul,Nat.add_comm,←List.drop_drop,List.drop_append_of_le_length (by rw [h];exact Nat.le_refl _),←h x,List.drop_length,List.nil_append,h x]
  simpa using this
def Br (c:Prop) [b:Box]:Prop:=c→b.p
theorem QeB {p:Prop}:(@Br True ⟨p⟩)=p:=by simp [Br]
theorem QVr {p:Prop}:(@Br False ⟨p⟩)=True:=by simp [Br]
theorem QcJ {c:Prop} [Decidable c] {yes no:Prop}:@evX (some (.v (.bool (decide c)))) true ⟨yes⟩ ⟨no⟩=(@Br c ⟨yes⟩∧@Br (¬c) ⟨no⟩):=by
 by_cases h:c<;>simp [evX,evB,evBb,QHP,QD5,Br,h]
theorem QXS {c:Prop} [Decidable c] {yes no:Prop}:@evX (some (.v (.bool (!decide c)))) true ⟨yes⟩ ⟨no⟩=(@Br (¬c) ⟨yes⟩∧@Br c ⟨no⟩):=by
 by_cases h:c<;>simp [evX,evB,evBb,QHP,QD5,Br,h]
theorem QYC {c:Prop} [Decidable c] {yes no:Prop}:@evX (some (.v (.bool (decide c)))) false ⟨yes⟩ ⟨no⟩=(@Br (¬c) ⟨yes⟩∧@Br c ⟨no⟩):=by
 by_cases h:c<;>simp [evX,evB,evBb,QHP,QD5,Br,h]
theorem QRN {c:Prop} [Decidable c] {yes no:Prop}:@evX (some (.v (.bool (!decide c)))) false ⟨yes⟩ ⟨no⟩=(@Br c ⟨yes⟩∧@Br (¬c) ⟨no⟩):=by
 by_cases h:c<;>simp [evX,evB,evBb,QHP,QD5,Br,h]
theorem QI2 {n z:Nat} {xs:List AV} {i:Int}:QAC P t (.seq n z xs) (.v (.int k i))=match Qd P t with | some e=>if z=tsz P e∧tok P e=true then if 0≤i∧i<n then some (.rop (xs.drop (i.toNat*z))) else none else none | none=>none:=by
 unfold QAC;cases Qd P t<;>cases tarr P t<;>rfl
theorem QKn {o off n z:Nat} {i:Int}:QAC P t (.sl o off n z) (.v (.int k i))=match Qd P t with | some e=>if z=tsz P e∧tok P e=true then if 0≤i∧i<n then some (.ptr o (off+i.toNat*z)) else none else none | none=>none:=by
 unfold QAC;cases Qd P t<;>cases tarr P t<;>rfl
theorem QTW {find:Nat→Option AObj} {xs:List AV}:QE3 P find t (.rop xs)=QCR P t xs 0:=(rfl)
def loadO (P:Program) (t:TypeId) (off:Nat) (ob:Option AObj):Option AV:=match ob with
  | some (.cells _ ys _)=>QCR P t ys off
  | some (.imm ys)=>QCR P t ys off
  | _=>none
theorem QSh {find:Nat→Option AObj} {o off:Nat}:QE3 P find t (.ptr o off)=loadO P t off (find o):=(rfl)
theorem QM6 {E:TypeId} {ys:List AV} {ap:Bool} {off:Nat}:loadO P t off (some (.cells E ys ap))=QCR P t ys off:=(rfl)
theorem QUB (h:tagg P t=some true) {xs:List AV} {off:Nat}:QCR P t xs off=if off+tsz P t≤xs.length then some (.agg ((xs.drop off).take (tsz P t))) else none:=by simp [QCR,h]
theorem QRW (h:tagg P t=some false) {xs:List AV} {off:Nat}:QCR P t xs off=xs[off]?:=by simp [QCR,h]
def QAf (s:ByteArray):List AV:=[.v (.string s)]
theorem QBF (s:ByteArray):(QAf s).length=1:=(rfl)
theorem QIK (l:List ByteArray) (i:Nat) (hi:i<l.length):(flat QAf l).drop (i*1)=.v (.string l[i])::flat QAf (l.drop (i+1)):=QAh (f:=QAf) (sz:=1) QBF l i hi
theorem QIO (s:ByteArray):idfL (QAf s)=true:=(rfl)
abbrev Hs:={ l:List Int // l.length=32 }
def hcell (h:Hs):List AV:=h.1.map fun n=>.v (.int .u8 n)
def hval (h:Hs):Value:=.agg (h.1.map fun n=>.int .u8 n).toArray
theorem QDq (l:List Hs) (i:Nat) (hi:i<l.length):(flat hcell l).drop (i*32)=hcell l[i]++flat hcell (l.drop (i+1)):=QAh (fun h=>by simp [hcell,h.2]) l i hi
theorem QK (h:Hs):(hcell h).length=32:=by simp [hcell,h.2]
theorem QDv {h:Hs} {l:List AV}:(hcell h++l).take 32=hcell h:=by rw [←QK h,List.take_left]
theorem QKJ {α:Type} (f:α→Value):∀l:List α,QFQ (l.map fun x=>.v (f x))=some (l.map f)
 | []=>rfl
 | x::l=>by simp [QFQ,QKJ f l]
theorem QKI (h:Hs):AV.val? (.agg (hcell h))=some (hval h):=by simp [AV.val?,hcell,hval,QKJ]
theorem QBy (h k:Hs):keq (hval h) (hval k)=decide (h=k):=by
 obtain⟨l,hl⟩:=h
 obtain⟨m,hm⟩:=k
 have key:∀(l m:List Int),l.length=m.length→(((l.map fun n=>Value.int .u8 n).zip (m.map fun n=>Value.int .u8 n)).all fun p=>ieq p.1 p.2)=decide (l=m):=by
  intro l
  induction l with
  | nil=>intro m h;cases m with
   | nil=>rfl
   | cons _ _=>simp at h
  | cons x l ih=>
   intro m h
   cases m with
   | nil=>simp at h
   | cons y m=>
    simp only [List.map_cons,List.zip_cons_cons,List.all_cons,ih m (by simpa using h),List.cons.injEq]
    have:ieq (.int .u8 x) (.int .u8 y)=decide (x=y):=by simp [ieq,ibeq]
    rw [this]
    by_cases e:x=y<;>simp [e]
 simp only [keq,hval,List.size_toArray,List.length_map,hl,hm,beq_self_eq_true,Bool.true_and,Subtype.mk.injEq]
 exact key l m (hl.trans hm.symm)
theorem QE8 (h:Hs):kwf (.arrK 32 .u8) (hval h)=true:=by
 simp [kwf,hval,h.2,QC6]
theorem QRJ {h k:Hs} (h1:tkt P t=some (.arrK 32 .u8)) (h2:QHC P t=false):pbin P .eql t x y (hval h) (hval k)=some (.bool (decide (h=k))):=by
 simp [pbin,keqA,h1,h2,QE8,QBy]
theorem QTG {h k:Hs} (h1:tkt P t=some (.arrK 32 .u8)) (h2:QHC P t=false):pbin P .neq t x y (hval h) (hval k)=some (.bool (!decide (h=k))):=by
 simp [pbin,keqA,h1,h2,QE8,QBy]
theorem binA_h {op:BinOp} {h k:Hs}:binA P op t x y (.agg (hcell h)) (.agg (hcell k))=(pbin P op t x y (hval h) (hval k)).map fun v=>(.v v,[]):=by
 simp [binA,QKI]
theorem Qy:∀(l m:List AV),idfL (l++m)=(idfL l&&idfL m)
 | [],m=>by simp [idfL]
 | x::l,m=>by simp [idfL,Qy l m,Bool.and_assoc]
theorem QZ {α:Type} {f:α→List AV} (h:∀x,idfL (f x)=true):∀l:List α,idfL (flat f l)=true
 | []=>rfl
 | x::l=>by have:=QZ h l;simp only [flat,List.flatMap_cons] at*; simp [Qy,h,this]
theorem QGb {α:Type} (f:α→Value):∀l:List α,idfL (l.map fun x=>.v (f x))=true
 | []=>rfl
 | x::l=>by simp [idfL,idf,QGb f l]
theorem QS (h:Hs):idfL (hcell h)=true:=QGb _ _
attribute [push_cast] QIK QUB QRW QRJ QTG List.getElem?_cons_zero
attribute [push_cast] QR5 Qd6 val_v QYC QRN QeB QVr QI2 QKn QTW QSh QM6 Int.toNat_natCast QDq QDv QK List.length_append List.drop_zero List.drop_drop Nat.zero_add Nat.add_zero Int.natCast_nonneg
attribute [push_cast] QWM QXU QZA QYw QYX QY2 QV7 QYr QV0 QU2 QUy QSi QbI QSd QcJ QXS binA_h
variable {P : Program} {γ : GTab} {S : Nat → Nat → Prop} {μ : Nat → Option (Nat × Nat)} {w : World}
def Qc (keep:List (Nat×Nat)) (objs:List (Nat×AObj)):List (Nat×AObj):=objs.filter fun p=>!(keep.any fun q=>q.2==p.1)
theorem Qx {keep:List (Nat×Nat)}:∀{objs:List (Nat×AObj)} {o:Nat} {ob:AObj},lk (Qc keep objs) o=some ob→lk objs o=some ob∧(keep.any fun q=>q.2==o)=false
 | [],o,ob,h=>by simp [Qc,lk] at h
 | (p,x)::objs,o,ob,h=>by
  simp only [Qc,List.filter_cons] at h
  split at h
  ·rename_i hk
   simp only [lk] at h
   split at h
   ·rename_i e;subst e
    exact⟨by simpa [lk] using h,by simpa using hk⟩
   ·rename_i e
    have:=Qx (keep:=keep) h
    exact⟨by simp only [lk,if_neg e];exact this.1,this.2⟩
  ·rename_i hk
   have:=Qx (keep:=keep) h
   refine⟨?_,this.2⟩
   simp only [lk]
   split
   ·rename_i e;subst e
    rw [this.2] at hk;simp at hk
   ·exact this.1
def QNR (keep:List (Nat×Nat)):AV→Option AV
 | .ptr o off=>(keep.find? fun q=>q.2==o).map fun q=>.ptr q.1 off
 | .sl o off n sz=>(keep.find? fun q=>q.2==o).map fun q=>.sl q.1 off n sz
 | .mp o=>(keep.find? fun q=>q.2==o).map fun q=>.mp q.1
 | _=>none
def nilA (y:AV):AV→Bool
 | .v (.slice none 0 0)=>match y with
  | .sl _ _ 0 _=>true
  | .seq 0 _ []=>true
  | _=>false
 | _=>false
def FzV (keep:List (Nat×Nat)) (f:Nat→Option AObj):Option AV→AV→Prop
 | some x,y=>nilA y x=true∨match QNR keep x with
  | some z=>z=y
  | none=>∃ids,snap f 12 x=some (y,ids)
 | none,_=>False
def FzE (keep:List (Nat×Nat)) (f:Nat→Option AObj) (env:List (Nat×AV)):List (Nat×AV)→Prop
 | []=>True
 | (t,x)::e=>FzV keep f (lk env t) x∧FzE keep f env e
def FzB (f:Nat→Option AObj):Option AObj→AObj→Prop
 | some (.cells E xs ap),.cells E' ys ap'=>E=E'∧ap=ap'∧∃ids,QAO (snap f 12) xs=some (ys,ids)
 | some (.map kt ks xs),.map kt' ks' ys=>kt=kt'∧ks=ks'∧∃ids,QAO (snap f 12) xs=some (ys,ids)
 | _,_=>False
def nilO:AObj→Bool
 | .cells _ [] _=>true
 | _=>false
def FzO1 (keep:List (Nat×Nat)) (f:Nat→Option AObj) (objs:List (Nat×AObj)) (o:Nat) (x:AObj):Prop:=match lk keep o with
 | some q=>FzB f (lk objs q) x
 | none=>nilO x=true
def FzO (keep:List (Nat×Nat)) (f:Nat→Option AObj) (objs:List (Nat×AObj)):List (Nat×AObj)→Prop
 | []=>True
 | (o,x)::e=>FzO1 keep f objs o x∧FzO keep f objs e
theorem FzE.get {keep:List (Nat×Nat)} {f:Nat→Option AObj} {env:List (Nat×AV)}:∀{e:List (Nat×AV)},FzE keep f env e→∀{t x},lk e t=some x→FzV keep f (lk env t) x
 | [],_,t,x,h=>by simp [lk] at h
 | (t',x')::e,hE,t,x,h=>by
  simp only [lk] at h
  split at h
  ·rename_i e;subst e;simp only [Option.some.injEq] at h;subst h;exact hE.1
  ·exact hE.2.get h
theorem FzO.get {keep:List (Nat×Nat)} {f:Nat→Option AObj} {objs:List (Nat×AObj)}:∀{e:List (Nat×AObj)},FzO keep f objs e→∀{t x},lk e t=some x→FzO1 keep f objs t x
 | [],_,t,x,h=>by simp [lk] at h
 | (t',x')::e,hE,t,x,h=>by
  simp only [lk] at h
  split at h
  ·rename_i e;subst e;simp only [Option.some.injEq] at h;subst h;exact hE.1
  ·exact hE.2.get h
def kInj:List (Nat×Nat)→Bool
 | []=>true
 | (a,q)::e=>e.all (fun p=>p.2 != q&&p.1 != a)&&kInj e
theorem QOQ:∀{keep:List (Nat×Nat)},kInj keep=true→∀{a b q:Nat},lk keep a=some q→lk keep b=some q→a=b
 | [],_,a,b,q,h,_=>by simp [lk] at h
 | (c,r)::keep,hn,a,b,q,ha,hb=>by
  simp only [kInj,Bool.and_eq_true,List.all_eq_true] at hn
  simp only [lk] at ha hb
  split at ha
  ·rename_i e1
   split at hb
   ·rename_i e2;exact e1.symm.trans e2
   ·simp only [Option.some.injEq] at ha
    have:=(hn.1 _ (lk_mem hb)).1
    rw [ha] at this;simp at this
  ·split at hb
   ·simp only [Option.some.injEq] at hb
    have:=(hn.1 _ (lk_mem ha)).1
    rw [hb] at this;simp at this
   ·exact QOQ hn.2 ha hb
theorem QJh:∀{keep:List (Nat×Nat)},kInj keep=true→∀{o:Nat} {q:Nat×Nat},(keep.find? fun q=>q.2==o)=some q→lk keep q.1=some o
 | [],_,o,q,h=>by simp at h
 | (c,r)::keep,hn,o,q,h=>by
  simp only [kInj,Bool.and_eq_true,List.all_eq_true] at hn
  simp only [List.find?_cons] at h
  split at h
  ·rename_i e
   simp only [Option.some.injEq] at h
   subst h
   simp only [lk,if_true]
   rw [eq_of_beq e]
  ·have:=QJh hn.2 h
   simp only [lk]
   rw [if_neg (fun e=>by have h2:=(hn.1 _ (lk_mem this)).2;rw [e] at h2;simp at h2)]
   exact this
theorem QAl:∀{keep:List (Nat×Nat)} {a q:Nat},lk keep a=some q→(keep.any fun p=>p.2==q)=true
 | keep,a,q,h=>by
  rw [List.any_eq_true]
  exact⟨_,lk_mem h,by simp⟩
theorem Ent.freeze (keep:List (Nat×Nat)) {env env':List (Nat×AV)} {objs objs':List (Nat×AObj)} {next base wid next':Nat}
  (hE:FzE keep (lk (Qc keep objs)) env env') (hO:FzO keep (lk (Qc keep objs)) objs objs') (hk:kInj keep=true) (hn:(keep.all fun p=>decide (p.1<next'))=true) (hn':(objs'.all fun p=>decide (p.1<next'))=true):Ent 0 ⟨env,⟨objs,next,base,wid⟩⟩ ⟨env',⟨objs',next',next',0⟩⟩:=by
 intro S μ w a hr henv
 have hr2:RM S μ w ⟨Qc keep objs,next,next,0⟩:=⟨fun o ob h=>hr.obj o ob (Qx h).1,fun o o' ob ob' h h'=>hr.inj o o' ob ob' (Qx h).1 (Qx h').1,hr.old,hr.fr,fun o h1 h2=>by simp only at h1 h2;omega,Nat.le_refl _,hr.bk⟩
 let T:Nat→Nat→Prop:=fun b off=>S b off∨QBE ⟨Qc keep objs,next,next,0⟩ μ b
 let ν:Nat→Option (Nat×Nat):=fun o=>(lk keep o).bind μ
 have hsn:=QBI (T:=T) hr2 (fun b off h=>.inl h) (fun b h off=>.inr h) 12
 have hsl:=QEd (T:=T) (fun b off h=>.inl h) hsn
 have hown:∀b,QBE ⟨Qc keep objs,next,next,0⟩ μ b→QBE ⟨objs,next,base,wid⟩ μ b:=fun b ⟨o,ob,bo,h1,h2,h3⟩=>⟨o,ob,bo,(Qx h1).1,h2,h3⟩
 have hnot:∀{q b bo:Nat} {ob:AObj},(keep.any fun p=>p.2==q)=true→lk objs q=some ob→ob.own=true→μ q=some (b,bo)→(∀off,¬S b off)→∀off,¬T b off:=by
  intro q b bo ob hq hf hob hμ hS off h
  rcases h with h | ⟨o,ob',bo',h1,h2,h3⟩
  ·exact hS off h
  ·have hl:=Qx h1
   have hne:o≠q:=fun e=>by rw [e,hq] at hl;cases hl.2
   exact hr.inj o q ob' ob hl.1 hf h2 hob hne b bo' bo h3 hμ
 have hob:∀o ob,lk objs' o=some ob→(∃q x,lk keep o=some q∧lk objs q=some x∧x.own=ob.own∧RepO T ν w o ob)∨(ν o=none∧RepO T ν w o ob):=by
  intro o ob ho
  have hB:=hO.get ho
  unfold FzO1 at hB
  split at hB
  ·rename_i q hq
   left
   have hν:ν o=μ q:=by show (lk keep o).bind μ=μ q;rw [hq];rfl
   cases hx:lk objs q with
   | none=>rw [hx] at hB;simp [FzB] at hB
   | some x=>
    rw [hx] at hB
    have hobj:=(hr.obj q x hx).2
    refine⟨q,x,hq,hx,?_,?_⟩
    ·cases x<;>cases ob<;>simp [FzB] at hB<;>rfl
    ·cases x<;>cases ob<;>simp only [FzB] at hB
     ·obtain⟨rfl,rfl,ids,hs⟩:=hB
      simp only [RepO] at hobj ⊢
      rcases hobj with ⟨h1,h2⟩ | ⟨b,bo,ys,c,fz,e1,e2,e3,e4,e5,e6,e7,e8⟩
      ·subst h2
       obtain⟨k1,k2⟩:=hsl _ _ _ [] hs (by simp [RepL])
       exact .inl ⟨hν.trans h1,by have:=k2.length;simpa using this.symm⟩
      ·obtain⟨k1,k2⟩:=hsl _ _ _ _ hs e4
       exact .inr ⟨b,bo,ys,c,fz,hν.trans e1,e2,e3,RepL.idf1 _ _ k1 k2,e5,e6,e7,hnot (QAl hq) hx rfl e1 e8⟩
     ·obtain⟨rfl,rfl,ids,hs⟩:=hB
      simp only [RepO] at hobj ⊢
      obtain⟨b,bo,es,clock,e1,e2,e3,e4,e5,e6⟩:=hobj
      obtain⟨k1,k2⟩:=hsl _ _ _ _ hs e5
      exact⟨b,bo,es,clock,hν.trans e1,e2,e3,e4,RepL.idf1 _ _ k1 k2,hnot (QAl hq) hx rfl e1 e6⟩
  ·rename_i hq
   right
   have hν:ν o=none:=by show (lk keep o).bind μ=none;rw [hq];rfl
   refine⟨hν,?_⟩
   unfold nilO at hB
   split at hB
   ·simp only [RepO];exact .inl ⟨hν,trivial⟩
   ·cases hB
 have hlt:∀{o q},lk keep o=some q→o<next':=fun h=>by
  rw [List.all_eq_true] at hn
  simpa using hn _ (lk_mem h)
 refine⟨T,ν,⟨fun o ob h=>?_,fun o o' ob ob' h h' ho ho' hne b i j hi hj=>?_,fun b off h=>?_,fun o ho=>?_,fun o h1 h2=>by simp only at h1 h2;omega,Nat.le_refl _,fun o b bo h=>?_⟩,fun t x ht=>?_,fun b off h=>.inl h,fun b off h=>?_,fun o ho=>by omega,fun o ho=>by omega,Nat.zero_le _,rfl,fun b hb=>?_⟩
 ·refine⟨by rw [List.all_eq_true] at hn';simpa using hn' _ (lk_mem h),?_⟩
  rcases hob o ob h with ⟨q,x,h1,h2,h3,h4⟩ | ⟨_,h4⟩
  ·exact h4
  ·exact h4
 ·rcases hob o ob h with ⟨q,x,h1,h2,h3,h4⟩ | ⟨h4,_⟩
  case inr=>rw [h4] at hi;cases hi
  rcases hob o' ob' h' with ⟨q',x',g1,g2,g3,g4⟩ | ⟨g4,_⟩
  case inr=>rw [g4] at hj;cases hj
  have e1:ν o=μ q:=by show (lk keep o).bind μ=μ q;rw [h1];rfl
  have e2:ν o'=μ q':=by show (lk keep o').bind μ=μ q';rw [g1];rfl
  refine hr.inj q q' x x' h2 g2 (h3.trans ho) (g3.trans ho') (fun e=>hne (QOQ hk h1 (e▸g1))) b i j (e1▸hi) (e2▸hj)
 ·rcases h with h | ⟨o,ob,bo,_,_,h⟩
  ·exact hr.old _ _ h
  ·exact hr.bk _ _ _ h
 ·show (lk keep o).bind μ=none
  cases hq:lk keep o with
  | none=>rfl
  | some q=>have:=hlt hq;have ho':next'≤o:=ho;omega
 ·change (lk keep o).bind μ=some (b,bo) at h
  cases hq:lk keep o with
  | none=>rw [hq] at h;cases h
  | some q=>rw [hq] at h;exact hr.bk _ _ _ h
 ·have hV:=hE.get ht
  cases hx:lk env t with
  | none=>rw [hx] at hV;exact hV.elim
  | some y=>
   rw [hx] at hV
   have hy:=henv t y hx
   simp only [FzV] at hV
   rcases hV with hV | hV
   ·unfold nilA at hV
    split at hV
    ·split at hV
     ·simp only [Rep] at hy ⊢
      exact⟨none,0,hy,Nat.le_refl _,.inl rfl⟩
     ·simp only [Rep] at hy ⊢
      exact⟨none,0,hy,Nat.le_refl _,by simp,by simp⟩
     ·cases hV
    ·cases hV
   split at hV
   ·rename_i z hz
    subst hV
    have hmu:∀{o:Nat} {q:Nat×Nat},(keep.find? fun q=>q.2==o)=some q→ν q.1=μ o:=fun h=>by
     show (lk keep _).bind μ=_
     rw [QJh hk h];rfl
    cases y<;>simp only [QNR,Option.map_eq_some_iff,reduceCtorEq] at hz
    ·obtain⟨q,h1,rfl⟩:=hz
     simp only [Rep] at hy ⊢
     rw [hmu h1];exact hy
    ·obtain⟨q,h1,rfl⟩:=hz
     simp only [Rep] at hy ⊢
     rw [hmu h1];exact hy
    ·obtain⟨q,h1,rfl⟩:=hz
     simp only [Rep] at hy ⊢
     rw [hmu h1];exact hy
   ·obtain⟨ids,hs⟩:=hV
    obtain⟨k1,k2⟩:=hsn _ _ _ _ hs hy
    exact Rep.idf1 _ _ k1 k2
 ·rcases h with h | h
  ·exact .inl h
  ·exact .inr (.inl (hown _ h))
 ·rcases hb with ⟨o,ob,bo,h1,h2,h3⟩ | ⟨o,b0,code,h1,h2,h3⟩
  case inr=>
   have:=hO.get h1
   unfold FzO1 at this
   split at this
   ·rename_i q hq
    cases hx:lk objs q with
    | none=>simp [hx,FzB] at this
    | some x=>rw [hx] at this;cases x<;>simp [FzB] at this
   ·simp [nilO] at this
  rcases hob o ob h1 with ⟨q,x,g1,g2,g3,g4⟩ | ⟨g4,_⟩
  case inr=>rw [g4] at h3;cases h3
  exact .inl ⟨q,x,bo,g2,g3.trans h2,by change (lk keep o).bind μ=_ at h3;rw [g1] at h3;exact h3⟩
attribute [push_cast] ne_eq not_false_eq_true not_true_eq_false
variable {P : Program} {γ : GTab} {t : TypeId}
theorem QMw {zs:List Value} {e f:Nat}:QRQ (some zs) e f=some (.ptr f 0,[(f,.cells e (zs.map .v) false)]):=(rfl)
theorem QSL {cs:List AV} {e f:Nat}:boxA (some cs) e f=some (.ptr f 0,[(f,.cells e cs false)]):=(rfl)
theorem QLs {objs:List (Nat×AObj)} {n b w d:Nat}:QV ⟨objs,n,b,w⟩ (some d)=b+d:=(rfl)
theorem QKZ {objs:List (Nat×AObj)} {n b w:Nat}:QV ⟨objs,n,b,w⟩ none=b:=(rfl)
theorem QPP {objs:List (Nat×AObj)} {n b w d:Nat} {u:Upd}:QBO ⟨objs,n,b,w⟩ (some d) u=((lk u (b+d)).isNone||(lk objs (b+d)).isNone):=(rfl)
theorem QPd {objs:List (Nat×AObj)} {n b w:Nat} {u:Upd}:QBO ⟨objs,n,b,w⟩ none u=(lk u b).isNone:=(rfl)
theorem upd_mk {objs:List (Nat×AObj)} {n b w:Nat} {u:Upd}:Mem.upd ⟨objs,n,b,w⟩ u=⟨u++objs,n,b,w⟩:=(rfl)
theorem QRE {o:Nat} {x:AObj} {u:Upd}:wrOf ((o,x)::u)=o::wrOf u:=(rfl)
theorem QJf {fs:List (Nat×TypeId)} {f o off:Nat}:QCa P (some fs) f (.ptr o off)=(fs[f]?).bind fun fl=>if tok P fl.2∧tsz P fl.2≠0 then some (.ptr o (off+fl.1),[]) else none:=by
 simp only [QCa];cases fs[f]?<;>rfl
theorem QJZ {fs:List (Nat×TypeId)} {f:Nat} {xs:List AV}:QCa P (some fs) f (.rop xs)=(fs[f]?).bind fun fl=>if tok P fl.2∧tsz P fl.2≠0 then some (.rop (xs.drop fl.1),[]) else none:=by
 simp only [QCa];cases fs[f]?<;>rfl
def QSI (P:Program) (t:TypeId) (o off:Nat) (cs:Option (List AV)) (ob:Option AObj):Option Upd:=match cs,ob with
 | some cs,some (.cells E ys ap)=>if tok P t∧cs.length=tsz P t∧off+tsz P t≤ys.length then some [(o,.cells E (setL ys off cs) ap)] else none
 | _,_=>none
theorem QPo {find:Nat→Option AObj} {o off:Nat} {y:AV}:QD6 P find t (.ptr o off) y=QSI P t o off (QR y) (find o):=by
 unfold QD6 QSI
 cases QR y
 ·rfl
 ·rename_i cs
  simp only
  cases find o with
  | none=>rfl
  | some ob=>cases ob<;>rfl
theorem QJ6 {o off:Nat} {cs:List AV} {E:TypeId} {ys:List AV} {ap:Bool}:QSI P t o off (some cs) (some (.cells E ys ap))=if tok P t∧cs.length=tsz P t∧off+tsz P t≤ys.length then some [(o,.cells E (setL ys off cs) ap)] else none:=(rfl)
theorem QMk {xs:List AV}:QR (.agg xs)=some xs:=(rfl)
theorem QNZ {n z:Nat} {xs:List AV}:QR (.seq n z xs)=some [.seq n z xs]:=(rfl)
theorem QPq {o off n z:Nat}:QR (.sl o off n z)=some [.sl o off n z]:=(rfl)
theorem QNN {k:IntKind} {n:Int}:QR (.v (.int k n))=some [.v (.int k n)]:=(rfl)
theorem QL3 {b:Bool}:QR (.v (.bool b))=some [.v (.bool b)]:=(rfl)
theorem QHU {b:ByteArray}:QR (.v (.string b))=some [.v (.string b)]:=(rfl)
theorem QJv:QR (.v (.slice none 0 0))=some [.v (.slice none 0 0)]:=(rfl)
theorem QAK:∀{ys cs:List AV},cs.length=ys.length→setL ys 0 cs=cs:=by
 intro ys cs h
 have key:∀(cs pre ys:List AV),cs.length=ys.length→setL (pre++ys) pre.length cs=pre++cs:=by
  intro cs
  induction cs with
  | nil=>intro pre ys h;cases ys with
   | nil=>simp [setL]
   | cons _ _=>simp at h
  | cons c cs ih=>
   intro pre ys h
   cases ys with
   | nil=>simp at h
   | cons y ys=>
    simp only [setL]
    have:=ih (pre++[c]) ys (by simpa using h)
    simp only [List.length_append,List.length_cons,List.length_nil,Nat.zero_add,List.append_assoc,List.cons_append,List.nil_append] at this
    rw [←this]
    congr 1
    rw [List.set_append_right _ _ (Nat.le_refl _)]
    simp
 simpa using key cs [] ys h
theorem QZk {ys:List AV} {off:Nat} {c:AV}:setL ys off [c]=ys.set off c:=(rfl)
attribute [push_cast] cond_false cond_true
attribute [push_cast] QMw QSL QLs QKZ QPP QPd upd_mk QRE QJf QJZ QPo QJ6 QMk QNZ QPq QNN QL3 QHU QJv QZk
def Qab (all:Array Oper) (i:Nat) (rd wr:List Nat) (log:Log):Prop:=QBL all i rd wr log=true
theorem okT {all:Array Oper} {i:Nat} {rd wr:List Nat} {log:Log} (h:QBL all i rd wr log=true):Qab all i rd wr log:=h
theorem QXg {all:Array Oper} {i:Nat} {rd wr:List Nat} {log:Log} (h:Qab all i rd wr log):QBL all i rd wr log=true:=h
attribute [push_cast low] QXg
attribute [push_cast] List.length_cons List.length_nil Option.isNone_some Option.isNone_none Bool.or_true Bool.true_or Bool.or_false Bool.false_or Bool.not_false Bool.not_true Bool.and_true Bool.true_and List.contains_cons List.contains_nil
variable {P : Program} {γ : GTab} {m : Mem}
theorem QQ0 {g:FuncId}:QAt (.v (.func (.func g) #[] #[]))=some (g,[],[]):=(rfl)
theorem QL4 {g:FuncId} {a c:List AV}:QAt (.clo (.func g) a c)=some (g,a,c):=(rfl)
theorem QAE {find:Nat→Option AObj}:∀{xs:List AV},idfL xs=true→QJ find xs=some (xs,[])
 | [],_=>rfl
 | x::xs,h=>by
  simp only [idfL,Bool.and_eq_true] at h
  simp only [QJ,QAs h.1,QAE h.2,List.append_nil]
theorem QE.useV {g:FuncId} {xs:List AV} {x:AV} {K:AV→Mem→Prop} (hp:QE P γ g xs x) (hK:K x m):Qr P γ g xs m K:=
 QE.use hp (QAE hp.1) (.inr rfl) hK
theorem QWT {dst:Option Nat} {env:List (Nat×AV)} {K:St→Prop} {x:AV}:QRs dst env K x m=K ⟨putE dst x env,m⟩:=(rfl)
attribute [push_cast] QQ0 QL4 QWT
end Go.AW
