/- A part of the proof: A49 A50 A51 A52 A53 A55 A56 A57 A58 A59. -/
import Derived.Test.YtpcbnjbpdooejaaGreatDoorPad
import Derived.KernelRfl
set_option linter.all false
namespace Go.AW
variable {P : Program} {γ : GTab} {m : Mem}
def rhoM (σ:List Nat) (k n j:Nat):Nat:=if j<k then σ.getD j 0 else n+(j - k)
def QDK:AObj→Bool
 | .bag=>false
 | _=>true
theorem QDC {ob:AObj} (h:QDK ob=true):ob≠.bag:=fun e=>by rw [e] at h;cases h
def ObjM (σ:List Nat) (k n:Nat) (find:Nat→Option AObj):List (Nat×AObj)→Prop
 | []=>True
 | (j,ob)::e=>find (rhoM σ k n j)=some (renO (rhoM σ k n) ob)∧ObjM σ k n find e
theorem ObjM.get {σ:List Nat} {k n:Nat} {find:Nat→Option AObj}:∀{e:List (Nat×AObj)},ObjM σ k n find e→∀{j ob},lk e j=some ob→find (rhoM σ k n j)=some (renO (rhoM σ k n) ob)
 | [],_,j,ob,h=>by simp [lk] at h
 | (j',ob')::e,hE,j,ob,h=>by
  simp only [lk] at h
  split at h
  ·rename_i e;subst e;simp only [Option.some.injEq] at h;subst h;exact hE.1
  ·exact hE.2.get h
def renM (ρ:Nat→Nat):List (Nat×AObj)→List (Nat×AObj)
 | []=>[]
 | (j,ob)::e=>(ρ j,renO ρ ob)::renM ρ e
theorem QEV {ρ:Nat→Nat} (hi:∀a b,ρ a=ρ b→a=b):∀{e:List (Nat×AObj)} {j:Nat},lk (renM ρ e) (ρ j)=(lk e j).map (renO ρ)
 | [],j=>rfl
 | (j',ob)::e,j=>by
  simp only [renM,lk]
  by_cases h:j'=j
  ·subst h;simp
  ·rw [if_neg h,if_neg (fun e=>h (hi _ _ e)),QEV hi]
theorem QA7 {ρ:Nat→Nat}:∀{e:List (Nat×AObj)} {o:Nat} {ob:AObj},lk (renM ρ e) o=some ob→∃j,o=ρ j∧(lk e j).isSome=true
 | [],o,ob,h=>by simp [renM,lk] at h
 | (j',ob')::e,o,ob,h=>by
  simp only [renM,lk] at h
  split at h
  ·rename_i h1;exact⟨j',h1.symm,by simp [lk]⟩
  ·obtain⟨j,h1,h2⟩:=QA7 h
   exact⟨j,h1,by simp only [lk];split;rfl;exact h2⟩
theorem QIr {σ:List Nat} {k n:Nat} (hl:σ.length=k) (hn:σ.Nodup) (hlt:∀q∈σ,q<n):∀a b,rhoM σ k n a=rhoM σ k n b→a=b:=by
 intro a b h
 have hget:∀j,j<k→σ.getD j 0<n:=fun j hj=>by
  rw [List.getD_eq_getElem?_getD,List.getElem?_eq_getElem (by omega)]
  exact hlt _ (List.getElem_mem _)
 unfold rhoM at h
 split at h<;>split at h
 ·rename_i ha hb
  rw [List.getD_eq_getElem?_getD,List.getD_eq_getElem?_getD,List.getElem?_eq_getElem (by omega),List.getElem?_eq_getElem (by omega)] at h
  exact (List.getElem_inj hn).1 h
 ·rename_i ha hb;have:=hget a ha;omega
 ·rename_i ha hb;have:=hget b hb;omega
 ·omega
theorem QM.use {g:FuncId} {xs:List AV} {objs objs':List (Nat×AObj)} {k k':Nat} {r:AV} {K:AV→Mem→Prop} (σ:List Nat) (hp:QM P γ g xs objs k r objs' k') (hl:σ.length=k) (hn:σ.Nodup) (hlt:∀q∈σ,q<m.next) (hkk:k≤k') (hk0:∀p∈objs,p.1<k) (hk1:∀p∈objs',p.1<k')
  (hO:ObjM σ k m.next m.find objs) (hkeep:∀p∈objs,(lk objs' p.1).isSome=true) (hb0:∀p∈m.objs,QDK p.2=true) (hb1:∀p∈objs',QDK p.2=true)
  (hK:K (renA (rhoM σ k m.next) r) ⟨renM (rhoM σ k m.next) objs'++m.objs,m.next+(k' - k),m.base,m.wid⟩):Qr P γ g (renL (rhoM σ k m.next) xs) m K:=by
 refine⟨hp.1,fun S μ w vs hr hG hx=>?_⟩
 have hinj:=QIr hl hn hlt
 have hge:∀j,k≤j→rhoM σ k m.next j=m.next+(j - k):=fun j hj=>by unfold rhoM;rw [if_neg (by omega)]
 have hlow:∀j,j<k→rhoM σ k m.next j<m.next:=fun j hj=>by
  unfold rhoM;rw [if_pos hj,List.getD_eq_getElem?_getD,List.getElem?_eq_getElem (by omega)]
  exact hlt _ (List.getElem_mem _)
 have hkey:∀{j ob},lk objs j=some ob→j<k:=fun h=>hk0 _ (lk_mem h)
 have hkey1:∀{j ob},lk objs' j=some ob→j<k':=fun h=>hk1 _ (lk_mem h)
 have hrm0:RM S (fun j=>μ (rhoM σ k m.next j)) w ⟨objs,k,k,0⟩:=by
  refine⟨fun o ob h=>⟨hkey h,RepO.ren _ ob (hr.obj _ _ (hO.get h)).2⟩,fun o o' ob ob' h h' ho ho' hne b i j hb=>?_,hr.old,fun o ho=>?_,fun o h1 h2=>by simp only at h1 h2;omega,by simp,fun o b bo h=>hr.bk _ _ _ h⟩
  ·exact hr.inj _ _ _ _ (hO.get h) (hO.get h') (by rw [Qk];exact ho) (by rw [Qk];exact ho') (fun e=>hne (hinj _ _ e)) b i j hb
  ·show μ (rhoM σ k m.next o)=none
   rw [hge o ho]
   exact hr.fr _ (by omega)
 refine (hp.2 S _ w vs hrm0 hG (RepL.ren _ xs vs hx)).mono fun e w' he=>?_
 obtain⟨v,S',μ',rfl,hrm,hX,hv⟩:=he
 let μ2:Nat→Option (Nat×Nat):=fun o=>if o<m.next then μ o else μ' (k+(o - m.next))
 have hμ2:μ'=fun j=>μ2 (rhoM σ k m.next j):=by
  funext j
  show μ' j=if rhoM σ k m.next j<m.next then μ (rhoM σ k m.next j) else μ' (k+(rhoM σ k m.next j - m.next))
  rcases Nat.lt_or_ge j k with hj | hj
  ·rw [if_pos (hlow j hj)];exact hX.ids j hj
  ·rw [hge j hj,if_neg (by omega)];congr 1;omega
 have hlo:∀o,o<m.next→μ2 o=μ o:=fun o ho=>if_pos ho
 have hhi:∀o,m.next≤o→μ2 o=μ' (k+(o - m.next)):=fun o ho=>if_neg (by omega)
 have hown0:∀b,Q6 ⟨objs,k,k,0⟩ (fun j=>μ (rhoM σ k m.next j)) b→Q6 m μ b:=by
  intro b hb
  rcases hb with ⟨o,ob,bo,h1,h2,h3⟩ | ⟨o,b0,code,h1,h2,h3⟩
  ·exact .inl ⟨_,_,bo,hO.get h1,by rw [Qk];exact h2,h3⟩
  ·exact .inr ⟨_,b0,code,hO.get h1,h2,h3⟩
 have hk2:Keeps S μ w S' μ2 w':=⟨fun o ho=>hlo o (by
  rcases Nat.lt_or_ge o m.next with h | h
  ·exact h
  ·exact absurd (hr.fr o h) ho),hX.sub,hX.cell,hX.map,hX.bsz,hX.size,hX.uf⟩
 have hother:∀{o ob},m.find o=some ob→ob.own=true→lk (renM (rhoM σ k m.next) objs') o=none→∀b bo,μ o=some (b,bo)→¬Q6 ⟨objs,k,k,0⟩ (fun j=>μ (rhoM σ k m.next j)) b:=by
  intro o ob hf hob hno b bo hμ ho
  rcases ho with ⟨j,ob',bo',h1,h2,h3⟩ | ⟨j,b0,code,h1,h2,h3⟩
  ·have hne:o≠rhoM σ k m.next j:=fun e=>by
    have:=hkeep _ (lk_mem h1)
    rw [e,QEV hinj] at hno
    simp only [Option.map_eq_none_iff] at hno
    simp only at this
    rw [hno] at this;cases this
   exact hr.inj o _ ob _ hf (hO.get h1) hob (by rw [Qk];exact h2) hne b bo bo' hμ h3
  ·have:=hb0 _ (lk_mem (hO.get h1))
   cases this
 have hfind:∀o,(⟨renM (rhoM σ k m.next) objs'++m.objs,m.next+(k' - k),m.base,m.wid⟩:Mem).find o=match lk (renM (rhoM σ k m.next) objs') o with | some x=>some x | none=>m.find o:=fun o=>by
  show lk (renM (rhoM σ k m.next) objs'++m.objs) o=_
  rw [QEt]
  cases lk (renM (rhoM σ k m.next) objs') o<;>rfl
 have hcase:∀{o ob},(⟨renM (rhoM σ k m.next) objs'++m.objs,m.next+(k' - k),m.base,m.wid⟩:Mem).find o=some ob→(∃j ob1,o=rhoM σ k m.next j∧lk objs' j=some ob1∧ob=renO (rhoM σ k m.next) ob1)∨(lk (renM (rhoM σ k m.next) objs') o=none∧m.find o=some ob):=by
  intro o ob h
  rw [hfind] at h
  cases hq:lk (renM (rhoM σ k m.next) objs') o with
  | none=>rw [hq] at h;exact .inr ⟨rfl,h⟩
  | some x=>
   rw [hq] at h
   simp only [Option.some.injEq] at h
   subst h
   obtain⟨j,rfl,_⟩:=QA7 hq
   rw [QEV hinj] at hq
   obtain⟨ob1,h1,h2⟩:=Option.map_eq_some_iff.1 hq
   exact .inl ⟨j,ob1,rfl,h1,h2.symm⟩
 have hown2:∀b,b<w.heap.size→¬Q6 m μ b→¬Q6 ⟨renM (rhoM σ k m.next) objs'++m.objs,m.next+(k' - k),m.base,m.wid⟩ μ2 b:=by
  intro b hb hno ho
  have hno0:¬Q6 ⟨objs,k,k,0⟩ (fun j=>μ (rhoM σ k m.next j)) b:=fun h=>hno (hown0 b h)
  have hno1:=(hX.blk b hb hno0).2
  rcases ho with ⟨o,ob,bo,h1,h2,h3⟩ | ⟨o,b0,code,h1,h2,h3⟩
  ·rcases hcase h1 with ⟨j,ob1,rfl,g1,rfl⟩ | ⟨g1,g2⟩
   ·exact hno1 (.inl ⟨j,ob1,bo,g1,by rw [Qk] at h2;exact h2,by rw [hμ2];exact h3⟩)
   ·rw [hlo o (hr.obj _ _ g2).1] at h3
    exact hno (.inl ⟨o,ob,bo,g2,h2,h3⟩)
  ·rcases hcase h1 with ⟨j,ob1,rfl,g1,g2⟩ | ⟨g1,g2⟩
   ·have:=hb1 _ (lk_mem g1)
    cases ob1<;>simp [renO] at g2
    cases this
   ·have:=hb0 _ (lk_mem g2)
    cases this
 refine⟨v,_,⟨renM (rhoM σ k m.next) objs'++m.objs,m.next+(k' - k),m.base,m.wid⟩,S',μ2,rfl,rfl,rfl,⟨fun o ob h=>?_,fun o o' ob ob' h h' ho ho' hne b i j hb=>?_,hrm.old,fun o ho=>?_,fun o h1 h2 h3=>?_,?_,fun o b bo h=>?_⟩,
  ⟨hX.os,hX.tape,hX.output,hX.size,fun o ho=>hlo o ho,fun o ho h=>?_,by show m.next≤m.next+(k' - k);omega,hX.sub,fun b off hb hs=>(hX.new b off hb hs).imp_right (hown0 b),hX.cell,hX.map,fun b hb hno=>⟨(hX.blk b hb (fun h=>hno (hown0 b h))).1,hown2 b hb hno⟩,hX.bsz,hX.uf⟩,Rep.unren _ r v (by rw [hμ2] at hv;exact hv),hK⟩
 ·rcases hcase h with ⟨j,ob1,rfl,g1,rfl⟩ | ⟨g1,g2⟩
  ·refine⟨?_,RepO.unren _ ob1 (QDC (hb1 _ (lk_mem g1))) (by have:=(hrm.obj j ob1 g1).2;rw [hμ2] at this;exact this)⟩
   show rhoM σ k m.next j<m.next+(k' - k)
   rcases Nat.lt_or_ge j k with hj | hj
   ·have:=hlow j hj;omega
   ·have:=hkey1 g1;rw [hge j hj];omega
  ·have hlt':=(hr.obj o ob g2).1
   refine⟨by show o<m.next+(k' - k);omega,(hr.obj o ob g2).2.keepF hk2 (QDC (hb0 _ (lk_mem g2))) (fun h=>(hlo o hlt').trans h) (fun hob b bo hμ=>?_)⟩
   have hno:=hother g2 hob g1 b bo hμ
   have hbs:=hr.bk o b bo hμ
   refine⟨(hX.blk b hbs hno).1,fun hS off hs=>?_⟩
   rcases hX.new b off hbs hs with h | h
   ·exact hS off h
   ·exact hno h
 ·rcases hcase h with ⟨j1,ob1,rfl,g1,rfl⟩ | ⟨g1,g2⟩<;>rcases hcase h' with ⟨j2,ob2,rfl,q1,rfl⟩ | ⟨q1,q2⟩
  ·rw [Qk] at ho ho'
   have e1:μ' j1=some (b,i):=by rw [hμ2];exact hb
   intro e
   have e2:μ' j2=some (b,j):=by rw [hμ2];exact e
   exact hrm.inj j1 j2 _ _ g1 q1 ho ho' (fun e=>hne (by rw [e])) b i j e1 e2
  ·intro e
   rw [hlo o' (hr.obj _ _ q2).1] at e
   have hno:=hother q2 ho' q1 b j e
   exact (hX.blk b (hr.bk _ _ _ e) hno).2 (.inl ⟨j1,ob1,i,g1,by rw [Qk] at ho;exact ho,by rw [hμ2];exact hb⟩)
  ·intro e
   rw [hlo o (hr.obj _ _ g2).1] at hb
   have hno:=hother g2 ho g1 b i hb
   exact (hX.blk b (hr.bk _ _ _ hb) hno).2 (.inl ⟨j2,ob2,j,q1,by rw [Qk] at ho';exact ho',by rw [hμ2];exact e⟩)
  ·rw [hlo o (hr.obj _ _ g2).1] at hb
   rw [hlo o' (hr.obj _ _ q2).1]
   exact hr.inj o o' ob ob' g2 q2 ho ho' hne b i j hb
 ·have ho':m.next+(k' - k)≤o:=ho
  rw [hhi o (by omega)]
  exact hrm.fr _ (by show k'≤k+(o - m.next);omega)
 ·have hle:=hr.le
  have h2':o<m.base+m.wid:=h2
  rw [hlo o (by omega)] at h3
  have:=hr.win o h1 h2 h3
  rw [hfind]
  cases lk (renM (rhoM σ k m.next) objs') o with
  | none=>exact this
  | some x=>simp
 ·have:=hr.le;show m.base+m.wid≤m.next+(k' - k);omega
 ·rcases Nat.lt_or_ge o m.next with ho | ho
  ·rw [hlo o ho] at h;exact Nat.lt_of_lt_of_le (hr.bk _ _ _ h) hX.size
  ·rw [hhi o ho] at h;exact hrm.bk _ _ _ h
 ·rw [hfind] at h
  cases hq:lk (renM (rhoM σ k m.next) objs') o with
  | none=>rw [hq] at h;exact h
  | some x=>
   obtain⟨j,rfl,hj⟩:=QA7 hq
   have hjk:j<k:=by
    rcases Nat.lt_or_ge j k with hj | hj
    ·exact hj
    ·rw [hge j hj] at ho;omega
   have:=hX.objs j hjk (by
    obtain⟨z,hz⟩:=Option.isSome_iff_exists.1 hj
    show lk objs' j≠none
    rw [hz];simp)
   obtain⟨z,hz⟩:=Option.ne_none_iff_exists'.1 this
   rw [hO.get hz];simp
variable {P : Program} {γ : GTab} {m : Mem}
def QK9:List Nat→Bool
 | []=>true
 | q::l=>l.all (fun p=>Nat.beq p q==false)&&QK9 l
theorem QEr:∀{l:List Nat},QK9 l=true→l.Nodup
 | [],_=>.nil
 | q::l,h=>by
  simp only [QK9,Bool.and_eq_true,List.all_eq_true,beq_iff_eq] at h
  refine List.nodup_cons.2 ⟨fun hm=>?_,QEr h.2⟩
  have:=h.1 q hm
  rw [Nat.beq_refl] at this;cases this
def chkM (σ:List Nat) (k k' n:Nat) (objs objs' mobjs:List (Nat×AObj)):Bool:=
 Nat.beq σ.length k&&QK9 σ&&σ.all (fun q=>Nat.blt q n)&&Nat.ble k k'&&objs.all (fun p=>Nat.blt p.1 k)&&objs'.all (fun p=>Nat.blt p.1 k')&&objs.all (fun p=>(lk objs' p.1).isSome)&&mobjs.all (fun p=>QDK p.2)&&objs'.all fun p=>QDK p.2
theorem QM.useX {g:FuncId} {xs xs':List AV} {objs objs':List (Nat×AObj)} {k k':Nat} {r:AV} {K:AV→Mem→Prop} (σ:List Nat) (hp:QM P γ g xs objs k r objs' k') (hc:chkM σ k k' m.next objs objs' m.objs=true) (hx:xs'=renL (rhoM σ k m.next) xs)
  (hO:ObjM σ k m.next m.find objs) (hK:K (renA (rhoM σ k m.next) r) ⟨renM (rhoM σ k m.next) objs'++m.objs,m.next+(k' - k),m.base,m.wid⟩):Qr P γ g xs' m K:=by
 simp only [chkM,Bool.and_eq_true,List.all_eq_true] at hc
 obtain⟨⟨⟨⟨⟨⟨⟨⟨h1,h2⟩,h3⟩,h4⟩,h5⟩,h6⟩,h7⟩,h8⟩,h9⟩:=hc
 rw [hx]
 exact QM.use σ hp (Nat.eq_of_beq_eq_true h1) (QEr h2) (fun q hq=>QEp (h3 q hq)) (Nat.le_of_ble_eq_true h4) (fun p hp=>QEp (h5 p hp)) (fun p hp=>QEp (h6 p hp)) hO h7 h8 h9 hK
theorem QM.gam {f:FuncId} {xs:List AV} {objs objs':List (Nat×AObj)} {k k':Nat} {r:AV} (hp:QM P [] f xs objs k r objs' k'):QM P γ f xs objs k r objs' k':=
 ⟨hp.1,fun S μ w vs h1 _ h3=>hp.2 S μ w vs h1 GOK.nil h3⟩
section
variable {ρ : Nat → Nat} {σ : List Nat} {k n : Nat} {find : Nat → Option AObj}
theorem Qbi {j:Nat}:rhoM σ k n j=if j<k then σ.getD j 0 else n+(j - k):=(rfl)
theorem QWh:ObjM σ k n find []=True:=(rfl)
theorem QUN {j:Nat} {ob:AObj} {e:List (Nat×AObj)}:ObjM σ k n find ((j,ob)::e)=(find (rhoM σ k n j)=some (renO (rhoM σ k n) ob)∧ObjM σ k n find e):=(rfl)
theorem QWt:renM ρ []=[]:=(rfl)
theorem QTt {j:Nat} {ob:AObj} {e:List (Nat×AObj)}:renM ρ ((j,ob)::e)=(ρ j,renO ρ ob)::renM ρ e:=(rfl)
theorem QPc {E:TypeId} {xs:List AV} {ap:Bool}:renO ρ (.cells E xs ap)=.cells E (renL ρ xs) ap:=(rfl)
theorem QXh {kt:KT} {ks:List Value} {xs:List AV}:renO ρ (.map kt ks xs)=.map kt ks (renL ρ xs):=(rfl)
theorem QC1:renL ρ []=[]:=(rfl)
theorem QCA {x:AV} {xs:List AV}:renL ρ (x::xs)=renA ρ x::renL ρ xs:=(rfl)
theorem QVg {o off:Nat}:renA ρ (.ptr o off)=.ptr (ρ o) off:=(rfl)
theorem Qc5 {o off a b:Nat}:renA ρ (.sl o off a b)=.sl (ρ o) off a b:=(rfl)
theorem Qc8 {o:Nat}:renA ρ (.mp o)=.mp (ρ o):=(rfl)
theorem QYu {xs:List AV}:renA ρ (.tup xs)=.tup (renL ρ xs):=(rfl)
theorem QAj {xs:List AV} (h:idfL xs=true):renL ρ xs=xs:=renL_idf ρ xs h
theorem QU3 {x:AV} (h:idf x=true):renA ρ x=x:=QFu ρ x h
attribute [push_cast] Qbi QWh QUN QWt QTt QPc QXh QC1 QCA QVg Qc5 Qc8 QYu List.getD_cons_zero List.getD_cons_succ
attribute [push_cast high] QAj QU3
end
theorem QJJ {f:Nat→Option AObj} {s y:AV} {ids:List Nat} (h:QJ f [s]=some ([y],ids)):∃ids',snap f 12 s=some (y,ids'):=by
 simp only [QJ] at h
 cases hs:snap f 12 s with
 | none=>rw [hs] at h;cases h
 | some p=>
  rw [hs] at h
  simp only [Option.some.injEq,Prod.mk.injEq,List.cons.injEq,and_true] at h
  exact⟨p.2,by rw [←h.1]⟩
theorem Qr.letgo {g:FuncId} {a c:List AV} {s y:AV} {ids:List Nat} {u:Upd} {K:AV→Mem→Prop} (hs:QJ m.find [s]=some ([y],ids)) (hu:QBj m.find ids=u) (h:Qr P γ g (a++y::c) (m.upd u) K):Qr P γ g (a++s::c) m K:=by
 subst hu
 refine⟨h.1,fun S μ w vs hr hG hx=>?_⟩
 obtain⟨T,h1,h2,h3,h4⟩:=hr.letgo ids
 have hx':RepL T μ w (a++y::c) vs:=by
  have key:∀(a:List AV) (vs:List Value),RepL S μ w (a++s::c) vs→RepL T μ w (a++y::c) vs:=by
   intro a
   induction a with
   | nil=>
    intro vs h
    simp only [List.nil_append,RepL] at h ⊢
    obtain⟨v,us,e,r1,r2⟩:=h
    have r3:=h4 (xs:=[s]) (ys:=[y]) (vs:=[v]) hs (by simp only [RepL];exact⟨v,[],rfl,r1,rfl⟩)
    simp only [RepL] at r3
    obtain⟨v',us',e',r3,r4⟩:=r3
    simp only [List.cons.injEq] at e'
    obtain⟨rfl,_⟩:=e'
    obtain⟨ids',hsn⟩:=QJJ hs
    have hidf:idf y=true:=(QN9 hr 12 s y ids' v hsn r1).1
    exact⟨v,us,e,Rep.idf1 _ _ hidf r3,RepL.keep h2 _ _ r2⟩
   | cons x a ih=>
    intro vs h
    simp only [List.cons_append,RepL] at h ⊢
    obtain⟨v,us,e,r1,r2⟩:=h
    exact⟨v,us,e,Rep.keep h2 _ _ r1,ih us r2⟩
  exact key a vs hx
 refine (h.2 T μ w vs h1 (hG.keep h2) hx').mono fun e w' he=>?_
 obtain⟨v,x,m',S',μ',rfl,hb,hw,hrm,hX,hv,hk⟩:=he
 exact⟨v,x,m',S',μ',rfl,hb,hw,hrm,(h3 m.next (Nat.le_refl _)).trans (Nat.le_refl _) hX,hv,hk⟩
section
variable {t : TypeId} {x y : Operand}
theorem Qd9 {o off:Nat} (h:QLl P t=some 0):binA P .eql t x y (.ptr o off) (.v (.pointer none))=some (.v (.bool false),[]):=by simp [binA,AV.val?,QJG,QKw,QTr,h]
theorem Qac {xs:List AV} (h:QLl P t=some 0):binA P .eql t x y (.rop xs) (.v (.pointer none))=some (.v (.bool false),[]):=by simp [binA,AV.val?,QJG,QKw,QTr,h]
theorem Qdq {xs:List AV} (h:QLl P t=some 0):binA P .neq t x y (.rop xs) (.v (.pointer none))=some (.v (.bool true),[]):=by simp [binA,AV.val?,QJG,QKw,QTr,h]
attribute [push_cast] Qd9 Qac Qdq
end
variable {P : Program} {t : TypeId} {x y : Operand}
theorem QWL {k:IntKind} {a b:Int} (hb:b≠0):pbin P .rem t x y (.int k a) (.int k b)=some (.int k (Int.tmod a b)):=by
 simp [pbin,QAk,binOp,Op.intDiv,hb];rfl
theorem QZJ {k:IntKind} {a b:Int} (hb:b≠0):pbin P .quo t x y (.int k a) (.int k b)=some (.int k (k.wrap (Int.tdiv a b))):=by
 simp [pbin,QAk,binOp,Op.intDiv,hb];rfl
theorem QST {k:IntKind} {a b:Int} (ha:0≤a) (hb:0<b):pbin P .rem t x y (.int k a) (.int k b)=some (.int k (a % b)):=by
 rw [QWL (by omega),Int.tmod_eq_emod_of_nonneg ha]
theorem QPL {a b:Int} (ha:0≤a) (ha2:a<18446744073709551616) (hb:0<b):pbin P .quo t x y (.int .u64 a) (.int .u64 b)=some (.int .u64 (a / b)):=by
 have h1:0≤a / b:=Int.ediv_nonneg ha (Int.le_of_lt hb)
 have h2:a / b≤a:=Int.ediv_le_self b ha
 rw [QZJ (by omega),Int.tdiv_eq_ediv_of_nonneg ha,QU h1 (by omega)]
attribute [push_cast] QST QPL
theorem bv127 (m:Int):((BitVec.ofInt 64 m&&&BitVec.ofInt 64 127).toNat:Int)=m % 128:=by
 have h1:(BitVec.ofInt 64 (127:Int)).toNat=2^7 - 1:=by decide
 rw [BitVec.toNat_and,h1,Nat.and_two_pow_sub_one_eq_mod,BitVec.toNat_ofInt]
 have:((m % ((2^64:Nat):Int)).toNat:Int)=m % 18446744073709551616:=by
  rw [Int.toNat_of_nonneg (Int.emod_nonneg _ (by decide))];rfl
 simp only [Int.natCast_emod,this]
 show m % 18446744073709551616 % 128=m % 128
 omega
theorem QNn {m:Int}:pbin P .and t x y (.int .i64 m) (.int .i64 127)=some (.int .i64 (m % 128)):=by
 show some (Value.int .i64 (IntKind.i64.wrap ((BitVec.ofInt 64 m&&&BitVec.ofInt 64 127).toNat:Nat)))=_
 rw [bv127,QAN (by omega) (by omega)]
attribute [push_cast] QNn
theorem u8_or:∀r:_root_.Fin 256,UInt8.ofNat (r.1 % 128)+128=UInt8.ofNat r.1|||128:=by decide+kernel
theorem u8_low:∀r:_root_.Fin 256,UInt8.ofNat (r.1 % 128)=UInt8.ofNat r.1&&&~~~128:=by decide+kernel
theorem QH4 (a:Int):U8 a=UInt8.ofNat (a % 256).toNat:=rfl
theorem U8_or128 (a:Int):U8 (((U8 (a % 128)).toNat:Nat)+128)=U8 a|||128:=by
 have h1:(a % 256).toNat<256:=by omega
 have:=u8_or ⟨(a % 256).toNat,h1⟩
 rw [QH4 a,←this]
 have e:U8 (a % 128)=UInt8.ofNat ((a % 256).toNat % 128):=by
  rw [QH4];congr 1;omega
 rw [e]
 generalize UInt8.ofNat ((a % 256).toNat % 128)=z
 apply UInt8.toNat_inj.1
 have hz:=z.toNat_lt
 rw [QH4,UInt8.toNat_add,UInt8.toNat_ofNat']
 show _=(z.toNat+128) % 256
 omega
theorem U8_low (a:Int):U8 (a % 128)=U8 a&&&~~~128:=by
 have h1:(a % 256).toNat<256:=by omega
 rw [QH4 a,←u8_low ⟨(a % 256).toNat,h1⟩,QH4]
 show UInt8.ofNat (a % 128 % 256).toNat=UInt8.ofNat ((a % 256).toNat % 128)
 congr 1;omega
theorem QbU {find:Nat→Option AObj} {fr:Nat} {ts:Array TypeId} {k:IntKind} {a b:Int}:QY P find fr .min ts [.v (.int k a),.v (.int k b)]=some (.v (.int k (min a b)),[]):=by
 have e:prun P (Builtin.min_ #[] 0 #[.int k a,.int k b])=some (.int k (min a b)):=by
  have h:min a b=if b<a then b else a:=by split<;>omega
  rw [h];rfl
 simp only [QY,QME,AV.val?]
 rw [e];rfl
theorem Qdf {find:Nat→Option AObj} {fr:Nat} {ts:Array TypeId} {k:IntKind} {a b:Int}:QY P find fr .max ts [.v (.int k a),.v (.int k b)]=some (.v (.int k (max a b)),[]):=by
 have e:prun P (Builtin.max_ #[] 0 #[.int k a,.int k b])=some (.int k (max a b)):=by
  have h:max a b=if b>a then b else a:=by split<;>omega
  rw [h];rfl
 simp only [QY,QME,AV.val?]
 rw [e];rfl
attribute [push_cast] QbU Qdf
def QUp (P:Program) (xs:List AV) (lo hi:Option AV):Option (Nat×TypeId)→Option AV
 | some (n,e)=>if tok P e∧n*tsz P e≤xs.length then (bnds n lo hi).map fun p=>.seq (p.2 - p.1) (tsz P e) ((xs.drop (p.1*tsz P e)).take ((p.2 - p.1)*tsz P e)) else none
 | none=>none
theorem QQU {find:Nat→Option AObj} {xs:List AV} {lo hi:Option AV}:QBk P find t (.rop xs) lo hi=QUp P xs lo hi (tarr P t):=by
 simp only [QBk,QUp];cases tarr P t<;>rfl
theorem QNL {n:Nat} {e:TypeId} {xs:List AV} {lo hi:Option AV}:QUp P xs lo hi (some (n,e))=if tok P e∧n*tsz P e≤xs.length then (bnds n lo hi).map fun p=>.seq (p.2 - p.1) (tsz P e) ((xs.drop (p.1*tsz P e)).take ((p.2 - p.1)*tsz P e)) else none:=(rfl)
attribute [push_cast] QQU QNL
section
variable {α β : Type} [DecidableEq α]
def aget:List (α×β)→α→Option β
 | [],_=>none
 | e::l,k=>if k=e.1 then some e.2 else aget l k
def aset:List (α×β)→α→β→List (α×β)
 | [],k,v=>[(k,v)]
 | e::l,k,v=>if k=e.1 then (e.1,v)::l else e::aset l k v
variable {kf : α → Value} {vf : β → AV} (hk : ∀ a b, keq (kf a) (kf b) = decide (a = b))
include hk
theorem QVX {k:α}:∀{l:List (α×β)},mget (l.map fun e=>kf e.1) (l.map fun e=>vf e.2) (kf k)=(aget l k).map vf
 | []=>rfl
 | e::l=>by
  simp only [List.map_cons,mget,aget,hk,decide_eq_true_eq,QVX (l:=l)]
  split<;>rfl
theorem QOU {k:α} {v:β}:∀{l:List (α×β)},(if mhas (l.map fun e=>kf e.1) (kf k)=true then (l.map fun e=>kf e.1) else (l.map fun e=>kf e.1)++[kf k])=(aset l k v).map fun e=>kf e.1
 | []=>rfl
 | e::l=>by
  have ih:=QOU (k:=k) (v:=v) (l:=l)
  simp only [List.map_cons,mhas,aset,hk]
  by_cases h:k=e.1
  ·simp [h]
  ·simp only [h,decide_false,Bool.false_or,if_false,List.map_cons]
   rw [←ih]
   split<;>simp
theorem QSX {k:α} {v:β}:∀{l:List (α×β)},mset (l.map fun e=>kf e.1) (l.map fun e=>vf e.2) (kf k) (vf v)=(aset l k v).map fun e=>vf e.2
 | []=>rfl
 | e::l=>by
  simp only [List.map_cons,mset,aset,hk,decide_eq_true_eq,QSX (l:=l)]
  split<;>rfl
end
theorem QI1 (a b:ByteArray):keq (.string a) (.string b)=decide (a=b):=by
 simp only [keq,lbeq]
 by_cases h:a=b
 ·simp [h]
 ·simp [h,QCl]
section
variable {α β : Type} [DecidableEq α]
theorem QVU {k:α}:∀{l:List (α×β)},aget l k=none↔k∉l.map (·.1)
 | []=>by simp [aget]
 | e::l=>by
  rw [aget]
  by_cases h:k=e.1
  ·simp [h]
  ·simp only [h,if_false,List.map_cons,List.mem_cons,false_or];exact QVU
theorem QOT {k:α} {v:β}:∀{l:List (α×β)},k∉l.map (·.1)→aset l k v=l++[(k,v)]
 | [],_=>rfl
 | e::l,h=>by
  simp only [List.map_cons,List.mem_cons,not_or] at h
  rw [aset,if_neg h.1,QOT h.2];rfl
end
def capN:Option TypeId→Option (AV×Upd)
 | some _=>some (.v (.int .i64 0),[])
 | none=>none
theorem QdJ {P:Program} {find:Nat→Option AObj} {fr:Nat} {t:TypeId} {ts:List TypeId}:QAH P find fr .cap (t::ts).toArray [.v (.slice none 0 0)]=capN (Qd P t):=by
 have e:QAH P find fr .cap (t::ts).toArray [.v (.slice none 0 0)]=if (Qd P t).isSome then some (.v (.int .i64 0),[]) else none:=rfl
 rw [e];cases Qd P t<;>rfl
theorem QUY {e:TypeId}:capN (some e)=some (.v (.int .i64 0),[]):=(rfl)
attribute [push_cast] QdJ QUY
theorem QO.useNS {P:Program} {γ:GTab} {xs0:List AV} {all:Array Oper} {i:Nat} {log:Log} {g:FuncId} {f:Nat→Option AObj} {xs ys:List AV} {ids:List Nat} {r:AV} {dst:Option Nat} {σ:St} {K:Log→St→Prop} (hp:PNew P γ g ys r) (hs:QJ f xs=some (ys,ids)) (h1:dstB σ.mem dst=true)
  (h2:QBL all i ids [] log=true) (hK:K ((i,ids,[])::log) ⟨putE dst r σ.env,σ.mem⟩):QO P γ all i log g xs0 (QJ f xs) dst σ K:=by
 rw [hs]
 exact .inl ⟨QET h1,.inl ⟨h2,QHB.useN hp hK⟩⟩
variable {P : Program} {find : Nat → Option AObj}
def QOk (P:Program) (o off n z:Nat) (r:Option (List Value)) (ob:Option AObj):Option (AV×Upd):=match r with
 | some zs=>QSq P 0 o off n z zs ob
 | none=>none
def QaT (P:Program) (o off n z:Nat) (r:Option TypeId) (ob:Option AObj):Option (AV×Upd):=match r with
 | some e=>QOk P o off n z (tz P e) ob
 | none=>none
theorem QXi {fr o off n z:Nat} {t:TypeId} {ts:List TypeId}:QAH P find fr .clear (t::ts).toArray [.sl o off n z]=QaT P o off n z (Qd P t) (find o):=by
 have e:QAH P find fr .clear (t::ts).toArray [.sl o off n z]=QLH P find (Qd P t) (.sl o off n z):=rfl
 rw [e]
 cases Qd P t with
 | none=>rfl
 | some e=>show (tz P e).bind _=QOk P o off n z (tz P e) (find o);cases tz P e<;>rfl
theorem QNq {o off n z:Nat} {e:TypeId} {ob:Option AObj}:QaT P o off n z (some e) ob=QOk P o off n z (tz P e) ob:=(rfl)
theorem QML {o off n z:Nat} {zs:List Value} {E:TypeId} {ys:List AV} {ap:Bool}:QOk P o off n z (some zs) (some (.cells E ys ap))=if z=zs.length∧0<z∧0<n∧off+n*z≤ys.length then some (.tup [],[(o,.cells E (setL ys off ((List.replicate n (zs.map AV.v)).flatten)) ap)]) else none:=(rfl)
attribute [push_cast] QXi QNq QML
variable {P : Program} {γ : GTab} {m : Mem}
def QAz (P:Program) (γ:GTab) (f:FuncId) (xs:List AV) (objs:List (Nat×AObj)) (k:Nat) (R:AV→List (Nat×AObj)→Prop) (k':Nat):Prop:=
 QBa P f∧∀(S:Nat→Nat→Prop) (μ:Nat→Option (Nat×Nat)) (w:World) (vs:List Value),RM S μ w ⟨objs,k,k,0⟩→GOK γ S w→RepL S μ w xs vs→
  Calls P f vs.toArray w fun e w'=>∃r objs',R r objs'∧∃v S' μ',e=.returned v∧RM S' μ' w' ⟨objs',k',k',0⟩∧Ext k ⟨objs,k,k,0⟩ S μ w ⟨objs',k',k',0⟩ S' μ' w'∧Rep S' μ' w' r v
def endME (P:Program) (rs:List ResultVar) (k:Nat) (R:AV→List (Nat×AObj)→Prop) (k':Nat) (e:Exit) (σ:St):Prop:=∃r objs',R r objs'∧endM P rs k r objs' k' e σ
def QSA (m:Mem) (k:Nat) (R:AV→List (Nat×AObj)→Prop) (k':Nat) (q:Option AV):Prop:=∃r objs',R r objs'∧QXC m k r objs' k' q
theorem QZR {rs:List ResultVar} {k k':Nat} {R:AV→List (Nat×AObj)→Prop} {e:Exit} {env:List (Nat×AV)} {mem:Mem}:endME P rs k R k' e ⟨env,mem⟩=QSA mem k R k' (resA P rs env mem):=(rfl)
def QaG (m:Mem) (k:Nat) (R:AV→List (Nat×AObj)→Prop) (k':Nat) (y:AV):Prop:=∃r objs',R r objs'∧Ent k ⟨[(0,unf y)],m⟩ ⟨[(0,r)],⟨objs',k',k',0⟩⟩
theorem QNG {k k':Nat} {R:AV→List (Nat×AObj)→Prop} {y:AV}:QSA m k R k' (some y)=QaG m k R k' y:=by simp only [QSA,QaG,QH1]
attribute [push_cast] QZR QNG
theorem QAz.start {f:FuncId} {fn:Func} {c:Code} {rs:List ResultVar} {nt:Nat} {xs:List AV} {objs:List (Nat×AObj)} {k k':Nat} {R:AV→List (Nat×AObj)→Prop} (hf:P.funcs[f]?=some fn) (hb:fn.body=some c) (hn:(fn.name== "runtime.NumGoroutine")=false) (hrs:fn.results=rs.toArray) (hnt:fn.ntmps=nt) (hm:P.follows .mixedOrders=true) (hd:dOK c=true) (hkk:k≤k')
  (h:ev P γ k nt [.code c,.fin (endME P rs k R k')] ⟨(xs.zipIdx.map fun p=>(p.2,p.1)),⟨objs,k,k,0⟩⟩):QAz P γ f xs objs k R k':=by
 subst hnt
 have hrs':fn.results.toList=rs:=by rw [hrs]
 refine⟨⟨fn,hf,hn,by rw [hb];rfl⟩,fun S μ w vs hr hG hxs=>?_⟩
 have hRX:RX γ fn.ntmps k ⟨objs,k,k,0⟩ S μ w ⟨(xs.zipIdx.map fun p=>(p.2,p.1)),⟨objs,k,k,0⟩⟩ { tmps:=vs.toArray++Array.replicate (fn.ntmps - vs.toArray.size) undef,defers:=[] } w:=
  ⟨S,μ,⟨hr,QCL hxs,trivial⟩,hG,Ext.refl (Nat.le_refl _),AOK.start (by simp;omega),Nat.le_refl _,Nat.zero_le _⟩
 refine QCN hm hf hb hd hRX h fun e σ a w' hE hR=>?_
 obtain⟨S',μ',hA,hG',hX,_,_,_⟩:=hR
 obtain⟨r,objs',hRr,y,h1,hent⟩:=hE
 obtain⟨v,h3,h4⟩:=QDP hA.rm hA.env (by rw [hrs'];exact h1)
 obtain⟨S2,μ2,k1,k2,k3,k4,k5,k6,k7,k8,k9⟩:=hent S' μ' w' ⟨#[v],[]⟩ hA.rm (fun t x ht=>by
  simp only [lk] at ht
  split at ht
  ·rename_i e;subst e;simp only [Option.some.injEq] at ht;subst ht
   exact QA6 h4
  ·cases ht)
 refine⟨v,h3,r,objs',hRr,v,S2,μ2,rfl,k1,⟨hX.os,hX.tape,hX.output,hX.size,fun o ho=>(k5 o ho).trans (hX.ids o ho),fun o ho hf=>hX.objs o ho (k6 o ho hf),hkk,fun b off hs=>k3 b off (hX.sub b off hs),fun b off hb hs=>?_,hX.cell,hX.map,fun b hb ho=>⟨(hX.blk b hb ho).1,fun hx=>(hX.blk b hb ho).2 (k9 b hx)⟩,hX.bsz,hX.uf⟩,k2 0 r rfl⟩
 rcases k4 b off hs with h | h
 ·exact hX.new b off hb h
 ·rcases Classical.em (Q6 ⟨objs,k,k,0⟩ μ b) with ho | ho
  ·exact .inr ho
  ·exact absurd h (hX.blk b hb ho).2
theorem QAz.use {g:FuncId} {xs:List AV} {objs:List (Nat×AObj)} {k k':Nat} {R:AV→List (Nat×AObj)→Prop} {K:AV→Mem→Prop} (σ:List Nat) (hp:QAz P γ g xs objs k R k') (hl:σ.length=k) (hn:σ.Nodup) (hlt:∀q∈σ,q<m.next) (hkk:k≤k') (hk0:∀p∈objs,p.1<k) (hk1:∀r objs',R r objs'→∀p∈objs',p.1<k')
  (hO:ObjM σ k m.next m.find objs) (hkeep:∀r objs',R r objs'→∀p∈objs,(lk objs' p.1).isSome=true) (hb0:∀p∈m.objs,QDK p.2=true) (hb1:∀r objs',R r objs'→∀p∈objs',QDK p.2=true)
  (hK:∀r objs',R r objs'→K (renA (rhoM σ k m.next) r) ⟨renM (rhoM σ k m.next) objs'++m.objs,m.next+(k' - k),m.base,m.wid⟩):Qr P γ g (renL (rhoM σ k m.next) xs) m K:=by
 refine⟨hp.1,fun S μ w vs hr hG hx=>?_⟩
 have hinj:=QIr hl hn hlt
 have hge:∀j,k≤j→rhoM σ k m.next j=m.next+(j - k):=fun j hj=>by unfold rhoM;rw [if_neg (by omega)]
 have hlow:∀j,j<k→rhoM σ k m.next j<m.next:=fun j hj=>by
  unfold rhoM;rw [if_pos hj,List.getD_eq_getElem?_getD,List.getElem?_eq_getElem (by omega)]
  exact hlt _ (List.getElem_mem _)
 have hkey:∀{j ob},lk objs j=some ob→j<k:=fun h=>hk0 _ (lk_mem h)
 have hrm0:RM S (fun j=>μ (rhoM σ k m.next j)) w ⟨objs,k,k,0⟩:=by
  refine⟨fun o ob h=>⟨hkey h,RepO.ren _ ob (hr.obj _ _ (hO.get h)).2⟩,fun o o' ob ob' h h' ho ho' hne b i j hb=>?_,hr.old,fun o ho=>?_,fun o h1 h2=>by simp only at h1 h2;omega,by simp,fun o b bo h=>hr.bk _ _ _ h⟩
  ·exact hr.inj _ _ _ _ (hO.get h) (hO.get h') (by rw [Qk];exact ho) (by rw [Qk];exact ho') (fun e=>hne (hinj _ _ e)) b i j hb
  ·show μ (rhoM σ k m.next o)=none
   rw [hge o ho]
   exact hr.fr _ (by omega)
 refine (hp.2 S _ w vs hrm0 hG (RepL.ren _ xs vs hx)).mono fun e w' he=>?_
 obtain⟨r,objs',hR,v,S',μ',rfl,hrm,hX,hv⟩:=he
 replace hk1:=hk1 r objs' hR
 replace hkeep:=hkeep r objs' hR
 replace hb1:=hb1 r objs' hR
 replace hK:=hK r objs' hR
 have hkey1:∀{j ob},lk objs' j=some ob→j<k':=fun h=>hk1 _ (lk_mem h)
 let μ2:Nat→Option (Nat×Nat):=fun o=>if o<m.next then μ o else μ' (k+(o - m.next))
 have hμ2:μ'=fun j=>μ2 (rhoM σ k m.next j):=by
  funext j
  show μ' j=if rhoM σ k m.next j<m.next then μ (rhoM σ k m.next j) else μ' (k+(rhoM σ k m.next j - m.next))
  rcases Nat.lt_or_ge j k with hj | hj
  ·rw [if_pos (hlow j hj)];exact hX.ids j hj
  ·rw [hge j hj,if_neg (by omega)];congr 1;omega
 have hlo:∀o,o<m.next→μ2 o=μ o:=fun o ho=>if_pos ho
 have hhi:∀o,m.next≤o→μ2 o=μ' (k+(o - m.next)):=fun o ho=>if_neg (by omega)
 have hown0:∀b,Q6 ⟨objs,k,k,0⟩ (fun j=>μ (rhoM σ k m.next j)) b→Q6 m μ b:=by
  intro b hb
  rcases hb with ⟨o,ob,bo,h1,h2,h3⟩ | ⟨o,b0,code,h1,h2,h3⟩
  ·exact .inl ⟨_,_,bo,hO.get h1,by rw [Qk];exact h2,h3⟩
  ·exact .inr ⟨_,b0,code,hO.get h1,h2,h3⟩
 have hk2:Keeps S μ w S' μ2 w':=⟨fun o ho=>hlo o (by
  rcases Nat.lt_or_ge o m.next with h | h
  ·exact h
  ·exact absurd (hr.fr o h) ho),hX.sub,hX.cell,hX.map,hX.bsz,hX.size,hX.uf⟩
 have hother:∀{o ob},m.find o=some ob→ob.own=true→lk (renM (rhoM σ k m.next) objs') o=none→∀b bo,μ o=some (b,bo)→¬Q6 ⟨objs,k,k,0⟩ (fun j=>μ (rhoM σ k m.next j)) b:=by
  intro o ob hf hob hno b bo hμ ho
  rcases ho with ⟨j,ob',bo',h1,h2,h3⟩ | ⟨j,b0,code,h1,h2,h3⟩
  ·have hne:o≠rhoM σ k m.next j:=fun e=>by
    have:=hkeep _ (lk_mem h1)
    rw [e,QEV hinj] at hno
    simp only [Option.map_eq_none_iff] at hno
    simp only at this
    rw [hno] at this;cases this
   exact hr.inj o _ ob _ hf (hO.get h1) hob (by rw [Qk];exact h2) hne b bo bo' hμ h3
  ·have:=hb0 _ (lk_mem (hO.get h1))
   cases this
 have hfind:∀o,(⟨renM (rhoM σ k m.next) objs'++m.objs,m.next+(k' - k),m.base,m.wid⟩:Mem).find o=match lk (renM (rhoM σ k m.next) objs') o with | some x=>some x | none=>m.find o:=fun o=>by
  show lk (renM (rhoM σ k m.next) objs'++m.objs) o=_
  rw [QEt]
  cases lk (renM (rhoM σ k m.next) objs') o<;>rfl
 have hcase:∀{o ob},(⟨renM (rhoM σ k m.next) objs'++m.objs,m.next+(k' - k),m.base,m.wid⟩:Mem).find o=some ob→(∃j ob1,o=rhoM σ k m.next j∧lk objs' j=some ob1∧ob=renO (rhoM σ k m.next) ob1)∨(lk (renM (rhoM σ k m.next) objs') o=none∧m.find o=some ob):=by
  intro o ob h
  rw [hfind] at h
  cases hq:lk (renM (rhoM σ k m.next) objs') o with
  | none=>rw [hq] at h;exact .inr ⟨rfl,h⟩
  | some x=>
   rw [hq] at h
   simp only [Option.some.injEq] at h
   subst h
   obtain⟨j,rfl,_⟩:=QA7 hq
   rw [QEV hinj] at hq
   obtain⟨ob1,h1,h2⟩:=Option.map_eq_some_iff.1 hq
   exact .inl ⟨j,ob1,rfl,h1,h2.symm⟩
 have hown2:∀b,b<w.heap.size→¬Q6 m μ b→¬Q6 ⟨renM (rhoM σ k m.next) objs'++m.objs,m.next+(k' - k),m.base,m.wid⟩ μ2 b:=by
  intro b hb hno ho
  have hno0:¬Q6 ⟨objs,k,k,0⟩ (fun j=>μ (rhoM σ k m.next j)) b:=fun h=>hno (hown0 b h)
  have hno1:=(hX.blk b hb hno0).2
  rcases ho with ⟨o,ob,bo,h1,h2,h3⟩ | ⟨o,b0,code,h1,h2,h3⟩
  ·rcases hcase h1 with ⟨j,ob1,rfl,g1,rfl⟩ | ⟨g1,g2⟩
   ·exact hno1 (.inl ⟨j,ob1,bo,g1,by rw [Qk] at h2;exact h2,by rw [hμ2];exact h3⟩)
   ·rw [hlo o (hr.obj _ _ g2).1] at h3
    exact hno (.inl ⟨o,ob,bo,g2,h2,h3⟩)
  ·rcases hcase h1 with ⟨j,ob1,rfl,g1,g2⟩ | ⟨g1,g2⟩
   ·have:=hb1 _ (lk_mem g1)
    cases ob1<;>simp [renO] at g2
    cases this
   ·have:=hb0 _ (lk_mem g2)
    cases this
 refine⟨v,_,⟨renM (rhoM σ k m.next) objs'++m.objs,m.next+(k' - k),m.base,m.wid⟩,S',μ2,rfl,rfl,rfl,⟨fun o ob h=>?_,fun o o' ob ob' h h' ho ho' hne b i j hb=>?_,hrm.old,fun o ho=>?_,fun o h1 h2 h3=>?_,?_,fun o b bo h=>?_⟩,
  ⟨hX.os,hX.tape,hX.output,hX.size,fun o ho=>hlo o ho,fun o ho h=>?_,by show m.next≤m.next+(k' - k);omega,hX.sub,fun b off hb hs=>(hX.new b off hb hs).imp_right (hown0 b),hX.cell,hX.map,fun b hb hno=>⟨(hX.blk b hb (fun h=>hno (hown0 b h))).1,hown2 b hb hno⟩,hX.bsz,hX.uf⟩,Rep.unren _ r v (by rw [hμ2] at hv;exact hv),hK⟩
 ·rcases hcase h with ⟨j,ob1,rfl,g1,rfl⟩ | ⟨g1,g2⟩
  ·refine⟨?_,RepO.unren _ ob1 (QDC (hb1 _ (lk_mem g1))) (by have:=(hrm.obj j ob1 g1).2;rw [hμ2] at this;exact this)⟩
   show rhoM σ k m.next j<m.next+(k' - k)
   rcases Nat.lt_or_ge j k with hj | hj
   ·have:=hlow j hj;omega
   ·have:=hkey1 g1;rw [hge j hj];omega
  ·have hlt':=(hr.obj o ob g2).1
   refine⟨by show o<m.next+(k' - k);omega,(hr.obj o ob g2).2.keepF hk2 (QDC (hb0 _ (lk_mem g2))) (fun h=>(hlo o hlt').trans h) (fun hob b bo hμ=>?_)⟩
   have hno:=hother g2 hob g1 b bo hμ
   have hbs:=hr.bk o b bo hμ
   refine⟨(hX.blk b hbs hno).1,fun hS off hs=>?_⟩
   rcases hX.new b off hbs hs with h | h
   ·exact hS off h
   ·exact hno h
 ·rcases hcase h with ⟨j1,ob1,rfl,g1,rfl⟩ | ⟨g1,g2⟩<;>rcases hcase h' with ⟨j2,ob2,rfl,q1,rfl⟩ | ⟨q1,q2⟩
  ·rw [Qk] at ho ho'
   have e1:μ' j1=some (b,i):=by rw [hμ2];exact hb
   intro e
   have e2:μ' j2=some (b,j):=by rw [hμ2];exact e
   exact hrm.inj j1 j2 _ _ g1 q1 ho ho' (fun e=>hne (by rw [e])) b i j e1 e2
  ·intro e
   rw [hlo o' (hr.obj _ _ q2).1] at e
   have hno:=hother q2 ho' q1 b j e
   exact (hX.blk b (hr.bk _ _ _ e) hno).2 (.inl ⟨j1,ob1,i,g1,by rw [Qk] at ho;exact ho,by rw [hμ2];exact hb⟩)
  ·intro e
   rw [hlo o (hr.obj _ _ g2).1] at hb
   have hno:=hother g2 ho g1 b i hb
   exact (hX.blk b (hr.bk _ _ _ hb) hno).2 (.inl ⟨j2,ob2,j,q1,by rw [Qk] at ho';exact ho',by rw [hμ2];exact e⟩)
  ·rw [hlo o (hr.obj _ _ g2).1] at hb
   rw [hlo o' (hr.obj _ _ q2).1]
   exact hr.inj o o' ob ob' g2 q2 ho ho' hne b i j hb
 ·have ho':m.next+(k' - k)≤o:=ho
  rw [hhi o (by omega)]
  exact hrm.fr _ (by show k'≤k+(o - m.next);omega)
 ·have hle:=hr.le
  have h2':o<m.base+m.wid:=h2
  rw [hlo o (by omega)] at h3
  have:=hr.win o h1 h2 h3
  rw [hfind]
  cases lk (renM (rhoM σ k m.next) objs') o with
  | none=>exact this
  | some x=>simp
 ·have:=hr.le;show m.base+m.wid≤m.next+(k' - k);omega
 ·rcases Nat.lt_or_ge o m.next with ho | ho
  ·rw [hlo o ho] at h;exact Nat.lt_of_lt_of_le (hr.bk _ _ _ h) hX.size
  ·rw [hhi o ho] at h;exact hrm.bk _ _ _ h
 ·rw [hfind] at h
  cases hq:lk (renM (rhoM σ k m.next) objs') o with
  | none=>rw [hq] at h;exact h
  | some x=>
   obtain⟨j,rfl,hj⟩:=QA7 hq
   have hjk:j<k:=by
    rcases Nat.lt_or_ge j k with hj | hj
    ·exact hj
    ·rw [hge j hj] at ho;omega
   have:=hX.objs j hjk (by
    obtain⟨z,hz⟩:=Option.isSome_iff_exists.1 hj
    show lk objs' j≠none
    rw [hz];simp)
   obtain⟨z,hz⟩:=Option.ne_none_iff_exists'.1 this
   rw [hO.get hz];simp
theorem QAz.useX {g:FuncId} {xs xs':List AV} {objs:List (Nat×AObj)} {k k':Nat} {R:AV→List (Nat×AObj)→Prop} {K:AV→Mem→Prop} (σ:List Nat) (hp:QAz P γ g xs objs k R k') (hc:∀r objs',R r objs'→chkM σ k k' m.next objs objs' m.objs=true) (hx:xs'=renL (rhoM σ k m.next) xs)
  (hne:∃r objs',R r objs') (hO:ObjM σ k m.next m.find objs) (hK:∀r objs',R r objs'→K (renA (rhoM σ k m.next) r) ⟨renM (rhoM σ k m.next) objs'++m.objs,m.next+(k' - k),m.base,m.wid⟩):Qr P γ g xs' m K:=by
 simp only [chkM,Bool.and_eq_true,List.all_eq_true] at hc
 rw [hx]
 obtain⟨r0,o0,h0⟩:=hne
 obtain⟨⟨⟨⟨⟨⟨⟨⟨h1,h2⟩,h3⟩,h4⟩,h5⟩,h6⟩,h7⟩,h8⟩,h9⟩:=hc r0 o0 h0
 exact QAz.use σ hp (Nat.eq_of_beq_eq_true h1) (QEr h2) (fun q hq=>QEp (h3 q hq)) (Nat.le_of_ble_eq_true h4) (fun p hp=>QEp (h5 p hp)) (fun r o hR p hp=>QEp ((hc r o hR).1.1.1.2 p hp)) hO (fun r o hR=>(hc r o hR).1.1.2) h8 (fun r o hR=>(hc r o hR).2) hK
theorem QAz.gam {f:FuncId} {xs:List AV} {objs:List (Nat×AObj)} {k k':Nat} {R:AV→List (Nat×AObj)→Prop} (hp:QAz P [] f xs objs k R k'):QAz P γ f xs objs k R k':=
 ⟨hp.1,fun S μ w vs h1 _ h3=>hp.2 S μ w vs h1 GOK.nil h3⟩
theorem Ent.cut1 {n0:Nat} {σ:St} {env:List (Nat×AV)} {E:TypeId} {xs ys:List AV} {ap:Bool} {n:Nat} (h:Ent n0 σ ⟨env,⟨[(0,.cells E (xs++ys) ap)],n,n,0⟩⟩):Ent n0 σ ⟨env,⟨[(0,.cells E xs ap)],n,n,0⟩⟩:=by
 intro S μ w a hr he
 obtain⟨S',μ',h1,h2,h3,h4,h5,h6,h7,h8,h9⟩:=h S μ w a hr he
 have hfd:∀o ob,(⟨[(0,.cells E xs ap)],n,n,0⟩:Mem).find o=some ob→o=0∧ob=.cells E xs ap:=fun o ob h=>by
  simp only [Mem.find,lk] at h
  split at h
  ·simp only [Option.some.injEq] at h;exact⟨by omega,h.symm⟩
  ·cases h
 have hob:=h1.obj 0 (.cells E (xs++ys) ap) rfl
 refine⟨S',μ',⟨fun o ob hf=>?_,fun o o' ob ob' hf hf' _ _ hne=>absurd ((hfd o ob hf).1.trans (hfd o' ob' hf').1.symm) hne,h1.old,h1.fr,fun o k1 k2=>by simp only at k1 k2;omega,h1.le,h1.bk⟩,h2,h3,h4,h5,fun o ho hf=>h6 o ho ?_,h7,h8,fun b hb=>h9 b ?_⟩
 ·obtain⟨rfl,rfl⟩:=hfd o ob hf
  refine⟨hob.1,?_⟩
  have hr:=hob.2
  simp only [RepO] at hr ⊢
  rcases hr with ⟨k1,k2⟩ | ⟨b,bo,zs,c,fz,e1,e2,e3,e4,e5,e6,e7,e8⟩
  ·exact .inl ⟨k1,(List.append_eq_nil_iff.1 k2).1⟩
  ·have ht:=RepL.take e4 xs.length
   rw [List.take_left] at ht
   have hlen:=e4.length
   simp only [List.length_append] at hlen
   refine .inr ⟨b,bo,zs.take xs.length,c,fz,e1,e2,e3,ht,fun u hu=>e5 u (List.mem_of_mem_take hu),by rw [List.length_take];omega,fun j hj=>?_,e8⟩
   rw [List.length_take] at hj
   rw [e7 j (by omega),List.getElem?_take,if_pos (by omega)]
 ·intro h;apply hf
  simp only [Mem.find,lk] at h ⊢
  split at h
  ·cases h
  ·rename_i hn;rw [if_neg hn]
 ·rcases hb with ⟨o,ob,bo,k1,k2,k3⟩ | ⟨o,b0,code,k1,k2,k3⟩
  ·obtain⟨rfl,rfl⟩:=hfd o ob k1
   exact .inl ⟨0,_,bo,rfl,rfl,k3⟩
  ·obtain⟨rfl,k⟩:=hfd o _ k1
   cases k
variable {P : Program} {γ : GTab} {m : Mem}
theorem QM.drun {fr:Option Nat} {g:FuncId} {xs:List AV} {objs objs':List (Nat×AObj)} {k n:Nat} {r:AV} {f:Nat→Option AObj} (σ:List Nat) (hp:QM P γ g xs objs k r objs' k) (hl:σ.length=k) (hn:σ.Nodup) (hlt0:∀q∈σ,q<n) (hk0:∀p∈objs,p.1<k) (hk1:∀p∈objs',p.1<k)
  (hO0:ObjM σ k n f objs) (hkeep:∀p∈objs,(lk objs' p.1).isSome=true) (hb0:∀p∈objs,QDK p.2=true) (hb1:∀p∈objs',QDK p.2=true):DRun P γ g (renL (rhoM σ k n) xs) σ f n fr (renA (rhoM σ k n) r) (renM (rhoM σ k n) objs'):=by
 refine⟨hp.1,fun m S μ w vs hq hnx _ hr hG hx=>?_⟩
 subst hnx
 have hlt:=hlt0
 have hO:ObjM σ k m.next m.find objs:=by
  clear hp hkeep hb0 hb1 hx
  induction objs with
  | nil=>trivial
  | cons p e ih=>
   obtain⟨j,ob⟩:=p
   obtain⟨h1,h2⟩:=hO0
   refine⟨?_,ih (fun p hp=>hk0 p (by simp [hp])) h2⟩
   have hj:j<k:=hk0 (j,ob) (by simp)
   rw [hq _ (by unfold rhoM;rw [if_pos hj,List.getD_eq_getElem?_getD,List.getElem?_eq_getElem (by omega)];exact List.getElem_mem _)]
   exact h1
 have hinj:=QIr hl hn hlt
 have hge:∀j,k≤j→rhoM σ k m.next j=m.next+(j - k):=fun j hj=>by unfold rhoM;rw [if_neg (by omega)]
 have hlow:∀j,j<k→rhoM σ k m.next j<m.next:=fun j hj=>by
  unfold rhoM;rw [if_pos hj,List.getD_eq_getElem?_getD,List.getElem?_eq_getElem (by omega)]
  exact hlt _ (List.getElem_mem _)
 have hkey:∀{j ob},lk objs j=some ob→j<k:=fun h=>hk0 _ (lk_mem h)
 have hkey1:∀{j ob},lk objs' j=some ob→j<k:=fun h=>hk1 _ (lk_mem h)
 have hrm0:RM S (fun j=>μ (rhoM σ k m.next j)) w ⟨objs,k,k,0⟩:=by
  refine⟨fun o ob h=>⟨hkey h,RepO.ren _ ob (hr.obj _ _ (hO.get h)).2⟩,fun o o' ob ob' h h' ho ho' hne b i j hb=>?_,hr.old,fun o ho=>?_,fun o h1 h2=>by simp only at h1 h2;omega,by simp,fun o b bo h=>hr.bk _ _ _ h⟩
  ·exact hr.inj _ _ _ _ (hO.get h) (hO.get h') (by rw [Qk];exact ho) (by rw [Qk];exact ho') (fun e=>hne (hinj _ _ e)) b i j hb
  ·show μ (rhoM σ k m.next o)=none
   rw [hge o ho]
   exact hr.fr _ (by omega)
 refine (hp.2 S _ w vs hrm0 hG (RepL.ren _ xs vs hx)).mono fun e w' he=>?_
 obtain⟨v,S',μ',rfl,hrm,hX,hv⟩:=he
 let μ2:Nat→Option (Nat×Nat):=fun o=>if o<m.next then μ o else μ' (k+(o - m.next))
 have hμ2:μ'=fun j=>μ2 (rhoM σ k m.next j):=by
  funext j
  show μ' j=if rhoM σ k m.next j<m.next then μ (rhoM σ k m.next j) else μ' (k+(rhoM σ k m.next j - m.next))
  rcases Nat.lt_or_ge j k with hj | hj
  ·rw [if_pos (hlow j hj)];exact hX.ids j hj
  ·rw [hge j hj,if_neg (by omega)];congr 1;omega
 have hlo:∀o,o<m.next→μ2 o=μ o:=fun o ho=>if_pos ho
 have hhi:∀o,m.next≤o→μ2 o=μ' (k+(o - m.next)):=fun o ho=>if_neg (by omega)
 have hown0:∀b,Q6 ⟨objs,k,k,0⟩ (fun j=>μ (rhoM σ k m.next j)) b→Q6 m μ b:=by
  intro b hb
  rcases hb with ⟨o,ob,bo,h1,h2,h3⟩ | ⟨o,b0,code,h1,h2,h3⟩
  ·exact .inl ⟨_,_,bo,hO.get h1,by rw [Qk];exact h2,h3⟩
  ·exact .inr ⟨_,b0,code,hO.get h1,h2,h3⟩
 have hk2:Keeps S μ w S' μ2 w':=⟨fun o ho=>hlo o (by
  rcases Nat.lt_or_ge o m.next with h | h
  ·exact h
  ·exact absurd (hr.fr o h) ho),hX.sub,hX.cell,hX.map,hX.bsz,hX.size,hX.uf⟩
 have hother:∀{o ob},m.find o=some ob→ob.own=true→lk (renM (rhoM σ k m.next) objs') o=none→∀b bo,μ o=some (b,bo)→¬Q6 ⟨objs,k,k,0⟩ (fun j=>μ (rhoM σ k m.next j)) b:=by
  intro o ob hf hob hno b bo hμ ho
  rcases ho with ⟨j,ob',bo',h1,h2,h3⟩ | ⟨j,b0,code,h1,h2,h3⟩
  ·have hne:o≠rhoM σ k m.next j:=fun e=>by
    have:=hkeep _ (lk_mem h1)
    rw [e,QEV hinj] at hno
    simp only [Option.map_eq_none_iff] at hno
    simp only at this
    rw [hno] at this;cases this
   exact hr.inj o _ ob _ hf (hO.get h1) hob (by rw [Qk];exact h2) hne b bo bo' hμ h3
  ·have:=hb0 _ (lk_mem h1)
   cases this
 have hfind:∀o,(m.upd (renM (rhoM σ k m.next) objs')).find o=match lk (renM (rhoM σ k m.next) objs') o with | some x=>some x | none=>m.find o:=fun o=>by
  show lk (renM (rhoM σ k m.next) objs'++m.objs) o=_
  rw [QEt]
  cases lk (renM (rhoM σ k m.next) objs') o<;>rfl
 have hcase:∀{o ob},(m.upd (renM (rhoM σ k m.next) objs')).find o=some ob→(∃j ob1,o=rhoM σ k m.next j∧lk objs' j=some ob1∧ob=renO (rhoM σ k m.next) ob1)∨(lk (renM (rhoM σ k m.next) objs') o=none∧m.find o=some ob):=by
  intro o ob h
  rw [hfind] at h
  cases hq:lk (renM (rhoM σ k m.next) objs') o with
  | none=>rw [hq] at h;exact .inr ⟨rfl,h⟩
  | some x=>
   rw [hq] at h
   simp only [Option.some.injEq] at h
   subst h
   obtain⟨j,rfl,_⟩:=QA7 hq
   rw [QEV hinj] at hq
   obtain⟨ob1,h1,h2⟩:=Option.map_eq_some_iff.1 hq
   exact .inl ⟨j,ob1,rfl,h1,h2.symm⟩
 have hown2:∀b,b<w.heap.size→¬Q6 m μ b→¬Q6 (m.upd (renM (rhoM σ k m.next) objs')) μ2 b:=by
  intro b hb hno ho
  have hno0:¬Q6 ⟨objs,k,k,0⟩ (fun j=>μ (rhoM σ k m.next j)) b:=fun h=>hno (hown0 b h)
  have hno1:=(hX.blk b hb hno0).2
  rcases ho with ⟨o,ob,bo,h1,h2,h3⟩ | ⟨o,b0,code,h1,h2,h3⟩
  ·rcases hcase h1 with ⟨j,ob1,rfl,g1,rfl⟩ | ⟨g1,g2⟩
   ·exact hno1 (.inl ⟨j,ob1,bo,g1,by rw [Qk] at h2;exact h2,by rw [hμ2];exact h3⟩)
   ·rw [hlo o (hr.obj _ _ g2).1] at h3
    exact hno (.inl ⟨o,ob,bo,g2,h2,h3⟩)
  ·rcases hcase h1 with ⟨j,ob1,rfl,g1,g2⟩ | ⟨g1,g2⟩
   ·have:=hb1 _ (lk_mem g1)
    cases ob1<;>simp [renO] at g2
    cases this
   ·rw [hlo o (hr.obj _ _ g2).1] at h2
    exact hno (.inr ⟨o,b0,code,g2,h2,h3⟩)
 have hbag:∀{o:Nat},m.find o=some .bag→RepO S' μ2 w' o .bag:=by
  intro o hf
  obtain⟨hlt',hob⟩:=hr.obj o .bag hf
  simp only [RepO] at hob ⊢
  obtain⟨b0,code,e1,e2⟩:=hob
  refine⟨b0,code,(hlo o hlt').trans e1,fun b hb=>?_⟩
  obtain⟨g1,g2,g3,g4⟩:=e2 b hb
  have hbs:b<w.heap.size:=by
   rcases Nat.lt_or_ge b w.heap.size with h | h
   ·exact h
   ·simp [Qw,Array.getElem?_eq_none h] at g1
  have hno:¬Q6 ⟨objs,k,k,0⟩ (fun j=>μ (rhoM σ k m.next j)) b:=by
   rintro(⟨j,ob',bo',h1,h2,h3⟩ | ⟨j,b1,c1,h1,h2,h3⟩)
   ·exact g4 _ _ h3
   ·have:=hb0 _ (lk_mem h1);cases this
  refine⟨Nat.lt_of_lt_of_le g1 (hX.bsz b),hX.uf b hbs g2,fun off hs=>?_,fun q bo hq=>?_⟩
  ·rcases hX.new b off hbs hs with h | h
   ·exact g3 off h
   ·exact hno h
  ·rcases Nat.lt_or_ge q m.next with h | h
   ·rw [hlo q h] at hq;exact g4 q bo hq
   ·rw [hhi q h,hrm.fr _ (by show k≤k+(q - m.next);omega)] at hq;cases hq
 refine⟨v,S',μ2,rfl,⟨fun o ob h=>?_,fun o o' ob ob' h h' ho ho' hne b i j hb=>?_,hrm.old,fun o ho=>?_,fun o h1 h2 h3=>?_,?_,fun o b bo h=>?_⟩,hk2,
  fun n0 hn0 _=>⟨hX.os,hX.tape,hX.output,hX.size,fun o ho=>hlo o (by omega),fun o ho h=>?_,hn0,hX.sub,fun b off hb hs=>(hX.new b off hb hs).imp_right (hown0 b),hX.cell,hX.map,fun b hb hno=>⟨(hX.blk b hb (fun h=>hno (hown0 b h))).1,hown2 b hb hno⟩,hX.bsz,hX.uf⟩,Rep.unren _ r v (by rw [hμ2] at hv;exact hv)⟩
 ·rcases hcase h with ⟨j,ob1,rfl,g1,rfl⟩ | ⟨g1,g2⟩
  ·refine⟨?_,RepO.unren _ ob1 (QDC (hb1 _ (lk_mem g1))) (by have:=(hrm.obj j ob1 g1).2;rw [hμ2] at this;exact this)⟩
   show rhoM σ k m.next j<m.next
   rcases Nat.lt_or_ge j k with hj | hj
   ·have:=hlow j hj;omega
   ·have:=hkey1 g1;rw [hge j hj];omega
  ·have hlt':=(hr.obj o ob g2).1
   by_cases hbg:ob=.bag
   ·subst hbg
    exact⟨hlt',hbag g2⟩
   refine⟨hlt',(hr.obj o ob g2).2.keepF hk2 hbg (fun h=>(hlo o hlt').trans h) (fun hob b bo hμ=>?_)⟩
   have hno:=hother g2 hob g1 b bo hμ
   have hbs:=hr.bk o b bo hμ
   refine⟨(hX.blk b hbs hno).1,fun hS off hs=>?_⟩
   rcases hX.new b off hbs hs with h | h
   ·exact hS off h
   ·exact hno h
 ·rcases hcase h with ⟨j1,ob1,rfl,g1,rfl⟩ | ⟨g1,g2⟩<;>rcases hcase h' with ⟨j2,ob2,rfl,q1,rfl⟩ | ⟨q1,q2⟩
  ·rw [Qk] at ho ho'
   have e1:μ' j1=some (b,i):=by rw [hμ2];exact hb
   intro e
   have e2:μ' j2=some (b,j):=by rw [hμ2];exact e
   exact hrm.inj j1 j2 _ _ g1 q1 ho ho' (fun e=>hne (by rw [e])) b i j e1 e2
  ·intro e
   rw [hlo o' (hr.obj _ _ q2).1] at e
   have hno:=hother q2 ho' q1 b j e
   exact (hX.blk b (hr.bk _ _ _ e) hno).2 (.inl ⟨j1,ob1,i,g1,by rw [Qk] at ho;exact ho,by rw [hμ2];exact hb⟩)
  ·intro e
   rw [hlo o (hr.obj _ _ g2).1] at hb
   have hno:=hother g2 ho g1 b i hb
   exact (hX.blk b (hr.bk _ _ _ hb) hno).2 (.inl ⟨j2,ob2,j,q1,by rw [Qk] at ho';exact ho',by rw [hμ2];exact e⟩)
  ·rw [hlo o (hr.obj _ _ g2).1] at hb
   rw [hlo o' (hr.obj _ _ q2).1]
   exact hr.inj o o' ob ob' g2 q2 ho ho' hne b i j hb
 ·have ho':m.next≤o:=ho
  rw [hhi o (by omega)]
  exact hrm.fr _ (by show k≤k+(o - m.next);omega)
 ·have hle:=hr.le
  have h2':o<m.base+m.wid:=h2
  rw [hlo o (by omega)] at h3
  have:=hr.win o h1 h2 h3
  rw [hfind]
  cases lk (renM (rhoM σ k m.next) objs') o with
  | none=>exact this
  | some x=>simp
 ·exact hr.le
 ·rcases Nat.lt_or_ge o m.next with ho | ho
  ·rw [hlo o ho] at h;exact Nat.lt_of_lt_of_le (hr.bk _ _ _ h) hX.size
  ·rw [hhi o ho] at h;exact hrm.bk _ _ _ h
 ·rw [hfind] at h
  cases hq:lk (renM (rhoM σ k m.next) objs') o with
  | none=>rw [hq] at h;exact h
  | some x=>
   obtain⟨j,rfl,hj⟩:=QA7 hq
   have hjk:j<k:=by
    obtain⟨z,hz⟩:=Option.isSome_iff_exists.1 hj
    exact hkey1 hz
   have:=hX.objs j hjk (by
    obtain⟨z,hz⟩:=Option.isSome_iff_exists.1 hj
    show lk objs' j≠none
    rw [hz];simp)
   obtain⟨z,hz⟩:=Option.ne_none_iff_exists'.1 this
   rw [hO.get hz];simp
def chkD (σ:List Nat) (k n:Nat) (objs objs':List (Nat×AObj)):Bool:=
 Nat.beq σ.length k&&QK9 σ&&σ.all (fun q=>Nat.blt q n)&&objs.all (fun p=>Nat.blt p.1 k)&&objs'.all (fun p=>Nat.blt p.1 k)&&objs.all (fun p=>(lk objs' p.1).isSome)&&objs.all (fun p=>QDK p.2)&&objs'.all fun p=>QDK p.2
theorem QO.useM {all:Array Oper} {i:Nat} {log:Log} {g:FuncId} {xs0 xs:List AV} {r0:Option (List AV×List Nat)} {objs objs':List (Nat×AObj)} {k:Nat} {r:AV} {dst:Option Nat} {env:List (Nat×AV)} {mem:Mem} {K:Log→St→Prop} (σ:List Nat) (hp:QM P γ g xs objs k r objs' k)
  (h1:dstB mem dst=true) (hc:chkD σ k mem.next objs objs'=true) (hx:xs0=renL (rhoM σ k mem.next) xs) (hO:ObjM σ k mem.next mem.find objs) (hu:QBO mem dst (renM (rhoM σ k mem.next) objs')=true)
  (hl:QBL all i σ (wrOf (renM (rhoM σ k mem.next) objs')) log=true)
  (hK:K ((i,σ,wrOf (renM (rhoM σ k mem.next) objs'))::log) ⟨putE dst (renA (rhoM σ k mem.next) r) env,mem.upd (renM (rhoM σ k mem.next) objs')⟩):QO P γ all i log g xs0 r0 dst ⟨env,mem⟩ K:=by
 simp only [chkD,Bool.and_eq_true,List.all_eq_true] at hc
 obtain⟨⟨⟨⟨⟨⟨⟨c1,c2⟩,c3⟩,c4⟩,c5⟩,c6⟩,c7⟩,c8⟩:=hc
 refine .inr ⟨QET h1,σ,_,_,?_,hu,hl,hK⟩
 rw [hx]
 exact QM.drun σ hp (Nat.eq_of_beq_eq_true c1) (QEr c2) (fun q hq=>QEp (c3 q hq)) (fun p hp=>QEp (c4 p hp)) (fun p hp=>QEp (c5 p hp)) hO c6 c7 c8
def QFn:Option (Value×AV)→Bool
 | none=>true
 | some p=>idf p.2
theorem QHc {l:Option (Value×AV)} {p:Value×AV} (h:l=some p) (hl:QFn l=true):idf p.2=true:=by subst h;exact hl
def GiBC (keep:List (Nat×Nat)) (f:Nat→Option AObj):Option AObj→AObj→Prop
 | some (.cells E xs ap),.cells E' ys ap'=>E=E'∧ap=ap'∧GzC keep f xs ys
 | some (.map kt ks xs),.map kt' ks' ys=>kt=kt'∧ks=ks'∧GzC keep f xs ys
 | some (.loop N ts xs ps as bd st pe),.loop N' ts' ys ps' as' bd' st' pe'=>(N=N'∧ts=ts'∧ps=ps'∧as=as'∧bd=bd'∧st=st'∧pe=pe')∧GzC keep f xs ys
 | some (.miter l ks xs),.miter l' ks' xs'=>(l=l'∧ks=ks'∧xs=xs')∧idfL xs=true∧QFn l=true
 | _,_=>False
def GiO1 (keep:List (Nat×Nat)) (dl:List Nat) (f:Nat→Option AObj) (objs:List (Nat×AObj)) (o:Nat) (x:AObj):Prop:=match lk keep o with
 | some q=>bif dl.contains o then GiBC keep f (lk objs q) x else FzB f (lk objs q) x
 | none=>nilO x=true
def GiO (keep:List (Nat×Nat)) (dl:List Nat) (f:Nat→Option AObj) (objs:List (Nat×AObj)):List (Nat×AObj)→Prop
 | []=>True
 | (o,x)::e=>GiO1 keep dl f objs o x∧GiO keep dl f objs e
theorem GiO.get {keep:List (Nat×Nat)} {dl:List Nat} {f:Nat→Option AObj} {objs:List (Nat×AObj)}:∀{e:List (Nat×AObj)},GiO keep dl f objs e→∀{t x},lk e t=some x→GiO1 keep dl f objs t x
 | [],_,t,x,h=>by simp [lk] at h
 | (t',x')::e,hE,t,x,h=>by
  simp only [lk] at h
  split at h
  ·rename_i e;subst e;simp only [Option.some.injEq] at h;subst h;exact hE.1
  ·exact hE.2.get h
theorem Ent.freezeI (n0:Nat) (keep:List (Nat×Nat)) (dl:List Nat) {env env':List (Nat×AV)} {objs objs':List (Nat×AObj)} {next base wid next':Nat}
  (hE:GzE keep (lk (Qc keep objs)) env env') (hO:GiO keep dl (lk (Qc keep objs)) objs objs') (hk:kInj keep=true) (hn:(keep.all fun p=>decide (p.1<next'))=true) (hn':(objs'.all fun p=>decide (p.1<next'))=true) (h0:n0≤next') (hid:(keep.all fun p=>decide (n0≤p.1)||p.1==p.2)=true) (hob0:(objs'.all fun p=>decide (n0≤p.1)||(lk keep p.1).isSome)=true):Ent n0 ⟨env,⟨objs,next,base,wid⟩⟩ ⟨env',⟨objs',next',next',0⟩⟩:=by
 intro S μ w a hr henv
 have hr2:RM S μ w ⟨Qc keep objs,next,next,0⟩:=⟨fun o ob h=>hr.obj o ob (Qx h).1,fun o o' ob ob' h h'=>hr.inj o o' ob ob' (Qx h).1 (Qx h').1,hr.old,hr.fr,fun o h1 h2=>by simp only at h1 h2;omega,Nat.le_refl _,hr.bk⟩
 let T:Nat→Nat→Prop:=fun b off=>S b off∨QBE ⟨Qc keep objs,next,next,0⟩ μ b
 let ν:Nat→Option (Nat×Nat):=fun o=>(lkk n0 keep o).bind μ
 have hself:∀{o q:Nat},o<n0→lk keep o=some q→q=o:=fun {o q} ho hq=>by
  rw [List.all_eq_true] at hid
  have:=hid _ (lk_mem hq)
  simp only [Bool.or_eq_true,decide_eq_true_eq,beq_iff_eq] at this
  omega
 have hge:∀{o ob},lk objs' o=some ob→lk keep o=none→n0≤o:=fun {o ob} ho hq=>by
  rw [List.all_eq_true] at hob0
  have:=hob0 _ (lk_mem ho)
  simp only [Bool.or_eq_true,decide_eq_true_eq,hq] at this
  simpa using this
 have hsn:=QBI (T:=T) hr2 (fun b off h=>.inl h) (fun b h off=>.inr h) 12
 have hsl:=QEd (T:=T) (fun b off h=>.inl h) hsn
 have hown:∀b,QBE ⟨Qc keep objs,next,next,0⟩ μ b→QBE ⟨objs,next,base,wid⟩ μ b:=fun b ⟨o,ob,bo,h1,h2,h3⟩=>⟨o,ob,bo,(Qx h1).1,h2,h3⟩
 have hnot:∀{q b bo:Nat} {ob:AObj},(keep.any fun p=>p.2==q)=true→lk objs q=some ob→ob.own=true→μ q=some (b,bo)→(∀off,¬S b off)→∀off,¬T b off:=by
  intro q b bo ob hq hf hob hμ hS off h
  rcases h with h | ⟨o,ob',bo',h1,h2,h3⟩
  ·exact hS off h
  ·have hl:=Qx h1
   have hne:o≠q:=fun e=>by rw [e,hq] at hl;cases hl.2
   exact hr.inj o q ob' ob hl.1 hf h2 hob hne b bo' bo h3 hμ
 have hmu:∀{o:Nat} {q:Nat×Nat},(keep.find? fun q=>q.2==o)=some q→ν q.1=μ o:=fun h=>by
  show (lkk n0 keep _).bind μ=_
  rw [QAc (QJh hk h)];rfl
 have conv:∀(y x:AV) (v:Value),GzV keep (lk (Qc keep objs)) (some y) x→Rep S μ w y v→Rep T ν w x v:=by
  intro y x v hV hy
  simp only [GzV] at hV
  rcases hV with hV | hV
  ·unfold nilA at hV
   split at hV
   ·split at hV
    ·simp only [Rep] at hy ⊢
     exact⟨none,0,hy,Nat.le_refl _,.inl rfl⟩
    ·simp only [Rep] at hy ⊢
     exact⟨none,0,hy,Nat.le_refl _,by simp,by simp⟩
    ·cases hV
   ·cases hV
  split at hV
  ·rename_i z hz
   subst hV
   have conv0:∀(y z:AV) (v:Value),QCe keep y=some z→Rep S μ w y v→Rep T ν w z v:=by
    intro y z v hz hy
    cases y<;>simp only [QCe,Option.map_eq_some_iff,reduceCtorEq] at hz
    all_goals
     obtain⟨q,h1,rfl⟩:=hz
     simp only [Rep] at hy ⊢
     rw [hmu h1];exact hy
   by_cases ht:∃xs,y=.tup xs
   ·obtain⟨xs,rfl⟩:=ht
    simp only [QER] at hz
    cases hk0:QBQ keep xs with
    | none=>rw [hk0] at hz;cases hz
    | some p=>
     obtain⟨ys,c⟩:=p
     rw [hk0] at hz
     cases c with
     | false=>cases hz
     | true=>
      simp only [QRG,Option.some.injEq] at hz
      subst hz
      simp only [Rep] at hy ⊢
      obtain⟨us,e,hL⟩:=hy
      refine⟨us,e,?_⟩
      clear e
      have key:∀(xs ys:List AV) (us:List Value) (c:Bool),QBQ keep xs=some (ys,c)→RepL S μ w xs us→RepL T ν w ys us:=by
       intro xs
       induction xs with
       | nil=>intro ys us c h hr;simp only [QBQ,Option.some.injEq,Prod.mk.injEq] at h;obtain⟨rfl,_⟩:=h;simpa [RepL] using hr
       | cons x xs ih=>
        intro ys us c h hr
        simp only [QBQ] at h
        cases hx:QBQ keep xs with
        | none=>rw [hx] at h;cases h
        | some p=>
         obtain⟨zs,d⟩:=p
         rw [hx] at h
         simp only [RepL] at hr
         obtain⟨u,us',e,r1,r2⟩:=hr
         cases h0:QCe keep x with
         | some z=>
          rw [h0] at h
          simp only [QKH,Option.some.injEq,Prod.mk.injEq] at h
          obtain⟨rfl,_⟩:=h
          simp only [RepL]
          exact⟨u,us',e,conv0 _ _ _ h0 r1,ih _ _ _ hx r2⟩
         | none=>
          rw [h0] at h
          cases hi:idf x with
          | false=>rw [hi] at h;cases h
          | true=>
           rw [hi] at h
           simp only [QKH,Option.some.injEq,Prod.mk.injEq] at h
           obtain⟨rfl,_⟩:=h
           simp only [RepL]
           have hs:=QAs (find:=lk (Qc keep objs)) (n:=11) hi
           obtain⟨k1,k2⟩:=hsn _ _ _ _ hs r1
           exact⟨u,us',e,Rep.idf1 _ _ k1 k2,ih _ _ _ hx r2⟩
      exact key _ _ _ _ hk0 hL
   ·refine conv0 _ _ _ ?_ hy
    cases y<;>first | exact hz | exact absurd ⟨_,rfl⟩ ht
  ·obtain⟨ids,hs⟩:=hV
   obtain⟨k1,k2⟩:=hsn _ _ _ _ hs hy
   exact Rep.idf1 _ _ k1 k2
 have convC:∀(xs ys:List AV) (vs:List Value),GzC keep (lk (Qc keep objs)) xs ys→RepL S μ w xs vs→RepL T ν w ys vs:=by
  intro xs
  induction xs with
  | nil=>intro ys vs h hr;cases ys with
   | nil=>simpa [RepL] using hr
   | cons y ys=>exact h.elim
  | cons x xs ih=>intro ys vs h hr;cases ys with
   | nil=>exact h.elim
   | cons y ys=>
    simp only [RepL] at hr ⊢
    obtain⟨v,us,e,h1,h2⟩:=hr
    exact⟨v,us,e,conv _ _ _ h.1 h1,ih _ _ h.2 h2⟩
 have hob:∀o ob,lk objs' o=some ob→(∃q x,lk keep o=some q∧lk objs q=some x∧x.own=ob.own∧RepO T ν w o ob)∨(ν o=none∧RepO T ν w o ob):=by
  intro o ob ho
  have hB:=hO.get ho
  unfold GiO1 at hB
  split at hB
  ·rename_i q hq
   left
   cases hdl:dl.contains o with
   | true=>
    rw [hdl] at hB
    simp only [cond_true] at hB
    have hν:ν o=μ q:=by show (lkk n0 keep o).bind μ=μ q;rw [QAc hq];rfl
    cases hx:lk objs q with
    | none=>rw [hx] at hB;simp [GiBC] at hB
    | some x=>
     rw [hx] at hB
     have hobj:=(hr.obj q x hx).2
     refine⟨q,x,hq,hx,?_,?_⟩
     ·cases x<;>cases ob<;>simp [GiBC] at hB<;>rfl
     ·cases x<;>cases ob<;>simp only [GiBC] at hB
      ·obtain⟨rfl,rfl,hs⟩:=hB
       simp only [RepO] at hobj ⊢
       rcases hobj with ⟨h1,h2⟩ | ⟨b,bo,ys,c,fz,e1,e2,e3,e4,e5,e6,e7,e8⟩
       ·subst h2
        have k2:=convC _ _ _ hs (by simp [RepL]:RepL S μ w [] [])
        exact .inl ⟨hν.trans h1,by have:=k2.length;simpa using this.symm⟩
       ·exact .inr ⟨b,bo,ys,c,fz,hν.trans e1,e2,e3,convC _ _ _ hs e4,e5,e6,e7,hnot (QAl hq) hx rfl e1 e8⟩
      ·obtain⟨rfl,rfl,hs⟩:=hB
       simp only [RepO] at hobj ⊢
       obtain⟨b,bo,es,clock,e1,e2,e3,e4,e5,e6⟩:=hobj
       exact⟨b,bo,es,clock,hν.trans e1,e2,e3,e4,convC _ _ _ hs e5,hnot (QAl hq) hx rfl e1 e6⟩
      ·obtain⟨⟨rfl,rfl,rfl⟩,hs,hla⟩:=hB
       simp only [RepO] at hobj ⊢
       obtain⟨b,bo,mb,since,seen,stepped,e1,e2,e3,e4⟩:=hobj
       refine⟨b,bo,mb,since,seen,stepped,hν.trans e1,hnot (QAl hq) hx rfl e1 e2,e3,e4.imp_right ?_⟩
       rintro⟨r,es,kt,g1,g2,g3,g4,g5,g6,g7,g8⟩
       refine⟨r,es,kt,g1,.inl g2,g3,g4,g5,g6,RepL.idf1 _ _ hs (RepL.idf0 (fun b off h=>.inl h) _ _ hs g7),fun p hp=>(g8 p hp).imp fun e he=>⟨he.1,he.2.1,he.2.2.1,?_⟩⟩
       exact Rep.idf1 _ _ (QHc hp hla) (Rep.idf0 (fun b off h=>.inl h) _ _ (QHc hp hla) he.2.2.2)
      ·obtain⟨⟨rfl,rfl,rfl,rfl,rfl,rfl,rfl⟩,hs⟩:=hB
       simp only [RepO] at hobj ⊢
       obtain⟨b,bo,D,fn,tmps,e1,e2,e3,e4,e5⟩:=hobj
       exact⟨b,bo,D,fn,tmps,hν.trans e1,hnot (QAl hq) hx rfl e1 e2,e3,e4,convC _ _ _ hs e5⟩
   | false=>
   rw [hdl] at hB
   simp only [cond_false] at hB
   have hν:ν o=μ q:=by show (lkk n0 keep o).bind μ=μ q;rw [QAc hq];rfl
   cases hx:lk objs q with
   | none=>rw [hx] at hB;simp [FzB] at hB
   | some x=>
    rw [hx] at hB
    have hobj:=(hr.obj q x hx).2
    refine⟨q,x,hq,hx,?_,?_⟩
    ·cases x<;>cases ob<;>simp [FzB] at hB<;>rfl
    ·cases x<;>cases ob<;>simp only [FzB] at hB
     ·obtain⟨rfl,rfl,ids,hs⟩:=hB
      simp only [RepO] at hobj ⊢
      rcases hobj with ⟨h1,h2⟩ | ⟨b,bo,ys,c,fz,e1,e2,e3,e4,e5,e6,e7,e8⟩
      ·subst h2
       obtain⟨k1,k2⟩:=hsl _ _ _ [] hs (by simp [RepL])
       exact .inl ⟨hν.trans h1,by have:=k2.length;simpa using this.symm⟩
      ·obtain⟨k1,k2⟩:=hsl _ _ _ _ hs e4
       exact .inr ⟨b,bo,ys,c,fz,hν.trans e1,e2,e3,RepL.idf1 _ _ k1 k2,e5,e6,e7,hnot (QAl hq) hx rfl e1 e8⟩
     ·obtain⟨rfl,rfl,ids,hs⟩:=hB
      simp only [RepO] at hobj ⊢
      obtain⟨b,bo,es,clock,e1,e2,e3,e4,e5,e6⟩:=hobj
      obtain⟨k1,k2⟩:=hsl _ _ _ _ hs e5
      exact⟨b,bo,es,clock,hν.trans e1,e2,e3,e4,RepL.idf1 _ _ k1 k2,hnot (QAl hq) hx rfl e1 e6⟩
  ·rename_i hq
   right
   have hν:ν o=none:=by show (lkk n0 keep o).bind μ=none;rw [QFv hq (hge ho hq)];rfl
   refine⟨hν,?_⟩
   unfold nilO at hB
   split at hB
   ·simp only [RepO];exact .inl ⟨hν,trivial⟩
   ·cases hB
 have hlt:∀{o q},lk keep o=some q→o<next':=fun h=>by
  rw [List.all_eq_true] at hn
  simpa using hn _ (lk_mem h)
 have hν0:∀o,o<n0→ν o=μ o:=fun o ho=>by
  show (lkk n0 keep o).bind μ=μ o
  cases hq:lk keep o with
  | none=>simp [lkk,hq,ho]
  | some q=>rw [QAc hq,hself ho hq];rfl
 refine⟨T,ν,⟨fun o ob h=>?_,fun o o' ob ob' h h' ho ho' hne b i j hi hj=>?_,fun b off h=>?_,fun o ho=>?_,fun o h1 h2=>by simp only at h1 h2;omega,Nat.le_refl _,fun o b bo h=>?_⟩,fun t x ht=>?_,fun b off h=>.inl h,fun b off h=>?_,hν0,fun o ho hf=>?_,h0,rfl,fun b hb=>?_⟩
 ·refine⟨by rw [List.all_eq_true] at hn';simpa using hn' _ (lk_mem h),?_⟩
  rcases hob o ob h with ⟨q,x,h1,h2,h3,h4⟩ | ⟨_,h4⟩
  ·exact h4
  ·exact h4
 ·rcases hob o ob h with ⟨q,x,h1,h2,h3,h4⟩ | ⟨h4,_⟩
  case inr=>rw [h4] at hi;cases hi
  rcases hob o' ob' h' with ⟨q',x',g1,g2,g3,g4⟩ | ⟨g4,_⟩
  case inr=>rw [g4] at hj;cases hj
  have e1:ν o=μ q:=by show (lkk n0 keep o).bind μ=μ q;rw [QAc h1];rfl
  have e2:ν o'=μ q':=by show (lkk n0 keep o').bind μ=μ q';rw [QAc g1];rfl
  refine hr.inj q q' x x' h2 g2 (h3.trans ho) (g3.trans ho') (fun e=>hne (QOQ hk h1 (e▸g1))) b i j (e1▸hi) (e2▸hj)
 ·rcases h with h | ⟨o,ob,bo,_,_,h⟩
  ·exact hr.old _ _ h
  ·exact hr.bk _ _ _ h
 ·show (lkk n0 keep o).bind μ=none
  have ho':next'≤o:=ho
  cases hq:lk keep o with
  | none=>rw [QFv hq (by omega)];rfl
  | some q=>have:=hlt hq;omega
 ·change (lkk n0 keep o).bind μ=some (b,bo) at h
  cases hq:lkk n0 keep o with
  | none=>rw [hq] at h;cases h
  | some q=>rw [hq] at h;exact hr.bk _ _ _ h
 ·have hV:=hE.get ht
  cases hx:lk env t with
  | none=>rw [hx] at hV;exact hV.elim
  | some y=>
   rw [hx] at hV
   exact conv _ _ _ hV (henv t y hx)
 ·rcases h with h | h
  ·exact .inl h
  ·exact .inr (.inl (hown _ h))
 ·obtain⟨ob,hb⟩:=Option.ne_none_iff_exists'.1 hf
  rcases hob o ob hb with ⟨q,x,h1,h2,_⟩ | ⟨h1,_⟩
  ·have:=hself ho h1
   subst this
   show lk objs q≠none
   rw [h2];simp
  ·have hB:=hO.get hb
   have hq:lk keep o≠none:=fun e=>by have:=hge hb e;omega
   obtain⟨q,hq⟩:=Option.ne_none_iff_exists'.1 hq
   have:=hself ho hq
   subst this
   unfold GiO1 at hB
   rw [hq] at hB
   show lk objs q≠none
   intro e
   simp only [e] at hB
   cases hdl:dl.contains q<;>simp [hdl,FzB,GiBC] at hB
 ·rcases hb with ⟨o,ob,bo,h1,h2,h3⟩ | ⟨o,b0,code,h1,h2,h3⟩
  case inr=>
   have:=hO.get h1
   unfold GiO1 at this
   split at this
   ·rename_i q hq
    cases hx:lk objs q with
    | none=>simp [hx,FzB,GiBC] at this
    | some x=>rw [hx] at this;cases x<;>simp [FzB,GiBC] at this
   ·simp [nilO] at this
  rcases hob o ob h1 with ⟨q,x,g1,g2,g3,g4⟩ | ⟨g4,_⟩
  case inr=>rw [g4] at h3;cases h3
  exact .inl ⟨q,x,bo,g2,g3.trans h2,by change (lkk n0 keep o).bind μ=_ at h3;rw [QAc g1] at h3;exact h3⟩
section
variable {keep : List (Nat × Nat)} {dl : List Nat} {f : Nat → Option AObj}
theorem Qbr {objs:List (Nat×AObj)}:GiO keep dl f objs []=True:=(rfl)
theorem QZi {objs e:List (Nat×AObj)} {o:Nat} {x:AObj}:GiO keep dl f objs ((o,x)::e)=(GiO1 keep dl f objs o x∧GiO keep dl f objs e):=(rfl)
def GiO2 (keep:List (Nat×Nat)) (dl:List Nat) (f:Nat→Option AObj) (objs:List (Nat×AObj)) (o:Nat) (r:Option Nat) (x:AObj):Prop:=match r with
 | some q=>bif dl.contains o then GiBC keep f (lk objs q) x else FzB f (lk objs q) x
 | none=>nilO x=true
theorem Qdo {objs:List (Nat×AObj)} {o:Nat} {x:AObj}:GiO1 keep dl f objs o x=GiO2 keep dl f objs o (lk keep o) x:=by
 unfold GiO1 GiO2;cases lk keep o<;>rfl
theorem QTR {objs:List (Nat×AObj)} {o q:Nat} {x:AObj}:GiO2 keep dl f objs o (some q) x=bif dl.contains o then GiBC keep f (lk objs q) x else FzB f (lk objs q) x:=(rfl)
theorem QVN {objs:List (Nat×AObj)} {o:Nat} {x:AObj}:GiO2 keep dl f objs o none x=(nilO x=true):=(rfl)
theorem QQs {E E':TypeId} {xs ys:List AV} {ap ap':Bool}:GiBC keep f (some (.cells E xs ap)) (.cells E' ys ap')=(E=E'∧ap=ap'∧GzC keep f xs ys):=(rfl)
theorem QUD {N N':Nat} {ts ts':List Nat} {xs ys:List AV} {ps ps':Array Nat} {as as' bd bd':Code} {st st':LoopState} {pe pe':Option Code}:GiBC keep f (some (.loop N ts xs ps as bd st pe)) (.loop N' ts' ys ps' as' bd' st' pe')=((N=N'∧ts=ts'∧ps=ps'∧as=as'∧bd=bd'∧st=st'∧pe=pe')∧GzC keep f xs ys):=(rfl)
theorem QXN {k k':KT} {ks ks':List Value} {xs ys:List AV}:GiBC keep f (some (.map k ks xs)) (.map k' ks' ys)=(k=k'∧ks=ks'∧GzC keep f xs ys):=(rfl)
theorem QQM {l l':Option (Value×AV)} {ks ks':List Value} {xs xs':List AV}:GiBC keep f (some (.miter l ks xs)) (.miter l' ks' xs')=((l=l'∧ks=ks'∧xs=xs')∧idfL xs=true∧QFn l=true):=(rfl)
theorem QQK:QFn none=true:=(rfl)
theorem Qdj {k:Value} {x:AV}:QFn (some (k,x))=idf x:=(rfl)
theorem QQ7 {kt:KT} {ks:List Value} {xs:List AV}:QR (.mv kt ks xs)=some [.mv kt ks xs]:=(rfl)
theorem QFK {o:Nat}:QR (.mp o)=some [.mp o]:=(rfl)
attribute [push_cast] Qbr QZi Qdo QTR QVN QQs QUD QXN QQM QQK Qdj QQ7 QFK
end
variable {P : Program} {γ : GTab} {S : Nat → Nat → Prop} {μ : Nat → Option (Nat × Nat)} {w : World}
theorem WkL.repC:∀(xs ys:List AV) (b off:Nat),WkL xs ys→RepC S μ w xs b off→RepC S μ w ys b off
 | [],[],_,_,_,_=>by simp [RepC]
 | x::xs,y::ys,b,off,h,hr=>by
  simp only [WkL] at h
  simp only [RepC] at hr ⊢
  obtain⟨⟨hs,u,hu,ho,r1⟩,r2⟩:=hr
  exact⟨⟨hs,u,hu,ho,Wk.rep x y u h.1 r1⟩,WkL.repC xs ys b (off+1) h.2 r2⟩
 | [],_::_,_,_,h,_=>by simp [WkL] at h
 | _::_,[],_,_,h,_=>by simp [WkL] at h
theorem WkL.len:∀{xs ys:List AV},WkL xs ys→xs.length=ys.length
 | [],[],_=>rfl
 | x::xs,y::ys,h=>by simp only [WkL] at h;rw [List.length_cons,List.length_cons,WkL.len h.2]
 | [],_::_,h=>by simp [WkL] at h
 | _::_,[],h=>by simp [WkL] at h
theorem WkL.seq {n z:Nat} {xs ys:List AV} {v:Value} (h:WkL xs ys) (hr:Rep S μ w (.seq n z xs) v):Rep S μ w (.seq n z ys) v:=by
 simp only [Rep] at*
 obtain⟨base,cap,e,hn,hl,r⟩:=hr
 refine⟨base,cap,e,hn,h.len▸hl,?_⟩
 rcases r with r | ⟨b,off,e,r⟩
 ·exact .inl r
 ·exact .inr ⟨b,off,e,WkL.repC xs ys b off h r⟩
theorem QE.preS {f:FuncId} {n z:Nat} {xs ys:List AV} {r:AV} (hp:QE P γ f [.seq n z ys] r) (hx:idfL xs=true) (hw:WkL xs ys):QE P γ f [.seq n z xs] r:=
 ⟨by simpa [idfL,idf] using hx,hp.2.1,hp.2.2.1,fun S w vs h1 h2 h3=>hp.2.2.2 S w vs h1 h2 (by
  simp only [RepL] at h3 ⊢
  obtain⟨v,us,e,k1,k2⟩:=h3
  exact⟨v,us,e,hw.seq k1,k2⟩)⟩
theorem PNew.use {m:Mem} {g:FuncId} {xs ys:List AV} {ids:List Nat} {x:AV} {K:AV→Mem→Prop} (hp:PNew P γ g ys x) (hs:QJ m.find xs=some (ys,ids)) (hK:K x m):Qr P γ g xs m K:=Fit.use (.inr hp) hs hK
theorem QE.of {f:FuncId} {xs:List AV} {r:AV} (hx:idfL xs=true) (hr:idf r=true) (h:Qr P γ f xs ⟨[],0,0,0⟩ fun y m=>∃ids,snap m.find 12 (unf y)=some (r,ids)):QE P γ f xs r:=by
 refine⟨hx,hr,h.1,fun S w vs hold hG hxs=>?_⟩
 have hRM:RM S μ0 w ⟨[],0,0,0⟩:=⟨fun o ob h=>by simp [Mem.find,lk] at h,fun o o' ob ob' h=>by simp [Mem.find,lk] at h,hold,fun _ _=>rfl,fun o _ h=>by simp at h,Nat.le_refl _,fun o b bo h=>by simp [μ0] at h⟩
 refine (h.2 S μ0 w vs hRM hG hxs).mono fun e w' he=>?_
 obtain⟨v,x,m',S',μ',rfl,_,_,hrm,hX,hrep,ids,hsn⟩:=he
 refine⟨v,(fun b off=>S b off∨(w.heap.size≤b∧b<w'.heap.size)),rfl,⟨hX.os,hX.tape,hX.output,hX.size,fun b off h=>.inl h,fun b off hb h=>?_,fun b off h=>?_,fun b hb=>?_,hX.uf⟩,?_⟩
 ·rcases h with h | h
  ·exact h
  ·omega
 ·rcases h with h | h
  ·have:=hold _ _ h;have:=hX.size;omega
  ·exact h.2
 ·exact (hX.blk b hb Q1).1
 ·refine (QBI hrm (fun b off hs=>?_) (fun b ho off=>?_) 12 (unf x) r ids v hsn (QA6 hrep)).2
  ·rcases Nat.lt_or_ge b w.heap.size with hlt | hge
   ·rcases hX.new b off hlt hs with h | h
    ·exact .inl h
    ·exact absurd h Q1
   ·exact .inr ⟨hge,hrm.old _ _ hs⟩
  ·rcases Nat.lt_or_ge b w.heap.size with hlt | hge
   ·exact absurd (Or.inl ho) (hX.blk b hlt Q1).2
   ·obtain⟨o,ob,bo,_,_,h⟩:=ho
    exact .inr ⟨hge,hrm.bk _ _ _ h⟩
set_option linter.unusedVariables false
variable {p q : Prop}
theorem zz (h:q) (e:p=q:=by conv=>lhs;simp only [List.zipIdx_cons,List.zipIdx_nil,List.map_cons,List.map_nil,Nat.zero_add]):p:=e▸h
theorem zZ (h:q) (e:p=q:=by conv=>lhs;(simp only [List.zipIdx_cons,List.zipIdx_nil,List.map_cons,List.map_nil,Nat.zero_add];simp (maxSteps:=400000) (disch:=first | omega | exact okT rfl | simp only [push_cast]) only [push_cast,↓QG,↓reduceIte,Nat.reduceAdd,Nat.reduceMul,Nat.reduceSub,Nat.reduceEqDiff,Nat.reduceBEq,Nat.reduceBNe,Nat.reduceLT,Nat.reduceLeDiff,reduceCtorEq,Op.operands,QA,QB,Nat.sub_zero])):p:=e▸h
theorem zI (e:p:=by first | simp [idfL,idf,QZ QS,QS,Qg,Qy] | simp [idfL,idf,QZ QS,QS,Qg,Qy,QAL,QQ,push_cast]):p:=e
theorem zo (e:p:=by omega):p:=e
theorem zD (e:p:=by decide):p:=e
theorem zK (e:p:=by kernel_rfl):p:=e
theorem zO (e:p:=by (try dsimp only);omega):p:=e
theorem zS (h:q) (e:p=q:=by conv=>lhs;simp (maxSteps:=400000) (disch:=first | omega | exact okT rfl | simp only [push_cast]) only [push_cast,↓QG,↓reduceIte,Nat.reduceAdd,Nat.reduceMul,Nat.reduceSub,Nat.reduceEqDiff,Nat.reduceBEq,Nat.reduceBNe,Nat.reduceLT,Nat.reduceLeDiff,reduceCtorEq,Op.operands,QA,QB,Nat.sub_zero]):p:=e▸h
theorem zC (e:p:=by (simp (maxSteps:=400000) (disch:=first | omega | exact okT rfl | simp only [push_cast]) only [push_cast,↓QG,↓reduceIte,Nat.reduceAdd,Nat.reduceMul,Nat.reduceSub,Nat.reduceEqDiff,Nat.reduceBEq,Nat.reduceBNe,Nat.reduceLT,Nat.reduceLeDiff,reduceCtorEq,Op.operands,QA,QB,Nat.sub_zero]<;>fail)):p:=e
theorem zS1 (h:q) (e:p=q:=by conv=>lhs;simp (maxSteps:=400000) (disch:=first | omega | exact okT rfl | simp only [push_cast]) only [push_cast,↓QG,↓reduceIte,Nat.reduceAdd,Nat.reduceMul,Nat.reduceSub,Nat.reduceEqDiff,Nat.reduceBEq,Nat.reduceBNe,Nat.reduceLT,Nat.reduceLeDiff,reduceCtorEq,Op.operands,QA,QB,Nat.sub_zero,X1]):p:=e▸h
theorem zC1 (e:p:=by (simp (maxSteps:=400000) (disch:=first | omega | exact okT rfl | simp only [push_cast]) only [push_cast,↓QG,↓reduceIte,Nat.reduceAdd,Nat.reduceMul,Nat.reduceSub,Nat.reduceEqDiff,Nat.reduceBEq,Nat.reduceBNe,Nat.reduceLT,Nat.reduceLeDiff,reduceCtorEq,Op.operands,QA,QB,Nat.sub_zero,X1]<;>fail)):p:=e
theorem zS2 (h:q) (e:p=q:=by conv=>lhs;simp (maxSteps:=400000) (disch:=first | omega | exact okT rfl | simp only [push_cast]) only [push_cast,↓QG,↓reduceIte,Nat.reduceAdd,Nat.reduceMul,Nat.reduceSub,Nat.reduceEqDiff,Nat.reduceBEq,Nat.reduceBNe,Nat.reduceLT,Nat.reduceLeDiff,reduceCtorEq,Op.operands,QA,QB,Nat.sub_zero,X1,X2]):p:=e▸h
theorem zC2 (e:p:=by (simp (maxSteps:=400000) (disch:=first | omega | exact okT rfl | simp only [push_cast]) only [push_cast,↓QG,↓reduceIte,Nat.reduceAdd,Nat.reduceMul,Nat.reduceSub,Nat.reduceEqDiff,Nat.reduceBEq,Nat.reduceBNe,Nat.reduceLT,Nat.reduceLeDiff,reduceCtorEq,Op.operands,QA,QB,Nat.sub_zero,X1,X2]<;>fail)):p:=e
theorem zS3 (h:q) (e:p=q:=by conv=>lhs;simp (maxSteps:=400000) (disch:=first | omega | exact okT rfl | simp only [push_cast]) only [push_cast,↓QG,↓reduceIte,Nat.reduceAdd,Nat.reduceMul,Nat.reduceSub,Nat.reduceEqDiff,Nat.reduceBEq,Nat.reduceBNe,Nat.reduceLT,Nat.reduceLeDiff,reduceCtorEq,Op.operands,QA,QB,Nat.sub_zero,X1,X2,X3]):p:=e▸h
theorem zC3 (e:p:=by (simp (maxSteps:=400000) (disch:=first | omega | exact okT rfl | simp only [push_cast]) only [push_cast,↓QG,↓reduceIte,Nat.reduceAdd,Nat.reduceMul,Nat.reduceSub,Nat.reduceEqDiff,Nat.reduceBEq,Nat.reduceBNe,Nat.reduceLT,Nat.reduceLeDiff,reduceCtorEq,Op.operands,QA,QB,Nat.sub_zero,X1,X2,X3]<;>fail)):p:=e
theorem zS4 (h:q) (e:p=q:=by conv=>lhs;simp (maxSteps:=400000) (disch:=first | omega | exact okT rfl | simp only [push_cast]) only [push_cast,↓QG,↓reduceIte,Nat.reduceAdd,Nat.reduceMul,Nat.reduceSub,Nat.reduceEqDiff,Nat.reduceBEq,Nat.reduceBNe,Nat.reduceLT,Nat.reduceLeDiff,reduceCtorEq,Op.operands,QA,QB,Nat.sub_zero,X1,X2,X3,X4]):p:=e▸h
theorem zC4 (e:p:=by (simp (maxSteps:=400000) (disch:=first | omega | exact okT rfl | simp only [push_cast]) only [push_cast,↓QG,↓reduceIte,Nat.reduceAdd,Nat.reduceMul,Nat.reduceSub,Nat.reduceEqDiff,Nat.reduceBEq,Nat.reduceBNe,Nat.reduceLT,Nat.reduceLeDiff,reduceCtorEq,Op.operands,QA,QB,Nat.sub_zero,X1,X2,X3,X4]<;>fail)):p:=e
theorem zS5 (h:q) (e:p=q:=by conv=>lhs;simp (maxSteps:=400000) (disch:=first | omega | exact okT rfl | simp only [push_cast]) only [push_cast,↓QG,↓reduceIte,Nat.reduceAdd,Nat.reduceMul,Nat.reduceSub,Nat.reduceEqDiff,Nat.reduceBEq,Nat.reduceBNe,Nat.reduceLT,Nat.reduceLeDiff,reduceCtorEq,Op.operands,QA,QB,Nat.sub_zero,X1,X2,X3,X4,X5]):p:=e▸h
theorem zC5 (e:p:=by (simp (maxSteps:=400000) (disch:=first | omega | exact okT rfl | simp only [push_cast]) only [push_cast,↓QG,↓reduceIte,Nat.reduceAdd,Nat.reduceMul,Nat.reduceSub,Nat.reduceEqDiff,Nat.reduceBEq,Nat.reduceBNe,Nat.reduceLT,Nat.reduceLeDiff,reduceCtorEq,Op.operands,QA,QB,Nat.sub_zero,X1,X2,X3,X4,X5]<;>fail)):p:=e
theorem zS6 (h:q) (e:p=q:=by conv=>lhs;simp (maxSteps:=400000) (disch:=first | omega | exact okT rfl | simp only [push_cast]) only [push_cast,↓QG,↓reduceIte,Nat.reduceAdd,Nat.reduceMul,Nat.reduceSub,Nat.reduceEqDiff,Nat.reduceBEq,Nat.reduceBNe,Nat.reduceLT,Nat.reduceLeDiff,reduceCtorEq,Op.operands,QA,QB,Nat.sub_zero,X1,X2,X3,X4,X5,X6]):p:=e▸h
theorem zC6 (e:p:=by (simp (maxSteps:=400000) (disch:=first | omega | exact okT rfl | simp only [push_cast]) only [push_cast,↓QG,↓reduceIte,Nat.reduceAdd,Nat.reduceMul,Nat.reduceSub,Nat.reduceEqDiff,Nat.reduceBEq,Nat.reduceBNe,Nat.reduceLT,Nat.reduceLeDiff,reduceCtorEq,Op.operands,QA,QB,Nat.sub_zero,X1,X2,X3,X4,X5,X6]<;>fail)):p:=e
theorem zS7 (h:q) (e:p=q:=by conv=>lhs;simp (maxSteps:=400000) (disch:=first | omega | exact okT rfl | simp only [push_cast]) only [push_cast,↓QG,↓reduceIte,Nat.reduceAdd,Nat.reduceMul,Nat.reduceSub,Nat.reduceEqDiff,Nat.reduceBEq,Nat.reduceBNe,Nat.reduceLT,Nat.reduceLeDiff,reduceCtorEq,Op.operands,QA,QB,Nat.sub_zero,X1,X2,X3,X4,X5,X6,X7]):p:=e▸h
theorem zC7 (e:p:=by (simp (maxSteps:=400000) (disch:=first | omega | exact okT rfl | simp only [push_cast]) only [push_cast,↓QG,↓reduceIte,Nat.reduceAdd,Nat.reduceMul,Nat.reduceSub,Nat.reduceEqDiff,Nat.reduceBEq,Nat.reduceBNe,Nat.reduceLT,Nat.reduceLeDiff,reduceCtorEq,Op.operands,QA,QB,Nat.sub_zero,X1,X2,X3,X4,X5,X6,X7]<;>fail)):p:=e
theorem zS8 (h:q) (e:p=q:=by conv=>lhs;simp (maxSteps:=400000) (disch:=first | omega | exact okT rfl | simp only [push_cast]) only [push_cast,↓QG,↓reduceIte,Nat.reduceAdd,Nat.reduceMul,Nat.reduceSub,Nat.reduceEqDiff,Nat.reduceBEq,Nat.reduceBNe,Nat.reduceLT,Nat.reduceLeDiff,reduceCtorEq,Op.operands,QA,QB,Nat.sub_zero,X1,X2,X3,X4,X5,X6,X7,X8]):p:=e▸h
theorem zS9 (h:q) (e:p=q:=by conv=>lhs;simp (maxSteps:=400000) (disch:=first | omega | exact okT rfl | simp only [push_cast]) only [push_cast,↓QG,↓reduceIte,Nat.reduceAdd,Nat.reduceMul,Nat.reduceSub,Nat.reduceEqDiff,Nat.reduceBEq,Nat.reduceBNe,Nat.reduceLT,Nat.reduceLeDiff,reduceCtorEq,Op.operands,QA,QB,Nat.sub_zero,X1,X2,X3,X4,X5,X6,X7,X8,X9]):p:=e▸h
theorem zC9 (e:p:=by (simp (maxSteps:=400000) (disch:=first | omega | exact okT rfl | simp only [push_cast]) only [push_cast,↓QG,↓reduceIte,Nat.reduceAdd,Nat.reduceMul,Nat.reduceSub,Nat.reduceEqDiff,Nat.reduceBEq,Nat.reduceBNe,Nat.reduceLT,Nat.reduceLeDiff,reduceCtorEq,Op.operands,QA,QB,Nat.sub_zero,X1,X2,X3,X4,X5,X6,X7,X8,X9]<;>fail)):p:=e
theorem zCN (e:p:=by (simp (maxSteps:=400000) (disch:=first | omega | exact okT rfl | simp only [push_cast]) only [push_cast,↓QG,↓reduceIte,Nat.reduceAdd,Nat.reduceMul,Nat.reduceSub,Nat.reduceEqDiff,Nat.reduceBEq,Nat.reduceBNe,Nat.reduceLT,Nat.reduceLeDiff,reduceCtorEq,Op.operands,QA,QB,Nat.sub_zero,QJ]<;>fail)):p:=e
theorem zCN1 (e:p:=by (simp (maxSteps:=400000) (disch:=first | omega | exact okT rfl | simp only [push_cast]) only [push_cast,↓QG,↓reduceIte,Nat.reduceAdd,Nat.reduceMul,Nat.reduceSub,Nat.reduceEqDiff,Nat.reduceBEq,Nat.reduceBNe,Nat.reduceLT,Nat.reduceLeDiff,reduceCtorEq,Op.operands,QA,QB,Nat.sub_zero,QJ,X1]<;>fail)):p:=e
theorem zSN2 (h:q) (e:p=q:=by conv=>lhs;simp (maxSteps:=400000) (disch:=first | omega | exact okT rfl | simp only [push_cast]) only [push_cast,↓QG,↓reduceIte,Nat.reduceAdd,Nat.reduceMul,Nat.reduceSub,Nat.reduceEqDiff,Nat.reduceBEq,Nat.reduceBNe,Nat.reduceLT,Nat.reduceLeDiff,reduceCtorEq,Op.operands,QA,QB,Nat.sub_zero,QJ,X1,X2]):p:=e▸h
theorem zCN2 (e:p:=by (simp (maxSteps:=400000) (disch:=first | omega | exact okT rfl | simp only [push_cast]) only [push_cast,↓QG,↓reduceIte,Nat.reduceAdd,Nat.reduceMul,Nat.reduceSub,Nat.reduceEqDiff,Nat.reduceBEq,Nat.reduceBNe,Nat.reduceLT,Nat.reduceLeDiff,reduceCtorEq,Op.operands,QA,QB,Nat.sub_zero,QJ,X1,X2]<;>fail)):p:=e
theorem zCN3 (e:p:=by (simp (maxSteps:=400000) (disch:=first | omega | exact okT rfl | simp only [push_cast]) only [push_cast,↓QG,↓reduceIte,Nat.reduceAdd,Nat.reduceMul,Nat.reduceSub,Nat.reduceEqDiff,Nat.reduceBEq,Nat.reduceBNe,Nat.reduceLT,Nat.reduceLeDiff,reduceCtorEq,Op.operands,QA,QB,Nat.sub_zero,QJ,X1,X2,X3]<;>fail)):p:=e
theorem fzNM (n0:Nat) (keep:List (Nat×Nat)) (dl:List Nat) {env env':List (Nat×AV)} {objs objs':List (Nat×AObj)} {next base wid next':Nat} (hE:GzE keep (lk (Qc keep objs)) env env') (hO:GzO keep dl (lk (Qc keep objs)) objs objs') (hk:kInj keep=true:=by rfl) (hn:(keep.all fun p=>decide (p.1<next'))=true:=by rfl) (hn':(objs'.all fun p=>decide (p.1<next'))=true:=by rfl) (h0:n0≤next':=by decide) (hid:(keep.all fun p=>decide (n0≤p.1)||p.1==p.2)=true:=by rfl) (hob0:(objs'.all fun p=>decide (n0≤p.1)||(lk keep p.1).isSome)=true:=by rfl):Ent n0 ⟨env,⟨objs,next,base,wid⟩⟩ ⟨env',⟨objs',next',next',0⟩⟩:=Ent.freezeN n0 keep dl hE hO hk hn hn' h0 hid hob0
theorem fzN (n0:Nat) (keep:List (Nat×Nat)) (dl:List Nat) {env env':List (Nat×AV)} {objs objs':List (Nat×AObj)} {next base wid next':Nat} (hE:GzE keep (lk (Qc keep objs)) env env':=by simp (maxSteps:=400000) (disch:=first | omega | exact okT rfl | simp only [push_cast]) only [push_cast,↓QG,↓reduceIte,Nat.reduceAdd,Nat.reduceMul,Nat.reduceSub,Nat.reduceEqDiff,Nat.reduceBEq,Nat.reduceBNe,Nat.reduceLT,Nat.reduceLeDiff,reduceCtorEq,Op.operands,QA,QB,Nat.sub_zero]) (hO:GzO keep dl (lk (Qc keep objs)) objs objs':=by simp (maxSteps:=400000) (disch:=first | omega | exact okT rfl | simp only [push_cast]) only [push_cast,↓QG,↓reduceIte,Nat.reduceAdd,Nat.reduceMul,Nat.reduceSub,Nat.reduceEqDiff,Nat.reduceBEq,Nat.reduceBNe,Nat.reduceLT,Nat.reduceLeDiff,reduceCtorEq,Op.operands,QA,QB,Nat.sub_zero]) (hk:kInj keep=true:=by rfl) (hn:(keep.all fun p=>decide (p.1<next'))=true:=by rfl) (hn':(objs'.all fun p=>decide (p.1<next'))=true:=by rfl) (h0:n0≤next':=by decide) (hid:(keep.all fun p=>decide (n0≤p.1)||p.1==p.2)=true:=by rfl) (hob0:(objs'.all fun p=>decide (n0≤p.1)||(lk keep p.1).isSome)=true:=by rfl):Ent n0 ⟨env,⟨objs,next,base,wid⟩⟩ ⟨env',⟨objs',next',next',0⟩⟩:=Ent.freezeN n0 keep dl hE hO hk hn hn' h0 hid hob0
theorem fzN1 (n0:Nat) (keep:List (Nat×Nat)) (dl:List Nat) {env env':List (Nat×AV)} {objs objs':List (Nat×AObj)} {next base wid next':Nat} (hE:GzE keep (lk (Qc keep objs)) env env':=by simp (maxSteps:=400000) (disch:=first | omega | exact okT rfl | simp only [push_cast]) only [push_cast,↓QG,↓reduceIte,Nat.reduceAdd,Nat.reduceMul,Nat.reduceSub,Nat.reduceEqDiff,Nat.reduceBEq,Nat.reduceBNe,Nat.reduceLT,Nat.reduceLeDiff,reduceCtorEq,Op.operands,QA,QB,Nat.sub_zero,X1]) (hO:GzO keep dl (lk (Qc keep objs)) objs objs':=by simp (maxSteps:=400000) (disch:=first | omega | exact okT rfl | simp only [push_cast]) only [push_cast,↓QG,↓reduceIte,Nat.reduceAdd,Nat.reduceMul,Nat.reduceSub,Nat.reduceEqDiff,Nat.reduceBEq,Nat.reduceBNe,Nat.reduceLT,Nat.reduceLeDiff,reduceCtorEq,Op.operands,QA,QB,Nat.sub_zero,X1]) (hk:kInj keep=true:=by rfl) (hn:(keep.all fun p=>decide (p.1<next'))=true:=by rfl) (hn':(objs'.all fun p=>decide (p.1<next'))=true:=by rfl) (h0:n0≤next':=by decide) (hid:(keep.all fun p=>decide (n0≤p.1)||p.1==p.2)=true:=by rfl) (hob0:(objs'.all fun p=>decide (n0≤p.1)||(lk keep p.1).isSome)=true:=by rfl):Ent n0 ⟨env,⟨objs,next,base,wid⟩⟩ ⟨env',⟨objs',next',next',0⟩⟩:=Ent.freezeN n0 keep dl hE hO hk hn hn' h0 hid hob0
theorem fzN2 (n0:Nat) (keep:List (Nat×Nat)) (dl:List Nat) {env env':List (Nat×AV)} {objs objs':List (Nat×AObj)} {next base wid next':Nat} (hE:GzE keep (lk (Qc keep objs)) env env':=by simp (maxSteps:=400000) (disch:=first | omega | exact okT rfl | simp only [push_cast]) only [push_cast,↓QG,↓reduceIte,Nat.reduceAdd,Nat.reduceMul,Nat.reduceSub,Nat.reduceEqDiff,Nat.reduceBEq,Nat.reduceBNe,Nat.reduceLT,Nat.reduceLeDiff,reduceCtorEq,Op.operands,QA,QB,Nat.sub_zero,X1,X2]) (hO:GzO keep dl (lk (Qc keep objs)) objs objs':=by simp (maxSteps:=400000) (disch:=first | omega | exact okT rfl | simp only [push_cast]) only [push_cast,↓QG,↓reduceIte,Nat.reduceAdd,Nat.reduceMul,Nat.reduceSub,Nat.reduceEqDiff,Nat.reduceBEq,Nat.reduceBNe,Nat.reduceLT,Nat.reduceLeDiff,reduceCtorEq,Op.operands,QA,QB,Nat.sub_zero,X1,X2]) (hk:kInj keep=true:=by rfl) (hn:(keep.all fun p=>decide (p.1<next'))=true:=by rfl) (hn':(objs'.all fun p=>decide (p.1<next'))=true:=by rfl) (h0:n0≤next':=by decide) (hid:(keep.all fun p=>decide (n0≤p.1)||p.1==p.2)=true:=by rfl) (hob0:(objs'.all fun p=>decide (n0≤p.1)||(lk keep p.1).isSome)=true:=by rfl):Ent n0 ⟨env,⟨objs,next,base,wid⟩⟩ ⟨env',⟨objs',next',next',0⟩⟩:=Ent.freezeN n0 keep dl hE hO hk hn hn' h0 hid hob0
theorem fzN3 (n0:Nat) (keep:List (Nat×Nat)) (dl:List Nat) {env env':List (Nat×AV)} {objs objs':List (Nat×AObj)} {next base wid next':Nat} (hE:GzE keep (lk (Qc keep objs)) env env':=by simp (maxSteps:=400000) (disch:=first | omega | exact okT rfl | simp only [push_cast]) only [push_cast,↓QG,↓reduceIte,Nat.reduceAdd,Nat.reduceMul,Nat.reduceSub,Nat.reduceEqDiff,Nat.reduceBEq,Nat.reduceBNe,Nat.reduceLT,Nat.reduceLeDiff,reduceCtorEq,Op.operands,QA,QB,Nat.sub_zero,X1,X2,X3]) (hO:GzO keep dl (lk (Qc keep objs)) objs objs':=by simp (maxSteps:=400000) (disch:=first | omega | exact okT rfl | simp only [push_cast]) only [push_cast,↓QG,↓reduceIte,Nat.reduceAdd,Nat.reduceMul,Nat.reduceSub,Nat.reduceEqDiff,Nat.reduceBEq,Nat.reduceBNe,Nat.reduceLT,Nat.reduceLeDiff,reduceCtorEq,Op.operands,QA,QB,Nat.sub_zero,X1,X2,X3]) (hk:kInj keep=true:=by rfl) (hn:(keep.all fun p=>decide (p.1<next'))=true:=by rfl) (hn':(objs'.all fun p=>decide (p.1<next'))=true:=by rfl) (h0:n0≤next':=by decide) (hid:(keep.all fun p=>decide (n0≤p.1)||p.1==p.2)=true:=by rfl) (hob0:(objs'.all fun p=>decide (n0≤p.1)||(lk keep p.1).isSome)=true:=by rfl):Ent n0 ⟨env,⟨objs,next,base,wid⟩⟩ ⟨env',⟨objs',next',next',0⟩⟩:=Ent.freezeN n0 keep dl hE hO hk hn hn' h0 hid hob0
theorem fzN4 (n0:Nat) (keep:List (Nat×Nat)) (dl:List Nat) {env env':List (Nat×AV)} {objs objs':List (Nat×AObj)} {next base wid next':Nat} (hE:GzE keep (lk (Qc keep objs)) env env':=by simp (maxSteps:=400000) (disch:=first | omega | exact okT rfl | simp only [push_cast]) only [push_cast,↓QG,↓reduceIte,Nat.reduceAdd,Nat.reduceMul,Nat.reduceSub,Nat.reduceEqDiff,Nat.reduceBEq,Nat.reduceBNe,Nat.reduceLT,Nat.reduceLeDiff,reduceCtorEq,Op.operands,QA,QB,Nat.sub_zero,X1,X2,X3,X4]) (hO:GzO keep dl (lk (Qc keep objs)) objs objs':=by simp (maxSteps:=400000) (disch:=first | omega | exact okT rfl | simp only [push_cast]) only [push_cast,↓QG,↓reduceIte,Nat.reduceAdd,Nat.reduceMul,Nat.reduceSub,Nat.reduceEqDiff,Nat.reduceBEq,Nat.reduceBNe,Nat.reduceLT,Nat.reduceLeDiff,reduceCtorEq,Op.operands,QA,QB,Nat.sub_zero,X1,X2,X3,X4]) (hk:kInj keep=true:=by rfl) (hn:(keep.all fun p=>decide (p.1<next'))=true:=by rfl) (hn':(objs'.all fun p=>decide (p.1<next'))=true:=by rfl) (h0:n0≤next':=by decide) (hid:(keep.all fun p=>decide (n0≤p.1)||p.1==p.2)=true:=by rfl) (hob0:(objs'.all fun p=>decide (n0≤p.1)||(lk keep p.1).isSome)=true:=by rfl):Ent n0 ⟨env,⟨objs,next,base,wid⟩⟩ ⟨env',⟨objs',next',next',0⟩⟩:=Ent.freezeN n0 keep dl hE hO hk hn hn' h0 hid hob0
theorem fzN5 (n0:Nat) (keep:List (Nat×Nat)) (dl:List Nat) {env env':List (Nat×AV)} {objs objs':List (Nat×AObj)} {next base wid next':Nat} (hE:GzE keep (lk (Qc keep objs)) env env':=by simp (maxSteps:=400000) (disch:=first | omega | exact okT rfl | simp only [push_cast]) only [push_cast,↓QG,↓reduceIte,Nat.reduceAdd,Nat.reduceMul,Nat.reduceSub,Nat.reduceEqDiff,Nat.reduceBEq,Nat.reduceBNe,Nat.reduceLT,Nat.reduceLeDiff,reduceCtorEq,Op.operands,QA,QB,Nat.sub_zero,X1,X2,X3,X4,X5]) (hO:GzO keep dl (lk (Qc keep objs)) objs objs':=by simp (maxSteps:=400000) (disch:=first | omega | exact okT rfl | simp only [push_cast]) only [push_cast,↓QG,↓reduceIte,Nat.reduceAdd,Nat.reduceMul,Nat.reduceSub,Nat.reduceEqDiff,Nat.reduceBEq,Nat.reduceBNe,Nat.reduceLT,Nat.reduceLeDiff,reduceCtorEq,Op.operands,QA,QB,Nat.sub_zero,X1,X2,X3,X4,X5]) (hk:kInj keep=true:=by rfl) (hn:(keep.all fun p=>decide (p.1<next'))=true:=by rfl) (hn':(objs'.all fun p=>decide (p.1<next'))=true:=by rfl) (h0:n0≤next':=by decide) (hid:(keep.all fun p=>decide (n0≤p.1)||p.1==p.2)=true:=by rfl) (hob0:(objs'.all fun p=>decide (n0≤p.1)||(lk keep p.1).isSome)=true:=by rfl):Ent n0 ⟨env,⟨objs,next,base,wid⟩⟩ ⟨env',⟨objs',next',next',0⟩⟩:=Ent.freezeN n0 keep dl hE hO hk hn hn' h0 hid hob0
theorem fzIM (n0:Nat) (keep:List (Nat×Nat)) (dl:List Nat) {env env':List (Nat×AV)} {objs objs':List (Nat×AObj)} {next base wid next':Nat} (hE:GzE keep (lk (Qc keep objs)) env env') (hO:GiO keep dl (lk (Qc keep objs)) objs objs') (hk:kInj keep=true:=by rfl) (hn:(keep.all fun p=>decide (p.1<next'))=true:=by rfl) (hn':(objs'.all fun p=>decide (p.1<next'))=true:=by rfl) (h0:n0≤next':=by decide) (hid:(keep.all fun p=>decide (n0≤p.1)||p.1==p.2)=true:=by rfl) (hob0:(objs'.all fun p=>decide (n0≤p.1)||(lk keep p.1).isSome)=true:=by rfl):Ent n0 ⟨env,⟨objs,next,base,wid⟩⟩ ⟨env',⟨objs',next',next',0⟩⟩:=Ent.freezeI n0 keep dl hE hO hk hn hn' h0 hid hob0
theorem fzI2 (n0:Nat) (keep:List (Nat×Nat)) (dl:List Nat) {env env':List (Nat×AV)} {objs objs':List (Nat×AObj)} {next base wid next':Nat} (hE:GzE keep (lk (Qc keep objs)) env env':=by simp (maxSteps:=400000) (disch:=first | omega | exact okT rfl | simp only [push_cast]) only [push_cast,↓QG,↓reduceIte,Nat.reduceAdd,Nat.reduceMul,Nat.reduceSub,Nat.reduceEqDiff,Nat.reduceBEq,Nat.reduceBNe,Nat.reduceLT,Nat.reduceLeDiff,reduceCtorEq,Op.operands,QA,QB,Nat.sub_zero,X1,X2]) (hO:GiO keep dl (lk (Qc keep objs)) objs objs':=by simp (maxSteps:=400000) (disch:=first | omega | exact okT rfl | simp only [push_cast]) only [push_cast,↓QG,↓reduceIte,Nat.reduceAdd,Nat.reduceMul,Nat.reduceSub,Nat.reduceEqDiff,Nat.reduceBEq,Nat.reduceBNe,Nat.reduceLT,Nat.reduceLeDiff,reduceCtorEq,Op.operands,QA,QB,Nat.sub_zero,X1,X2]) (hk:kInj keep=true:=by rfl) (hn:(keep.all fun p=>decide (p.1<next'))=true:=by rfl) (hn':(objs'.all fun p=>decide (p.1<next'))=true:=by rfl) (h0:n0≤next':=by decide) (hid:(keep.all fun p=>decide (n0≤p.1)||p.1==p.2)=true:=by rfl) (hob0:(objs'.all fun p=>decide (n0≤p.1)||(lk keep p.1).isSome)=true:=by rfl):Ent n0 ⟨env,⟨objs,next,base,wid⟩⟩ ⟨env',⟨objs',next',next',0⟩⟩:=Ent.freezeI n0 keep dl hE hO hk hn hn' h0 hid hob0
theorem fzI3 (n0:Nat) (keep:List (Nat×Nat)) (dl:List Nat) {env env':List (Nat×AV)} {objs objs':List (Nat×AObj)} {next base wid next':Nat} (hE:GzE keep (lk (Qc keep objs)) env env':=by simp (maxSteps:=400000) (disch:=first | omega | exact okT rfl | simp only [push_cast]) only [push_cast,↓QG,↓reduceIte,Nat.reduceAdd,Nat.reduceMul,Nat.reduceSub,Nat.reduceEqDiff,Nat.reduceBEq,Nat.reduceBNe,Nat.reduceLT,Nat.reduceLeDiff,reduceCtorEq,Op.operands,QA,QB,Nat.sub_zero,X1,X2,X3]) (hO:GiO keep dl (lk (Qc keep objs)) objs objs':=by simp (maxSteps:=400000) (disch:=first | omega | exact okT rfl | simp only [push_cast]) only [push_cast,↓QG,↓reduceIte,Nat.reduceAdd,Nat.reduceMul,Nat.reduceSub,Nat.reduceEqDiff,Nat.reduceBEq,Nat.reduceBNe,Nat.reduceLT,Nat.reduceLeDiff,reduceCtorEq,Op.operands,QA,QB,Nat.sub_zero,X1,X2,X3]) (hk:kInj keep=true:=by rfl) (hn:(keep.all fun p=>decide (p.1<next'))=true:=by rfl) (hn':(objs'.all fun p=>decide (p.1<next'))=true:=by rfl) (h0:n0≤next':=by decide) (hid:(keep.all fun p=>decide (n0≤p.1)||p.1==p.2)=true:=by rfl) (hob0:(objs'.all fun p=>decide (n0≤p.1)||(lk keep p.1).isSome)=true:=by rfl):Ent n0 ⟨env,⟨objs,next,base,wid⟩⟩ ⟨env',⟨objs',next',next',0⟩⟩:=Ent.freezeI n0 keep dl hE hO hk hn hn' h0 hid hob0
theorem fzI5 (n0:Nat) (keep:List (Nat×Nat)) (dl:List Nat) {env env':List (Nat×AV)} {objs objs':List (Nat×AObj)} {next base wid next':Nat} (hE:GzE keep (lk (Qc keep objs)) env env':=by simp (maxSteps:=400000) (disch:=first | omega | exact okT rfl | simp only [push_cast]) only [push_cast,↓QG,↓reduceIte,Nat.reduceAdd,Nat.reduceMul,Nat.reduceSub,Nat.reduceEqDiff,Nat.reduceBEq,Nat.reduceBNe,Nat.reduceLT,Nat.reduceLeDiff,reduceCtorEq,Op.operands,QA,QB,Nat.sub_zero,X1,X2,X3,X4,X5]) (hO:GiO keep dl (lk (Qc keep objs)) objs objs':=by simp (maxSteps:=400000) (disch:=first | omega | exact okT rfl | simp only [push_cast]) only [push_cast,↓QG,↓reduceIte,Nat.reduceAdd,Nat.reduceMul,Nat.reduceSub,Nat.reduceEqDiff,Nat.reduceBEq,Nat.reduceBNe,Nat.reduceLT,Nat.reduceLeDiff,reduceCtorEq,Op.operands,QA,QB,Nat.sub_zero,X1,X2,X3,X4,X5]) (hk:kInj keep=true:=by rfl) (hn:(keep.all fun p=>decide (p.1<next'))=true:=by rfl) (hn':(objs'.all fun p=>decide (p.1<next'))=true:=by rfl) (h0:n0≤next':=by decide) (hid:(keep.all fun p=>decide (n0≤p.1)||p.1==p.2)=true:=by rfl) (hob0:(objs'.all fun p=>decide (n0≤p.1)||(lk keep p.1).isSome)=true:=by rfl):Ent n0 ⟨env,⟨objs,next,base,wid⟩⟩ ⟨env',⟨objs',next',next',0⟩⟩:=Ent.freezeI n0 keep dl hE hO hk hn hn' h0 hid hob0
end Go.AW
