/- A part of the proof: A12 A13 A14 A15 A16 A17 A18. -/
import Derived.Test.YtpcbnjbpdooejaaGreatDoorPaa
import Derived.Scope
import Derived.RangeFuncRecord
set_option linter.all false
namespace Go.AW
variable {P : Program} {γ : GTab} {S : Nat → Nat → Prop} {μ μ' : Nat → Option (Nat × Nat)} {w w' : World} {m : Mem} {env : List (Nat × AV)} {a : Act}
theorem QIs {t:TypeId} {kt:KT} (h:tkt P t=some kt) {key:Value} (hk:kwf kt key=true) (em:Bool) (q:Nat) (w:World):(Instr.checkKey em (q+2) t key).run P w=.ok () w:=by
 have hs:=QJC h
 cases kt with
 | intK k=>
  obtain⟨n,rfl⟩:=Qo hk
  simp only at hs
  simp [Instr.checkKey,run_underlying hs]
 | strK=>
  simp only at hs
  cases key<;>simp [kwf] at hk
  simp [Instr.checkKey,run_underlying hs]
 | boolK=>
  simp only at hs
  cases key<;>simp [kwf] at hk
  simp [Instr.checkKey,run_underlying hs]
 | arrK n k=>
  obtain⟨e,i,hu,he,hi,hsz⟩:=hs
  cases key<;>try (simp [kwf] at hk;done)
  rename_i xs
  simp only [kwf,Bool.and_eq_true,beq_iff_eq,List.all_eq_true] at hk
  have hszr:∀w:World,(sizeOf e).run P w=.ok 1 w:=fun w=>by simp [sizeOf,QAR hi,hsz]
  have hagg:∀w:World,(isAgg e).run P w=.ok false w:=fun w=>QDt (by simp [tagg,he]) w
  rw [Instr.checkKey]
  simp only [Sem.run_bind,run_underlying hu,Result.andThen_ok]
  simp only [Std.Legacy.Range.forIn_eq_forIn_range',Std.Legacy.Range.size,Nat.sub_zero,Nat.add_one_sub_one,Nat.div_one]
  have key:∀(l:List Nat),(∀j∈l,j<xs.size)→(forIn l PUnit.unit fun i (_:PUnit)=>do
    Instr.checkKey em (q+1) e (← part e xs (i*(← sizeOf e)))
    pure (ForInStep.yield PUnit.unit):Sem PUnit).run P w=.ok PUnit.unit w:=by
   intro l
   induction l with
   | nil=>intro _;rfl
   | cons j l ih=>
    intro hl
    have hj:=hl j (by simp)
    have ej:xs[j]?=some xs[j]:=by simp [hj]
    obtain⟨n',hn'⟩:=Qo (hk.2 xs[j] (by simp))
    have hch:(Instr.checkKey em (q+1) e (.int k n')).run P w=.ok () w:=by simp [Instr.checkKey,run_underlying he]
    simp only [List.forIn_cons,Sem.run_bind,hszr,Result.andThen_ok,part,hagg,Bool.false_eq_true,if_false,Nat.mul_one,ej,Sem.run_pure,hn',hch]
    exact ih (fun j hj=>hl j (by simp [hj]))
  have:=key (List.range' 0 n) (fun j hj=>by rw [List.mem_range'] at hj;omega)
  simp at this ⊢
  rw [this]
  rfl
theorem QAF {t:TypeId} {kt:KT} (h:tkt P t=some kt) {key:Value} (hk:kwf kt key=true) (em:Bool) (w:World):(Instr.checkKey em 10000 t key).run P w=.ok () w:=
 QIs h hk em 9998 w
theorem QKq {key:Value}:∀(es:List MapEntry) (i:Nat) (xs:List AV),RepL S μ w xs (es.map (·.val))→match QDB key es i with
  | none=>mget (es.map (·.key)) xs key=none
  | some (_,v)=>∃x,mget (es.map (·.key)) xs key=some x∧Rep S μ w x v
 | [],i,xs,h=>by simp [QDB,mget]
 | e::es,i,xs,h=>by
  cases xs with
  | nil=>simp [RepL] at h
  | cons x xs=>
   simp only [List.map_cons,RepL] at h
   obtain⟨y,zs,e1,h1,h2⟩:=h
   simp only [List.cons.injEq] at e1
   obtain⟨rfl,rfl⟩:=e1
   simp only [QDB,List.map_cons,mget]
   cases keq key e.key
   ·simpa using QKq es (i+1) xs h2
   ·simpa using h1
theorem QdL {e:TypeId} {z:AV} (h:zAV P e=some z):∃v,zval P e=some v∧Rep S μ w z v:=by
 unfold zAV at h
 split at h
 ·rename_i cs hz
  split at h
  ·rename_i hall
   simp only [Option.some.injEq] at h
   subst h
   refine⟨_,hz,?_⟩
   simp only [Rep]
   exact⟨cs.toList,by simp,RepL.of_vals _,by simpa using List.all_eq_true.1 hall⟩
  ·cases h
 ·rename_i v hne hz
  simp only [Option.some.injEq] at h
  subst h
  exact⟨v,hz,by simp [Rep]⟩
 ·cases h
theorem QSU {t:TypeId} {x k y:AV} {v vk:Value} {ok:Bool} (hr:RM S μ w m) (h:QFI P m.find t x k ok=some y) (hx:Rep S μ w x v) (hk:Rep S μ w k vk):OkV P S μ w m (Instr.lookup t v vk ok) y []:=by
 unfold QFI at h
 split at h
 ·rename_i kT e kt ks xs key htm hmo hkv
  split at h
  ·rename_i kt' hkt
   split at h
   ·rename_i hc
    obtain⟨hkts,hkw⟩:=hc
    split at h
    ·rename_i z hz
     simp only [Option.some.injEq] at h
     have hvk:=QEK hkv hk
     subst hvk
     obtain⟨zv,hz1,hz2⟩:=QdL (S:=S) (μ:=μ) (w:=w) hz
     have hes:∃es:List MapEntry,es.map (·.key)=ks∧RepL S μ w xs (es.map (·.val))∧(∀e∈es,kwf kt' e.key=true)∧
       ((v=.map none∧es=[])∨∃b arr clock,v=.map (some b)∧w.heap[b]?=some (.map arr clock)∧arr.toList=es):=by
      unfold QK4 at hmo
      split at hmo
      ·simp only [Option.some.injEq,Prod.mk.injEq] at hmo
       obtain⟨rfl,rfl,rfl⟩:=hmo
       simp only [Rep] at hx
       exact⟨[],rfl,by simp [RepL],by simp,.inl ⟨hx,rfl⟩⟩
      ·simp only [Option.some.injEq,Prod.mk.injEq] at hmo
       obtain⟨rfl,rfl,rfl⟩:=hmo
       simp only [reduceCtorEq,false_or,Option.some.injEq] at hkts
       subst hkts
       simp only [Rep] at hx
       rcases hx with ⟨h1,rfl,rfl⟩ | ⟨b,es,clock,h1,h2,h3,h4,h5,h6⟩
       ·exact⟨[],rfl,by simp [RepL],by simp,.inl ⟨h1,rfl⟩⟩
       ·exact⟨es.toList,h5,h6,h4.2.2,.inr ⟨b,es,clock,h1,h3,rfl⟩⟩
      ·split at hmo
       ·rename_i o _ kt0 ks0 xs0 hf
        simp only [Option.some.injEq,Prod.mk.injEq] at hmo
        obtain⟨rfl,rfl,rfl⟩:=hmo
        simp only [reduceCtorEq,false_or,Option.some.injEq] at hkts
        subst hkts
        simp only [Rep] at hx
        obtain⟨b,bo,hμ,hv⟩:=hx
        have:=(hr.obj _ _ hf).2
        simp only [RepO] at this
        obtain⟨b',bo',es,clock,h1,h2,h3,h4,h5,h6⟩:=this
        rw [hμ] at h1
        simp only [Option.some.injEq,Prod.mk.injEq] at h1
        obtain⟨rfl,rfl⟩:=h1
        exact⟨es.toList,h4,h5,h3.2.2,.inr ⟨b,es,clock,hv,h2,rfl⟩⟩
       ·cases hmo
      ·cases hmo
     obtain⟨es,h1,h2,h3,h4⟩:=hes
     have hg:=QKq (key:=vk) es 0 xs h2
     rw [h1] at hg
     have hfk:=QG0 hkt hkw w es h3
     have hrun:∃(rv:Value) (rb:Bool),(Instr.lookup t v vk ok).run P w=.ok (if ok then .tuple #[rv,.bool rb] else rv) w∧Rep S μ w ((mget ks xs vk).getD z) rv∧rb=(mget ks xs vk).isSome:=by
      cases hm:QDB vk es 0 with
      | none=>
       rw [hm] at hg
       simp only at hg
       refine⟨zv,false,?_,by rw [hg];exact hz2,by rw [hg];rfl⟩
       rcases h4 with ⟨rfl,rfl⟩ | ⟨b,arr,clock,rfl,hb,rfl⟩
       ·rw [hm] at hfk
        simp only [Instr.lookup,Sem.run_bind,run_underlying (QAw htm),Result.andThen_ok,Sem.run_pure,QAF hkt hkw,hfk,QBt hz1]
       ·rw [hm] at hfk
        simp only [Instr.lookup,Sem.run_bind,run_underlying (QAw htm),Result.andThen_ok,QAW hb,Sem.run_pure,QAF hkt hkw,hfk,QBt hz1]
      | some p=>
       obtain⟨i,v'⟩:=p
       rw [hm] at hg
       simp only at hg
       obtain⟨x',hx1,hx2⟩:=hg
       refine⟨v',true,?_,by rw [hx1];exact hx2,by rw [hx1];rfl⟩
       rcases h4 with ⟨rfl,rfl⟩ | ⟨b,arr,clock,rfl,hb,rfl⟩
       ·rw [hm] at hfk
        simp only [Instr.lookup,Sem.run_bind,run_underlying (QAw htm),Result.andThen_ok,Sem.run_pure,QAF hkt hkw,hfk]
       ·rw [hm] at hfk
        simp only [Instr.lookup,Sem.run_bind,run_underlying (QAw htm),Result.andThen_ok,QAW hb,Sem.run_pure,QAF hkt hkw,hfk]
     obtain⟨rv,rb,hrun,hr1,hr2⟩:=hrun
     refine OkV.same hr hrun ?_
     rw [←h]
     cases ok
     ·simpa using hr1
     ·simp only [if_true,Rep,RepL]
      exact⟨[rv,.bool rb],rfl,rv,_,rfl,hr1,.bool rb,[],rfl,by rw [hr2],rfl⟩
    ·cases h
   ·cases h
  ·cases h
 ·cases h
variable {P : Program} {γ : GTab} {S : Nat → Nat → Prop} {μ μ' : Nat → Option (Nat × Nat)} {w w' : World} {m : Mem} {env : List (Nat × AV)} {a : Act}
theorem ieq_eq {k k':IntKind} {x y:Value} (hx:QC6 k x=true) (hy:QC6 k' y=true) (h:ieq x y=true):x=y:=by
 obtain⟨n,rfl⟩:=Qo hx
 obtain⟨n',rfl⟩:=Qo hy
 simp [ieq] at h
 rw [h.1,h.2]
theorem QVS {k:IntKind}:∀(xs ys:List Value),xs.length=ys.length→(∀v∈xs,QC6 k v=true)→(∀v∈ys,QC6 k v=true)→(xs.zip ys).all (fun p=>ieq p.1 p.2)=true→xs=ys
 | [],[],_,_,_,_=>rfl
 | x::xs,y::ys,hl,hx,hy,h=>by
  simp only [List.zip_cons_cons,List.all_cons,Bool.and_eq_true] at h
  rw [ieq_eq (hx x (by simp)) (hy y (by simp)) h.1,QVS xs ys (by simpa using hl) (fun v hv=>hx v (by simp [hv])) (fun v hv=>hy v (by simp [hv])) h.2]
 | [],_::_,hl,_,_,_=>by simp at hl
 | _::_,[],hl,_,_,_=>by simp at hl
theorem keq_eq {kt:KT} {x y:Value} (hx:kwf kt x=true) (hy:kwf kt y=true) (h:keq x y=true):x=y:=by
 cases kt with
 | intK k=>
  obtain⟨n,rfl⟩:=Qo hx
  obtain⟨n',rfl⟩:=Qo hy
  simp [keq] at h;rw [h]
 | strK=>
  cases x<;>simp [kwf] at hx
  cases y<;>simp [kwf] at hy
  rename_i a b
  simp only [keq] at h
  rw [←QLX] at h
  have h0:(a==b)=(a.data==b.data):=by cases a;cases b;rfl
  rw [h0] at h
  have:a.data=b.data:=by simpa using h
  cases a;cases b;simp at this;rw [this]
 | boolK=>
  cases x<;>simp [kwf] at hx
  cases y<;>simp [kwf] at hy
  simp [keq] at h;rw [h]
 | arrK n k=>
  cases x<;>try (simp [kwf] at hx;done)
  cases y<;>try (simp [kwf] at hy;done)
  rename_i xs ys
  simp only [kwf,Bool.and_eq_true,beq_iff_eq,List.all_eq_true] at hx hy
  simp only [keq,Bool.and_eq_true,beq_iff_eq] at h
  have:=QVS (k:=k) xs.toList ys.toList (by simpa using h.1) hx.2 hy.2 h.2
  rw [Array.ext' this]
theorem QI9 {kt:KT} {x:Value} (hx:kwf kt x=true) (n:Nat):Instr.sameBits (n+2) x x=true:=by
 cases kt with
 | intK k=>obtain⟨q,rfl⟩:=Qo hx;simp [Instr.sameBits]
 | strK=>
  cases x<;>simp [kwf] at hx
  rename_i a
  have h0:(a==a)=(a.data==a.data):=by cases a;rfl
  simp [Instr.sameBits,h0]
 | boolK=>cases x<;>simp [kwf] at hx;simp [Instr.sameBits]
 | arrK q k=>
  cases x<;>try (simp [kwf] at hx;done)
  rename_i xs
  simp only [kwf,Bool.and_eq_true,beq_iff_eq,List.all_eq_true] at hx
  rw [Instr.sameBits]
  simp only [BEq.rfl,Bool.true_and,List.all_eq_true]
  intro p hp
  have hd:p.1=p.2∧p.1∈xs.toList:=by
   obtain⟨i,hi,hp'⟩:=List.getElem_of_mem hp
   rw [List.getElem_zip] at hp'
   subst hp'
   exact⟨rfl,List.getElem_mem _⟩
  obtain⟨n',hn'⟩:=Qo (hx.2 p.1 hd.2)
  rw [←hd.1,hn']
  simp [Instr.sameBits]
theorem QFP {key:Value}:∀(es:List MapEntry) (i:Nat),match QDB key es i with
  | none=>mhas (es.map (·.key)) key=false
  | some (j,_)=>i≤j∧∃e,es[j - i]?=some e∧keq key e.key=true∧mhas (es.map (·.key)) key=true∧(∀q<j - i,∀e',es[q]?=some e'→keq key e'.key=false)
 | [],i=>by simp [QDB,mhas]
 | e::es,i=>by
  simp only [QDB,List.map_cons,mhas]
  cases hk:keq key e.key
  ·have:=QFP (key:=key) es (i+1)
   simp only [Bool.false_eq_true,if_false,Bool.false_or]
   cases hm:QDB key es (i+1) with
   | none=>rw [hm] at this;simpa using this
   | some p=>
    obtain⟨j,v⟩:=p
    rw [hm] at this
    simp only at this ⊢
    obtain⟨h1,e',h2,h3,h4,h5⟩:=this
    refine⟨by omega,e',?_,h3,h4,fun q hq e'' hq'=>?_⟩
    ·rw [show j - i=(j - (i+1))+1 by omega];simpa using h2
    ·cases q with
     | zero=>simp at hq';subst hq';exact hk
     | succ q=>simp at hq';exact h5 q (by omega) e'' hq'
  ·simp only [if_true,Bool.true_or]
   exact⟨Nat.le_refl _,e,by simp,hk,trivial,fun q hq=>by omega⟩
theorem QOE {key:Value} {x:AV}:∀(es:List MapEntry) (xs:List AV) (j:Nat) (e:MapEntry),es[j]?=some e→keq key e.key=true→(∀q<j,∀e',es[q]?=some e'→keq key e'.key=false)→xs.length=es.length→mset (es.map (·.key)) xs key x=xs.set j x
 | [],xs,j,e,h,_,_,_=>by simp at h
 | e0::es,[],j,e,h,_,_,hl=>by simp at hl
 | e0::es,x0::xs,0,e,h,hk,_,hl=>by
  simp at h;subst h
  simp [mset,hk]
 | e0::es,x0::xs,j+1,e,h,hk,hn,hl=>by
  have h0:=hn 0 (by omega) e0 (by simp)
  simp only [List.map_cons,mset,h0,Bool.false_eq_true,if_false,List.set_cons_succ]
  rw [QOE es xs j e (by simpa using h) hk (fun q hq e' he'=>hn (q+1) (by omega) e' (by simpa using he')) (by simpa using hl)]
theorem QOf {key:Value} {x:AV}:∀(ks:List Value) (xs:List AV),mhas ks key=false→xs.length=ks.length→mset ks xs key x=xs++[x]
 | [],[],_,_=>rfl
 | [],_::_,_,h=>by simp at h
 | k::ks,[],_,h=>by simp at h
 | k::ks,y::xs,h,hl=>by
  simp only [mhas,Bool.or_eq_false_iff] at h
  simp only [mset,h.1,Bool.false_eq_true,if_false,List.cons_append]
  rw [QOf ks xs h.2 (by simpa using hl)]
theorem After.setMap (hr:RM S μ w m) {o b bo:Nat} {kt:KT} {ks:List Value} {xs:List AV} {es:Array MapEntry} {clock:Nat} (hf:m.find o=some (.map kt ks xs)) (hμ:μ o=some (b,bo)) (hb:w.heap[b]?=some (.map es clock)) (hS:∀off,¬S b off)
  {ks':List Value} {xs':List AV} {es':Array MapEntry} {clock':Nat} (hok:QKb kt es' clock') (hk:es'.toList.map (·.key)=ks') (hx:RepL S μ w xs' (es'.toList.map (·.val))):
  After S μ w m [(o,.map kt ks' xs')] μ { w with heap:=w.heap.setIfInBounds b (.map es' clock') }:=by
 have hlt:b<w.heap.size:=(Array.getElem?_eq_some_iff.1 hb).1
 refine After.set hr hf rfl rfl hμ (fun k hk=>?_) (by simp) ?_ rfl ⟨rfl,Nat.le_refl _⟩ rfl (fun hkp=>?_) hS (fun _=>QIo (o:=.map es' clock') (by simp [hlt]) trivial)
 ·simp [Ne.symm hk]
 ·simp [Qw,hlt,hb]
  rw [(Array.getElem?_eq_some_iff.1 hb).2]
 ·simp only [RepO]
  exact⟨b,bo,es',clock',hμ,by simp [hlt],hok,hk,RepL.keep hkp _ _ hx,hS⟩
theorem QI5 {o:Nat} {kt:KT} {ks:List Value} {xs:List AV} {v:Value} (hr:RM S μ w m) (hf:m.find o=some (.map kt ks xs)) (hx:Rep S μ w (.mp o) v):
  ∃b bo es clock,v=.map (some b)∧μ o=some (b,bo)∧w.heap[b]?=some (.map es clock)∧QKb kt es clock∧es.toList.map (·.key)=ks∧RepL S μ w xs (es.toList.map (·.val))∧∀off,¬S b off:=by
 simp only [Rep] at hx
 obtain⟨b,bo,hμ,hv⟩:=hx
 have:=(hr.obj _ _ hf).2
 simp only [RepO] at this
 obtain⟨b',bo',es,clock,h1,h2,h3,h4,h5,h6⟩:=this
 rw [hμ] at h1
 simp only [Option.some.injEq,Prod.mk.injEq] at h1
 obtain⟨rfl,rfl⟩:=h1
 exact⟨b,bo,es,clock,hv,hμ,h2,h3,h4,h5,h6⟩
theorem QRt {t:TypeId} {x k y:AV} {v vk vy:Value} {u:Upd} (hr:RM S μ w m) (h:QEB P m.find t x k y=some u) (hx:Rep S μ w x v) (hk:Rep S μ w k vk) (hy:Rep S μ w y vy):OkU P S μ w m (Instr.mapUpdate t v vk vy) u:=by
 unfold QEB at h
 split at h
 ·rename_i o kT eT key htm hkv
  split at h
  ·rename_i kt ks xs hf
   split at h
   ·rename_i hc
    obtain⟨hkt,hkw⟩:=hc
    simp only [Option.some.injEq] at h
    subst h
    have hvk:=QEK hkv hk
    subst hvk
    obtain⟨b,bo,es,clock,rfl,hμ,hb,hok,hks,hxs,hS⟩:=QI5 hr hf hx
    have hfk:=QG0 hkt hkw w es.toList hok.2.2
    have hms:=QFP (key:=vk) es.toList 0
    have hxl:=hxs.length
    cases hm:QDB vk es.toList 0 with
    | none=>
     rw [hm] at hms hfk
     simp only [hks] at hms
     refine⟨{ w with heap:=w.heap.setIfInBounds b (.map (es.push { key:=vk,val:=vy,born:=clock }) (clock+1)) },μ,?_,?_⟩
     ·simp only [Instr.mapUpdate,Sem.run_bind,run_underlying (QAw htm),Result.andThen_ok,QAW hb,QAF hkt hkw,hfk,QDi _ hb]
     ·rw [hms]
      rw [QOf ks xs hms (by rw [←hks];simpa using hxl.symm)]
      refine After.setMap hr hf hμ hb hS ?_ (by simp [hks]) ?_
      ·refine⟨?_,?_,?_⟩
       ·simp only [Array.toList_push,List.map_append,List.map_cons,List.map_nil,List.nodup_append]
        refine⟨hok.1,by simp,fun p hp q hq=>?_⟩
        simp at hq;subst hq
        obtain⟨e,he,rfl⟩:=List.mem_map.1 hp
        have:=hok.2.1 e he
        simp;omega
       ·intro e he
        simp only [Array.toList_push,List.mem_append,List.mem_singleton] at he
        rcases he with he | rfl
        ·have:=hok.2.1 e he;omega
        ·simp
       ·intro e he
        simp only [Array.toList_push,List.mem_append,List.mem_singleton] at he
        rcases he with he | rfl
        ·exact hok.2.2 e he
        ·exact hkw
      ·simp only [Array.toList_push,List.map_append,List.map_cons,List.map_nil]
       exact hxs.append (by simp only [RepL];exact⟨vy,[],rfl,hy,rfl⟩)
    | some p=>
     obtain⟨j,v'⟩:=p
     rw [hm] at hms hfk
     simp only [Nat.sub_zero] at hms
     obtain⟨_,e,h2,h3,h4,h5⟩:=hms
     rw [hks] at h4
     have hkey:vk=e.key:=keq_eq hkw (hok.2.2 e (List.mem_of_getElem? h2)) h3
     have hej:es[j]?=some e:=by simpa using h2
     have hjl:j<es.size:=(Array.getElem?_eq_some_iff.1 hej).1
     refine⟨{ w with heap:=w.heap.setIfInBounds b (.map (es.modify j fun e=>{ e with key:=vk,val:=vy }) clock) },μ,?_,?_⟩
     ·have hstay:(Instr.keyThatStays (((es[j]?).map (·.key)).getD vk) vk).run P w=.ok vk w:=by
       simp only [hej,Option.map_some,Option.getD_some,Instr.keyThatStays]
       rw [←hkey,QI9 (n:=9998) hkw]
       rfl
      simp only [Instr.mapUpdate,Sem.run_bind,run_underlying (QAw htm),Result.andThen_ok,QAW hb,QAF hkt hkw,hfk,hstay,QDi _ hb]
     ·rw [h4,if_pos rfl]
      have hms2:mset ks xs vk y=xs.set j y:=by
       rw [←hks]
       exact QOE es.toList xs j e (by simpa using hej) h3 h5 (by simpa using hxl.symm)
      rw [hms2]
      have hml:(es.modify j fun e=>{ e with key:=vk,val:=vy }).toList=es.toList.set j { e with key:=vk,val:=vy }:=by
       apply List.ext_getElem?
       intro q
       rw [Array.getElem?_toList,Array.getElem?_modify,List.getElem?_set]
       by_cases hq:j=q
       ·subst hq
        have hje:es[j]=e:=(Array.getElem?_eq_some_iff.1 hej).2
        simp [hjl,hje]
       ·simp [hq]
      refine After.setMap hr hf hμ hb hS ?_ ?_ ?_
      ·have hborn:(es.toList.set j { e with key:=vk,val:=vy }).map (·.born)=es.toList.map (·.born):=by
        rw [List.map_set]
        apply List.set_getElem_self' (by simpa using hjl)
        simp [←(Array.getElem?_eq_some_iff.1 hej).2]
       refine⟨by rw [hml,hborn];exact hok.1,fun e' he'=>?_,fun e' he'=>?_⟩
       ·rw [hml] at he'
        rcases List.mem_or_eq_of_mem_set he' with h | h
        ·exact hok.2.1 e' h
        ·subst h;exact hok.2.1 e (List.mem_of_getElem? h2)
       ·rw [hml] at he'
        rcases List.mem_or_eq_of_mem_set he' with h | h
        ·exact hok.2.2 e' h
        ·subst h;exact hkw
      ·rw [hml,List.map_set,←hks]
       apply List.set_getElem_self' (by simpa using hjl)
       simp [←(Array.getElem?_eq_some_iff.1 hej).2] at hkey ⊢
       exact hkey
      ·rw [hml,List.map_set]
       exact hxs.set j hy
   ·cases h
  ·cases h
 ·cases h
where
 List.set_getElem_self' {α:Type} {l:List α} {j:Nat} (h:j<l.length) {x:α} (e:x=l[j]):l.set j x=l:=by
  subst e;simp
theorem QIF {key:Value}:∀(es:List MapEntry) (xs:List AV) (j:Nat) (e:MapEntry),es[j]?=some e→keq key e.key=true→(∀q<j,∀e',es[q]?=some e'→keq key e'.key=false)→xs.length=es.length→
  QFl (es.map (·.key)) key=(es.eraseIdx j).map (·.key)∧QFj (es.map (·.key)) xs key=xs.eraseIdx j
 | [],xs,j,e,h,_,_,_=>by simp at h
 | e0::es,[],j,e,h,_,_,hl=>by simp at hl
 | e0::es,x0::xs,0,e,h,hk,_,hl=>by
  simp at h;subst h
  simp [QFl,QFj,hk]
 | e0::es,x0::xs,j+1,e,h,hk,hn,hl=>by
  have h0:=hn 0 (by omega) e0 (by simp)
  obtain⟨h1,h2⟩:=QIF es xs j e (by simpa using h) hk (fun q hq e' he'=>hn (q+1) (by omega) e' (by simpa using he')) (by simpa using hl)
  simp only [List.map_cons,QFl,QFj,h0,Bool.false_eq_true,if_false,List.eraseIdx_cons_succ,h1,h2,and_self]
theorem QLz {key:Value}:∀(ks:List Value) (xs:List AV),mhas ks key=false→xs.length=ks.length→QFl ks key=ks∧QFj ks xs key=xs
 | [],[],_,_=>⟨rfl,rfl⟩
 | [],_::_,_,h=>by simp at h
 | k::ks,[],_,h=>by simp at h
 | k::ks,y::xs,h,hl=>by
  simp only [mhas,Bool.or_eq_false_iff] at h
  obtain⟨h1,h2⟩:=QLz ks xs h.2 (by simpa using hl)
  simp [QFl,QFj,h.1,h1,h2]
theorem RepL.eraseIdx {xs:List AV} {ys:List Value} (h:RepL S μ w xs ys) (j:Nat):RepL S μ w (xs.eraseIdx j) (ys.eraseIdx j):=by
 rw [List.eraseIdx_eq_take_drop_succ,List.eraseIdx_eq_take_drop_succ]
 exact (h.take j).append (h.drop (j+1))
theorem QSF {t kT eT ty:TypeId} {ts:Array TypeId} {o:Nat} {k:AV} {kt:KT} {ks:List Value} {xs:List AV} {key v vk:Value} (hr:RM S μ w m) (hts:ts[0]?=some t) (hf:m.find o=some (.map kt ks xs)) (htm:tmap P t=some (kT,eT))
  (hkt:tkt P kT=some kt) (hkv:k.val?=some key) (hkw:kwf kt key=true) (hx:Rep S μ w (.mp o) v) (hk:Rep S μ w k vk):
  OkV P S μ w m (Builtin.delete_ ts ty #[v,vk]) (.v (.tuple #[])) [(o,.map kt (QFl ks key) (QFj ks xs key))]:=by
 have hvk:=QEK hkv hk
 subst hvk
 obtain⟨b,bo,es,clock,rfl,hμ,hb,hok,hks,hxs,hS⟩:=QI5 hr hf hx
 have hfk:=QG0 hkt hkw w es.toList hok.2.2
 have hms:=QFP (key:=vk) es.toList 0
 have hxl:=hxs.length
 cases hm:QDB vk es.toList 0 with
 | none=>
  rw [hm] at hms hfk
  simp only [hks] at hms
  obtain⟨d1,d2⟩:=QLz ks xs hms (by rw [←hks];simpa using hxl.symm)
  rw [d1,d2]
  refine⟨.tuple #[],{ w with heap:=w.heap.setIfInBounds b (.map es clock) },μ,?_,by simp [Rep],After.setMap hr hf hμ hb hS hok hks hxs⟩
  simp only [Builtin.delete_,hts,List.getElem?_toArray,List.getElem?_cons_zero,List.getElem?_cons_succ,Sem.run_bind,run_underlying (QAw htm),Result.andThen_ok,QAW hb,QAF hkt hkw,hfk,QDi _ hb,Sem.run_pure]
 | some p=>
  obtain⟨j,v'⟩:=p
  rw [hm] at hms hfk
  simp only [Nat.sub_zero] at hms
  obtain⟨_,e,h2,h3,h4,h5⟩:=hms
  have hjl:j<es.toList.length:=by
   rcases Nat.lt_or_ge j es.toList.length with h | h
   ·exact h
   ·rw [List.getElem?_eq_none h] at h2;cases h2
  obtain⟨d1,d2⟩:=QIF (key:=vk) es.toList xs j e h2 h3 h5 (by simpa using hxl.symm)
  rw [hks] at d1 d2
  rw [d1,d2]
  have hel:(es.eraseIdxIfInBounds j).toList=es.toList.eraseIdx j:=by simp
  refine⟨.tuple #[],{ w with heap:=w.heap.setIfInBounds b (.map (es.eraseIdxIfInBounds j) clock) },μ,?_,by simp [Rep],After.setMap hr hf hμ hb hS ⟨?_,?_,?_⟩ (by rw [hel]) ?_⟩
  ·simp only [Builtin.delete_,hts,List.getElem?_toArray,List.getElem?_cons_zero,List.getElem?_cons_succ,Sem.run_bind,run_underlying (QAw htm),Result.andThen_ok,QAW hb,QAF hkt hkw,hfk,QDi _ hb,Sem.run_pure]
  ·rw [hel]
   exact hok.1.sublist ((List.eraseIdx_sublist _ _).map _)
  ·intro e' he'
   rw [hel] at he'
   exact hok.2.1 e' ((List.eraseIdx_sublist _ _).mem he')
  ·intro e' he'
   rw [hel] at he'
   exact hok.2.2 e' ((List.eraseIdx_sublist _ _).mem he')
  ·rw [hel]
   have:=hxs.eraseIdx j
   rw [List.eraseIdx_eq_take_drop_succ,List.eraseIdx_eq_take_drop_succ] at this
   rw [List.eraseIdx_eq_take_drop_succ,List.eraseIdx_eq_take_drop_succ,List.map_append,List.map_take,List.map_drop]
   exact this
variable {P : Program} {γ : GTab} {S : Nat → Nat → Prop} {μ μ' : Nat → Option (Nat × Nat)} {w w' : World} {m : Mem} {env : List (Nat × AV)} {a : Act}
def Qj (P:Program) (S:Nat→Nat→Prop) (μ:Nat→Option (Nat×Nat)) (w:World) (m:Mem) (s:Sem Next) (x:AV) (u:Upd):Prop:=
 ∃nx v w' μ',s.run P w=.ok nx w'∧(nx=.value v∨(nx=.skip∧v=undef))∧Rep S μ' w' x v∧After S μ w m u μ' w'
theorem Qj.v {s:Sem Value} {x:AV} {u:Upd} (h:OkV P S μ w m s x u):Qj P S μ w m (do pure (.value (← s))) x u:=by
 obtain⟨v,w',μ',h1,h2,h3⟩:=h
 exact⟨.value v,v,w',μ',by simp [h1],.inl rfl,h2,h3⟩
theorem Qj.u {s:Sem Unit} {u:Upd} (h:OkU P S μ w m s u):Qj P S μ w m (do s;pure .skip) (.v undef) u:=by
 obtain⟨w',μ',h1,h3⟩:=h
 exact⟨.skip,undef,w',μ',by simp [h1],.inr ⟨rfl,rfl⟩,by simp [Rep],h3⟩
theorem Qb5 (d:Nat) {t e:TypeId} (hu:P.underlying t=some (.pointer e)) (a:Addr):(Op.equalIn (d+1) t (.pointer (some a)) (.pointer none)).run P w=.ok false w:=by
 simp [Op.equalIn,run_underlying hu]
theorem Qa2 (d:Nat) {t q e:TypeId} (hu:P.underlying t=some (.map q e)) (a:Nat):(Op.equalIn (d+1) t (.map (some a)) (.map none)).run P w=.ok false w:=by
 simp [Op.equalIn,run_underlying hu]
theorem Qc1 (d:Nat) {t:TypeId} {q e:Array TypeId} {b:Bool} (hu:P.underlying t=some (.func q e b)) (f:Fn) (x y:Array Value):(Op.equalIn (d+1) t (.func f x y) .nilFunc).run P w=.ok false w:=by
 simp [Op.equalIn,run_underlying hu]
theorem Qcw (d:Nat) {t:TypeId} {ms:Array (String×TypeId)} (hu:P.underlying t=some (.interface ms)) (q:TypeId) (x:Value):(Op.equalIn (d+1) t (.iface q x) .nilIface).run P w=.ok false w:=by
 simp [Op.equalIn,run_underlying hu]
theorem QKd {t:TypeId} {x y:AV} {v z:Value} (h:QJG P t x y=true) (hx:Rep S μ w x v) (hy:Rep S μ w y z) (xo yo:Operand):(do eqGuard .eql t xo yo v z;binOp .eql t v z).run P w=.ok (.bool false) w∧(do eqGuard .neq t xo yo v z;binOp .neq t v z).run P w=.ok (.bool true) w:=by
 unfold QJG at h
 split at h
 ·rename_i k k' h1 h2
  simp only [Bool.and_eq_true,beq_iff_eq] at h
  obtain⟨rfl,ht⟩:=h
  have hu:(k=0∧∃e,P.underlying t=some (.pointer e))∨(k=1∧∃q e,P.underlying t=some (.map q e))∨(k=2∧∃q e b,P.underlying t=some (.func q e b))∨(k=3∧∃ms,P.underlying t=some (.interface ms)):=by
   unfold QLl at ht
   cases hu:P.underlying t with
   | none=>simp [hu] at ht
   | some d=>
    rw [hu] at ht
    cases d<;>simp at ht<;>subst ht<;>simp
  have hv:(k=0∧∃a,v=.pointer (some a))∨(k=1∧∃b,v=.map (some b))∨(k=2∧∃f a c,v=.func f a c)∨(k=3∧∃u q,v=.iface u q):=by
   unfold QKw at h1
   split at h1<;>simp only [Option.some.injEq,reduceCtorEq] at h1<;>subst h1<;>simp only [Rep] at hx
   ·obtain⟨b,bo,_,e⟩:=hx;exact .inl ⟨rfl,_,e⟩
   ·obtain⟨b,bo,e,_⟩:=hx;exact .inl ⟨rfl,_,e⟩
   ·obtain⟨b,bo,_,e⟩:=hx;exact .inr (.inl ⟨rfl,_,e⟩)
   ·obtain⟨fs,cs,e,_⟩:=hx;exact .inr (.inr (.inl ⟨rfl,_,_,_,e⟩))
   ·obtain⟨u,e,_⟩:=hx;exact .inr (.inr (.inr ⟨rfl,_,_,e⟩))
  have hz:(k=0∧z=.pointer none)∨(k=1∧z=.map none)∨(k=2∧z=.nilFunc)∨(k=3∧z=.nilIface):=by
   unfold QTr at h2
   split at h2<;>simp only [Option.some.injEq,reduceCtorEq] at h2<;>subst h2<;>simp only [Rep] at hy<;>simp [hy]
  have heq:∀v z,(Op.equal t v z).run P w=.ok false w→(∀op,(eqGuard op t xo yo v z).run P w=.ok () w)→(binOp .eql t v z=(do pure (.bool (← Op.equal t v z))))→(binOp .neq t v z=(do pure (.bool (!(← Op.equal t v z)))))→
    (do eqGuard .eql t xo yo v z;binOp .eql t v z).run P w=.ok (.bool false) w∧(do eqGuard .neq t xo yo v z;binOp .neq t v z).run P w=.ok (.bool true) w:=by
   intro v z h1 h2 h3 h4
   constructor
   ·rw [Sem.run_bind,h2];simp [h3,h1]
   ·rw [Sem.run_bind,h2];simp [h4,h1]
  rcases hu with ⟨rfl,e,hu⟩ | ⟨rfl,q,e,hu⟩ | ⟨rfl,q,e,b,hu⟩ | ⟨rfl,ms,hu⟩
  ·obtain⟨a,rfl⟩:∃a,v=.pointer (some a):=by simpa using hv
   obtain rfl:z=.pointer none:=by simpa using hz
   exact heq _ _ (Qb5 9999 hu _) (fun op=>by cases op<;>simp [eqGuard]) rfl rfl
  ·obtain⟨a,rfl⟩:∃a,v=.map (some a):=by simpa using hv
   obtain rfl:z=.map none:=by simpa using hz
   exact heq _ _ (Qa2 9999 hu _) (fun op=>by cases op<;>simp [eqGuard]) rfl rfl
  ·obtain⟨f,a,c,rfl⟩:∃f a c,v=.func f a c:=by simpa using hv
   obtain rfl:z=.nilFunc:=by simpa using hz
   exact heq _ _ (Qc1 9999 hu _ _ _) (fun op=>by cases op<;>simp [eqGuard]) rfl rfl
  ·obtain⟨u,q,rfl⟩:∃u q,v=.iface u q:=by simpa using hv
   obtain rfl:z=.nilIface:=by simpa using hz
   exact heq _ _ (Qcw 9999 hu _ _) (fun op=>by cases op<;>simp [eqGuard]) rfl rfl
 ·cases h
theorem QOS {t:TypeId} {a b:Value} {r:Bool} (h:keqA P t a b=some r) (x y:Operand) (w:World):(do eqGuard .eql t x y a b;binOp .eql t a b).run P w=.ok (.bool r) w∧(do eqGuard .neq t x y a b;binOp .neq t a b).run P w=.ok (.bool (!r)) w:=by
 unfold keqA at h
 split at h
 ·rename_i kt hkt
  split at h
  ·rename_i hc
   obtain⟨h1,h2,h3⟩:=hc
   simp only [Option.some.injEq] at h
   have heq:=QEb hkt h1 h2 w
   have hg:∀op,(eqGuard op t x y a b).run P w=.ok () w:=by
    intro op
    cases kt with
    | intK k=>obtain⟨n,rfl⟩:=Qo h1;cases op<;>simp [eqGuard]
    | strK=>cases a<;>simp [kwf] at h1;cases op<;>simp [eqGuard]
    | boolK=>cases a<;>simp [kwf] at h1;cases op<;>simp [eqGuard]
    | arrK q k=>
     cases a<;>try (simp [kwf] at h1;done)
     cases b<;>try (simp [kwf] at h2;done)
     unfold QHC at h3
     cases op<;>simp [eqGuard,h3]
   have hop:(∀(op:BinOp),op=.eql∨op=.neq→binOp op t a b=(do pure (.bool (← (do let r ← Op.equal t a b;pure (if op=.eql then r else !r)))))∨∃r',binOp op t a b=pure (.bool r')∧r'=(if op=.eql then keq a b else !keq a b)):=by
    intro op ho
    cases kt with
    | intK k=>
     obtain⟨n,rfl⟩:=Qo h1
     obtain⟨n',rfl⟩:=Qo h2
     right
     rcases ho with rfl | rfl
     ·exact⟨n==n',by simp [binOp,Op.intCmp],by simp [keq]⟩
     ·exact⟨n != n',by simp [binOp,Op.intCmp],by simp [keq,bne]⟩
    | strK=>
     cases a<;>simp [kwf] at h1
     cases b<;>simp [kwf] at h2
     right
     rcases ho with rfl | rfl
     ·exact⟨_,rfl,by simp [keq]⟩
     ·exact⟨_,rfl,by simp [keq]⟩
    | boolK=>
     cases a<;>simp [kwf] at h1
     cases b<;>simp [kwf] at h2
     left
     rcases ho with rfl | rfl
     ·simp [binOp]
     ·simp [binOp]
    | arrK q k=>
     cases a<;>try (simp [kwf] at h1;done)
     cases b<;>try (simp [kwf] at h2;done)
     left
     rcases ho with rfl | rfl
     ·simp [binOp]
     ·simp [binOp]
   subst h
   constructor
   ·rw [Sem.run_bind,hg]
    rcases hop .eql (.inl rfl) with e | ⟨r',e,e'⟩
    ·simp [e,heq]
    ·simp [e,e']
   ·rw [Sem.run_bind,hg]
    rcases hop .neq (.inr rfl) with e | ⟨r',e,e'⟩
    ·simp [e,heq]
    ·simp [e,e']
  ·cases h
 ·cases h
theorem QZl {op:BinOp} {t:TypeId} {x y:Operand} {a b v:Value} (h:pbin P op t x y a b=some v) (w:World):(do eqGuard op t x y a b;binOp op t a b).run P w=.ok v w:=by
 unfold pbin at h
 split at h
 ·split at h
  ·rename_i r hr
   simp only [Option.some.injEq] at h;subst h
   exact (QOS hr x y w).1
  ·exact QAq _ _ h w
 ·split at h
  ·rename_i r hr
   simp only [Option.some.injEq] at h;subst h
   exact (QOS hr x y w).2
  ·exact QAq _ _ h w
 ·exact QAq _ _ h w
theorem QBb {ρ:Operand→AV} (rr:∀x,Rep S μ w (ρ x) (a.eval x)) (args:Array Operand):RepL S μ w (args.toList.map ρ) (args.map a.eval).toList:=by
 have:=QJW rr args.toList
 simpa using this
theorem QHb {b:Builtin} {ts:Array TypeId} {ty:TypeId} {consts:Array Bool} {xs:List AV} {vs:Array Value} {x:AV} {u:Upd} {fresh:Nat} (hr:RM S μ w m) (hfr:(lk u fresh).isSome=true→m.base≤fresh∧fresh<m.base+m.wid∧m.find fresh=none)
  (h:QY P m.find fresh b ts xs=some (x,u)) (hx:RepL S μ w xs vs.toList):Qj P S μ w m (builtin b ts ty consts vs) x u:=by
 have arr1:∀{x:AV} {xs:List AV},xs=[x]→RepL S μ w xs vs.toList→∃v,vs=#[v]∧Rep S μ w x v:=by
  intro x xs e hx
  subst e
  simp only [RepL] at hx
  obtain⟨y,zs,e,h1,h2⟩:=hx
  subst h2
  exact⟨y,Array.ext' (by simpa using e),h1⟩
 have arr2:∀{x y:AV} {xs:List AV},xs=[x,y]→RepL S μ w xs vs.toList→∃v z,vs=#[v,z]∧Rep S μ w x v∧Rep S μ w y z:=by
  intro x y xs e hx
  subst e
  simp only [RepL] at hx
  obtain⟨v,zs,e,h1,z,ws,e2,h2,h3⟩:=hx
  subst h3;subst e2
  exact⟨v,z,Array.ext' (by simpa using e),h1,h2⟩
 unfold QY at h
 split at h
 ·-- len
  rename_i y
  obtain⟨v,rfl,hv⟩:=arr1 rfl hx
  split at h
  ·rename_i t ht
   split at h
   ·rename_i n e htr
    simp only [Option.some.injEq,Prod.mk.injEq] at h
    obtain⟨rfl,rfl⟩:=h
    refine Qj.v (OkV.same hr (v:=.int .i64 n) ?_ (by simp [Rep]))
    have hu:=QBz htr
    simp [Builtin.len_,ht,run_underlying hu,goInt]
   ·split at h
    ·rename_i k n hl
     split at h
     ·rename_i hk
      simp only [Option.some.injEq,Prod.mk.injEq] at h
      obtain⟨rfl,rfl⟩:=h
      exact Qj.v (ok_len hr ht hl hk hv)
     ·cases h
    ·cases h
  ·cases h
 ·-- append
  obtain⟨v,z,rfl,hv,hz⟩:=arr2 rfl hx
  split at h
  ·rename_i sT xT hs ht
   have hu:(lk u fresh).isSome=true:=by
    unfold QAg at h
    simp only [QMm] at h
    split at h
    ·split at h
     ·split at h
      ·split at h
       ·simp only [Option.some.injEq,Prod.mk.injEq] at h
        obtain⟨_,rfl⟩:=h;simp [lk]
       ·cases h
      ·split at h
       ·split at h
        ·simp only [Option.some.injEq,Prod.mk.injEq] at h
         obtain⟨_,rfl⟩:=h;simp only [lk];split<;>simp
        ·split at h
         ·simp only [Option.some.injEq,Prod.mk.injEq] at h
          obtain⟨_,rfl⟩:=h;simp only [lk];split<;>simp
         ·cases h
       ·cases h
      ·cases h
     ·cases h
    ·unfold QDD at h
     split at h
     ·split at h
      ·split at h
       ·simp only [Option.some.injEq,Prod.mk.injEq] at h
        obtain⟨_,rfl⟩:=h;simp [lk]
       ·cases h
      ·cases h
     ·cases h
    ·cases h
   obtain⟨f0,f1,f2⟩:=hfr hu
   have hap:=QLA (P:=P) (ty:=ty) hr f0 f1 f2 h hv hz
   have heq:Builtin.append_ ts ty #[v,z]=Builtin.append_ #[sT,xT] ty #[v,z]:=by
    unfold Builtin.append_
    rw [hs,ht]
    rfl
   rw [←heq] at hap
   exact Qj.v hap
  ·cases h
 ·-- cap
  obtain⟨v,rfl,hv⟩:=arr1 rfl hx
  split at h
  ·rename_i t ht
   split at h
   ·rename_i htm
    simp only [Option.some.injEq,Prod.mk.injEq] at h
    obtain⟨rfl,rfl⟩:=h
    simp only [Rep] at hv
    subst hv
    obtain⟨e,he⟩:=Option.isSome_iff_exists.1 htm
    refine Qj.v (OkV.same hr (v:=.int .i64 0) ?_ (by simp [Rep]))
    simp [builtin,Builtin.cap_,ht,run_underlying (Qi he),goInt]
   ·cases h
  ·cases h
 ·-- copy
  obtain⟨v,z,rfl,hv,hz⟩:=arr2 rfl hx
  split at h
  ·rename_i dT hd
   exact Qj.v (Qa9 hr hd h hv hz)
  ·cases h
 ·-- min
  split at h
  ·rename_i ys hys
   simp only [Option.map_eq_some_iff,Prod.mk.injEq] at h
   obtain⟨y,hy,rfl,rfl⟩:=h
   have:=QGv hys hx
   have hvs:vs=ys.toArray:=Array.ext' (by simpa using this)
   subst hvs
   exact Qj.v (OkV.same hr (QAq _ _ hy w) (by simp [Rep]))
  ·cases h
 ·-- max
  split at h
  ·rename_i ys hys
   simp only [Option.map_eq_some_iff,Prod.mk.injEq] at h
   obtain⟨y,hy,rfl,rfl⟩:=h
   have:=QGv hys hx
   have hvs:vs=ys.toArray:=Array.ext' (by simpa using this)
   subst hvs
   exact Qj.v (OkV.same hr (QAq _ _ hy w) (by simp [Rep]))
  ·cases h
 ·-- delete
  obtain⟨v,z,rfl,hv,hz⟩:=arr2 rfl hx
  split at h
  ·rename_i mT kt ks ys key hts hf hkv
   split at h
   ·rename_i kT eT htm
    split at h
    ·rename_i hc
     simp only [Option.some.injEq,Prod.mk.injEq] at h
     obtain⟨rfl,rfl⟩:=h
     exact Qj.v (QSF hr hts hf htm hc.1 hkv hc.2 hv hz)
    ·cases h
   ·cases h
  ·cases h
 ·cases h
set_option maxHeartbeats 1000000 in
theorem QMM {o:Oper} {x:AV} {u:Upd} {fresh:Nat} {ρ:Operand→AV} (hr:RM S μ w m) (rr:∀x,Rep S μ w (ρ x) (a.eval x)) (hs:Qm P ρ m.find fresh o.op=some (x,u))
  (hfr:(lk u fresh).isSome=true→m.base≤fresh∧fresh<m.base+m.wid∧m.find fresh=none):Qj P S μ w m (execOp a.eval o) x u:=by
 obtain⟨dst,op,ty,pos,after,guard⟩:=o
 simp only at hs
 unfold Qm at hs
 split at hs<;>simp only [execOp]
 ·-- move
  rename_i x0
  simp only [Option.some.injEq,Prod.mk.injEq] at hs
  obtain⟨rfl,rfl⟩:=hs
  exact⟨_,a.eval x0,w,μ,rfl,.inl rfl,rr x0,After.pure hr⟩
 ·-- assign
  rename_i x0
  simp only [Option.some.injEq,Prod.mk.injEq] at hs
  obtain⟨rfl,rfl⟩:=hs
  exact⟨_,a.eval x0,w,μ,rfl,.inl rfl,rr x0,After.pure hr⟩
 ·-- pick
  rename_i c x1 x2
  split at hs
  ·rename_i t hc
   have hcv:=rr c
   rw [hc] at hcv
   simp only [Rep] at hcv
   have hrun:(do pure (.value (if ← asBool (a.eval c) then a.eval x1 else a.eval x2)):Sem Next).run P w=.ok (.value (if t=true then a.eval x1 else a.eval x2)) w:=by
    rw [hcv];rfl
   split at hs
   ·rename_i p q h1 h2
    simp only [Option.some.injEq,Prod.mk.injEq] at hs
    obtain⟨rfl,rfl⟩:=hs
    have r1:=rr x1;have r2:=rr x2
    rw [h1] at r1;rw [h2] at r2
    simp only [Rep] at r1 r2
    refine⟨_,_,w,μ,hrun,.inl rfl,?_,After.pure hr⟩
    cases t<;>simp [Rep,r1,r2]
   ·simp only [Option.some.injEq,Prod.mk.injEq] at hs
    obtain⟨rfl,rfl⟩:=hs
    refine⟨_,_,w,μ,hrun,.inl rfl,?_,After.pure hr⟩
    cases t
    ·simpa using rr x2
    ·simpa using rr x1
  ·cases hs
 ·-- alloc
  split at hs
  ·rename_i e zs hz
   simp only [Option.some.injEq,Prod.mk.injEq] at hs
   obtain⟨rfl,rfl⟩:=hs
   obtain⟨f0,f1,f2⟩:=hfr (by simp [lk])
   exact Qj.v (QXO hr f0 f1 f2 hz)
  ·cases hs
 ·-- box
  rename_i e x0
  split at hs
  ·rename_i cs hc
   simp only [Option.some.injEq,Prod.mk.injEq] at hs
   obtain⟨rfl,rfl⟩:=hs
   obtain⟨f0,f1,f2⟩:=hfr (by simp [lk])
   exact Qj.v (ok_box hr f0 f1 f2 hc (rr x0))
  ·cases hs
 ·-- build
  rename_i t parts
  split at hs
  ·rename_i zs pl hz hp
   simp only [Option.map_eq_some_iff,Prod.mk.injEq] at hs
   obtain⟨cs,hf,rfl,rfl⟩:=hs
   exact Qj.v (QYP hr hz hp hf (QEn parts _ _) (QEl rr parts))
  ·cases hs
 ·-- buildSlice
  rename_i t n parts
  split at hs
  ·rename_i e ht
   split at hs
   ·rename_i zs hz
    split at hs
    ·rename_i hc
     simp only [Option.map_eq_some_iff,Prod.mk.injEq] at hs
     obtain⟨cs,hf,rfl,rfl⟩:=hs
     obtain⟨f0,f1,f2⟩:=hfr (by simp [lk])
     exact Qj.v (QJg hr f0 f1 f2 ht hz hc.1 hc.2.1 hc.2.2 hf (QEn parts _ _) (QEl rr parts))
    ·cases hs
   ·cases hs
  ·cases hs
 ·-- load
  rename_i t x0
  split at hs
  ·rename_i htk
   simp only [Option.map_eq_some_iff,Prod.mk.injEq] at hs
   obtain⟨y,hl,rfl,rfl⟩:=hs
   exact Qj.v (QdX hr hl (rr x0) (.inl htk))
  ·cases hs
 ·-- store
  rename_i t x0 x1
  simp only [Option.map_eq_some_iff,Prod.mk.injEq] at hs
  obtain⟨y,hl,rfl,rfl⟩:=hs
  exact Qj.u (QYp hr hl (rr x0) (rr x1))
 ·-- nilCheck
  rename_i x0
  have r0:=rr x0
  split at hs
  ·rename_i o off e
   simp only [Option.some.injEq,Prod.mk.injEq] at hs
   obtain⟨rfl,rfl⟩:=hs
   rw [e] at r0
   have r1:=r0
   simp only [Rep] at r1
   obtain⟨b,bo,_,hv⟩:=r1
   rw [hv] at r0 ⊢
   exact⟨_,_,w,μ,rfl,.inl rfl,r0,After.pure hr⟩
  ·rename_i xs e
   simp only [Option.some.injEq,Prod.mk.injEq] at hs
   obtain⟨rfl,rfl⟩:=hs
   rw [e] at r0
   have r1:=r0
   simp only [Rep] at r1
   obtain⟨b,bo,hv,_⟩:=r1
   rw [hv] at r0 ⊢
   exact⟨_,_,w,μ,rfl,.inl rfl,r0,After.pure hr⟩
  ·rename_i f p q e
   simp only [Option.some.injEq,Prod.mk.injEq] at hs
   obtain⟨rfl,rfl⟩:=hs
   rw [e] at r0
   have r1:=r0
   simp only [Rep] at r1
   obtain⟨b,bo,hv,_⟩:=r1
   rw [hv] at r0 ⊢
   exact⟨_,_,w,μ,rfl,.inl rfl,r0,After.pure hr⟩
  ·rename_i f p q e
   simp only [Option.some.injEq,Prod.mk.injEq] at hs
   obtain⟨rfl,rfl⟩:=hs
   rw [e] at r0
   have r1:=r0
   simp only [Rep] at r1
   rw [r1] at r0 ⊢
   exact⟨_,_,w,μ,rfl,.inl rfl,r0,After.pure hr⟩
  ·cases hs
 ·-- binOp
  rename_i op xT x0 y0 yT
  split at hs
  ·rename_i p q h1 h2
   simp only [Option.map_eq_some_iff,Prod.mk.injEq] at hs
   obtain⟨y,hy,rfl,rfl⟩:=hs
   rw [QEK h1 (rr x0),QEK h2 (rr y0)]
   exact Qj.v (OkV.same hr (QZl hy w) (by simp [Rep]))
  ·split at hs
   ·split at hs
    ·rename_i hn
     simp only [Option.some.injEq,Prod.mk.injEq] at hs
     obtain⟨rfl,rfl⟩:=hs
     exact Qj.v (OkV.same hr (QKd hn (rr x0) (rr y0) x0 y0).1 (by simp [Rep]))
    ·cases hs
   ·split at hs
    ·rename_i hn
     simp only [Option.some.injEq,Prod.mk.injEq] at hs
     obtain⟨rfl,rfl⟩:=hs
     exact Qj.v (OkV.same hr (QKd hn (rr x0) (rr y0) x0 y0).2 (by simp [Rep]))
    ·cases hs
   ·cases hs
 ·-- unOp
  rename_i op xT x0
  split at hs
  ·rename_i p h1
   simp only [Option.map_eq_some_iff,Prod.mk.injEq] at hs
   obtain⟨y,hy,rfl,rfl⟩:=hs
   rw [QEK h1 (rr x0)]
   exact Qj.v (OkV.same hr (QAq _ _ hy w) (by simp [Rep]))
  ·cases hs
 ·-- convert
  rename_i src dst' x0
  have r0:=rr x0
  split at hs
  ·rename_i s e
   rw [e] at r0
   simp only [Rep] at r0
   rw [r0]
   split at hs
   ·rename_i htd
    split at hs
    ·rename_i hts
     simp only [Option.some.injEq,Prod.mk.injEq] at hs
     obtain⟨rfl,rfl⟩:=hs
     refine Qj.v (OkV.same hr (v:=.string s) ?_ (by simp [Rep]))
     simp [convert,run_underlying (QBT htd),run_underlying (QBT hts)]
    ·cases hs
   ·split at hs
    ·rename_i hb
     split at hs
     ·rename_i e' he
      simp only [Option.some.injEq,Prod.mk.injEq] at hs
      obtain⟨rfl,rfl⟩:=hs
      obtain⟨f0,f1,f2⟩:=hfr (by simp [lk])
      exact Qj.v (QPJ hr f0 f1 f2 hb.1 he hb.2)
     ·cases hs
    ·cases hs
  ·rename_i p _ e
   rw [e] at r0
   simp only [Rep] at r0
   rw [r0]
   simp only [Option.map_eq_some_iff,Prod.mk.injEq] at hs
   obtain⟨y,hy,rfl,rfl⟩:=hs
   exact Qj.v (OkV.same hr (QAq _ _ hy w) (by simp [Rep]))
  ·rename_i hn1 hn2
   split at hs
   ·rename_i hb
    split at hs
    ·rename_i n xs hsrc
     split at hs
     ·rename_i vs hvs
      split at hs
      ·rename_i hall
       simp only [Option.some.injEq,Prod.mk.injEq] at hs
       obtain⟨rfl,rfl⟩:=hs
       exact Qj.v (QMj hr hb.1 hb.2 hsrc hvs hall r0 (fun s e=>hn1 s e))
      ·cases hs
     ·cases hs
    ·cases hs
   ·cases hs
 ·-- makeFunc
  rename_i fn first captured
  split at hs
  ·rename_i h1 h2
   simp only [Option.some.injEq,Prod.mk.injEq] at hs
   obtain⟨rfl,rfl⟩:=hs
   have e1:first=#[]:=by simpa using h1
   have e2:captured=#[]:=by simpa using h2
   subst e1;subst e2
   exact⟨_,_,w,μ,rfl,.inl rfl,by simp [Rep],After.pure hr⟩
  ·simp only [Option.some.injEq,Prod.mk.injEq] at hs
   obtain⟨rfl,rfl⟩:=hs
   refine⟨_,.func fn (first.map a.eval) (captured.map a.eval),w,μ,rfl,.inl rfl,?_,After.pure hr⟩
   simp only [Rep]
   exact⟨(first.map a.eval).toList,(captured.map a.eval).toList,by congr 1<;>(apply Array.ext';simp),QBb rr first,QBb rr captured⟩
 ·-- makeMap
  rename_i t r
  split at hs
  ·rename_i kT eT ht
   split at hs
   ·rename_i kt hkt hh
    simp only [Option.some.injEq,Prod.mk.injEq] at hs
    obtain⟨rfl,rfl⟩:=hs
    obtain⟨f0,f1,f2⟩:=hfr (by simp [lk])
    refine Qj.v (QPZ hr f0 f1 f2 ht (fun v hv=>?_))
    cases r with
    | none=>simp at hv
    | some o=>
     simp at hv
     simp only at hh
     split at hh
     ·rename_i k n e
      have r0:=rr o
      rw [e] at r0
      simp only [Rep] at r0
      exact⟨k,n,by rw [←hv,r0]⟩
     ·cases hh
   ·cases hs
  ·cases hs
 ·-- makeSlice
  rename_i t l c
  split at hs
  ·rename_i e kl l' kc c' ht hl hc
   split at hs
   ·rename_i zs hz
    split at hs
    ·rename_i hcc
     simp only [Option.some.injEq,Prod.mk.injEq] at hs
     obtain⟨rfl,rfl⟩:=hs
     obtain⟨f0,f1,f2⟩:=hfr (by simp [lk])
     have r1:=rr l;have r2:=rr c
     rw [hl] at r1;rw [hc] at r2
     simp only [Rep] at r1 r2
     rw [r1,r2]
     exact Qj.v (QLI hr f0 f1 f2 ht hz hcc.1 hcc.2.1 hcc.2.2.1 hcc.2.2.2.1 hcc.2.2.2.2.1 hcc.2.2.2.2.2)
    ·cases hs
   ·cases hs
  ·cases hs
 ·-- slice
  rename_i t x0 lo hi
  simp only [Option.map_eq_some_iff,Prod.mk.injEq] at hs
  obtain⟨y,hy,rfl,rfl⟩:=hs
  refine Qj.v (QWq hr hy (rr x0) (fun x hx=>?_) (fun hx=>?_) (fun x hx=>?_) (fun hx=>?_))
  ·cases lo with
   | none=>cases hx
   | some o=>simp at hx;subst hx;exact⟨_,rfl,rr o⟩
  ·cases lo with
   | none=>rfl
   | some o=>simp at hx
  ·cases hi with
   | none=>cases hx
   | some o=>simp at hx;subst hx;exact⟨_,rfl,rr o⟩
  ·cases hi with
   | none=>rfl
   | some o=>simp at hx
 ·-- fieldAddr
  rename_i s x0 f
  have r0:=rr x0
  split at hs
  ·rename_i fs hfs
   split at hs
   ·rename_i fl o off hfl e
    split at hs
    ·rename_i hc
     simp only [Option.some.injEq,Prod.mk.injEq] at hs
     obtain⟨rfl,rfl⟩:=hs
     rw [e] at r0
     exact Qj.v (QFX hr hfs hfl hc.1 hc.2 r0 (.inl ⟨_,_,rfl,rfl⟩))
    ·cases hs
   ·rename_i fl xs hfl e
    split at hs
    ·rename_i hc
     simp only [Option.some.injEq,Prod.mk.injEq] at hs
     obtain⟨rfl,rfl⟩:=hs
     rw [e] at r0
     exact Qj.v (QFX hr hfs hfl hc.1 hc.2 r0 (.inr ⟨_,rfl,rfl⟩))
    ·cases hs
   ·cases hs
  ·cases hs
 ·-- field
  rename_i t x0 f
  have r0:=rr x0
  split at hs
  ·rename_i fs hfs
   split at hs
   ·rename_i fl xs hfl e
    split at hs
    ·rename_i hc
     simp only [Option.map_eq_some_iff,Prod.mk.injEq] at hs
     obtain⟨y,hy,rfl,rfl⟩:=hs
     rw [e] at r0
     exact Qj.v (QYV hr hfs hfl r0 hy (.inl hc))
    ·cases hs
   ·cases hs
  ·cases hs
 ·-- indexAddr
  simp only [Option.map_eq_some_iff,Prod.mk.injEq] at hs
  obtain⟨y,hy,rfl,rfl⟩:=hs
  exact Qj.v (QLd hr hy (rr _) (rr _))
 ·-- index
  simp only [Option.map_eq_some_iff,Prod.mk.injEq] at hs
  obtain⟨y,hy,rfl,rfl⟩:=hs
  exact Qj.v (QV6 hr hy (rr _) (rr _))
 ·-- lookup
  simp only [Option.map_eq_some_iff,Prod.mk.injEq] at hs
  obtain⟨y,hy,rfl,rfl⟩:=hs
  exact Qj.v (QSU hr hy (rr _) (rr _))
 ·-- mapUpdate
  simp only [Option.map_eq_some_iff,Prod.mk.injEq] at hs
  obtain⟨y,hy,rfl,rfl⟩:=hs
  exact Qj.u (QRt hr hy (rr _) (rr _) (rr _))
 ·-- extract
  rename_i t i
  have r0:=rr t
  split at hs
  ·rename_i xs e
   simp only [Option.map_eq_some_iff,Prod.mk.injEq] at hs
   obtain⟨y,hy,rfl,rfl⟩:=hs
   rw [e] at r0
   simp only [Rep] at r0
   obtain⟨ys,hv,hys⟩:=r0
   obtain⟨z,hz1,hz2⟩:=hys.get hy
   refine Qj.v (OkV.same hr (v:=z) ?_ hz2)
   rw [hv];simp [Instr.extract,hz1]
  ·cases hs
 ·-- builtin
  rename_i b args ts
  have:=fun consts=>QHb (ty:=ty) (consts:=consts) hr hfr hs (QBb rr args)
  simp only [resolve,invoke,pure_bind]
  exact this _
 ·cases hs
theorem QA6 {x:AV} {v:Value} (h:Rep S μ w x v):Rep S μ w (unf x) v:=by
 cases x with
 | full n z xs=>
  simp only [unf,Rep] at*
  obtain⟨base,e,hl,r⟩:=h
  exact⟨base,n,e,Nat.le_refl _,hl,r⟩
 | slc o off n z=>
  simp only [unf,Rep] at*
  obtain⟨base,e,r⟩:=h
  exact⟨base,n,e,Nat.le_refl _,r⟩
 | _=>exact h
theorem QBw:∀{xs:List AV} {vs:List Value},RepL S μ w xs vs→RepL S μ w (xs.map unf) vs
 | [],vs,h=>by simpa [RepL] using h
 | x::xs,vs,h=>by
  simp only [List.map_cons,RepL] at*
  obtain⟨y,zs,e,h1,h2⟩:=h
  exact⟨y,zs,e,QA6 h1,QBw h2⟩
theorem QG4 {sT xT ty:TypeId} {s x y:AV} {base:Option Addr} {nb z:Nat} {vx:Value} {u:Upd} {fresh:Nat} (hr:RM S μ w m) (hf0:m.base≤fresh) (hf1:fresh<m.base+m.wid) (hf2:m.find fresh=none)
  (h:QBu P m.find fresh sT xT s x z=some (y,u)) (hs:Rep S μ w s (.slice base nb nb)) (hsr:∀e,z=tsz P e→srcS m.find (tsz P e) s=rdS m.find s) (hx:Rep S μ w x vx):OkV P S μ w m (Builtin.append_ #[sT,xT] ty #[.slice base nb nb,vx]) y u:=by
 unfold QBu at h
 split at h
 ·rename_i e hte hti
  unfold QGA at h
  split at h
  ·rename_i n0 ys n xs hold hsrc
   obtain⟨hlen,news,hn1,_,hn2,hn3,hn4⟩:=QCT (P:=P) hr hsrc hx
   split at h
   ·rename_i hc
    obtain⟨hzz,htk,hz,hpos,h0,hsmall,hby⟩:=hc
    simp only [Option.some.injEq,Prod.mk.injEq] at h
    obtain⟨rfl,rfl⟩:=h
    obtain⟨zz,hz,hzs⟩:=QHD hz
    have hold':srcS m.find (tsz P e) s=some (n0,ys):=(hsr e hzz).trans hold
    obtain⟨holen,olds,ho1,_,ho2,ho3,ho4⟩:=QCT (P:=P) hr hold' hs
    have hnb:nb=n0:=by
     have:=holen w
     simp [Builtin.lenOf] at this
     exact this
    subst hnb
    by_cases hn0:n=0
    ·subst hn0
     have e0:nb=0:=by omega
     subst e0
     have hxs:xs=[]:=List.eq_nil_of_length_eq_zero (by rw [←hn2.length,hn4];simp)
     have hys:ys=[]:=List.eq_nil_of_length_eq_zero (by rw [←ho2.length,ho4];simp)
     have hnews:news=[]:=List.eq_nil_of_length_eq_zero (by rw [hn4];simp)
     subst hxs;subst hys;subst hnews
     refine⟨.slice base 0 0,w,μ,?_,by simp only [Rep];exact⟨base,0,rfl,Nat.le_refl _,.inl rfl⟩,After.nil hr hf0 hf1 hf2 e true⟩
     have hin:=QBx (w:=w) (ty:=ty) (base:=base) (n0:=0) (cap:=0) (n:=0) hte hti htk (Nat.le_refl 0) hlen (hn1 w fun _=>rfl)
     rw [hin]
     cases base<;>simp [storeCells]
    ·obtain⟨cap',rest,h1,h2,h3⟩:=QCO (w:=w) (base:=base) (n0:=nb) (cap:=nb) (n:=n) (x:=vx) (old:=olds) (new:=news) (ty:=ty) hte hti htk hz hpos hby hsmall (by omega) (hlen w) (fun d=>ho1 _ fun _=>rfl) (fun d=>hn1 _ fun _=>rfl)
     obtain⟨μ',h4,h5⟩:=After.row (d:=w.drawn+1) hr hf0 hf1 hf2 e (xs:=ys++xs) (ys:=olds++news) (olds.toArray++news.toArray++rest) (0,0) true (ho2.append hn2) (fun u hu=>by
      rcases List.mem_append.1 hu with h | h
      ·exact ho3 u h
      ·exact hn3 u h) (by simp) (fun j hj=>QCI j hj) (by omega)
     refine⟨_,_,μ',h3,?_,h4⟩
     simp only [Rep]
     refine⟨_,cap',rfl,by omega,.inr ⟨_,0,h5,rfl,?_⟩⟩
     simp only [Qw,Array.getElem?_push_size,Array.size_append,List.size_toArray,h2,hn4,ho4,hzs]
     have:nb*tsz P e+n*tsz P e+(cap' - (nb+n))*tsz P e=cap'*tsz P e:=by rw [←Nat.add_mul,←Nat.add_mul];congr 1;omega
     omega
   ·cases h
  ·cases h
 ·cases h
theorem QQT {sT xT ty:TypeId} {s x y:AV} {vs vx:Value} {u:Upd} {fresh:Nat} (hr:RM S μ w m) (hf0:m.base≤fresh) (hf1:fresh<m.base+m.wid) (hf2:m.find fresh=none)
  (h:QEG P m.find fresh sT xT s x=some (y,u)) (hs:Rep S μ w s vs) (hx:Rep S μ w x vx):OkV P S μ w m (Builtin.append_ #[sT,xT] ty #[vs,vx]) y u:=by
 cases s with
 | full n z xs=>
  have hu:=QA6 hs
  simp only [Rep] at hs
  obtain⟨base,rfl,_⟩:=hs
  exact QG4 hr hf0 hf1 hf2 h hu (fun e he=>by simp only [srcS,rdS,he,if_true]) hx
 | slc o off n z=>
  have hu:=QA6 hs
  simp only [Rep] at hs
  obtain⟨base,rfl,_⟩:=hs
  exact QG4 hr hf0 hf1 hf2 h hu (fun e he=>by simp only [srcS,rdS,he,if_true]) hx
 | _=>exact QLA hr hf0 hf1 hf2 (by simpa only [QEG] using h) hs hx
theorem QQ4 {x y:AV} (h:QQ3 x y=true):∃k k' a,x=.v (.int k a)∧y=.v (.int k' a):=by
 unfold QQ3 at h
 split at h
 ·rename_i k a k' b
  simp only [beq_iff_eq] at h
  subst h
  exact⟨_,_,_,rfl,rfl⟩
 ·cases h
theorem QGM {n cap l h:Nat} {lo:Option AV} {k k':IntKind} {q:Int} {vlo:Option Value} (hb:bnds n lo (some (.v (.int k q)))=some (l,h)) (hn:n≤cap)
  (hlo:∀x,lo=some x→∃v,vlo=some v∧Rep S μ w x v) (hlo':lo=none→vlo=none):
  (Instr.sliceBounds true n cap vlo (some (.int k q)) (some (.int k' q))).run P w=.ok (l,h,h) w∧l≤h∧h≤n:=by
 unfold bnds at hb
 simp only [Option.bind_eq_some_iff] at hb
 obtain⟨h',hh,hb⟩:=hb
 simp only [bhi] at hh
 split at hh
 ·rename_i hq
  simp only [Option.some.injEq] at hh
  subst hh
  have hmx:(Instr.sliceBound (.int k' q) cap .slice3Acap).run P w=.ok q.toNat w:=by
   simp only [Instr.sliceBound,Sem.run_bind,Qz,Result.andThen_ok]
   rw [if_pos (by omega)];rfl
  have hhi:(Instr.sliceBound (.int k q) q.toNat .slice3B).run P w=.ok q.toNat w:=by
   simp only [Instr.sliceBound,Sem.run_bind,Qz,Result.andThen_ok]
   rw [if_pos (by omega)];rfl
  unfold blo at hb
  split at hb
  ·simp only [Option.some.injEq,Prod.mk.injEq] at hb
   obtain⟨rfl,rfl⟩:=hb
   rw [hlo' rfl]
   refine⟨?_,Nat.zero_le _,by omega⟩
   simp [Instr.sliceBounds,hmx,hhi]
  ·rename_i k2 q2
   obtain⟨v,rfl,hx⟩:=hlo _ rfl
   simp only [Rep] at hx
   subst hx
   split at hb
   ·rename_i hq2
    simp only [Option.some.injEq,Prod.mk.injEq] at hb
    obtain⟨rfl,rfl⟩:=hb
    refine⟨?_,by omega,by omega⟩
    have hl:(Instr.sliceBound (.int k2 q2) q.toNat .slice3C).run P w=.ok q2.toNat w:=by
     simp only [Instr.sliceBound,Sem.run_bind,Qz,Result.andThen_ok]
     rw [if_pos hq2];rfl
    simp [Instr.sliceBounds,hmx,hhi,hl]
   ·cases hb
  ·cases hb
 ·cases hh
theorem QVI {t:TypeId} {x y:AV} {lo:Option AV} {hi mx:AV} {v vhi vmx:Value} {vlo:Option Value} (hr:RM S μ w m) (h:QGa P (Qd P t) x lo hi mx=some y) (hx:Rep S μ w x v) (hlo:∀x,lo=some x→∃v,vlo=some v∧Rep S μ w x v) (hlo':lo=none→vlo=none)
  (hhi:Rep S μ w hi vhi) (hmx:Rep S μ w mx vmx):OkV P S μ w m (Instr.sliceAt t v vlo (some vhi) (some vmx)) y []:=by
 unfold QGa at h
 split at h
 ·rename_i e ht
  split at h
  ·rename_i hc
   obtain⟨htk,he⟩:=hc
   obtain⟨k,k',q,rfl,rfl⟩:=QQ4 he
   simp only [Rep] at hhi hmx
   subst hhi;subst hmx
   have hu:=Qi ht
   unfold QJn at h
   split at h
   ·simp only [Option.map_eq_some_iff] at h
    obtain⟨⟨l,h'⟩,hb,rfl⟩:=h
    simp only [Rep] at hx
    subst hx
    obtain⟨h1,h2,h3⟩:=QGM (P:=P) (k':=k') hb (Nat.le_refl _) hlo hlo'
    have e1:h'=0:=by omega
    have e2:l=0:=by omega
    subst e1;subst e2
    refine OkV.same hr (v:=.slice none 0 0) ?_ (by simp [Rep])
    simp [Instr.sliceAt,Instr.slice,run_underlying hu,h1,Qu htk]
   ·rename_i n z xs
    split at h
    ·rename_i hz
     subst hz
     simp only [Option.map_eq_some_iff] at h
     obtain⟨⟨l,h'⟩,hb,rfl⟩:=h
     simp only [Rep] at hx
     obtain⟨base,cap,rfl,hn,hlen,hc⟩:=hx
     obtain⟨h1,h2,h3⟩:=QGM (P:=P) (k':=k') hb hn hlo hlo'
     have hlz:l*tsz P e+(h' - l)*tsz P e≤n*tsz P e:=by
      rw [←Nat.add_mul];exact Nat.mul_le_mul_right _ (by omega)
     refine OkV.same hr (v:=.slice (if h'=l then base else base.map (·.add (l*tsz P e))) (h' - l) (h' - l)) ?_ ?_
     ·simp [Instr.sliceAt,Instr.slice,run_underlying hu,h1,Qu htk]
     ·simp only [Rep]
      refine⟨_,rfl,by simp;omega,?_⟩
      by_cases e0:h'=l
      ·left;omega
      ·right
       rcases hc with hc | ⟨b,off,rfl,hc⟩
       ·omega
       ·refine⟨b,off+l*tsz P e,by simp [e0,Q9],?_⟩
        exact (hc.drop _).take _
    ·cases h
   ·rename_i o off n z
    split at h
    ·rename_i hz
     subst hz
     simp only [Option.map_eq_some_iff] at h
     obtain⟨⟨l,h'⟩,hb,rfl⟩:=h
     simp only [Rep] at hx
     obtain⟨base,cap,rfl,hn,hc⟩:=hx
     obtain⟨h1,h2,h3⟩:=QGM (P:=P) (k':=k') hb hn hlo hlo'
     have hlz:l*tsz P e+(h' - l)*tsz P e≤cap*tsz P e:=by
      rw [←Nat.add_mul];exact Nat.mul_le_mul_right _ (by omega)
     refine OkV.same hr (v:=.slice (if h'=l then base else base.map (·.add (l*tsz P e))) (h' - l) (h' - l)) ?_ ?_
     ·simp [Instr.sliceAt,Instr.slice,run_underlying hu,h1,Qu htk]
     ·simp only [Rep]
      refine⟨_,rfl,?_⟩
      by_cases e0:h'=l
      ·left;omega
      ·right
       rcases hc with hc | ⟨b,bo,hμ,rfl,hc⟩
       ·omega
       ·exact⟨b,bo,hμ,by simp [e0,Q9,Nat.add_assoc],by omega⟩
    ·cases h
   ·cases h
  ·cases h
 ·cases h
theorem QFD {t kT e:TypeId} (h:tmap P t=some (kT,e)):P.underlying t=some (.map kT e):=by
 unfold tmap at h
 simp only [Option.bind_eq_some_iff] at h
 obtain⟨d,h1,h2⟩:=h
 cases d<;>simp at h2
 obtain⟨rfl,rfl⟩:=h2
 exact h1
theorem QEf {b since stepped:Nat} {mb:Option Nat} {seen:Array Nat} (hb:w.heap[b]?=some (.mapIter mb since seen stepped)):(getObj b).run P w=.ok (.mapIter mb since seen stepped) w:=by
 simp [getObj,Sem.run,hb]
theorem QZO {t:TypeId} {x y:AV} {v:Value} {u:Upd} {fresh:Nat} (hr:RM S μ w m) (hf0:m.base≤fresh) (hf1:fresh<m.base+m.wid) (hf2:m.find fresh=none)
  (h:QHa P fresh t x=some (y,u)) (hx:Rep S μ w x v):OkV P S μ w m (Instr.range t v) y u:=by
 have nw:∀(mb:Option Nat) (clock:Nat) (ks:List Value) (xs:List AV),(Instr.range t v).run P w=.ok (.pointer (some ⟨w.heap.size,0,none⟩)) { w with heap:=w.heap.push (.mapIter mb clock #[] clock) }→
   ((mb=none∧ks=[]∧xs=[])∨∃r es kt,mb=some r∧S r 0∧w.heap[r]?=some (.map es clock)∧QKb kt es clock∧es.toList.map (·.key)=ks∧RepL S μ w xs (es.toList.map (·.val)))→
   OkV P S μ w m (Instr.range t v) (.it fresh) [(fresh,.miter none ks xs)]:=by
  intro mb clock ks xs hrun hcase
  obtain⟨μ',h1,h2,h3⟩:=After.new (w':={ w with heap:=w.heap.push (.mapIter mb clock #[] clock) }) hr hf0 hf1 hf2 (.mapIter mb clock #[] clock) (.miter none ks xs) rfl trivial rfl ⟨rfl,Nat.le_refl _⟩ rfl (fun μ' hk hne hμ'=>by
   simp only [RepO]
   refine⟨w.heap.size,0,mb,clock,#[],clock,hμ',fun off hs=>by have:=hr.old _ _ hs;omega,by simp,?_⟩
   rcases hcase with ⟨e1,e2,e3⟩ | ⟨r,es,kt,e1,e2,e3,e4,e5,e6⟩
   ·exact .inl ⟨e1,e2,e3,trivial⟩
   ·have hfil:(es.toList.filter fun e=>!(#[]:Array Nat).contains e.born)=es.toList:=List.filter_eq_self.2 (fun _ _=>by simp)
    refine .inr ⟨r,es,kt,e1,e2,hk.map _ _ _ _ e2 e3,e4,rfl,?_,?_,by simp⟩
    ·rw [hfil];exact e5
    ·rw [hfil];exact RepL.keep hk _ _ e6)
  exact⟨_,_,μ',hrun,by simp only [Rep];exact⟨_,_,h2,rfl⟩,h1⟩
 unfold QHa at h
 split at h
 ·split at h
  ·rename_i ht
   simp only [Option.some.injEq,Prod.mk.injEq] at h
   obtain⟨rfl,rfl⟩:=h
   obtain⟨⟨kT,e⟩,ht⟩:=Option.isSome_iff_exists.1 ht
   simp only [Rep] at hx
   subst hx
   exact nw none 0 [] [] (by simp [Instr.range,run_underlying (QFD ht)]) (.inl ⟨rfl,rfl,rfl⟩)
  ·cases h
 ·rename_i kt ks xs
  split at h
  ·rename_i ht
   simp only [Option.some.injEq,Prod.mk.injEq] at h
   obtain⟨rfl,rfl⟩:=h
   obtain⟨⟨kT,e⟩,ht⟩:=Option.isSome_iff_exists.1 ht
   simp only [Rep] at hx
   rcases hx with ⟨rfl,rfl,rfl⟩ | ⟨b,es,clock,rfl,hs,hb,hm,hk,hxs⟩
   ·exact nw none 0 [] [] (by simp [Instr.range,run_underlying (QFD ht)]) (.inl ⟨rfl,rfl,rfl⟩)
   ·exact nw (some b) clock ks xs (by simp [Instr.range,run_underlying (QFD ht),QAW hb]) (.inr ⟨b,es,kt,rfl,hs,hb,hm,hk,hxs⟩)
  ·cases h
 ·cases h
theorem QJ4 {o:Nat} {last:Option (Value×AV)} {ks:List Value} {xs:List AV} {v:Value} (hr:RM S μ w m) (hf:m.find o=some (.miter last ks xs)) (hx:Rep S μ w (.it o) v):
  ∃(b bo:Nat) (mb:Option Nat) (since:Nat) (seen:Array Nat) (stepped:Nat),v=.pointer (some ⟨b,0,none⟩)∧μ o=some (b,bo)∧(∀off,¬S b off)∧w.heap[b]?=some (.mapIter mb since seen stepped)∧
   ((mb=none∧ks=[]∧xs=[]∧last=none)∨∃(r:Nat) (es:Array MapEntry) (kt:KT),mb=some r∧S r 0∧w.heap[r]?=some (.map es since)∧QKb kt es since∧stepped=since∧
    (es.toList.filter fun e=>!seen.contains e.born).map (·.key)=ks∧RepL S μ w xs ((es.toList.filter fun e=>!seen.contains e.born).map (·.val))∧
    (∀p,last=some p→∃e∈es.toList,seen.back?=some e.born∧e.key=p.1∧Rep S μ w p.2 e.val)):=by
 simp only [Rep] at hx
 obtain⟨b,bo,hμ,hv⟩:=hx
 have:=(hr.obj _ _ hf).2
 simp only [RepO] at this
 obtain⟨b',bo',mb,since,seen,stepped,h1,h2,h3,h4⟩:=this
 rw [hμ] at h1
 simp only [Option.some.injEq,Prod.mk.injEq] at h1
 obtain⟨rfl,rfl⟩:=h1
 exact⟨b,bo,mb,since,seen,stepped,hv,hμ,h2,h3,h4⟩
theorem QKS:∀{es:List MapEntry} {e:MapEntry},(es.map (·.born)).Nodup→e∈es→es.find? (fun x=>x.born==e.born)=some e
 | [],e,_,h=>by simp at h
 | x::es,e,hn,h=>by
  simp only [List.map_cons,List.nodup_cons,List.mem_map,not_exists,not_and] at hn
  rw [List.find?_cons]
  rcases List.mem_cons.1 h with rfl | h
  ·simp
  ·have:(x.born==e.born)=false:=by
    simp only [beq_eq_false_iff_ne,ne_eq]
    intro he
    exact hn.1 e h he.symm
   rw [this]
   exact QKS hn.2 h
theorem QWz {x y:AV} {v:Value} {u:Upd} (hr:RM S μ w m) (h:QFV m.find x=some (y,u)) (hx:Rep S μ w x v):OkV P S μ w m (Instr.entry v) y u:=by
 unfold QFV at h
 split at h
 ·rename_i o
  simp only [Option.map_eq_some_iff,Prod.mk.injEq] at h
  obtain⟨y',h,rfl,rfl⟩:=h
  unfold QOH at h
  split at h
  ·rename_i p ks xs hf
   simp only [Option.some.injEq] at h
   subst h
   obtain⟨b,bo,mb,since,seen,stepped,rfl,hμ,hS,hb,hc⟩:=QJ4 hr hf hx
   rcases hc with ⟨_,_,_,h⟩ | ⟨r,es,kt,rfl,hs,hm,hok,rfl,hk,hxs,hl⟩
   ·cases h
   ·obtain⟨e,he1,he2,he3,he4⟩:=hl p rfl
    have hfind:es.find? (fun x=>x.born==e.born)=some e:=by
     rw [←Array.find?_toList]
     exact QKS hok.1 he1
    refine OkV.same hr (v:=.tuple #[e.key,e.val]) ?_ ?_
    ·simp [Instr.entry,QEf hb,QAW hm,he2,hfind]
    ·simp only [Rep]
     exact⟨[e.key,e.val],rfl,by simp only [RepL];exact⟨_,_,rfl,by simp only [Rep];exact he3,_,_,rfl,he4,rfl⟩⟩
  ·cases h
 ·cases h
theorem QWI {ts:Array TypeId} {ty:TypeId} {v:Value} {x y:AV} {u:Upd} (hr:RM S μ w m)
  (h:QLH P m.find (ts[0]?.bind (Qd P)) x=some (y,u)) (hv:Rep S μ w x v):OkV P S μ w m (Builtin.clear_ ts ty #[v]) y u:=by
 unfold QLH at h
 split at h
 ·rename_i e o off n z he
  rw [Option.bind_eq_some_iff] at h
  obtain⟨zs,hzs,h⟩:=h
  rw [Option.bind_eq_some_iff] at he
  obtain⟨t,ht,hte⟩:=he
  unfold QSq at h
  split at h
  ·rename_i E ys ap hf
   split at h
   ·rename_i hc
    obtain⟨rfl,hz0,hn0,hfit⟩:=hc
    simp only [Option.some.injEq,Prod.mk.injEq] at h
    obtain⟨rfl,rfl⟩:=h
    simp only [Rep] at hv
    obtain⟨base,cap,rfl,hcap,hbase⟩:=hv
    obtain⟨b,bo,hμ,rfl,hsz⟩:=hbase.resolve_left (by omega)
    obtain⟨zv,h1,h2,h3⟩:=QFF hzs
    have hzc:zv.cells.size=zs.length:=by rw [←h2];simp
    have hzc2:Builtin.zeroCells zv.cells n=((List.replicate n zs).flatten).toArray:=by
     have hr0:=QFJ zv.cells n (by rw [hzc];exact hz0)
     rw [h2] at hr0
     exact hr0
    obtain⟨w',k1,k2⟩:=QGO (P:=P) (off:=off) hr hf hμ (cs:=(List.replicate n (zs.map AV.v)).flatten) (vs:=(List.replicate n zs).flatten) (by rw [QEX];exact RepL.of_vals _) (QFr n h3) (by simpa using hfit)
    refine⟨.tuple #[],w',μ,?_,by simp [Rep,RepL],k2⟩
    obtain⟨n',rfl⟩:∃n',n=n'+1:=⟨n - 1,by omega⟩
    simp only [Builtin.clear_,ht,List.getElem?_toArray,List.getElem?_cons_zero,Sem.run_bind,run_underlying (Qi hte),Result.andThen_ok,QBt h1,hzc2,k1,Sem.run_pure]
   ·cases h
  ·cases h
 ·cases h
theorem QMl {b:Builtin} {ts:Array TypeId} {ty:TypeId} {consts:Array Bool} {xs:List AV} {vs:Array Value} {x:AV} {u:Upd} {fresh:Nat} (hr:RM S μ w m) (hfr:(lk u fresh).isSome=true→m.base≤fresh∧fresh<m.base+m.wid∧m.find fresh=none)
  (h:QAH P m.find fresh b ts xs=some (x,u)) (hx:RepL S μ w xs vs.toList):Qj P S μ w m (builtin b ts ty consts vs) x u:=by
 unfold QAH at h
 split at h
 ·rename_i s y
  simp only [RepL] at hx
  obtain⟨v,zs,e,h1,z,ws,e2,h2,h3⟩:=hx
  subst h3;subst e2
  obtain rfl:vs=#[v,z]:=Array.ext' (by simpa using e)
  split at h
  ·rename_i sT xT hs ht
   have hu:(lk u fresh).isSome=true:=by
    have hGA:∀{s:AV} {z:Nat},QBu P m.find fresh sT xT s (unf y) z=some (x,u)→(lk u fresh).isSome=true:=by
     intro s z h
     unfold QBu at h
     split at h
     ·unfold QGA at h
      split at h
      ·split at h
       ·simp only [Option.some.injEq,Prod.mk.injEq] at h
        obtain⟨_,rfl⟩:=h;simp [lk]
       ·cases h
      ·cases h
     ·cases h
    unfold QEG at h
    split at h
    ·exact hGA h
    ·exact hGA h
    ·unfold QAg at h
     simp only [QMm] at h
     split at h
     ·split at h
      ·split at h
       ·split at h
        ·simp only [Option.some.injEq,Prod.mk.injEq] at h
         obtain⟨_,rfl⟩:=h;simp [lk]
        ·cases h
       ·split at h
        ·split at h
         ·simp only [Option.some.injEq,Prod.mk.injEq] at h
          obtain⟨_,rfl⟩:=h;simp only [lk];split<;>simp
         ·split at h
          ·simp only [Option.some.injEq,Prod.mk.injEq] at h
           obtain⟨_,rfl⟩:=h;simp only [lk];split<;>simp
          ·cases h
        ·cases h
       ·cases h
      ·cases h
     ·unfold QDD at h
      split at h
      ·split at h
       ·split at h
        ·simp only [Option.some.injEq,Prod.mk.injEq] at h
         obtain⟨_,rfl⟩:=h;simp [lk]
        ·cases h
       ·cases h
      ·cases h
     ·cases h
   obtain⟨f0,f1,f2⟩:=hfr hu
   have hap:=QQT (P:=P) (ty:=ty) hr f0 f1 f2 h h1 (QA6 h2)
   have heq:Builtin.append_ ts ty #[v,z]=Builtin.append_ #[sT,xT] ty #[v,z]:=by
    unfold Builtin.append_
    rw [hs,ht]
    rfl
   rw [←heq] at hap
   exact Qj.v hap
  ·cases h
 ·rename_i y
  simp only [RepL] at hx
  obtain⟨v,zs,e,h1,h2⟩:=hx
  subst h2
  obtain rfl:vs=#[v]:=Array.ext' (by simpa using e)
  exact Qj.v (QWI hr h (QA6 h1))
 ·exact QHb hr hfr h (QBw hx)
theorem QPb {o:Oper} {x:AV} {u:Upd} {fresh:Nat} (h:RA γ S μ w m env a) (hG:GOK γ S w) (hs:QBR P (rho γ env) m.find fresh o.op=some (x,u))
  (hfr:(lk u fresh).isSome=true→m.base≤fresh∧fresh<m.base+m.wid∧m.find fresh=none):Qj P S μ w m (execOp a.eval o) x u:=by
 have hr:=h.rm
 have rr:=fun x=>QAY h hG x
 have ru:=fun x=>QA6 (rr x)
 obtain⟨dst,op,ty,pos,after,guard⟩:=o
 simp only at hs
 unfold QBR at hs
 split at hs
 ·rename_i x0
  simp only [Option.some.injEq,Prod.mk.injEq] at hs
  obtain⟨rfl,rfl⟩:=hs
  exact⟨_,a.eval x0,w,μ,rfl,.inl rfl,rr x0,After.pure hr⟩
 ·rename_i x0
  simp only [Option.some.injEq,Prod.mk.injEq] at hs
  obtain⟨rfl,rfl⟩:=hs
  exact⟨_,a.eval x0,w,μ,rfl,.inl rfl,rr x0,After.pure hr⟩
 ·rename_i t x0 lo hi mx
  simp only [execOp]
  simp only [Option.map_eq_some_iff,Prod.mk.injEq] at hs
  obtain⟨y,hy,rfl,rfl⟩:=hs
  refine Qj.v (QVI hr hy (ru x0) (fun x hx=>?_) (fun hx=>?_) (rr hi) (rr mx))
  ·cases lo with
   | none=>cases hx
   | some o=>simp at hx;subst hx;exact⟨_,rfl,rr o⟩
  ·cases lo with
   | none=>rfl
   | some o=>simp at hx
 ·rename_i t x0
  simp only [execOp]
  have hu:(lk u fresh).isSome=true:=by
   unfold QHa at hs
   split at hs
   ·split at hs
    ·simp only [Option.some.injEq,Prod.mk.injEq] at hs;obtain⟨_,rfl⟩:=hs;simp [lk]
    ·cases hs
   ·split at hs
    ·simp only [Option.some.injEq,Prod.mk.injEq] at hs;obtain⟨_,rfl⟩:=hs;simp [lk]
    ·cases hs
   ·cases hs
  obtain⟨f0,f1,f2⟩:=hfr hu
  exact Qj.v (QZO hr f0 f1 f2 hs (rr x0))
 ·rename_i x0
  simp only [execOp]
  exact Qj.v (QWz hr hs (rr x0))
 ·rename_i b args ts
  have:=fun consts=>QMl (ty:=ty) (consts:=consts) hr hfr hs (QBb rr args)
  simp only [execOp,resolve,invoke,pure_bind]
  exact this _
 ·exact QMM (o:=⟨dst,op,ty,pos,after,guard⟩) hr ru hs hfr
structure St where
 env:List (Nat×AV)
 mem:Mem
inductive KI where
 | code (c:Code)
 | blk (id:Nat)
 | scp
 | ops (all:Array Oper) (l:List Oper)
 | lp (J:St→Prop)
 | bg (o:Nat)
 | rnd (J:Option Code→St→Prop)
 | rj (j:Option Code) (J:Option Code→St→Prop)
 | fin (Q:Exit→St→Prop)
def cz:Code→Nat
 | .region _ ops _=>2+ops.size
 | .seq a b=>1+cz a+cz b
 | .cond _ a b=>1+cz a+cz b
 | .block _ c=>2+cz c
 | .loop c=>2+cz c
 | .scope c=>2+cz c
 | _=>1
def iz:KI→Nat
 | .code c=>cz c
 | .ops _ l=>1+l.length
 | .rnd _=>2
 | _=>1
def kz:List KI→Nat
 | []=>0
 | i::k=>iz i+kz k
theorem QIH (c:Code):0<cz c:=by cases c<;>simp [cz]<;>omega
def QBG (id:Nat):List KI→Option (List KI)
 | .blk id'::k=>if id'=id then some k else QBG id k
 | .rnd J::_=>some [.rj (some (.exit id)) J]
 | .fin _::_=>none
 | .ops _ _::_=>none
 | _::k=>QBG id k
 | []=>none
def retK:List KI→Option (Exit→St→Prop)
 | .fin Q::_=>some Q
 | .rnd J::_=>some fun _=>J (some .ret)
 | .ops _ _::_=>none
 | _::k=>retK k
 | []=>none
theorem QO4 {id:Nat}:∀{k k':List KI},QBG id k=some k'→kz k'<kz k
 | [],k',h=>by simp [QBG] at h
 | i::k,k',h=>by
  have hrec:QBG id k=some k'→kz k'<kz (i::k):=fun h=>by
   have:=QO4 h
   simp only [kz];omega
  cases i with
  | blk id'=>
   simp only [QBG] at h
   split at h
   ·simp at h;subst h;simp [kz,iz]
   ·exact hrec h
  | fin Q=>simp [QBG] at h
  | ops all l=>simp [QBG] at h
  | code c=>simp only [QBG] at h;exact hrec h
  | scp=>simp only [QBG] at h;exact hrec h
  | lp J=>simp only [QBG] at h;exact hrec h
  | bg o=>simp only [QBG] at h;exact hrec h
  | rj j J=>simp only [QBG] at h;exact hrec h
  | rnd J=>simp only [QBG,Option.some.injEq] at h;subst h;simp only [kz,iz];omega
def putE (dst:Option Nat) (x:AV) (env:List (Nat×AV)):List (Nat×AV):=
 match dst with
 | some d=>(d,x)::env
 | none=>env
def QBa (P:Program) (f:FuncId):Prop:=∃fn,P.funcs[f]?=some fn∧(fn.name== "runtime.NumGoroutine")=false∧fn.body.isNone=false
def Qr (P:Program) (γ:GTab) (f:FuncId) (xs:List AV) (m:Mem) (K:AV→Mem→Prop):Prop:=
 QBa P f∧∀(S:Nat→Nat→Prop) (μ:Nat→Option (Nat×Nat)) (w:World) (vs:List Value),RM S μ w m→GOK γ S w→RepL S μ w xs vs→
  Calls P f vs.toArray w fun e w'=>∃v x m' S' μ',e=.returned v∧m'.base=m.base∧m'.wid=m.wid∧RM S' μ' w' m'∧Ext m.next m S μ w m' S' μ' w'∧Rep S' μ' w' x v∧K x m'
def QD2 (P:Program) (γ:GTab) (o:Nat) (xs:List AV) (m:Mem) (K:AV→Mem→Prop):Prop:=
 ∀(S:Nat→Nat→Prop) (μ:Nat→Option (Nat×Nat)) (w:World) (vs:List Value) (b bo:Nat),RM S μ w m→GOK γ S w→RepL S μ w xs vs→μ o=some (b,bo)→
  ∃f tmps as bd,(Instr.yield b vs.toArray).run P w=.ok (.round b f tmps as bd) w∧RoundIn Fence.wide 0 P b f tmps as bd w fun e w'=>
   ∃v x m' S' μ',e=.returned v∧m'.base=m.base∧m'.wid=m.wid∧RM S' μ' w' m'∧Ext m.next m S μ w m' S' μ' w'∧Rep S' μ' w' x v∧K x m'
def QRs (dst:Option Nat) (env:List (Nat×AV)) (K:St→Prop) (x:AV) (m:Mem):Prop:=K ⟨putE dst x env,m⟩
def QAZ (m:Mem):Option Nat→Prop
 | some d=>d<m.wid
 | none=>True
def QV (m:Mem) (dst:Option Nat):Nat:=m.base+dst.getD 0
def QBO (m:Mem) (dst:Option Nat) (u:Upd):Bool:=
 match dst with
 | some d=>(lk u (m.base+d)).isNone||(m.find (m.base+d)).isNone
 | none=>(lk u m.base).isNone
def evS (r:Option (AV×Upd)) (dst:Option Nat) (σ:St) (K:St→Prop):Prop:=
 match r with
 | some (x,u)=>QAZ σ.mem dst∧QBO σ.mem dst u=true∧K ⟨putE dst x σ.env,σ.mem.upd u⟩
 | none=>False
def QAt:AV→Option (FuncId×List AV×List AV)
 | .v (.func (.func g) a c)=>if a.size=0∧c.size=0 then some (g,[],[]) else none
 | .clo (.func g) a c=>some (g,a,c)
 | _=>none
def evC (P:Program) (γ:GTab) (r:Option (FuncId×List AV×List AV)) (args:List AV) (dst:Option Nat) (σ:St) (K:St→Prop):Prop:=
 match r with
 | some (g,a,c)=>QAZ σ.mem dst∧Qr P γ g ((a++args++c).map unf) σ.mem (QRs dst σ.env K)
 | none=>False
def QMP:AV→Option Nat
 | .yld o=>some o
 | _=>none
def evY (P:Program) (γ:GTab) (r:Option Nat) (args:List AV) (dst:Option Nat) (σ:St) (K:St→Prop) (other:Prop):Prop:=
 match r with
 | some o=>QAZ σ.mem dst∧QD2 P γ o (args.map unf) σ.mem (QRs dst σ.env K)
 | none=>other
def QDL (P:Program) (t:TypeId):AV→AV→Option Nat
 | .seq n _ _,.v (.slice none 0 0)=>if (Qd P t).isSome then some n else none
 | .sl _ _ n _,.v (.slice none 0 0)=>if (Qd P t).isSome then some n else none
 | _,_=>none
def evN (r:Option Nat) (neg:Bool) (dst:Option Nat) (σ:St) (K:St→Prop) (other:Prop):Prop:=
 match r with
 | some n=>QAZ σ.mem dst∧(n=0→K ⟨putE dst (.v (.bool (!neg))) σ.env,σ.mem⟩)∧K ⟨putE dst (.v (.bool neg)) σ.env,σ.mem⟩
 | none=>other
def evNx (o:Nat) (dst:Option Nat) (σ:St) (K:St→Prop) (ob:Option AObj):Prop:=
 match ob with
 | some (.miter _ ks xs)=>QAZ σ.mem dst∧(ks=[]→K ⟨putE dst (.tup [.v (.bool false)]) σ.env,σ.mem⟩)∧
   ∀i k x,ks[i]?=some k→xs[i]?=some x→K ⟨putE dst (.tup [.v (.bool true),.v k,x]) σ.env,σ.mem.upd [(o,.miter (some (k,x)) (ks.eraseIdx i) (xs.eraseIdx i))]⟩
 | _=>False
def QMH (x:AV) (isStr:Bool) (dst:Option Nat) (σ:St) (K:St→Prop):Prop:=
 match x,isStr with
 | .it o,false=>evNx o dst σ K (σ.mem.find o)
 | _,_=>False
def evO (P:Program) (γ:GTab) (o:Oper) (σ:St) (K:St→Prop):Prop:=
 match o.op with
 | .call { callee:=.value f,args,.. }=>evY P γ (QMP (rho γ σ.env f)) (args.toList.map (rho γ σ.env)) o.dst σ K (evC P γ (QAt (rho γ σ.env f)) (args.toList.map (rho γ σ.env)) o.dst σ K)
 | .binOp .eql t x y _=>evN (QDL P t (unf (rho γ σ.env x)) (rho γ σ.env y)) false o.dst σ K (evS (QBR P (rho γ σ.env) σ.mem.find (QV σ.mem o.dst) o.op) o.dst σ K)
 | .binOp .neq t x y _=>evN (QDL P t (unf (rho γ σ.env x)) (rho γ σ.env y)) true o.dst σ K (evS (QBR P (rho γ σ.env) σ.mem.find (QV σ.mem o.dst) o.op) o.dst σ K)
 | .next x isStr=>QMH (rho γ σ.env x) isStr o.dst σ K
 | _=>evS (QBR P (rho γ σ.env) σ.mem.find (QV σ.mem o.dst) o.op) o.dst σ K
def QD5:Value→Option Bool
 | .bool b=>some b
 | _=>none
def QHP:AV→Option Bool
 | .v x=>QD5 x
 | _=>none
def evBb (b:Option Bool) (want:Bool) (yes no:Prop):Prop:=
 match b with
 | some b=>(b=want→yes)∧(b=(!want)→no)
 | none=>False
def evB (b:Option AV) (want:Bool) (yes no:Prop):Prop:=evBb (b.bind QHP) want yes no
def QGi:Option AV→Bool
 | some (.v (.tuple ⟨[]⟩))=>true
 | _=>false
def evU (b:Bool) (skip other:Prop):Prop:=
 match b with
 | true=>skip
 | false=>other
def evG (P:Program) (γ:GTab) (all:Array Oper) (o:Oper) (σ:St) (K:St→Prop):Prop:=
 match o.guard with
 | none=>evO P γ o σ K
 | some (j,want)=>match (all[j]?).bind (·.dst) with
  | some d=>evU (QGi (lk σ.env d)) (K ⟨putE o.dst (.v undef) σ.env,σ.mem⟩) (evB (lk σ.env d) want (evO P γ o ⟨(d,.v (.bool want))::σ.env,σ.mem⟩ K) (K ⟨putE o.dst (.v undef) ((d,.v (.bool (!want)))::σ.env),σ.mem⟩))
  | none=>False
mutual
def idf:AV→Bool
 | .v _=>true
 | .agg xs=>idfL xs
 | .tup xs=>idfL xs
 | .seq _ _ xs=>idfL xs
 | .full _ _ xs=>idfL xs
 | .rop xs=>idfL xs
 | .mv _ _ xs=>idfL xs
 | .clo _ f c=>idfL f&&idfL c
 | .ifc _ x=>idf x
 | .on _ _ x=>idf x
 | .top=>true
 | _=>false
def idfL:List AV→Bool
 | []=>true
 | x::xs=>idf x&&idfL xs
end
structure Ext0 (S:Nat→Nat→Prop) (w:World) (S':Nat→Nat→Prop) (w':World):Prop where
 os:w'.os=w.os
 tape:QCX w w'
 output:w'.output=w.output
 size:w.heap.size≤w'.heap.size
 sub:∀b off,S b off→S' b off
 new:∀b off,b<w.heap.size→S' b off→S b off
 old:∀b off,S' b off→b<w'.heap.size
 heap:∀b,b<w.heap.size→w'.heap[b]?=w.heap[b]?
 uf:∀b,b<w.heap.size→Uf w b→Uf w' b
def μ0:Nat→Option (Nat×Nat):=fun _=>none
def QE (P:Program) (γ:GTab) (f:FuncId) (xs:List AV) (r:AV):Prop:=
 idfL xs=true∧idf r=true∧QBa P f∧∀(S:Nat→Nat→Prop) (w:World) (vs:List Value),(∀b off,S b off→b<w.heap.size)→GOK γ S w→RepL S μ0 w xs vs→
  Calls P f vs.toArray w fun e w'=>∃v S',e=.returned v∧Ext0 S w S' w'∧Rep S' μ0 w' r v
def PNew (P:Program) (γ:GTab) (f:FuncId) (xs:List AV) (r:AV):Prop:=
 idfL xs=true∧idf r=true∧QBa P f∧∀(S:Nat→Nat→Prop) (w:World) (vs:List Value),(∀b off,S b off→b<w.heap.size)→GOK γ S w→RepL S μ0 w xs vs→
  Calls P f vs.toArray w fun e w'=>∃v,e=.returned v∧Ext0 S w (fun b off=>S b off∨(w.heap.size≤b∧b<w'.heap.size)) w'∧Rep (fun b _=>w.heap.size≤b∧b<w'.heap.size∧Uf w' b) μ0 w' r v
mutual
def scl:AV→Bool
 | .v _=>true
 | .agg xs=>sclL xs
 | .tup xs=>sclL xs
 | _=>false
def sclL:List AV→Bool
 | []=>true
 | x::xs=>scl x&&sclL xs
end
mutual
theorem Qah:∀(x:AV),scl x=true→idf x=true
 | .v _,_=>rfl
 | .agg xs,h=>by simp only [scl,idf] at*; exact sclL_idf xs h
 | .tup xs,h=>by simp only [scl,idf] at*; exact sclL_idf xs h
 | .seq _ _ _,h=>by simp [scl] at h
 | .full _ _ _,h=>by simp [scl] at h
 | .slc _ _ _ _,h=>by simp [scl] at h
 | .rop _,h=>by simp [scl] at h
 | .ptr _ _,h=>by simp [scl] at h
 | .sl _ _ _ _,h=>by simp [scl] at h
 | .mp _,h=>by simp [scl] at h
 | .mv _ _ _,h=>by simp [scl] at h
 | .it _,h=>by simp [scl] at h
 | .clo _ _ _,h=>by simp [scl] at h
 | .ifc _ _,h=>by simp [scl] at h
 | .on _ _ _,h=>by simp [scl] at h
 | .bs _ _,h=>by simp [scl] at h
 | .bp _,h=>by simp [scl] at h
 | .yld _,h=>by simp [scl] at h
 | .top,h=>by simp [scl] at h
theorem sclL_idf:∀(xs:List AV),sclL xs=true→idfL xs=true
 | [],_=>rfl
 | x::xs,h=>by simp only [sclL,idfL,Bool.and_eq_true] at*; exact⟨Qah x h.1,sclL_idf xs h.2⟩
end
mutual
theorem Rep.scl {S S' μ μ'} {w w':World}:∀(x:AV) (v:Value),scl x=true→Rep S μ w x v→Rep S' μ' w' x v
 | .v x,v,_,r=>by simpa [Rep] using r
 | .agg xs,v,h,r=>by
  simp only [Rep,Go.AW.scl] at*
  obtain⟨ys,e,r,o⟩:=r
  exact⟨ys,e,RepL.scl xs ys h r,o⟩
 | .tup xs,v,h,r=>by
  simp only [Rep,Go.AW.scl] at*
  obtain⟨ys,e,r⟩:=r
  exact⟨ys,e,RepL.scl xs ys h r⟩
 | .seq _ _ _,_,h,_=>by simp [Go.AW.scl] at h
 | .full _ _ _,_,h,_=>by simp [Go.AW.scl] at h
 | .slc _ _ _ _,_,h,_=>by simp [Go.AW.scl] at h
 | .rop _,_,h,_=>by simp [Go.AW.scl] at h
 | .ptr _ _,_,h,_=>by simp [Go.AW.scl] at h
 | .sl _ _ _ _,_,h,_=>by simp [Go.AW.scl] at h
 | .mp _,_,h,_=>by simp [Go.AW.scl] at h
 | .mv _ _ _,_,h,_=>by simp [Go.AW.scl] at h
 | .it _,_,h,_=>by simp [Go.AW.scl] at h
 | .clo _ _ _,_,h,_=>by simp [Go.AW.scl] at h
 | .ifc _ _,_,h,_=>by simp [Go.AW.scl] at h
 | .on _ _ _,_,h,_=>by simp [Go.AW.scl] at h
 | .bs _ _,_,h,_=>by simp [Go.AW.scl] at h
 | .bp _,_,h,_=>by simp [Go.AW.scl] at h
 | .yld _,_,h,_=>by simp [Go.AW.scl] at h
 | .top,_,h,_=>by simp [Go.AW.scl] at h
theorem RepL.scl {S S' μ μ'} {w w':World}:∀(xs:List AV) (ys:List Value),sclL xs=true→RepL S μ w xs ys→RepL S' μ' w' xs ys
 | [],ys,_,r=>by simpa [RepL] using r
 | x::xs,ys,h,r=>by
  simp only [RepL,sclL,Bool.and_eq_true] at*
  obtain⟨y,zs,e,r1,r2⟩:=r
  exact⟨y,zs,e,Rep.scl x y h.1 r1,RepL.scl xs zs h.2 r2⟩
end
def μ1 (p:Option (Nat×Nat)):Nat→Option (Nat×Nat):=fun o=>if o=0 then p else none
def POwn (P:Program) (γ:GTab) (f:FuncId) (xs:List AV) (n z:Nat) (E:TypeId) (cs:List AV):Prop:=
 idfL xs=true∧sclL cs=true∧QBa P f∧∀(S:Nat→Nat→Prop) (w:World) (vs:List Value),(∀b off,S b off→b<w.heap.size)→GOK γ S w→RepL S μ0 w xs vs→
  Calls P f vs.toArray w fun en w'=>∃v p,en=.returned v∧Ext0 S w S w'∧RepO (fun _ _=>False) (μ1 p) w' 0 (.cells E cs true)∧Rep (fun _ _=>False) (μ1 p) w' (.sl 0 0 n z) v∧∀b bo,p=some (b,bo)→w.heap.size≤b∧b<w'.heap.size
def ownU (σ:St) (dst:Option Nat) (E:TypeId) (cs:List AV):Upd:=[(QV σ.mem dst,.cells E cs true)]
def oids:AV→List Nat
 | .ptr o _=>[o]
 | .sl o _ _ _=>[o]
 | .slc o _ _ _=>[o]
 | .mp o=>[o]
 | .it o=>[o]
 | .bs o _=>[o]
 | .bp o=>[o]
 | .yld o=>[o]
 | _=>[]
def QBV (f:AV→Option (AV×List Nat)):List AV→Option (List AV×List Nat)
 | []=>some ([],[])
 | x::xs=>match f x,QBV f xs with
  | some p,some q=>some (p.1::q.1,p.2++q.2)
  | _,_=>none
def QAO (f:AV→Option (AV×List Nat)) (xs:List AV):Option (List AV×List Nat):=if idfL xs then some (xs,[]) else QBV f xs
def snap (find:Nat→Option AObj):Nat→AV→Option (AV×List Nat)
 | 0,_=>none
 | n+1,x=>match x with
  | .ptr o off=>match find o with
   | some (.cells _ ys _)=>(QAO (snap find n) ys).map fun p=>(.rop (p.1.drop off),o::p.2)
   | some (.imm ys)=>(QAO (snap find n) ys).map fun p=>(.rop (p.1.drop off),o::p.2)
   | _=>none
  | .sl o off k sz=>match find o with
   | some (.cells _ ys _)=>if off+k*sz≤ys.length then (QAO (snap find n) ys).map fun p=>(.seq k sz ((p.1.drop off).take (k*sz)),o::p.2) else none
   | some (.imm ys)=>if off+k*sz≤ys.length then (QAO (snap find n) ys).map fun p=>(.seq k sz ((p.1.drop off).take (k*sz)),o::p.2) else none
   | _=>none
  | .mp o=>match find o with
   | some (.map kt ks xs)=>(QAO (snap find n) xs).map fun p=>(.mv kt ks p.1,o::p.2)
   | _=>none
  | .agg xs=>(QAO (snap find n) xs).map fun p=>(.agg p.1,p.2)
  | .tup xs=>(QAO (snap find n) xs).map fun p=>(.tup p.1,p.2)
  | .clo fn f c=>if idfL f then (QAO (snap find n) c).map fun p=>(.clo fn f p.1,p.2) else none
  | x=>if idf x then some (x,[]) else none
def QGI:AV→Bool
 | .v _=>true
 | .tup xs=>xs.all fun | .v _=>true | _=>false
 | .agg xs=>xs.all fun | .v _=>true | _=>false
 | _=>false
def QJ (find:Nat→Option AObj):List AV→Option (List AV×List Nat)
 | []=>some ([],[])
 | x::xs=>match snap find 12 x,QJ find xs with
  | some p,some q=>some (p.1::q.1,p.2++q.2)
  | _,_=>none
def ordB (all:Array Oper):Nat→Nat→Nat→Bool
 | 0,_,_=>false
 | n+1,j,i=>((all[i]?).map fun o=>o.after.toList.any fun e=>Region.binds .any e&&(e.on==j||ordB all n j e.on)).getD false
abbrev Log:=List (Nat×List Nat×List Nat)
def meet (a b:List Nat):Bool:=a.any fun o=>b.contains o
def QBL (all:Array Oper) (i:Nat) (rd wr:List Nat) (log:Log):Bool:=
 log.all fun e=>!(meet wr e.2.1||meet wr e.2.2||meet rd e.2.2)||ordB all all.size e.1 i
def fpOf (γ:GTab) (env:List (Nat×AV)) (op:Op):List Nat:=op.operands.toList.flatMap fun x=>oids (rho γ env x)
def wrOf (u:Upd):List Nat:=u.map (·.1)
def evDS (all:Array Oper) (i:Nat) (fp:List Nat) (log:Log) (r:Option (AV×Upd)) (dst:Option Nat) (σ:St) (K:Log→St→Prop):Prop:=
 match r with
 | some (x,u)=>QAZ σ.mem dst∧QBO σ.mem dst u=true∧QBL all i fp (wrOf u) log=true∧K ((i,fp,wrOf u)::log) ⟨putE dst x σ.env,σ.mem.upd u⟩
 | none=>False
def retTo0 (dst:Option Nat) (σ:St) (log:Log) (K:Log→St→Prop) (x:AV):Prop:=K log ⟨putE dst x σ.env,σ.mem⟩
def Fit (P:Program) (γ:GTab) (g:FuncId) (xs:List AV) (ids:List Nat) (r:AV):Prop:=(QE P γ g xs r∧(QGI r=true∨ids=[]))∨PNew P γ g xs r
def QHB (P:Program) (γ:GTab) (g:FuncId) (xs:List AV) (ids:List Nat) (K:AV→Prop):Prop:=
 ∃r,Fit P γ g xs ids r∧K r
def QBj (find:Nat→Option AObj) (ids:List Nat):Upd:=(ids.filter fun o=>(find o).isSome).map fun o=>(o,.dead)
def frO (m:Mem) (dst:Option Nat):Option Nat:=dst.map (m.base+·)
def DRun (P:Program) (γ:GTab) (g:FuncId) (xs:List AV) (ids:List Nat) (f:Nat→Option AObj) (n:Nat) (fr:Option Nat) (x:AV) (u:Upd):Prop:=
 QBa P g∧∀(m:Mem) (S:Nat→Nat→Prop) (μ:Nat→Option (Nat×Nat)) (w:World) (vs:List Value),(∀q∈ids,m.find q=f q)→m.next=n→(∀q,fr=some q→q<m.next∧(m.find q=none→μ q=none))→RM S μ w m→GOK γ S w→RepL S μ w xs vs→
  Calls P g vs.toArray w fun e w'=>∃v S' μ',e=.returned v∧RM S' μ' w' (m.upd u)∧Keeps S μ w S' μ' w'∧(∀n0,n0≤m.next→(∀q,fr=some q→n0≤q)→Ext n0 m S μ w (m.upd u) S' μ' w')∧Rep S' μ' w' x v
def evDC0 (P:Program) (γ:GTab) (all:Array Oper) (i:Nat) (log:Log) (g:FuncId) (r:Option (List AV×List Nat)) (dst:Option Nat) (σ:St) (K:Log→St→Prop):Prop:=
 match r with
 | some (xs,ids)=>QAZ σ.mem dst∧((QBL all i ids [] log=true∧QHB P γ g xs ids (retTo0 dst σ ((i,ids,[])::log) K))∨
   (QBL all i ids (wrOf (QBj σ.mem.find ids)) log=true∧∃x,QE P γ g xs x∧K ((i,ids,wrOf (QBj σ.mem.find ids))::log) ⟨putE dst x σ.env,σ.mem.upd (QBj σ.mem.find ids)⟩)∨
   (∃n z E cs,POwn P γ g xs n z E cs∧QBO σ.mem dst (ownU σ dst E cs)=true∧QBL all i ids (wrOf (ownU σ dst E cs)) log=true∧K ((i,ids,wrOf (ownU σ dst E cs))::log) ⟨putE dst (.sl (QV σ.mem dst) 0 n z) σ.env,σ.mem.upd (ownU σ dst E cs)⟩))
 | none=>False
def QO (P:Program) (γ:GTab) (all:Array Oper) (i:Nat) (log:Log) (g:FuncId) (xs:List AV) (r:Option (List AV×List Nat)) (dst:Option Nat) (σ:St) (K:Log→St→Prop):Prop:=
 evDC0 P γ all i log g r dst σ K∨(QAZ σ.mem dst∧∃ids x u,DRun P γ g xs ids σ.mem.find σ.mem.next (frO σ.mem dst) x u∧QBO σ.mem dst u=true∧QBL all i ids (wrOf u) log=true∧K ((i,ids,wrOf u)::log) ⟨putE dst x σ.env,σ.mem.upd u⟩)
def evDC (P:Program) (γ:GTab) (all:Array Oper) (i:Nat) (log:Log) (r:Option (FuncId×List AV×List AV)) (args:List AV) (dst:Option Nat) (σ:St) (K:Log→St→Prop):Prop:=
 match r with
 | some (g,a,c)=>QO P γ all i log g ((a++args++c).map unf) (QJ σ.mem.find ((a++args++c).map unf)) dst σ K
 | none=>False
def evDO (P:Program) (γ:GTab) (all:Array Oper) (i:Nat) (log:Log) (o:Oper) (σ:St) (K:Log→St→Prop):Prop:=
 match o.op with
 | .call { callee:=.value f,args,.. }=>evDC P γ all i log (QAt (rho γ σ.env f)) (args.toList.map (rho γ σ.env)) o.dst σ K
 | _=>evDS all i (fpOf γ σ.env o.op) log (QBR P (rho γ σ.env) σ.mem.find (QV σ.mem o.dst) o.op) o.dst σ K
def evDG (P:Program) (γ:GTab) (all:Array Oper) (i:Nat) (log:Log) (o:Oper) (σ:St) (K:Log→St→Prop):Prop:=
 match o.guard with
 | none=>evDO P γ all i log o σ K
 | some (j,want)=>match (all[j]?).bind (·.dst) with
  | some d=>evU (QGi (lk σ.env d)) (K log ⟨putE o.dst (.v undef) σ.env,σ.mem⟩) (evB (lk σ.env d) want (evDO P γ all i log o ⟨(d,.v (.bool want))::σ.env,σ.mem⟩ K) (K log ⟨putE o.dst (.v undef) ((d,.v (.bool (!want)))::σ.env),σ.mem⟩))
  | none=>False
def Mem.open_ (m:Mem) (n:Nat):Mem:={ objs:=m.objs,next:=m.next+n,base:=m.next,wid:=n }
def Mem.close (m:Mem):Mem:={ objs:=m.objs,next:=m.next,base:=m.next,wid:=0 }
def evDL (P:Program) (γ:GTab) (all:Array Oper):Nat→List Oper→(St→Prop)→Log→St→Prop
 | _,[],K,_,σ=>K ⟨σ.env,σ.mem.close⟩
 | i,o::l,K,log,σ=>evDG P γ all i log o σ (evDL P γ all (i+1) l K)
def Ent (n0:Nat) (σ σ':St):Prop:=
 ∀(S:Nat→Nat→Prop) (μ:Nat→Option (Nat×Nat)) (w:World) (a:Act),RM S μ w σ.mem→(∀t x,lk σ.env t=some x→Rep S μ w x (a.tmps.getD t undef))→
  ∃S' μ',RM S' μ' w σ'.mem∧(∀t x,lk σ'.env t=some x→Rep S' μ' w x (a.tmps.getD t undef))∧(∀b off,S b off→S' b off)∧(∀b off,S' b off→S b off∨Q6 σ.mem μ b)∧
   (∀o,o<n0→μ' o=μ o)∧(∀o,o<n0→σ'.mem.find o≠none→σ.mem.find o≠none)∧n0≤σ'.mem.base∧σ'.mem.wid=0∧(∀b,Q6 σ'.mem μ' b→Q6 σ.mem μ b)
def QNF (env:List (Nat×AV)) (c:Operand) (b:Bool):List (Nat×AV):=
 match c with
 | .tmp t=>(t,.v (.bool b))::env
 | _=>env
def evBg (o:Nat) (σ:St) (K:St→Prop) (ob:Option AObj):Prop:=
 match ob with
 | some (.loop N ts xs ps as bd .ready pe)=>K ⟨σ.env,σ.mem.upd [(o,.loop N ts xs ps as bd .busy pe)]⟩
 | _=>False
def clE:List Nat→List (Nat×AV)→List (Nat×AV)
 | _,[]=>[]
 | s,(t,x)::e=>if s.contains t then clE s e else (t,x)::clE (t::s) e
def QJs:List KI→Bool
 | .rnd _::_=>false
 | _::k=>QJs k
 | []=>true
def QQG (o:Nat) (env:List (Nat×AV)) (K:St→Prop) (E:Nat→St→Prop) (R:St→Prop) (m:Mem) (ob:Option AObj):Prop:=
 match ob with
 | some (.loop _ _ _ _ _ _ .ready none)=>K ⟨env,m.upd [(o,.dead)]⟩
 | some (.loop _ _ _ _ _ _ .done (some (.exit id)))=>E id ⟨env,m.upd [(o,.dead)]⟩
 | some (.loop _ _ _ _ _ _ .done (some .ret))=>R ⟨env,m.upd [(o,.dead)]⟩
 | _=>False
def rfTo (o:Nat) (env:List (Nat×AV)) (K:St→Prop) (E:Nat→St→Prop) (R:St→Prop) (_:AV) (m:Mem):Prop:=QQG o env K E R m (m.find o)
def rfM (N:Nat) (ps:Array Nat) (assign body:Code) (e:List (Nat×AV)) (m:Mem):Mem:=⟨(m.next,.loop N (e.map (·.1)) (e.map (·.2)) ps assign body .ready none)::m.objs,m.next+1,m.base,m.wid⟩
def evRF (P:Program) (γ:GTab) (N:Nat) (r:Option (FuncId×List AV×List AV)) (ps:Array Nat) (assign body:Code) (nr:Bool) (σ:St) (K:St→Prop) (E:Nat→St→Prop) (R:St→Prop):Prop:=
 match r with
 | some (g,a,c)=>nr=true∧Qr P γ g ((a++(AV.yld σ.mem.next::c)).map unf) (rfM N ps assign body (clE [] σ.env) σ.mem) (rfTo σ.mem.next σ.env K E R)
 | none=>False
def retE (r:Option (Exit→St→Prop)) (σ:St):Prop:=
 match r with
 | some Q=>Q .ret σ
 | none=>False
def ev (P:Program) (γ:GTab) (n0 N:Nat) (k:List KI) (σ:St):Prop:=
 match k with
 | []=>False
 | .fin Q::_=>Q .normal σ
 | .blk _::k=>ev P γ n0 N k σ
 | .scp::k=>ev P γ n0 N k σ
 | .lp J::_=>J σ
 | .bg o::k=>evBg o σ (fun σ'=>ev P γ n0 N k σ') (σ.mem.find o)
 | .rnd J::_=>J none σ
 | .rj j J::_=>J j σ
 | .ops _ []::k=>ev P γ n0 N k ⟨σ.env,σ.mem.close⟩
 | .ops all (o::l)::k=>evG P γ all o σ (fun σ'=>ev P γ n0 N (.ops all l::k) σ')
 | .code (.region _ ops false)::k=>ev P γ n0 N (.ops ops ops.toList::k) ⟨σ.env,σ.mem.open_ N⟩
 | .code (.region _ ops true)::k=>evDL P γ ops 0 ops.toList (fun σ'=>ev P γ n0 N k σ') [] ⟨σ.env,σ.mem.open_ N⟩
 | .code (.seq a b)::k=>ev P γ n0 N (.code a::.code b::k) σ
 | .code (.cond c a b)::k=>evB (some (rho γ σ.env c)) true (ev P γ n0 N (.code a::k) ⟨QNF σ.env c true,σ.mem⟩) (ev P γ n0 N (.code b::k) ⟨QNF σ.env c false,σ.mem⟩)
 | .code (.block id c)::k=>ev P γ n0 N (.code c::.blk id::k) σ
 | .code (.loop c)::k=>∃(ι:Type) (st:ι→St) (I:ι→Prop) (ms:ι→Nat) (i0:ι),I i0∧Ent n0 σ (st i0)∧
   ∀i,I i→ev P γ n0 N (.code c::.lp (fun σ'=>∃j,I j∧ms j<ms i∧Ent n0 σ' (st j))::k) (st i)
 | .code (.exit id)::k=>match h:QBG id k with
  | some k'=>ev P γ n0 N k' σ
  | none=>False
 | .code (.scope c)::k=>ev P γ n0 N (.code c::.scp::k) σ
 | .code (.rangeFunc g ps assign body)::k=>evRF P γ N (QAt (rho γ σ.env g)) ps assign body (QJs k) σ (fun σ'=>ev P γ n0 N k σ')
   (fun id σ'=>match h:QBG id k with
    | some k'=>ev P γ n0 N k' σ'
    | none=>False)
   (fun σ'=>retE (retK k) σ')
 | .code (.label _)::k=>ev P γ n0 N k σ
 | .code .skip::k=>ev P γ n0 N k σ
 | .code .ret::k=>match retK k with
  | some Q=>Q .ret σ
  | none=>False
 | .code _::_=>False
termination_by kz k
decreasing_by
 all_goals simp only [kz,iz,cz,List.length_cons,Array.length_toList]
 all_goals first | omega | (have:=QO4 h;omega) | (have:=QIH ‹_›;omega)
variable {P : Program} {γ : GTab} {n0 N : Nat} {m0 : Mem} {S0 : Nat → Nat → Prop} {μs : Nat → Option (Nat × Nat)} {w0 : World}
def RX (γ:GTab) (N n0:Nat) (m0:Mem) (S0:Nat→Nat→Prop) (μs:Nat→Option (Nat×Nat)) (w0:World) (σ:St) (a:Act) (w:World):Prop:=
 ∃S μ,RA γ S μ w σ.mem σ.env a∧GOK γ S w∧Ext n0 m0 S0 μs w0 σ.mem S μ w∧AOK N w0 a∧n0≤σ.mem.base∧σ.mem.wid≤N
theorem QWB {a:Act} {d t:Nat} {v:Value} (h:d<a.tmps.size):(a.put (some d) v).tmps.getD t undef=if d=t then v else a.tmps.getD t undef:=by
 simp only [Act.put,Array.getD_eq_getD_getElem?,Array.getElem?_setIfInBounds]
 by_cases e:d=t
 ·subst e;simp [h]
 ·simp [e]
theorem QHY {a:Act} {d t:Nat}:(a.put (some d) undef).tmps.getD t undef=if d=t then undef else a.tmps.getD t undef:=by
 simp only [Act.put,Array.getD_eq_getD_getElem?,Array.getElem?_setIfInBounds]
 by_cases e:d=t
 ·subst e;by_cases h:d<a.tmps.size<;>simp [h]
 ·simp [e]
theorem QAB {a:Act} {d:Option Nat} {v:Value}:(a.put d v).defers=a.defers:=by cases d<;>simp [Act.put]
theorem QCQ {S μ} {w:World} {env:List (Nat×AV)} {a:Act} {dst:Option Nat} {x:AV} {v:Value} (h:∀t x,lk env t=some x→Rep S μ w x (a.tmps.getD t undef)) (hd:∀d,dst=some d→d<a.tmps.size) (hx:Rep S μ w x v):
  ∀t y,lk (putE dst x env) t=some y→Rep S μ w y ((a.put dst v).tmps.getD t undef):=by
 intro t y ht
 cases dst with
 | none=>exact h t y ht
 | some d=>
  simp only [putE,lk] at ht
  rw [QWB (hd d rfl)]
  split at ht
  ·rename_i e;simp only [Option.some.injEq] at ht;subst ht;simpa [e] using hx
  ·rename_i e;rw [if_neg e];exact h t y ht
theorem QEy {S μ} {w:World} {env:List (Nat×AV)} {a:Act} {dst:Option Nat} (h:∀t x,lk env t=some x→Rep S μ w x (a.tmps.getD t undef)):
  ∀t y,lk (putE dst (.v undef) env) t=some y→Rep S μ w y ((a.put dst undef).tmps.getD t undef):=by
 intro t y ht
 cases dst with
 | none=>exact h t y ht
 | some d=>
  simp only [putE,lk] at ht
  rw [QHY]
  split at ht
  ·rename_i e;simp only [Option.some.injEq] at ht;subst ht;simp [e,Rep]
  ·rename_i e;rw [if_neg e];exact h t y ht
theorem RX.keepEnv {S μ S' μ'} {w w':World} {env:List (Nat×AV)} {a:Act} (hk:Keeps S μ w S' μ' w') (h:∀t x,lk env t=some x→Rep S μ w x (a.tmps.getD t undef)):∀t x,lk env t=some x→Rep S' μ' w' x (a.tmps.getD t undef):=
 fun t x ht=>Rep.keep hk x _ (h t x ht)
theorem RX.step {σ:St} {a:Act} {w:World} {o:Oper} {x:AV} {u:Upd} (h:RX γ N n0 m0 S0 μs w0 σ a w) (hs:QBR P (rho γ σ.env) σ.mem.find (QV σ.mem o.dst) o.op=some (x,u)) (hd:QAZ σ.mem o.dst) (hu:QBO σ.mem o.dst u=true):
  ∃nx v w',(execOp a.eval o).run P w=.ok nx w'∧(nx=.value v∨(nx=.skip∧v=undef))∧RX γ N n0 m0 S0 μs w0 ⟨putE o.dst x σ.env,σ.mem.upd u⟩ (a.put o.dst v) w':=by
 obtain⟨S,μ,hA,hG,hE,hN,hb,hwid⟩:=h
 have hN1:=hN.1
 obtain⟨nx,v,w',μ',h1,h2,h3,h4⟩:=QPb hA hG hs (fun hl=>by
  cases hdst:o.dst with
  | none=>
   rw [hdst] at hu hl
   simp only [QBO] at hu
   simp only [QV,Option.getD_none,Nat.add_zero] at hl
   rw [Option.isSome_iff_ne_none] at hl
   rw [Option.isNone_iff_eq_none] at hu
   exact absurd hu hl
  | some d=>
   rw [hdst] at hu hl hd
   simp only [QBO,Bool.or_eq_true,Option.isNone_iff_eq_none] at hu
   simp only [QV,Option.getD_some] at hl ⊢
   simp only [QAZ] at hd
   rcases hu with hu | hu
   ·rw [hu] at hl;cases hl
   ·exact⟨by omega,by omega,hu⟩)
 refine⟨nx,v,w',h1,h2,S,μ',⟨h4.rm,?_,by rw [QAB];exact hA.defers.ext h4.ext⟩,hG.keep h4.keep,hE.trans hb h4.ext,hN.put _ _,hb,hwid⟩
 refine QCQ (RX.keepEnv h4.keep hA.env) (fun d hdst=>?_) h3
 rw [hdst] at hd
 simp only [QAZ] at hd
 omega
theorem QFc {f:FuncId} (h:QBa P f) (args:Array Value) (w:World):(callFunc f args).run P w=.ok (.enter f args) w:=by
 obtain⟨fn,h1,h2,h3⟩:=h
 have h2':fn.name≠ "runtime.NumGoroutine":=by simpa using h2
 have h3':fn.body≠none:=fun e=>by rw [e] at h3;cases h3
 simp [callFunc,h1,h2',h3']
theorem QB5 {x:AV} {g:FuncId} {p q:List AV} {v:Value} {S μ} {w:World} (h:QAt x=some (g,p,q)) (hx:Rep S μ w x v):∃fs cs:List Value,v=.func (.func g) fs.toArray cs.toArray∧RepL S μ w p fs∧RepL S μ w q cs:=by
 unfold QAt at h
 split at h
 ·split at h
  ·rename_i hsz
   simp only [Option.some.injEq,Prod.mk.injEq] at h
   obtain⟨rfl,rfl,rfl⟩:=h
   simp only [Rep] at hx
   have e1:=Array.eq_empty_of_size_eq_zero hsz.1
   have e2:=Array.eq_empty_of_size_eq_zero hsz.2
   rw [e1,e2] at hx
   exact⟨[],[],hx,by simp [RepL],by simp [RepL]⟩
  ·cases h
 ·simp only [Option.some.injEq,Prod.mk.injEq] at h
  obtain⟨rfl,rfl,rfl⟩:=h
  simp only [Rep] at hx
  obtain⟨fs,cs,h1,h2,h3⟩:=hx
  exact⟨fs,cs,h1,h2,h3⟩
 ·cases h
theorem QEi {f:Operand} {args:Array Operand} {ts:Array TypeId} {dst:Option Nat} {ty:TypeId} {pos:String} {after:Array Edge} {guard:Option (Nat×Bool)} {a:Act} {w:World} {g:FuncId} {fs cs:List Value} (hf:a.eval f=.func (.func g) fs.toArray cs.toArray) (hc:QBa P g):
  (execOp a.eval ⟨dst,.call ⟨.value f,args,ts⟩,ty,pos,after,guard⟩).run P w=.ok (.enter g (fs++(args.map a.eval).toList++cs).toArray) w:=by
 simp only [execOp,resolve,hf,Deferred.ofValue,Sem.run_bind,Sem.run_pure,Result.andThen_ok,invoke,QFc hc]
 congr 2
 apply Array.ext';simp
theorem Qa3 {r:Option (AV×Upd)} {dst:Option Nat} {σ:St} {K:St→Prop} (h:evS r dst σ K):∃x u,r=some (x,u)∧QAZ σ.mem dst∧QBO σ.mem dst u=true∧K ⟨putE dst x σ.env,σ.mem.upd u⟩:=by
 unfold evS at h
 split at h
 ·rename_i x u;exact⟨x,u,rfl,h⟩
 ·exact h.elim
theorem QTw {t:TypeId} {x y:AV} {n:Nat} {v z:Value} {S μ} {w:World} (h:QDL P t x y=some n) (hx:Rep S μ w x v) (hy:Rep S μ w y z) (xo yo:Operand):∃b:Bool,(b=true→n=0)∧(do eqGuard .eql t xo yo v z;binOp .eql t v z).run P w=.ok (.bool b) w∧(do eqGuard .neq t xo yo v z;binOp .neq t v z).run P w=.ok (.bool (!b)) w:=by
 have key:∀(base:Option Addr) (cap:Nat) (e:TypeId),Qd P t=some e→(base=none→n=0)→v=.slice base n cap→z=.slice none 0 0→∃b:Bool,(b=true→n=0)∧(do eqGuard .eql t xo yo v z;binOp .eql t v z).run P w=.ok (.bool b) w∧(do eqGuard .neq t xo yo v z;binOp .neq t v z).run P w=.ok (.bool (!b)) w:=by
  intro base cap e he hn hv hz
  subst hv;subst hz
  have heq:(Op.equal t (.slice base n cap) (.slice none 0 0)).run P w=.ok base.isNone w:=by
   have:∀d,(Op.equalIn (d+1) t (.slice base n cap) (.slice none 0 0)).run P w=.ok base.isNone w:=by
    intro d
    cases base<;>simp [Op.equalIn,run_underlying (Qi he)]
   exact this 9999
  refine⟨base.isNone,fun hb=>hn (by simpa using hb),?_,?_⟩
  ·have h1:(eqGuard .eql t xo yo (.slice base n cap) (.slice none 0 0)).run P w=.ok () w:=by simp [eqGuard]
   have h2:binOp .eql t (.slice base n cap) (.slice none 0 0)=(do pure (.bool (← Op.equal t (.slice base n cap) (.slice none 0 0)))):=rfl
   rw [Sem.run_bind,h1];simp [h2,heq]
  ·have h1:(eqGuard .neq t xo yo (.slice base n cap) (.slice none 0 0)).run P w=.ok () w:=by simp [eqGuard]
   have h2:binOp .neq t (.slice base n cap) (.slice none 0 0)=(do pure (.bool (!(← Op.equal t (.slice base n cap) (.slice none 0 0))))):=rfl
   rw [Sem.run_bind,h1];simp [h2,heq]
 unfold QDL at h
 split at h
 ·rename_i n' sz xs
  split at h
  ·rename_i he
   simp only [Option.some.injEq] at h;subst h
   obtain⟨e,he⟩:=Option.isSome_iff_exists.1 he
   simp only [Rep] at hx hy
   obtain⟨base,cap,hv,hn,hl,hc⟩:=hx
   refine key base cap e he (fun hb=>?_) hv hy
   rcases hc with hc | ⟨b,off,hc,_⟩
   ·exact hc
   ·rw [hb] at hc;cases hc
  ·cases h
 ·rename_i o off n' sz
  split at h
  ·rename_i he
   simp only [Option.some.injEq] at h;subst h
   obtain⟨e,he⟩:=Option.isSome_iff_exists.1 he
   simp only [Rep] at hx hy
   obtain⟨base,cap,hv,hn,hc⟩:=hx
   refine key base cap e he (fun hb=>?_) hv hy
   rcases hc with hc | ⟨b,bo,_,hc,_⟩
   ·omega
   ·rw [hb] at hc;cases hc
  ·cases h
 ·cases h
theorem RX.value {σ:St} {a:Act} {w:World} {dst:Option Nat} {x:AV} {v:Value} (h:RX γ N n0 m0 S0 μs w0 σ a w) (hd:QAZ σ.mem dst) (hx:∀S μ,Rep S μ w x v):RX γ N n0 m0 S0 μs w0 ⟨putE dst x σ.env,σ.mem⟩ (a.put dst v) w:=by
 obtain⟨S,μ,hA,hG,hE,hN,hb,hwid⟩:=h
 have hN1:=hN.1
 refine⟨S,μ,⟨hA.rm,QCQ hA.env (fun d hdst=>?_) (hx S μ),by rw [QAB];exact hA.defers⟩,hG,hE,hN.put _ _,hb,hwid⟩
 rw [hdst] at hd;simp only [QAZ] at hd;omega
theorem QCw {α β:Type} (f:α→β) (l:List α) (i:Nat):(l.eraseIdx i).map f=(l.map f).eraseIdx i:=by
 rw [List.eraseIdx_eq_take_drop_succ,List.eraseIdx_eq_take_drop_succ,List.map_append,List.map_take,List.map_drop]
theorem QNX {es:List MapEntry} {seen:Array Nat} {i:Nat} {e:MapEntry} (hn:(es.map (·.born)).Nodup) (he:(es.filter fun e=>!seen.contains e.born)[i]?=some e):
  seen.contains e.born=false∧(es.filter fun x=>!(seen.push e.born).contains x.born)=(es.filter fun e=>!seen.contains e.born).eraseIdx i:=by
 have h1:seen.contains e.born=false:=by
  have:=(List.mem_filter.1 (List.mem_of_getElem? he)).2
  simpa using this
 refine⟨h1,?_⟩
 have h2:(es.filter fun x=>!(seen.push e.born).contains x.born)=(es.filter fun e=>!seen.contains e.born).filter fun x=>!(x.born==e.born):=by
  rw [List.filter_filter]
  refine List.filter_congr fun x _=>?_
  simp only [Array.contains_push,Bool.not_or]
  rw [Bool.beq_comm,Bool.and_comm]
 rw [h2]
 have hn2:((es.filter fun e=>!seen.contains e.born).map (·.born)).Nodup:=hn.sublist (List.filter_sublist.map _)
 generalize (es.filter fun e=>!seen.contains e.born)=l at he hn2
 clear h2 hn h1
 induction l generalizing i with
 | nil=>simp at he
 | cons x l ih=>
  simp only [List.map_cons,List.nodup_cons,List.mem_map,not_exists,not_and] at hn2
  cases i with
  | zero=>
   simp only [List.getElem?_cons_zero,Option.some.injEq] at he
   subst he
   simp only [List.filter_cons,beq_self_eq_true,Bool.not_true,Bool.false_eq_true,if_false,List.eraseIdx_cons_zero]
   refine List.filter_eq_self.2 fun y hy=>?_
   simpa using hn2.1 y hy
  | succ i=>
   simp only [List.getElem?_cons_succ] at he
   have hne:(x.born==e.born)=false:=by
    simp only [beq_eq_false_iff_ne,ne_eq]
    exact fun h=>hn2.1 e (List.mem_of_getElem? he) h.symm
   simp only [List.filter_cons,hne,Bool.not_false,if_true,List.eraseIdx_cons_succ]
   rw [ih he hn2.2]
theorem run_choose (k:Nat) (hk:0<k) (w:World):∃n d,(choose (.mapNext k)).run P w=.ok n { w with drawn:=d }∧n<k∧(k=1→n=0∧d=w.drawn)∧w.drawn≤d:=by
 simp only [choose,Sem.run,Question.forced]
 by_cases h:k≤1
 ·exact⟨0,w.drawn,by simp [h],hk,fun _=>⟨rfl,rfl⟩,Nat.le_refl _⟩
 ·refine⟨(Question.mapNext k).cut (w.tape w.drawn (.mapNext k)),w.drawn+1,by simp [h],?_,fun h1=>by omega,Nat.le_succ _⟩
  simp only [Question.cut]
  exact Nat.mod_lt _ hk
theorem QZv {b r since:Nat} {seen:Array Nat} {es:Array MapEntry} {kt:KT} {ty:TypeId} {w:World} (hb:w.heap[b]?=some (.mapIter (some r) since seen since)) (hm:w.heap[r]?=some (.map es since)) (hok:QKb kt es since):
  ((es.toList.filter fun e=>!seen.contains e.born)=[]∧(Instr.next (.pointer (some ⟨b,0,none⟩)) false ty).run P w=.ok (.tuple #[.bool false]) w)∨
   ∃(d i:Nat) (e:MapEntry),(es.toList.filter fun e=>!seen.contains e.born)[i]?=some e∧(Instr.next (.pointer (some ⟨b,0,none⟩)) false ty).run P w=.ok (.tuple #[.bool true,e.key,e.val]) { w with heap:=w.heap.setIfInBounds b (.mapIter (some r) since (seen.push e.born) since),drawn:=d }∧w.drawn≤d:=by
 have hguard:(!seen.isEmpty&&!es.isEmpty&&es.all (fun e=>decide (e.born≥since)))=false:=by
  cases hes:es.isEmpty with
  | true=>simp
  | false=>
   simp only [Bool.not_false,Bool.and_true]
   rw [Bool.and_eq_false_iff]
   right
   rw [←Bool.not_eq_true,Array.all_eq_true_iff_forall_mem]
   intro h
   have hne:es≠#[]:=fun e=>by subst e;simp at hes
   obtain⟨e,he⟩:=Array.exists_mem_of_ne_empty _ hne
   have h1:=h e he
   have h2:=hok.2.1 e (by simpa using he)
   simp at h1
   omega
 have hold:((es.filter fun e=>!seen.contains e.born).filter fun e=>decide (e.born<since))=(es.filter fun e=>!seen.contains e.born):=by
  refine Array.filter_eq_self.2 fun e he=>?_
  have:=hok.2.1 e (by simpa using (Array.mem_filter.1 he).1)
  simpa using this
 have hnew:((es.filter fun e=>!seen.contains e.born).filter fun e=>decide (e.born≥since))=#[]:=by
  refine Array.filter_eq_empty_iff.2 fun e he=>?_
  have:=hok.2.1 e (by simpa using (Array.mem_filter.1 he).1)
  simp;omega
 have hlt:b<w.heap.size:=(Array.getElem?_eq_some_iff.1 hb).1
 have hget:∀d:Nat,(getObj b).run P { w with drawn:=d }=.ok (.mapIter (some r) since seen since) { w with drawn:=d }:=fun d=>QEf (w:={ w with drawn:=d }) hb
 have hset:∀(o:Obj) (d:Nat),(setObj b o).run P { w with drawn:=d }=.ok () { w with heap:=w.heap.setIfInBounds b o,drawn:=d }:=fun o d=>by
  simp [setObj,Sem.run,hb]
 have hL:(es.filter fun e=>!seen.contains e.born).toList=es.toList.filter fun e=>!seen.contains e.born:=by simp
 unfold Instr.next
 simp only [pure_bind,Sem.run_bind,QEf hb,Result.andThen_ok,QAW hm,hguard,Bool.false_eq_true,if_false,hold,hnew,Array.append_empty]
 generalize hl:(es.filter fun e=>!seen.contains e.born)=left at*
 by_cases he:left=#[]
 ·left
  subst he
  refine⟨by rw [←hL],?_⟩
  obtain⟨n,d,h1,h2,h3,h4⟩:=run_choose (P:=P) 1 (by omega) w
  obtain⟨rfl,rfl⟩:=h3 rfl
  have hsz:((if (#[]:Array MapEntry).isEmpty=true then #[none] else #[])++Array.map some (#[]:Array MapEntry)).size=1:=by simp
  simp only [hsz,h1,Result.andThen_ok]
  simp
 ·right
  have hne:left.isEmpty=false:=by simpa using he
  have hpos:0<left.size:=Array.size_pos_iff.2 he
  simp only [hne,Bool.false_eq_true,if_false,Array.empty_append,Array.size_map]
  obtain⟨n,d,h1,h2,h3,h4⟩:=run_choose (P:=P) left.size hpos w
  refine⟨d,n,left[n],?_,?_,h4⟩
  ·rw [←hL];simp [h2]
  ·simp only [h1,Result.andThen_ok,Array.getElem?_map,Array.getElem?_eq_getElem h2,Option.map_some,Sem.run_bind,hset,Sem.run_pure]
def RF (r:Option Nat):Fence:={ Fence.wide with round:=r }
theorem Oper.wpIn_of {r:Option Nat} {o:Oper} {a:Act} {w:World} {next:Act→World→Prop} {Q:Exit→Act→World→Prop} (hd:∀c,o.op≠.defer c) (h:o.uponIn (RF r) 0 P a next Q ((execOp a.eval o).run P w)):o.wpIn (RF r) 0 P a w next Q:=
 ⟨fun _ _=>trivial,by rw [Oper.semAt_eq _ _ _ hd];exact h⟩
theorem QDc {r:Option Nat} {n:Nat} {f:FuncId} {args:Array Value} {w:World} {R:Ending→World→Prop} (h:Calls P f args w R):CallsIn (RF r) n P f args w R:=(callsIn_wide (n:=n)).2 h
theorem QPl {x:AV} {o:Nat} (h:QMP x=some o):x=.yld o:=by
 unfold QMP at h
 split at h
 ·simp only [Option.some.injEq] at h;rw [h]
 ·cases h
theorem QRD {f:Operand} {args:Array Operand} {ts:Array TypeId} {dst:Option Nat} {ty:TypeId} {pos:String} {after:Array Edge} {guard:Option (Nat×Bool)} {a:Act} {w:World} {b:Nat} {z:Result Next} (hf:a.eval f=.func (.yield b) #[] #[]) (h:(Instr.yield b (args.map a.eval).toList.toArray).run P w=z):
  (execOp a.eval ⟨dst,.call ⟨.value f,args,ts⟩,ty,pos,after,guard⟩).run P w=z:=by
 have e:(args.map a.eval).toList.toArray=args.map a.eval:=by simp only [Array.toArray_toList]
 rw [e] at h
 simp only [execOp,resolve,hf,Deferred.ofValue,Sem.run_bind,Sem.run_pure,Result.andThen_ok,invoke]
 simpa only [Array.empty_append,Array.append_empty] using h
theorem QLE {r:Option Nat} {o:Oper} {σ:St} {K:St→Prop} {a:Act} {w:World} {next:Act→World→Prop} {Q:Exit→Act→World→Prop} (h:evO P γ o σ K) (hR:RX γ N n0 m0 S0 μs w0 σ a w) (hK:∀σ' a' w',K σ'→RX γ N n0 m0 S0 μs w0 σ' a' w'→next a' w'):o.wpIn (RF r) 0 P a w next Q:=by
 have other:evS (QBR P (rho γ σ.env) σ.mem.find (QV σ.mem o.dst) o.op) o.dst σ K→o.wpIn (RF r) 0 P a w next Q:=by
  intro h
  obtain⟨x,u,hs,hd,hu,hk⟩:=Qa3 h
  obtain⟨nx,v,w',h1,h2,h3⟩:=hR.step hs hd hu
  refine Oper.wpIn_of (fun c e=>by rw [e] at hs;simp [QBR,Qm] at hs) ?_
  rw [h1]
  rcases h2 with rfl | ⟨rfl,rfl⟩
  ·exact hK _ _ _ hk h3
  ·exact hK _ _ _ hk h3
 have nil:∀(neg:Bool) (t:TypeId) (x y:Operand) (yT:TypeId),o.op=.binOp (if neg then .neq else .eql) t x y yT→evN (QDL P t (unf (rho γ σ.env x)) (rho γ σ.env y)) neg o.dst σ K (evS (QBR P (rho γ σ.env) σ.mem.find (QV σ.mem o.dst) o.op) o.dst σ K)→o.wpIn (RF r) 0 P a w next Q:=by
  intro neg t x y yT hop h
  unfold evN at h
  split at h
  ·rename_i n hn
   obtain⟨hd,hy1,hy2⟩:=h
   have hR':=hR
   obtain⟨S,μ,hA,hG,hE,hN,hb,hwid⟩:=hR'
   have hN1:=hN.1
   obtain⟨b,hb0,hb1,hb2⟩:=QTw hn (QA6 (QAY hA hG x)) (QAY hA hG y) x y
   obtain⟨dst,op,ty,pos,after,guard⟩:=o
   simp only at hop hd hy1 hy2
   subst hop
   refine Oper.wpIn_of (fun c e=>by cases neg<;>cases e) ?_
   have hrun:(execOp a.eval ⟨dst,.binOp (if neg then .neq else .eql) t x y yT,ty,pos,after,guard⟩).run P w=.ok (.value (.bool (if neg then !b else b))) w:=by
    cases neg
    ·simp only [execOp,Bool.false_eq_true,if_false]
     rw [Sem.run_bind,hb1];rfl
    ·simp only [execOp,if_true]
     rw [Sem.run_bind,hb2];rfl
   rw [hrun]
   simp only [Oper.uponIn]
   cases b
   ·have:=hR.value (v:=.bool neg) hd (x:=.v (.bool neg)) (fun S μ=>by simp [Rep])
    cases neg
    ·exact hK _ _ _ hy2 this
    ·exact hK _ _ _ hy2 this
   ·have:=hR.value (v:=.bool (!neg)) hd (x:=.v (.bool (!neg))) (fun S μ=>by simp [Rep])
    cases neg
    ·exact hK _ _ _ (hy1 (hb0 rfl)) this
    ·exact hK _ _ _ (hy1 (hb0 rfl)) this
  ·exact other h
 unfold evO at h
 split at h
 ·-- a call
  rename_i f args ts hop
  unfold evY at h
  split at h
  ·rename_i oy hy
   obtain⟨hd,hcall⟩:=h
   obtain⟨S,μ,hA,hG,hE,hN,hb,hwid⟩:=hR
   have hN1:=hN.1
   have hf:=QAY hA hG f
   rw [QPl hy] at hf
   simp only [Rep] at hf
   obtain⟨b,bo,hμ,hf⟩:=hf
   obtain⟨dst,op,ty,pos,after,guard⟩:=o
   simp only at hop hd hcall
   subst hop
   refine Oper.wpIn_of (fun c e=>by cases e) ?_
   obtain⟨f',tmps,as,bd,hrun,hround⟩:=hcall S μ w _ b bo hA.rm hG (QBw (QBb (fun x=>QAY hA hG x) args)) hμ
   rw [QRD hf hrun,Oper.uponIn_round]
   refine⟨fun h=>(by cases h),RoundIn.mono (show RoundIn (RF r) (0 - 1) P b f' tmps as bd w _ from hround) fun e w' he=>?_⟩
   obtain⟨v,x,m',S',μ',rfl,hbase,hwid',hrm,hext,hx,hk⟩:=he
   have hkp:=hext.keeps hA.rm
   refine hK _ _ _ hk ⟨S',μ',⟨hrm,QCQ (RX.keepEnv hkp hA.env) (fun d hdst=>?_) hx,by rw [QAB];exact hA.defers.ext hext⟩,hG.keep hkp,hE.trans (by have:=hA.rm.le;omega) hext,hN.put _ _,by show n0≤m'.base;omega,by show m'.wid≤N;omega⟩
   rw [hdst] at hd;simp only [QAZ] at hd;omega
  unfold evC at h
  split at h
  ·rename_i g p q hc
   obtain⟨hd,hcall⟩:=h
   obtain⟨S,μ,hA,hG,hE,hN,hb,hwid⟩:=hR
   have hN1:=hN.1
   obtain⟨fs,cs,hf,hp,hq⟩:=QB5 hc (QAY hA hG f)
   obtain⟨dst,op,ty,pos,after,guard⟩:=o
   simp only at hop hd hcall
   subst hop
   refine Oper.wpIn_of (fun c e=>by cases e) ?_
   rw [QEi hf hcall.1,Oper.uponIn_enter]
   refine⟨fun h=>(by cases h),QDc ?_⟩
   refine (hcall.2 S μ w _ hA.rm hG (QBw ((hp.append (QBb (fun x=>QAY hA hG x) args)).append hq))).mono fun e w' he=>?_
   obtain⟨v,x,m',S',μ',rfl,hbase,hwid',hrm,hext,hx,hk⟩:=he
   have hkp:=hext.keeps hA.rm
   refine hK _ _ _ hk ⟨S',μ',⟨hrm,QCQ (RX.keepEnv hkp hA.env) (fun d hdst=>?_) hx,by rw [QAB];exact hA.defers.ext hext⟩,hG.keep hkp,hE.trans (by have:=hA.rm.le;omega) hext,hN.put _ _,by show n0≤m'.base;omega,by show m'.wid≤N;omega⟩
   rw [hdst] at hd;simp only [QAZ] at hd;omega
  ·exact h.elim
 ·rename_i t x y yT hop
  exact nil false t x y yT (by simpa using hop) h
 ·rename_i t x y yT hop
  exact nil true t x y yT (by simpa using hop) h
 ·rename_i x isStr hop
  obtain⟨dst,op,ty,pos,after,guard⟩:=o
  simp only at hop h
  subst hop
  obtain⟨S,μ,hA,hG,hE,hN,hb,hwid⟩:=hR
  have hN1:=hN.1
  have hx:=QAY hA hG x
  unfold QMH at h
  split at h
  ·rename_i o e
   rw [e] at hx
   unfold evNx at h
   split at h
   ·rename_i last ks xs hf
    obtain⟨hd,hnil,hcons⟩:=h
    have hd':QAZ σ.mem dst:=hd
    obtain⟨b,bo,mb,since,seen,stepped,hv,hμ,hS,hbk,hc⟩:=QJ4 hA.rm hf hx
    have hdst:∀d:Nat,dst=some d→d<a.tmps.size:=fun d hdst=>by rw [hdst] at hd';have hd2:d<σ.mem.wid:=hd';omega
    refine Oper.wpIn_of (fun c e=>by cases e) ?_
    have over:ks=[]→next (a.put dst (.tuple #[.bool false])) w:=fun hk=>hK _ _ _ (hnil hk) ⟨S,μ,⟨hA.rm,QCQ hA.env hdst (by simp only [Rep];exact⟨[.bool false],rfl,by simp [RepL,Rep]⟩),by rw [QAB];exact hA.defers⟩,hG,hE,hN.put _ _,hb,hwid⟩
    simp only [execOp,hv]
    rcases hc with ⟨rfl,rfl,rfl,rfl⟩ | ⟨r,es,kt,rfl,hs,hm,hok,rfl,hk,hxs,hl⟩
    ·have hrun:(Instr.next (.pointer (some ⟨b,0,none⟩)) false ty).run P w=.ok (.tuple #[.bool false]) w:=by
      simp only [Instr.next,pure_bind,Sem.run_bind,QEf hbk,Result.andThen_ok]
      rfl
     simp only [Sem.run_bind,hrun,Result.andThen_ok,Sem.run_pure,Oper.uponIn]
     exact over rfl
    ·have hkl:xs.length=ks.length:=by
      rw [←hk,←hxs.length];simp
     simp only [Sem.run_bind]
     rcases QZv (P:=P) (ty:=ty) hbk hm hok with ⟨hn,hrun⟩ | ⟨d,i,e,he,hrun,hdr⟩
     ·simp only [hrun,Result.andThen_ok,Sem.run_pure,Oper.uponIn]
      exact over (by rw [←hk,hn];rfl)
     ·simp only [hrun,Result.andThen_ok,Sem.run_pure,Oper.uponIn]
      have hki:ks[i]?=some e.key:=by rw [←hk,List.getElem?_map,he];rfl
      have hin:i<ks.length:=(List.getElem?_eq_some_iff.1 hki).1
      have hxi:xs[i]?=some xs[i]:=List.getElem?_eq_getElem (by omega)
      obtain⟨v',hv1,hv2⟩:=hxs.get hxi
      have hve:v'=e.val:=by rw [List.getElem?_map,he] at hv1;simpa using hv1.symm
      subst hve
      obtain⟨hnew,heras⟩:=QNX hok.1 he
      have hlt:b<w.heap.size:=(Array.getElem?_eq_some_iff.1 hbk).1
      have hrb:r≠b:=fun e=>by subst e;exact hS _ hs
      have hmem:e∈es.toList:=(List.mem_filter.1 (List.mem_of_getElem? he)).1
      have haft:After S μ w σ.mem [(o,.miter (some (e.key,xs[i])) (ks.eraseIdx i) (xs.eraseIdx i))] μ { w with heap:=w.heap.setIfInBounds b (.mapIter (some r) stepped (seen.push e.born) stepped),drawn:=d }:=by
       refine After.set hA.rm hf rfl rfl hμ (fun k hk=>?_) (by simp) ?_ rfl ⟨rfl,hdr⟩ rfl (fun hkp=>?_) hS (fun _=>QIo (o:=.mapIter (some r) stepped (seen.push e.born) stepped) (by simp [hlt]) trivial)
       ·simp [Ne.symm hk]
       ·simp [Qw,hlt,hbk]
        rw [(Array.getElem?_eq_some_iff.1 hbk).2]
       ·simp only [RepO]
        refine⟨b,bo,some r,stepped,seen.push e.born,stepped,hμ,hS,by simp [hlt],.inr ⟨r,es,kt,rfl,hs,?_,hok,rfl,?_,?_,?_⟩⟩
        ·simp [Ne.symm hrb,hm]
        ·rw [heras,←hk,QCw]
        ·rw [heras,QCw,List.eraseIdx_eq_take_drop_succ,List.eraseIdx_eq_take_drop_succ]
         exact RepL.keep hkp _ _ ((RepL.take hxs i).append (RepL.drop hxs (i+1)))
        ·intro p hp
         simp only [Option.some.injEq] at hp
         subst hp
         exact⟨e,hmem,by simp,rfl,Rep.keep hkp _ _ hv2⟩
      refine hK _ _ _ (hcons i e.key xs[i] hki hxi) ⟨S,μ,⟨haft.rm,?_,by rw [QAB];exact hA.defers.ext haft.ext⟩,hG.keep haft.keep,hE.trans hb haft.ext,hN.put _ _,hb,hwid⟩
      refine QCQ (RX.keepEnv haft.keep hA.env) hdst ?_
      simp only [Rep]
      exact⟨[.bool true,e.key,e.val],rfl,by simp only [RepL];exact⟨_,_,rfl,by simp [Rep],_,_,rfl,by simp [Rep],_,_,rfl,Rep.keep haft.keep _ _ hv2,rfl⟩⟩
   ·exact h.elim
  ·exact h.elim
 ·exact other h
variable {P : Program} {γ : GTab}
section loc
variable {f g : Nat → Option AObj}
theorem QTe {x:AV} (h:∀o∈oids x,f o=g o):rdS f x=rdS g x:=by
 cases x with
 | sl o off n sz=>simp only [rdS,h o (by simp [oids])]
 | v y=>cases y<;>first | rfl | (rename_i a b c;cases a<;>first | rfl | (cases b<;>cases c<;>rfl))
 | _=>rfl
theorem QF9 {sz:Nat} {x:AV} (h:∀o∈oids x,f o=g o):srcS f sz x=srcS g sz x:=by
 cases x with
 | sl o off n z=>simp only [srcS,QTe h]
 | v y=>cases y<;>first | rfl | (rename_i a b c;cases a<;>first | rfl | (cases b<;>cases c<;>rfl))
 | _=>rfl
theorem QZd {x:AV} (h:∀o∈oids x,f o=g o):lenA f x=lenA g x:=by
 cases x with
 | mp o=>simp only [lenA,h o (by simp [oids])]
 | on T u x=>cases x<;>rfl
 | v y=>cases y<;>first | rfl | (rename_i a;cases a<;>rfl) | (rename_i a b c;cases a<;>first | rfl | (cases b<;>cases c<;>rfl))
 | _=>rfl
theorem QGJ {fresh:Nat} {sT xT:TypeId} {s x:AV} (h1:∀o∈oids s,f o=g o) (h2:∀o∈oids x,f o=g o):QAg P f fresh sT xT s x=QAg P g fresh sT xT s x:=by
 unfold QAg
 cases Qd P sT<;>cases QAS P xT<;>try rfl
 rename_i e b
 cases b<;>try rfl
 simp only [QF9 h2]
 cases s with
 | sl o off n z=>simp only [h1 o (by simp [oids])]
 | v y=>cases y<;>first | rfl | (rename_i a b c;cases a<;>first | rfl | (cases b<;>cases c<;>rfl))
 | _=>rfl
theorem QSY {dT:TypeId} {d x:AV} (h1:∀o∈oids d,f o=g o) (h2:∀o∈oids x,f o=g o):QMd P f dT d x=QMd P g dT d x:=by
 unfold QMd
 cases Qd P dT<;>try rfl
 cases d with
 | sl o off n z=>simp only [h1 o (by simp [oids]),QF9 h2]
 | _=>rfl
theorem QFU {fresh:Nat} {b:Builtin} {ts:Array TypeId} {xs:List AV} (h:∀x∈xs,∀o∈oids x,f o=g o):QY P f fresh b ts xs=QY P g fresh b ts xs:=by
 cases b
 case len=>
  match xs,h with
  | [],_=>rfl
  | [x],h=>
   simp only [QY]
   cases ts[0]? with
   | none=>rfl
   | some t=>
    simp only
    cases tarr P t with
    | none=>simp only [QZd (h x (by simp))]
    | some p=>rfl
  | _::_::_,_=>rfl
 case append=>
  match xs,h with
  | [],_=>rfl
  | [_],_=>rfl
  | [s,x],h=>
   simp only [QY]
   split
   ·exact QGJ (h s (by simp)) (h x (by simp))
   ·rfl
  | _::_::_::_,_=>rfl
 case copy=>
  match xs,h with
  | [],_=>rfl
  | [_],_=>rfl
  | [s,x],h=>
   simp only [QY]
   split
   ·exact QSY (h s (by simp)) (h x (by simp))
   ·rfl
  | _::_::_::_,_=>rfl
 case delete=>
  match xs,h with
  | [],_=>rfl
  | [x],_=>cases x<;>rfl
  | [x,k],h=>
   cases x with
   | mp o=>simp only [QY,h (.mp o) (by simp) o (by simp [oids])]
   | _=>rfl
  | x::_::_::_,_=>cases x<;>rfl
 case cap=>
  match xs,h with
  | [],_=>rfl
  | [x],_=>cases x<;>first | rfl | (rename_i y _;cases y<;>first | rfl | (rename_i a b c _;cases a<;>first | rfl | (cases b<;>cases c<;>rfl)))
  | x::_::_,_=>cases x<;>first | rfl | (rename_i y _;cases y<;>first | rfl | (rename_i a b c _;cases a<;>first | rfl | (cases b<;>cases c<;>rfl)))
 all_goals rfl
theorem QUO {t:TypeId} {x:AV} (h:∀o∈oids x,f o=g o):QE3 P f t x=QE3 P g t x:=by
 cases x with
 | ptr o off=>simp only [QE3,h o (by simp [oids])]
 | _=>rfl
theorem QPI {t:TypeId} {x y:AV} (h:∀o∈oids x,f o=g o):QD6 P f t x y=QD6 P g t x y:=by
 cases x with
 | ptr o off=>
  simp only [QD6]
  cases QR y with
  | none=>rfl
  | some cs=>simp only [h o (by simp [oids])]
 | bp o=>
  have ho:=h o (by simp [oids])
  unfold QD6
  cases QR y with
  | none=>rfl
  | some cs=>
   cases cs with
   | nil=>rfl
   | cons c cs=>cases cs<;>simp only [ho]
 | _=>rfl
theorem QQH {t:TypeId} {x:AV} {lo hi:Option AV} (h:∀o∈oids x,f o=g o):QBk P f t x lo hi=QBk P g t x lo hi:=by
 cases x with
 | ptr o off=>simp only [QBk,h o (by simp [oids])]
 | v y=>cases y<;>first | rfl | (rename_i a b c;cases a<;>first | rfl | (cases b<;>cases c<;>rfl))
 | _=>rfl
theorem QSO {x:AV} (h:∀o∈oids x,f o=g o):QK4 f x=QK4 g x:=by
 cases x with
 | mp o=>simp only [QK4,h o (by simp [oids])]
 | v y=>cases y<;>first | rfl | (rename_i a;cases a<;>rfl)
 | _=>rfl
theorem QNm {t:TypeId} {x k:AV} {ok:Bool} (h:∀o∈oids x,f o=g o):QFI P f t x k ok=QFI P g t x k ok:=by
 unfold QFI;rw [QSO h]
theorem QMa {t:TypeId} {x k y:AV} (h:∀o∈oids x,f o=g o):QEB P f t x k y=QEB P g t x k y:=by
 cases x with
 | mp o=>
  simp only [QEB]
  cases tmap P t with
  | none=>rfl
  | some p=>cases k.val? with
   | none=>rfl
   | some key=>simp only [h o (by simp [oids])]
 | _=>rfl
end loc
theorem QCx {ρ ρ':Operand→AV} {r:Option Operand} (h:∀x,r=some x→ρ x=ρ' x):r.map ρ=r.map ρ':=by
 cases r with
 | none=>rfl
 | some x=>simp [h x rfl]
theorem QPH {ρ ρ':Operand→AV} {f g:Nat→Option AObj} {fresh:Nat} {op:Op} (hρ:∀x∈op.operands,ρ x=ρ' x) (hf:∀x∈op.operands,∀o∈oids (ρ x),f o=g o):Qm P ρ f fresh op=Qm P ρ' g fresh op:=by
 cases op with
 | move x=>simp only [Qm,hρ x (by simp [Op.operands])]
 | assign x=>simp only [Qm,hρ x (by simp [Op.operands])]
 | pick c a b=>simp only [Qm,hρ c (by simp [Op.operands]),hρ a (by simp [Op.operands]),hρ b (by simp [Op.operands])]
 | alloc e=>rfl
 | box e x=>simp only [Qm,hρ x (by simp [Op.operands])]
 | build t parts=>
  have:(parts.toList.map fun p=>(p.1,ρ p.2))=(parts.toList.map fun p=>(p.1,ρ' p.2)):=List.map_congr_left fun p hp=>by
   rw [hρ p.2 (by simp only [Op.operands,List.mem_toArray,List.mem_map];exact⟨p,hp,rfl⟩)]
  simp only [Qm,this]
 | buildSlice t n parts=>
  have:(parts.toList.map fun p=>(p.1,ρ p.2))=(parts.toList.map fun p=>(p.1,ρ' p.2)):=List.map_congr_left fun p hp=>by
   rw [hρ p.2 (by simp only [Op.operands,List.mem_toArray,List.mem_map];exact⟨p,hp,rfl⟩)]
  simp only [Qm,this]
 | load t a=>
  have h1:=hf a (by simp [Op.operands])
  rw [hρ a (by simp [Op.operands])] at h1
  simp only [Qm,hρ a (by simp [Op.operands]),QUO h1]
 | store t a x=>
  have h1:=hf a (by simp [Op.operands])
  rw [hρ a (by simp [Op.operands])] at h1
  simp only [Qm,hρ a (by simp [Op.operands]),hρ x (by simp [Op.operands]),QPI h1]
 | nilCheck x=>simp only [Qm,hρ x (by simp [Op.operands])]
 | binOp op t x y yT=>simp only [Qm,hρ x (by simp [Op.operands]),hρ y (by simp [Op.operands])]
 | unOp op t x=>simp only [Qm,hρ x (by simp [Op.operands])]
 | convert s d x=>
  have h1:=hf x (by simp [Op.operands])
  rw [hρ x (by simp [Op.operands])] at h1
  simp only [Qm,hρ x (by simp [Op.operands])]
  generalize ρ' x=y at h1
  cases y with
  | v q=>cases q<;>rfl
  | _=>simp only [QF9 h1]
 | makeFunc fn a c=>
  have e1:a.toList.map ρ=a.toList.map ρ':=List.map_congr_left fun p hp=>hρ p (by simp [Op.operands];exact .inl (by simpa using hp))
  have e2:c.toList.map ρ=c.toList.map ρ':=List.map_congr_left fun p hp=>hρ p (by simp [Op.operands];exact .inr (by simpa using hp))
  simp only [Qm,e1,e2]
 | makeMap t r=>
  cases r with
  | none=>rfl
  | some x=>simp only [Qm,hρ x (by simp [Op.operands])]
 | makeSlice t l c=>simp only [Qm,hρ l (by simp [Op.operands]),hρ c (by simp [Op.operands])]
 | slice t x lo hi mx=>
  have hx:x∈(Op.slice t x lo hi mx).operands:=by simp [Op.operands]
  have h1:=hf x hx
  rw [hρ x hx] at h1
  have e1:lo.map ρ=lo.map ρ':=QCx fun y hy=>hρ y (by subst hy;simp [Op.operands])
  have e2:hi.map ρ=hi.map ρ':=QCx fun y hy=>hρ y (by subst hy;simp [Op.operands])
  cases mx with
  | none=>simp only [Qm,hρ x hx,e1,e2,QQH h1]
  | some _=>rfl
 | fieldAddr s x f=>simp only [Qm,hρ x (by simp [Op.operands])]
 | field s x f=>simp only [Qm,hρ x (by simp [Op.operands])]
 | indexAddr t x i=>simp only [Qm,hρ x (by simp [Op.operands]),hρ i (by simp [Op.operands])]
 | index t x i=>simp only [Qm,hρ x (by simp [Op.operands]),hρ i (by simp [Op.operands])]
 | lookup t m k ok=>
  have h1:=hf m (by simp [Op.operands])
  rw [hρ m (by simp [Op.operands])] at h1
  simp only [Qm,hρ m (by simp [Op.operands]),hρ k (by simp [Op.operands]),QNm h1]
 | mapUpdate t m k x=>
  have h1:=hf m (by simp [Op.operands])
  rw [hρ m (by simp [Op.operands])] at h1
  simp only [Qm,hρ m (by simp [Op.operands]),hρ k (by simp [Op.operands]),hρ x (by simp [Op.operands]),QMa h1]
 | extract t i=>simp only [Qm,hρ t (by simp [Op.operands])]
 | call c=>
  obtain⟨callee,args,ts⟩:=c
  cases callee with
  | builtin b=>
   have e1:args.toList.map ρ=args.toList.map ρ':=List.map_congr_left fun p hp=>hρ p (by simp [Op.operands,Call.operands];simpa using hp)
   simp only [Qm,e1]
   refine QFU fun x hx o ho=>?_
   rw [←e1] at hx
   obtain⟨p,hp,rfl⟩:=List.mem_map.1 hx
   exact hf p (by simp [Op.operands,Call.operands];simpa using hp) o ho
  | value f=>rfl
  | invoke r n=>rfl
 | _=>rfl
theorem QFs (x:AV):oids (unf x)=oids x:=by cases x<;>rfl
theorem QFg {f g:Nat→Option AObj} {fresh z:Nat} {sT xT:TypeId} {s x:AV} (h1:∀o∈oids s,f o=g o) (h2:∀o∈oids x,f o=g o):QBu P f fresh sT xT s x z=QBu P g fresh sT xT s x z:=by
 unfold QBu
 rw [QTe h1]
 split
 ·rw [QF9 h2]
 ·rfl
theorem QK6 {f g:Nat→Option AObj} {fresh:Nat} {b:Builtin} {ts:Array TypeId} {xs:List AV} (h:∀x∈xs,∀o∈oids x,f o=g o):QAH P f fresh b ts xs=QAH P g fresh b ts xs:=by
 unfold QAH
 split
 ·rename_i s x
  have h1:=h s (by simp)
  have h2:∀o∈oids (unf x),f o=g o:=by rw [QFs];exact h x (by simp)
  split
  ·cases s with
   | full n z xs=>exact QFg (s:=.seq n z xs) (fun o ho=>by simp [oids] at ho) h2
   | slc o off n z=>exact QFg (s:=.sl o off n z) h1 h2
   | _=>exact QGJ (fresh:=fresh) h1 h2
  ·rfl
 ·rename_i x
  have h1:∀o∈oids (unf x),f o=g o:=by rw [QFs];exact h x (by simp)
  unfold QLH
  split
  ·rename_i o off n z he hx
   rw [h1 o (by rw [hx];simp [oids])]
  ·rfl
 ·refine QFU fun x hx o ho=>?_
  obtain⟨y,hy,rfl⟩:=List.mem_map.1 hx
  rw [QFs] at ho
  exact h y hy o ho
theorem QPy {f g:Nat→Option AObj} {x:AV} (h:∀o∈oids x,f o=g o):QFV f x=QFV g x:=by
 cases x with
 | it o=>simp only [QFV,h o (by simp [oids])]
 | _=>rfl
theorem QLu {ρ ρ':Operand→AV} {f g:Nat→Option AObj} {fresh:Nat} {op:Op} (hρ:∀x∈op.operands,ρ x=ρ' x) (hf:∀x∈op.operands,∀o∈oids (ρ x),f o=g o):QBR P ρ f fresh op=QBR P ρ' g fresh op:=by
 have other:∀op:Op,(∀x∈op.operands,ρ x=ρ' x)→(∀x∈op.operands,∀o∈oids (ρ x),f o=g o)→Qm P (fun x=>unf (ρ x)) f fresh op=Qm P (fun x=>unf (ρ' x)) g fresh op:=fun op hρ hf=>
  QPH (fun x hx=>by show unf _=unf _;rw [hρ x hx]) (fun x hx o ho=>by
   rw [QFs] at ho
   exact hf x hx o ho)
 unfold QBR
 split
 ·rename_i x
  rw [hρ x (by simp [Op.operands])]
 ·rename_i x
  rw [hρ x (by simp [Op.operands])]
 ·rename_i t x lo hi mx
  have e1:lo.map ρ=lo.map ρ':=QCx fun y hy=>hρ y (by subst hy;simp [Op.operands])
  rw [hρ x (by simp [Op.operands]),e1,hρ hi (by simp [Op.operands]),hρ mx (by simp [Op.operands])]
 ·rename_i t x
  rw [hρ x (by simp [Op.operands])]
 ·rename_i x
  have h1:=hf x (by simp [Op.operands])
  rw [hρ x (by simp [Op.operands])] at h1 ⊢
  exact QPy h1
 ·rename_i b args ts
  have e1:args.toList.map ρ=args.toList.map ρ':=List.map_congr_left fun p hp=>hρ p (by simp [Op.operands,Call.operands];simpa using hp)
  rw [←e1]
  refine QK6 fun x hx o ho=>?_
  obtain⟨p,hp,rfl⟩:=List.mem_map.1 hx
  exact hf p (by simp [Op.operands,Call.operands];simpa using hp) o ho
 ·exact other _ hρ hf
theorem QLG {f g:Nat→Option AObj} {F G:AV→Option (AV×List Nat)} (hF:∀(x:AV) y ids,F x=some (y,ids)→(∀o∈ids,f o=g o)→G x=some (y,ids)):
  ∀(xs:List AV) ys ids,QBV F xs=some (ys,ids)→(∀o∈ids,f o=g o)→QBV G xs=some (ys,ids)
 | [],ys,ids,h,_=>by simpa [QBV] using h
 | x::xs,ys,ids,h,hi=>by
  simp only [QBV] at h ⊢
  split at h
  ·rename_i p q hp hq
   simp only [Option.some.injEq,Prod.mk.injEq] at h
   obtain⟨rfl,rfl⟩:=h
   rw [hF x p.1 p.2 hp (fun o ho=>hi o (by simp [ho])),QLG hF xs q.1 q.2 hq (fun o ho=>hi o (by simp [ho]))]
  ·cases h
theorem QRh {f g:Nat→Option AObj} {F G:AV→Option (AV×List Nat)} (hF:∀(x:AV) y ids,F x=some (y,ids)→(∀o∈ids,f o=g o)→G x=some (y,ids)) (xs:List AV) (ys:List AV) (ids:List Nat) (h:QAO F xs=some (ys,ids)) (hi:∀o∈ids,f o=g o):QAO G xs=some (ys,ids):=by
 unfold QAO at*
 split at h
 ·rename_i hc;rw [if_pos hc];exact h
 ·rename_i hc;rw [if_neg hc];exact QLG hF _ _ _ h hi
theorem QOJ (f g:Nat→Option AObj):∀(n:Nat) (x:AV) y ids,snap f n x=some (y,ids)→(∀o∈ids,f o=g o)→snap g n x=some (y,ids)
 | 0,x,y,ids,h,_=>by simp [snap] at h
 | n+1,x,y,ids,h,hi=>by
  have h2:=QRh (QOJ f g n)
  cases x with
  | ptr o off=>
   simp only [snap] at h ⊢
   split at h
   ·rename_i E zs ap hf
    simp only [Option.map_eq_some_iff,Prod.mk.injEq] at h
    obtain⟨⟨p,q⟩,hs,rfl,rfl⟩:=h
    have:=hi o (by simp)
    rw [←this,hf]
    simp only [h2 _ _ _ hs (fun o ho=>hi o (by simp [ho])),Option.map_some]
   ·rename_i zs hf
    simp only [Option.map_eq_some_iff,Prod.mk.injEq] at h
    obtain⟨⟨p,q⟩,hs,rfl,rfl⟩:=h
    have:=hi o (by simp)
    rw [←this,hf]
    simp only [h2 _ _ _ hs (fun o ho=>hi o (by simp [ho])),Option.map_some]
   ·cases h
  | sl o off k sz=>
   simp only [snap] at h ⊢
   split at h
   ·rename_i E zs ap hf
    split at h
    ·rename_i hle
     simp only [Option.map_eq_some_iff,Prod.mk.injEq] at h
     obtain⟨⟨p,q⟩,hs,rfl,rfl⟩:=h
     have:=hi o (by simp)
     rw [←this,hf]
     simp only [hle,if_true,h2 _ _ _ hs (fun o ho=>hi o (by simp [ho])),Option.map_some]
    ·cases h
   ·rename_i zs hf
    split at h
    ·rename_i hle
     simp only [Option.map_eq_some_iff,Prod.mk.injEq] at h
     obtain⟨⟨p,q⟩,hs,rfl,rfl⟩:=h
     have:=hi o (by simp)
     rw [←this,hf]
     simp only [hle,if_true,h2 _ _ _ hs (fun o ho=>hi o (by simp [ho])),Option.map_some]
    ·cases h
   ·cases h
  | mp o=>
   simp only [snap] at h ⊢
   split at h
   ·rename_i kt ks zs hf
    simp only [Option.map_eq_some_iff,Prod.mk.injEq] at h
    obtain⟨⟨p,q⟩,hs,rfl,rfl⟩:=h
    have:=hi o (by simp)
    rw [←this,hf]
    simp only [h2 _ _ _ hs (fun o ho=>hi o (by simp [ho])),Option.map_some]
   ·cases h
  | agg xs=>
   simp only [snap] at h ⊢
   simp only [Option.map_eq_some_iff,Prod.mk.injEq] at h
   obtain⟨⟨p,q⟩,hs,rfl,rfl⟩:=h
   simp only [h2 _ _ _ hs hi,Option.map_some]
  | tup xs=>
   simp only [snap] at h ⊢
   simp only [Option.map_eq_some_iff,Prod.mk.injEq] at h
   obtain⟨⟨p,q⟩,hs,rfl,rfl⟩:=h
   simp only [h2 _ _ _ hs hi,Option.map_some]
  | clo fn fs c=>
   simp only [snap] at h ⊢
   split at h
   ·rename_i hf
    simp only [Option.map_eq_some_iff,Prod.mk.injEq] at h
    obtain⟨⟨p,q⟩,hs,rfl,rfl⟩:=h
    simp only [hf,if_true,h2 _ _ _ hs hi,Option.map_some]
   ·cases h
  | _=>simpa [snap] using h
theorem QBg {f g:Nat→Option AObj}:∀{xs ys:List AV} {ids:List Nat},QJ f xs=some (ys,ids)→(∀o∈ids,f o=g o)→QJ g xs=some (ys,ids)
 | [],ys,ids,h,_=>by simpa [QJ] using h
 | x::xs,ys,ids,h,hi=>by
  simp only [QJ] at h ⊢
  split at h
  ·rename_i p q hp hq
   simp only [Option.some.injEq,Prod.mk.injEq] at h
   obtain⟨rfl,rfl⟩:=h
   rw [QOJ f g 12 x p.1 p.2 hp (fun o ho=>hi o (by simp [ho])),QBg (xs:=xs) hq (fun o ho=>hi o (by simp [ho]))]
  ·cases h
variable {P : Program} {γ : GTab} {S S' : Nat → Nat → Prop} {μ : Nat → Option (Nat × Nat)} {w w' : World} {m : Mem}
def Sall (w:World):Nat→Nat→Prop:=fun b _=>b<w.heap.size
mutual
theorem Rep.idf0 {S S':Nat→Nat→Prop} (hS:∀b off,S b off→S' b off):∀(x:AV) (v:Value),idf x=true→Rep S μ w x v→Rep S' μ0 w x v
 | .v x,v,_,r=>by simpa [Rep] using r
 | .agg xs,v,h,r=>by
  simp only [Rep,idf] at*
  obtain⟨ys,e,r,o⟩:=r
  exact⟨ys,e,RepL.idf0 hS xs ys h r,o⟩
 | .tup xs,v,h,r=>by
  simp only [Rep,idf] at*
  obtain⟨ys,e,r⟩:=r
  exact⟨ys,e,RepL.idf0 hS xs ys h r⟩
 | .seq n sz xs,v,h,r=>by
  simp only [Rep,idf] at*
  obtain⟨base,cap,e,hn,hl,r⟩:=r
  refine⟨base,cap,e,hn,hl,?_⟩
  rcases r with r | ⟨b,off,e,r⟩
  ·exact .inl r
  ·exact .inr ⟨b,off,e,RepC.idf0 hS xs b off h r⟩
 | .full n sz xs,v,h,r=>by
  simp only [Rep,idf] at*
  obtain⟨base,e,hl,r⟩:=r
  refine⟨base,e,hl,?_⟩
  rcases r with r | ⟨b,off,e,r⟩
  ·exact .inl r
  ·exact .inr ⟨b,off,e,RepC.idf0 hS xs b off h r⟩
 | .rop xs,v,h,r=>by
  simp only [Rep,idf] at*
  obtain⟨b,off,e,r⟩:=r
  exact⟨b,off,e,RepC.idf0 hS xs b off h r⟩
 | .ptr _ _,_,h,_=>by simp [idf] at h
 | .sl _ _ _ _,_,h,_=>by simp [idf] at h
 | .slc _ _ _ _,_,h,_=>by simp [idf] at h
 | .mp _,_,h,_=>by simp [idf] at h
 | .it _,_,h,_=>by simp [idf] at h
 | .mv kt ks xs,v,h,r=>by
  simp only [Rep,idf] at*
  rcases r with r | ⟨b,es,clock,e,hs,hb,hm,hk,r⟩
  ·exact .inl r
  ·exact .inr ⟨b,es,clock,e,hS b 0 hs,hb,hm,hk,RepL.idf0 hS xs _ h r⟩
 | .clo fn f c,v,h,r=>by
  simp only [Rep,idf,Bool.and_eq_true] at*
  obtain⟨fs,cs,e,r1,r2⟩:=r
  exact⟨fs,cs,e,RepL.idf0 hS f fs h.1 r1,RepL.idf0 hS c cs h.2 r2⟩
 | .ifc t x,v,h,r=>by
  simp only [Rep,idf] at*
  obtain⟨u,e,r⟩:=r
  exact⟨u,e,Rep.idf0 hS x u h r⟩
 | .on T u x,v,h,r=>by
  simp only [Rep,idf] at*
  exact Rep.idf0 (fun b off hs=>⟨hS b off hs.1,hs.2⟩) x v h r
 | .bs _ _,_,h,_=>by simp [idf] at h
 | .bp _,_,h,_=>by simp [idf] at h
 | .yld _,_,h,_=>by simp [idf] at h
 | .top,v,_,_=>by simp [Rep]
theorem RepL.idf0 {S S':Nat→Nat→Prop} (hS:∀b off,S b off→S' b off):∀(xs:List AV) (ys:List Value),idfL xs=true→RepL S μ w xs ys→RepL S' μ0 w xs ys
 | [],ys,_,r=>by simpa [RepL] using r
 | x::xs,ys,h,r=>by
  simp only [RepL,idfL,Bool.and_eq_true] at*
  obtain⟨y,zs,e,r1,r2⟩:=r
  exact⟨y,zs,e,Rep.idf0 hS x y h.1 r1,RepL.idf0 hS xs zs h.2 r2⟩
theorem RepC.idf0 {S S':Nat→Nat→Prop} (hS:∀b off,S b off→S' b off):∀(xs:List AV) (b off:Nat),idfL xs=true→RepC S μ w xs b off→RepC S' μ0 w xs b off
 | [],_,_,_,_=>by simp [RepC]
 | x::xs,b,off,h,r=>by
  simp only [RepC,idfL,Bool.and_eq_true] at*
  obtain⟨⟨hs,u,hu,ho,r1⟩,r2⟩:=r
  exact⟨⟨hS b off hs,u,hu,ho,Rep.idf0 hS x u h.1 r1⟩,RepC.idf0 hS xs b (off+1) h.2 r2⟩
end
mutual
theorem Rep.idf1 {S:Nat→Nat→Prop}:∀(x:AV) (v:Value),idf x=true→Rep S μ0 w x v→Rep S μ w x v
 | .v x,v,_,r=>by simpa [Rep] using r
 | .agg xs,v,h,r=>by
  simp only [Rep,idf] at*
  obtain⟨ys,e,r,o⟩:=r
  exact⟨ys,e,RepL.idf1 xs ys h r,o⟩
 | .tup xs,v,h,r=>by
  simp only [Rep,idf] at*
  obtain⟨ys,e,r⟩:=r
  exact⟨ys,e,RepL.idf1 xs ys h r⟩
 | .seq n sz xs,v,h,r=>by
  simp only [Rep,idf] at*
  obtain⟨base,cap,e,hn,hl,r⟩:=r
  refine⟨base,cap,e,hn,hl,?_⟩
  rcases r with r | ⟨b,off,e,r⟩
  ·exact .inl r
  ·exact .inr ⟨b,off,e,RepC.idf1 xs b off h r⟩
 | .full n sz xs,v,h,r=>by
  simp only [Rep,idf] at*
  obtain⟨base,e,hl,r⟩:=r
  refine⟨base,e,hl,?_⟩
  rcases r with r | ⟨b,off,e,r⟩
  ·exact .inl r
  ·exact .inr ⟨b,off,e,RepC.idf1 xs b off h r⟩
 | .rop xs,v,h,r=>by
  simp only [Rep,idf] at*
  obtain⟨b,off,e,r⟩:=r
  exact⟨b,off,e,RepC.idf1 xs b off h r⟩
 | .ptr _ _,_,h,_=>by simp [idf] at h
 | .sl _ _ _ _,_,h,_=>by simp [idf] at h
 | .slc _ _ _ _,_,h,_=>by simp [idf] at h
 | .mp _,_,h,_=>by simp [idf] at h
 | .it _,_,h,_=>by simp [idf] at h
 | .mv kt ks xs,v,h,r=>by
  simp only [Rep,idf] at*
  rcases r with r | ⟨b,es,clock,e,hs,hb,hm,hk,r⟩
  ·exact .inl r
  ·exact .inr ⟨b,es,clock,e,hs,hb,hm,hk,RepL.idf1 xs _ h r⟩
 | .clo fn f c,v,h,r=>by
  simp only [Rep,idf,Bool.and_eq_true] at*
  obtain⟨fs,cs,e,r1,r2⟩:=r
  exact⟨fs,cs,e,RepL.idf1 f fs h.1 r1,RepL.idf1 c cs h.2 r2⟩
 | .ifc t x,v,h,r=>by
  simp only [Rep,idf] at*
  obtain⟨u,e,r⟩:=r
  exact⟨u,e,Rep.idf1 x u h r⟩
 | .on T u x,v,h,r=>by
  simp only [Rep,idf] at*
  exact Rep.idf1 x v h r
 | .bs _ _,_,h,_=>by simp [idf] at h
 | .bp _,_,h,_=>by simp [idf] at h
 | .yld _,_,h,_=>by simp [idf] at h
 | .top,v,_,_=>by simp [Rep]
theorem RepL.idf1 {S:Nat→Nat→Prop}:∀(xs:List AV) (ys:List Value),idfL xs=true→RepL S μ0 w xs ys→RepL S μ w xs ys
 | [],ys,_,r=>by simpa [RepL] using r
 | x::xs,ys,h,r=>by
  simp only [RepL,idfL,Bool.and_eq_true] at*
  obtain⟨y,zs,e,r1,r2⟩:=r
  exact⟨y,zs,e,Rep.idf1 x y h.1 r1,RepL.idf1 xs zs h.2 r2⟩
theorem RepC.idf1 {S:Nat→Nat→Prop}:∀(xs:List AV) (b off:Nat),idfL xs=true→RepC S μ0 w xs b off→RepC S μ w xs b off
 | [],_,_,_,_=>by simp [RepC]
 | x::xs,b,off,h,r=>by
  simp only [RepC,idfL,Bool.and_eq_true] at*
  obtain⟨⟨hs,u,hu,ho,r1⟩,r2⟩:=r
  exact⟨⟨hs,u,hu,ho,Rep.idf1 x u h.1 r1⟩,RepC.idf1 xs b (off+1) h.2 r2⟩
end
theorem QP2 {x:AV} {v:Value} {S':Nat→Nat→Prop} {μ':Nat→Option (Nat×Nat)} {w':World} (h:QGI x=true) (r:Rep S μ w x v):Rep S' μ' w' x v:=by
 have vals:∀(xs:List AV) (ys:List Value),(xs.all fun | .v _=>true | _=>false)=true→RepL S μ w xs ys→RepL S' μ' w' xs ys:=by
  intro xs
  induction xs with
  | nil=>intro ys _ r;simpa [RepL] using r
  | cons x xs ih=>
   intro ys h r
   simp only [List.all_cons,Bool.and_eq_true] at h
   simp only [RepL] at r ⊢
   obtain⟨y,zs,e,r1,r2⟩:=r
   refine⟨y,zs,e,?_,ih zs h.2 r2⟩
   cases x<;>simp at h
   simpa [Rep] using r1
 cases x with
 | v y=>simpa [Rep] using r
 | tup xs=>
  simp only [Rep] at r ⊢
  obtain⟨ys,e,r⟩:=r
  exact⟨ys,e,vals xs ys h r⟩
 | agg xs=>
  simp only [Rep] at r ⊢
  obtain⟨ys,e,r,o⟩:=r
  exact⟨ys,e,vals xs ys h r,o⟩
 | _=>simp [QGI] at h
theorem QCE:∀(xs:List AV) (k:Nat),idfL xs=true→idfL (xs.drop k)=true
 | xs,0,h=>by simpa using h
 | [],k+1,_=>by simp [idfL]
 | x::xs,k+1,h=>by simp only [idfL,Bool.and_eq_true] at h;simpa using QCE xs k h.2
theorem QEa:∀(xs:List AV) (k:Nat),idfL xs=true→idfL (xs.take k)=true
 | xs,0,h=>by simp [idfL]
 | [],k+1,_=>by simp [idfL]
 | x::xs,k+1,h=>by simp only [idfL,Bool.and_eq_true] at h ⊢;simp only [List.take_succ_cons,idfL,Bool.and_eq_true];exact⟨h.1,QEa xs k h.2⟩
theorem immS (hr:RM S μ w m) {o b bo:Nat} {zs:List AV} (hf:m.find o=some (.imm zs)) (hμ:μ o=some (b,bo)) (i:Nat) (hi:i<zs.length):S b (bo+i):=by
 have:=(hr.obj _ _ hf).2
 simp only [RepO] at this
 rcases this with h | ⟨b',bo',h1,h2⟩
 ·subst h;simp at hi
 ·rw [hμ] at h1;cases h1
  exact (h2.get (List.getElem?_eq_getElem hi)).1
theorem QKG {T:Nat→Nat→Prop} {F:AV→Option (AV×List Nat)} (hF:∀(x:AV) y ids v,F x=some (y,ids)→Rep S μ w x v→idf y=true∧Rep T μ0 w y v):
  ∀(xs:List AV) ys ids vs,QBV F xs=some (ys,ids)→RepL S μ w xs vs→idfL ys=true∧RepL T μ0 w ys vs
 | [],ys,ids,vs,h,r=>by simp only [QBV,Option.some.injEq,Prod.mk.injEq] at h;obtain⟨rfl,rfl⟩:=h;exact⟨rfl,by simpa [RepL] using r⟩
 | x::xs,ys,ids,vs,h,r=>by
  simp only [QBV] at h
  split at h
  ·rename_i p q hp hq
   simp only [Option.some.injEq,Prod.mk.injEq] at h
   obtain⟨rfl,rfl⟩:=h
   simp only [RepL] at r
   obtain⟨y,zs,rfl,r1,r2⟩:=r
   obtain⟨k1,k2⟩:=hF x p.1 p.2 y hp r1
   obtain⟨l1,l2⟩:=QKG hF xs q.1 q.2 zs hq r2
   refine⟨by simp only [idfL,k1,l1,Bool.and_self],?_⟩
   simp only [RepL]
   exact⟨y,zs,rfl,k2,l2⟩
  ·cases h
theorem QEd {T:Nat→Nat→Prop} (hS:∀b off,S b off→T b off) {F:AV→Option (AV×List Nat)} (hF:∀(x:AV) y ids v,F x=some (y,ids)→Rep S μ w x v→idf y=true∧Rep T μ0 w y v)
  (xs:List AV) (ys:List AV) (ids:List Nat) (vs:List Value) (h:QAO F xs=some (ys,ids)) (r:RepL S μ w xs vs):idfL ys=true∧RepL T μ0 w ys vs:=by
 unfold QAO at h
 split at h
 ·rename_i hi
  simp only [Option.some.injEq,Prod.mk.injEq] at h
  obtain⟨rfl,rfl⟩:=h
  exact⟨hi,RepL.idf0 hS _ _ hi r⟩
 ·exact QKG hF _ _ _ _ h r
theorem QBI (hr:RM S μ w m) {T:Nat→Nat→Prop} (hS:∀b off,S b off→T b off) (hO:∀b,QBE m μ b→∀off,T b off):∀(n:Nat) (x:AV) y ids v,snap m.find n x=some (y,ids)→Rep S μ w x v→idf y=true∧Rep T μ0 w y v
 | 0,x,y,ids,v,h,_=>by simp [snap] at h
 | n+1,x,y,ids,v,h,r=>by
  have h2:=QEd hS (QBI hr hS hO n)
  have cellsC:∀{b bo:Nat} {zs p:List AV} {ys:List Value},(∀i,i<p.length→T b (bo+i))→RepL T μ0 w p ys→(∀u∈ys,u.oneCell'=true)→(∀j u,ys[j]?=some u→w.cell? ⟨b,bo+j,none⟩=some u)→RepC T μ0 w p b bo:=by
   intro b bo zs p ys hb hp ho hc
   refine RepC.mk fun i x hi=>?_
   obtain⟨y,hy,hx⟩:=hp.get hi
   exact⟨hb i (List.getElem?_eq_some_iff.1 hi).1,y,hc i y hy,ho y (List.mem_of_getElem? hy),hx⟩
  cases x with
  | ptr o off=>
   simp only [snap] at h
   simp only [Rep] at r
   obtain⟨b,bo,hμ,rfl⟩:=r
   split at h
   ·rename_i E zs ap hf
    simp only [Option.map_eq_some_iff,Prod.mk.injEq] at h
    obtain⟨⟨p,q⟩,hs,rfl,rfl⟩:=h
    obtain⟨ys,g1,g2,g3⟩:=QB9 hr hf hμ
    obtain⟨k1,k2⟩:=h2 _ _ _ ys hs g1
    refine⟨by simp only [idf];exact QCE _ _ k1,?_⟩
    simp only [Rep]
    exact⟨b,bo+off,rfl,(cellsC (zs:=zs) (fun i _=>hO b ⟨o,_,bo,hf,rfl,hμ⟩ _) k2 g2 g3).drop off⟩
   ·rename_i zs hf
    simp only [Option.map_eq_some_iff,Prod.mk.injEq] at h
    obtain⟨⟨p,q⟩,hs,rfl,rfl⟩:=h
    obtain⟨ys,g1,g2,g3⟩:=QDE hr hf hμ
    obtain⟨k1,k2⟩:=h2 _ _ _ ys hs g1
    refine⟨by simp only [idf];exact QCE _ _ k1,?_⟩
    simp only [Rep]
    exact⟨b,bo+off,rfl,(cellsC (zs:=zs) (fun i hi=>hS _ _ (immS hr hf hμ i (by have e1:ys.length=p.length:=k2.length;have e2:ys.length=zs.length:=g1.length;have e3:i<p.length:=hi;omega))) k2 g2 g3).drop off⟩
   ·cases h
  | sl o off k sz=>
   simp only [snap] at h
   simp only [Rep] at r
   obtain⟨base,cap,rfl,hk,r⟩:=r
   have fin:∀{zs p:List AV},off+k*sz≤zs.length→p.length=zs.length→idfL p=true→((∃b bo,μ o=some (b,bo))→∃b bo,μ o=some (b,bo)∧RepC T μ0 w p b bo)→idf (.seq k sz ((p.drop off).take (k*sz)))=true∧Rep T μ0 w (.seq k sz ((p.drop off).take (k*sz))) (.slice base k cap):=by
    intro zs p hle hpl hidf hC
    refine⟨by simp only [idf];exact QEa _ _ (QCE _ _ hidf),?_⟩
    simp only [Rep]
    refine⟨base,cap,rfl,hk,by simp;omega,?_⟩
    rcases r with r | ⟨b,bo,hμ,rfl,_⟩
    ·left;omega
    ·obtain⟨b',bo',hμ',hC⟩:=hC ⟨b,bo,hμ⟩
     rw [hμ] at hμ'
     simp only [Option.some.injEq,Prod.mk.injEq] at hμ'
     obtain⟨rfl,rfl⟩:=hμ'
     exact .inr ⟨b,bo+off,rfl,(hC.drop off).take _⟩
   split at h
   ·rename_i E zs ap hf
    split at h
    ·rename_i hle
     simp only [Option.map_eq_some_iff,Prod.mk.injEq] at h
     obtain⟨⟨p,q⟩,hs,rfl,rfl⟩:=h
     have hob:=(hr.obj _ _ hf).2
     simp only [RepO] at hob
     rcases hob with ⟨hn,hz⟩ | ⟨b,bo,ys,c,fz,hμ,_⟩
     ·subst hz
      obtain⟨k1,k2⟩:=h2 _ _ _ [] hs (by simp [RepL])
      have hp:p=[]:=by have:=k2.length;simpa using this.symm
      subst hp
      exact fin hle rfl k1 (fun ⟨b,bo,hμ⟩=>by rw [hn] at hμ;cases hμ)
     ·obtain⟨ys,g1,g2,g3⟩:=QB9 hr hf hμ
      obtain⟨k1,k2⟩:=h2 _ _ _ ys hs g1
      exact fin hle (k2.length.symm.trans g1.length) k1 (fun _=>⟨b,bo,hμ,cellsC (zs:=zs) (fun i _=>hO b ⟨o,_,bo,hf,rfl,hμ⟩ _) k2 g2 g3⟩)
    ·cases h
   ·rename_i zs hf
    split at h
    ·rename_i hle
     simp only [Option.map_eq_some_iff,Prod.mk.injEq] at h
     obtain⟨⟨p,q⟩,hs,rfl,rfl⟩:=h
     have hob:=(hr.obj _ _ hf).2
     simp only [RepO] at hob
     rcases hob with hz | ⟨b,bo,hμ,_⟩
     ·subst hz
      obtain⟨k1,k2⟩:=h2 _ _ _ [] hs (by simp [RepL])
      have hp:p=[]:=by have:=k2.length;simpa using this.symm
      subst hp
      exact fin hle rfl k1 (fun ⟨b,bo,hμ⟩=>⟨b,bo,hμ,by simp [RepC]⟩)
     ·obtain⟨ys,g1,g2,g3⟩:=QDE hr hf hμ
      obtain⟨k1,k2⟩:=h2 _ _ _ ys hs g1
      exact fin hle (k2.length.symm.trans g1.length) k1 (fun _=>⟨b,bo,hμ,cellsC (zs:=zs) (fun i hi=>hS _ _ (immS hr hf hμ i (by have e1:ys.length=p.length:=k2.length;have e2:ys.length=zs.length:=g1.length;have e3:i<p.length:=hi;omega))) k2 g2 g3⟩)
    ·cases h
   ·cases h
  | mp o=>
   simp only [snap] at h
   split at h
   ·rename_i kt ks zs hf
    simp only [Option.map_eq_some_iff,Prod.mk.injEq] at h
    obtain⟨⟨p,q⟩,hs,rfl,rfl⟩:=h
    obtain⟨b,bo,es,clock,rfl,hμ,hb,hok,hks,hxs,hno⟩:=QI5 hr hf r
    obtain⟨k1,k2⟩:=h2 _ _ _ _ hs hxs
    refine⟨by simpa only [idf] using k1,?_⟩
    simp only [Rep]
    exact .inr ⟨b,es,clock,rfl,hO b ⟨o,_,bo,hf,rfl,hμ⟩ _,hb,hok,hks,k2⟩
   ·cases h
  | agg xs=>
   simp only [snap,Option.map_eq_some_iff,Prod.mk.injEq] at h
   obtain⟨⟨p,q⟩,hs,rfl,rfl⟩:=h
   simp only [Rep] at r
   obtain⟨ys,e,r,o⟩:=r
   obtain⟨k1,k2⟩:=h2 _ _ _ _ hs r
   refine⟨by simpa only [idf] using k1,?_⟩
   simp only [Rep]
   exact⟨ys,e,k2,o⟩
  | tup xs=>
   simp only [snap,Option.map_eq_some_iff,Prod.mk.injEq] at h
   obtain⟨⟨p,q⟩,hs,rfl,rfl⟩:=h
   simp only [Rep] at r
   obtain⟨ys,e,r⟩:=r
   obtain⟨k1,k2⟩:=h2 _ _ _ _ hs r
   refine⟨by simpa only [idf] using k1,?_⟩
   simp only [Rep]
   exact⟨ys,e,k2⟩
  | clo fn fs c=>
   simp only [snap] at h
   split at h
   ·rename_i hf
    simp only [Option.map_eq_some_iff,Prod.mk.injEq] at h
    obtain⟨⟨p,q⟩,hs,rfl,rfl⟩:=h
    simp only [Rep] at r
    obtain⟨us,cs,e,r1,r2⟩:=r
    obtain⟨k1,k2⟩:=h2 _ _ _ _ hs r2
    refine⟨by simp only [idf,hf,Bool.true_and];exact k1,?_⟩
    simp only [Rep]
    exact⟨us,cs,e,RepL.idf0 hS _ _ hf r1,k2⟩
   ·cases h
  | it o=>simp [snap,idf] at h
  | _=>
   simp only [snap] at h
   split at h
   ·rename_i hi
    simp only [Option.some.injEq,Prod.mk.injEq] at h
    obtain⟨rfl,rfl⟩:=h
    exact⟨hi,Rep.idf0 hS _ _ hi r⟩
   ·cases h
theorem QN9 (hr:RM S μ w m) (n:Nat):∀(x:AV) y ids v,snap m.find n x=some (y,ids)→Rep S μ w x v→idf y=true∧Rep (Sall w) μ0 w y v:=
 QBI hr (fun b off h=>hr.old b off h) (fun b h _=>by obtain⟨o,ob,bo,_,_,h⟩:=h;exact hr.bk o b bo h) n
theorem QCK (hr:RM S μ w m):∀{xs ys:List AV} {ids:List Nat} {vs:List Value},QJ m.find xs=some (ys,ids)→RepL S μ w xs vs→RepL (Sall w) μ0 w ys vs
 | [],ys,ids,vs,h,r=>by simp only [QJ,Option.some.injEq,Prod.mk.injEq] at h;obtain⟨rfl,rfl⟩:=h;simpa [RepL] using r
 | x::xs,ys,ids,vs,h,r=>by
  simp only [QJ] at h
  split at h
  ·rename_i p q hp hq
   simp only [Option.some.injEq,Prod.mk.injEq] at h
   obtain⟨rfl,rfl⟩:=h
   simp only [RepL] at r
   obtain⟨y,zs,rfl,r1,r2⟩:=r
   simp only [RepL]
   exact⟨y,zs,rfl,(QN9 hr 12 x p.1 p.2 y hp r1).2,QCK hr hq r2⟩
  ·cases h
theorem QGn {F:AV→Option (AV×List Nat)} (hF:∀(x:AV) y ids,F x=some (y,ids)→ids=[]→y=x):∀(xs:List AV) ys ids,QBV F xs=some (ys,ids)→ids=[]→ys=xs
 | [],ys,ids,h,_=>by simp only [QBV,Option.some.injEq,Prod.mk.injEq] at h;exact h.1.symm
 | x::xs,ys,ids,h,hi=>by
  simp only [QBV] at h
  split at h
  ·rename_i p q hp hq
   simp only [Option.some.injEq,Prod.mk.injEq] at h
   obtain⟨rfl,h⟩:=h
   rw [←h] at hi
   rw [List.append_eq_nil_iff] at hi
   rw [hF x p.1 p.2 hp hi.1,QGn hF xs q.1 q.2 hq hi.2]
  ·cases h
theorem QM8 {F:AV→Option (AV×List Nat)} (hF:∀(x:AV) y ids,F x=some (y,ids)→ids=[]→y=x) (xs:List AV) (ys:List AV) (ids:List Nat) (h:QAO F xs=some (ys,ids)) (hi:ids=[]):ys=xs:=by
 unfold QAO at h
 split at h
 ·simp only [Option.some.injEq,Prod.mk.injEq] at h;exact h.1.symm
 ·exact QGn hF _ _ _ h hi
theorem QH5 (find:Nat→Option AObj):∀(n:Nat) (x:AV) y ids,snap find n x=some (y,ids)→ids=[]→y=x
 | 0,x,y,ids,h,_=>by simp [snap] at h
 | n+1,x,y,ids,h,hi=>by
  have h2:=QM8 (QH5 find n)
  cases x with
  | ptr o off=>
   simp only [snap] at h
   split at h
   ·simp only [Option.map_eq_some_iff,Prod.mk.injEq] at h;obtain⟨_,_,_,rfl⟩:=h;cases hi
   ·simp only [Option.map_eq_some_iff,Prod.mk.injEq] at h;obtain⟨_,_,_,rfl⟩:=h;cases hi
   ·cases h
  | sl o off k sz=>
   simp only [snap] at h
   split at h
   ·split at h
    ·simp only [Option.map_eq_some_iff,Prod.mk.injEq] at h;obtain⟨_,_,_,rfl⟩:=h;cases hi
    ·cases h
   ·split at h
    ·simp only [Option.map_eq_some_iff,Prod.mk.injEq] at h;obtain⟨_,_,_,rfl⟩:=h;cases hi
    ·cases h
   ·cases h
  | mp o=>
   simp only [snap] at h
   split at h
   ·simp only [Option.map_eq_some_iff,Prod.mk.injEq] at h;obtain⟨_,_,_,rfl⟩:=h;cases hi
   ·cases h
  | agg xs=>
   simp only [snap,Option.map_eq_some_iff,Prod.mk.injEq] at h
   obtain⟨⟨p,q⟩,hs,rfl,rfl⟩:=h
   rw [h2 _ _ _ hs hi]
  | tup xs=>
   simp only [snap,Option.map_eq_some_iff,Prod.mk.injEq] at h
   obtain⟨⟨p,q⟩,hs,rfl,rfl⟩:=h
   rw [h2 _ _ _ hs hi]
  | clo fn fs c=>
   simp only [snap] at h
   split at h
   ·simp only [Option.map_eq_some_iff,Prod.mk.injEq] at h
    obtain⟨⟨p,q⟩,hs,rfl,rfl⟩:=h
    rw [h2 _ _ _ hs hi]
   ·cases h
  | _=>
   simp only [snap] at h
   split at h
   ·simp only [Option.some.injEq,Prod.mk.injEq] at h;exact h.1.symm
   ·cases h
theorem QD4 {find:Nat→Option AObj}:∀{xs ys:List AV} {ids:List Nat},QJ find xs=some (ys,ids)→ids=[]→ys=xs
 | [],ys,ids,h,_=>by simp only [QJ,Option.some.injEq,Prod.mk.injEq] at h;exact h.1.symm
 | x::xs,ys,ids,h,hi=>by
  simp only [QJ] at h
  split at h
  ·rename_i p q hp hq
   simp only [Option.some.injEq,Prod.mk.injEq] at h
   obtain⟨rfl,h⟩:=h
   rw [←h] at hi
   rw [List.append_eq_nil_iff] at hi
   rw [QH5 find 12 x p.1 p.2 hp hi.1,QD4 hq hi.2]
  ·cases h
theorem QEY {w w':World} (hsz:w.heap.size≤w'.heap.size) (hh:∀b,b<w.heap.size→w'.heap[b]?=w.heap[b]?) (b:Nat):Qw w b≤Qw w' b:=by
 by_cases hb:b<w.heap.size
 ·rw [QAx (hh b hb)];exact Nat.le_refl _
 ·have hx:Qw w b=0:=by simp [Qw,Array.getElem?_eq_none (show w.heap.size≤b by omega)]
  omega
theorem QIL (hr:RM S μ w m) (hsub:∀b off,S b off→S' b off) (hnew:∀b off,b<w.heap.size→S' b off→S b off) (hold:∀b off,S' b off→b<w'.heap.size) (hsz:w.heap.size≤w'.heap.size) (hh:∀b,b<w.heap.size→w'.heap[b]?=w.heap[b]?) (huf:∀b,b<w.heap.size→Uf w b→Uf w' b)
  (hos:w'.os=w.os) (htp:QCX w w') (hout:w'.output=w.output):RM S' μ w' m∧Keeps S μ w S' μ w'∧∀n0,n0≤m.next→Ext n0 m S μ w m S' μ w':=by
 have hk:Keeps S μ w S' μ w':=⟨fun _ _=>rfl,hsub,fun b off hs=>QAJ (hh b (hr.old b off hs)),fun b off es clock hs h=>by rw [hh b (hr.old b off hs)];exact h,QEY hsz hh,hsz,huf⟩
 have hk0:Keeps S μ w S μ w':=⟨fun _ _=>rfl,fun _ _ h=>h,fun b off hs=>QAJ (hh b (hr.old b off hs)),fun b off es clock hs h=>by rw [hh b (hr.old b off hs)];exact h,QEY hsz hh,hsz,huf⟩
 refine⟨⟨fun o ob h=>?_,hr.inj,hold,hr.fr,hr.win,hr.le,fun o b bo h=>by have:=hr.bk o b bo h;omega⟩,hk,fun n0 hn=>⟨hos,htp,hout,hsz,fun _ _=>rfl,fun _ _ h=>h,hn,hsub,fun b off hb h=>.inl (hnew b off hb h),hk.cell,hk.map,fun b hb h=>⟨hh b hb,h⟩,hk.bsz,huf⟩⟩
 obtain⟨h1,h2⟩:=hr.obj o ob h
 refine⟨h1,?_⟩
 have hno:∀b bo,μ o=some (b,bo)→(∀off,¬S b off)→∀off,¬S' b off:=fun b bo hμ hn off hs=>hn off (hnew b off (hr.bk o b bo hμ) hs)
 cases ob with
 | cells E xs ap=>
  simp only [RepO] at h2 ⊢
  rcases h2 with h2 | ⟨b,bo,ys,c,fz,e1,e2,e3,e4,e5,e6,e7,e8⟩
  ·exact .inl h2
  ·exact .inr ⟨b,bo,ys,c,fz,e1,(hh b (hr.bk o b bo e1)).trans e2,e3,RepL.keep hk _ _ e4,e5,e6,e7,hno b bo e1 e8⟩
 | imm xs=>
  simp only [RepO] at h2 ⊢
  rcases h2 with h2 | ⟨b,bo,e1,e2⟩
  ·exact .inl h2
  ·exact .inr ⟨b,bo,e1,RepC.keep hk _ _ _ e2⟩
 | map kt ks xs=>
  simp only [RepO] at h2 ⊢
  obtain⟨b,bo,es,clock,e1,e2,e3,e4,e5,e6⟩:=h2
  exact⟨b,bo,es,clock,e1,(hh b (hr.bk o b bo e1)).trans e2,e3,e4,RepL.keep hk _ _ e5,hno b bo e1 e6⟩
 | miter last ks xs=>
  simp only [RepO] at h2 ⊢
  obtain⟨b,bo,mb,since,seen,stepped,e1,e2,e3,e4⟩:=h2
  refine⟨b,bo,mb,since,seen,stepped,e1,hno b bo e1 e2,(hh b (hr.bk o b bo e1)).trans e3,?_⟩
  rcases e4 with e4 | ⟨r,es,kt,g1,g2,g3,g4,g5,g6,g7,g8⟩
  ·exact .inl e4
  ·exact .inr ⟨r,es,kt,g1,hsub _ _ g2,hk.map _ _ _ _ g2 g3,g4,g5,g6,RepL.keep hk _ _ g7,fun p hp=>(g8 p hp).imp fun e he=>⟨he.1,he.2.1,he.2.2.1,Rep.keep hk _ _ he.2.2.2⟩⟩
 | siter s pos=>
  simp only [RepO] at h2 ⊢
  obtain⟨b,bo,e1,e2,e3⟩:=h2
  exact⟨b,bo,e1,hno b bo e1 e2,(hh b (hr.bk o b bo e1)).trans e3⟩
 | loop N ts xs ps assign body st pe=>
  simp only [RepO] at h2 ⊢
  obtain⟨b,bo,D,fn,tmps,e1,e2,e3,e4,e5⟩:=h2
  exact⟨b,bo,D,fn,tmps,e1,hno b bo e1 e2,(hh b (hr.bk o b bo e1)).trans e3,e4,RepL.keep hk _ _ e5⟩
 | past T=>simp only [RepO] at h2 ⊢;exact fun b ht=>Nat.lt_of_lt_of_le (h2 b ht) hsz
 | bag=>
  simp only [RepO] at h2 ⊢
  obtain⟨b0,code,e1,e2⟩:=h2
  refine⟨b0,code,e1,fun b ht=>?_⟩
  obtain⟨g1,g2,g3,g4⟩:=e2 b ht
  have hlt:b<w.heap.size:=by
   rcases Nat.lt_or_ge b w.heap.size with h | h
   ·exact h
   ·simp [Qw,Array.getElem?_eq_none h] at g1
  exact⟨Nat.lt_of_lt_of_le g1 (hk.bsz b),huf b hlt g2,fun off hs=>g3 off (hnew b off hlt hs),g4⟩
 | dead=>simp [RepO]
theorem GOK.all {w:World} (h:GOK γ S w) (hs:∀b off,S b off→b<w.heap.size):GOK γ (Sall w) w:=⟨fun g vs hg j v hv=>by
 obtain⟨h1,h2,h3⟩:=h.1 g vs hg j v hv
 exact⟨hs _ _ h1,h2,h3⟩,h.2⟩
theorem QE.run {g:FuncId} {xs ys:List AV} {ids:List Nat} {x:AV} (hp:QE P γ g ys x) (hs:QJ m.find xs=some (ys,ids)) (hsc:QGI x=true∨ids=[]) (hr:RM S μ w m) (hG:GOK γ S w) {vs:List Value} (hx:RepL S μ w xs vs):
  Calls P g vs.toArray w fun e w'=>∃v S',e=.returned v∧RM S' μ w' m∧Keeps S μ w S' μ w'∧(∀n0,n0≤m.next→Ext n0 m S μ w m S' μ w')∧Rep S' μ w' x v:=by
 obtain⟨hi1,hi2,_,hcall⟩:=hp
 rcases hsc with hsc | hids
 ·refine (hcall (Sall w) w vs (fun b off h=>h) (hG.all hr.old) (QCK hr hs hx)).mono fun e w' he=>?_
  obtain⟨v,S',rfl,hE,hv⟩:=he
  obtain⟨h1,h2,h3⟩:=QIL (S':=S) (w':=w') hr (fun _ _ h=>h) (fun _ _ _ h=>h) (fun b off h=>Nat.lt_of_lt_of_le (hr.old b off h) hE.size) hE.size hE.heap hE.uf hE.os hE.tape hE.output
  exact⟨v,S,rfl,h1,h2,h3,QP2 hsc hv⟩
 ·have hys:=QD4 hs hids
  subst hys
  refine (hcall S w vs hr.old hG (RepL.idf0 (fun _ _ h=>h) _ _ hi1 hx)).mono fun e w' he=>?_
  obtain⟨v,S',rfl,hE,hv⟩:=he
  obtain⟨h1,h2,h3⟩:=QIL (S':=S') (w':=w') hr hE.sub hE.new hE.old hE.size hE.heap hE.uf hE.os hE.tape hE.output
  exact⟨v,S',rfl,h1,h2,h3,Rep.idf1 _ _ hi2 hv⟩
theorem PNew.run {g:FuncId} {xs ys:List AV} {ids:List Nat} {x:AV} (hp:PNew P γ g ys x) (hs:QJ m.find xs=some (ys,ids)) (hr:RM S μ w m) (hG:GOK γ S w) {vs:List Value} (hx:RepL S μ w xs vs):
  Calls P g vs.toArray w fun e w'=>∃v S',e=.returned v∧RM S' μ w' m∧Keeps S μ w S' μ w'∧(∀n0,n0≤m.next→Ext n0 m S μ w m S' μ w')∧Rep S' μ w' x v:=by
 obtain⟨hi1,hi2,_,hcall⟩:=hp
 refine (hcall (Sall w) w vs (fun b off h=>h) (hG.all hr.old) (QCK hr hs hx)).mono fun e w' he=>?_
 obtain⟨v,rfl,hE,hv⟩:=he
 obtain⟨h1,h2,h3⟩:=QIL (S':=fun b off=>S b off∨(w.heap.size≤b∧b<w'.heap.size)) (w':=w') hr (fun _ _ h=>.inl h) (fun b off hb h=>by
  rcases h with h | h
  ·exact h
  ·omega) (fun b off h=>by
  rcases h with h | h
  ·exact Nat.lt_of_lt_of_le (hr.old b off h) hE.size
  ·exact h.2) hE.size hE.heap hE.uf hE.os hE.tape hE.output
 exact⟨v,_,rfl,h1,h2,h3,Rep.idf1 _ _ hi2 (Rep.idf0 (fun _ _ h=>.inr ⟨h.1,h.2.1⟩) _ _ hi2 hv)⟩
theorem POwn.run {g:FuncId} {xs ys:List AV} {ids:List Nat} {n z:Nat} {E:TypeId} {cs:List AV} {fresh:Nat} (hp:POwn P γ g ys n z E cs) (hs:QJ m.find xs=some (ys,ids)) (hr:RM S μ w m) (hG:GOK γ S w) {vs:List Value} (hx:RepL S μ w xs vs)
  (hf0:μ fresh=none) (hf1:fresh<m.next):
  Calls P g vs.toArray w fun e w'=>∃v μ',e=.returned v∧RM S μ' w' (m.upd [(fresh,.cells E cs true)])∧Keeps S μ w S μ' w'∧(∀n0,n0≤fresh→n0≤m.next→Ext n0 m S μ w (m.upd [(fresh,.cells E cs true)]) S μ' w')∧Rep S μ' w' (.sl fresh 0 n z) v:=by
 obtain⟨_,hi2,_,hcall⟩:=hp
 refine (hcall (Sall w) w vs (fun b off h=>h) (hG.all hr.old) (QCK hr hs hx)).mono fun e w' he=>?_
 obtain⟨v,p,rfl,hE,hob,hv,hnew⟩:=he
 have hcell:∀b off,S b off→w'.cell? ⟨b,off,none⟩=w.cell? ⟨b,off,none⟩:=fun b off hs=>QAJ (hE.heap b (hr.old b off hs))
 have hmap:∀b off es clock,S b off→w.heap[b]?=some (.map es clock)→w'.heap[b]?=some (.map es clock):=fun b off es clock hs h=>by rw [hE.heap b (hr.old b off hs)];exact h
 have hk:Keeps S μ w S (fun o=>if o=fresh then p else μ o) w':=⟨fun o ho=>by
  by_cases e:o=fresh
  ·subst e;exact absurd hf0 ho
  ·simp [e],fun _ _ h=>h,hcell,hmap,QEY hE.size hE.heap,hE.size,hE.uf⟩
 have hobN:RepO S (fun o=>if o=fresh then p else μ o) w' fresh (.cells E cs true):=by
  simp only [RepO,μ1,if_true] at hob ⊢
  rcases hob with ⟨h1,h2⟩ | ⟨b,bo,zs,c,fz,e1,e2,e3,e4,e5,e6,e7,_⟩
  ·exact .inl ⟨h1,h2⟩
  ·exact .inr ⟨b,bo,zs,c,fz,e1,e2,e3,RepL.scl _ _ hi2 e4,e5,e6,e7,fun off hs=>by have:=hr.old b off hs;have:=(hnew b bo e1).1;omega⟩
 have hrm:RM S (fun o=>if o=fresh then p else μ o) w' (m.upd [(fresh,.cells E cs true)]):=by
  refine RM.step hr hk _ hE.size (fun o ob b bo h1 h2 h3 h4=>hE.heap b (hr.bk o b bo h4)) (fun o ob h=>?_) (fun o ob h h2 o' ob' h3 h4 hne b i j hb hb'=>?_) (fun o h=>?_) (fun o b bo h h2=>?_) (fun q b bo h=>?_)
  ·simp only [lk] at h
   split at h
   ·rename_i e;subst e;simp only [Option.some.injEq] at h;subst h
    exact⟨hf1,hobN⟩
   ·cases h
  ·simp only [lk] at h
   split at h
   ·rename_i e;subst e
    simp only [if_true] at hb
    rw [if_neg (Ne.symm hne)] at hb'
    have:=(hnew b i hb).1
    have:=hr.bk _ _ _ hb'
    omega
   ·cases h
  ·by_cases e:o=fresh
   ·right;subst e;simp [lk]
   ·left;simpa [e] using h
  ·by_cases e:o=fresh
   ·simp only [e,if_true] at h;exact (hnew _ _ h).2
   ·simp only [e,if_false] at h;rw [h2] at h;cases h
  ·by_cases e:q=fresh
   ·simp only [e,if_true] at h;exact .inr (hnew _ _ h).1
   ·simp only [e,if_false] at h;exact .inl ⟨q,bo,h⟩
 have hown:∀b,b<w.heap.size→Q6 (m.upd [(fresh,.cells E cs true)]) (fun o=>if o=fresh then p else μ o) b→Q6 m μ b:=by
  intro b hb ho
  rcases ho with ⟨o,ob,bo,h1,h2,h3⟩ | ⟨o,b0,code,h1,h2,h3⟩
  ·by_cases e:o=fresh
   ·simp only [e,if_true] at h3;have:=(hnew _ _ h3).1;omega
   ·rw [QP,if_neg (Ne.symm e)] at h1
    exact .inl ⟨o,ob,bo,h1,h2,by simpa [e] using h3⟩
  ·by_cases e:o=fresh
   ·rw [QP,if_pos e.symm] at h1;cases h1
   ·rw [QP,if_neg (Ne.symm e)] at h1
    exact .inr ⟨o,b0,code,h1,by simpa [e] using h2,h3⟩
 refine⟨v,_,rfl,hrm,hk,fun n0 hn hn2=>⟨hE.os,hE.tape,hE.output,hE.size,fun o ho=>by rw [if_neg (by omega)],fun o ho h=>?_,hn2,fun _ _ h=>h,fun _ _ _ h=>.inl h,hcell,hmap,fun b hb ho=>⟨hE.heap b hb,fun hx=>ho (hown b hb hx)⟩,hk.bsz,hE.uf⟩,?_⟩
 ·rw [QP,if_neg (by omega)] at h;exact h
 ·simp only [Rep,μ1,if_true] at hv ⊢
  exact hv
theorem Fit.run {g:FuncId} {xs ys:List AV} {ids:List Nat} {x:AV} (hp:Fit P γ g ys ids x) (hs:QJ m.find xs=some (ys,ids)) (hr:RM S μ w m) (hG:GOK γ S w) {vs:List Value} (hx:RepL S μ w xs vs):
  Calls P g vs.toArray w fun e w'=>∃v S',e=.returned v∧RM S' μ w' m∧Keeps S μ w S' μ w'∧(∀n0,n0≤m.next→Ext n0 m S μ w m S' μ w')∧Rep S' μ w' x v:=by
 rcases hp with ⟨hp,hsc⟩ | hp
 ·exact hp.run hs hsc hr hG hx
 ·exact hp.run hs hr hG hx
theorem Fit.callable {g:FuncId} {ys:List AV} {ids:List Nat} {x:AV} (hp:Fit P γ g ys ids x):QBa P g:=by
 rcases hp with ⟨hp,_⟩ | hp
 ·exact hp.2.2.1
 ·exact hp.2.2.1
theorem Fit.use {g:FuncId} {xs ys:List AV} {ids:List Nat} {x:AV} {K:AV→Mem→Prop} (hp:Fit P γ g ys ids x) (hs:QJ m.find xs=some (ys,ids)) (hK:K x m):Qr P γ g xs m K:=by
 refine⟨hp.callable,fun S μ w vs hr hG hx=>?_⟩
 refine (hp.run hs hr hG hx).mono fun e w' he=>?_
 obtain⟨v,S',rfl,h1,h2,h3,h4⟩:=he
 exact⟨v,x,m,S',μ,rfl,rfl,rfl,h1,h3 _ (Nat.le_refl _),h4,hK⟩
theorem QE.use {g:FuncId} {xs ys:List AV} {ids:List Nat} {x:AV} {K:AV→Mem→Prop} (hp:QE P γ g ys x) (hs:QJ m.find xs=some (ys,ids)) (hsc:QGI x=true∨ids=[]) (hK:K x m):Qr P γ g xs m K:=by
 refine⟨hp.2.2.1,fun S μ w vs hr hG hx=>?_⟩
 refine (hp.run hs hsc hr hG hx).mono fun e w' he=>?_
 obtain⟨v,S',rfl,h1,h2,h3,h4⟩:=he
 exact⟨v,x,m,S',μ,rfl,rfl,rfl,h1,h3 _ (Nat.le_refl _),h4,hK⟩
theorem QOM {find:Nat→Option AObj}:∀{ids:List Nat} {o:Nat},lk (QBj find ids) o=if o∈ids∧(find o).isSome=true then some .dead else none
 | [],o=>by simp [QBj,lk]
 | i::ids,o=>by
  have ih:=QOM (find:=find) (ids:=ids) (o:=o)
  unfold QBj at ih ⊢
  by_cases hi:(find i).isSome=true
  ·rw [List.filter_cons_of_pos (p:=fun o=>(find o).isSome) hi,List.map_cons]
   simp only [lk]
   by_cases e:i=o
   ·subst e;simp [hi]
   ·rw [if_neg e,ih]
    have:(o∈i::ids)↔o∈ids:=by simp [Ne.symm e]
    simp only [this]
  ·rw [List.filter_cons_of_neg (p:=fun o=>(find o).isSome) hi,ih]
   by_cases e:i=o
   ·subst e;simp [hi]
   ·have:(o∈i::ids)↔o∈ids:=by simp [Ne.symm e]
    simp only [this]
theorem QB6 {o:Nat} {ids:List Nat}:(m.upd (QBj m.find ids)).find o=if o∈ids∧(m.find o).isSome=true then some .dead else m.find o:=by
 rw [QAQ,QOM]
 by_cases h:o∈ids∧(m.find o).isSome=true<;>simp [h]
theorem QCs {T:Nat→Nat→Prop} (hr:RM S μ w m) (hS:∀b off,S b off→T b off) (hO:∀b,QBE m μ b→∀off,T b off):∀{xs ys:List AV} {ids:List Nat} {vs:List Value},QJ m.find xs=some (ys,ids)→RepL S μ w xs vs→RepL T μ0 w ys vs
 | [],ys,ids,vs,h,r=>by simp only [QJ,Option.some.injEq,Prod.mk.injEq] at h;obtain⟨rfl,rfl⟩:=h;simpa [RepL] using r
 | x::xs,ys,ids,vs,h,r=>by
  simp only [QJ] at h
  split at h
  ·rename_i p q hp hq
   simp only [Option.some.injEq,Prod.mk.injEq] at h
   obtain⟨rfl,rfl⟩:=h
   simp only [RepL] at r
   obtain⟨y,zs,rfl,r1,r2⟩:=r
   simp only [RepL]
   exact⟨y,zs,rfl,(QBI hr hS hO 12 x p.1 p.2 y hp r1).2,QCs hr hS hO hq r2⟩
  ·cases h
def only (m:Mem) (ids:List Nat):Mem:={ m with objs:=m.objs.filter fun p=>ids.contains p.1,base:=m.next,wid:=0 }
theorem QB8 {o:Nat} {ids:List Nat}:(only m ids).find o=if o∈ids then m.find o else none:=by
 show lk (m.objs.filter fun p=>ids.contains p.1) o=_
 have:∀l:List (Nat×AObj),lk (l.filter fun p=>ids.contains p.1) o=if o∈ids then lk l o else none:=by
  intro l
  induction l with
  | nil=>simp [lk]
  | cons p l ih=>
   obtain⟨i,x⟩:=p
   by_cases hi:i∈ids
   ·rw [List.filter_cons_of_pos (by simpa using hi)]
    simp only [lk]
    by_cases e:i=o
    ·subst e;simp [hi]
    ·simp only [if_neg e,ih]
   ·rw [List.filter_cons_of_neg (by simpa using hi),ih]
    by_cases e:i=o
    ·subst e;simp [hi]
    ·simp only [lk,if_neg e]
 exact this m.objs
theorem RM.only (hr:RM S μ w m) (ids:List Nat):RM S μ w (only m ids):=by
 have hf:∀{o ob},(Go.AW.only m ids).find o=some ob→m.find o=some ob:=fun {o ob} h=>by
  rw [QB8] at h;split at h
  ·exact h
  ·cases h
 exact⟨fun o ob h=>⟨(hr.obj o ob (hf h)).1,(hr.obj o ob (hf h)).2⟩,fun o o' ob ob' h h'=>hr.inj o o' ob ob' (hf h) (hf h'),hr.old,hr.fr,fun o h1 h2=>by simp only [Go.AW.only] at h1 h2;omega,Nat.le_refl _,hr.bk⟩
theorem QE.runF {g:FuncId} {xs ys:List AV} {ids:List Nat} {x:AV} (hp:QE P γ g ys x) (hs:QJ m.find xs=some (ys,ids)) (hr:RM S μ w m) (hG:GOK γ S w) {vs:List Value} (hx:RepL S μ w xs vs):
  Calls P g vs.toArray w fun e w'=>∃v S',e=.returned v∧RM S' μ w' (m.upd (QBj m.find ids))∧Keeps S μ w S' μ w'∧(∀n0,n0≤m.next→Ext n0 m S μ w (m.upd (QBj m.find ids)) S' μ w')∧Rep S' μ w' x v:=by
 obtain⟨hi1,hi2,_,hcall⟩:=hp
 let T:Nat→Nat→Prop:=fun b off=>S b off∨QBE (only m ids) μ b
 have hr1:=hr.only ids
 have hs1:QJ (only m ids).find xs=some (ys,ids):=QBg hs fun q hq=>by rw [QB8,if_pos hq]
 have hys:RepL T μ0 w ys vs:=QCs (T:=T) hr1 (fun b off h=>.inl h) (fun b h off=>.inr h) hs1 hx
 have hown:∀b,QBE (only m ids) μ b→QBE m μ b:=fun b ⟨o,ob,bo,h1,h2,h3⟩=>by
  rw [QB8] at h1
  split at h1
  ·exact⟨o,ob,bo,h1,h2,h3⟩
  ·cases h1
 have hK:Keeps S μ w T μ w:=⟨fun _ _=>rfl,fun _ _ h=>.inl h,fun _ _ _=>rfl,fun _ _ _ _ _ h=>h,fun _=>Nat.le_refl _,Nat.le_refl _,fun _ _ h=>h⟩
 have hf:∀{o ob},(m.upd (QBj m.find ids)).find o=some ob→(ob=.dead∧(m.find o).isSome=true)∨(o∉ids∧m.find o=some ob):=fun {o ob} h=>by
  rw [QB6] at h
  split at h
  ·rename_i hc
   simp only [Option.some.injEq] at h
   exact .inl ⟨h.symm,hc.2⟩
  ·rename_i hc
   refine .inr ⟨fun hm=>hc ⟨hm,by rw [h];rfl⟩,h⟩
 have hnot:∀{o b bo:Nat} {ob:AObj},o∉ids→m.find o=some ob→ob.own=true→μ o=some (b,bo)→(∀off,¬S b off)→∀off,¬T b off:=by
  intro o b bo ob ho hfo hob hμ hS off h
  rcases h with h | ⟨o',ob',bo',h1,h2,h3⟩
  ·exact hS off h
  ·rw [QB8] at h1
   split at h1
   ·rename_i hm
    have hne:o'≠o:=fun e=>ho (e▸hm)
    exact hr.inj o' o ob' ob h1 hfo h2 hob hne b bo' bo h3 hμ
   ·cases h1
 have hr2:RM T μ w (m.upd (QBj m.find ids)):=by
  refine⟨fun o ob h=>?_,fun o o' ob ob' h h' ho ho' hne=>?_,fun b off h=>?_,hr.fr,fun o h1 h2 h3=>?_,hr.le,hr.bk⟩
  ·rcases hf h with ⟨rfl,h1⟩ | ⟨hn,h1⟩
   ·obtain⟨ob,hob⟩:=Option.isSome_iff_exists.1 h1
    exact⟨(hr.obj o ob hob).1,by simp [RepO]⟩
   ·refine⟨(hr.obj o ob h1).1,?_⟩
    have hobj:=(hr.obj o ob h1).2
    cases ob with
    | cells E xs ap=>
     simp only [RepO] at hobj ⊢
     rcases hobj with h2 | ⟨b,bo,ys,c,fz,e1,e2,e3,e4,e5,e6,e7,e8⟩
     ·exact .inl h2
     ·exact .inr ⟨b,bo,ys,c,fz,e1,e2,e3,RepL.keep hK _ _ e4,e5,e6,e7,hnot hn h1 rfl e1 e8⟩
    | imm xs=>
     simp only [RepO] at hobj ⊢
     rcases hobj with h2 | ⟨b,bo,e1,e2⟩
     ·exact .inl h2
     ·exact .inr ⟨b,bo,e1,RepC.keep hK _ _ _ e2⟩
    | map kt ks xs=>
     simp only [RepO] at hobj ⊢
     obtain⟨b,bo,es,clock,e1,e2,e3,e4,e5,e6⟩:=hobj
     exact⟨b,bo,es,clock,e1,e2,e3,e4,RepL.keep hK _ _ e5,hnot hn h1 rfl e1 e6⟩
    | miter last ks xs=>
     simp only [RepO] at hobj ⊢
     obtain⟨b,bo,mb,since,seen,stepped,e1,e2,e3,e4⟩:=hobj
     refine⟨b,bo,mb,since,seen,stepped,e1,hnot hn h1 rfl e1 e2,e3,?_⟩
     rcases e4 with e4 | ⟨r,es,kt,q1,q2,q3,q4,q5,q6,q7,q8⟩
     ·exact .inl e4
     ·exact .inr ⟨r,es,kt,q1,.inl q2,q3,q4,q5,q6,RepL.keep hK _ _ q7,fun p hp=>by
       obtain⟨e,r1,r2,r3,r4⟩:=q8 p hp
       exact⟨e,r1,r2,r3,Rep.keep hK _ _ r4⟩⟩
    | siter s pos=>
     simp only [RepO] at hobj ⊢
     obtain⟨b,bo,e1,e2,e3⟩:=hobj
     exact⟨b,bo,e1,hnot hn h1 rfl e1 e2,e3⟩
    | loop N ts xs ps assign body st pe=>
     simp only [RepO] at hobj ⊢
     obtain⟨b,bo,D,fn,tmps,e1,e2,e3,e4,e5⟩:=hobj
     exact⟨b,bo,D,fn,tmps,e1,hnot hn h1 rfl e1 e2,e3,e4,RepL.keep hK _ _ e5⟩
    | past T=>simpa only [RepO] using hobj
    | bag=>
     simp only [RepO] at hobj ⊢
     obtain⟨b0,code,e1,e2⟩:=hobj
     refine⟨b0,code,e1,fun b ht=>?_⟩
     obtain⟨g1,g2,g3,g4⟩:=e2 b ht
     refine⟨g1,g2,fun off hs=>?_,g4⟩
     rcases hs with hs | ⟨o',ob',bo',h1,h2,h3⟩
     ·exact g3 off hs
     ·exact g4 _ _ h3
    | dead=>simp [RepO]
  ·rcases hf h with ⟨rfl,_⟩ | ⟨_,h1⟩
   ·cases ho
   rcases hf h' with ⟨rfl,_⟩ | ⟨_,h1'⟩
   ·cases ho'
   exact hr.inj o o' ob ob' h1 h1' ho ho' hne
  ·rcases h with h | ⟨o,ob,bo,_,_,h⟩
   ·exact hr.old _ _ h
   ·exact hr.bk _ _ _ h
  ·have:=hr.win o h1 h2 h3
   rw [QB6]
   split
   ·simp
   ·exact this
 have hG2:GOK γ T w:=hG.keep hK
 refine (hcall T w vs hr2.old hG2 hys).mono fun e w' he=>?_
 obtain⟨v,S',rfl,hE,hv⟩:=he
 obtain⟨h1,h2,h3⟩:=QIL (S':=S') (w':=w') hr2 hE.sub hE.new hE.old hE.size hE.heap hE.uf hE.os hE.tape hE.output
 refine⟨v,S',rfl,h1,⟨h2.ids,fun b off h=>h2.sub b off (.inl h),fun b off h=>h2.cell b off (.inl h),fun b off es clock h=>h2.map b off es clock (.inl h),h2.bsz,h2.sz,h2.uf⟩,fun n0 hn0=>?_,Rep.idf1 _ _ hi2 hv⟩
 have h4:=h3 n0 hn0
 have hX:Ext n0 m S μ w (m.upd (QBj m.find ids)) T μ w:=⟨rfl,⟨rfl,Nat.le_refl _⟩,rfl,Nat.le_refl _,fun _ _=>rfl,fun o _ h=>by
   rw [QB6] at h
   split at h
   ·rename_i hc
    intro e;rw [e] at hc;exact absurd hc.2 (by simp)
   ·exact h,hn0,fun _ _ h=>.inl h,fun b off _ h=>by
    rcases h with h | h
    ·exact .inl h
    ·exact .inr (.inl (hown _ h)),fun _ _ _=>rfl,fun _ _ _ _ _ h=>h,fun b _ hx=>⟨rfl,fun hy=>by
     rcases hy with ⟨o,ob,bo,q1,q2,q3⟩ | ⟨o,b0,code,q1,q2,q3⟩
     ·rcases hf q1 with ⟨rfl,_⟩ | ⟨_,q4⟩
      ·cases q2
      ·exact hx (.inl ⟨o,ob,bo,q4,q2,q3⟩)
     ·rcases hf q1 with ⟨h9,_⟩ | ⟨_,q4⟩
      ·cases h9
      ·exact hx (.inr ⟨o,b0,code,q4,q2,q3⟩)⟩,fun _=>Nat.le_refl _,fun _ _ h=>h⟩
 exact hX.trans (Nat.le_refl _) h4
theorem QE.useF {g:FuncId} {xs ys:List AV} {ids:List Nat} {x:AV} {K:AV→Mem→Prop} (hp:QE P γ g ys x) (hs:QJ m.find xs=some (ys,ids)) (hK:K x (m.upd (QBj m.find ids))):Qr P γ g xs m K:=by
 refine⟨hp.2.2.1,fun S μ w vs hr hG hx=>?_⟩
 refine (hp.runF hs hr hG hx).mono fun e w' he=>?_
 obtain⟨v,S',rfl,h1,h2,h3,h4⟩:=he
 exact⟨v,x,m.upd (QBj m.find ids),S',μ,rfl,rfl,rfl,h1,h3 _ (Nat.le_refl _),h4,hK⟩
end Go.AW
