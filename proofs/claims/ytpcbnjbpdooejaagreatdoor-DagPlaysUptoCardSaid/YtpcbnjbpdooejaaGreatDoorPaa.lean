/- A part of the proof: A1 A2 A3 A4 A5 A6 A7 A8 A9 A10 A11. -/
import Derived.Deep.Quiet
import Derived.Laws.Rows
import Derived.Laws.Entries
import Derived.Laws.IdiomCopy
import Derived.Below
import Derived.Laws.MakeOwn
import Derived.ChangeKeysEq
import Derived.WideKeyRuns
import Derived.Lib.ConvBytes
import Derived.Laws.BytesArg
import Derived.Laws.BytesString
import Derived.MapKept
set_option linter.all false
namespace Go.AW
inductive KT where
 | intK (k:IntKind)
 | strK
 | boolK
 | arrK (n:Nat) (k:IntKind)
 deriving DecidableEq,Inhabited
def QC6 (k:IntKind):Value→Bool
 | .int j _=>j==k
 | _=>false
def kwf:KT→Value→Bool
 | .intK k,x=>QC6 k x
 | .strK,.string _=>true
 | .boolK,.bool _=>true
 | .arrK n k,.agg cs=>cs.size==n&&cs.toList.all (QC6 k)
 | _,_=>false
inductive AV where
 | v (x:Value)
 | agg (xs:List AV)
 | tup (xs:List AV)
 | seq (n sz:Nat) (xs:List AV)
 | full (n sz:Nat) (xs:List AV)
 | slc (o off n sz:Nat)
 | rop (xs:List AV)
 | ptr (o off:Nat)
 | sl (o off n sz:Nat)
 | mp (o:Nat)
 | mv (kt:KT) (ks:List Value) (xs:List AV)
 | it (o:Nat)
 | clo (fn:Fn) (first cap:List AV)
 | ifc (t:TypeId) (x:AV)
 | on (T:Nat→Prop) (u:Bool) (x:AV)
 | bs (o n:Nat)
 | bp (o:Nat)
 | yld (o:Nat)
 | top
 deriving Inhabited
inductive AObj where
 | cells (E:TypeId) (xs:List AV) (ap:Bool)
 | imm (xs:List AV)
 | map (kt:KT) (ks:List Value) (xs:List AV)
 | miter (last:Option (Value×AV)) (ks:List Value) (xs:List AV)
 | siter (s:ByteArray) (pos:Nat)
 | loop (N:Nat) (ts:List Nat) (xs:List AV) (ps:Array Nat) (assign body:Code) (st:LoopState) (pe:Option Code)
 | past (T:Nat→Prop)
 | bag
 | dead
 deriving Inhabited
structure Mem where
 objs:List (Nat×AObj)
 next:Nat
 base:Nat
 wid:Nat
 deriving Inhabited
def lk {α:Type}:List (Nat×α)→Nat→Option α
 | [],_=>none
 | (n,x)::e,m=>if n=m then some x else lk e m
abbrev Mem.find (m:Mem) (o:Nat):Option AObj:=lk m.objs o
def Qw (w:World) (b:Nat):Nat:=match w.heap[b]? with | some (.cells c _ _)=>c.size | _=>0
def Uf (w:World) (b:Nat):Prop:=∀c E fz,w.heap[b]?=some (.cells c E fz)→∀i,i<c.size→¬(fz.1≤i∧i<fz.2)
def QKb (kt:KT) (es:Array MapEntry) (clock:Nat):Prop:=(es.toList.map (·.born)).Nodup∧(∀e∈es.toList,e.born<clock)∧∀e∈es.toList,kwf kt e.key=true
mutual
def Rep (S:Nat→Nat→Prop) (μ:Nat→Option (Nat×Nat)) (w:World):AV→Value→Prop
 | .v x,y=>y=x
 | .agg xs,y=>∃ys:List Value,y=.agg ys.toArray∧RepL S μ w xs ys∧∀u∈ys,u.oneCell'=true
 | .tup xs,y=>∃ys:List Value,y=.tuple ys.toArray∧RepL S μ w xs ys
 | .seq n sz xs,y=>∃base cap,y=.slice base n cap∧n≤cap∧xs.length=n*sz∧(n=0∨∃b off,base=some ⟨b,off,none⟩∧RepC S μ w xs b off)
 | .full n sz xs,y=>∃base,y=.slice base n n∧xs.length=n*sz∧(n=0∨∃b off,base=some ⟨b,off,none⟩∧RepC S μ w xs b off)
 | .slc o off n sz,y=>∃base,y=.slice base n n∧(n=0∨∃b bo,μ o=some (b,bo)∧base=some ⟨b,bo+off,none⟩∧bo+off+n*sz≤Qw w b)
 | .rop xs,y=>∃b off,y=.pointer (some ⟨b,off,none⟩)∧RepC S μ w xs b off
 | .ptr o off,y=>∃b bo,μ o=some (b,bo)∧y=.pointer (some ⟨b,bo+off,none⟩)
 | .sl o off n sz,y=>∃base cap,y=.slice base n cap∧n≤cap∧(cap=0∨∃b bo,μ o=some (b,bo)∧base=some ⟨b,bo+off,none⟩∧bo+off+cap*sz≤Qw w b)
 | .mp o,y=>∃b bo,μ o=some (b,bo)∧y=.map (some b)
 | .mv kt ks xs,y=>(y=.map none∧ks=[]∧xs=[])∨∃(b:Nat) (es:Array MapEntry) (clock:Nat),y=.map (some b)∧S b 0∧w.heap[b]?=some (.map es clock)∧QKb kt es clock∧es.toList.map (·.key)=ks∧RepL S μ w xs (es.toList.map (·.val))
 | .it o,y=>∃b bo,μ o=some (b,bo)∧y=.pointer (some ⟨b,0,none⟩)
 | .clo fn f c,y=>∃fs cs:List Value,y=.func fn fs.toArray cs.toArray∧RepL S μ w f fs∧RepL S μ w c cs
 | .ifc t x,y=>∃u,y=.iface t u∧Rep S μ w x u
 | .on T u x,y=>Rep (fun b off=>S b off∧T b∧(u=true→b<w.heap.size∧Uf w b)) μ w x y
 | .bs o n,y=>∃base cap,y=.slice base n cap∧n≤cap∧(n=0∨∃b off b0 code,μ o=some (b0,code)∧code.testBit b=true∧base=some ⟨b,off,none⟩∧off+n≤Qw w b)
 | .bp o,y=>∃b off b0 code,μ o=some (b0,code)∧code.testBit b=true∧y=.pointer (some ⟨b,off,none⟩)∧off<Qw w b
 | .yld o,y=>∃b bo,μ o=some (b,bo)∧y=.func (.yield b) #[] #[]
 | .top,_=>True
def RepL (S:Nat→Nat→Prop) (μ:Nat→Option (Nat×Nat)) (w:World):List AV→List Value→Prop
 | [],ys=>ys=[]
 | x::xs,ys=>∃y zs,ys=y::zs∧Rep S μ w x y∧RepL S μ w xs zs
def RepC (S:Nat→Nat→Prop) (μ:Nat→Option (Nat×Nat)) (w:World):List AV→Nat→Nat→Prop
 | [],_,_=>True
 | x::xs,b,off=>(S b off∧∃u,w.cell? ⟨b,off,none⟩=some u∧u.oneCell'=true∧Rep S μ w x u)∧RepC S μ w xs b (off+1)
end
def RepO (S:Nat→Nat→Prop) (μ:Nat→Option (Nat×Nat)) (w:World) (o:Nat):AObj→Prop
 | .cells E xs _=>(μ o=none∧xs=[])∨∃(b bo:Nat) (ys:List Value) (c:Array Value) (fz:Nat×Nat),μ o=some (b,bo)∧w.heap[b]?=some (.cells c E fz)∧(∀i,i<c.size→¬(fz.1≤i∧i<fz.2))∧
   RepL S μ w xs ys∧(∀u∈ys,u.oneCell'=true)∧bo+ys.length≤c.size∧(∀j,j<ys.length→c[bo+j]?=ys[j]?)∧(∀off,¬S b off)
 | .imm xs=>xs=[]∨∃b bo,μ o=some (b,bo)∧RepC S μ w xs b bo
 | .map kt ks xs=>∃(b bo:Nat) (es:Array MapEntry) (clock:Nat),μ o=some (b,bo)∧w.heap[b]?=some (.map es clock)∧QKb kt es clock∧es.toList.map (·.key)=ks∧RepL S μ w xs (es.toList.map (·.val))∧(∀off,¬S b off)
 | .miter last ks xs=>∃(b bo:Nat) (mb:Option Nat) (since:Nat) (seen:Array Nat) (stepped:Nat),μ o=some (b,bo)∧(∀off,¬S b off)∧w.heap[b]?=some (.mapIter mb since seen stepped)∧
   ((mb=none∧ks=[]∧xs=[]∧last=none)∨∃(r:Nat) (es:Array MapEntry) (kt:KT),mb=some r∧S r 0∧w.heap[r]?=some (.map es since)∧QKb kt es since∧stepped=since∧
    (es.toList.filter fun e=>!seen.contains e.born).map (·.key)=ks∧RepL S μ w xs ((es.toList.filter fun e=>!seen.contains e.born).map (·.val))∧
    (∀p,last=some p→∃e∈es.toList,seen.back?=some e.born∧e.key=p.1∧Rep S μ w p.2 e.val))
 | .siter s pos=>∃b bo,μ o=some (b,bo)∧(∀off,¬S b off)∧w.heap[b]?=some (.stringIter s pos)
 | .loop N ts xs ps assign body st pe=>∃(b bo D:Nat) (fn:FuncId) (tmps:Array Value),μ o=some (b,bo)∧(∀off,¬S b off)∧w.heap[b]?=some (.loop { state:=st,pending:=pe,fn:=fn,tmps:=tmps,params:=ps,assign:=assign,body:=body,defers:=D })∧N≤tmps.size∧RepL S μ w xs (ts.map fun t=>tmps.getD t undef)
 | .past T=>∀b,T b→b<w.heap.size
 | .bag=>∃b0 code,μ o=some (b0,code)∧∀b,code.testBit b=true→0<Qw w b∧Uf w b∧(∀off,¬S b off)∧∀q bo,μ q≠some (b,bo)
 | .dead=>True
def AObj.own:AObj→Bool
 | .imm _=>false
 | .past _=>false
 | .bag=>false
 | .dead=>false
 | _=>true
def QBE (m:Mem) (μ:Nat→Option (Nat×Nat)) (b:Nat):Prop:=∃o ob bo,m.find o=some ob∧ob.own=true∧μ o=some (b,bo)
def OwnedB (m:Mem) (μ:Nat→Option (Nat×Nat)) (b:Nat):Prop:=∃o b0 code,m.find o=some .bag∧μ o=some (b0,code)∧code.testBit b=true
def Q6 (m:Mem) (μ:Nat→Option (Nat×Nat)) (b:Nat):Prop:=QBE m μ b∨OwnedB m μ b
structure RM (S:Nat→Nat→Prop) (μ:Nat→Option (Nat×Nat)) (w:World) (m:Mem):Prop where
 obj:∀o ob,m.find o=some ob→o<m.next∧RepO S μ w o ob
 inj:∀o o' ob ob',m.find o=some ob→m.find o'=some ob'→ob.own=true→ob'.own=true→o≠o'→∀b i j,μ o=some (b,i)→μ o'≠some (b,j)
 old:∀b off,S b off→b<w.heap.size
 fr:∀o,m.next≤o→μ o=none
 win:∀o,m.base≤o→o<m.base+m.wid→μ o≠none→m.find o≠none
 le:m.base+m.wid≤m.next
 bk:∀o b bo,μ o=some (b,bo)→b<w.heap.size
def QCX (w w':World):Prop:=w'.tape=w.tape∧w.drawn≤w'.drawn
theorem QCX.trans {w w1 w2:World} (h:QCX w w1) (k:QCX w1 w2):QCX w w2:=⟨k.1.trans h.1,Nat.le_trans h.2 k.2⟩
structure Ext (n0:Nat) (m:Mem) (S:Nat→Nat→Prop) (μ:Nat→Option (Nat×Nat)) (w:World) (m':Mem) (S':Nat→Nat→Prop) (μ':Nat→Option (Nat×Nat)) (w':World):Prop where
 os:w'.os=w.os
 tape:QCX w w'
 output:w'.output=w.output
 size:w.heap.size≤w'.heap.size
 ids:∀o,o<n0→μ' o=μ o
 objs:∀o,o<n0→m'.find o≠none→m.find o≠none
 next:n0≤m'.next
 sub:∀b off,S b off→S' b off
 new:∀b off,b<w.heap.size→S' b off→S b off∨Q6 m μ b
 cell:∀b off,S b off→w'.cell? ⟨b,off,none⟩=w.cell? ⟨b,off,none⟩
 map:∀b off es clock,S b off→w.heap[b]?=some (.map es clock)→w'.heap[b]?=some (.map es clock)
 blk:∀b,b<w.heap.size→¬Q6 m μ b→w'.heap[b]?=w.heap[b]?∧¬Q6 m' μ' b
 bsz:∀b,Qw w b≤Qw w' b
 uf:∀b,b<w.heap.size→Uf w b→Uf w' b
theorem Ext.refl {n0:Nat} {m:Mem} {S μ w} (h:n0≤m.next):Ext n0 m S μ w m S μ w:=
 ⟨rfl,⟨rfl,Nat.le_refl _⟩,rfl,Nat.le_refl _,fun _ _=>rfl,fun _ _ h=>h,h,fun _ _ h=>h,fun _ _ _ h=>.inl h,fun _ _ _=>rfl,fun _ _ _ _ _ h=>h,fun _ _ h=>⟨rfl,h⟩,fun _=>Nat.le_refl _,fun _ _ h=>h⟩
theorem Ext.trans {n0 n1:Nat} {m S μ w m' S' μ' w' m'' S'' μ'' w''} (h:Ext n0 m S μ w m' S' μ' w') (hn:n0≤n1)
  (k:Ext n1 m' S' μ' w' m'' S'' μ'' w''):Ext n0 m S μ w m'' S'' μ'' w'' where
 os:=k.os.trans h.os
 tape:=h.tape.trans k.tape
 output:=k.output.trans h.output
 size:=Nat.le_trans h.size k.size
 ids o ho:=(k.ids o (by omega)).trans (h.ids o ho)
 objs o ho hf:=h.objs o ho (k.objs o (by omega) hf)
 next:=by have:=k.next;omega
 sub b off hs:=k.sub b off (h.sub b off hs)
 new b off hb hs:=by
  rcases Classical.em (Q6 m μ b) with hx | hx
  ·exact .inr hx
  ·have hb':=h.blk b hb hx
   rcases k.new b off (Nat.lt_of_lt_of_le hb h.size) hs with h1 | h1
   ·exact h.new b off hb h1
   ·exact absurd h1 hb'.2
 cell b off hs:=(k.cell b off (h.sub b off hs)).trans (h.cell b off hs)
 map b off es clock hs hb:=k.map b off es clock (h.sub b off hs) (h.map b off es clock hs hb)
 blk b hb hx:=by
  have h1:=h.blk b hb hx
  have h2:=k.blk b (Nat.lt_of_lt_of_le hb h.size) h1.2
  exact⟨h2.1.trans h1.1,h2.2⟩
 bsz b:=Nat.le_trans (h.bsz b) (k.bsz b)
 uf b hb hu:=k.uf b (Nat.lt_of_lt_of_le hb h.size) (h.uf b hb hu)
structure Keeps (S:Nat→Nat→Prop) (μ:Nat→Option (Nat×Nat)) (w:World) (S':Nat→Nat→Prop) (μ':Nat→Option (Nat×Nat)) (w':World):Prop where
 ids:∀o,μ o≠none→μ' o=μ o
 sub:∀b off,S b off→S' b off
 cell:∀b off,S b off→w'.cell? ⟨b,off,none⟩=w.cell? ⟨b,off,none⟩
 map:∀b off es clock,S b off→w.heap[b]?=some (.map es clock)→w'.heap[b]?=some (.map es clock)
 bsz:∀b,Qw w b≤Qw w' b
 sz:w.heap.size≤w'.heap.size
 uf:∀b,b<w.heap.size→Uf w b→Uf w' b
theorem Ext.keeps {m S μ w m' S' μ' w'} (hr:RM S μ w m) (h:Ext m.next m S μ w m' S' μ' w'):Keeps S μ w S' μ' w':=
 ⟨fun o ho=>by
  rcases Nat.lt_or_ge o m.next with hlt | hge
  ·exact h.ids o hlt
  ·exact absurd (hr.fr o hge) ho,h.sub,h.cell,h.map,h.bsz,h.size,h.uf⟩
theorem Keeps.refl (S μ w):Keeps S μ w S μ w:=⟨fun _ _=>rfl,fun _ _ h=>h,fun _ _ _=>rfl,fun _ _ _ _ _ h=>h,fun _=>Nat.le_refl _,Nat.le_refl _,fun _ _ h=>h⟩
theorem Keeps.on {S μ w S' μ' w'} (h:Keeps S μ w S' μ' w') (T:Nat→Prop) (u:Bool):Keeps (fun b off=>S b off∧T b∧(u=true→b<w.heap.size∧Uf w b)) μ w (fun b off=>S' b off∧T b∧(u=true→b<w'.heap.size∧Uf w' b)) μ' w':=
 ⟨h.ids,fun b off hs=>⟨h.sub b off hs.1,hs.2.1,fun hu=>⟨Nat.lt_of_lt_of_le (hs.2.2 hu).1 h.sz,h.uf b (hs.2.2 hu).1 (hs.2.2 hu).2⟩⟩,fun b off hs=>h.cell b off hs.1,fun b off es clock hs=>h.map b off es clock hs.1,h.bsz,h.sz,h.uf⟩
theorem Qs {α:Type} {x:Option α} {a:α} (h:x=some a):x≠none:=by rw [h];exact fun e=>by cases e
section
variable {S S' : Nat → Nat → Prop} {μ μ' : Nat → Option (Nat × Nat)} {w w' : World}
mutual
theorem Rep.keep {S S':Nat→Nat→Prop} (h:Keeps S μ w S' μ' w'):∀(x:AV) (y:Value),Rep S μ w x y→Rep S' μ' w' x y
 | .v x,y,r=>by simpa [Rep] using r
 | .agg xs,y,r=>by
  simp only [Rep] at r ⊢
  obtain⟨ys,e,r,o⟩:=r
  exact⟨ys,e,RepL.keep h xs ys r,o⟩
 | .tup xs,y,r=>by
  simp only [Rep] at r ⊢
  obtain⟨ys,e,r⟩:=r
  exact⟨ys,e,RepL.keep h xs ys r⟩
 | .seq n sz xs,y,r=>by
  simp only [Rep] at r ⊢
  obtain⟨base,cap,e,hn,hl,r⟩:=r
  refine⟨base,cap,e,hn,hl,?_⟩
  rcases r with r | ⟨b,off,e,r⟩
  ·exact .inl r
  ·exact .inr ⟨b,off,e,RepC.keep h xs b off r⟩
 | .full n sz xs,y,r=>by
  simp only [Rep] at r ⊢
  obtain⟨base,e,hl,r⟩:=r
  refine⟨base,e,hl,?_⟩
  rcases r with r | ⟨b,off,e,r⟩
  ·exact .inl r
  ·exact .inr ⟨b,off,e,RepC.keep h xs b off r⟩
 | .slc o off n sz,y,r=>by
  simp only [Rep] at r ⊢
  obtain⟨base,e,r⟩:=r
  refine⟨base,e,?_⟩
  rcases r with r | ⟨b,bo,hb,e,hc⟩
  ·exact .inl r
  ·exact .inr ⟨b,bo,(h.ids o (Qs hb)).trans hb,e,Nat.le_trans hc (h.bsz b)⟩
 | .rop xs,y,r=>by
  simp only [Rep] at r ⊢
  obtain⟨b,off,e,r⟩:=r
  exact⟨b,off,e,RepC.keep h xs b off r⟩
 | .ptr o off,y,r=>by
  simp only [Rep] at r ⊢
  obtain⟨b,bo,hb,e⟩:=r
  exact⟨b,bo,(h.ids o (Qs hb)).trans hb,e⟩
 | .sl o off n sz,y,r=>by
  simp only [Rep] at r ⊢
  obtain⟨base,cap,e,hn,r⟩:=r
  refine⟨base,cap,e,hn,?_⟩
  rcases r with r | ⟨b,bo,hb,e,hc⟩
  ·exact .inl r
  ·exact .inr ⟨b,bo,(h.ids o (Qs hb)).trans hb,e,Nat.le_trans hc (h.bsz b)⟩
 | .mp o,y,r=>by
  simp only [Rep] at r ⊢
  obtain⟨b,bo,hb,e⟩:=r
  exact⟨b,bo,(h.ids o (Qs hb)).trans hb,e⟩
 | .mv kt ks xs,y,r=>by
  simp only [Rep] at r ⊢
  rcases r with r | ⟨b,es,clock,e,hs,hb,hm,hk,r⟩
  ·exact .inl r
  ·exact .inr ⟨b,es,clock,e,h.sub b 0 hs,h.map b 0 es clock hs hb,hm,hk,RepL.keep h xs _ r⟩
 | .it o,y,r=>by
  simp only [Rep] at r ⊢
  obtain⟨b,bo,hb,e⟩:=r
  exact⟨b,bo,(h.ids o (Qs hb)).trans hb,e⟩
 | .clo fn f c,y,r=>by
  simp only [Rep] at r ⊢
  obtain⟨fs,cs,e,r1,r2⟩:=r
  exact⟨fs,cs,e,RepL.keep h f fs r1,RepL.keep h c cs r2⟩
 | .ifc t x,y,r=>by
  simp only [Rep] at r ⊢
  obtain⟨u,e,r⟩:=r
  exact⟨u,e,Rep.keep h x u r⟩
 | .on T u x,y,r=>by
  simp only [Rep] at r ⊢
  exact Rep.keep (h.on T u) x y r
 | .bs o n,y,r=>by
  simp only [Rep] at r ⊢
  obtain⟨base,cap,e,hn,r⟩:=r
  exact⟨base,cap,e,hn,r.imp_right fun ⟨b,off,b0,code,hm,ht,e,hl⟩=>⟨b,off,b0,code,(h.ids o (Qs hm)).trans hm,ht,e,Nat.le_trans hl (h.bsz b)⟩⟩
 | .bp o,y,r=>by
  simp only [Rep] at r ⊢
  obtain⟨b,off,b0,code,hm,ht,e,hl⟩:=r
  exact⟨b,off,b0,code,(h.ids o (Qs hm)).trans hm,ht,e,Nat.lt_of_lt_of_le hl (h.bsz b)⟩
 | .yld o,y,r=>by
  simp only [Rep] at r ⊢
  obtain⟨b,bo,hb,e⟩:=r
  exact⟨b,bo,(h.ids o (Qs hb)).trans hb,e⟩
 | .top,y,_=>by simp [Rep]
theorem RepL.keep {S S':Nat→Nat→Prop} (h:Keeps S μ w S' μ' w'):∀(xs:List AV) (ys:List Value),RepL S μ w xs ys→RepL S' μ' w' xs ys
 | [],ys,r=>by simpa [RepL] using r
 | x::xs,ys,r=>by
  simp only [RepL] at r ⊢
  obtain⟨y,zs,e,r1,r2⟩:=r
  exact⟨y,zs,e,Rep.keep h x y r1,RepL.keep h xs zs r2⟩
theorem RepC.keep {S S':Nat→Nat→Prop} (h:Keeps S μ w S' μ' w'):∀(xs:List AV) (b off:Nat),RepC S μ w xs b off→RepC S' μ' w' xs b off
 | [],b,off,_=>by simp [RepC]
 | x::xs,b,off,r=>by
  simp only [RepC] at r ⊢
  obtain⟨⟨hs,u,hu,ho,r1⟩,r2⟩:=r
  exact⟨⟨h.sub b off hs,u,(h.cell b off hs).trans hu,ho,Rep.keep h x u r1⟩,RepC.keep h xs b (off+1) r2⟩
end
theorem RepL.length:∀{xs:List AV} {ys:List Value},RepL S μ w xs ys→ys.length=xs.length
 | [],ys,r=>by simp [RepL] at r;simp [r]
 | x::xs,ys,r=>by
  simp only [RepL] at r
  obtain⟨y,zs,e,_,r2⟩:=r
  subst e;simp [RepL.length r2]
theorem RepL.get:∀{xs:List AV} {ys:List Value} {i:Nat} {x:AV},RepL S μ w xs ys→xs[i]?=some x→∃y,ys[i]?=some y∧Rep S μ w x y
 | [],ys,i,x,r,h=>by simp at h
 | a::xs,ys,i,x,r,h=>by
  simp only [RepL] at r
  obtain⟨y,zs,e,r1,r2⟩:=r
  subst e
  cases i with
  | zero=>simp at h;subst h;exact⟨y,by simp,r1⟩
  | succ i=>simp at h;obtain⟨y',h1,h2⟩:=RepL.get r2 h;exact⟨y',by simpa using h1,h2⟩
theorem RepL.append {xs xs':List AV} {ys ys':List Value} (h:RepL S μ w xs ys) (h':RepL S μ w xs' ys'):RepL S μ w (xs++xs') (ys++ys'):=by
 induction xs generalizing ys with
 | nil=>simp only [RepL] at h;subst h;simpa using h'
 | cons x xs ih=>
  simp only [RepL] at h
  obtain⟨y,zs,e,r1,r2⟩:=h
  subst e
  simp only [List.cons_append,RepL]
  exact⟨y,_,rfl,r1,ih r2⟩
theorem RepL.drop {xs:List AV} {ys:List Value} (h:RepL S μ w xs ys) (k:Nat):RepL S μ w (xs.drop k) (ys.drop k):=by
 induction k generalizing xs ys with
 | zero=>simpa using h
 | succ k ih=>
  cases xs with
  | nil=>simp only [RepL] at h;subst h;simp [RepL]
  | cons x xs=>
   simp only [RepL] at h
   obtain⟨y,zs,e,_,r2⟩:=h
   subst e;simpa using ih r2
theorem RepL.take {xs:List AV} {ys:List Value} (h:RepL S μ w xs ys) (k:Nat):RepL S μ w (xs.take k) (ys.take k):=by
 induction k generalizing xs ys with
 | zero=>simp [RepL]
 | succ k ih=>
  cases xs with
  | nil=>simp only [RepL] at h;subst h;simp [RepL]
  | cons x xs=>
   simp only [RepL] at h
   obtain⟨y,zs,e,r1,r2⟩:=h
   subst e;simp only [List.take_succ_cons,RepL];exact⟨y,_,rfl,r1,ih r2⟩
theorem RepL.set {xs:List AV} {ys:List Value} (h:RepL S μ w xs ys) (i:Nat) {x:AV} {y:Value} (hx:Rep S μ w x y):RepL S μ w (xs.set i x) (ys.set i y):=by
 induction i generalizing xs ys with
 | zero=>
  cases xs with
  | nil=>simp only [RepL] at h;subst h;simp [RepL]
  | cons a xs=>simp only [RepL] at h;obtain⟨b,zs,e,_,r2⟩:=h;subst e;simp only [List.set_cons_zero,RepL];exact⟨y,zs,rfl,hx,r2⟩
 | succ i ih=>
  cases xs with
  | nil=>simp only [RepL] at h;subst h;simp [RepL]
  | cons a xs=>simp only [RepL] at h;obtain⟨b,zs,e,r1,r2⟩:=h;subst e;simp only [List.set_cons_succ,RepL];exact⟨b,_,rfl,r1,ih r2⟩
theorem RepL.of_vals:∀(ys:List Value),RepL S μ w (ys.map .v) ys
 | []=>by simp [RepL]
 | y::ys=>by simp only [List.map_cons,RepL];exact⟨y,ys,rfl,by simp [Rep],RepL.of_vals ys⟩
theorem RepL.vals:∀{xs ys:List Value},RepL S μ w (xs.map .v) ys→ys=xs
 | [],ys,h=>by simpa [RepL] using h
 | x::xs,ys,h=>by
  simp only [List.map_cons,RepL] at h
  obtain⟨y,zs,e,r1,r2⟩:=h
  simp [Rep] at r1
  subst e;rw [r1,RepL.vals r2]
theorem RepC.get:∀{xs:List AV} {b off i:Nat} {x:AV},RepC S μ w xs b off→xs[i]?=some x→S b (off+i)∧∃u,w.cell? ⟨b,off+i,none⟩=some u∧u.oneCell'=true∧Rep S μ w x u
 | [],b,off,i,x,r,h=>by simp at h
 | a::xs,b,off,i,x,r,h=>by
  simp only [RepC] at r
  obtain⟨⟨hs,u,hu,ho,r1⟩,r2⟩:=r
  cases i with
  | zero=>simp at h;subst h;exact⟨hs,u,hu,ho,r1⟩
  | succ i=>
   simp at h
   have:=RepC.get r2 h
   rw [show off+1+i=off+(i+1) by omega] at this
   exact this
theorem RepC.mk:∀{xs:List AV} {b off:Nat},(∀i x,xs[i]?=some x→S b (off+i)∧∃u,w.cell? ⟨b,off+i,none⟩=some u∧u.oneCell'=true∧Rep S μ w x u)→RepC S μ w xs b off
 | [],b,off,_=>by simp [RepC]
 | a::xs,b,off,h=>by
  simp only [RepC]
  refine⟨by simpa using h 0 a (by simp),RepC.mk fun i x hi=>?_⟩
  have:=h (i+1) x (by simpa using hi)
  rw [show off+1+i=off+(i+1) by omega]
  exact this
theorem RepC.drop {xs:List AV} {b off:Nat} (h:RepC S μ w xs b off) (k:Nat):RepC S μ w (xs.drop k) b (off+k):=
 RepC.mk fun i x hi=>by
  have:=RepC.get (i:=k+i) h (by simpa using hi)
  rw [show off+k+i=off+(k+i) by omega];exact this
theorem RepC.take {xs:List AV} {b off:Nat} (h:RepC S μ w xs b off) (k:Nat):RepC S μ w (xs.take k) b off:=
 RepC.mk fun i x hi=>by
  rw [List.getElem?_take] at hi
  split at hi
  ·exact RepC.get h hi
  ·cases hi
theorem RepC.list:∀{xs:List AV} {b off:Nat},RepC S μ w xs b off→∃ys:List Value,RepL S μ w xs ys∧(∀u∈ys,u.oneCell'=true)∧(∀j u,ys[j]?=some u→w.cell? ⟨b,off+j,none⟩=some u)
 | [],b,off,_=>⟨[],by simp [RepL],by simp,by simp⟩
 | x::xs,b,off,h=>by
  simp only [RepC] at h
  obtain⟨⟨hs,u,hu,ho,r1⟩,r2⟩:=h
  obtain⟨ys,h1,h2,h3⟩:=RepC.list r2
  refine⟨u::ys,by simp only [RepL];exact⟨u,ys,rfl,r1,h1⟩,by simpa using ⟨ho,h2⟩,fun j v hv=>?_⟩
  cases j with
  | zero=>simp at hv;subst hv;simpa using hu
  | succ j=>simp at hv;rw [show off+(j+1)=off+1+j by omega];exact h3 j v hv
end
def prun (P:Program) {α:Type}:Sem α→Option α
 | .pure a=>some a
 | .program k=>prun P (k P)
 | .mark _ k=>prun P k
 | _=>none
section types
variable (P : Program)
def tsz (E:TypeId):Nat:=((P.info? E).map (·.size)).getD 0
def tby (E:TypeId):Nat:=((P.info? E).map (·.bytes)).getD 0
def tok (E:TypeId):Bool:=(P.info? E).isSome
def tz (E:TypeId):Option (List Value):=((P.info? E).bind (·.zero)).bind fun z=>if z.cells.toList.all (·.oneCell') then some z.cells.toList else none
def zval (E:TypeId):Option Value:=(P.info? E).bind (·.zero)
def tzok (E:TypeId):Bool:=(zval P E).any fun z=>z.cells.size==tsz P E
def tagg (E:TypeId):Option Bool:=(P.underlying E).map fun | .struct _=>true | .array _ _=>true | _=>false
def Qd (E:TypeId):Option TypeId:=(P.underlying E).bind fun | .slice e=>some e | _=>none
def tarr (E:TypeId):Option (Nat×TypeId):=(P.underlying E).bind fun | .array n e=>some (n,e) | _=>none
def QBM (E:TypeId):Option (List (Nat×TypeId)):=(P.underlying E).bind fun | .struct fs=>some (fs.toList.map fun f=>(f.offset,f.type)) | _=>none
def QAS (E:TypeId):Option Bool:=(P.underlying E).map fun | .int _=>true | _=>false
def QBo (E:TypeId):Option Nat:=(P.underlying E).bind fun | .slice _=>some 0 | .string=>some 1 | .map _ _=>some 2 | _=>none
def tmap (E:TypeId):Option (TypeId×TypeId):=(P.underlying E).bind fun | .map k e=>some (k,e) | _=>none
def tkt (E:TypeId):Option KT:=(P.underlying E).bind fun
 | .int k=>some (.intK k)
 | .string=>some .strK
 | .bool=>some .boolK
 | .array n e=>match P.underlying e with | some (.int k)=>if ((P.info? e).map (·.size))=some 1 then some (.arrK n k) else none | _=>none
 | _=>none
def QDR (E:TypeId):Bool:=match P.underlying E with | some (.slice e)=>(match P.underlying e with | some (.int .u8)=>true | _=>false) | _=>false
def tstr (E:TypeId):Bool:=match P.underlying E with | some .string=>true | _=>false
end types
def QFQ:List AV→Option (List Value)
 | []=>some []
 | .v x::xs=>(QFQ xs).map (x::·)
 | _::_=>none
def AV.val?:AV→Option Value
 | .v x=>some x
 | .agg xs=>(QFQ xs).map fun l=>.agg l.toArray
 | _=>none
def QME:List AV→Option (List Value)
 | []=>some []
 | x::xs=>match x.val?,QME xs with | some y,some ys=>some (y::ys) | _,_=>none
def QR:AV→Option (List AV)
 | .agg xs=>some xs
 | .v x=>match x with
  | .agg cs=>if cs.toList.all (·.oneCell') then some (cs.toList.map .v) else none
  | .tuple _=>none
  | x=>some [.v x]
 | .tup _=>none
 | .top=>none
 | .on T u x=>match x with
  | .seq n z xs=>some [.on T u (.seq n z xs)]
  | _=>none
 | x=>some [x]
def QC3 (l:List UInt8):List AV:=l.map fun b=>.v (.int .u8 b.toNat)
def setL:List AV→Nat→List AV→List AV
 | ys,_,[]=>ys
 | ys,off,c::cs=>setL (ys.set off c) (off+1) cs
def rdS (find:Nat→Option AObj):AV→Option (Nat×List AV)
 | .v (.slice none 0 0)=>some (0,[])
 | .seq n _ xs=>some (n,xs)
 | .sl o off n sz=>match find o with
  | some (.cells _ ys _)=>if off+n*sz≤ys.length then some (n,(ys.drop off).take (n*sz)) else none
  | some (.imm ys)=>if off+n*sz≤ys.length then some (n,(ys.drop off).take (n*sz)) else none
  | _=>none
 | _=>none
def srcS (find:Nat→Option AObj) (sz:Nat):AV→Option (Nat×List AV)
 | .v (.string s)=>if sz=1 then some (s.size,QC3 s.data.toList) else none
 | .v (.slice none 0 0)=>some (0,[])
 | .seq n z xs=>if z=sz then some (n,xs) else none
 | .sl o off n z=>if z=sz then rdS find (.sl o off n z) else none
 | _=>none
def lenA (find:Nat→Option AObj):AV→Option (Nat×Nat)
 | .v (.slice none 0 0)=>some (0,0)
 | .v (.string s)=>some (1,s.size)
 | .v (.map none)=>some (2,0)
 | .seq n _ _=>some (0,n)
 | .sl _ _ n _=>some (0,n)
 | .on _ _ (.seq n _ _)=>some (0,n)
 | .bs _ n=>some (0,n)
 | .mv _ ks _=>some (2,ks.length)
 | .mp o=>match find o with | some (.map _ ks _)=>some (2,ks.length) | _=>none
 | _=>none
def ieq:Value→Value→Bool
 | .int j x,.int k y=>j==k&&x==y
 | _,_=>false
def keq:Value→Value→Bool
 | .bool a,.bool b=>a==b
 | .int j a,.int k b=>j==k&&a==b
 | .string a,.string b=>a.toList==b.toList
 | .agg a,.agg b=>a.size==b.size&&(a.toList.zip b.toList).all fun p=>ieq p.1 p.2
 | _,_=>false
def mget:List Value→List AV→Value→Option AV
 | k::ks,x::xs,key=>if keq key k then some x else mget ks xs key
 | _,_,_=>none
def mset:List Value→List AV→Value→AV→List AV
 | k::ks,x::xs,key,y=>if keq key k then y::xs else x::mset ks xs key y
 | _,_,_,y=>[y]
def mhas:List Value→Value→Bool
 | [],_=>false
 | k::ks,key=>keq key k||mhas ks key
def QFl:List Value→Value→List Value
 | [],_=>[]
 | k::ks,key=>if keq key k then ks else k::QFl ks key
def QFj:List Value→List AV→Value→List AV
 | k::ks,x::xs,key=>if keq key k then xs else x::QFj ks xs key
 | _,_,_=>[]
def QCR (P:Program) (t:TypeId) (xs:List AV) (off:Nat):Option AV:=
 match tagg P t with
 | some true=>if off+tsz P t≤xs.length then some (.agg ((xs.drop off).take (tsz P t))) else none
 | some false=>xs[off]?
 | none=>none
def QC4 (place:Nat→Option (Nat×Nat)):List AV→List (Nat×AV)→Option (List AV)
 | cells,[]=>some cells
 | cells,(i,x)::rest=>
  match place i,QR x with
  | some (off,size),some cs=>if cs.length=size then if off+size≤cells.length then QC4 place (setL cells off cs) rest else none else none
  | _,_=>none
inductive GEnt where
 | tab (vs:List Value)
 | fut (N:Nat→Prop)
abbrev GTab:=List (Nat×GEnt)
def rho (γ:GTab) (env:List (Nat×AV)):Operand→AV
 | .tmp t=>(lk env t).getD .top
 | .const c=>.v c
 | .global g=>match lk γ g with | some (.tab vs)=>.rop (vs.map .v) | _=>.v (.pointer (some ⟨g,0,none⟩))
 | .func f=>.v (.func (.func f) #[] #[])
def bhi (n:Nat):Option AV→Option Nat
 | none=>some n
 | some (.v (.int _ h))=>if 0≤h∧h≤n then some h.toNat else none
 | _=>none
def blo (h:Nat):Option AV→Option (Nat×Nat)
 | none=>some (0,h)
 | some (.v (.int _ l))=>if 0≤l∧l≤h then some (l.toNat,h) else none
 | _=>none
def bnds (n:Nat) (lo hi:Option AV):Option (Nat×Nat):=(bhi n hi).bind fun h=>blo h lo
abbrev Upd:=List (Nat×AObj)
def QKw:AV→Option Nat
 | .ptr _ _=>some 0
 | .rop _=>some 0
 | .mp _=>some 1
 | .clo _ _ _=>some 2
 | .ifc _ _=>some 3
 | _=>none
def QTr:AV→Option Nat
 | .v (.pointer none)=>some 0
 | .v (.map none)=>some 1
 | .v .nilFunc=>some 2
 | .v .nilIface=>some 3
 | _=>none
def QLl (P:Program) (E:TypeId):Option Nat:=(P.underlying E).bind fun | .pointer _=>some 0 | .map _ _=>some 1 | .func _ _ _=>some 2 | .interface _=>some 3 | _=>none
def QJG (P:Program) (t:TypeId) (x y:AV):Bool:=
 match QKw x,QTr y with
 | some k,some k'=>k==k'&&QLl P t==some k
 | _,_=>false
def orO {α:Type} (a b:Option α):Option α:=match a with
 | some x=>some x
 | none=>b
theorem QMm {α:Type} {A B:Prop} [Decidable A] [Decidable B] {x y:α}:orO (if A then some x else none) (if B then some y else none)=if A then some x else if B then some y else none:=by
 unfold orO;by_cases h:A<;>simp [h]
def QDD (P:Program) (e:TypeId) (fresh:Nat) (s x:AV):Option (AV×Upd):=match s,x with
 | .v (.slice none 0 0),.v (.int _ n)=>match tz P e with
  | some zs=>if 0≤n∧zs.length=tsz P e∧0<tsz P e∧tok P e=true∧0<tby P e∧n.toNat*tby P e≤70368744177664∧tby P e≤1048576 then some (.sl fresh 0 n.toNat (tsz P e),[(fresh,.cells e ((List.replicate n.toNat (zs.map AV.v)).flatten) true)]) else none
  | none=>none
 | _,_=>none
def QAg (P:Program) (find:Nat→Option AObj) (fresh:Nat) (sT xT:TypeId) (s x:AV):Option (AV×Upd):=
 match Qd P sT,QAS P xT with
 | some e,some false=>
  match srcS find (tsz P e) x with
  | some (n,xs)=>
   match s with
   | .v (.slice none 0 0)=>
    if tok P e∧tzok P e∧0<tby P e∧n*tby P e≤70368744177664∧tby P e≤1048576 then some (.sl fresh 0 n (tsz P e),[(fresh,.cells e xs true)]) else none
   | .sl o off n0 z=>
    match find o with
    | some (.cells E ys true)=>
     orO (if z=tsz P e∧E=e∧tok P e∧tzok P e∧0<tby P e∧off+n0*tsz P e=ys.length∧(n0+n)*tby P e≤70368744177664∧tby P e≤1048576 then
      some (.sl fresh 0 (n0+n) (tsz P e),[(o,.dead),(fresh,.cells e (ys.drop off++xs) true)]) else none)
     (if z=tsz P e∧E=e∧tok P e∧tzok P e∧0<tby P e∧off+n0*tsz P e≤ys.length∧(n0+n)*tby P e≤70368744177664∧tby P e≤1048576 then
      some (.sl fresh 0 (n0+n) (tsz P e),[(o,.dead),(fresh,.cells e ((ys.drop off).take (n0*tsz P e)++xs) true)]) else none)
    | _=>none
   | _=>none
  | none=>none
 | some e,some true=>QDD P e fresh s x
 | _,_=>none
def QMd (P:Program) (find:Nat→Option AObj) (dT:TypeId) (d x:AV):Option (AV×Upd):=
 match Qd P dT with
 | some e=>
  match d with
  | .sl o off n z=>
   match find o,srcS find (tsz P e) x with
   | some (.cells E ys ap),some (k,xs)=>
    if z=tsz P e∧tok P e∧off+n*tsz P e≤ys.length then
     some (.v (.int .i64 (min k n:Nat)),[(o,.cells E (setL ys off (xs.take (min k n*tsz P e))) ap)]) else none
   | _,_=>none
  | _=>none
 | none=>none
def QY (P:Program) (find:Nat→Option AObj) (fresh:Nat) (b:Builtin) (argTypes:Array TypeId) (xs:List AV):Option (AV×Upd):=
 match b,xs with
 | .len,[x]=>
  match argTypes[0]? with
  | some t=>match tarr P t,x with
   | some (n,_),_=>some (.v (.int .i64 n),[])
   | none,x=>match lenA find x with
    | some (k,n)=>if QBo P t=some k then some (.v (.int .i64 n),[]) else none
    | none=>none
  | none=>none
 | .append,[s,x]=>match argTypes[0]?,argTypes[1]? with
  | some sT,some xT=>QAg P find fresh sT xT s x
  | _,_=>none
 | .cap,[.v (.slice none 0 0)]=>match argTypes[0]? with
  | some t=>if (Qd P t).isSome then some (.v (.int .i64 0),[]) else none
  | none=>none
 | .copy,[d,x]=>match argTypes[0]? with
  | some dT=>QMd P find dT d x
  | none=>none
 | .min,xs=>match QME xs with
  | some vs=>(prun P (Builtin.min_ #[] 0 vs.toArray)).map fun v=>(.v v,[])
  | none=>none
 | .max,xs=>match QME xs with
  | some vs=>(prun P (Builtin.max_ #[] 0 vs.toArray)).map fun v=>(.v v,[])
  | none=>none
 | .delete,[.mp o,k]=>match argTypes[0]?,find o,k.val? with
  | some mT,some (.map kt ks ys),some key=>match tmap P mT with
   | some (kT,_)=>if tkt P kT=some kt∧kwf kt key then some (.v (.tuple #[]),[(o,.map kt (QFl ks key) (QFj ks ys key))]) else none
   | none=>none
  | _,_,_=>none
 | _,_=>none
def QE3 (P:Program) (find:Nat→Option AObj) (t:TypeId) (x:AV):Option AV:=
 match x with
 | .rop xs=>QCR P t xs 0
 | .ptr o off=>match find o with
  | some (.cells _ ys _)=>QCR P t ys off
  | some (.imm ys)=>QCR P t ys off
  | _=>none
 | _=>none
def QD6 (P:Program) (find:Nat→Option AObj) (t:TypeId) (x y:AV):Option Upd:=
 match x,QR y with
 | .ptr o off,some cs=>match find o with
  | some (.cells E ys ap)=>if tok P t∧cs.length=tsz P t∧off+tsz P t≤ys.length then some [(o,.cells E (setL ys off cs) ap)] else none
  | _=>none
 | .bp o,some [_]=>match find o with
  | some .bag=>if tok P t∧tsz P t=1 then some [(o,.bag)] else none
  | _=>none
 | _,_=>none
def QBk (P:Program) (find:Nat→Option AObj) (t:TypeId) (x:AV) (lo hi:Option AV):Option AV:=
 match x with
 | .v (.string s)=>if tstr P t then (bnds s.size lo hi).map fun (l,h)=>.v (.string (s.extract l h)) else none
 | .v (.slice none 0 0)=>match Qd P t with
  | some e=>if tok P e then (bnds 0 lo hi).map fun _=>.v (.slice none 0 0) else none
  | none=>none
 | .seq n z xs=>match Qd P t with
  | some e=>if z=tsz P e∧tok P e then (bnds n lo hi).map fun (l,h)=>.seq (h - l) z ((xs.drop (l*z)).take ((h - l)*z)) else none
  | none=>none
 | .sl o off n z=>match Qd P t with
  | some e=>if z=tsz P e∧tok P e then (bnds n lo hi).map fun (l,h)=>.sl o (off+l*z) (h - l) z else none
  | none=>none
 | .ptr o off=>match tarr P t,find o with
  | some (n,e),some (.cells _ ys _)=>if tok P e∧off+n*tsz P e≤ys.length then (bnds n lo hi).map fun (l,h)=>.sl o (off+l*tsz P e) (h - l) (tsz P e) else none
  | _,_=>none
 | .rop xs=>match tarr P t with
  | some (n,e)=>if tok P e∧n*tsz P e≤xs.length then (bnds n lo hi).map fun (l,h)=>.seq (h - l) (tsz P e) ((xs.drop (l*tsz P e)).take ((h - l)*tsz P e)) else none
  | none=>none
 | _=>none
def QAC (P:Program) (t:TypeId) (x i:AV):Option AV:=
 match i with
 | .v (.int _ i)=>
  match Qd P t,tarr P t with
  | some e,_=>match x with
   | .seq n z xs=>if z=tsz P e∧tok P e then if 0≤i∧i<n then some (.rop (xs.drop (i.toNat*z))) else none else none
   | .sl o off n z=>if z=tsz P e∧tok P e then if 0≤i∧i<n then some (.ptr o (off+i.toNat*z)) else none else none
   | .bs o n=>if tsz P e=1∧tok P e then if 0≤i∧i<n then some (.bp o) else none else none
   | _=>none
  | none,some (n,e)=>match x with
   | .ptr o off=>if tok P e then if 0≤i∧i<n then some (.ptr o (off+i.toNat*tsz P e)) else none else none
   | .rop xs=>if tok P e then if 0≤i∧i<n then some (.rop (xs.drop (i.toNat*tsz P e))) else none else none
   | _=>none
  | _,_=>none
 | _=>none
def QFb (P:Program) (t:TypeId) (x i:AV):Option AV:=
 match i with
 | .v (.int _ i)=>
  match tarr P t,x with
  | some (n,e),.agg xs=>if tok P e then if 0≤i∧i<n then QCR P e xs (i.toNat*tsz P e) else none else none
  | none,.v (.string s)=>if tstr P t then if 0≤i∧i<s.size then some (.v (.int .u8 (s.data.toList.getD i.toNat 0).toNat)) else none else none
  | _,_=>none
 | _=>none
def QK4 (find:Nat→Option AObj):AV→Option (Option KT×List Value×List AV)
 | .v (.map none)=>some (none,[],[])
 | .mv kt ks xs=>some (some kt,ks,xs)
 | .mp o=>match find o with | some (.map kt ks xs)=>some (some kt,ks,xs) | _=>none
 | _=>none
def zAV (P:Program) (E:TypeId):Option AV:=
 match zval P E with
 | some (.agg cs)=>if cs.toList.all (·.oneCell') then some (.agg (cs.toList.map .v)) else none
 | some x=>some (.v x)
 | none=>none
def QFI (P:Program) (find:Nat→Option AObj) (t:TypeId) (m k:AV) (ok:Bool):Option AV:=
 match tmap P t,QK4 find m,k.val? with
 | some (kT,e),some (kt,ks,xs),some key=>
  match tkt P kT with
  | some kt'=>if (kt=none∨kt=some kt')∧kwf kt' key then
    match zAV P e with
    | some z=>some (if ok then .tup [(mget ks xs key).getD z,.v (.bool (mget ks xs key).isSome)] else (mget ks xs key).getD z)
    | none=>none
   else none
  | none=>none
 | _,_,_=>none
def QEB (P:Program) (find:Nat→Option AObj) (t:TypeId) (m k x:AV):Option Upd:=
 match m,tmap P t,k.val? with
 | .mp o,some (kT,_),some key=>match find o with
  | some (.map kt ks xs)=>if tkt P kT=some kt∧kwf kt key then
    some [(o,.map kt (if mhas ks key then ks else ks++[key]) (mset ks xs key x))] else none
  | _=>none
 | _,_,_=>none
def QJb (P:Program) (t:TypeId):Option (Nat→Option (Nat×Nat)):=
 match QBM P t,tarr P t with
 | some fs,_=>if fs.all (fun f=>tok P f.2) then some fun i=>(fs[i]?).map fun f=>(f.1,tsz P f.2) else none
 | none,some (_,e)=>if tok P e then some fun i=>some (i*tsz P e,tsz P e) else none
 | _,_=>none
def QHC (P:Program) (t:TypeId):Bool:=P.eqGuardType P.depth t
def keqA (P:Program) (t:TypeId) (a b:Value):Option Bool:=
 match tkt P t with
 | some kt=>if kwf kt a=true∧kwf kt b=true∧QHC P t=false then some (keq a b) else none
 | none=>none
def pbin (P:Program) (op:BinOp) (t:TypeId) (x y:Operand) (a b:Value):Option Value:=
 match op with
 | .eql=>match keqA P t a b with
  | some r=>some (.bool r)
  | none=>prun P (do eqGuard .eql t x y a b;binOp .eql t a b)
 | .neq=>match keqA P t a b with
  | some r=>some (.bool (!r))
  | none=>prun P (do eqGuard .neq t x y a b;binOp .neq t a b)
 | op=>prun P (do eqGuard op t x y a b;binOp op t a b)
def Qm (P:Program) (ρ:Operand→AV) (find:Nat→Option AObj) (fresh:Nat) (op:Op):Option (AV×Upd):=
 match op with
 | .move x=>some (ρ x,[])
 | .assign x=>some (ρ x,[])
 | .pick c a b=>match ρ c with
  | .v (.bool t)=>match ρ a,ρ b with
   | .v (.bool x),.v (.bool y)=>some (.v (.bool (bif t then x else y)),[])
   | x,y=>some (bif t then x else y,[])
  | _=>none
 | .alloc e=>match tz P e with
  | some zs=>some (.ptr fresh 0,[(fresh,.cells e (zs.map .v) false)])
  | none=>none
 | .box e x=>match QR (ρ x) with
  | some cs=>some (.ptr fresh 0,[(fresh,.cells e cs false)])
  | none=>none
 | .build t parts=>match tz P t,QJb P t with
  | some zs,some pl=>(QC4 pl (zs.map .v) (parts.toList.map fun p=>(p.1,ρ p.2))).map fun cs=>(.agg cs,[])
  | _,_=>none
 | .buildSlice t n parts=>match Qd P t with
  | some e=>match tz P e with
   | some zs=>if tok P e∧zs.length=tsz P e∧n*tsz P e≤16777216 then
     (QC4 (fun i=>some (i*tsz P e,tsz P e)) ((List.replicate n (zs.map AV.v)).flatten) (parts.toList.map fun p=>(p.1,ρ p.2))).map fun cs=>(.sl fresh 0 n (tsz P e),[(fresh,.cells e cs true)])
    else none
   | none=>none
  | none=>none
 | .load t a=>if tok P t then (QE3 P find t (ρ a)).map fun x=>(x,[]) else none
 | .store t a x=>(QD6 P find t (ρ a) (ρ x)).map fun u=>(.v undef,u)
 | .nilCheck x=>match ρ x with
  | .ptr o off=>some (.ptr o off,[])
  | .rop xs=>some (.rop xs,[])
  | .clo (.func f) a c=>some (.clo (.func f) a c,[])
  | .v (.func (.func f) a c)=>some (.v (.func (.func f) a c),[])
  | _=>none
 | .binOp op xT x y _=>
  match (ρ x).val?,(ρ y).val? with
  | some a,some b=>(pbin P op xT x y a b).map fun v=>(.v v,[])
  | _,_=>match op with
   | .eql=>if QJG P xT (ρ x) (ρ y) then some (.v (.bool false),[]) else none
   | .neq=>if QJG P xT (ρ x) (ρ y) then some (.v (.bool true),[]) else none
   | _=>none
 | .unOp op _ x=>match (ρ x).val? with
  | some a=>(prun P (Op.unary op a)).map fun v=>(.v v,[])
  | none=>none
 | .convert src dst x=>
  match ρ x with
  | .v (.string s)=>if tstr P dst then (if tstr P src then some (.v (.string s),[]) else none)
   else if QDR P dst∧tstr P src then match Qd P dst with
    | some e=>some (.sl fresh 0 s.size 1,[(fresh,.cells e (QC3 s.data.toList) true)])
    | none=>none
   else none
  | .v a=>(prun P (convert src dst a)).map fun v=>(.v v,[])
  | x=>if QDR P src∧tstr P dst then match srcS find 1 x with
    | some (_,xs)=>match QFQ xs with
     | some vs=>if vs.all (QC6 .u8) then some (.v (.string ⟨(vs.map fun | .int _ n=>UInt8.ofNat n.toNat | _=>0).toArray⟩),[]) else none
     | none=>none
    | none=>none
   else none
 | .makeFunc fn first captured=>
  match first.toList.map ρ,captured.toList.map ρ with
  | [],[]=>some (.v (.func fn #[] #[]),[])
  | f,c=>some (.clo fn f c,[])
 | .makeMap t r=>match tmap P t with
  | some (kT,_)=>match tkt P kT,(match r with | none=>true | some h=>match ρ h with | .v (.int _ _)=>true | _=>false) with
   | some kt,true=>some (.mp fresh,[(fresh,.map kt [] [])])
   | _,_=>none
  | none=>none
 | .makeSlice t l c=>match Qd P t,ρ l,ρ c with
  | some e,.v (.int _ l),.v (.int _ c)=>match tz P e with
   | some zs=>if tok P e∧zs.length=tsz P e∧0≤l∧l≤c∧c≤9223372036854775807∧tby P e*c≤281474976710656 then
     some (.sl fresh 0 l.toNat (tsz P e),[(fresh,.cells e ((List.replicate l.toNat (zs.map AV.v)).flatten) true)])
    else none
   | none=>none
  | _,_,_=>none
 | .slice t x lo hi none=>(QBk P find t (ρ x) (lo.map ρ) (hi.map ρ)).map fun x=>(x,[])
 | .fieldAddr s x f=>match QBM P s with
  | some fs=>match fs[f]?,ρ x with
   | some fl,.ptr o off=>if tok P fl.2∧tsz P fl.2≠0 then some (.ptr o (off+fl.1),[]) else none
   | some fl,.rop xs=>if tok P fl.2∧tsz P fl.2≠0 then some (.rop (xs.drop fl.1),[]) else none
   | _,_=>none
  | none=>none
 | .field t x f=>match QBM P t with
  | some fs=>match fs[f]?,ρ x with
   | some fl,.agg xs=>if tok P fl.2 then (QCR P fl.2 xs fl.1).map fun x=>(x,[]) else none
   | _,_=>none
  | none=>none
 | .indexAddr t x i=>(QAC P t (ρ x) (ρ i)).map fun x=>(x,[])
 | .index t x i=>(QFb P t (ρ x) (ρ i)).map fun x=>(x,[])
 | .lookup t m k ok=>(QFI P find t (ρ m) (ρ k) ok).map fun x=>(x,[])
 | .mapUpdate t m k x=>(QEB P find t (ρ m) (ρ k) (ρ x)).map fun u=>(.v undef,u)
 | .extract t i=>match ρ t with
  | .tup xs=>(xs[i]?).map fun x=>(x,[])
  | _=>none
 | .call { callee:=.builtin b,args,argTypes }=>QY P find fresh b argTypes (args.toList.map ρ)
 | _=>none
def unf:AV→AV
 | .full n z xs=>.seq n z xs
 | .slc o off n z=>.sl o off n z
 | x=>x
def QQ3:AV→AV→Bool
 | .v (.int _ a),.v (.int _ b)=>a==b
 | _,_=>false
def QJn (x:AV) (z:Nat) (lo hi:Option AV):Option AV:=match x with
 | .v (.slice none 0 0)=>(bnds 0 lo hi).map fun _=>.v (.slice none 0 0)
 | .seq n z' xs=>if z'=z then (bnds n lo hi).map fun p=>.full (p.2 - p.1) z ((xs.drop (p.1*z)).take ((p.2 - p.1)*z)) else none
 | .sl o off n z'=>if z'=z then (bnds n lo hi).map fun p=>.slc o (off+p.1*z) (p.2 - p.1) z else none
 | _=>none
def QGa (P:Program) (e:Option TypeId) (x:AV) (lo:Option AV) (hi mx:AV):Option AV:=match e with
 | some e=>if tok P e∧QQ3 hi mx then QJn x (tsz P e) lo (some hi) else none
 | none=>none
def QGA (P:Program) (e fresh z:Nat) (old new:Option (Nat×List AV)):Option (AV×Upd):=match old,new with
 | some (n0,ys),some (n,xs)=>if z=tsz P e∧tok P e∧tzok P e∧0<tby P e∧(n0=0∨0<n)∧(n0+n)*tby P e≤70368744177664∧tby P e≤1048576 then
   some (.sl fresh 0 (n0+n) (tsz P e),[(fresh,.cells e (ys++xs) true)]) else none
 | _,_=>none
def QBu (P:Program) (find:Nat→Option AObj) (fresh:Nat) (sT xT:TypeId) (s x:AV) (z:Nat):Option (AV×Upd):=match Qd P sT,QAS P xT with
 | some e,some false=>QGA P e fresh z (rdS find s) (srcS find (tsz P e) x)
 | _,_=>none
def QEG (P:Program) (find:Nat→Option AObj) (fresh:Nat) (sT xT:TypeId) (s x:AV):Option (AV×Upd):=match s with
 | .full n z xs=>QBu P find fresh sT xT (.seq n z xs) x z
 | .slc o off n z=>QBu P find fresh sT xT (.sl o off n z) x z
 | s=>QAg P find fresh sT xT s x
def QHa (P:Program) (fresh:Nat) (t:TypeId) (x:AV):Option (AV×Upd):=match x with
 | .v (.map none)=>if (tmap P t).isSome then some (.it fresh,[(fresh,.miter none [] [])]) else none
 | .mv _ ks xs=>if (tmap P t).isSome then some (.it fresh,[(fresh,.miter none ks xs)]) else none
 | _=>none
def QOH:Option AObj→Option AV
 | some (.miter (some p) _ _)=>some (.tup [.v p.1,p.2])
 | _=>none
def QFV (find:Nat→Option AObj) (x:AV):Option (AV×Upd):=match x with
 | .it o=>(QOH (find o)).map fun y=>(y,[])
 | _=>none
def QSq (P:Program) (e o off n z:Nat) (zs:List Value) (ob:Option AObj):Option (AV×Upd):=match ob with
 | some (.cells E ys ap)=>if z=zs.length∧0<z∧0<n∧off+n*z≤ys.length then some (.tup [],[(o,.cells E (setL ys off ((List.replicate n (zs.map AV.v)).flatten)) ap)]) else none
 | _=>none
def QLH (P:Program) (find:Nat→Option AObj) (e:Option TypeId) (x:AV):Option (AV×Upd):=match e,x with
 | some e,.sl o off n z=>(tz P e).bind fun zs=>QSq P e o off n z zs (find o)
 | _,_=>none
def QAH (P:Program) (find:Nat→Option AObj) (fresh:Nat) (b:Builtin) (ts:Array TypeId) (xs:List AV):Option (AV×Upd):=match b,xs with
 | .append,[s,x]=>match ts[0]?,ts[1]? with
  | some sT,some xT=>QEG P find fresh sT xT s (unf x)
  | _,_=>none
 | .clear,[x]=>QLH P find (ts[0]?.bind (Qd P)) (unf x)
 | b,xs=>QY P find fresh b ts (xs.map unf)
def QBR (P:Program) (ρ:Operand→AV) (find:Nat→Option AObj) (fresh:Nat) (op:Op):Option (AV×Upd):=
 match op with
 | .move x=>some (ρ x,[])
 | .assign x=>some (ρ x,[])
 | .slice t x lo (some hi) (some mx)=>(QGa P (Qd P t) (unf (ρ x)) (lo.map ρ) (ρ hi) (ρ mx)).map fun x=>(x,[])
 | .range t x=>QHa P fresh t (ρ x)
 | .entry x=>QFV find (ρ x)
 | .call { callee:=.builtin b,args,argTypes }=>QAH P find fresh b argTypes (args.toList.map ρ)
 | op=>Qm P (fun x=>unf (ρ x)) find fresh op
variable {P : Program} {γ : GTab} {S : Nat → Nat → Prop} {μ μ' : Nat → Option (Nat × Nat)} {w w' : World} {m : Mem} {env : List (Nat × AV)} {a : Act}
def Mem.upd (m:Mem) (u:Upd):Mem:={ m with objs:=u++m.objs }
theorem QEt {α:Type} (u l:List (Nat×α)) (o:Nat):lk (u++l) o=match lk u o with | some x=>some x | none=>lk l o:=by
 induction u with
 | nil=>simp [lk]
 | cons h t ih=>
  obtain⟨n,x⟩:=h
  simp only [List.cons_append,lk]
  split
  ·rfl
  ·exact ih
theorem QAQ (m:Mem) (u:Upd) (o:Nat):(m.upd u).find o=match lk u o with | some x=>some x | none=>m.find o:=by
 simp only [Mem.find,Mem.upd,QEt]
 cases lk u o<;>rfl
theorem QP (m:Mem) (f:Nat) (ob:AObj) (o:Nat):(m.upd [(f,ob)]).find o=if f=o then some ob else m.find o:=by
 simp only [Mem.find,Mem.upd,List.cons_append,List.nil_append,lk]
def mark (D:Nat):Deferred:={ target:=.collected D,args:=#[] }
def QCU (S:Nat→Nat→Prop) (μ:Nat→Option (Nat×Nat)) (w:World) (m:Mem):List Deferred→Prop
 | []=>True
 | d::ds=>(∃D,d=mark D∧w.heap[D]?=some (.deferred (some []))∧(∀off,¬S D off)∧¬Q6 m μ D∧d∉ds)∧QCU S μ w m ds
theorem QCU.of {S S':Nat→Nat→Prop} {μ μ':Nat→Option (Nat×Nat)} {w w':World} {m m':Mem} (hh:∀b,b<w.heap.size→¬Q6 m μ b→w'.heap[b]?=w.heap[b]?) (ho:∀b,b<w.heap.size→¬Q6 m μ b→¬Q6 m' μ' b) (hs:∀b off,b<w.heap.size→S' b off→S b off∨Q6 m μ b):∀{ds:List Deferred},QCU S μ w m ds→QCU S' μ' w' m' ds
 | [],_=>trivial
 | d::ds,h=>by
  obtain⟨⟨D,e,h1,h2,h3,h4⟩,h5⟩:=h
  have hlt:=(Array.getElem?_eq_some_iff.1 h1).1
  exact⟨⟨D,e,(hh D hlt h3).trans h1,fun off h=>(hs D off hlt h).elim (h2 off) h3,ho D hlt h3,h4⟩,QCU.of hh ho hs h5⟩
theorem QCU.ext {n0:Nat} {S S':Nat→Nat→Prop} {μ μ':Nat→Option (Nat×Nat)} {w w':World} {m m':Mem} {ds:List Deferred} (h:QCU S μ w m ds) (hE:Ext n0 m S μ w m' S' μ' w'):QCU S' μ' w' m' ds:=
 h.of (fun b hb ho=>(hE.blk b hb ho).1) (fun b hb ho=>(hE.blk b hb ho).2) (fun b off hb hs=>hE.new b off hb hs)
theorem QCU.lt {S:Nat→Nat→Prop} {μ:Nat→Option (Nat×Nat)} {w:World} {m:Mem}:∀{ds:List Deferred},QCU S μ w m ds→∀{D:Nat},mark D∈ds→D<w.heap.size
 | d::ds,h,D,hm=>by
  obtain⟨⟨D',e,h1,_⟩,h5⟩:=h
  rcases List.mem_cons.1 hm with h | h
  ·rw [e] at h
   have:D=D':=by simpa [mark] using h
   rw [this];exact (Array.getElem?_eq_some_iff.1 h1).1
  ·exact QCU.lt h5 h
def AOK (N:Nat) (w0:World) (a:Act):Prop:=N≤a.tmps.size∧∀D,mark D∈a.defers→w0.heap.size≤D
theorem AOK.put {N:Nat} {w0:World} {a:Act} (h:AOK N w0 a) (d:Option Nat) (v:Value):AOK N w0 (a.put d v):=by
 refine⟨?_,?_⟩
 ·cases d<;>simpa [Act.put] using h.1
 ·cases d<;>simpa [Act.put] using h.2
theorem AOK.start {N:Nat} {w0:World} {t:Array Value} (h:N≤t.size):AOK N w0 { tmps:=t,defers:=[] }:=⟨h,fun D hD=>by simp at hD⟩
structure RA (γ:GTab) (S:Nat→Nat→Prop) (μ:Nat→Option (Nat×Nat)) (w:World) (m:Mem) (env:List (Nat×AV)) (a:Act):Prop where
 rm:RM S μ w m
 env:∀t x,lk env t=some x→Rep S μ w x (a.tmps.getD t undef)
 defers:QCU S μ w m a.defers
def GOK (γ:GTab) (S:Nat→Nat→Prop) (w:World):Prop:=(∀g vs,lk γ g=some (.tab vs)→∀j v,vs[j]?=some v→S g j∧w.cell? ⟨g,j,none⟩=some v∧v.oneCell'=true)∧∀g N,lk γ g=some (.fut N)→∀b,w.heap.size≤b→N b
theorem GOK.keep (h:GOK γ S w) {S' μ'} (k:Keeps S μ w S' μ' w'):GOK γ S' w':=⟨fun g vs hg j v hv=>by
 obtain⟨h1,h2,h3⟩:=h.1 g vs hg j v hv
 exact⟨k.sub _ _ h1,(k.cell _ _ h1).trans h2,h3⟩,fun g N hg b hb=>h.2 g N hg b (Nat.le_trans k.sz hb)⟩
theorem QAY (h:RA γ S μ w m env a) (hG:GOK γ S w) (x:Operand):Rep S μ w (rho γ env x) (a.eval x):=by
 cases x with
 | tmp t=>
  simp only [rho,Act.eval]
  cases ht:lk env t with
  | none=>simp [Rep]
  | some x=>simpa using h.env t x ht
 | const v=>simp [rho,Act.eval,Rep]
 | global g=>
  simp only [rho,Act.eval]
  cases hg:lk γ g with
  | none=>simp [Rep]
  | some ge=>
   cases ge with
   | fut N=>simp [Rep]
   | tab vs=>
   simp only [Rep]
   refine⟨g,0,rfl,RepC.mk fun i x hi=>?_⟩
   simp only [List.getElem?_map] at hi
   cases hv:vs[i]? with
   | none=>simp [hv] at hi
   | some v=>
    simp [hv] at hi;subst hi
    obtain⟨h1,h2,h3⟩:=hG.1 g vs hg i v hv
    exact⟨by simpa using h1,v,by simpa using h2,h3,by simp [Rep]⟩
 | func f=>simp [rho,Act.eval,Rep]
theorem QJW {ρ:Operand→AV} (rr:∀x,Rep S μ w (ρ x) (a.eval x)):∀(xs:List Operand),RepL S μ w (xs.map ρ) (xs.map a.eval)
 | []=>by simp [RepL]
 | x::xs=>by simp only [List.map_cons,RepL];exact⟨_,_,rfl,rr x,QJW rr xs⟩
theorem RepO.keep (hk:Keeps S μ w S μ' w') {o:Nat} {ob:AObj} (h:RepO S μ w o ob) (hn:μ o=none→μ' o=none∨ob.own=false)
  (hb:ob.own=true→∀b bo,μ o=some (b,bo)→w'.heap[b]?=w.heap[b]?) (hm:∀q b bo,μ' q=some (b,bo)→(∃q' bo',μ q'=some (b,bo'))∨w.heap.size≤b):RepO S μ' w' o ob:=by
 cases ob with
 | cells E xs ap=>
  simp only [RepO] at h ⊢
  rcases h with ⟨h1,h2⟩ | ⟨b,bo,ys,c,fz,h1,h2,h3,h4,h5,h6,h7,h8⟩
  ·rcases hn h1 with h | h
   ·exact .inl ⟨h,h2⟩
   ·simp [AObj.own] at h
  ·exact .inr ⟨b,bo,ys,c,fz,(hk.ids o (Qs h1)).trans h1,(hb rfl b bo h1).trans h2,h3,RepL.keep hk xs ys h4,h5,h6,h7,h8⟩
 | imm xs=>
  simp only [RepO] at h ⊢
  rcases h with h | ⟨b,bo,h1,h2⟩
  ·exact .inl h
  ·exact .inr ⟨b,bo,(hk.ids o (Qs h1)).trans h1,RepC.keep hk xs b bo h2⟩
 | map kt ks xs=>
  simp only [RepO] at h ⊢
  obtain⟨b,bo,es,clock,h1,h2,h3,h4,h5,h6⟩:=h
  exact⟨b,bo,es,clock,(hk.ids o (Qs h1)).trans h1,(hb rfl b bo h1).trans h2,h3,h4,RepL.keep hk xs _ h5,h6⟩
 | miter last ks xs=>
  simp only [RepO] at h ⊢
  obtain⟨b,bo,mb,since,seen,stepped,h1,h2,h3,h4⟩:=h
  refine⟨b,bo,mb,since,seen,stepped,(hk.ids o (Qs h1)).trans h1,h2,(hb rfl b bo h1).trans h3,?_⟩
  rcases h4 with h4 | ⟨r,es,kt,e1,e2,e3,e4,e5,e6,e7,e8⟩
  ·exact .inl h4
  ·exact .inr ⟨r,es,kt,e1,e2,hk.map _ _ _ _ e2 e3,e4,e5,e6,RepL.keep hk xs _ e7,fun p hp=>(e8 p hp).imp fun e he=>⟨he.1,he.2.1,he.2.2.1,Rep.keep hk _ _ he.2.2.2⟩⟩
 | siter s pos=>
  simp only [RepO] at h ⊢
  obtain⟨b,bo,h1,h2,h3⟩:=h
  exact⟨b,bo,(hk.ids o (Qs h1)).trans h1,h2,(hb rfl b bo h1).trans h3⟩
 | loop N ts xs ps assign body st pe=>
  simp only [RepO] at h ⊢
  obtain⟨b,bo,D,fn,tmps,h1,h2,h3,h4,h5⟩:=h
  exact⟨b,bo,D,fn,tmps,(hk.ids o (Qs h1)).trans h1,h2,(hb rfl b bo h1).trans h3,h4,RepL.keep hk xs _ h5⟩
 | past T=>simp only [RepO] at h ⊢;exact fun b ht=>Nat.lt_of_lt_of_le (h b ht) hk.sz
 | bag=>
  simp only [RepO] at h ⊢
  obtain⟨b0,code,h0,h⟩:=h
  refine⟨b0,code,(hk.ids o (Qs h0)).trans h0,fun b ht=>?_⟩
  obtain⟨h1,h2,h3,h4⟩:=h b ht
  have hlt:b<w.heap.size:=by
   rcases Nat.lt_or_ge b w.heap.size with h | h
   ·exact h
   ·simp [Qw,Array.getElem?_eq_none h] at h1
  refine⟨Nat.lt_of_lt_of_le h1 (hk.bsz b),hk.uf b hlt h2,h3,fun q bo hq=>?_⟩
  rcases hm q b bo hq with ⟨q',bo',h5⟩ | h5
  ·exact h4 q' bo' h5
  ·simp [Qw,Array.getElem?_eq_none h5] at h1
 | dead=>simp [RepO]
theorem RM.step (hr:RM S μ w m) (hk:Keeps S μ w S μ' w') (u:Upd) (hsz:w.heap.size≤w'.heap.size)
  (hT:∀o ob b bo,m.find o=some ob→ob.own=true→lk u o=none→μ o=some (b,bo)→w'.heap[b]?=w.heap[b]?)
  (hu:∀o ob,lk u o=some ob→o<m.next∧RepO S μ' w' o ob)
  (hinj:∀o ob,lk u o=some ob→ob.own=true→∀o' ob',(m.upd u).find o'=some ob'→ob'.own=true→o≠o'→∀b i j,μ' o=some (b,i)→μ' o'≠some (b,j))
  (hnew:∀o,μ' o≠none→μ o≠none∨lk u o≠none)
  (hbk:∀o b bo,μ' o=some (b,bo)→μ o=none→b<w'.heap.size) (hm:∀q b bo,μ' q=some (b,bo)→(∃q' bo',μ q'=some (b,bo'))∨w.heap.size≤b):RM S μ' w' (m.upd u) where
 obj o ob h:=by
  rw [QAQ] at h
  cases hl:lk u o with
  | some x=>
   rw [hl] at h;simp at h;subst h
   exact hu o x hl
  | none=>
   rw [hl] at h;simp at h
   obtain⟨h1,h2⟩:=hr.obj o ob h
   refine⟨h1,h2.keep hk (fun hn=>?_) (fun ho b bo hb=>hT o ob b bo h ho hl hb) hm⟩
   left
   rcases Classical.em (μ' o=none) with e | e
   ·exact e
   ·rcases hnew o e with e' | e'
    ·exact absurd hn e'
    ·exact absurd hl e'
 inj o o' ob ob' h h' ho ho' hne b i j hb:=by
  have hnn:∀o ob,m.find o=some ob→ob.own=true→lk u o=none→∀b i,μ' o=some (b,i)→μ o=some (b,i):=fun o ob _ _ hl b i hb=>by
   rcases hnew o (Qs hb) with e | e
   ·rw [←hk.ids o e];exact hb
   ·exact absurd hl e
  cases hl:lk u o with
  | some x=>
   rw [QAQ,hl] at h;simp at h;subst h
   exact hinj o x hl ho o' ob' h' ho' hne b i j hb
  | none=>
   rw [QAQ,hl] at h;simp at h
   cases hl':lk u o' with
   | some x=>
    have h'':=h'
    rw [QAQ,hl'] at h'';simp at h'';subst h''
    exact fun e=>hinj o' x hl' ho' o ob (by rw [QAQ,hl];exact h) ho (Ne.symm hne) b j i e hb
   | none=>
    rw [QAQ,hl'] at h';simp at h'
    exact fun e=>hr.inj o o' ob ob' h h' ho ho' hne b i j (hnn o ob h ho hl b i hb) (hnn o' ob' h' ho' hl' b j e)
 old b off hs:=Nat.lt_of_lt_of_le (hr.old b off hs) hsz
 fr o ho:=by
  rcases Classical.em (μ' o=none) with e | e
  ·exact e
  ·rcases hnew o e with e' | e'
   ·exact absurd (hr.fr o ho) e'
   ·cases hl:lk u o with
    | none=>exact absurd hl e'
    | some x=>exact absurd (hu o x hl).1 (by change m.next≤o at ho;omega)
 win o h1 h2 h3:=by
  rw [QAQ]
  cases hl:lk u o with
  | some x=>simp
  | none=>
   simp
   rcases hnew o h3 with e | e
   ·exact hr.win o h1 h2 e
   ·exact absurd hl e
 le:=hr.le
 bk o b bo h:=by
  rcases Classical.em (μ o=none) with e | e
  ·exact hbk o b bo h e
  ·have:=hr.bk o b bo (by rw [←hk.ids o e];exact h);omega
structure After (S:Nat→Nat→Prop) (μ:Nat→Option (Nat×Nat)) (w:World) (m:Mem) (u:Upd) (μ':Nat→Option (Nat×Nat)) (w':World):Prop where
 rm:RM S μ' w' (m.upd u)
 keep:Keeps S μ w S μ' w'
 ext:Ext m.base m S μ w (m.upd u) S μ' w'
theorem After.pure (hr:RM S μ w m):After S μ w m [] μ w where
 rm:=by simpa [Mem.upd] using hr
 keep:=.refl _ _ _
 ext:=by simpa [Mem.upd] using Ext.refl (m:=m) (S:=S) (μ:=μ) (w:=w) (by have:=hr.le;omega)
theorem After.drew (hr:RM S μ w m) {d:Nat} (hd:w.drawn≤d:=by omega):After S μ w m [] μ { w with drawn:=d } where
 rm:=⟨fun o ob h=>by
   have:=hr.obj o ob h
   exact⟨this.1,@RepO.keep S μ μ w { w with drawn:=d } ⟨fun _ _=>rfl,fun _ _ h=>h,fun _ _ _=>rfl,fun _ _ _ _ _ h=>h,fun _=>Nat.le_refl _,Nat.le_refl _,fun _ _ h=>h⟩ o ob this.2 (fun h=>.inl h) (fun _ _ _ _=>rfl) (fun q b bo hq=>.inl ⟨q,bo,hq⟩)⟩,
  hr.inj,hr.old,hr.fr,hr.win,hr.le,hr.bk⟩
 keep:=⟨fun _ _=>rfl,fun _ _ h=>h,fun _ _ _=>rfl,fun _ _ _ _ _ h=>h,fun _=>Nat.le_refl _,Nat.le_refl _,fun _ _ h=>h⟩
 ext:=⟨rfl,⟨rfl,hd⟩,rfl,Nat.le_refl _,fun _ _=>rfl,fun _ _ h=>h,by have:=hr.le;show m.base≤m.next;omega,fun _ _ h=>h,fun _ _ _ h=>.inl h,fun _ _ _=>rfl,fun _ _ _ _ _ h=>h,fun _ _ h=>⟨rfl,h⟩,fun _=>Nat.le_refl _,fun _ _ h=>h⟩
theorem QAJ {w w':World} {b off:Nat} (h:w'.heap[b]?=w.heap[b]?):w'.cell? ⟨b,off,none⟩=w.cell? ⟨b,off,none⟩:=World.cell?_of_block (w:=w) h
theorem QAx {w w':World} {b:Nat} (h:w'.heap[b]?=w.heap[b]?):Qw w' b=Qw w b:=by unfold Qw;rw [h]
theorem QBB {w w':World} {b:Nat} (h:w'.heap[b]?=w.heap[b]?) (hu:Uf w b):Uf w' b:=by unfold Uf at*; rw [h];exact hu
def Uo:Obj→Prop
 | .cells c _ fz=>∀i,i<c.size→¬(fz.1≤i∧i<fz.2)
 | _=>True
theorem QIo {w:World} {b:Nat} {o:Obj} (h:w.heap[b]?=some o) (hu:Uo o):Uf w b:=fun c E fz hc=>by rw [h] at hc;cases hc;exact hu
theorem uf_uo {w:World} {b:Nat} {o:Obj} (h:w.heap[b]?=some o) (hu:Uf w b):Uo o:=by cases o<;>first | trivial | exact fun i hi=>hu _ _ _ h i hi
theorem After.new (hr:RM S μ w m) {fresh:Nat} (hf0:m.base≤fresh) (hf1:fresh<m.base+m.wid) (hf2:m.find fresh=none) (o:Obj) (ob:AObj)
  (hw':w'.heap=w.heap.push o) (huo:Uo o) (hos:w'.os=w.os) (htp:QCX w w') (hout:w'.output=w.output)
  (hob:∀μ',Keeps S μ w S μ' w'→(∀x,x≠fresh→μ' x=μ x)→μ' fresh=some (w.heap.size,0)→RepO S μ' w' fresh ob) (hnb:ob≠.bag:=by intro h;cases h):
  ∃μ',After S μ w m [(fresh,ob)] μ' w'∧μ' fresh=some (w.heap.size,0)∧∀x,x≠fresh→μ' x=μ x:=by
 have hfn:μ fresh=none:=by
  rcases Classical.em (μ fresh=none) with e | e
  ·exact e
  ·exact absurd hf2 (hr.win fresh hf0 hf1 e)
 have hheap:∀b,b<w.heap.size→w'.heap[b]?=w.heap[b]?:=fun b hb=>by rw [hw',Array.getElem?_push,if_neg (by omega)]
 have hsz:w.heap.size≤w'.heap.size:=by rw [hw'];simp
 have huf:∀b,Uf w b→Uf w' b:=fun b hu=>by
  rcases Nat.lt_trichotomy b w.heap.size with hb | hb | hb
  ·exact QBB (hheap b hb) hu
  ·exact QIo (o:=o) (by rw [hw',hb];simp) huo
  ·intro c E fz hc
   rw [hw',Array.getElem?_push,if_neg (by omega),Array.getElem?_eq_none (by omega)] at hc
   cases hc
 refine⟨fun x=>if x=fresh then some (w.heap.size,0) else μ x,?_,by simp,fun x hx=>by simp [hx]⟩
 have hk:Keeps S μ w S (fun x=>if x=fresh then some (w.heap.size,0) else μ x) w':=
  ⟨fun x hx=>by
   by_cases e:x=fresh
   ·subst e;exact absurd hfn hx
   ·simp [e],fun _ _ h=>h,fun b off hs=>QAJ (hheap b (hr.old b off hs)),fun b off es clock hs h=>by rw [hheap b (hr.old b off hs)];exact h,fun b=>by
   by_cases hb:b<w.heap.size
   ·rw [QAx (hheap b hb)];exact Nat.le_refl _
   ·have hx:Qw w b=0:=by simp [Qw,Array.getElem?_eq_none (show w.heap.size≤b by omega)]
    omega,hsz,fun b _=>huf b⟩
 have hrm:RM S (fun x=>if x=fresh then some (w.heap.size,0) else μ x) w' (m.upd [(fresh,ob)]):=by
  refine hr.step hk _ hsz (fun o ob' b bo h ho hl hb=>hheap b (hr.bk o b bo hb)) (fun o ob' hl=>?_) (fun o ob' hl ho o' ob'' hf' ho' hne b i j hb e=>?_) (fun o ho=>?_) (fun o b bo hb hn=>?_) (fun q b bo hq=>by
    by_cases e:q=fresh
    ·simp only [e,if_true,Option.some.injEq,Prod.mk.injEq] at hq;right;omega
    ·simp only [e,if_false] at hq;exact .inl ⟨q,bo,hq⟩)
  ·simp only [lk] at hl
   split at hl
   ·rename_i e;simp at hl;subst hl;subst e
    exact⟨by have:=hr.le;omega,hob _ hk (fun x hx=>by simp [hx]) (by simp)⟩
   ·cases hl
  ·simp only [lk] at hl
   split at hl
   ·rename_i e0;subst e0
    simp only [if_true] at hb
    simp only [if_neg (Ne.symm hne)] at e
    have:=hr.bk o' b j e
    simp at hb;omega
   ·cases hl
  ·by_cases e:o=fresh
   ·right;simp [lk,e]
   ·left;simpa [e] using ho
  ·by_cases e:o=fresh
   ·simp [e] at hb;rw [←hb.1,hw'];simp
   ·simp [e] at hb;rw [hn] at hb;cases hb
 refine⟨hrm,hk,⟨hos,htp,hout,hsz,fun o ho=>by simp [show o≠fresh by omega],fun o ho hf'=>?_,by have:=hr.le;show m.base≤m.next;omega,hk.sub,fun _ _ _ h=>.inl h,hk.cell,hk.map,fun b hb hno=>⟨hheap b hb,?_⟩,hk.bsz,fun b _=>huf b⟩⟩
 ·rw [QP,if_neg (by omega)] at hf'
  exact hf'
 ·rintro(⟨o',ob',bo,h1,h2,h3⟩ | ⟨o',b0,code,h1,h2,h3⟩)
  ·by_cases e:o'=fresh
   ·simp [e] at h3;omega
   ·simp only [if_neg e] at h3
    rw [QP,if_neg (Ne.symm e)] at h1
    exact hno (.inl ⟨o',ob',bo,h1,h2,h3⟩)
  ·rw [QP] at h1
   split at h1
   ·simp only [Option.some.injEq] at h1;exact hnb h1
   ·rename_i e
    simp only [if_neg (Ne.symm e)] at h2
    exact hno (.inr ⟨o',b0,code,h1,h2,h3⟩)
theorem After.set (hr:RM S μ w m) {o b bo:Nat} {ob ob':AObj} (hf:m.find o=some ob) (hown:ob.own=true) (hown':ob'.own=true) (hμ:μ o=some (b,bo))
  (hheap:∀k,k≠b→w'.heap[k]?=w.heap[k]?) (hsz:w'.heap.size=w.heap.size) (hbs:Qw w' b=Qw w b) (hos:w'.os=w.os) (htp:QCX w w') (hout:w'.output=w.output)
  (hob:Keeps S μ w S μ w'→RepO S μ w' o ob') (hS:∀off,¬S b off) (hub:Uf w b→Uf w' b):After S μ w m [(o,ob')] μ w':=by
 have huf:∀b,Uf w b→Uf w' b:=fun k hu=>by
  by_cases e:k=b
  ·subst e;exact hub hu
  ·exact QBB (hheap k e) hu
 have hk:Keeps S μ w S μ w':=
  ⟨fun _ _=>rfl,fun _ _ h=>h,fun b' off hs=>QAJ (hheap b' (fun e=>by subst e;exact hS off hs)),fun b' off es clock hs h=>by rw [hheap b' (fun e=>by subst e;exact hS off hs)];exact h,fun b'=>by
   by_cases e:b'=b
   ·subst e;rw [hbs];exact Nat.le_refl _
   ·rw [QAx (hheap b' e)];exact Nat.le_refl _,by omega,fun b _=>huf b⟩
 have hrm:RM S μ w' (m.upd [(o,ob')]):=by
  refine hr.step hk _ (by omega) (fun o' ob'' b' bo' h ho hl hb=>hheap b' (fun e=>?_)) (fun o' ob'' hl=>?_) (fun o' ob'' hl ho o'' ob3 hf' ho' hne b' i j hb e=>?_) (fun o' ho=>.inl ho) (fun o' b' bo' hb hn=>by rw [hn] at hb;cases hb) (fun q b bo hq=>.inl ⟨q,bo,hq⟩)
  ·subst e
   simp only [lk] at hl
   split at hl
   ·cases hl
   ·rename_i hne
    exact hr.inj o o' ob ob'' hf h hown ho hne b' bo bo' hμ hb
  ·simp only [lk] at hl
   split at hl
   ·rename_i e;simp at hl;subst hl;subst e;exact⟨(hr.obj _ _ hf).1,hob hk⟩
   ·cases hl
  ·simp only [lk] at hl
   split at hl
   ·rename_i e0;subst e0
    rw [QP,if_neg hne] at hf'
    exact hr.inj o o'' ob ob3 hf hf' hown ho' hne b' i j hb e
   ·cases hl
 refine⟨hrm,hk,⟨hos,htp,hout,by omega,fun o ho=>rfl,fun o' ho hf'=>?_,by have:=hr.le;show m.base≤m.next;omega,hk.sub,fun _ _ _ h=>.inl h,hk.cell,hk.map,fun b' hb hno=>⟨hheap b' (fun e=>hno (by subst e;exact .inl ⟨o,ob,bo,hf,hown,hμ⟩)),?_⟩,hk.bsz,fun b _=>huf b⟩⟩
 ·rw [QP] at hf'
  by_cases e:o=o'
  ·rw [←e,hf];simp
  ·rw [if_neg e] at hf';exact hf'
 ·rintro(⟨o',ob'',bo',h1,h2,h3⟩ | ⟨o',b0,code,h1,h2,h3⟩)
  ·rw [QP] at h1
   by_cases e:o=o'
   ·subst e;exact hno (.inl ⟨o,ob,bo',hf,hown,h3⟩)
   ·rw [if_neg e] at h1
    exact hno (.inl ⟨o',ob'',bo',h1,h2,h3⟩)
  ·rw [QP] at h1
   split at h1
   ·simp only [Option.some.injEq] at h1;subst h1;simp [AObj.own] at hown'
   ·exact hno (.inr ⟨o',b0,code,h1,h2,h3⟩)
theorem After.bag (hr:RM S μ w m) {o b b0 code:Nat} (hf:m.find o=some .bag) (hμ:μ o=some (b0,code)) (ht:code.testBit b=true)
  (hheap:∀k,k≠b→w'.heap[k]?=w.heap[k]?) (hsz:w'.heap.size=w.heap.size) (hbs:Qw w' b=Qw w b) (hos:w'.os=w.os) (htp:QCX w w') (hout:w'.output=w.output)
  (hS:∀off,¬S b off) (hq:∀q bo,μ q≠some (b,bo)) (hub:Uf w b→Uf w' b):After S μ w m [(o,.bag)] μ w':=by
 have huf:∀b,Uf w b→Uf w' b:=fun k hu=>by
  by_cases e:k=b
  ·subst e;exact hub hu
  ·exact QBB (hheap k e) hu
 have hk:Keeps S μ w S μ w':=
  ⟨fun _ _=>rfl,fun _ _ h=>h,fun b' off hs=>QAJ (hheap b' (fun e=>by subst e;exact hS off hs)),fun b' off es clock hs h=>by rw [hheap b' (fun e=>by subst e;exact hS off hs)];exact h,fun b'=>by
   by_cases e:b'=b
   ·subst e;rw [hbs];exact Nat.le_refl _
   ·rw [QAx (hheap b' e)];exact Nat.le_refl _,by omega,fun b _=>huf b⟩
 have hrm:RM S μ w' (m.upd [(o,.bag)]):=by
  refine hr.step hk _ (by omega) (fun o' ob'' b' bo' h ho hl hb=>hheap b' (fun e=>hq o' bo' (e▸hb))) (fun o' ob'' hl=>?_) (fun o' ob'' hl ho o'' ob3 hf' ho' hne b' i j hb e=>?_) (fun o' ho=>.inl ho) (fun o' b' bo' hb hn=>by rw [hn] at hb;cases hb) (fun q b bo hq=>.inl ⟨q,bo,hq⟩)
  ·simp only [lk] at hl
   split at hl
   ·rename_i e;simp at hl;subst hl;subst e
    exact⟨(hr.obj _ _ hf).1,(hr.obj _ _ hf).2.keep hk (fun h=>.inl h) (fun h=>by cases h) (fun q b bo hq=>.inl ⟨q,bo,hq⟩)⟩
   ·cases hl
  ·simp only [lk] at hl
   split at hl
   ·simp only [Option.some.injEq] at hl;subst hl;cases ho
   ·cases hl
 refine⟨hrm,hk,⟨hos,htp,hout,by omega,fun o ho=>rfl,fun o' ho hf'=>?_,by have:=hr.le;show m.base≤m.next;omega,hk.sub,fun _ _ _ h=>.inl h,hk.cell,hk.map,fun b' hb hno=>⟨hheap b' (fun e=>hno (by subst e;exact .inr ⟨o,b0,code,hf,hμ,ht⟩)),?_⟩,hk.bsz,fun b _=>huf b⟩⟩
 ·rw [QP] at hf'
  by_cases e:o=o'
  ·rw [←e,hf];simp
  ·rw [if_neg e] at hf';exact hf'
 ·rintro(⟨o',ob'',bo',h1,h2,h3⟩ | ⟨o',b0,code,h1,h2,h3⟩)
  ·rw [QP] at h1
   split at h1
   ·simp only [Option.some.injEq] at h1;subst h1;cases h2
   ·exact hno (.inl ⟨o',ob'',bo',h1,h2,h3⟩)
  ·rw [QP] at h1
   split at h1
   ·rename_i e;subst e;exact hno (.inr ⟨_,b0,code,hf,h2,h3⟩)
   ·exact hno (.inr ⟨o',b0,code,h1,h2,h3⟩)
variable {P : Program} {γ : GTab} {S : Nat → Nat → Prop} {μ μ' : Nat → Option (Nat × Nat)} {w w' : World} {m : Mem} {env : List (Nat × AV)} {a : Act}
theorem QAq {α:Type}:∀(s:Sem α) (x:α),prun P s=some x→∀w,s.run P w=.ok x w
 | .pure a,x,h,w=>by simp [prun] at h;simp [Sem.run,h]
 | .program k,x,h,w=>by simp only [prun] at h;simp only [Sem.run];exact QAq (k P) x h w
 | .mark _ k,x,h,w=>by simp only [prun] at h;simp only [Sem.run];exact QAq k x h w
 | .load ..,x,h,w=>by simp [prun] at h
 | .store ..,x,h,w=>by simp [prun] at h
 | .new ..,x,h,w=>by simp [prun] at h
 | .shape ..,x,h,w=>by simp [prun] at h
 | .freeze ..,x,h,w=>by simp [prun] at h
 | .frozen ..,x,h,w=>by simp [prun] at h
 | .getObj ..,x,h,w=>by simp [prun] at h
 | .setObj ..,x,h,w=>by simp [prun] at h
 | .choose ..,x,h,w=>by simp [prun] at h
 | .sys ..,x,h,w=>by simp [prun] at h
 | .halt ..,x,h,w=>by simp [prun] at h
theorem Qi {t e:TypeId} (h:Qd P t=some e):P.underlying t=some (.slice e):=by
 unfold Qd at h
 cases hu:P.underlying t with
 | none=>simp [hu] at h
 | some d=>rw [hu] at h;cases d<;>simp at h;subst h;rfl
theorem QBz {t e:TypeId} {n:Nat} (h:tarr P t=some (n,e)):P.underlying t=some (.array n e):=by
 unfold tarr at h
 cases hu:P.underlying t with
 | none=>simp [hu] at h
 | some d=>rw [hu] at h;cases d<;>simp at h;obtain⟨rfl,rfl⟩:=h;rfl
theorem QAw {t k e:TypeId} (h:tmap P t=some (k,e)):P.underlying t=some (.map k e):=by
 unfold tmap at h
 cases hu:P.underlying t with
 | none=>simp [hu] at h
 | some d=>rw [hu] at h;cases d<;>simp at h;obtain⟨rfl,rfl⟩:=h;rfl
theorem QCp {t:TypeId} {fs:List (Nat×TypeId)} (h:QBM P t=some fs):∃gs:Array Field,P.underlying t=some (.struct gs)∧fs=gs.toList.map fun f=>(f.offset,f.type):=by
 unfold QBM at h
 cases hu:P.underlying t with
 | none=>simp [hu] at h
 | some d=>rw [hu] at h;cases d<;>simp at h;exact⟨_,rfl,h.symm⟩
theorem QBT {t:TypeId} (h:tstr P t=true):P.underlying t=some .string:=by
 unfold tstr at h
 cases hu:P.underlying t with
 | none=>simp [hu] at h
 | some d=>rw [hu] at h;cases d<;>simp at h;rfl
theorem QFf {t:TypeId} (h:QDR P t=true):∃e,P.underlying t=some (.slice e)∧P.underlying e=some (.int .u8)∧Qd P t=some e:=by
 unfold QDR at h
 cases hu:P.underlying t with
 | none=>simp [hu] at h
 | some d=>
  rw [hu] at h
  cases d<;>try (simp at h;done)
  rename_i e
  simp only at h
  cases he:P.underlying e with
  | none=>simp [he] at h
  | some d=>
   rw [he] at h
   cases d<;>try (simp at h;done)
   rename_i k
   cases k<;>try (simp at h;done)
   exact⟨e,rfl,he,by simp [Qd,hu]⟩
theorem QAR {t:TypeId} {i:TypeInfo} (h:P.info? t=some i) (w:World):(typeInfo t).run P w=.ok i w:=by
 simp [typeInfo,h]
theorem Qu {t:TypeId} (h:tok P t=true) (w:World):(sizeOf t).run P w=.ok (tsz P t) w:=by
 unfold tok at h
 obtain⟨i,hi⟩:=Option.isSome_iff_exists.1 h
 simp [sizeOf,tsz,QAR hi,hi]
theorem QGB {t:TypeId} (h:tok P t=true):∃i,P.info? t=some i∧i.size=tsz P t∧i.bytes=tby P t:=by
 unfold tok at h
 obtain⟨i,hi⟩:=Option.isSome_iff_exists.1 h
 exact⟨i,hi,by simp [tsz,hi],by simp [tby,hi]⟩
theorem QBt {t:TypeId} {z:Value} (h:zval P t=some z) (w:World):(zeroValue t).run P w=.ok z w:=by
 unfold zval at h
 cases hi:P.info? t with
 | none=>simp [hi] at h
 | some i=>simp [hi] at h;simp [zeroValue,QAR hi,h]
theorem QFF {t:TypeId} {zs:List Value} (h:tz P t=some zs):∃z,zval P t=some z∧z.cells.toList=zs∧∀u∈zs,u.oneCell'=true:=by
 unfold tz at h
 cases hz:(P.info? t).bind (·.zero) with
 | none=>simp [hz] at h
 | some z=>
  rw [hz] at h
  simp only [Option.bind_some] at h
  split at h
  ·rename_i hall
   simp at h;subst h
   exact⟨z,hz,rfl,fun u hu=>List.all_eq_true.1 hall u hu⟩
  ·cases h
theorem QDt {t:TypeId} {b:Bool} (h:tagg P t=some b) (w:World):(isAgg t).run P w=.ok b w:=by
 unfold tagg at h
 cases hu:P.underlying t with
 | none=>simp [hu] at h
 | some d=>
  rw [hu] at h
  simp only [Option.map_some,Option.some.injEq] at h
  unfold isAgg
  rw [Sem.run_bind,run_underlying hu w]
  cases d<;>simp at h<;>subst h<;>rfl
theorem Q9 (b off j:Nat):(⟨b,off,none⟩:Addr).add j=⟨b,off+j,none⟩:=by unfold Addr.add;split<;>simp_all
theorem QJe {v:Value} (h:v.oneCell'=true):v.cells=#[v]:=by cases v<;>simp_all [Value.oneCell',Value.cells]
theorem QCb {t:TypeId} {xs:List AV} {off:Nat} {x:AV} (h:QCR P t xs off=some x) {b bo:Nat} {ys:List Value} (hr:RepL S μ w xs ys) (ho:∀u∈ys,u.oneCell'=true)
  (hc:∀j u,ys[j]?=some u→w.cell? ⟨b,bo+j,none⟩=some u) (htok:tok P t=true∨tagg P t=some false):∃v,(loadVar t ⟨b,bo+off,none⟩).run P w=.ok v w∧Rep S μ w x v:=by
 unfold QCR at h
 cases ht:tagg P t with
 | none=>simp [ht] at h
 | some g=>
  rw [ht] at h
  cases g with
  | false=>
   simp only at h
   obtain⟨y,hy,hx⟩:=hr.get h
   refine⟨y,?_,hx⟩
   simp [loadVar,QDt ht,hc off y hy]
  | true=>
   simp only at h
   split at h
   ·rename_i hle
    simp at h;subst h
    have htk:tok P t=true:=by rcases htok with h | h;exact h;rw [ht] at h;cases h
    have hl:((ys.drop off).take (tsz P t)).length=tsz P t:=by have:=hr.length;simp;omega
    refine⟨.agg ((ys.drop off).take (tsz P t)).toArray,?_,?_⟩
    ·have:=run_loadCells_list (P:=P) (w:=w) ⟨b,bo+off,none⟩ ((ys.drop off).take (tsz P t)) (fun j v hv=>by
      rw [Q9]
      rw [List.getElem?_take] at hv
      split at hv
      ·rw [List.getElem?_drop] at hv
       rw [show bo+off+j=bo+(off+j) by omega]
       exact hc _ _ hv
      ·cases hv)
     rw [hl] at this
     simp [loadVar,QDt ht,Qu htk,this]
    ·simp only [Rep]
     exact⟨_,rfl,(hr.drop off).take _,fun u hu=>ho u (List.mem_of_mem_drop (List.mem_of_mem_take hu))⟩
   ·cases h
theorem QN3 {t:TypeId} {xs:List AV} {off:Nat} {x:AV} (h:QCR P t xs off=some x) {ys:List Value} (hr:RepL S μ w xs ys) (ho:∀u∈ys,u.oneCell'=true) (htok:tok P t=true∨tagg P t=some false):
  ∃v,(part t ys.toArray off).run P w=.ok v w∧Rep S μ w x v:=by
 unfold QCR at h
 cases ht:tagg P t with
 | none=>simp [ht] at h
 | some g=>
  rw [ht] at h
  cases g with
  | false=>
   simp only at h
   obtain⟨y,hy,hx⟩:=hr.get h
   refine⟨y,?_,hx⟩
   simp [part,QDt ht,hy]
  | true=>
   simp only at h
   split at h
   ·rename_i hle
    simp at h;subst h
    have htk:tok P t=true:=by rcases htok with h | h;exact h;rw [ht] at h;cases h
    refine⟨.agg ((ys.drop off).take (tsz P t)).toArray,?_,?_⟩
    ·simp [part,QDt ht,Qu htk,List.drop_take]
    ·simp only [Rep]
     exact⟨_,rfl,(hr.drop off).take _,fun u hu=>ho u (List.mem_of_mem_drop (List.mem_of_mem_take hu))⟩
   ·cases h
def setV:List Value→Nat→List Value→List Value
 | ys,_,[]=>ys
 | ys,off,c::cs=>setV (ys.set off c) (off+1) cs
theorem Qq:∀(vs ys:List Value) (off:Nat),(setV ys off vs).length=ys.length
 | [],ys,off=>rfl
 | v::vs,ys,off=>by rw [setV,Qq vs];simp
theorem QJB:∀(vs ys:List Value) (off j:Nat),(setV ys off vs)[j]?=if off≤j∧j<off+vs.length∧j<ys.length then vs[j - off]? else ys[j]?
 | [],ys,off,j=>by simp only [setV,List.length_nil];rw [if_neg (by omega)]
 | v::vs,ys,off,j=>by
  rw [setV,QJB vs]
  simp only [List.length_set,List.length_cons]
  by_cases h:off+1≤j∧j<off+1+vs.length∧j<ys.length
  ·rw [if_pos h,if_pos (by omega),show j - off=(j - (off+1))+1 by omega];simp
  ·rw [if_neg h]
   by_cases e:off=j
   ·subst e
    by_cases hl:off<ys.length
    ·rw [if_pos (by omega)];simp [hl]
    ·rw [if_neg (by omega)];simp [List.getElem?_set,hl]
   ·rw [List.getElem?_set_ne e,if_neg (by omega)]
theorem QOX {cs:List AV} {vs:List Value} (h:RepL S μ w cs vs):∀{xs:List AV} {ys:List Value} (off:Nat),RepL S μ w xs ys→RepL S μ w (setL xs off cs) (setV ys off vs):=by
 induction cs generalizing vs with
 | nil=>intro xs ys off hr;simp only [RepL] at h;subst h;simpa [setL,setV] using hr
 | cons c cs ih=>
  intro xs ys off hr
  simp only [RepL] at h
  obtain⟨y,zs,e,h1,h2⟩:=h
  subst e
  simp only [setL,setV]
  exact ih h2 _ (hr.set off h1)
theorem QJE:∀(vs ys:List Value) (off:Nat) (u:Value),u∈setV ys off vs→u∈ys∨u∈vs
 | [],ys,off,u,h=>.inl h
 | v::vs,ys,off,u,h=>by
  rw [setV] at h
  rcases QJE vs _ _ u h with h | h
  ·rcases List.mem_or_eq_of_mem_set h with h | h
   ·exact .inl h
   ·exact .inr (by simp [h])
  ·exact .inr (by simp [h])
theorem QCJ (P:Program) (b off:Nat) (E:TypeId) (fz:Nat×Nat):∀(vs:List Value) (i:Nat) (w:World) (c:Array Value),w.heap[b]?=some (.cells c E fz)→(∀i,i<c.size→¬(fz.1≤i∧i<fz.2))→off+i+vs.length≤c.size→
  (∀v∈vs,v.oneCell'=true)→∃w',(storeCells ⟨b,off,none⟩ vs i).run P w=.ok () w'∧w'.os=w.os∧w'.tape=w.tape∧w'.output=w.output∧w'.drawn=w.drawn∧w'.heap.size=w.heap.size∧(∀k,k≠b→w'.heap[k]?=w.heap[k]?)∧
   w'.heap[b]?=some (.cells (setV c.toList (off+i) vs).toArray E fz)
 | [],i,w,c,hb,hf,hl,h1=>⟨w,rfl,rfl,rfl,rfl,rfl,rfl,fun _ _=>rfl,by simpa [setV] using hb⟩
 | v::vs,i,w,c,hb,hf,hl,h1=>by
  simp only [List.length_cons] at hl
  have hcell:(w.cell? ⟨b,off+i,none⟩)=some c[off+i]:=by simp [World.cell?,hb,show off+i<c.size by omega]
  have hfz:w.frozen? ⟨b,off+i,none⟩=false:=by
   have:=hf (off+i) (by omega)
   simp only [World.frozen?,hb]
   simpa using this
  have hst:(store ((⟨b,off,none⟩:Addr).add i) v).run P w=.ok () (w.setCell ⟨b,off+i,none⟩ v):=by
   rw [Q9,run_store P w _ v _ (h1 v (by simp))]
   simp [stored,hcell,hfz]
  have hb':(w.setCell ⟨b,off+i,none⟩ v).heap[b]?=some (.cells (c.setIfInBounds (off+i) v) E fz):=by
   simp [World.setCell,Array.getElem?_modify,hb]
  obtain⟨w',h2,h3,h4,h5,h6,h7,h8,h9⟩:=QCJ P b off E fz vs (i+1) (w.setCell ⟨b,off+i,none⟩ v) (c.setIfInBounds (off+i) v) hb' (by simpa using hf) (by simp;omega) (fun v hv=>h1 v (by simp [hv]))
  refine⟨w',?_,h3,h4,h5,h6,by simpa [World.setCell] using h7,fun k hk=>(h8 k hk).trans (heap_setCell_other _ _ _ _ hk),?_⟩
  ·simp only [storeCells,Sem.run_bind,hst,Result.andThen_ok,h2]
  ·rw [h9];simp [setV,Nat.add_assoc]
variable {P : Program} {γ : GTab} {S : Nat → Nat → Prop} {μ μ' : Nat → Option (Nat × Nat)} {w w' : World} {m : Mem} {env : List (Nat × AV)} {a : Act}
def OkV (P:Program) (S:Nat→Nat→Prop) (μ:Nat→Option (Nat×Nat)) (w:World) (m:Mem) (s:Sem Value) (x:AV) (u:Upd):Prop:=
 ∃v w' μ',s.run P w=.ok v w'∧Rep S μ' w' x v∧After S μ w m u μ' w'
def OkU (P:Program) (S:Nat→Nat→Prop) (μ:Nat→Option (Nat×Nat)) (w:World) (m:Mem) (s:Sem Unit) (u:Upd):Prop:=
 ∃w' μ',s.run P w=.ok () w'∧After S μ w m u μ' w'
theorem OkV.same (hr:RM S μ w m) {s:Sem Value} {x:AV} {v:Value} (h:s.run P w=.ok v w) (hx:Rep S μ w x v):OkV P S μ w m s x []:=
 ⟨v,w,μ,h,hx,After.pure hr⟩
theorem QG3:∀{xs:List AV} {vs ys:List Value},QFQ xs=some vs→RepL S μ w xs ys→ys=vs
 | [],vs,ys,h,r=>by simp [QFQ] at h;simp only [RepL] at r;rw [r,←h]
 | x::xs,vs,ys,h,r=>by
  simp only [RepL] at r
  obtain⟨y,zs,e,r1,r2⟩:=r
  cases x<;>simp [QFQ] at h
  obtain⟨l,h1,h2⟩:=h
  simp only [Rep] at r1
  rw [e,r1,QG3 h1 r2,h2]
theorem QEK {x:AV} {v y:Value} (h:x.val?=some v) (r:Rep S μ w x y):y=v:=by
 cases x<;>simp [AV.val?] at h
 ·simp only [Rep] at r;rw [r,h]
 ·obtain⟨l,h1,h2⟩:=h
  simp only [Rep] at r
  obtain⟨ys,e,r,_⟩:=r
  rw [e,QG3 h1 r,h2]
theorem QGv:∀{xs:List AV} {vs ys:List Value},QME xs=some vs→RepL S μ w xs ys→ys=vs
 | [],vs,ys,h,r=>by simp [QME] at h;simp only [RepL] at r;rw [r,←h]
 | x::xs,vs,ys,h,r=>by
  simp only [RepL] at r
  obtain⟨y,zs,e,r1,r2⟩:=r
  simp only [QME] at h
  split at h
  ·rename_i a b h1 h2
   simp at h
   rw [e,QEK h1 r1,QGv h2 r2,h]
  ·cases h
theorem QCq {x:AV} {cs:List AV} {v:Value} (h:QR x=some cs) (r:Rep S μ w x v):RepL S μ w cs v.cells.toList∧∀u∈v.cells.toList,u.oneCell'=true:=by
 have one:∀{x:AV} {v:Value},Rep S μ w x v→v.oneCell'=true→RepL S μ w [x] v.cells.toList∧∀u∈v.cells.toList,u.oneCell'=true:=by
  intro x v r ho
  rw [QJe ho]
  simp only [RepL]
  exact⟨⟨v,[],rfl,r,rfl⟩,by simpa using ho⟩
 cases x with
 | agg xs=>
  simp only [QR,Option.some.injEq] at h
  subst h
  simp only [Rep] at r
  obtain⟨ys,rfl,r1,r2⟩:=r
  exact⟨by simpa [Value.cells] using r1,by simpa [Value.cells] using r2⟩
 | v x=>
  have r0:=r
  simp only [Rep] at r0
  subst r0
  cases v with
  | agg c=>
   simp only [QR] at h
   split at h
   ·rename_i hall
    simp only [Option.some.injEq] at h
    subst h
    exact⟨by simpa [Value.cells] using RepL.of_vals (S:=S) (μ:=μ) (w:=w) c.toList,by simpa [Value.cells] using List.all_eq_true.1 hall⟩
   ·cases h
  | tuple c=>simp [QR] at h
  | _=>simp only [QR,Option.some.injEq] at h;subst h;exact one r rfl
 | tup xs=>simp [QR] at h
 | top=>simp [QR] at h
 | seq n sz xs=>
  simp only [QR,Option.some.injEq] at h;subst h
  refine one r ?_
  simp only [Rep] at r;obtain⟨_,_,e,_⟩:=r;rw [e];rfl
 | full n sz xs=>
  simp only [QR,Option.some.injEq] at h;subst h
  refine one r ?_
  simp only [Rep] at r;obtain⟨_,e,_⟩:=r;rw [e];rfl
 | slc o off n sz=>
  simp only [QR,Option.some.injEq] at h;subst h
  refine one r ?_
  simp only [Rep] at r;obtain⟨_,e,_⟩:=r;rw [e];rfl
 | rop xs=>
  simp only [QR,Option.some.injEq] at h;subst h
  refine one r ?_
  simp only [Rep] at r;obtain⟨_,_,e,_⟩:=r;rw [e];rfl
 | ptr o off=>
  simp only [QR,Option.some.injEq] at h;subst h
  refine one r ?_
  simp only [Rep] at r;obtain⟨_,_,_,e⟩:=r;rw [e];rfl
 | sl o off n sz=>
  simp only [QR,Option.some.injEq] at h;subst h
  refine one r ?_
  simp only [Rep] at r;obtain⟨_,_,e,_⟩:=r;rw [e];rfl
 | mp o=>
  simp only [QR,Option.some.injEq] at h;subst h
  refine one r ?_
  simp only [Rep] at r;obtain⟨_,_,_,e⟩:=r;rw [e];rfl
 | mv kt ks xs=>
  simp only [QR,Option.some.injEq] at h;subst h
  refine one r ?_
  simp only [Rep] at r;rcases r with ⟨e,_⟩ | ⟨_,_,_,e,_⟩<;>(rw [e];rfl)
 | it o=>
  simp only [QR,Option.some.injEq] at h;subst h
  refine one r ?_
  simp only [Rep] at r;obtain⟨_,_,_,e⟩:=r;rw [e];rfl
 | yld o=>
  simp only [QR,Option.some.injEq] at h;subst h
  refine one r ?_
  simp only [Rep] at r;obtain⟨_,_,_,e⟩:=r;rw [e];rfl
 | clo fn f c=>
  simp only [QR,Option.some.injEq] at h;subst h
  refine one r ?_
  simp only [Rep] at r;obtain⟨_,_,e,_⟩:=r;rw [e];rfl
 | ifc t x=>
  simp only [QR,Option.some.injEq] at h;subst h
  refine one r ?_
  simp only [Rep] at r;obtain⟨_,e,_⟩:=r;rw [e];rfl
 | on T u x=>
  cases x<;>simp only [QR,Option.some.injEq,reduceCtorEq] at h
  subst h
  refine one r ?_
  simp only [Rep] at r;obtain⟨_,_,e,_⟩:=r;rw [e];rfl
 | bs o n=>
  simp only [QR,Option.some.injEq] at h;subst h
  refine one r ?_
  simp only [Rep] at r;obtain⟨_,_,e,_⟩:=r;rw [e];rfl
 | bp o=>
  simp only [QR,Option.some.injEq] at h;subst h
  refine one r ?_
  simp only [Rep] at r;obtain⟨_,_,_,_,_,_,e,_⟩:=r;rw [e];rfl
theorem QDO {o b bo:Nat} {E:TypeId} {xs:List AV} {ap:Bool} (hr:RM S μ w m) (hf:m.find o=some (.cells E xs ap)) (hμ:μ o=some (b,bo)):
  ∃(ys:List Value) (c:Array Value) (fz:Nat×Nat),w.heap[b]?=some (.cells c E fz)∧(∀i,i<c.size→¬(fz.1≤i∧i<fz.2))∧RepL S μ w xs ys∧(∀u∈ys,u.oneCell'=true)∧bo+ys.length≤c.size∧
   (∀j,j<ys.length→c[bo+j]?=ys[j]?)∧(∀off,¬S b off):=by
 have:=(hr.obj _ _ hf).2
 simp only [RepO] at this
 rcases this with ⟨h,_⟩ | ⟨b',bo',ys,c,fz,h1,h2⟩
 ·rw [hμ] at h;cases h
 ·rw [hμ] at h1;cases h1;exact⟨ys,c,fz,h2⟩
theorem QB9 {o b bo:Nat} {E:TypeId} {xs:List AV} {ap:Bool} (hr:RM S μ w m) (hf:m.find o=some (.cells E xs ap)) (hμ:μ o=some (b,bo)):
  ∃ys:List Value,RepL S μ w xs ys∧(∀u∈ys,u.oneCell'=true)∧∀j u,ys[j]?=some u→w.cell? ⟨b,bo+j,none⟩=some u:=by
 obtain⟨ys,c,fz,h1,h2,h3,h4,h5,h6,h7⟩:=QDO hr hf hμ
 refine⟨ys,h3,h4,fun j u hu=>?_⟩
 have hj:j<ys.length:=by
  rcases Nat.lt_or_ge j ys.length with h | h
  ·exact h
  ·rw [List.getElem?_eq_none h] at hu;cases hu
 rw [cell_of_row w b (bo+j) c E fz h1,h6 j hj,hu]
theorem QDE {o b bo:Nat} {xs:List AV} (hr:RM S μ w m) (hf:m.find o=some (.imm xs)) (hμ:μ o=some (b,bo)):
  ∃ys:List Value,RepL S μ w xs ys∧(∀u∈ys,u.oneCell'=true)∧∀j u,ys[j]?=some u→w.cell? ⟨b,bo+j,none⟩=some u:=by
 have:=(hr.obj _ _ hf).2
 simp only [RepO] at this
 rcases this with h | ⟨b',bo',h1,h2⟩
 ·subst h;exact⟨[],by simp [RepL],by simp,by simp⟩
 ·rw [hμ] at h1;cases h1;exact h2.list
theorem QdX {t:TypeId} {x y:AV} {v:Value} (hr:RM S μ w m) (h:QE3 P m.find t x=some y) (hx:Rep S μ w x v) (htok:tok P t=true∨tagg P t=some false):OkV P S μ w m (Instr.loadAt t v) y []:=by
 unfold QE3 at h
 split at h
 ·simp only [Rep] at hx
  obtain⟨b,off,rfl,hc⟩:=hx
  obtain⟨ys,h1,h2,h3⟩:=hc.list
  obtain⟨v,h4,h5⟩:=QCb h (b:=b) (bo:=off) h1 h2 h3 htok
  exact OkV.same hr (by simpa [Instr.loadAt,Instr.sureAddr] using h4) h5
 ·rename_i o off
  simp only [Rep] at hx
  obtain⟨b,bo,hμ,rfl⟩:=hx
  split at h
  ·rename_i E ys ap hf
   obtain⟨zs,h1,h2,h3⟩:=QB9 hr hf hμ
   obtain⟨v,h4,h5⟩:=QCb h (b:=b) (bo:=bo) h1 h2 h3 htok
   exact OkV.same hr (by simpa [Instr.loadAt,Instr.sureAddr] using h4) h5
  ·rename_i ys hf
   obtain⟨zs,h1,h2,h3⟩:=QDE hr hf hμ
   obtain⟨v,h4,h5⟩:=QCb h (b:=b) (bo:=bo) h1 h2 h3 htok
   exact OkV.same hr (by simpa [Instr.loadAt,Instr.sureAddr] using h4) h5
  ·cases h
 ·cases h
theorem QGO {o b bo off:Nat} {E:TypeId} {xs:List AV} {ap:Bool} (hr:RM S μ w m) (hf:m.find o=some (.cells E xs ap)) (hμ:μ o=some (b,bo)) {cs:List AV} {vs:List Value} (hc:RepL S μ w cs vs) (h1:∀u∈vs,u.oneCell'=true)
  (hl:off+cs.length≤xs.length):∃w',(storeCells ⟨b,bo+off,none⟩ vs).run P w=.ok () w'∧After S μ w m [(o,.cells E (setL xs off cs) ap)] μ w':=by
 obtain⟨ys,c,fz,g1,g2,g3,g4,g5,g6,g7⟩:=QDO hr hf hμ
 have hlen:=g3.length
 have hcl:=hc.length
 obtain⟨w',e1,e2,e3,e4,e5,e6,e7,e8⟩:=QCJ P b (bo+off) E fz vs 0 w c g1 g2 (by omega) h1
 refine⟨w',e1,After.set hr hf rfl rfl hμ e7 e6 ?_ e2 ⟨e3,Nat.le_of_eq e5.symm⟩ e4 (fun hk=>?_) g7 (fun _=>QIo e8 (by simpa [Uo,Qq] using g2))⟩
 ·simp [Qw,e8,g1,Qq]
 ·simp only [RepO]
  refine .inr ⟨b,bo,setV ys off vs,_,fz,hμ,e8,by simpa [Qq] using g2,QOX (RepL.keep hk _ _ hc) off (RepL.keep hk _ _ g3),fun u hu=>?_,by simpa [Qq] using g5,fun j hj=>?_,g7⟩
  ·rcases QJE _ _ _ _ hu with h | h
   ·exact g4 u h
   ·exact h1 u h
  ·rw [Qq] at hj
   have:=g6 j hj
   simp only [List.getElem?_toArray,QJB]
   simp only [Array.length_toList,Nat.add_zero]
   by_cases h:off≤j∧j<off+vs.length∧j<ys.length
   ·rw [if_pos h,if_pos (by omega),show bo+j - (bo+off)=j - off by omega]
   ·rw [if_neg h,if_neg (by omega)];simpa using this
theorem QYp {t:TypeId} {x y:AV} {v z:Value} {u:Upd} (hr:RM S μ w m) (h:QD6 P m.find t x y=some u) (hx:Rep S μ w x v) (hy:Rep S μ w y z):OkU P S μ w m (Instr.storeAt t v z) u:=by
 unfold QD6 at h
 split at h
 ·rename_i o off cs hcs
  split at h
  ·rename_i E ys ap hf
   split at h
   ·rename_i hcond
    obtain⟨htk,hl,hle⟩:=hcond
    simp only [Option.some.injEq] at h
    subst h
    simp only [Rep] at hx
    obtain⟨b,bo,hμ,rfl⟩:=hx
    obtain⟨hc1,hc2⟩:=QCq hcs hy
    obtain⟨w',e1,e2⟩:=QGO (P:=P) (off:=off) hr hf hμ hc1 hc2 (by omega)
    refine⟨w',μ,?_,e2⟩
    have hsz:z.cells.size=tsz P t:=by have:=hc1.length;simp at this;omega
    simp [Instr.storeAt,Instr.sureAddr,storeVar,Qu htk,hsz,e1]
   ·cases h
  ·cases h
 ·rename_i o c0 hcs
  split at h
  ·rename_i hf
   split at h
   ·rename_i hcond
    obtain⟨htk,h1⟩:=hcond
    simp only [Option.some.injEq] at h
    subst h
    simp only [Rep] at hx
    obtain⟨b,off,b0,code,hμ,ht,rfl,hlt⟩:=hx
    obtain⟨hc1,hc2⟩:=QCq hcs hy
    have hbag:=(hr.obj _ _ hf).2
    have hbag0:=hbag
    simp only [RepO] at hbag
    obtain⟨b0',code',hμ',hbag⟩:=hbag
    rw [hμ] at hμ';cases hμ'
    obtain⟨g1,g2,g3,g4⟩:=hbag b ht
    cases hb:w.heap[b]? with
    | none=>simp [Qw,hb] at g1
    | some ob=>
     cases ob with
     | cells c E fz=>
      have hsz:z.cells.size=1:=by have:=hc1.length;simpa using this
      have hlt':off<c.size:=by simpa [Qw,hb] using hlt
      obtain⟨w',e1,e2,e3,e4,e5,e6,e7,e8⟩:=QCJ P b off E fz z.cells.toList 0 w c hb (g2 c E fz hb) (by simp [hsz];omega) hc2
      refine⟨w',μ,by simp [Instr.storeAt,Instr.sureAddr,storeVar,Qu htk,hsz,h1,e1],After.bag hr hf hμ ht e7 e6 (by simp [Qw,e8,hb,Qq]) e2 ⟨e3,Nat.le_of_eq e5.symm⟩ e4 g3 g4 (fun _=>QIo e8 (by have:=uf_uo hb g2;simpa [Uo,Qq] using this))⟩
     | _=>simp [Qw,hb] at g1
   ·cases h
  ·cases h
 ·cases h
theorem QB4 (E:TypeId) (c:Array Value):(newRow E c).run P w=.ok ⟨w.heap.size,0,none⟩ { w with heap:=w.heap.push (.cells c E) }:=rfl
theorem After.row (hr:RM S μ w m) {fresh:Nat} (hf0:m.base≤fresh) (hf1:fresh<m.base+m.wid) (hf2:m.find fresh=none) (E:TypeId) {xs:List AV} {ys:List Value} (c:Array Value) (fz:Nat×Nat) (ap:Bool)
  (hx:RepL S μ w xs ys) (h1:∀u∈ys,u.oneCell'=true) (hl:ys.length≤c.size) (hc:∀j,j<ys.length→c[j]?=ys[j]?) (hfz:∀i,i<c.size→¬(fz.1≤i∧i<fz.2)) (d:Nat) (hd:w.drawn≤d:=by omega):
  ∃μ',After S μ w m [(fresh,.cells E xs ap)] μ' { w with heap:=w.heap.push (.cells c E fz),drawn:=d }∧μ' fresh=some (w.heap.size,0):=by
 obtain⟨μ',h,h2,_⟩:=After.new (w':={ w with heap:=w.heap.push (.cells c E fz),drawn:=d }) hr hf0 hf1 hf2 (.cells c E fz) (.cells E xs ap) rfl hfz rfl ⟨rfl,hd⟩ rfl (fun μ' hk _ hμ=>by
  simp only [RepO]
  refine .inr ⟨w.heap.size,0,ys,c,fz,hμ,by simp,hfz,RepL.keep hk _ _ hx,h1,by omega,by simpa using hc,fun off hs=>?_⟩
  have:=hr.old _ _ hs;omega)
 exact⟨μ',h,h2⟩
theorem QXO {e:TypeId} {zs:List Value} {fresh:Nat} (hr:RM S μ w m) (hf0:m.base≤fresh) (hf1:fresh<m.base+m.wid) (hf2:m.find fresh=none) (hz:tz P e=some zs):
  OkV P S μ w m (Instr.alloc e true (.tuple #[])) (.ptr fresh 0) [(fresh,.cells e (zs.map .v) false)]:=by
 obtain⟨z,h1,h2,h3⟩:=QFF hz
 obtain⟨μ',h4,h5⟩:=After.row (d:=w.drawn) hr hf0 hf1 hf2 e (xs:=zs.map .v) (ys:=zs) z.cells (0,0) false (RepL.of_vals _) h3 (by rw [←h2];simp) (fun j hj=>by rw [←h2];simp) (by omega)
 exact⟨.pointer (some ⟨w.heap.size,0,none⟩),_,μ',by simp [Instr.alloc,QBt h1,newVar,QB4],by simp only [Rep];exact⟨_,0,h5,rfl⟩,h4⟩
theorem ok_box {e:TypeId} {x:AV} {v:Value} {cs:List AV} {fresh:Nat} (hr:RM S μ w m) (hf0:m.base≤fresh) (hf1:fresh<m.base+m.wid) (hf2:m.find fresh=none) (hc:QR x=some cs) (hx:Rep S μ w x v):
  OkV P S μ w m (Instr.box e v) (.ptr fresh 0) [(fresh,.cells e cs false)]:=by
 obtain⟨h1,h2⟩:=QCq hc hx
 obtain⟨μ',h4,h5⟩:=After.row (d:=w.drawn) hr hf0 hf1 hf2 e v.cells (0,0) false h1 h2 (by simp) (fun j hj=>by simp) (by omega)
 exact⟨.pointer (some ⟨w.heap.size,0,none⟩),_,μ',by simp [Instr.box,newVar,QB4],by simp only [Rep];exact⟨_,0,h5,rfl⟩,h4⟩
theorem QHm:∀(vs:List Value) (k off:Nat) (c:Array Value),((vs.zipIdx k).foldl (fun cs p=>cs.setIfInBounds (off+p.2) p.1) c).toList=setV c.toList (off+k) vs
 | [],k,off,c=>rfl
 | v::vs,k,off,c=>by
  simp only [List.zipIdx_cons,List.foldl_cons,setV]
  rw [QHm vs (k+1) off]
  simp [Nat.add_assoc]
theorem QNU (place:Nat→Option (Nat×Nat)):∀(parts:List (Nat×AV)) (vals:List (Nat×Value)) (cells out:List AV) (c:Array Value),QC4 place cells parts=some out→RepL S μ w cells c.toList→(∀u∈c.toList,u.oneCell'=true)→
  parts.map (·.1)=vals.map (·.1)→RepL S μ w (parts.map (·.2)) (vals.map (·.2))→∃c',Instr.fill place c vals=some c'∧RepL S μ w out c'.toList∧(∀u∈c'.toList,u.oneCell'=true)∧c'.size=c.size
 | [],vals,cells,out,c,h,hr,ho,hk,hv=>by
  simp only [QC4,Option.some.injEq] at h
  subst h
  cases vals with
  | nil=>exact⟨c,rfl,hr,ho,rfl⟩
  | cons a b=>simp at hk
 | (i,x)::parts,vals,cells,out,c,h,hr,ho,hk,hv=>by
  cases vals with
  | nil=>simp at hk
  | cons p vals=>
   obtain⟨i',v⟩:=p
   simp only [List.map_cons,List.cons.injEq] at hk
   obtain⟨hi,hk⟩:=hk
   subst hi
   simp only [List.map_cons,RepL] at hv
   obtain⟨y,zs,e,hx,hv⟩:=hv
   simp only [List.cons.injEq] at e
   obtain⟨rfl,rfl⟩:=e
   simp only [QC4] at h
   split at h
   ·rename_i off size cs hp hcs
    split at h
    ·rename_i hl
     split at h
     ·rename_i hle
      obtain⟨h1,h2⟩:=QCq hcs hx
      have hcl:=h1.length
      have hrl:=hr.length
      simp at hcl hrl
      have hfold:=QHm v.cells.toList 0 off c
      have hstep:(v.cells.zipIdx.foldl (fun cs p=>cs.setIfInBounds (off+p.2) p.1) c).toList=setV c.toList off v.cells.toList:=by
       rw [←Array.foldl_toList,Array.toList_zipIdx]
       simpa using hfold
      obtain⟨c',e1,e2,e3,e4⟩:=QNU place parts vals _ out (v.cells.zipIdx.foldl (fun cs p=>cs.setIfInBounds (off+p.2) p.1) c) h (by rw [hstep];exact QOX h1 off hr) (fun u hu=>by
       rw [hstep] at hu
       rcases QJE _ _ _ _ hu with h | h
       ·exact ho u h
       ·exact h2 u h) hk hv
      refine⟨c',?_,e2,e3,?_⟩
      ·simp only [Instr.fill,hp]
       rw [if_neg (by simp;omega)]
       exact e1
      ·rw [e4]
       have:=congrArg List.length hstep
       simpa [Qq] using this
     ·cases h
    ·cases h
   ·cases h
theorem QEn (parts:Array (Nat×Operand)) (f:Operand→AV) (g:Operand→Value):(parts.toList.map fun p=>(p.1,f p.2)).map (·.1)=(parts.map fun p=>(p.1,g p.2)).toList.map (·.1):=by
 simp
theorem QEl {ρ:Operand→AV} (rr:∀x,Rep S μ w (ρ x) (a.eval x)) (parts:Array (Nat×Operand)):RepL S μ w ((parts.toList.map fun p=>(p.1,ρ p.2)).map (·.2)) ((parts.map fun p=>(p.1,a.eval p.2)).toList.map (·.2)):=by
 have:=QJW rr (parts.toList.map (·.2))
 simpa [List.map_map,Function.comp_def] using this
theorem QYP {t:TypeId} {parts:List (Nat×AV)} {vals:Array (Nat×Value)} {zs:List Value} {pl:Nat→Option (Nat×Nat)} {cs:List AV} (hr:RM S μ w m) (hz:tz P t=some zs) (hp:QJb P t=some pl)
  (hf:QC4 pl (zs.map .v) parts=some cs) (hk:parts.map (·.1)=vals.toList.map (·.1)) (hv:RepL S μ w (parts.map (·.2)) (vals.toList.map (·.2))):OkV P S μ w m (Instr.build t vals) (.agg cs) []:=by
 obtain⟨z,h1,h2,h3⟩:=QFF hz
 obtain⟨c',e1,e2,e3,_⟩:=QNU pl parts vals.toList (zs.map .v) cs z.cells hf (by rw [h2];exact RepL.of_vals _) (by rw [h2];exact h3) hk hv
 refine OkV.same hr (v:=.agg c') ?_ (by simp only [Rep];exact⟨c'.toList,by simp,e2,e3⟩)
 unfold QJb at hp
 split at hp
 ·rename_i fs hfs
  split at hp
  ·rename_i hall
   simp only [Option.some.injEq] at hp
   obtain⟨gs,hu,rfl⟩:=QCp hfs
   have hm:∀(w:World),(gs.mapM fun f=>(do pure (f.offset,←sizeOf f.type):Sem (Nat×Nat))).run P w=.ok (gs.map fun f=>(f.offset,tsz P f.type)) w:=by
    intro w
    have:∀(l:List Field),(∀f∈l,tok P f.type=true)→∀w,(l.mapM fun f=>(do pure (f.offset,←sizeOf f.type):Sem (Nat×Nat))).run P w=.ok (l.map fun f=>(f.offset,tsz P f.type)) w:=by
     intro l
     induction l with
     | nil=>intro _ w;rfl
     | cons f l ih=>
      intro hl w
      simp only [List.mapM_cons,Sem.run_bind,Qu (hl f (by simp)),Result.andThen_ok,Sem.run_pure,ih (fun f hf=>hl f (by simp [hf])),List.map_cons]
    have h2:=this gs.toList (fun f hf=>by
     have:=List.all_eq_true.1 hall (f.offset,f.type) (by simpa using ⟨f,by simpa using hf,rfl,rfl⟩)
     simpa using this) w
    rw [Array.mapM_eq_mapM_toList,Sem.run_map,h2]
    simp only [Result.andThen_ok]
    congr 1
    apply Array.ext';simp
   have hpl:(fun i=>(gs.map fun f=>(f.offset,tsz P f.type))[i]?)=pl:=by
    rw [←hp]
    funext i
    simp [List.getElem?_map]
    cases gs[i]?<;>rfl
   simp only [Instr.build,Sem.run_bind,QBt h1,Result.andThen_ok,run_underlying hu,hm]
   have e1':Instr.fill (fun i=>(gs.map fun f=>(f.offset,tsz P f.type))[i]?) z.cells vals.toList=some c':=by rw [hpl];exact e1
   simp only [e1',Sem.run_pure]
  ·cases hp
 ·rename_i n e hno harr
  split at hp
  ·rename_i htk
   simp only [Option.some.injEq] at hp
   subst hp
   simp only [Instr.build,Sem.run_bind,QBt h1,Result.andThen_ok,run_underlying (QBz harr),Qu htk,e1,Sem.run_pure]
  ·cases hp
 ·cases hp
theorem QJX {α:Type} [Inhabited α] (z:List α) (hz:0<z.length):∀(n j:Nat),j<n*z.length→((List.replicate n z).flatten)[j]?=z[j % z.length]?
 | 0,j,h=>by simp at h
 | n+1,j,h=>by
  rw [List.replicate_succ,List.flatten_cons]
  by_cases hj:j<z.length
  ·rw [List.getElem?_append_left hj,Nat.mod_eq_of_lt hj]
  ·rw [List.getElem?_append_right (by omega),QJX z hz n (j - z.length) (by rw [Nat.succ_mul] at h;omega)]
   conv=>rhs;rw [show j=j - z.length+z.length by omega]
   rw [Nat.add_mod_right]
theorem QFJ (z:Array Value) (n:Nat) (hz:0<z.size):(Array.range (n*z.size)).map (fun j=>z[j % z.size]!)=((List.replicate n z.toList).flatten).toArray:=by
 apply Array.ext'
 apply List.ext_getElem?
 intro j
 have hl:((List.replicate n z.toList).flatten).length=n*z.size:=by simp
 by_cases hj:j<n*z.size
 ·rw [List.toList_toArray,QJX z.toList (by simpa using hz) n j (by simpa using hj)]
  have hm:j % z.size<z.size:=Nat.mod_lt _ hz
  simp [hj,hm]
 ·rw [List.toList_toArray]
  exact (List.getElem?_eq_none (by simp;omega)).trans (List.getElem?_eq_none (by simp;omega)).symm
theorem QEX (n:Nat) (zs:List Value):(List.replicate n (zs.map AV.v)).flatten=((List.replicate n zs).flatten).map .v:=by
 simp [List.map_flatten]
theorem QFr (n:Nat) {zs:List Value} (h:∀u∈zs,u.oneCell'=true):∀u∈(List.replicate n zs).flatten,u.oneCell'=true:=fun u hu=>by
 simp only [List.mem_flatten,List.mem_replicate] at hu
 obtain⟨l,⟨_,rfl⟩,hu⟩:=hu
 exact h u hu
theorem QJg {t e:TypeId} {n:Nat} {parts:List (Nat×AV)} {vals:Array (Nat×Value)} {zs:List Value} {cs:List AV} {fresh:Nat} (hr:RM S μ w m) (hf0:m.base≤fresh) (hf1:fresh<m.base+m.wid) (hf2:m.find fresh=none)
  (ht:Qd P t=some e) (hz:tz P e=some zs) (htk:tok P e=true) (hl:zs.length=tsz P e) (hn:n*tsz P e≤16777216)
  (hf:QC4 (fun i=>some (i*tsz P e,tsz P e)) ((List.replicate n (zs.map AV.v)).flatten) parts=some cs) (hk:parts.map (·.1)=vals.toList.map (·.1)) (hv:RepL S μ w (parts.map (·.2)) (vals.toList.map (·.2))):
  OkV P S μ w m (Instr.buildSlice t n vals) (.sl fresh 0 n (tsz P e)) [(fresh,.cells e cs true)]:=by
 obtain⟨z,h1,h2,h3⟩:=QFF hz
 have hzl:z.cells.size=tsz P e:=by rw [←hl,←h2];simp
 let c0:Array Value:=((List.replicate n zs).flatten).toArray
 obtain⟨c',e1,e2,e3,e4⟩:=QNU (S:=S) (μ:=μ) (w:=w) (fun i=>some (i*tsz P e,tsz P e)) parts vals.toList _ cs c0 hf (by rw [QEX];exact RepL.of_vals _) (by simpa [c0] using QFr n h3) hk hv
 obtain⟨μ',h4,h5⟩:=After.row (d:=w.drawn) hr hf0 hf1 hf2 e (xs:=cs) (ys:=c'.toList) c' (0,0) true e2 e3 (by simp) (fun j hj=>by simp) (by omega)
 have hsz:c'.size=n*tsz P e:=by rw [e4];simp [c0,hl]
 refine⟨.slice (some ⟨w.heap.size,0,none⟩) n n,_,μ',?_,?_,h4⟩
 ·simp only [Instr.buildSlice,Sem.run_bind,run_underlying (Qi ht),Result.andThen_ok,Qu htk]
  rw [if_neg (by simpa using hn)]
  by_cases h0:n*tsz P e=0
  ·have hc0:c0=#[]:=by
    apply Array.ext';simp only [c0]
    apply List.eq_nil_of_length_eq_zero;simp [hl];simpa using h0
   rw [hc0] at e1
   have hr00:∀f:Nat→Value,(Array.range 0).map f=#[]:=fun _=>by apply Array.ext';simp
   simp [h0,hr00,e1,QB4]
  ·have hr0:=QFJ z.cells n (by rw [hzl];exact Nat.pos_of_ne_zero (fun e=>h0 (by rw [e];simp)))
   rw [hzl] at hr0
   rw [h2] at hr0
   simp only [h0,if_false,Sem.run_bind,QBt h1,Result.andThen_ok,Sem.run_pure]
   simp only [hzl] at hr0 ⊢
   rw [hr0]
   simp only [c0] at e1
   simp [e1,QB4]
 ·simp only [Rep]
  exact⟨_,n,rfl,Nat.le_refl _,.inr ⟨w.heap.size,0,h5,rfl,by simp [Qw,hsz]⟩⟩
variable {P : Program} {γ : GTab} {S : Nat → Nat → Prop} {μ μ' : Nat → Option (Nat × Nat)} {w w' : World} {m : Mem} {env : List (Nat × AV)} {a : Act}
theorem QFX {s:TypeId} {x y:AV} {v:Value} {f:Nat} {fs:List (Nat×TypeId)} {fl:Nat×TypeId} (hr:RM S μ w m) (hfs:QBM P s=some fs) (hfl:fs[f]?=some fl) (htk:tok P fl.2=true) (htz:tsz P fl.2≠0) (hx:Rep S μ w x v)
  (h:(∃o off,x=.ptr o off∧y=.ptr o (off+fl.1))∨(∃xs,x=.rop xs∧y=.rop (xs.drop fl.1))):OkV P S μ w m (Instr.fieldAt s v f) y []:=by
 obtain⟨gs,hu,rfl⟩:=QCp hfs
 simp only [List.getElem?_map,Array.getElem?_toList,Option.map_eq_some_iff] at hfl
 obtain⟨g,hg,rfl⟩:=hfl
 have key:∀b off:Nat,v=.pointer (some ⟨b,off,none⟩)→(Instr.fieldAt s v f).run P w=.ok (.pointer (some ⟨b,off+g.offset,none⟩)) w:=by
  intro b off e
  subst e
  have hp:∀w:World,(fieldPlace ⟨b,off,none⟩ g).run P w=.ok ⟨b,off+g.offset,none⟩ w:=by
   intro w
   unfold fieldPlace
   simp only at htk htz
   simp [Q9,Qu htk,htz]
  simp [Instr.fieldAt,run_underlying hu,hg,Instr.sureAddr,hp]
 rcases h with ⟨o,off,rfl,rfl⟩ | ⟨xs,rfl,rfl⟩
 ·simp only [Rep] at hx
  obtain⟨b,bo,hμ,e⟩:=hx
  refine OkV.same hr (key _ _ e) ?_
  simp only [Rep]
  exact⟨b,bo,hμ,by rw [Nat.add_assoc]⟩
 ·simp only [Rep] at hx
  obtain⟨b,off,e,hc⟩:=hx
  refine OkV.same hr (key _ _ e) ?_
  simp only [Rep]
  exact⟨b,off+g.offset,rfl,hc.drop _⟩
theorem QYV {t:TypeId} {xs:List AV} {y:AV} {v:Value} {f:Nat} {fs:List (Nat×TypeId)} {fl:Nat×TypeId} (hr:RM S μ w m) (hfs:QBM P t=some fs) (hfl:fs[f]?=some fl) (hx:Rep S μ w (.agg xs) v)
  (h:QCR P fl.2 xs fl.1=some y) (htok:tok P fl.2=true∨tagg P fl.2=some false):OkV P S μ w m (Instr.field t v f) y []:=by
 obtain⟨gs,hu,rfl⟩:=QCp hfs
 simp only [List.getElem?_map,Array.getElem?_toList,Option.map_eq_some_iff] at hfl
 obtain⟨g,hg,rfl⟩:=hfl
 simp only [Rep] at hx
 obtain⟨ys,rfl,h1,h2⟩:=hx
 obtain⟨v,h3,h4⟩:=QN3 h h1 h2 htok
 exact OkV.same hr (by simp [Instr.field,run_underlying hu,hg,asAgg,h3]) h4
theorem Qz (k:IntKind) (n:Int):(asIntOf (.int k n)).run P w=.ok (k,n) w:=rfl
theorem QLd {t:TypeId} {x i y:AV} {v vi:Value} (hr:RM S μ w m) (h:QAC P t x i=some y) (hx:Rep S μ w x v) (hi:Rep S μ w i vi):OkV P S μ w m (Instr.indexAt t v vi) y []:=by
 unfold QAC at h
 split at h
 ·rename_i k j
  simp only [Rep] at hi
  subst hi
  split at h
  ·rename_i e _ ht
   split at h
   ·rename_i n z xs
    split at h
    ·rename_i hz
     split at h
     ·rename_i hb
      simp only [Option.some.injEq] at h
      subst h
      simp only [Rep] at hx
      obtain⟨base,cap,rfl,hn,hl,hc⟩:=hx
      rcases hc with hc | ⟨b,off,rfl,hc⟩
      ·omega
      ·refine OkV.same hr (v:=.pointer (some ⟨b,off+j.toNat*z,none⟩)) ?_ (by simp only [Rep];exact⟨b,_,rfl,hc.drop _⟩)
       obtain⟨rfl,htk⟩:=hz
       simp [Instr.indexAt,Qz,run_underlying (Qi ht),hb,Qu htk,Q9]
     ·cases h
    ·cases h
   ·rename_i o off n z
    split at h
    ·rename_i hz
     split at h
     ·rename_i hb
      simp only [Option.some.injEq] at h
      subst h
      simp only [Rep] at hx
      obtain⟨base,cap,rfl,hn,hc⟩:=hx
      rcases hc with hc | ⟨b,bo,hμ,rfl,hc⟩
      ·omega
      ·refine OkV.same hr (v:=.pointer (some ⟨b,bo+off+j.toNat*z,none⟩)) ?_ (by simp only [Rep];exact⟨b,bo,hμ,by rw [Nat.add_assoc]⟩)
       obtain⟨rfl,htk⟩:=hz
       simp [Instr.indexAt,Qz,run_underlying (Qi ht),hb,Qu htk,Q9]
     ·cases h
    ·cases h
   ·rename_i o n
    split at h
    ·rename_i hz
     split at h
     ·rename_i hb
      simp only [Option.some.injEq] at h
      subst h
      simp only [Rep] at hx
      obtain⟨base,cap,rfl,hn,hc⟩:=hx
      rcases hc with hc | ⟨b,off,b0,code,hμ,ht',rfl,hc⟩
      ·omega
      ·refine OkV.same hr (v:=.pointer (some ⟨b,off+j.toNat*1,none⟩)) ?_ (by simp only [Rep];exact⟨b,_,b0,code,hμ,ht',rfl,by omega⟩)
       obtain⟨hz1,htk⟩:=hz
       simp [Instr.indexAt,Qz,run_underlying (Qi ht),hb,Qu htk,Q9,hz1]
     ·cases h
    ·cases h
   ·cases h
  ·rename_i n e ht htr
   have hu:=QBz htr
   split at h
   ·rename_i o off
    split at h
    ·rename_i htk
     split at h
     ·rename_i hb
      simp only [Option.some.injEq] at h
      subst h
      simp only [Rep] at hx
      obtain⟨b,bo,hμ,rfl⟩:=hx
      refine OkV.same hr (v:=.pointer (some ⟨b,bo+off+j.toNat*tsz P e,none⟩)) ?_ (by simp only [Rep];exact⟨b,bo,hμ,by rw [Nat.add_assoc]⟩)
      simp [Instr.indexAt,Qz,run_underlying hu,Instr.sureAddr,hb,Qu htk,Q9]
     ·cases h
    ·cases h
   ·rename_i xs
    split at h
    ·rename_i htk
     split at h
     ·rename_i hb
      simp only [Option.some.injEq] at h
      subst h
      simp only [Rep] at hx
      obtain⟨b,off,rfl,hc⟩:=hx
      refine OkV.same hr (v:=.pointer (some ⟨b,off+j.toNat*tsz P e,none⟩)) ?_ (by simp only [Rep];exact⟨b,_,rfl,hc.drop _⟩)
      simp [Instr.indexAt,Qz,run_underlying hu,Instr.sureAddr,hb,Qu htk,Q9]
     ·cases h
    ·cases h
   ·cases h
  ·cases h
 ·cases h
theorem QV6 {t:TypeId} {x i y:AV} {v vi:Value} (hr:RM S μ w m) (h:QFb P t x i=some y) (hx:Rep S μ w x v) (hi:Rep S μ w i vi):OkV P S μ w m (Instr.index t v vi) y []:=by
 unfold QFb at h
 split at h
 ·rename_i k j
  simp only [Rep] at hi
  subst hi
  split at h
  ·rename_i n e xs htr
   split at h
   ·rename_i htk
    split at h
    ·rename_i hb
     simp only [Rep] at hx
     obtain⟨ys,rfl,h1,h2⟩:=hx
     obtain⟨v,h3,h4⟩:=QN3 h h1 h2 (.inl htk)
     refine OkV.same hr ?_ h4
     simp [Instr.index,Qz,run_underlying (QBz htr),hb,Qu htk,h3]
    ·cases h
   ·cases h
  ·rename_i s htr
   split at h
   ·rename_i hts
    split at h
    ·rename_i hb
     simp only [Option.some.injEq] at h
     subst h
     simp only [Rep] at hx
     subst hx
     have hj:j.toNat<s.size:=by omega
     have hj':s[j.toNat]?=some s[j.toNat]:=by simp [hj]
     refine OkV.same hr (v:=.int .u8 s[j.toNat].toNat) ?_ (by
      simp only [Rep]
      have:s.data.toList.getD j.toNat 0=s[j.toNat]:=by
       have hl:j.toNat<s.data.toList.length:=by simpa using hj
       rw [List.getD_eq_getElem?_getD,List.getElem?_eq_getElem hl]
       simp [ByteArray.getElem_eq_getElem_data]
      rw [this])
     simp [Instr.index,Qz,run_underlying (QBT hts),hb.1,hj']
    ·cases h
   ·cases h
  ·cases h
 ·cases h
theorem QDm {n cap l h:Nat} {lo hi:Option AV} {vlo vhi:Option Value} (isS:Bool) (hb:bnds n lo hi=some (l,h)) (hcap:n≤cap) (hlo:∀x,lo=some x→∃v,vlo=some v∧Rep S μ w x v) (hlo':lo=none→vlo=none)
  (hhi:∀x,hi=some x→∃v,vhi=some v∧Rep S μ w x v) (hhi':hi=none→vhi=none):(Instr.sliceBounds isS n cap vlo vhi none).run P w=.ok (l,h,cap) w∧l≤h∧h≤n:=by
 unfold bnds at hb
 simp only [Option.bind_eq_some_iff] at hb
 obtain⟨h',e1,hb⟩:=hb
 have hH:h'≤n∧(match vhi with | some v=>Instr.sliceBound v cap (if isS then .sliceAcap else .sliceAlen) | none=>pure n).run P w=.ok h' w:=by
  unfold bhi at e1
  split at e1
  ·simp only [Option.some.injEq] at e1
   rw [hhi' rfl,←e1]
   exact⟨Nat.le_refl _,rfl⟩
  ·rename_i k q
   obtain⟨v,rfl,hx⟩:=hhi _ rfl
   simp only [Rep] at hx
   subst hx
   split at e1
   ·rename_i hq
    simp only [Option.some.injEq] at e1
    subst e1
    refine⟨by omega,?_⟩
    simp only [Instr.sliceBound,Sem.run_bind,Qz,Result.andThen_ok]
    rw [if_pos (by omega)]
    rfl
   ·cases e1
  ·cases e1
 obtain⟨e2,e3⟩:=hH
 unfold blo at hb
 split at hb
 ·simp only [Option.some.injEq,Prod.mk.injEq] at hb
  obtain⟨rfl,rfl⟩:=hb
  rw [hlo' rfl]
  refine⟨?_,Nat.zero_le _,e2⟩
  cases vhi with
  | none=>simp only at e3 ⊢;simp [Instr.sliceBounds] at e3 ⊢;exact e3
  | some v=>simp only at e3;simp [Instr.sliceBounds,e3]
 ·rename_i k q
  obtain⟨v,rfl,hx⟩:=hlo _ rfl
  simp only [Rep] at hx
  subst hx
  split at hb
  ·rename_i hq
   simp only [Option.some.injEq,Prod.mk.injEq] at hb
   obtain⟨rfl,rfl⟩:=hb
   refine⟨?_,by omega,e2⟩
   have hlow:(Instr.sliceBound (.int k q) h' .sliceB).run P w=.ok q.toNat w:=by
    simp only [Instr.sliceBound,Sem.run_bind,Qz,Result.andThen_ok]
    rw [if_pos hq];rfl
   cases vhi with
   | none=>simp only at e3;simp at e3;subst e3;simp [Instr.sliceBounds,hlow]
   | some v=>simp only at e3;simp [Instr.sliceBounds,e3,hlow]
  ·cases hb
 ·cases hb
theorem QWq {t:TypeId} {x y:AV} {lo hi:Option AV} {v:Value} {vlo vhi:Option Value} (hr:RM S μ w m) (h:QBk P m.find t x lo hi=some y) (hx:Rep S μ w x v) (hlo:∀x,lo=some x→∃v,vlo=some v∧Rep S μ w x v) (hlo':lo=none→vlo=none)
  (hhi:∀x,hi=some x→∃v,vhi=some v∧Rep S μ w x v) (hhi':hi=none→vhi=none):OkV P S μ w m (Instr.sliceAt t v vlo vhi none) y []:=by
 unfold QBk at h
 split at h
 ·rename_i s
  split at h
  ·rename_i hts
   simp only [Option.map_eq_some_iff] at h
   obtain⟨⟨l,k⟩,hb,rfl⟩:=h
   simp only [Rep] at hx
   subst hx
   obtain⟨h1,_,_⟩:=QDm (P:=P) false hb (Nat.le_refl _) hlo hlo' hhi hhi'
   have hu:=QBT hts
   refine OkV.same hr (v:=.string (s.extract l k)) ?_ (by simp [Rep])
   simp [Instr.sliceAt,Instr.slice,run_underlying hu,h1]
  ·cases h
 ·split at h
  ·rename_i e ht
   split at h
   ·rename_i htk
    simp only [Option.map_eq_some_iff] at h
    obtain⟨⟨l,k⟩,hb,rfl⟩:=h
    simp only [Rep] at hx
    subst hx
    obtain⟨h1,h2,h3⟩:=QDm (P:=P) true hb (Nat.le_refl _) hlo hlo' hhi hhi'
    have hk:k=0:=by omega
    have hl:l=0:=by omega
    subst hk;subst hl
    have hu:=Qi ht
    refine OkV.same hr (v:=.slice none 0 0) ?_ (by simp [Rep])
    simp [Instr.sliceAt,Instr.slice,run_underlying hu,h1,Qu htk]
   ·cases h
  ·cases h
 ·rename_i n z xs
  split at h
  ·rename_i e ht
   split at h
   ·rename_i hz
    obtain⟨rfl,htk⟩:=hz
    simp only [Option.map_eq_some_iff] at h
    obtain⟨⟨l,k⟩,hb,rfl⟩:=h
    simp only [Rep] at hx
    obtain⟨base,cap,rfl,hn,hlen,hc⟩:=hx
    obtain⟨h1,h2,h3⟩:=QDm (P:=P) true hb hn hlo hlo' hhi hhi'
    have hu:=Qi ht
    have hlz:l*tsz P e+(k - l)*tsz P e≤n*tsz P e:=by
     rw [←Nat.add_mul];exact Nat.mul_le_mul_right _ (by omega)
    refine OkV.same hr (v:=.slice (if cap=l then base else base.map (·.add (l*tsz P e))) (k - l) (cap - l)) ?_ ?_
    ·simp [Instr.sliceAt,Instr.slice,run_underlying hu,h1,Qu htk]
    ·simp only [Rep]
     refine⟨_,_,rfl,by omega,by simp [hlen];omega,?_⟩
     rcases hc with hc | ⟨b,off,rfl,hc⟩
     ·left;omega
     ·by_cases hcl:cap=l
      ·left;omega
      ·right
       rw [if_neg hcl]
       exact⟨b,off+l*tsz P e,by simp [Q9],(hc.drop _).take _⟩
   ·cases h
  ·cases h
 ·rename_i o off n z
  split at h
  ·rename_i e ht
   split at h
   ·rename_i hz
    obtain⟨rfl,htk⟩:=hz
    simp only [Option.map_eq_some_iff] at h
    obtain⟨⟨l,k⟩,hb,rfl⟩:=h
    simp only [Rep] at hx
    obtain⟨base,cap,rfl,hn,hc⟩:=hx
    obtain⟨h1,h2,h3⟩:=QDm (P:=P) true hb hn hlo hlo' hhi hhi'
    have hu:=Qi ht
    refine OkV.same hr (v:=.slice (if cap=l then base else base.map (·.add (l*tsz P e))) (k - l) (cap - l)) ?_ ?_
    ·simp [Instr.sliceAt,Instr.slice,run_underlying hu,h1,Qu htk]
    ·simp only [Rep]
     refine⟨_,_,rfl,by omega,?_⟩
     rcases hc with hc | ⟨b,bo,hμ,rfl,hc⟩
     ·left;omega
     ·by_cases hcl:cap=l
      ·left;omega
      ·right
       rw [if_neg hcl]
       refine⟨b,bo,hμ,by simp [Q9,Nat.add_assoc],?_⟩
       have:l*tsz P e+(cap - l)*tsz P e=cap*tsz P e:=by rw [←Nat.add_mul];congr 1;omega
       omega
   ·cases h
  ·cases h
 ·rename_i o off
  split at h
  ·rename_i n e E ys ap htr hf
   split at h
   ·rename_i hz
    obtain⟨htk,hle⟩:=hz
    simp only [Option.map_eq_some_iff] at h
    obtain⟨⟨l,k⟩,hb,rfl⟩:=h
    simp only [Rep] at hx
    obtain⟨b,bo,hμ,rfl⟩:=hx
    obtain⟨h1,h2,h3⟩:=QDm (P:=P) false hb (Nat.le_refl _) hlo hlo' hhi hhi'
    have hu:=QBz htr
    obtain⟨zs,c,fz,g1,g2,g3,g4,g5,g6,g7⟩:=QDO hr hf hμ
    have hlen:=g3.length
    refine OkV.same hr (v:=.slice (some (if n=l then ⟨b,bo+off,none⟩ else (⟨b,bo+off,none⟩:Addr).add (l*tsz P e))) (k - l) (n - l)) ?_ ?_
    ·simp [Instr.sliceAt,Instr.sureAddr,run_underlying hu,h1,Qu htk]
    ·simp only [Rep]
     refine⟨_,_,rfl,by omega,?_⟩
     by_cases hcl:n=l
     ·left;omega
     ·right
      rw [if_neg hcl]
      refine⟨b,bo,hμ,by simp [Q9,Nat.add_assoc],?_⟩
      have:l*tsz P e+(n - l)*tsz P e=n*tsz P e:=by rw [←Nat.add_mul];congr 1;omega
      simp only [Qw,g1]
      omega
   ·cases h
  ·cases h
 ·rename_i xs
  split at h
  ·rename_i n e htr
   split at h
   ·rename_i hz
    obtain⟨htk,hle⟩:=hz
    simp only [Option.map_eq_some_iff] at h
    obtain⟨⟨l,k⟩,hb,rfl⟩:=h
    simp only [Rep] at hx
    obtain⟨b,off,rfl,hc⟩:=hx
    obtain⟨h1,h2,h3⟩:=QDm (P:=P) false hb (Nat.le_refl _) hlo hlo' hhi hhi'
    have hu:=QBz htr
    have hlz:l*tsz P e+(k - l)*tsz P e≤n*tsz P e:=by
     rw [←Nat.add_mul];exact Nat.mul_le_mul_right _ (by omega)
    refine OkV.same hr (v:=.slice (some (if n=l then ⟨b,off,none⟩ else (⟨b,off,none⟩:Addr).add (l*tsz P e))) (k - l) (n - l)) ?_ ?_
    ·simp [Instr.sliceAt,Instr.sureAddr,run_underlying hu,h1,Qu htk]
    ·simp only [Rep]
     refine⟨_,_,rfl,by omega,by simp;omega,?_⟩
     by_cases hcl:n=l
     ·left;omega
     ·right
      rw [if_neg hcl]
      exact⟨b,off+l*tsz P e,by simp [Q9],(hc.drop _).take _⟩
   ·cases h
  ·cases h
 ·cases h
variable {P : Program} {γ : GTab} {S : Nat → Nat → Prop} {μ μ' : Nat → Option (Nat × Nat)} {w w' : World} {m : Mem} {env : List (Nat × AV)} {a : Act}
theorem QCT {sz n:Nat} {x:AV} {v:Value} {xs:List AV} (hr:RM S μ w m) (h:srcS m.find sz x=some (n,xs)) (hx:Rep S μ w x v):
  (∀w2:World,(Builtin.lenOf v).run P w2=.ok n w2)∧∃ys:List Value,(∀w2:World,(∀p,w2.cell? p=w.cell? p)→(Builtin.firstCells sz n v).run P w2=.ok ys.toArray w2)∧(∀k,k≤n→∀w2:World,(∀p,w2.cell? p=w.cell? p)→(Builtin.firstCells sz k v).run P w2=.ok (ys.take (k*sz)).toArray w2)∧RepL S μ w xs ys∧(∀u∈ys,u.oneCell'=true)∧ys.length=n*sz:=by
 have slice_of:∀{a0:Option Addr} {cap:Nat} {ys:List Value} {b off:Nat},(n=0∨a0=some ⟨b,off,none⟩)→ys.length=n*sz→(∀j u,ys[j]?=some u→w.cell? ⟨b,off+j,none⟩=some u)→
   (∀w2:World,(Builtin.lenOf (.slice a0 n cap)).run P w2=.ok n w2)∧(∀k,k≤n→∀w2:World,(∀p,w2.cell? p=w.cell? p)→(Builtin.firstCells sz k (.slice a0 n cap)).run P w2=.ok (ys.take (k*sz)).toArray w2):=by
  intro a0 cap ys b off ha hl hc
  refine⟨fun _=>rfl,fun k hk w2 hw2=>?_⟩
  rcases ha with h0 | ha
  ·subst h0
   have hk0:k=0:=by omega
   have hys:ys=[]:=List.eq_nil_of_length_eq_zero (by simpa using hl)
   subst hk0;subst hys
   cases a0 with
   | none=>simp [Builtin.firstCells]
   | some a=>simp [Builtin.firstCells,loadCells,loadCellsFrom]
  ·subst ha
   have hkl:(ys.take (k*sz)).length=k*sz:=by
    rw [List.length_take,hl];exact Nat.min_eq_left (Nat.mul_le_mul_right _ hk)
   have:=run_loadCells_list (P:=P) (w:=w2) ⟨b,off,none⟩ (ys.take (k*sz)) (fun j u hu=>by
    rw [Q9,hw2]
    rw [List.getElem?_take] at hu
    split at hu
    ·exact hc j u hu
    ·cases hu)
   rw [hkl] at this
   simpa [Builtin.firstCells] using this
 have full:∀{ys:List Value},ys.length=n*sz→(∀k,k≤n→∀w2:World,(∀p,w2.cell? p=w.cell? p)→(Builtin.firstCells sz k v).run P w2=.ok (ys.take (k*sz)).toArray w2)→∀w2:World,(∀p,w2.cell? p=w.cell? p)→(Builtin.firstCells sz n v).run P w2=.ok ys.toArray w2:=by
  intro ys hl h w2 hw2
  have:=h n (Nat.le_refl _) w2 hw2
  rwa [List.take_of_length_le (by omega)] at this
 unfold srcS at h
 split at h
 ·rename_i s
  split at h
  ·rename_i hsz
   subst hsz
   simp only [Option.some.injEq,Prod.mk.injEq] at h
   obtain⟨rfl,rfl⟩:=h
   simp only [Rep] at hx
   subst hx
   refine⟨fun _=>rfl,s.data.toList.map (fun b=>Value.int .u8 b.toNat),?_,?_,?_,by simp [Value.oneCell'],by simp⟩
   ·intro w2 _
    simp only [Builtin.firstCells,Sem.run_pure]
    congr 1
    apply Array.ext'
    simp
   ·intro k hk w2 _
    simp only [Builtin.firstCells,Sem.run_pure]
    congr 1
    apply Array.ext'
    simp [List.map_take]
   ·have:QC3 s.data.toList=(s.data.toList.map (fun b=>Value.int .u8 b.toNat)).map .v:=by simp [QC3]
    rw [this];exact RepL.of_vals _
  ·cases h
 ·simp only [Option.some.injEq,Prod.mk.injEq] at h
  obtain⟨rfl,rfl⟩:=h
  simp only [Rep] at hx
  subst hx
  exact⟨fun _=>rfl,[],fun _ _=>rfl,fun k hk _ _=>by simp [Builtin.firstCells],by simp [RepL],by simp,by simp⟩
 ·rename_i n' z xs'
  split at h
  ·rename_i hz
   subst hz
   simp only [Option.some.injEq,Prod.mk.injEq] at h
   obtain⟨rfl,rfl⟩:=h
   simp only [Rep] at hx
   obtain⟨base,cap,rfl,hn,hl,hc⟩:=hx
   rcases hc with hc | ⟨b,off,rfl,hc⟩
   ·subst hc
    have:xs'=[]:=List.eq_nil_of_length_eq_zero (by simpa using hl)
    subst this
    obtain⟨h1,h2⟩:=slice_of (a0:=base) (cap:=cap) (ys:=[]) (b:=0) (off:=0) (.inl rfl) (by simp) (by simp)
    exact⟨h1,[],full (by simp) h2,h2,by simp [RepL],by simp,by simp⟩
   ·obtain⟨ys,h1,h2,h3⟩:=hc.list
    have hlen:ys.length=n'*z:=by rw [h1.length,hl]
    obtain⟨h4,h5⟩:=slice_of (a0:=some ⟨b,off,none⟩) (cap:=cap) (.inr rfl) hlen h3
    exact⟨h4,ys,full hlen h5,h5,h1,h2,hlen⟩
  ·cases h
 ·rename_i o off n' z
  split at h
  ·rename_i hz
   subst hz
   simp only [Rep] at hx
   obtain⟨base,cap,rfl,hn,hc⟩:=hx
   simp only [rdS] at h
   have fin:∀{b bo:Nat} {xs0:List AV} {ys0:List Value},(cap=0∨base=some ⟨b,bo+off,none⟩)→RepL S μ w xs0 ys0→(∀u∈ys0,u.oneCell'=true)→(∀j u,ys0[j]?=some u→w.cell? ⟨b,bo+j,none⟩=some u)→off+n'*z≤xs0.length→
     n'=n→(xs0.drop off).take (n'*z)=xs→(∀w2:World,(Builtin.lenOf (.slice base n' cap)).run P w2=.ok n w2)∧∃ys:List Value,(∀w2:World,(∀p,w2.cell? p=w.cell? p)→(Builtin.firstCells z n (.slice base n' cap)).run P w2=.ok ys.toArray w2)∧(∀k,k≤n→∀w2:World,(∀p,w2.cell? p=w.cell? p)→(Builtin.firstCells z k (.slice base n' cap)).run P w2=.ok (ys.take (k*z)).toArray w2)∧RepL S μ w xs ys∧(∀u∈ys,u.oneCell'=true)∧ys.length=n*z:=by
    intro b bo xs0 ys0 hb h1 h2 h3 hle hn' hxs
    subst hn';subst hxs
    have hlen:((ys0.drop off).take (n'*z)).length=n'*z:=by have:=h1.length;simp;omega
    obtain⟨h4,h5⟩:=slice_of (a0:=base) (cap:=cap) (ys:=(ys0.drop off).take (n'*z)) (b:=b) (off:=bo+off) (by
     rcases hb with hb | hb
     ·left;omega
     ·right;exact hb) hlen (fun j u hu=>by
     rw [List.getElem?_take] at hu
     split at hu
     ·rw [List.getElem?_drop] at hu
      rw [Nat.add_assoc]
      exact h3 _ _ hu
     ·cases hu)
    exact⟨h4,_,full hlen h5,h5,(h1.drop _).take _,fun u hu=>h2 u (List.mem_of_mem_drop (List.mem_of_mem_take hu)),hlen⟩
   have nilc:cap=0→(off+n'*z≤0∨True):=fun _=>.inr trivial
   split at h
   ·rename_i E ys ap hf
    split at h
    ·rename_i hle
     simp only [Option.some.injEq,Prod.mk.injEq] at h
     obtain⟨rfl,h⟩:=h
     rcases hc with hc | ⟨b,bo,hμ,rfl,hc⟩
     ·have hn0:n'=0:=by omega
      have hxs:xs=[]:=by rw [←h,hn0];simp
      subst hn0;subst hxs
      obtain⟨h1,h2⟩:=slice_of (a0:=base) (cap:=cap) (ys:=[]) (b:=0) (off:=0) (.inl rfl) (by simp) (by simp)
      exact⟨h1,[],full (by simp) h2,h2,by simp [RepL],by simp,by simp⟩
     ·obtain⟨zs,h1,h2,h3⟩:=QB9 hr hf hμ
      exact fin (.inr rfl) h1 h2 h3 hle rfl h
    ·cases h
   ·rename_i ys hf
    split at h
    ·rename_i hle
     simp only [Option.some.injEq,Prod.mk.injEq] at h
     obtain⟨rfl,h⟩:=h
     rcases hc with hc | ⟨b,bo,hμ,rfl,hc⟩
     ·have hn0:n'=0:=by omega
      have hxs:xs=[]:=by rw [←h,hn0];simp
      subst hn0;subst hxs
      obtain⟨h1,h2⟩:=slice_of (a0:=base) (cap:=cap) (ys:=[]) (b:=0) (off:=0) (.inl rfl) (by simp) (by simp)
      exact⟨h1,[],full (by simp) h2,h2,by simp [RepL],by simp,by simp⟩
     ·obtain⟨zs,h1,h2,h3⟩:=QDE hr hf hμ
      exact fin (.inr rfl) h1 h2 h3 hle rfl h
    ·cases h
   ·cases h
  ·cases h
 ·cases h
theorem QFY {t:TypeId} (h:QAS P t=some false):∃d,P.underlying t=some d∧∀k,d≠.int k:=by
 unfold QAS at h
 cases hu:P.underlying t with
 | none=>simp [hu] at h
 | some d=>refine⟨d,rfl,fun k e=>?_⟩;subst e;simp [hu] at h
theorem QLv (need:Nat):∀(r c:Nat),c≤need+(need+768) / 4→Builtin.growBy need r c≤need+(need+768) / 4
 | 0,c,h=>by simpa [Builtin.growBy] using h
 | r+1,c,h=>by
  simp only [Builtin.growBy]
  split
  ·exact h
  ·exact QLv need r _ (by omega)
theorem QDJ {need old:Nat} (h:old<need):Builtin.nextslicecap need old≤2*need+192:=by
 unfold Builtin.nextslicecap
 split
 ·omega
 ·split
  ·omega
  ·have:=QLv need 4 old (by omega)
   omega
variable {P : Program} {γ : GTab} {S : Nat → Nat → Prop} {μ μ' : Nat → Option (Nat × Nat)} {w w' : World} {m : Mem} {env : List (Nat × AV)} {a : Act}
theorem After.dead {u:Upd} (h:After S μ w m u μ' w') {o:Nat} (ho:m.find o≠none):After S μ w m ((o,.dead)::u) μ' w':=by
 have hfd:∀x,(m.upd ((o,.dead)::u)).find x=if o=x then some .dead else (m.upd u).find x:=fun x=>by
  simp only [Mem.find,Mem.upd,List.cons_append,lk]
 have hlt:o<m.next:=by
  cases hf:(m.upd u).find o with
  | some ob=>exact (h.rm.obj o ob hf).1
  | none=>
   rw [QAQ] at hf
   cases hl:lk u o with
   | some x=>rw [hl] at hf;cases hf
   | none=>rw [hl] at hf;exact absurd hf ho
 have hown:∀b,Q6 (m.upd ((o,.dead)::u)) μ' b→Q6 (m.upd u) μ' b:=by
  rintro b (⟨x,ob,bo,h1,h2,h3⟩ | ⟨x,b0,code,h1,h2,h3⟩)
  ·rw [hfd] at h1
   split at h1
   ·simp only [Option.some.injEq] at h1;subst h1;simp [AObj.own] at h2
   ·exact .inl ⟨x,ob,bo,h1,h2,h3⟩
  ·rw [hfd] at h1
   split at h1
   ·simp at h1
   ·exact .inr ⟨x,b0,code,h1,h2,h3⟩
 refine⟨⟨fun x ob hx=>?_,fun x y ob ob' hx hy h1 h2 hne=>?_,h.rm.old,h.rm.fr,fun x h1 h2 h3=>?_,h.rm.le,h.rm.bk⟩,h.keep,⟨h.ext.os,h.ext.tape,h.ext.output,h.ext.size,h.ext.ids,fun x hx hf=>?_,h.ext.next,h.ext.sub,h.ext.new,h.ext.cell,h.ext.map,fun b hb hn=>⟨(h.ext.blk b hb hn).1,fun hh=>(h.ext.blk b hb hn).2 (hown b hh)⟩,h.ext.bsz,h.ext.uf⟩⟩
 ·rw [hfd] at hx
  split at hx
  ·rename_i e;subst e;simp only [Option.some.injEq] at hx;subst hx;exact⟨hlt,by simp [RepO]⟩
  ·exact h.rm.obj x ob hx
 ·rw [hfd] at hx hy
  split at hx
  ·simp only [Option.some.injEq] at hx;subst hx;simp [AObj.own] at h1
  ·split at hy
   ·simp only [Option.some.injEq] at hy;subst hy;simp [AObj.own] at h2
   ·exact h.rm.inj x y ob ob' hx hy h1 h2 hne
 ·rw [hfd]
  split
  ·simp
  ·exact h.rm.win x h1 h2 h3
 ·rw [hfd] at hf
  split at hf
  ·rename_i e;subst e;exact ho
  ·exact h.ext.objs x hx hf
theorem After.retake (hr:RM S μ w m) {o b bo bo' fresh:Nat} {ob ob':AObj} (hf:m.find o=some ob) (hown:ob.own=true) (hμ:μ o=some (b,bo))
  (hf0:m.base≤fresh) (hf1:fresh<m.base+m.wid) (hf2:m.find fresh=none)
  (hheap:∀k,k≠b→w'.heap[k]?=w.heap[k]?) (hsz:w'.heap.size=w.heap.size) (hbs:Qw w' b=Qw w b) (hos:w'.os=w.os) (htp:QCX w w') (hout:w'.output=w.output) (hS:∀off,¬S b off)
  (hob:∀μ',Keeps S μ w S μ' w'→μ' fresh=some (b,bo')→RepO S μ' w' fresh ob') (hub:Uf w b→Uf w' b) (hnb:ob'≠.bag:=by intro h;cases h):
  ∃μ',After S μ w m [(o,.dead),(fresh,ob')] μ' w'∧μ' fresh=some (b,bo'):=by
 have hne:o≠fresh:=fun e=>by subst e;rw [hf] at hf2;cases hf2
 have hfn:μ fresh=none:=by
  rcases Classical.em (μ fresh=none) with e | e
  ·exact e
  ·exact absurd hf2 (hr.win fresh hf0 hf1 e)
 have huf:∀b,Uf w b→Uf w' b:=fun k hu=>by
  by_cases e:k=b
  ·subst e;exact hub hu
  ·exact QBB (hheap k e) hu
 refine⟨fun x=>if x=fresh then some (b,bo') else μ x,?_,by simp⟩
 have hk:Keeps S μ w S (fun x=>if x=fresh then some (b,bo') else μ x) w':=
  ⟨fun x hx=>by
   by_cases e:x=fresh
   ·subst e;exact absurd hfn hx
   ·simp [e],fun _ _ h=>h,fun b' off hs=>QAJ (hheap b' (fun e=>by subst e;exact hS off hs)),fun b' off es clock hs h=>by rw [hheap b' (fun e=>by subst e;exact hS off hs)];exact h,fun b'=>by
   by_cases e:b'=b
   ·subst e;rw [hbs];exact Nat.le_refl _
   ·rw [QAx (hheap b' e)];exact Nat.le_refl _,by omega,fun b _=>huf b⟩
 have hlk:∀x,lk [(o,AObj.dead),(fresh,ob')] x=if o=x then some .dead else if fresh=x then some ob' else none:=fun x=>by simp [lk]
 have hfd:∀x,(m.upd [(o,.dead),(fresh,ob')]).find x=if o=x then some .dead else if fresh=x then some ob' else m.find x:=fun x=>by
  simp only [Mem.find,Mem.upd,List.cons_append,List.nil_append,lk]
 have hrm:RM S (fun x=>if x=fresh then some (b,bo') else μ x) w' (m.upd [(o,.dead),(fresh,ob')]):=by
  refine hr.step hk _ (by omega) (fun x ob1 b1 bo1 h ho hl hb=>hheap b1 (fun e=>?_)) (fun x ob1 hl=>?_) (fun x ob1 hl ho x' ob2 hf' ho' hne' b1 i j hb e=>?_) (fun x hx=>?_) (fun x b1 bo1 hb hn=>?_) (fun q b1 bo1 hq=>.inl (by
   by_cases e:q=fresh
   ·simp only [e,if_true,Option.some.injEq,Prod.mk.injEq] at hq;exact⟨o,bo,by rw [←hq.1];exact hμ⟩
   ·simp only [e,if_false] at hq;exact⟨q,bo1,hq⟩))
  ·subst e
   rw [hlk] at hl
   split at hl
   ·cases hl
   ·rename_i h0
    exact hr.inj o x ob ob1 hf h hown ho h0 b1 bo bo1 hμ hb
  ·rw [hlk] at hl
   split at hl
   ·rename_i e;subst e;simp only [Option.some.injEq] at hl;subst hl;exact⟨(hr.obj _ _ hf).1,by simp [RepO]⟩
   ·split at hl
    ·rename_i e;subst e;simp only [Option.some.injEq] at hl;subst hl
     exact⟨by have:=hr.le;omega,hob _ hk (by simp)⟩
    ·cases hl
  ·rw [hlk] at hl
   split at hl
   ·simp only [Option.some.injEq] at hl;subst hl;simp [AObj.own] at ho
   ·split at hl
    ·rename_i e1 e2;subst e2
     simp only [if_true,Option.some.injEq,Prod.mk.injEq] at hb
     obtain⟨rfl,rfl⟩:=hb
     simp only [if_neg (Ne.symm hne')] at e
     rw [hfd] at hf'
     split at hf'
     ·simp only [Option.some.injEq] at hf';subst hf';simp [AObj.own] at ho'
     ·rename_i h0
      exact hr.inj o x' ob ob2 hf hf' hown ho' h0 b bo j hμ e
    ·cases hl
  ·by_cases e:x=fresh
   ·right;rw [hlk];split
    ·simp
    ·simp [e]
   ·left;simpa [e] using hx
  ·by_cases e:x=fresh
   ·simp [e] at hb;rw [←hb.1];have:=hr.bk o b bo hμ;omega
   ·simp [e] at hb;rw [hn] at hb;cases hb
 refine⟨hrm,hk,⟨hos,htp,hout,by omega,fun x hx=>by simp [show x≠fresh by omega],fun x hx hf'=>?_,by have:=hr.le;show m.base≤m.next;omega,hk.sub,fun _ _ _ h=>.inl h,hk.cell,hk.map,fun b' hb hno=>⟨hheap b' (fun e=>hno (by subst e;exact .inl ⟨o,ob,bo,hf,hown,hμ⟩)),?_⟩,hk.bsz,fun b _=>huf b⟩⟩
 ·rw [hfd] at hf'
  split at hf'
  ·rename_i e;subst e;rw [hf];simp
  ·rw [if_neg (by omega)] at hf';exact hf'
 ·rintro(⟨x,ob1,bo1,h1,h2,h3⟩ | ⟨x,b0,code,h1,h2,h3⟩)
  ·rw [hfd] at h1
   split at h1
   ·simp only [Option.some.injEq] at h1;subst h1;simp [AObj.own] at h2
   ·split at h1
    ·rename_i e;subst e
     simp only [if_true,Option.some.injEq,Prod.mk.injEq] at h3
     exact hno (by rw [←h3.1];exact .inl ⟨o,ob,bo,hf,hown,hμ⟩)
    ·rename_i h0 h4
     simp only [if_neg (Ne.symm h4)] at h3
     exact hno (.inl ⟨x,ob1,bo1,h1,h2,h3⟩)
  ·rw [hfd] at h1
   split at h1
   ·simp at h1
   ·split at h1
    ·simp only [Option.some.injEq] at h1;exact hnb h1
    ·rename_i h0 h4
     simp only [if_neg (Ne.symm h4)] at h2
     exact hno (.inr ⟨x,b0,code,h1,h2,h3⟩)
theorem After.nil (hr:RM S μ w m) {fresh:Nat} (hf0:m.base≤fresh) (hf1:fresh<m.base+m.wid) (hf2:m.find fresh=none) (E:TypeId) (ap:Bool):After S μ w m [(fresh,.cells E [] ap)] μ w:=by
 have hfn:μ fresh=none:=by
  rcases Classical.em (μ fresh=none) with e | e
  ·exact e
  ·exact absurd hf2 (hr.win fresh hf0 hf1 e)
 have hk:=Keeps.refl S μ w
 refine⟨hr.step hk _ (Nat.le_refl _) (fun _ _ _ _ _ _ _ _=>rfl) (fun x ob hl=>?_) (fun x ob hl ho x' ob' hf' ho' hne b i j hb e=>?_) (fun _ h=>.inl h) (fun x b bo hb hn=>by rw [hn] at hb;cases hb) (fun q b bo hq=>.inl ⟨q,bo,hq⟩),hk,⟨rfl,⟨rfl,Nat.le_refl _⟩,rfl,Nat.le_refl _,fun _ _=>rfl,fun x hx hf=>?_,by have:=hr.le;show m.base≤m.next;omega,fun _ _ h=>h,fun _ _ _ h=>.inl h,fun _ _ _=>rfl,fun _ _ _ _ _ h=>h,fun b hb hn=>⟨rfl,?_⟩,fun _=>Nat.le_refl _,fun _ _ h=>h⟩⟩
 ·simp only [lk] at hl
  split at hl
  ·rename_i e;subst e;simp only [Option.some.injEq] at hl;subst hl
   exact⟨by have:=hr.le;omega,by simp only [RepO];exact .inl ⟨hfn,trivial⟩⟩
  ·cases hl
 ·simp only [lk] at hl
  split at hl
  ·rename_i e0;subst e0;rw [hfn] at hb;cases hb
  ·cases hl
 ·rw [QP,if_neg (by omega)] at hf;exact hf
 ·rintro(⟨x,ob,bo,h1,h2,h3⟩ | ⟨x,b0,code,h1,h2,h3⟩)
  ·by_cases e:fresh=x
   ·subst e;rw [hfn] at h3;cases h3
   ·rw [QP,if_neg e] at h1;exact hn (.inl ⟨x,ob,bo,h1,h2,h3⟩)
  ·by_cases e:fresh=x
   ·subst e;rw [hfn] at h2;cases h2
   ·rw [QP,if_neg e] at h1;exact hn (.inr ⟨x,b0,code,h1,h2,h3⟩)
theorem QDF (z:Array Value) (n:Nat):(Builtin.zeroCells z n).size=n*z.size:=by simp [Builtin.zeroCells]
theorem QCO {sT xT ty e:TypeId} {base:Option Addr} {n0 cap n:Nat} {x z:Value} {old new:List Value} (ht:Qd P sT=some e) (hx:QAS P xT=some false) (htk:tok P e=true) (hz:zval P e=some z)
  (hpos:0<tby P e) (hby:tby P e≤1048576) (hsmall:(n0+n)*tby P e≤70368744177664) (hcap:cap<n0+n) (hl:(Builtin.lenOf x).run P w=.ok n w)
  (hold:∀d:Nat,(Builtin.firstCells (tsz P e) n0 (.slice base n0 cap)).run P { w with drawn:=d }=.ok old.toArray { w with drawn:=d })
  (hnew:∀d:Nat,(Builtin.firstCells (tsz P e) n x).run P { w with drawn:=d }=.ok new.toArray { w with drawn:=d }):
  ∃(cap':Nat) (rest:Array Value),n0+n≤cap'∧rest.size=(cap' - (n0+n))*z.cells.size∧(Builtin.append_ #[sT,xT] ty #[.slice base n0 cap,x]).run P w=
   .ok (.slice (some ⟨w.heap.size,0,none⟩) (n0+n) cap') { w with heap:=w.heap.push (.cells (old.toArray++new.toArray++rest) e),drawn:=w.drawn+1 }:=by
 obtain⟨d,hd,hdn⟩:=QFY hx
 obtain⟨i,hi,his,hib⟩:=QGB htk
 have hlenE:∀w:World,(typeInfo e).run P w=.ok i w:=QAR hi
 have hcapb:Builtin.nextslicecap (n0+n) cap*i.bytes≤281474976710656:=by
  rw [hib]
  have h1:=QDJ hcap
  have h2:Builtin.nextslicecap (n0+n) cap*tby P e≤(2*(n0+n)+192)*tby P e:=Nat.mul_le_mul_right _ h1
  have h3:(2*(n0+n)+192)*tby P e=2*((n0+n)*tby P e)+192*tby P e:=by rw [Nat.add_mul,Nat.mul_assoc]
  omega
 have hneed:n0+n≤70368744177664:=Nat.le_trans (Nat.le_mul_of_pos_right _ hpos) hsmall
 have hzeros:∀w:World,(do pure ((← underlying xT) matches .int _):Sem Bool).run P w=.ok false w:=by
  intro w
  rw [Sem.run_bind,run_underlying hd]
  cases d<;>first | rfl | exact absurd rfl (hdn _)
 have hq:n0+n≤(Question.appendCap (n0+n) cap e).cut (w.tape w.drawn (.appendCap (n0+n) cap e)):=by simp [Question.cut]
 refine⟨_,Builtin.zeroCells z.cells ((Question.appendCap (n0+n) cap e).cut (w.tape w.drawn (.appendCap (n0+n) cap e)) - (n0+n)),hq,QDF _ _,?_⟩
 have hnz:¬((n0+n:Nat):Int)>IntKind.i64.max∨True:=.inr trivial
 have hforced:(Question.appendCap (n0+n) cap e).forced=false:=rfl
 have hb1:¬(i.bytes=0):=by omega
 have hgt:¬(Builtin.nextslicecap (n0+n) cap*i.bytes>2^48):=by omega
 have hneedle:¬(n0+n≤cap):=by omega
 unfold Builtin.append_
 cases d
 case int k=>exact absurd rfl (hdn k)
 all_goals
  simp only [List.getElem?_toArray,List.getElem?_cons_zero,List.getElem?_cons_succ,Sem.run_bind,run_underlying (Qi ht),run_underlying hd,Result.andThen_ok,Qu htk,Bool.false_eq_true,if_false,hl,Sem.run_pure,Sem.run_ite,hneedle,hlenE,hb1,or_self,and_false,hgt,run_choose,hforced,run_askRoom,hold,hnew,Bool.not_false,if_true,QBt hz,QB4]
variable {P : Program} {γ : GTab} {S : Nat → Nat → Prop} {μ μ' : Nat → Option (Nat × Nat)} {w w' : World} {m : Mem} {env : List (Nat × AV)} {a : Act}
theorem RM.drew (hr:RM S μ w m) (d:Nat):RM S μ { w with drawn:=d } m:=by
 exact⟨fun o ob h=>by
   have:=hr.obj o ob h
   exact⟨this.1,@RepO.keep S μ μ w { w with drawn:=d } ⟨fun _ _=>rfl,fun _ _ h=>h,fun _ _ _=>rfl,fun _ _ _ _ _ h=>h,fun _=>Nat.le_refl _,Nat.le_refl _,fun _ _ h=>h⟩ o ob this.2 (fun h=>.inl h) (fun _ _ _ _=>rfl) (fun q b bo hq=>.inl ⟨q,bo,hq⟩)⟩,
  hr.inj,hr.old,hr.fr,hr.win,hr.le,hr.bk⟩
theorem Keeps.drew (S μ) (w:World) (d:Nat):Keeps S μ w S μ { w with drawn:=d }:=⟨fun _ _=>rfl,fun _ _ h=>h,fun _ _ _=>rfl,fun _ _ _ _ _ h=>h,fun _=>Nat.le_refl _,Nat.le_refl _,fun _ _ h=>h⟩
theorem QCI {old new:List Value} {rest:Array Value} (j:Nat) (hj:j<(old++new).length):(old.toArray++new.toArray++rest)[j]?=(old++new)[j]?:=by
 rw [Array.getElem?_append_left (by simpa using hj)]
 simp
theorem QBx {sT xT ty e:TypeId} {base:Option Addr} {n0 cap n:Nat} {x:Value} {new:List Value} (ht:Qd P sT=some e) (hx:QAS P xT=some false) (htk:tok P e=true)
  (hcap:n0+n≤cap) (hl:∀w2:World,(Builtin.lenOf x).run P w2=.ok n w2) (hnew:(Builtin.firstCells (tsz P e) n x).run P w=.ok new.toArray w):
  (Builtin.append_ #[sT,xT] ty #[.slice base n0 cap,x]).run P w=match base with
   | some a=>((storeCells (a.add (n0*tsz P e)) new).run P w).andThen fun _ w'=>.ok (.slice base (n0+n) cap) w'
   | none=>.ok (.slice base (n0+n) cap) w:=by
 obtain⟨d,hd,hdn⟩:=QFY hx
 unfold Builtin.append_
 cases d
 case int k=>exact absurd rfl (hdn k)
 all_goals
  simp only [List.getElem?_toArray,List.getElem?_cons_zero,List.getElem?_cons_succ,Sem.run_bind,run_underlying (Qi ht),run_underlying hd,Result.andThen_ok,Qu htk,Bool.false_eq_true,if_false,hl,Sem.run_pure,Sem.run_ite,hcap,if_true,hnew,Bool.not_false]
  cases base<;>simp
theorem QHD {e:TypeId} (h:tzok P e=true):∃z,zval P e=some z∧z.cells.size=tsz P e:=by
 unfold tzok at h
 cases hz:zval P e with
 | none=>simp [hz] at h
 | some z=>exact⟨z,rfl,by simpa [hz] using h⟩
theorem QGs {t:TypeId} (h:QAS P t=some true):∃k,P.underlying t=some (.int k):=by
 unfold QAS at h
 cases hu:P.underlying t with
 | none=>simp [hu] at h
 | some d=>rw [hu] at h;cases d<;>simp at h;exact⟨_,rfl⟩
theorem QJt {sT xT ty e:TypeId} {k:IntKind} (ht:Qd P sT=some e) (hx:QAS P xT=some true) (htk:tok P e=true):
  (Builtin.append_ #[sT,xT] ty #[.slice none 0 0,.int k 0]).run P w=.ok (.slice none 0 0) w:=by
 obtain⟨kk,hd⟩:=QGs hx
 obtain⟨i,hi,his,hib⟩:=QGB htk
 have hlenE:∀w:World,(typeInfo e).run P w=.ok i w:=QAR hi
 have hw:IntKind.i64.wrap 0=0:=by decide
 have hasI:∀w:World,(asInt (.int k 0)).run P w=.ok 0 w:=fun _=>rfl
 unfold Builtin.append_
 simp only [List.getElem?_toArray,List.getElem?_cons_zero,List.getElem?_cons_succ,Sem.run_bind,run_underlying (Qi ht),run_underlying hd,Result.andThen_ok,Qu htk,Sem.run_pure,Sem.run_ite,if_true,hasI,hw,hlenE]
 simp [Sem.run_bind]
theorem QLU {sT xT ty e:TypeId} {n:Nat} {k:IntKind} {z:Value} (ht:Qd P sT=some e) (hx:QAS P xT=some true) (htk:tok P e=true) (hz:zval P e=some z) (hzp:0<tsz P e)
  (hpos:0<tby P e) (hby:tby P e≤1048576) (hsmall:n*tby P e≤70368744177664) (h0:0<n):
  ∃(cap':Nat) (rest:Array Value),n≤cap'∧rest.size=(cap' - n)*z.cells.size∧(Builtin.append_ #[sT,xT] ty #[.slice none 0 0,.int k (n:Nat)]).run P w=
   .ok (.slice (some ⟨w.heap.size,0,none⟩) n cap') { w with heap:=w.heap.push (.cells (#[]++Builtin.zeroCells z.cells n++rest) e),drawn:=w.drawn+1 }:=by
 obtain⟨kk,hd⟩:=QGs hx
 obtain⟨i,hi,his,hib⟩:=QGB htk
 have hlenE:∀w:World,(typeInfo e).run P w=.ok i w:=QAR hi
 have hcap:0<0+n:=by omega
 have hcapb:Builtin.nextslicecap (0+n) 0*i.bytes≤281474976710656:=by
  rw [hib]
  have h1:=QDJ hcap
  have h2:Builtin.nextslicecap (0+n) 0*tby P e≤(2*(0+n)+192)*tby P e:=Nat.mul_le_mul_right _ h1
  have h3:(2*(0+n)+192)*tby P e=2*((0+n)*tby P e)+192*tby P e:=by rw [Nat.add_mul,Nat.mul_assoc]
  rw [Nat.zero_add] at h3
  rw [Nat.zero_add] at h2 ⊢
  omega
 have hneed:n≤70368744177664:=Nat.le_trans (Nat.le_mul_of_pos_right _ hpos) hsmall
 have hw:IntKind.i64.wrap (n:Int)=n:=by
  have e:IntKind.i64.wrap (n:Int)=if (decide ((n:Int) % 18446744073709551616≥9223372036854775808))=true then (n:Int) % 18446744073709551616 - 18446744073709551616 else (n:Int) % 18446744073709551616:=rfl
  rw [e]
  split<;>rename_i h<;>simp only [decide_eq_true_eq] at h<;>omega
 have hasI:∀w:World,(asInt (.int k (n:Nat))).run P w=.ok (n:Int) w:=fun _=>rfl
 have hq:0+n≤(Question.appendCap (0+n) 0 e).cut (w.tape w.drawn (.appendCap (0+n) 0 e)):=by simp [Question.cut]
 rw [Nat.zero_add] at hq hcapb
 refine⟨(Question.appendCap n 0 e).cut (w.tape w.drawn (.appendCap n 0 e)),Builtin.zeroCells z.cells ((Question.appendCap n 0 e).cut (w.tape w.drawn (.appendCap n 0 e)) - n),hq,QDF _ _,?_⟩
 have hforced:(Question.appendCap n 0 e).forced=false:=rfl
 have hb1:¬(i.bytes=0):=by omega
 have hgt:¬(Builtin.nextslicecap n 0*i.bytes>2^48):=by omega
 have hneedle:¬(n≤0):=by omega
 have hneg:¬((n:Int)<0):=by omega
 have hbig:¬((n:Int)*(i.bytes:Int)>2^48):=by
  rw [hib]
  have:((n*tby P e:Nat):Int)≤70368744177664:=by omega
  rw [Int.natCast_mul] at this
  omega
 have hmax:¬((n:Int)>IntKind.i64.max):=by
  have:IntKind.i64.max=9223372036854775807:=by decide
  rw [this];omega
 have hnz:¬(n*tsz P e=0):=by
  intro h;rcases Nat.mul_eq_zero.1 h with h | h<;>omega
 unfold Builtin.append_
 simp only [List.getElem?_toArray,List.getElem?_cons_zero,List.getElem?_cons_succ,Sem.run_bind,run_underlying (Qi ht),run_underlying hd,Result.andThen_ok,Qu htk,Sem.run_pure,Sem.run_ite,if_true,if_false,hasI,hw,hneg,hlenE,hbig,Int.toNat_natCast,hneedle,hmax,false_and,hgt,run_choose,hforced,run_askRoom,hnz,Bool.not_true,Bool.false_eq_true,QBt hz,QB4,Builtin.firstCells,Nat.zero_add]
theorem QPW {sT xT ty e:TypeId} {s x y:AV} {vs vx:Value} {u:Upd} {fresh:Nat} (hr:RM S μ w m) (hf0:m.base≤fresh) (hf1:fresh<m.base+m.wid) (hf2:m.find fresh=none) (hte:Qd P sT=some e) (hti:QAS P xT=some true)
  (h:QDD P e fresh s x=some (y,u)) (hs:Rep S μ w s vs) (hx:Rep S μ w x vx):OkV P S μ w m (Builtin.append_ #[sT,xT] ty #[vs,vx]) y u:=by
 unfold QDD at h
 split at h
 ·rename_i k n
  split at h
  ·rename_i zs hzs
   split at h
   ·rename_i hc
    obtain⟨hn,hzl,hzp,htk,hpos,hsmall,hby⟩:=hc
    simp only [Option.some.injEq,Prod.mk.injEq] at h
    obtain⟨rfl,rfl⟩:=h
    simp only [Rep] at hs hx
    subst hs;subst hx
    obtain⟨q,rfl⟩:=Int.eq_ofNat_of_zero_le hn
    simp only [Int.toNat_natCast] at hsmall ⊢
    obtain⟨z,h1,h2,h3⟩:=QFF hzs
    have hzc:z.cells.size=tsz P e:=by rw [←hzl,←h2];simp
    by_cases h0:q=0
    ·subst h0
     refine⟨.slice none 0 0,w,μ,QJt hte hti htk,by simp only [Rep];exact⟨none,0,rfl,Nat.le_refl _,.inl rfl⟩,?_⟩
     exact After.nil hr hf0 hf1 hf2 e true
    ·obtain⟨cap',rest,c1,c2,c3⟩:=QLU (w:=w) (k:=k) (ty:=ty) hte hti htk h1 hzp hpos hby hsmall (Nat.pos_of_ne_zero h0)
     have hzc2:Builtin.zeroCells z.cells q=((List.replicate q zs).flatten).toArray:=by
      have hr0:=QFJ z.cells q (by rw [hzc];exact hzp)
      rw [h2] at hr0
      exact hr0
     rw [hzc2] at c3
     obtain⟨μ',h4,h5⟩:=After.row (d:=w.drawn+1) hr hf0 hf1 hf2 e (xs:=(List.replicate q (zs.map AV.v)).flatten) (ys:=[]++(List.replicate q zs).flatten) (#[]++((List.replicate q zs).flatten).toArray++rest) (0,0) true (by rw [QEX];exact RepL.of_vals _) (by simpa using QFr q h3) (by simp) (fun j hj=>QCI j hj) (by omega)
     refine⟨_,_,μ',c3,?_,h4⟩
     simp only [Rep]
     refine⟨_,cap',rfl,c1,.inr ⟨_,0,h5,rfl,?_⟩⟩
     have hzl':zs.length=tsz P e:=hzl
     rw [hzc] at c2
     simp only [Qw,Array.getElem?_push_size,Array.size_append,List.size_toArray,c2]
     have:q*tsz P e+(cap' - q)*tsz P e=cap'*tsz P e:=by rw [←Nat.add_mul];congr 1;omega
     simp [hzl']
     omega
   ·cases h
  ·cases h
 ·cases h
set_option maxHeartbeats 800000 in
theorem QLA {sT xT ty:TypeId} {s x y:AV} {vs vx:Value} {u:Upd} {fresh:Nat} (hr:RM S μ w m) (hf0:m.base≤fresh) (hf1:fresh<m.base+m.wid) (hf2:m.find fresh=none)
  (h:QAg P m.find fresh sT xT s x=some (y,u)) (hs:Rep S μ w s vs) (hx:Rep S μ w x vx):OkV P S μ w m (Builtin.append_ #[sT,xT] ty #[vs,vx]) y u:=by
 unfold QAg at h
 simp only [QMm] at h
 split at h
 ·rename_i e hte hti
  split at h
  ·rename_i n xs hsrc
   obtain⟨hlen,news,hn1,_,hn2,hn3,hn4⟩:=QCT (P:=P) hr hsrc hx
   have hxl:=hn2.length
   split at h
   ·-- onto nil
    split at h
    ·rename_i hc
     obtain⟨htk,hz,hpos,hsmall,hby⟩:=hc
     simp only [Option.some.injEq,Prod.mk.injEq] at h
     obtain⟨rfl,rfl⟩:=h
     simp only [Rep] at hs
     subst hs
     obtain⟨z,hz,hzs⟩:=QHD hz
     by_cases h0:n=0
     ·subst h0
      have hxs:xs=[]:=List.eq_nil_of_length_eq_zero (by rw [←hxl,hn4];simp)
      subst hxs
      refine⟨.slice none 0 0,w,μ,?_,by simp only [Rep];exact⟨none,0,rfl,Nat.le_refl _,.inl rfl⟩,After.nil hr hf0 hf1 hf2 e true⟩
      have hin:=QBx (w:=w) (ty:=ty) (base:=none) (n0:=0) (cap:=0) (n:=0) hte hti htk (Nat.le_refl 0) hlen (hn1 w fun _=>rfl)
      simpa only using hin
     ·obtain⟨cap',rest,h1,h2,h3⟩:=QCO (w:=w) (base:=none) (n0:=0) (cap:=0) (n:=n) (x:=vx) (old:=[]) (new:=news) (ty:=ty) hte hti htk hz hpos hby (by simpa using hsmall) (by omega) (hlen w) (fun d=>rfl) (fun d=>hn1 _ fun _=>rfl)
      obtain⟨μ',h4,h5⟩:=After.row (d:=w.drawn+1) hr hf0 hf1 hf2 e (xs:=xs) (ys:=[]++news) (#[]++news.toArray++rest) (0,0) true (by simpa using hn2) (by simpa using hn3) (by simp) (fun j hj=>QCI j hj) (by omega)
      refine⟨_,_,μ',h3,?_,h4⟩
      simp only [Rep]
      refine⟨_,cap',by simp,by omega,.inr ⟨_,0,h5,rfl,?_⟩⟩
      rw [hzs] at h2
      simp only [Qw,Array.getElem?_push_size,Array.size_append,List.size_toArray,h2,hn4]
      have:n*tsz P e+(cap' - (0+n))*tsz P e=cap'*tsz P e:=by rw [←Nat.add_mul];congr 1;omega
      simp only [Nat.zero_add] at this
      simp;omega
    ·cases h
   ·rename_i o off n0 z0
    split at h
    ·rename_i E ys hf
     have h:z0=tsz P e∧E=e∧tok P e∧tzok P e∧0<tby P e∧off+n0*tsz P e≤ys.length∧(n0+n)*tby P e≤70368744177664∧tby P e≤1048576∧y=.sl fresh 0 (n0+n) (tsz P e)∧u=[(o,.dead),(fresh,.cells e ((ys.drop off).take (n0*tsz P e)++xs) true)]:=by
      split at h
      ·rename_i hc
       obtain⟨a1,a2,a3,a4,a5,a6,a7,a8⟩:=hc
       simp only [Option.some.injEq,Prod.mk.injEq] at h
       refine⟨a1,a2,a3,a4,a5,by omega,a7,a8,h.1.symm,?_⟩
       rw [←h.2,List.take_of_length_le (by simp;omega)]
      ·split at h
       ·rename_i hc
        obtain⟨a1,a2,a3,a4,a5,a6,a7,a8⟩:=hc
        simp only [Option.some.injEq,Prod.mk.injEq] at h
        exact⟨a1,a2,a3,a4,a5,a6,a7,a8,h.1.symm,h.2.symm⟩
       ·cases h
     ·obtain⟨hz0,hE,htk,hz,hpos,hfull,hsmall,hby,rfl,rfl⟩:=h
      subst hz0;subst hE
      obtain⟨z,hz,hzs⟩:=QHD hz
      simp only [Rep] at hs
      obtain⟨base,cap,rfl,hn0,hbase⟩:=hs
      by_cases hin:n0+n≤cap
      ·rcases hbase with hbase | ⟨b,bo,hμ,rfl,hfit⟩
       ·-- nothing there,nothing new
        have e0:n0=0:=by omega
        have e1:n=0:=by omega
        subst e0;subst e1;subst hbase
        have hxs:xs=[]:=List.eq_nil_of_length_eq_zero (by rw [←hxl,hn4];simp)
        have hys:(ys.drop off).take (0*tsz P E)=[]:=by simp
        have hnews:news=[]:=List.eq_nil_of_length_eq_zero (by rw [hn4];simp)
        subst hxs;subst hnews
        refine⟨.slice base 0 0,w,μ,?_,by simp only [Rep];exact⟨base,0,rfl,Nat.le_refl _,.inl rfl⟩,?_⟩
        ·have hin:=QBx (w:=w) (ty:=ty) (base:=base) (n0:=0) (cap:=0) (n:=0) hte hti htk (Nat.le_refl 0) hlen (hn1 w fun _=>rfl)
         rw [hin]
         cases base<;>simp [storeCells]
        ·rw [hys]
         exact (After.nil hr hf0 hf1 hf2 E true).dead (by rw [hf];simp)
       ·obtain⟨ys0,c,fz,g1,g2,g3,g4,g5,g6,g7⟩:=QDO hr hf hμ
        have hyl:=g3.length
        have hbs:Qw w b=c.size:=by simp [Qw,g1]
        have hmul:n0*tsz P E+n*tsz P E≤cap*tsz P E:=by rw [←Nat.add_mul];exact Nat.mul_le_mul_right _ hin
        obtain⟨w',e1,e2,e3,e4,e5,e6,e7,e8⟩:=QCJ P b (bo+off+n0*tsz P E) E fz news 0 w c g1 g2 (by rw [hn4];omega) hn3
        obtain⟨μ',h4,h5⟩:=After.retake (w':=w') (bo':=bo+off) (ob':=.cells E ((ys.drop off).take (n0*tsz P E)++xs) true) hr hf rfl hμ hf0 hf1 hf2 e7 e6 (by simp [Qw,e8,g1,Qq]) e2 ⟨e3,Nat.le_of_eq e5.symm⟩ e4 g7 (fun μ' hk hμ'=>by
         simp only [RepO]
         refine .inr ⟨b,bo+off,(ys0.drop off).take (n0*tsz P E)++news,_,fz,hμ',e8,by simpa [Qq] using g2,(RepL.keep hk _ _ ((g3.drop off).take _)).append (RepL.keep hk _ _ hn2),fun u hu=>?_,?_,fun j hj=>?_,g7⟩
         ·rcases List.mem_append.1 hu with h | h
          ·exact g4 u (List.mem_of_mem_drop (List.mem_of_mem_take h))
          ·exact hn3 u h
         ·simp [Qq,hn4];omega
         ·have hlt:((ys0.drop off).take (n0*tsz P E)).length=n0*tsz P E:=by simp;omega
          simp only [List.length_append,hlt] at hj
          simp only [List.getElem?_toArray,QJB,Array.length_toList,Nat.add_zero]
          by_cases hj2:j<n0*tsz P E
          ·rw [if_neg (by omega),List.getElem?_append_left (by rw [hlt];exact hj2),List.getElem?_take_of_lt hj2,List.getElem?_drop]
           have:=g6 (off+j) (by omega)
           simpa [Nat.add_assoc] using this
          ·rw [if_pos (by omega),List.getElem?_append_right (by rw [hlt];omega)]
           congr 1
           rw [hlt]
           omega) (fun _=>QIo e8 (by simpa [Uo,Qq] using g2))
        refine⟨.slice (some ⟨b,bo+off,none⟩) (n0+n) cap,w',μ',?_,?_,h4⟩
        ·rw [QBx hte hti htk hin hlen (hn1 w fun _=>rfl)]
         simp only [Q9,e1,Result.andThen_ok]
        ·simp only [Rep]
         exact⟨_,cap,rfl,hin,.inr ⟨b,bo+off,h5,rfl,by simp only [Qw,e8,List.size_toArray,Qq,Array.length_toList];omega⟩⟩
      ·-- a new row
       have hold:∃olds:List Value,(∀d:Nat,(Builtin.firstCells (tsz P E) n0 (.slice base n0 cap)).run P { w with drawn:=d }=.ok olds.toArray { w with drawn:=d })∧RepL S μ w ((ys.drop off).take (n0*tsz P E)) olds∧(∀u∈olds,u.oneCell'=true)∧olds.length=n0*tsz P E:=by
        have hsl:srcS m.find (tsz P E) (.sl o off n0 (tsz P E))=some (n0,(ys.drop off).take (n0*tsz P E)):=by
         simp only [srcS,rdS,hf,if_true]
         rw [if_pos (by omega)]
        obtain⟨_,olds,h1,_,h2,h3,h4⟩:=QCT (P:=P) hr hsl (v:=.slice base n0 cap) (by simp only [Rep];exact⟨base,cap,rfl,hn0,hbase⟩)
        exact⟨olds,fun d=>h1 _ fun _=>rfl,h2,h3,h4⟩
       obtain⟨olds,ho1,ho2,ho3,ho4⟩:=hold
       obtain⟨cap',rest,h1,h2,h3⟩:=QCO (w:=w) (base:=base) (n0:=n0) (cap:=cap) (n:=n) (x:=vx) (old:=olds) (new:=news) (ty:=ty) hte hti htk hz hpos hby hsmall (by omega) (hlen w) ho1 (fun d=>hn1 _ fun _=>rfl)
       obtain⟨μ',h4,h5⟩:=After.row (d:=w.drawn+1) hr hf0 hf1 hf2 E (xs:=(ys.drop off).take (n0*tsz P E)++xs) (ys:=olds++news) (olds.toArray++news.toArray++rest) (0,0) true (ho2.append hn2) (fun u hu=>by
        rcases List.mem_append.1 hu with h | h
        ·exact ho3 u h
        ·exact hn3 u h) (by simp) (fun j hj=>QCI j hj) (by omega)
       refine⟨_,_,μ',h3,?_,h4.dead (by rw [hf];simp)⟩
       simp only [Rep]
       refine⟨_,cap',rfl,by omega,.inr ⟨_,0,h5,rfl,?_⟩⟩
       simp only [Qw,Array.getElem?_push_size,Array.size_append,List.size_toArray,h2,hn4,ho4,hzs]
       have:n0*tsz P E+n*tsz P E+(cap' - (n0+n))*tsz P E=cap'*tsz P E:=by rw [←Nat.add_mul,←Nat.add_mul];congr 1;omega
       omega
    ·cases h
   ·cases h
  ·cases h
 ·rename_i e hte hti
  exact QPW hr hf0 hf1 hf2 hte hti h hs hx
 ·cases h
variable {P : Program} {γ : GTab} {S : Nat → Nat → Prop} {μ μ' : Nat → Option (Nat × Nat)} {w w' : World} {m : Mem} {env : List (Nat × AV)} {a : Act}
theorem Qa9 {dT ty:TypeId} {ts:Array TypeId} {d x y:AV} {vd vx:Value} {u:Upd} (hr:RM S μ w m) (hts:ts[0]?=some dT)
  (h:QMd P m.find dT d x=some (y,u)) (hs:Rep S μ w d vd) (hx:Rep S μ w x vx):OkV P S μ w m (Builtin.copy_ ts ty #[vd,vx]) y u:=by
 unfold QMd at h
 split at h
 ·rename_i e hte
  split at h
  ·rename_i o off n z
   split at h
   ·rename_i E ys ap k xs hf hsrc
    split at h
    ·rename_i hc
     obtain⟨rfl,htk,hfit⟩:=hc
     simp only [Option.some.injEq,Prod.mk.injEq] at h
     obtain⟨rfl,rfl⟩:=h
     obtain⟨hlen,news,hn1,hnk,hn2,hn3,hn4⟩:=QCT (P:=P) hr hsrc hx
     simp only [Rep] at hs
     obtain⟨base,cap,rfl,hn0,hbase⟩:=hs
     have hxl:=hn2.length
     have hmin:min k n≤k:=Nat.min_le_left _ _
     have hmul:min k n*tsz P e≤n*tsz P e:=Nat.mul_le_mul_right _ (Nat.min_le_right _ _)
     have hmul2:min k n*tsz P e≤k*tsz P e:=Nat.mul_le_mul_right _ hmin
     have hrun:∀(base:Option Addr),(Builtin.copy_ ts ty #[.slice base n cap,vx]).run P w=match base with
       | some a=>((storeCells a (news.take (min k n*tsz P e))).run P w).andThen fun _ w'=>.ok (.int .i64 (min k n:Nat)) w'
       | none=>.ok (.int .i64 (min k n:Nat)) w:=by
      intro base
      have hk2:=hnk (min k n) hmin w (fun _=>rfl)
      unfold Builtin.copy_
      simp only [hts,List.getElem?_toArray,List.getElem?_cons_zero,List.getElem?_cons_succ,Sem.run_bind,run_underlying (Qi hte),Result.andThen_ok,hlen,Qu htk]
      have:Nat.min k n=min k n:=rfl
      rw [this]
      simp only [hk2,Result.andThen_ok]
      cases base<;>simp [goInt]
     have hwl:(news.take (min k n*tsz P e)).length=min k n*tsz P e:=by rw [List.length_take,hn4];omega
     rcases hbase with hbase | ⟨b,bo,hμ,rfl,hfit2⟩
     ·have hn:n=0:=by omega
      subst hn
      have hz:min k 0*tsz P e=0:=by simp
      have hobj:RepO S μ w o (.cells E (setL ys off (xs.take (min k 0*tsz P e))) ap):=by
       rw [hz,List.take_zero];exact (hr.obj _ _ hf).2
      have hsame:After S μ w m [(o,.cells E (setL ys off (xs.take (min k 0*tsz P e))) ap)] μ w:=by
       rw [hz,List.take_zero,setL]
       have h0:=After.pure hr
       refine⟨⟨fun x ob hx=>?_,fun x y ob ob' hx hy=>?_,hr.old,hr.fr,fun x h1 h2 h3=>?_,hr.le,hr.bk⟩,.refl _ _ _,⟨rfl,⟨rfl,Nat.le_refl _⟩,rfl,Nat.le_refl _,fun _ _=>rfl,fun x hx hf'=>?_,by have:=hr.le;show m.base≤m.next;omega,fun _ _ h=>h,fun _ _ _ h=>.inl h,fun _ _ _=>rfl,fun _ _ _ _ _ h=>h,fun b hb hn=>⟨rfl,?_⟩,fun _=>Nat.le_refl _,fun _ _ h=>h⟩⟩
       ·rw [QP] at hx
        split at hx
        ·rename_i e;subst e;simp only [Option.some.injEq] at hx;subst hx;exact hr.obj _ _ hf
        ·exact hr.obj _ _ hx
       ·rw [QP] at hx hy
        have fix:∀{x ob},(if o=x then some (AObj.cells E ys ap) else m.find x)=some ob→m.find x=some ob:=by
         intro x ob h
         split at h
         ·rename_i e;subst e;rw [hf];exact h
         ·exact h
        exact hr.inj x y ob ob' (fix hx) (fix hy)
       ·rw [QP];split
        ·simp
        ·exact hr.win x h1 h2 h3
       ·rw [QP] at hf';split at hf'
        ·rename_i e;subst e;rw [hf];simp
        ·exact hf'
       ·rintro(⟨x,ob,bo,h1,h2,h3⟩ | ⟨x,b0,code,h1,h2,h3⟩)
        ·rw [QP] at h1
         split at h1
         ·rename_i e;subst e;simp only [Option.some.injEq] at h1;subst h1;exact hn (.inl ⟨o,_,bo,hf,h2,h3⟩)
         ·exact hn (.inl ⟨x,ob,bo,h1,h2,h3⟩)
        ·rw [QP] at h1
         split at h1
         ·simp at h1
         ·exact hn (.inr ⟨x,b0,code,h1,h2,h3⟩)
      refine⟨.int .i64 (min k 0:Nat),w,μ,?_,by simp [Rep],hsame⟩
      rw [hrun base]
      have hwz:news.take (min k 0*tsz P e)=[]:=List.eq_nil_of_length_eq_zero (by rw [hwl];simp)
      rw [hwz]
      cases base<;>simp [storeCells]
     ·obtain⟨w',e1,e2⟩:=QGO (P:=P) (off:=off) hr hf hμ (cs:=xs.take (min k n*tsz P e)) (vs:=news.take (min k n*tsz P e)) (hn2.take _) (fun u hu=>hn3 u (List.mem_of_mem_take hu)) (by rw [List.length_take];omega)
      refine⟨.int .i64 (min k n:Nat),w',μ,?_,by simp [Rep],e2⟩
      rw [hrun (some _)]
      simp only [e1,Result.andThen_ok]
    ·cases h
   ·cases h
  ·cases h
 ·cases h
theorem QQY {t:TypeId} {k:Nat} (h:QBo P t=some k):(k=0∧∃e,P.underlying t=some (.slice e))∨(k=1∧P.underlying t=some .string)∨(k=2∧∃q e,P.underlying t=some (.map q e)):=by
 unfold QBo at h
 cases hu:P.underlying t with
 | none=>simp [hu] at h
 | some d=>
  rw [hu] at h
  cases d<;>simp at h
  ·subst h;exact .inr (.inl ⟨rfl,rfl⟩)
  ·subst h;exact .inl ⟨rfl,_,rfl⟩
  ·subst h;exact .inr (.inr ⟨rfl,_,_,rfl⟩)
theorem QAW {r:Nat} {es:Array MapEntry} {clock:Nat} (hb:w.heap[r]?=some (.map es clock)):(getObj r).run P w=.ok (.map es clock) w:=by
 simp [getObj,Sem.run,hb]
theorem QDi {r:Nat} {es:Array MapEntry} {clock:Nat} (o:Obj) (hb:w.heap[r]?=some (.map es clock)):(setObj r o).run P w=.ok () { w with heap:=w.heap.setIfInBounds r o }:=by
 simp [setObj,Sem.run,hb]
theorem ok_len {t ty:TypeId} {ts:Array TypeId} {x:AV} {k n:Nat} {v:Value} (hr:RM S μ w m) (hts:ts[0]?=some t) (h:lenA m.find x=some (k,n)) (hk:QBo P t=some k) (hx:Rep S μ w x v):
  OkV P S μ w m (Builtin.len_ ts ty #[v]) (.v (.int .i64 n)) []:=by
 refine OkV.same hr (v:=.int .i64 n) ?_ (by simp [Rep])
 rcases QQY hk with ⟨rfl,e,hu⟩ | ⟨rfl,hu⟩ | ⟨rfl,q,e,hu⟩
 ·have hv:∃base cap,v=.slice base n cap:=by
   unfold lenA at h
   split at h
   ·simp at h;subst h;simp only [Rep] at hx;exact⟨none,0,hx⟩
   ·simp at h
   ·simp at h
   ·simp at h;subst h;simp only [Rep] at hx;obtain⟨base,cap,e,_⟩:=hx;exact⟨base,cap,e⟩
   ·simp at h;subst h;simp only [Rep] at hx;obtain⟨base,cap,e,_⟩:=hx;exact⟨base,cap,e⟩
   ·simp at h;subst h;simp only [Rep] at hx;obtain⟨base,cap,e,_⟩:=hx;exact⟨base,cap,e⟩
   ·simp at h;subst h;simp only [Rep] at hx;obtain⟨base,cap,e,_⟩:=hx;exact⟨base,cap,e⟩
   ·simp at h
   ·split at h<;>simp at h
   ·simp at h
  obtain⟨base,cap,rfl⟩:=hv
  simp [Builtin.len_,hts,run_underlying hu,goInt]
 ·have hv:∃s:ByteArray,v=.string s∧s.size=n:=by
   unfold lenA at h
   split at h
   ·simp at h
   ·simp at h;simp only [Rep] at hx;exact⟨_,hx,h⟩
   ·simp at h
   ·simp at h
   ·simp at h
   ·simp at h
   ·simp at h
   ·simp at h
   ·split at h<;>simp at h
   ·simp at h
  obtain⟨s,rfl,rfl⟩:=hv
  simp [Builtin.len_,hts,run_underlying hu,goInt]
 ·have hv:(v=.map none∧n=0)∨∃b es clock,v=.map (some b)∧w.heap[b]?=some (.map es clock)∧es.size=n:=by
   unfold lenA at h
   split at h
   ·simp at h
   ·simp at h
   ·simp at h;simp only [Rep] at hx;exact .inl ⟨hx,h.symm⟩
   ·simp at h
   ·simp at h
   ·simp at h
   ·simp at h
   ·simp at h
    simp only [Rep] at hx
    rcases hx with ⟨e1,e2,e3⟩ | ⟨b,es,clock,e1,e2,e3,e4,e5,e6⟩
    ·subst e2;exact .inl ⟨e1,by simpa using h.symm⟩
    ·refine .inr ⟨b,es,clock,e1,e3,?_⟩
     rw [←h,←e5];simp
   ·split at h
    ·rename_i o _ kt ks xs hf
     simp only [Option.some.injEq,Prod.mk.injEq,true_and] at h
     subst h
     simp only [Rep] at hx
     obtain⟨b,bo,hμ,rfl⟩:=hx
     have:=(hr.obj _ _ hf).2
     simp only [RepO] at this
     obtain⟨b',bo',es,clock,h1,h2,h3,h4,_⟩:=this
     rw [hμ] at h1
     simp only [Option.some.injEq,Prod.mk.injEq] at h1
     obtain⟨rfl,rfl⟩:=h1
     exact .inr ⟨b,es,clock,rfl,h2,by rw [←h4];simp⟩
    ·simp at h
   ·simp at h
  rcases hv with ⟨rfl,rfl⟩ | ⟨b,es,clock,rfl,hb,rfl⟩
  ·simp [Builtin.len_,hts,run_underlying hu,goInt]
  ·simp [Builtin.len_,hts,run_underlying hu,goInt,QAW hb]
theorem QLI {t e:TypeId} {kl kc:IntKind} {l c:Int} {zs:List Value} {fresh:Nat} (hr:RM S μ w m) (hf0:m.base≤fresh) (hf1:fresh<m.base+m.wid) (hf2:m.find fresh=none)
  (ht:Qd P t=some e) (hz:tz P e=some zs) (htk:tok P e=true) (hl:zs.length=tsz P e) (h0:0≤l) (hlc:l≤c) (hc:c≤9223372036854775807) (hb:(tby P e:Int)*c≤281474976710656):
  OkV P S μ w m (Instr.makeSlice t (.int kl l) (.int kc c)) (.sl fresh 0 l.toNat (tsz P e)) [(fresh,.cells e ((List.replicate l.toNat (zs.map AV.v)).flatten) true)]:=by
 obtain⟨z,h1,h2,h3⟩:=QFF hz
 obtain⟨i,hi,his,hib⟩:=QGB htk
 have hiz:i.zero=some z:=by unfold zval at h1;rw [hi] at h1;simpa using h1
 have hrun:=run_make (P:=P) w t e i z (Qi ht) hi hiz kl kc l c h0 hlc (by rw [hib];exact hb) hc
 have hzl:z.cells.size=tsz P e:=by rw [←hl,←h2];simp
 have hll:l.toNat*tsz P e≤c.toNat*tsz P e:=Nat.mul_le_mul_right _ (by omega)
 have hfl:((List.replicate l.toNat zs).flatten).length=l.toNat*tsz P e:=by simp [hl]
 obtain⟨μ',h4,h5⟩:=After.row (d:=w.drawn) hr hf0 hf1 hf2 e (xs:=((List.replicate l.toNat zs).flatten).map .v) (ys:=(List.replicate l.toNat zs).flatten) (madeCells z.cells (c.toNat*i.size)) (0,0) true (RepL.of_vals _) (QFr _ h3) (by rw [hfl,size_madeCells,his];exact hll) (fun j hj=>by
  rw [hfl] at hj
  have hpos:0<tsz P e:=by
   rcases Nat.eq_zero_or_pos (tsz P e) with e0 | e0
   ·rw [e0] at hj;simp at hj
   ·exact e0
  rw [QJX zs (by rw [hl];exact hpos) l.toNat j (by rw [hl];exact hj)]
  have hm:j % tsz P e<tsz P e:=Nat.mod_lt _ hpos
  have hjc:j<c.toNat*tsz P e:=by omega
  simp only [madeCells,his]
  rw [Array.getElem?_map]
  simp [hjc,hzl,hl,←h2,hm]) (by omega)
 rw [QEX]
 refine⟨_,_,μ',hrun,?_,h4⟩
 simp only [Rep]
 exact⟨_,c.toNat,rfl,by omega,.inr ⟨w.heap.size,0,h5,rfl,by simp only [Qw,heap_alloc_new,size_madeCells,his];omega⟩⟩
theorem QPZ {t kT e:TypeId} {kt:KT} {r:Option Value} {fresh:Nat} (hr:RM S μ w m) (hf0:m.base≤fresh) (hf1:fresh<m.base+m.wid) (hf2:m.find fresh=none)
  (ht:tmap P t=some (kT,e)) (hh:∀v,r=some v→∃k n,v=.int k n):OkV P S μ w m (Instr.makeMap t r) (.mp fresh) [(fresh,.map kt [] [])]:=by
 obtain⟨μ',h4,h5,_⟩:=After.new (w':={ w with heap:=w.heap.push (.map #[] 0) }) hr hf0 hf1 hf2 (.map #[] 0) (.map kt [] []) rfl trivial rfl ⟨rfl,Nat.le_refl _⟩ rfl (fun μ' hk _ hμ=>by
  simp only [RepO]
  refine⟨w.heap.size,0,#[],0,hμ,by simp,⟨by simp,by simp,by simp⟩,by simp,by simp [RepL],fun off hs=>?_⟩
  have:=hr.old _ _ hs;omega)
 refine⟨.map (some w.heap.size),_,μ',?_,by simp only [Rep];exact⟨_,0,h5,rfl⟩,h4⟩
 cases r with
 | none=>rfl
 | some v=>
  obtain⟨k,n,rfl⟩:=hh v rfl
  simp [Instr.makeMap,run_underlying (QAw ht),asInt,asIntOf]
theorem QPJ {src dst e:TypeId} {s:ByteArray} {fresh:Nat} (hr:RM S μ w m) (hf0:m.base≤fresh) (hf1:fresh<m.base+m.wid) (hf2:m.find fresh=none)
  (hd:QDR P dst=true) (he:Qd P dst=some e) (hs:tstr P src=true):OkV P S μ w m (convert src dst (.string s)) (.sl fresh 0 s.size 1) [(fresh,.cells e (QC3 s.data.toList) true)]:=by
 obtain⟨e',h1,h2,h3⟩:=QFf hd
 rw [he] at h3
 simp only [Option.some.injEq] at h3
 subst h3
 have hrun:=Lib.run_convert_string_bytes (P:=P) w src dst e s (QBT hs) h1 h2
 have hheap:(Lib.bytesWorld w e s).heap=w.heap.push (.cells (Lib.bytesCells w e s) e ((Lib.bytesCells w e s).size,(Lib.bytesCells w e s).size+1)):=by
  apply Array.ext_getElem?
  intro j
  rcases Nat.lt_trichotomy j w.heap.size with h | h | h
  ·rw [Lib.bytesWorld_at_old w e s j h,Array.getElem?_push,if_neg (by omega)]
  ·subst h;rw [Lib.bytesWorld_at_new];simp
  ·rw [Array.getElem?_eq_none (by rw [Lib.bytesWorld_size];omega),Array.getElem?_eq_none (by simp;omega)]
 have hcells:∀j,j<s.data.toList.length→(Lib.bytesCells w e s)[j]?=(s.data.toList.map fun b=>Value.int .u8 b.toNat)[j]?:=by
  intro j hj
  unfold Lib.bytesCells
  rw [Array.getElem?_append_left (by simpa using hj)]
  simp
 obtain⟨μ',h4,h5,_⟩:=After.new (w':=Lib.bytesWorld w e s) hr hf0 hf1 hf2 _ (.cells e (QC3 s.data.toList) true) hheap (fun i hi=>by omega) rfl ⟨rfl,Nat.le_succ w.drawn⟩ rfl (fun μ' hk _ hμ=>by
  simp only [RepO]
  refine .inr ⟨w.heap.size,0,s.data.toList.map (fun b=>Value.int .u8 b.toNat),_,_,hμ,Lib.bytesWorld_at_new w e s,fun i hi=>by omega,?_,by simp [Value.oneCell'],?_,fun j hj=>?_,fun off hs=>?_⟩
  ·have:QC3 s.data.toList=(s.data.toList.map (fun b=>Value.int .u8 b.toNat)).map .v:=by simp [QC3]
   rw [this];exact RepL.of_vals _
  ·simp [Lib.bytesCells]
  ·simpa using hcells j (by simpa using hj)
  ·have:=hr.old _ _ hs;omega)
 refine⟨_,_,μ',hrun,?_,h4⟩
 simp only [Rep]
 refine⟨_,_,rfl,grownCap_ge _ _ _ _,.inr ⟨w.heap.size,0,h5,rfl,?_⟩⟩
 have hge:=grownCap_ge w s.size 0 e
 have hss:s.data.size=s.size:=rfl
 simp only [Qw,Lib.bytesWorld_at_new,Lib.bytesCells,Array.size_append,Array.size_map,Array.size_replicate,hss]
 omega
theorem QS0:∀(l:List Value),l.all (QC6 .u8)=true→∃ns:List Int,l=ns.map (Value.int .u8)
 | [],_=>⟨[],rfl⟩
 | y::ys,h=>by
  simp only [List.all_cons,Bool.and_eq_true] at h
  obtain⟨ns,e⟩:=QS0 ys h.2
  obtain⟨h1,_⟩:=h
  cases y<;>simp [QC6] at h1
  subst h1
  exact⟨_::ns,by rw [e];rfl⟩
theorem QMj {src dst:TypeId} {x:AV} {n:Nat} {xs:List AV} {vs:List Value} {v:Value} (hr:RM S μ w m) (hs:QDR P src=true) (hd:tstr P dst=true) (hsrc:srcS m.find 1 x=some (n,xs)) (hv:QFQ xs=some vs) (hall:vs.all (QC6 .u8)=true)
  (hx:Rep S μ w x v) (hns:∀s,x≠.v (.string s)):OkV P S μ w m (convert src dst v) (.v (.string ⟨(vs.map fun | .int _ n=>UInt8.ofNat n.toNat | _=>0).toArray⟩)) []:=by
 obtain⟨e,h1,h2,h3⟩:=QFf hs
 obtain⟨hlen,news,hn1,_,hn2,hn3,hn4⟩:=QCT (P:=P) hr hsrc hx
 have hnews:=QG3 hv hn2
 subst hnews
 have hint:=QS0 _ hall
 obtain⟨ns,rfl⟩:=hint
 have hslice:∃a len cap,v=.slice a len cap:=by
  unfold srcS at hsrc
  split at hsrc
  ·exact absurd rfl (hns _)
  ·simp only [Rep] at hx;exact⟨_,_,_,hx⟩
  ·simp only [Rep] at hx;obtain⟨_,_,e,_⟩:=hx;exact⟨_,_,_,e⟩
  ·simp only [Rep] at hx;obtain⟨_,_,e,_⟩:=hx;exact⟨_,_,_,e⟩
  ·cases hsrc
 obtain⟨a,len,cap,rfl⟩:=hslice
 have hl:n=len:=by
  have:=hlen w
  simp only [Builtin.lenOf,Sem.run_pure,Result.ok.injEq,and_true] at this
  exact this.symm
 subst hl
 refine OkV.same hr (v:=.string ⟨(ns.map fun n=>UInt8.ofNat n.toNat).toArray⟩) ?_ (by simp [Rep,List.map_map,Function.comp_def])
 rw [run_convert_bytes_string w src dst e a n cap h1 h2 (QBT hd)]
 have hload:=hn1 w (fun _=>rfl)
 simp only [Builtin.firstCells,Nat.mul_one] at hload
 cases a with
 | none=>
  simp only [Sem.run_pure,Result.ok.injEq,and_true] at hload
  have:ns=[]:=by simpa using congrArg Array.size hload.symm
  subst this
  rfl
 | some a=>
  rw [run_bytesToString w a n cap ns hload,foldl_push_bytes]
  have he0:ByteArray.empty.data=#[]:=rfl
  rw [he0];simp
variable {P : Program} {γ : GTab} {S : Nat → Nat → Prop} {μ μ' : Nat → Option (Nat × Nat)} {w w' : World} {m : Mem} {env : List (Nat × AV)} {a : Act}
def QDB (key:Value):List MapEntry→Nat→Option (Nat×Value)
 | [],_=>none
 | e::es,i=>if keq key e.key then some (i,e.val) else QDB key es (i+1)
theorem Qo {k:IntKind} {v:Value} (h:QC6 k v=true):∃n,v=.int k n:=by
 cases v<;>simp [QC6] at h
 subst h;exact⟨_,rfl⟩
def oieq:Option Value→Option Value→Bool
 | some a,some b=>ieq a b
 | _,_=>false
theorem QC2 (d:Nat) {e:TypeId} {k k':IntKind} (he:P.underlying e=some (.int k')) (xs ys:Array Value):∀(is:List Nat),(∀i∈is,i<xs.size∧i<ys.size)→(∀v∈xs.toList,QC6 k v=true)→(∀v∈ys.toList,QC6 k v=true)→
  (Op.eqItems (d+1) e 1 xs ys is).run P w=.ok (is.all fun i=>oieq xs[i]? ys[i]?) w
 | [],_,_,_=>by simp [Op.eqItems]
 | i::is,hb,hx,hy=>by
  obtain⟨h1,h2⟩:=hb i (by simp)
  have ex:xs[i]?=some xs[i]:=by simp [h1]
  have ey:ys[i]?=some ys[i]:=by simp [h2]
  obtain⟨x,hx1⟩:=Qo (hx xs[i] (by simp))
  obtain⟨y,hy1⟩:=Qo (hy ys[i] (by simp))
  have hagg:∀w:World,(isAgg e).run P w=.ok false w:=fun w=>QDt (by simp [tagg,he]) w
  have ih:=QC2 d he xs ys is (fun j hj=>hb j (by simp [hj])) hx hy
  simp only [Op.eqItems,part,Sem.run_bind,hagg,Result.andThen_ok,Bool.false_eq_true,if_false,Nat.mul_one,ex,ey,hx1,hy1,Sem.run_pure,run_equalIn_int w d e k k' x y he,List.all_cons]
  cases hxy:(x==y)
  ·simp [oieq,ieq,hxy]
  ·simpa [oieq,ieq,hxy] using ih
theorem QJk (xs ys:List Value) (f:Option Value→Option Value→Bool) (h:xs.length=ys.length) (g:Value→Value→Bool) (hf:∀a b,f (some a) (some b)=g a b):
  ((List.range xs.length).all fun i=>f xs[i]? ys[i]?)=(xs.zip ys).all fun p=>g p.1 p.2:=by
 induction xs generalizing ys with
 | nil=>simp
 | cons x xs ih=>
  cases ys with
  | nil=>simp at h
  | cons y ys=>
   simp only [List.length_cons,Nat.add_right_cancel_iff] at h
   rw [List.length_cons,List.range_succ_eq_map,List.all_cons,List.all_map]
   simp only [List.getElem?_cons_zero,hf,List.zip_cons_cons,List.all_cons]
   congr 1
   have:=ih ys h
   simpa [Function.comp_def] using this
theorem QJC {t:TypeId} {kt:KT} (h:tkt P t=some kt):match kt with
  | .intK k=>P.underlying t=some (.int k)
  | .strK=>P.underlying t=some .string
  | .boolK=>P.underlying t=some .bool
  | .arrK n k=>∃e i,P.underlying t=some (.array n e)∧P.underlying e=some (.int k)∧P.info? e=some i∧i.size=1:=by
 unfold tkt at h
 cases hu:P.underlying t with
 | none=>simp [hu] at h
 | some d=>
  rw [hu] at h
  cases d<;>try (simp at h;done)
  ·simp at h;subst h;rfl
  ·simp at h;subst h;rfl
  ·simp at h;subst h;rfl
  ·rename_i n e
   simp only [Option.bind_some] at h
   cases he:P.underlying e with
   | none=>simp [he] at h
   | some d=>
    rw [he] at h
    cases d<;>try (simp at h;done)
    rename_i k
    simp only at h
    split at h
    ·rename_i hs
     simp only [Option.some.injEq] at h
     subst h
     cases hi:P.info? e with
     | none=>simp [hi] at hs
     | some i=>exact⟨e,i,rfl,he,hi,by simpa [hi] using hs⟩
    ·cases h
theorem QLM {e:TypeId} {i:TypeInfo} (h:P.info? e=some i):P.cellsOf e=i.size:=by
 have h1:=run_sizeOf (P:=P) default h
 have h2:(sizeOf e).run P default=.ok i.size default:=by simp [sizeOf,QAR h]
 rw [h2] at h1
 simpa using h1.symm
theorem QEb {t:TypeId} {kt:KT} (h:tkt P t=some kt) {x y:Value} (hx:kwf kt x=true) (hy:kwf kt y=true) (w:World):(Op.equal t x y).run P w=.ok (keq x y) w:=by
 have hs:=QJC h
 cases kt with
 | intK k=>
  obtain⟨n,rfl⟩:=Qo hx
  obtain⟨n',rfl⟩:=Qo hy
  simp only at hs
  have:=run_equalIn_int (P:=P) w 9999 t k k n n' hs
  simpa [Op.equal,Op.maxDepth,keq] using this
 | strK=>
  cases x<;>simp [kwf] at hx
  cases y<;>simp [kwf] at hy
  simp only at hs
  rename_i a b
  have:=run_equalIn_string (P:=P) w 9999 t a b hs
  simpa [Op.equal,Op.maxDepth,keq] using this
 | boolK=>
  cases x<;>simp [kwf] at hx
  cases y<;>simp [kwf] at hy
  simp only at hs
  rename_i a b
  have:=run_equalIn_bool' (P:=P) w 9999 t a b hs
  simpa [Op.equal,Op.maxDepth,keq] using this
 | arrK n k=>
  obtain⟨e,i,hu,he,hi,hsz⟩:=hs
  cases x<;>try (simp [kwf] at hx;done)
  cases y<;>try (simp [kwf] at hy;done)
  rename_i xs ys
  simp only [kwf,Bool.and_eq_true,beq_iff_eq,List.all_eq_true] at hx hy
  have h1:=run_equalIn_array (P:=P) w 9999 xs ys hu hi
  rw [QLM hi,hsz] at h1
  rw [QC2 9998 he xs ys (List.range n) (fun i hi=>by have:=List.mem_range.1 hi;omega) hx.2 hy.2] at h1
  have h2:=QJk xs.toList ys.toList oieq (by simp;omega) ieq (fun p q=>rfl)
  have h3:(List.range n).all (fun i=>oieq xs[i]? ys[i]?)=keq (.agg xs) (.agg ys):=by
   simp only [keq]
   have hsz2:(xs.size==ys.size)=true:=by simp;omega
   rw [hsz2,Bool.true_and]
   simp only [Array.length_toList,Array.getElem?_toList,hx.1] at h2
   rw [←hx.1] at h2 ⊢
   exact h2
  rw [h3] at h1
  simpa [Op.equal,Op.maxDepth] using h1
theorem QGH {t:TypeId} {kt:KT} (h:tkt P t=some kt) {key:Value} (hk:kwf kt key=true) (w:World):∀(es:List MapEntry) (i:Nat),(∀e∈es,kwf kt e.key=true)→(Instr.findAsking t key es i).run P w=.ok (QDB key es i) w
 | [],i,_=>by simp [Instr.findAsking,QDB]
 | e::es,i,he=>by
  simp only [Instr.findAsking,Sem.run_bind,QEb h hk (he e (by simp)),Result.andThen_ok,QDB]
  have ih:=QGH h hk w es (i+1) (fun e' h'=>he e' (by simp [h']))
  cases keq key e.key<;>simp [ih]
theorem QHd {d:TypeDesc} {key:Value}:∀(es:List MapEntry) (i:Nat),(∀e∈es,Instr.sameNow d key e.key=some (keq key e.key))→Instr.findNow d key es i=some (QDB key es i)
 | [],i,_=>rfl
 | e::es,i,he=>by
  simp only [Instr.findNow,he e (by simp),QDB]
  cases keq key e.key
  ·simpa using QHd es (i+1) (fun e' h'=>he e' (by simp [h']))
  ·simp
theorem QLX (a b:ByteArray):(a==b)=(a.toList==b.toList):=by
 have h0:(a==b)=(a.data==b.data):=by cases a;cases b;rfl
 rw [h0,ByteArray.toList_eq,ByteArray.toList_eq,Bool.eq_iff_iff,beq_iff_eq,beq_iff_eq]
 constructor
 ·intro h;rw [h]
 ·intro h;exact Array.ext' h
theorem QG0 {t:TypeId} {kt:KT} (h:tkt P t=some kt) {key:Value} (hk:kwf kt key=true) (w:World) (es:List MapEntry) (he:∀e∈es,kwf kt e.key=true):(Instr.findKey t key es).run P w=.ok (QDB key es 0) w:=by
 have hs:=QJC h
 have plain:∀d,P.underlying t=some d→(∀e∈es,Instr.sameNow d key e.key=some (keq key e.key))→(Instr.findKey t key es).run P w=.ok (QDB key es 0) w:=by
  intro d hd hn
  simp [Instr.findKey,run_underlying hd,QHd es 0 hn]
 cases kt with
 | intK k=>
  simp only at hs
  refine plain _ hs fun e h'=>?_
  obtain⟨n,rfl⟩:=Qo hk
  obtain⟨n',hn'⟩:=Qo (he e h')
  rw [hn']
  simp [Instr.sameNow,keq]
 | strK=>
  simp only at hs
  refine plain _ hs fun e h'=>?_
  have:=he e h'
  cases key<;>simp [kwf] at hk
  cases hek:e.key<;>rw [hek] at this<;>simp [kwf] at this
  rename_i a b
  simp only [Instr.sameNow,keq]
  congr 1
  exact QLX a b
 | boolK=>
  simp only at hs
  refine plain _ hs fun e h'=>?_
  have:=he e h'
  cases key<;>simp [kwf] at hk
  cases hek:e.key<;>rw [hek] at this<;>simp [kwf] at this
  simp [Instr.sameNow,keq]
 | arrK n k=>
  obtain⟨e,i,hu,_⟩:=hs
  rw [run_findKey_eq (P:=P) w (k:=t) (by rw [hu]) key es]
  exact QGH h hk w es 0 he
end Go.AW
