/- A part of the proof: E5 E6 E9 E10 E11. -/
import Derived.Test.YtpcbnjbpdooejaaGreatDoorPae
import Derived.Test.YtpcbnjbpdooejaaGreatDoorPar
set_option linter.unusedSimpArgs false
set_option linter.unusedVariables false
set_option maxRecDepth 100000
set_option maxHeartbeats 8000000
namespace Go.AW
structure Itm where
 h:Hs
 c:ChV
 b:List UInt8
 deriving DecidableEq
def QF (L:List Itm):List Hs:=L.map (·.h)
def getL:List Itm→Hs→Option Itm
 | [],_=>none
 | x::L,h=>if x.h=h then some x else getL L h
def hasL (L:List Itm) (h:Hs):Bool:=decide (h∈QF L)
def allL (L:List Itm) (l:List Hs):Bool:=l.all (hasL L)
def chL (L:List Itm) (h:Hs):ChV:=match getL L h with
 | some x=>x.c
 | none=>chz
def QBv (L:List Itm) (h:Hs):List Hs:=(chL L h).deps
theorem QGh {h:Hs}:∀{L:List Itm},getL L h=none↔h∉QF L
 | []=>by simp [getL,QF]
 | x::L=>by
  rw [getL]
  by_cases e:x.h=h
  ·simp [e,QF]
  ·rw [if_neg e,QGh (L:=L)]
   simp only [QF,List.map_cons,List.mem_cons,not_or]
   exact⟨fun k=>⟨fun k'=>e k'.symm,k⟩,fun k=>k.2⟩
theorem QDS {h:Hs} {x:Itm}:∀{L:List Itm},getL L h=some x→x∈L∧x.h=h
 | [],e=>by simp [getL] at e
 | y::L,e=>by
  rw [getL] at e
  split at e
  ·simp only [Option.some.injEq] at e;subst e
   exact⟨by simp,by assumption⟩
  ·obtain⟨h1,h2⟩:=QDS e
   exact⟨by simp [h1],h2⟩
theorem QA2 {h:Hs} {L:List Itm} (hm:h∈QF L):∃x,getL L h=some x∧x∈L∧x.h=h:=by
 cases e:getL L h with
 | none=>exact absurd hm (QGh.1 e)
 | some x=>exact⟨x,rfl,QDS e⟩
theorem QJo {x:Itm}:∀{L:List Itm},(QF L).Nodup→x∈L→getL L x.h=some x
 | [],_,h=>by simp at h
 | y::L,hn,h=>by
  simp only [QF,List.map_cons,List.nodup_cons] at hn
  rw [getL]
  rcases List.mem_cons.1 h with e | e
  ·subst e;simp
  ·rw [if_neg (fun k=>hn.1 (by rw [k];exact List.mem_map_of_mem (f:=(·.h)) e)),QJo hn.2 e]
theorem Qv {L M:List Itm}:QF (L++M)=QF L++QF M:=by simp [QF]
theorem Qh {L:List Itm}:(QF L).length=L.length:=by simp [QF]
inductive OrdL:List Itm→Prop
 | nil:OrdL []
 | snoc {L:List Itm} {x:Itm}:OrdL L→x.h∉QF L→(∀d∈x.c.deps,d∈QF L)→OrdL (L++[x])
theorem OrdL.nodup {L:List Itm} (h:OrdL L):(QF L).Nodup:=by
 induction h with
 | nil=>simp [QF]
 | snoc _ h1 _ ih=>
  rw [Qv,List.nodup_append]
  refine⟨ih,by simp [QF],fun a ha b hb e=>?_⟩
  simp only [QF,List.map_cons,List.map_nil,List.mem_singleton] at hb
  exact h1 (by rw [←hb,←e];exact ha)
theorem OrdL.deps {L:List Itm} (h:OrdL L):∀x∈L,∀d∈x.c.deps,d∈QF L∧(QF L).idxOf d<(QF L).idxOf x.h:=by
 induction h with
 | nil=>simp
 | @snoc L y _ h1 h2 ih=>
  intro x hx d hd
  have hk:QF (L++[y])=QF L++[y.h]:=by rw [Qv];rfl
  rw [hk]
  rcases List.mem_append.1 hx with e | e
  ·obtain⟨k1,k2⟩:=ih x e d hd
   have hxm:x.h∈QF L:=List.mem_map_of_mem e
   exact⟨by simp [k1],by rw [List.idxOf_append,List.idxOf_append,if_pos k1,if_pos hxm];exact k2⟩
  ·simp only [List.mem_singleton] at e
   subst e
   have k1:=h2 d hd
   refine⟨by simp [k1],?_⟩
   rw [List.idxOf_append,List.idxOf_append,if_pos k1,if_neg h1]
   exact Nat.lt_of_lt_of_le (List.idxOf_lt_length_of_mem k1) (Nat.le_add_left _ _)
theorem QBZ {L:List Itm} {x:Itm} (hn:(QF L).Nodup) (hx:x∈L):QBv L x.h=x.c.deps:=by
 rw [QBv,chL,QJo hn hx]
theorem OrdL.depsL {L:List Itm} (h:OrdL L) {k:Hs} (hk:k∈QF L):∀d∈QBv L k,d∈QF L∧(QF L).idxOf d<(QF L).idxOf k:=by
 obtain⟨x,e,hx,rfl⟩:=QA2 hk
 rw [QBZ h.nodup hx]
 exact h.deps x hx
inductive Bel (L:List Itm) (l:List Hs):Hs→Prop
 | base {h:Hs}:h∈l→Bel L l h
 | dep {x:Itm} {d:Hs}:Bel L l x.h→x∈L→d∈x.c.deps→Bel L l d
theorem Bel.mono {L M:List Itm} {l m:List Hs} (h1:∀x∈L,x∈M) (h2:∀x∈l,Bel M m x) {h:Hs} (hb:Bel L l h):Bel M m h:=by
 induction hb with
 | base h=>exact h2 _ h
 | dep _ hx hd ih=>exact .dep ih (h1 _ hx) hd
theorem Bel.mem {L:List Itm} (hL:OrdL L) {l:List Hs} (hl:∀x∈l,x∈QF L) {h:Hs} (hb:Bel L l h):h∈QF L:=by
 cases hb with
 | base h=>exact hl _ h
 | dep _ hx hd=>exact (hL.deps _ hx _ hd).1
def QFi (x:Itm) (acc:List Hs):List Hs:=if x.h∈acc then uniH acc x.c.deps else acc
def QKM (L:List Itm) (acc:List Hs):List Hs:=L.foldr QFi acc
def Q0 (L:List Itm) (l:List Hs):List Hs:=QKM L (srt l)
theorem QHz {L:List Itm} {x:Itm} {acc:List Hs}:QKM (L++[x]) acc=QKM L (QFi x acc):=by simp [QKM]
theorem QGE {l m:List Hs} {h:Hs}:h∈uniH l m↔h∈l∨h∈m:=by rw [QIc,QBr,List.mem_append]
theorem QKi (l m:List Hs):Rise (uniH l m):=by rw [QIc];exact QCu _
theorem QQt {L:List Itm} {acc:List Hs} (h:Rise acc):Rise (QKM L acc):=by
 induction L with
 | nil=>exact h
 | cons x L ih=>
  show Rise (QFi x (QKM L acc))
  rw [QFi];split
  ·exact QKi _ _
  ·exact ih
theorem QAm (L:List Itm) (l:List Hs):Rise (Q0 L l):=QQt (QCu l)
theorem QR6 {L:List Itm} (hL:OrdL L):∀{acc:List Hs} {h:Hs},h∈QKM L acc↔Bel L acc h:=by
 induction hL with
 | nil=>
  intro acc h
  refine⟨fun k=>.base k,fun k=>?_⟩
  cases k with
  | base k=>exact k
  | dep _ hx=>simp at hx
 | @snoc L y hL h1 h2 ih=>
  intro acc h
  rw [QHz,ih]
  constructor
  ·refine Bel.mono (fun x hx=>by simp [hx]) fun x hx=>?_
   rw [QFi] at hx
   split at hx
   ·rename_i hy
    rcases QGE.1 hx with k | k
    ·exact .base k
    ·exact .dep (.base hy) (by simp) k
   ·exact .base hx
  ·intro hb
   have key:∀{k:Hs},Bel (L++[y]) acc k→Bel L (QFi y acc) k:=by
    intro k hb
    induction hb with
    | base hx=>exact .base (by rw [QFi];split;exact QGE.2 (.inl hx);exact hx)
    | @dep x d hb hx hd ih2=>
     rcases List.mem_append.1 hx with e | e
     ·exact .dep ih2 e hd
     ·simp only [List.mem_singleton] at e
      subst e
      have hy:x.h∈acc:=by
       have:∀{k:Hs},Bel L (QFi x acc) k→k=x.h→x.h∈acc:=by
        intro k hb e
        cases hb with
        | base hm=>
         rw [QFi] at hm
         split at hm
         ·assumption
         ·rw [←e];exact hm
        | dep _ hx' hd'=>exact absurd (by rw [←e];exact (hL.deps _ hx' _ hd').1) h1
       exact this ih2 rfl
      exact .base (by rw [QFi,if_pos hy];exact QGE.2 (.inr hd))
   exact key hb
theorem Qp {L:List Itm} (hL:OrdL L) {l:List Hs} {h:Hs}:h∈Q0 L l↔Bel L l h:=by
 rw [Q0,QR6 hL]
 exact⟨Bel.mono (fun _ h=>h) fun x hx=>.base (QBr.1 hx),Bel.mono (fun _ h=>h) fun x hx=>.base (QBr.2 hx)⟩
theorem QA3 {L:List Itm} (hL:OrdL L) {l:List Hs} (hl:allL L l=true):∀h∈Q0 L l,h∈QF L:=fun h hh=>((Qp hL).1 hh).mem hL fun x hx=>by
 have:=List.all_eq_true.1 hl x hx
 simpa [hasL] using this
theorem Q2 {L:List Itm} {l:List Hs}:allL L l=true↔∀h∈l,h∈QF L:=by simp [allL,hasL]
def dfs (L:List Itm):Nat→List Hs→List Hs→List Hs
 | 0,_,s=>s
 | n+1,l,s=>l.foldl (fun s h=>if h∈s then s else dfs L n (QBv L h) (s++[h])) s
theorem QUf {L:List Itm} (hL:OrdL L):∀(n:Nat) (l s:List Hs),(∀h∈l,h∈QF L∧(QF L).idxOf h<n)→(∀h∈s,h∈QF L)→s.Nodup→
  (∀h∈s,h∈dfs L n l s)∧(∀h∈l,h∈dfs L n l s)∧(∀h∈dfs L n l s,h∈s∨Bel L l h)∧(∀h∈dfs L n l s,h∉s→∀d∈QBv L h,d∈dfs L n l s)∧(dfs L n l s).Nodup∧∀h∈dfs L n l s,h∈QF L
 | 0,l,s,h1,h2,h3=>by
  have:l=[]:=by
   cases l with
   | nil=>rfl
   | cons a l=>exact absurd (h1 a (by simp)).2 (Nat.not_lt_zero _)
  subst this
  exact⟨fun _ h=>h,by simp,fun _ h=>.inl h,fun _ h h'=>absurd h h',h3,h2⟩
 | n+1,l,s,h1,h2,h3=>by
  have key:∀(l s:List Hs),(∀h∈l,h∈QF L∧(QF L).idxOf h<n+1)→(∀h∈s,h∈QF L)→s.Nodup→
    let s':=l.foldl (fun s h=>if h∈s then s else dfs L n (QBv L h) (s++[h])) s
    (∀h∈s,h∈s')∧(∀h∈l,h∈s')∧(∀h∈s',h∈s∨Bel L l h)∧(∀h∈s',h∉s→∀d∈QBv L h,d∈s')∧s'.Nodup∧∀h∈s',h∈QF L:=by
   intro l
   induction l with
   | nil=>intro s _ h2 h3;exact⟨fun _ h=>h,by simp,fun _ h=>.inl h,fun _ h h'=>absurd h h',h3,h2⟩
   | cons a l ih=>
    intro s h1 h2 h3
    obtain⟨ha,hai⟩:=h1 a (by simp)
    simp only [List.foldl_cons]
    by_cases hs:a∈s
    ·rw [if_pos hs]
     obtain⟨k1,k2,k3,k4,k5,k6⟩:=ih s (fun h hh=>h1 h (by simp [hh])) h2 h3
     refine⟨k1,fun h hh=>?_,fun h hh=>(k3 h hh).imp_right (Bel.mono (fun _ h=>h) fun x hx=>.base (by simp [hx])),k4,k5,k6⟩
     rcases List.mem_cons.1 hh with e | e
     ·rw [e];exact k1 a hs
     ·exact k2 h e
    ·rw [if_neg hs]
     obtain⟨x,-, hx,rfl⟩:=QA2 ha
     have hdx:=QBZ hL.nodup hx
     obtain⟨g1,g2,g3,g4,g5,g6⟩:=QUf hL n (QBv L x.h) (s++[x.h]) (fun d hd=>by
       have:=hL.depsL ha d hd
       exact⟨this.1,by omega⟩) (fun h hh=>by
       rcases List.mem_append.1 hh with e | e
       ·exact h2 h e
       ·simp only [List.mem_singleton] at e;rw [e];exact ha) (List.nodup_append.2 ⟨h3,by simp,fun p hp q hq e=>by
       simp only [List.mem_singleton] at hq;exact hs (by rw [←hq,←e];exact hp)⟩)
     obtain⟨k1,k2,k3,k4,k5,k6⟩:=ih _ (fun h hh=>h1 h (by simp [hh])) g6 g5
     refine⟨fun h hh=>k1 h (g1 h (by simp [hh])),fun h hh=>?_,fun h hh=>?_,fun h hh hn d hd=>?_,k5,k6⟩
     ·rcases List.mem_cons.1 hh with e | e
      ·rw [e];exact k1 _ (g1 _ (by simp))
      ·exact k2 h e
     ·rcases k3 h hh with e | e
      ·rcases g3 h e with e | e
       ·rcases List.mem_append.1 e with e | e
        ·exact .inl e
        ·simp only [List.mem_singleton] at e;subst e
         exact .inr (.base (by simp))
       ·exact .inr (e.mono (fun _ h=>h) fun d hd=>.dep (.base (by simp)) hx (by rw [←hdx];exact hd))
      ·exact .inr (e.mono (fun _ h=>h) fun y hy=>.base (by simp [hy]))
     ·by_cases hg:h∈dfs L n (QBv L x.h) (s++[x.h])
      ·by_cases hsx:h∈s++[x.h]
       ·rcases List.mem_append.1 hsx with e | e
        ·exact absurd e hn
        ·simp only [List.mem_singleton] at e;subst e
         exact k1 d (g2 d hd)
       ·exact k1 d (g4 h hg hsx d hd)
      ·exact k4 h hh hg d hd
  exact key l s h1 h2 h3
def belF (L:List Itm) (l:List Hs):List Hs:=dfs L (L.length+1) l []
theorem QGN {L:List Itm} (hL:OrdL L) {l:List Hs} (hl:allL L l=true):(∀h,h∈belF L l↔Bel L l h)∧(belF L l).Nodup:=by
 rw [Q2] at hl
 obtain⟨k1,k2,k3,k4,k5,k6⟩:=QUf hL (L.length+1) l [] (fun h hh=>⟨hl h hh,by have:=List.idxOf_lt_length_of_mem (hl h hh);rw [Qh] at this;omega⟩) (by simp) (by simp)
 refine⟨fun h=>⟨fun hh=>(k3 h hh).resolve_left (by simp),fun hb=>?_⟩,k5⟩
 induction hb with
 | base h=>exact k2 _ h
 | @dep x d hb hx hd ih=>exact k4 x.h ih (by simp) d (by rw [QBZ hL.nodup hx];exact hd)
theorem QK5 {L:List Itm} (hL:OrdL L) {l:List Hs} (hl:allL L l=true):srt (belF L l)=Q0 L l:=
 (QKo (QAm L l) fun x=>by rw [Qp hL,(QGN hL hl).1]).symm
theorem QXv {L:List Itm} (hL:OrdL L) {l:List Hs} (hl:allL L l=true) {h:Hs}:h∈belF L l↔h∈Q0 L l:=by rw [(QGN hL hl).1,Qp hL]
theorem Bel.lt {L:List Itm} (hL:OrdL L) {k:Hs} (hk:k∈QF L) {h:Hs} (hb:Bel L (Go.AW.QBv L k) h):(QF L).idxOf h<(QF L).idxOf k:=by
 induction hb with
 | base h=>exact (hL.depsL hk _ h).2
 | dep _ hx hd ih=>exact Nat.lt_trans (hL.deps _ hx _ hd).2 ih
theorem Bel.one {L:List Itm} (hL:OrdL L) {k:Hs} (hk:k∈QF L) {h:Hs}:Bel L [k] h↔h=k∨Bel L (Go.AW.QBv L k) h:=by
 obtain⟨x,-, hx,rfl⟩:=QA2 hk
 have hdx:=QBZ hL.nodup hx
 constructor
 ·intro hb
  induction hb with
  | base h=>left;simpa using h
  | @dep y d hb hy hd ih=>
   right
   rcases ih with e | e
   ·have:y=x:=by
     have h1:=QJo hL.nodup hy
     have h2:=QJo hL.nodup hx
     rw [e,h2] at h1;simpa using h1.symm
    subst this
    exact .base (by rw [hdx];exact hd)
   ·exact .dep e hy hd
 ·rintro(e | e)
  ·exact .base (by simp [e])
  ·exact e.mono (fun _ h=>h) fun d hd=>.dep (.base (by simp)) hx (by rw [←hdx];exact hd)
theorem Bel.strict {L:List Itm} (hL:OrdL L) {k:Hs} (hk:k∈QF L) {h:Hs}:(k≠h∧Bel L [k] h)↔Bel L (Go.AW.QBv L k) h:=by
 rw [Bel.one hL hk]
 constructor
 ·rintro⟨h1,h2⟩
  exact h2.resolve_left fun e=>h1 e.symm
 ·intro hb
  refine⟨fun e=>?_,.inr hb⟩
  have:=hb.lt hL hk
  rw [e] at this;exact Nat.lt_irrefl _ this
def undB (L:List Itm) (l:List Hs) (h:Hs):Bool:=l.any fun k=>decide (k≠h)&&decide (h∈Q0 L [k])
def redF (L:List Itm) (l:List Hs):List Hs:=srt (l.filter fun h=>!undB L l h)
def redP (L:List Itm) (l:List Hs):List Hs:=minH l (l.flatMap fun h=>srt (belF L (QBv L h)))
theorem QMA {L:List Itm} (hL:OrdL L) {k:Hs} (hk:k∈QF L):allL L (QBv L k)=true:=Q2.2 fun d hd=>(hL.depsL hk d hd).1
theorem QJT {L:List Itm} {k:Hs} (hk:k∈QF L):allL L [k]=true:=Q2.2 fun d hd=>by simp only [List.mem_singleton] at hd;rw [hd];exact hk
theorem Qdm {L:List Itm} (hL:OrdL L) {l:List Hs} (hl:allL L l=true):redP L l=redF L l:=by
 rw [Q2] at hl
 rw [redP,minH,redF]
 congr 1
 refine List.filter_congr fun h hh=>?_
 congr 1
 rw [Bool.eq_iff_iff,decide_eq_true_iff,undB,List.any_eq_true,List.mem_flatMap]
 refine exists_congr fun k=>and_congr_right fun hk=>?_
 rw [QK5 hL (QMA hL (hl k hk)),Qp hL,Bool.and_eq_true,decide_eq_true_iff,decide_eq_true_iff,Qp hL,Bel.strict hL (hl k hk)]
theorem QFx {L:List Itm} {l:List Hs} {h:Hs}:h∈redF L l→h∈l:=fun hh=>(List.mem_filter.1 (QBr.1 hh)).1
def seqF (L:List Itm) (a:ByteArray) (ps:List Hs):Int:=ps.foldl (fun s h=>if (chL L h).author=a then max s ((chL L h).seq+1) else s) 1
def staF (L:List Itm) (ps:List Hs):Int:=ps.foldl (fun s h=>max s ((chL L h).start+QAa (chL L h).ops)) 1
theorem QLf {L:List Itm} {a:ByteArray} {p q:List Hs} (h:p.Perm q):seqF L a p=seqF L a q:=
 h.foldl_eq' (fun x _ y _ z=>by split<;>split<;>omega) 1
theorem QKP {L:List Itm} {p q:List Hs} (h:p.Perm q):staF L p=staF L q:=
 h.foldl_eq' (fun x _ y _ z=>by omega) 1
def QAG (L:List Itm) (a:ByteArray) (l:List Hs):Int×Int×Nat:=
 if QBP a=false then (0,0,30) else if allL L l=false then (0,0,44) else (seqF L a (Q0 L l),staF L (Q0 L l),0)
def fitF (L:List Itm) (c:ChV):Nat:=
 if redF L c.deps≠c.deps then 41 else if c.seq≠(QAG L c.author c.deps).1 then 42 else if c.start≠(QAG L c.author c.deps).2.1 then 43 else 0
structure GrV where
 L:List Itm
 W:List Itm
def delL:List Itm→Hs→List Itm
 | [],_=>[]
 | x::W,h=>if x.h=h then W else x::delL W h
def QDz (L W:List Itm):Option Hs:=(srt (QF W)).find? fun h=>allL L (QBv W h)
def QBn (L:List Itm) (x:Itm):List Itm:=if L.length<4096∧fitF L x.c=0 then L++[x] else L
def QEM (G:GrV):Option GrV:=match QDz G.L G.W with
 | none=>none
 | some h=>match getL G.W h with
  | none=>none
  | some x=>some ⟨QBn G.L x,delL G.W h⟩
def QEH:Nat→GrV→GrV
 | 0,G=>G
 | n+1,G=>match QEM G with
  | none=>G
  | some G'=>QEH n G'
def mkI (b:List UInt8):Itm:=⟨shaH b,(QAd b).1,b⟩
def addF (G:GrV) (b:List UInt8):GrV×Hs×Nat:=
 if (QAd b).2≠0 then (G,QBl,4)
 else if shaH b∈QF G.L∨shaH b∈QF G.W then (G,shaH b,23)
 else if allL G.L (QAd b).1.deps=false then
  if 64≤G.W.length then (G,QBl,47) else (⟨G.L,G.W++[mkI b]⟩,shaH b,0)
 else if 4096≤G.L.length then (G,QBl,21)
 else if fitF G.L (QAd b).1≠0 then (G,QBl,fitF G.L (QAd b).1)
 else (QEH (G.W.length+1) ⟨G.L++[mkI b],G.W⟩,shaH b,0)
def ItOK (x:Itm):Prop:=QAd x.b=(x.c,0)∧x.h=shaH x.b
structure GrOK (G:GrV):Prop where
 ord:OrdL G.L
 nd:(QF G.W).Nodup
 dis:∀h∈QF G.W,h∉QF G.L
 okL:∀x∈G.L,ItOK x
 okW:∀x∈G.W,ItOK x
 lenL:G.L.length≤4096
 lenW:G.W.length≤64
theorem GrOK.nil:GrOK ⟨[],[]⟩:=⟨.nil,by simp [QF],by simp [QF],by simp,by simp,Nat.zero_le _,Nat.zero_le _⟩
theorem QF1 {h:Hs} {x:Itm}:∀{W:List Itm},x∈delL W h→x∈W
 | [],k=>by simp [delL] at k
 | y::W,k=>by
  rw [delL] at k
  split at k
  ·simp [k]
  ·rcases List.mem_cons.1 k with e | e
   ·simp [e]
   ·simp [QF1 e]
theorem QEk {h:Hs}:∀{W:List Itm},(QF W).Nodup→QF (delL W h)=(QF W).filter (·≠h)
 | [],_=>by simp [delL,QF]
 | y::W,hn=>by
  simp only [QF,List.map_cons,List.nodup_cons] at hn
  rw [delL]
  split
  ·rename_i e
   have:∀k∈QF W,k≠h:=fun k hk e'=>hn.1 (by rw [e,←e'];exact hk)
   simp only [QF,List.map_cons,List.filter_cons,e,ne_eq,not_true_eq_false,decide_false]
   exact (List.filter_eq_self.2 (fun k hk=>decide_eq_true (this k hk))).symm
  ·rename_i e
   have ih:=QEk (h:=h) hn.2
   simp only [QF,List.map_cons,List.filter_cons,e,ne_eq,not_false_eq_true,decide_true,if_true] at ih ⊢
   rw [ih]
theorem QHy {h:Hs} {W:List Itm} (hn:(QF W).Nodup):(QF (delL W h)).Nodup:=by rw [QEk hn];exact hn.filter _
theorem QD7 {h:Hs}:∀{W:List Itm},h∈QF W→(delL W h).length+1=W.length
 | [],hm=>by simp [QF] at hm
 | y::W,hm=>by
  rw [delL]
  split
  ·rfl
  ·rename_i e
   simp only [QF,List.map_cons,List.mem_cons] at hm
   have:=QD7 (W:=W) (hm.resolve_left fun k=>e k.symm)
   simp only [List.length_cons];omega
theorem QW3 {G:GrV} (hG:GrOK G) {x:Itm} (hx:ItOK x) (hn:x.h∉QF G.L) (hd:∀d∈x.c.deps,d∈QF G.L):OrdL (QBn G.L x)∧(∀y∈QBn G.L x,ItOK y)∧(QBn G.L x).length≤4096∧(∀h∈QF (QBn G.L x),h∈QF G.L∨h=x.h):=by
 rw [QBn]
 split
 ·rename_i h
  refine⟨.snoc hG.ord hn hd,fun y hy=>?_,by simp;omega,fun k hk=>?_⟩
  ·rcases List.mem_append.1 hy with e | e
   ·exact hG.okL y e
   ·simp only [List.mem_singleton] at e;rw [e];exact hx
  ·rw [Qv] at hk
   simpa [QF] using hk
 ·exact⟨hG.ord,hG.okL,hG.lenL,fun _ h=>.inl h⟩
theorem QB3 {L W:List Itm} {h:Hs} (e:QDz L W=some h):h∈QF W∧allL L (QBv W h)=true:=
 ⟨QBr.1 (List.mem_of_find?_eq_some e),by simpa using List.find?_some e⟩
theorem QJc {G G':GrV} (hG:GrOK G) (e:QEM G=some G'):GrOK G'∧G'.W.length+1=G.W.length:=by
 rw [QEM] at e
 split at e
 ·cases e
 ·rename_i h hr
  obtain⟨h1,h2⟩:=QB3 hr
  obtain⟨x,hx,hm,rfl⟩:=QA2 h1
  rw [hx] at e
  simp only [Option.some.injEq] at e
  subst e
  rw [QBZ hG.nd hm,Q2] at h2
  obtain⟨k1,k2,k3,k4⟩:=QW3 hG (hG.okW x hm) (hG.dis _ h1) h2
  have hl:=QD7 h1
  refine⟨⟨k1,QHy hG.nd,fun k hk hk'=>?_,k2,fun y hy=>hG.okW y (QF1 hy),k3,by show (delL G.W x.h).length≤64;have:=hG.lenW;omega⟩,hl⟩
  simp only [QEk hG.nd,List.mem_filter,decide_eq_true_eq] at hk
  rcases k4 k hk' with e | e
  ·exact hG.dis k hk.1 e
  ·exact hk.2 e
theorem QYq {G:GrV}:∀{n:Nat},GrOK G→GrOK (QEH n G):=by
 intro n
 induction n generalizing G with
 | zero=>exact fun h=>h
 | succ n ih=>
  intro hG
  rw [QEH]
  split
  ·exact hG
  ·rename_i G' e
   exact ih (QJc hG e).1
theorem QN8 {b:List UInt8} (h:(QAd b).2=0):ItOK (mkI b):=⟨by rw [mkI,←h],rfl⟩
theorem QJO {G:GrV} (hG:GrOK G) (b:List UInt8):GrOK (addF G b).1:=by
 rw [addF]
 split
 ·exact hG
 ·rename_i h0
  have h0:(QAd b).2=0:=by omega
  split
  ·exact hG
  ·rename_i h1
   rw [not_or] at h1
   split
   ·split
    ·exact hG
    ·rename_i h2 h3
     refine⟨hG.ord,?_,?_,hG.okL,?_,hG.lenL,by simp;omega⟩
     ·show (QF (G.W++[mkI b])).Nodup
      rw [Qv,List.nodup_append]
      refine⟨hG.nd,by simp [QF],fun a ha c hc e=>?_⟩
      simp only [QF,List.map_cons,List.map_nil,List.mem_singleton] at hc
      exact h1.2 (by rw [show shaH b=(mkI b).h from rfl,←hc,←e];exact ha)
     ·intro k hk
      rw [Qv] at hk
      rcases List.mem_append.1 hk with e | e
      ·exact hG.dis k e
      ·simp only [QF,List.map_cons,List.map_nil,List.mem_singleton] at e
       rw [e];exact h1.1
     ·intro y hy
      rcases List.mem_append.1 hy with e | e
      ·exact hG.okW y e
      ·simp only [List.mem_singleton] at e;rw [e];exact QN8 h0
   ·rename_i h2
    split
    ·exact hG
    ·split
     ·exact hG
     ·rename_i h3 h4
      have h2:allL G.L (QAd b).1.deps=true:=by simpa using h2
      refine QYq ⟨.snoc hG.ord h1.1 (Q2.1 h2),hG.nd,fun k hk hk'=>?_,fun y hy=>?_,hG.okW,by simp;omega,hG.lenW⟩
      ·rw [Qv] at hk'
       rcases List.mem_append.1 hk' with e | e
       ·exact hG.dis k hk e
       ·simp only [QF,List.map_cons,List.map_nil,List.mem_singleton] at e
        exact h1.2 (by rw [show shaH b=(mkI b).h from rfl,←e];exact hk)
      ·rcases List.mem_append.1 hy with e | e
       ·exact hG.okL y e
       ·simp only [List.mem_singleton] at e;rw [e];exact QN8 h0
def namF (L:List Itm):List Hs:=L.foldl (fun m x=>x.c.deps.foldl (fun m d=>if d∈m then m else m++[d]) m) []
theorem Qe1 {h:Hs}:∀{l m:List Hs},h∈l.foldl (fun m d=>if d∈m then m else m++[d]) m↔h∈m∨h∈l
 | [],m=>by simp
 | a::l,m=>by
  rw [List.foldl_cons,Qe1 (l:=l),List.mem_cons]
  split
  ·rename_i ha
   constructor
   ·rintro(k | k)<;>simp [k]
   ·rintro(k | k | k)
    ·exact .inl k
    ·rw [k];exact .inl ha
    ·exact .inr k
  ·rw [List.mem_append,List.mem_singleton,or_assoc]
theorem QRq {L:List Itm} {x:Itm}:namF (L++[x])=x.c.deps.foldl (fun m d=>if d∈m then m else m++[d]) (namF L):=by simp [namF]
theorem Qe4 {h:Hs} {L:List Itm}:h∈namF L↔∃x∈L,h∈x.c.deps:=by
 have key:∀(L:List Itm) (m:List Hs),h∈L.foldl (fun m x=>x.c.deps.foldl (fun m d=>if d∈m then m else m++[d]) m) m↔h∈m∨∃x∈L,h∈x.c.deps:=by
  intro L
  induction L with
  | nil=>intro m;simp
  | cons x L ih=>
   intro m
   rw [List.foldl_cons,ih,Qe1]
   simp only [List.mem_cons,exists_eq_or_imp,or_assoc]
 rw [namF,key];simp
def heaF (L:List Itm):List Hs:=srt ((QF L).filter fun h=>!decide (h∈namF L))
def misF (G:GrV):List Hs:=srt ((G.W.flatMap fun x=>x.c.deps).filter fun d=>!decide (d∈QF G.L)&&!decide (d∈QF G.W))
def waiF (G:GrV):List Hs:=srt (QF G.W)
def bytF (L:List Itm) (h:Hs):List UInt8:=match getL L h with
 | some x=>x.b
 | none=>[]
def bytE (L:List Itm) (h:Hs):Nat:=if h∈QF L then 0 else 44
theorem QSC {b:List UInt8} {a:ByteArray} {q s:UInt64} {H:List Hs} {n:ByteArray} {O:List OpV×Nat} {c:ChV} (h:QHs b a q s H n O=(c,0)):chE2 c=0∧chB c=b:=by
 rw [QHs] at h
 split at h
 ·cases h
 ·split at h
  ·cases h
  ·rename_i h2
   simp only [Prod.mk.injEq,and_true] at h
   subst h
   rw [not_or,Classical.not_not,Classical.not_not] at h2
   exact h2
theorem QU4 {b:List UInt8} {c:ChV} (h:QAd b=(c,0)):chE2 c=0∧chB c=b:=by
 cases b with
 | nil=>cases h
 | cons x l=>
  rw [QAd] at h
  split at h
  ·rw [QLa] at h
   split at h
   ·cases h
   ·rw [QFO] at h
    split at h
    ·cases h
    ·rw [QE7] at h
     split at h
     ·cases h
     ·rw [QKp] at h
      split at h
      ·cases h
      ·rw [QLL] at h
       split at h
       ·cases h
       ·exact QSC h
  ·cases h
theorem QHk (b:List UInt8):(QAd b).2=0∨(QAd b).2=4:=by
 cases b with
 | nil=>exact .inr rfl
 | cons x l=>
  rw [QAd]
  split
  ·rw [QLa]
   split
   ·exact .inr rfl
   ·rw [QFO]
    split
    ·exact .inr rfl
    ·rw [QE7]
     split
     ·exact .inr rfl
     ·rw [QKp]
      split
      ·exact .inr rfl
      ·rw [QLL]
       split
       ·exact .inr rfl
       ·rw [QHs]
        split
        ·exact .inr rfl
        ·split
         ·exact .inr rfl
         ·exact .inl rfl
  ·exact .inr rfl
structure ItB (x:Itm):Prop where
 name:QBP x.c.author=true
 seq:1≤x.c.seq∧x.c.seq≤1099511627776
 start:1≤x.c.start∧x.c.start≤1099511627776
 deps:x.c.deps.length≤16
 rise:Rise x.c.deps
 note:x.c.note.size≤1024
 ops:x.c.ops.length≤256
 op:∀o∈x.c.ops,o.text.size≤1024
 len:x.b.length≤65536
theorem ItOK.bnd {x:Itm} (h:ItOK x):ItB x:=by
 obtain⟨h1,h2⟩:=QU4 h.1
 obtain⟨h3,h4⟩:=QDI h1
 rw [h2] at h4
 rw [chE] at h3
 split at h3
 ·cases h3
 ·split at h3
  ·cases h3
  ·split at h3
   ·cases h3
   ·split at h3
    ·cases h3
    ·split at h3
     ·cases h3
     ·rename_i g1 g2 g3 g4 g5
      obtain⟨k1,k2⟩:=QEF h3
      simp only [Bool.not_eq_false] at g1 g2 g3 g4
      simp only [numB,decide_eq_true_eq] at g2 g3
      simp only [depB,Bool.and_eq_true,decide_eq_true_eq] at g4
      exact⟨g1,g2,g3,g4.1,QGZ.1 g4.2,by omega,k1,fun o ho=>QFM (k2 o ho),h4⟩
def fbF:Nat→List UInt32→List UInt8→List UInt32
 | 0,st,_=>st
 | n+1,st,p=>mixF (fbF n st p) ((p.drop (64*n)).take 64)
theorem QE9 (st:List UInt32) (m x:List UInt8):∀n,64*n≤m.length→fbF n st (m++x)=fbF n st m
 | 0,_=>rfl
 | n+1,h=>by
  rw [fbF,fbF,QE9 st m x n zo,List.drop_append_of_le_length zo,List.take_append_of_le_length (by rw [List.length_drop];omega)]
theorem QHl {st:List UInt32} {m:List UInt8} (h:st.length=8):∀n,(fbF n st m).length=8
 | 0=>h
 | n+1=>QCt (QHl h n)
def padZ:Nat→List UInt8→List UInt8
 | 0,l=>l
 | f+1,l=>if l.length % 64=56 then l else padZ f (l++[0])
def padF (b:List UInt8):List UInt8:=padZ 64 (b++[128])++bitB b.length
def Took (q:List UInt32×List UInt8×Nat) (m:List UInt8):Prop:=∃n,m.length=64*n+q.2.2∧q.1=fbF n kB m∧q.2.1.take q.2.2=m.drop (64*n)∧q.2.1.length=64∧q.2.2<64
theorem QFH:∀(f:Nat) (st:List UInt32) (w:List UInt8) (h:Nat) (p m:List UInt8),p.length≤f→Took (st,w,h) m→Took (wrF f st w h p) (m++p)
 | 0,st,w,h,p,m,hp,hm=>by
  have:p=[]:=List.length_eq_zero_iff.1 zo
  subst this
  rw [List.append_nil]
  exact hm
 | f+1,st,w,h,p,m,hp,hm=>by
  rw [wrF]
  split
  ·have:p=[]:=List.length_eq_zero_iff.1 zo
   subst this
   rw [List.append_nil]
   exact hm
  ·obtain⟨n,h1,h2,h3,h4,h5⟩:=hm
   simp only at h1 h2 h3 h4 h5
   have hk:(p.take (min p.length (64 - h))).length=min p.length (64 - h):=by rw [List.length_take];omega
   have hsp:m++p=(m++p.take (min p.length (64 - h)))++p.drop (min p.length (64 - h)):=by rw [List.append_assoc,List.take_append_drop]
   have hst:(setU w h (p.take (min p.length (64 - h)))).take (h+min p.length (64 - h))=m.drop (64*n)++p.take (min p.length (64 - h)):=by
    have hl:(w.take h++p.take (min p.length (64 - h))).length=h+min p.length (64 - h):=by rw [List.length_append,hk,List.length_take];omega
    rw [setU,List.take_append_of_le_length zo,←hl,List.take_length,h3]
   have hsl:(setU w h (p.take (min p.length (64 - h)))).length=64:=by rw [QEN (by rw [hk,h4];omega),h4]
   rw [hsp]
   simp only
   split
   ·rename_i he
    refine QFH f _ _ _ _ _ (by rw [List.length_drop];omega) ⟨n+1,?_,?_,?_,hsl,zO⟩
    ·show (m++_).length=64*(n+1)+0
     rw [List.length_append,hk];omega
    ·show mixF st _=fbF (n+1) kB _
     rw [fbF,QE9 _ _ _ _ zo,←h2,List.drop_append_of_le_length zo,←hst,he,List.take_take]
     rw [List.take_of_length_le (l:=setU _ _ _) (by rw [hsl];exact Nat.le_of_eq zo)]
    ·show List.take 0 _=_
     rw [List.take_zero,List.drop_eq_nil_of_le (by rw [List.length_append,hk];omega)]
   ·rename_i he
    refine QFH f _ _ _ _ _ (by rw [List.length_drop];omega) ⟨n,?_,?_,?_,hsl,zO⟩
    ·show (m++_).length=64*n+(h+_)
     rw [List.length_append,hk];omega
    ·show st=_
     rw [QE9 _ _ _ _ zo,h2]
    ·show List.take (h+_) _=_
     rw [hst,List.drop_append_of_le_length zo]
theorem QOP:∀(f:Nat) (q:List UInt32×List UInt8×Nat) (m:List UInt8),Took q m→Took (padL f q) (padZ f m)
 | 0,_,_,h=>h
 | f+1,q,m,h=>by
  have hq:q.2.2=56↔m.length % 64=56:=by obtain⟨n,h1,-, -, -, h5⟩:=h;omega
  rw [padL,padZ]
  by_cases h56:q.2.2=56
  ·rw [if_pos h56,if_pos (hq.1 h56)];exact h
  ·rw [if_neg h56,if_neg (fun k=>h56 (hq.2 k))]
   exact QOP f _ _ (QFH 1 q.1 q.2.1 q.2.2 [0] m (Nat.le_refl _) h)
theorem QIj:∀(f:Nat) (l:List UInt8),(l.length+(120 - l.length % 64) % 64)≤l.length+f→(padZ f l).length % 64=56
 | 0,l,h=>by rw [padZ];omega
 | f+1,l,h=>by
  rw [padZ]
  split
  ·assumption
  ·exact QIj f _ (by rw [List.length_append];simp only [List.length_cons,List.length_nil];omega)
theorem QOo (b:List UInt8):(padF b).length % 64=0:=by
 have:=QIj 64 (b++[128]) zo
 have hb:(bitB b.length).length=8:=by simp [bitB]
 rw [padF,List.length_append,hb];omega
theorem QeQ {q:List UInt32×List UInt8×Nat} {m:List UInt8} (h:Took q m) (hl:m.length % 64=0):q.1=fbF (m.length / 64) kB m:=by
 obtain⟨n,k1,k2,-, -, k5⟩:=h
 rw [k2]
 congr 1
 omega
theorem QNi (b:List UInt8):shaF b=QBH (fbF ((padF b).length / 64) kB (padF b)):=by
 have h0:Took (kB,z64,0) []:=⟨0,rfl,rfl,rfl,rfl,zO⟩
 have h1:=QFH b.length kB z64 0 b [] (Nat.le_refl _) h0
 rw [List.nil_append] at h1
 show sumF (wrF b.length kB z64 0 b).1 (wrF b.length kB z64 0 b).2.1 (wrF b.length kB z64 0 b).2.2 b.length=_
 generalize wrF b.length kB z64 0 b=q1 at h1 ⊢
 have h2:=QFH 1 q1.1 q1.2.1 q1.2.2 [128] _ (Nat.le_refl _) h1
 show QBH (wrF 8 (padL 64 (wrF 1 q1.1 q1.2.1 q1.2.2 [128])).1 (padL 64 (wrF 1 q1.1 q1.2.1 q1.2.2 [128])).2.1 (padL 64 (wrF 1 q1.1 q1.2.1 q1.2.2 [128])).2.2 (bitB b.length)).1=_
 generalize wrF 1 q1.1 q1.2.1 q1.2.2 [128]=q2 at h2 ⊢
 have h3:=QOP 64 _ _ h2
 generalize padL 64 q2=q3 at h3 ⊢
 have h4:=QFH 8 q3.1 q3.2.1 q3.2.2 (bitB b.length) _ (by simp [bitB]) h3
 rw [QeQ h4 (QOo b)]
 rfl
def horW (blk:List UInt8) (i:Nat):Nat→UInt32
 | 0=>0
 | k+1=>256*horW blk i k+bw blk (4*i+k)
theorem or4 {a b c d:Nat} (hb:b<256) (hc:c<256) (hd:d<256):(a*16777216|||b*65536|||c*256|||d)=16777216*a+65536*b+256*c+d:=by
 have o1:=Nat.two_pow_add_eq_or_of_lt (i:=24) (b:=b*65536) (Nat.lt_of_lt_of_le (Nat.mul_lt_mul_of_pos_right hb zD) zD) a
 have o2:=Nat.two_pow_add_eq_or_of_lt (i:=16) (b:=c*256) (Nat.lt_of_lt_of_le (Nat.mul_lt_mul_of_pos_right hc zD) zD) (256*a+b)
 have o3:=Nat.two_pow_add_eq_or_of_lt (i:=8) (b:=d) (Nat.lt_of_lt_of_le hd zD) (65536*a+256*b+c)
 rw [show (2:Nat)^24=16777216 from by decide] at o1
 rw [show (2:Nat)^16=65536 from by decide] at o2
 rw [show (2:Nat)^8=256 from by decide] at o3
 have e1:a*16777216=16777216*a:=Nat.mul_comm _ _
 rw [e1,←o1,show 16777216*a+b*65536=65536*(256*a+b) by omega,←o2,show 65536*(256*a+b)+c*256=256*(65536*a+256*b+c) by omega,←o3]
 omega
theorem QW9 (blk:List UInt8) (j:Nat):(bw blk j).toNat<256:=by
 rw [bw]
 have:=(blk.getD j 0).toNat_lt
 simp only [UInt32.toNat_ofNat']
 omega
theorem hor4 (blk:List UInt8) (i:Nat):horW blk i 4=w0 blk i:=by
 have ha:=QW9 blk (4*i)
 have hb:=QW9 blk (4*i+1)
 have hc:=QW9 blk (4*i+2)
 have hd:=QW9 blk (4*i+3)
 simp only [horW,w0,Nat.add_zero]
 generalize bw blk (4*i)=a at*
 generalize bw blk (4*i+1)=b at*
 generalize bw blk (4*i+2)=c at*
 generalize bw blk (4*i+3)=d at*
 apply UInt32.toNat_inj.1
 have o:=or4 (a:=a.toNat) hb hc hd
 have s1:(shlW a 24).toNat=a.toNat*16777216:=by
  rw [shlW,UInt32.toNat_ofNat',show (2:Nat)^24=16777216 from by decide];omega
 have s2:(shlW b 16).toNat=b.toNat*65536:=by
  rw [shlW,UInt32.toNat_ofNat',show (2:Nat)^16=65536 from by decide];omega
 have s3:(shlW c 8).toNat=c.toNat*256:=by
  rw [shlW,UInt32.toNat_ofNat',show (2:Nat)^8=256 from by decide];omega
 simp only [UInt32.toNat_or,s1,s2,s3,o,UInt32.toNat_add,UInt32.toNat_mul,UInt32.toNat_ofNat,UInt32.reduceToNat]
 omega
theorem QSS {ws:List UInt32} (h:ws.length<64):(padW ws).set ws.length 0=padW ws:=by
 rw [QEW h]
 unfold padW
 obtain⟨k,hk⟩:∃k,64 - ws.length=k+1:=⟨63 - ws.length,by omega⟩
 have hk2:64 - (ws++[0]).length=k:=by rw [List.length_append];simp only [List.length_cons,List.length_nil];omega
 rw [hk2,hk,List.replicate_succ,List.append_assoc]
 rfl
def ms (l:List UInt32) (i:Nat) (v:UInt32):List UInt32:=l.set i v
theorem QS3:∀(f:Nat) (l:List UInt8),(padZ f l).length≤l.length+f
 | 0,l=>Nat.le_refl _
 | f+1,l=>by
  rw [padZ]
  split
  ·omega
  ·have:=QS3 f (l++[0])
   rw [List.length_append] at this
   simp only [List.length_cons,List.length_nil] at this
   omega
theorem Qdh (b:List UInt8):(padF b).length≤b.length+128:=by
 have h:=QS3 64 (b++[128])
 have hb:(bitB b.length).length=8:=by simp [bitB]
 rw [List.length_append] at h
 simp only [List.length_cons,List.length_nil] at h
 rw [padF,List.length_append,hb];omega
end Go.AW
