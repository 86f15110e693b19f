/- A part of the proof: E2 E3 E4. -/
import Derived.Test.YtpcbnjbpdooejaaGreatDoorPae
import Derived.Test.YtpcbnjbpdooejaaGreatDoorPao
set_option linter.unusedSimpArgs false
set_option linter.unusedVariables false
set_option maxRecDepth 100000
set_option maxHeartbeats 8000000
namespace Go.AW
open Proofs
set_option maxHeartbeats 4000000
def gv:List UInt8→Nat
 | []=>0
 | x::l=>x.toNat % 128+128*gv l
theorem QRT {p:UInt8→Prop} (h:∀n:_root_.Fin 256,p (UInt8.ofNat n.val)) (x:UInt8):p x:=by
 have:=h ⟨x.toNat,x.toNat_lt⟩
 simpa using this
theorem QCv (x:UInt8):(x|||128).toNat=x.toNat % 128+128:=QRT (p:=fun x=>(x|||128).toNat=x.toNat % 128+128) (by decide+kernel) x
theorem QCj (x:UInt8):(x&&&~~~128).toNat=x.toNat % 128:=QRT (p:=fun x=>(x&&&~~~128).toNat=x.toNat % 128) (by decide+kernel) x
theorem QeI (n:Nat):gv (lebU n)=n:=by
 induction n using Nat.strongRecOn with
 | ind n ih=>
  rw [lebU]
  split
  ·rename_i h
   simp only [gv,UInt8.toNat_ofNat']
   omega
  ·rename_i h
   rw [gv,ih (n / 128) zo,QCv,UInt8.toNat_ofNat']
   omega
def wf:List UInt8→Prop
 | []=>False
 | [x]=>x.toNat<128
 | x::y::l=>128≤x.toNat∧wf (y::l)
theorem QbQ {x:UInt8} {l:List UInt8} (h1:128≤x.toNat) (h:wf l):wf (x::l):=by
 cases l with
 | nil=>exact h.elim
 | cons y l=>exact⟨h1,h⟩
def lst (l:List UInt8):Nat:=(l.getLast?.getD 0).toNat
theorem QIy {x y:UInt8} {l:List UInt8}:lst (x::y::l)=lst (y::l):=by simp [lst]
theorem QSb:∀(l:List UInt8),wf l→gv l=0→lst l=0
 | [],h,_=>h.elim
 | [x],h,h0=>by simp only [gv] at h0;simp only [wf] at h;simp [lst];omega
 | x::y::l,h,h0=>by
  rw [QIy]
  exact QSb (y::l) h.2 (by rw [gv] at h0;omega)
theorem QTc:∀(l:List UInt8),wf l→(lebU (gv l)=l↔(l.length=1∨lst l≠0))
 | [],h=>h.elim
 | [x],h=>by
  simp only [wf] at h
  have:gv [x]=x.toNat:=by simp only [gv];omega
  rw [this,lebU,if_pos h]
  simp
 | x::y::l,h=>by
  have ih:=QTc (y::l) h.2
  have hx:=h.1
  have hx2:=x.toNat_lt
  rw [QIy]
  have e:gv (x::y::l)=x.toNat % 128+128*gv (y::l):=rfl
  rw [e]
  by_cases h0:gv (y::l)=0
  ·have hl:=QSb _ h.2 h0
   rw [h0,lebU,if_pos zo]
   constructor
   ·intro h';simp at h'
   ·rintro(h' | h')
    ·simp at h'
    ·exact absurd hl h'
  ·rw [lebU,if_neg zo]
   have h1:UInt8.ofNat (x.toNat % 128+128*gv (y::l))|||128=x:=by
    apply UInt8.toNat_inj.mp
    rw [QCv,UInt8.toNat_ofNat']
    omega
   rw [h1,show (x.toNat % 128+128*gv (y::l)) / 128=gv (y::l) by omega]
   constructor
   ·intro h'
    have:=ih.mp (List.cons.inj h').2
    rcases this with h2 | h2
    ·right
     cases l with
     | nil=>
      intro h3
      simp only [lst,List.getLast?_singleton,Option.getD_some] at h3
      simp only [gv] at h0
      omega
     | cons z l=>simp at h2
    ·exact .inr h2
   ·rintro(h' | h')
    ·simp at h'
    ·rw [ih.mpr (.inr h')]
theorem QMG:∀(l:List UInt8) (i:Nat),(grp i l).2=0→i<(grp i l).1∧wf (l.take ((grp i l).1 - i))∧(grp i l).1≤10
 | [],i,h=>by rw [grp] at h;split at h<;>simp at h
 | x::l,i,h=>by
  rw [grp] at h ⊢
  split
  ·rename_i h1;rw [if_pos h1] at h;simp at h
  ·rename_i h1
   rw [if_neg h1] at h
   split
   ·rename_i h2
    refine⟨Nat.lt_succ_self i,?_,by simp only;omega⟩
    rw [show (i+1,0).1 - i=1 by simp]
    exact h2
   ·rename_i h2
    rw [if_neg h2] at h
    obtain⟨k1,k2,k3⟩:=QMG l (i+1) h
    refine⟨by omega,?_,k3⟩
    rw [show (grp (i+1) l).1 - i=((grp (i+1) l).1 - (i+1))+1 by omega,List.take_succ_cons]
    exact QbQ zo k2
def QRZ (i n:Nat) (l:List UInt8):UInt64×Nat×Nat:=
 if (grp i l).2≠0 then (0,0,(grp i l).2) else
 if ((0<i∨(grp i l).1 - i≠1)∧lst (l.take ((grp i l).1 - i))=0)∨18446744073709551616≤n+128^i*gv (l.take ((grp i l).1 - i)) then (0,0,4) else
 (UInt64.ofNat (n+128^i*gv (l.take ((grp i l).1 - i))),(grp i l).1,0)
theorem orU {n:UInt64} {x i:Nat} (hi:i≤9) (hn:n.toNat<128^i):n|||shlU x (7*i)=UInt64.ofNat (n.toNat+128^i*x):=by
 have hp:(128:Nat)^i=2^(7*i):=by rw [Nat.pow_mul]
 have e:shlU x (7*i)=UInt64.ofNat (2^(7*i)*x):=by
  rw [shlU,show ((x:Nat):Int)*2^(7*i)=((2^(7*i)*x:Nat):Int) by push_cast;rw [Int.mul_comm],QFy]
 rw [e]
 apply UInt64.toNat_inj.mp
 rw [UInt64.toNat_or,UInt64.toNat_ofNat',UInt64.toNat_ofNat']
 rw [hp] at hn ⊢
 have e3:2^(7*i)*x % 2^64=2^(7*i)*(x % 2^(64 - 7*i)):=by
  rw [show (2:Nat)^64=2^(7*i)*2^(64 - 7*i) by rw [←Nat.pow_add];congr 1;omega,Nat.mul_mod_mul_left]
 have e4:2^(7*i)*(x % 2^(64 - 7*i))+n.toNat<2^64:=by
  have h1:x % 2^(64 - 7*i)+1≤2^(64 - 7*i):=Nat.mod_lt _ (Nat.two_pow_pos _)
  have h2:=Nat.mul_le_mul_left (2^(7*i)) h1
  rw [←Nat.pow_add,show 7*i+(64 - 7*i)=64 by omega,Nat.mul_add] at h2
  omega
 rw [e3,Nat.or_comm,←Nat.two_pow_add_eq_or_of_lt hn,Nat.add_comm n.toNat,←Nat.mod_eq_of_lt e4,←e3]
 rw [Nat.mod_add_mod]
theorem QPF (x:UInt8) (h:x.toNat<128):(x&&&~~~128).toNat=x.toNat:=by rw [QCj];omega
theorem Qaa:∀(l:List UInt8) (i:Nat) (n:UInt64),i≤9→n.toNat<128^i→getU i n l=QRZ i n.toNat l
 | [],i,n,hi,hn=>by
  rw [getU,QRZ,show grp i []=(0,3) by rw [grp,if_neg zo],if_pos (by simp)]
 | x::l,i,n,hi,hn=>by
  have hx:=x.toNat_lt
  have hm:(128:Nat)^i≤128^9:=Nat.pow_le_pow_right zD hi
  have h9:(128:Nat)^9=9223372036854775808:=rfl
  rw [getU,QRZ,grp,if_neg (show ¬10≤i by omega)]
  by_cases h2:x.toNat<128
  ·rw [if_pos h2,if_pos h2,QPF x h2,orU hi hn]
   rw [if_neg (show ¬(i+1,0).2≠0 by simp)]
   have e1:(x::l).take ((i+1,0).1 - i)=[x]:=by rw [show (i+1,0).1 - i=1 by simp];rfl
   rw [e1]
   have e2:gv [x]=x.toNat:=by simp only [gv];omega
   have e3:lst [x]=x.toNat:=by simp [lst]
   rw [e2,e3]
   have h1:((i=9∧1<x.toNat)∨(0<i∧x.toNat=0))↔(((0<i∨(i+1,0).1 - i≠1)∧x.toNat=0)∨18446744073709551616≤n.toNat+128^i*x.toNat):=by
    rw [show (i+1,0).1 - i=1 by simp]
    by_cases h9':i=9
    ·subst h9'
     rw [h9] at hn ⊢
     omega
    ·have h8:(128:Nat)^i≤128^8:=Nat.pow_le_pow_right zD zo
     have h8':(128:Nat)^8=72057594037927936:=rfl
     have h5:128^i*x.toNat≤72057594037927936*127:=Nat.mul_le_mul zo zo
     omega
   by_cases hc:(i=9∧1<x.toNat)∨(0<i∧x.toNat=0)
   ·rw [if_pos hc,if_pos (h1.mp hc)]
   ·rw [if_neg hc,if_neg (fun h=>hc (h1.mpr h))]
  ·rw [if_neg h2,if_neg h2]
   by_cases h9':i=9
   ·subst h9'
    rw [if_pos (.inl ⟨rfl,by omega⟩)]
    have:grp (9+1) l=(0,4):=by cases l<;>simp [grp]
    rw [this];rfl
   ·rw [if_neg zo,QCj,orU hi hn]
    have e0:128^i*(x.toNat % 128)+128^i≤128^(i+1):=by
     have:=Nat.mul_le_mul_left (128^i) (show x.toNat % 128+1≤128 by omega)
     rw [Nat.mul_add,Nat.mul_one] at this
     rw [Nat.pow_succ];exact this
    have e5:(128:Nat)^(i+1)≤128^9:=Nat.pow_le_pow_right zD zo
    have en:(UInt64.ofNat (n.toNat+128^i*(x.toNat % 128))).toNat=n.toNat+128^i*(x.toNat % 128):=by
     rw [UInt64.toNat_ofNat',Nat.mod_eq_of_lt zo]
    rw [Qaa l (i+1) _ zo (by rw [en];omega),en,QRZ]
    by_cases hg:(grp (i+1) l).2≠0
    ·rw [if_pos hg,if_pos hg]
    ·rw [if_neg hg,if_neg hg]
     obtain⟨k1,k2,k3⟩:=QMG l (i+1) zo
     have et:(x::l).take ((grp (i+1) l).1 - i)=x::l.take ((grp (i+1) l).1 - (i+1)):=by
      rw [show (grp (i+1) l).1 - i=((grp (i+1) l).1 - (i+1))+1 by omega,List.take_succ_cons]
     rw [et]
     generalize l.take ((grp (i+1) l).1 - (i+1))=t at k2 ⊢
     have el:lst (x::t)=lst t:=by cases t with | nil=>exact k2.elim | cons y t=>exact QIy
     have ev:n.toNat+128^i*gv (x::t)=n.toNat+128^i*(x.toNat % 128)+128^(i+1)*gv t:=by
      rw [gv,Nat.mul_add,Nat.pow_succ,Nat.mul_assoc];omega
     rw [el,ev]
     have h1:(0<i+1∨(grp (i+1) l).1 - (i+1)≠1)↔(0<i∨(grp (i+1) l).1 - i≠1):=by omega
     simp only [h1]
theorem Qda (l:List UInt8):rNum l=UInt64.ofNat (gv l):=by
 induction l with
 | nil=>rfl
 | cons x l ih=>
  have e:rNum (x::l)=shlU (rNum l).toNat 7|||UInt64.ofNat (x.toNat % 128):=rfl
  have hx:(UInt64.ofNat (x.toNat % 128)).toNat=x.toNat % 128:=by rw [UInt64.toNat_ofNat',Nat.mod_eq_of_lt zo]
  rw [e,ih,UInt64.or_comm,show (7:Nat)=7*1 from rfl,orU zD (by rw [hx];omega),hx,gv,UInt64.toNat_ofNat']
  apply UInt64.toNat_inj.mp
  rw [UInt64.toNat_ofNat',UInt64.toNat_ofNat']
  omega
theorem QEh (b:List UInt8):getU 0 0 b=rgU b:=by
 rw [Qaa b 0 0 zD zD,QRZ,rgU]
 by_cases hg:(grp 0 b).2≠0
 ·rw [if_pos hg,if_pos hg]
 ·rw [if_neg hg,if_neg hg]
  obtain⟨k1,k2,k3⟩:=QMG b 0 zo
  obtain⟨g1,-⟩:=QIE b 0
  rw [Nat.sub_zero] at k2 ⊢
  have hl:(b.take (grp 0 b).1).length=(grp 0 b).1:=by rw [List.length_take];omega
  generalize ht:b.take (grp 0 b).1=t at k2 hl ⊢
  have hL:=QTc t k2
  rw [Qda,UInt64.toNat_ofNat']
  have hz:(0:UInt64).toNat+128^0*gv t=gv t:=by show 0+1*gv t=gv t;omega
  rw [hz]
  have hiff:(((0<0∨(grp 0 b).1≠1)∧lst t=0)∨18446744073709551616≤gv t)↔lebU (gv t % 2^64)≠t:=by
   rw [hl] at hL
   constructor
   ·intro h h'
    have h3:gv t=gv t % 2^64:=by conv=>lhs;rw [←h',QeI]
    rw [←h3] at h'
    have:=hL.mp h'
    omega
   ·intro h
    by_cases h4:18446744073709551616≤gv t
    ·exact .inr h4
    ·left
     rw [Nat.mod_eq_of_lt zo] at h
     have h7:¬((grp 0 b).1=1∨lst t≠0):=fun h'=>h (hL.mpr h')
     omega
  by_cases hc:lebU (gv t % 2^64)≠t
  ·rw [if_pos (hiff.mpr hc),if_pos hc]
  ·rw [if_neg (fun h=>hc (hiff.mp h)),if_neg hc]
open Proofs
set_option maxHeartbeats 4000000
def sv:List UInt8→Int
 | []=>0
 | [x]=>(x.toNat:Int) % 64 - (if 64≤(x.toNat:Int) % 128 then 64 else 0)
 | x::y::l=>(x.toNat:Int) % 128+128*sv (y::l)
def mns:List UInt8→Prop
 | []=>True
 | [_]=>True
 | [p,x]=>¬(x.toNat=0∧(p&&&64).toNat=0∨x.toNat=127∧(p&&&64).toNat≠0)
 | _::y::z::l=>mns (y::z::l)
theorem QeR (x:UInt8):(x&&&64).toNat=0↔x.toNat % 128<64:=QRT (p:=fun x=>(x&&&64).toNat=0↔x.toNat % 128<64) (by decide+kernel) x
theorem QMF {x:UInt8} (h:x.toNat<128):-64≤sv [x]∧sv [x]≤63∧(sv [x] - x.toNat) % 128=0:=by
 simp only [sv]
 split<;>omega
theorem QOV (a:Int):((U8 a).toNat:Int)=a % 256:=by
 rw [QH4,UInt8.toNat_ofNat']
 omega
theorem QMe:∀(l:List UInt8),wf l→(lebS (sv l)=l↔mns l)
 | [],h=>h.elim
 | [x],h=>by
  simp only [wf] at h
  obtain⟨h1,h2,h3⟩:=QMF h
  rw [lebS,dif_pos ⟨h1,h2⟩]
  refine⟨fun _=>trivial,fun _=>?_⟩
  congr 1
  apply UInt8.toNat_inj.mp
  rw [QCj]
  have:=QOV (sv [x])
  omega
 | x::y::l,h=>by
  have ih:=QMe (y::l) h.2
  have hx:=h.1
  have hx2:=x.toNat_lt
  have e:sv (x::y::l)=(x.toNat:Int) % 128+128*sv (y::l):=rfl
  by_cases h0:-64≤sv (x::y::l)∧sv (x::y::l)≤63
  ·rw [lebS,dif_pos h0]
   refine⟨fun h'=>by simp at h',fun h'=>?_⟩
   exfalso
   cases l with
   | nil=>
    have hy:y.toNat<128:=h.2
    obtain⟨h1,h2,h3⟩:=QMF hy
    apply h'
    have:=QeR x
    by_cases h5:x.toNat % 128<64
    ·left;exact⟨by omega,this.mpr h5⟩
    ·right;exact⟨by omega,fun h=>h5 (this.mp h)⟩
   | cons z l=>
    have h2:lebS (sv (y::z::l))=y::z::l:=ih.mpr h'
    rw [lebS,dif_pos zo] at h2
    simp at h2
  ·rw [lebS,dif_neg h0]
   have h1:U8 (sv (x::y::l))|||128=x:=by
    apply UInt8.toNat_inj.mp
    rw [QCv]
    have:=QOV (sv (x::y::l))
    omega
   rw [h1,show sv (x::y::l) / 128=sv (y::l) by omega]
   cases l with
   | nil=>
    have hy:y.toNat<128:=h.2
    obtain⟨h4,h2,h3⟩:=QMF hy
    refine⟨fun _=>?_,fun _=>by rw [ih.mpr trivial]⟩
    rw [mns]
    have:=QeR x
    rintro(⟨h5,h6⟩ | ⟨h5,h6⟩)
    ·have:=this.mp h6;omega
    ·have:=mt this.mpr h6;omega
   | cons z l=>
    refine⟨fun h'=>ih.mp (List.cons.inj h').2,fun h'=>by rw [ih.mpr h']⟩
theorem QSf:∀(k:Nat) (n:Int),n.natAbs≤k→sv (lebS n)=n
 | k,n,hk=>by
  rw [lebS]
  split
  ·rename_i h
   have h1:=QCj (U8 n)
   have h2:=QOV n
   simp only [sv]
   rw [h1]
   split<;>omega
  ·rename_i h
   cases k with
   | zero=>omega
   | succ k=>
    have ih:=QSf k (n / 128) zo
    have h1:=QCv (U8 n)
    have h2:=QOV n
    have:lebS (n / 128)≠[]:=by rw [lebS];split<;>simp
    obtain⟨y,l,hl⟩:∃y l,lebS (n / 128)=y::l:=by
     cases h:lebS (n / 128) with
     | nil=>exact absurd h this
     | cons y l=>exact⟨y,l,rfl⟩
    rw [hl] at ih ⊢
    rw [sv,ih]
    omega
theorem QVq (a:Int):(IntKind.i64.wrap a - a) % 18446744073709551616=0:=by
 have e:IntKind.i64.wrap a=if (decide (a % 18446744073709551616≥9223372036854775808))=true then a % 18446744073709551616 - 18446744073709551616 else a % 18446744073709551616:=rfl
 rw [e]
 split<;>omega
theorem QNa {a b:Int} (h:(a - b) % 18446744073709551616=0):IntKind.i64.wrap a=IntKind.i64.wrap b:=by
 have h1:=QVq a
 have h2:=QVq b
 have h3:=QAi a
 have h4:=QAi b
 omega
theorem bvI (a:Int):(BitVec.ofInt 64 a).toNat=(a % 18446744073709551616).toNat:=by
 rw [BitVec.toNat_ofInt];rfl
theorem orS {n x:Int} {k:Nat} (hk:k≤64) (h0:0≤n) (h1:n<2^k):orI n (shlI x k)=IntKind.i64.wrap (n+x*2^k):=by
 rw [orI]
 apply QNa
 rw [BitVec.toNat_or,bvI,bvI]
 have hw:shlI x k % 18446744073709551616=(x*2^k) % 18446744073709551616:=by
  have:=QVq (x*2^k)
  rw [shlI]
  omega
 have hp:(2:Int)^k≤18446744073709551616:=by
  have:=Nat.pow_le_pow_right (n:=2) zD hk
  have h2:((2^k:Nat):Int)≤((2^64:Nat):Int):=Int.ofNat_le.mpr this
  rw [Int.natCast_pow] at h2
  exact h2
 have e3:x*2^k % 18446744073709551616=2^k*(x % 2^(64 - k)):=by
  rw [Int.mul_comm,show (18446744073709551616:Int)=2^k*2^(64 - k) by rw [←Int.pow_add,show k+(64 - k)=64 by omega];rfl,Int.mul_emod_mul_of_pos _ _ (Int.pow_pos zD)]
 have hm:0≤x % 2^(64 - k):=Int.emod_nonneg _ (Int.ne_of_gt (Int.pow_pos zD))
 rw [hw,e3]
 have e4:(n % 18446744073709551616).toNat=n.toNat:=by rw [Int.emod_eq_of_lt h0 zo]
 have e5:(2^k*(x % 2^(64 - k))).toNat=2^k*(x % 2^(64 - k)).toNat:=by
  rw [Int.toNat_mul (Int.le_of_lt (Int.pow_pos zD)) hm];rfl
 have hn:n.toNat<2^k:=by
  have:((2^k:Nat):Int)=2^k:=Int.natCast_pow 2 k
  omega
 rw [e4,e5,Nat.or_comm,←Nat.two_pow_add_eq_or_of_lt hn]
 push_cast
 rw [Int.toNat_of_nonneg h0,Int.toNat_of_nonneg hm,←e3]
 omega
def mnp (i:Nat) (p:UInt8) (t:List UInt8):Prop:=if 0<i then mns (p::t) else mns t
def rngI (a:Int):Prop:=-9223372036854775808≤a∧a<9223372036854775808
theorem QDe {a:Int} (h:rngI a):IntKind.i64.wrap a=a:=QAN h.1 (by have:=h.2;omega)
theorem QeM {x:UInt8} {t:List UInt8} (h:wf t):sv (x::t)=(x.toNat:Int) % 128+128*sv t:=by
 cases t with
 | nil=>exact h.elim
 | cons y t=>rfl
theorem QX8 {p x:UInt8} {t:List UInt8} (h:wf t):mns (p::x::t)=mns (x::t):=by
 cases t with
 | nil=>exact h.elim
 | cons y t=>rfl
theorem QaB:∀(l:List UInt8) (i:Nat) (n:Int) (p:UInt8),i≤9→0≤n→n<2^(7*i)→
  ((grp i l).2≠0→getI i n p l=(0,0,(grp i l).2))∧
  ((grp i l).2=0→(mnp i p (l.take ((grp i l).1 - i))∧rngI (n+sv (l.take ((grp i l).1 - i))*2^(7*i))→getI i n p l=(n+sv (l.take ((grp i l).1 - i))*2^(7*i),(grp i l).1,0))∧
   (¬(mnp i p (l.take ((grp i l).1 - i))∧rngI (n+sv (l.take ((grp i l).1 - i))*2^(7*i)))→getI i n p l=(0,0,4)))
 | [],i,n,p,hi,h0,hn=>by
  have e:grp i []=(0,3):=by rw [grp,if_neg zo]
  rw [e]
  exact⟨fun _=>rfl,fun h=>absurd h zD⟩
 | x::l,i,n,p,hi,h0,hn=>by
  have hx:=x.toNat_lt
  have hpow:∀k:Nat,(0:Int)<2^k:=fun k=>Int.pow_pos zD
  have hmon:∀a b:Nat,a≤b→(2:Int)^a≤2^b:=fun a b h=>by
   have:=Int.ofNat_le.mpr (Nat.pow_le_pow_right (n:=2) zD h)
   rw [Int.natCast_pow,Int.natCast_pow] at this
   exact this
  by_cases h2:x.toNat<128
  ·have eg:grp i (x::l)=(i+1,0):=by rw [grp,if_neg zo,if_pos h2]
   have et:(x::l).take ((i+1,0).1 - i)=[x]:=by rw [show (i+1,0).1 - i=1 by simp];rfl
   rw [eg,et]
   refine⟨fun h=>absurd rfl h,fun _=>?_⟩
   rw [getI,if_neg (show ¬128≤x.toNat by omega)]
   obtain⟨s1,s2,s3⟩:=QMF h2
   have hm:mnp i p [x]↔¬(0<i∧(x.toNat=0∧(p&&&64).toNat=0∨x.toNat=127∧(p&&&64).toNat≠0)):=by
    rw [mnp]
    by_cases h:0<i
    ·rw [if_pos h,mns];exact not_congr ⟨fun h'=>⟨h,h'⟩,fun h'=>h'.2⟩
    ·rw [if_neg h];exact⟨fun _ h'=>h h'.1,fun _=>trivial⟩
   have hlow:(((x&&&~~~128).toNat:Nat):Int)=x.toNat:=by rw [QCj];omega
   rw [hlow]
   by_cases h9:i=9
   ·subst h9
    have e63:(2:Int)^(7*9)=9223372036854775808:=rfl
    rw [orS zD h0 hn]
    rw [e63] at hn ⊢
    have hs:sv [x]=if 64≤x.toNat then (x.toNat:Int) - 128 else x.toNat:=by
     simp only [sv];split<;>split<;>omega
    have hr:rngI (n+sv [x]*9223372036854775808)↔(x.toNat=0∨x.toNat=127):=by
     rw [rngI,hs];split<;>omega
    rw [if_neg (show ¬((x&&&64).toNat≠0∧9<9) from fun h=>by omega)]
    refine⟨fun ⟨k1,k2⟩=>?_,fun k=>?_⟩
    ·rw [if_neg (by have:=hr.mp k2;omega),if_neg (hm.mp k1)]
     have:IntKind.i64.wrap (n+(x.toNat:Int)*9223372036854775808)=n+sv [x]*9223372036854775808:=by
      rw [←QDe k2]
      apply QNa
      rw [hs];split<;>omega
     rw [this]
    ·by_cases h3:x.toNat=0∨x.toNat=127
     ·rw [if_neg zo]
      rw [if_pos (Decidable.not_not.mp (fun h'=>k ⟨hm.mpr h',hr.mpr h3⟩))]
     ·rw [if_pos zo]
   ·have h8:7*i+7≤63:=by omega
    have e7:(2:Int)^(7*i+7)=2^(7*i)*128:=by rw [Int.pow_add];rfl
    have e63:(2:Int)^(7*i+7)≤9223372036854775808:=hmon _ 63 h8
    have hP:=hpow (7*i)
    generalize hPe:(2:Int)^(7*i)=P at*
    have b1:(x.toNat:Int)*P≤127*P:=Int.mul_le_mul_of_nonneg_right zo zo
    have b2:(0:Int)≤(x.toNat:Int)*P:=Int.mul_nonneg zo zo
    have b3:sv [x]*P≤63*P:=Int.mul_le_mul_of_nonneg_right s2 zo
    have b4:-64*P≤sv [x]*P:=Int.mul_le_mul_of_nonneg_right s1 zo
    have hr:rngI (n+sv [x]*P):=by rw [rngI];omega
    rw [if_neg zo]
    refine⟨fun ⟨k1,k2⟩=>?_,fun k=>?_⟩
    ·rw [if_neg (hm.mp k1)]
     have ho:orI n (shlI (x.toNat:Int) (7*i))=n+x.toNat*P:=by
      rw [orS zo h0 (by rw [hPe];exact hn),hPe,QDe]
      rw [rngI];omega
     have h64:=QeR x
     congr 1
     by_cases h6:(x&&&64).toNat≠0
     ·have h7:¬x.toNat % 128<64:=fun h=>h6 (h64.mpr h)
      have hs:sv [x]=(x.toNat:Int) - 128:=by simp only [sv];rw [if_pos zo];omega
      have e8:(2:Int)^(7*(i+1))=P*128:=by rw [←e7];rfl
      rw [if_pos ⟨h6,by omega⟩,ho,orS zo zo (by rw [e8];omega),e8,QDe,hs,Int.sub_mul]
      ·omega
      ·rw [rngI];omega
     ·have h7:x.toNat % 128<64:=h64.mp zo
      have hs:sv [x]=(x.toNat:Int):=by simp only [sv];rw [if_neg zo];omega
      rw [if_neg (fun h=>h6 h.1),ho,hs]
    ·rw [if_pos (Decidable.not_not.mp (fun h'=>k ⟨hm.mpr h',hr⟩))]
  ·have eg:grp i (x::l)=grp (i+1) l:=by rw [grp,if_neg zo,if_neg h2]
   rw [eg]
   by_cases h9:i=9
   ·subst h9
    have e4:grp (9+1) l=(0,4):=by cases l<;>simp [grp]
    rw [e4,getI,if_pos ⟨rfl,by omega,by omega⟩]
    exact⟨fun _=>rfl,fun h=>absurd h zD⟩
   ·have hlow:(((x&&&~~~128).toNat:Nat):Int)=(x.toNat:Int) % 128:=by rw [QCj];omega
    rw [getI,if_neg zo,if_pos zo,hlow]
    have e7:(2:Int)^(7*(i+1))=2^(7*i)*128:=by rw [show 7*(i+1)=7*i+7 by omega,Int.pow_add];rfl
    have e63:(2:Int)^(7*(i+1))≤9223372036854775808:=hmon _ 63 zo
    have hP:=hpow (7*i)
    have b1:(x.toNat:Int) % 128*2^(7*i)≤127*2^(7*i):=Int.mul_le_mul_of_nonneg_right zo zo
    have b2:(0:Int)≤(x.toNat:Int) % 128*2^(7*i):=Int.mul_nonneg zo zo
    rw [orS zo h0 hn,QDe (by rw [rngI];omega)]
    obtain⟨k1,k2⟩:=QaB l (i+1) (n+(x.toNat:Int) % 128*2^(7*i)) x zo zo zo
    refine⟨k1,fun hg=>?_⟩
    obtain⟨g1,g2,g3⟩:=QMG l (i+1) hg
    have et:(x::l).take ((grp (i+1) l).1 - i)=x::l.take ((grp (i+1) l).1 - (i+1)):=by
     rw [show (grp (i+1) l).1 - i=((grp (i+1) l).1 - (i+1))+1 by omega,List.take_succ_cons]
    have k3:=k2 hg
    rw [et]
    generalize l.take ((grp (i+1) l).1 - (i+1))=t at g2 k3 ⊢
    have ev:n+sv (x::t)*2^(7*i)=n+(x.toNat:Int) % 128*2^(7*i)+sv t*2^(7*(i+1)):=by
     rw [QeM g2,e7,Int.add_mul,Int.mul_comm 128,Int.mul_assoc,Int.mul_comm 128,Int.add_assoc]
    have em:mnp (i+1) x t=mnp i p (x::t):=by
     rw [mnp,mnp,if_pos zo]
     split
     ·exact (QX8 g2).symm
     ·rfl
    rw [ev,←em]
    exact k3
theorem QOa:∀l,wf l→QC8 l=IntKind.i64.wrap (sv l)
 | [],h=>h.elim
 | [x],h=>by
  obtain⟨h1,h2,h3⟩:=QMF h
  rw [QDe (by rw [rngI];omega)]
  rfl
 | x::y::l,h=>by
  have ih:=QOa (y::l) h.2
  rw [QC8,ih]
  ·have hc:∀a b,orI a b=orI b a:=fun a b=>by rw [orI,orI,BitVec.or_comm]
   rw [hc,orS zD zo zo]
   apply QNa
   have:=QVq (sv (y::l))
   show ((x.toNat:Int) % 128+IntKind.i64.wrap (sv (y::l))*128 - ((x.toNat:Int) % 128+128*sv (y::l))) % 18446744073709551616=0
   omega
  ·simp
theorem QWs (b:List UInt8):getI 0 0 0 b=rgI b:=by
 obtain⟨k1,k2⟩:=QaB b 0 0 0 zD zD zD
 rw [rgI]
 by_cases hg:(grp 0 b).2≠0
 ·rw [if_pos hg,k1 hg]
 ·rw [if_neg hg]
  have hg0:(grp 0 b).2=0:=by omega
  obtain⟨g1,g2,g3⟩:=QMG b 0 hg0
  obtain⟨k3,k4⟩:=k2 hg0
  rw [Nat.sub_zero] at g2 k3 k4
  generalize b.take (grp 0 b).1=t at g2 k3 k4 ⊢
  have hz:(0:Int)+sv t*2^(7*0)=sv t:=by show 0+sv t*1=sv t;omega
  rw [hz] at k3 k4
  have hm:mnp 0 0 t=mns t:=rfl
  rw [hm] at k3 k4
  rw [QOa t g2]
  by_cases h:mns t∧rngI (sv t)
  ·rw [k3 h,QDe h.2,if_neg (fun h'=>h' ((QMe t g2).mpr h.1))]
  ·rw [k4 h,if_pos]
   intro h'
   apply h
   have h5:sv t=IntKind.i64.wrap (sv t):=by conv=>lhs;rw [←h',QSf _ _ (Nat.le_refl _)]
   rw [←h5] at h'
   refine⟨(QMe t g2).mp h',?_⟩
   rw [h5]
   exact QAi _
open Proofs
set_option maxHeartbeats 4000000
theorem QOC:getU 0 0=rgU:=funext QEh
theorem QXt:getI 0 0 0=rgI:=funext QWs
theorem gR_rR (b:List UInt8):gR b=rR b:=by rw [gR,rR,QOC,QXt]
theorem QFw (b:List UInt8) (most:Nat):getT b most=rgT b most:=by rw [getT,rgT,QEh]
theorem QOj:∀(n:Nat) (b:List UInt8) (acc:List ByteArray),rnmF n b acc=if (nmF n b acc).2.2=true then none else some ((nmF n b acc).1,(nmF n b acc).2.1)
 | 0,b,acc=>by simp [rnmF,nmF]
 | n+1,b,acc=>by
  rw [rnmF,nmF,QFw]
  split
  ·rw [QOj n]
  ·simp
theorem QI4 (N:List ByteArray):∀(K W Q B:List Int) (b:List UInt8) (acc:List OpV),opsF N K W Q B b true acc=none∨∃l b',opsF N K W Q B b true acc=some (l,b',true)
 | [],W,Q,B,b,acc=>by right;exact⟨acc,b,by simp [opsF]⟩
 | k::K,[],Q,B,b,acc=>by right;exact⟨acc,b,by simp [opsF]⟩
 | k::K,w::W,[],B,b,acc=>by right;exact⟨acc,b,by simp [opsF]⟩
 | k::K,w::W,p::Q,[],b,acc=>by right;exact⟨acc,b,by simp [opsF]⟩
 | k::K,w::W,p::Q,y::B,b,acc=>by
  rw [opsF]
  split
  ·split
   ·rw [if_neg (by simp)]
    exact QI4 N K W Q B b _
   ·exact QI4 N K W Q B b _
  ·exact .inl rfl
theorem QFT (N:List ByteArray):∀(K W Q B:List Int) (b:List UInt8) (acc:List OpV),
  (∃l b',opsF N K W Q B b false acc=some (l,b',false)∧QD9 N K W Q B b acc=some l)∨
  (opsF N K W Q B b false acc=none∨∃l b',opsF N K W Q B b false acc=some (l,b',true))∧QD9 N K W Q B b acc=none
 | [],W,Q,B,b,acc=>by left;exact⟨acc,b,by simp [opsF],by simp [QD9]⟩
 | k::K,[],Q,B,b,acc=>by left;exact⟨acc,b,by simp [opsF],by simp [QD9]⟩
 | k::K,w::W,[],B,b,acc=>by left;exact⟨acc,b,by simp [opsF],by simp [QD9]⟩
 | k::K,w::W,p::Q,[],b,acc=>by left;exact⟨acc,b,by simp [opsF],by simp [QD9]⟩
 | k::K,w::W,p::Q,y::B,b,acc=>by
  rw [opsF,QD9,QFw]
  by_cases h:0≤w∧w<N.length
  ·rw [if_pos h,if_pos h]
   by_cases hk:k=1∨k=4
   ·rw [if_pos hk,if_pos hk]
    by_cases ht:(rgT b 1024).2.2=0
    ·rw [if_pos ⟨rfl,ht⟩,if_pos ht]
     exact QFT N K W Q B _ _
    ·rw [if_neg (fun h=>ht h.2),if_neg ht]
     exact .inr ⟨QI4 N K W Q B b _,rfl⟩
   ·rw [if_neg hk,if_neg hk]
    exact QFT N K W Q B _ _
  ·rw [if_neg h,if_neg h]
   exact .inr ⟨.inl rfl,rfl⟩
theorem QCW {R:List Int×Nat×Nat} {b:List UInt8}:colB R b true=(b,true):=by rw [colB,if_neg (by simp)]
theorem QF3 {R:List Int×Nat×Nat} {b:List UInt8} {bad:Bool} (h:R.2.2≠0):colB R b bad=(b,true):=by rw [colB,if_neg (fun h'=>h h'.2)]
theorem QI7 {R:List Int×Nat×Nat} {b:List UInt8} (h:R.2.2=0):colB R b false=(b.drop R.2.1,false):=by rw [colB,if_pos ⟨rfl,h⟩]
theorem QGC {R:List Int×Nat×Nat} (h:R.2.2=0):colL R false=R.1:=by rw [colL,if_pos ⟨rfl,h⟩]
theorem QNK {b:List UInt8}:QA1 b true=([],b,true):=by rw [QA1,if_pos (.inl rfl)]
theorem QQw (b:List UInt8):QE1 b=QA5 b:=by
 rw [QE1,QA5]
 simp only [gR_rR]
 by_cases h1:(rR b).2.2≠0
 ·simp only [QF3 h1,QNK,QCW,true_or,if_true]
  rw [if_pos (.inl h1)]
 have h1:(rR b).2.2=0:=by omega
 simp only [QI7 h1,QGC h1]
 generalize hb1:b.drop (rR b).2.1=b1
 by_cases h2:(rgU b1).2.2≠0∨256<(rgU b1).1.toNat
 ·have hn:QA1 b1 false=([],b1,true):=by rw [QA1,QEh,if_pos (.inr h2)]
  rw [hn,if_pos (show (rR b).2.2≠0∨(rgU b1).2.2≠0∨256<(rgU b1).1.toNat from .inr h2)]
  simp only [QCW,true_or,if_true]
 have hn:QA1 b1 false=nmF (rgU b1).1.toNat (b1.drop (rgU b1).2.1) []:=by
  rw [QA1,QEh,if_neg (by simp only [Bool.false_eq_true,false_or];exact h2)]
 rw [hn,if_neg (show ¬((rR b).2.2≠0∨(rgU b1).2.2≠0∨256<(rgU b1).1.toNat) by omega),QOj]
 generalize nmF (rgU b1).1.toNat (b1.drop (rgU b1).2.1) []=q
 obtain⟨N,b3,bad⟩:=q
 cases bad with
 | true=>
  simp only [QCW,true_or,if_true]
 | false=>
  simp only [Bool.false_eq_true,if_false]
  rw [QIx]
  by_cases h3:(rR b3).2.2≠0
  ·simp only [QF3 h3,QCW,true_or,if_true,h3,ne_eq,not_false_eq_true]
  have h3:(rR b3).2.2=0:=by omega
  simp only [QI7 h3,QGC h3]
  generalize b3.drop (rR b3).2.1=b4
  by_cases h4:(Qt (rR b4)).2.2≠0
  ·simp only [QF3 h4,QCW,true_or,or_true,if_true,h4,ne_eq,not_false_eq_true]
  have h4:(Qt (rR b4)).2.2=0:=by omega
  simp only [QI7 h4,QGC h4]
  generalize b4.drop (Qt (rR b4)).2.1=b5
  by_cases h5:(rR b5).2.2≠0
  ·simp only [QF3 h5,QCW,true_or,or_true,if_true,h5,ne_eq,not_false_eq_true]
  have h5:(rR b5).2.2=0:=by omega
  simp only [QI7 h5,QGC h5,Bool.false_eq_true,false_or,h3,h4,h5,ne_eq,not_true_eq_false]
  split
  ·rfl
  ·rcases QFT N (rR b).1 (rR b3).1 (Qt (rR b4)).1 (rR b5).1 (b5.drop (rR b5).2.1) [] with ⟨l,b',e1,e2⟩ | ⟨e1 | ⟨l,b',e1⟩,e2⟩
   ·rw [e1,e2];simp
   ·rw [e1,e2]
   ·rw [e1,e2];simp
end Go.AW
