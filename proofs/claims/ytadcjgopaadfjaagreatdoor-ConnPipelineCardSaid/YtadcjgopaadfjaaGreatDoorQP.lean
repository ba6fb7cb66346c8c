import Derived.Test.YtadcjgopaadfjaaGreatDoorQA
import Derived.Test.YtadcjgopaadfjaaGreatDoorQO
import Derived.Test.YtadcjgopaadfjaaGreatDoorQT
import Derived.Test.YtadcjgopaadfjaaGreatDoorQL
import Derived.Test.YtadcjgopaadfjaaGreatDoorQH
import Derived.Test.YtadcjgopaadfjaaGreatDoorQC
namespace Go.Proofs.YtadcjgopaadfjaaGreatDoor
open Go.RowKit Go.Proofs
def aJ(c:UInt8):Int:=if 48≤c.toNat∧c.toNat≤57 then (c.toNat:Int)-48 else if 97≤(lO c).toNat∧(lO c).toNat≤102 then ((lO c).toNat:Int)-87 else -1
def dK(b:Int):List UInt8→Int→Option Int
 |[],n=>some n
 |c::r,n=>if aJ c < 0∨b≤aJ c then none else dK b r (n * b+aJ c)
def fL(b:Int)(m:Nat)(l:List UInt8):Int × Bool:=if l.length < 1∨m < l.length then (0,false) else match dK b l 0 with
 |some n=>(n,true)
 |none=>(0,false)
theorem iU(c:UInt8): -1≤aJ c∧aJ c≤15:=by
 unfold aJ;have:=c.toNat_lt;split
 ·omega
 ·split<;>omega
theorem mm{b:Int}(hb:b=10∨b=16):∀ {l:List UInt8} {a n:Int} {k:Nat},dK b l a=some n→0≤a→a < 16 ^ k→0≤n∧n < 16 ^ (k+l.length)
 |[],a,n,k,h,h0,h1=>by
  unfold dK at h;injection h with h;rw [←h];exact⟨h0,h1⟩
 |c::r,a,n,k,h,h0,h1=>by
  unfold dK at h;split at h
  ·cases h
  ·rename_i g
   have hd:=iU c;have hp:(16:Int) ^ (k+1)=16 ^ k * 16:=Int.pow_succ 16 k;have h2:=mm hb (k:=k+1) h (by rcases hb with rfl|rfl<;>omega) (by rw [hp];rcases hb with rfl|rfl<;>omega);rw [List.length_cons,show k+(r.length+1)=k+1+r.length by omega];exact h2
theorem yn{s:ByteArray}{b a:Int}{k:Nat}(h:k < s.size):dK b ((af s).drop k) a=if aJ s[k] < 0∨b≤aJ s[k] then none else dK b ((af s).drop (k+1)) (a * b+aJ s[k]):=by
 have hk:k < (af s).length:=by rw [ag];exact h
 rw [List.drop_eq_getElem_cons hk];rfl
def fW(l:List UInt8):Int × Bool:=fL 10 15 l
def fK(l:List UInt8):Int × Bool:=fL 16 12 l
def ij(c:UInt8):Bool:=jQ c||(c==45||c==46)
def EW:List UInt8→Bool
 |[]=>true
 |c::r=>if c≠58∨5 < r.length then false else (fW r).2&&decide ((fW r).1≤65535)
def eh(s:ah):Bool:=if (s.takeWhile ij).length < 1∨100 < (s.takeWhile ij).length then false else EW (s.drop (s.takeWhile ij).length)
theorem nD(c:UInt8)(r:List UInt8):EW (c::r)=if c≠58∨5 < r.length then false else (fW r).2&&decide ((fW r).1≤65535):=rfl
theorem gx(q:ByteArray)(f:Nat):af (q.extract f q.size)=(af q).drop f:=by rw [bz,List.take_of_length_le (by rw [ag];exact Nat.le_refl _)]
def pN(a b:UInt8):UInt8:=UInt8.ofNat (16 * (aJ a).toNat+(aJ b).toNat)
def dA:List UInt8→Option (List UInt8)
 |[]=>some []
 |c::r=>if c≠37 then (dA r).map (c::·) else match r with
  |a::b::r'=>if aJ a < 0∨aJ b < 0 then none else if pN a b=0 then none else (dA r').map (pN a b::·)
  |_=>none
theorem nd{c:UInt8}{r:List UInt8}(h:c≠37):dA (c::r)=(dA r).map (c::·):=by
 rw [dA.eq_def];exact if_pos h
theorem tW{a b:UInt8}{r:List UInt8}:dA (37::a::b::r)=if aJ a < 0∨aJ b < 0 then none else if pN a b=0 then none else (dA r).map (pN a b::·):=by
 rw [dA.eq_def];exact if_neg (by decide)
theorem jK{r:List UInt8}(h:r.length < 2):dA (37::r)=none:=by
 rw [dA.eq_def];refine(if_neg (by decide)).trans ?_
 match r,h with
 |[],_=>rfl
 |[_],_=>rfl
def Fx:Option (List UInt8)→Value
 |some l=>.tuple #[.string ⟨l.toArray⟩,.int .i64 0]
 |none=>.tuple #[.string ⟨#[]⟩,.int .i64 8]
theorem wT(acc:List UInt8)(c:UInt8)(o:Option (List UInt8)):(o.map (c::·)).map (acc++·)=o.map ((acc++[c])++·):=by
 cases o with
 |none=>rfl
 |some l=>simp
def GP:List UInt8:=[45,46,95,126,33,36,38,39,40,41,42,43,44,59,61,58,64,47,37,63]
def Gw(c:UInt8):Bool:=jQ c||oM c GP
theorem kj:∀ (n:Nat) (l r:List UInt8),l.length≤n→dA l=some r→r.length≤l.length
 |n,[],r,_,h=>by
  have:r=[]:=by
   have h2:dA []=some []:=rfl;rw [h2] at h;injection h with h;exact h.symm
  rw [this];exact Nat.le_refl _
 |0,c::l,r,hn,_=>absurd hn (by simp)
 |n+1,c::l,r,hn,h=>by
  rw [List.length_cons] at hn;by_cases hc:c=37
  ·subst hc
   match l,hn,h with
   |[],_,h=>rw [jK (by simp)] at h;cases h
   |[_],_,h=>rw [jK (by simp)] at h;cases h
   |a::b::l,hn,h=>
    rw [tW] at h;split at h
    ·cases h
    ·split at h
     ·cases h
     ·cases hd:dA l with
      |none=>rw [hd] at h;cases h
      |some t=>
       rw [hd] at h;injection h with h;simp only [List.length_cons] at hn;have:=kj n l t (by omega) hd;rw [←h];simp only [List.length_cons];omega
  ·rw [nd hc] at h
   cases hd:dA l with
   |none=>rw [hd] at h;cases h
   |some t=>
    rw [hd] at h;injection h with h;have:=kj n l t (by omega) hd;rw [←h];simp only [List.length_cons];omega
def va(c:UInt8):Bool:= !(c==63)
def Fd(o:Option ah)(q:ah):Option (ah × ah):=o.map fun c=>(c,q)
def AS(o:Option ah)(q:ah):Option (ah × ah):=match o with
 |some p=>Fd (bt p) q
 |none=>none
def fa(s:ah):Option (ah × ah):=if s.all Gw=true then AS (dA (s.takeWhile va)) (s.drop ((s.takeWhile va).length+1)) else none
def mj(s:ah)(w:World)(e:Ending)(w':World):Prop:=
 Sm No w w'∧match fa s with
  |some (p,q)=>e=.returned (.tuple #[.string ⟨p.toArray⟩,.string ⟨q.toArray⟩,.bool true])
  |none=>∃ p q,e=.returned (.tuple #[.string p,.string q,.bool false])
theorem mj.no{s:ah}{w w':World}(h:fa s=none)(hs:Sm No w w')(p q:ByteArray):mj s w (.returned (.tuple #[.string p,.string q,.bool false])) w':=by
 refine⟨hs,?_⟩;rw [h];exact⟨p,q,rfl⟩
theorem mj.yes{s p q:ah}{w w':World}(h:fa s=some (p,q))(hs:Sm No w w'):mj s w (.returned (.tuple #[.string ⟨p.toArray⟩,.string ⟨q.toArray⟩,.bool true])) w':=by
 refine⟨hs,?_⟩;rw [h]
theorem iO(q:ByteArray):(⟨(af q).toArray⟩:ByteArray)=q:=by
 apply ByteArray.ext;simp [af]
structure Tg where
 form:Int
 host:ah
 path:ah
 query:ah
def G3(t:Tg):Value:=.agg #[.int .i64 t.form,.string ⟨t.host.toArray⟩,.string ⟨t.path.toArray⟩,.string ⟨t.query.toArray⟩]
def lL(c:UInt8):Bool:= !(c==47)&& !(c==63)
def vA(r:ah):ah:=match r with
 |47::t=>47::t
 |t=>47::t
def Dk(h:ah)(o:Option (ah × ah)):Option Tg:=o.map fun x=>⟨2,bV h,x.1,x.2⟩
def lS(s:ah):Option Tg:=if eh (s.takeWhile lL)=true then Dk (s.takeWhile lL) (fa (vA (s.drop (s.takeWhile lL).length))) else none
def bq(o:Option Tg)(c:Int)(w:World)(e:Ending)(w':World):Prop:=
 Sm No w w'∧match o with
  |some t=>e=.returned (.tuple #[G3 t,.int .i64 0])
  |none=>e=.returned (.tuple #[G3 ⟨0,[],[],[]⟩,.int .i64 c])
def rf:ah:=[67,79,78,78,69,67,84]
def tv:ah:=[79,80,84,73,79,78,83]
def pA:ah:=[104,116,116,112,58,47,47]
def dJ(m s:ah):Option Tg × Int:=
 if 200 < s.length then (none,9) else
 if m=rf then (if eh s=true∧oM 58 s=true then (some ⟨3,bV s,[],[]⟩,0) else (none,8)) else
 if m=tv∧s=[42] then (some ⟨4,[],[],[]⟩,0) else
 if s.head?=some 47 then (match fa s with
  |some (p,q)=>(some ⟨1,[],p,q⟩,0)
  |none=>(none,8)) else
 if dp (s.take 7) pA=true∧7≤s.length then (lS (s.drop 7),8) else (none,8)
theorem Bk.all{w:World}{g:Nat}{t:TypeId}{cs:Array Value}(h:Bk w g t cs)(i:Nat):w.cell? ⟨g,i,none⟩=cs[i]?:=cell_of_row w g i cs t (0,0) h
theorem bq.code{t:Tg}{c d:Int}{w w':World}{e:Ending}(h:bq (some t) c w e w'):bq (some t) d w e w':=h
end Go.Proofs.YtadcjgopaadfjaaGreatDoor
